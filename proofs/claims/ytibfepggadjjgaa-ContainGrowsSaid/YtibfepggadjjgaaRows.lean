/-
  NARROWER THAN 'FOR EVERY INPUT', by the rows' own cells (each row's printed sentence says how): ContainMatchesReference: loops · ContainTypes: loops · ContainAll: loops · ContainGrows: loops.
  DERIVED. THE GIVEN ROWS OF THIS SEAT. 4 by the template 'for every input the law returns true; each argument reads behind the call as it read before'; 0 by the template 'total and deterministic' (their statements: YtibfepggadjjgaaTotals.lean).
  GIVEN WITH THE SEED: the statements are not yours to turn. If you find one false, say at which input.
  Laid BY PROGRAM, IN A SANDBOX (cutbox-rows.mjs): the forced cells as the released guide's own fill.sh prints them over the translation e36253eb12fd5a1a… (all of the seat's roots in one cut). By AI agents, Wed Nov 11 2026. No macro, syntax, notation, axiom, sorry.
-/
import Derived.Test.YtibfepggadjjgaaChecked
import GoSem.Claim
import GoSem.ClaimJoined
import GoSem.ClaimMapViews
import Derived.JoinedTies
import Derived.KernelRfl
namespace Go.Proofs.Ytibfepggadjjgaa
/- THE CELL 'sum', in the pinned program and in every row, IS THE sha256 OF THE DUMP (.gsa) THAT YtibfepggadjjgaaProg.lean LOADS. Nothing in Lean hashes anything: it is a label: what it is worth is what the hold of that sum in a sandbox is worth. -/
noncomputable def Try.pinned : Pinned := { name := "ytibfepggadjjgaa", sum := "e36253eb12fd5a1a18d0eae807aa9ee912af1181edd3d1010582905ea46305c4", checked := Try.checked }
namespace Rows
def none {H : Type} : Left H := { results := [], args := [] }

/-- 'castingslaw14.ContainMatchesReference': WHATEVER THE INPUT: true; the input reads as it did. -/
def containMatchesReferenceSpec : ChangeSpec := { name := "containMatchesReference", fn := fun _ => fun
  | [d1, d2] => { results := [.lit (.bool true)], args := [d1, d2] }
  | _ => none }
def containMatchesReferenceRow : OpenClaim := { program := "ytibfepggadjjgaa", sum := "e36253eb12fd5a1a18d0eae807aa9ee912af1181edd3d1010582905ea46305c4", func := "castings/castingslaw14.ContainMatchesReference", spec := "containMatchesReference", unfollowed := true, recurses := true, loops := true, plainKeys := false, apart := false }
def ContainMatchesReferenceSaid : Prop := containMatchesReferenceRow.holds Try.pinned (OpenSpec.ofChange containMatchesReferenceSpec)

/-- ITS FALSE NEIGHBOUR: 'it returns false'. Refute it at one input. -/
def containMatchesReferenceWrong : ChangeSpec := { name := "containMatchesReference", fn := fun _ => fun
  | [d1, d2] => { results := [.lit (.bool false)], args := [d1, d2] }
  | _ => none }
def ContainMatchesReferenceWrongFalsely : Prop := containMatchesReferenceRow.holds Try.pinned (OpenSpec.ofChange containMatchesReferenceWrong)

/-- 'castingslaw14.ContainTypes': WHATEVER THE INPUT: true; the input reads as it did. -/
def containTypesSpec : ChangeSpec := { name := "containTypes", fn := fun _ => fun
  | [d1, d2] => { results := [.lit (.bool true)], args := [d1, d2] }
  | _ => none }
def containTypesRow : OpenClaim := { program := "ytibfepggadjjgaa", sum := "e36253eb12fd5a1a18d0eae807aa9ee912af1181edd3d1010582905ea46305c4", func := "castings/castingslaw14.ContainTypes", spec := "containTypes", unfollowed := true, recurses := true, loops := true, plainKeys := false, apart := false }
def ContainTypesSaid : Prop := containTypesRow.holds Try.pinned (OpenSpec.ofChange containTypesSpec)

/-- ITS FALSE NEIGHBOUR: 'it returns false'. Refute it at one input. -/
def containTypesWrong : ChangeSpec := { name := "containTypes", fn := fun _ => fun
  | [d1, d2] => { results := [.lit (.bool false)], args := [d1, d2] }
  | _ => none }
def ContainTypesWrongFalsely : Prop := containTypesRow.holds Try.pinned (OpenSpec.ofChange containTypesWrong)

/-- 'castingslaw14.ContainAll': WHATEVER THE INPUT: true; the input reads as it did. -/
def containAllSpec : ChangeSpec := { name := "containAll", fn := fun _ => fun
  | [d] => { results := [.lit (.bool true)], args := [d] }
  | _ => none }
def containAllRow : OpenClaim := { program := "ytibfepggadjjgaa", sum := "e36253eb12fd5a1a18d0eae807aa9ee912af1181edd3d1010582905ea46305c4", func := "castings/castingslaw14.ContainAll", spec := "containAll", unfollowed := true, recurses := true, loops := true, plainKeys := false, apart := false }
def ContainAllSaid : Prop := containAllRow.holds Try.pinned (OpenSpec.ofChange containAllSpec)

/-- ITS FALSE NEIGHBOUR: 'it returns false'. Refute it at one input. -/
def containAllWrong : ChangeSpec := { name := "containAll", fn := fun _ => fun
  | [d] => { results := [.lit (.bool false)], args := [d] }
  | _ => none }
def ContainAllWrongFalsely : Prop := containAllRow.holds Try.pinned (OpenSpec.ofChange containAllWrong)

/-- 'castingslaw14.ContainGrows': WHATEVER THE INPUT: true; the input reads as it did. -/
def containGrowsSpec : ChangeSpec := { name := "containGrows", fn := fun _ => fun
  | [d] => { results := [.lit (.bool true)], args := [d] }
  | _ => none }
def containGrowsRow : OpenClaim := { program := "ytibfepggadjjgaa", sum := "e36253eb12fd5a1a18d0eae807aa9ee912af1181edd3d1010582905ea46305c4", func := "castings/castingslaw14.ContainGrows", spec := "containGrows", unfollowed := true, recurses := true, loops := true, plainKeys := false, apart := false }
def ContainGrowsSaid : Prop := containGrowsRow.holds Try.pinned (OpenSpec.ofChange containGrowsSpec)

/-- ITS FALSE NEIGHBOUR: 'it returns false'. Refute it at one input. -/
def containGrowsWrong : ChangeSpec := { name := "containGrows", fn := fun _ => fun
  | [d] => { results := [.lit (.bool false)], args := [d] }
  | _ => none }
def ContainGrowsWrongFalsely : Prop := containGrowsRow.holds Try.pinned (OpenSpec.ofChange containGrowsWrong)

/- THE SECOND FORM. 'bulk': how many values and letters a reading holds, each counted each time it is reached (what is shared counts as often as it is met; a slice's spare places count too). A statement '..UptoSaid' is the law's where the arguments, and the package variables that the reading takes, are together of bulk at most 1048576: NARROWER than '..Said'. Prove '..Said' where nothing that the law and all that it calls make is longer than what came in: it says more and counts as full. Else prove '..UptoSaid'. A law counts once. -/
mutual
def uptoBulk {H : Type} : DataW H → Nat
  | .lit (.string bytes) => bytes.length + 1
  | .lit _ => 1
  | .nil => 1
  | .ptr d => uptoBulk d + 1
  | .slice elems spare => uptoBulkAll elems + uptoBulkAll spare + 1
  | .agg parts => uptoBulkAll parts + 1
  | .iface _ d => uptoBulk d + 1
  | .map entries => uptoBulkEntries entries + 1
  | .held _ => 1
def uptoBulkAll {H : Type} : List (DataW H) → Nat
  | [] => 0
  | d :: r => uptoBulk d + uptoBulkAll r
def uptoBulkEntries {H : Type} : List (Lit × DataW H) → Nat
  | [] => 0
  | x :: r => uptoBulkEntry x + uptoBulkEntries r
def uptoBulkEntry {H : Type} : Lit × DataW H → Nat
  | (.string bytes, d) => bytes.length + uptoBulk d + 1
  | (_, d) => uptoBulk d + 1
 end
def uptoSmall : (H : Type) → List (DataW H) → Bool := fun _ ds => decide (uptoBulkAll ds ≤ 1048576)
def OpenSpec.upto (s : _root_.Go.ChangeSpec) : _root_.Go.OpenSpec := { _root_.Go.OpenSpec.ofChange s with cond := some uptoSmall }

/-- 'castingslaw14.ContainMatchesReference', WHERE WHAT IT READS IS OF BULK AT MOST 1048576: true; the input reads as it did. -/
def containMatchesReferenceUptoRow : OpenClaim := { program := "ytibfepggadjjgaa", sum := "e36253eb12fd5a1a18d0eae807aa9ee912af1181edd3d1010582905ea46305c4", func := "castings/castingslaw14.ContainMatchesReference", spec := "containMatchesReference", unfollowed := true, recurses := true, loops := true, plainKeys := false, apart := false, narrowed := true }
def ContainMatchesReferenceUptoSaid : Prop := containMatchesReferenceUptoRow.holds Try.pinned (OpenSpec.upto containMatchesReferenceSpec)

/-- 'castingslaw14.ContainTypes', WHERE WHAT IT READS IS OF BULK AT MOST 1048576: true; the input reads as it did. -/
def containTypesUptoRow : OpenClaim := { program := "ytibfepggadjjgaa", sum := "e36253eb12fd5a1a18d0eae807aa9ee912af1181edd3d1010582905ea46305c4", func := "castings/castingslaw14.ContainTypes", spec := "containTypes", unfollowed := true, recurses := true, loops := true, plainKeys := false, apart := false, narrowed := true }
def ContainTypesUptoSaid : Prop := containTypesUptoRow.holds Try.pinned (OpenSpec.upto containTypesSpec)

/-- 'castingslaw14.ContainAll', WHERE WHAT IT READS IS OF BULK AT MOST 1048576: true; the input reads as it did. -/
def containAllUptoRow : OpenClaim := { program := "ytibfepggadjjgaa", sum := "e36253eb12fd5a1a18d0eae807aa9ee912af1181edd3d1010582905ea46305c4", func := "castings/castingslaw14.ContainAll", spec := "containAll", unfollowed := true, recurses := true, loops := true, plainKeys := false, apart := false, narrowed := true }
def ContainAllUptoSaid : Prop := containAllUptoRow.holds Try.pinned (OpenSpec.upto containAllSpec)

/-- 'castingslaw14.ContainGrows', WHERE WHAT IT READS IS OF BULK AT MOST 1048576: true; the input reads as it did. -/
def containGrowsUptoRow : OpenClaim := { program := "ytibfepggadjjgaa", sum := "e36253eb12fd5a1a18d0eae807aa9ee912af1181edd3d1010582905ea46305c4", func := "castings/castingslaw14.ContainGrows", spec := "containGrows", unfollowed := true, recurses := true, loops := true, plainKeys := false, apart := false, narrowed := true }
def ContainGrowsUptoSaid : Prop := containGrowsUptoRow.holds Try.pinned (OpenSpec.upto containGrowsSpec)

end Rows
end Go.Proofs.Ytibfepggadjjgaa
