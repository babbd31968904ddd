/-
  No cell of these rows narrows 'for every input' (looked for: loops, veiled, ifaces, maps, wideKeys, modest, calm, conditions, laid).
  DERIVED. THE GIVEN ROWS OF THIS SEAT. 7 by the template 'for every input the law returns true; each argument reads behind the call as it read before'; 0 by the template 'total and deterministic' (their statements: YtcafjaenmbhlnaaTotals.lean).
  GIVEN WITH THE SEED: the statements are not yours to turn. If you find one false, say at which input.
  Laid BY PROGRAM, IN A SANDBOX (cutbox-rows.mjs): the forced cells as the released guide's own fill.sh prints them over the translation 859ec362c7bb7588… (all of the seat's roots in one cut). By AI agents, Wed Nov 11 2026. No macro, syntax, notation, axiom, sorry.
-/
import Derived.Test.YtcafjaenmbhlnaaChecked
import GoSem.Claim
import GoSem.ClaimJoined
import GoSem.ClaimMapViews
import Derived.JoinedTies
import Derived.KernelRfl
namespace Go.Proofs.Ytcafjaenmbhlnaa
/- THE CELL 'sum', in the pinned program and in every row, IS THE sha256 OF THE DUMP (.gsa) THAT YtcafjaenmbhlnaaProg.lean LOADS. Nothing in Lean hashes anything: it is a label: what it is worth is what the hold of that sum in a sandbox is worth. -/
noncomputable def Try.pinned : Pinned := { name := "ytcafjaenmbhlnaa", sum := "859ec362c7bb758803b74a01f71d94a921cbde48469d97ee5e4f32ef2d174192", checked := Try.checked }
namespace Rows
def none {H : Type} : Left H := { results := [], args := [] }

/-- 'gantrylaw22.IslandMerges': WHATEVER THE INPUT: true; the input reads as it did. -/
def islandMergesSpec : ChangeSpec := { name := "islandMerges", fn := fun _ => fun
  | [d1, d2, d3, d4] => { results := [.lit (.bool true)], args := [d1, d2, d3, d4] }
  | _ => none }
def islandMergesRow : OpenClaim := { program := "ytcafjaenmbhlnaa", sum := "859ec362c7bb758803b74a01f71d94a921cbde48469d97ee5e4f32ef2d174192", func := "gantry/gantrylaw22.IslandMerges", spec := "islandMerges", unfollowed := true, recurses := true, apart := false }
def IslandMergesSaid : Prop := islandMergesRow.holds Try.pinned (OpenSpec.ofChange islandMergesSpec)

/-- ITS FALSE NEIGHBOUR: 'it returns false'. Refute it at one input. -/
def islandMergesWrong : ChangeSpec := { name := "islandMerges", fn := fun _ => fun
  | [d1, d2, d3, d4] => { results := [.lit (.bool false)], args := [d1, d2, d3, d4] }
  | _ => none }
def IslandMergesWrongFalsely : Prop := islandMergesRow.holds Try.pinned (OpenSpec.ofChange islandMergesWrong)

/-- 'gantrylaw22.IslandCuts': WHATEVER THE INPUT: true; the input reads as it did. -/
def islandCutsSpec : ChangeSpec := { name := "islandCuts", fn := fun _ => fun
  | [d1, d2, d3] => { results := [.lit (.bool true)], args := [d1, d2, d3] }
  | _ => none }
def islandCutsRow : OpenClaim := { program := "ytcafjaenmbhlnaa", sum := "859ec362c7bb758803b74a01f71d94a921cbde48469d97ee5e4f32ef2d174192", func := "gantry/gantrylaw22.IslandCuts", spec := "islandCuts", unfollowed := true, recurses := true, apart := false }
def IslandCutsSaid : Prop := islandCutsRow.holds Try.pinned (OpenSpec.ofChange islandCutsSpec)

/-- ITS FALSE NEIGHBOUR: 'it returns false'. Refute it at one input. -/
def islandCutsWrong : ChangeSpec := { name := "islandCuts", fn := fun _ => fun
  | [d1, d2, d3] => { results := [.lit (.bool false)], args := [d1, d2, d3] }
  | _ => none }
def IslandCutsWrongFalsely : Prop := islandCutsRow.holds Try.pinned (OpenSpec.ofChange islandCutsWrong)

/-- 'gantrylaw22.IslandMerged': WHATEVER THE INPUT: true; the input reads as it did. -/
def islandMergedSpec : ChangeSpec := { name := "islandMerged", fn := fun _ => fun
  | [d1, d2, d3] => { results := [.lit (.bool true)], args := [d1, d2, d3] }
  | _ => none }
def islandMergedRow : OpenClaim := { program := "ytcafjaenmbhlnaa", sum := "859ec362c7bb758803b74a01f71d94a921cbde48469d97ee5e4f32ef2d174192", func := "gantry/gantrylaw22.IslandMerged", spec := "islandMerged", unfollowed := true, recurses := true, apart := false }
def IslandMergedSaid : Prop := islandMergedRow.holds Try.pinned (OpenSpec.ofChange islandMergedSpec)

/-- ITS FALSE NEIGHBOUR: 'it returns false'. Refute it at one input. -/
def islandMergedWrong : ChangeSpec := { name := "islandMerged", fn := fun _ => fun
  | [d1, d2, d3] => { results := [.lit (.bool false)], args := [d1, d2, d3] }
  | _ => none }
def IslandMergedWrongFalsely : Prop := islandMergedRow.holds Try.pinned (OpenSpec.ofChange islandMergedWrong)

/-- 'gantrylaw22.IslandGroups': WHATEVER THE INPUT: true; the input reads as it did. -/
def islandGroupsSpec : ChangeSpec := { name := "islandGroups", fn := fun _ => fun
  | [d1, d2, d3, d4] => { results := [.lit (.bool true)], args := [d1, d2, d3, d4] }
  | _ => none }
def islandGroupsRow : OpenClaim := { program := "ytcafjaenmbhlnaa", sum := "859ec362c7bb758803b74a01f71d94a921cbde48469d97ee5e4f32ef2d174192", func := "gantry/gantrylaw22.IslandGroups", spec := "islandGroups", unfollowed := true, recurses := true, apart := false }
def IslandGroupsSaid : Prop := islandGroupsRow.holds Try.pinned (OpenSpec.ofChange islandGroupsSpec)

/-- ITS FALSE NEIGHBOUR: 'it returns false'. Refute it at one input. -/
def islandGroupsWrong : ChangeSpec := { name := "islandGroups", fn := fun _ => fun
  | [d1, d2, d3, d4] => { results := [.lit (.bool false)], args := [d1, d2, d3, d4] }
  | _ => none }
def IslandGroupsWrongFalsely : Prop := islandGroupsRow.holds Try.pinned (OpenSpec.ofChange islandGroupsWrong)

/-- 'gantrylaw22.IslandParts': WHATEVER THE INPUT: true; the input reads as it did. -/
def islandPartsSpec : ChangeSpec := { name := "islandParts", fn := fun _ => fun
  | [d1, d2, d3] => { results := [.lit (.bool true)], args := [d1, d2, d3] }
  | _ => none }
def islandPartsRow : OpenClaim := { program := "ytcafjaenmbhlnaa", sum := "859ec362c7bb758803b74a01f71d94a921cbde48469d97ee5e4f32ef2d174192", func := "gantry/gantrylaw22.IslandParts", spec := "islandParts", unfollowed := true, recurses := true, apart := false }
def IslandPartsSaid : Prop := islandPartsRow.holds Try.pinned (OpenSpec.ofChange islandPartsSpec)

/-- ITS FALSE NEIGHBOUR: 'it returns false'. Refute it at one input. -/
def islandPartsWrong : ChangeSpec := { name := "islandParts", fn := fun _ => fun
  | [d1, d2, d3] => { results := [.lit (.bool false)], args := [d1, d2, d3] }
  | _ => none }
def IslandPartsWrongFalsely : Prop := islandPartsRow.holds Try.pinned (OpenSpec.ofChange islandPartsWrong)

/-- 'gantrylaw22.IslandFiner': WHATEVER THE INPUT: true; the input reads as it did. -/
def islandFinerSpec : ChangeSpec := { name := "islandFiner", fn := fun _ => fun
  | [d1, d2, d3] => { results := [.lit (.bool true)], args := [d1, d2, d3] }
  | _ => none }
def islandFinerRow : OpenClaim := { program := "ytcafjaenmbhlnaa", sum := "859ec362c7bb758803b74a01f71d94a921cbde48469d97ee5e4f32ef2d174192", func := "gantry/gantrylaw22.IslandFiner", spec := "islandFiner", unfollowed := true, recurses := true, apart := false }
def IslandFinerSaid : Prop := islandFinerRow.holds Try.pinned (OpenSpec.ofChange islandFinerSpec)

/-- ITS FALSE NEIGHBOUR: 'it returns false'. Refute it at one input. -/
def islandFinerWrong : ChangeSpec := { name := "islandFiner", fn := fun _ => fun
  | [d1, d2, d3] => { results := [.lit (.bool false)], args := [d1, d2, d3] }
  | _ => none }
def IslandFinerWrongFalsely : Prop := islandFinerRow.holds Try.pinned (OpenSpec.ofChange islandFinerWrong)

/-- 'gantrylaw22.IslandRows': WHATEVER THE INPUT: true; the input reads as it did. -/
def islandRowsSpec : ChangeSpec := { name := "islandRows", fn := fun _ => fun
  | [d1, d2, d3] => { results := [.lit (.bool true)], args := [d1, d2, d3] }
  | _ => none }
def islandRowsRow : OpenClaim := { program := "ytcafjaenmbhlnaa", sum := "859ec362c7bb758803b74a01f71d94a921cbde48469d97ee5e4f32ef2d174192", func := "gantry/gantrylaw22.IslandRows", spec := "islandRows", unfollowed := true, recurses := true, apart := false }
def IslandRowsSaid : Prop := islandRowsRow.holds Try.pinned (OpenSpec.ofChange islandRowsSpec)

/-- ITS FALSE NEIGHBOUR: 'it returns false'. Refute it at one input. -/
def islandRowsWrong : ChangeSpec := { name := "islandRows", fn := fun _ => fun
  | [d1, d2, d3] => { results := [.lit (.bool false)], args := [d1, d2, d3] }
  | _ => none }
def IslandRowsWrongFalsely : Prop := islandRowsRow.holds Try.pinned (OpenSpec.ofChange islandRowsWrong)

/- THE SECOND FORM. 'bulk': how many values and letters a reading holds, each counted each time it is reached (what is shared counts as often as it is met; a slice's spare places count too). A statement '..UptoSaid' is the law's where the arguments, and the package variables that the reading takes, are together of bulk at most 1048576: NARROWER than '..Said'. Prove '..Said' where nothing that the law and all that it calls make is longer than what came in: it says more and counts as full. Else prove '..UptoSaid'. A law counts once. -/
mutual
def uptoBulk {H : Type} : DataW H → Nat
  | .lit (.string bytes) => bytes.length + 1
  | .lit _ => 1
  | .nil => 1
  | .ptr d => uptoBulk d + 1
  | .slice elems spare => uptoBulkAll elems + uptoBulkAll spare + 1
  | .agg parts => uptoBulkAll parts + 1
  | .iface _ d => uptoBulk d + 1
  | .map entries => uptoBulkEntries entries + 1
  | .held _ => 1
def uptoBulkAll {H : Type} : List (DataW H) → Nat
  | [] => 0
  | d :: r => uptoBulk d + uptoBulkAll r
def uptoBulkEntries {H : Type} : List (Lit × DataW H) → Nat
  | [] => 0
  | x :: r => uptoBulkEntry x + uptoBulkEntries r
def uptoBulkEntry {H : Type} : Lit × DataW H → Nat
  | (.string bytes, d) => bytes.length + uptoBulk d + 1
  | (_, d) => uptoBulk d + 1
 end
def uptoSmall : (H : Type) → List (DataW H) → Bool := fun _ ds => decide (uptoBulkAll ds ≤ 1048576)
def OpenSpec.upto (s : _root_.Go.ChangeSpec) : _root_.Go.OpenSpec := { _root_.Go.OpenSpec.ofChange s with cond := some uptoSmall }

/-- 'gantrylaw22.IslandMerges', WHERE WHAT IT READS IS OF BULK AT MOST 1048576: true; the input reads as it did. -/
def islandMergesUptoRow : OpenClaim := { program := "ytcafjaenmbhlnaa", sum := "859ec362c7bb758803b74a01f71d94a921cbde48469d97ee5e4f32ef2d174192", func := "gantry/gantrylaw22.IslandMerges", spec := "islandMerges", unfollowed := true, recurses := true, apart := false, narrowed := true }
def IslandMergesUptoSaid : Prop := islandMergesUptoRow.holds Try.pinned (OpenSpec.upto islandMergesSpec)

/-- 'gantrylaw22.IslandCuts', WHERE WHAT IT READS IS OF BULK AT MOST 1048576: true; the input reads as it did. -/
def islandCutsUptoRow : OpenClaim := { program := "ytcafjaenmbhlnaa", sum := "859ec362c7bb758803b74a01f71d94a921cbde48469d97ee5e4f32ef2d174192", func := "gantry/gantrylaw22.IslandCuts", spec := "islandCuts", unfollowed := true, recurses := true, apart := false, narrowed := true }
def IslandCutsUptoSaid : Prop := islandCutsUptoRow.holds Try.pinned (OpenSpec.upto islandCutsSpec)

/-- 'gantrylaw22.IslandMerged', WHERE WHAT IT READS IS OF BULK AT MOST 1048576: true; the input reads as it did. -/
def islandMergedUptoRow : OpenClaim := { program := "ytcafjaenmbhlnaa", sum := "859ec362c7bb758803b74a01f71d94a921cbde48469d97ee5e4f32ef2d174192", func := "gantry/gantrylaw22.IslandMerged", spec := "islandMerged", unfollowed := true, recurses := true, apart := false, narrowed := true }
def IslandMergedUptoSaid : Prop := islandMergedUptoRow.holds Try.pinned (OpenSpec.upto islandMergedSpec)

/-- 'gantrylaw22.IslandGroups', WHERE WHAT IT READS IS OF BULK AT MOST 1048576: true; the input reads as it did. -/
def islandGroupsUptoRow : OpenClaim := { program := "ytcafjaenmbhlnaa", sum := "859ec362c7bb758803b74a01f71d94a921cbde48469d97ee5e4f32ef2d174192", func := "gantry/gantrylaw22.IslandGroups", spec := "islandGroups", unfollowed := true, recurses := true, apart := false, narrowed := true }
def IslandGroupsUptoSaid : Prop := islandGroupsUptoRow.holds Try.pinned (OpenSpec.upto islandGroupsSpec)

/-- 'gantrylaw22.IslandParts', WHERE WHAT IT READS IS OF BULK AT MOST 1048576: true; the input reads as it did. -/
def islandPartsUptoRow : OpenClaim := { program := "ytcafjaenmbhlnaa", sum := "859ec362c7bb758803b74a01f71d94a921cbde48469d97ee5e4f32ef2d174192", func := "gantry/gantrylaw22.IslandParts", spec := "islandParts", unfollowed := true, recurses := true, apart := false, narrowed := true }
def IslandPartsUptoSaid : Prop := islandPartsUptoRow.holds Try.pinned (OpenSpec.upto islandPartsSpec)

/-- 'gantrylaw22.IslandFiner', WHERE WHAT IT READS IS OF BULK AT MOST 1048576: true; the input reads as it did. -/
def islandFinerUptoRow : OpenClaim := { program := "ytcafjaenmbhlnaa", sum := "859ec362c7bb758803b74a01f71d94a921cbde48469d97ee5e4f32ef2d174192", func := "gantry/gantrylaw22.IslandFiner", spec := "islandFiner", unfollowed := true, recurses := true, apart := false, narrowed := true }
def IslandFinerUptoSaid : Prop := islandFinerUptoRow.holds Try.pinned (OpenSpec.upto islandFinerSpec)

/-- 'gantrylaw22.IslandRows', WHERE WHAT IT READS IS OF BULK AT MOST 1048576: true; the input reads as it did. -/
def islandRowsUptoRow : OpenClaim := { program := "ytcafjaenmbhlnaa", sum := "859ec362c7bb758803b74a01f71d94a921cbde48469d97ee5e4f32ef2d174192", func := "gantry/gantrylaw22.IslandRows", spec := "islandRows", unfollowed := true, recurses := true, apart := false, narrowed := true }
def IslandRowsUptoSaid : Prop := islandRowsUptoRow.holds Try.pinned (OpenSpec.upto islandRowsSpec)

end Rows
end Go.Proofs.Ytcafjaenmbhlnaa
