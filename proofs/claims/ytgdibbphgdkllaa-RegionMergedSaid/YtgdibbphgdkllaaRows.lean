/-
  No cell of these rows narrows 'for every input' (looked for: loops, veiled, ifaces, maps, wideKeys, modest, calm, conditions, laid).
  DERIVED. THE GIVEN ROWS OF THIS SEAT. 7 by the template 'for every input the law returns true; each argument reads behind the call as it read before'; 0 by the template 'total and deterministic' (their statements: YtgdibbphgdkllaaTotals.lean).
  GIVEN WITH THE SEED: the statements are not yours to turn. If you find one false, say at which input.
  Laid BY PROGRAM, IN A SANDBOX (cutbox-rows.mjs): the forced cells as the released guide's own fill.sh prints them over the translation b65e5503c8d480d0… (all of the seat's roots in one cut). By AI agents, Wed Nov 11 2026. No macro, syntax, notation, axiom, sorry.
-/
import Derived.Test.YtgdibbphgdkllaaChecked
import GoSem.Claim
import GoSem.ClaimJoined
import GoSem.ClaimMapViews
import Derived.JoinedTies
import Derived.KernelRfl
namespace Go.Proofs.Ytgdibbphgdkllaa
/- THE CELL 'sum', in the pinned program and in every row, IS THE sha256 OF THE DUMP (.gsa) THAT YtgdibbphgdkllaaProg.lean LOADS. Nothing in Lean hashes anything: it is a label: what it is worth is what the hold of that sum in a sandbox is worth. -/
noncomputable def Try.pinned : Pinned := { name := "ytgdibbphgdkllaa", sum := "b65e5503c8d480d072b3414dc8102920c60e803a09932681bd444bf1585d6b17", checked := Try.checked }
namespace Rows
def none {H : Type} : Left H := { results := [], args := [] }

/-- 'gantrylaw38.RegionOwns': WHATEVER THE INPUT: true; the input reads as it did. -/
def regionOwnsSpec : ChangeSpec := { name := "regionOwns", fn := fun _ => fun
  | [d1, d2, d3, d4, d5, d6, d7, d8] => { results := [.lit (.bool true)], args := [d1, d2, d3, d4, d5, d6, d7, d8] }
  | _ => none }
def regionOwnsRow : OpenClaim := { program := "ytgdibbphgdkllaa", sum := "b65e5503c8d480d072b3414dc8102920c60e803a09932681bd444bf1585d6b17", func := "gantry/gantrylaw38.RegionOwns", spec := "regionOwns", unfollowed := true, recurses := true, apart := false }
def RegionOwnsSaid : Prop := regionOwnsRow.holds Try.pinned (OpenSpec.ofChange regionOwnsSpec)

/-- ITS FALSE NEIGHBOUR: 'it returns false'. Refute it at one input. -/
def regionOwnsWrong : ChangeSpec := { name := "regionOwns", fn := fun _ => fun
  | [d1, d2, d3, d4, d5, d6, d7, d8] => { results := [.lit (.bool false)], args := [d1, d2, d3, d4, d5, d6, d7, d8] }
  | _ => none }
def RegionOwnsWrongFalsely : Prop := regionOwnsRow.holds Try.pinned (OpenSpec.ofChange regionOwnsWrong)

/-- 'gantrylaw38.RegionTakes': WHATEVER THE INPUT: true; the input reads as it did. -/
def regionTakesSpec : ChangeSpec := { name := "regionTakes", fn := fun _ => fun
  | [d1, d2, d3, d4, d5, d6, d7, d8] => { results := [.lit (.bool true)], args := [d1, d2, d3, d4, d5, d6, d7, d8] }
  | _ => none }
def regionTakesRow : OpenClaim := { program := "ytgdibbphgdkllaa", sum := "b65e5503c8d480d072b3414dc8102920c60e803a09932681bd444bf1585d6b17", func := "gantry/gantrylaw38.RegionTakes", spec := "regionTakes", unfollowed := true, recurses := true, apart := false }
def RegionTakesSaid : Prop := regionTakesRow.holds Try.pinned (OpenSpec.ofChange regionTakesSpec)

/-- ITS FALSE NEIGHBOUR: 'it returns false'. Refute it at one input. -/
def regionTakesWrong : ChangeSpec := { name := "regionTakes", fn := fun _ => fun
  | [d1, d2, d3, d4, d5, d6, d7, d8] => { results := [.lit (.bool false)], args := [d1, d2, d3, d4, d5, d6, d7, d8] }
  | _ => none }
def RegionTakesWrongFalsely : Prop := regionTakesRow.holds Try.pinned (OpenSpec.ofChange regionTakesWrong)

/-- 'gantrylaw38.RegionEven': WHATEVER THE INPUT: true; the input reads as it did. -/
def regionEvenSpec : ChangeSpec := { name := "regionEven", fn := fun _ => fun
  | [d1, d2, d3, d4, d5, d6] => { results := [.lit (.bool true)], args := [d1, d2, d3, d4, d5, d6] }
  | _ => none }
def regionEvenRow : OpenClaim := { program := "ytgdibbphgdkllaa", sum := "b65e5503c8d480d072b3414dc8102920c60e803a09932681bd444bf1585d6b17", func := "gantry/gantrylaw38.RegionEven", spec := "regionEven", unfollowed := true, recurses := true, apart := false }
def RegionEvenSaid : Prop := regionEvenRow.holds Try.pinned (OpenSpec.ofChange regionEvenSpec)

/-- ITS FALSE NEIGHBOUR: 'it returns false'. Refute it at one input. -/
def regionEvenWrong : ChangeSpec := { name := "regionEven", fn := fun _ => fun
  | [d1, d2, d3, d4, d5, d6] => { results := [.lit (.bool false)], args := [d1, d2, d3, d4, d5, d6] }
  | _ => none }
def RegionEvenWrongFalsely : Prop := regionEvenRow.holds Try.pinned (OpenSpec.ofChange regionEvenWrong)

/-- 'gantrylaw38.RegionFew': WHATEVER THE INPUT: true; the input reads as it did. -/
def regionFewSpec : ChangeSpec := { name := "regionFew", fn := fun _ => fun
  | [d1, d2, d3, d4, d5] => { results := [.lit (.bool true)], args := [d1, d2, d3, d4, d5] }
  | _ => none }
def regionFewRow : OpenClaim := { program := "ytgdibbphgdkllaa", sum := "b65e5503c8d480d072b3414dc8102920c60e803a09932681bd444bf1585d6b17", func := "gantry/gantrylaw38.RegionFew", spec := "regionFew", unfollowed := true, recurses := true, apart := false }
def RegionFewSaid : Prop := regionFewRow.holds Try.pinned (OpenSpec.ofChange regionFewSpec)

/-- ITS FALSE NEIGHBOUR: 'it returns false'. Refute it at one input. -/
def regionFewWrong : ChangeSpec := { name := "regionFew", fn := fun _ => fun
  | [d1, d2, d3, d4, d5] => { results := [.lit (.bool false)], args := [d1, d2, d3, d4, d5] }
  | _ => none }
def RegionFewWrongFalsely : Prop := regionFewRow.holds Try.pinned (OpenSpec.ofChange regionFewWrong)

/-- 'gantrylaw38.RegionFair': WHATEVER THE INPUT: true; the input reads as it did. -/
def regionFairSpec : ChangeSpec := { name := "regionFair", fn := fun _ => fun
  | [d1, d2, d3] => { results := [.lit (.bool true)], args := [d1, d2, d3] }
  | _ => none }
def regionFairRow : OpenClaim := { program := "ytgdibbphgdkllaa", sum := "b65e5503c8d480d072b3414dc8102920c60e803a09932681bd444bf1585d6b17", func := "gantry/gantrylaw38.RegionFair", spec := "regionFair", unfollowed := true, recurses := true, apart := false }
def RegionFairSaid : Prop := regionFairRow.holds Try.pinned (OpenSpec.ofChange regionFairSpec)

/-- ITS FALSE NEIGHBOUR: 'it returns false'. Refute it at one input. -/
def regionFairWrong : ChangeSpec := { name := "regionFair", fn := fun _ => fun
  | [d1, d2, d3] => { results := [.lit (.bool false)], args := [d1, d2, d3] }
  | _ => none }
def RegionFairWrongFalsely : Prop := regionFairRow.holds Try.pinned (OpenSpec.ofChange regionFairWrong)

/-- 'gantrylaw38.RegionTells': WHATEVER THE INPUT: true; the input reads as it did. -/
def regionTellsSpec : ChangeSpec := { name := "regionTells", fn := fun _ => fun
  | [d1, d2, d3, d4] => { results := [.lit (.bool true)], args := [d1, d2, d3, d4] }
  | _ => none }
def regionTellsRow : OpenClaim := { program := "ytgdibbphgdkllaa", sum := "b65e5503c8d480d072b3414dc8102920c60e803a09932681bd444bf1585d6b17", func := "gantry/gantrylaw38.RegionTells", spec := "regionTells", unfollowed := true, recurses := true, apart := false }
def RegionTellsSaid : Prop := regionTellsRow.holds Try.pinned (OpenSpec.ofChange regionTellsSpec)

/-- ITS FALSE NEIGHBOUR: 'it returns false'. Refute it at one input. -/
def regionTellsWrong : ChangeSpec := { name := "regionTells", fn := fun _ => fun
  | [d1, d2, d3, d4] => { results := [.lit (.bool false)], args := [d1, d2, d3, d4] }
  | _ => none }
def RegionTellsWrongFalsely : Prop := regionTellsRow.holds Try.pinned (OpenSpec.ofChange regionTellsWrong)

/-- 'gantrylaw38.RegionMerged': WHATEVER THE INPUT: true; the input reads as it did. -/
def regionMergedSpec : ChangeSpec := { name := "regionMerged", fn := fun _ => fun
  | [d1, d2, d3, d4, d5, d6] => { results := [.lit (.bool true)], args := [d1, d2, d3, d4, d5, d6] }
  | _ => none }
def regionMergedRow : OpenClaim := { program := "ytgdibbphgdkllaa", sum := "b65e5503c8d480d072b3414dc8102920c60e803a09932681bd444bf1585d6b17", func := "gantry/gantrylaw38.RegionMerged", spec := "regionMerged", unfollowed := true, recurses := true, apart := false }
def RegionMergedSaid : Prop := regionMergedRow.holds Try.pinned (OpenSpec.ofChange regionMergedSpec)

/-- ITS FALSE NEIGHBOUR: 'it returns false'. Refute it at one input. -/
def regionMergedWrong : ChangeSpec := { name := "regionMerged", fn := fun _ => fun
  | [d1, d2, d3, d4, d5, d6] => { results := [.lit (.bool false)], args := [d1, d2, d3, d4, d5, d6] }
  | _ => none }
def RegionMergedWrongFalsely : Prop := regionMergedRow.holds Try.pinned (OpenSpec.ofChange regionMergedWrong)

/- THE SECOND FORM. 'bulk': how many values and letters a reading holds, each counted each time it is reached (what is shared counts as often as it is met; a slice's spare places count too). A statement '..UptoSaid' is the law's where the arguments, and the package variables that the reading takes, are together of bulk at most 1048576: NARROWER than '..Said'. Prove '..Said' where nothing that the law and all that it calls make is longer than what came in: it says more and counts as full. Else prove '..UptoSaid'. A law counts once. -/
mutual
def uptoBulk {H : Type} : DataW H → Nat
  | .lit (.string bytes) => bytes.length + 1
  | .lit _ => 1
  | .nil => 1
  | .ptr d => uptoBulk d + 1
  | .slice elems spare => uptoBulkAll elems + uptoBulkAll spare + 1
  | .agg parts => uptoBulkAll parts + 1
  | .iface _ d => uptoBulk d + 1
  | .map entries => uptoBulkEntries entries + 1
  | .held _ => 1
def uptoBulkAll {H : Type} : List (DataW H) → Nat
  | [] => 0
  | d :: r => uptoBulk d + uptoBulkAll r
def uptoBulkEntries {H : Type} : List (Lit × DataW H) → Nat
  | [] => 0
  | x :: r => uptoBulkEntry x + uptoBulkEntries r
def uptoBulkEntry {H : Type} : Lit × DataW H → Nat
  | (.string bytes, d) => bytes.length + uptoBulk d + 1
  | (_, d) => uptoBulk d + 1
 end
def uptoSmall : (H : Type) → List (DataW H) → Bool := fun _ ds => decide (uptoBulkAll ds ≤ 1048576)
def OpenSpec.upto (s : _root_.Go.ChangeSpec) : _root_.Go.OpenSpec := { _root_.Go.OpenSpec.ofChange s with cond := some uptoSmall }

/-- 'gantrylaw38.RegionOwns', WHERE WHAT IT READS IS OF BULK AT MOST 1048576: true; the input reads as it did. -/
def regionOwnsUptoRow : OpenClaim := { program := "ytgdibbphgdkllaa", sum := "b65e5503c8d480d072b3414dc8102920c60e803a09932681bd444bf1585d6b17", func := "gantry/gantrylaw38.RegionOwns", spec := "regionOwns", unfollowed := true, recurses := true, apart := false, narrowed := true }
def RegionOwnsUptoSaid : Prop := regionOwnsUptoRow.holds Try.pinned (OpenSpec.upto regionOwnsSpec)

/-- 'gantrylaw38.RegionTakes', WHERE WHAT IT READS IS OF BULK AT MOST 1048576: true; the input reads as it did. -/
def regionTakesUptoRow : OpenClaim := { program := "ytgdibbphgdkllaa", sum := "b65e5503c8d480d072b3414dc8102920c60e803a09932681bd444bf1585d6b17", func := "gantry/gantrylaw38.RegionTakes", spec := "regionTakes", unfollowed := true, recurses := true, apart := false, narrowed := true }
def RegionTakesUptoSaid : Prop := regionTakesUptoRow.holds Try.pinned (OpenSpec.upto regionTakesSpec)

/-- 'gantrylaw38.RegionEven', WHERE WHAT IT READS IS OF BULK AT MOST 1048576: true; the input reads as it did. -/
def regionEvenUptoRow : OpenClaim := { program := "ytgdibbphgdkllaa", sum := "b65e5503c8d480d072b3414dc8102920c60e803a09932681bd444bf1585d6b17", func := "gantry/gantrylaw38.RegionEven", spec := "regionEven", unfollowed := true, recurses := true, apart := false, narrowed := true }
def RegionEvenUptoSaid : Prop := regionEvenUptoRow.holds Try.pinned (OpenSpec.upto regionEvenSpec)

/-- 'gantrylaw38.RegionFew', WHERE WHAT IT READS IS OF BULK AT MOST 1048576: true; the input reads as it did. -/
def regionFewUptoRow : OpenClaim := { program := "ytgdibbphgdkllaa", sum := "b65e5503c8d480d072b3414dc8102920c60e803a09932681bd444bf1585d6b17", func := "gantry/gantrylaw38.RegionFew", spec := "regionFew", unfollowed := true, recurses := true, apart := false, narrowed := true }
def RegionFewUptoSaid : Prop := regionFewUptoRow.holds Try.pinned (OpenSpec.upto regionFewSpec)

/-- 'gantrylaw38.RegionFair', WHERE WHAT IT READS IS OF BULK AT MOST 1048576: true; the input reads as it did. -/
def regionFairUptoRow : OpenClaim := { program := "ytgdibbphgdkllaa", sum := "b65e5503c8d480d072b3414dc8102920c60e803a09932681bd444bf1585d6b17", func := "gantry/gantrylaw38.RegionFair", spec := "regionFair", unfollowed := true, recurses := true, apart := false, narrowed := true }
def RegionFairUptoSaid : Prop := regionFairUptoRow.holds Try.pinned (OpenSpec.upto regionFairSpec)

/-- 'gantrylaw38.RegionTells', WHERE WHAT IT READS IS OF BULK AT MOST 1048576: true; the input reads as it did. -/
def regionTellsUptoRow : OpenClaim := { program := "ytgdibbphgdkllaa", sum := "b65e5503c8d480d072b3414dc8102920c60e803a09932681bd444bf1585d6b17", func := "gantry/gantrylaw38.RegionTells", spec := "regionTells", unfollowed := true, recurses := true, apart := false, narrowed := true }
def RegionTellsUptoSaid : Prop := regionTellsUptoRow.holds Try.pinned (OpenSpec.upto regionTellsSpec)

/-- 'gantrylaw38.RegionMerged', WHERE WHAT IT READS IS OF BULK AT MOST 1048576: true; the input reads as it did. -/
def regionMergedUptoRow : OpenClaim := { program := "ytgdibbphgdkllaa", sum := "b65e5503c8d480d072b3414dc8102920c60e803a09932681bd444bf1585d6b17", func := "gantry/gantrylaw38.RegionMerged", spec := "regionMerged", unfollowed := true, recurses := true, apart := false, narrowed := true }
def RegionMergedUptoSaid : Prop := regionMergedUptoRow.holds Try.pinned (OpenSpec.upto regionMergedSpec)

end Rows
end Go.Proofs.Ytgdibbphgdkllaa
