/- What the claims of this seat share: the variables that a row lists. -/
import Derived.Test.YtlenpjfgbbfmcaaDoorAm03R
import Derived.Test.YtlenpjfgbbfmcaaDoorAmClaim
import Derived.Test.YtlenpjfgbbfmcaaDoorTie
import Derived.Test.YtlenpjfgbbfmcaaDoorCards
import Derived.LaidMore
import Derived.OpenShut
import Derived.Stop.Joined
import Derived.SevenTiedAt
import Derived.ProofKit
set_option linter.unusedVariables false
namespace Go.Proofs.YtlenpjfgbbfmcaaDoor
open Go Go.Am Go.ChangeShapes Go.WideShapes Go.ChangeAt Go.WideMaps Go.WideElems Go.RowKit
theorem own : ownKnob Tryd.prog.godebug = none := by kernel_rfl
theorem laidOut : laidOutB Tryd.prog = true := by kernel_rfl
abbrev lHash : List (String × DataW Unit) := [("gantry/hash.constants", Rows.laid_gantry_hash_constants)]
abbrev lBoth : List (String × DataW Unit) := [("gantry/gantryref02.constants", Rows.laid_gantry_gantryref02_constants), ("gantry/hash.constants", Rows.laid_gantry_hash_constants)]
theorem door_met1 (os : Os) (args : Array Value) : laidMetH Tryd.prog lHash ((World.doorLaid Tryd.prog 400 os).forCall (fun _ _ => 0) ⟨#[], args, []⟩).memory :=
 laidMetH_of_parts3 (fuel := 8) (laidMet_of_run' 8 (by kernel_rfl) (by kernel_rfl)) (by kernel_rfl) (by kernel_rfl)
theorem door_met2 (os : Os) (args : Array Value) : laidMetH Tryd.prog lBoth ((World.doorLaid Tryd.prog 400 os).forCall (fun _ _ => 0) ⟨#[], args, []⟩).memory :=
 laidMetH_of_parts3 (fuel := 8) (laidMet_of_run' 8 (by kernel_rfl) (by kernel_rfl)) (by kernel_rfl) (by kernel_rfl)
theorem gok1 {W : World} (h : laidMetH Tryd.prog lHash W) : GOk G02 W W0 := by
 rw [MakeChecks.laidMetH_plain _ _ _ (by kernel_rfl)] at h
 obtain ⟨ps, h, _⟩ := h
 obtain ⟨hc, _⟩ := laid_cells (g := 1) (t := 103) (m := 64) (e := 81) (k := .u32) (zs := Sha.K) h (by kernel_rfl) (by kernel_rfl) (by kernel_rfl) (by kernel_rfl) (by kernel_rfl) rfl
 refine gok_arr fun g r hg => ?_
 unfold G02 at hg
 split at hg
 ·injection hg with hg
  exact ⟨.u32, Sha.K, hg.symm, by decide, hc⟩
 ·contradiction
theorem gok2 {W : World} (h : laidMetH Tryd.prog lBoth W) : GOk G03 W W0 := by
 rw [MakeChecks.laidMetH_plain _ _ _ (by kernel_rfl)] at h
 obtain ⟨ps, h, _⟩ := h
 obtain ⟨hc0, ps', h'⟩ := laid_cells (g := 0) (t := 103) (m := 64) (e := 81) (k := .u32) (zs := Sha.K) h (by kernel_rfl) (by kernel_rfl) (by kernel_rfl) (by kernel_rfl) (by kernel_rfl) rfl
 obtain ⟨hc1, _⟩ := laid_cells (g := 1) (t := 103) (m := 64) (e := 81) (k := .u32) (zs := Sha.K) h' (by kernel_rfl) (by kernel_rfl) (by kernel_rfl) (by kernel_rfl) (by kernel_rfl) rfl
 refine gok_arr fun g r hg => ?_
 unfold G03 at hg
 split at hg
 ·injection hg with hg
  exact ⟨.u32, Sha.K, hg.symm, by decide, hc0⟩
 ·injection hg with hg
  exact ⟨.u32, Sha.K, hg.symm, by decide, hc1⟩
 ·contradiction
end Go.Proofs.YtlenpjfgbbfmcaaDoor
