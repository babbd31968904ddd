/- DiskRefusesSizes: for every number of sectors that is not from 1 to 4096, New returns nil and ErrArg; and on a disk of 3 sectors, Read, Write, Rot and Wear of a sector that does not exist, and Write of a text that does not have 64 bytes, return ErrArg and change nothing. -/
import Derived.Test.YtnbgphghghmemaaCl35
import Derived.Test.YtnbgphghghmemaaAm35M
set_option linter.unusedVariables false
set_option linter.unusedSimpArgs false
namespace Go.Proofs.Ytnbgphghghmemaa
open Go Go.Am Go.ChangeShapes Go.WideShapes Go.ChangeAt Go.RowKit

theorem diskRefusesSizes_laid (os : Os) : laidMet Try.prog Rows.diskRefusesSizesRow.laid ((World.holding Try.prog os ⟨#[], #[], []⟩).forCall (fun _ _ => 0) ⟨#[], #[.int .i64 0, .int .i64 0, .string ⟨#[]⟩], []⟩).memory := laidMet_of_run' 8 (by kernel_rfl) (by kernel_rfl)
theorem diskRefusesSizes_reads (os : Os) {H : Type} (enc : TypeId × Value → H) : ∃ places, DataW.whole enc Try.prog ((World.holding Try.prog os ⟨#[], #[], []⟩).forCall (fun _ _ => 0) ⟨#[], #[.int .i64 0, .int .i64 0, .string ⟨#[]⟩], []⟩).memory Try.f4.params.toList Rows.diskRefusesSizesSpec.vars false (#[.int .i64 0, .int .i64 0, .string ⟨#[]⟩] : Array Value).toList 8 = some ([.lit (.int .i64 0), .lit (.int .i64 0), .lit (.string [])], [], places) :=
  ⟨[], by kernel_rfl⟩
set_option maxRecDepth 100000 in
theorem diskRefusesSizes_lifted (os : Os) (started : os.Started) (H : Type) (enc : TypeId × Value → H) (F : Stop.Interp) :
    ReturnsInHanded {} Try.checked os 4 .any ((OpenSpec.ofChange Rows.diskRefusesSizesSpec).preRow enc Try.prog Try.f4 Rows.diskRefusesSizesRow.domain false Rows.diskRefusesSizesRow.laid) (((OpenSpec.ofChange Rows.diskRefusesSizesSpec).at F).post enc Try.prog Try.f4 false true false false) := by
  obtain ⟨places, hx⟩ := diskRefusesSizes_reads os enc
  refine returnsInHanded_of_row (C := Try.checked) (s := OpenSpec.ofChange Rows.diskRefusesSizesSpec) own started (by kernel_rfl) Try.func4
    (witness_row_at (enc := enc) (C := Try.checked) false (World.holding Try.prog os ⟨#[], #[], []⟩) #[.int .i64 0, .int .i64 0, .string ⟨#[]⟩] rfl (by kernel_rfl) (by kernel_rfl) (by kernel_rfl)
      (OpenSpec.preRow_of_cond 8 hx (by kernel_rfl) (fun k hk => by cases hk) (by kernel_rfl) (diskRefusesSizes_laid os))) ?_
  intro W base args ds gs before hval hW _ hcond hsz _ _ _
  exact law_calls2 (P := Try.prog) (fn := Try.f4) (s := Rows.diskRefusesSizesSpec) (l := [any2 (isInt .i64), any2 (isInt .i64), strR]) (C := fun ds => True) c4 gok0 (by exact ⟨opens2_any (opens_int (by kernel_rfl)), opens2_any (opens_int (by kernel_rfl)), opensR_str (opens2_str (by kernel_rfl)), trivial⟩)
    (fun X ds h hC => by obtain ⟨_, _, _, _, rfl, rfl, h0, h⟩ := h.inv; obtain ⟨_, _, _, _, rfl, rfl, h1, h⟩ := h.inv; obtain ⟨_, _, _, _, rfl, rfl, h2, h⟩ := h.inv; obtain ⟨rfl, rfl⟩ := h.inv0; obtain ⟨_, rfl⟩ := h0; obtain ⟨_, rfl⟩ := h1; obtain ⟨_, rfl, _⟩ := h2; exact rfl) laidOut (by kernel_rfl) (tb := 4) (by kernel_rfl) (by kernel_rfl) rfl
    (fun ds h => by have h2 : ds.length = 3 := h; match ds, h2 with | [_, _, _], _ => rfl) hval hW hsz trivial

theorem diskRefusesSizes_said : Rows.DiskRefusesSizesSaid :=
  OpenClaim.holds_of_cond 4 Try.f4 rfl rfl rfl rfl rfl rfl rfl ⟨rfl, rfl, rfl, rfl, rfl⟩ rfl rfl rfl rfl rfl (by kernel_rfl) Try.func4 (by kernel_rfl)
    (of_decide_eq_true (by kernel_rfl)) (by unfold Func.isWrapper; first | (rw [if_pos (by decide +kernel)]; kernel_rfl) | (rw [if_neg (by decide +kernel)]; exact ⟨rfl, rfl⟩))
    (fun os started H enc _ F => by rw [OpenClaim.pre_eq_preRow]; exact diskRefusesSizes_lifted os started H enc F)
end Go.Proofs.Ytnbgphghghmemaa
