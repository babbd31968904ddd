/- DiskRots: for every number of sectors up to 64 and every script of at most 60 operations: Rot changes one bit of one sector in the image; doing it again restores the image. -/
import Derived.Test.YtnbgphghghmemaaCl35
import Derived.Test.YtnbgphghghmemaaAm35K
set_option linter.unusedVariables false
set_option linter.unusedSimpArgs false
namespace Go.Proofs.Ytnbgphghghmemaa
open Go Go.Am Go.ChangeShapes Go.WideShapes Go.ChangeAt Go.RowKit

theorem diskRots_laid (os : Os) : laidMet Try.prog Rows.diskRotsRow.laid ((World.holding Try.prog os ⟨#[], #[], []⟩).forCall (fun _ _ => 0) ⟨#[], #[.int .i64 0, .slice none 0 0, .int .i64 0, .int .i64 0], []⟩).memory := laidMet_of_run' 8 (by kernel_rfl) (by kernel_rfl)
theorem diskRots_reads (os : Os) {H : Type} (enc : TypeId × Value → H) : ∃ places, DataW.whole enc Try.prog ((World.holding Try.prog os ⟨#[], #[], []⟩).forCall (fun _ _ => 0) ⟨#[], #[.int .i64 0, .slice none 0 0, .int .i64 0, .int .i64 0], []⟩).memory Try.f7.params.toList Rows.diskRotsSpec.vars false (#[.int .i64 0, .slice none 0 0, .int .i64 0, .int .i64 0] : Array Value).toList 8 = some ([.lit (.int .i64 0), .nil, .lit (.int .i64 0), .lit (.int .i64 0)], [], places) :=
  ⟨[], by kernel_rfl⟩
set_option maxRecDepth 100000 in
theorem diskRots_lifted (os : Os) (started : os.Started) (H : Type) (enc : TypeId × Value → H) (F : Stop.Interp) :
    ReturnsInHanded {} Try.checked os 7 .any ((OpenSpec.ofChange Rows.diskRotsSpec).preRow enc Try.prog Try.f7 Rows.diskRotsRow.domain false Rows.diskRotsRow.laid) (((OpenSpec.ofChange Rows.diskRotsSpec).at F).post enc Try.prog Try.f7 false true false false) := by
  obtain ⟨places, hx⟩ := diskRots_reads os enc
  refine returnsInHanded_of_row (C := Try.checked) (s := OpenSpec.ofChange Rows.diskRotsSpec) own started (by kernel_rfl) Try.func7
    (witness_row_at (enc := enc) (C := Try.checked) false (World.holding Try.prog os ⟨#[], #[], []⟩) #[.int .i64 0, .slice none 0 0, .int .i64 0, .int .i64 0] rfl (by kernel_rfl) (by kernel_rfl) (by kernel_rfl)
      (OpenSpec.preRow_of_cond 8 hx (by kernel_rfl) (fun k hk => by cases hk) (by kernel_rfl) (diskRots_laid os))) ?_
  intro W base args ds gs before hval hW _ hcond hsz _ _ _
  exact law_calls2 (P := Try.prog) (fn := Try.f7) (s := Rows.diskRotsSpec) (l := [any2 (isInt .i64), recsR [.int .i64, .int .i64, .int .i64, .str, .sl .i64], any2 (isInt .i64), any2 (isInt .i64)]) (C := fun ds => True) c7 gok0 (by exact ⟨opens2_any (opens_int (by kernel_rfl)), opensR_recs (e := 33) (by kernel_rfl) Try.underlying33 (by exact ⟨by kernel_rfl, by kernel_rfl, fopens_int (by kernel_rfl), by kernel_rfl, by kernel_rfl, fopens_int (by kernel_rfl), by kernel_rfl, by kernel_rfl, fopens_int (by kernel_rfl), by kernel_rfl, by kernel_rfl, fopens_str (by kernel_rfl), by kernel_rfl, by kernel_rfl, fopens_sl (e := 3) (by kernel_rfl) (by kernel_rfl) (by kernel_rfl) (by kernel_rfl), trivial⟩) (by kernel_rfl) (by kernel_rfl) (by kernel_rfl), opens2_any (opens_int (by kernel_rfl)), opens2_any (opens_int (by kernel_rfl)), trivial⟩)
    (fun X ds h hC => by obtain ⟨_, _, _, _, rfl, rfl, h0, h⟩ := h.inv; obtain ⟨_, _, _, _, rfl, rfl, h1, h⟩ := h.inv; obtain ⟨_, _, _, _, rfl, rfl, h2, h⟩ := h.inv; obtain ⟨_, _, _, _, rfl, rfl, h3, h⟩ := h.inv; obtain ⟨rfl, rfl⟩ := h.inv0; obtain ⟨_, rfl⟩ := h0; obtain ⟨_, _, rfl, _⟩ := h1; obtain ⟨_, rfl⟩ := h2; obtain ⟨_, rfl⟩ := h3; exact rfl) laidOut (by kernel_rfl) (tb := 4) (by kernel_rfl) (by kernel_rfl) rfl
    (fun ds h => by have h2 : ds.length = 4 := h; match ds, h2 with | [_, _, _, _], _ => rfl) hval hW hsz trivial

theorem diskRots_said : Rows.DiskRotsSaid :=
  OpenClaim.holds_of_cond 7 Try.f7 rfl rfl rfl rfl rfl rfl rfl ⟨rfl, rfl, rfl, rfl, rfl⟩ rfl rfl rfl rfl rfl (by kernel_rfl) Try.func7 (by kernel_rfl)
    (of_decide_eq_true (by kernel_rfl)) (by unfold Func.isWrapper; first | (rw [if_pos (by decide +kernel)]; kernel_rfl) | (rw [if_neg (by decide +kernel)]; exact ⟨rfl, rfl⟩))
    (fun os started H enc _ F => by rw [OpenClaim.pre_eq_preRow]; exact diskRots_lifted os started H enc F)
end Go.Proofs.Ytnbgphghghmemaa
