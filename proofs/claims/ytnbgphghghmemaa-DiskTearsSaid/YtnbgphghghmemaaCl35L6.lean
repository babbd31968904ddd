/- DiskTears: for every number of sectors up to 64 and every script of at most 60 operations: after Mount with any picks, each sector that was not pending, or is worn, has the same content, and each other one a beginning of the pending content followed by the rest of the old one, as long as its pick says; nothing is pending, and the power is on. -/
import Derived.Test.YtnbgphghghmemaaCl35
import Derived.Test.YtnbgphghghmemaaAm35J
set_option linter.unusedVariables false
set_option linter.unusedSimpArgs false
namespace Go.Proofs.Ytnbgphghghmemaa
open Go Go.Am Go.ChangeShapes Go.WideShapes Go.ChangeAt Go.RowKit

theorem diskTears_laid (os : Os) : laidMet Try.prog Rows.diskTearsRow.laid ((World.holding Try.prog os ⟨#[], #[], []⟩).forCall (fun _ _ => 0) ⟨#[], #[.int .i64 0, .slice none 0 0, .slice none 0 0], []⟩).memory := laidMet_of_run' 8 (by kernel_rfl) (by kernel_rfl)
theorem diskTears_reads (os : Os) {H : Type} (enc : TypeId × Value → H) : ∃ places, DataW.whole enc Try.prog ((World.holding Try.prog os ⟨#[], #[], []⟩).forCall (fun _ _ => 0) ⟨#[], #[.int .i64 0, .slice none 0 0, .slice none 0 0], []⟩).memory Try.f6.params.toList Rows.diskTearsSpec.vars false (#[.int .i64 0, .slice none 0 0, .slice none 0 0] : Array Value).toList 8 = some ([.lit (.int .i64 0), .nil, .nil], [], places) :=
  ⟨[], by kernel_rfl⟩
set_option maxRecDepth 100000 in
theorem diskTears_lifted (os : Os) (started : os.Started) (H : Type) (enc : TypeId × Value → H) (F : Stop.Interp) :
    ReturnsInHanded {} Try.checked os 6 .any ((OpenSpec.ofChange Rows.diskTearsSpec).preRow enc Try.prog Try.f6 Rows.diskTearsRow.domain false Rows.diskTearsRow.laid) (((OpenSpec.ofChange Rows.diskTearsSpec).at F).post enc Try.prog Try.f6 false true false false) := by
  obtain ⟨places, hx⟩ := diskTears_reads os enc
  refine returnsInHanded_of_row (C := Try.checked) (s := OpenSpec.ofChange Rows.diskTearsSpec) own started (by kernel_rfl) Try.func6
    (witness_row_at (enc := enc) (C := Try.checked) false (World.holding Try.prog os ⟨#[], #[], []⟩) #[.int .i64 0, .slice none 0 0, .slice none 0 0] rfl (by kernel_rfl) (by kernel_rfl) (by kernel_rfl)
      (OpenSpec.preRow_of_cond 8 hx (by kernel_rfl) (fun k hk => by cases hk) (by kernel_rfl) (diskTears_laid os))) ?_
  intro W base args ds gs before hval hW _ hcond hsz _ _ _
  exact law_calls2 (P := Try.prog) (fn := Try.f6) (s := Rows.diskTearsSpec) (l := [any2 (isInt .i64), recsR [.int .i64, .int .i64, .int .i64, .str, .sl .i64], intsR .i64]) (C := fun ds => True) c6 gok0 (by exact ⟨opens2_any (opens_int (by kernel_rfl)), opensR_recs (e := 33) (by kernel_rfl) Try.underlying33 (by exact ⟨by kernel_rfl, by kernel_rfl, fopens_int (by kernel_rfl), by kernel_rfl, by kernel_rfl, fopens_int (by kernel_rfl), by kernel_rfl, by kernel_rfl, fopens_int (by kernel_rfl), by kernel_rfl, by kernel_rfl, fopens_str (by kernel_rfl), by kernel_rfl, by kernel_rfl, fopens_sl (e := 3) (by kernel_rfl) (by kernel_rfl) (by kernel_rfl) (by kernel_rfl), trivial⟩) (by kernel_rfl) (by kernel_rfl) (by kernel_rfl), opensR_ints (e := 3) (by kernel_rfl) (by kernel_rfl) (opens2_ints (e := 3) (by kernel_rfl) (by kernel_rfl) (by kernel_rfl) (by kernel_rfl)), trivial⟩)
    (fun X ds h hC => by obtain ⟨_, _, _, _, rfl, rfl, h0, h⟩ := h.inv; obtain ⟨_, _, _, _, rfl, rfl, h1, h⟩ := h.inv; obtain ⟨_, _, _, _, rfl, rfl, h2, h⟩ := h.inv; obtain ⟨rfl, rfl⟩ := h.inv0; obtain ⟨_, rfl⟩ := h0; obtain ⟨_, _, rfl, _⟩ := h1; obtain ⟨_, rfl, _⟩ := h2; exact rfl) laidOut (by kernel_rfl) (tb := 4) (by kernel_rfl) (by kernel_rfl) rfl
    (fun ds h => by have h2 : ds.length = 3 := h; match ds, h2 with | [_, _, _], _ => rfl) hval hW hsz trivial

theorem diskTears_said : Rows.DiskTearsSaid :=
  OpenClaim.holds_of_cond 6 Try.f6 rfl rfl rfl rfl rfl rfl rfl ⟨rfl, rfl, rfl, rfl, rfl⟩ rfl rfl rfl rfl rfl (by kernel_rfl) Try.func6 (by kernel_rfl)
    (of_decide_eq_true (by kernel_rfl)) (by unfold Func.isWrapper; first | (rw [if_pos (by decide +kernel)]; kernel_rfl) | (rw [if_neg (by decide +kernel)]; exact ⟨rfl, rfl⟩))
    (fun os started H enc _ F => by rw [OpenClaim.pre_eq_preRow]; exact diskTears_lifted os started H enc F)
end Go.Proofs.Ytnbgphghghmemaa
