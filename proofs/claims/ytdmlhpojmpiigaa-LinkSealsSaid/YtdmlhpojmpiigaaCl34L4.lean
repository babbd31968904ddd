/- LinkSeals: For all keys and bytes, Seal returns the specified bytes, and Open leads back; for all bytes, and sealed ones with one byte changed or cut off, or with another key, Open returns the specified bytes or error, and the sealed packet with a message delivers it; joined with package wire. -/
import Derived.Test.YtdmlhpojmpiigaaCl34
import Derived.Test.YtdmlhpojmpiigaaAm34F
set_option linter.unusedVariables false
set_option linter.unusedSimpArgs false
namespace Go.Proofs.Ytdmlhpojmpiigaa
open Go Go.Am Go.ChangeShapes Go.WideShapes Go.ChangeAt Go.RowKit

theorem linkSeals_laid (os : Os) : laidMet Try.prog Rows.linkSealsRow.laid ((World.holding Try.prog os ⟨#[], #[], []⟩).forCall (fun _ _ => 0) ⟨#[], #[.int .u64 0, .int .u64 0, .slice none 0 0, .int .i64 0, .int .u8 0], []⟩).memory := laidMet_of_run' 8 (by kernel_rfl) (by kernel_rfl)
theorem linkSeals_reads (os : Os) {H : Type} (enc : TypeId × Value → H) : ∃ places, DataW.whole enc Try.prog ((World.holding Try.prog os ⟨#[], #[], []⟩).forCall (fun _ _ => 0) ⟨#[], #[.int .u64 0, .int .u64 0, .slice none 0 0, .int .i64 0, .int .u8 0], []⟩).memory Try.f4.params.toList Rows.linkSealsSpec.vars false (#[.int .u64 0, .int .u64 0, .slice none 0 0, .int .i64 0, .int .u8 0] : Array Value).toList 8 = some ([.lit (.int .u64 0), .lit (.int .u64 0), .nil, .lit (.int .i64 0), .lit (.int .u8 0)], [], places) :=
  ⟨[], by kernel_rfl⟩
set_option maxRecDepth 100000 in
theorem linkSeals_lifted (os : Os) (started : os.Started) (H : Type) (enc : TypeId × Value → H) (F : Stop.Interp) :
    ReturnsInHanded {} Try.checked os 4 .any ((OpenSpec.ofChange Rows.linkSealsSpec).preRow enc Try.prog Try.f4 Rows.linkSealsRow.domain false Rows.linkSealsRow.laid) (((OpenSpec.ofChange Rows.linkSealsSpec).at F).post enc Try.prog Try.f4 false true false false) := by
  obtain ⟨places, hx⟩ := linkSeals_reads os enc
  refine returnsInHanded_of_row (C := Try.checked) (s := OpenSpec.ofChange Rows.linkSealsSpec) own started (by kernel_rfl) Try.func4
    (witness_row_at (enc := enc) (C := Try.checked) false (World.holding Try.prog os ⟨#[], #[], []⟩) #[.int .u64 0, .int .u64 0, .slice none 0 0, .int .i64 0, .int .u8 0] rfl (by kernel_rfl) (by kernel_rfl) (by kernel_rfl)
      (OpenSpec.preRow_of_cond 8 hx (by kernel_rfl) (fun k hk => by cases hk) (by kernel_rfl) (linkSeals_laid os))) ?_
  intro W base args ds gs before hval hW _ _ hsz _ _ _
  exact law_calls (P := Try.prog) (fn := Try.f4) (s := Rows.linkSealsSpec) (l := [isInt .u64, isInt .u64, isInts .u8, isInt .i64, isInt .u8]) c4 gok0 (by exact ⟨opens_int (by kernel_rfl), opens_int (by kernel_rfl), opens_ints (e := 5) (by kernel_rfl) (by kernel_rfl) (by kernel_rfl) (by kernel_rfl), opens_int (by kernel_rfl), opens_int (by kernel_rfl), trivial⟩)
    (fun X h => by match X, h with | [_, _, _, _, _], ⟨⟨_, rfl⟩, ⟨_, rfl⟩, ⟨_, rfl⟩, ⟨_, rfl⟩, ⟨_, rfl⟩, trivial⟩ => rfl) laidOut (by kernel_rfl) (tb := 4) (by kernel_rfl) (by kernel_rfl) rfl
    (fun ds h => by have h2 : ds.length = 5 := h; match ds, h2 with | [_, _, _, _, _], _ => rfl) hval hW hsz

theorem linkSeals_said : Rows.LinkSealsSaid :=
  OpenClaim.holds_of_cond 4 Try.f4 rfl rfl rfl rfl rfl rfl rfl ⟨rfl, rfl, rfl, rfl, rfl⟩ rfl rfl rfl rfl rfl (by kernel_rfl) Try.func4 (by kernel_rfl)
    (of_decide_eq_true (by kernel_rfl)) (by unfold Func.isWrapper; first | (rw [if_pos (by decide +kernel)]; kernel_rfl) | (rw [if_neg (by decide +kernel)]; exact ⟨rfl, rfl⟩))
    (fun os started H enc _ F => by rw [OpenClaim.pre_eq_preRow]; exact linkSeals_lifted os started H enc F)
end Go.Proofs.Ytdmlhpojmpiigaa
