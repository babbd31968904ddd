/- LinkProgress: (Progress.) For all numbers of up to 30 messages at each end, after some packets were lost, delivering the packets of Out in both directions in turn often enough delivers all messages, and none is waiting. -/
import Derived.Test.YtdmlhpojmpiigaaCl34
import Derived.Test.YtdmlhpojmpiigaaAm34H
set_option linter.unusedVariables false
set_option linter.unusedSimpArgs false
namespace Go.Proofs.Ytdmlhpojmpiigaa
open Go Go.Am Go.ChangeShapes Go.WideShapes Go.ChangeAt Go.RowKit

theorem linkProgress_laid (os : Os) : laidMet Try.prog Rows.linkProgressRow.laid ((World.holding Try.prog os ⟨#[], #[], []⟩).forCall (fun _ _ => 0) ⟨#[], #[.int .i64 0, .int .u64 0, .int .i64 0, .int .i64 0, .int .i64 0], []⟩).memory := laidMet_of_run' 8 (by kernel_rfl) (by kernel_rfl)
theorem linkProgress_reads (os : Os) {H : Type} (enc : TypeId × Value → H) : ∃ places, DataW.whole enc Try.prog ((World.holding Try.prog os ⟨#[], #[], []⟩).forCall (fun _ _ => 0) ⟨#[], #[.int .i64 0, .int .u64 0, .int .i64 0, .int .i64 0, .int .i64 0], []⟩).memory Try.f6.params.toList Rows.linkProgressSpec.vars false (#[.int .i64 0, .int .u64 0, .int .i64 0, .int .i64 0, .int .i64 0] : Array Value).toList 8 = some ([.lit (.int .i64 0), .lit (.int .u64 0), .lit (.int .i64 0), .lit (.int .i64 0), .lit (.int .i64 0)], [], places) :=
  ⟨[], by kernel_rfl⟩
set_option maxRecDepth 100000 in
theorem linkProgress_lifted (os : Os) (started : os.Started) (H : Type) (enc : TypeId × Value → H) (F : Stop.Interp) :
    ReturnsInHanded {} Try.checked os 6 .any ((OpenSpec.ofChange Rows.linkProgressSpec).preRow enc Try.prog Try.f6 Rows.linkProgressRow.domain false Rows.linkProgressRow.laid) (((OpenSpec.ofChange Rows.linkProgressSpec).at F).post enc Try.prog Try.f6 false true false false) := by
  obtain ⟨places, hx⟩ := linkProgress_reads os enc
  refine returnsInHanded_of_row (C := Try.checked) (s := OpenSpec.ofChange Rows.linkProgressSpec) own started (by kernel_rfl) Try.func6
    (witness_row_at (enc := enc) (C := Try.checked) false (World.holding Try.prog os ⟨#[], #[], []⟩) #[.int .i64 0, .int .u64 0, .int .i64 0, .int .i64 0, .int .i64 0] rfl (by kernel_rfl) (by kernel_rfl) (by kernel_rfl)
      (OpenSpec.preRow_of_cond 8 hx (by kernel_rfl) (fun k hk => by cases hk) (by kernel_rfl) (linkProgress_laid os))) ?_
  intro W base args ds gs before hval hW _ _ hsz _ _ _
  exact law_calls (P := Try.prog) (fn := Try.f6) (s := Rows.linkProgressSpec) (l := [isInt .i64, isInt .u64, isInt .i64, isInt .i64, isInt .i64]) c6 gok0 (by exact ⟨opens_int (by kernel_rfl), opens_int (by kernel_rfl), opens_int (by kernel_rfl), opens_int (by kernel_rfl), opens_int (by kernel_rfl), trivial⟩)
    (fun X h => by match X, h with | [_, _, _, _, _], ⟨⟨_, rfl⟩, ⟨_, rfl⟩, ⟨_, rfl⟩, ⟨_, rfl⟩, ⟨_, rfl⟩, trivial⟩ => rfl) laidOut (by kernel_rfl) (tb := 4) (by kernel_rfl) (by kernel_rfl) rfl
    (fun ds h => by have h2 : ds.length = 5 := h; match ds, h2 with | [_, _, _, _, _], _ => rfl) hval hW hsz

theorem linkProgress_said : Rows.LinkProgressSaid :=
  OpenClaim.holds_of_cond 6 Try.f6 rfl rfl rfl rfl rfl rfl rfl ⟨rfl, rfl, rfl, rfl, rfl⟩ rfl rfl rfl rfl rfl (by kernel_rfl) Try.func6 (by kernel_rfl)
    (of_decide_eq_true (by kernel_rfl)) (by unfold Func.isWrapper; first | (rw [if_pos (by decide +kernel)]; kernel_rfl) | (rw [if_neg (by decide +kernel)]; exact ⟨rfl, rfl⟩))
    (fun os started H enc _ F => by rw [OpenClaim.pre_eq_preRow]; exact linkProgress_lifted os started H enc F)
end Go.Proofs.Ytdmlhpojmpiigaa
