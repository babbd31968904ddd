/- LinkOrder: (Order.) For all sequences of up to 80 calls in which packets of the other end alone are delivered, in any order and repeatedly, the messages that an end delivers are the first ones that the other one sent, each once, and no seal is wrong. -/
import Derived.Test.YtdmlhpojmpiigaaCl34
import Derived.Test.YtdmlhpojmpiigaaAm34I
set_option linter.unusedVariables false
set_option linter.unusedSimpArgs false
namespace Go.Proofs.Ytdmlhpojmpiigaa
open Go Go.Am Go.ChangeShapes Go.WideShapes Go.ChangeAt Go.RowKit

theorem linkOrder_laid (os : Os) : laidMet Try.prog Rows.linkOrderRow.laid ((World.holding Try.prog os ⟨#[], #[], []⟩).forCall (fun _ _ => 0) ⟨#[], #[.int .i64 0, .int .u64 0, .slice none 0 0], []⟩).memory := laidMet_of_run' 8 (by kernel_rfl) (by kernel_rfl)
theorem linkOrder_reads (os : Os) {H : Type} (enc : TypeId × Value → H) : ∃ places, DataW.whole enc Try.prog ((World.holding Try.prog os ⟨#[], #[], []⟩).forCall (fun _ _ => 0) ⟨#[], #[.int .i64 0, .int .u64 0, .slice none 0 0], []⟩).memory Try.f5.params.toList Rows.linkOrderSpec.vars false (#[.int .i64 0, .int .u64 0, .slice none 0 0] : Array Value).toList 8 = some ([.lit (.int .i64 0), .lit (.int .u64 0), .nil], [], places) :=
  ⟨[], by kernel_rfl⟩
set_option maxRecDepth 100000 in
theorem linkOrder_lifted (os : Os) (started : os.Started) (H : Type) (enc : TypeId × Value → H) (F : Stop.Interp) :
    ReturnsInHanded {} Try.checked os 5 .any ((OpenSpec.ofChange Rows.linkOrderSpec).preRow enc Try.prog Try.f5 Rows.linkOrderRow.domain false Rows.linkOrderRow.laid) (((OpenSpec.ofChange Rows.linkOrderSpec).at F).post enc Try.prog Try.f5 false true false false) := by
  obtain ⟨places, hx⟩ := linkOrder_reads os enc
  refine returnsInHanded_of_row (C := Try.checked) (s := OpenSpec.ofChange Rows.linkOrderSpec) own started (by kernel_rfl) Try.func5
    (witness_row_at (enc := enc) (C := Try.checked) false (World.holding Try.prog os ⟨#[], #[], []⟩) #[.int .i64 0, .int .u64 0, .slice none 0 0] rfl (by kernel_rfl) (by kernel_rfl) (by kernel_rfl)
      (OpenSpec.preRow_of_cond 8 hx (by kernel_rfl) (fun k hk => by cases hk) (by kernel_rfl) (linkOrder_laid os))) ?_
  intro W base args ds gs before hval hW _ _ hsz _ _ _
  exact law_calls (P := Try.prog) (fn := Try.f5) (s := Rows.linkOrderSpec) (l := [isInt .i64, isInt .u64, isInts .i64]) c5 gok0 (by exact ⟨opens_int (by kernel_rfl), opens_int (by kernel_rfl), opens_ints (e := 3) (by kernel_rfl) (by kernel_rfl) (by kernel_rfl) (by kernel_rfl), trivial⟩)
    (fun X h => by match X, h with | [_, _, _], ⟨⟨_, rfl⟩, ⟨_, rfl⟩, ⟨_, rfl⟩, trivial⟩ => rfl) laidOut (by kernel_rfl) (tb := 4) (by kernel_rfl) (by kernel_rfl) rfl
    (fun ds h => by have h2 : ds.length = 3 := h; match ds, h2 with | [_, _, _], _ => rfl) hval hW hsz

theorem linkOrder_said : Rows.LinkOrderSaid :=
  OpenClaim.holds_of_cond 5 Try.f5 rfl rfl rfl rfl rfl rfl rfl ⟨rfl, rfl, rfl, rfl, rfl⟩ rfl rfl rfl rfl rfl (by kernel_rfl) Try.func5 (by kernel_rfl)
    (of_decide_eq_true (by kernel_rfl)) (by unfold Func.isWrapper; first | (rw [if_pos (by decide +kernel)]; kernel_rfl) | (rw [if_neg (by decide +kernel)]; exact ⟨rfl, rfl⟩))
    (fun os started H enc _ F => by rw [OpenClaim.pre_eq_preRow]; exact linkOrder_lifted os started H enc F)
end Go.Proofs.Ytdmlhpojmpiigaa
