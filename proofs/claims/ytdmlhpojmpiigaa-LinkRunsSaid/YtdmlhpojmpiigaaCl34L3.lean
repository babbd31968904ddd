/- LinkRuns: For all keys and sequences of up to 60 calls of Send, Out and In at two ends, in which packets are delivered in any order, repeatedly, with a byte changed, or with other numbers and the right seal, every result and error, and the numbers of waiting messages and wrong seals are the specified ones. -/
import Derived.Test.YtdmlhpojmpiigaaCl34
import Derived.Test.YtdmlhpojmpiigaaAm34K
set_option linter.unusedVariables false
set_option linter.unusedSimpArgs false
namespace Go.Proofs.Ytdmlhpojmpiigaa
open Go Go.Am Go.ChangeShapes Go.WideShapes Go.ChangeAt Go.RowKit

theorem linkRuns_laid (os : Os) : laidMet Try.prog Rows.linkRunsRow.laid ((World.holding Try.prog os ⟨#[], #[], []⟩).forCall (fun _ _ => 0) ⟨#[], #[.int .i64 0, .int .u64 0, .slice none 0 0], []⟩).memory := laidMet_of_run' 8 (by kernel_rfl) (by kernel_rfl)
theorem linkRuns_reads (os : Os) {H : Type} (enc : TypeId × Value → H) : ∃ places, DataW.whole enc Try.prog ((World.holding Try.prog os ⟨#[], #[], []⟩).forCall (fun _ _ => 0) ⟨#[], #[.int .i64 0, .int .u64 0, .slice none 0 0], []⟩).memory Try.f3.params.toList Rows.linkRunsSpec.vars false (#[.int .i64 0, .int .u64 0, .slice none 0 0] : Array Value).toList 8 = some ([.lit (.int .i64 0), .lit (.int .u64 0), .nil], [], places) :=
  ⟨[], by kernel_rfl⟩
set_option maxRecDepth 100000 in
theorem linkRuns_lifted (os : Os) (started : os.Started) (H : Type) (enc : TypeId × Value → H) (F : Stop.Interp) :
    ReturnsInHanded {} Try.checked os 3 .any ((OpenSpec.ofChange Rows.linkRunsSpec).preRow enc Try.prog Try.f3 Rows.linkRunsRow.domain false Rows.linkRunsRow.laid) (((OpenSpec.ofChange Rows.linkRunsSpec).at F).post enc Try.prog Try.f3 false true false false) := by
  obtain ⟨places, hx⟩ := linkRuns_reads os enc
  refine returnsInHanded_of_row (C := Try.checked) (s := OpenSpec.ofChange Rows.linkRunsSpec) own started (by kernel_rfl) Try.func3
    (witness_row_at (enc := enc) (C := Try.checked) false (World.holding Try.prog os ⟨#[], #[], []⟩) #[.int .i64 0, .int .u64 0, .slice none 0 0] rfl (by kernel_rfl) (by kernel_rfl) (by kernel_rfl)
      (OpenSpec.preRow_of_cond 8 hx (by kernel_rfl) (fun k hk => by cases hk) (by kernel_rfl) (linkRuns_laid os))) ?_
  intro W base args ds gs before hval hW _ _ hsz _ _ _
  exact law_calls (P := Try.prog) (fn := Try.f3) (s := Rows.linkRunsSpec) (l := [isInt .i64, isInt .u64, isInts .i64]) c3 gok0 (by exact ⟨opens_int (by kernel_rfl), opens_int (by kernel_rfl), opens_ints (e := 3) (by kernel_rfl) (by kernel_rfl) (by kernel_rfl) (by kernel_rfl), trivial⟩)
    (fun X h => by match X, h with | [_, _, _], ⟨⟨_, rfl⟩, ⟨_, rfl⟩, ⟨_, rfl⟩, trivial⟩ => rfl) laidOut (by kernel_rfl) (tb := 4) (by kernel_rfl) (by kernel_rfl) rfl
    (fun ds h => by have h2 : ds.length = 3 := h; match ds, h2 with | [_, _, _], _ => rfl) hval hW hsz

theorem linkRuns_said : Rows.LinkRunsSaid :=
  OpenClaim.holds_of_cond 3 Try.f3 rfl rfl rfl rfl rfl rfl rfl ⟨rfl, rfl, rfl, rfl, rfl⟩ rfl rfl rfl rfl rfl (by kernel_rfl) Try.func3 (by kernel_rfl)
    (of_decide_eq_true (by kernel_rfl)) (by unfold Func.isWrapper; first | (rw [if_pos (by decide +kernel)]; kernel_rfl) | (rw [if_neg (by decide +kernel)]; exact ⟨rfl, rfl⟩))
    (fun os started H enc _ F => by rw [OpenClaim.pre_eq_preRow]; exact linkRuns_lifted os started H enc F)
end Go.Proofs.Ytdmlhpojmpiigaa
