/- WireTruncated: for every integer, string, and list of integers, strings and digests (whose encodings have at most about 400 bytes), every proper prefix of the encoding yields ErrMore. -/
import Derived.Test.YtnkdmpdgohcakaaCl01U
set_option linter.unusedVariables false
set_option linter.unusedSimpArgs false
namespace Go.Proofs.Ytnkdmpdgohcakaa
open Go Go.Am Go.ChangeShapes Go.WideShapes Go.ChangeAt Go.RowKit

theorem wireTruncated_laid (os : Os) : laidMet Try.prog Rows.wireTruncatedRow.laid ((World.holding Try.prog os ⟨#[], #[], []⟩).forCall (fun _ _ => 0) ⟨#[], #[.int .i64 0, .string ⟨#[]⟩, .slice none 0 0, .slice none 0 0, .slice none 0 0], []⟩).memory := laidMet_of_run' 8 (by kernel_rfl) (by kernel_rfl)
theorem wireTruncated_reads (os : Os) {H : Type} (enc : TypeId × Value → H) : ∃ places, DataW.whole enc Try.prog ((World.holding Try.prog os ⟨#[], #[], []⟩).forCall (fun _ _ => 0) ⟨#[], #[.int .i64 0, .string ⟨#[]⟩, .slice none 0 0, .slice none 0 0, .slice none 0 0], []⟩).memory Try.f9.params.toList Rows.wireTruncatedSpec.vars false (#[.int .i64 0, .string ⟨#[]⟩, .slice none 0 0, .slice none 0 0, .slice none 0 0] : Array Value).toList 8 = some ([.lit (.int .i64 0), .lit (.string []), .nil, .nil, .nil], [], places) :=
  ⟨[], by kernel_rfl⟩
set_option maxRecDepth 100000 in
theorem wireTruncated_lifted (os : Os) (started : os.Started) (H : Type) (enc : TypeId × Value → H) (F : Stop.Interp) :
    ReturnsInHanded {} Try.checked os 9 .any ((OpenSpec.ofChange Rows.wireTruncatedSpec).preRow enc Try.prog Try.f9 Rows.wireTruncatedRow.domain false Rows.wireTruncatedRow.laid) (((OpenSpec.ofChange Rows.wireTruncatedSpec).at F).post enc Try.prog Try.f9 false true false false) := by
  obtain ⟨places, hx⟩ := wireTruncated_reads os enc
  refine returnsInHanded_of_row (C := Try.checked) (s := OpenSpec.ofChange Rows.wireTruncatedSpec) own started (by kernel_rfl) Try.func9
    (witness_row_at (enc := enc) (C := Try.checked) false (World.holding Try.prog os ⟨#[], #[], []⟩) #[.int .i64 0, .string ⟨#[]⟩, .slice none 0 0, .slice none 0 0, .slice none 0 0] rfl (by kernel_rfl) (by kernel_rfl) (by kernel_rfl)
      (OpenSpec.preRow_of_cond 8 hx (by kernel_rfl) (fun k hk => by cases hk) (by kernel_rfl) (wireTruncated_laid os))) ?_
  intro W base args ds gs before hval hW _ hcond hsz _ _ _
  exact law_calls2 (P := Try.prog) (fn := Try.f9) (s := Rows.wireTruncatedSpec) (l := [any2 (isInt .i64), strR, intsR .i64, strsR, arrsR 16 .u8]) (C := fun ds => True) c9 gok0 (by exact ⟨opens2_any (opens_int (by kernel_rfl)), opensR_str (opens2_str (by kernel_rfl)), opensR_ints (e := 3) (by kernel_rfl) (by kernel_rfl) (opens2_ints (e := 3) (by kernel_rfl) (by kernel_rfl) (by kernel_rfl) (by kernel_rfl)), opensR_strs (e := 9) (by kernel_rfl) (by kernel_rfl) (opens2_strs (e := 9) (by kernel_rfl) (by kernel_rfl) (by kernel_rfl) (by kernel_rfl)), opensR_arrs (e := 57) (by kernel_rfl) (by kernel_rfl) (opens2_arrs (e := 57) (e' := 5) (by kernel_rfl) (by kernel_rfl) (by kernel_rfl) (by kernel_rfl) (by kernel_rfl) (by kernel_rfl) (by kernel_rfl)), trivial⟩)
    (fun X ds h hC => reach5 (run := r9) h (fun n s zs ss xs m hs => by show some (Wire.reach s zs ss m, AV.bool true, []) = _; rw [hs])) laidOut (by kernel_rfl) (tb := 4) (by kernel_rfl) (by kernel_rfl) rfl
    (fun ds h => by have h2 : ds.length = 5 := h; match ds, h2 with | [_, _, _, _, _], _ => rfl) hval hW hsz trivial

theorem wireTruncated_said : Rows.WireTruncatedSaid :=
  OpenClaim.holds_of_cond 9 Try.f9 rfl rfl rfl rfl rfl rfl rfl ⟨rfl, rfl, rfl, rfl, rfl⟩ rfl rfl rfl rfl rfl (by kernel_rfl) Try.func9 (by kernel_rfl)
    (of_decide_eq_true (by kernel_rfl)) (by unfold Func.isWrapper; first | (rw [if_pos (by decide +kernel)]; kernel_rfl) | (rw [if_neg (by decide +kernel)]; exact ⟨rfl, rfl⟩))
    (fun os started H enc _ F => by rw [OpenClaim.pre_eq_preRow]; exact wireTruncated_lifted os started H enc F)
end Go.Proofs.Ytnkdmpdgohcakaa
