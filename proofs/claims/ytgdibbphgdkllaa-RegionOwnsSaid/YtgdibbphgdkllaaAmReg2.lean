/- Part of a proof about the functions of the given program. -/
import Derived.Test.YtgdibbphgdkllaaAmReg
set_option linter.unusedVariables false
set_option linter.unusedSimpArgs false
namespace Go.Am
open Go
namespace Reg
theorem groups_len (l : List Int) (n many : Nat) : (groups l n many).length ≤ many := by
  unfold groups
  refine Nat.le_trans (List.length_filter_le _ _) ?_
  rw [List.length_map, List.length_range]; exact Nat.le_refl _
theorem groups_mem {l : List Int} {n many : Nat} {x : List Int} (h : x ∈ groups l n many) : 0 < x.length ∧ x.length ≤ n ∧ ∃ q : Nat, q < many ∧ x = cls l ((many : Int) + 1) n n (q : Int) := by
  unfold groups at h
  rw [List.mem_filter, List.mem_map] at h
  obtain ⟨⟨q, hq, rfl⟩, h2⟩ := h
  rw [List.mem_range] at hq
  exact ⟨of_decide_eq_true h2, cls_len _ _ _ _ _, q, hq, rfl⟩
theorem groups_nonempty {l : List Int} {n many : Nat} (hn : n < 1073741000) : nonempty (groups l n many) = true := by
  unfold nonempty
  rw [List.all_eq_true]
  intro x hx
  obtain ⟨h1, h2, _⟩ := groups_mem hx
  simp only [Bool.and_eq_true, decide_eq_true_eq]
  omega
theorem owners_len (l : List Int) (n : Nat) (h : Int) : (owners l n h).length = n := by
  unfold owners; rw [List.length_map, List.length_range]
theorem ups_len (n : Int) (h : Nat) : (ups n h).length = h := by
  unfold ups; rw [List.length_map, List.length_range]
end Reg
end Go.Am
