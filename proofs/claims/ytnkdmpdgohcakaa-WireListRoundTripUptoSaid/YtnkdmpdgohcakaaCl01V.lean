/- What the claim on round trips of lists, on inputs of a bounded bulk, asks. -/
import Derived.Test.YtnkdmpdgohcakaaCl01U
import Derived.Test.YtnkdmpdgohcakaaAm01H
set_option linter.unusedVariables false
namespace Go.Proofs.Ytnkdmpdgohcakaa
open Go Go.Am
theorem small8 {H : Type} {ds : List (DataW H)} {X : List AV} {run : CRun} (h : Fits2 (H := H) [str2, ints2 .i64, strs2, arrs2 16 .u8, ints2 .u8] ds X) (hC : Rows.uptoSmall H ds = true)
    (hrun : ∀ s zs ss xs m t, Wire.small s zs ss m = true → run [.str s, .vs (.rI .i64 zs) 0 1, .vs (.rS ss) 0 1, .vs (.rI .u8 xs) m 16, .vs (.rI .u8 t) 0 1] [] = some (true, .bool true, [])) : run X [] = some (true, .bool true, []) := by
  obtain ⟨d1, ds, x1, X, rfl, rfl, ⟨bs, s, rfl, rfl, hs⟩, h2⟩ := h.inv
  obtain ⟨d2, ds, x2, X, rfl, rfl, ⟨zs, rfl, hz⟩, h3⟩ := h2.inv
  obtain ⟨d3, ds, x3, X, rfl, rfl, ⟨ss, rfl, hss⟩, h4⟩ := h3.inv
  obtain ⟨d4, ds, x4, X, rfl, rfl, ⟨xs, m, rfl, hm⟩, h5⟩ := h4.inv
  obtain ⟨d5, ds, x5, X, rfl, rfl, ⟨t, rfl, _⟩, h6⟩ := h5.inv
  obtain ⟨rfl, rfl⟩ := h6.inv0
  have hB : Rows.uptoBulkAll [.lit (.string bs), d2, d3, d4, d5] ≤ 1048576 := of_decide_eq_true hC
  simp only [Rows.uptoBulkAll, Rows.uptoBulk] at hB
  refine hrun s zs ss xs m t ?_
  have z1 : zs.length ≤ 1048576 := by
    rcases hz with rfl | ⟨es, sp, rfl, he⟩
    · simp
    · have := bulk_len es
      simp only [Rows.uptoBulk] at hB; omega
  have z2 : Wire.total ss ≤ 1048576 := by
    rcases hss with rfl | ⟨bss, sp, rfl, he⟩
    · decide
    · have h1 := bulk_strs (H := H) bss
      have h2 : ss.flatten.length = (bss.map List.length).sum := by rw [List.length_flatten, he]
      have h3 : ss.length = bss.length := by have := congrArg List.length he; simpa using this.symm
      simp only [Rows.uptoBulk, h1] at hB
      unfold Wire.total; omega
  have z3 : m ≤ 1048576 := by
    rcases hm with rfl | ⟨es, sp, rfl, he⟩
    · omega
    · have := bulk_len es
      simp only [Rows.uptoBulk] at hB; omega
  simp only [Wire.small, Bool.and_eq_true, decide_eq_true_eq]
  omega
end Go.Proofs.Ytnkdmpdgohcakaa
