/- What the claims of this seat share that are on inputs of a bounded bulk. -/
import Derived.Test.YtnkdmpdgohcakaaCl01
import Derived.Test.YtnkdmpdgohcakaaAm01G
import Derived.Test.YtnkdmpdgohcakaaAmClaim2
set_option linter.unusedVariables false
namespace Go.Proofs.Ytnkdmpdgohcakaa
open Go Go.Am
theorem bulk_pos {H : Type} (d : DataW H) : 1 ≤ Rows.uptoBulk d := by
  cases d with
  | lit l => cases l <;> simp [Rows.uptoBulk]
  | _ => simp [Rows.uptoBulk]
theorem bulk_len {H : Type} : ∀ (es : List (DataW H)), es.length ≤ Rows.uptoBulkAll es
  | [] => by simp
  | d :: es => by
    have h1 := bulk_pos d
    have h2 := bulk_len es
    simp only [Rows.uptoBulkAll, List.length_cons]; omega
theorem bulk_strs {H : Type} : ∀ (bss : List (List UInt8)), Rows.uptoBulkAll (H := H) (bss.map fun b => .lit (.string b)) = (bss.map List.length).sum + bss.length
  | [] => by simp [Rows.uptoBulkAll]
  | b :: bss => by
    have := bulk_strs (H := H) bss
    simp only [List.map_cons, Rows.uptoBulkAll, Rows.uptoBulk, List.sum_cons, List.length_cons, this]; omega
theorem small5 {H : Type} {ds : List (DataW H)} {X : List AV} {s : List Int} {run : CRun} (h : Fits2 (H := H) [any2 (isInt .i64), str2, ints2 .i64, strs2, arrs2 16 .u8] ds X) (hC : Rows.uptoSmall H ds = true)
    (hrun : ∀ n s zs ss xs m, Wire.small s zs ss m = true → run [.int .i64 n, .str s, .vs (.rI .i64 zs) 0 1, .vs (.rS ss) 0 1, .vs (.rI .u8 xs) m 16] [] = some (true, .bool true, [])) : run X [] = some (true, .bool true, []) := by
  obtain ⟨d0, ds, x0, X, rfl, rfl, ⟨n, rfl⟩, h1⟩ := h.inv
  obtain ⟨d1, ds, x1, X, rfl, rfl, ⟨bs, s, rfl, rfl, hs⟩, h2⟩ := h1.inv
  obtain ⟨d2, ds, x2, X, rfl, rfl, ⟨zs, rfl, hz⟩, h3⟩ := h2.inv
  obtain ⟨d3, ds, x3, X, rfl, rfl, ⟨ss, rfl, hss⟩, h4⟩ := h3.inv
  obtain ⟨d4, ds, x4, X, rfl, rfl, ⟨xs, m, rfl, hm⟩, h5⟩ := h4.inv
  obtain ⟨rfl, rfl⟩ := h5.inv0
  have hB : Rows.uptoBulkAll [d0, .lit (.string bs), d2, d3, d4] ≤ 1048576 := of_decide_eq_true hC
  simp only [Rows.uptoBulkAll, Rows.uptoBulk] at hB
  refine hrun n s zs ss xs m ?_
  have z1 : zs.length ≤ 1048576 := by
    rcases hz with rfl | ⟨es, sp, rfl, he⟩
    · simp
    · have := bulk_len es
      simp only [Rows.uptoBulk] at hB; omega
  have z2 : Wire.total ss ≤ 1048576 := by
    rcases hss with rfl | ⟨bss, sp, rfl, he⟩
    · decide
    · have h1 := bulk_strs (H := H) bss
      have h2 : ss.flatten.length = (bss.map List.length).sum := by rw [List.length_flatten, he]
      have h3 : ss.length = bss.length := by have := congrArg List.length he; simpa using this.symm
      simp only [Rows.uptoBulk, h1] at hB
      unfold Wire.total; omega
  have z3 : m ≤ 1048576 := by
    rcases hm with rfl | ⟨es, sp, rfl, he⟩
    · omega
    · have := bulk_len es
      simp only [Rows.uptoBulk] at hB; omega
  simp only [Wire.small, Bool.and_eq_true, decide_eq_true_eq]
  omega
theorem reach5 {H : Type} {ds : List (DataW H)} {X : List AV} {run : CRun} (h : Fits2 (H := H) [any2 (isInt .i64), strR, intsR .i64, strsR, arrsR 16 .u8] ds X)
    (hrun : ∀ n s zs ss xs m, Wire.reach s zs ss m = true → run [.int .i64 n, .str s, .vs (.rI .i64 zs) 0 1, .vs (.rS ss) 0 1, .vs (.rI .u8 xs) m 16] [] = some (true, .bool true, [])) : run X [] = some (true, .bool true, []) := by
  obtain ⟨d0, ds, x0, X, rfl, rfl, ⟨n, rfl⟩, h1⟩ := h.inv
  obtain ⟨d1, ds, x1, X, rfl, rfl, ⟨s, rfl, hs⟩, h2⟩ := h1.inv
  obtain ⟨d2, ds, x2, X, rfl, rfl, ⟨zs, rfl, hz⟩, h3⟩ := h2.inv
  obtain ⟨d3, ds, x3, X, rfl, rfl, ⟨ss, rfl, hss, hs2⟩, h4⟩ := h3.inv
  obtain ⟨d4, ds, x4, X, rfl, rfl, ⟨xs, m, rfl, hm⟩, h5⟩ := h4.inv
  obtain ⟨rfl, rfl⟩ := h5.inv0
  refine hrun n s zs ss xs m ?_
  have e : reachBytes = 140737488351232 := by decide
  rw [e] at hs hz hs2 hm
  simp only [Wire.reach, Bool.and_eq_true, decide_eq_true_eq, List.all_eq_true]
  exact ⟨hs, hz, hs2, hm⟩
end Go.Proofs.Ytnkdmpdgohcakaa
