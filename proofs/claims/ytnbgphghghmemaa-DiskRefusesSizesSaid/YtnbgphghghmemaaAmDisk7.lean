/- A disk of three sectors refuses the others. -/
import Derived.Test.YtnbgphghghmemaaAmDisk5
set_option linter.unusedVariables false
set_option linter.unusedSimpArgs false
namespace Go.Dk
open Go Go.Am
theorem bad3 {i : Int} (h : i < 0 ∨ i > 2) : (read (new 3) i).2 = 1 ∧ (∀ s, write (new 3) i s = (new 3, 1)) ∧ rot (new 3) i 0 = (new 3, 1) ∧ wear (new 3) i = (new 3, 1) := by
  have hn : (((new 3).n : Nat) : Int) = 3 := rfl
  have hc : check (new 3) i = 1 := by
    simp only [check]
    rw [show (new 3).off = false from rfl, cond_false]
    by_cases h1 : i < 0
    · rw [cond_pos h1]
    · rw [cond_neg h1, cond_pos (by omega)]
  have e : ((1 : Int) != 0) = true := rfl
  refine ⟨by simp only [read, hc, e, cond_true], fun s => by simp only [write, hc, e, cond_true], ?_, ?_⟩
  · simp only [rot]
    by_cases h1 : i < 0
    · rw [cond_pos h1]
    · rw [cond_neg h1, cond_pos (by omega)]
  · simp only [wear]
    by_cases h1 : i < 0
    · rw [cond_pos h1]
    · rw [cond_neg h1, cond_pos (by omega)]
theorem short3 {s : List Int} (h : (s.length : Int) ≠ 64) : write (new 3) 0 s = (new 3, 1) := by
  have hc : (check (new 3) 0 != 0) = false := rfl
  have e : ((s.length : Int) != 64) = true := by simpa using h
  simp only [write, hc, e, cond_true, cond_false]
theorem fine3 : decide ((new 3).blk.length = (new 3).n * 64 ∧ (new 3).n < 8000) = true ∧ decide ((image (new 3)).length < 1073741824) = true ∧ (pending (new 3)).length = 0 ∧ (wornl (new 3)).length = 0 ∧ decide ((new 3).pend.length < 1073741824) = true ∧ decide ((new 3).worn.length < 1073741824) = true := by
  refine ⟨by decide +kernel, by decide +kernel, ?_, ?_, by decide +kernel, by decide +kernel⟩
  · simp [pending, sortI, keyInts, new]
  · simp [wornl, sortI, keyInts, new]
end Go.Dk
