/- What Mount leaves, sector by sector. -/
import Derived.Test.YtnbgphghghmemaaAmDisk6
set_option linter.unusedVariables false
set_option linter.unusedSimpArgs false
namespace Go.Dk
open Go Go.Am
theorem rmount_get {r : R} (p : List Int) {j : Nat} (hj : j < r.s.length) : (rmount r p).s.getD j [] = if fD (r.s.getD j []) = true then settled (r.s.getD j []) (p.getD (rlist fD r.s j).length 64) else r.s.getD j [] := by
  have h := (rmountK_get p r j hj r.s.length (Nat.le_refl _)).2
  simp only [hj, true_and] at h
  exact h
theorem rmount_len (r : R) (p : List Int) : (rmount r p).s.length = r.s.length := rmountK_len p r r.s.length
theorem rmount_none {r : R} (p : List Int) {j : Nat} (hj : j < r.s.length) : fD ((rmount r p).s.getD j []) = false := by
  rw [rmount_get p hj]
  by_cases h : fD (r.s.getD j []) = true
  · rw [if_pos h]; rfl
  · rw [if_neg h]; simpa using h
theorem Rel.mount_pending {d : D} {r : R} (h : Rel d r) (p : List Int) : Dk.pending (Dk.mount d p) = [] := by
  rw [(h.mount p).pending, rpending, rmount_len, List.eq_nil_iff_forall_not_mem]
  intro x hx
  obtain ⟨i, h1, h2, _⟩ := mem_rlist.1 hx
  rw [rmount_none p h1] at h2; cases h2
theorem rimage_get {r : R} {j : Nat} (hj : j < r.s.length) : (rimage r).getD j [] = fT (r.s.getD j []) := by
  simp only [rimage, List.getD_eq_getElem?_getD, List.getElem?_map, List.getElem?_eq_getElem hj]; rfl
theorem Rel.mount_get {d : D} {r : R} (h : Rel d r) (p : List Int) {j : Nat} (hj : j < d.n) : (Dk.image (Dk.mount d p)).getD j [] = if fD (r.s.getD j []) = true then fT (settled (r.s.getD j []) (p.getD (rlist fD r.s j).length 64)) else fT (r.s.getD j []) := by
  have hj' : j < r.s.length := by rw [h.n]; exact hj
  rw [(h.mount p).image, rimage_get (by rw [rmount_len]; exact hj'), rmount_get p hj']
  split <;> rfl
theorem Rel.image_get {d : D} {r : R} (h : Rel d r) {j : Nat} (hj : j < d.n) : (Dk.image d).getD j [] = fT (r.s.getD j []) := by
  rw [h.image, rimage_get (by rw [h.n]; exact hj)]
theorem mount_n (d : D) (p : List Int) : (mount d p).n = d.n := mountAll_n p _ 0 d
end Go.Dk
