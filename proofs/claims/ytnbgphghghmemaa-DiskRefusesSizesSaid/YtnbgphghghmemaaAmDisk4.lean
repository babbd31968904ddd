/- What Flush and Mount make of the specification's disk; what stays of what was written. -/
import Derived.Test.YtnbgphghghmemaaAmDisk3
set_option linter.unusedVariables false
set_option linter.unusedSimpArgs false
namespace Go.Dk
open Go Go.Am

theorem rflushK_len (r : R) : ∀ k, (rflushK r k).s.length = r.s.length ∧ (rflushK r k).off = r.off ∧ (rflushK r k).left = r.left
  | 0 => ⟨rfl, rfl, rfl⟩
  | k + 1 => by
    obtain ⟨h1, h2, h3⟩ := rflushK_len r k
    rw [rflushK_succ]
    cases fD ((rflushK r k).at k)
    · exact ⟨h1, h2, h3⟩
    · exact ⟨by rw [cond_true, rsettle_len, h1], h2, h3⟩
theorem rflushK_get (r : R) (j : Nat) (hj : j < r.s.length) : ∀ k, k ≤ r.s.length → (rflushK r k).s.getD j [] = if j < k ∧ fD (r.s.getD j []) = true then settled (r.s.getD j []) 64 else r.s.getD j []
  | 0, _ => by rw [if_neg (by omega)]; rfl
  | k + 1, hk => by
    have ih := rflushK_get r j hj k (by omega)
    have hl := (rflushK_len r k).1
    rw [rflushK_succ]
    by_cases hjk : j = k
    · subst hjk
      rw [if_neg (by omega)] at ih
      have e : fD ((rflushK r j).at (j : Int)) = fD (r.s.getD j []) := by rw [R.at, Int.toNat_natCast, ih]
      rw [e]
      cases hd : fD (r.s.getD j [])
      · rw [if_neg (by simp), cond_false, ih]
      · rw [if_pos ⟨by omega, rfl⟩, cond_true, getD_settle _ _ (by omega), if_pos rfl, ih]
    · have e : (j < k + 1 ∧ fD (r.s.getD j []) = true) = (j < k ∧ fD (r.s.getD j []) = true) := by
        apply propext; constructor <;> rintro ⟨h1, h2⟩ <;> exact ⟨by omega, h2⟩
      simp only [e]
      rw [← ih]
      cases fD ((rflushK r k).at (k : Int))
      · rfl
      · rw [cond_true, getD_settle _ _ (by omega), if_neg (Ne.symm hjk)]
theorem rmountK_len (p : List Int) (r : R) : ∀ k, (rmountK p r k).1.s.length = r.s.length
  | 0 => rfl
  | k + 1 => by
    have h1 := rmountK_len p r k
    rw [rmountK_succ]
    cases fD ((rmountK p r k).1.at k)
    · exact h1
    · rw [cond_true]; show (rsettle _ _ _).s.length = _; rw [rsettle_len, h1]
theorem rmountK_get (p : List Int) (r : R) (j : Nat) (hj : j < r.s.length) : ∀ k, k ≤ r.s.length → (rmountK p r k).2 = (rlist fD r.s k).length ∧
    (rmountK p r k).1.s.getD j [] = if j < k ∧ fD (r.s.getD j []) = true then settled (r.s.getD j []) (p.getD (rlist fD r.s j).length 64) else r.s.getD j []
  | 0, _ => ⟨rfl, by rw [if_neg (by omega)]; rfl⟩
  | k + 1, hk => by
    obtain ⟨i1, i2⟩ := rmountK_get p r j hj k (by omega)
    obtain ⟨_, ik⟩ := rmountK_get p r k (by omega) k (by omega)
    rw [if_neg (by omega)] at ik
    have hl := rmountK_len p r k
    rw [rmountK_succ, rlist_succ]
    have e : fD ((rmountK p r k).1.at (k : Int)) = fD (r.s.getD k []) := by rw [R.at, Int.toNat_natCast, ik]
    rw [e]
    refine ⟨?_, ?_⟩
    · cases fD (r.s.getD k [])
      · exact i1
      · rw [cond_true, cond_true, List.length_append]; show (rmountK p r k).2 + 1 = _; rw [i1]; rfl
    · by_cases hjk : j = k
      · subst hjk
        cases hd : fD (r.s.getD j [])
        · rw [if_neg (by simp), cond_false, ik]
        · rw [if_pos ⟨by omega, rfl⟩, cond_true, getD_settle _ _ (by omega), if_pos rfl, ik, i1]
      · have e2 : (j < k + 1 ∧ fD (r.s.getD j []) = true) = (j < k ∧ fD (r.s.getD j []) = true) := by
          apply propext; constructor <;> rintro ⟨h1, h2⟩ <;> exact ⟨by omega, h2⟩
        simp only [e2]
        rw [← i2]
        cases fD (r.s.getD k [])
        · rfl
        · rw [cond_true, getD_settle _ _ (by omega), if_neg (Ne.symm hjk)]
def V (x : List (List Int)) : List Int := if fD x = true then fN x else fT x
theorem clamp64 : clamp 64 = 64 := by decide
theorem settled_T {x : List (List Int)} (h : GoodX x) (hd : fD x = true) (hw : fW x = false) : fT (settled x 64) = fN x := by
  simp only [settled, fT, List.getD_cons_zero, hw, Bool.not_false, cond_true, clamp64]
  rw [List.take_of_length_le (by rw [h.2 hd]; exact Nat.le_refl _), List.drop_of_length_le, List.append_nil]
  have := h.1
  simp only [fT] at this
  omega
structure Kept (r : R) (last : List (List Int)) : Prop where
  off : r.off = false
  left : r.left < 0
  worn : ∀ i, i < r.s.length → fW (r.s.getD i []) = false
  len : last.length = r.s.length
  val : ∀ i, i < r.s.length → last.getD i [] = V (r.s.getD i [])
theorem rstep_neg {r : R} (h : r.left < 0) : rstep r = (r, 0) := by
  unfold rstep
  rw [show (r.left == 0) = false by simp; omega, cond_false, cond_neg (by omega)]
theorem Kept.flush {r : R} {last : List (List Int)} (h : Kept r last) (hg : RGood r) : (rflush r).2 = 0 ∧ Kept (rflush r).1 last ∧ (∀ i, i < (rflush r).1.s.length → fD ((rflush r).1.s.getD i []) = false) ∧ rimage (rflush r).1 = last := by
  have e : rflush r = (rflushK r r.s.length, 0) := by
    simp only [rflush, h.off, rstep_neg h.left, cond_false, bne_self_eq_false]
  obtain ⟨l1, l2, l3⟩ := rflushK_len r r.s.length
  rw [e]
  have get : ∀ i, i < r.s.length → (fT ((rflushK r r.s.length).s.getD i []) = V (r.s.getD i []) ∧ fD ((rflushK r r.s.length).s.getD i []) = false ∧ fW ((rflushK r r.s.length).s.getD i []) = false) := fun i hi => by
    rw [rflushK_get r i hi _ (Nat.le_refl _)]
    by_cases hd : fD (r.s.getD i []) = true
    · rw [if_pos ⟨hi, hd⟩, settled_T (hg.2 i hi) hd (h.worn i hi), V, if_pos hd]
      refine ⟨rfl, rfl, ?_⟩
      have := h.worn i hi
      simp only [settled, fW, List.getD_cons_succ, List.getD_cons_zero] at this ⊢
      rw [this]; rfl
    · rw [if_neg (fun h => hd h.2), V, if_neg hd]
      exact ⟨rfl, by simpa using hd, h.worn i hi⟩
  refine ⟨rfl, ⟨by rw [l2]; exact h.off, by rw [l3]; exact h.left, fun i hi => (get i (by rw [← l1]; exact hi)).2.2, by rw [l1]; exact h.len, fun i hi => ?_⟩, fun i hi => (get i (by rw [← l1]; exact hi)).2.1, ?_⟩
  · have hi' : i < r.s.length := by rw [← l1]; exact hi
    rw [h.val i hi', V, V]
    simp only [(get i hi').2.1]
    rw [if_neg (by simp : ¬ (false = true)), (get i hi').1, V]
  · refine list_eq [] (by simp [rimage, l1, h.len]) fun i hi => ?_
    simp only [rimage, List.length_map, l1] at hi
    rw [h.val i hi, ← (get i hi).1]
    simp only [rimage, List.getD_eq_getElem?_getD, List.getElem?_map]
    rw [List.getElem?_eq_getElem (by rw [l1]; exact hi)]; rfl
theorem rmount_clean {r : R} (picks : List Int) (h : ∀ i, i < r.s.length → fD (r.s.getD i []) = false) : rimage (rmount r picks) = rimage r := by
  refine list_eq [] (by simp [rimage, rmount, rmountK_len]) fun i hi => ?_
  simp only [rimage, List.length_map, rmount, rmountK_len] at hi
  have := (rmountK_get picks r i hi r.s.length (Nat.le_refl _)).2
  rw [if_neg (fun h' => by rw [h i hi] at h'; cases h'.2)] at this
  simp only [rimage, rmount, List.getD_eq_getElem?_getD, List.getElem?_map] at this ⊢
  rw [List.getElem?_eq_getElem (by rw [rmountK_len]; exact hi), List.getElem?_eq_getElem hi] at this ⊢
  simp only [Option.getD_some] at this
  simp only [Option.map_some, Option.getD_some, this]
theorem Kept.other {r : R} {last : List (List Int)} (h : Kept r last) (hg : RGood r) {k i b : Int} {t p : List Int} (h4 : k ≠ 4) (h5 : k ≠ 5) (h6 : k ≠ 6) (h7 : k ≠ 7) (h1 : k ≠ 1) : Kept (rop r k i b t p).1 last := by
  simp only [rop]
  rw [show (k == 1) = false by simpa using h1, show (k == 4) = false by simpa using h4, show (k == 5) = false by simpa using h5, show (k == 6) = false by simpa using h6, show (k == 7) = false by simpa using h7]
  cases (k == 2)
  · cases (k == 3)
    · exact h
    · exact (h.flush hg).2.1
  · exact h
theorem Kept.write {r : R} {last : List (List Int)} (h : Kept r last) (i : Int) (t : List Int) :
    ((rwrite r i t).2 = 0 ∧ (0 ≤ i ∧ i < (last.length : Int)) ∧ Kept (rwrite r i t).1 (last.set i.toNat t)) ∨ ((rwrite r i t).2 ≠ 0 ∧ Kept (rwrite r i t).1 last) := by
  simp only [rwrite, h.off, cond_false, rstep_neg h.left, bne_self_eq_false]
  cases hi : ris r i
  · exact .inr ⟨(by show (1 : Int) ≠ 0; decide), h⟩
  · simp only [Bool.not_true, cond_false]
    cases hl : ((t.length : Int) != 64)
    · simp only [cond_false]
      have hr := ris_iff.1 hi
      obtain ⟨q, rfl⟩ : ∃ q : Nat, i = (q : Int) := ⟨i.toNat, by omega⟩
      have hq : q < r.s.length := by omega
      rw [Int.toNat_natCast]
      refine .inl ⟨trivial, ⟨by omega, by rw [h.len]; omega⟩, rfl, h.left, fun j hj => ?_, by simp only [List.length_set, wput]; exact h.len, fun j hj => ?_⟩
      · simp only [wput, List.length_set] at hj
        rw [wput_get t hq]
        by_cases hji : q = j
        · subst hji
          rw [if_pos rfl]
          have := h.worn q hj
          simp only [fW] at this ⊢
          rw [tput_get, if_neg (by decide), tput_get, if_neg (by decide)]; exact this
        · rw [if_neg hji]; exact h.worn j hj
      · simp only [wput, List.length_set] at hj
        rw [wput_get t hq, getD_set]
        by_cases hji : q = j
        · subst hji
          rw [if_pos ⟨rfl, by rw [h.len]; exact hj⟩, if_pos rfl, V]
          have e : fD (tput (tput (r.s.getD q []) 1 t) 2 [1]) = true := by simp only [fD]; rw [tput_get, if_pos rfl]; rfl
          rw [if_pos e]; simp only [fN]; rw [tput_get, if_neg (by decide), tput_get, if_pos rfl]
        · rw [if_neg (fun h' => hji h'.1), if_neg hji]; exact h.val j hj
    · exact .inr ⟨(by show (1 : Int) ≠ 0; decide), h⟩
theorem new_kept {n : Int} : Kept (rnew n) ((List.range n.toNat).map fun _ => full 0) := by
  have get : ∀ i : Nat, i < n.toNat → (rnew n).s.getD i [] = [List.replicate 64 0, [], [0], [0]] := fun i hi => by
    simp only [rnew]
    rw [List.getD_eq_getElem?_getD, List.getElem?_replicate, if_pos hi]; rfl
  have hl : (rnew n).s.length = n.toNat := by simp [rnew]
  refine ⟨rfl, (by show (-1 : Int) < 0; decide), fun i hi => by rw [get i (by omega)]; rfl, by simp [hl], fun i hi => ?_⟩
  rw [get i (by omega), List.getD_eq_getElem?_getD, List.getElem?_map, List.getElem?_range (by omega)]
  rfl
end Go.Dk
