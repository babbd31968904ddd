/- Proper beginnings of encodings. -/
import Derived.Test.YtnkdmpdgohcakaaAmWire5
set_option linter.unusedVariables false
set_option linter.unusedSimpArgs false
namespace Go.Am.Wire
open Go

theorem int_more (n : Int) {i : Nat} (h : i < (int n).length) : (getInt ((int n).take i)).2.2 = 3 := by
  have hk := nb_le (mag n)
  rw [int_len] at h
  rw [int_D]
  cases i with
  | zero => rfl
  | succ i =>
    rw [List.take_succ_cons]
    simp only [getInt]
    rw [cntOf_head, if_neg (by omega), if_pos (by rw [List.length_take, List.length_map, D_len]; omega)]
theorem take_app (a b : List Int) (i : Nat) : (a ++ b).take i = if i < a.length then a.take i else a ++ b.take (i - a.length) := by
  split
  · rw [List.take_append_of_le_length (by omega)]
  · rw [List.take_append]; rw [List.take_of_length_le (by omega)]
theorem count_more {b : List Int} {z : Int} (h : (getInt b).2.2 = 3) : (count b z).2.2 = 3 := by
  simp only [count]; rw [if_pos (by omega), h]
theorem count_short {n : Nat} (hn : n < 9223372036854775808) {z : Int} (hz : 0 < z) {t : List Int} (ht : (t.length : Int) < (n : Int) * z) : (count (int (n : Int) ++ t) z).2.2 = 3 := by
  have h := getInt_int (nat_has hn) t
  simp only [count, h]
  rw [if_neg (by decide), if_neg (by omega), if_pos (by rw [Int.ediv_lt_iff_lt_mul hz, List.length_append]; omega)]
theorem getBytes_more {s : List Int} (hs : s.length < 9223372036854775808) {i : Nat} (h : i < (bytes s).length) : (getBytes ((bytes s).take i)).2.2 = 3 := by
  have hc : (count ((bytes s).take i) 1).2.2 = 3 := by
    simp only [bytes, List.length_append] at h ⊢
    rw [take_app]
    split
    · rename_i h1; exact count_more (int_more _ h1)
    · exact count_short hs (by omega) (by rw [List.length_take]; omega)
  simp only [getBytes]; rw [if_neg (by omega), hc]
theorem getDigs_more {n : Nat} {xs : List Int} (hx : xs.length = n * 16) (hn : n < 9223372036854775808) {i : Nat} (h : i < (digs n xs).length) : (getDigs ((digs n xs).take i)).2.2.2 = 3 := by
  have hc : (count ((digs n xs).take i) 16).2.2 = 3 := by
    simp only [digs, List.length_append] at h ⊢
    rw [take_app]
    split
    · rename_i h1; exact count_more (int_more _ h1)
    · exact count_short hn (by omega) (by rw [List.length_take]; omega)
  simp only [getDigs]; rw [if_neg (by omega), hc]
theorem intsN_more (b : List Int) : ∀ (l : List Int) (P acc : List Int) (j : Nat), (∀ x ∈ l, IntKind.i64.has x) → j < (l.flatMap int).length → b = P ++ (l.flatMap int).take j → (intsN b l.length (P.length : Int) acc).2.2 = 3
  | [], P, acc, j, _, hj, _ => by simp at hj
  | x :: l, P, acc, j, hx, hj, hb => by
    have h1 : b.drop ((P.length : Int)).toNat = ((x :: l).flatMap int).take j := by
      rw [hb, Int.toNat_natCast, List.drop_left]
    rw [List.flatMap_cons, take_app] at h1
    rw [List.flatMap_cons] at hj hb
    simp only [List.length_cons, intsN, h1]
    by_cases hlt : j < (int x).length
    · rw [if_pos hlt, if_neg (by rw [int_more x hlt]; omega)]; exact int_more x hlt
    · rw [if_neg hlt, getInt_int (hx x (by simp))]
      simp only []
      rw [if_pos trivial]
      rw [List.length_append] at hj
      have h3 := intsN_more b l (P ++ int x) (acc ++ [x]) (j - (int x).length) (fun y hy => hx y (by simp [hy])) (by omega) (by rw [hb, take_app, if_neg hlt, List.append_assoc])
      rw [List.length_append] at h3
      rw [show (P.length : Int) + ((int x).length : Int) = ((P.length + (int x).length : Nat) : Int) by omega]
      exact h3
theorem getInts_more {l : List Int} (hl : ∀ x ∈ l, IntKind.i64.has x) (hn : l.length < 9223372036854775808) {i : Nat} (h : i < (ints l).length) : (getInts ((ints l).take i)).2.2 = 3 := by
  simp only [ints, List.length_append] at h ⊢
  rw [take_app]
  by_cases h1 : i < (int (l.length : Int)).length
  · rw [if_pos h1]
    have hc := count_more (z := 1) (int_more _ h1)
    simp only [getInts]; rw [if_neg (by omega), hc]
  · rw [if_neg h1]
    by_cases h2 : ((l.flatMap int).take (i - (int (l.length : Int)).length)).length < l.length
    · have hc := count_short (n := l.length) hn (z := 1) (by omega) (t := (l.flatMap int).take (i - (int (l.length : Int)).length)) (by omega)
      simp only [getInts]; rw [if_neg (by omega), hc]
    · have hc := count_int (n := l.length) hn (z := 1) (by omega) (t := (l.flatMap int).take (i - (int (l.length : Int)).length)) (by omega)
      simp only [getInts, hc]
      rw [if_pos trivial, Int.toNat_natCast]
      exact intsN_more _ l _ [] _ hl (by omega) rfl
theorem strsN_more (b : List Int) : ∀ (l : List (List Int)) (P : List Int) (acc : List (List Int)) (j : Nat), (∀ x ∈ l, x.length < 9223372036854775808) → j < (l.flatMap bytes).length → b = P ++ (l.flatMap bytes).take j → (strsN b l.length (P.length : Int) acc).2.2 = 3
  | [], P, acc, j, _, hj, _ => by simp at hj
  | x :: l, P, acc, j, hx, hj, hb => by
    have h1 : b.drop ((P.length : Int)).toNat = ((x :: l).flatMap bytes).take j := by
      rw [hb, Int.toNat_natCast, List.drop_left]
    rw [List.flatMap_cons, take_app] at h1
    rw [List.flatMap_cons] at hj hb
    simp only [List.length_cons, strsN, h1]
    by_cases hlt : j < (bytes x).length
    · rw [if_pos hlt, if_neg (by rw [getBytes_more (hx x (by simp)) hlt]; omega)]; exact getBytes_more (hx x (by simp)) hlt
    · rw [if_neg hlt, getBytes_rt (hx x (by simp))]
      simp only []
      rw [if_pos trivial]
      rw [List.length_append] at hj
      have h3 := strsN_more b l (P ++ bytes x) (acc ++ [x]) (j - (bytes x).length) (fun y hy => hx y (by simp [hy])) (by omega) (by rw [hb, take_app, if_neg hlt, List.append_assoc])
      rw [List.length_append] at h3
      rw [show (P.length : Int) + ((bytes x).length : Int) = ((P.length + (bytes x).length : Nat) : Int) by omega]
      exact h3
theorem getStrs_more {l : List (List Int)} (hl : ∀ x ∈ l, x.length < 9223372036854775808) (hn : l.length < 9223372036854775808) {i : Nat} (h : i < (strs l).length) : (getStrs ((strs l).take i)).2.2 = 3 := by
  simp only [strs, List.length_append] at h ⊢
  rw [take_app]
  by_cases h1 : i < (int (l.length : Int)).length
  · rw [if_pos h1]
    have hc := count_more (z := 1) (int_more _ h1)
    simp only [getStrs]; rw [if_neg (by omega), hc]
  · rw [if_neg h1]
    by_cases h2 : ((l.flatMap bytes).take (i - (int (l.length : Int)).length)).length < l.length
    · have hc := count_short (n := l.length) hn (z := 1) (by omega) (t := (l.flatMap bytes).take (i - (int (l.length : Int)).length)) (by omega)
      simp only [getStrs]; rw [if_neg (by omega), hc]
    · have hc := count_int (n := l.length) hn (z := 1) (by omega) (t := (l.flatMap bytes).take (i - (int (l.length : Int)).length)) (by omega)
      simp only [getStrs, hc]
      rw [if_pos trivial, Int.toNat_natCast]
      exact strsN_more _ l _ [] _ hl (by omega) rfl

/-! Sizes. -/
theorem int_le9 (n : Int) : (int n).length ≤ 9 := by have := nb_le (mag n); rw [int_len]; omega
theorem bytes_le (s : List Int) : (bytes s).length ≤ s.length + 9 := by
  have := int_le9 (s.length : Int)
  simp only [bytes, List.length_append]; omega
theorem ints_le (l : List Int) : (ints l).length ≤ 9 + 9 * l.length := by
  have hle : ∀ l : List Int, (l.flatMap int).length ≤ 9 * l.length := by
    intro l
    induction l with
    | nil => simp
    | cons x l ih =>
      have := int_le9 x
      simp only [List.flatMap_cons, List.length_append, List.length_cons]; omega
  have := int_le9 (l.length : Int)
  have := hle l
  simp only [ints, List.length_append]; omega
theorem strs_le (l : List (List Int)) : (strs l).length ≤ 9 + 9 * l.length + l.flatten.length := by
  have hle : ∀ l : List (List Int), (l.flatMap bytes).length ≤ 9 * l.length + l.flatten.length := by
    intro l
    induction l with
    | nil => simp
    | cons x l ih =>
      have := bytes_le x
      simp only [List.flatMap_cons, List.length_append, List.length_cons, List.flatten_cons]; omega
  have := int_le9 (l.length : Int)
  have := hle l
  simp only [strs, List.length_append]; omega
theorem mem_le_total {l : List (List Int)} {s : List Int} (h : s ∈ l) : s.length ≤ total l := by
  have : ∀ l : List (List Int), s ∈ l → s.length ≤ l.flatten.length := by
    intro l
    induction l with
    | nil => intro h; simp at h
    | cons x l ih =>
      intro h
      rw [List.flatten_cons, List.length_append]
      rcases List.mem_cons.mp h with rfl | h
      · omega
      · have := ih h; omega
  have := this l h
  unfold total; omega
theorem small_ok {s l : List Int} {x : List (List Int)} {m : Nat} (h : small s l x m = true) : s.length ≤ 1048576 ∧ l.length ≤ 1048576 ∧ total x ≤ 1048576 ∧ m ≤ 1048576 := by
  simp only [small, Bool.and_eq_true, decide_eq_true_eq] at h
  exact h
/-- What any memory holds. -/
def reach (s l : List Int) (x : List (List Int)) (m : Nat) : Bool := decide (s.length ≤ 140737488351232) && (decide (l.length ≤ 140737488351232) && (x.all (fun s => decide (s.length ≤ 140737488351232)) && decide (m ≤ 140737488351232)))
theorem reach_ok {s l : List Int} {x : List (List Int)} {m : Nat} (h : reach s l x m = true) : s.length ≤ 140737488351232 ∧ l.length ≤ 140737488351232 ∧ (∀ s ∈ x, s.length ≤ 140737488351232) ∧ m ≤ 140737488351232 := by
  simp only [reach, Bool.and_eq_true, decide_eq_true_eq, List.all_eq_true] at h
  exact h
theorem flatten_bd {B : Nat} : ∀ (l : List (List Int)), (∀ s ∈ l, s.length ≤ B) → l.flatten.length ≤ B * l.length
  | [], _ => by simp
  | x :: l, h => by
    have h1 := flatten_bd l (fun y hy => h y (by simp [hy]))
    have h2 := h x (by simp)
    simp only [List.flatten_cons, List.length_append, List.length_cons, Nat.mul_add, Nat.mul_one]; omega
end Go.Am.Wire
