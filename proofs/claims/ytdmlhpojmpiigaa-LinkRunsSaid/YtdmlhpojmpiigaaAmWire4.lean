/- Lists: what is decoded is what was encoded; the order of encodings. -/
import Derived.Test.YtdmlhpojmpiigaaAmWire3
set_option linter.unusedVariables false
set_option linter.unusedSimpArgs false
namespace Go.Am.Wire
open Go

theorem nat_has {n : Nat} (h : n < 9223372036854775808) : IntKind.i64.has (n : Int) := by
  constructor
  · show (-9223372036854775808 : Int) ≤ _; omega
  · show _ ≤ (9223372036854775807 : Int); omega
theorem int_inj' {m n : Int} (hm : IntKind.i64.has m) (hn : IntKind.i64.has n) {x y : List Int} (h : int m ++ x = int n ++ y) : m = n := by
  have h1 := getInt_int hm x
  rw [h, getInt_int hn y] at h1
  exact (congrArg Prod.fst h1).symm
theorem int_pos (n : Int) : 1 ≤ (int n).length := by rw [int_len]; omega
theorem flat_ge {α : Type} (f : α → List Int) (hf : ∀ x, 1 ≤ (f x).length) : ∀ (l : List α), l.length ≤ (l.flatMap f).length
  | [] => by simp
  | x :: l => by
    have := flat_ge f hf l
    have := hf x
    simp only [List.flatMap_cons, List.length_append, List.length_cons]; omega
theorem count_int {n : Nat} (hn : n < 9223372036854775808) {z : Int} (hz : 0 < z) {t : List Int} (ht : (n : Int) * z ≤ (t.length : Int)) :
    count (int (n : Int) ++ t) z = ((n : Int), ((int (n : Int)).length : Int), 0) := by
  have h := getInt_int (nat_has hn) t
  simp only [count, h]
  have h2 : ¬ ((((int (n : Int) ++ t).length : Nat) : Int) - ((int (n : Int)).length : Int)) / z < (n : Int) := by
    rw [Int.ediv_lt_iff_lt_mul hz, List.length_append]; omega
  rw [if_neg (by decide), if_neg (by omega), if_neg h2]
theorem getBytes_rt {s : List Int} (hs : s.length < 9223372036854775808) (t : List Int) : getBytes (bytes s ++ t) = (s, ((bytes s).length : Int), 0) := by
  have h := count_int (n := s.length) hs (z := 1) (by omega) (t := s ++ t) (by rw [List.length_append]; omega)
  simp only [bytes, List.append_assoc] at h ⊢
  simp only [getBytes, h]
  rw [if_pos trivial, Int.toNat_natCast, Int.toNat_natCast, List.drop_left, List.take_left, List.length_append]
  simp
theorem intsN_rt (b : List Int) : ∀ (l : List Int) (P t acc : List Int), (∀ x ∈ l, IntKind.i64.has x) → b = P ++ (l.flatMap int ++ t) → intsN b l.length (P.length : Int) acc = (acc ++ l, ((P.length + (l.flatMap int).length : Nat) : Int), 0)
  | [], P, t, acc, _, _ => by simp [intsN]
  | x :: l, P, t, acc, hx, hb => by
    have h1 : b.drop ((P.length : Int)).toNat = int x ++ (l.flatMap int ++ t) := by
      rw [hb, Int.toNat_natCast, List.drop_left]; simp
    have h2 := getInt_int (hx x (by simp)) (l.flatMap int ++ t)
    simp only [List.length_cons, intsN, h1, h2]
    rw [if_pos trivial]
    have h3 := intsN_rt b l (P ++ int x) t (acc ++ [x]) (fun y hy => hx y (by simp [hy])) (by rw [hb]; simp)
    rw [List.length_append] at h3
    rw [show (P.length : Int) + ((int x).length : Int) = ((P.length + (int x).length : Nat) : Int) by omega, h3]
    simp [Nat.add_assoc]
theorem getInts_rt {l : List Int} (hl : ∀ x ∈ l, IntKind.i64.has x) (hn : l.length < 9223372036854775808) (t : List Int) : getInts (ints l ++ t) = (l, ((ints l).length : Int), 0) := by
  have hge := flat_ge int int_pos l
  have h := count_int (n := l.length) hn (z := 1) (by omega) (t := l.flatMap int ++ t) (by rw [List.length_append]; omega)
  have h2 := intsN_rt (int (l.length : Int) ++ (l.flatMap int ++ t)) l (int (l.length : Int)) t [] hl rfl
  simp only [ints, List.append_assoc, getInts, h]
  rw [if_pos trivial, Int.toNat_natCast, h2]
  simp
theorem strsN_rt (b : List Int) : ∀ (l : List (List Int)) (P t : List Int) (acc : List (List Int)), (∀ x ∈ l, x.length < 9223372036854775808) → b = P ++ (l.flatMap bytes ++ t) → strsN b l.length (P.length : Int) acc = (acc ++ l, ((P.length + (l.flatMap bytes).length : Nat) : Int), 0)
  | [], P, t, acc, _, _ => by simp [strsN]
  | x :: l, P, t, acc, hx, hb => by
    have h1 : b.drop ((P.length : Int)).toNat = bytes x ++ (l.flatMap bytes ++ t) := by
      rw [hb, Int.toNat_natCast, List.drop_left]; simp
    have h2 := getBytes_rt (hx x (by simp)) (l.flatMap bytes ++ t)
    simp only [List.length_cons, strsN, h1, h2]
    rw [if_pos trivial]
    have h3 := strsN_rt b l (P ++ bytes x) t (acc ++ [x]) (fun y hy => hx y (by simp [hy])) (by rw [hb]; simp)
    rw [List.length_append] at h3
    rw [show (P.length : Int) + ((bytes x).length : Int) = ((P.length + (bytes x).length : Nat) : Int) by omega, h3]
    simp [Nat.add_assoc]
theorem bytes_pos (s : List Int) : 1 ≤ (bytes s).length := by
  have := int_pos (s.length : Int)
  simp only [bytes, List.length_append]; omega
theorem getStrs_rt {l : List (List Int)} (hl : ∀ x ∈ l, x.length < 9223372036854775808) (hn : l.length < 9223372036854775808) (t : List Int) : getStrs (strs l ++ t) = (l, ((strs l).length : Int), 0) := by
  have hge := flat_ge bytes bytes_pos l
  have h := count_int (n := l.length) hn (z := 1) (by omega) (t := l.flatMap bytes ++ t) (by rw [List.length_append]; omega)
  have h2 := strsN_rt (int (l.length : Int) ++ (l.flatMap bytes ++ t)) l (int (l.length : Int)) t [] hl rfl
  simp only [strs, List.append_assoc, getStrs, h]
  rw [if_pos trivial, Int.toNat_natCast, h2]
  simp
theorem getDigs_rt {n : Nat} {xs : List Int} (hx : xs.length = n * 16) (hn : n < 9223372036854775808) (t : List Int) : getDigs (digs n xs ++ t) = (n, xs, ((digs n xs).length : Int), 0) := by
  have h := count_int (n := n) hn (z := 16) (by omega) (t := xs ++ t) (by rw [List.length_append]; omega)
  simp only [digs, List.append_assoc, getDigs, h]
  rw [if_pos trivial, Int.toNat_natCast, Int.toNat_natCast, List.drop_left, List.take_append_of_le_length (by omega), List.take_of_length_le (by omega), List.length_append]
  refine Prod.ext rfl (Prod.ext rfl (Prod.ext ?_ rfl))
  simp only []
  omega

theorem count_canon {b : List Int} {z : Int} (hb : okBytes b) (hz : 0 < z) (h : (count b z).2.2 = 0) : int (getInt b).1 = b.take (getInt b).2.1.toNat := getInt_canon hb (count_ok hb hz h).1
theorem getBytes_canon {b : List Int} (hb : okBytes b) (h : (getBytes b).2.2 = 0) : bytes (getBytes b).1 = b.take (getBytes b).2.1.toNat := by
  simp only [getBytes] at h ⊢
  by_cases c : (count b 1).2.2 = 0
  · obtain ⟨g1, g2, g3, g4, g5, g6, g7⟩ := count_ok hb (by omega) c
    have hc := count_canon hb (by omega) c
    rw [if_pos c, g2, g3]
    simp only [bytes]
    have hl : ((b.drop (getInt b).2.1.toNat).take (getInt b).1.toNat).length = (getInt b).1.toNat := by rw [List.length_take, List.length_drop]; omega
    rw [hl, Int.toNat_of_nonneg g4, hc, ← List.take_add]
    congr 1; omega
  · rw [if_neg c] at h; exact absurd h c
theorem intsN_canon {b : List Int} (hb : okBytes b) : ∀ (n : Nat) (at_ : Int) (acc : List Int), 0 ≤ at_ → at_ ≤ (b.length : Int) → (intsN b n at_ acc).2.2 = 0 →
    ∃ l, (intsN b n at_ acc).1 = acc ++ l ∧ l.length = n ∧ at_ ≤ (intsN b n at_ acc).2.1 ∧ (intsN b n at_ acc).2.1 ≤ (b.length : Int) ∧ b.take (intsN b n at_ acc).2.1.toNat = b.take at_.toNat ++ l.flatMap int
  | 0, at_, acc, h0, h1, _ => ⟨[], by simp [intsN], rfl, by simp [intsN], by simpa [intsN] using h1, by simp [intsN]⟩
  | n + 1, at_, acc, h0, h1, h => by
    have hr := getInt_rng (okBytes_drop hb at_.toNat)
    rw [List.length_drop] at hr
    simp only [intsN] at h ⊢
    by_cases c : (getInt (b.drop at_.toNat)).2.2 = 0
    · rw [if_pos c] at h
      rw [if_pos c]
      obtain ⟨l, q1, q2, q3, q4, q5⟩ := intsN_canon hb n (at_ + (getInt (b.drop at_.toNat)).2.1) (acc ++ [(getInt (b.drop at_.toNat)).1]) (by omega) (by omega) h
      have hc := getInt_canon (okBytes_drop hb at_.toNat) c
      refine ⟨(getInt (b.drop at_.toNat)).1 :: l, by rw [q1]; simp, by simp [q2], by omega, q4, ?_⟩
      rw [q5, List.flatMap_cons, hc, ← List.append_assoc, ← List.take_add, show (at_ + (getInt (b.drop at_.toNat)).2.1).toNat = at_.toNat + (getInt (b.drop at_.toNat)).2.1.toNat by omega]
    · rw [if_neg c] at h; exact absurd h c
theorem getInts_canon {b : List Int} (hb : okBytes b) (h : (getInts b).2.2 = 0) : 0 ≤ (getInts b).2.1 ∧ (getInts b).2.1 ≤ (b.length : Int) ∧ ints (getInts b).1 = b.take (getInts b).2.1.toNat := by
  simp only [getInts] at h ⊢
  by_cases c : (count b 1).2.2 = 0
  · obtain ⟨g1, g2, g3, g4, g5, g6, g7⟩ := count_ok hb (by omega) c
    have hc := count_canon hb (by omega) c
    rw [if_pos c, g2, g3] at h
    rw [if_pos c, g2, g3]
    obtain ⟨l, q1, q2, q3, q4, q5⟩ := intsN_canon hb _ _ _ (by omega) g6 h
    refine ⟨by omega, q4, ?_⟩
    rw [q5, q1, List.nil_append]
    simp only [ints, q2]
    rw [Int.toNat_of_nonneg g4, hc]
  · rw [if_neg c] at h; exact absurd h c
theorem strsN_canon {b : List Int} (hb : okBytes b) : ∀ (n : Nat) (at_ : Int) (acc : List (List Int)), 0 ≤ at_ → at_ ≤ (b.length : Int) → (strsN b n at_ acc).2.2 = 0 →
    ∃ l, (strsN b n at_ acc).1 = acc ++ l ∧ l.length = n ∧ at_ ≤ (strsN b n at_ acc).2.1 ∧ (strsN b n at_ acc).2.1 ≤ (b.length : Int) ∧ b.take (strsN b n at_ acc).2.1.toNat = b.take at_.toNat ++ l.flatMap bytes
  | 0, at_, acc, h0, h1, _ => ⟨[], by simp [strsN], rfl, by simp [strsN], by simpa [strsN] using h1, by simp [strsN]⟩
  | n + 1, at_, acc, h0, h1, h => by
    have hr := getBytes_rng (okBytes_drop hb at_.toNat)
    rw [List.length_drop] at hr
    simp only [strsN] at h ⊢
    by_cases c : (getBytes (b.drop at_.toNat)).2.2 = 0
    · rw [if_pos c] at h
      rw [if_pos c]
      obtain ⟨l, q1, q2, q3, q4, q5⟩ := strsN_canon hb n (at_ + (getBytes (b.drop at_.toNat)).2.1) (acc ++ [(getBytes (b.drop at_.toNat)).1]) (by omega) (by omega) h
      have hc := getBytes_canon (okBytes_drop hb at_.toNat) c
      refine ⟨(getBytes (b.drop at_.toNat)).1 :: l, by rw [q1]; simp, by simp [q2], by omega, q4, ?_⟩
      rw [q5, List.flatMap_cons, hc, ← List.append_assoc, ← List.take_add, show (at_ + (getBytes (b.drop at_.toNat)).2.1).toNat = at_.toNat + (getBytes (b.drop at_.toNat)).2.1.toNat by omega]
    · rw [if_neg c] at h; exact absurd h c
theorem getStrs_canon {b : List Int} (hb : okBytes b) (h : (getStrs b).2.2 = 0) : 0 ≤ (getStrs b).2.1 ∧ (getStrs b).2.1 ≤ (b.length : Int) ∧ strs (getStrs b).1 = b.take (getStrs b).2.1.toNat := by
  simp only [getStrs] at h ⊢
  by_cases c : (count b 1).2.2 = 0
  · obtain ⟨g1, g2, g3, g4, g5, g6, g7⟩ := count_ok hb (by omega) c
    have hc := count_canon hb (by omega) c
    rw [if_pos c, g2, g3] at h
    rw [if_pos c, g2, g3]
    obtain ⟨l, q1, q2, q3, q4, q5⟩ := strsN_canon hb _ _ _ (by omega) g6 h
    refine ⟨by omega, q4, ?_⟩
    rw [q5, q1, List.nil_append]
    simp only [strs, q2]
    rw [Int.toNat_of_nonneg g4, hc]
  · rw [if_neg c] at h; exact absurd h c
theorem getDigs_canon {b : List Int} (hb : okBytes b) (h : (getDigs b).2.2.2 = 0) : 0 ≤ (getDigs b).2.2.1 ∧ (getDigs b).2.2.1 ≤ (b.length : Int) ∧ digs (getDigs b).1 (getDigs b).2.1 = b.take (getDigs b).2.2.1.toNat := by
  simp only [getDigs] at h ⊢
  by_cases c : (count b 16).2.2 = 0
  · obtain ⟨g1, g2, g3, g4, g5, g6, g7⟩ := count_ok hb (by omega) c
    have hc := count_canon hb (by omega) c
    rw [if_pos c, g2, g3]
    simp only [digs]
    refine ⟨by omega, by omega, ?_⟩
    rw [Int.toNat_of_nonneg g4, hc, ← List.take_add]
    congr 1; omega
  · rw [if_neg c] at h; exact absurd h c
end Go.Am.Wire
