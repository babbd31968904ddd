/- Links: seals and lists. -/
import Derived.Test.YtdmlhpojmpiigaaAmLink
set_option linter.unusedVariables false
set_option linter.unusedSimpArgs false
namespace Go.Am
open Go
theorem foldl_take {α : Type} (f : α → Int → α) (z : α) (l : List Int) (i : Nat) (h : i < l.length) : (l.take (i + 1)).foldl f z = f ((l.take i).foldl f z) (l.getD i 0) := by
  rw [List.take_succ_eq_append_getElem h, List.foldl_append]
  simp [List.getD_eq_getElem?_getD, List.getElem?_eq_getElem h]
theorem flatten_take' (l : List (List Int)) (i : Nat) (h : i < l.length) : (l.take (i + 1)).flatten = (l.take i).flatten ++ l.getD i [] := by
  rw [List.take_succ_eq_append_getElem h, List.flatten_append]
  simp [List.getD_eq_getElem?_getD, List.getElem?_eq_getElem h]
theorem flatten_take_le (l : List (List Int)) (i : Nat) : (l.take i).flatten.length ≤ l.flatten.length := by
  have := congrArg (fun x => x.flatten.length) (List.take_append_drop i l)
  simp only [List.flatten_append, List.length_append] at this
  omega
namespace Wire
theorem int_le9 (n : Int) : (int n).length ≤ 9 := by
  rw [int_len]; have := nb_le (mag n); omega
end Wire
namespace Lk
theorem mixB_range (h c : Int) : 0 ≤ mixB h c ∧ mixB h c < 18446744073709551616 := by unfold mixB; omega
theorem init_range (key : Int) : 0 ≤ ibits .xor .u64 14695981039346656037 key ∧ ibits .xor .u64 14695981039346656037 key < 18446744073709551616 := by
  have := ibits_has .xor .u64 14695981039346656037 key
  unfold IntKind.has IntKind.min IntKind.max at this
  simp only [IntKind.signed, IntKind.bits] at this
  simp at this; omega
theorem hash_range (key : Int) (b : List Int) : 0 ≤ hash key b ∧ hash key b < 18446744073709551616 := by
  unfold hash
  have : ∀ (b : List Int) (z : Int), (0 ≤ z ∧ z < 18446744073709551616) → 0 ≤ b.foldl mixB z ∧ b.foldl mixB z < 18446744073709551616 := by
    intro b
    induction b with
    | nil => intro z h; exact h
    | cons c b ih => intro z _; exact ih _ (mixB_range z c)
  exact this b _ (init_range key)
theorem mixB_eq (h c : Int) : IntKind.u64.wrap (ibits .xor .u64 h (IntKind.u64.wrap c) * 1099511628211) = mixB h c := by rw [u64mod]; rfl
theorem seal8_length (h : Int) : (seal8 h).length = 8 := by simp [seal8]
theorem sealed_length (k : Int) (b : List Int) : (sealed k b).length = b.length + 8 := by simp [sealed, seal8_length]
theorem pow8 (i : Nat) : (2 : Int) ^ (8 * i) = 256 ^ i := by rw [Int.pow_mul]; rfl
theorem byte_at {h : Int} (h0 : 0 ≤ h) {i : Nat} (hi : i < 8) : IntKind.u8.wrap (Int.fdiv h (2 ^ (min (Int.toNat (IntKind.i64.wrap (8 * (i : Int)))) 64))) = h / 256 ^ i % 256 := by
  rw [i64w (by omega) (by omega), show (8 * (i : Int)).toNat = 8 * i by omega, Nat.min_eq_left (by omega), pow8, u8mod, Int.fdiv_eq_ediv_of_nonneg _ (Int.le_of_lt (Int.pow_pos (by omega)))]
theorem ints2_length (a b : Int) : (Wire.ints [a, b]).length ≤ 30 := by
  have := Wire.int_le9 a
  have := Wire.int_le9 b
  have := Wire.int_le9 (([a, b].length : Nat) : Int)
  unfold Wire.ints
  simp only [List.length_append, List.flatMap_cons, List.flatMap_nil, List.length_nil]
  omega
theorem pbytes_length (s a : Int) (b : List Int) : (pbytes s a b).length ≤ b.length + 40 := by
  have := ints2_length s a
  have := Wire.int_le9 ((b.length : Nat) : Int)
  unfold pbytes Wire.bytes
  simp only [List.length_append]
  omega
theorem fineN_iff {n : Nat} {e : E} : fineN n e = true ↔ (0 < e.win ∧ e.win < 17) ∧ (0 ≤ e.ack ∧ e.ack < n) ∧ (0 ≤ e.del ∧ e.del < n) ∧ (0 ≤ e.forged ∧ e.forged < n) ∧ e.wait.length < 1001 ∧ (∀ b ∈ e.wait, b.length < 65537) ∧ e.held.length < n := by
  simp only [fineN, Bool.and_eq_true, decide_eq_true_eq, List.all_eq_true]
  constructor
  · rintro ⟨⟨⟨a1, a2⟩, ⟨a3, a4⟩, a5, a6⟩, ⟨⟨a7, a8⟩, a9, a10⟩, a11⟩
    exact ⟨⟨by omega, by omega⟩, ⟨a3, by omega⟩, ⟨a5, by omega⟩, ⟨a7, by omega⟩, a9, a10, a11⟩
  · rintro ⟨⟨a1, a2⟩, ⟨a3, a4⟩, ⟨a5, a6⟩, ⟨a7, a8⟩, a9, a10, a11⟩
    exact ⟨⟨⟨by omega, by omega⟩, ⟨a3, by omega⟩, a5, by omega⟩, ⟨⟨a7, by omega⟩, a9, a10⟩, a11⟩
theorem mdel_len {es : List (List Int × List Int)} {k : List Int} (h : mhas es k = true) : (mdel es k).length < es.length := by
  unfold mhas at h
  rw [List.any_eq_true] at h
  obtain ⟨e, he, hk⟩ := h
  unfold mdel
  refine Nat.lt_of_le_of_ne (List.length_filter_le _ _) fun hh => ?_
  have := List.length_filter_eq_length_iff.1 hh e he
  simp [hk] at this
theorem mput_len (es : List (List Int × List Int)) (k v : List Int) : (mput es k v).length ≤ es.length + 1 := by
  induction es with
  | nil => simp [mput]
  | cons e es ih =>
    simp only [mput]
    cases e.1 == k
    · simp only [cond_false, List.length_cons]; omega
    · simp only [cond_true, List.length_cons]; omega
theorem packs_take (key d : Int) : ∀ (l : List (List Int)) (n : Int) (i : Nat), i < l.length → packs key n d (l.take (i + 1)) = packs key n d (l.take i) ++ [sealed key (pbytes (n + i + 1) d (l.getD i []))]
  | [], n, i, h => by simp at h
  | b :: l, n, 0, h => by simp [packs]
  | b :: l, n, i + 1, h => by
    have := packs_take key d l (n + 1) i (by simpa using h)
    simp only [List.take_succ_cons, packs, this, List.cons_append, List.getD_cons_succ]
    rw [show n + 1 + (i : Int) + 1 = n + ((i + 1 : Nat) : Int) + 1 by push_cast; omega]
theorem packs_length (key d : Int) : ∀ (l : List (List Int)) (n : Int), (packs key n d l).length = l.length
  | [], _ => rfl
  | b :: l, n => by simp [packs, packs_length key d l]
theorem rd_valid {c : List Int} (h : (rd c).2.2.2 = true) : 0 ≤ (rd c).1 ∧ 0 ≤ (rd c).2.1 ∧ (rd c).2.2.1.length ≤ 65536 := by
  unfold rd at h ⊢
  cases hp : pread c with
  | none => rw [hp] at h; cases h
  | some t =>
    obtain ⟨s, a, b⟩ := t
    rw [hp] at h
    simp only [valid, Bool.and_eq_true, decide_eq_true_eq] at h
    exact ⟨h.1.1.1, h.1.1.2, h.1.2⟩
theorem openB_len (key : Int) (b : List Int) : (openB key b).1.length ≤ b.length := by
  unfold openB
  split
  · simp
  · split
    · rw [List.length_take]; exact Nat.min_le_right _ _
    · simp
theorem delv_spec : ∀ (m : Nat) (e : E) (l : List (List Int)), e.held.length ≤ m → mhas e.held [e.del + 1] = false → delv m e l = (e, l)
  | 0, e, l, _, _ => rfl
  | m + 1, e, l, _, h => by simp only [delv, h, cond_false]
end Lk
end Go.Am
