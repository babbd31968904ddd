/- The encoding of numbers and strings; codes and digests. -/
import Derived.Test.YtdmlhpojmpiigaaAmSha
set_option linter.unusedVariables false
set_option linter.unusedSimpArgs false
namespace Go.Am.Wire
open Go

def mag (n : Int) : Nat := (if n < 0 then -1 - n else n).toNat
def nbF : Nat → Nat → Nat
  | 0, _ => 0
  | f + 1, m => if m = 0 then 0 else nbF f (m / 256) + 1
def nb (m : Nat) : Nat := nbF 8 m
def dig (n : Int) (i : Nat) : Int := if n < 0 then 255 - ((mag n / 256 ^ i % 256 : Nat) : Int) else ((mag n / 256 ^ i % 256 : Nat) : Int)
def head (n : Int) : Int := if n < 0 then 127 - (nb (mag n) : Int) else 128 + (nb (mag n) : Int)
def int (n : Int) : List Int := head n :: (List.range (nb (mag n))).map fun j => dig n (nb (mag n) - 1 - j)
def bytes (t : List Int) : List Int := int (t.length : Int) ++ t

theorem nbF_le : ∀ (f m : Nat), nbF f m ≤ f
  | 0, _ => Nat.le_refl _
  | f + 1, m => by
    unfold nbF; split
    · omega
    · have := nbF_le f (m / 256); omega
theorem nb_le (m : Nat) : nb m ≤ 8 := nbF_le 8 m
theorem nbF_lt : ∀ (f m : Nat), m < 256 ^ f → m < 256 ^ nbF f m
  | 0, m, h => h
  | f + 1, m, h => by
    unfold nbF; split
    · rename_i h0; subst h0; decide
    · have := nbF_lt f (m / 256) (by rw [Nat.pow_succ] at h; omega)
      rw [Nat.pow_succ]; omega
theorem nbF_ge : ∀ (f m : Nat), 0 < nbF f m → 256 ^ (nbF f m - 1) ≤ m
  | 0, m, h => by simp [nbF] at h
  | f + 1, m, h => by
    unfold nbF at h ⊢; split
    · rename_i h0; rw [if_pos h0] at h; omega
    · rename_i h0
      rw [Nat.add_sub_cancel]
      by_cases hz : nbF f (m / 256) = 0
      · rw [hz]; simp; omega
      · have := nbF_ge f (m / 256) (by omega)
        obtain ⟨k, hk⟩ : ∃ k, nbF f (m / 256) = k + 1 := ⟨nbF f (m / 256) - 1, by omega⟩
        rw [hk] at this ⊢
        rw [Nat.add_sub_cancel] at this
        rw [Nat.pow_succ]; omega
theorem nb_lt {m : Nat} (h : m < 18446744073709551616) : m < 256 ^ nb m := nbF_lt 8 m h
theorem nb_ge {m : Nat} (h : 0 < nb m) : 256 ^ (nb m - 1) ≤ m := nbF_ge 8 m h
theorem nb_shift {m : Nat} {j : Nat} (h : m < 18446744073709551616) : m / 256 ^ j = 0 ↔ nb m ≤ j := by
  constructor
  · intro h0
    refine Nat.le_of_not_lt fun hlt => ?_
    have h1 := nb_ge (m := m) (by omega)
    have h2 : 256 ^ j ≤ 256 ^ (nb m - 1) := Nat.pow_le_pow_right (by omega) (by omega)
    have h3 := Nat.div_pos (Nat.le_trans h2 h1) (Nat.pow_pos (by omega))
    omega
  · intro hle
    exact Nat.div_eq_of_lt (Nat.lt_of_lt_of_le (nb_lt h) (Nat.pow_le_pow_right (by omega) hle))
theorem int_len (n : Int) : (int n).length = nb (mag n) + 1 := by simp [int]
theorem mag_lt {n : Int} (h : IntKind.i64.has n) : mag n < 9223372036854775808 := by
  obtain ⟨h1, h2⟩ := h
  simp only [IntKind.min, IntKind.max, IntKind.signed, IntKind.bits] at h1 h2
  unfold mag; simp at h1 h2; split <;> omega
end Go.Am.Wire
namespace Go.Am
open Go
theorem shr_nat (m e : Nat) : Int.fdiv (m : Int) (2 ^ e) = ((m / 2 ^ e : Nat) : Int) := by
  rw [Int.fdiv_eq_ediv_of_nonneg _ (Int.le_of_lt (Int.pow_pos (by decide)))]
  simp
theorem pow256 (j : Nat) : 2 ^ (8 * j) = 256 ^ j := by rw [Nat.pow_mul]
theorem xor8_255 (x : Int) (h0 : 0 ≤ x) (h1 : x ≤ 255) : ibits .xor .u8 x 255 = 255 - x := by
  have key : ∀ x : Fin 256, ibits .xor .u8 (x.val : Int) 255 = 255 - (x.val : Int) := by decide +kernel
  have := key ⟨x.toNat, by omega⟩
  simpa [Int.toNat_of_nonneg h0] using this
theorem xor8_0 (x : Int) (h0 : 0 ≤ x) (h1 : x ≤ 255) : ibits .xor .u8 x 0 = x := by
  have key : ∀ x : Fin 256, ibits .xor .u8 (x.val : Int) 0 = (x.val : Int) := by decide +kernel
  have := key ⟨x.toNat, by omega⟩
  simpa [Int.toNat_of_nonneg h0] using this
theorem not64 (x : Int) (h0 : 0 ≤ x) (h1 : x ≤ 18446744073709551615) : ibits .xor .u64 18446744073709551615 x = 18446744073709551615 - x := by
  show IntKind.u64.wrap ((BitVec.ofInt 64 18446744073709551615 ^^^ BitVec.ofInt 64 x).toNat) = _
  have e : BitVec.ofInt 64 18446744073709551615 = BitVec.allOnes 64 := by decide
  rw [e, BitVec.allOnes_xor, BitVec.toNat_not, BitVec.toNat_ofInt, u64w (by omega) (by omega)]
  omega
end Go.Am
namespace Go.Am.Sha
open Go
def xpad (k : List Int) (w : Int) : List Int := (List.range 64).map fun i => ibits .xor .u8 (k.getD i 0) w
def mac (k t : List Int) : List Int :=
  let k' := if k.length > 64 then hash k else k
  hash (xpad k' 92 ++ hash (xpad k' 54 ++ t))
def input (tag : Int) (l : List (List Int)) : List Int := IntKind.u8.wrap tag :: l.flatMap Wire.bytes
def of (tag : Int) (l : List (List Int)) : List Int := (hash (input tag l)).take 16
def few (l : List (List Int)) : Bool := decide (l.length < 1073741824) && l.all fun s => decide (s.length < 1073741800)
def hexd : List Int := [48, 49, 50, 51, 52, 53, 54, 55, 56, 57, 97, 98, 99, 100, 101, 102]
def hex (s : List Int) : List Int := s.flatMap fun x => [hexd.getD (x / 16).toNat 0, hexd.getD (x % 16).toNat 0]
theorem out_len (s : List Int) : (out s).length = 32 := by simp [out]
theorem hash_len (b : List Int) : (hash b).length = 32 := out_len _
def padded (b : List Int) : List Int := b ++ pad (b.length : Int)
def few12 (l : List (List Int)) : Bool := decide (l.length ≤ 12) && l.all fun s => decide (s.length ≤ 400)
def key64 (k : List Int) : List Int := if k.length > 64 then hash k else k
end Go.Am.Sha
namespace Go.Am.Wire
open Go
theorem mag_nat (n : Nat) : mag (n : Int) = n := by unfold mag; rw [if_neg (by omega)]; omega
theorem dig_nat (n i : Nat) : dig (n : Int) i = ((n / 256 ^ i % 256 : Nat) : Int) := by unfold dig; rw [if_neg (by omega), mag_nat]
theorem digits_inj : ∀ (k m n : Nat), m < 256 ^ k → n < 256 ^ k → (∀ i, i < k → m / 256 ^ i % 256 = n / 256 ^ i % 256) → m = n
  | 0, m, n, hm, hn, _ => by simp at hm hn; omega
  | k + 1, m, n, hm, hn, h => by
    have h0 := h 0 (by omega)
    simp only [Nat.pow_zero, Nat.div_one] at h0
    have h1 := digits_inj k (m / 256) (n / 256) (by rw [Nat.pow_succ] at hm; omega) (by rw [Nat.pow_succ] at hn; omega) (fun i hi => by
      have := h (i + 1) (by omega)
      rwa [Nat.pow_succ, Nat.mul_comm, ← Nat.div_div_eq_div_mul, ← Nat.div_div_eq_div_mul] at this)
    omega
theorem int_inj {m n : Nat} (hm : m < 9223372036854775808) (hn : n < 9223372036854775808) {x y : List Int} (h : int (m : Int) ++ x = int (n : Int) ++ y) : m = n ∧ x = y := by
  have hh : head (m : Int) = head (n : Int) := by
    simp only [int, List.cons_append] at h; injection h
  unfold head at hh
  rw [if_neg (by omega), if_neg (by omega), mag_nat, mag_nat] at hh
  have hk : nb m = nb n := by omega
  have hl : (int (m : Int)).length = (int (n : Int)).length := by rw [int_len, int_len, mag_nat, mag_nat, hk]
  obtain ⟨h1, h2⟩ := List.append_inj h hl
  refine ⟨digits_inj (nb m) m n (nb_lt (by omega)) (by rw [hk]; exact nb_lt (by omega)) fun i hi => ?_, h2⟩
  simp only [int, List.cons.injEq, mag_nat] at h1
  have h3 := h1.2
  rw [← hk] at h3
  have h4 : ((List.range (nb m)).map fun j => dig (m : Int) (nb m - 1 - j))[nb m - 1 - i]? = ((List.range (nb m)).map fun j => dig (n : Int) (nb m - 1 - j))[nb m - 1 - i]? := by rw [h3]
  rw [List.getElem?_map, List.getElem?_map, List.getElem?_range (by omega)] at h4
  simp only [Option.map_some, Option.some.injEq, dig_nat] at h4
  rw [show nb m - 1 - (nb m - 1 - i) = i by omega] at h4
  omega
theorem bytes_inj {s t x y : List Int} (hs : s.length < 9223372036854775808) (ht : t.length < 9223372036854775808) (h : bytes s ++ x = bytes t ++ y) : s = t ∧ x = y := by
  simp only [bytes, List.append_assoc] at h
  obtain ⟨h1, h2⟩ := int_inj hs ht h
  exact List.append_inj h2 h1
theorem bytes_ne (s : List Int) : bytes s ≠ [] := by simp [bytes, int]
theorem flat_inj : ∀ (a b : List (List Int)), (∀ s ∈ a, s.length < 9223372036854775808) → (∀ s ∈ b, s.length < 9223372036854775808) → a.flatMap bytes = b.flatMap bytes → a = b
  | [], [], _, _, _ => rfl
  | [], t :: b, _, _, h => by
    simp only [List.flatMap_nil, List.flatMap_cons] at h
    exact absurd (List.append_eq_nil_iff.mp h.symm).1 (bytes_ne t)
  | s :: a, [], _, _, h => by
    simp only [List.flatMap_nil, List.flatMap_cons] at h
    exact absurd (List.append_eq_nil_iff.mp h).1 (bytes_ne s)
  | s :: a, t :: b, ha, hb, h => by
    simp only [List.flatMap_cons] at h
    obtain ⟨h1, h2⟩ := bytes_inj (ha s (by simp)) (hb t (by simp)) h
    rw [h1, flat_inj a b (fun x hx => ha x (by simp [hx])) (fun x hx => hb x (by simp [hx])) h2]
end Go.Am.Wire
namespace Go.Am.Sha
open Go
theorem xpad_zero (k : List Int) (w : Int) : xpad (k ++ [0]) w = xpad k w := by
  unfold xpad
  congr 1; funext i
  have : (k ++ [0]).getD i 0 = k.getD i 0 := by
    simp only [List.getD_eq_getElem?_getD, List.getElem?_append]
    split
    · rfl
    · rename_i h
      rw [List.getElem?_eq_none (show k.length ≤ i by omega)]
      cases hi : i - k.length with
      | zero => rfl
      | succ n => simp
  rw [this]
end Go.Am.Sha
