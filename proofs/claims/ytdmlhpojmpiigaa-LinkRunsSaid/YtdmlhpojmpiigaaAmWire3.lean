/- Numbers: what is decoded is what was encoded; an encoding is the only one. -/
import Derived.Test.YtdmlhpojmpiigaaAmWire2
set_option linter.unusedVariables false
set_option linter.unusedSimpArgs false
namespace Go.Am.Wire
open Go

def D (k m : Nat) : List Nat := (List.range k).map fun j => m / 256 ^ (k - 1 - j) % 256
def nval (l : List Nat) : Nat := l.foldl (fun a c => a * 256 + c) 0
def unf (neg : Prop) [Decidable neg] (d : Nat) : Int := if neg then 255 - (d : Int) else (d : Int)

theorem D_len (k m : Nat) : (D k m).length = k := by simp [D]
theorem D_succ (k m : Nat) : D (k + 1) m = D k (m / 256) ++ [m % 256] := by
  unfold D
  rw [List.range_succ, List.map_append]
  congr 1
  · apply List.map_congr_left
    intro j hj
    rw [List.mem_range] at hj
    rw [show k + 1 - 1 - j = (k - 1 - j) + 1 by omega, Nat.pow_succ, Nat.mul_comm, Nat.div_div_eq_div_mul]
  · simp
theorem nval_snoc (l : List Nat) (c : Nat) : nval (l ++ [c]) = nval l * 256 + c := by simp [nval, List.foldl_append]
theorem nval_D : ∀ (k m : Nat), m < 256 ^ k → nval (D k m) = m
  | 0, m, h => by simp at h; subst h; rfl
  | k + 1, m, h => by
    rw [D_succ, nval_snoc, nval_D k (m / 256) (by rw [Nat.pow_succ] at h; omega)]; omega
theorem nval_lt (l : List Nat) (h : ∀ c ∈ l, c < 256) : nval l < 256 ^ l.length ∧ D l.length (nval l) = l := by
  generalize hn : l.length = n
  induction n generalizing l with
  | zero =>
    have : l = [] := List.length_eq_zero_iff.mp hn
    subst this
    simp [nval, D]
  | succ n ih =>
    obtain ⟨L, c, rfl⟩ : ∃ L c, l = L ++ [c] := by
      rcases List.eq_nil_or_concat l with rfl | ⟨L, c, e⟩
      · simp at hn
      · exact ⟨L, c, by rw [e]; simp⟩
    rw [List.length_append, List.length_singleton] at hn
    obtain ⟨h1, h2⟩ := ih L (fun x hx => h x (by simp [hx])) (by omega)
    have hc := h c (by simp)
    rw [nval_snoc, D_succ, Nat.pow_succ, show (nval L * 256 + c) / 256 = nval L by omega, show (nval L * 256 + c) % 256 = c by omega, h2]
    exact ⟨by omega, rfl⟩
theorem val_nval (h : Int) (l : List Nat) (hl : ∀ d ∈ l, d < 256) : val h (l.map (unf (h < 128))) = (nval l : Int) := by
  have key : ∀ (l : List Nat) (a : Nat), (l.map (unf (h < 128))).foldl (fun a c => a * 256 + flp h c) (a : Int) = ((l.foldl (fun a c => a * 256 + c) a : Nat) : Int) := by
    intro l
    induction l with
    | nil => intro a; rfl
    | cons d l ih =>
      intro a
      have : flp h (unf (h < 128) d) = (d : Int) := by unfold flp unf; split <;> omega
      rw [List.map_cons, List.foldl_cons, this, List.foldl_cons, ← ih]
      rfl
  exact key l 0
theorem head_lt (n : Int) : (head n < 128) ↔ n < 0 := by
  have := nb_le (mag n)
  unfold head; split <;> omega
theorem cntOf_head (n : Int) : cntOf (head n) = nb (mag n) := by
  have := nb_le (mag n)
  unfold cntOf
  by_cases h : n < 0
  · rw [if_pos ((head_lt n).mpr h)]; unfold head; rw [if_pos h]; omega
  · rw [if_neg (fun e => h ((head_lt n).mp e))]; unfold head; rw [if_neg h]; omega
theorem int_D (n : Int) : int n = head n :: (D (nb (mag n)) (mag n)).map (unf (head n < 128)) := by
  unfold int D
  rw [List.map_map]
  congr 1
  apply List.map_congr_left
  intro j _
  simp only [Function.comp, dig, unf, head_lt]
theorem D_mem {k m : Nat} : ∀ d ∈ D k m, d < 256 := by
  intro d hd
  simp only [D, List.mem_map] at hd
  obtain ⟨j, _, rfl⟩ := hd
  exact Nat.mod_lt _ (by decide)
theorem D_head {k m : Nat} (hk : 0 < k) : (D k m).getD 0 0 = m / 256 ^ (k - 1) % 256 := by
  unfold D
  rw [List.getD_eq_getElem?_getD, List.getElem?_map, List.getElem?_range hk]; rfl
theorem getInt_int {n : Int} (hn : IntKind.i64.has n) (t : List Int) : getInt (int n ++ t) = (n, ((int n).length : Int), 0) := by
  have hm := mag_lt hn
  have hk := nb_le (mag n)
  have hlt := nb_lt (show mag n < 18446744073709551616 by omega)
  rw [int_len]
  rw [int_D, List.cons_append]
  generalize hK : nb (mag n) = k at *
  have hlen : ((D k (mag n)).map (unf (head n < 128))).length = k := by simp [D_len]
  have htk : (((D k (mag n)).map (unf (head n < 128))) ++ t).take k = (D k (mag n)).map (unf (head n < 128)) := by
    rw [List.take_append_of_le_length (by omega), List.take_of_length_le (by omega)]
  simp only [getInt]
  rw [cntOf_head, hK, htk, val_nval _ _ D_mem, nval_D k _ hlt, if_neg (by omega), if_neg (by rw [List.length_append]; omega), if_neg, if_neg (by omega)]
  · refine Prod.ext ?_ (Prod.ext (by simp) rfl)
    simp only []
    by_cases h : n < 0
    · rw [if_pos ((head_lt n).mpr h)]; unfold mag; rw [if_pos h]; omega
    · rw [if_neg (fun e => h ((head_lt n).mp e))]; unfold mag; rw [if_neg h]; omega
  · rintro ⟨h0, h1⟩
    have e : (((D k (mag n)).map (unf (head n < 128))) ++ t).getD 0 0 = unf (head n < 128) ((D k (mag n)).getD 0 0) := by
      have : 0 < (D k (mag n)).length := by rw [D_len]; exact h0
      simp [List.getD_eq_getElem?_getD, List.getElem?_append, this]
    rw [e, D_head h0] at h1
    have h2 : mag n / 256 ^ (k - 1) < 256 := by
      rw [Nat.div_lt_iff_lt_mul (Nat.pow_pos (by decide)), ← Nat.pow_succ', show (k - 1).succ = k by omega]; exact hlt
    have h3 : ¬ (mag n / 256 ^ (k - 1) = 0) := by rw [nb_shift (show mag n < 18446744073709551616 by omega), hK]; omega
    rw [Nat.mod_eq_of_lt h2] at h1
    generalize mag n / 256 ^ (k - 1) = q at *
    unfold flp unf at h1
    split at h1 <;> omega
theorem canon {h : Int} {t : List Int} (hh : 0 ≤ h ∧ h ≤ 255) (ht : okBytes t) (hl : cntOf h ≤ t.length) (hv : val h (t.take (cntOf h)) < 9223372036854775808) :
    (int (if h < 128 then -1 - val h (t.take (cntOf h)) else val h (t.take (cntOf h))) = h :: t.take (cntOf h)) ↔ ¬ (0 < cntOf h ∧ flp h (t.getD 0 0) = 0) := by
  have hb : okBytes (t.take (cntOf h)) := fun x hx => ht x (List.mem_of_mem_take hx)
  have hl1 : (t.take (cntOf h)).length = cntOf h := by rw [List.length_take]; omega
  have hu : (t.take (cntOf h)) = ((t.take (cntOf h)).map fun d => (flp h d).toNat).map (unf (h < 128)) := by
    rw [List.map_map]
    have : ∀ (l : List Int), okBytes l → l = l.map ((unf (h < 128)) ∘ fun d => (flp h d).toNat) := by
      intro l
      induction l with
      | nil => intro _; rfl
      | cons d l ih =>
        intro hl
        have hd := hl d (by simp)
        rw [List.map_cons, ← ih (fun x hx => hl x (by simp [hx]))]
        congr 1
        simp only [Function.comp, unf, flp]; split <;> omega
    exact this _ hb
  have hd : ∀ d ∈ (t.take (cntOf h)).map fun d => (flp h d).toNat, d < 256 := by
    intro d hd
    obtain ⟨x, hx, rfl⟩ := List.mem_map.mp hd
    have := flp_rng (h := h) (hb x hx)
    omega
  have hlen : ((t.take (cntOf h)).map fun d => (flp h d).toNat).length = cntOf h := by rw [List.length_map, hl1]
  have h00 : 0 < cntOf h → ((t.take (cntOf h)).map fun d => (flp h d).toNat).getD 0 0 = (flp h (t.getD 0 0)).toNat := by
    intro h0
    have : 0 < t.length := by omega
    simp [List.getD_eq_getElem?_getD, List.getElem?_take, h0, this]
  have hf0 : 0 < cntOf h → 0 ≤ flp h (t.getD 0 0) := fun h0 => by
    have : 0 < t.length := by omega
    have hm : t.getD 0 0 ∈ t := by rw [List.getD_eq_getElem?_getD, List.getElem?_eq_getElem this]; exact List.getElem_mem _
    exact (flp_rng (ht _ hm)).1
  rw [hu] at hv ⊢
  generalize (t.take (cntOf h)).map (fun d => (flp h d).toNat) = l at *
  rw [val_nval h l hd] at hv ⊢
  obtain ⟨g1, g2⟩ := nval_lt l hd
  rw [hlen] at g1 g2
  generalize hk : cntOf h = k at *
  generalize hm : nval l = m at *
  generalize hn : (if h < 128 then -1 - (m : Int) else (m : Int)) = n
  have hneg : n < 0 ↔ h < 128 := by rw [← hn]; split <;> omega
  have hmag : mag n = m := by unfold mag; rw [← hn]; split <;> split <;> omega
  have hhead : nb m = k → head n = h := by
    intro e
    unfold head; rw [hmag, e, ← hk]; unfold cntOf
    by_cases h1 : h < 128
    · rw [if_pos (hneg.mpr h1), if_pos h1]; omega
    · rw [if_neg (fun e => h1 (hneg.mp e)), if_neg h1]; omega
  have hle : nb m ≤ k := by
    rw [← nb_shift (show m < 18446744073709551616 by omega)]; exact Nat.div_eq_of_lt g1
  have hlead : 0 < k → (nb m ≤ k - 1 ↔ flp h (t.getD 0 0) = 0) := by
    intro h0
    rw [← nb_shift (show m < 18446744073709551616 by omega)]
    have e1 : l.getD 0 0 = m / 256 ^ (k - 1) % 256 := by
      have := D_head (k := k) (m := m) h0
      rw [g2] at this; exact this
    have h2 : m / 256 ^ (k - 1) < 256 := by
      rw [Nat.div_lt_iff_lt_mul (Nat.pow_pos (by decide)), ← Nat.pow_succ', show (k - 1).succ = k by omega]; exact g1
    rw [Nat.mod_eq_of_lt h2, h00 h0] at e1
    have := hf0 h0
    omega
  constructor
  · rintro e ⟨h0, h1⟩
    have h2 := (hlead h0).mpr h1
    have h3 := congrArg List.length e
    rw [int_len, hmag, List.length_cons, List.length_map, hlen] at h3
    omega
  · intro hno
    have e : nb m = k := by
      by_cases h0 : 0 < k
      · have : ¬ (nb m ≤ k - 1) := fun h2 => hno ⟨h0, (hlead h0).mp h2⟩
        omega
      · omega
    rw [int_D, hmag, e, g2, hhead e]
theorem getInt_canon {b : List Int} (hb : okBytes b) (h : (getInt b).2.2 = 0) : int (getInt b).1 = b.take (getInt b).2.1.toNat := by
  cases b with
  | nil => simp [getInt] at h
  | cons h0 t =>
    have hh := hb h0 (by simp)
    have ht : okBytes t := fun x hx => hb x (by simp [hx])
    simp only [getInt] at h ⊢
    by_cases c1 : 8 < cntOf h0
    · rw [if_pos c1] at h; simp at h
    rw [if_neg c1] at h ⊢
    by_cases c2 : t.length < cntOf h0
    · rw [if_pos c2] at h; simp at h
    rw [if_neg c2] at h ⊢
    by_cases c3 : 0 < cntOf h0 ∧ flp h0 (t.getD 0 0) = 0
    · rw [if_pos c3] at h; simp at h
    rw [if_neg c3] at h ⊢
    by_cases c4 : 9223372036854775808 ≤ val h0 (t.take (cntOf h0))
    · rw [if_pos c4] at h; simp at h
    rw [if_neg c4]
    simp only []
    rw [(canon hh ht (by omega) (by omega)).mpr c3, show ((cntOf h0 : Int) + 1).toNat = cntOf h0 + 1 by omega, List.take_succ_cons]
theorem okB_of {b : List Int} (h : okRI .u8 b) : okBytes b := fun x hx => has_u8 (h x hx)
theorem okBytes_drop {b : List Int} (h : okBytes b) (n : Nat) : okBytes (b.drop n) := fun x hx => h x (List.mem_of_mem_drop hx)
theorem okBytes_take {b : List Int} (h : okBytes b) (n : Nat) : okBytes (b.take n) := fun x hx => h x (List.mem_of_mem_take hx)
theorem val_step (h : Int) (t : List Int) (j : Nat) (hj : j < t.length) : val h (t.take (j + 1)) = val h (t.take j) * 256 + flp h (t.getD j 0) := by
  rw [take_one t j hj]; simp [val, List.foldl_append]
theorem byte_getD {t : List Int} (ht : okBytes t) (k : Nat) : 0 ≤ t.getD k 0 ∧ t.getD k 0 ≤ 255 := by
  by_cases hi : k < t.length
  · rw [List.getD_eq_getElem?_getD, List.getElem?_eq_getElem hi]; exact ht _ (List.getElem_mem hi)
  · rw [List.getD_eq_getElem?_getD, List.getElem?_eq_none (by omega)]; simp
theorem val_mono (h : Int) {t : List Int} (ht : okBytes t) (j : Nat) (hj : j < t.length) : ∀ k, j < k → k ≤ t.length → val h (t.take j) * 256 ≤ val h (t.take k)
  | 0, h0, _ => by omega
  | k + 1, h0, hk => by
    have h1 := val_step h t k (by omega)
    have h2 := byte_getD ht k
    have h3 := flp_rng (h := h) h2
    by_cases e : j = k
    · subst e; omega
    · have := val_mono h ht j hj k (by omega) (by omega)
      have h4 := (val_rng h (okBytes_take ht k)).1
      omega
theorem count_ok {b : List Int} {z : Int} (hb : okBytes b) (hz : 0 < z) (h : (count b z).2.2 = 0) :
    (getInt b).2.2 = 0 ∧ (count b z).1 = (getInt b).1 ∧ (count b z).2.1 = (getInt b).2.1 ∧ 0 ≤ (getInt b).1 ∧ 1 ≤ (getInt b).2.1 ∧ (getInt b).2.1 ≤ (b.length : Int) ∧ (getInt b).1 * z ≤ (b.length : Int) - (getInt b).2.1 := by
  have hr := getInt_rng hb
  simp only [count] at h ⊢
  by_cases c1 : (getInt b).2.2 = 0
  · rw [if_neg (by omega)] at h
    by_cases c2 : (getInt b).1 < 0
    · rw [if_pos c2] at h; omega
    rw [if_neg c2] at h
    by_cases c3 : ((b.length : Int) - (getInt b).2.1) / z < (getInt b).1
    · rw [if_pos c3] at h; omega
    · refine ⟨c1, trivial, trivial, by omega, hr.2.2.2.2.1 c1, hr.1, ?_⟩
      have := mt (Int.ediv_lt_iff_lt_mul hz).mpr c3
      omega
  · rw [if_pos c1] at h; exact absurd h c1
theorem rcount_err (b : List Int) (z : Int) : (rcount b z).2.2 = (count b z).2.2 := by unfold rcount; split <;> simp_all
theorem rcount_ok {b : List Int} {z : Int} (h : (count b z).2.2 = 0) : rcount b z = count b z := by unfold rcount; rw [if_pos h]
theorem rcount_bad {b : List Int} {z : Int} (h : ¬ (count b z).2.2 = 0) : rcount b z = (0, 0, (count b z).2.2) := by unfold rcount; rw [if_neg h]
theorem count_rng {b : List Int} (hb : okBytes b) (z : Int) : 0 ≤ (count b z).2.2 ∧ (count b z).2.2 ≤ 3 := by
  have hr := getInt_rng hb
  simp only [count]; split
  · exact hr.2.2.2.1
  · split
    · omega
    · split <;> omega
end Go.Am.Wire
namespace Go.Am
open Go
theorem or64 (a b : Int) (ha : 0 ≤ a) (ha2 : a < 72057594037927936) (hb : 0 ≤ b) (hb2 : b ≤ 255) : ibits .or .u64 (IntKind.u64.wrap (a * 2 ^ 8)) (IntKind.u64.wrap b) = a * 256 + b := by
  obtain ⟨x, rfl⟩ := Int.eq_ofNat_of_zero_le ha
  obtain ⟨y, rfl⟩ := Int.eq_ofNat_of_zero_le hb
  rw [u64w (by omega) (by omega), u64w (by omega) (by omega)]
  show IntKind.u64.wrap (((BitVec.ofInt 64 ((x : Int) * 2 ^ 8)) ||| (BitVec.ofInt 64 (y : Int))).toNat : Int) = _
  rw [BitVec.toNat_or, BitVec.toNat_ofInt, BitVec.toNat_ofInt]
  have e1 : ((x : Int) * 2 ^ 8 % ((2 ^ 64 : Nat) : Int)).toNat = x <<< 8 := by rw [Nat.shiftLeft_eq]; omega
  have e2 : ((y : Int) % ((2 ^ 64 : Nat) : Int)).toNat = y := by omega
  rw [e1, e2, ← Nat.shiftLeft_add_eq_or_of_lt (show y < 2 ^ 8 by omega), Nat.shiftLeft_eq, u64w (by omega) (by omega)]
  omega
theorem i64hi {x : Int} (h1 : 9223372036854775808 ≤ x) (h2 : x ≤ 18446744073709551615) : IntKind.i64.wrap x = x - 18446744073709551616 := by
  unfold IntKind.wrap; simp only [IntKind.signed, IntKind.bits]; simp; omega
theorem fdiv63 (m : Int) : (Int.fdiv m (2 ^ 63) > 0) ↔ 9223372036854775808 ≤ m := by
  rw [Int.fdiv_eq_ediv_of_nonneg _ (by decide)]
  show m / 9223372036854775808 > 0 ↔ _
  omega
theorem pow256_le (j k : Nat) (c : Nat) (h : j ≤ k) (hc : 256 ^ k ≤ c) : (256 : Int) ^ j ≤ (c : Int) := by
  have h2 : 256 ^ j ≤ c := Nat.le_trans (Nat.pow_le_pow_right (by decide) h) hc
  have e : ((256 ^ j : Nat) : Int) = (256 : Int) ^ j := by rw [Int.natCast_pow]; rfl
  rw [← e]; exact Int.ofNat_le.mpr h2
end Go.Am
namespace Go.Am.Wire
open Go
theorem getBytes_rng {b : List Int} (hb : okBytes b) : 0 ≤ (getBytes b).2.1 ∧ (getBytes b).2.1 ≤ (b.length : Int) ∧ ((getBytes b).2.2 = 0 → 1 ≤ (getBytes b).2.1) := by
  simp only [getBytes]
  by_cases c : (count b 1).2.2 = 0
  · obtain ⟨g1, g2, g3, g4, g5, g6, g7⟩ := count_ok hb (by omega) c
    rw [if_pos c, g2, g3]
    simp only []
    omega
  · rw [if_neg c]; simp only []
    exact ⟨by omega, by omega, fun h => absurd h c⟩
theorem drop_all (b : List Int) (n : Nat) : (b.drop n).take (b.length - n) = b.drop n := List.take_of_length_le (by rw [List.length_drop]; exact Nat.le_refl _)
end Go.Am.Wire
