/- The order of encodings of numbers. -/
import Derived.Test.YtnkdmpdgohcakaaAmWire4
set_option linter.unusedVariables false
set_option linter.unusedSimpArgs false
namespace Go.Am.Wire
open Go

def V : List Int → Int
  | [] => 0
  | x :: a => x * 256 ^ a.length + V a
theorem V_rng : ∀ (a : List Int), okBytes a → 0 ≤ V a ∧ V a < 256 ^ a.length
  | [], _ => by simp [V]
  | x :: a, h => by
    have hx := h x (by simp)
    have ih := V_rng a (fun y hy => h y (by simp [hy]))
    simp only [V, List.length_cons, Int.pow_succ]
    generalize (256 : Int) ^ a.length = P at *
    have h1 : 0 ≤ x * P := Int.mul_nonneg hx.1 (by omega)
    have h2 : x * P ≤ 255 * P := Int.mul_le_mul_of_nonneg_right hx.2 (by omega)
    omega
theorem sless_V : ∀ (a b : List Int), a.length = b.length → okBytes a → okBytes b → (sless a b = true ↔ V a < V b)
  | [], [], _, _, _ => by simp [sless, V]
  | [], _ :: _, h, _, _ => by simp at h
  | _ :: _, [], h, _, _ => by simp at h
  | x :: a, y :: b, h, ha, hb => by
    have hl : a.length = b.length := by simpa using h
    have hx := ha x (by simp)
    have hy := hb y (by simp)
    have ha' : okBytes a := fun z hz => ha z (by simp [hz])
    have hb' : okBytes b := fun z hz => hb z (by simp [hz])
    have ih := sless_V a b hl ha' hb'
    have r1 := V_rng a ha'
    have r2 := V_rng b hb'
    rw [← hl] at r2
    simp only [sless, V, ← hl, Bool.or_eq_true, Bool.and_eq_true, decide_eq_true_eq, beq_iff_eq, ih]
    generalize (256 : Int) ^ a.length = P at *
    rcases Int.lt_trichotomy x y with g | g | g
    · have h2 : (x + 1) * P ≤ y * P := Int.mul_le_mul_of_nonneg_right (by omega) (by omega)
      rw [Int.add_mul, Int.one_mul] at h2
      constructor
      · intro _; omega
      · intro _; exact .inl g
    · subst g
      constructor
      · rintro (e | e)
        · omega
        · omega
      · intro e; exact .inr ⟨rfl, by omega⟩
    · have h2 : (y + 1) * P ≤ x * P := Int.mul_le_mul_of_nonneg_right (by omega) (by omega)
      rw [Int.add_mul, Int.one_mul] at h2
      constructor
      · rintro (e | e) <;> omega
      · intro e; omega
theorem D_cons (k m : Nat) : D (k + 1) m = m / 256 ^ k % 256 :: D k m := by
  unfold D
  rw [List.range_succ_eq_map, List.map_cons, List.map_map]
  congr 1
  apply List.map_congr_left
  intro j hj
  rw [List.mem_range] at hj
  simp only [Function.comp]
  rw [show k + 1 - 1 - (j + 1) = k - 1 - j by omega]
theorem pow_cast (k : Nat) : ((256 ^ k : Nat) : Int) = 256 ^ k := by rw [Int.natCast_pow]; rfl
theorem V_D (neg : Prop) [Decidable neg] : ∀ (k m : Nat), V ((D k m).map (unf neg)) = if neg then 256 ^ k - 1 - ((m % 256 ^ k : Nat) : Int) else ((m % 256 ^ k : Nat) : Int)
  | 0, m => by simp only [D, List.range_zero, List.map_nil, V, Int.pow_zero, Nat.pow_zero, Nat.mod_one]; split <;> rfl
  | k + 1, m => by
    have ih := V_D neg k m
    rw [D_cons, List.map_cons]
    simp only [V, List.length_map, D_len]
    rw [ih, Nat.mod_pow_succ, Int.pow_succ, ← pow_cast]
    generalize hP : 256 ^ k = P
    generalize m / P % 256 = d
    generalize m % P = r
    rw [Int.natCast_add, Int.natCast_mul, Int.mul_comm (P : Int) (d : Int)]
    unfold unf
    split
    · rw [Int.sub_mul]; omega
    · omega
theorem unf_ok (neg : Prop) [Decidable neg] (k m : Nat) : okBytes ((D k m).map (unf neg)) := by
  intro x hx
  obtain ⟨d, hd, rfl⟩ := List.mem_map.mp hx
  have := D_mem d hd
  unfold unf; split <;> omega
theorem nb_mono {a b : Nat} (ha : a < 18446744073709551616) (h : nb a < nb b) : a < b := by
  have h1 := nb_lt ha
  have h2 := nb_ge (m := b) (by omega)
  have h3 : 256 ^ nb a ≤ 256 ^ (nb b - 1) := Nat.pow_le_pow_right (by decide) (by omega)
  omega
theorem order {m n : Int} (hm : IntKind.i64.has m) (hn : IntKind.i64.has n) : sless (int m) (int n) = true ↔ m < n := by
  have lm := mag_lt hm
  have ln := mag_lt hn
  have km := nb_le (mag m)
  have kn := nb_le (mag n)
  rw [int_D m, int_D n]
  have hmag : ∀ x : Int, ((mag x : Nat) : Int) = if x < 0 then -1 - x else x := fun x => by unfold mag; split <;> omega
  have am := hmag m
  have an := hmag n
  simp only [sless, Bool.or_eq_true, Bool.and_eq_true, decide_eq_true_eq, beq_iff_eq]
  have hlt : head m < head n → m < n := by
    intro h
    unfold head at h
    by_cases sm : m < 0
    · by_cases sn : n < 0
      · rw [if_pos sm, if_pos sn] at h
        rw [if_pos sm] at am; rw [if_pos sn] at an
        have := nb_mono (a := mag n) (b := mag m) (by omega) (by omega)
        omega
      · omega
    · by_cases sn : n < 0
      · rw [if_neg sm, if_pos sn] at h; omega
      · rw [if_neg sm, if_neg sn] at h
        rw [if_neg sm] at am; rw [if_neg sn] at an
        have := nb_mono (a := mag m) (b := mag n) (by omega) (by omega)
        omega
  have hgt : head n < head m → n < m := by
    intro h
    unfold head at h
    by_cases sm : m < 0
    · by_cases sn : n < 0
      · rw [if_pos sm, if_pos sn] at h
        rw [if_pos sm] at am; rw [if_pos sn] at an
        have := nb_mono (a := mag m) (b := mag n) (by omega) (by omega)
        omega
      · rw [if_pos sm, if_neg sn] at h; omega
    · by_cases sn : n < 0
      · omega
      · rw [if_neg sm, if_neg sn] at h
        rw [if_neg sm] at am; rw [if_neg sn] at an
        have := nb_mono (a := mag n) (b := mag m) (by omega) (by omega)
        omega
  rcases Int.lt_trichotomy (head m) (head n) with g | g | g
  · exact ⟨fun _ => hlt g, fun _ => .inl g⟩
  · have hs : (head m < 128) ↔ (head n < 128) := by rw [g]
    have hsg : m < 0 ↔ n < 0 := by rw [← head_lt m, ← head_lt n, g]
    have hk : nb (mag m) = nb (mag n) := by
      have h := g
      unfold head at h
      by_cases sm : m < 0
      · rw [if_pos sm, if_pos (hsg.mp sm)] at h; omega
      · rw [if_neg sm, if_neg (fun e => sm (hsg.mpr e))] at h; omega
    have hiff := sless_V ((D (nb (mag m)) (mag m)).map (unf (head m < 128))) ((D (nb (mag n)) (mag n)).map (unf (head n < 128))) (by simp [D_len, hk]) (unf_ok _ _ _) (unf_ok _ _ _)
    rw [hiff, V_D, V_D, Nat.mod_eq_of_lt (nb_lt (by omega)), Nat.mod_eq_of_lt (nb_lt (by omega)), hk]
    by_cases sm : m < 0
    · have sn := hsg.mp sm
      rw [if_pos ((head_lt m).mpr sm), if_pos ((head_lt n).mpr sn)]
      rw [if_pos sm] at am; rw [if_pos sn] at an
      constructor
      · rintro (e | e)
        · omega
        · omega
      · intro e; exact .inr ⟨g, by omega⟩
    · have sn : ¬ n < 0 := fun e => sm (hsg.mpr e)
      rw [if_neg (fun e => sm ((head_lt m).mp e)), if_neg (fun e => sn ((head_lt n).mp e))]
      rw [if_neg sm] at am; rw [if_neg sn] at an
      constructor
      · rintro (e | e)
        · omega
        · omega
      · intro e; exact .inr ⟨g, by omega⟩
  · have := hgt g
    constructor
    · rintro (e | e) <;> omega
    · intro e; omega
theorem intsN_err (b : List Int) : ∀ (n : Nat) (at_ : Int) (acc : List Int), ¬ (intsN b n at_ acc).2.2 = 0 → (intsN b n at_ acc).1 = []
  | 0, at_, acc, h => by simp [intsN] at h
  | n + 1, at_, acc, h => by
    simp only [intsN] at h ⊢
    by_cases c : (getInt (b.drop at_.toNat)).2.2 = 0
    · rw [if_pos c] at h ⊢; exact intsN_err b n _ _ h
    · rw [if_neg c]
theorem getInts_err {b : List Int} (h : ¬ (getInts b).2.2 = 0) : (getInts b).1 = [] := by
  simp only [getInts] at h ⊢
  by_cases c : (count b 1).2.2 = 0
  · rw [if_pos c] at h ⊢; exact intsN_err _ _ _ _ h
  · rw [if_neg c]
theorem strsN_err (b : List Int) : ∀ (n : Nat) (at_ : Int) (acc : List (List Int)), ¬ (strsN b n at_ acc).2.2 = 0 → (strsN b n at_ acc).1 = []
  | 0, at_, acc, h => by simp [strsN] at h
  | n + 1, at_, acc, h => by
    simp only [strsN] at h ⊢
    by_cases c : (getBytes (b.drop at_.toNat)).2.2 = 0
    · rw [if_pos c] at h ⊢; exact strsN_err b n _ _ h
    · rw [if_neg c]
theorem getStrs_err {b : List Int} (h : ¬ (getStrs b).2.2 = 0) : (getStrs b).1 = [] := by
  simp only [getStrs] at h ⊢
  by_cases c : (count b 1).2.2 = 0
  · rw [if_pos c] at h ⊢; exact strsN_err _ _ _ _ h
  · rw [if_neg c]
def small (s l : List Int) (x : List (List Int)) (m : Nat) : Bool := decide (s.length ≤ 1048576) && (decide (l.length ≤ 1048576) && (decide (total x ≤ 1048576) && decide (m ≤ 1048576)))
end Go.Am.Wire
