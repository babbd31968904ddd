/- Part of a proof about the functions of the given program. -/
import Derived.Test.YtlenpjfgbbfmcaaDoorAmSign2
set_option linter.unusedSimpArgs false
set_option linter.unusedVariables false
section
/- Signatures over natural numbers, which the kernel runs fast; the example of the documentation. -/
namespace Go.Am
open Go
namespace SgN
open ShaN
def fl {α : Type} : List Nat → (List Nat → α) → α
 | [], k => k []
 | x :: l, k => force x fun x => fl l fun l => k (x :: l)
theorem fl_eq {α : Type} : ∀ (l : List Nat) (k : List Nat → α), fl l k = k l
 | [], _ => rfl
 | x :: l, k => by rw [fl, force_eq, fl_eq]
def int (n : Nat) : List Nat := match n with
 | 0 => [128]
 | n => match Nat.blt n 256 with
  | true => [129, n]
  | false => [130, n / 256, n % 256]
def ints (l : List Nat) : List Nat := int l.length ++ l.flatMap int
def bytes (t : List Nat) : List Nat := int t.length ++ t
def of (tag : Nat) (l : List (List Nat)) : List Nat := fl (ShaN.hash (tag :: l.flatMap bytes)) fun h => h.take 16
def xpad (k : List Nat) (w : Nat) : List Nat := (List.range 64).map fun i => Nat.xor (k.getD i 0) w
def mac (k t : List Nat) : List Nat := fl (ShaN.hash (xpad k 54 ++ t)) fun h => fl (ShaN.hash (xpad k 92 ++ h)) fun h => h
def adv (i c : Nat) : Nat → Nat → List Nat → List Nat
 | _, 0, v => v
 | t, n + 1, v => fl (of 9 [ints [i, c, t], v]) fun v => adv i c (t + 1) n v
def start (s : List Nat) (i c : Nat) : List Nat := (mac s ([99, 104, 97, 105, 110] ++ ints [i, c])).take 16
def leafOf (b : List Nat) : List Nat := of 1 [of 3 [b]]
def cat (f : Nat → List Nat) : Nat → Nat → List Nat
 | _, 0 => []
 | i, n + 1 => fl (f i) fun v => v ++ cat f (i + 1) n
def leaf (s : List Nat) (k : Nat) : List Nat := leafOf (cat (fun c => adv k c 0 3 (start s k c)) 0 68)
def val (b : List Nat) (k : Nat) : List Nat := (b.drop (k * 16)).take 16
def body (s : List Nat) (i : Nat) (ds : List Nat) : List Nat := cat (fun c => adv i c 0 (ds.getD c 0) (start s i c)) 0 68
def leafV (i : Nat) (ds b : List Nat) : List Nat := leafOf (cat (fun c => adv i c (ds.getD c 0) (3 - ds.getD c 0) (val b c)) 0 68)
def seed : List Nat := [5, 5, 5, 5, 5, 5, 5, 5, 5, 5, 5, 5, 5, 5, 5, 5, 5, 5, 5, 5, 5, 5, 5, 5, 5, 5, 5, 5, 5, 5, 5, 5]
def By (l : List Nat) : Prop := ∀ x ∈ l, x < 256
theorem By.append {a b : List Nat} (ha : By a) (hb : By b) : By (a ++ b) := fun x hx => (List.mem_append.1 hx).elim (ha x) (hb x)
theorem By.take {a : List Nat} (ha : By a) (n : Nat) : By (a.take n) := fun x hx => ha x (List.mem_of_mem_take hx)
theorem By.drop {a : List Nat} (ha : By a) (n : Nat) : By (a.drop n) := fun x hx => ha x (List.mem_of_mem_drop hx)
theorem By.flat {l : List Nat} {f : Nat → List Nat} (h : ∀ x ∈ l, By (f x)) : By (l.flatMap f) := fun x hx => by
 obtain ⟨y, hy, hz⟩ := List.mem_flatMap.1 hx; exact h y hy x hz
theorem hash_by (b : List Nat) : By (ShaN.hash b) := fun x hx => by
 obtain ⟨y, _, hz⟩ := List.mem_flatMap.1 hx
 simp only [out4, List.mem_cons, List.not_mem_nil, or_false] at hz
 rcases hz with rfl | rfl | rfl | rfl <;> exact Nat.mod_lt _ (by decide)
theorem int_eq {n : Nat} (h : n < 65536) : Wire.int (n : Int) = up (int n) := by
 match n, h with
 | 0, _ => rfl
 | n + 1, h =>
  have hm := Wire.mag_nat (n + 1)
  have hh : Wire.head ((n + 1 : Nat) : Int) = 128 + (Wire.nb (n + 1) : Int) := by rw [Wire.head, if_neg (by omega), hm]
  rw [Wire.int, hh, hm]
  simp only [int]
  by_cases h2 : n + 1 < 256
  ·have e : Wire.nb (n + 1) = 1 := by
    simp only [Wire.nb, Wire.nbF, if_neg (show ¬ n + 1 = 0 by omega), if_pos (show (n + 1) / 256 = 0 by omega)]
   rw [e, show Nat.blt (n + 1) 256 = true by rw [Nat.blt_eq]; exact h2]
   simp only [List.range_one, List.map_cons, List.map_nil, Wire.dig_nat, up]
   rw [show (1 - 1 - 0) = 0 by rfl, Nat.pow_zero, Nat.div_one, Nat.mod_eq_of_lt h2]
   rfl
  ·have e : Wire.nb (n + 1) = 2 := by
    simp only [Wire.nb, Wire.nbF, if_neg (show ¬ n + 1 = 0 by omega), if_neg (show ¬ (n + 1) / 256 = 0 by omega), if_pos (show (n + 1) / 256 / 256 = 0 by omega)]
   rw [e, show Nat.blt (n + 1) 256 = false by rw [Bool.eq_false_iff, ne_eq, Nat.blt_eq]; exact h2]
   have er : List.range 2 = [0, 1] := rfl
   simp only [er, List.map_cons, List.map_nil, Wire.dig_nat, up]
   rw [show (2 - 1 - 0) = 1 by rfl, show (2 - 1 - 1) = 0 by rfl, Nat.pow_one, Nat.pow_zero, Nat.div_one, Nat.mod_eq_of_lt (show (n + 1) / 256 < 256 by omega)]
   rfl
theorem int_by {n : Nat} (h : n < 65536) : By (int n) := fun x hx => by
 match n, h with
 | 0, _ => simp [int] at hx; omega
 | n + 1, h =>
  simp only [int] at hx
  split at hx
  ·rename_i hb; rw [Nat.blt_eq] at hb; simp only [List.mem_cons, List.not_mem_nil, or_false] at hx; omega
  ·simp only [List.mem_cons, List.not_mem_nil, or_false] at hx; omega
theorem int_len (n : Nat) : (int n).length ≤ 3 := by
 match n with
 | 0 => simp [int]
 | n + 1 => simp only [int]; split <;> simp
theorem flat_up : ∀ {l : List Nat} {f : Nat → List Nat} {g : Int → List Int}, (∀ x ∈ l, g (x : Int) = up (f x)) → (up l).flatMap g = up (l.flatMap f)
 | [], _, _, _ => rfl
 | x :: l, f, g, h => by
  have := flat_up (l := l) (f := f) (g := g) fun y hy => h y (by simp [hy])
  simp only [up, List.map_cons, List.flatMap_cons, List.map_append] at this ⊢
  rw [this, h x (by simp)]
theorem ints_eq {l : List Nat} (h : ∀ x ∈ l, x < 65536) (hl : l.length < 65536) : Wire.ints (up l) = up (ints l) := by
 have hf : (up l).flatMap Wire.int = up (l.flatMap int) := flat_up fun x hx => int_eq (h x hx)
 have hl' : (up l).length = l.length := by simp [up]
 rw [Wire.ints, hf, hl', int_eq hl, ints]
 simp [up]
theorem ints_by {l : List Nat} (h : ∀ x ∈ l, x < 65536) (hl : l.length < 65536) : By (ints l) := (int_by hl).append (By.flat fun x hx => int_by (h x hx))
theorem ints_len (l : List Nat) : (ints l).length ≤ 3 + 3 * l.length := by
 have h : ∀ l : List Nat, (l.flatMap int).length ≤ 3 * l.length := by
  intro l
  induction l with
  | nil => simp
  | cons x l ih => have := int_len x; simp only [List.flatMap_cons, List.length_append, List.length_cons]; omega
 have := h l
 have := int_len l.length
 simp only [ints, List.length_append]; omega
theorem bytes_eq {t : List Nat} (h : t.length < 65536) : Wire.bytes (up t) = up (bytes t) := by
 simp only [Wire.bytes, bytes, up, List.length_map, List.map_append]; rw [int_eq h]
theorem bytes_by {t : List Nat} (h : t.length < 65536) (hb : By t) : By (bytes t) := (int_by h).append hb
theorem parts_eq : ∀ {l : List (List Nat)}, (∀ t ∈ l, t.length < 65536) → (l.map up).flatMap Wire.bytes = up (l.flatMap bytes)
 | [], _ => rfl
 | t :: l, h => by
  rw [List.map_cons, List.flatMap_cons, parts_eq (l := l) (fun x hx => h x (by simp [hx])), bytes_eq (h t (by simp)), List.flatMap_cons]
  simp [up]
theorem parts_len : ∀ {l : List (List Nat)}, (∀ t ∈ l, t.length < 65536) → (l.flatMap bytes).length ≤ 65539 * l.length
 | [], _ => by simp
 | t :: l, h => by
  have h1 := parts_len (l := l) fun x hx => h x (by simp [hx])
  have h2 := int_len t.length
  have h3 := h t (by simp)
  simp only [List.flatMap_cons, List.length_append, List.length_cons, bytes]; omega
theorem of_eq {tag : Nat} {l : List (List Nat)} (ht : tag < 256) (hl : ∀ t ∈ l, By t ∧ t.length < 65536) (hn : l.length < 65536) : Sha.of (tag : Int) (l.map up) = up (of tag l) := by
 have hlen := parts_len fun t ht => (hl t ht).2
 have e : Sha.input (tag : Int) (l.map up) = up (tag :: l.flatMap bytes) := by
  rw [Sha.input, parts_eq fun t ht => (hl t ht).2, u8w (by omega) (by omega)]; rfl
 have hb : ∀ x ∈ tag :: l.flatMap bytes, x < 256 := fun x hx => by
  rcases List.mem_cons.1 hx with rfl | hx
  ·exact ht
  ·obtain ⟨t, ht, hx⟩ := List.mem_flatMap.1 hx
   exact bytes_by (hl t ht).2 (hl t ht).1 x hx
 rw [Sha.of, e, hash_eq hb (by simp only [List.length_cons]; omega), of, fl_eq, up_take]
theorem of_by (tag : Nat) (l : List (List Nat)) : By (of tag l) := by rw [of, fl_eq]; exact (hash_by _).take 16
theorem up_len {l m : List Nat} {x : List Int} (h : x = up l) {n : Nat} (hx : x.length = n) : l.length = n := by rw [← hx, h]; simp [up]
theorem of_len {tag : Nat} {l : List (List Nat)} (ht : tag < 256) (hl : ∀ t ∈ l, By t ∧ t.length < 65536) (hn : l.length < 65536) : (of tag l).length = 16 := up_len (m := []) (of_eq ht hl hn) (Sg.of_len _ _)
theorem xor8_eq {a b : Nat} (ha : a < 256) (hb : b < 256) : ibits .xor .u8 (a : Int) (b : Int) = ((Nat.xor a b : Nat) : Int) := by
 show IntKind.u8.wrap (((BitVec.ofInt 8 (a : Int)) ^^^ (BitVec.ofInt 8 (b : Int))).toNat : Int) = _
 have hx : a ^^^ b < 256 := Nat.xor_lt_two_pow (n := 8) ha hb
 have e : ∀ n : Nat, BitVec.ofInt 8 (n : Int) = BitVec.ofNat 8 n := fun n => by
  apply BitVec.eq_of_toNat_eq; simp [BitVec.toNat_ofInt]
 rw [e, e, BitVec.toNat_xor, BitVec.toNat_ofNat, BitVec.toNat_ofNat, Nat.mod_eq_of_lt ha, Nat.mod_eq_of_lt hb, u8w (by omega) (by omega)]
 rfl
theorem xpad_eq {k : List Nat} {w : Nat} (hk : By k) (hw : w < 256) : Sha.xpad (up k) (w : Int) = up (xpad k w) := by
 simp only [Sha.xpad, xpad, up, List.map_map]
 refine List.map_congr_left fun i _ => ?_
 have h : k.getD i 0 < 256 := byte_word hk i
 simp only [Function.comp]
 rw [← xor8_eq h hw, ← up_getD]
theorem xpad_by {k : List Nat} {w : Nat} (hk : By k) (hw : w < 256) : By (xpad k w) := fun x hx => by
 obtain ⟨i, _, rfl⟩ := List.mem_map.1 hx
 exact Nat.xor_lt_two_pow (n := 8) (byte_word hk i) hw
theorem xpad_len (k : List Nat) (w : Nat) : (xpad k w).length = 64 := by simp [xpad]
theorem hash_len {b : List Nat} (hb : By b) (hl : b.length < 1152921504606846976) : (ShaN.hash b).length = 32 := up_len (m := []) (hash_eq hb hl) (Sha.hash_len _)
theorem mac_eq {k t : List Nat} (hk : By k) (hl : k.length ≤ 64) (ht : By t) (htl : t.length < 65536) : Sha.mac (up k) (up t) = up (mac k t) := by
 have e1 : Sha.xpad (up k) 54 = up (xpad k 54) := xpad_eq hk (by decide)
 have e2 : Sha.xpad (up k) 92 = up (xpad k 92) := xpad_eq hk (by decide)
 have b1 : By (xpad k 54 ++ t) := (xpad_by hk (by decide)).append ht
 have l1 : (xpad k 54 ++ t).length < 1152921504606846976 := by rw [List.length_append, xpad_len]; omega
 have b2 : By (xpad k 92 ++ ShaN.hash (xpad k 54 ++ t)) := (xpad_by hk (by decide)).append (hash_by _)
 have l2 : (xpad k 92 ++ ShaN.hash (xpad k 54 ++ t)).length < 1152921504606846976 := by rw [List.length_append, xpad_len, hash_len b1 l1]; omega
 simp only [Sha.mac]
 rw [if_neg (by simp [up]; omega), e1, e2, show up (xpad k 54) ++ up t = up (xpad k 54 ++ t) by simp [up], hash_eq b1 l1, show up (xpad k 92) ++ up (ShaN.hash (xpad k 54 ++ t)) = up (xpad k 92 ++ ShaN.hash (xpad k 54 ++ t)) by simp [up], hash_eq b2 l2, mac, fl_eq, fl_eq]
theorem mac_by (k t : List Nat) : By (mac k t) := by rw [mac, fl_eq, fl_eq]; exact hash_by _
theorem adv_eq {i c : Nat} (hi : i < 65536) (hc : c < 65536) : ∀ (n t : Nat) (v : List Nat), t + n < 65536 → By v → v.length = 16 → Sg.adv (i : Int) (c : Int) (t : Int) n (up v) = up (adv i c t n v) ∧ By (adv i c t n v)
 | 0, t, v, _, hb, _ => ⟨rfl, hb⟩
 | n + 1, t, v, ht, hb, hl => by
  have h3 : ∀ x ∈ [i, c, t], x < 65536 := fun x hx => by simp only [List.mem_cons, List.not_mem_nil, or_false] at hx; omega
  have hp : ∀ y ∈ [ints [i, c, t], v], By y ∧ y.length < 65536 := fun y hy => by
   simp only [List.mem_cons, List.not_mem_nil, or_false] at hy
   rcases hy with rfl | rfl
   ·refine ⟨ints_by h3 (by simp), ?_⟩
    have := ints_len [i, c, t]; simp only [List.length_cons, List.length_nil] at this; omega
   ·exact ⟨hb, by omega⟩
  have e : Sg.step (i : Int) (c : Int) (t : Int) (up v) = up (of 9 [ints [i, c, t], v]) := by
   have h := of_eq (tag := 9) (l := [ints [i, c, t], v]) (by decide) hp (by simp)
   have hi3 := ints_eq (l := [i, c, t]) h3 (by simp)
   rw [Sg.step]
   rw [List.map_cons, List.map_cons, List.map_nil, ← hi3] at h
   exact h
  have := adv_eq hi hc n (t + 1) (of 9 [ints [i, c, t], v]) (by omega) (of_by _ _) (of_len (by decide) hp (by simp))
  rw [Sg.adv, e, adv, fl_eq]
  exact this
theorem start_eq {s : List Nat} {i c : Nat} (hs : By s) (hl : s.length = 32) (hi : i < 65536) (hc : c < 65536) : Sg.start (up s) (i : Int) (c : Int) = up (start s i c) ∧ By (start s i c) ∧ (start s i c).length = 16 := by
 have h2 : ∀ x ∈ [i, c], x < 65536 := fun x hx => by simp only [List.mem_cons, List.not_mem_nil, or_false] at hx; omega
 have hb : By ([99, 104, 97, 105, 110] ++ ints [i, c]) := By.append (fun x hx => by simp only [List.mem_cons, List.not_mem_nil, or_false] at hx; omega) (ints_by h2 (by simp))
 have hn : ([99, 104, 97, 105, 110] ++ ints [i, c]).length < 65536 := by
  have := ints_len [i, c]; simp only [List.length_append, List.length_cons, List.length_nil] at this ⊢; omega
 have h := mac_eq hs (by omega) hb hn
 have hi3 := ints_eq (l := [i, c]) h2 (by simp)
 have hin : ([99, 104, 97, 105, 110] : List Int) ++ Wire.ints [(i : Int), (c : Int)] = up ([99, 104, 97, 105, 110] ++ ints [i, c]) := by
  have h9 : Wire.ints [(i : Int), (c : Int)] = up (ints [i, c]) := hi3
  rw [h9]; simp [up]
 have e : Sg.start (up s) (i : Int) (c : Int) = up (start s i c) := by
  rw [Sg.start, hin, h, start, up_take]
 exact ⟨e, (mac_by _ _).take 16, up_len (m := []) e (Sg.start_len _ _ _)⟩
theorem cat_eq (f : Nat → List Nat) : ∀ (n i : Nat), cat f i n = (List.range n).flatMap fun j => f (i + j)
 | 0, _ => rfl
 | n + 1, i => by
  rw [cat, fl_eq, cat_eq f n (i + 1), List.range_succ_eq_map, List.flatMap_cons, List.flatMap_map]
  simp only [Nat.add_zero, Nat.succ_eq_add_one, Nat.add_assoc, Nat.add_comm 1]
theorem cat_up {f : Nat → List Nat} {g : Nat → List Int} (h : ∀ i, i < 68 → g i = up (f i)) : (List.range 68).flatMap g = up (cat f 0 68) := by
 rw [cat_eq]
 simp only [Nat.zero_add, up, List.map_flatMap]
 exact Sg.flat_congr 68 h
theorem cat_by {f : Nat → List Nat} (h : ∀ i, i < 68 → By (f i)) : By (cat f 0 68) := by
 rw [cat_eq]
 exact By.flat fun x hx => by rw [Nat.zero_add]; exact h x (List.mem_range.1 hx)
theorem leafOf_eq {b : List Nat} (hb : By b) (hl : b.length < 65536) : Sg.leafOf (up b) = up (leafOf b) := by
 have h := of_eq (tag := 3) (l := [b]) (by decide) (fun t ht => by rw [List.mem_singleton] at ht; subst ht; exact ⟨hb, hl⟩) (by simp)
 have hn := of_len (tag := 3) (l := [b]) (by decide) (fun t ht => by rw [List.mem_singleton] at ht; subst ht; exact ⟨hb, hl⟩) (by simp)
 have h2 := of_eq (tag := 1) (l := [of 3 [b]]) (by decide) (fun t ht => by rw [List.mem_singleton] at ht; subst ht; exact ⟨of_by _ _, by omega⟩) (by simp)
 rw [List.map_cons, List.map_nil] at h h2
 have e3 : ((3 : Nat) : Int) = 3 := rfl
 have e1 : ((1 : Nat) : Int) = 1 := rfl
 rw [e3] at h; rw [e1] at h2
 rw [Sg.leafOf, h, h2]; rfl
theorem leaf_eq {s : List Nat} {k : Nat} (hs : By s) (hl : s.length = 32) (hk : k < 65536) : Sg.leaf (up s) (k : Int) = up (leaf s k) := by
 have hc : ∀ c, c < 68 → Sg.top (up s) (k : Int) c = up (adv k c 0 3 (start s k c)) ∧ By (adv k c 0 3 (start s k c)) := fun c hc => by
  obtain ⟨e1, e2, e3⟩ := start_eq (i := k) (c := c) hs hl hk (by omega)
  have := adv_eq hk (show c < 65536 by omega) 3 0 (start s k c) (by omega) e2 e3
  rw [Sg.top, e1]; exact this
 have e := cat_up (f := fun c => adv k c 0 3 (start s k c)) (g := Sg.top (up s) (k : Int)) fun c h => (hc c h).1
 have hlen : (cat (fun c => adv k c 0 3 (start s k c)) 0 68).length = 1088 := up_len (m := []) e (Sg.flat_len _ 68 fun c _ => Sg.top_len _ _ c)
 rw [Sg.leaf, e, leafOf_eq (cat_by fun c h => (hc c h).2) (by omega)]; rfl
theorem body_eq {s ds : List Nat} {i : Nat} (hs : By s) (hl : s.length = 32) (hi : i < 65536) (hd : ∀ c, ds.getD c 0 ≤ 3) : Sg.body (up s) (i : Int) (up ds) = up (body s i ds) := by
 have hc : ∀ c, c < 68 → Sg.part (up s) (i : Int) (up ds) c = up (adv i c 0 (ds.getD c 0) (start s i c)) := fun c hc => by
  obtain ⟨e1, e2, e3⟩ := start_eq (i := i) (c := c) hs hl hi (by omega)
  have := adv_eq hi (show c < 65536 by omega) (ds.getD c 0) 0 (start s i c) (by have := hd c; omega) e2 e3
  rw [Sg.part, e1, up_getD, Int.toNat_natCast]; exact this.1
 exact cat_up hc
theorem leafV_eq {ds b : List Nat} {i : Nat} (hi : i < 65536) (hd : ∀ c, ds.getD c 0 ≤ 3) (hb : By b) (hl : 1088 ≤ b.length) : Sg.leafV (i : Int) (up ds) (up b) = up (leafV i ds b) := by
 have hc : ∀ c, c < 68 → Sg.chainV (i : Int) (up ds) (up b) c = up (adv i c (ds.getD c 0) (3 - ds.getD c 0) (val b c)) ∧ By (adv i c (ds.getD c 0) (3 - ds.getD c 0) (val b c)) := fun c hc => by
  have hv : Sg.val (up b) c = up (val b c) := by rw [Sg.val, val, up_take, up_drop]
  have hvl : (val b c).length = 16 := up_len (m := []) hv (Sg.val_len (by simp [up]; omega))
  have := hd c
  have h := adv_eq hi (show c < 65536 by omega) (3 - ds.getD c 0) (ds.getD c 0) (val b c) (by omega) ((hb.drop _).take 16) hvl
  rw [Sg.chainV, hv, up_getD, show (3 - ((ds.getD c 0 : Nat) : Int)).toNat = 3 - ds.getD c 0 by omega]; exact h
 have e := cat_up (f := fun c => adv i c (ds.getD c 0) (3 - ds.getD c 0) (val b c)) (g := Sg.chainV (i : Int) (up ds) (up b)) fun c h => (hc c h).1
 have hlen : (cat (fun c => adv i c (ds.getD c 0) (3 - ds.getD c 0) (val b c)) 0 68).length = 1088 := up_len (m := []) e (Sg.flat_len _ 68 fun c hc => Sg.chainV_len (by simp [up]; omega))
 rw [Sg.leafV, e, leafOf_eq (cat_by fun c h => (hc c h).2) (by omega)]; rfl
end SgN
end Go.Am
end
section
/- The example: what the kernel computes. -/
namespace Go.Am
open Go
namespace SgN
def L0 : List Nat := [48, 243, 247, 228, 92, 141, 133, 232, 101, 169, 155, 154, 212, 25, 6, 139]
def L1 : List Nat := [49, 32, 170, 86, 234, 207, 119, 211, 124, 167, 255, 25, 142, 23, 166, 208]
def P : List Nat := [125, 182, 239, 211, 123, 120, 37, 53, 55, 99, 32, 70, 195, 119, 217, 100]
def W : List Nat := [43, 96, 46, 65, 136, 141, 195, 226, 128, 214, 248, 244, 78, 248, 58, 37]
def G0 : List Nat := [23, 209, 249, 195, 89, 250, 9, 101, 76, 143, 190, 237, 224, 46, 151, 146]
def G1 : List Nat := [175, 246, 174, 123, 196, 169, 61, 168, 210, 184, 128, 54, 179, 61, 21, 169]
def Dm : List Nat := [2, 2, 3, 3, 3, 3, 1, 2, 2, 2, 3, 2, 1, 3, 2, 3, 3, 0, 1, 0, 2, 2, 2, 1, 0, 3, 3, 1, 2, 2, 2, 0, 3, 1, 0, 2, 2, 3, 2, 0, 2, 0, 0, 0, 0, 3, 1, 2, 2, 3, 0, 3, 0, 3, 3, 1, 0, 1, 1, 1, 2, 2, 2, 1, 1, 1, 1, 1]
def Gn : List Nat := [142, 74, 64, 40, 120, 235, 87, 180, 179, 143, 189, 246, 79, 176, 127, 161]
def Dn : List Nat := [2, 0, 3, 2, 1, 0, 2, 2, 1, 0, 0, 0, 0, 2, 2, 0, 1, 3, 2, 0, 3, 2, 2, 3, 1, 1, 1, 3, 2, 3, 1, 0, 2, 3, 0, 3, 2, 0, 3, 3, 2, 3, 3, 1, 3, 3, 1, 2, 1, 0, 3, 3, 2, 3, 0, 0, 1, 3, 3, 3, 2, 2, 0, 1, 1, 1, 1, 2]
def V : List Nat := [152, 84, 19, 91, 21, 175, 197, 83, 31, 239, 133, 80, 12, 102, 196, 78]
def B : List Nat := [75, 88, 201, 162, 38, 120, 43, 128, 202, 8, 1, 44, 118, 102, 100, 115, 123, 119, 37, 212, 253, 92, 35, 144, 75, 27, 188, 76, 167, 188, 183, 85, 244, 226, 118, 229, 209, 180, 6, 81, 116, 97, 253, 142, 170, 46, 25, 43, 55, 88, 115, 217, 46, 174, 63, 212, 74, 87, 171, 4, 79, 137, 173, 94, 164, 151, 231, 210, 119, 103, 141, 146, 19, 237, 67, 222, 233, 252, 69, 40, 201, 94, 192, 185, 229, 110, 153, 46, 211, 194, 240, 161, 65, 81, 214, 187, 131, 157, 220, 123, 121, 85, 148, 50, 104, 86, 22, 33, 156, 34, 92, 246, 198, 137, 64, 34, 15, 180, 117, 25, 218, 206, 208, 245, 182, 90, 149, 174, 211, 224, 114, 207, 228, 173, 230, 40, 207, 118, 167, 149, 245, 82, 87, 128, 65, 88, 45, 86, 141, 224, 124, 97, 188, 154, 230, 70, 106, 102, 188, 85, 155, 227, 172, 195, 213, 6, 138, 32, 192, 131, 213, 135, 75, 232, 224, 53, 172, 28, 189, 118, 123, 32, 83, 88, 109, 92, 75, 135, 166, 232, 95, 148, 3, 24, 241, 80, 158, 165, 49, 44, 13, 218, 60, 15, 234, 89, 245, 157, 155, 177, 79, 89, 7, 86, 73, 119, 83, 120, 216, 69, 141, 238, 135, 53, 212, 7, 101, 223, 95, 152, 230, 74, 128, 98, 89, 125, 40, 61, 128, 213, 220, 243, 191, 172, 131, 183, 108, 11, 174, 52, 222, 157, 90, 187, 247, 55, 255, 228, 95, 84, 189, 150, 13, 160, 243, 125, 41, 105, 95, 236, 205, 6, 33, 129, 54, 203, 22, 4, 5, 208, 32, 101, 35, 195, 46, 253, 61, 110, 149, 47, 112, 26, 173, 45, 6, 59, 102, 172, 113, 236, 72, 7, 219, 227, 99, 81, 81, 112, 173, 253, 206, 79, 147, 140, 105, 157, 62, 106, 75, 190, 96, 195, 186, 32, 62, 147, 230, 196, 104, 6, 4, 239, 248, 82, 225, 133, 18, 37, 80, 230, 242, 157, 17, 166, 18, 85, 190, 160, 90, 253, 177, 224, 171, 5, 9, 87, 2, 82, 95, 255, 48, 67, 109, 58, 115, 99, 30, 153, 60, 115, 173, 27, 215, 19, 79, 165, 230, 219, 149, 10, 168, 72, 138, 206, 155, 64, 200, 178, 78, 69, 36, 147, 67, 116, 38, 67, 245, 84, 86, 56, 74, 215, 124, 107, 101, 200, 253, 45, 139, 51, 248, 102, 66, 93, 195, 158, 161, 183, 129, 90, 10, 167, 153, 180, 59, 39, 23, 104, 128, 108, 70, 242, 196, 222, 177, 217, 142, 198, 100, 144, 125, 87, 250, 173, 202, 70, 42, 69, 7, 3, 217, 124, 111, 61, 37, 142, 247, 84, 209, 206, 205, 184, 126, 136, 28, 213, 253, 9, 14, 223, 139, 244, 111, 101, 205, 204, 168, 3, 188, 86, 238, 198, 154, 216, 77, 74, 161, 224, 201, 116, 108, 239, 96, 225, 210, 200, 62, 226, 239, 139, 19, 189, 77, 87, 250, 13, 188, 101, 194, 170, 44, 12, 199, 78, 232, 194, 144, 12, 42, 240, 29, 15, 175, 126, 2, 42, 130, 0, 166, 99, 94, 28, 136, 195, 50, 65, 193, 114, 109, 122, 86, 174, 231, 110, 210, 135, 33, 151, 105, 98, 246, 238, 75, 143, 116, 144, 167, 187, 114, 141, 222, 127, 54, 147, 140, 20, 90, 33, 13, 87, 75, 148, 71, 89, 120, 249, 130, 129, 230, 25, 97, 2, 45, 200, 248, 169, 69, 185, 247, 228, 224, 227, 30, 49, 229, 102, 113, 216, 68, 44, 165, 167, 157, 192, 170, 138, 11, 128, 59, 184, 18, 251, 209, 183, 247, 89, 120, 190, 155, 147, 139, 57, 156, 204, 17, 202, 195, 170, 227, 81, 110, 45, 101, 121, 182, 45, 244, 90, 103, 173, 22, 234, 185, 178, 187, 13, 150, 253, 120, 130, 120, 254, 9, 150, 128, 210, 16, 3, 83, 45, 144, 80, 216, 99, 0, 218, 41, 217, 171, 240, 128, 84, 180, 253, 107, 225, 17, 82, 201, 249, 204, 116, 133, 2, 232, 81, 1, 202, 153, 93, 80, 152, 186, 53, 236, 140, 162, 228, 122, 126, 153, 29, 230, 31, 216, 217, 167, 180, 200, 193, 106, 79, 131, 49, 47, 147, 136, 250, 85, 36, 40, 233, 194, 210, 79, 72, 181, 24, 51, 189, 93, 65, 209, 50, 113, 19, 236, 232, 143, 117, 8, 108, 54, 206, 25, 131, 223, 222, 47, 111, 213, 253, 80, 169, 115, 22, 89, 29, 1, 193, 100, 140, 180, 93, 118, 97, 190, 120, 245, 239, 212, 146, 17, 25, 178, 80, 139, 134, 185, 3, 109, 63, 21, 183, 219, 43, 204, 123, 173, 145, 249, 217, 4, 57, 7, 124, 190, 136, 177, 169, 31, 31, 83, 43, 239, 246, 253, 128, 129, 24, 130, 75, 106, 173, 66, 242, 175, 166, 36, 89, 159, 64, 193, 247, 190, 126, 149, 134, 121, 65, 186, 183, 100, 77, 160, 116, 255, 24, 180, 161, 119, 51, 44, 217, 75, 169, 57, 12, 244, 45, 52, 1, 191, 93, 82, 188, 114, 192, 242, 138, 225, 49, 81, 244, 195, 117, 74, 109, 107, 103, 94, 41, 213, 93, 181, 32, 81, 212, 208, 145, 204, 121, 215, 79, 240, 214, 83, 168, 186, 175, 243, 159, 227, 228, 13, 229, 134, 215, 51, 237, 55, 41, 174, 168, 125, 177, 8, 118, 179, 255, 183, 92, 6, 124, 194, 89, 63, 49, 21, 211, 223, 43, 208, 36, 249, 189, 138, 102, 133, 133, 125, 27, 194, 234, 56, 82, 54, 57, 142, 71, 207, 179, 149, 238, 158, 19, 53, 165, 74, 116, 215, 14, 75, 200, 55, 21, 198, 119, 177, 228, 98, 229, 94, 112, 237, 205, 181, 199, 44, 64, 154, 13, 82, 111, 73, 158, 249, 191, 184, 16, 226, 106, 193, 40, 224, 171, 58, 7, 80, 225, 243, 72, 92, 79, 242, 213, 80, 136, 149, 161, 199, 104, 6, 128, 96, 187, 33, 104, 14, 170, 109, 177, 195, 231, 52, 187, 159, 87, 19, 148, 173, 36, 73, 118, 203, 160, 9, 8, 110, 197, 114, 113, 68, 177, 210, 153, 250, 135, 85, 238, 17, 174, 191, 104, 127, 221, 99, 203, 1, 215, 178, 104, 169, 191, 33, 83, 76, 83, 134, 91, 104, 141, 186, 27, 254, 207, 180, 94, 47, 172, 238, 153, 212, 74, 40, 22, 121, 161, 201, 141, 241, 133, 34, 76, 127, 154, 21, 208]
theorem cL0 : leaf seed 0 = L0 := by decide +kernel
theorem cP : of 2 [L0, L1] = P := by decide +kernel
theorem cG0 : of 4 [P, int 0, [109]] = G0 := by decide +kernel
theorem cG1 : of 4 [P, int 1, [109]] = G1 := by decide +kernel
theorem cGn : of 4 [P, int 1, [110]] = Gn := by decide +kernel
theorem cB : body seed 1 Dm = B := by decide +kernel
theorem cL1 : leafV 1 Dm (B ++ L0) = L1 := by decide +kernel
theorem cV : leafV 1 Dn (B ++ L0) = V := by decide +kernel
theorem cW : of 2 [L0, V] = W := by decide +kernel
end SgN
end Go.Am
end
section
/- The example of the documentation, told of the plain functions. -/
namespace Go.Am
open Go
namespace SgN
open ShaN
theorem by_of {l : List Nat} (h : l.all (fun x => Nat.blt x 256) = true) : By l := fun x hx => by
 have := List.all_eq_true.1 h x hx; rwa [Nat.blt_eq] at this
theorem seed_up : List.replicate 32 (5 : Int) = up seed := rfl
theorem seed_by : By seed := by_of (by decide)
theorem B_by : By B := by_of (by decide +kernel)
theorem L0_by : By L0 := by_of (by decide)
theorem L1_by : By L1 := by_of (by decide)
theorem P_by : By P := by_of (by decide)
theorem V_by : By V := by_of (by decide)
theorem B_len : B.length = 1088 := by decide +kernel
theorem d3 {l : List Nat} (h : l.all (fun x => Nat.ble x 3) = true) : ∀ c, l.getD c 0 ≤ 3 := fun c => by
 rw [List.getD_eq_getElem?_getD]
 cases e : l[c]? with
 | none => simp
 | some x => have := List.all_eq_true.1 h x (List.mem_of_getElem? e); rw [Nat.ble_eq] at this; exact this
theorem Dm3 : ∀ c, Dm.getD c 0 ≤ 3 := d3 (by decide +kernel)
theorem Dn3 : ∀ c, Dn.getD c 0 ≤ 3 := d3 (by decide +kernel)
theorem up3 {l : List Nat} (h : ∀ c, l.getD c 0 ≤ 3) : ∀ c, 0 ≤ (up l).getD c 0 ∧ (up l).getD c 0 ≤ 3 := fun c => by
 rw [up_getD]; have := h c; omega
theorem leaf0 : Sg.leaf (up seed) 0 = up L0 := by rw [← cL0]; exact leaf_eq seed_by rfl (by decide)
theorem body1 : Sg.body (up seed) 1 (up Dm) = up B := by rw [← cB]; exact body_eq seed_by rfl (by decide) Dm3
theorem up_append (a b : List Nat) : up a ++ up b = up (a ++ b) := by simp [up]
theorem BL_by : By (B ++ L0) := B_by.append L0_by
theorem BL_len : 1088 ≤ (B ++ L0).length := by rw [List.length_append, B_len]; omega
theorem leaf1 : Sg.nd (up seed) 0 1 = up L1 := by
 have h := Sg.leafV_body (s := up seed) (i := 1) (ds := up Dm) (Y := up L0) (up3 Dm3)
 rw [body1, up_append] at h
 rw [← h, ← cL1]
 exact leafV_eq (by decide) Dm3 BL_by BL_len
theorem of2 {a b : List Nat} (ha : By a) (hb : By b) (la : a.length = 16) (lb : b.length = 16) : Sg.node (up a) (up b) = up (of 2 [a, b]) :=
 of_eq (tag := 2) (l := [a, b]) (by decide) (fun t ht => by simp only [List.mem_cons, List.not_mem_nil, or_false] at ht; rcases ht with rfl | rfl <;> exact ⟨by assumption, by omega⟩) (by simp)
theorem root : Sg.nd (up seed) 1 0 = up P := by
 have e0 : Sg.nd (up seed) 0 (2 * 0) = up L0 := leaf0
 have e1 : Sg.nd (up seed) 0 (2 * 0 + 1) = up L1 := leaf1
 rw [Sg.nd, e0, e1, of2 L0_by L1_by rfl rfl, cP]
theorem pub1 : Sg.pub (List.replicate 32 (5 : Int)) 1 = (up P, 0) := by
 rw [seed_up, Sg.pub, if_neg (by decide)]
 exact congrArg (·, 0) root
theorem of4 {p m : List Nat} {i : Nat} (hp : By p) (hm : By m) (lp : p.length = 16) (lm : m.length < 65536) (hi : i < 65536) : Sg.digest (up p) (i : Int) (up m) = up (of 4 [p, int i, m]) := by
 have h := of_eq (tag := 4) (l := [p, int i, m]) (by decide) (fun t ht => by
  simp only [List.mem_cons, List.not_mem_nil, or_false] at ht
  rcases ht with rfl | rfl | rfl
  ·exact ⟨hp, by omega⟩
  ·exact ⟨int_by hi, by have := int_len i; omega⟩
  ·exact ⟨hm, lm⟩) (by simp)
 rw [Sg.digest, int_eq hi]; exact h
theorem g1 : Sg.digest (up P) 1 [109] = up G1 := by rw [← cG1]; exact of4 (m := [109]) (i := 1) P_by (by_of (by decide)) rfl (by decide) (by decide)
theorem g0 : Sg.digest (up P) 0 [109] = up G0 := by rw [← cG0]; exact of4 (m := [109]) (i := 0) P_by (by_of (by decide)) rfl (by decide) (by decide)
theorem gn : Sg.digest (up P) 1 [110] = up Gn := by rw [← cGn]; exact of4 (m := [110]) (i := 1) P_by (by_of (by decide)) rfl (by decide) (by decide)
theorem dm : Sg.digits (up G1) = up Dm := by decide +kernel
theorem dn : Sg.digits (up Gn) = up Dn := by decide +kernel
def sig : List Int := Wire.int 1 ++ (up B ++ up L0)
theorem sign1 : Sg.sign (List.replicate 32 (5 : Int)) 1 1 [109] = (sig, 0) := by
 rw [seed_up, Sg.sign_ok (by simp [up]; rfl) (by decide) (by decide) (by decide)]
 have e : (1 : Int).toNat = 1 := rfl
 have ep : Sg.path (up seed) 1 1 = up L0 := by
  have : Sg.path (up seed) 1 1 = Sg.nd (up seed) 0 (Sg.sib 1 0) := by simp [Sg.path]
  rw [this]; exact leaf0
 rw [e, root, g1, dm, body1, ep]; rfl
theorem ver1 : Sg.verify (up P) 1 [109] sig = (1, 0) := by
 have h := Sg.verify_sign (s := up seed) (h := 1) (i := 1) (m := [109]) (by simp [up]; rfl) (by decide) (by decide) (by decide)
 rw [← seed_up, sign1, seed_up, show (1 : Int).toNat = 1 from rfl, root] at h
 exact h
theorem ver2 : Sg.verify (up P) 1 [110] sig = (0, 10) := by
 have hl : ((up B ++ up L0).length : Int) = (68 + 1) * 16 := by
  rw [List.length_append]; simp only [up, List.length_map, B_len]; rfl
 rw [sig, Sg.verify_at (by decide) (by decide) (by decide), if_neg (by rw [hl]; decide), gn, dn]
 have e1 : Sg.leafV 1 (up Dn) (up B ++ up L0) = up V := by
  rw [up_append, ← cV]; exact leafV_eq (by decide) Dn3 BL_by BL_len
 have ev : Sg.val (up B ++ up L0) (68 + 0) = up L0 := by
  rw [Sg.val_skip _ _ 68 0 (by simp only [up, List.length_map, B_len])]; rfl
 have e2 : Sg.climb 1 (up B ++ up L0) (up V) (Int.toNat 1) = up W := by
  have : (1 : Int).toNat = 0 + 1 := rfl
  rw [this, Sg.climb, if_pos (by decide), ev, Sg.climb, of2 L0_by V_by rfl rfl, cW]
 rw [e1, e2, if_pos (by decide)]
theorem sign2 : Sg.sign (List.replicate 32 (5 : Int)) 1 2 [109] = ([], 24) := by
 rw [Sg.sign, if_neg (by decide), if_pos (by decide)]
theorem pub2 : Sg.pub (((List.replicate 32 (5 : Int)).take (List.replicate 32 (5 : Int)).length).drop 1) 0 = (List.replicate 16 0, 1) := by
 rw [Sg.pub, if_pos (by decide)]
theorem zeros : Sg.digits (List.replicate 16 0) = List.replicate 64 0 ++ [3, 0, 0, 0] := by decide +kernel
end SgN
end Go.Am
end
section
namespace Go.Am
open Go Go.Proofs
abbrev Ty60 := Bool × Li × Li
abbrev Ty61 := Bool × Li × Li × Int
noncomputable section
def lVG029 : List CEnt := [(10,[none],r10),(12,[none,none],r12),(14,[none,none,none,none],r14),(16,[none,none,none],r16),(18,[none,none,none,none],r18),(20,[none],r20)]
def VG029 : Env := mkEnv T03 G02 lVG029
noncomputable abbrev Kf57 := kFin VG029 none (Tryd.f9).results.toList
theorem eVG029 : EOk Tryd.prog VG029 := eok_mk (by exact ⟨c10,c12,c14,c16,c18,c20,trivial⟩)
def Af9 (F : Nat) : Cuts := { F := F,at_ := fun _ => none,join := fun _ => none }
def ef9_a : Unit → St := fun _ => ⟨[],[],0,105,0⟩
def f9_1 (F : Nat) : Unit → Rz := fun _ => (cond (Sg.low (1 : Int)) (cond (Sg.low (1 : Int)) (cond (Sg.low (1 : Int)) (cond ((decide ((1 : Int) ≤ (↑(List.replicate 32 (5 : Int)).length : Int))) && (decide ((↑(List.replicate 32 (5 : Int)).length : Int) ≤ (↑(List.replicate 32 (5 : Int)).length : Int)))) (cond (Sg.low (0 : Int)) (cond ((Sg.pub (List.replicate 32 (5 : Int)) (1 : Int)).2 != (0 : Int)) (some ((.bool false),[])) (cond ((Sg.sign (List.replicate 32 (5 : Int)) (1 : Int) (1 : Int) [109]).2 != (0 : Int)) (some ((.bool false),[])) (cond ((Sg.verO (Sg.pub (List.replicate 32 (5 : Int)) (1 : Int)).1 (1 : Int) [109] (Sg.sign (List.replicate 32 (5 : Int)) (1 : Int) (1 : Int) [109]).1).2 != (0 : Int)) (some ((.bool false),[])) (cond ((↑(Sg.digits (List.replicate 16 0)).length : Int) != (68 : Int)) (some ((.bool false),[])) (cond ((Sg.verO (Sg.pub (List.replicate 32 (5 : Int)) (1 : Int)).1 (1 : Int) [109] (Sg.sign (List.replicate 32 (5 : Int)) (1 : Int) (1 : Int) [109]).1).1 == (1 : Int)) (cond ((Sg.verO (Sg.pub (List.replicate 32 (5 : Int)) (1 : Int)).1 (1 : Int) [110] (Sg.sign (List.replicate 32 (5 : Int)) (1 : Int) (1 : Int) [109]).1).2 == (10 : Int)) (cond ((Sg.sign (List.replicate 32 (5 : Int)) (1 : Int) (2 : Int) [109]).2 == (24 : Int)) (cond ((Sg.pub (((List.replicate 32 (5 : Int)).take (List.replicate 32 (5 : Int)).length).drop 1) (0 : Int)).2 == (1 : Int)) (cond (decide ((0 : Int) < (↑(Sg.digits (List.replicate 16 0)).length : Int))) (cond (((Sg.digits (List.replicate 16 0)).getD 0 0) == (0 : Int)) (cond (decide ((64 : Int) < (↑(Sg.digits (List.replicate 16 0)).length : Int))) (cond (((Sg.digits (List.replicate 16 0)).getD 64 0) == (3 : Int)) (cond (decide ((67 : Int) < (↑(Sg.digits (List.replicate 16 0)).length : Int))) (cond (((Sg.digits (List.replicate 16 0)).getD 67 0) == (0 : Int)) (cond (decide ([109].length < 1073741000)) (cond (decide ([109].length < 1073741000)) (some ((.bool (!(((Sg.digest (Sg.pub (List.replicate 32 (5 : Int)) (1 : Int)).1 (1 : Int) [109]) : List Int) == (Sg.digest (Sg.pub (List.replicate 32 (5 : Int)) (1 : Int)).1 (0 : Int) [109])))),[])) none) none) (some ((.bool false),[]))) none) (some ((.bool false),[]))) none) (some ((.bool false),[]))) none) (some ((.bool false),[]))) (some ((.bool false),[]))) (some ((.bool false),[]))) (some ((.bool false),[]))))))) none) none) none) none) none)
theorem f9_1_eq (F : Nat) : ∀ v,aexec VG029 (Af9 F) (sub (bodyOf Tryd.f9) []) (ef9_a v) Kf57 = f9_1 F v := by
 intro _; kernel_rfl
def f9 (F : Nat) : Unit → Rz := f9_1 F
theorem f9_body (F : Nat)  : abody VG029 (Af9 F) Tryd.f9 [] [] = f9 F () :=
 (abody_in (c := (sub (bodyOf Tryd.f9) [])) (by kernel_rfl) (s := ef9_a ()) (by kernel_rfl)).trans (f9_1_eq F ())
def r9 : CRun := fun X H => match X,H with
 | [],[] => some (true,.bool true,[])
 | _,_ => none
theorem s9  : ∃ F,f9 F () = some ((.bool true),[]) := by
 refine ⟨0,?_⟩
 simp only [f9,f9_1,Sg.verO_eq,SgN.pub1,SgN.sign1,SgN.ver1,SgN.ver2,SgN.sign2,SgN.pub2,SgN.zeros,SgN.g1,SgN.g0]
 kernel_rfl
theorem c9 : CallOk Tryd.prog G02 9 r9 := callOk_of (V := VG029) mixed tys eVG029 (f := 9) (fn := Tryd.f9) Tryd.func9 (by kernel_rfl) (c := sub (bodyOf Tryd.f9) []) (by kernel_rfl) (by
 intro X H r H' h hX hH
 unfold r9 at h; split at h <;> try contradiction
 ·simp only [Option.some.injEq,Prod.mk.injEq] at h
  obtain ⟨hp,rfl,rfl⟩ := h
  obtain ⟨F,hF⟩ := s9
  exact ⟨Af9 F,(f9_body F).trans hF⟩)
def lVG023 : List CEnt := [(9,[],r9),(10,[none],r10),(11,[none],r11)]
def VG023 : Env := mkEnv T03 G02 lVG023
noncomputable abbrev Kf58 := kFin VG023 none (Tryd.f3).results.toList
theorem eVG023 : EOk Tryd.prog VG023 := eok_mk (by exact ⟨c9,c10,c11,trivial⟩)
def Af3 (F : Nat) : Cuts := { F := F,at_ := fun n => match n with | 7016 => some sp20 | _ => none,join := fun n => match n with | 1038 => some [(1,.plain)] | 2036 => some [(1,.plain),(3,.plain)] | 3034 => some sp26 | 4032 => some sp17 | 6024 => some sp17 | 7018 => some sp20 | 11003 => some [(3,.plain)] | _ => none }
noncomputable abbrev XAf3 (F : Nat) {α : Type} := @aexec α VG023 (Af3 F)
def ef3_a : Li → St := fun a0 => ⟨[(0,(.agg 16 (.rI .u8 a0)))],[],0,47,0⟩
def ef3j1 : Li → St := fun x1 => ⟨[(1,.ptr 0 0 16 0 0 0 16)],[(0,(.cells 16 (.rI .u8 x1) true))],1,47,0⟩
def ef3j2 : Bool × Li → St := fun (t3,x2) => ⟨[(1,.ptr 0 0 16 0 0 0 16),(3,.bool t3)],[(0,(.cells 16 (.rI .u8 x2) true))],1,47,0⟩
def ef3j3 : Ty60 → St := fun (t3,t4,x3) => ⟨[(1,.ptr 0 0 16 0 0 0 16),(3,.bool t3),(4,(.vs (.rI .i64 t4) 0 1))],[(0,(.cells 16 (.rI .u8 x3) true))],1,47,0⟩
def ef3j4 : Ty60 → St := fun (t3,t4,t5) => ⟨[(3,.bool t3),(4,(.vs (.rI .i64 t4) 0 1)),(5,(.vs (.rI .i64 t5) 0 1))],[],0,47,0⟩
def ef3j5 : Ty60 → St := ef3j4
def ef3j6 : Ty61 → St := fun (t3,t4,t5,t6) => ⟨[(3,.bool t3),(4,(.vs (.rI .i64 t4) 0 1)),(5,(.vs (.rI .i64 t5) 0 1)),(6,.int .i64 t6)],[],0,47,0⟩
def ef3l1 : Ty61 → St := ef3j6
def ef3j7 : Bool → St := fun t3 => ⟨[(3,.bool t3)],[],0,47,0⟩
def f3_1 (F : Nat) (kf3j1 : Li → Rz) : Li → Rz := fun a0 => (kf3j1 a0)
theorem f3_1_eq (F : Nat) (Rf3j1 : St → Rz) : ∀ v,XAf3 F (bp Tryd.f3 2) (ef3_a v) (kSeq (kc VG023 Rf3j1 [(1,.plain)]) Kf58) = f3_1 F (Rf3j1 ∘ ef3j1) v := by
 intro a0; kernel_rfl
def f3_2 (F : Nat) (kf3j2 : Bool × Li → Rz) : Li → Rz := fun x1 => (kf3j2 (true,x1))
theorem f3_2_eq (F : Nat) (Rf3j2 : St → Rz) : ∀ v,XAf3 F (bp Tryd.f3 6) (ef3j1 v) (kSeq (kc VG023 Rf3j2 [(1,.plain),(3,.plain)]) Kf58) = f3_2 F (Rf3j2 ∘ ef3j2) v := by
 intro x1; kernel_rfl
def f3_3 (F : Nat) (kf3j3 : Ty60 → Rz) : Bool × Li → Rz := fun (t3,x2) => (kf3j3 (t3,(Sg.digits x2),x2))
theorem f3_3_eq (F : Nat) (Rf3j3 : St → Rz) : ∀ v,XAf3 F (bp Tryd.f3 14) (ef3j2 v) (kSeq (kc VG023 Rf3j3 sp26) Kf58) = f3_3 F (Rf3j3 ∘ ef3j3) v := by
 rintro ⟨t3,x2⟩; kernel_rfl
def f3_4 (F : Nat) (kf3j4 : Ty60 → Rz) : Ty60 → Rz := fun (t3,t4,x3) => (kf3j4 (t3,t4,(Sg.digits x3)))
theorem f3_4_eq (F : Nat) (Rf3j4 : St → Rz) : ∀ v,XAf3 F (bp Tryd.f3 30) (ef3j3 v) (kSeq (kc VG023 Rf3j4 sp17) Kf58) = f3_4 F (Rf3j4 ∘ ef3j4) v := by
 rintro ⟨t3,t4,x3⟩; kernel_rfl
def f3_5 (F : Nat) (kf3j5 : Ty60 → Rz) : Ty60 → Rz := fun (t3,t4,t5) => (cond ((↑t4.length : Int) != (↑t5.length : Int)) (some ((.bool false),[])) (kf3j5 (t3,t4,t5)))
theorem f3_5_eq (F : Nat) (Rf3j5 : St → Rz) : ∀ v,XAf3 F (bp Tryd.f3 62) (ef3j4 v) (kSeq (kc VG023 Rf3j5 sp17) Kf58) = f3_5 F (Rf3j5 ∘ ef3j5) v := by
 rintro ⟨t3,t4,t5⟩; kernel_rfl
def f3_6 (F : Nat) (kf3j6 : Ty61 → Rz) (kf3j7 : Bool → Rz) : Ty60 → Rz := fun (t3,t4,t5) => (kf3j6 (t3,t4,t5,(0 : Int)))
theorem f3_6_eq (F : Nat) (Rf3j6 : St → Rz) (Rf3j7 : St → Rz) : ∀ v,XAf3 F (bp Tryd.f3 252) (ef3j5 v) (kSeq (kc VG023 Rf3j6 sp20) (kSeq (kc VG023 Rf3j7 [(3,.plain)]) Kf58)) = f3_6 F (Rf3j6 ∘ ef3j6) (Rf3j7 ∘ ef3j7) v := by
 rintro ⟨t3,t4,t5⟩; kernel_rfl
def f3_7 (F : Nat) (kf3l1 : Ty61 → Rz) (kf3j7 : Bool → Rz) : Ty61 → Rz := fun (t3,t4,t5,t6) => (cond (decide (t6 < (↑t4.length : Int))) (cond ((decide (0 ≤ t6)) && (decide (t6 < (↑t4.length : Int)))) (cond ((decide (0 ≤ t6)) && (decide (t6 < (↑t5.length : Int)))) (cond ((t4.getD (Int.toNat t6) 0) != (t5.getD (Int.toNat t6) 0)) (some ((.bool false),[])) (cond ((decide (0 ≤ t6)) && (decide (t6 < (↑t4.length : Int)))) (cond (decide ((t4.getD (Int.toNat t6) 0) < (0 : Int))) (some ((.bool false),[])) (cond ((decide (0 ≤ t6)) && (decide (t6 < (↑t4.length : Int)))) (cond (decide ((t4.getD (Int.toNat t6) 0) > (3 : Int))) (some ((.bool false),[])) (kf3l1 (t3,t4,t5,(IntKind.i64.wrap (t6 + (1 : Int)))))) none)) none)) none) none) (kf3j7 t3))
theorem f3_7_eq (F : Nat) (Rf3l1 : St → Rz) (Rf3j7 : St → Rz) : ∀ v,XAf3 F (bp Tryd.f3 1012) (ef3l1 v) (kSeq (kc VG023 Rf3l1 sp20) (kBlock 0 (kSeq (kc VG023 Rf3j7 [(3,.plain)]) Kf58))) = f3_7 F (Rf3l1 ∘ ef3l1) (Rf3j7 ∘ ef3j7) v := by
 rintro ⟨t3,t4,t5,t6⟩; kernel_rfl
def f3_8_i : Ty61 → Bool × Li × Li × Int := fun (t3,t4,t5,t6) => (t3,t4,t5,t6)
def f3_8 (F : Nat) (kf3j7 : Bool → Rz) : Ty61 → Rz := fun v => loopN (fun k => f3_7 F k kf3j7) F (f3_8_i v)
theorem f3_8_eq (F : Nat) (Rf3j7 : St → Rz) : ∀ v,XAf3 F (bp Tryd.f3 506) (ef3j6 v) (kBlock 0 (kSeq (kc VG023 Rf3j7 [(3,.plain)]) Kf58)) = f3_8 F (Rf3j7 ∘ ef3j7) v :=
 loop_cut (by kernel_rfl) (by kernel_rfl) ef3j6 ef3l1 _ f3_8_i (fun k => f3_7 F k (Rf3j7 ∘ ef3j7))
  (by rintro ⟨t3,t4,t5,t6⟩; kernel_rfl) (fun Rf3l1 => f3_7_eq F Rf3l1 Rf3j7)
def f3_9 (F : Nat) (kf3j7 : Bool → Rz) : Ty61 → Rz := f3_8 F kf3j7
theorem f3_9_eq (F : Nat) (Rf3j7 : St → Rz) : ∀ v,XAf3 F (bp Tryd.f3 253) (ef3j6 v) (kSeq (kc VG023 Rf3j7 [(3,.plain)]) Kf58) = f3_9 F (Rf3j7 ∘ ef3j7) v := fun v =>
 (block_in  (by kernel_rfl) _ _).trans (f3_8_eq F Rf3j7 v)
def f3_10 (F : Nat) (kf3j7 : Bool → Rz) : Ty60 → Rz := fun v => f3_6 F (f3_9 F kf3j7) kf3j7 v
theorem f3_10_eq (F : Nat) (Rf3j7 : St → Rz) : ∀ v,XAf3 F (bp Tryd.f3 126) (ef3j5 v) (kSeq (kc VG023 Rf3j7 [(3,.plain)]) Kf58) = f3_10 F (Rf3j7 ∘ ef3j7) v :=
 seq_cut (by kernel_rfl) (by kernel_rfl) ef3j5 ef3j6 _ (fun k => f3_6 F k (Rf3j7 ∘ ef3j7)) (f3_9 F (Rf3j7 ∘ ef3j7))
  (fun Rf3j6 => f3_6_eq F Rf3j6 Rf3j7) (f3_9_eq F Rf3j7)
def f3_11 (F : Nat) : Bool → Rz := fun t3 => (some ((.bool t3),[]))
theorem f3_11_eq (F : Nat) : ∀ v,XAf3 F (bp Tryd.f3 127) (ef3j7 v) Kf58 = f3_11 F v := by
 intro t3; kernel_rfl
def f3_12 (F : Nat) : Ty60 → Rz := fun v => f3_10 F (f3_11 F) v
theorem f3_12_eq (F : Nat) : ∀ v,XAf3 F (bp Tryd.f3 63) (ef3j5 v) Kf58 = f3_12 F v :=
 seq_cut (by kernel_rfl) (by kernel_rfl) ef3j5 ef3j7 _ (fun k => f3_10 F k) (f3_11 F)
  (fun Rf3j7 => f3_10_eq F Rf3j7) (f3_11_eq F)
def f3_13 (F : Nat) : Ty60 → Rz := fun v => f3_5 F (f3_12 F) v
theorem f3_13_eq (F : Nat) : ∀ v,XAf3 F (bp Tryd.f3 31) (ef3j4 v) Kf58 = f3_13 F v :=
 seq_cut (by kernel_rfl) (by kernel_rfl) ef3j4 ef3j5 _ (fun k => f3_5 F k) (f3_12 F)
  (fun Rf3j5 => f3_5_eq F Rf3j5) (f3_12_eq F)
def f3_14 (F : Nat) : Ty60 → Rz := fun v => f3_4 F (f3_13 F) v
theorem f3_14_eq (F : Nat) : ∀ v,XAf3 F (bp Tryd.f3 15) (ef3j3 v) Kf58 = f3_14 F v :=
 seq_cut (by kernel_rfl) (by kernel_rfl) ef3j3 ef3j4 _ (fun k => f3_4 F k) (f3_13 F)
  (fun Rf3j4 => f3_4_eq F Rf3j4) (f3_13_eq F)
def f3_15 (F : Nat) : Bool × Li → Rz := fun v => f3_3 F (f3_14 F) v
theorem f3_15_eq (F : Nat) : ∀ v,XAf3 F (bp Tryd.f3 7) (ef3j2 v) Kf58 = f3_15 F v :=
 seq_cut (by kernel_rfl) (by kernel_rfl) ef3j2 ef3j3 _ (fun k => f3_3 F k) (f3_14 F)
  (fun Rf3j3 => f3_3_eq F Rf3j3) (f3_14_eq F)
def f3_16 (F : Nat) : Li → Rz := fun v => f3_2 F (f3_15 F) v
theorem f3_16_eq (F : Nat) : ∀ v,XAf3 F (bp Tryd.f3 3) (ef3j1 v) Kf58 = f3_16 F v :=
 seq_cut (by kernel_rfl) (by kernel_rfl) ef3j1 ef3j2 _ (fun k => f3_2 F k) (f3_15 F)
  (fun Rf3j2 => f3_2_eq F Rf3j2) (f3_15_eq F)
def f3_17 (F : Nat) : Li → Rz := fun v => f3_1 F (f3_16 F) v
theorem f3_17_eq (F : Nat) : ∀ v,XAf3 F (sub (bodyOf Tryd.f3) []) (ef3_a v) Kf58 = f3_17 F v :=
 seq_cut (by kernel_rfl) (by kernel_rfl) ef3_a ef3j1 _ (fun k => f3_1 F k) (f3_16 F)
  (fun Rf3j1 => f3_1_eq F Rf3j1) (f3_16_eq F)
def f3 (F : Nat) : Li → Rz := f3_17 F
theorem f3_body (F : Nat) (a0 : List Int) : abody VG023 (Af3 F) Tryd.f3 [(.agg 16 (.rI .u8 a0))] [] = f3 F a0 :=
 (abody_in (c := (sub (bodyOf Tryd.f3) [])) (by kernel_rfl) (s := ef3_a a0) (by kernel_rfl)).trans (f3_17_eq F a0)
def r3 : CRun := fun X H => match X,H with
 | [(.agg 16 (.rI .u8 a0))],[] => some (true,.bool true,[])
 | _,_ => none
theorem s3 (a0 : List Int) (h0 : okV (.agg 16 (.rI .u8 a0))) : ∃ F,f3 F a0 = some ((.bool true),[]) := by
 have hl := Sg.digits_len a0
 have hr := Sg.digits_get a0
 obtain ⟨F,hF⟩ : ∃ F,100 < F := ⟨101,by decide⟩
 refine ⟨F,?_⟩
 simp only [f3_1,f3_2,f3_3,f3_4,f3_5,f3_6,f3_8_i,f3_8,f3_9,f3_10,f3_12,f3_13,f3_14,f3_15,f3_16,f3_17,f3,int_bne]
 rw [cond_neg (fun h => h rfl)]
 generalize Sg.digits a0 = D at hl hr
 refine loopN_from (fun i => (true,D,D,(i : Int))) 68 (by rfl) (fun i hi k => ?_) (fun k => ?_) _ (by omega)
 ·have h1 := hr i
  simp only [f3_7,dec_and,int_bne,Int.toNat_natCast]
  rw [cond_pos (by omega),cond_pos (by omega),cond_pos (by omega),cond_neg (fun h => h rfl),cond_pos (by omega),cond_neg (by omega),cond_pos (by omega),cond_neg (by omega),i64w (by omega) (by omega)]
  rfl
 ·simp only [f3_7,dec_and]
  rw [cond_neg (by omega)]
  rfl
theorem c3 : CallOk Tryd.prog G02 3 r3 := callOk_of (V := VG023) mixed tys eVG023 (f := 3) (fn := Tryd.f3) Tryd.func3 (by kernel_rfl) (c := sub (bodyOf Tryd.f3) []) (by kernel_rfl) (by
 intro X H r H' h hX hH
 unfold r3 at h; split at h <;> try contradiction
 ·simp only [Option.some.injEq,Prod.mk.injEq] at h
  obtain ⟨hp,rfl,rfl⟩ := h
  obtain ⟨F,hF⟩ := s3 _ (hX _ (.head _))
  exact ⟨Af3 F,(f3_body F _).trans hF⟩)
def r7 : CRun := fun X H => match X,H with
 | [(.agg 16 (.rI .u8 a0)),(.agg 16 (.rI .u8 a1))],[] => some (true,.bool true,[])
 | _,_ => none
end
end Go.Am
end
section
namespace Go.Am
open Go Go.Proofs
noncomputable section
def r6 : CRun := fun X H => match X,H with
 | [(.int .u8 a0),.int .u8 a1,.int .u8 a2,.str a3],[] => some (true,.bool true,[])
 | _,_ => none
theorem pub_ok {s : List Int} {n : Nat} (hs : s.length = 32) (h : n ≤ 2) : Sg.pub s (n : Int) = (Sg.nd s n 0,0) := by
 rw [Sg.pub,if_neg (by omega),Int.toNat_natCast]
theorem signed {s m : List Int} {n : Nat} {i : Int} (hs : s.length = 32) (h : n ≤ 2) (hi : 0 ≤ i ∧ i < 2 ^ n) (hm : m.length ≤ 1048576) :
  ∃ R : List Int,Sg.sign s (n : Int) i m = (Wire.int i ++ R,0) ∧ R.length = 1088 + 16 * n ∧ Sg.verify (Sg.nd s n 0) (n : Int) m (Wire.int i ++ R) = (i,0) := by
 have h1 := Sg.sign_ok (s := s) (h := (n : Int)) (i := i) (m := m) hs (by omega) (by rw [Int.toNat_natCast]; exact hi) hm
 have h2 := Sg.verify_sign (s := s) (h := (n : Int)) (i := i) (m := m) hs (by omega) (by rw [Int.toNat_natCast]; exact hi) hm
 rw [h1,Int.toNat_natCast] at h2
 rw [Int.toNat_natCast] at h1
 exact ⟨_,h1,by rw [List.length_append,Sg.body_len,Sg.path_len],h2⟩
end
end Go.Am
end
section
namespace Go.Am
open Go Go.Proofs
noncomputable section
def r5 : CRun := fun X H => match X,H with
 | [(.agg 16 (.rI .u8 a0)),.int .i64 a1,.str a2,.str a3],[] => some (true,.bool true,[])
 | _,_ => none
def r8 : CRun := fun X H => match X,H with
 | [(.int .u8 a0),.int .u8 a1,.int .u8 a2,.int .u8 a3,.str a4],[] => some (true,.bool true,[])
 | _,_ => none
end
end Go.Am
end