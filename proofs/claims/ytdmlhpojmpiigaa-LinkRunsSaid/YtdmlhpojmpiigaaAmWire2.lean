/- Lists, and what the decoders return. -/
import Derived.Test.YtdmlhpojmpiigaaAmWire
set_option linter.unusedVariables false
set_option linter.unusedSimpArgs false
namespace Go.Am.Wire
open Go

def ints (l : List Int) : List Int := int (l.length : Int) ++ l.flatMap int
def strs (l : List (List Int)) : List Int := int (l.length : Int) ++ l.flatMap bytes
def digs (n : Nat) (xs : List Int) : List Int := int (n : Int) ++ xs
def total (l : List (List Int)) : Nat := l.length + l.flatten.length
def few (l : List (List Int)) : Bool := decide (total l ≤ 2000)
def flp (h d : Int) : Int := if h < 128 then 255 - d else d
def cntOf (h : Int) : Nat := (if h < 128 then 127 - h else h - 128).toNat
def val (h : Int) (l : List Int) : Int := l.foldl (fun a c => a * 256 + flp h c) 0
def getInt : List Int → Int × Int × Int
  | [] => (0, 0, 3)
  | h :: t =>
    if 8 < cntOf h then (0, 0, 2)
    else if t.length < cntOf h then (0, 0, 3)
    else if 0 < cntOf h ∧ flp h (t.getD 0 0) = 0 then (0, 0, 2)
    else if 9223372036854775808 ≤ val h (t.take (cntOf h)) then (0, 0, 2)
    else ((if h < 128 then -1 - val h (t.take (cntOf h)) else val h (t.take (cntOf h))), (cntOf h : Int) + 1, 0)
def count (b : List Int) (z : Int) : Int × Int × Int :=
  ((getInt b).1, (getInt b).2.1, if (getInt b).2.2 ≠ 0 then (getInt b).2.2 else if (getInt b).1 < 0 then 2 else if ((b.length : Int) - (getInt b).2.1) / z < (getInt b).1 then 3 else 0)
def rcount (b : List Int) (z : Int) : Int × Int × Int := if (count b z).2.2 = 0 then count b z else (0, 0, (count b z).2.2)
def getBytes (b : List Int) : List Int × Int × Int :=
  if (count b 1).2.2 = 0 then ((b.drop (count b 1).2.1.toNat).take (count b 1).1.toNat, (count b 1).2.1 + (count b 1).1, 0) else ([], 0, (count b 1).2.2)
def intsN (b : List Int) : Nat → Int → List Int → List Int × Int × Int
  | 0, at_, acc => (acc, at_, 0)
  | n + 1, at_, acc => if (getInt (b.drop at_.toNat)).2.2 = 0 then intsN b n (at_ + (getInt (b.drop at_.toNat)).2.1) (acc ++ [(getInt (b.drop at_.toNat)).1]) else ([], 0, (getInt (b.drop at_.toNat)).2.2)
def getInts (b : List Int) : List Int × Int × Int :=
  if (count b 1).2.2 = 0 then intsN b (count b 1).1.toNat (count b 1).2.1 [] else ([], 0, (count b 1).2.2)
def strsN (b : List Int) : Nat → Int → List (List Int) → List (List Int) × Int × Int
  | 0, at_, acc => (acc, at_, 0)
  | n + 1, at_, acc => if (getBytes (b.drop at_.toNat)).2.2 = 0 then strsN b n (at_ + (getBytes (b.drop at_.toNat)).2.1) (acc ++ [(getBytes (b.drop at_.toNat)).1]) else ([], 0, (getBytes (b.drop at_.toNat)).2.2)
def getStrs (b : List Int) : List (List Int) × Int × Int :=
  if (count b 1).2.2 = 0 then strsN b (count b 1).1.toNat (count b 1).2.1 [] else ([], 0, (count b 1).2.2)
def getDigs (b : List Int) : Nat × List Int × Int × Int :=
  if (count b 16).2.2 = 0 then ((count b 16).1.toNat, (b.drop (count b 16).2.1.toNat).take (16 * (count b 16).1.toNat), (count b 16).2.1 + 16 * (count b 16).1, 0) else (0, [], 0, (count b 16).2.2)
def nextAt (b : List Int) (at_ : Int) : Int := at_ + (getInt (b.drop at_.toNat)).2.1
def is (c : List Int) (u e : Int) (b : List Int) : Bool := decide (e ≠ 0) || ((decide (0 ≤ u) && decide (u ≤ (b.length : Int))) && decide (c = b.take u.toNat))

def okBytes (b : List Int) : Prop := ∀ x ∈ b, 0 ≤ x ∧ x ≤ 255
theorem cntOf_le {h : Int} (hb : 0 ≤ h ∧ h ≤ 255) : cntOf h ≤ 127 := by unfold cntOf; split <;> omega
theorem flp_rng {h d : Int} (hd : 0 ≤ d ∧ d ≤ 255) : 0 ≤ flp h d ∧ flp h d ≤ 255 := by unfold flp; split <;> omega
theorem foldl_rng (h : Int) : ∀ (l : List Int) (a : Int), 0 ≤ a → okBytes l → 0 ≤ l.foldl (fun a c => a * 256 + flp h c) a ∧ l.foldl (fun a c => a * 256 + flp h c) a < (a + 1) * 256 ^ l.length
  | [], a, ha, _ => by simp; omega
  | x :: l, a, ha, hl => by
    have hx := flp_rng (h := h) (hl x (by simp))
    have := foldl_rng h l (a * 256 + flp h x) (by omega) (fun y hy => hl y (by simp [hy]))
    refine ⟨this.1, Int.lt_of_lt_of_le this.2 ?_⟩
    rw [List.length_cons, Int.pow_succ, Int.mul_comm (256 ^ l.length) 256, ← Int.mul_assoc]
    exact Int.mul_le_mul_of_nonneg_right (by omega) (Int.le_of_lt (Int.pow_pos (by decide)))
theorem val_rng (h : Int) {l : List Int} (hl : okBytes l) : 0 ≤ val h l ∧ val h l < 256 ^ l.length := by
  have := foldl_rng h l 0 (by omega) hl
  simpa [val] using this
theorem getInt_rng {b : List Int} (hb : okBytes b) : (getInt b).2.1 ≤ (b.length : Int) ∧ 0 ≤ (getInt b).2.1 ∧ IntKind.i64.has (getInt b).1 ∧ (0 ≤ (getInt b).2.2 ∧ (getInt b).2.2 ≤ 3) ∧ ((getInt b).2.2 = 0 → 1 ≤ (getInt b).2.1) ∧ (getInt b).2.1 ≤ 9 := by
  have z : IntKind.i64.has 0 := by constructor <;> decide
  cases b with
  | nil => simp [getInt, z]
  | cons h t =>
    have hv := val_rng h (l := t.take (cntOf h)) (fun x hx => hb x (by simp [List.mem_of_mem_take hx]))
    simp only [getInt]
    by_cases c1 : 8 < cntOf h
    · rw [if_pos c1]; simp [z]; omega
    rw [if_neg c1]
    by_cases c2 : t.length < cntOf h
    · rw [if_pos c2]; simp [z]; omega
    rw [if_neg c2]
    by_cases c3 : 0 < cntOf h ∧ flp h (t.getD 0 0) = 0
    · rw [if_pos c3]; simp [z]; omega
    rw [if_neg c3]
    by_cases c4 : 9223372036854775808 ≤ val h (t.take (cntOf h))
    · rw [if_pos c4]; simp [z]; omega
    rw [if_neg c4]
    refine ⟨by simp only [List.length_cons]; omega, by simp only []; omega, ?_, by simp, fun _ => by simp only []; omega, by simp only []; omega⟩
    simp only []
    constructor
    · show -9223372036854775808 ≤ _; split <;> omega
    · show _ ≤ (9223372036854775807 : Int); split <;> omega
end Go.Am.Wire
namespace Go.Am
open Go
theorem flatMap_take {α : Type} (d : α) (f : α → List Int) (l : List α) (i : Nat) (h : i < l.length) : (l.take (i + 1)).flatMap f = (l.take i).flatMap f ++ f (l.getD i d) := by
  rw [List.take_add_one, List.getElem?_eq_getElem h, List.getD_eq_getElem?_getD, List.getElem?_eq_getElem h, List.flatMap_append]
  simp only [Option.toList_some, List.flatMap_cons, List.flatMap_nil, List.append_nil, Option.getD_some]
theorem flatMap_le {α : Type} (f : α → List Int) (l : List α) (i : Nat) : ((l.take i).flatMap f).length ≤ (l.flatMap f).length := by
  have : l.flatMap f = (l.take i).flatMap f ++ (l.drop i).flatMap f := by rw [← List.flatMap_append, List.take_append_drop]
  rw [this, List.length_append]; omega
theorem take_one (l : List Int) (i : Nat) (h : i < l.length) : l.take (i + 1) = l.take i ++ [l.getD i 0] := by
  rw [List.take_add_one, List.getElem?_eq_getElem h, List.getD_eq_getElem?_getD, List.getElem?_eq_getElem h]; rfl
theorem chunk_eq {n : Nat} {a b : List Int} (ha : a.length = n * 16) (hb : b.length = n * 16) (h : ∀ i, i < n → (a.drop (i * 16)).take 16 = (b.drop (i * 16)).take 16) : a = b := by
  refine list_eq 0 (by omega) fun j hj => ?_
  have := h (j / 16) (by omega)
  have e : ((a.drop (j / 16 * 16)).take 16)[j % 16]? = ((b.drop (j / 16 * 16)).take 16)[j % 16]? := by rw [this]
  rw [List.getElem?_take, List.getElem?_take, if_pos (by omega), if_pos (by omega), List.getElem?_drop, List.getElem?_drop, show j / 16 * 16 + j % 16 = j by omega] at e
  rw [List.getD_eq_getElem?_getD, List.getD_eq_getElem?_getD, e]
end Go.Am
