/- Links: the two pairs of ends, after some calls. -/
import Derived.Test.YtdmlhpojmpiigaaAmLink9
set_option linter.unusedVariables false
set_option linter.unusedSimpArgs false
namespace Go.Am
open Go
namespace Lk
theorem int_ge (n : Int) : 1 ≤ (Wire.int n).length := Wire.int_pos n
theorem pbytes_ge (s a : Int) (b : List Int) : 5 ≤ (pbytes s a b).length := by
  have h1 := int_ge s
  have h2 := int_ge a
  have h3 : 2 ≤ (Wire.int 2).length := by rw [Wire.int_len]; have : 0 < Wire.nb (Wire.mag 2) := by decide
                                          omega
  have h4 := int_ge ((b.length : Nat) : Int)
  have e : (pbytes s a b).length = (Wire.int 2).length + ((Wire.int s).length + (Wire.int a).length) + ((Wire.int ((b.length : Nat) : Int)).length + b.length) := by
    show (Wire.int 2 ++ [s, a].flatMap Wire.int ++ (Wire.int ((b.length : Nat) : Int) ++ b)).length = _
    simp only [List.length_append, List.flatMap_cons, List.flatMap_nil, List.length_nil]
    omega
  omega
structure Pks (i : Nat) (P : List (List Int)) (to : List Int) : Prop where
  len : P.length = to.length
  small : P.length ≤ 16 * i
  to : ∀ q, q < P.length → to.getD q 0 = 0 ∨ to.getD q 0 = 1
  pk : ∀ q, q < P.length → 13 ≤ (P.getD q []).length ∧ (P.getD q []).length ≤ 100
theorem Pks.next {i : Nat} {P : List (List Int)} {to : List Int} (h : Pks i P to) : Pks (i + 1) P to := ⟨h.len, by have := h.small; omega, h.to, h.pk⟩
theorem routs_ok {g : Int} {e : E} {r : R} {i : Nat} (h : Rel g e r) (hb : Bd i r) : (routs r).length ≤ 16 ∧ ∀ q, q < (routs r).length → 13 ≤ ((routs r).getD q []).length ∧ ((routs r).getD q []).length ≤ 100 := by
  have hw := h.win
  have hs : ∀ (s a : Int) (b : List Int), b.length ≤ 2 → 13 ≤ (sealed r.key (pbytes s a b)).length ∧ (sealed r.key (pbytes s a b)).length ≤ 100 := fun s a b hb => by
    have := pbytes_ge s a b
    have := pbytes_length s a b
    rw [sealed_length]; omega
  unfold routs
  split
  · refine ⟨by simp, fun q hq => ?_⟩
    have : q = 0 := by simpa using hq
    subst this
    exact hs _ _ _ (by simp)
  · have hl := packs_length r.key r.got ((r.sent.drop r.ack.toNat).take r.win.toNat) r.ack
    refine ⟨by rw [hl, List.length_take]; omega, fun q hq => ?_⟩
    rw [hl] at hq
    rw [packs_at _ _ _ _ q hq]
    refine hs _ _ _ ?_
    rw [List.length_take] at hq
    rw [getD_take_of (by omega), getD_drop_of]
    rw [List.length_drop] at hq
    rw [List.getD_eq_getElem?_getD, List.getElem?_eq_getElem (by omega)]
    exact hb.sent.2 _ (List.getElem_mem _)
theorem Pks.add {i : Nat} {P : List (List Int)} {to : List Int} (h : Pks i P to) {L : List (List Int)} (hl : L.length ≤ 16 ∧ ∀ q, q < L.length → 13 ≤ (L.getD q []).length ∧ (L.getD q []).length ≤ 100) {u : Int} (hu : u = 0 ∨ u = 1) : Pks (i + 1) (P ++ L) (to ++ List.replicate L.length u) := by
  have hlen := h.len
  refine ⟨by simp [h.len], by have := h.small; rw [List.length_append]; omega, fun q hq => ?_, fun q hq => ?_⟩
  · rw [List.length_append] at hq
    by_cases hp : q < P.length
    · rw [getD_app_left (by omega)]; exact h.to q hp
    · rw [getD_app_right (by omega), repl_at (by omega)]; exact hu
  · rw [List.length_append] at hq
    by_cases hp : q < P.length
    · rw [getD_app_left hp]; exact h.pk q hp
    · rw [getD_app_right (by omega)]; exact hl.2 _ (by omega)
theorem rsend_got (r : R) (b : List Int) : (rsend r b).1.got = r.got := by unfold rsend; split <;> rfl
structure Rn (i : Nat) (P : List (List Int)) (to : List Int) (e f : E) (r t : R) : Prop where
  one : Rel (r.got + 1) e r
  two : Rel (t.got + 1) f t
  b1 : Bd i r
  b2 : Bd i t
  pks : Pks i P to
theorem Rn.waits {i : Nat} {P : List (List Int)} {to : List Int} {e f : E} {r t : R} (h : Rn i P to e f r t) : (e.wait.length : Int) = r.sent.length - r.ack ∧ (f.wait.length : Int) = t.sent.length - t.ack := by
  have h1 := h.one.ack
  have h2 := h.two.ack
  rw [h.one.wait, h.two.wait, List.length_drop, List.length_drop]
  omega
end Lk
end Go.Am
