/- Links: rounds in which both ends send, and the other one gets it all. -/
import Derived.Test.YtdmlhpojmpiigaaAmLink5
set_option linter.unusedVariables false
set_option linter.unusedSimpArgs false
namespace Go.Am
open Go
namespace Lk
def msgs (n : Nat) : List (List Int) := (List.range n).map fun (i : Nat) => [(i : Int)]
theorem msgs_len (n : Nat) : (msgs n).length = n := by simp [msgs]
theorem msgs_at {n q : Nat} (h : q < n) : (msgs n).getD q [] = [(q : Int)] := by
  unfold msgs
  rw [List.getD_eq_getElem?_getD, List.getElem?_map, List.getElem?_range h]
  rfl
theorem msgs_fit {n : Nat} (h : n < 1001) : Fit (msgs n) := by
  refine ⟨by rw [msgs_len]; exact h, fun b hb => ?_⟩
  unfold msgs at hb
  obtain ⟨i, _, rfl⟩ := List.mem_map.1 hb
  show (1 : Nat) ≤ _; omega
theorem msgs_succ (n : Nat) : msgs (n + 1) = msgs n ++ [[(n : Int)]] := by
  unfold msgs; rw [List.range_succ, List.map_append]; rfl
def E0 (w key : Int) (M : List (List Int)) : E := E.mk w key M 0 0 [] false 0
theorem room_E0 {w key : Int} {M : List (List Int)} (hw : 0 < w ∧ w < 17) (hM : Fit M) : room (E0 w key M) = true :=
  fineN_iff.2 ⟨hw, ⟨Int.le_refl _, by show (0 : Int) < _; omega⟩, ⟨Int.le_refl _, by show (0 : Int) < _; omega⟩, ⟨Int.le_refl _, by show (0 : Int) < _; omega⟩, hM.1, fun b hb => by have := hM.2 b hb; omega, by show (0 : Nat) < _; omega⟩
theorem send_E0 {w key : Int} {M : List (List Int)} {b : List Int} (hM : M.length < 1000) (hb : b.length ≤ 65536) : send (E0 w key M) b = (E0 w key (M ++ [b]), 0) := by
  unfold send
  rw [if_neg (by intro h; have h2 : 1000 ≤ M.length ∨ 65536 < b.length := by rcases h with h | h; exact .inr h; exact .inl h
                 omega)]
  rfl
theorem side_E0 {w w' key : Int} {M N : List (List Int)} (hw : 0 < w ∧ w < 17) (c : Nat) : Side key c (E0 w key M) (E0 w' key N) M N :=
  ⟨rfl, hw, ⟨Int.le_refl _, Int.le_refl _⟩, rfl, ⟨Int.le_refl _, by show (0 : Int) ≤ _; omega⟩, rfl, Nat.zero_le _, fun p hp => by cases hp⟩
theorem out_E0 (w key : Int) (M : List (List Int)) : (out (E0 w key M)).1 = E0 w key M := rfl
structure Rd (key : Int) (m n r : Nat) (e f : E) : Prop where
  one : Side key (16 * r) e f (msgs m) (msgs n)
  two : Side key (16 * r) f e (msgs n) (msgs m)
  a : ((min m r : Nat) : Int) ≤ e.ack
  b : ((min n (r - 1) : Nat) : Int) ≤ f.ack
  o : r = 0 ∨ f.ack = n ∨ (e.owes = true ∧ ((min n r : Nat) : Int) ≤ e.del)
theorem Rd.next {key : Int} {m n r : Nat} {e f f' : E} (h : Rd key m n r e f) (hm : m < 1001) (hn : n < 1001) (hf : got f (outs e) (outs e).length = f') :
    Side key (16 * r) (out e).1 f' (msgs m) (msgs n) ∧ Side key (16 * (r + 1)) f' (out e).1 (msgs n) (msgs m) ∧ Rd key m n (r + 1) (got (out e).1 (outs f') (outs f').length) (out f').1 := by
  obtain ⟨g1, g2, g3, g4, g5, g6, g7⟩ := half h.one h.two (msgs_fit hn) (msgs_fit hm)
  rw [hf] at g1 g2 g3 g4 g5 g6 g7
  obtain ⟨k1, k2, k3, k4, k5, k6, k7⟩ := half g1 g2 (msgs_fit hm) (msgs_fit hn)
  generalize got (out e).1 (outs f') (outs f').length = e' at k1 k2 k3 k4 k5 k6 k7 ⊢
  rw [msgs_len] at g6 g7 k6 k7
  have h1 := h.a
  have h2 := h.b
  have h3 := h.o
  have ha := h.one.ack
  have hd := h.one.del
  have hb := h.two.ack
  have hc := h.two.del
  have hd' := g1.del
  have ga := g1.ack
  rw [msgs_len] at hd hc hd'
  change 0 ≤ f'.ack ∧ f'.ack ≤ e.del at ga
  change e.del ≤ e'.del at k3
  change e.ack ≤ e'.ack at k4
  have hq : ((min n r : Nat) : Int) ≤ f'.ack := by
    rcases h3 with h3 | h3 | ⟨h3, h4⟩
    · omega
    · omega
    · have : e.del ≤ f'.ack := g6 (.inl h3)
      omega
  have e16 : 16 * (r + 1) = 16 * r + 16 := by omega
  refine ⟨g2, by rw [e16]; exact g1, ⟨by rw [e16]; exact k1, by rw [e16]; exact k2, ?_, ?_, ?_⟩⟩
  · by_cases hx : e.ack < m
    · obtain ⟨y1, y2⟩ := g7 hx
      have y3 := k6 (.inl y2)
      omega
    · omega
  · show ((min n (r + 1 - 1) : Nat) : Int) ≤ f'.ack
    rw [Nat.add_sub_cancel]; exact hq
  · show r + 1 = 0 ∨ f'.ack = n ∨ (e'.owes = true ∧ ((min n (r + 1) : Nat) : Int) ≤ e'.del)
    by_cases hx : f'.ack < n
    · obtain ⟨y1, y2⟩ := k7 hx
      exact .inr (.inr ⟨y2, by omega⟩)
    · exact .inr (.inl (by omega))
theorem Rd.last {key : Int} {m n r : Nat} {e f : E} (h : Rd key m n r e f) (h1 : m < r) (h2 : n < r) : e.del = n ∧ f.del = m ∧ e.wait.length = 0 ∧ f.wait.length = 0 := by
  have q1 := h.a
  have q2 := h.b
  have ha := h.one.ack
  have hd := h.one.del
  have hb := h.two.ack
  have hc := h.two.del
  have hw := h.one.wait_len (by have := h.two.del; exact this.2)
  have hw2 := h.two.wait_len (by have := h.one.del; exact this.2)
  rw [msgs_len] at hd hc hw hw2
  omega
theorem msgs_part {n d j i : Nat} (h : d + j ≤ n) (hi : i < j) : (((msgs n).drop d).take j).getD i [] = [((d + i : Nat) : Int)] := by
  rw [getD_take_of hi, getD_drop_of, msgs_at (by omega)]
theorem msgs_part_len {n d j : Nat} (h : d + j ≤ n) : (((msgs n).drop d).take j).length = j := by
  rw [List.length_take, List.length_drop, msgs_len]; omega
end Lk
end Go.Am
