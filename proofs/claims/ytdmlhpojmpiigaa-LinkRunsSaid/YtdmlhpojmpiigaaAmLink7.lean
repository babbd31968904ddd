/- Links: two ends, and the packets that they have sent, in any order. -/
import Derived.Test.YtdmlhpojmpiigaaAmLink6
set_option linter.unusedVariables false
set_option linter.unusedSimpArgs false
namespace Go.Am
open Go
theorem getD_app_left {α : Type} {d : α} {a b : List α} {i : Nat} (h : i < a.length) : (a ++ b).getD i d = a.getD i d := by
  rw [List.getD_eq_getElem?_getD, List.getD_eq_getElem?_getD, List.getElem?_append_left h]
theorem getD_app_right {α : Type} {d : α} {a b : List α} {i : Nat} (h : a.length ≤ i) : (a ++ b).getD i d = b.getD (i - a.length) d := by
  rw [List.getD_eq_getElem?_getD, List.getD_eq_getElem?_getD, List.getElem?_append_right h]
namespace Lk
variable {key : Int} {c c' i : Nat} {e f : E} {M N S T P : List (List Int)} {to : List Int}
theorem Side.mono (h : Side key c e f M N) (hc : c ≤ c') : Side key c' e f M N := { h with held := Nat.le_trans h.held hc }
theorem Side.sent (h : Side key c e f M N) (hf : f.del ≤ M.length) (b : List Int) : Side key c { e with wait := e.wait ++ [b] } f (M ++ [b]) N := by
  have ha := h.ack
  exact ⟨h.key, h.win, h.ack, by show e.wait ++ [b] = (M ++ [b]).drop e.ack.toNat; rw [h.wait, List.drop_append_of_le_length (by omega)], h.del, h.forged, h.held, h.mem⟩
theorem Side.sent' (h : Side key c f e N M) (b : List Int) : Side key c f { e with wait := e.wait ++ [b] } N (M ++ [b]) := by
  refine ⟨h.key, h.win, h.ack, h.wait, ⟨h.del.1, by have := h.del.2; rw [List.length_append]; push_cast; omega⟩, h.forged, h.held, fun p hp => ?_⟩
  obtain ⟨q, q1, q2, q3, q4⟩ := h.mem p hp
  exact ⟨q, q1, q2, by rw [List.length_append]; omega, by rw [getD_app_left q3]; exact q4⟩
theorem send_ok {b : List Int} (hw : e.wait.length < 1000) (hb : b.length ≤ 65536) : send e b = ({ e with wait := e.wait ++ [b] }, 0) := by
  unfold send
  rw [if_neg (by omega)]
theorem Pk.sent {s a : Int} {b : List Int} (h : Pk f N s a b) (x : List Int) : Pk { f with wait := f.wait ++ [x] } (N ++ [x]) s a b := by
  refine ⟨h.ack, ?_⟩
  rcases h.seq with h | ⟨q, q1, q2, q3⟩
  · exact .inl h
  · exact .inr ⟨q, q1, by rw [List.length_append]; omega, by rw [getD_app_left q2]; exact q3⟩
theorem Pk.more {s a : Int} {b : List Int} (h : Pk f N s a b) {f' : E} (hd : f.del ≤ f'.del) : Pk f' N s a b := ⟨⟨h.ack.1, Int.le_trans h.ack.2 hd⟩, h.seq⟩
structure Or (key : Int) (i : Nat) (e f : E) (S T P : List (List Int)) (to : List Int) : Prop where
  one : Side key i e f S T
  two : Side key i f e T S
  fs : S.length ≤ i ∧ ∀ b ∈ S, b.length ≤ 2
  ft : T.length ≤ i ∧ ∀ b ∈ T, b.length ≤ 2
  len : P.length = to.length
  small : P.length ≤ 16 * i
  pk : ∀ q, q < P.length → (to.getD q 0 = 0 ∧ ∃ s a b, P.getD q [] = sealed key (pbytes s a b) ∧ Pk f T s a b) ∨ (to.getD q 0 = 1 ∧ ∃ s a b, P.getD q [] = sealed key (pbytes s a b) ∧ Pk e S s a b)
theorem Or.fitS (h : Or key i e f S T P to) (hi : i < 1000) : Fit S := ⟨by have := h.fs.1; omega, fun b hb => by have := h.fs.2 b hb; omega⟩
theorem Or.fitT (h : Or key i e f S T P to) (hi : i < 1000) : Fit T := ⟨by have := h.ft.1; omega, fun b hb => by have := h.ft.2 b hb; omega⟩
theorem Or.next (h : Or key i e f S T P to) : Or key (i + 1) e f S T P to := ⟨h.one.mono (by omega), h.two.mono (by omega), ⟨by have := h.fs.1; omega, h.fs.2⟩, ⟨by have := h.ft.1; omega, h.ft.2⟩, h.len, by have := h.small; omega, h.pk⟩
theorem fs_app {S : List (List Int)} {i : Nat} (h : S.length ≤ i ∧ ∀ b ∈ S, b.length ≤ 2) {x : List Int} (hx : x.length ≤ 2) : (S ++ [x]).length ≤ i + 1 ∧ ∀ b ∈ S ++ [x], b.length ≤ 2 := by
  refine ⟨by rw [List.length_append]; have := h.1; simp; omega, fun b hb => ?_⟩
  rcases List.mem_append.1 hb with hb | hb
  · exact h.2 b hb
  · rw [List.mem_singleton.1 hb]; exact hx
theorem Or.sendL (h : Or key i e f S T P to) (hi : i < 900) {x : List Int} (hx : x.length ≤ 2) : send e x = ({ e with wait := e.wait ++ [x] }, 0) ∧ Or key (i + 1) { e with wait := e.wait ++ [x] } f (S ++ [x]) T P to := by
  have hl := h.one.wait_len h.two.del.2
  have ha := h.one.ack
  have hs := h.fs.1
  refine ⟨send_ok (by omega) (by omega), ⟨(h.one.sent h.two.del.2 x).mono (by omega), (h.two.sent' x).mono (by omega), fs_app h.fs hx, h.next.ft, h.len, h.next.small, fun q hq => ?_⟩⟩
  rcases h.pk q hq with ⟨h1, s, a, b, h2, h3⟩ | ⟨h1, s, a, b, h2, h3⟩
  · exact .inl ⟨h1, s, a, b, h2, h3⟩
  · exact .inr ⟨h1, s, a, b, h2, h3.sent x⟩
theorem Or.sendR (h : Or key i e f S T P to) (hi : i < 900) {x : List Int} (hx : x.length ≤ 2) : send f x = ({ f with wait := f.wait ++ [x] }, 0) ∧ Or key (i + 1) e { f with wait := f.wait ++ [x] } S (T ++ [x]) P to := by
  have hl := h.two.wait_len h.one.del.2
  have ha := h.two.ack
  have hs := h.ft.1
  refine ⟨send_ok (by omega) (by omega), ⟨(h.one.sent' x).mono (by omega), (h.two.sent h.one.del.2 x).mono (by omega), h.next.fs, fs_app h.ft hx, h.len, h.next.small, fun q hq => ?_⟩⟩
  rcases h.pk q hq with ⟨h1, s, a, b, h2, h3⟩ | ⟨h1, s, a, b, h2, h3⟩
  · exact .inl ⟨h1, s, a, b, h2, h3.sent x⟩
  · exact .inr ⟨h1, s, a, b, h2, h3⟩
theorem side_out (h : Side key c e f M N) : Side key c (out e).1 f M N := ⟨h.key, h.win, h.ack, h.wait, h.del, h.forged, h.held, h.mem⟩
theorem side_out' (h : Side key c f e N M) : Side key c f (out e).1 N M := ⟨h.key, h.win, h.ack, h.wait, h.del, h.forged, h.held, h.mem⟩
theorem repl_at {n q : Nat} {u : Int} (h : q < n) : (List.replicate n u).getD q 0 = u := by
  rw [List.getD_eq_getElem?_getD, List.getElem?_replicate, if_pos h]; rfl
theorem Or.outL (h : Or key i e f S T P to) : Or key (i + 1) (out e).1 f S T (P ++ outs e) (to ++ List.replicate (outs e).length 1) := by
  have hl := outs_len h.one
  refine ⟨(side_out h.one).mono (by omega), (side_out' h.two).mono (by omega), h.next.fs, h.next.ft, by simp [h.len], by have := h.small; rw [List.length_append]; omega, fun q hq => ?_⟩
  by_cases hp : q < P.length
  · rw [getD_app_left hp, getD_app_left (by rw [← h.len]; exact hp)]
    rcases h.pk q hp with ⟨h1, s, a, b, h2, h3⟩ | ⟨h1, s, a, b, h2, h3⟩
    · exact .inl ⟨h1, s, a, b, h2, h3⟩
    · exact .inr ⟨h1, s, a, b, h2, ⟨h3.ack, h3.seq⟩⟩
  · rw [List.length_append] at hq
    have hlen := h.len
    rw [getD_app_right (by omega), getD_app_right (by omega), repl_at (by omega)]
    obtain ⟨s, b, h1, h2, _⟩ := outs_pk h.one h.two.del.2 (i := q - P.length) (by omega)
    exact .inr ⟨rfl, s, _, b, h1, ⟨h2.ack, h2.seq⟩⟩
theorem Or.outR (h : Or key i e f S T P to) : Or key (i + 1) e (out f).1 S T (P ++ outs f) (to ++ List.replicate (outs f).length 0) := by
  have hl := outs_len h.two
  refine ⟨(side_out' h.one).mono (by omega), (side_out h.two).mono (by omega), h.next.fs, h.next.ft, by simp [h.len], by have := h.small; rw [List.length_append]; omega, fun q hq => ?_⟩
  by_cases hp : q < P.length
  · rw [getD_app_left hp, getD_app_left (by rw [← h.len]; exact hp)]
    rcases h.pk q hp with ⟨h1, s, a, b, h2, h3⟩ | ⟨h1, s, a, b, h2, h3⟩
    · exact .inl ⟨h1, s, a, b, h2, ⟨h3.ack, h3.seq⟩⟩
    · exact .inr ⟨h1, s, a, b, h2, h3⟩
  · rw [List.length_append] at hq
    have hlen := h.len
    rw [getD_app_right (by omega), getD_app_right (by omega), repl_at (by omega)]
    obtain ⟨s, b, h1, h2, _⟩ := outs_pk h.two h.one.del.2 (i := q - P.length) (by omega)
    exact .inl ⟨rfl, s, _, b, h1, ⟨h2.ack, h2.seq⟩⟩
theorem Or.pk_len (h : Or key i e f S T P to) (hi : i < 900) {q : Nat} (hq : q < P.length) : (P.getD q []).length ≤ 65600 := by
  have go : ∀ {x : E} {X : List (List Int)} {s a : Int} {b : List Int}, Fit X → Pk x X s a b → P.getD q [] = sealed key (pbytes s a b) → (P.getD q []).length ≤ 65600 := fun hX hk he => by
    rw [he, sealed_length]
    rename_i s a b
    have := pbytes_length s a b
    have hb : b.length ≤ 65536 := by
      rcases hk.seq with ⟨_, rfl⟩ | ⟨n, _, _, rfl⟩
      · show (0 : Nat) ≤ _; omega
      · exact hX.getD n
    omega
  rcases h.pk q hq with ⟨_, s, a, b, h2, h3⟩ | ⟨_, s, a, b, h2, h3⟩
  · exact go (h.fitT (by omega)) h3 h2
  · exact go (h.fitS (by omega)) h3 h2
theorem Or.recvL (h : Or key i e f S T P to) (hi : i < 900) {q : Nat} (hq : q < P.length) (h0 : to.getD q 0 = 0) :
    ∃ (m : Nat) (e' : E), recv e (P.getD q []) = (e', (T.drop e.del.toNat).take m, 0) ∧ e'.del = e.del + m ∧ e.del + m ≤ T.length ∧ Or key (i + 1) e' f S T P to := by
  rcases h.pk q hq with ⟨h1, s, a, b, h2, h3⟩ | ⟨h1, _⟩
  · obtain ⟨m, t1, t2, t3, t4, t5, _, _⟩ := take_side h.one h.two.del.2 h3
    have hr := recv_side h.one (h.fitS (by omega)) (h.fitT (by omega)) h.two.del.2 h3
    refine ⟨m, _, by rw [h2, hr, t1], t2, t3, ⟨t4, ?_, h.next.fs, h.next.ft, h.len, h.next.small, fun q hq => ?_⟩⟩
    · have h2 := h.next.two
      exact ⟨h2.key, h2.win, ⟨h2.ack.1, by have := h2.ack.2; omega⟩, h2.wait, h2.del, h2.forged, h2.held, h2.mem⟩
    · rcases h.pk q hq with ⟨h1, s, a, b, h2, h3⟩ | ⟨h1, s, a, b, h2, h3⟩
      · exact .inl ⟨h1, s, a, b, h2, h3⟩
      · exact .inr ⟨h1, s, a, b, h2, h3.more (by omega)⟩
  · rw [h0] at h1; omega
theorem Or.recvR (h : Or key i e f S T P to) (hi : i < 900) {q : Nat} (hq : q < P.length) (h0 : to.getD q 0 = 1) :
    ∃ (m : Nat) (f' : E), recv f (P.getD q []) = (f', (S.drop f.del.toNat).take m, 0) ∧ f'.del = f.del + m ∧ f.del + m ≤ S.length ∧ Or key (i + 1) e f' S T P to := by
  rcases h.pk q hq with ⟨h1, _⟩ | ⟨h1, s, a, b, h2, h3⟩
  · rw [h0] at h1; omega
  · obtain ⟨m, t1, t2, t3, t4, t5, _, _⟩ := take_side h.two h.one.del.2 h3
    have hr := recv_side h.two (h.fitT (by omega)) (h.fitS (by omega)) h.one.del.2 h3
    refine ⟨m, _, by rw [h2, hr, t1], t2, t3, ⟨?_, t4, h.next.fs, h.next.ft, h.len, h.next.small, fun q hq => ?_⟩⟩
    · have h2 := h.next.one
      exact ⟨h2.key, h2.win, ⟨h2.ack.1, by have := h2.ack.2; omega⟩, h2.wait, h2.del, h2.forged, h2.held, h2.mem⟩
    · rcases h.pk q hq with ⟨h1, s, a, b, h2, h3⟩ | ⟨h1, s, a, b, h2, h3⟩
      · exact .inl ⟨h1, s, a, b, h2, h3.more (by omega)⟩
      · exact .inr ⟨h1, s, a, b, h2, h3⟩
theorem Or.to01 (h : Or key i e f S T P to) {q : Nat} (hq : q < P.length) : to.getD q 0 = 0 ∨ to.getD q 0 = 1 := (h.pk q hq).imp (fun h => h.1) (fun h => h.1)
theorem Or.start {w w' : Int} (hw : 0 < w ∧ w < 17) (hw' : 0 < w' ∧ w' < 17) : Or key 0 (E0 w key []) (E0 w' key []) [] [] [] [] :=
  ⟨side_E0 hw _, side_E0 hw' _, ⟨Nat.le_refl _, fun b hb => by cases hb⟩, ⟨Nat.le_refl _, fun b hb => by cases hb⟩, rfl, Nat.le_refl _, fun q hq => by simp at hq⟩
theorem Or.rooms (h : Or key i e f S T P to) (hi : i < 900) : room e = true ∧ room f = true :=
  ⟨h.one.room (h.fitS (by omega)) (h.fitT (by omega)) h.two.del.2 (by omega), h.two.room (h.fitT (by omega)) (h.fitS (by omega)) h.one.del.2 (by omega)⟩
end Lk
end Go.Am
