/- Links: what two ends know of each other. -/
import Derived.Test.YtdmlhpojmpiigaaAmLink4
set_option linter.unusedVariables false
set_option linter.unusedSimpArgs false
namespace Go.Am
open Go
theorem mget_spec (z : List Int) {k : List Int} : ∀ {es : List (List Int × List Int)}, mhas es k = true → ∃ p ∈ es, p.1 = k ∧ mget z es k = p.2
  | [], h => by simp [mhas] at h
  | e :: es, h => by
    simp only [mget]
    cases hk : e.1 == k with
    | true => exact ⟨e, .head _, by simpa using hk, rfl⟩
    | false =>
      have h2 : mhas es k = true := by simpa [mhas, hk] using h
      obtain ⟨p, hp, h3, h4⟩ := mget_spec z h2
      exact ⟨p, .tail _ hp, h3, h4⟩
theorem mem_mput {k v : List Int} {p : List Int × List Int} : ∀ {es : List (List Int × List Int)}, p ∈ mput es k v → p = (k, v) ∨ p ∈ es
  | [], h => by simp only [mput, List.mem_singleton] at h; exact .inl h
  | e :: es, h => by
    simp only [mput] at h
    cases hk : e.1 == k with
    | true =>
      rw [hk, cond_true] at h
      rcases List.mem_cons.1 h with h | h
      · exact .inl h
      · exact .inr (.tail _ h)
    | false =>
      rw [hk, cond_false] at h
      rcases List.mem_cons.1 h with h | h
      · exact .inr (h ▸ .head _)
      · rcases mem_mput h with h | h
        · exact .inl h
        · exact .inr (.tail _ h)
theorem mem_mdel {k : List Int} {p : List Int × List Int} {es : List (List Int × List Int)} : p ∈ mdel es k ↔ p ∈ es ∧ p.1 ≠ k := by
  unfold mdel
  rw [List.mem_filter]
  simp
theorem mhas_nil (k : List Int) : mhas [] k = false := rfl
theorem mput_mem (k v : List Int) : ∀ (es : List (List Int × List Int)), (k, v) ∈ mput es k v
  | [] => .head _
  | e :: es => by
    simp only [mput]
    cases e.1 == k with
    | true => exact .head _
    | false => exact .tail _ (mput_mem k v es)
theorem mhas_of {k : List Int} {p : List Int × List Int} {es : List (List Int × List Int)} (h : p ∈ es) (hk : p.1 = k) : mhas es k = true := by
  unfold mhas
  rw [List.any_eq_true]
  exact ⟨p, h, by simp [hk]⟩
theorem getD_take_of {α : Type} {d : α} {l : List α} {n i : Nat} (h : i < n) : (l.take n).getD i d = l.getD i d := by
  rw [List.getD_eq_getElem?_getD, List.getD_eq_getElem?_getD, List.getElem?_take, if_pos h]
theorem getD_drop_of {α : Type} {d : α} {l : List α} {n i : Nat} : (l.drop n).getD i d = l.getD (n + i) d := by
  rw [List.getD_eq_getElem?_getD, List.getD_eq_getElem?_getD, List.getElem?_drop]
namespace Lk
structure Side (key : Int) (c : Nat) (e f : E) (M N : List (List Int)) : Prop where
  key : e.key = key
  win : 0 < e.win ∧ e.win < 17
  ack : 0 ≤ e.ack ∧ e.ack ≤ f.del
  wait : e.wait = M.drop e.ack.toNat
  del : 0 ≤ e.del ∧ e.del ≤ N.length
  forged : e.forged = 0
  held : e.held.length ≤ c
  mem : ∀ p ∈ e.held, ∃ q : Nat, p.1 = [(q : Int) + 1] ∧ e.del ≤ q ∧ q < N.length ∧ p.2 = N.getD q []
def Fit (M : List (List Int)) : Prop := M.length < 1001 ∧ ∀ b ∈ M, b.length ≤ 65536
theorem Fit.getD {M : List (List Int)} (h : Fit M) (q : Nat) : (M.getD q []).length ≤ 65536 := by
  by_cases hq : q < M.length
  · rw [List.getD_eq_getElem?_getD, List.getElem?_eq_getElem hq]; exact h.2 _ (List.getElem_mem hq)
  · rw [List.getD_eq_getElem?_getD, List.getElem?_eq_none (by omega)]; show (0 : Nat) ≤ _; omega
structure Pk (f : E) (N : List (List Int)) (s a : Int) (b : List Int) : Prop where
  ack : 0 ≤ a ∧ a ≤ f.del
  seq : (s = 0 ∧ b = []) ∨ ∃ q : Nat, s = (q : Int) + 1 ∧ q < N.length ∧ b = N.getD q []
variable {key : Int} {c c' : Nat} {e f : E} {M N : List (List Int)}
theorem Side.room (h : Side key c e f M N) (hM : Fit M) (hN : Fit N) (hf : f.del ≤ M.length) (hc : c < 536870912) : room e = true := by
  refine fineN_iff.2 ⟨h.win, ⟨h.ack.1, ?_⟩, ⟨h.del.1, ?_⟩, ⟨by rw [h.forged]; omega, by rw [h.forged]; omega⟩, ?_, fun b hb => ?_, ?_⟩
  · have := h.ack.2; have := hM.1; omega
  · have := h.del.2; have := hN.1; omega
  · rw [h.wait, List.length_drop]; have := hM.1; omega
  · rw [h.wait] at hb
    have := hM.2 b (List.mem_of_mem_drop hb)
    omega
  · have := h.held; omega
theorem Side.wait_len (h : Side key c e f M N) (hf : f.del ≤ M.length) : e.ack + e.wait.length = M.length := by
  have := h.ack
  rw [h.wait, List.length_drop]
  omega
theorem delv_side (N : List (List Int)) : ∀ (n : Nat) (e : E) (l : List (List Int)), 0 ≤ e.del → e.del ≤ N.length → (∀ p ∈ e.held, ∃ q : Nat, p.1 = [(q : Int) + 1] ∧ e.del ≤ q ∧ q < N.length ∧ p.2 = N.getD q []) →
    ∃ (j : Nat) (h' : List (List Int × List Int)), delv n e l = ({ e with del := e.del + j, held := h' }, l ++ (N.drop e.del.toNat).take j) ∧ e.del + j ≤ N.length ∧ h'.length ≤ e.held.length ∧
      (∀ p ∈ h', ∃ q : Nat, p.1 = [(q : Int) + 1] ∧ e.del + j ≤ q ∧ q < N.length ∧ p.2 = N.getD q []) ∧ (0 < n → mhas e.held [e.del + 1] = true → 1 ≤ j)
  | 0, e, l, h0, h1, hm => ⟨0, e.held, by simp [delv], by omega, Nat.le_refl _, fun p hp => by simpa using hm p hp, fun h => by omega⟩
  | n + 1, e, l, h0, h1, hm => by
    cases hh : mhas e.held [e.del + 1] with
    | false => exact ⟨0, e.held, by simp [delv, hh], by omega, Nat.le_refl _, fun p hp => by simpa using hm p hp, fun _ h => by cases h⟩
    | true =>
      obtain ⟨p, hp, hk, hv⟩ := mget_spec [] hh
      obtain ⟨q, q1, q2, q3, q4⟩ := hm p hp
      have hq : (q : Int) = e.del := by rw [hk] at q1; simp only [List.cons.injEq, and_true] at q1; omega
      obtain ⟨j, h', g1, g2, g3, g4, _⟩ := delv_side N n { e with del := e.del + 1, held := mdel e.held [e.del + 1] } (l ++ [mget [] e.held [e.del + 1]]) (by show 0 ≤ e.del + 1; omega) (by show e.del + 1 ≤ _; omega) (fun p' hp' => by
        obtain ⟨hp1, hp2⟩ := mem_mdel.1 hp'
        obtain ⟨r, r1, r2, r3, r4⟩ := hm p' hp1
        refine ⟨r, r1, ?_, r3, r4⟩
        show e.del + 1 ≤ r
        by_cases hr : (r : Int) = e.del
        · exact absurd (by rw [r1, hr]) hp2
        · omega)
      refine ⟨j + 1, h', ?_, ?_, ?_, fun p' hp' => ?_, fun _ _ => by omega⟩
      · simp only [delv, hh, cond_true]
        rw [g1, hv, q4]
        simp only at g2 ⊢
        have e1 : e.del.toNat = q := by omega
        have e2 : (e.del + 1).toNat = q + 1 := by omega
        rw [e1, e2, List.append_assoc]
        congr 1
        · rw [show e.del + 1 + (j : Int) = e.del + ((j + 1 : Nat) : Int) by push_cast; omega]
        · congr 1
          rw [List.drop_eq_getElem_cons q3, List.take_succ_cons, List.getD_eq_getElem?_getD, List.getElem?_eq_getElem q3]
          rfl
      · simp only at g2; push_cast; omega
      · have := mdel_len hh
        simp only at g3; omega
      · obtain ⟨r, r1, r2, r3, r4⟩ := g4 p' hp'
        exact ⟨r, r1, by simp only at r2; push_cast; omega, r3, r4⟩
theorem take_side (he : Side key c e f M N) (hf : f.del ≤ M.length) {s a : Int} {b : List Int} (hp : Pk f N s a b) :
    ∃ j : Nat, (take e s a b).2 = (N.drop e.del.toNat).take j ∧ (take e s a b).1.del = e.del + j ∧ e.del + j ≤ N.length ∧ Side key (c + 1) (take e s a b).1 f M N ∧ e.ack ≤ (take e s a b).1.ack ∧ (e.owes = true → (take e s a b).1.owes = true) ∧
      (s ≤ e.del + 16 → a ≤ (take e s a b).1.ack ∧ (0 < s → (take e s a b).1.owes = true) ∧ (s ≤ e.del + 1 → s ≤ (take e s a b).1.del)) := by
  have hw := he.wait_len hf
  have hd := he.del
  have ha := hp.ack
  have hk := he.ack
  unfold take
  by_cases hfar : e.ack + e.wait.length < a ∨ e.del + 16 < s
  · rw [if_pos hfar]
    refine ⟨0, by simp, by simp, by omega, { he with held := Nat.le_succ_of_le he.held }, Int.le_refl _, fun h => h, fun h => ?_⟩
    rcases hfar with h1 | h1 <;> omega
  rw [if_neg hfar]
  have hA : ∃ x : E, acked e a = x ∧ x.key = e.key ∧ x.win = e.win ∧ x.del = e.del ∧ x.held = e.held ∧ x.forged = e.forged ∧ x.owes = e.owes ∧ e.ack ≤ x.ack ∧ a ≤ x.ack ∧ x.ack ≤ f.del ∧ x.wait = M.drop x.ack.toNat := by
    unfold acked
    by_cases h : 0 < a - e.ack
    · rw [if_pos h]
      refine ⟨_, rfl, rfl, rfl, rfl, rfl, rfl, rfl, by show e.ack ≤ a; omega, Int.le_refl _, ha.2, ?_⟩
      show e.wait.drop (a - e.ack).toNat = M.drop a.toNat
      rw [he.wait, List.drop_drop, show e.ack.toNat + (a - e.ack).toNat = a.toNat by omega]
    · rw [if_neg h]
      exact ⟨_, rfl, rfl, rfl, rfl, rfl, rfl, rfl, Int.le_refl _, by omega, hk.2, he.wait⟩
  obtain ⟨x, hx, x1, x2, x3, x4, x5, x6, x7, x8, x9, x10⟩ := hA
  rw [hx]
  have hX : Side key c x f M N := ⟨by rw [x1]; exact he.key, by rw [x2]; exact he.win, ⟨by omega, x9⟩, x10, by rw [x3]; exact hd, by rw [x5]; exact he.forged, by rw [x4]; exact he.held, by rw [x4, x3]; exact he.mem⟩
  by_cases hs : s = 0
  · rw [if_pos hs]
    exact ⟨0, by simp, by simp [x3], by omega, { hX with held := Nat.le_succ_of_le hX.held }, x7, fun h => by rw [x6]; exact h, fun _ => ⟨x8, fun h => by omega, fun _ => by simp only [x3]; omega⟩⟩
  rw [if_neg hs]
  obtain ⟨q, hq1, hq2, hq3⟩ := hp.seq.resolve_left fun h => hs h.1
  have hH : ∃ h' : List (List Int × List Int), hold { x with owes := true } s b = { x with owes := true, held := h' } ∧ h'.length ≤ c + 1 ∧ (∀ p ∈ h', ∃ q : Nat, p.1 = [(q : Int) + 1] ∧ e.del ≤ q ∧ q < N.length ∧ p.2 = N.getD q []) ∧ (s = e.del + 1 → mhas h' [e.del + 1] = true) := by
    unfold hold
    have hh := he.held
    by_cases h : x.del < s ∧ mhas x.held [s] = false
    · rw [if_pos (by exact h)]
      refine ⟨_, rfl, ?_, fun p hp => ?_, fun h2 => ?_⟩
      · have := mput_len x.held [s] b
        show (mput x.held [s] b).length ≤ c + 1
        rw [x4] at this ⊢; omega
      · rcases mem_mput hp with rfl | hp
        · exact ⟨q, by rw [hq1], by omega, hq2, hq3⟩
        · exact he.mem p (x4 ▸ hp)
      · exact mhas_of (mput_mem [s] b _) (by rw [h2])
    · rw [if_neg (by exact h)]
      refine ⟨x.held, rfl, by rw [x4]; omega, fun p hp => he.mem p (x4 ▸ hp), fun h2 => ?_⟩
      have : ¬ mhas x.held [s] = false := fun h3 => h ⟨by omega, h3⟩
      rw [h2] at this
      simpa using this
  obtain ⟨h', h1, h2, h3, h4⟩ := hH
  rw [h1]
  obtain ⟨j, h'', g1, g2, g3, g4, g5⟩ := delv_side N h'.length { x with owes := true, held := h' } [] (by show 0 ≤ x.del; omega) (by show x.del ≤ _; omega) (by simpa only [x3] using h3)
  have hD : deliver { x with owes := true, held := h' } = ({ x with owes := true, del := x.del + j, held := h'' }, (N.drop x.del.toNat).take j) := by
    unfold deliver
    rw [g1]
    rfl
  rw [hD]
  simp only at g2 g3 g4 g5
  refine ⟨j, by rw [x3], by simp only [x3], by omega, ⟨by simp only; rw [x1]; exact he.key, by simp only; rw [x2]; exact he.win, ⟨by simp only; omega, x9⟩, x10, by simp only; omega, by simp only; rw [x5]; exact he.forged, by simp only; omega, g4⟩, x7, fun _ => rfl, fun _ => ⟨x8, fun _ => rfl, fun h => ?_⟩⟩
  simp only
  by_cases h5 : s = e.del + 1
  · have h6 := h4 h5
    have h7 : 0 < h'.length := by
      cases h' with
      | nil => rw [mhas_nil] at h6; cases h6
      | cons => simp
    have := g5 h7 (by rw [x3]; exact h6)
    omega
  · omega
theorem Pk.valid {s a : Int} {b : List Int} (hp : Pk f N s a b) (hN : Fit N) (hf : f.del < 1001) : valid s a b = true ∧ IntKind.i64.has s ∧ IntKind.i64.has a := by
  have ha := hp.ack
  rcases hp.seq with ⟨rfl, rfl⟩ | ⟨q, rfl, q2, rfl⟩
  · exact ⟨by simp [Lk.valid, ha.1], has64 (by omega) (by omega), has64 (by omega) (by omega)⟩
  · have := hN.getD q
    have h1 := hN.1
    refine ⟨?_, has64 (by omega) (by omega), has64 (by omega) (by omega)⟩
    simp only [Lk.valid, Bool.and_eq_true, Bool.or_eq_true, decide_eq_true_eq]
    exact ⟨⟨⟨by omega, ha.1⟩, this⟩, .inl (by omega)⟩
theorem recv_side (he : Side key c e f M N) (hM : Fit M) (hN : Fit N) (hf : f.del ≤ M.length) {s a : Int} {b : List Int} (hp : Pk f N s a b) : recv e (sealed key (pbytes s a b)) = ((take e s a b).1, (take e s a b).2, 0) := by
  have := hp.valid hN (by have := hM.1; omega)
  exact recv_sealed he.key this.2.1 this.2.2 this.1
theorem packs_at (key d : Int) : ∀ (l : List (List Int)) (n : Int) (i : Nat), i < l.length → (packs key n d l).getD i [] = sealed key (pbytes (n + i + 1) d (l.getD i []))
  | [], n, i, h => by simp at h
  | b :: l, n, 0, h => by simp [packs]
  | b :: l, n, i + 1, h => by
    have := packs_at key d l (n + 1) i (by simpa using h)
    simp only [packs, List.getD_cons_succ, this]
    rw [show n + 1 + (i : Int) + 1 = n + ((i + 1 : Nat) : Int) + 1 by push_cast; omega]
def many (e : E) (M : List (List Int)) : Nat := min e.win.toNat (M.length - e.ack.toNat)
theorem outs_spec (he : Side key c e f M N) : (0 < many e M ∧ (outs e).length = many e M ∧ ∀ i, i < many e M → (outs e).getD i [] = sealed key (pbytes (e.ack + i + 1) e.del (M.getD (e.ack.toNat + i) []))) ∨
    (many e M = 0 ∧ ((e.owes = true ∧ outs e = [sealed key (pbytes 0 e.del [])]) ∨ (e.owes = false ∧ outs e = []))) := by
  have hl : (e.wait.take e.win.toNat).length = many e M := by rw [he.wait, List.length_take, List.length_drop]; rfl
  have hpl := packs_length e.key e.del (e.wait.take e.win.toNat) e.ack
  rw [hl] at hpl
  unfold outs
  by_cases hm : 0 < many e M
  · refine .inl ⟨hm, ?_⟩
    rw [if_neg (fun h => by rw [h.1] at hpl; simp at hpl; omega)]
    refine ⟨hpl, fun i hi => ?_⟩
    rw [packs_at _ _ _ _ i (by rw [hl]; exact hi), he.key, getD_take_of (by unfold many at hi; omega), he.wait, getD_drop_of]
  · have h0 : many e M = 0 := by omega
    refine .inr ⟨h0, ?_⟩
    have hnil : packs e.key e.ack e.del (e.wait.take e.win.toNat) = [] := List.length_eq_zero_iff.1 (by omega)
    rw [hnil]
    cases ho : e.owes with
    | true => exact .inl ⟨rfl, by rw [if_pos ⟨rfl, rfl⟩, he.key]⟩
    | false => exact .inr ⟨rfl, by rw [if_neg (by simp)]⟩
theorem outs_pk (he : Side key c e f M N) (hf : f.del ≤ M.length) {i : Nat} (hi : i < (outs e).length) : ∃ s b, (outs e).getD i [] = sealed key (pbytes s e.del b) ∧ Pk e M s e.del b ∧ s ≤ e.ack + i + 1 ∧ (0 < many e M → s = e.ack + i + 1) := by
  have ha := he.ack
  have hd := he.del
  rcases outs_spec he with ⟨h1, h2, h3⟩ | ⟨h1, ⟨_, h2⟩ | ⟨_, h2⟩⟩
  · refine ⟨_, _, h3 i (by omega), ⟨⟨hd.1, Int.le_refl _⟩, .inr ⟨e.ack.toNat + i, by push_cast; omega, by unfold many at h2; omega, rfl⟩⟩, Int.le_refl _, fun _ => rfl⟩
  · rw [h2] at hi ⊢
    have : i = 0 := by simpa using hi
    subst this
    exact ⟨0, [], rfl, ⟨⟨hd.1, Int.le_refl _⟩, .inl ⟨rfl, rfl⟩⟩, by omega, fun h => by omega⟩
  · rw [h2] at hi; simp at hi
theorem outs_len (he : Side key c e f M N) : (outs e).length ≤ 16 := by
  have := he.win
  rcases outs_spec he with ⟨_, h2, _⟩ | ⟨_, ⟨_, h2⟩ | ⟨_, h2⟩⟩
  · rw [h2]; unfold many; omega
  · rw [h2]; simp
  · rw [h2]; simp
def got (r : E) (p : List (List Int)) : Nat → E
  | 0 => r
  | i + 1 => (recv (got r p i) (p.getD i [])).1
theorem got_side {s r : E} (hs : Side key c' s r N M) (hr : Side key c r s M N) (hM : Fit M) (hN : Fit N) : ∀ i, i ≤ (outs s).length →
    Side key (c + i) (got r (outs s) i) s M N ∧ r.del ≤ (got r (outs s) i).del ∧ r.ack ≤ (got r (outs s) i).ack ∧ (r.owes = true → (got r (outs s) i).owes = true) ∧ (0 < i → s.del ≤ (got r (outs s) i).ack) ∧
      (0 < many s N → s.ack + i ≤ (got r (outs s) i).del ∧ (0 < i → (got r (outs s) i).owes = true))
  | 0, _ => ⟨hr, Int.le_refl _, Int.le_refl _, fun h => h, fun h => by omega, fun _ => ⟨by have := hs.ack; simp only [got]; omega, fun h => by omega⟩⟩
  | i + 1, hi => by
    obtain ⟨g1, g2, g3, g4, g5, g6⟩ := got_side hs hr hM hN i (by omega)
    have hdM := hs.del
    have hdN := hr.del
    obtain ⟨q, b, p1, p2, p3, p4⟩ := outs_pk hs (by omega) (i := i) (by omega)
    have hsa := hs.ack
    obtain ⟨j, t1, t2, t3, t4, t5, t6, t7⟩ := take_side g1 (by omega) p2
    have hg : got r (outs s) (i + 1) = (take (got r (outs s) i) q s.del b).1 := by
      rw [got, p1, recv_side g1 hM hN (by omega) p2]
    rw [hg]
    have hgd := g1.del
    have hcl : q ≤ (got r (outs s) i).del + 16 := by
      by_cases hm : 0 < many s N
      · have := (g6 hm).1; omega
      · have := outs_spec hs
        rcases this with ⟨h1, _⟩ | ⟨_, ⟨_, h2⟩ | ⟨_, h2⟩⟩
        · omega
        · have : i = 0 := by rw [h2] at hi; simpa using hi
          subst this
          have := p3
          omega
        · rw [h2] at hi; simp at hi
    obtain ⟨u1, u2, u3⟩ := t7 hcl
    refine ⟨t4, by omega, by omega, fun h => t6 (g4 h), fun _ => u1, fun hm => ?_⟩
    have e1 := p4 hm
    have e2 := (g6 hm).1
    refine ⟨?_, fun _ => u2 (by omega)⟩
    push_cast
    by_cases h : q ≤ (got r (outs s) i).del + 1
    · have := u3 h; omega
    · omega
theorem got_step {s r : E} (hs : Side key c' s r N M) (hr : Side key c r s M N) (hM : Fit M) (hN : Fit N) {i : Nat} (hi : i < (outs s).length) :
    ∃ j : Nat, recv (got r (outs s) i) ((outs s).getD i []) = (got r (outs s) (i + 1), (N.drop (got r (outs s) i).del.toNat).take j, 0) ∧ (got r (outs s) (i + 1)).del = (got r (outs s) i).del + j ∧ (got r (outs s) i).del + j ≤ N.length ∧ ((outs s).getD i []).length ≤ 65600 := by
  obtain ⟨g1, _⟩ := got_side hs hr hM hN i (by omega)
  have hdM := hs.del
  have hdN := hr.del
  obtain ⟨q, b, p1, p2, p3, p4⟩ := outs_pk hs (by omega) hi
  obtain ⟨j, t1, t2, t3, t4, t5, t6, t7⟩ := take_side g1 (by omega) p2
  have hrv := recv_side g1 hM hN (by omega) p2
  have hb : b.length ≤ 65536 := by
    rcases p2.seq with ⟨_, rfl⟩ | ⟨n, _, _, rfl⟩
    · show (0 : Nat) ≤ _; omega
    · exact hN.getD n
  refine ⟨j, ?_, ?_, t3, ?_⟩
  · rw [got, p1, hrv, t1]
  · rw [got, p1, hrv, t2]
  · rw [p1, sealed_length]
    have := pbytes_length q s.del b
    omega
theorem half {s r : E} (hs : Side key c' s r N M) (hr : Side key c r s M N) (hM : Fit M) (hN : Fit N) :
    Side key (c + 16) (got r (outs s) (outs s).length) (out s).1 M N ∧ Side key c' (out s).1 (got r (outs s) (outs s).length) N M ∧ r.del ≤ (got r (outs s) (outs s).length).del ∧ r.ack ≤ (got r (outs s) (outs s).length).ack ∧
      (r.owes = true → (got r (outs s) (outs s).length).owes = true) ∧ ((s.owes = true ∨ s.ack < N.length) → s.del ≤ (got r (outs s) (outs s).length).ack) ∧
      (s.ack < N.length → s.ack + 1 ≤ (got r (outs s) (outs s).length).del ∧ (got r (outs s) (outs s).length).owes = true) := by
  obtain ⟨g1, g2, g3, g4, g5, g6⟩ := got_side hs hr hM hN _ (Nat.le_refl _)
  have hl := outs_len hs
  have hw := hs.win
  have ha := hs.ack
  have hmany : s.ack < N.length → 0 < many s N := fun h => by unfold many; omega
  have hpos : (s.owes = true ∨ s.ack < N.length) → 0 < (outs s).length := fun h => by
    rcases outs_spec hs with ⟨h1, h2, _⟩ | ⟨h1, ⟨_, h2⟩ | ⟨h3, h2⟩⟩
    · omega
    · rw [h2]; simp
    · rcases h with h | h
      · rw [h3] at h; cases h
      · have := hmany h; omega
  refine ⟨⟨g1.key, g1.win, g1.ack, g1.wait, g1.del, g1.forged, by have := g1.held; omega, g1.mem⟩, ⟨hs.key, hs.win, ⟨ha.1, by show s.ack ≤ _; omega⟩, hs.wait, hs.del, hs.forged, hs.held, hs.mem⟩, g2, g3, g4, fun h => g5 (hpos h), fun h => ?_⟩
  have h2 := hpos (.inr h)
  have h3 := g6 (hmany h)
  exact ⟨by omega, h3.2 h2⟩
end Lk
end Go.Am
