/- A disk of the program and one of the specification: what holds of both, and that each operation keeps it. -/
import Derived.Test.YtnbgphghghmemaaAmDisk2
set_option linter.unusedVariables false
set_option linter.unusedSimpArgs false
namespace Go.Dk
open Go Go.Am

abbrev Es := List (List Int × List Int)
theorem mhas_put (k v k' : List Int) : ∀ es : Es, mhas (mput es k v) k' = (k == k' || mhas es k')
  | [] => by simp [mput, mhas]
  | e :: es => by
    simp only [mput]
    by_cases h : e.1 == k
    · rw [h, cond_true]
      have h' : e.1 = k := by simpa using h
      simp only [mhas, List.any_cons, h', ← Bool.or_assoc, Bool.or_self]
    · have h2 : (e.1 == k) = false := by simpa using h
      rw [h2, cond_false]
      have ih := mhas_put k v k' es
      simp only [mhas, List.any_cons] at ih ⊢
      rw [ih]
      cases (e.1 == k') <;> cases (k == k') <;> rfl
theorem mget_put (z k v k' : List Int) : ∀ es : Es, mget z (mput es k v) k' = if k = k' then v else mget z es k'
  | [] => by
    by_cases h : k = k'
    · simp [mput, mget, h]
    · have : (k == k') = false := by simpa using h
      simp [mput, mget, h, this]
  | e :: es => by
    simp only [mput]
    by_cases h : e.1 = k
    · have h2 : (e.1 == k) = true := by simpa using h
      rw [h2, cond_true]
      simp only [mget]
      by_cases h3 : k = k'
      · have h4 : (k == k') = true := by simpa using h3
        rw [h4, if_pos h3]; rfl
      · have h4 : (k == k') = false := by simpa using h3
        have h5 : (e.1 == k') = false := by rw [h]; exact h4
        rw [h4, h5, if_neg h3]; rfl
    · have h2 : (e.1 == k) = false := by simpa using h
      rw [h2, cond_false]
      simp only [mget, mget_put z k v k' es]
      by_cases h3 : k = k'
      · have h5 : (e.1 == k') = false := by rw [← h3]; exact h2
        simp only [if_pos h3, h5, cond_false]
      · simp only [if_neg h3]
theorem mhas_del (k k' : List Int) : ∀ es : Es, mhas (mdel es k) k' = (!(k == k') && mhas es k')
  | [] => by simp [mdel, mhas]
  | e :: es => by
    have ih := mhas_del k k' es
    simp only [mdel, mhas] at ih ⊢
    by_cases h : e.1 = k
    · have h2 : (e.1 == k) = true := by simpa using h
      rw [List.filter_cons_of_neg (by simp [h2]), ih, List.any_cons, h]
      cases (k == k') <;> simp
    · have h2 : (e.1 == k) = false := by simpa using h
      rw [List.filter_cons_of_pos (by simp [h2]), List.any_cons, ih, List.any_cons]
      by_cases h3 : k = k'
      · subst h3; simp [h2]
      · have h4 : (k == k') = false := by simpa using h3
        simp [h4]
theorem mget_del (z k k' : List Int) (hne : k ≠ k') : ∀ es : Es, mget z (mdel es k) k' = mget z es k'
  | [] => rfl
  | e :: es => by
    have ih := mget_del z k k' hne es
    simp only [mdel] at ih ⊢
    by_cases h : e.1 = k
    · have h2 : (e.1 == k) = true := by simpa using h
      rw [List.filter_cons_of_neg (by simp [h2]), ih]
      have h5 : (e.1 == k') = false := by rw [h]; simpa using hne
      simp only [mget, h5, cond_false]
    · have h2 : (e.1 == k) = false := by simpa using h
      rw [List.filter_cons_of_pos (by simp [h2])]
      simp only [mget, ih]
theorem mhas_mem {es : Es} {k : List Int} : mhas es k = true ↔ ∃ e ∈ es, e.1 = k := by
  simp [mhas, List.any_eq_true]
theorem mput_all {p : List Int × List Int → Prop} {k v : List Int} (hp : p (k, v)) : ∀ {es : Es}, (∀ e ∈ es, p e) → ∀ e ∈ mput es k v, p e
  | [], _, e, he => by simp [mput] at he; rw [he]; exact hp
  | x :: es, h, e, he => by
    simp only [mput] at he
    cases hx : x.1 == k <;> rw [hx] at he
    · rw [cond_false] at he
      rcases List.mem_cons.1 he with rfl | he
      · exact h _ (.head _)
      · exact mput_all hp (fun y hy => h y (.tail _ hy)) e he
    · rw [cond_true] at he
      rcases List.mem_cons.1 he with rfl | he
      · exact hp
      · exact h e (.tail _ he)
theorem mget_ones {es : Es} (h : ∀ e ∈ es, e.2 = [1]) (k : List Int) : ((mget [0] es k).getD 0 0 == 1) = mhas es k := by
  induction es with
  | nil => rfl
  | cons e es ih =>
    have ih := ih fun x hx => h x (.tail _ hx)
    simp only [mget, mhas, List.any_cons]
    cases hk : e.1 == k
    · rw [cond_false, ih]; simp [mhas]
    · rw [cond_true, h e (.head _)]; rfl

theorem sec_len {b : List Int} {i : Nat} (h : i * 64 + 64 ≤ b.length) : (sec b i).length = 64 := by
  simp only [sec, List.length_take, List.length_drop]; omega
theorem sec_get (b : List Int) (i k : Nat) : (sec b i)[k]? = if k < 64 then b[i * 64 + k]? else none := by
  simp only [sec, List.getElem?_take, List.getElem?_drop]
theorem putsec_get {b s : List Int} {i m : Nat} (hs : s.length = 64) (hm : m ≤ 64) (hb : i * 64 + 64 ≤ b.length) (x : Nat) :
    (putsec b i m s)[x]? = if x < i * 64 then b[x]? else if x < i * 64 + m then s[x - i * 64]? else b[x]? := by
  have h1 : (b.take (i * 64)).length = i * 64 := by rw [List.length_take]; omega
  have h2 : ((s.take 64).take m).length = m := by rw [List.length_take, List.length_take]; omega
  simp only [putsec]
  by_cases ha : x < i * 64
  · rw [if_pos ha, List.append_assoc, List.getElem?_append_left (by omega), List.getElem?_take, if_pos ha]
  · rw [if_neg ha]
    by_cases hb' : x < i * 64 + m
    · rw [if_pos hb', List.append_assoc, List.getElem?_append_right (by omega), List.getElem?_append_left (by omega), h1, List.getElem?_take, if_pos (by omega), List.getElem?_take, if_pos (by omega)]
    · rw [if_neg hb', List.getElem?_append_right (by rw [List.length_append]; omega), List.length_append, h1, h2, List.getElem?_drop]
      congr 1; omega
theorem sec_putsec {b s : List Int} {i m : Nat} (hs : s.length = 64) (hm : m ≤ 64) (hb : i * 64 + 64 ≤ b.length) (j : Nat) :
    sec (putsec b i m s) j = if j = i then s.take m ++ (sec b i).drop m else sec b j := by
  refine List.ext_getElem? fun k => ?_
  rw [sec_get]
  by_cases hj : j = i
  · subst hj
    rw [if_pos rfl]
    by_cases hk : k < 64
    · rw [if_pos hk, putsec_get hs hm hb, if_neg (by omega)]
      by_cases hkm : k < m
      · rw [if_pos (by omega), List.getElem?_append_left (by rw [List.length_take]; omega), List.getElem?_take, if_pos hkm]
        congr 1; omega
      · rw [if_neg (by omega), List.getElem?_append_right (by rw [List.length_take]; omega), List.length_take, List.getElem?_drop, sec_get, if_pos (by omega)]
        congr 1; omega
    · rw [if_neg hk, List.getElem?_eq_none]
      rw [List.length_append, List.length_take, List.length_drop, sec_len hb]; omega
  · rw [if_neg hj, sec_get]
    by_cases hk : k < 64
    · rw [if_pos hk, if_pos hk, putsec_get hs hm hb]
      split
      · rfl
      · rw [if_neg]
        intro h; omega
    · rw [if_neg hk, if_neg hk]
theorem sec_set (b : List Int) (i q j : Nat) (v : Int) (hq : q < 64) : sec (b.set (q + i * 64) v) j = if j = i then (sec b i).set q v else sec b j := by
  refine List.ext_getElem? fun k => ?_
  rw [sec_get]
  by_cases hj : j = i
  · subst hj
    rw [if_pos rfl, List.getElem?_set, List.getElem?_set, sec_get]
    by_cases hk : k < 64
    · rw [if_pos hk, if_pos hk]
      by_cases hqk : q = k
      · subst hqk
        rw [if_pos (by omega), if_pos rfl]
        by_cases hl : q + j * 64 < b.length
        · rw [if_pos hl, if_pos]
          simp only [sec, List.length_take, List.length_drop]; omega
        · rw [if_neg hl, if_neg]
          simp only [sec, List.length_take, List.length_drop]; omega
      · rw [if_neg (by omega), if_neg hqk]
    · rw [if_neg hk, if_neg hk, if_neg (by omega)]
  · rw [if_neg hj, sec_get]
    by_cases hk : k < 64
    · rw [if_pos hk, if_pos hk, List.getElem?_set, if_neg (by omega)]
    · rw [if_neg hk, if_neg hk]

structure Rel (d : D) (r : R) : Prop where
  n : r.s.length = d.n
  small : d.n < 8000
  len : d.blk.length = d.n * 64
  text : ∀ i, i < d.n → sec d.blk i = fT (r.s.getD i [])
  keys : ∀ e ∈ d.pend, (∃ i : Nat, i < d.n ∧ e.1 = [(i : Int)]) ∧ e.2.length = 64
  nd : (d.pend.map (·.1)).Nodup
  dirty : ∀ i : Nat, i < d.n → isP d i = fD (r.s.getD i [])
  next : ∀ i : Nat, i < d.n → fD (r.s.getD i []) = true → nxt d i = fN (r.s.getD i [])
  wkeys : ∀ e ∈ d.worn, (∃ i : Nat, i < d.n ∧ e.1 = [(i : Int)]) ∧ e.2 = [1]
  wnd : (d.worn.map (·.1)).Nodup
  worn : ∀ i : Nat, i < d.n → isW d i = fW (r.s.getD i [])
  off : d.off = r.off
  left : d.left = r.left ∨ (d.left < 0 ∧ r.left < 0)
  lo : -9223372036854775808 ≤ d.left
  hi : d.left ≤ 9223372036854775807

theorem nodup_len {es : Es} {n : Nat} (h : ∀ e ∈ es, ∃ i : Nat, i < n ∧ e.1 = [(i : Int)]) (hn : (es.map (·.1)).Nodup) : es.length ≤ n := by
  have h1 : (keyInts es).Nodup := by
    simp only [keyInts, List.Nodup, List.pairwise_map] at hn ⊢
    refine hn.imp_of_mem fun {a b} ha hb h' e => h' ?_
    obtain ⟨i, _, e1⟩ := h a ha
    obtain ⟨j, _, e2⟩ := h b hb
    rw [e1, e2] at e ⊢
    simpa using e
  have h2 : (((List.range n).filter fun i : Nat => (keyInts es).contains (i : Int)).map fun i : Nat => (i : Int)).Nodup := by
    simp only [List.Nodup, List.pairwise_map]
    refine (List.pairwise_lt_range.filter _).imp fun {a b} h => ?_
    omega
  have h3 : (keyInts es).Perm (((List.range n).filter fun i : Nat => (keyInts es).contains (i : Int)).map fun i : Nat => (i : Int)) := by
    rw [List.perm_ext_iff_of_nodup h1 h2]
    intro x
    simp only [List.mem_map, List.mem_filter, List.mem_range, List.contains_iff_mem]
    constructor
    · intro hx
      obtain ⟨e, he, rfl⟩ := List.mem_map.1 (show x ∈ es.map fun e => e.1.getD 0 0 from hx)
      obtain ⟨i, hi, e1⟩ := h e he
      exact ⟨i, ⟨hi, by rw [show (i : Int) = e.1.getD 0 0 by rw [e1]; rfl]; exact hx⟩, by rw [e1]; rfl⟩
    · rintro ⟨i, ⟨_, hx⟩, rfl⟩; exact hx
  have h4 := h3.length_eq
  have h5 := List.length_filter_le (fun i : Nat => (keyInts es).contains (i : Int)) (List.range n)
  simp only [keyInts, List.length_map, List.length_range] at h4 h5
  omega
theorem Rel.fine {d : D} {r : R} (h : Rel d r) : fine d = true := by
  have h1 := nodup_len (fun e he => (h.keys e he).1) h.nd
  have h2 := nodup_len (fun e he => (h.wkeys e he).1) h.wnd
  have h3 := h.small
  simp only [Dk.fine, Bool.and_eq_true, decide_eq_true_eq, List.all_eq_true]
  refine ⟨⟨h.small, h.len, by omega, by omega⟩, fun e he => ?_⟩
  obtain ⟨⟨i, hi, e1⟩, _⟩ := h.keys e he
  rw [e1]
  simp [inD]; omega
theorem Rel.ok {d : D} {r : R} (h : Rel d r) : Ok d := ⟨h.len, fun e he => (h.keys e he).2⟩
theorem Rel.good {d : D} {r : R} (h : Rel d r) : RGood r := by
  refine ⟨by rw [h.n]; exact h.small, fun i hi => ?_⟩
  rw [h.n] at hi
  have hl := h.len
  refine ⟨by rw [← h.text i hi]; exact sec_len (by omega), fun hd => ?_⟩
  rw [← h.next i hi hd]
  exact mget64 h.ok.vals _
theorem Rel.rfine {d : D} {r : R} (h : Rel d r) : rfine r = true := rfine_iff.2 h.good
theorem Rel.check {d : D} {r : R} (h : Rel d r) (i : Int) : check d i = cond r.off 22 (cond (!ris r i) 1 0) := by
  unfold Dk.check ris
  rw [h.off, h.n]
  cases r.off
  · simp only [cond_false]
    by_cases h1 : i < 0
    · rw [cond_pos h1, cond_neg (show ¬ i ≥ 0 by omega)]; rfl
    · rw [cond_neg h1, cond_pos (show i ≥ 0 by omega)]
      by_cases h2 : i ≥ (d.n : Int)
      · rw [cond_pos h2, show decide (i < (d.n : Int)) = false by simp; omega]; rfl
      · rw [cond_neg h2, show decide (i < (d.n : Int)) = true by simp; omega]; rfl
  · rfl
theorem Rel.step {d : D} {r : R} (h : Rel d r) : (step d).2 = (rstep r).2 ∧ Rel (step d).1 (rstep r).1 := by
  have hlo := h.lo
  have hhi := h.hi
  unfold Dk.step rstep
  by_cases h0 : d.left = 0
  · have h1 : r.left = 0 := by rcases h.left with h | ⟨h, _⟩ <;> omega
    rw [show (d.left == 0) = true by simpa using h0, show (r.left == 0) = true by simpa using h1]
    exact ⟨rfl, { h with off := rfl }⟩
  · have h1 : r.left ≠ 0 := by rcases h.left with h | ⟨_, h⟩ <;> omega
    rw [show (d.left == 0) = false by simpa using h0, show (r.left == 0) = false by simpa using h1]
    simp only [cond_false]
    by_cases h2 : d.left > 0
    · have h3 : r.left = d.left := by rcases h.left with h | ⟨h, _⟩ <;> omega
      rw [cond_pos h2, cond_pos (show r.left > 0 by omega), h3, i64w (by omega) (by omega)]
      exact ⟨rfl, { h with left := .inl rfl, lo := by show _ ≤ d.left - 1; omega, hi := by show d.left - 1 ≤ _; omega }⟩
    · rw [cond_neg h2, cond_neg (show ¬ r.left > 0 by rcases h.left with h | ⟨_, h⟩ <;> omega)]
      exact ⟨rfl, h⟩
theorem int_key (i j : Nat) : ([(i : Int)] == [(j : Int)]) = decide (i = j) := by
  rw [Bool.eq_iff_iff]; simp; omega
theorem key_ne {i j : Nat} (h : i ≠ j) : [(i : Int)] ≠ [(j : Int)] := by simp; omega
theorem settle_worn (d : D) (i p : Int) : (settle d i p).worn = d.worn := rfl
theorem isP_settle (d : D) (i j : Nat) (p : Int) : isP (settle d i p) j = (!decide (i = j) && isP d j) := by
  simp only [isP, settle, mhas_del, int_key]
theorem nxt_settle (d : D) {i j : Nat} (p : Int) (h : i ≠ j) : nxt (settle d i p) j = nxt d j := by
  simp only [nxt, settle]; exact mget_del _ _ _ (key_ne h) _
theorem sec_settle {d : D} (hl : d.blk.length = d.n * 64) (hv : ∀ e ∈ d.pend, e.2.length = 64) {i : Nat} (hi : i < d.n) (p : Int) (j : Nat) :
    sec (settle d i p).blk j = if j = i then cond (!isW d i) ((nxt d i).take (clamp p) ++ (sec d.blk i).drop (clamp p)) (sec d.blk i) else sec d.blk j := by
  have hc := clamp_le p
  have hx : (nxt d i).length = 64 := mget64 hv _
  simp only [settle, Int.toNat_natCast]
  cases (!isW d i)
  · simp only [cond_false]
    by_cases h : j = i
    · rw [if_pos h, h]
    · rw [if_neg h]
  · simp only [cond_true]
    cases hq : (!(nxt d i == sec d.blk i))
    · have hq' : nxt d i = sec d.blk i := by simpa using hq
      simp only [cond_false]
      by_cases h : j = i
      · rw [if_pos h, hq', List.take_append_drop, h]
      · rw [if_neg h]
    · simp only [cond_true]
      rw [Nat.min_eq_right hc]
      exact sec_putsec hx hc (by omega) j
theorem getD_settle (r : R) {i : Nat} (p : Int) (hi : i < r.s.length) (j : Nat) : (rsettle r i p).s.getD j [] = if i = j then settled (r.s.getD i []) p else r.s.getD j [] := by
  simp only [rsettle, Int.toNat_natCast, getD_set, R.at]
  by_cases h : i = j
  · subst h; rw [if_pos ⟨rfl, hi⟩, if_pos rfl]
  · rw [if_neg (fun h' => h h'.1), if_neg h]
theorem Rel.settle {d : D} {r : R} (h : Rel d r) {i : Nat} (hi : i < d.n) (hd : fD (r.s.getD i []) = true) (p : Int) : Rel (settle d i p) (rsettle r i p) := by
  have hir : i < r.s.length := by rw [h.n]; exact hi
  have hok := settle_ok (i := (i : Int)) h.ok (by simp [inD]; exact hi) p
  exact {
    n := by rw [rsettle_len]; exact h.n
    small := h.small
    len := hok.len
    text := fun j hj => by
      rw [sec_settle h.len h.ok.vals hi, getD_settle r p hir]
      by_cases hji : j = i
      · subst hji
        rw [if_pos rfl, if_pos rfl, h.worn j hj, h.next j hj hd, h.text j hj]
        rfl
      · rw [if_neg hji, if_neg (Ne.symm hji), h.text j hj]
    keys := fun e he => h.keys e (List.mem_filter.1 he).1
    nd := mdel_nd h.nd
    dirty := fun j hj => by
      rw [isP_settle, getD_settle r p hir]
      by_cases hji : i = j
      · subst hji; simp [settled, fD]
      · rw [if_neg hji, h.dirty j hj]; simp [hji]
    next := fun j hj hdj => by
      rw [getD_settle r p hir] at hdj ⊢
      by_cases hji : i = j
      · subst hji; rw [if_pos rfl] at hdj; cases hdj
      · rw [if_neg hji] at hdj ⊢
        rw [nxt_settle d p hji]; exact h.next j hj hdj
    wkeys := h.wkeys
    wnd := h.wnd
    worn := fun j hj => by
      rw [getD_settle r p hir]
      by_cases hji : i = j
      · subst hji
        rw [if_pos rfl]
        show isW d i = _
        rw [h.worn i hj]
        simp only [settled, fW, List.getD_cons_succ, List.getD_cons_zero]
        cases (((r.s.getD i []).getD 3 []).getD 0 0 == 1) <;> rfl
      · rw [if_neg hji]; exact h.worn j hj
    off := h.off
    left := h.left
    lo := h.lo
    hi := h.hi }

theorem rlist_sorted (p : List (List Int) → Bool) (l : List (List (List Int))) (k : Nat) : (rlist p l k).Pairwise fun a b => decide (a ≤ b) = true := by
  simp only [rlist, List.pairwise_map]
  refine (List.pairwise_lt_range.filter _).imp fun {a b} h => ?_
  simp only [decide_eq_true_eq]; omega
theorem rlist_nodup (p : List (List Int) → Bool) (l : List (List (List Int))) (k : Nat) : (rlist p l k).Nodup := by
  simp only [rlist, List.Nodup, List.pairwise_map]
  refine (List.pairwise_lt_range.filter _).imp fun {a b} h => ?_
  omega
theorem mem_rlist {p : List (List Int) → Bool} {l : List (List (List Int))} {k : Nat} {x : Int} : x ∈ rlist p l k ↔ ∃ i : Nat, i < k ∧ p (l.getD i []) = true ∧ x = (i : Int) := by
  simp only [rlist, List.mem_map, List.mem_filter, List.mem_range]
  constructor
  · rintro ⟨i, ⟨h1, h2⟩, rfl⟩; exact ⟨i, h1, h2, rfl⟩
  · rintro ⟨i, h1, h2, rfl⟩; exact ⟨i, ⟨h1, h2⟩, rfl⟩
theorem sorted_keys {es : Es} {n : Nat} (hk : ∀ e ∈ es, ∃ i : Nat, i < n ∧ e.1 = [(i : Int)]) (hn : (es.map (·.1)).Nodup) (p : List (List Int) → Bool) (l : List (List (List Int)))
    (hp : ∀ i : Nat, i < n → mhas es [(i : Int)] = p (l.getD i [])) : sortI (keyInts es) = rlist p l n := by
  have h1 : (keyInts es).Nodup := by
    simp only [keyInts, List.Nodup, List.pairwise_map] at hn ⊢
    refine hn.imp_of_mem fun {a b} ha hb h e => h ?_
    obtain ⟨i, _, e1⟩ := hk a ha
    obtain ⟨j, _, e2⟩ := hk b hb
    rw [e1, e2] at e ⊢
    simpa using e
  have hperm : (keyInts es).Perm (rlist p l n) := by
    rw [List.perm_ext_iff_of_nodup h1 (rlist_nodup p l n)]
    intro x
    rw [mem_rlist]
    simp only [keyInts, List.mem_map]
    constructor
    · rintro ⟨e, he, rfl⟩
      obtain ⟨i, hi, e1⟩ := hk e he
      exact ⟨i, hi, by rw [← hp i hi]; exact mhas_mem.2 ⟨e, he, e1⟩, by rw [e1]; rfl⟩
    · rintro ⟨i, hi, h2, rfl⟩
      rw [← hp i hi] at h2
      obtain ⟨e, he, e1⟩ := mhas_mem.1 h2
      exact ⟨e, he, by rw [e1]; rfl⟩
  have h2 : sortI (keyInts es) = sortI (rlist p l n) := Go.mergeSort_of_perm_i hperm
  rw [h2]
  exact List.mergeSort_of_pairwise (rlist_sorted p l n)
theorem Rel.pending {d : D} {r : R} (h : Rel d r) : pending d = rpending r := by
  simp only [Dk.pending, rpending, h.n]
  exact sorted_keys (fun e he => (h.keys e he).1) h.nd _ _ h.dirty
theorem Rel.wornl {d : D} {r : R} (h : Rel d r) : wornl d = rworn r := by
  simp only [Dk.wornl, rworn, h.n]
  refine sorted_keys (fun e he => (h.wkeys e he).1) h.wnd _ _ fun i hi => ?_
  rw [← h.worn i hi, isW, mget_ones fun e he => (h.wkeys e he).2]
theorem Rel.image {d : D} {r : R} (h : Rel d r) : image d = rimage r := by
  refine list_eq [] (by simp [Dk.image, rimage, h.n]) fun i hi => ?_
  simp only [Dk.image, List.length_map, List.length_range] at hi
  have h1 := h.text i hi
  simp only [Dk.image, rimage, List.getD_eq_getElem?_getD, List.getElem?_map, List.getElem?_range hi, Option.map_some, Option.getD_some]
  rw [h1, List.getD_eq_getElem?_getD, List.getElem?_eq_getElem (by rw [h.n]; exact hi)]; rfl
theorem Rel.same {d : D} {r : R} (h : Rel d r) : same d r = true := by
  simp only [Dk.same, h.pending, h.wornl, h.image, h.n, h.off, beq_self_eq_true, cond_true]

theorem Rel.flushK {d : D} {r : R} (h : Rel d r) : ∀ k, k ≤ d.n → Rel ((rlist fD r.s k).foldl (fun e i => Dk.settle e i 64) d) (rflushK r k) ∧ (∀ j, k ≤ j → (rflushK r k).s.getD j [] = r.s.getD j []) ∧ ((rlist fD r.s k).foldl (fun e i => Dk.settle e i 64) d).n = d.n
  | 0, _ => ⟨h, fun _ _ => rfl, rfl⟩
  | k + 1, hk => by
    obtain ⟨h1, h2, h3⟩ := h.flushK k (by omega)
    have hr := rflushK_succ r k
    have hl := rlist_succ fD r.s k
    have e : fD ((rflushK r k).at (k : Int)) = fD (r.s.getD k []) := by rw [R.at, Int.toNat_natCast, h2 k (Nat.le_refl _)]
    rw [hr, hl, e]
    cases hd : fD (r.s.getD k [])
    · exact ⟨h1, fun j hj => h2 j (by omega), h3⟩
    · simp only [cond_true, List.foldl_append, List.foldl_cons, List.foldl_nil]
      refine ⟨h1.settle (by rw [h3]; omega) (by rw [h2 k (Nat.le_refl _)]; exact hd) 64, fun j hj => ?_, h3⟩
      rw [getD_settle _ _ (by rw [h1.n, h3]; omega), if_neg (by omega)]
      exact h2 j (by omega)
theorem Rel.flush {d : D} {r : R} (h : Rel d r) (h0 : 0 < d.n) : (flush d).2 = (rflush r).2 ∧ Rel (flush d).1 (rflush r).1 := by
  have hris : ris r 0 = true := ris_iff.2 ⟨by omega, by rw [h.n]; omega⟩
  simp only [Dk.flush, rflush, h.check, hris]
  cases ho : r.off
  · simp only [cond_false, Bool.not_true]
    obtain ⟨s1, s2⟩ := h.step
    rw [s1]
    cases hs : ((rstep r).2 != 0)
    · simp only [bne_self_eq_false, cond_false]
      obtain ⟨t1, t2, t3, t4⟩ := step_same d
      have hp : Dk.pending d = rlist fD (rstep r).1.s d.n := by rw [h.pending, rstep_same, rpending, h.n]
      rw [hp, h.n]
      exact ⟨trivial, (s2.flushK d.n (by rw [t1]; exact Nat.le_refl _)).1⟩
    · simp only [bne_self_eq_false, cond_false, cond_true]
      exact ⟨s1, s2⟩
  · exact ⟨rfl, h⟩
theorem Rel.mountK {d : D} {r : R} (h : Rel d r) (picks : List Int) : ∀ k, k ≤ d.n → Rel (mountAll picks (rlist fD r.s k) 0 d) (rmountK picks r k).1 ∧ (∀ j, k ≤ j → (rmountK picks r k).1.s.getD j [] = r.s.getD j []) ∧ (mountAll picks (rlist fD r.s k) 0 d).n = d.n ∧ (rmountK picks r k).2 = (rlist fD r.s k).length
  | 0, _ => ⟨h, fun _ _ => rfl, rfl, rfl⟩
  | k + 1, hk => by
    obtain ⟨h1, h2, h3, h4⟩ := h.mountK picks k (by omega)
    have hr := rmountK_succ picks r k
    have hl := rlist_succ fD r.s k
    have e : fD ((rmountK picks r k).1.at (k : Int)) = fD (r.s.getD k []) := by rw [R.at, Int.toNat_natCast, h2 k (Nat.le_refl _)]
    rw [hr, hl, e]
    cases hd : fD (r.s.getD k [])
    · exact ⟨h1, fun j hj => h2 j (by omega), h3, h4⟩
    · simp only [cond_true, mountAll_snoc, Nat.zero_add]
      rw [h4]
      refine ⟨h1.settle (by rw [h3]; omega) (by rw [h2 k (Nat.le_refl _)]; exact hd) _, fun j hj => ?_, h3, by simp⟩
      rw [getD_settle _ _ (by rw [h1.n, h3]; omega), if_neg (by omega)]
      exact h2 j (by omega)
theorem Rel.mount {d : D} {r : R} (h : Rel d r) (picks : List Int) : Rel (mount d picks) (rmount r picks) := by
  have h1 := (h.mountK picks d.n (Nat.le_refl _)).1
  have hp : Dk.pending d = rlist fD r.s d.n := by rw [h.pending, rpending, h.n]
  simp only [Dk.mount, rmount, hp, h.n]
  exact { h1 with off := rfl, left := .inl rfl, lo := by show (-9223372036854775808 : Int) ≤ -1; decide, hi := by show (-1 : Int) ≤ 9223372036854775807; decide }

theorem getD_set_at {l : List (List (List Int))} {i : Nat} (x : List (List Int)) (h : i < l.length) (j : Nat) : (l.set i x).getD j [] = if i = j then x else l.getD j [] := by
  rw [getD_set]
  by_cases hij : i = j
  · subst hij; rw [if_pos ⟨rfl, h⟩, if_pos rfl]
  · rw [if_neg (fun h' => hij h'.1), if_neg hij]
theorem tput_get : ∀ (x : List (List Int)) (c : Nat) (f : List Int) (j : Nat), (tput x c f).getD j [] = if c = j then f else x.getD j []
  | [], 0, f, 0 => rfl
  | [], 0, f, j + 1 => by simp [tput]
  | [], c + 1, f, 0 => rfl
  | [], c + 1, f, j + 1 => by
    have := tput_get [] c f j
    simp only [tput, List.getD_cons_succ, this, Nat.add_right_cancel_iff]; rfl
  | x :: r, 0, f, 0 => rfl
  | x :: r, 0, f, j + 1 => by simp [tput]
  | x :: r, c + 1, f, 0 => by simp [tput]
  | x :: r, c + 1, f, j + 1 => by
    have := tput_get r c f j
    simp only [tput, List.getD_cons_succ, this, Nat.add_right_cancel_iff]
theorem wput_get {l : List (List (List Int))} {i : Nat} (t : List Int) (h : i < l.length) (j : Nat) : (wput l i t).getD j [] = if i = j then tput (tput (l.getD i []) 1 t) 2 [1] else l.getD j [] := by
  simp only [wput]
  rw [getD_set_at _ (by simpa using h), getD_set_at _ h, getD_set_at _ h, if_pos rfl]
  split <;> rfl
theorem Rel.write {d : D} {r : R} (h : Rel d r) (i : Int) (t : List Int) : (write d i t).2 = (rwrite r i t).2 ∧ Rel (write d i t).1 (rwrite r i t).1 := by
  simp only [Dk.write, rwrite, h.check]
  cases ho : r.off
  · cases hi : ris r i
    · exact ⟨rfl, h⟩
    · simp only [cond_false, Bool.not_true, bne_self_eq_false]
      cases hl : ((t.length : Int) != 64)
      · simp only [cond_false]
        obtain ⟨s1, s2⟩ := h.step
        rw [s1]
        cases hs : ((rstep r).2 != 0)
        · simp only [cond_false]
          refine ⟨trivial, ?_⟩
          have hlen : t.length = 64 := by have : (t.length : Int) = 64 := by simpa using hl
                                          omega
          obtain ⟨t1, t2, t3, t4⟩ := step_same d
          have hr := ris_iff.1 hi
          rw [h.n] at hr
          obtain ⟨q, rfl⟩ : ∃ q : Nat, i = (q : Int) := ⟨i.toNat, by omega⟩
          rw [Int.toNat_natCast, List.take_of_length_le (by omega)]
          have hq : q < (Dk.step d).1.n := by rw [t1]; omega
          revert s2 hq
          generalize (Dk.step d).1 = d'
          generalize (rstep r).1 = r'
          intro s2 hq
          have hql : q < r'.s.length := by rw [s2.n]; exact hq
          exact {
            n := by simp only [wput, List.length_set]; exact s2.n
            small := s2.small
            len := s2.len
            text := fun j hj => by
              rw [s2.text j hj, wput_get t hql]
              by_cases hji : q = j
              · subst hji; rw [if_pos rfl]; simp only [fT]; rw [tput_get, if_neg (by decide), tput_get, if_neg (by decide)]
              · rw [if_neg hji]
            keys := mput_all ⟨⟨q, hq, rfl⟩, hlen⟩ s2.keys
            nd := mput_nd s2.nd
            dirty := fun j hj => by
              rw [wput_get t hql]
              simp only [isP, mhas_put, int_key]
              by_cases hji : q = j
              · subst hji; rw [if_pos rfl, fD, tput_get, if_pos rfl]; simp
              · rw [if_neg hji, ← s2.dirty j hj]; simp [hji, isP]
            next := fun j hj hdj => by
              rw [wput_get t hql] at hdj ⊢
              simp only [nxt, mget_put]
              by_cases hji : q = j
              · subst hji; rw [if_pos rfl, if_pos rfl, fN, tput_get, if_neg (by decide), tput_get, if_pos rfl]
              · rw [if_neg hji] at hdj ⊢
                rw [if_neg (key_ne hji)]; exact s2.next j hj hdj
            wkeys := s2.wkeys
            wnd := s2.wnd
            worn := fun j hj => by
              show isW d' j = _
              rw [s2.worn j hj, wput_get t hql]
              by_cases hji : q = j
              · subst hji; rw [if_pos rfl]; simp only [fW]; rw [tput_get, if_neg (by decide), tput_get, if_neg (by decide)]
              · rw [if_neg hji]
            off := s2.off
            left := s2.left
            lo := s2.lo
            hi := s2.hi }
        · exact ⟨s1, s2⟩
      · exact ⟨rfl, h⟩
  · exact ⟨rfl, h⟩
theorem Rel.read {d : D} {r : R} (h : Rel d r) (i : Int) : read d i = rread r i := by
  simp only [Dk.read, rread, h.check]
  cases ho : r.off
  · cases hi : ris r i
    · rfl
    · simp only [cond_false, Bool.not_true, bne_self_eq_false]
      have hr := ris_iff.1 hi
      rw [h.n] at hr
      obtain ⟨q, rfl⟩ : ∃ q : Nat, i = (q : Int) := ⟨i.toNat, by omega⟩
      have hq : q < d.n := by omega
      simp only [R.at, Int.toNat_natCast]
      rw [h.dirty q hq]
      cases hd : fD (r.s.getD q [])
      · simp only [cond_false]; rw [h.text q hq]
      · simp only [cond_true]
        rw [List.take_of_length_le (by rw [nxt, mget64 h.ok.vals]; exact Nat.le_refl _), h.next q hq hd]
  · rfl
theorem Rel.trip {d : D} {r : R} (h : Rel d r) (n : Int) (h1 : -9223372036854775808 ≤ n) (h2 : n ≤ 9223372036854775807) : Rel (trip d n) (rtrip r n) :=
  { h with
    left := by
      show n = (if n > -1 then n else -1) ∨ (n < 0 ∧ (if n > -1 then n else -1) < 0)
      split
      · exact .inl rfl
      · exact .inr ⟨by omega, by decide⟩
    lo := h1
    hi := h2 }
theorem dec_ris {d : D} {r : R} (h : Rel d r) (i : Int) {α : Type} (a b : α) : cond (decide (i < 0)) a (cond (decide (i ≥ (d.n : Int))) a b) = cond (!ris r i) a b := by
  simp only [ris, h.n]
  by_cases h1 : i < 0
  · rw [cond_pos h1, cond_neg (show ¬ i ≥ 0 by omega)]; rfl
  · rw [cond_neg h1, cond_pos (show i ≥ 0 by omega)]
    by_cases h2 : i ≥ (d.n : Int)
    · rw [cond_pos h2, show decide (i < (d.n : Int)) = false by simp; omega]; rfl
    · rw [cond_neg h2, show decide (i < (d.n : Int)) = true by simp; omega]; rfl
theorem Rel.wear {d : D} {r : R} (h : Rel d r) (i : Int) : (wear d i).2 = (rwear r i).2 ∧ Rel (wear d i).1 (rwear r i).1 := by
  simp only [Dk.wear, rwear, dec_ris h]
  cases hi : ris r i
  · exact ⟨rfl, h⟩
  · simp only [Bool.not_true, cond_false]
    have hr := ris_iff.1 hi
    rw [h.n] at hr
    obtain ⟨q, rfl⟩ : ∃ q : Nat, i = (q : Int) := ⟨i.toNat, by omega⟩
    have hq : q < d.n := by omega
    have hql : q < r.s.length := by rw [h.n]; exact hq
    simp only [R.at, Int.toNat_natCast]
    have get := getD_set_at (tput (r.s.getD q []) 3 [1]) hql
    exact ⟨trivial, {
      n := by simp only [List.length_set]; exact h.n
      small := h.small
      len := h.len
      text := fun j hj => by
        rw [h.text j hj, get]
        by_cases hji : q = j
        · subst hji; rw [if_pos rfl]; simp only [fT]; rw [tput_get, if_neg (by decide)]
        · rw [if_neg hji]
      keys := h.keys
      nd := h.nd
      dirty := fun j hj => by
        show isP d j = _
        rw [h.dirty j hj, get]
        by_cases hji : q = j
        · subst hji; rw [if_pos rfl]; simp only [fD]; rw [tput_get, if_neg (by decide)]
        · rw [if_neg hji]
      next := fun j hj hdj => by
        show nxt d j = _
        rw [get] at hdj ⊢
        by_cases hji : q = j
        · subst hji
          rw [if_pos rfl] at hdj ⊢
          simp only [fD, fN] at hdj ⊢
          rw [tput_get, if_neg (by decide)] at hdj ⊢
          exact h.next q hj hdj
        · rw [if_neg hji] at hdj ⊢
          exact h.next j hj hdj
      wkeys := mput_all ⟨⟨q, hq, rfl⟩, rfl⟩ h.wkeys
      wnd := mput_nd h.wnd
      worn := fun j hj => by
        rw [get]
        simp only [isW, mget_put]
        by_cases hji : q = j
        · subst hji; rw [if_pos rfl, if_pos rfl]; simp only [fW]; rw [tput_get, if_pos rfl]
        · rw [if_neg hji, if_neg (key_ne hji)]; exact h.worn j hj
      off := h.off
      left := h.left
      lo := h.lo
      hi := h.hi }⟩
theorem Rel.rot {d : D} {r : R} (h : Rel d r) (i b : Int) : (rot d i b).2 = (rrot r i b).2 ∧ Rel (rot d i b).1 (rrot r i b).1 := by
  simp only [Dk.rot, rrot, dec_ris h]
  cases hi : ris r i
  · exact ⟨rfl, h⟩
  · simp only [Bool.not_true, cond_false]
    by_cases hb0 : b < 0
    · simp only [cond_pos hb0]; exact ⟨trivial, h⟩
    · by_cases hb1 : b > 511
      · simp only [cond_neg hb0, cond_pos hb1, cond_pos (show b ≥ 512 by omega)]; exact ⟨trivial, h⟩
      · simp only [cond_neg hb0, cond_neg hb1, cond_neg (show ¬ b ≥ 512 by omega)]
        refine ⟨trivial, ?_⟩
        have hr := ris_iff.1 hi
        rw [h.n] at hr
        obtain ⟨q, rfl⟩ : ∃ q : Nat, i = (q : Int) := ⟨i.toNat, by omega⟩
        have hq : q < d.n := by omega
        have hql : q < r.s.length := by rw [h.n]; exact hq
        have e8 : Int.tdiv b 8 = b / 8 := tdiv_nn (by omega)
        have hm : (Int.tdiv b 8).toNat < 64 := by rw [e8]; omega
        simp only [R.at, Int.toNat_natCast, place]
        generalize (Int.tdiv b 8).toNat = m at hm
        have hl := h.len
        have ev : d.blk.getD (m + q * 64) 0 = (fT (r.s.getD q [])).getD m 0 := by
          rw [← h.text q hq, List.getD_eq_getElem?_getD, List.getD_eq_getElem?_getD, sec_get, if_pos hm, Nat.add_comm]
        rw [ev]
        generalize ibits .xor .u8 ((fT (r.s.getD q [])).getD m 0) (bit b) = v
        have get := getD_set_at (tput (r.s.getD q []) 0 ((fT (r.s.getD q [])).set m v)) hql
        exact {
          n := by simp only [List.length_set]; exact h.n
          small := h.small
          len := by simp only [List.length_set]; exact h.len
          text := fun j hj => by
            rw [sec_set _ _ _ _ _ hm, get]
            by_cases hji : q = j
            · subst hji; rw [if_pos rfl, if_pos rfl, h.text q hj]; simp only [fT]; rw [tput_get, if_pos rfl]
            · rw [if_neg hji, if_neg (Ne.symm hji)]; exact h.text j hj
          keys := h.keys
          nd := h.nd
          dirty := fun j hj => by
            show isP d j = _
            rw [h.dirty j hj, get]
            by_cases hji : q = j
            · subst hji; rw [if_pos rfl]; simp only [fD]; rw [tput_get, if_neg (by decide)]
            · rw [if_neg hji]
          next := fun j hj hdj => by
            show nxt d j = _
            rw [get] at hdj ⊢
            by_cases hji : q = j
            · subst hji
              rw [if_pos rfl] at hdj ⊢
              simp only [fD, fN] at hdj ⊢
              rw [tput_get, if_neg (by decide)] at hdj ⊢
              exact h.next q hj hdj
            · rw [if_neg hji] at hdj ⊢
              exact h.next j hj hdj
          wkeys := h.wkeys
          wnd := h.wnd
          worn := fun j hj => by
            show isW d j = _
            rw [h.worn j hj, get]
            by_cases hji : q = j
            · subst hji; rw [if_pos rfl]; simp only [fW]; rw [tput_get, if_neg (by decide)]
            · rw [if_neg hji]
          off := h.off
          left := h.left
          lo := h.lo
          hi := h.hi }
theorem Rel.op {d : D} {r : R} (h : Rel d r) (h0 : 0 < d.n) (k i b : Int) (t p : List Int) (h1 : -9223372036854775808 ≤ i) (h2 : i ≤ 9223372036854775807) : (op d k i b t p).2 = (rop r k i b t p).2 ∧ Rel (op d k i b t p).1 (rop r k i b t p).1 := by
  simp only [Dk.op, rop]
  cases (k == 1)
  · cases (k == 2)
    · cases (k == 3)
      · cases (k == 4)
        · cases (k == 5)
          · cases (k == 6)
            · cases (k == 7)
              · exact ⟨rfl, h⟩
              · obtain ⟨q1, q2⟩ := h.wear i; simp only [cond_true, cond_false]; exact ⟨by rw [q1], q2⟩
            · obtain ⟨q1, q2⟩ := h.rot i b; simp only [cond_true, cond_false]; exact ⟨by rw [q1], q2⟩
          · exact ⟨rfl, h.mount p⟩
        · exact ⟨rfl, h.trip i h1 h2⟩
      · obtain ⟨q1, q2⟩ := h.flush h0; simp only [cond_true, cond_false]; exact ⟨by rw [q1], q2⟩
    · exact ⟨h.read i, h⟩
  · obtain ⟨q1, q2⟩ := h.write i (Dk.text t); simp only [cond_true, cond_false]; exact ⟨by rw [q1], q2⟩
theorem new_rel {n : Int} (h0 : 0 < n) (h1 : n < 8000) : Rel (new n) (rnew n) := by
  have get : ∀ i : Nat, i < n.toNat → (rnew n).s.getD i [] = [List.replicate 64 0, [], [0], [0]] := fun i hi => by
    simp only [rnew]
    rw [List.getD_eq_getElem?_getD, List.getElem?_replicate, if_pos hi]; rfl
  exact {
    n := by simp [new, rnew]
    small := by simp only [new]; omega
    len := by simp [new]
    text := fun i hi => by
      have hi' : i < n.toNat := hi
      rw [get i hi']
      refine List.ext_getElem? fun k => ?_
      rw [sec_get]
      simp only [new, fT, List.getD_cons_zero, List.getElem?_replicate]
      by_cases hk : k < 64
      · rw [if_pos hk, if_pos hk, if_pos (by omega)]
      · rw [if_neg hk, if_neg hk]
    keys := fun e he => by simp [new] at he
    nd := List.nodup_nil
    dirty := fun i hi => by rw [get i hi]; rfl
    next := fun i hi hd => by rw [get i hi] at hd; cases hd
    wkeys := fun e he => by simp [new] at he
    wnd := List.nodup_nil
    worn := fun i hi => by rw [get i hi]; rfl
    off := rfl
    left := .inl rfl
    lo := by show (-9223372036854775808 : Int) ≤ -1; decide
    hi := by show (-1 : Int) ≤ 9223372036854775807; decide }
theorem settle_n' (d : D) (i p : Int) : (settle d i p).n = d.n := rfl
theorem mountAll_n (picks : List Int) : ∀ (l : List Int) (k : Nat) (d : D), (mountAll picks l k d).n = d.n
  | [], _, _ => rfl
  | i :: l, k, d => by rw [mountAll, mountAll_n picks l]; rfl
theorem foldl_n (l : List Int) : ∀ d : D, (l.foldl (fun e i => settle e i 64) d).n = d.n := by
  induction l with
  | nil => intro d; rfl
  | cons i l ih => intro d; rw [List.foldl_cons, ih]; rfl
theorem op_n (d : D) (k i b : Int) (t p : List Int) : (op d k i b t p).1.n = d.n := by
  have hs := (step_same d).1
  simp only [op]
  cases (k == 1)
  · cases (k == 2)
    · cases (k == 3)
      · cases (k == 4)
        · cases (k == 5)
          · cases (k == 6)
            · cases (k == 7)
              · rfl
              · simp only [cond_true, cond_false, wear]
                cases decide (i < 0) <;> cases decide (i ≥ (d.n : Int)) <;> rfl
            · simp only [cond_true, cond_false, rot]
              cases decide (i < 0) <;> cases decide (i ≥ (d.n : Int)) <;> cases decide (b < 0) <;> cases decide (b ≥ 512) <;> rfl
          · exact mountAll_n p _ 0 d
        · rfl
      · simp only [cond_true, cond_false, flush]
        cases (check d 0 != 0)
        · cases ((step d).2 != 0)
          · exact (foldl_n _ _).trans hs
          · exact hs
        · rfl
    · rfl
  · simp only [cond_true, cond_false, write]
    cases (check d i != 0)
    · cases (((text t).length : Int) != 64)
      · cases ((step d).2 != 0) <;> exact hs
      · rfl
    · rfl
def opx (xs : List (List (List Int))) (k : Nat) (d : D) : D × List Int × Int := op d (((xs.getD k []).getD 0 []).getD 0 0) (((xs.getD k []).getD 1 []).getD 0 0) (((xs.getD k []).getD 2 []).getD 0 0) ((xs.getD k []).getD 3 []) ((xs.getD k []).getD 4 [])
def ropx (xs : List (List (List Int))) (k : Nat) (r : R) : R × List Int × Int := rop r (((xs.getD k []).getD 0 []).getD 0 0) (((xs.getD k []).getD 1 []).getD 0 0) (((xs.getD k []).getD 2 []).getD 0 0) ((xs.getD k []).getD 3 []) ((xs.getD k []).getD 4 [])
def dAt (xs : List (List (List Int))) : Nat → D → D
  | 0, d => d
  | k + 1, d => (opx xs k (dAt xs k d)).1
def rAt (xs : List (List (List Int))) : Nat → R → R
  | 0, r => r
  | k + 1, r => (ropx xs k (rAt xs k r)).1
def KOP : List CK := [.int .i64, .int .i64, .int .i64, .str, .sl .i64]
theorem op_int {xs : List (List (List Int))} {n : Nat} (h : okV (.vs (.rT [.int .i64, .int .i64, .int .i64, .str, .sl .i64] xs) n 5)) :
    xs.length = n ∧ ∀ k, k < n → -9223372036854775808 ≤ ((xs.getD k []).getD 1 []).getD 0 0 ∧ ((xs.getD k []).getD 1 []).getD 0 0 ≤ 9223372036854775807 := by
  obtain ⟨h1, _, h3⟩ := h
  refine ⟨by simp only [List.length_cons, List.length_nil] at h1; omega, fun k hk => ?_⟩
  have := h3 (k * 5 + 1) (by omega)
  simp only [AV.cell, List.length_cons, List.length_nil, show (k * 5 + 1) % (0 + 1 + 1 + 1 + 1 + 1) = 1 by omega, show (k * 5 + 1) / (0 + 1 + 1 + 1 + 1 + 1) = k by omega] at this
  exact this
theorem Rel.run {d : D} {r : R} (h : Rel d r) (h0 : 0 < d.n) {xs : List (List (List Int))} {n : Nat}
    (hx : ∀ k, k < n → -9223372036854775808 ≤ ((xs.getD k []).getD 1 []).getD 0 0 ∧ ((xs.getD k []).getD 1 []).getD 0 0 ≤ 9223372036854775807) : ∀ k, k ≤ n → Rel (dAt xs k d) (rAt xs k r) ∧ 0 < (dAt xs k d).n
  | 0, _ => ⟨h, h0⟩
  | k + 1, hk => by
    obtain ⟨h1, h2⟩ := h.run h0 hx k (by omega)
    obtain ⟨q1, q2⟩ := hx k (by omega)
    have h3 := h1.op h2 (((xs.getD k []).getD 0 []).getD 0 0) (((xs.getD k []).getD 1 []).getD 0 0) (((xs.getD k []).getD 2 []).getD 0 0) ((xs.getD k []).getD 3 []) ((xs.getD k []).getD 4 []) q1 q2
    refine ⟨h3.2, ?_⟩
    have : (opx xs k (dAt xs k d)).1.n = (dAt xs k d).n := op_n _ _ _ _ _ _
    simp only [dAt]; omega
end Go.Dk
