/- Dividing groups evenly: the greatest share is at most 4/3 of the least possible one, for at most six groups and three hosts. -/
import Derived.Test.YtgdibbphgdkllaaAmReg2
set_option linter.unusedVariables false
set_option linter.unusedSimpArgs false
namespace Go.Am
open Go
namespace Reg
/-- The least possible greatest share: sizes that are still to be divided, and what the hosts have. -/
def leastN : List Int → List Int → Int
  | [], sh => sh.foldl (fun o s => if s > o then s else o) 0
  | p :: ps, sh => (List.range sh.length).foldl (fun b i => if leastN ps (sh.set i (sh.getD i 0 + p)) < b then leastN ps (sh.set i (sh.getD i 0 + p)) else b) 1048576
def sizes (g : List (List Int)) : List Int := g.map fun x => (x.length : Int)
def least (g : List (List Int)) (sh : List Int) : Int := leastN (sizes g) sh
theorem le_foldmin (f : Nat → Int) (r : Int) : ∀ (n : Nat) (b0 : Int), r ≤ (List.range n).foldl (fun b i => if f i < b then f i else b) b0 ↔ r ≤ b0 ∧ ∀ i, i < n → r ≤ f i
  | 0, b0 => ⟨fun h => ⟨h, fun i hi => by omega⟩, fun h => h.1⟩
  | n + 1, b0 => by
    rw [List.range_succ, List.foldl_append]
    have ih := le_foldmin f r n b0
    simp only [List.foldl_cons, List.foldl_nil]
    generalize (List.range n).foldl (fun b i => if f i < b then f i else b) b0 = x at *
    constructor
    · intro h
      have h1 : r ≤ x ∧ r ≤ f n := by split at h <;> omega
      obtain ⟨h2, h3⟩ := ih.1 h1.1
      refine ⟨h2, fun i hi => ?_⟩
      rcases Nat.lt_or_ge i n with h4 | h4
      · exact h3 i h4
      · have : i = n := by omega
        rw [this]; exact h1.2
    · rintro ⟨h1, h2⟩
      have h3 := ih.2 ⟨h1, fun i hi => h2 i (by omega)⟩
      have h4 := h2 n (by omega)
      split <;> omega
theorem le_least_cons (r p : Int) (ps sh : List Int) : r ≤ leastN (p :: ps) sh ↔ r ≤ 1048576 ∧ ∀ i, i < sh.length → r ≤ leastN ps (sh.set i (sh.getD i 0 + p)) := by
  rw [leastN]; exact le_foldmin (fun i => leastN ps (sh.set i (sh.getD i 0 + p))) r sh.length 1048576
theorem set_comm' (sh : List Int) (i j : Nat) (p q : Int) (hi : i < sh.length) (hj : j < sh.length) :
    (sh.set i (sh.getD i 0 + p)).set j ((sh.set i (sh.getD i 0 + p)).getD j 0 + q) = (sh.set j (sh.getD j 0 + q)).set i ((sh.set j (sh.getD j 0 + q)).getD i 0 + p) := by
  by_cases h : i = j
  · subst h
    have e : ∀ v : Int, (sh.set i v).getD i 0 = v := fun v => by
      rw [List.getD_eq_getElem?_getD, List.getElem?_set]; simp [hi]
    rw [e, e, List.set_set, List.set_set]
    congr 1; omega
  · have e1 : (sh.set i (sh.getD i 0 + p)).getD j 0 = sh.getD j 0 := by
      rw [List.getD_eq_getElem?_getD, List.getElem?_set, if_neg h, List.getD_eq_getElem?_getD]
    have e2 : (sh.set j (sh.getD j 0 + q)).getD i 0 = sh.getD i 0 := by
      rw [List.getD_eq_getElem?_getD, List.getElem?_set, if_neg (Ne.symm h), List.getD_eq_getElem?_getD]
    rw [e1, e2, List.set_comm _ _ h]
theorem le_swap (r p q : Int) (ps sh : List Int) (h : r ≤ leastN (p :: q :: ps) sh) : r ≤ leastN (q :: p :: ps) sh := by
  rw [le_least_cons] at h ⊢
  refine ⟨h.1, fun j hj => ?_⟩
  rw [le_least_cons]
  refine ⟨h.1, fun i hi => ?_⟩
  rw [List.length_set] at hi
  have := h.2 i hi
  rw [le_least_cons] at this
  have := this.2 j (by rw [List.length_set]; exact hj)
  rw [set_comm' sh i j p q hi hj] at this
  exact this
theorem least_perm {l1 l2 : List Int} (h : l1.Perm l2) : ∀ sh, leastN l1 sh = leastN l2 sh := by
  induction h with
  | nil => intro sh; rfl
  | cons x _ ih => intro sh; simp only [leastN, ih]
  | swap x y l => intro sh; exact Int.le_antisymm (le_swap _ _ _ _ _ (Int.le_refl _)) (le_swap _ _ _ _ _ (Int.le_refl _))
  | trans _ _ ih1 ih2 => intro sh; rw [ih1, ih2]
theorem insL_perm (x : List Int) : ∀ l, (insL x l).Perm (x :: l)
  | [] => List.Perm.refl _
  | y :: l => by
    simp only [insL]; split
    · exact List.Perm.refl _
    · exact ((insL_perm x l).cons y).trans (List.Perm.swap ..)
theorem sortD_perm : ∀ l, (sortD l).Perm l
  | [] => List.Perm.refl _
  | x :: l => (insL_perm x (sortD l)).trans ((sortD_perm l).cons x)
theorem least_sort (g : List (List Int)) (sh : List Int) : least g sh = leastN (sizes (sortD g)) sh :=
  (least_perm ((sortD_perm g).map _) sh).symm
/-- The shares when the longest are given first. -/
def lpt (u : List Bool) : List Int → List Int → List Int
  | [], sh => sh
  | p :: ps, sh => lpt u ps (sh.set (pick u sh).toNat (sh.getD (pick u sh).toNat 0 + p))
theorem evFold_lpt (u : List Bool) : ∀ (l : List (List Int)) (s : List Int × List Int), (l.foldl (evStep u) s).2 = lpt u (sizes l) s.2
  | [], _ => rfl
  | x :: l, s => by rw [List.foldl_cons, evFold_lpt u l]; rfl
def cnt (c : Int) (l : List Int) : Nat := l.count c
theorem put_cnt (c h : Int) (hc : 0 ≤ c) : ∀ (x out : List Int), x.Nodup → inr out.length x = true → (∀ d ∈ x, out.getD d.toNat 0 = -1) → cnt c (put h x out) = cnt c out + (if c = h then x.length else 0)
  | [], out, _, _, _ => by simp [put]
  | d :: x, out, hn, hi, hm => by
    obtain ⟨n1, n2⟩ := List.nodup_cons.1 hn
    have hi' := inr_iff.1 hi
    have hd := hi' d (List.mem_cons_self ..)
    have hdm := hm d (List.mem_cons_self ..)
    have ih := put_cnt c h hc x (out.set d.toNat h) n2 (by rw [List.length_set]; exact inr_iff.2 fun z hz => hi' z (List.mem_cons_of_mem _ hz)) (fun z hz => by
      have hz' := hi' z (List.mem_cons_of_mem _ hz)
      have hne : d ≠ z := by rintro rfl; exact n1 hz
      rw [List.getD_eq_getElem?_getD, List.getElem?_set, if_neg (by omega), ← List.getD_eq_getElem?_getD]
      exact hm z (List.mem_cons_of_mem _ hz))
    show cnt c (put h x (out.set d.toNat h)) = _
    rw [ih]
    unfold cnt
    have hlt : d.toNat < out.length := by omega
    have hge : out[d.toNat] = -1 := by
      rw [List.getD_eq_getElem?_getD, List.getElem?_eq_getElem hlt] at hdm; exact hdm
    rw [List.count_set hlt, hge, List.length_cons]
    have e1 : ((-1 : Int) == c) = false := by simp; omega
    rw [e1]
    by_cases hch : c = h
    · subst hch; simp; omega
    · have e2 : (h == c) = false := by simp; exact fun e => hch e.symm
      rw [e2, if_neg hch, if_neg hch]; simp
theorem evFold_cnt {u : List Bool} (hf : 0 ≤ first u) (hu : u.length ≤ 6) : ∀ (l : List (List Int)) (s : List Int × List Int), l.flatten.Nodup → (∀ x ∈ l, inr s.1.length x = true) → (∀ x ∈ l, ∀ d ∈ x, s.1.getD d.toNat 0 = -1) → s.2.length = 6 →
    (∀ c : Nat, c < 6 → (cnt (c : Int) s.1 : Int) = s.2.getD c 0) → ∀ c : Nat, c < 6 → (cnt (c : Int) (l.foldl (evStep u) s).1 : Int) = (l.foldl (evStep u) s).2.getD c 0
  | [], s, _, _, _, _, h, c, hc => h c hc
  | x :: l, s, hn, hi, hm, hl, h, c, hc => by
    rw [List.flatten_cons] at hn
    obtain ⟨n1, n2, n3⟩ := List.nodup_append.1 hn
    have hp := pickTo_range (sh := s.2) hf u.length (Nat.le_refl _)
    change 0 ≤ pick u s.2 ∧ pick u s.2 < (u.length : Int) at hp
    rw [List.foldl_cons]
    have hix := hi x (List.mem_cons_self ..)
    refine evFold_cnt hf hu l (evStep u s x) n2 (fun y hy => ?_) (fun y hy d hd => ?_) ?_ (fun e he => ?_) c hc
    · simp only [evStep, put_len]; exact hi y (List.mem_cons_of_mem _ hy)
    · simp only [evStep]
      have hr := inr_iff.1 (hi y (List.mem_cons_of_mem _ hy)) d hd
      rw [put_get _ _ _ hix d hr.1 hr.2, if_neg (fun hdx => n3 d hdx d (List.mem_flatten.2 ⟨y, hy, hd⟩) rfl)]
      exact hm y (List.mem_cons_of_mem _ hy) d hd
    · simp only [evStep, List.length_set]; exact hl
    · simp only [evStep]
      have := put_cnt (e : Int) (pick u s.2) (by omega) x s.1 n1 hix (hm x (List.mem_cons_self ..))
      rw [this, List.getD_eq_getElem?_getD, List.getElem?_set]
      have h0 := h e he
      by_cases hep : (e : Int) = pick u s.2
      · have e2 : (pick u s.2).toNat = e := by omega
        rw [e2, if_pos hep, if_pos rfl, if_pos (by omega)]
        simp only [Option.getD_some]
        omega
      · rw [if_neg hep, if_neg (by omega), ← List.getD_eq_getElem?_getD]; omega
/-- What Even gives: its shares are those of the longest first. -/
theorem even_cnt {g : List (List Int)} {n : Nat} {u : List Bool} (he : (even g n u).2 = 0) (hg0 : 0 < g.length) (c : Nat) (hc : c < 6) :
    (cnt (c : Int) (even g n u).1 : Int) = (lpt u (sizes (sortD g)) (List.replicate 6 0)).getD c 0 := by
  unfold even at he ⊢
  split at he
  · simp at he
  rename_i hb
  split at he
  · simp at he
  rename_i hq
  rw [if_neg hb, if_neg hq, Int.toNat_natCast]
  have hv : valid g n [] u = true := by
    cases h : valid g n [] u with
    | true => rfl
    | false => exact absurd (.inr (.inr (by rw [Int.toNat_natCast]; exact h))) hb
  obtain ⟨hu, hg, _⟩ := valid_iff hv
  have hd : (sortD g).flatten.Nodup := by
    have h1 := valid_disj hv
    exact ((sortD_perm g).flatten.nodup_iff).2 h1
  have := evFold_cnt (u := u) (by omega) hu.2 (sortD g) (List.replicate n (-1), List.replicate 6 0) hd (fun x hx => by
    rw [sortD_mem] at hx; rw [List.length_replicate]; exact (hg x hx).1) (fun x hx d hdx => by
    rw [sortD_mem] at hx
    have hr := inr_iff.1 (hg x hx).1 d hdx
    rw [List.getD_eq_getElem?_getD, List.getElem?_replicate, if_pos (by omega)]; rfl) (by rw [List.length_replicate]) (fun e he => by
    show (cnt (e : Int) (List.replicate n (-1)) : Int) = (List.replicate 6 0).getD e 0
    unfold cnt
    rw [List.count_replicate, List.getD_eq_getElem?_getD, List.getElem?_replicate, if_pos he]
    have : ((-1 : Int) == (e : Int)) = false := by simp
    rw [this]; simp) c hc
  rw [this, evFold_lpt]
theorem pickTo_up (u : List Bool) (sh : List Int) : ∀ i, pickTo u sh i = first u ∨ (0 ≤ pickTo u sh i ∧ u.getD (pickTo u sh i).toNat false = true)
  | 0 => .inl rfl
  | i + 1 => by
    rw [pickTo_succ]
    split
    · rename_i h; right; exact ⟨by omega, by simpa using h.1⟩
    · exact pickTo_up u sh i
theorem pick_up {u : List Bool} (sh : List Int) (hf : 0 ≤ first u) : u.getD (pick u sh).toNat false = true := by
  rcases pickTo_up u sh u.length with h | h
  · show u.getD (pickTo u sh u.length).toNat false = true
    rw [h]; exact first_true hf
  · exact h.2
theorem lpt_down {u : List Bool} (hf : 0 ≤ first u) {c : Nat} (hc : u.getD c false = false) : ∀ (ps sh : List Int), (lpt u ps sh).getD c 0 = sh.getD c 0
  | [], _ => rfl
  | p :: ps, sh => by
    rw [lpt, lpt_down hf hc ps, List.getD_eq_getElem?_getD, List.getElem?_set, if_neg (fun e => by rw [← e, pick_up sh hf] at hc; cases hc), List.getD_eq_getElem?_getD]
theorem even_cnt' {g : List (List Int)} {n : Nat} {u : List Bool} (he : (even g n u).2 = 0) (c : Nat) (hc : c < 6) :
    (cnt (c : Int) (even g n u).1 : Int) = (lpt u (sizes (sortD g)) (List.replicate 6 0)).getD c 0 := by
  by_cases hg : 0 < g.length
  · exact even_cnt he hg c hc
  · have : g = [] := List.length_eq_zero_iff.1 (by omega)
    subst this
    unfold even at he ⊢
    split at he
    · simp at he
    rename_i hb
    rw [if_neg hb, if_neg (by simp)]
    show (cnt (c : Int) (List.replicate (Int.toNat n) (-1)) : Int) = (List.replicate 6 (0 : Int)).getD c 0
    unfold cnt
    rw [List.count_replicate, List.getD_eq_getElem?_getD, List.getElem?_replicate, if_pos hc]
    have : ((-1 : Int) == (c : Int)) = false := by simp
    rw [this]; simp
/-- The degrees of freedom of a host among the first i ones. -/
def ohTo (a : List Int) (h : Int) (i : Nat) : List Int := ((List.range i).filter fun d => decide (a.getD d 0 = h)).map fun (d : Nat) => (d : Int)
def ofHost (a : List Int) (h : Int) : List Int := ohTo a h a.length
theorem ohTo_succ (a : List Int) (h : Int) (i : Nat) : ohTo a h (i + 1) = ohTo a h i ++ (if a.getD i 0 = h then [(i : Int)] else []) := by
  unfold ohTo
  rw [List.range_succ, List.filter_append, List.map_append]
  congr 1
  by_cases hi : a.getD i 0 = h
  · rw [if_pos hi]; simp only [List.filter_cons, decide_eq_true hi, if_true, List.filter_nil, List.map_cons, List.map_nil]
  · rw [if_neg hi]; simp only [List.filter_cons, decide_eq_false hi, Bool.false_eq_true, if_false, List.filter_nil, List.map_nil]
theorem ohTo_len_le (a : List Int) (h : Int) (i : Nat) : (ohTo a h i).length ≤ i := by
  unfold ohTo
  rw [List.length_map]
  refine Nat.le_trans (List.length_filter_le _ _) (by simp)
theorem ofHost_len (a : List Int) (h : Int) : (ofHost a h).length = cnt h a := by
  have : ∀ i, i ≤ a.length → (ohTo a h i).length = cnt h (a.take i) := by
    intro i
    induction i with
    | zero => intro _; simp [ohTo, cnt]
    | succ i ih =>
      intro hi
      rw [ohTo_succ, List.length_append, ih (by omega), List.take_add_one, List.getElem?_eq_getElem (by omega)]
      unfold cnt
      rw [Option.toList_some, List.count_append, List.getD_eq_getElem?_getD, List.getElem?_eq_getElem (by omega)]
      simp only [Option.getD_some]
      by_cases hc : a[i] = h
      · rw [if_pos hc, hc]; simp
      · rw [if_neg hc]; simp [hc]
  unfold ofHost
  rw [this a.length (Nat.le_refl _), List.take_length]
/-- When least is called rightly, with D calls below it at most. -/
def leastOk (g : List (List Int)) (at_ : Int) (sh : List Int) (D : Nat) : Bool :=
  (((decide (0 ≤ at_) && decide (at_.toNat ≤ g.length)) && (decide (g.length - at_.toNat + sh.length + 1 ≤ D) && decide (g.length ≤ 100))) && (g.all fun x => decide (x.length ≤ 64))) &&
  ((sh.all fun s => decide (0 ≤ s) && decide (s ≤ 64 * at_)) && decide (sh.length ≤ 100))
theorem leastOk_iff {g : List (List Int)} {a : Int} {sh : List Int} {D : Nat} : leastOk g a sh D = true ↔
    0 ≤ a ∧ a.toNat ≤ g.length ∧ g.length - a.toNat + sh.length + 1 ≤ D ∧ g.length ≤ 100 ∧ (∀ x ∈ g, x.length ≤ 64) ∧ (∀ s ∈ sh, 0 ≤ s ∧ s ≤ 64 * a) ∧ sh.length ≤ 100 := by
  simp only [leastOk, Bool.and_eq_true, decide_eq_true_eq, List.all_eq_true]
  constructor
  · rintro ⟨⟨⟨⟨h1, h2⟩, h3, h4⟩, h5⟩, h6, h7⟩; exact ⟨h1, h2, h3, h4, h5, h6, h7⟩
  · rintro ⟨h1, h2, h3, h4, h5, h6, h7⟩; exact ⟨⟨⟨⟨h1, h2⟩, h3, h4⟩, h5⟩, h6, h7⟩
def minTo (ps sh : List Int) (p : Int) (i : Nat) : Int := (List.range i).foldl (fun b i => if leastN ps (sh.set i (sh.getD i 0 + p)) < b then leastN ps (sh.set i (sh.getD i 0 + p)) else b) 1048576
theorem minTo_succ (ps sh : List Int) (p : Int) (i : Nat) : minTo ps sh p (i + 1) = if leastN ps (sh.set i (sh.getD i 0 + p)) < minTo ps sh p i then leastN ps (sh.set i (sh.getD i 0 + p)) else minTo ps sh p i := by
  unfold minTo; rw [List.range_succ, List.foldl_append]; rfl
/-! The finite check. -/
def mn (a b : Nat) : Nat := cond (Nat.ble b a) b a
def mx (a b : Nat) : Nat := cond (Nat.ble b a) a b
def n1 : List Nat → Nat → Nat
  | [], a => a
  | p :: ps, a => mn 1048576 (n1 ps (a + p))
def n2 : List Nat → Nat → Nat → Nat
  | [], a, b => mx a b
  | p :: ps, a, b => mn (mn 1048576 (n2 ps (a + p) b)) (n2 ps a (b + p))
def n3 : List Nat → Nat → Nat → Nat → Nat
  | [], a, b, c => mx (mx a b) c
  | p :: ps, a, b, c => mn (mn (mn 1048576 (n3 ps (a + p) b c)) (n3 ps a (b + p) c)) (n3 ps a b (c + p))
theorem mn_eq (a b : Nat) : ((mn a b : Nat) : Int) = if (b : Int) < (a : Int) then (b : Int) else (a : Int) := by
  unfold mn
  cases h : Nat.ble b a with
  | true =>
    have := Nat.le_of_ble_eq_true h
    rw [cond_true]; split <;> omega
  | false =>
    have : ¬ b ≤ a := fun hc => by rw [Nat.ble_eq_true_of_le hc] at h; cases h
    rw [cond_false]; split <;> omega
theorem mx_eq (a b : Nat) : ((mx a b : Nat) : Int) = if (b : Int) > (a : Int) then (b : Int) else (a : Int) := by
  unfold mx
  cases h : Nat.ble b a with
  | true =>
    have := Nat.le_of_ble_eq_true h
    rw [cond_true]; split <;> omega
  | false =>
    have : ¬ b ≤ a := fun hc => by rw [Nat.ble_eq_true_of_le hc] at h; cases h
    rw [cond_false]; split <;> omega
def up (l : List Nat) : List Int := l.map fun (n : Nat) => (n : Int)
theorem r1 : List.range 1 = [0] := rfl
theorem r2 : List.range 2 = [0, 1] := rfl
theorem r3 : List.range 3 = [0, 1, 2] := rfl
theorem n1_eq : ∀ (ps : List Nat) (a : Nat), leastN (up ps) (up [a]) = ((n1 ps a : Nat) : Int)
  | [], a => by simp only [up, List.map_cons, List.map_nil, leastN, List.foldl_cons, List.foldl_nil, n1]; split <;> omega
  | p :: ps, a => by
    have h0 := n1_eq ps (a + p)
    simp only [up, List.map_cons, List.map_nil] at h0 ⊢
    simp only [leastN, List.length_cons, List.length_nil, Nat.zero_add, r1, List.foldl_cons, List.foldl_nil, List.set_cons_zero, List.getD_cons_zero, n1, mn_eq, ← Int.natCast_add]
    rw [h0]; rfl
theorem n2_eq : ∀ (ps : List Nat) (a b : Nat), leastN (up ps) (up [a, b]) = ((n2 ps a b : Nat) : Int)
  | [], a, b => by simp only [up, List.map_cons, List.map_nil, leastN, List.foldl_cons, List.foldl_nil, n2, mx_eq]; repeat' split; all_goals omega
  | p :: ps, a, b => by
    have h0 := n2_eq ps (a + p) b
    have h1 := n2_eq ps a (b + p)
    simp only [up, List.map_cons, List.map_nil] at h0 h1 ⊢
    simp only [leastN, List.length_cons, List.length_nil, Nat.zero_add, Nat.reduceAdd, r2, List.foldl_cons, List.foldl_nil, List.set_cons_zero, List.set_cons_succ, List.getD_cons_zero, List.getD_cons_succ, n2, mn_eq, ← Int.natCast_add]
    rw [h0, h1]; rfl
theorem n3_eq : ∀ (ps : List Nat) (a b c : Nat), leastN (up ps) (up [a, b, c]) = ((n3 ps a b c : Nat) : Int)
  | [], a, b, c => by simp only [up, List.map_cons, List.map_nil, leastN, List.foldl_cons, List.foldl_nil, n3, mx_eq]; repeat' split; all_goals omega
  | p :: ps, a, b, c => by
    have h0 := n3_eq ps (a + p) b c
    have h1 := n3_eq ps a (b + p) c
    have h2 := n3_eq ps a b (c + p)
    simp only [up, List.map_cons, List.map_nil] at h0 h1 h2 ⊢
    simp only [leastN, List.length_cons, List.length_nil, Nat.zero_add, Nat.reduceAdd, r3, List.foldl_cons, List.foldl_nil, List.set_cons_zero, List.set_cons_succ, List.getD_cons_zero, List.getD_cons_succ, n3, mn_eq, ← Int.natCast_add]
    rw [h0, h1, h2]; rfl
def least0 (ps : List Nat) : Nat → Nat
  | 1 => n1 ps 0
  | 2 => n2 ps 0 0
  | _ => n3 ps 0 0 0
/-- The greatest share is at most 4/3 of the least possible one, for hosts u. -/
def chk1 (u : List Bool) (ps : List Nat) (l : Nat) : Bool :=
  (List.range 3).all fun h => decide (3 * (lpt u (up ps) (List.replicate 6 0)).getD h 0 ≤ 4 * (l : Int))
def chk (ps : List Nat) : Bool :=
  (chk1 [true, true, true] ps (n3 ps 0 0 0) && ((fun l => chk1 [true, true, false] ps l && (chk1 [true, false, true] ps l && chk1 [false, true, true] ps l)) (n2 ps 0 0))) &&
  ((fun l => chk1 [true, false, false] ps l && (chk1 [false, true, false] ps l && chk1 [false, false, true] ps l)) (n1 ps 0))
/-- All lists, the greatest first, of at most c sizes from 1 to m, that are s at most in all. -/
def allP (f : List Nat → Bool) : Nat → List Nat → Nat → Nat → Bool
  | 0, pre, _, _ => f pre
  | c + 1, pre, m, s => f pre && (List.range (mn m s)).all fun q => allP f c (pre ++ [q + 1]) (q + 1) (s - (q + 1))
def sumN : List Nat → Nat
  | [] => 0
  | p :: ps => p + sumN ps
theorem allP_ok {f : List Nat → Bool} : ∀ (c : Nat) (pre : List Nat) (m s : Nat), allP f c pre m s = true → ∀ ps : List Nat, ps.length ≤ c → ps.Pairwise (fun a b => b ≤ a) → (∀ p ∈ ps, 1 ≤ p ∧ p ≤ m) → sumN ps ≤ s → f (pre ++ ps) = true
  | 0, pre, m, s, h, ps, hl, _, _, _ => by
    have : ps = [] := List.length_eq_zero_iff.1 (by omega)
    rw [this, List.append_nil]; exact h
  | c + 1, pre, m, s, h, [], _, _, _, _ => by
    rw [allP, Bool.and_eq_true] at h
    rw [List.append_nil]; exact h.1
  | c + 1, pre, m, s, h, p :: ps, hl, hd, hm, hs => by
    rw [allP, Bool.and_eq_true, List.all_eq_true] at h
    have hp := hm p (List.mem_cons_self ..)
    rw [sumN] at hs
    have hmn : p - 1 ∈ List.range (mn m s) := by
      rw [List.mem_range]
      have := mn_eq m s
      split at this <;> omega
    have h2 := h.2 _ hmn
    rw [show p - 1 + 1 = p by omega] at h2
    obtain ⟨d1, d2⟩ := List.pairwise_cons.1 hd
    have := allP_ok c (pre ++ [p]) p (s - p) h2 ps (by simpa using hl) d2 (fun q hq => ⟨(hm q (List.mem_cons_of_mem _ hq)).1, d1 q hq⟩) (by omega)
    rw [List.append_assoc] at this
    exact this
end Reg
end Go.Am
