/- Part of a proof about the functions of the given program. -/
import Derived.Test.YtgdibbphgdkllaaAmWf
import Derived.Shelf.SortM.Plain
import Derived.Shelf.SortM.SortNone
import Derived.Test.YtgdibbphgdkllaaAmReg3
set_option linter.unusedSimpArgs false
set_option linter.unusedVariables false
section
/- slices.Sort of integers in place: the kit's contract, as a contract of the machine's. -/
namespace Go.Am
open Go Go.Proofs Go.RowKit Go.Maps Go.Sort Go.Shelf
variable {P : Program} {w : World}
def sortI (l : List Int) : List Int := l.mergeSort fun x y => decide (x ≤ y)
theorem sortI_len (l : List Int) : (sortI l).length = l.length := List.length_mergeSort _
theorem sortI_perm (l : List Int) : (sortI l).Perm l := List.mergeSort_perm _ _
theorem Sim.below {U : Oth} {G : Nat → Option AV} {w0 : World} {W0 : Nat → Prop} {ρ : Rho} {s : St} {a : Act} {w' : World} (h : Sim U G w0 W0 ρ s a w) (hb : Below w.heap.size w w') : Sim U G w0 W0 ρ s a w' :=
  h.step (fun b hlt _ => hb.block b hlt) (fun b hb => .inl hb) (fun _ _ h => h) hb.size ⟨hb.os, hb.output, hb.tape⟩
    (fun id n r b hl => (h.bl id n r b hl).keep (fun b hlt _ => hb.block b hlt) (fun b hb => .inl hb) (fun _ _ h => h) hb.size (fun L _ hlt => hb.block _ hlt)) h.sep h.dom h.su
def runSort : List AV → List Blk → Option (Bool × AV × List Blk)
  | [.own 0 0 1], [.cells n (.rI .i64 xs) true] => some (decide (xs.length < 1073741824), .tup .nil, [.cells n (.rI .i64 (sortI xs)) true])
  | _, _ => none
theorem grow_below (w : World) (os : Array Obj) : Below w.heap.size w (grow w os) :=
  ⟨rfl, rfl, rfl, by simp, fun k hk => heap_grow_old w os hk⟩
theorem putRow_at {w : World} {b off : Nat} {d : Array Int} {c : Array Value} {t : TypeId} {fr : Nat × Nat} (hb : w.heap[b]? = some (.cells c t fr)) : (putRow (Value.int .i64) w b off d).heap[b]? = some (.cells (putCells (Value.int .i64) off d c) t fr) := by
  simp [putRow, mapBlock, Array.getElem?_modify, hb, onCells]
theorem putRow_other {w : World} {b off : Nat} {d : Array Int} {k : Nat} (hk : k ≠ b) : (putRow (Value.int .i64) w b off d).heap[k]? = w.heap[k]? := by
  simp [putRow, mapBlock, Array.getElem?_modify, Ne.symm hk]
theorem sort_ok {G : Nat → Option AV} {ρs : Ren} (Ly : SlLaysM.n5 P ρs) : CallOk P G (ρs.f 5) runSort where
  there := by
    obtain ⟨nm, h1, h2⟩ := Ly.f5
    exact ⟨_, h2, h1, rfl⟩
  does := by
    intro A H r H' hr U w ρ args hU hs hA
    unfold runSort at hr
    split at hr <;> try contradiction
    rename_i n xs
    simp only [Option.some.injEq, Prod.mk.injEq, decide_eq_true_eq] at hr
    obtain ⟨hp, rfl, rfl⟩ := hr
    match args, hA with
    | ⟨[x]⟩, hA =>
      have hx : Rep w (Wr U ρ (tagH 0 [.cells n (.rI .i64 xs) true])) ρ (.own 0 0 1) x := hA.1
      have b0 := hs.bl 0 n (.rI .i64 xs) true rfl
      have hsz : xs.length = n := b0.size
      cases hx with
      | own0 _ _ a hl =>
        have hn : n = 0 := by
          rcases b0.lies with ⟨_, h2⟩ | ⟨L, h1, _⟩
          · exact h2
          · rw [hl] at h1; cases h1
        have hxs : xs = [] := List.eq_nil_of_length_eq_zero (by omega)
        subst hxs
        refine (AnyM.slices_Sort_int_none Ly a 0 w).mono ?_
        rintro e w' ⟨rfl, rfl⟩
        refine ⟨_, ρ, rfl, ?_, .tup .nil #[] rfl (fun j hj => by cases hj)⟩
        have e : sortI [] = [] := by simp [sortI]
        rw [e]; exact hs
      | own _ _ _ l cap L hL hn hk hcap hS h0 hm =>
        obtain ⟨q1, q2, q3, q4⟩ : L.n = n ∧ (∀ j, j < n → ∃ v, w.cell? ⟨L.b, L.base + j, none⟩ = some v ∧ Rep w (Wr U ρ (hst [.cells n (.rI .i64 xs) true]).heap) ρ ((AV.rI .i64 xs).cell j) v) ∧ Mine w L ∧ L.b < w.heap.size := by
          rcases b0.lies with ⟨h1, _⟩ | ⟨L', h1, h2, h3, h4, h5⟩
          · rw [h1] at hL; cases hL
          · rw [h1] at hL; cases hL; exact ⟨h2, h3, h4 rfl rfl, h5⟩
        have hl : l = xs.length := by omega
        subst hl
        obtain ⟨c, t, fr, m1, m2, m3, m4⟩ := q3
        have hcell : ∀ j, j < xs.length → w.cell? ⟨L.b, L.base + j, none⟩ = some (.int .i64 (xs.getD j 0)) := fun j hj => by
          obtain ⟨v, g1, g2⟩ := q2 j (by omega)
          have g3 : Rep w (Wr U ρ (hst [.cells n (.rI .i64 xs) true]).heap) ρ (.int .i64 (xs.getD j 0)) v := g2
          cases g3; exact g1
        have hhas : ∀ x ∈ xs, IntKind.i64.has x := fun x hx => by
          obtain ⟨j, hj, rfl⟩ := List.mem_iff_getElem.1 hx
          obtain ⟨v, g1, g2⟩ := q2 j (by omega)
          have g3 : Rep w (Wr U ρ (hst [.cells n (.rI .i64 xs) true]).heap) ρ (.int .i64 (xs.getD j 0)) v := g2
          cases g3 with | int _ _ h => rw [List.getD_eq_getElem?_getD, List.getElem?_eq_getElem hj] at h; exact h
        have hH : Holds (Value.int .i64) w L.b L.base xs.toArray := fun j hj => by
          have hj' : j < xs.length := by simpa using hj
          refine ⟨?_, ?_⟩
          · rw [hcell j hj', List.getD_eq_getElem?_getD, List.getElem?_eq_getElem hj']
            simp [hj']
          · have := m4 (L.base + j) (by have := m3.2; omega)
            exact this
        refine (AnyM.slices_Sort_int Ly L.b L.base cap xs w hH q4 hm).mono ?_
        rintro e w' ⟨rfl, k, os, rfl⟩
        have hlen : (sortI xs).length = n := by rw [sortI_len]; exact hsz
        have hA0 : Holds (Value.int .i64) (Go.Sort.ahead w k) L.b L.base xs.toArray := hH
        have hR := hs.rewrite (id := 0) (n := n) (r := .rI .i64 xs) (r' := .rI .i64 (sortI xs)) (L := L) (w' := putRow (Value.int .i64) (Go.Sort.ahead w k) L.b L.base (sortI xs).toArray) rfl hL ⟨rfl, rfl, rfl⟩ trivial hlen (by rw [size_putRow]; rfl)
          (fun b hb => by rw [putRow_other hb]; rfl)
          (by
            refine ⟨_, t, fr, putRow_at (c := c) m1, ⟨?_, m2.2⟩, m3, fun j hj => ?_⟩
            · simp only [putCells, Array.size_mapIdx]; exact m2.1
            · rw [frozen?_putRow]; exact m4 j hj)
          (fun j hj => by
            refine ⟨.int .i64 ((sortI xs).getD j 0), ?_, ?_⟩
            · have := cell?_putRow (Value.int .i64) (Go.Sort.ahead w k) L.b L.base xs.toArray (sortI xs).toArray hA0 (by simp [sortI_len]) j (by simp; omega)
              rw [this, List.getD_eq_getElem?_getD, List.getElem?_eq_getElem (by omega)]
              simp [show j < (sortI xs).length by omega]
            · refine .int .i64 _ (hhas _ ((sortI_perm xs).mem_iff.1 ?_))
              rw [List.getD_eq_getElem?_getD, List.getElem?_eq_getElem (by omega)]
              exact List.getElem_mem _)
          (fun t ht => by cases ht)
        have hG := hR.1.below (grow_below _ os)
        refine ⟨_, ρ, rfl, ?_, .tup .nil #[] rfl (fun j hj => by cases hj)⟩
        refine Sim.eqv (V := { T := [], G := G, E := fun _ => none }) hG ⟨fun d => rfl, fun i => ?_, fun i => ?_, rfl, rfl, rfl⟩
        · cases i <;> rfl
        · cases i <;> rfl
end Go.Am
end
section
/- Plain laws for the regions: moves, shares and needed hosts. -/
namespace Go.Am.Reg
open Go Go.Am
def shares (o : List Int) (n : Int) : List (List Int) := (List.range (min n.toNat 6)).map fun (h : Nat) => ofHost o (h : Int)
def mvAt (a b : List Int) (d : Nat) : List Int := if a.getD d 0 = b.getD d 0 then [] else [(d : Int), a.getD d 0, b.getD d 0]
def mvTo (a b : List Int) (i : Nat) : List Int := (List.range i).flatMap (mvAt a b)
def mvN (a b : List Int) (i : Nat) : Nat := ((List.range i).filter fun d => !(decide (a.getD d 0 = b.getD d 0))).length
def moves (a b : List Int) : List Int := mvTo a b (min a.length b.length)
def movesN (a b : List Int) : Nat := mvN a b (min a.length b.length)
theorem mvTo_succ (a b : List Int) (i : Nat) : mvTo a b (i + 1) = mvTo a b i ++ mvAt a b i := by
  unfold mvTo; rw [List.range_succ, List.flatMap_append]; simp
theorem mvN_succ (a b : List Int) (i : Nat) : mvN a b (i + 1) = mvN a b i + (if a.getD i 0 = b.getD i 0 then 0 else 1) := by
  unfold mvN; rw [List.range_succ, List.filter_append, List.length_append]
  congr 1
  by_cases h : a.getD i 0 = b.getD i 0
  · rw [if_pos h]; simp only [List.filter_cons, decide_eq_true h, Bool.not_true, Bool.false_eq_true, if_false, List.filter_nil, List.length_nil]
  · rw [if_neg h]; simp only [List.filter_cons, decide_eq_false h, Bool.not_false, if_true, List.filter_nil, List.length_cons, List.length_nil]
theorem mvN_le (a b : List Int) (i : Nat) : mvN a b i ≤ i := by
  unfold mvN; exact Nat.le_trans (List.length_filter_le _ _) (by simp)
theorem mv_len (a b : List Int) (i : Nat) : (mvTo a b i).length = mvN a b i * 3 := by
  induction i with
  | zero => rfl
  | succ i ih =>
    rw [mvTo_succ, mvN_succ, List.length_append, ih, mvAt]
    by_cases h : a.getD i 0 = b.getD i 0
    · rw [if_pos h, if_pos h]; rfl
    · rw [if_neg h, if_neg h]; simp only [List.length_cons, List.length_nil]; omega
def compact : List Int → List Int
  | [] => []
  | [x] => [x]
  | x :: y :: l => if x = y then compact (y :: l) else x :: compact (y :: l)
def compactZ (l : List Int) : List Int := compact l ++ List.replicate (l.length - (compact l).length) 0
def owned (g o : List Int) : List Int := (g.filter fun d => decide (0 ≤ d) && (decide (d < (o.length : Int)) && decide (0 ≤ o.getD d.toNat 0))).map fun d => o.getD d.toNat 0
def need (g o : List Int) : List Int := compact (sortI (owned g o))
theorem chunks3 {a b : List Int} {n : Nat} (ha : a.length = n * 3) (hb : b.length = n * 3) (h : ∀ i, i < n → (a.drop (i * 3)).take 3 = (b.drop (i * 3)).take 3) : a = b := by
  apply List.ext_getElem?
  intro j
  by_cases hj : j < n * 3
  · have := congrArg (fun l => l[j % 3]?) (h (j / 3) (by omega))
    simp only [List.getElem?_take, List.getElem?_drop] at this
    rw [if_pos (by omega), if_pos (by omega), show j / 3 * 3 + j % 3 = j by omega] at this
    exact this
  · rw [List.getElem?_eq_none (by omega), List.getElem?_eq_none (by omega)]
theorem owned_le (g o : List Int) : (owned g o).length ≤ g.length := by
  unfold owned; rw [List.length_map]; exact List.length_filter_le _ _
theorem take_snoc {g : List Int} {i : Nat} (hi : i < g.length) : g.take (i + 1) = g.take i ++ [g.getD i 0] := by
  rw [List.take_add_one, List.getElem?_eq_getElem hi, List.getD_eq_getElem?_getD, List.getElem?_eq_getElem hi]; rfl
theorem owned_succ {g : List Int} (o : List Int) {i : Nat} (hi : i < g.length) : owned (g.take (i + 1)) o = owned (g.take i) o ++ (if g.getD i 0 ≥ 0 ∧ g.getD i 0 < (o.length : Int) ∧ o.getD (g.getD i 0).toNat 0 ≥ 0 then [o.getD (g.getD i 0).toNat 0] else []) := by
  rw [take_snoc hi]
  generalize g.getD i 0 = d
  unfold owned
  rw [List.filter_append, List.map_append]
  congr 1
  by_cases h : d ≥ 0 ∧ d < (o.length : Int) ∧ o.getD d.toNat 0 ≥ 0
  · rw [if_pos h]
    have e : (decide (0 ≤ d) && (decide (d < (o.length : Int)) && decide (0 ≤ o.getD d.toNat 0))) = true := by simp only [Bool.and_eq_true, decide_eq_true_eq]; exact h
    simp only [List.filter_cons, e, if_true, List.filter_nil, List.map_cons, List.map_nil]
  · rw [if_neg h]
    have e : (decide (0 ≤ d) && (decide (d < (o.length : Int)) && decide (0 ≤ o.getD d.toNat 0))) = false := by
      rw [Bool.eq_false_iff]; intro h'; simp only [Bool.and_eq_true, decide_eq_true_eq] at h'; exact h h'
    simp only [List.filter_cons, e, Bool.false_eq_true, if_false, List.filter_nil, List.map_nil]
theorem mem_compact {x : Int} : ∀ {l : List Int}, x ∈ compact l ↔ x ∈ l
  | [] => Iff.rfl
  | [_] => Iff.rfl
  | a :: b :: l => by
    have ih := mem_compact (x := x) (l := b :: l)
    by_cases h : a = b
    · subst h
      rw [compact, if_pos rfl, ih]; simp
    · rw [compact, if_neg h, List.mem_cons, ih, List.mem_cons (a := x) (b := a)]
theorem compact_lt : ∀ {l : List Int}, l.Pairwise (· ≤ ·) → (compact l).Pairwise (· < ·)
  | [], _ => .nil
  | [_], _ => List.pairwise_singleton _ _
  | a :: b :: l, h => by
    obtain ⟨h1, h2⟩ := List.pairwise_cons.1 h
    by_cases hab : a = b
    · rw [compact, if_pos hab]; exact compact_lt h2
    · rw [compact, if_neg hab]
      refine List.pairwise_cons.2 ⟨fun x hx => ?_, compact_lt h2⟩
      have hx' := mem_compact.1 hx
      have hb := h1 b (by simp)
      rcases List.mem_cons.1 hx' with rfl | hx''
      · omega
      · have := (List.pairwise_cons.1 h2).1 x hx''
        omega
theorem lt_unique : ∀ {a b : List Int}, a.Pairwise (· < ·) → b.Pairwise (· < ·) → (∀ x, x ∈ a ↔ x ∈ b) → a = b
  | [], [], _, _, _ => rfl
  | [], y :: b, _, _, h => absurd ((h y).2 (by simp)) (by simp)
  | x :: a, [], _, _, h => absurd ((h x).1 (by simp)) (by simp)
  | x :: a, y :: b, ha, hb, h => by
    obtain ⟨a1, a2⟩ := List.pairwise_cons.1 ha
    obtain ⟨b1, b2⟩ := List.pairwise_cons.1 hb
    have e : x = y := by
      have p := (h x).1 (by simp)
      have q := (h y).2 (by simp)
      rcases List.mem_cons.1 p with p | p
      · exact p
      rcases List.mem_cons.1 q with q | q
      · exact q.symm
      have := b1 x p
      have := a1 y q
      omega
    subst e
    congr 1
    refine lt_unique a2 b2 fun z => ?_
    have hz := h z
    simp only [List.mem_cons] at hz
    constructor
    · intro hz1
      rcases hz.1 (.inr hz1) with e | e
      · have := a1 z hz1; omega
      · exact e
    · intro hz1
      rcases hz.2 (.inr hz1) with e | e
      · have := b1 z hz1; omega
      · exact e
theorem sortI_le (l : List Int) : (sortI l).Pairwise (· ≤ ·) := by
  have := List.pairwise_mergeSort (le := fun (x y : Int) => decide (x ≤ y)) (fun a b c h1 h2 => by simp only [decide_eq_true_eq] at *; omega) (fun a b => by simp only [Bool.or_eq_true, decide_eq_true_eq]; omega) l
  exact this.imp fun h => by simpa using h
theorem need_lt (g o : List Int) : (need g o).Pairwise (· < ·) := compact_lt (sortI_le _)
theorem mem_need {g o : List Int} {x : Int} : x ∈ need g o ↔ x ∈ owned g o := by
  unfold need; rw [mem_compact]; exact (sortI_perm _).mem_iff
theorem compact_len : ∀ (l : List Int), (compact l).length ≤ l.length
  | [] => Nat.le_refl _
  | [_] => Nat.le_refl _
  | a :: b :: l => by
    have ih := compact_len (b :: l)
    by_cases h : a = b
    · rw [compact, if_pos h]; simp only [List.length_cons] at *; omega
    · rw [compact, if_neg h]; simp only [List.length_cons] at *; omega
theorem need_len (g o : List Int) : (need g o).length ≤ g.length := by
  unfold need
  exact Nat.le_trans (compact_len _) (by rw [sortI_len]; exact owned_le g o)
theorem ins_at {L : List Int} (hL : L.Pairwise (· < ·)) {x : Int} {k : Nat} (hk : k ≤ L.length) (h1 : ∀ j, j < k → L.getD j 0 < x) (h2 : k < L.length → x < L.getD k 0) : (L.take k ++ [x] ++ L.drop k).Pairwise (· < ·) := by
  have hd : L = L.take k ++ L.drop k := (List.take_append_drop k L).symm
  rw [hd] at hL
  obtain ⟨p1, p2, p3⟩ := List.pairwise_append.1 hL
  have ht : ∀ a ∈ L.take k, a < x := fun a ha => by
    obtain ⟨j, hj, rfl⟩ := List.mem_iff_getElem.1 ha
    rw [List.length_take] at hj
    have := h1 j (by omega)
    rw [List.getD_eq_getElem?_getD, List.getElem?_eq_getElem (by omega)] at this
    rw [List.getElem_take]; exact this
  have hdr : ∀ b ∈ L.drop k, x < b := fun b hb => by
    cases hdk : L.drop k with
    | nil => rw [hdk] at hb; cases hb
    | cons y t =>
      have hlen : k < L.length := by
        have := congrArg List.length hdk
        rw [List.length_drop, List.length_cons] at this; omega
      have hy : L.getD k 0 = y := by
        have e : (L.drop k)[0]? = some y := by rw [hdk]; rfl
        rw [List.getElem?_drop, Nat.add_zero] at e
        rw [List.getD_eq_getElem?_getD, e]; rfl
      have hxy := h2 hlen
      rw [hy] at hxy
      rw [hdk] at hb p2
      rcases List.mem_cons.1 hb with rfl | hb
      · exact hxy
      · have := (List.pairwise_cons.1 p2).1 b hb
        omega
  refine List.pairwise_append.2 ⟨List.pairwise_append.2 ⟨p1, List.pairwise_singleton _ _, fun a ha b hb => ?_⟩, p2, fun a ha b hb => ?_⟩
  · rw [List.mem_singleton.1 hb]; exact ht a ha
  · rcases List.mem_append.1 ha with ha | ha
    · have := ht a ha; have := hdr b hb; omega
    · rw [List.mem_singleton.1 ha]; exact hdr b hb
theorem need_skip {g o : List Int} {i : Nat} (hi : i < g.length) (h : ¬ (g.getD i 0 ≥ 0 ∧ g.getD i 0 < (o.length : Int) ∧ o.getD (g.getD i 0).toNat 0 ≥ 0)) : need (g.take (i + 1)) o = need (g.take i) o := by
  unfold need; rw [owned_succ o hi, if_neg h, List.append_nil]
theorem need_mem {g o : List Int} {i : Nat} (hi : i < g.length) (h : g.getD i 0 ≥ 0 ∧ g.getD i 0 < (o.length : Int) ∧ o.getD (g.getD i 0).toNat 0 ≥ 0) {x : Int} : x ∈ need (g.take (i + 1)) o ↔ x ∈ need (g.take i) o ∨ x = o.getD (g.getD i 0).toNat 0 := by
  rw [mem_need, mem_need, owned_succ o hi, if_pos h, List.mem_append, List.mem_singleton]
theorem need_there {g o : List Int} {i k : Nat} (hi : i < g.length) (h : g.getD i 0 ≥ 0 ∧ g.getD i 0 < (o.length : Int) ∧ o.getD (g.getD i 0).toNat 0 ≥ 0) (hk : k < (need (g.take i) o).length)
    (he : (need (g.take i) o).getD k 0 = o.getD (g.getD i 0).toNat 0) : need (g.take (i + 1)) o = need (g.take i) o := by
  refine lt_unique (need_lt _ _) (need_lt _ _) fun x => ?_
  rw [need_mem hi h]
  refine ⟨fun hx => hx.elim id fun hx => ?_, .inl⟩
  rw [hx, ← he, List.getD_eq_getElem?_getD, List.getElem?_eq_getElem hk]
  exact List.getElem_mem _
theorem need_new {g o : List Int} {i k : Nat} (hi : i < g.length) (h : g.getD i 0 ≥ 0 ∧ g.getD i 0 < (o.length : Int) ∧ o.getD (g.getD i 0).toNat 0 ≥ 0) (hk : k ≤ (need (g.take i) o).length)
    (h1 : ∀ j, j < k → (need (g.take i) o).getD j 0 < o.getD (g.getD i 0).toNat 0) (h2 : k < (need (g.take i) o).length → o.getD (g.getD i 0).toNat 0 < (need (g.take i) o).getD k 0) :
    need (g.take (i + 1)) o = (need (g.take i) o).take k ++ [o.getD (g.getD i 0).toNat 0] ++ (need (g.take i) o).drop k := by
  refine lt_unique (need_lt _ _) (ins_at (need_lt _ _) hk h1 h2) fun x => ?_
  rw [need_mem hi h]
  have e : x ∈ need (g.take i) o ↔ x ∈ (need (g.take i) o).take k ∨ x ∈ (need (g.take i) o).drop k := by
    rw [← List.mem_append, List.take_append_drop]
  rw [e]
  simp only [List.mem_append, List.mem_singleton]
  constructor
  · rintro ((a | b) | c)
    · exact .inl (.inl a)
    · exact .inr b
    · exact .inl (.inr c)
  · rintro ((a | b) | c)
    · exact .inl (.inl a)
    · exact .inr b
    · exact .inl (.inr c)
theorem compact_snoc (x : Int) : ∀ (l : List Int) (y : Int), compact (l ++ [y] ++ [x]) = compact (l ++ [y]) ++ (if x = y then [] else [x])
  | [], y => by
    show compact [y, x] = _
    by_cases h : x = y
    · subst h; rw [if_pos rfl, compact, if_pos rfl]; rfl
    · rw [if_neg h, compact, if_neg (Ne.symm h)]; rfl
  | z :: l, y => by
    have ih := compact_snoc x l y
    have key : ∀ (w : Int) (t u : List Int), compact (w :: t ++ [x]) = compact (w :: t) ++ u → compact (z :: (w :: t) ++ [x]) = compact (z :: w :: t) ++ u := fun w t u h => by
      show compact (z :: w :: (t ++ [x])) = _
      rw [compact, compact]
      have h' : compact (w :: (t ++ [x])) = compact (w :: t) ++ u := h
      by_cases hz : z = w
      · rw [if_pos hz, if_pos hz, h']
      · rw [if_neg hz, if_neg hz, h']; rfl
    cases l with
    | nil => exact key y [] _ ih
    | cons w l => exact key w (l ++ [y]) _ ih
theorem compact_take {a : List Int} {i : Nat} (h0 : 0 < i) (hi : i < a.length) : compact (a.take (i + 1)) = compact (a.take i) ++ (if a.getD i 0 = a.getD (i - 1) 0 then [] else [a.getD i 0]) := by
  obtain ⟨j, rfl⟩ : ∃ j, i = j + 1 := ⟨i - 1, by omega⟩
  rw [take_snoc hi, take_snoc (show j < a.length by omega), compact_snoc]; rfl
theorem compactZ_of {l x : List Int} {t : Nat} (hx : x.length = l.length) (ht : t = (compact l).length) (hp : x.take t = compact l) :
    x.take t ++ ((List.replicate (x.length - t) (0 : Int)).take (min (x.length - t) (x.length - t))) ++ x.drop (t + (min (x.length - t) (x.length - t))) = compactZ l := by
  have hle := compact_len l
  rw [hp, Nat.min_self, List.take_of_length_le (by simp), List.drop_of_length_le (by omega), List.append_nil, compactZ, hx, ht]
theorem compactZ_take {l : List Int} {t : Nat} (ht : t = (compact l).length) : (compactZ l).take t = compact l := by
  rw [compactZ, ht, List.take_left']; rfl
theorem compactZ_self {l : List Int} (h : compact l = l) : compactZ l = l := by
  rw [compactZ, h, Nat.sub_self]; simp
theorem compactZ_len (l : List Int) : (compactZ l).length = l.length := by
  have := compact_len l
  rw [compactZ, List.length_append, List.length_replicate]; omega
def dL (a b : List Int) : List Nat := (List.range (min a.length b.length)).filter fun d => !(decide (a.getD d 0 = b.getD d 0))
theorem mvTo_eq (a b : List Int) (i : Nat) : mvTo a b i = ((List.range i).filter fun d => !(decide (a.getD d 0 = b.getD d 0))).flatMap fun (d : Nat) => [(d : Int), a.getD d 0, b.getD d 0] := by
  induction i with
  | zero => rfl
  | succ i ih =>
    rw [mvTo_succ, ih, List.range_succ, List.filter_append, List.flatMap_append]
    congr 1
    by_cases h : a.getD i 0 = b.getD i 0
    · rw [mvAt, if_pos h]; simp only [List.filter_cons, decide_eq_true h, Bool.not_true, Bool.false_eq_true, if_false, List.filter_nil, List.flatMap_nil]
    · rw [mvAt, if_neg h]; simp only [List.filter_cons, decide_eq_false h, Bool.not_false, if_true, List.filter_nil, List.flatMap_cons, List.flatMap_nil, List.append_nil]
theorem flat3 (f : Nat → List Int) (hf : ∀ d, (f d).length = 3) : ∀ (l : List Nat) (i c : Nat), i < l.length → c < 3 → (l.flatMap f).getD (c + i * 3) 0 = (f (l.getD i 0)).getD c 0
  | [], _, _, h, _ => by simp at h
  | d :: l, 0, c, _, hc => by
    rw [List.flatMap_cons, List.getD_eq_getElem?_getD, List.getElem?_append_left (by rw [hf]; omega), ← List.getD_eq_getElem?_getD]; rfl
  | d :: l, i + 1, c, h, hc => by
    rw [List.flatMap_cons, List.getD_eq_getElem?_getD, List.getElem?_append_right (by rw [hf]; omega), ← List.getD_eq_getElem?_getD, hf, show c + (i + 1) * 3 - 3 = c + i * 3 by omega, flat3 f hf l i c (by simpa using h) hc]; rfl
theorem moves_at {a b : List Int} {i : Nat} (hi : i < movesN a b) : (moves a b).getD (0 + i * 3) 0 = ((dL a b).getD i 0 : Int) ∧ (moves a b).getD (1 + i * 3) 0 = a.getD ((dL a b).getD i 0) 0 ∧ (moves a b).getD (2 + i * 3) 0 = b.getD ((dL a b).getD i 0) 0 := by
  have e : moves a b = (dL a b).flatMap fun (d : Nat) => [(d : Int), a.getD d 0, b.getD d 0] := mvTo_eq a b _
  have hi' : i < (dL a b).length := hi
  rw [e]
  refine ⟨?_, ?_, ?_⟩ <;> rw [flat3 _ (fun _ => rfl) _ _ _ hi' (by omega)] <;> rfl
theorem dL_nodup (a b : List Int) : (dL a b).Nodup := List.nodup_range.filter _
theorem mem_dL {a b : List Int} {d : Nat} : d ∈ dL a b ↔ d < min a.length b.length ∧ a.getD d 0 ≠ b.getD d 0 := by
  unfold dL; rw [List.mem_filter, List.mem_range]; simp
def zOk (a b : List Int) (i : Nat) (z : List Int) : Prop := z.length = a.length ∧ ∀ j, j < a.length → z.getD j 0 = if j ∈ (dL a b).take i then b.getD j 0 else a.getD j 0
theorem zOk_zero (a b : List Int) : zOk a b 0 a := ⟨rfl, fun j _ => by rw [List.take_zero, if_neg (by simp)]⟩
theorem dL_at {a b : List Int} {i : Nat} (hi : i < movesN a b) : (dL a b).getD i 0 ∈ dL a b ∧ (dL a b).getD i 0 ∉ (dL a b).take i ∧ (dL a b).take (i + 1) = (dL a b).take i ++ [(dL a b).getD i 0] := by
  have hi' : i < (dL a b).length := hi
  have e : (dL a b).getD i 0 = (dL a b)[i] := by rw [List.getD_eq_getElem?_getD, List.getElem?_eq_getElem hi']; rfl
  have e1 : (dL a b).take (i + 1) = (dL a b).take i ++ [(dL a b).getD i 0] := by
    rw [List.take_add_one, List.getElem?_eq_getElem hi', e]; rfl
  refine ⟨by rw [e]; exact List.getElem_mem _, fun hm => ?_, e1⟩
  have hn : ((dL a b).take (i + 1)).Nodup := (dL_nodup a b).sublist (List.take_sublist _ _)
  rw [e1] at hn
  exact (List.nodup_append.1 hn).2.2 _ hm _ (by simp) rfl
theorem zOk_at {a b z : List Int} {i : Nat} (h : zOk a b i z) (hi : i < movesN a b) : (dL a b).getD i 0 < a.length ∧ (dL a b).getD i 0 < b.length ∧ z.getD ((dL a b).getD i 0) 0 = a.getD ((dL a b).getD i 0) 0 := by
  obtain ⟨h1, h2, _⟩ := dL_at hi
  have h3 := (mem_dL.1 h1).1
  exact ⟨by omega, by omega, by rw [h.2 _ (by omega), if_neg h2]⟩
theorem zOk_succ {a b z : List Int} {i : Nat} (h : zOk a b i z) (hi : i < movesN a b) : zOk a b (i + 1) (z.set ((dL a b).getD i 0) (b.getD ((dL a b).getD i 0) 0)) := by
  obtain ⟨h1, h2, h3⟩ := dL_at hi
  have h4 := (mem_dL.1 h1).1
  refine ⟨by rw [List.length_set]; exact h.1, fun j hj => ?_⟩
  rw [h3]
  have hz := h.1
  by_cases hjd : j = (dL a b).getD i 0
  · rw [if_pos (by rw [hjd]; simp), hjd, List.getD_eq_getElem?_getD, List.getElem?_set_self (by omega)]; rfl
  · rw [List.getD_eq_getElem?_getD, List.getElem?_set_ne (fun e => hjd e.symm), ← List.getD_eq_getElem?_getD, h.2 j hj]
    have e : (j ∈ (dL a b).take i ++ [(dL a b).getD i 0]) ↔ j ∈ (dL a b).take i := by
      rw [List.mem_append, List.mem_singleton]
      exact ⟨fun h => h.elim id fun h => absurd h hjd, .inl⟩
    by_cases hm : j ∈ (dL a b).take i
    · rw [if_pos hm, if_pos (e.2 hm)]
    · rw [if_neg hm, if_neg (fun h => hm (e.1 h))]
theorem zOk_end {a b z : List Int} (h : zOk a b (movesN a b) z) : z.length = a.length ∧ (∀ j, j < a.length → j < b.length → z.getD j 0 = b.getD j 0) ∧ ∀ j, j < a.length → ¬ j < b.length → z.getD j 0 = a.getD j 0 := by
  have e : (dL a b).take (movesN a b) = dL a b := List.take_length
  refine ⟨h.1, fun j hj hjb => ?_, fun j hj hjb => ?_⟩
  · rw [h.2 j hj, e]
    by_cases hm : j ∈ dL a b
    · rw [if_pos hm]
    · rw [if_neg hm]
      by_cases hab : a.getD j 0 = b.getD j 0
      · exact hab
      · exact absurd (mem_dL.2 ⟨by omega, hab⟩) hm
  · rw [h.2 j hj, e, if_neg (fun hm => by have := (mem_dL.1 hm).1; omega)]
def cntTo (sh : List (List Int)) (d : Int) (h : Nat) : Nat := ((sh.take h).map (List.count d)).sum
theorem cntTo_succ {sh : List (List Int)} {d : Int} {h : Nat} (hh : h < sh.length) : cntTo sh d (h + 1) = cntTo sh d h + (sh.getD h []).count d := by
  unfold cntTo
  rw [List.take_add_one, List.getElem?_eq_getElem hh, List.getD_eq_getElem?_getD, List.getElem?_eq_getElem hh]
  simp only [Option.toList_some, List.map_append, List.map_cons, List.map_nil, List.sum_append, List.sum_cons, List.sum_nil, Nat.add_zero, Option.getD_some]
theorem cntTo_le (sh : List (List Int)) (d : Int) (h : Nat) (hl : ∀ l ∈ sh, l.length ≤ 40) : cntTo sh d h ≤ 40 * h := by
  induction h with
  | zero => simp [cntTo]
  | succ h ih =>
    by_cases hh : h < sh.length
    · rw [cntTo_succ hh]
      have h1 : (sh.getD h []).length ≤ 40 := hl _ (by rw [List.getD_eq_getElem?_getD, List.getElem?_eq_getElem hh]; exact List.getElem_mem _)
      have h2 : (sh.getD h []).count d ≤ (sh.getD h []).length := List.count_le_length
      omega
    · have e : cntTo sh d (h + 1) = cntTo sh d h := by
        unfold cntTo; rw [List.take_of_length_le (by omega), List.take_of_length_le (l := sh) (i := h) (by omega)]
      omega
theorem count_snoc {l : List Int} (d : Int) {j : Nat} (hj : j < l.length) : (l.take (j + 1)).count d = (l.take j).count d + (if l.getD j 0 = d then 1 else 0) := by
  rw [take_snoc hj, List.count_append]
  congr 1
  by_cases h : l.getD j 0 = d
  · rw [if_pos h, h]; simp
  · rw [if_neg h]; simp only [List.count_cons, List.count_nil, beq_iff_eq, h, if_false]
theorem shares_len (x : List Int) (n : Int) : (shares x n).length = min n.toNat 6 := by unfold shares; simp
theorem share_len' {x : List Int} {n : Int} {l : List Int} (hl : l ∈ shares x n) (hx : x.length ≤ 40) : l.length ≤ 40 := by
  obtain ⟨h, _, rfl⟩ := List.mem_map.1 hl
  have := ohTo_len_le x (h : Int) x.length
  unfold ofHost; omega
theorem share_len {x : List Int} {n : Int} {h : Nat} (hh : h < (shares x n).length) (hx : x.length ≤ 40) : ((shares x n).getD h []).length ≤ 40 :=
  share_len' (by rw [List.getD_eq_getElem?_getD, List.getElem?_eq_getElem hh]; exact List.getElem_mem _) hx
theorem count_ofHost {x : List Int} {h : Int} {d : Nat} (hd : d < x.length) : (ofHost x h).count (d : Int) = if x.getD d 0 = h then 1 else 0 := by
  have : ∀ i, (ohTo x h i).count (d : Int) = if d < i ∧ x.getD d 0 = h then 1 else 0 := by
    intro i
    induction i with
    | zero => simp [ohTo]
    | succ i ih =>
      rw [ohTo_succ, List.count_append, ih]
      by_cases hdi : d = i
      · subst hdi
        rw [if_neg (by omega)]
        by_cases he : x.getD d 0 = h
        · rw [if_pos he, if_pos ⟨by omega, he⟩]; simp
        · rw [if_neg he, if_neg (fun q => he q.2)]; rfl
      · have e : (if x.getD i 0 = h then [(i : Int)] else []).count (d : Int) = 0 := by
          split
          · rw [List.count_cons, List.count_nil, if_neg (by simp; omega)]
          · rfl
        rw [e, Nat.add_zero]
        by_cases hq : d < i ∧ x.getD d 0 = h
        · rw [if_pos hq, if_pos ⟨by omega, hq.2⟩]
        · rw [if_neg hq, if_neg (fun q => hq ⟨by omega, q.2⟩)]
  unfold ofHost
  rw [this]
  by_cases he : x.getD d 0 = h
  · rw [if_pos ⟨hd, he⟩, if_pos he]
  · rw [if_neg (fun q => he q.2), if_neg he]
theorem cnt_shares {x : List Int} {n : Int} {d : Nat} (hd : d < x.length) : cntTo (shares x n) (d : Int) (shares x n).length = if 0 ≤ x.getD d 0 ∧ x.getD d 0 < min n 6 then 1 else 0 := by
  have : ∀ h, h ≤ (shares x n).length → cntTo (shares x n) (d : Int) h = if 0 ≤ x.getD d 0 ∧ x.getD d 0 < (h : Int) then 1 else 0 := by
    intro h
    induction h with
    | zero => intro _; rw [if_neg (by omega)]; rfl
    | succ h ih =>
      intro hh
      have e : (shares x n).getD h [] = ofHost x (h : Int) := by
        rw [shares_len] at hh
        unfold shares
        rw [List.getD_eq_getElem?_getD, List.getElem?_map, List.getElem?_range (by omega)]; rfl
      rw [cntTo_succ (by omega), ih (by omega), e, count_ofHost hd]
      by_cases h1 : x.getD d 0 = (h : Int)
      · rw [if_pos h1, if_neg (by omega), if_pos (by omega)]
      · rw [if_neg h1]
        by_cases h2 : 0 ≤ x.getD d 0 ∧ x.getD d 0 < (h : Int)
        · rw [if_pos h2, if_pos (by omega)]
        · rw [if_neg h2, if_neg (by omega)]
  rw [this _ (Nat.le_refl _), shares_len]
  by_cases h : 0 ≤ x.getD d 0 ∧ x.getD d 0 < min n 6
  · rw [if_pos h, if_pos (by omega)]
  · rw [if_neg h, if_neg (by omega)]
end Go.Am.Reg
end
section
namespace Go.Am
open Go Go.Proofs
abbrev sp12 : List (Nat × Md) := [(0,.plain),(1,.plain),(5,.own 52),(11,.plain),(12,.plain)]
abbrev sp13 : List (Nat × Md) := [(0,.plain),(1,.plain),(5,.plain),(11,.plain),(12,.plain)]
abbrev sp14 : List (Nat × Md) := [(0,.plain),(1,.plain),(5,.own 52),(6,.plain)]
abbrev sp15 : List (Nat × Md) := [(0,.plain),(1,.plain),(5,.plain),(6,.plain)]
abbrev sp16 : List (Nat × Md) := [(0,.plain),(1,.plain),(5,.own 22),(6,.plain)]
abbrev sp17 : List (Nat × Md) := [(0,.plain),(1,.plain),(5,.plain),(6,.plain),(7,.own 2),(8,.plain)]
abbrev sp18 : List (Nat × Md) := [(0,.plain),(1,.plain),(5,.plain),(6,.plain),(7,.plain)]
abbrev sp19 : List (Nat × Md) := [(0,.plain),(1,.plain),(5,.plain),(6,.plain),(7,.plain),(8,.plain)]
abbrev Ty15 := (List Int) × (List Int) × Int × Int
abbrev Ty16 := (List Int) × (List Int) × Nat × Int × Int × (List Int)
abbrev Ty17 := (List Int) × (List Int) × Nat × Int × (List Int)
abbrev Ty18 := (List Int) × Nat × (List Int) × Nat
abbrev Ty19 := (List Int) × Nat × (List Int) × Nat × Int
abbrev Ty20 := (List (List Int)) × (List (List Int))
abbrev Ty21 := (List (List Int)) × (List (List Int)) × Int
abbrev Ty22 := (List Int) × Int × Int × (List (List Int))
abbrev Ty23 := (List Int) × Int × Int × Int × (List (List Int))
abbrev Ty24 := (List Int) × Int × Int × Int × (List (List Int)) × (List Int)
abbrev Ty25 := (List Int) × Int × Int × (List (List Int)) × (List Int)
def lVG3827 : List CEnt := []
def VG3827 : Env := mkEnv T38 G38 lVG3827
theorem eVG3827 : EOk Try.prog VG3827 := eok_mk (by exact trivial)
def Af27 (F : Nat) : Cuts := { F := F,at_ := fun n => match n with | 3016 => some sp12 | _ => none,join := fun n => match n with | 1026 => some [(0,.plain),(1,.plain)] | 2024 => some sp10 | 3018 => some sp13 | 8003 => some [(5,.plain)] | _ => none,fin := (some [(4,(.own 52))]) }
def ef27_a : (List Int) × (List Int) → St := fun (a0,a1) => { tmps := [(0,(.vs (.rI .i64 a0) 0 1)),(1,(.vs (.rI .i64 a1) 0 1))],heap := [],next := 0,nt := 39,m := 0 }
def ef27j1 : (List Int) × (List Int) → St := fun (t0,t1) => { tmps := [(0,(.vs (.rI .i64 t0) 0 1)),(1,(.vs (.rI .i64 t1) 0 1))],heap := [],next := 0,nt := 39,m := 0 }
def ef27j2 : (List Int) × (List Int) → St := fun (t0,t1) => { tmps := [(0,(.vs (.rI .i64 t0) 0 1)),(1,(.vs (.rI .i64 t1) 0 1)),(5,.ns)],heap := [],next := 0,nt := 39,m := 0 }
def ef27j3 : Ty15 → St := fun (t0,t1,t11,t12) => { tmps := [(0,(.vs (.rI .i64 t0) 0 1)),(1,(.vs (.rI .i64 t1) 0 1)),(5,.ns),(11,(.int .i64 t11)),(12,(.int .i64 t12))],heap := [],next := 0,nt := 39,m := 0 }
def ef27l1 : Ty16 → St := fun (t0,t1,x3,t11,t12,x6) => { tmps := [(0,(.vs (.rI .i64 t0) 0 1)),(1,(.vs (.rI .i64 t1) 0 1)),(5,(.own 0 x3 3)),(11,(.int .i64 t11)),(12,(.int .i64 t12))],heap := [(0,(.cells (x3 * 3) (.rI .i64 x6) true))],next := 1,nt := 39,m := 0 }
def ef27j4 : Nat × (List Int) → St := fun (x1,x2) => { tmps := [(5,(.own 0 x1 3))],heap := [(0,(.cells (x1 * 3) (.rI .i64 x2) true))],next := 1,nt := 39,m := 0 }
def f27_1 (F : Nat) (kf27j1 : (List Int) × (List Int) → Rz) : (List Int) × (List Int) → Rz := fun (a0,a1) => (kf27j1 (a0,a1))
theorem f27_1_eq (F : Nat) (Rf27j1 : St → Rz) : ∀ v,aexec VG3827 (Af27 F) (bp Try.f27 2) (ef27_a v) (kSeq (kc VG3827 Rf27j1 [(0,.plain),(1,.plain)]) (kFin VG3827 (some [(4,(.own 52))]) (Try.f27).results.toList)) = f27_1 F (Rf27j1 ∘ ef27j1) v := by
  rintro ⟨a0,a1⟩; kernel_rfl
def f27_2 (F : Nat) (kf27j2 : (List Int) × (List Int) → Rz) : (List Int) × (List Int) → Rz := fun (t0,t1) => (kf27j2 (t0,t1))
theorem f27_2_eq (F : Nat) (Rf27j2 : St → Rz) : ∀ v,aexec VG3827 (Af27 F) (bp Try.f27 6) (ef27j1 v) (kSeq (kc VG3827 Rf27j2 sp10) (kFin VG3827 (some [(4,(.own 52))]) (Try.f27).results.toList)) = f27_2 F (Rf27j2 ∘ ef27j2) v := by
  rintro ⟨t0,t1⟩; kernel_rfl
def f27_3 (F : Nat) (kf27j3 : Ty15 → Rz) (kf27j4 : Nat × (List Int) → Rz) : (List Int) × (List Int) → Rz := fun (t0,t1) => (kf27j3 (t0,t1,(if (↑t1.length : Int) < (↑t0.length : Int) then (↑t1.length : Int) else (↑t0.length : Int)),(0 : Int)))
theorem f27_3_eq (F : Nat) (Rf27j3 : St → Rz) (Rf27j4 : St → Rz) : ∀ v,aexec VG3827 (Af27 F) (bp Try.f27 28) (ef27j2 v) (kSeq (kc VG3827 Rf27j3 sp13) (kSeq (kc VG3827 Rf27j4 [(5,.plain)]) (kFin VG3827 (some [(4,(.own 52))]) (Try.f27).results.toList))) = f27_3 F (Rf27j3 ∘ ef27j3) (Rf27j4 ∘ ef27j4) v := by
  rintro ⟨t0,t1⟩; kernel_rfl
def f27_4 (F : Nat) (kf27l1 : Ty16 → Rz) (kf27j4 : Nat × (List Int) → Rz) : Ty16 → Rz := fun (t0,t1,x3,t11,t12,x6) => (cond (decide (t12 < t11)) (cond ((decide (0 ≤ t12)) && (decide (t12 < (↑t0.length : Int)))) (cond ((decide (0 ≤ t12)) && (decide (t12 < (↑t1.length : Int)))) (cond ((t0.getD (Int.toNat t12) 0) != (t1.getD (Int.toNat t12) 0)) (cond ((decide (0 ≤ t12)) && (decide (t12 < (↑t0.length : Int)))) (cond ((decide (0 ≤ t12)) && (decide (t12 < (↑t1.length : Int)))) (cond (decide ((x3 + 1) < 1073741824)) (kf27l1 (t0,t1,(x3 + 1),t11,(IntKind.i64.wrap (t12 + (1 : Int))),(x6 ++ [t12,(t0.getD (Int.toNat t12) 0),(t1.getD (Int.toNat t12) 0)]))) none) none) none) (kf27l1 (t0,t1,x3,t11,(IntKind.i64.wrap (t12 + (1 : Int))),x6))) none) none) (kf27j4 (x3,x6)))
theorem f27_4_eq (F : Nat) (Rf27l1 : St → Rz) (Rf27j4 : St → Rz) : ∀ v,aexec VG3827 (Af27 F) (bp Try.f27 116) (ef27l1 v) (kSeq (kc VG3827 Rf27l1 sp12) (kBlock 0 (kSeq (kc VG3827 Rf27j4 [(5,.plain)]) (kFin VG3827 (some [(4,(.own 52))]) (Try.f27).results.toList)))) = f27_4 F (Rf27l1 ∘ ef27l1) (Rf27j4 ∘ ef27j4) v := by
  rintro ⟨t0,t1,x3,t11,t12,x6⟩; kernel_rfl
def f27_5_i : Ty15 → (List Int) × (List Int) × Nat × Int × Int × (List Int) := fun (t0,t1,t11,t12) => (t0,t1,0,t11,t12,[])
def f27_5 (F : Nat) (kf27j4 : Nat × (List Int) → Rz) : Ty15 → Rz := fun v => loopN (fun k => f27_4 F k kf27j4) F (f27_5_i v)
theorem f27_5_eq (F : Nat) (Rf27j4 : St → Rz) : ∀ v,aexec VG3827 (Af27 F) (bp Try.f27 58) (ef27j3 v) (kBlock 0 (kSeq (kc VG3827 Rf27j4 [(5,.plain)]) (kFin VG3827 (some [(4,(.own 52))]) (Try.f27).results.toList))) = f27_5 F (Rf27j4 ∘ ef27j4) v :=
  loop_cut (by kernel_rfl) (by kernel_rfl) ef27j3 ef27l1 _ f27_5_i (fun k => f27_4 F k (Rf27j4 ∘ ef27j4))
    (by rintro ⟨t0,t1,t11,t12⟩; kernel_rfl) (fun Rf27l1 => f27_4_eq F Rf27l1 Rf27j4)
def f27_6 (F : Nat) (kf27j4 : Nat × (List Int) → Rz) : Ty15 → Rz := f27_5 F kf27j4
theorem f27_6_eq (F : Nat) (Rf27j4 : St → Rz) : ∀ v,aexec VG3827 (Af27 F) (bp Try.f27 29) (ef27j3 v) (kSeq (kc VG3827 Rf27j4 [(5,.plain)]) (kFin VG3827 (some [(4,(.own 52))]) (Try.f27).results.toList)) = f27_6 F (Rf27j4 ∘ ef27j4) v := fun v =>
  (block_in  (by kernel_rfl) _ _).trans (f27_5_eq F Rf27j4 v)
def f27_7 (F : Nat) (kf27j4 : Nat × (List Int) → Rz) : (List Int) × (List Int) → Rz := fun v => f27_3 F (f27_6 F kf27j4) kf27j4 v
theorem f27_7_eq (F : Nat) (Rf27j4 : St → Rz) : ∀ v,aexec VG3827 (Af27 F) (bp Try.f27 14) (ef27j2 v) (kSeq (kc VG3827 Rf27j4 [(5,.plain)]) (kFin VG3827 (some [(4,(.own 52))]) (Try.f27).results.toList)) = f27_7 F (Rf27j4 ∘ ef27j4) v :=
  seq_cut (by kernel_rfl) (by kernel_rfl) ef27j2 ef27j3 _ (fun k => f27_3 F k (Rf27j4 ∘ ef27j4)) (f27_6 F (Rf27j4 ∘ ef27j4))
    (fun Rf27j3 => f27_3_eq F Rf27j3 Rf27j4) (f27_6_eq F Rf27j4)
def f27_8 (F : Nat) : Nat × (List Int) → Rz := fun (x1,x2) => (some ((.own 0 x1 3),[(.cells (x1 * 3) (.rI .i64 x2) true)]))
theorem f27_8_eq (F : Nat) : ∀ v,aexec VG3827 (Af27 F) (bp Try.f27 15) (ef27j4 v) (kFin VG3827 (some [(4,(.own 52))]) (Try.f27).results.toList) = f27_8 F v := by
  rintro ⟨x1,x2⟩; kernel_rfl
def f27_9 (F : Nat) : (List Int) × (List Int) → Rz := fun v => f27_7 F (f27_8 F) v
theorem f27_9_eq (F : Nat) : ∀ v,aexec VG3827 (Af27 F) (bp Try.f27 7) (ef27j2 v) (kFin VG3827 (some [(4,(.own 52))]) (Try.f27).results.toList) = f27_9 F v :=
  seq_cut (by kernel_rfl) (by kernel_rfl) ef27j2 ef27j4 _ (fun k => f27_7 F k) (f27_8 F)
    (fun Rf27j4 => f27_7_eq F Rf27j4) (f27_8_eq F)
def f27_10 (F : Nat) : (List Int) × (List Int) → Rz := fun v => f27_2 F (f27_9 F) v
theorem f27_10_eq (F : Nat) : ∀ v,aexec VG3827 (Af27 F) (bp Try.f27 3) (ef27j1 v) (kFin VG3827 (some [(4,(.own 52))]) (Try.f27).results.toList) = f27_10 F v :=
  seq_cut (by kernel_rfl) (by kernel_rfl) ef27j1 ef27j2 _ (fun k => f27_2 F k) (f27_9 F)
    (fun Rf27j2 => f27_2_eq F Rf27j2) (f27_9_eq F)
def f27_11 (F : Nat) : (List Int) × (List Int) → Rz := fun v => f27_1 F (f27_10 F) v
theorem f27_11_eq (F : Nat) : ∀ v,aexec VG3827 (Af27 F) (sub (bodyOf Try.f27) []) (ef27_a v) (kFin VG3827 (some [(4,(.own 52))]) (Try.f27).results.toList) = f27_11 F v :=
  seq_cut (by kernel_rfl) (by kernel_rfl) ef27_a ef27j1 _ (fun k => f27_1 F k) (f27_10 F)
    (fun Rf27j1 => f27_1_eq F Rf27j1) (f27_10_eq F)
def f27 (F : Nat) : (List Int) × (List Int) → Rz := f27_11 F
theorem f27_body (F : Nat) (a0 : List Int) (a1 : List Int) : abody VG3827 (Af27 F) Try.f27 [(.vs (.rI .i64 a0) 0 1),(.vs (.rI .i64 a1) 0 1)] [] = f27 F (a0,a1) :=
  (abody_in (c := (sub (bodyOf Try.f27) [])) (by kernel_rfl) (s := ef27_a (a0,a1)) (by kernel_rfl)).trans (f27_11_eq F (a0,a1))
def r27 : CRun := fun X H => match X,H with
  | [(.vs (.rI .i64 a0) 0 1),(.vs (.rI .i64 a1) 0 1)],[] => some ((decide (a0.length < 1073741000)),(.own 0 (Reg.movesN a0 a1) 3),[(.cells (Reg.moves a0 a1).length (.rI .i64 (Reg.moves a0 a1)) true)])
  | _,_ => none
theorem s27 (a0 : List Int) (a1 : List Int) (hp : ((decide (a0.length < 1073741000))) = true) (h0 : okV (.vs (.rI .i64 a0) 0 1)) (h1 : okV (.vs (.rI .i64 a1) 0 1)) : ∃ F,f27 F (a0,a1) = some ((.own 0 (Reg.movesN a0 a1) 3),[(.cells (Reg.moves a0 a1).length (.rI .i64 (Reg.moves a0 a1)) true)]) := by
  simp only [decide_eq_true_eq] at hp
  have hm : (if (a1.length : Int) < (a0.length : Int) then (a1.length : Int) else (a0.length : Int)) = ((min a0.length a1.length : Nat) : Int) := by split <;> omega
  refine ⟨min a0.length a1.length + 1,?_⟩
  simp only [f27,f27_11,f27_1,f27_10,f27_2,f27_9,f27_7,f27_3,f27_6,f27_5,f27_5_i,hm]
  generalize hN : min a0.length a1.length = n
  have hn0 : n ≤ a0.length := by omega
  have hn1 : n ≤ a1.length := by omega
  refine loopN_from (fun i => (a0,a1,Reg.mvN a0 a1 i,(n : Int),(i : Int),Reg.mvTo a0 a1 i)) n (by rfl) (fun i hi k => ?_) (fun k => ?_) _ (by omega)
  · have hle := Reg.mvN_le a0 a1 i
    simp only [f27_4,dec_and,int_bne,Int.toNat_natCast,Reg.mvN_succ,Reg.mvTo_succ,Reg.mvAt]
    rw [cond_pos (by omega),cond_pos (by omega),cond_pos (by omega),i64w (by omega) (by omega)]
    by_cases h : a0.getD i 0 = a1.getD i 0
    · rw [cond_neg (fun q => q h),if_pos h,if_pos h,List.append_nil]; rfl
    · rw [cond_pos h,cond_pos (by omega),cond_pos (by omega),cond_pos (by omega),if_neg h,if_neg h]; rfl
  · simp only [f27_4,f27_8]
    rw [cond_neg (by omega),Reg.movesN,Reg.moves,hN,Reg.mv_len]
theorem c27 : CallOk Try.prog G38 27 r27 := callOk_of (V := VG3827) mixed tys eVG3827 (f := 27) (fn := Try.f27) Try.func27 (by kernel_rfl) (c := sub (bodyOf Try.f27) []) (by kernel_rfl) (by
  intro X H r H' h hX hH
  unfold r27 at h; split at h <;> try contradiction
  · simp only [Option.some.injEq,Prod.mk.injEq] at h
    obtain ⟨hp,rfl,rfl⟩ := h
    obtain ⟨F,hF⟩ := s27 _ _ hp (hX _ (.head _)) (hX _ (.tail _ (.head _)))
    exact ⟨Af27 F,(f27_body F _ _).trans hF⟩)
def lVG3829 : List CEnt := []
def VG3829 : Env := mkEnv T38 G38 lVG3829
theorem eVG3829 : EOk Try.prog VG3829 := eok_mk (by exact trivial)
def Af29 (F : Nat) : Cuts := { F := F,at_ := fun n => match n with | 3014 => some sp14 | _ => none,join := fun n => match n with | 1024 => some [(0,.plain),(1,.plain)] | 2022 => some sp10 | 3016 => some sp15 | 7003 => some [(5,.plain)] | _ => none,fin := (some [(4,(.own 52))]) }
def ef29_a : (List Int) × (List Int) → St := fun (a0,a1) => { tmps := [(0,(.vs (.rI .i64 a0) 0 1)),(1,(.vs (.rI .i64 a1) 0 1))],heap := [],next := 0,nt := 42,m := 0 }
def ef29j1 : (List Int) × (List Int) → St := fun (t0,t1) => { tmps := [(0,(.vs (.rI .i64 t0) 0 1)),(1,(.vs (.rI .i64 t1) 0 1))],heap := [],next := 0,nt := 42,m := 0 }
def ef29j2 : (List Int) × (List Int) → St := fun (t0,t1) => { tmps := [(0,(.vs (.rI .i64 t0) 0 1)),(1,(.vs (.rI .i64 t1) 0 1)),(5,.ns)],heap := [],next := 0,nt := 42,m := 0 }
def ef29j3 : Ty11 → St := fun (t0,t1,t6) => { tmps := [(0,(.vs (.rI .i64 t0) 0 1)),(1,(.vs (.rI .i64 t1) 0 1)),(5,.ns),(6,(.int .i64 t6))],heap := [],next := 0,nt := 42,m := 0 }
def ef29l1 : Ty17 → St := fun (t0,t1,x3,t6,x5) => { tmps := [(0,(.vs (.rI .i64 t0) 0 1)),(1,(.vs (.rI .i64 t1) 0 1)),(5,(.own 0 x3 3)),(6,(.int .i64 t6))],heap := [(0,(.cells (x3 * 3) (.rI .i64 x5) true))],next := 1,nt := 42,m := 0 }
def ef29j4 : Nat × (List Int) → St := fun (x1,x2) => { tmps := [(5,(.own 0 x1 3))],heap := [(0,(.cells (x1 * 3) (.rI .i64 x2) true))],next := 1,nt := 42,m := 0 }
def f29_1 (F : Nat) (kf29j1 : (List Int) × (List Int) → Rz) : (List Int) × (List Int) → Rz := fun (a0,a1) => (kf29j1 (a0,a1))
theorem f29_1_eq (F : Nat) (Rf29j1 : St → Rz) : ∀ v,aexec VG3829 (Af29 F) (bp Try.f29 2) (ef29_a v) (kSeq (kc VG3829 Rf29j1 [(0,.plain),(1,.plain)]) (kFin VG3829 (some [(4,(.own 52))]) (Try.f29).results.toList)) = f29_1 F (Rf29j1 ∘ ef29j1) v := by
  rintro ⟨a0,a1⟩; kernel_rfl
def f29_2 (F : Nat) (kf29j2 : (List Int) × (List Int) → Rz) : (List Int) × (List Int) → Rz := fun (t0,t1) => (kf29j2 (t0,t1))
theorem f29_2_eq (F : Nat) (Rf29j2 : St → Rz) : ∀ v,aexec VG3829 (Af29 F) (bp Try.f29 6) (ef29j1 v) (kSeq (kc VG3829 Rf29j2 sp10) (kFin VG3829 (some [(4,(.own 52))]) (Try.f29).results.toList)) = f29_2 F (Rf29j2 ∘ ef29j2) v := by
  rintro ⟨t0,t1⟩; kernel_rfl
def f29_3 (F : Nat) (kf29j3 : Ty11 → Rz) (kf29j4 : Nat × (List Int) → Rz) : (List Int) × (List Int) → Rz := fun (t0,t1) => (kf29j3 (t0,t1,(0 : Int)))
theorem f29_3_eq (F : Nat) (Rf29j3 : St → Rz) (Rf29j4 : St → Rz) : ∀ v,aexec VG3829 (Af29 F) (bp Try.f29 28) (ef29j2 v) (kSeq (kc VG3829 Rf29j3 sp15) (kSeq (kc VG3829 Rf29j4 [(5,.plain)]) (kFin VG3829 (some [(4,(.own 52))]) (Try.f29).results.toList))) = f29_3 F (Rf29j3 ∘ ef29j3) (Rf29j4 ∘ ef29j4) v := by
  rintro ⟨t0,t1⟩; kernel_rfl
def f29_4 (F : Nat) (kf29l1 : Ty17 → Rz) (kf29j4 : Nat × (List Int) → Rz) : Ty17 → Rz := fun (t0,t1,x3,t6,x5) => (cond (decide (t6 < (↑t0.length : Int))) (cond (decide (t6 < (↑t1.length : Int))) (cond ((decide (0 ≤ t6)) && (decide (t6 < (↑t0.length : Int)))) (cond ((decide (0 ≤ t6)) && (decide (t6 < (↑t1.length : Int)))) (cond ((t0.getD (Int.toNat t6) 0) != (t1.getD (Int.toNat t6) 0)) (cond ((decide (0 ≤ t6)) && (decide (t6 < (↑t0.length : Int)))) (cond ((decide (0 ≤ t6)) && (decide (t6 < (↑t1.length : Int)))) (cond (decide ((x3 + 1) < 1073741824)) (kf29l1 (t0,t1,(x3 + 1),(IntKind.i64.wrap (t6 + (1 : Int))),(x5 ++ [t6,(t0.getD (Int.toNat t6) 0),(t1.getD (Int.toNat t6) 0)]))) none) none) none) (kf29l1 (t0,t1,x3,(IntKind.i64.wrap (t6 + (1 : Int))),x5))) none) none) (kf29j4 (x3,x5))) (kf29j4 (x3,x5)))
theorem f29_4_eq (F : Nat) (Rf29l1 : St → Rz) (Rf29j4 : St → Rz) : ∀ v,aexec VG3829 (Af29 F) (bp Try.f29 116) (ef29l1 v) (kSeq (kc VG3829 Rf29l1 sp14) (kBlock 0 (kSeq (kc VG3829 Rf29j4 [(5,.plain)]) (kFin VG3829 (some [(4,(.own 52))]) (Try.f29).results.toList)))) = f29_4 F (Rf29l1 ∘ ef29l1) (Rf29j4 ∘ ef29j4) v := by
  rintro ⟨t0,t1,x3,t6,x5⟩; kernel_rfl
def f29_5_i : Ty11 → (List Int) × (List Int) × Nat × Int × (List Int) := fun (t0,t1,t6) => (t0,t1,0,t6,[])
def f29_5 (F : Nat) (kf29j4 : Nat × (List Int) → Rz) : Ty11 → Rz := fun v => loopN (fun k => f29_4 F k kf29j4) F (f29_5_i v)
theorem f29_5_eq (F : Nat) (Rf29j4 : St → Rz) : ∀ v,aexec VG3829 (Af29 F) (bp Try.f29 58) (ef29j3 v) (kBlock 0 (kSeq (kc VG3829 Rf29j4 [(5,.plain)]) (kFin VG3829 (some [(4,(.own 52))]) (Try.f29).results.toList))) = f29_5 F (Rf29j4 ∘ ef29j4) v :=
  loop_cut (by kernel_rfl) (by kernel_rfl) ef29j3 ef29l1 _ f29_5_i (fun k => f29_4 F k (Rf29j4 ∘ ef29j4))
    (by rintro ⟨t0,t1,t6⟩; kernel_rfl) (fun Rf29l1 => f29_4_eq F Rf29l1 Rf29j4)
def f29_6 (F : Nat) (kf29j4 : Nat × (List Int) → Rz) : Ty11 → Rz := f29_5 F kf29j4
theorem f29_6_eq (F : Nat) (Rf29j4 : St → Rz) : ∀ v,aexec VG3829 (Af29 F) (bp Try.f29 29) (ef29j3 v) (kSeq (kc VG3829 Rf29j4 [(5,.plain)]) (kFin VG3829 (some [(4,(.own 52))]) (Try.f29).results.toList)) = f29_6 F (Rf29j4 ∘ ef29j4) v := fun v =>
  (block_in  (by kernel_rfl) _ _).trans (f29_5_eq F Rf29j4 v)
def f29_7 (F : Nat) (kf29j4 : Nat × (List Int) → Rz) : (List Int) × (List Int) → Rz := fun v => f29_3 F (f29_6 F kf29j4) kf29j4 v
theorem f29_7_eq (F : Nat) (Rf29j4 : St → Rz) : ∀ v,aexec VG3829 (Af29 F) (bp Try.f29 14) (ef29j2 v) (kSeq (kc VG3829 Rf29j4 [(5,.plain)]) (kFin VG3829 (some [(4,(.own 52))]) (Try.f29).results.toList)) = f29_7 F (Rf29j4 ∘ ef29j4) v :=
  seq_cut (by kernel_rfl) (by kernel_rfl) ef29j2 ef29j3 _ (fun k => f29_3 F k (Rf29j4 ∘ ef29j4)) (f29_6 F (Rf29j4 ∘ ef29j4))
    (fun Rf29j3 => f29_3_eq F Rf29j3 Rf29j4) (f29_6_eq F Rf29j4)
def f29_8 (F : Nat) : Nat × (List Int) → Rz := fun (x1,x2) => (some ((.own 0 x1 3),[(.cells (x1 * 3) (.rI .i64 x2) true)]))
theorem f29_8_eq (F : Nat) : ∀ v,aexec VG3829 (Af29 F) (bp Try.f29 15) (ef29j4 v) (kFin VG3829 (some [(4,(.own 52))]) (Try.f29).results.toList) = f29_8 F v := by
  rintro ⟨x1,x2⟩; kernel_rfl
def f29_9 (F : Nat) : (List Int) × (List Int) → Rz := fun v => f29_7 F (f29_8 F) v
theorem f29_9_eq (F : Nat) : ∀ v,aexec VG3829 (Af29 F) (bp Try.f29 7) (ef29j2 v) (kFin VG3829 (some [(4,(.own 52))]) (Try.f29).results.toList) = f29_9 F v :=
  seq_cut (by kernel_rfl) (by kernel_rfl) ef29j2 ef29j4 _ (fun k => f29_7 F k) (f29_8 F)
    (fun Rf29j4 => f29_7_eq F Rf29j4) (f29_8_eq F)
def f29_10 (F : Nat) : (List Int) × (List Int) → Rz := fun v => f29_2 F (f29_9 F) v
theorem f29_10_eq (F : Nat) : ∀ v,aexec VG3829 (Af29 F) (bp Try.f29 3) (ef29j1 v) (kFin VG3829 (some [(4,(.own 52))]) (Try.f29).results.toList) = f29_10 F v :=
  seq_cut (by kernel_rfl) (by kernel_rfl) ef29j1 ef29j2 _ (fun k => f29_2 F k) (f29_9 F)
    (fun Rf29j2 => f29_2_eq F Rf29j2) (f29_9_eq F)
def f29_11 (F : Nat) : (List Int) × (List Int) → Rz := fun v => f29_1 F (f29_10 F) v
theorem f29_11_eq (F : Nat) : ∀ v,aexec VG3829 (Af29 F) (sub (bodyOf Try.f29) []) (ef29_a v) (kFin VG3829 (some [(4,(.own 52))]) (Try.f29).results.toList) = f29_11 F v :=
  seq_cut (by kernel_rfl) (by kernel_rfl) ef29_a ef29j1 _ (fun k => f29_1 F k) (f29_10 F)
    (fun Rf29j1 => f29_1_eq F Rf29j1) (f29_10_eq F)
def f29 (F : Nat) : (List Int) × (List Int) → Rz := f29_11 F
theorem f29_body (F : Nat) (a0 : List Int) (a1 : List Int) : abody VG3829 (Af29 F) Try.f29 [(.vs (.rI .i64 a0) 0 1),(.vs (.rI .i64 a1) 0 1)] [] = f29 F (a0,a1) :=
  (abody_in (c := (sub (bodyOf Try.f29) [])) (by kernel_rfl) (s := ef29_a (a0,a1)) (by kernel_rfl)).trans (f29_11_eq F (a0,a1))
def r29 : CRun := fun X H => match X,H with
  | [(.vs (.rI .i64 a0) 0 1),(.vs (.rI .i64 a1) 0 1)],[] => some ((decide (a0.length < 1073741000)),(.own 0 (Reg.movesN a0 a1) 3),[(.cells (Reg.moves a0 a1).length (.rI .i64 (Reg.moves a0 a1)) true)])
  | _,_ => none
theorem s29 (a0 : List Int) (a1 : List Int) (hp : ((decide (a0.length < 1073741000))) = true) (h0 : okV (.vs (.rI .i64 a0) 0 1)) (h1 : okV (.vs (.rI .i64 a1) 0 1)) : ∃ F,f29 F (a0,a1) = some ((.own 0 (Reg.movesN a0 a1) 3),[(.cells (Reg.moves a0 a1).length (.rI .i64 (Reg.moves a0 a1)) true)]) := by
  simp only [decide_eq_true_eq] at hp
  refine ⟨min a0.length a1.length + 1,?_⟩
  simp only [f29,f29_11,f29_1,f29_10,f29_2,f29_9,f29_7,f29_3,f29_6,f29_5,f29_5_i]
  generalize hN : min a0.length a1.length = n
  have hn0 : n ≤ a0.length := by omega
  have hn1 : n ≤ a1.length := by omega
  refine loopN_from (fun i => (a0,a1,Reg.mvN a0 a1 i,(i : Int),Reg.mvTo a0 a1 i)) n (by rfl) (fun i hi k => ?_) (fun k => ?_) _ (by omega)
  · have hle := Reg.mvN_le a0 a1 i
    simp only [f29_4,dec_and,int_bne,Int.toNat_natCast,Reg.mvN_succ,Reg.mvTo_succ,Reg.mvAt]
    rw [cond_pos (by omega),cond_pos (by omega),cond_pos (by omega),cond_pos (by omega),i64w (by omega) (by omega)]
    by_cases h : a0.getD i 0 = a1.getD i 0
    · rw [cond_neg (fun q => q h),if_pos h,if_pos h,List.append_nil]; rfl
    · rw [cond_pos h,cond_pos (by omega),cond_pos (by omega),cond_pos (by omega),if_neg h,if_neg h]; rfl
  · simp only [f29_4,f29_8]
    rw [Reg.movesN,Reg.moves,hN,Reg.mv_len]
    by_cases h0 : n < a0.length
    · rw [cond_pos (by omega),cond_neg (by omega)]
    · rw [cond_neg (by omega)]
theorem c29 : CallOk Try.prog G38 29 r29 := callOk_of (V := VG3829) mixed tys eVG3829 (f := 29) (fn := Try.f29) Try.func29 (by kernel_rfl) (c := sub (bodyOf Try.f29) []) (by kernel_rfl) (by
  intro X H r H' h hX hH
  unfold r29 at h; split at h <;> try contradiction
  · simp only [Option.some.injEq,Prod.mk.injEq] at h
    obtain ⟨hp,rfl,rfl⟩ := h
    obtain ⟨F,hF⟩ := s29 _ _ hp (hX _ (.head _)) (hX _ (.tail _ (.head _)))
    exact ⟨Af29 F,(f29_body F _ _).trans hF⟩)
def lVG3828 : List CEnt := []
def VG3828 : Env := mkEnv T38 G38 lVG3828
theorem eVG3828 : EOk Try.prog VG3828 := eok_mk (by exact trivial)
def Af28 (F : Nat) : Cuts := { F := F,at_ := fun n => match n with | 4016 => some sp10 | _ => none,join := fun n => match n with | 1032 => some [(0,.plain),(1,.plain)] | 3024 => some [(0,.plain),(1,.plain)] | 4018 => some sp10 | 8003 => some [] | _ => none }
def ef28_a : Ty18 → St := fun (a0,a0n,a1,a1n) => { tmps := [(0,(.vs (.rI .i64 a0) a0n 3)),(1,(.vs (.rI .i64 a1) a1n 3))],heap := [],next := 0,nt := 26,m := 0 }
def ef28j1 : Ty18 → St := fun (t0,x2,t1,x4) => { tmps := [(0,(.vs (.rI .i64 t0) x2 3)),(1,(.vs (.rI .i64 t1) x4 3))],heap := [],next := 0,nt := 26,m := 0 }
def ef28j2 : Ty18 → St := fun (t0,x2,t1,x4) => { tmps := [(0,(.vs (.rI .i64 t0) x2 3)),(1,(.vs (.rI .i64 t1) x4 3))],heap := [],next := 0,nt := 26,m := 0 }
def ef28j3 : Ty19 → St := fun (t0,x2,t1,x4,t5) => { tmps := [(0,(.vs (.rI .i64 t0) x2 3)),(1,(.vs (.rI .i64 t1) x4 3)),(5,(.int .i64 t5))],heap := [],next := 0,nt := 26,m := 0 }
def ef28l1 : Ty19 → St := fun (t0,x2,t1,x4,t5) => { tmps := [(0,(.vs (.rI .i64 t0) x2 3)),(1,(.vs (.rI .i64 t1) x4 3)),(5,(.int .i64 t5))],heap := [],next := 0,nt := 26,m := 0 }
def ef28j4 : Unit → St := fun _ => { tmps := [],heap := [],next := 0,nt := 26,m := 0 }
def f28_1 (F : Nat) (kf28j1 : Ty18 → Rz) : Ty18 → Rz := fun (a0,a0n,a1,a1n) => (kf28j1 (a0,a0n,a1,a1n))
theorem f28_1_eq (F : Nat) (Rf28j1 : St → Rz) : ∀ v,aexec VG3828 (Af28 F) (bp Try.f28 2) (ef28_a v) (kSeq (kc VG3828 Rf28j1 [(0,.plain),(1,.plain)]) (kFin VG3828 none (Try.f28).results.toList)) = f28_1 F (Rf28j1 ∘ ef28j1) v := by
  rintro ⟨a0,a0n,a1,a1n⟩; kernel_rfl
def f28_2 (F : Nat) (kf28j2 : Ty18 → Rz) : Ty18 → Rz := fun (t0,x2,t1,x4) => (cond ((↑x2 : Int) != (↑x4 : Int)) (some ((.bool false),[])) (kf28j2 (t0,x2,t1,x4)))
theorem f28_2_eq (F : Nat) (Rf28j2 : St → Rz) : ∀ v,aexec VG3828 (Af28 F) (bp Try.f28 6) (ef28j1 v) (kSeq (kc VG3828 Rf28j2 [(0,.plain),(1,.plain)]) (kFin VG3828 none (Try.f28).results.toList)) = f28_2 F (Rf28j2 ∘ ef28j2) v := by
  rintro ⟨t0,x2,t1,x4⟩; kernel_rfl
def f28_3 (F : Nat) (kf28j3 : Ty19 → Rz) (kf28j4 : Unit → Rz) : Ty18 → Rz := fun (t0,x2,t1,x4) => (kf28j3 (t0,x2,t1,x4,(0 : Int)))
theorem f28_3_eq (F : Nat) (Rf28j3 : St → Rz) (Rf28j4 : St → Rz) : ∀ v,aexec VG3828 (Af28 F) (bp Try.f28 28) (ef28j2 v) (kSeq (kc VG3828 Rf28j3 sp10) (kSeq (kc VG3828 Rf28j4 []) (kFin VG3828 none (Try.f28).results.toList))) = f28_3 F (Rf28j3 ∘ ef28j3) (Rf28j4 ∘ ef28j4) v := by
  rintro ⟨t0,x2,t1,x4⟩; kernel_rfl
def f28_4 (F : Nat) (kf28l1 : Ty19 → Rz) (kf28j4 : Unit → Rz) : Ty19 → Rz := fun (t0,x2,t1,x4,t5) => (cond (decide (t5 < (↑x2 : Int))) (cond ((decide (0 ≤ t5)) && (decide (t5 < (↑x2 : Int)))) (cond ((decide (0 ≤ t5)) && (decide (t5 < (↑x4 : Int)))) (cond (!((((t0.drop ((Int.toNat t5) * 3)).take 3) : List Int) == ((t1.drop ((Int.toNat t5) * 3)).take 3))) (some ((.bool false),[])) (kf28l1 (t0,x2,t1,x4,(IntKind.i64.wrap (t5 + (1 : Int)))))) none) none) (kf28j4 ()))
theorem f28_4_eq (F : Nat) (Rf28l1 : St → Rz) (Rf28j4 : St → Rz) : ∀ v,aexec VG3828 (Af28 F) (bp Try.f28 116) (ef28l1 v) (kSeq (kc VG3828 Rf28l1 sp10) (kBlock 0 (kSeq (kc VG3828 Rf28j4 []) (kFin VG3828 none (Try.f28).results.toList)))) = f28_4 F (Rf28l1 ∘ ef28l1) (Rf28j4 ∘ ef28j4) v := by
  rintro ⟨t0,x2,t1,x4,t5⟩; kernel_rfl
def f28_5_i : Ty19 → (List Int) × Nat × (List Int) × Nat × Int := fun (t0,x2,t1,x4,t5) => (t0,x2,t1,x4,t5)
def f28_5 (F : Nat) (kf28j4 : Unit → Rz) : Ty19 → Rz := fun v => loopN (fun k => f28_4 F k kf28j4) F (f28_5_i v)
theorem f28_5_eq (F : Nat) (Rf28j4 : St → Rz) : ∀ v,aexec VG3828 (Af28 F) (bp Try.f28 58) (ef28j3 v) (kBlock 0 (kSeq (kc VG3828 Rf28j4 []) (kFin VG3828 none (Try.f28).results.toList))) = f28_5 F (Rf28j4 ∘ ef28j4) v :=
  loop_cut (by kernel_rfl) (by kernel_rfl) ef28j3 ef28l1 _ f28_5_i (fun k => f28_4 F k (Rf28j4 ∘ ef28j4))
    (by rintro ⟨t0,x2,t1,x4,t5⟩; kernel_rfl) (fun Rf28l1 => f28_4_eq F Rf28l1 Rf28j4)
def f28_6 (F : Nat) (kf28j4 : Unit → Rz) : Ty19 → Rz := f28_5 F kf28j4
theorem f28_6_eq (F : Nat) (Rf28j4 : St → Rz) : ∀ v,aexec VG3828 (Af28 F) (bp Try.f28 29) (ef28j3 v) (kSeq (kc VG3828 Rf28j4 []) (kFin VG3828 none (Try.f28).results.toList)) = f28_6 F (Rf28j4 ∘ ef28j4) v := fun v =>
  (block_in  (by kernel_rfl) _ _).trans (f28_5_eq F Rf28j4 v)
def f28_7 (F : Nat) (kf28j4 : Unit → Rz) : Ty18 → Rz := fun v => f28_3 F (f28_6 F kf28j4) kf28j4 v
theorem f28_7_eq (F : Nat) (Rf28j4 : St → Rz) : ∀ v,aexec VG3828 (Af28 F) (bp Try.f28 14) (ef28j2 v) (kSeq (kc VG3828 Rf28j4 []) (kFin VG3828 none (Try.f28).results.toList)) = f28_7 F (Rf28j4 ∘ ef28j4) v :=
  seq_cut (by kernel_rfl) (by kernel_rfl) ef28j2 ef28j3 _ (fun k => f28_3 F k (Rf28j4 ∘ ef28j4)) (f28_6 F (Rf28j4 ∘ ef28j4))
    (fun Rf28j3 => f28_3_eq F Rf28j3 Rf28j4) (f28_6_eq F Rf28j4)
def f28_8 (F : Nat) : Unit → Rz := fun _ => (some ((.bool true),[]))
theorem f28_8_eq (F : Nat) : ∀ v,aexec VG3828 (Af28 F) (bp Try.f28 15) (ef28j4 v) (kFin VG3828 none (Try.f28).results.toList) = f28_8 F v := by
  intro _; kernel_rfl
def f28_9 (F : Nat) : Ty18 → Rz := fun v => f28_7 F (f28_8 F) v
theorem f28_9_eq (F : Nat) : ∀ v,aexec VG3828 (Af28 F) (bp Try.f28 7) (ef28j2 v) (kFin VG3828 none (Try.f28).results.toList) = f28_9 F v :=
  seq_cut (by kernel_rfl) (by kernel_rfl) ef28j2 ef28j4 _ (fun k => f28_7 F k) (f28_8 F)
    (fun Rf28j4 => f28_7_eq F Rf28j4) (f28_8_eq F)
def f28_10 (F : Nat) : Ty18 → Rz := fun v => f28_2 F (f28_9 F) v
theorem f28_10_eq (F : Nat) : ∀ v,aexec VG3828 (Af28 F) (bp Try.f28 3) (ef28j1 v) (kFin VG3828 none (Try.f28).results.toList) = f28_10 F v :=
  seq_cut (by kernel_rfl) (by kernel_rfl) ef28j1 ef28j2 _ (fun k => f28_2 F k) (f28_9 F)
    (fun Rf28j2 => f28_2_eq F Rf28j2) (f28_9_eq F)
def f28_11 (F : Nat) : Ty18 → Rz := fun v => f28_1 F (f28_10 F) v
theorem f28_11_eq (F : Nat) : ∀ v,aexec VG3828 (Af28 F) (sub (bodyOf Try.f28) []) (ef28_a v) (kFin VG3828 none (Try.f28).results.toList) = f28_11 F v :=
  seq_cut (by kernel_rfl) (by kernel_rfl) ef28_a ef28j1 _ (fun k => f28_1 F k) (f28_10 F)
    (fun Rf28j1 => f28_1_eq F Rf28j1) (f28_10_eq F)
def f28 (F : Nat) : Ty18 → Rz := f28_11 F
theorem f28_body (F : Nat) (a0 : List Int) (a0n : Nat) (a1 : List Int) (a1n : Nat) : abody VG3828 (Af28 F) Try.f28 [(.vs (.rI .i64 a0) a0n 3),(.vs (.rI .i64 a1) a1n 3)] [] = f28 F (a0,a0n,a1,a1n) :=
  (abody_in (c := (sub (bodyOf Try.f28) [])) (by kernel_rfl) (s := ef28_a (a0,a0n,a1,a1n)) (by kernel_rfl)).trans (f28_11_eq F (a0,a0n,a1,a1n))
def r28 : CRun := fun X H => match X,H with
  | [(.vs (.rI .i64 a0) a0n 3),(.vs (.rI .i64 a1) a1n 3)],[] => some (((decide (a0.length = a0n * 3)) && (decide (a1.length = a1n * 3))),(.bool ((decide (a0n = a1n)) && (decide (a0 = a1)))),[])
  | _,_ => none
theorem s28 (a0 : List Int) (a0n : Nat) (a1 : List Int) (a1n : Nat) (hp : (((decide (a0.length = a0n * 3)) && (decide (a1.length = a1n * 3)))) = true) (h0 : okV (.vs (.rI .i64 a0) a0n 3)) (h1 : okV (.vs (.rI .i64 a1) a1n 3)) : ∃ F,f28 F (a0,a0n,a1,a1n) = some ((.bool ((decide (a0n = a1n)) && (decide (a0 = a1)))),[]) := by
  simp only [Bool.and_eq_true,decide_eq_true_eq] at hp
  obtain ⟨p0,p1⟩ := hp
  refine ⟨a0n + 1,?_⟩
  simp only [f28,f28_11,f28_1,f28_10,f28_2,int_bne]
  by_cases hl : a0n = a1n
  · subst hl
    rw [cond_neg (by omega)]
    simp only [f28_9,f28_7,f28_3,f28_6,f28_5,f28_5_i]
    have hb : a0n < 4611686018427387904 := h0.2.2
    simp only [decide_true,Bool.true_and]
    refine loopN_ind (fun m s => s = (a0,a0n,a1,a0n,((a0n - m : Nat) : Int)) ∧ m ≤ a0n ∧ ∀ i,i < a0n - m → (a0.drop (i * 3)).take 3 = (a1.drop (i * 3)).take 3) ?_ _ a0n _ (by omega) ⟨by simp,Nat.le_refl _,fun i hi => by omega⟩
    rintro m s k ⟨rfl,hm,hi⟩ hk
    simp only [f28_4,dec_and,lst_beq,dec_not]
    cases m with
    | zero =>
      rw [cond_neg (by omega)]
      have he : a0 = a1 := Reg.chunks3 p0 p1 fun i h => hi i (by omega)
      rw [decide_eq_true he]; rfl
    | succ m =>
      rw [Int.toNat_natCast,cond_pos (by omega),cond_pos (by omega),cond_pos (by omega)]
      by_cases he : (a0.drop ((a0n - (m + 1)) * 3)).take 3 = (a1.drop ((a0n - (m + 1)) * 3)).take 3
      · rw [cond_neg (fun h => h he),i64w (by omega) (by omega),show ((a0n - (m + 1) : Nat) : Int) + 1 = ((a0n - m : Nat) : Int) by omega]
        refine hk m _ (by omega) ⟨rfl,by omega,fun i hi' => ?_⟩
        by_cases hh : i < a0n - (m + 1)
        · exact hi i hh
        · rw [show i = a0n - (m + 1) by omega]; exact he
      · rw [cond_pos he]
        have hne : a0 ≠ a1 := fun e => he (by rw [e])
        rw [decide_eq_false hne]
  · rw [cond_pos (by omega)]
    simp only [hl,decide_false,Bool.false_and]
theorem c28 : CallOk Try.prog G38 28 r28 := callOk_of (V := VG3828) mixed tys eVG3828 (f := 28) (fn := Try.f28) Try.func28 (by kernel_rfl) (c := sub (bodyOf Try.f28) []) (by kernel_rfl) (by
  intro X H r H' h hX hH
  unfold r28 at h; split at h <;> try contradiction
  · simp only [Option.some.injEq,Prod.mk.injEq] at h
    obtain ⟨hp,rfl,rfl⟩ := h
    obtain ⟨F,hF⟩ := s28 _ _ _ _ hp (hX _ (.head _)) (hX _ (.tail _ (.head _)))
    exact ⟨Af28 F,(f28_body F _ _ _ _).trans hF⟩)
def lVG3830 : List CEnt := [(18,[some 3,some 3],r18)]
def VG3830 : Env := mkEnv T38 G38 lVG3830
theorem eVG3830 : EOk Try.prog VG3830 := eok_mk (by exact ⟨c18,trivial⟩)
def Af30 (F : Nat) : Cuts := { F := F,at_ := fun n => match n with | 4016 => some sp10 | _ => none,join := fun n => match n with | 1032 => some [(0,.plain),(1,.plain)] | 3024 => some [(0,.plain),(1,.plain)] | 4018 => some sp10 | 8003 => some [] | _ => none }
def ef30_a : Ty20 → St := fun (a0,a1) => { tmps := [(0,(.vs (.rL .i64 a0) 0 1)),(1,(.vs (.rL .i64 a1) 0 1))],heap := [],next := 0,nt := 27,m := 0 }
def ef30j1 : Ty20 → St := fun (t0,t1) => { tmps := [(0,(.vs (.rL .i64 t0) 0 1)),(1,(.vs (.rL .i64 t1) 0 1))],heap := [],next := 0,nt := 27,m := 0 }
def ef30j2 : Ty20 → St := fun (t0,t1) => { tmps := [(0,(.vs (.rL .i64 t0) 0 1)),(1,(.vs (.rL .i64 t1) 0 1))],heap := [],next := 0,nt := 27,m := 0 }
def ef30j3 : Ty21 → St := fun (t0,t1,t5) => { tmps := [(0,(.vs (.rL .i64 t0) 0 1)),(1,(.vs (.rL .i64 t1) 0 1)),(5,(.int .i64 t5))],heap := [],next := 0,nt := 27,m := 0 }
def ef30l1 : Ty21 → St := fun (t0,t1,t5) => { tmps := [(0,(.vs (.rL .i64 t0) 0 1)),(1,(.vs (.rL .i64 t1) 0 1)),(5,(.int .i64 t5))],heap := [],next := 0,nt := 27,m := 0 }
def ef30j4 : Unit → St := fun _ => { tmps := [],heap := [],next := 0,nt := 27,m := 0 }
def f30_1 (F : Nat) (kf30j1 : Ty20 → Rz) : Ty20 → Rz := fun (a0,a1) => (kf30j1 (a0,a1))
theorem f30_1_eq (F : Nat) (Rf30j1 : St → Rz) : ∀ v,aexec VG3830 (Af30 F) (bp Try.f30 2) (ef30_a v) (kSeq (kc VG3830 Rf30j1 [(0,.plain),(1,.plain)]) (kFin VG3830 none (Try.f30).results.toList)) = f30_1 F (Rf30j1 ∘ ef30j1) v := by
  rintro ⟨a0,a1⟩; kernel_rfl
def f30_2 (F : Nat) (kf30j2 : Ty20 → Rz) : Ty20 → Rz := fun (t0,t1) => (cond ((↑t0.length : Int) != (↑t1.length : Int)) (some ((.bool false),[])) (kf30j2 (t0,t1)))
theorem f30_2_eq (F : Nat) (Rf30j2 : St → Rz) : ∀ v,aexec VG3830 (Af30 F) (bp Try.f30 6) (ef30j1 v) (kSeq (kc VG3830 Rf30j2 [(0,.plain),(1,.plain)]) (kFin VG3830 none (Try.f30).results.toList)) = f30_2 F (Rf30j2 ∘ ef30j2) v := by
  rintro ⟨t0,t1⟩; kernel_rfl
def f30_3 (F : Nat) (kf30j3 : Ty21 → Rz) (kf30j4 : Unit → Rz) : Ty20 → Rz := fun (t0,t1) => (kf30j3 (t0,t1,(0 : Int)))
theorem f30_3_eq (F : Nat) (Rf30j3 : St → Rz) (Rf30j4 : St → Rz) : ∀ v,aexec VG3830 (Af30 F) (bp Try.f30 28) (ef30j2 v) (kSeq (kc VG3830 Rf30j3 sp10) (kSeq (kc VG3830 Rf30j4 []) (kFin VG3830 none (Try.f30).results.toList))) = f30_3 F (Rf30j3 ∘ ef30j3) (Rf30j4 ∘ ef30j4) v := by
  rintro ⟨t0,t1⟩; kernel_rfl
def f30_4 (F : Nat) (kf30l1 : Ty21 → Rz) (kf30j4 : Unit → Rz) : Ty21 → Rz := fun (t0,t1,t5) => (cond (decide (t5 < (↑t0.length : Int))) (cond ((decide (0 ≤ t5)) && (decide (t5 < (↑t0.length : Int)))) (cond ((decide (0 ≤ t5)) && (decide (t5 < (↑t1.length : Int)))) (cond (!(decide ((t0.getD (Int.toNat t5) []) = (t1.getD (Int.toNat t5) [])))) (some ((.bool false),[])) (kf30l1 (t0,t1,(IntKind.i64.wrap (t5 + (1 : Int)))))) none) none) (kf30j4 ()))
theorem f30_4_eq (F : Nat) (Rf30l1 : St → Rz) (Rf30j4 : St → Rz) : ∀ v,aexec VG3830 (Af30 F) (bp Try.f30 116) (ef30l1 v) (kSeq (kc VG3830 Rf30l1 sp10) (kBlock 0 (kSeq (kc VG3830 Rf30j4 []) (kFin VG3830 none (Try.f30).results.toList)))) = f30_4 F (Rf30l1 ∘ ef30l1) (Rf30j4 ∘ ef30j4) v := by
  rintro ⟨t0,t1,t5⟩; kernel_rfl
def f30_5_i : Ty21 → (List (List Int)) × (List (List Int)) × Int := fun (t0,t1,t5) => (t0,t1,t5)
def f30_5 (F : Nat) (kf30j4 : Unit → Rz) : Ty21 → Rz := fun v => loopN (fun k => f30_4 F k kf30j4) F (f30_5_i v)
theorem f30_5_eq (F : Nat) (Rf30j4 : St → Rz) : ∀ v,aexec VG3830 (Af30 F) (bp Try.f30 58) (ef30j3 v) (kBlock 0 (kSeq (kc VG3830 Rf30j4 []) (kFin VG3830 none (Try.f30).results.toList))) = f30_5 F (Rf30j4 ∘ ef30j4) v :=
  loop_cut (by kernel_rfl) (by kernel_rfl) ef30j3 ef30l1 _ f30_5_i (fun k => f30_4 F k (Rf30j4 ∘ ef30j4))
    (by rintro ⟨t0,t1,t5⟩; kernel_rfl) (fun Rf30l1 => f30_4_eq F Rf30l1 Rf30j4)
def f30_6 (F : Nat) (kf30j4 : Unit → Rz) : Ty21 → Rz := f30_5 F kf30j4
theorem f30_6_eq (F : Nat) (Rf30j4 : St → Rz) : ∀ v,aexec VG3830 (Af30 F) (bp Try.f30 29) (ef30j3 v) (kSeq (kc VG3830 Rf30j4 []) (kFin VG3830 none (Try.f30).results.toList)) = f30_6 F (Rf30j4 ∘ ef30j4) v := fun v =>
  (block_in  (by kernel_rfl) _ _).trans (f30_5_eq F Rf30j4 v)
def f30_7 (F : Nat) (kf30j4 : Unit → Rz) : Ty20 → Rz := fun v => f30_3 F (f30_6 F kf30j4) kf30j4 v
theorem f30_7_eq (F : Nat) (Rf30j4 : St → Rz) : ∀ v,aexec VG3830 (Af30 F) (bp Try.f30 14) (ef30j2 v) (kSeq (kc VG3830 Rf30j4 []) (kFin VG3830 none (Try.f30).results.toList)) = f30_7 F (Rf30j4 ∘ ef30j4) v :=
  seq_cut (by kernel_rfl) (by kernel_rfl) ef30j2 ef30j3 _ (fun k => f30_3 F k (Rf30j4 ∘ ef30j4)) (f30_6 F (Rf30j4 ∘ ef30j4))
    (fun Rf30j3 => f30_3_eq F Rf30j3 Rf30j4) (f30_6_eq F Rf30j4)
def f30_8 (F : Nat) : Unit → Rz := fun _ => (some ((.bool true),[]))
theorem f30_8_eq (F : Nat) : ∀ v,aexec VG3830 (Af30 F) (bp Try.f30 15) (ef30j4 v) (kFin VG3830 none (Try.f30).results.toList) = f30_8 F v := by
  intro _; kernel_rfl
def f30_9 (F : Nat) : Ty20 → Rz := fun v => f30_7 F (f30_8 F) v
theorem f30_9_eq (F : Nat) : ∀ v,aexec VG3830 (Af30 F) (bp Try.f30 7) (ef30j2 v) (kFin VG3830 none (Try.f30).results.toList) = f30_9 F v :=
  seq_cut (by kernel_rfl) (by kernel_rfl) ef30j2 ef30j4 _ (fun k => f30_7 F k) (f30_8 F)
    (fun Rf30j4 => f30_7_eq F Rf30j4) (f30_8_eq F)
def f30_10 (F : Nat) : Ty20 → Rz := fun v => f30_2 F (f30_9 F) v
theorem f30_10_eq (F : Nat) : ∀ v,aexec VG3830 (Af30 F) (bp Try.f30 3) (ef30j1 v) (kFin VG3830 none (Try.f30).results.toList) = f30_10 F v :=
  seq_cut (by kernel_rfl) (by kernel_rfl) ef30j1 ef30j2 _ (fun k => f30_2 F k) (f30_9 F)
    (fun Rf30j2 => f30_2_eq F Rf30j2) (f30_9_eq F)
def f30_11 (F : Nat) : Ty20 → Rz := fun v => f30_1 F (f30_10 F) v
theorem f30_11_eq (F : Nat) : ∀ v,aexec VG3830 (Af30 F) (sub (bodyOf Try.f30) []) (ef30_a v) (kFin VG3830 none (Try.f30).results.toList) = f30_11 F v :=
  seq_cut (by kernel_rfl) (by kernel_rfl) ef30_a ef30j1 _ (fun k => f30_1 F k) (f30_10 F)
    (fun Rf30j1 => f30_1_eq F Rf30j1) (f30_10_eq F)
def f30 (F : Nat) : Ty20 → Rz := f30_11 F
theorem f30_body (F : Nat) (a0 : List (List Int)) (a1 : List (List Int)) : abody VG3830 (Af30 F) Try.f30 [(.vs (.rL .i64 a0) 0 1),(.vs (.rL .i64 a1) 0 1)] [] = f30 F (a0,a1) :=
  (abody_in (c := (sub (bodyOf Try.f30) [])) (by kernel_rfl) (s := ef30_a (a0,a1)) (by kernel_rfl)).trans (f30_11_eq F (a0,a1))
def r30 : CRun := fun X H => match X,H with
  | [(.vs (.rL .i64 a0) 0 1),(.vs (.rL .i64 a1) 0 1)],[] => some (true,(.bool (decide (a0 = a1))),[])
  | _,_ => none
theorem s30 (a0 : List (List Int)) (a1 : List (List Int)) (h0 : okV (.vs (.rL .i64 a0) 0 1)) (h1 : okV (.vs (.rL .i64 a1) 0 1)) : ∃ F,f30 F (a0,a1) = some ((.bool (decide (a0 = a1))),[]) := by
  have hl0 := h0.2
  have hl1 := h1.2
  refine ⟨a0.length + 1,?_⟩
  simp only [f30,f30_11,f30_1,f30_10,f30_2,int_bne]
  by_cases hl : a0.length = a1.length
  · rw [cond_neg (by omega)]
    simp only [f30_9,f30_7,f30_3,f30_6,f30_5,f30_5_i]
    refine loopN_ind (fun m s => s = (a0,a1,((a0.length - m : Nat) : Int)) ∧ m ≤ a0.length ∧ ∀ i,i < a0.length - m → a0.getD i [] = a1.getD i []) ?_ _ a0.length _ (by omega) ⟨by simp,Nat.le_refl _,fun i hi => by omega⟩
    rintro m s k ⟨rfl,hm,hi⟩ hk
    simp only [f30_4,dec_and,dec_not]
    cases m with
    | zero =>
      rw [cond_neg (by omega),decide_eq_true (list_eq [] hl fun i h => hi i (by omega))]
      rfl
    | succ m =>
      rw [Int.toNat_natCast,cond_pos (by omega),cond_pos (by omega),cond_pos (by omega)]
      by_cases he : a0.getD (a0.length - (m + 1)) [] = a1.getD (a0.length - (m + 1)) []
      · rw [cond_neg (fun h => h he),i64w (by omega) (by omega),show ((a0.length - (m + 1) : Nat) : Int) + 1 = ((a0.length - m : Nat) : Int) by omega]
        refine hk m _ (by omega) ⟨rfl,by omega,fun i hi' => ?_⟩
        by_cases hh : i < a0.length - (m + 1)
        · exact hi i hh
        · rw [show i = a0.length - (m + 1) by omega]; exact he
      · rw [cond_pos he,decide_eq_false (fun e => he (by rw [e]))]
  · rw [cond_pos (by omega),decide_eq_false (fun e => hl (by rw [e]))]
theorem c30 : CallOk Try.prog G38 30 r30 := callOk_of (V := VG3830) mixed tys eVG3830 (f := 30) (fn := Try.f30) Try.func30 (by kernel_rfl) (c := sub (bodyOf Try.f30) []) (by kernel_rfl) (by
  intro X H r H' h hX hH
  unfold r30 at h; split at h <;> try contradiction
  · simp only [Option.some.injEq,Prod.mk.injEq] at h
    obtain ⟨hp,rfl,rfl⟩ := h
    obtain ⟨F,hF⟩ := s30 _ _ (hX _ (.head _)) (hX _ (.tail _ (.head _)))
    exact ⟨Af30 F,(f30_body F _ _).trans hF⟩)
def lVG3831 : List CEnt := []
def VG3831 : Env := mkEnv T38 G38 lVG3831
theorem eVG3831 : EOk Try.prog VG3831 := eok_mk (by exact trivial)
def Af31 (F : Nat) : Cuts := { F := F,at_ := fun n => match n with | 3031 => some sp16 | 7014 => some sp17 | _ => none,join := fun n => match n with | 1041 => some [(0,.plain),(1,.plain)] | 2039 => some sp10 | 3033 => some sp15 | 4001 => some sp15 | 5025 => some sp15 | 6020 => some sp18 | 7016 => some sp19 | 11001 => some sp18 | 12003 => some [(5,.plain)] | _ => none,fin := (some [(4,(.own 22))]) }
def ef31_a : (List Int) × Int → St := fun (a0,a1) => { tmps := [(0,(.vs (.rI .i64 a0) 0 1)),(1,(.int .i64 a1))],heap := [],next := 0,nt := 39,m := 0 }
def ef31j1 : (List Int) × Int → St := fun (t0,t1) => { tmps := [(0,(.vs (.rI .i64 t0) 0 1)),(1,(.int .i64 t1))],heap := [],next := 0,nt := 39,m := 0 }
def ef31j2 : (List Int) × Int → St := fun (t0,t1) => { tmps := [(0,(.vs (.rI .i64 t0) 0 1)),(1,(.int .i64 t1)),(5,.ns)],heap := [],next := 0,nt := 39,m := 0 }
def ef31j3 : (List Int) × Int × Int → St := fun (t0,t1,t6) => { tmps := [(0,(.vs (.rI .i64 t0) 0 1)),(1,(.int .i64 t1)),(5,.ns),(6,(.int .i64 t6))],heap := [],next := 0,nt := 39,m := 0 }
def ef31l1 : Ty22 → St := fun (t0,t1,t6,x4) => { tmps := [(0,(.vs (.rI .i64 t0) 0 1)),(1,(.int .i64 t1)),(5,(.own 0 0 1)),(6,(.int .i64 t6))],heap := [(0,(.cells x4.length (.rL .i64 x4) true))],next := 1,nt := 39,m := 0 }
def ef31j4 : Ty22 → St := fun (t0,t1,t6,x4) => { tmps := [(0,(.vs (.rI .i64 t0) 0 1)),(1,(.int .i64 t1)),(5,(.own 0 0 1)),(6,(.int .i64 t6))],heap := [(0,(.cells x4.length (.rL .i64 x4) true))],next := 1,nt := 39,m := 0 }
def ef31j5 : Ty22 → St := fun (t0,t1,t6,x4) => { tmps := [(0,(.vs (.rI .i64 t0) 0 1)),(1,(.int .i64 t1)),(5,(.own 0 0 1)),(6,(.int .i64 t6)),(7,.ns)],heap := [(0,(.cells x4.length (.rL .i64 x4) true))],next := 1,nt := 39,m := 0 }
def ef31j6 : Ty23 → St := fun (t0,t1,t6,t8,x5) => { tmps := [(0,(.vs (.rI .i64 t0) 0 1)),(1,(.int .i64 t1)),(5,(.own 0 0 1)),(6,(.int .i64 t6)),(7,.ns),(8,(.int .i64 t8))],heap := [(0,(.cells x5.length (.rL .i64 x5) true))],next := 1,nt := 39,m := 0 }
def ef31l2 : Ty24 → St := fun (t0,t1,t6,t8,x5,x6) => { tmps := [(0,(.vs (.rI .i64 t0) 0 1)),(1,(.int .i64 t1)),(5,(.own 0 0 1)),(6,(.int .i64 t6)),(7,(.own 1 0 1)),(8,(.int .i64 t8))],heap := [(0,(.cells x5.length (.rL .i64 x5) true)),(1,(.cells x6.length (.rI .i64 x6) true))],next := 2,nt := 39,m := 0 }
def ef31j7 : Ty25 → St := fun (t0,t1,t6,x4,x5) => { tmps := [(0,(.vs (.rI .i64 t0) 0 1)),(1,(.int .i64 t1)),(5,(.own 0 0 1)),(6,(.int .i64 t6)),(7,(.own 1 0 1))],heap := [(0,(.cells x4.length (.rL .i64 x4) true)),(1,(.cells x5.length (.rI .i64 x5) true))],next := 2,nt := 39,m := 0 }
def ef31j8 : Ty22 → St := fun (t0,t1,t6,x4) => { tmps := [(0,(.vs (.rI .i64 t0) 0 1)),(1,(.int .i64 t1)),(5,(.own 0 0 1)),(6,(.int .i64 t6))],heap := [(0,(.cells x4.length (.rL .i64 x4) true))],next := 1,nt := 39,m := 0 }
def ef31j9 : (List (List Int)) → St := fun x1 => { tmps := [(5,(.own 0 0 1))],heap := [(0,(.cells x1.length (.rL .i64 x1) true))],next := 1,nt := 39,m := 0 }
def f31_1 (F : Nat) (kf31j1 : (List Int) × Int → Rz) : (List Int) × Int → Rz := fun (a0,a1) => (kf31j1 (a0,a1))
theorem f31_1_eq (F : Nat) (Rf31j1 : St → Rz) : ∀ v,aexec VG3831 (Af31 F) (bp Try.f31 2) (ef31_a v) (kSeq (kc VG3831 Rf31j1 [(0,.plain),(1,.plain)]) (kFin VG3831 (some [(4,(.own 22))]) (Try.f31).results.toList)) = f31_1 F (Rf31j1 ∘ ef31j1) v := by
  rintro ⟨a0,a1⟩; kernel_rfl
def f31_2 (F : Nat) (kf31j2 : (List Int) × Int → Rz) : (List Int) × Int → Rz := fun (t0,t1) => (kf31j2 (t0,t1))
theorem f31_2_eq (F : Nat) (Rf31j2 : St → Rz) : ∀ v,aexec VG3831 (Af31 F) (bp Try.f31 6) (ef31j1 v) (kSeq (kc VG3831 Rf31j2 sp10) (kFin VG3831 (some [(4,(.own 22))]) (Try.f31).results.toList)) = f31_2 F (Rf31j2 ∘ ef31j2) v := by
  rintro ⟨t0,t1⟩; kernel_rfl
def f31_3 (F : Nat) (kf31j3 : (List Int) × Int × Int → Rz) (kf31j9 : (List (List Int)) → Rz) : (List Int) × Int → Rz := fun (t0,t1) => (kf31j3 (t0,t1,(0 : Int)))
theorem f31_3_eq (F : Nat) (Rf31j3 : St → Rz) (Rf31j9 : St → Rz) : ∀ v,aexec VG3831 (Af31 F) (bp Try.f31 28) (ef31j2 v) (kSeq (kc VG3831 Rf31j3 sp15) (kSeq (kc VG3831 Rf31j9 [(5,.plain)]) (kFin VG3831 (some [(4,(.own 22))]) (Try.f31).results.toList))) = f31_3 F (Rf31j3 ∘ ef31j3) (Rf31j9 ∘ ef31j9) v := by
  rintro ⟨t0,t1⟩; kernel_rfl
def f31_4 (F : Nat) (kf31j4 : Ty22 → Rz) (kf31l1 : Ty22 → Rz) (kf31j9 : (List (List Int)) → Rz) : Ty22 → Rz := fun (t0,t1,t6,x4) => (cond (decide (t6 < t1)) (cond (decide (t6 < (6 : Int))) (kf31j4 (t0,t1,t6,x4)) (kf31j9 x4)) (kf31j9 x4))
theorem f31_4_eq (F : Nat) (Rf31j4 : St → Rz) (Rf31l1 : St → Rz) (Rf31j9 : St → Rz) : ∀ v,aexec VG3831 (Af31 F) (bp Try.f31 232) (ef31l1 v) (kSeq (kc VG3831 Rf31j4 sp15) (kSeq (kc VG3831 Rf31l1 sp16) (kBlock 0 (kSeq (kc VG3831 Rf31j9 [(5,.plain)]) (kFin VG3831 (some [(4,(.own 22))]) (Try.f31).results.toList))))) = f31_4 F (Rf31j4 ∘ ef31j4) (Rf31l1 ∘ ef31l1) (Rf31j9 ∘ ef31j9) v := by
  rintro ⟨t0,t1,t6,x4⟩; kernel_rfl
def f31_5 (F : Nat) (kf31j5 : Ty22 → Rz) (kf31j8 : Ty22 → Rz) (kf31l1 : Ty22 → Rz) (kf31j9 : (List (List Int)) → Rz) : Ty22 → Rz := fun (t0,t1,t6,x4) => (kf31j5 (t0,t1,t6,x4))
theorem f31_5_eq (F : Nat) (Rf31j5 : St → Rz) (Rf31j8 : St → Rz) (Rf31l1 : St → Rz) (Rf31j9 : St → Rz) : ∀ v,aexec VG3831 (Af31 F) (bp Try.f31 1864) (ef31j4 v) (kSeq (kc VG3831 Rf31j5 sp18) (kBlock 1 (kSeq (kc VG3831 Rf31j8 sp15) (kSeq (kc VG3831 Rf31l1 sp16) (kBlock 0 (kSeq (kc VG3831 Rf31j9 [(5,.plain)]) (kFin VG3831 (some [(4,(.own 22))]) (Try.f31).results.toList))))))) = f31_5 F (Rf31j5 ∘ ef31j5) (Rf31j8 ∘ ef31j8) (Rf31l1 ∘ ef31l1) (Rf31j9 ∘ ef31j9) v := by
  rintro ⟨t0,t1,t6,x4⟩; kernel_rfl
def f31_6 (F : Nat) (kf31j6 : Ty23 → Rz) (kf31j7 : Ty25 → Rz) (kf31j8 : Ty22 → Rz) (kf31l1 : Ty22 → Rz) (kf31j9 : (List (List Int)) → Rz) : Ty22 → Rz := fun (t0,t1,t6,x4) => (kf31j6 (t0,t1,t6,(0 : Int),x4))
theorem f31_6_eq (F : Nat) (Rf31j6 : St → Rz) (Rf31j7 : St → Rz) (Rf31j8 : St → Rz) (Rf31l1 : St → Rz) (Rf31j9 : St → Rz) : ∀ v,aexec VG3831 (Af31 F) (bp Try.f31 7460) (ef31j5 v) (kSeq (kc VG3831 Rf31j6 sp19) (kSeq (kc VG3831 Rf31j7 sp18) (kBlock 1 (kSeq (kc VG3831 Rf31j8 sp15) (kSeq (kc VG3831 Rf31l1 sp16) (kBlock 0 (kSeq (kc VG3831 Rf31j9 [(5,.plain)]) (kFin VG3831 (some [(4,(.own 22))]) (Try.f31).results.toList)))))))) = f31_6 F (Rf31j6 ∘ ef31j6) (Rf31j7 ∘ ef31j7) (Rf31j8 ∘ ef31j8) (Rf31l1 ∘ ef31l1) (Rf31j9 ∘ ef31j9) v := by
  rintro ⟨t0,t1,t6,x4⟩; kernel_rfl
def f31_7 (F : Nat) (kf31l2 : Ty24 → Rz) (kf31j7 : Ty25 → Rz) (kf31j8 : Ty22 → Rz) (kf31l1 : Ty22 → Rz) (kf31j9 : (List (List Int)) → Rz) : Ty24 → Rz := fun (t0,t1,t6,t8,x5,x6) => (cond (decide (t8 < (↑t0.length : Int))) (cond ((decide (0 ≤ t8)) && (decide (t8 < (↑t0.length : Int)))) (cond ((t0.getD (Int.toNat t8) 0) == t6) (cond (decide ((x6.length + 1) < 1073741824)) (kf31l2 (t0,t1,t6,(IntKind.i64.wrap (t8 + (1 : Int))),x5,(x6 ++ [t8]))) none) (kf31l2 (t0,t1,t6,(IntKind.i64.wrap (t8 + (1 : Int))),x5,x6))) none) (kf31j7 (t0,t1,t6,x5,x6)))
theorem f31_7_eq (F : Nat) (Rf31l2 : St → Rz) (Rf31j7 : St → Rz) (Rf31j8 : St → Rz) (Rf31l1 : St → Rz) (Rf31j9 : St → Rz) : ∀ v,aexec VG3831 (Af31 F) (bp Try.f31 29844) (ef31l2 v) (kSeq (kc VG3831 Rf31l2 sp17) (kBlock 2 (kSeq (kc VG3831 Rf31j7 sp18) (kBlock 1 (kSeq (kc VG3831 Rf31j8 sp15) (kSeq (kc VG3831 Rf31l1 sp16) (kBlock 0 (kSeq (kc VG3831 Rf31j9 [(5,.plain)]) (kFin VG3831 (some [(4,(.own 22))]) (Try.f31).results.toList))))))))) = f31_7 F (Rf31l2 ∘ ef31l2) (Rf31j7 ∘ ef31j7) (Rf31j8 ∘ ef31j8) (Rf31l1 ∘ ef31l1) (Rf31j9 ∘ ef31j9) v := by
  rintro ⟨t0,t1,t6,t8,x5,x6⟩; kernel_rfl
def f31_8_i : Ty23 → (List Int) × Int × Int × Int × (List (List Int)) × (List Int) := fun (t0,t1,t6,t8,x5) => (t0,t1,t6,t8,x5,[])
def f31_8 (F : Nat) (kf31j7 : Ty25 → Rz) (kf31j8 : Ty22 → Rz) (kf31l1 : Ty22 → Rz) (kf31j9 : (List (List Int)) → Rz) : Ty23 → Rz := fun v => loopN (fun k => f31_7 F k kf31j7 kf31j8 kf31l1 kf31j9) F (f31_8_i v)
theorem f31_8_eq (F : Nat) (Rf31j7 : St → Rz) (Rf31j8 : St → Rz) (Rf31l1 : St → Rz) (Rf31j9 : St → Rz) : ∀ v,aexec VG3831 (Af31 F) (bp Try.f31 14922) (ef31j6 v) (kBlock 2 (kSeq (kc VG3831 Rf31j7 sp18) (kBlock 1 (kSeq (kc VG3831 Rf31j8 sp15) (kSeq (kc VG3831 Rf31l1 sp16) (kBlock 0 (kSeq (kc VG3831 Rf31j9 [(5,.plain)]) (kFin VG3831 (some [(4,(.own 22))]) (Try.f31).results.toList)))))))) = f31_8 F (Rf31j7 ∘ ef31j7) (Rf31j8 ∘ ef31j8) (Rf31l1 ∘ ef31l1) (Rf31j9 ∘ ef31j9) v :=
  loop_cut (by kernel_rfl) (by kernel_rfl) ef31j6 ef31l2 _ f31_8_i (fun k => f31_7 F k (Rf31j7 ∘ ef31j7) (Rf31j8 ∘ ef31j8) (Rf31l1 ∘ ef31l1) (Rf31j9 ∘ ef31j9))
    (by rintro ⟨t0,t1,t6,t8,x5⟩; kernel_rfl) (fun Rf31l2 => f31_7_eq F Rf31l2 Rf31j7 Rf31j8 Rf31l1 Rf31j9)
def f31_9 (F : Nat) (kf31j7 : Ty25 → Rz) (kf31j8 : Ty22 → Rz) (kf31l1 : Ty22 → Rz) (kf31j9 : (List (List Int)) → Rz) : Ty23 → Rz := f31_8 F kf31j7 kf31j8 kf31l1 kf31j9
theorem f31_9_eq (F : Nat) (Rf31j7 : St → Rz) (Rf31j8 : St → Rz) (Rf31l1 : St → Rz) (Rf31j9 : St → Rz) : ∀ v,aexec VG3831 (Af31 F) (bp Try.f31 7461) (ef31j6 v) (kSeq (kc VG3831 Rf31j7 sp18) (kBlock 1 (kSeq (kc VG3831 Rf31j8 sp15) (kSeq (kc VG3831 Rf31l1 sp16) (kBlock 0 (kSeq (kc VG3831 Rf31j9 [(5,.plain)]) (kFin VG3831 (some [(4,(.own 22))]) (Try.f31).results.toList))))))) = f31_9 F (Rf31j7 ∘ ef31j7) (Rf31j8 ∘ ef31j8) (Rf31l1 ∘ ef31l1) (Rf31j9 ∘ ef31j9) v := fun v =>
  (block_in  (by kernel_rfl) _ _).trans (f31_8_eq F Rf31j7 Rf31j8 Rf31l1 Rf31j9 v)
def f31_10 (F : Nat) (kf31j7 : Ty25 → Rz) (kf31j8 : Ty22 → Rz) (kf31l1 : Ty22 → Rz) (kf31j9 : (List (List Int)) → Rz) : Ty22 → Rz := fun v => f31_6 F (f31_9 F kf31j7 kf31j8 kf31l1 kf31j9) kf31j7 kf31j8 kf31l1 kf31j9 v
theorem f31_10_eq (F : Nat) (Rf31j7 : St → Rz) (Rf31j8 : St → Rz) (Rf31l1 : St → Rz) (Rf31j9 : St → Rz) : ∀ v,aexec VG3831 (Af31 F) (bp Try.f31 3730) (ef31j5 v) (kSeq (kc VG3831 Rf31j7 sp18) (kBlock 1 (kSeq (kc VG3831 Rf31j8 sp15) (kSeq (kc VG3831 Rf31l1 sp16) (kBlock 0 (kSeq (kc VG3831 Rf31j9 [(5,.plain)]) (kFin VG3831 (some [(4,(.own 22))]) (Try.f31).results.toList))))))) = f31_10 F (Rf31j7 ∘ ef31j7) (Rf31j8 ∘ ef31j8) (Rf31l1 ∘ ef31l1) (Rf31j9 ∘ ef31j9) v :=
  seq_cut (by kernel_rfl) (by kernel_rfl) ef31j5 ef31j6 _ (fun k => f31_6 F k (Rf31j7 ∘ ef31j7) (Rf31j8 ∘ ef31j8) (Rf31l1 ∘ ef31l1) (Rf31j9 ∘ ef31j9)) (f31_9 F (Rf31j7 ∘ ef31j7) (Rf31j8 ∘ ef31j8) (Rf31l1 ∘ ef31l1) (Rf31j9 ∘ ef31j9))
    (fun Rf31j6 => f31_6_eq F Rf31j6 Rf31j7 Rf31j8 Rf31l1 Rf31j9) (f31_9_eq F Rf31j7 Rf31j8 Rf31l1 Rf31j9)
def f31_11 (F : Nat) (kf31j8 : Ty22 → Rz) (kf31l1 : Ty22 → Rz) (kf31j9 : (List (List Int)) → Rz) : Ty25 → Rz := fun (t0,t1,t6,x4,x5) => (cond (decide ((x4.length + 1) < 1073741824)) (kf31j8 (t0,t1,t6,(x4 ++ [x5]))) none)
theorem f31_11_eq (F : Nat) (Rf31j8 : St → Rz) (Rf31l1 : St → Rz) (Rf31j9 : St → Rz) : ∀ v,aexec VG3831 (Af31 F) (bp Try.f31 3731) (ef31j7 v) (kBlock 1 (kSeq (kc VG3831 Rf31j8 sp15) (kSeq (kc VG3831 Rf31l1 sp16) (kBlock 0 (kSeq (kc VG3831 Rf31j9 [(5,.plain)]) (kFin VG3831 (some [(4,(.own 22))]) (Try.f31).results.toList)))))) = f31_11 F (Rf31j8 ∘ ef31j8) (Rf31l1 ∘ ef31l1) (Rf31j9 ∘ ef31j9) v := by
  rintro ⟨t0,t1,t6,x4,x5⟩; kernel_rfl
def f31_12 (F : Nat) (kf31j8 : Ty22 → Rz) (kf31l1 : Ty22 → Rz) (kf31j9 : (List (List Int)) → Rz) : Ty22 → Rz := fun v => f31_10 F (f31_11 F kf31j8 kf31l1 kf31j9) kf31j8 kf31l1 kf31j9 v
theorem f31_12_eq (F : Nat) (Rf31j8 : St → Rz) (Rf31l1 : St → Rz) (Rf31j9 : St → Rz) : ∀ v,aexec VG3831 (Af31 F) (bp Try.f31 1865) (ef31j5 v) (kBlock 1 (kSeq (kc VG3831 Rf31j8 sp15) (kSeq (kc VG3831 Rf31l1 sp16) (kBlock 0 (kSeq (kc VG3831 Rf31j9 [(5,.plain)]) (kFin VG3831 (some [(4,(.own 22))]) (Try.f31).results.toList)))))) = f31_12 F (Rf31j8 ∘ ef31j8) (Rf31l1 ∘ ef31l1) (Rf31j9 ∘ ef31j9) v :=
  seq_cut (by kernel_rfl) (by kernel_rfl) ef31j5 ef31j7 _ (fun k => f31_10 F k (Rf31j8 ∘ ef31j8) (Rf31l1 ∘ ef31l1) (Rf31j9 ∘ ef31j9)) (f31_11 F (Rf31j8 ∘ ef31j8) (Rf31l1 ∘ ef31l1) (Rf31j9 ∘ ef31j9))
    (fun Rf31j7 => f31_10_eq F Rf31j7 Rf31j8 Rf31l1 Rf31j9) (f31_11_eq F Rf31j8 Rf31l1 Rf31j9)
def f31_13 (F : Nat) (kf31j8 : Ty22 → Rz) (kf31l1 : Ty22 → Rz) (kf31j9 : (List (List Int)) → Rz) : Ty22 → Rz := fun v => f31_5 F (f31_12 F kf31j8 kf31l1 kf31j9) kf31j8 kf31l1 kf31j9 v
theorem f31_13_eq (F : Nat) (Rf31j8 : St → Rz) (Rf31l1 : St → Rz) (Rf31j9 : St → Rz) : ∀ v,aexec VG3831 (Af31 F) (bp Try.f31 932) (ef31j4 v) (kBlock 1 (kSeq (kc VG3831 Rf31j8 sp15) (kSeq (kc VG3831 Rf31l1 sp16) (kBlock 0 (kSeq (kc VG3831 Rf31j9 [(5,.plain)]) (kFin VG3831 (some [(4,(.own 22))]) (Try.f31).results.toList)))))) = f31_13 F (Rf31j8 ∘ ef31j8) (Rf31l1 ∘ ef31l1) (Rf31j9 ∘ ef31j9) v :=
  seq_cut (by kernel_rfl) (by kernel_rfl) ef31j4 ef31j5 _ (fun k => f31_5 F k (Rf31j8 ∘ ef31j8) (Rf31l1 ∘ ef31l1) (Rf31j9 ∘ ef31j9)) (f31_12 F (Rf31j8 ∘ ef31j8) (Rf31l1 ∘ ef31l1) (Rf31j9 ∘ ef31j9))
    (fun Rf31j5 => f31_5_eq F Rf31j5 Rf31j8 Rf31l1 Rf31j9) (f31_12_eq F Rf31j8 Rf31l1 Rf31j9)
def f31_14 (F : Nat) (kf31j8 : Ty22 → Rz) (kf31l1 : Ty22 → Rz) (kf31j9 : (List (List Int)) → Rz) : Ty22 → Rz := f31_13 F kf31j8 kf31l1 kf31j9
theorem f31_14_eq (F : Nat) (Rf31j8 : St → Rz) (Rf31l1 : St → Rz) (Rf31j9 : St → Rz) : ∀ v,aexec VG3831 (Af31 F) (bp Try.f31 466) (ef31j4 v) (kSeq (kc VG3831 Rf31j8 sp15) (kSeq (kc VG3831 Rf31l1 sp16) (kBlock 0 (kSeq (kc VG3831 Rf31j9 [(5,.plain)]) (kFin VG3831 (some [(4,(.own 22))]) (Try.f31).results.toList))))) = f31_14 F (Rf31j8 ∘ ef31j8) (Rf31l1 ∘ ef31l1) (Rf31j9 ∘ ef31j9) v := fun v =>
  (block_in  (by kernel_rfl) _ _).trans (f31_13_eq F Rf31j8 Rf31l1 Rf31j9 v)
def f31_15 (F : Nat) (kf31l1 : Ty22 → Rz) (kf31j9 : (List (List Int)) → Rz) : Ty22 → Rz := fun (t0,t1,t6,x4) => (kf31l1 (t0,t1,(IntKind.i64.wrap (t6 + (1 : Int))),x4))
theorem f31_15_eq (F : Nat) (Rf31l1 : St → Rz) (Rf31j9 : St → Rz) : ∀ v,aexec VG3831 (Af31 F) (bp Try.f31 467) (ef31j8 v) (kSeq (kc VG3831 Rf31l1 sp16) (kBlock 0 (kSeq (kc VG3831 Rf31j9 [(5,.plain)]) (kFin VG3831 (some [(4,(.own 22))]) (Try.f31).results.toList)))) = f31_15 F (Rf31l1 ∘ ef31l1) (Rf31j9 ∘ ef31j9) v := by
  rintro ⟨t0,t1,t6,x4⟩; kernel_rfl
def f31_16 (F : Nat) (kf31l1 : Ty22 → Rz) (kf31j9 : (List (List Int)) → Rz) : Ty22 → Rz := fun v => f31_14 F (f31_15 F kf31l1 kf31j9) kf31l1 kf31j9 v
theorem f31_16_eq (F : Nat) (Rf31l1 : St → Rz) (Rf31j9 : St → Rz) : ∀ v,aexec VG3831 (Af31 F) (bp Try.f31 233) (ef31j4 v) (kSeq (kc VG3831 Rf31l1 sp16) (kBlock 0 (kSeq (kc VG3831 Rf31j9 [(5,.plain)]) (kFin VG3831 (some [(4,(.own 22))]) (Try.f31).results.toList)))) = f31_16 F (Rf31l1 ∘ ef31l1) (Rf31j9 ∘ ef31j9) v :=
  seq_cut (by kernel_rfl) (by kernel_rfl) ef31j4 ef31j8 _ (fun k => f31_14 F k (Rf31l1 ∘ ef31l1) (Rf31j9 ∘ ef31j9)) (f31_15 F (Rf31l1 ∘ ef31l1) (Rf31j9 ∘ ef31j9))
    (fun Rf31j8 => f31_14_eq F Rf31j8 Rf31l1 Rf31j9) (f31_15_eq F Rf31l1 Rf31j9)
def f31_17 (F : Nat) (kf31l1 : Ty22 → Rz) (kf31j9 : (List (List Int)) → Rz) : Ty22 → Rz := fun v => f31_4 F (f31_16 F kf31l1 kf31j9) kf31l1 kf31j9 v
theorem f31_17_eq (F : Nat) (Rf31l1 : St → Rz) (Rf31j9 : St → Rz) : ∀ v,aexec VG3831 (Af31 F) (bp Try.f31 116) (ef31l1 v) (kSeq (kc VG3831 Rf31l1 sp16) (kBlock 0 (kSeq (kc VG3831 Rf31j9 [(5,.plain)]) (kFin VG3831 (some [(4,(.own 22))]) (Try.f31).results.toList)))) = f31_17 F (Rf31l1 ∘ ef31l1) (Rf31j9 ∘ ef31j9) v :=
  seq_cut (by kernel_rfl) (by kernel_rfl) ef31l1 ef31j4 _ (fun k => f31_4 F k (Rf31l1 ∘ ef31l1) (Rf31j9 ∘ ef31j9)) (f31_16 F (Rf31l1 ∘ ef31l1) (Rf31j9 ∘ ef31j9))
    (fun Rf31j4 => f31_4_eq F Rf31j4 Rf31l1 Rf31j9) (f31_16_eq F Rf31l1 Rf31j9)
def f31_18_i : (List Int) × Int × Int → (List Int) × Int × Int × (List (List Int)) := fun (t0,t1,t6) => (t0,t1,t6,[])
def f31_18 (F : Nat) (kf31j9 : (List (List Int)) → Rz) : (List Int) × Int × Int → Rz := fun v => loopN (fun k => f31_17 F k kf31j9) F (f31_18_i v)
theorem f31_18_eq (F : Nat) (Rf31j9 : St → Rz) : ∀ v,aexec VG3831 (Af31 F) (bp Try.f31 58) (ef31j3 v) (kBlock 0 (kSeq (kc VG3831 Rf31j9 [(5,.plain)]) (kFin VG3831 (some [(4,(.own 22))]) (Try.f31).results.toList))) = f31_18 F (Rf31j9 ∘ ef31j9) v :=
  loop_cut (by kernel_rfl) (by kernel_rfl) ef31j3 ef31l1 _ f31_18_i (fun k => f31_17 F k (Rf31j9 ∘ ef31j9))
    (by rintro ⟨t0,t1,t6⟩; kernel_rfl) (fun Rf31l1 => f31_17_eq F Rf31l1 Rf31j9)
def f31_19 (F : Nat) (kf31j9 : (List (List Int)) → Rz) : (List Int) × Int × Int → Rz := f31_18 F kf31j9
theorem f31_19_eq (F : Nat) (Rf31j9 : St → Rz) : ∀ v,aexec VG3831 (Af31 F) (bp Try.f31 29) (ef31j3 v) (kSeq (kc VG3831 Rf31j9 [(5,.plain)]) (kFin VG3831 (some [(4,(.own 22))]) (Try.f31).results.toList)) = f31_19 F (Rf31j9 ∘ ef31j9) v := fun v =>
  (block_in  (by kernel_rfl) _ _).trans (f31_18_eq F Rf31j9 v)
def f31_20 (F : Nat) (kf31j9 : (List (List Int)) → Rz) : (List Int) × Int → Rz := fun v => f31_3 F (f31_19 F kf31j9) kf31j9 v
theorem f31_20_eq (F : Nat) (Rf31j9 : St → Rz) : ∀ v,aexec VG3831 (Af31 F) (bp Try.f31 14) (ef31j2 v) (kSeq (kc VG3831 Rf31j9 [(5,.plain)]) (kFin VG3831 (some [(4,(.own 22))]) (Try.f31).results.toList)) = f31_20 F (Rf31j9 ∘ ef31j9) v :=
  seq_cut (by kernel_rfl) (by kernel_rfl) ef31j2 ef31j3 _ (fun k => f31_3 F k (Rf31j9 ∘ ef31j9)) (f31_19 F (Rf31j9 ∘ ef31j9))
    (fun Rf31j3 => f31_3_eq F Rf31j3 Rf31j9) (f31_19_eq F Rf31j9)
def f31_21 (F : Nat) : (List (List Int)) → Rz := fun x1 => (some ((.own 0 0 1),[(.cells x1.length (.rL .i64 x1) true)]))
theorem f31_21_eq (F : Nat) : ∀ v,aexec VG3831 (Af31 F) (bp Try.f31 15) (ef31j9 v) (kFin VG3831 (some [(4,(.own 22))]) (Try.f31).results.toList) = f31_21 F v := by
  intro x1; kernel_rfl
def f31_22 (F : Nat) : (List Int) × Int → Rz := fun v => f31_20 F (f31_21 F) v
theorem f31_22_eq (F : Nat) : ∀ v,aexec VG3831 (Af31 F) (bp Try.f31 7) (ef31j2 v) (kFin VG3831 (some [(4,(.own 22))]) (Try.f31).results.toList) = f31_22 F v :=
  seq_cut (by kernel_rfl) (by kernel_rfl) ef31j2 ef31j9 _ (fun k => f31_20 F k) (f31_21 F)
    (fun Rf31j9 => f31_20_eq F Rf31j9) (f31_21_eq F)
def f31_23 (F : Nat) : (List Int) × Int → Rz := fun v => f31_2 F (f31_22 F) v
theorem f31_23_eq (F : Nat) : ∀ v,aexec VG3831 (Af31 F) (bp Try.f31 3) (ef31j1 v) (kFin VG3831 (some [(4,(.own 22))]) (Try.f31).results.toList) = f31_23 F v :=
  seq_cut (by kernel_rfl) (by kernel_rfl) ef31j1 ef31j2 _ (fun k => f31_2 F k) (f31_22 F)
    (fun Rf31j2 => f31_2_eq F Rf31j2) (f31_22_eq F)
def f31_24 (F : Nat) : (List Int) × Int → Rz := fun v => f31_1 F (f31_23 F) v
theorem f31_24_eq (F : Nat) : ∀ v,aexec VG3831 (Af31 F) (sub (bodyOf Try.f31) []) (ef31_a v) (kFin VG3831 (some [(4,(.own 22))]) (Try.f31).results.toList) = f31_24 F v :=
  seq_cut (by kernel_rfl) (by kernel_rfl) ef31_a ef31j1 _ (fun k => f31_1 F k) (f31_23 F)
    (fun Rf31j1 => f31_1_eq F Rf31j1) (f31_23_eq F)
def f31 (F : Nat) : (List Int) × Int → Rz := f31_24 F
theorem f31_body (F : Nat) (a0 : List Int) (a1 : Int) : abody VG3831 (Af31 F) Try.f31 [(.vs (.rI .i64 a0) 0 1),(.int .i64 a1)] [] = f31 F (a0,a1) :=
  (abody_in (c := (sub (bodyOf Try.f31) [])) (by kernel_rfl) (s := ef31_a (a0,a1)) (by kernel_rfl)).trans (f31_24_eq F (a0,a1))
def r31 : CRun := fun X H => match X,H with
  | [(.vs (.rI .i64 a0) 0 1),(.int .i64 a1)],[] => some ((decide (a0.length < 1073741000)),(.own 0 0 1),[(.cells (Reg.shares a0 a1).length (.rL .i64 (Reg.shares a0 a1)) true)])
  | _,_ => none
theorem s31 (a0 : List Int) (a1 : Int) (hp : ((decide (a0.length < 1073741000))) = true) (h0 : okV (.vs (.rI .i64 a0) 0 1)) (h1 : okV (.int .i64 a1)) : ∃ F,f31 F (a0,a1) = some ((.own 0 0 1),[(.cells (Reg.shares a0 a1).length (.rL .i64 (Reg.shares a0 a1)) true)]) := by
  simp only [decide_eq_true_eq] at hp
  have hF : ∃ F,F = a0.length + 8 := ⟨_,rfl⟩
  obtain ⟨F,hF⟩ := hF
  refine ⟨F,?_⟩
  simp only [f31,f31_24,f31_1,f31_23,f31_2,f31_22,f31_20,f31_3,f31_19,f31_18,f31_18_i]
  refine loopN_from (fun h => (a0,a1,(h : Int),(List.range h).map fun (h : Nat) => Reg.ofHost a0 (h : Int))) (min a1.toNat 6) (by rfl) (fun h hh k => ?_) (fun k => ?_) _ (by omega)
  · simp only [f31_17,f31_4]
    rw [cond_pos (by omega),cond_pos (by omega)]
    simp only [f31_16,f31_14,f31_13,f31_5,f31_12,f31_10,f31_6,f31_9,f31_8,f31_8_i]
    refine loopN_from (fun i => (a0,a1,(h : Int),(i : Int),(List.range h).map (fun (h : Nat) => Reg.ofHost a0 (h : Int)),Reg.ohTo a0 (h : Int) i)) a0.length (by rfl) (fun i hi k' => ?_) (fun k' => ?_) _ (by omega)
    · have hle := Reg.ohTo_len_le a0 (h : Int) i
      simp only [f31_7,dec_and,int_beq,Reg.ohTo_succ]
      rw [Int.toNat_natCast,cond_pos (by omega),cond_pos (by omega),i64w (by omega) (by omega)]
      by_cases he : a0.getD i 0 = (h : Int)
      · rw [cond_pos he,cond_pos (by omega),if_pos he]; rfl
      · rw [cond_neg he,if_neg he,List.append_nil]; rfl
    · simp only [f31_7,f31_11,f31_15]
      rw [cond_neg (by omega),cond_pos (by simp; omega),i64w (by omega) (by omega),List.range_succ,List.map_append]
      rfl
  · simp only [f31_17,f31_4,f31_21]
    by_cases h6 : ((min a1.toNat 6 : Nat) : Int) < a1
    · rw [cond_pos h6,cond_neg (by omega)]; rfl
    · rw [cond_neg h6]; rfl
theorem c31 : CallOk Try.prog G38 31 r31 := callOk_of (V := VG3831) mixed tys eVG3831 (f := 31) (fn := Try.f31) Try.func31 (by kernel_rfl) (c := sub (bodyOf Try.f31) []) (by kernel_rfl) (by
  intro X H r H' h hX hH
  unfold r31 at h; split at h <;> try contradiction
  · simp only [Option.some.injEq,Prod.mk.injEq] at h
    obtain ⟨hp,rfl,rfl⟩ := h
    obtain ⟨F,hF⟩ := s31 _ _ hp (hX _ (.head _)) (hX _ (.tail _ (.head _)))
    exact ⟨Af31 F,(f31_body F _ _).trans hF⟩)
end Go.Am
end