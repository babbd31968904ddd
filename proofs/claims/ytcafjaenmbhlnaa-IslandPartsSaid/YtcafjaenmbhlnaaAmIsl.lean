/- Part of a proof about the functions of the given program. -/
import Derived.Test.YtcafjaenmbhlnaaAmWf
import Derived.Shelf.SortM.Plain
import Derived.Shelf.SortM.SortNone
import Derived.Test.YtcafjaenmbhlnaaAmReg3
set_option linter.unusedSimpArgs false
set_option linter.unusedVariables false
section
/- slices.Sort of integers in place: the kit's contract, as a contract of the machine's. -/
namespace Go.Am
open Go Go.Proofs Go.RowKit Go.Maps Go.Sort Go.Shelf
variable {P : Program} {w : World}
def sortI (l : List Int) : List Int := l.mergeSort fun x y => decide (x ≤ y)
theorem sortI_len (l : List Int) : (sortI l).length = l.length := List.length_mergeSort _
theorem sortI_perm (l : List Int) : (sortI l).Perm l := List.mergeSort_perm _ _
theorem Sim.below {U : Oth} {G : Nat → Option AV} {w0 : World} {W0 : Nat → Prop} {ρ : Rho} {s : St} {a : Act} {w' : World} (h : Sim U G w0 W0 ρ s a w) (hb : Below w.heap.size w w') : Sim U G w0 W0 ρ s a w' :=
  h.step (fun b hlt _ => hb.block b hlt) (fun b hb => .inl hb) (fun _ _ h => h) hb.size ⟨hb.os, hb.output, hb.tape⟩
    (fun id n r b hl => (h.bl id n r b hl).keep (fun b hlt _ => hb.block b hlt) (fun b hb => .inl hb) (fun _ _ h => h) hb.size (fun L _ hlt => hb.block _ hlt) (fun L _ c hc => ⟨hb.block _ (h.xk.l _ _ hc), rfl⟩)) h.sep h.dom h.su (h.xk.step hb.size (fun _ _ h => h) fun id n r c L h1 h2 => .inl ⟨id, n, r, c, L, h1, h2, rfl⟩)
def runSort : List AV → List Blk → Option (Bool × AV × List Blk)
  | [.own 0 0 1], [.cells n (.rI .i64 xs) true] => some (decide (xs.length < 1073741824), .tup .nil, [.cells n (.rI .i64 (sortI xs)) true])
  | _, _ => none
theorem grow_below (w : World) (os : Array Obj) : Below w.heap.size w (grow w os) :=
  ⟨rfl, rfl, rfl, by simp, fun k hk => heap_grow_old w os hk⟩
theorem putRow_at {w : World} {b off : Nat} {d : Array Int} {c : Array Value} {t : TypeId} {fr : Nat × Nat} (hb : w.heap[b]? = some (.cells c t fr)) : (putRow (Value.int .i64) w b off d).heap[b]? = some (.cells (putCells (Value.int .i64) off d c) t fr) := by
  simp [putRow, mapBlock, Array.getElem?_modify, hb, onCells]
theorem putRow_other {w : World} {b off : Nat} {d : Array Int} {k : Nat} (hk : k ≠ b) : (putRow (Value.int .i64) w b off d).heap[k]? = w.heap[k]? := by
  simp [putRow, mapBlock, Array.getElem?_modify, Ne.symm hk]
theorem sort_ok {G : Nat → Option AV} {ρs : Ren} (Ly : SlLaysM.n5 P ρs) : CallOk P G (ρs.f 5) runSort where
  there := by
    obtain ⟨nm, h1, h2⟩ := Ly.f5
    exact ⟨_, h2, h1, rfl⟩
  does := by
    intro A H r H' hr U w ρ args hU hs hA
    unfold runSort at hr
    split at hr <;> try contradiction
    rename_i n xs
    simp only [Option.some.injEq, Prod.mk.injEq, decide_eq_true_eq] at hr
    obtain ⟨hp, rfl, rfl⟩ := hr
    match args, hA with
    | ⟨[x]⟩, hA =>
      have hx : Rep w (Wr U ρ (tagH 0 [.cells n (.rI .i64 xs) true])) ρ (.own 0 0 1) x := hA.1
      have b0 := hs.bl 0 n (.rI .i64 xs) true rfl
      have hsz : xs.length = n := b0.size
      cases hx with
      | own0 _ _ a hl =>
        have hn : n = 0 := by
          rcases b0.lies with ⟨_, h2⟩ | ⟨L, h1, _⟩
          · exact h2
          · rw [hl] at h1; cases h1
        have hxs : xs = [] := List.eq_nil_of_length_eq_zero (by omega)
        subst hxs
        refine (AnyM.slices_Sort_int_none Ly a 0 w).mono ?_
        rintro e w' ⟨rfl, rfl⟩
        refine ⟨_, ρ, rfl, ?_, .tup .nil #[] rfl (fun j hj => by cases hj)⟩
        have e : sortI [] = [] := by simp [sortI]
        rw [e]; exact hs
      | own _ _ _ l cap L hL hn hk hcap hS h0 hm =>
        obtain ⟨q1, q2, q3, q4⟩ : L.n = n ∧ (∀ j, j < n → ∃ v, w.cell? ⟨L.b, L.base + j, none⟩ = some v ∧ Rep w (Wr U ρ (hst [.cells n (.rI .i64 xs) true]).heap) ρ ((AV.rI .i64 xs).cell j) v) ∧ Mine w L ∧ L.b < w.heap.size := by
          rcases b0.lies with ⟨h1, _⟩ | ⟨L', h1, h2, h3, h4, h5⟩
          · rw [h1] at hL; cases hL
          · rw [h1] at hL; cases hL; exact ⟨h2, h3, h4 rfl rfl, h5⟩
        have hl : l = xs.length := by omega
        subst hl
        obtain ⟨c, t, fr, m1, m2, m3, m4⟩ := q3
        have hcell : ∀ j, j < xs.length → w.cell? ⟨L.b, L.base + j, none⟩ = some (.int .i64 (xs.getD j 0)) := fun j hj => by
          obtain ⟨v, g1, g2⟩ := q2 j (by omega)
          have g3 : Rep w (Wr U ρ (hst [.cells n (.rI .i64 xs) true]).heap) ρ (.int .i64 (xs.getD j 0)) v := g2
          cases g3; exact g1
        have hhas : ∀ x ∈ xs, IntKind.i64.has x := fun x hx => by
          obtain ⟨j, hj, rfl⟩ := List.mem_iff_getElem.1 hx
          obtain ⟨v, g1, g2⟩ := q2 j (by omega)
          have g3 : Rep w (Wr U ρ (hst [.cells n (.rI .i64 xs) true]).heap) ρ (.int .i64 (xs.getD j 0)) v := g2
          cases g3 with | int _ _ h => rw [List.getD_eq_getElem?_getD, List.getElem?_eq_getElem hj] at h; exact h
        have hH : Holds (Value.int .i64) w L.b L.base xs.toArray := fun j hj => by
          have hj' : j < xs.length := by simpa using hj
          refine ⟨?_, ?_⟩
          · rw [hcell j hj', List.getD_eq_getElem?_getD, List.getElem?_eq_getElem hj']
            simp [hj']
          · have := m4 (L.base + j) (by have := m3.2; omega)
            exact this
        refine (AnyM.slices_Sort_int Ly L.b L.base cap xs w hH q4 hm).mono ?_
        rintro e w' ⟨rfl, k, os, rfl⟩
        have hlen : (sortI xs).length = n := by rw [sortI_len]; exact hsz
        have hA0 : Holds (Value.int .i64) (Go.Sort.ahead w k) L.b L.base xs.toArray := hH
        have hR := hs.rewrite (id := 0) (n := n) (r := .rI .i64 xs) (r' := .rI .i64 (sortI xs)) (L := L) (w' := putRow (Value.int .i64) (Go.Sort.ahead w k) L.b L.base (sortI xs).toArray) rfl hL ⟨rfl, rfl, rfl⟩ trivial hlen (by rw [size_putRow]; rfl)
          (fun b hb => by rw [putRow_other hb]; rfl)
          (by
            refine ⟨_, t, fr, putRow_at (c := c) m1, ⟨?_, m2.2⟩, m3, fun j hj => ?_⟩
            · simp only [putCells, Array.size_mapIdx]; exact m2.1
            · rw [frozen?_putRow]; exact m4 j hj)
          (fun j hj => by
            refine ⟨.int .i64 ((sortI xs).getD j 0), ?_, ?_⟩
            · have := cell?_putRow (Value.int .i64) (Go.Sort.ahead w k) L.b L.base xs.toArray (sortI xs).toArray hA0 (by simp [sortI_len]) j (by simp; omega)
              rw [this, List.getD_eq_getElem?_getD, List.getElem?_eq_getElem (by omega)]
              simp [show j < (sortI xs).length by omega]
            · refine .int .i64 _ (hhas _ ((sortI_perm xs).mem_iff.1 ?_))
              rw [List.getD_eq_getElem?_getD, List.getElem?_eq_getElem (by omega)]
              exact List.getElem_mem _)
          (fun t ht => by cases ht)
        have hG := hR.1.below (grow_below _ os)
        refine ⟨_, ρ, rfl, ?_, .tup .nil #[] rfl (fun j hj => by cases hj)⟩
        refine Sim.eqv (V := { T := [], G := G, E := fun _ => none }) hG ⟨fun d => rfl, fun i => ?_, fun i => ?_, rfl, rfl, rfl⟩
        · cases i <;> rfl
        · cases i <;> rfl
end Go.Am
end
section
/- Plain laws for the regions: moves, shares and needed hosts. -/
namespace Go.Am.Reg
open Go Go.Am
def mvAt (a b : List Int) (d : Nat) : List Int := if a.getD d 0 = b.getD d 0 then [] else [(d : Int), a.getD d 0, b.getD d 0]
def compact : List Int → List Int
  | [] => []
  | [x] => [x]
  | x :: y :: l => if x = y then compact (y :: l) else x :: compact (y :: l)
def compactZ (l : List Int) : List Int := compact l ++ List.replicate (l.length - (compact l).length) 0
def owned (g o : List Int) : List Int := (g.filter fun d => decide (0 ≤ d) && (decide (d < (o.length : Int)) && decide (0 ≤ o.getD d.toNat 0))).map fun d => o.getD d.toNat 0
def need (g o : List Int) : List Int := compact (sortI (owned g o))
theorem take_snoc {g : List Int} {i : Nat} (hi : i < g.length) : g.take (i + 1) = g.take i ++ [g.getD i 0] := by
  rw [List.take_add_one, List.getElem?_eq_getElem hi, List.getD_eq_getElem?_getD, List.getElem?_eq_getElem hi]; rfl
theorem mem_compact {x : Int} : ∀ {l : List Int}, x ∈ compact l ↔ x ∈ l
  | [] => Iff.rfl
  | [_] => Iff.rfl
  | a :: b :: l => by
    have ih := mem_compact (x := x) (l := b :: l)
    by_cases h : a = b
    · subst h
      rw [compact, if_pos rfl, ih]; simp
    · rw [compact, if_neg h, List.mem_cons, ih, List.mem_cons (a := x) (b := a)]
theorem compact_lt : ∀ {l : List Int}, l.Pairwise (· ≤ ·) → (compact l).Pairwise (· < ·)
  | [], _ => .nil
  | [_], _ => List.pairwise_singleton _ _
  | a :: b :: l, h => by
    obtain ⟨h1, h2⟩ := List.pairwise_cons.1 h
    by_cases hab : a = b
    · rw [compact, if_pos hab]; exact compact_lt h2
    · rw [compact, if_neg hab]
      refine List.pairwise_cons.2 ⟨fun x hx => ?_, compact_lt h2⟩
      have hx' := mem_compact.1 hx
      have hb := h1 b (by simp)
      rcases List.mem_cons.1 hx' with rfl | hx''
      · omega
      · have := (List.pairwise_cons.1 h2).1 x hx''
        omega
theorem lt_unique : ∀ {a b : List Int}, a.Pairwise (· < ·) → b.Pairwise (· < ·) → (∀ x, x ∈ a ↔ x ∈ b) → a = b
  | [], [], _, _, _ => rfl
  | [], y :: b, _, _, h => absurd ((h y).2 (by simp)) (by simp)
  | x :: a, [], _, _, h => absurd ((h x).1 (by simp)) (by simp)
  | x :: a, y :: b, ha, hb, h => by
    obtain ⟨a1, a2⟩ := List.pairwise_cons.1 ha
    obtain ⟨b1, b2⟩ := List.pairwise_cons.1 hb
    have e : x = y := by
      have p := (h x).1 (by simp)
      have q := (h y).2 (by simp)
      rcases List.mem_cons.1 p with p | p
      · exact p
      rcases List.mem_cons.1 q with q | q
      · exact q.symm
      have := b1 x p
      have := a1 y q
      omega
    subst e
    congr 1
    refine lt_unique a2 b2 fun z => ?_
    have hz := h z
    simp only [List.mem_cons] at hz
    constructor
    · intro hz1
      rcases hz.1 (.inr hz1) with e | e
      · have := a1 z hz1; omega
      · exact e
    · intro hz1
      rcases hz.2 (.inr hz1) with e | e
      · have := b1 z hz1; omega
      · exact e
theorem sortI_le (l : List Int) : (sortI l).Pairwise (· ≤ ·) := by
  have := List.pairwise_mergeSort (le := fun (x y : Int) => decide (x ≤ y)) (fun a b c h1 h2 => by simp only [decide_eq_true_eq] at *; omega) (fun a b => by simp only [Bool.or_eq_true, decide_eq_true_eq]; omega) l
  exact this.imp fun h => by simpa using h
theorem compact_len : ∀ (l : List Int), (compact l).length ≤ l.length
  | [] => Nat.le_refl _
  | [_] => Nat.le_refl _
  | a :: b :: l => by
    have ih := compact_len (b :: l)
    by_cases h : a = b
    · rw [compact, if_pos h]; simp only [List.length_cons] at *; omega
    · rw [compact, if_neg h]; simp only [List.length_cons] at *; omega
theorem ins_at {L : List Int} (hL : L.Pairwise (· < ·)) {x : Int} {k : Nat} (hk : k ≤ L.length) (h1 : ∀ j, j < k → L.getD j 0 < x) (h2 : k < L.length → x < L.getD k 0) : (L.take k ++ [x] ++ L.drop k).Pairwise (· < ·) := by
  have hd : L = L.take k ++ L.drop k := (List.take_append_drop k L).symm
  rw [hd] at hL
  obtain ⟨p1, p2, p3⟩ := List.pairwise_append.1 hL
  have ht : ∀ a ∈ L.take k, a < x := fun a ha => by
    obtain ⟨j, hj, rfl⟩ := List.mem_iff_getElem.1 ha
    rw [List.length_take] at hj
    have := h1 j (by omega)
    rw [List.getD_eq_getElem?_getD, List.getElem?_eq_getElem (by omega)] at this
    rw [List.getElem_take]; exact this
  have hdr : ∀ b ∈ L.drop k, x < b := fun b hb => by
    cases hdk : L.drop k with
    | nil => rw [hdk] at hb; cases hb
    | cons y t =>
      have hlen : k < L.length := by
        have := congrArg List.length hdk
        rw [List.length_drop, List.length_cons] at this; omega
      have hy : L.getD k 0 = y := by
        have e : (L.drop k)[0]? = some y := by rw [hdk]; rfl
        rw [List.getElem?_drop, Nat.add_zero] at e
        rw [List.getD_eq_getElem?_getD, e]; rfl
      have hxy := h2 hlen
      rw [hy] at hxy
      rw [hdk] at hb p2
      rcases List.mem_cons.1 hb with rfl | hb
      · exact hxy
      · have := (List.pairwise_cons.1 p2).1 b hb
        omega
  refine List.pairwise_append.2 ⟨List.pairwise_append.2 ⟨p1, List.pairwise_singleton _ _, fun a ha b hb => ?_⟩, p2, fun a ha b hb => ?_⟩
  · rw [List.mem_singleton.1 hb]; exact ht a ha
  · rcases List.mem_append.1 ha with ha | ha
    · have := ht a ha; have := hdr b hb; omega
    · rw [List.mem_singleton.1 ha]; exact hdr b hb
theorem compact_snoc (x : Int) : ∀ (l : List Int) (y : Int), compact (l ++ [y] ++ [x]) = compact (l ++ [y]) ++ (if x = y then [] else [x])
  | [], y => by
    show compact [y, x] = _
    by_cases h : x = y
    · subst h; rw [if_pos rfl, compact, if_pos rfl]; rfl
    · rw [if_neg h, compact, if_neg (Ne.symm h)]; rfl
  | z :: l, y => by
    have ih := compact_snoc x l y
    have key : ∀ (w : Int) (t u : List Int), compact (w :: t ++ [x]) = compact (w :: t) ++ u → compact (z :: (w :: t) ++ [x]) = compact (z :: w :: t) ++ u := fun w t u h => by
      show compact (z :: w :: (t ++ [x])) = _
      rw [compact, compact]
      have h' : compact (w :: (t ++ [x])) = compact (w :: t) ++ u := h
      by_cases hz : z = w
      · rw [if_pos hz, if_pos hz, h']
      · rw [if_neg hz, if_neg hz, h']; rfl
    cases l with
    | nil => exact key y [] _ ih
    | cons w l => exact key w (l ++ [y]) _ ih
theorem compact_take {a : List Int} {i : Nat} (h0 : 0 < i) (hi : i < a.length) : compact (a.take (i + 1)) = compact (a.take i) ++ (if a.getD i 0 = a.getD (i - 1) 0 then [] else [a.getD i 0]) := by
  obtain ⟨j, rfl⟩ : ∃ j, i = j + 1 := ⟨i - 1, by omega⟩
  rw [take_snoc hi, take_snoc (show j < a.length by omega), compact_snoc]; rfl
theorem compactZ_of {l x : List Int} {t : Nat} (hx : x.length = l.length) (ht : t = (compact l).length) (hp : x.take t = compact l) :
    x.take t ++ ((List.replicate (x.length - t) (0 : Int)).take (min (x.length - t) (x.length - t))) ++ x.drop (t + (min (x.length - t) (x.length - t))) = compactZ l := by
  have hle := compact_len l
  rw [hp, Nat.min_self, List.take_of_length_le (by simp), List.drop_of_length_le (by omega), List.append_nil, compactZ, hx, ht]
theorem compactZ_take {l : List Int} {t : Nat} (ht : t = (compact l).length) : (compactZ l).take t = compact l := by
  rw [compactZ, ht, List.take_left']; rfl
theorem compactZ_self {l : List Int} (h : compact l = l) : compactZ l = l := by
  rw [compactZ, h, Nat.sub_self]; simp
theorem compactZ_len (l : List Int) : (compactZ l).length = l.length := by
  have := compact_len l
  rw [compactZ, List.length_append, List.length_replicate]; omega
end Go.Am.Reg
end
section
/- Package island: what its functions compute, in plain Lean. -/
namespace Go.Am.Isl
open Go Go.Am
def pos (l : List Int) (n : Int) : Nat → Nat
  | 0 => 0
  | k + 1 => if l.getD k 0 > n then pos l n k else k + 1
def ins (l : List Int) (n : Int) : List Int := if l.any (fun y => y == n) = true then l else l.take (pos l n l.length) ++ [n] ++ l.drop (pos l n l.length)
def set (l : List Int) : List Int := l.foldl ins []
def meets (l link : List Int) : Bool := link.any fun x => l.any fun y => y == x
def step1 (s link out : List Int) : List Int := link.foldl (fun out x => if meets out link = true ∧ s.any (fun y => y == x) = true then ins out x else out) out
def round (s : List Int) (links : List (List Int)) (out : List Int) : List Int := links.foldl (fun out l => step1 s l out) out
def clsN (s : List Int) (links : List (List Int)) : Nat → List Int → List Int
  | 0, out => out
  | n + 1, out => if (round s links out).length = out.length then round s links out else clsN s links n (round s links out)
def cls (s : List Int) (links : List (List Int)) (x : Int) : List Int := clsN s links s.length [x]
def clssF (s : List Int) (links : List (List Int)) (st : List (List Int) × List Int) (x : Int) : List (List Int) × List Int :=
  if st.2.any (fun y => y == x) = true then st else (st.1 ++ [cls s links x], (cls s links x).foldl ins st.2)
def clss (s : List Int) (links : List (List Int)) : List (List Int) := (s.foldl (clssF s links) ([], [])).1
def nums (n : Nat) : List Int := (List.range n).map fun (i : Nat) => (i : Int)
def idxL (i : Int) (l : List (List Int)) : Int := Reg.idx (fun g => g.any fun y => y == i) l
def groups (n : Int) (links : List (List Int)) : List (List Int) := if n < 1 ∨ n > 4096 then [] else clss (nums n.toNat) links
def of (n : Int) (g : List (List Int)) : List Int := if n < 1 ∨ n > 4096 then [] else (List.range n.toNat).map fun (i : Nat) => idxL (i : Int) g
def merge (g links : List (List Int)) : List (List Int) := clss (set g.flatten) (g ++ links)
def split (g : List Int) (links : List (List Int)) : List (List Int) := clss (set g) links
def del (l : List Int) (x : Int) : List Int := l.filter fun y => !(y == x)
def delZ (l : List Int) (x : Int) : List Int := del l x ++ List.replicate (l.length - (del l x).length) 0
def cut (g : List Int) (links : List (List Int)) : List Int := (set g).filter fun x => decide ((clss (set g) links).length < (clss (del (set g) x) links).length)
def link (l : List Int) (n : Int) (i : Nat) : List Int := (List.range (1 + Reg.at_ l (4 * (i : Int)) 3).toNat).map fun (k : Nat) =>
  if Reg.at_ l (4 * (i : Int) + 1 + (k : Int)) (n + 2) > n then -1 else Reg.at_ l (4 * (i : Int) + 1 + (k : Int)) (n + 2)
def some (l : List Int) (n : Int) : List (List Int) := (List.range (min ((l.length + 3) / 4) 10)).map fun (i : Nat) => link l n i
def inc : List Int → Bool
  | x :: y :: l => decide (x < y) && inc (y :: l)
  | _ => true
theorem pos_le (l : List Int) (n : Int) : ∀ k, pos l n k ≤ k
  | 0 => Nat.le_refl _
  | k + 1 => by
    unfold pos; split
    · exact Nat.le_succ_of_le (pos_le l n k)
    · exact Nat.le_refl _
theorem nums_len (n : Nat) : (nums n).length = n := by simp [nums]
theorem some_len (l : List Int) (n : Int) : (some l n).length ≤ 10 := by simp [some]; omega
def someTo (l : List Int) (n : Int) (i : Nat) : List (List Int) := (List.range i).map fun (i : Nat) => link l n i
theorem someTo_succ (l : List Int) (n : Int) (i : Nat) : someTo l n (i + 1) = someTo l n i ++ [link l n i] := by simp [someTo, List.range_succ]
theorem someTo_len (l : List Int) (n : Int) (i : Nat) : (someTo l n i).length = i := by simp [someTo]
def elt (l : List Int) (n : Int) (i k : Nat) : Int := if Reg.at_ l (4 * (i : Int) + 1 + (k : Int)) (n + 2) > n then -1 else Reg.at_ l (4 * (i : Int) + 1 + (k : Int)) (n + 2)
def linkTo (l : List Int) (n : Int) (i k : Nat) : List Int := (List.range k).map fun (k : Nat) => elt l n i k
theorem linkTo_succ (l : List Int) (n : Int) (i k : Nat) : linkTo l n i (k + 1) = linkTo l n i k ++ [elt l n i k] := by simp [linkTo, List.range_succ]
theorem linkTo_len (l : List Int) (n : Int) (i k : Nat) : (linkTo l n i k).length = k := by simp [linkTo]
theorem link_eq (l : List Int) (n : Int) (i : Nat) : link l n i = linkTo l n i (1 + Reg.at_ l (4 * (i : Int)) 3).toNat := rfl
abbrev Ents := List (List Int × List Int)
def par (es : Ents) (x : Int) : Int := (mget (mzero (.one .i64)) es [x]).getD 0 0
inductive Steps : Ents → Int → Ents → Int → Prop
  | base (es : Ents) (x : Int) (h : par es x = x) : Steps es x es x
  | step (es : Ents) (x : Int) (es' : Ents) (r : Int) (h : par es x ≠ x) (ht : Steps (mput es [x] [par es (par es x)]) (par (mput es [x] [par es (par es x)]) x) es' r) : Steps es x es' r
open Classical in
noncomputable def fok (es : Ents) (x : Int) : Bool := decide (∃ es' r, Steps es x es' r)
open Classical in
noncomputable def fe (es : Ents) (x : Int) : Ents := if h : ∃ es' r, Steps es x es' r then h.choose else es
open Classical in
noncomputable def fv (es : Ents) (x : Int) : Int := if h : ∃ es' r, Steps es x es' r then h.choose_spec.choose else x
theorem Steps.det {es : Ents} {x : Int} {e1 e2 : Ents} {r1 r2 : Int} (h1 : Steps es x e1 r1) (h2 : Steps es x e2 r2) : e1 = e2 ∧ r1 = r2 := by
  induction h1 with
  | base es x h => cases h2 with
    | base => exact ⟨rfl, rfl⟩
    | step _ _ _ _ h' => exact absurd h h'
  | step es x es' r h ht ih => cases h2 with
    | base _ _ h' => exact absurd h' h
    | step _ _ _ _ _ ht' => exact ih ht'
theorem Steps.eqs {es : Ents} {x : Int} {e1 : Ents} {r1 : Int} (h : Steps es x e1 r1) : fe es x = e1 ∧ fv es x = r1 ∧ fok es x = true := by
  have he : ∃ es' r, Steps es x es' r := ⟨e1, r1, h⟩
  refine ⟨?_, ?_, ?_⟩
  · unfold fe; rw [dif_pos he]; exact (he.choose_spec.choose_spec.det h).1
  · unfold fv; rw [dif_pos he]; exact (he.choose_spec.choose_spec.det h).2
  · unfold fok; simp [he]
end Go.Am.Isl
end