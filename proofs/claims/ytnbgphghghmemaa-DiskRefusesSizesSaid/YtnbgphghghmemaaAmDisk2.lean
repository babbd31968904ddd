/- The specification's disk, in plain terms; what the functions that compare disks compute. -/
import Derived.Test.YtnbgphghghmemaaAmDisk
set_option linter.unusedVariables false
set_option linter.unusedSimpArgs false
namespace Go.Dk
open Go Go.Am

structure R where
  s : List (List (List Int))
  off : Bool
  left : Int
def fT (x : List (List Int)) : List Int := x.getD 0 []
def fN (x : List (List Int)) : List Int := x.getD 1 []
def fD (x : List (List Int)) : Bool := (x.getD 2 []).getD 0 0 == 1
def fW (x : List (List Int)) : Bool := (x.getD 3 []).getD 0 0 == 1
def R.at (r : R) (i : Int) : List (List Int) := r.s.getD i.toNat []
def ris (r : R) (i : Int) : Bool := cond (decide (i ≥ 0)) (decide (i < (r.s.length : Int))) false
def rstep (r : R) : R × Int := cond (r.left == 0) ({ r with off := true }, 22) (cond (decide (r.left > 0)) ({ r with left := IntKind.i64.wrap (r.left - 1) }, 0) (r, 0))
def rread (r : R) (i : Int) : List Int × Int := cond r.off ([], 22) (cond (!ris r i) ([], 1) (cond (fD (r.at i)) (fN (r.at i), 0) (fT (r.at i), 0)))
def wput (l : List (List (List Int))) (i : Nat) (t : List Int) : List (List (List Int)) := (l.set i (tput (l.getD i []) 1 t)).set i (tput ((l.set i (tput (l.getD i []) 1 t)).getD i []) 2 [1])
def rwrite (r : R) (i : Int) (t : List Int) : R × Int := cond r.off (r, 22) (cond (!ris r i) (r, 1) (cond ((t.length : Int) != 64) (r, 1) (cond ((rstep r).2 != 0) (rstep r) ({ (rstep r).1 with s := wput (rstep r).1.s i.toNat t }, 0))))
def settled (x : List (List Int)) (p : Int) : List (List Int) := [cond (!fW x) ((fN x).take (clamp p) ++ (fT x).drop (clamp p)) (fT x), [], [0], [cond (fW x) 1 0]]
def rsettle (r : R) (i p : Int) : R := { r with s := r.s.set i.toNat (settled (r.at i) p) }
def rlen (r : R) (i : Int) : Bool := decide ((fT (r.at i)).length = 64 ∧ (fN (r.at i)).length = 64)
def rtrip (r : R) (n : Int) : R := { r with left := if n > -1 then n else -1 }
def rrot (r : R) (i b : Int) : R × Int := cond (!ris r i) (r, 1) (cond (decide (b < 0)) (r, 1) (cond (decide (b > 511)) (r, 1)
  ({ r with s := r.s.set i.toNat (tput (r.at i) 0 ((fT (r.at i)).set (Int.tdiv b 8).toNat (ibits .xor .u8 ((fT (r.at i)).getD (Int.tdiv b 8).toNat 0) (bit b)))) }, 0)))
def rwear (r : R) (i : Int) : R × Int := cond (!ris r i) (r, 1) ({ r with s := r.s.set i.toNat (tput (r.at i) 3 [1]) }, 0)
def GoodX (x : List (List Int)) : Prop := (fT x).length = 64 ∧ (fD x = true → (fN x).length = 64)
def rfine (r : R) : Bool := decide (r.s.length < 8000) && r.s.all fun x => decide ((fT x).length = 64) && (!(fD x) || decide ((fN x).length = 64))
def rflushK (r : R) (k : Nat) : R := (List.range k).foldl (fun e (i : Nat) => cond (fD (e.at i)) (rsettle e i 64) e) r
def rflush (r : R) : R × Int := cond r.off (r, 22) (cond ((rstep r).2 != 0) (rstep r) (rflushK (rstep r).1 r.s.length, 0))
def rmountK (picks : List Int) (r : R) (k : Nat) : R × Nat := (List.range k).foldl (fun (e : R × Nat) (i : Nat) => cond (fD (e.1.at i)) (rsettle e.1 i (picks.getD e.2 64), e.2 + 1) e) (r, 0)
def rmount (r : R) (picks : List Int) : R := { (rmountK picks r r.s.length).1 with off := false, left := -1 }
def rimage (r : R) : List (List Int) := r.s.map fT
def rlist (p : List (List Int) → Bool) (l : List (List (List Int))) (k : Nat) : List Int := ((List.range k).filter fun i => p (l.getD i [])).map fun (i : Nat) => (i : Int)
def rpending (r : R) : List Int := rlist fD r.s r.s.length
def rworn (r : R) : List Int := rlist fW r.s r.s.length
def rnew (n : Int) : R := ⟨List.replicate n.toNat [List.replicate 64 0, [], [0], [0]], false, -1⟩
def new (n : Int) : D := ⟨n.toNat, List.replicate (n.toNat * 64) 0, [], [], false, -1⟩
def image (d : D) : List (List Int) := (List.range d.n).map fun i => sec d.blk i
def full (c : Int) : List Int := List.replicate 64 c
def text (t : List Int) : List Int := cond (decide (0 < t.length)) (t ++ List.replicate (64 - t.length) (t.getD (t.length - 1) 0)) t
def op (d : D) (k i b : Int) (t p : List Int) : D × List Int × Int :=
  cond (k == 1) ((write d i (text t)).1, [], (write d i (text t)).2) (cond (k == 2) (d, read d i) (cond (k == 3) ((flush d).1, [], (flush d).2) (cond (k == 4) (trip d i, [], 0)
  (cond (k == 5) (mount d p, [], 0) (cond (k == 6) ((rot d i b).1, [], (rot d i b).2) (cond (k == 7) ((wear d i).1, [], (wear d i).2) (d, [], 0)))))))
def rop (r : R) (k i b : Int) (t p : List Int) : R × List Int × Int :=
  cond (k == 1) ((rwrite r i (text t)).1, [], (rwrite r i (text t)).2) (cond (k == 2) (r, rread r i) (cond (k == 3) ((rflush r).1, [], (rflush r).2) (cond (k == 4) (rtrip r i, [], 0)
  (cond (k == 5) (rmount r p, [], 0) (cond (k == 6) ((rrot r i b).1, [], (rrot r i b).2) (cond (k == 7) ((rwear r i).1, [], (rwear r i).2) (r, [], 0)))))))
def same (d : D) (r : R) : Bool := cond (image d == rimage r) (cond (pending d == rpending r) (cond (wornl d == rworn r) (cond ((d.n : Int) == (r.s.length : Int)) ((!d.off) == (!r.off)) false) false) false) false

theorem clamp_le (p : Int) : clamp p ≤ 64 := by
  unfold clamp; split <;> (try split) <;> omega
theorem ris_iff {r : R} {i : Int} : ris r i = true ↔ 0 ≤ i ∧ i < (r.s.length : Int) := by
  unfold ris
  by_cases h : i ≥ 0
  · rw [cond_pos h, decide_eq_true_iff]; omega
  · rw [cond_neg h]; constructor
    · intro h; cases h
    · intro h'; omega
theorem getD_set {α : Type} (l : List α) (i j : Nat) (x z : α) : (l.set i x).getD j z = if i = j ∧ j < l.length then x else l.getD j z := by
  simp only [List.getD_eq_getElem?_getD, List.getElem?_set]
  by_cases h : i = j
  · subst h
    by_cases h2 : i < l.length
    · simp [h2]
    · simp [h2]
  · simp [h]
def RGood (r : R) : Prop := r.s.length < 8000 ∧ ∀ i, i < r.s.length → GoodX (r.s.getD i [])
theorem rfine_iff {r : R} : rfine r = true ↔ RGood r := by
  unfold rfine RGood
  rw [Bool.and_eq_true, decide_eq_true_iff, List.all_eq_true]
  refine and_congr_right fun _ => ⟨fun h i hi => ?_, fun h x hx => ?_⟩
  · have := h _ (show r.s.getD i [] ∈ r.s by rw [List.getD_eq_getElem?_getD, List.getElem?_eq_getElem hi]; exact List.getElem_mem _)
    simp only [Bool.and_eq_true, Bool.or_eq_true, decide_eq_true_eq, Bool.not_eq_true'] at this
    exact ⟨this.1, fun hd => this.2.elim (fun h => by rw [hd] at h; cases h) id⟩
  · obtain ⟨i, hi, rfl⟩ := List.mem_iff_getElem.1 hx
    have := h i hi
    rw [List.getD_eq_getElem?_getD, List.getElem?_eq_getElem hi] at this
    simp only [Bool.and_eq_true, Bool.or_eq_true, decide_eq_true_eq, Bool.not_eq_true']
    refine ⟨this.1, ?_⟩
    cases hd : fD r.s[i] with
    | false => exact .inl rfl
    | true => exact .inr (this.2 hd)
theorem settled_good {x : List (List Int)} (h : GoodX x) (hd : fD x = true) (p : Int) : GoodX (settled x p) := by
  have hc := clamp_le p
  refine ⟨?_, fun h => by cases h⟩
  simp only [settled, fT, List.getD_cons_zero]
  cases hw : fW x
  · show ((fN x).take (clamp p) ++ (fT x).drop (clamp p)).length = 64
    rw [List.length_append, List.length_take, List.length_drop, h.1, h.2 hd]; omega
  · exact h.1
theorem set_good {r : R} (h : RGood r) {i : Nat} {x : List (List Int)} (hx : GoodX x) : RGood { r with s := r.s.set i x } := by
  refine ⟨by simpa using h.1, fun j hj => ?_⟩
  simp only [getD_set]
  rw [List.length_set] at hj
  split
  · exact hx
  · exact h.2 j hj
theorem rsettle_good {r : R} (h : RGood r) {i : Nat} (hi : i < r.s.length) (hd : fD (r.at i) = true) (p : Int) : RGood (rsettle r i p) :=
  set_good h (settled_good (by simpa [R.at] using h.2 i hi) hd p)
theorem rsettle_len (r : R) (i p : Int) : (rsettle r i p).s.length = r.s.length := by simp [rsettle]
theorem rlen_of {r : R} (h : RGood r) {i : Nat} (hi : i < r.s.length) (hd : fD (r.at i) = true) : rlen r i = true := by
  have := h.2 i hi
  simp only [rlen, decide_eq_true_eq]
  simp only [R.at, Int.toNat_natCast] at hd ⊢
  exact ⟨this.1, this.2 hd⟩
theorem rflushK_succ (r : R) (k : Nat) : rflushK r (k + 1) = cond (fD ((rflushK r k).at k)) (rsettle (rflushK r k) k 64) (rflushK r k) := by
  simp only [rflushK, List.range_succ, List.foldl_append, List.foldl_cons, List.foldl_nil]
theorem rmountK_succ (p : List Int) (r : R) (k : Nat) : rmountK p r (k + 1) = cond (fD ((rmountK p r k).1.at k)) (rsettle (rmountK p r k).1 k (p.getD (rmountK p r k).2 64), (rmountK p r k).2 + 1) (rmountK p r k) := by
  simp only [rmountK, List.range_succ, List.foldl_append, List.foldl_cons, List.foldl_nil]
theorem rflushK_good {r : R} (h : RGood r) : ∀ k, k ≤ r.s.length → RGood (rflushK r k) ∧ (rflushK r k).s.length = r.s.length
  | 0, _ => ⟨h, rfl⟩
  | k + 1, hk => by
    obtain ⟨h1, h2⟩ := rflushK_good h k (by omega)
    rw [rflushK_succ]
    cases hd : fD ((rflushK r k).at k)
    · exact ⟨h1, h2⟩
    · exact ⟨rsettle_good h1 (by omega) hd _, by rw [cond_true, rsettle_len, h2]⟩
theorem rmountK_good {p : List Int} {r : R} (h : RGood r) : ∀ k, k ≤ r.s.length → RGood (rmountK p r k).1 ∧ (rmountK p r k).1.s.length = r.s.length ∧ (rmountK p r k).2 ≤ k
  | 0, _ => ⟨h, rfl, Nat.le_refl _⟩
  | k + 1, hk => by
    obtain ⟨h1, h2, h3⟩ := rmountK_good (p := p) h k (by omega)
    rw [rmountK_succ]
    cases hd : fD ((rmountK p r k).1.at k)
    · exact ⟨h1, h2, by rw [cond_false]; omega⟩
    · exact ⟨rsettle_good h1 (by omega) hd _, by rw [cond_true, rsettle_len, h2], by rw [cond_true]; show (rmountK p r k).2 + 1 ≤ k + 1; omega⟩
theorem rstep_same (r : R) : (rstep r).1.s = r.s := by
  unfold rstep
  cases (r.left == 0)
  · cases (decide (r.left > 0)) <;> rfl
  · rfl
theorem rlist_succ (p : List (List Int) → Bool) (l : List (List (List Int))) (k : Nat) : rlist p l (k + 1) = cond (p (l.getD k [])) (rlist p l k ++ [(k : Int)]) (rlist p l k) := by
  simp only [rlist, List.range_succ, List.filter_append, List.map_append]
  cases h : p (l.getD k []) <;> simp only [List.filter_cons, List.filter_nil, h] <;> simp
theorem rlist_len (p : List (List Int) → Bool) (l : List (List (List Int))) (k : Nat) : (rlist p l k).length ≤ k := by
  simp only [rlist, List.length_map]
  exact Nat.le_trans (List.length_filter_le _ _) (by simp)
theorem take_succ_map {α β : Type} (f : α → β) (l : List α) (k : Nat) (z : α) (h : k < l.length) : (l.take (k + 1)).map f = (l.take k).map f ++ [f (l.getD k z)] := by
  rw [List.take_add_one, List.getElem?_eq_getElem h, List.map_append, List.getD_eq_getElem?_getD, List.getElem?_eq_getElem h]; rfl
end Go.Dk
