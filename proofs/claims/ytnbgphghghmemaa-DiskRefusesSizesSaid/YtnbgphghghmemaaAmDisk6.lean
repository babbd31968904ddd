/- Rot, twice. -/
import Derived.Test.YtnbgphghghmemaaAmDisk4
set_option linter.unusedVariables false
set_option linter.unusedSimpArgs false
namespace Go.Dk
open Go Go.Am

def Bytes (l : List Int) : Prop := ∀ y ∈ l, 0 ≤ y ∧ y ≤ 255
theorem Bytes.app {a b : List Int} (h : Bytes a) (h' : Bytes b) : Bytes (a ++ b) := fun y hy => (List.mem_append.1 hy).elim (h y) (h' y)
theorem Bytes.take {a : List Int} (h : Bytes a) (n : Nat) : Bytes (a.take n) := fun y hy => h y (List.mem_of_mem_take hy)
theorem Bytes.drop {a : List Int} (h : Bytes a) (n : Nat) : Bytes (a.drop n) := fun y hy => h y (List.mem_of_mem_drop hy)
theorem Bytes.set {a : List Int} (h : Bytes a) (n : Nat) {v : Int} (hv : 0 ≤ v ∧ v ≤ 255) : Bytes (a.set n v) := fun y hy => by
  rcases List.mem_or_eq_of_mem_set hy with h1 | h1
  · exact h y h1
  · rw [h1]; exact hv
theorem Bytes.getD {a : List Int} (h : Bytes a) (n : Nat) : 0 ≤ a.getD n 0 ∧ a.getD n 0 ≤ 255 := by
  rw [List.getD_eq_getElem?_getD]
  by_cases hn : n < a.length
  · rw [List.getElem?_eq_getElem hn]; exact h _ (List.getElem_mem _)
  · rw [List.getElem?_eq_none (by omega)]; decide
theorem Bytes.text {t : List Int} (h : Bytes t) : Bytes (text t) := by
  unfold Dk.text
  cases decide (0 < t.length)
  · exact h
  · exact h.app fun y hy => by rw [List.eq_of_mem_replicate hy]; exact h.getD _
theorem u8_range (x : Int) : 0 ≤ IntKind.u8.wrap x ∧ IntKind.u8.wrap x ≤ 255 := by rw [u8mod]; omega
theorem xor8_range (x y : Int) : 0 ≤ ibits .xor .u8 x y ∧ ibits .xor .u8 x y ≤ 255 := u8_range _
def BX (x : List (List Int)) : Prop := Bytes (fT x) ∧ Bytes (fN x)
def BR (r : R) : Prop := ∀ i, BX (r.s.getD i [])
theorem BX.settled {x : List (List Int)} (h : BX x) (p : Int) : BX (settled x p) := by
  refine ⟨?_, fun y hy => by cases hy⟩
  simp only [Dk.settled, fT, List.getD_cons_zero]
  cases (!fW x)
  · exact h.1
  · exact (h.2.take _).app (h.1.drop _)
theorem BR.set {r : R} (h : BR r) (i : Nat) {x : List (List Int)} (hx : BX x) : BR { r with s := r.s.set i x } := fun j => by
  simp only [getD_set]
  split
  · exact hx
  · exact h j
theorem BX.put {x : List (List Int)} (h : BX x) (c : Nat) {f : List Int} (hf : Bytes f) : BX (tput x c f) := by
  refine ⟨?_, ?_⟩
  · simp only [fT]; rw [tput_get]; split
    · exact hf
    · exact h.1
  · simp only [fN]; rw [tput_get]; split
    · exact hf
    · exact h.2
theorem BR.same {r r' : R} (h : BR r) (e : r'.s = r.s) : BR r' := fun i => by rw [e]; exact h i
theorem BR.settle {r : R} (h : BR r) (i p : Int) : BR (rsettle r i p) := h.set _ ((h _).settled p)
theorem BR.flushK {r : R} (h : BR r) : ∀ k, BR (rflushK r k)
  | 0 => h
  | k + 1 => by
    have ih := h.flushK k
    rw [rflushK_succ]
    cases fD ((rflushK r k).at k)
    · exact ih
    · exact ih.settle _ _
theorem BR.mountK {r : R} (h : BR r) (p : List Int) : ∀ k, BR (rmountK p r k).1
  | 0 => h
  | k + 1 => by
    have ih := h.mountK p k
    rw [rmountK_succ]
    cases fD ((rmountK p r k).1.at k)
    · exact ih
    · exact ih.settle _ _
theorem one_bytes : Bytes [1] := fun y hy => by rw [List.mem_singleton] at hy; rw [hy]; decide
theorem BR.write {r : R} (h : BR r) (i : Int) {t : List Int} (ht : Bytes t) : BR (rwrite r i t).1 := by
  have h1 : BR (rstep r).1 := h.same (rstep_same r)
  simp only [rwrite]
  cases r.off
  · cases (!ris r i)
    · cases ((t.length : Int) != 64)
      · cases ((rstep r).2 != 0)
        · have h2 := h1.set i.toNat ((h1 i.toNat).put 1 ht)
          exact (h2.set i.toNat ((h2 i.toNat).put 2 one_bytes))
        · exact h1
      · exact h
    · exact h
  · exact h
theorem BR.op {r : R} (h : BR r) (k i b : Int) {t : List Int} (p : List Int) (ht : Bytes t) : BR (rop r k i b t p).1 := by
  simp only [rop]
  cases (k == 1)
  · cases (k == 2)
    · cases (k == 3)
      · cases (k == 4)
        · cases (k == 5)
          · cases (k == 6)
            · cases (k == 7)
              · exact h
              · simp only [cond_true, cond_false, rwear]
                cases (!ris r i)
                · exact h.set _ ((h i.toNat).put 3 one_bytes)
                · exact h
            · simp only [cond_true, cond_false, rrot]
              cases (!ris r i)
              · cases decide (b < 0)
                · cases decide (b > 511)
                  · exact h.set _ ((h i.toNat).put 0 ((h i.toNat).1.set _ (xor8_range _ _)))
                  · exact h
                · exact h
              · exact h
          · exact (h.mountK p r.s.length).same rfl
        · exact h.same rfl
      · simp only [cond_true, cond_false, rflush]
        have h1 : BR (rstep r).1 := h.same (rstep_same r)
        cases r.off
        · cases ((rstep r).2 != 0)
          · exact h1.flushK _
          · exact h1
        · exact h
    · exact h
  · exact h.write i ht.text
theorem new_bytes (n : Int) : BR (rnew n) := fun i => by
  simp only [rnew]
  rw [List.getD_eq_getElem?_getD, List.getElem?_replicate]
  split
  · exact ⟨fun y hy => by rw [List.eq_of_mem_replicate hy]; decide, fun y hy => by cases hy⟩
  · exact ⟨fun y hy => (by cases (show y ∈ ([] : List Int) from hy)), fun y hy => (by cases (show y ∈ ([] : List Int) from hy))⟩
theorem op_bytes {xs : List (List (List Int))} {n : Nat} (h : okV (.vs (.rT [.int .i64, .int .i64, .int .i64, .str, .sl .i64] xs) n 5)) : ∀ k, k < n → Bytes ((xs.getD k []).getD 3 []) := by
  obtain ⟨h1, _, h3⟩ := h
  intro k hk
  have := h3 (k * 5 + 3) (by omega)
  simp only [AV.cell, List.length_cons, List.length_nil, show (k * 5 + 3) % (0 + 1 + 1 + 1 + 1 + 1) = 3 by omega, show (k * 5 + 3) / (0 + 1 + 1 + 1 + 1 + 1) = k by omega] at this
  exact this.2
theorem BR.run {r : R} (h : BR r) {xs : List (List (List Int))} {n : Nat} (hx : ∀ k, k < n → Bytes ((xs.getD k []).getD 3 [])) : ∀ k, k ≤ n → BR (rAt xs k r)
  | 0, _ => h
  | k + 1, hk => (h.run hx k (by omega)).op _ _ _ _ (hx k (by omega))

theorem byte_bits : ∀ v : Fin 256, ∀ q : Fin 8, ibits .xor .u8 (v.val : Int) (IntKind.u8.wrap (1 * 2 ^ (min q.val 8))) ≠ (v.val : Int) ∧
    ibits .xor .u8 (ibits .xor .u8 (v.val : Int) (IntKind.u8.wrap (1 * 2 ^ (min q.val 8)))) (IntKind.u8.wrap (1 * 2 ^ (min q.val 8))) = (v.val : Int) ∧
    ibits .xor .i64 (IntKind.i64.wrap (v.val : Int)) (IntKind.i64.wrap (ibits .xor .u8 (v.val : Int) (IntKind.u8.wrap (1 * 2 ^ (min q.val 8))))) = IntKind.i64.wrap (1 * 2 ^ (min q.val 64)) := by decide +kernel
theorem byte_self : ∀ v : Fin 256, ibits .xor .i64 (IntKind.i64.wrap (v.val : Int)) (IntKind.i64.wrap (v.val : Int)) = 0 := by decide +kernel
theorem bits_of {v b : Int} (h : 0 ≤ v ∧ v ≤ 255) (hb : 0 ≤ b) : ibits .xor .u8 v (bit b) ≠ v ∧ ibits .xor .u8 (ibits .xor .u8 v (bit b)) (bit b) = v ∧
    ibits .xor .i64 (IntKind.i64.wrap v) (IntKind.i64.wrap (ibits .xor .u8 v (bit b))) = IntKind.i64.wrap (1 * 2 ^ (min (Int.toNat (Int.tmod b 8)) 64)) := by
  have hq : (Int.tmod b 8).toNat < 8 := by rw [tmod_nn hb]; omega
  have := byte_bits ⟨v.toNat, by omega⟩ ⟨(Int.tmod b 8).toNat, hq⟩
  simp only [show ((v.toNat : Nat) : Int) = v by omega] at this
  exact this
theorem self_of {v : Int} (h : 0 ≤ v ∧ v ≤ 255) : ibits .xor .i64 (IntKind.i64.wrap v) (IntKind.i64.wrap v) = 0 := by
  have := byte_self ⟨v.toNat, by omega⟩
  simp only [show ((v.toNat : Nat) : Int) = v by omega] at this
  exact this
theorem rot_facts {d : D} {r : R} (h : Rel d r) (hb : BR r) {q : Nat} {b : Int} (hq : q < d.n) (h0 : 0 ≤ b) (h1 : b ≤ 511) :
    (rot d q b).2 = 0 ∧ (rot (rot d q b).1 q b).2 = 0 ∧ image (rot (rot d q b).1 q b).1 = image d ∧ (rot d q b).1.n = d.n ∧
    ∀ i, i < d.n → sec (rot d q b).1.blk i = if i = q then (sec d.blk q).set (Int.tdiv b 8).toNat (ibits .xor .u8 ((sec d.blk q).getD (Int.tdiv b 8).toNat 0) (bit b)) else sec d.blk i := by
  have e8 : Int.tdiv b 8 = b / 8 := tdiv_nn h0
  have hm : (Int.tdiv b 8).toNat < 64 := by rw [e8]; omega
  have er : ∀ d' : D, d'.n = d.n → rot d' q b = ({ d' with blk := d'.blk.set (place q b) (ibits .xor .u8 (d'.blk.getD (place q b) 0) (bit b)) }, 0) := fun d' hn => by
    simp only [rot]
    rw [cond_neg (by omega), cond_neg (by omega), cond_neg (by omega), cond_neg (by omega)]
  have hl := h.len
  have hp : place q b = (Int.tdiv b 8).toNat + q * 64 := by simp only [place, Int.toNat_natCast]
  have hpl : place q b < d.blk.length := by rw [hp]; omega
  have ev : d.blk.getD (place q b) 0 = (sec d.blk q).getD (Int.tdiv b 8).toNat 0 := by
    rw [hp, List.getD_eq_getElem?_getD, List.getD_eq_getElem?_getD, sec_get, if_pos hm, Nat.add_comm]
  have hv : 0 ≤ d.blk.getD (place q b) 0 ∧ d.blk.getD (place q b) 0 ≤ 255 := by
    rw [ev, h.text q hq]; exact (hb q).1.getD _
  obtain ⟨b1, b2, b3⟩ := bits_of hv h0
  have e1 := er d rfl
  have e2 := er (rot d q b).1 (by rw [e1])
  refine ⟨by rw [e1], by rw [e2], ?_, by rw [e1], fun i hi => ?_⟩
  · rw [e2, e1]
    simp only [image]
    congr 1
    funext i
    congr 1
    rw [getD_set, if_pos ⟨rfl, hpl⟩, b2, List.set_set]
    refine List.ext_getElem? fun x => ?_
    rw [List.getElem?_set]
    by_cases hx : place q b = x
    · rw [if_pos hx, if_pos (by omega), List.getD_eq_getElem?_getD, hx, List.getElem?_eq_getElem (by omega)]; rfl
    · rw [if_neg hx]
  · rw [e1]
    simp only [ev]
    rw [hp, sec_set _ _ _ _ _ hm]
theorem rot_bad {d : D} {i b : Int} (h : (rot d i b).2 ≠ 0) : rot d i b = (d, 1) ∧ (i < 0 ∨ i ≥ (d.n : Int) ∨ b < 0 ∨ b ≥ 512) := by
  simp only [rot] at h ⊢
  by_cases h1 : i < 0
  · rw [cond_pos h1]; exact ⟨rfl, .inl h1⟩
  · rw [cond_neg h1] at h ⊢
    by_cases h2 : i ≥ (d.n : Int)
    · rw [cond_pos h2]; exact ⟨rfl, .inr (.inl h2)⟩
    · rw [cond_neg h2] at h ⊢
      by_cases h3 : b < 0
      · rw [cond_pos h3]; exact ⟨rfl, .inr (.inr (.inl h3))⟩
      · rw [cond_neg h3] at h ⊢
        by_cases h4 : b ≥ 512
        · rw [cond_pos h4]; exact ⟨rfl, .inr (.inr (.inr h4))⟩
        · rw [cond_neg h4] at h; exact absurd rfl h
theorem rot_good {d : D} {i b : Int} (h : (rot d i b).2 = 0) : 0 ≤ i ∧ i < (d.n : Int) ∧ 0 ≤ b ∧ b ≤ 511 := by
  simp only [rot] at h
  by_cases h1 : i < 0
  · rw [cond_pos h1] at h; cases h
  · rw [cond_neg h1] at h
    by_cases h2 : i ≥ (d.n : Int)
    · rw [cond_pos h2] at h; cases h
    · rw [cond_neg h2] at h
      by_cases h3 : b < 0
      · rw [cond_pos h3] at h; cases h
      · rw [cond_neg h3] at h
        by_cases h4 : b ≥ 512
        · rw [cond_pos h4] at h; cases h
        · omega
theorem dAt_n (xs : List (List (List Int))) : ∀ (k : Nat) (d : D), (dAt xs k d).n = d.n
  | 0, d => rfl
  | k + 1, d => by rw [dAt]; exact (op_n _ _ _ _ _ _).trans (dAt_n xs k d)
theorem image_get {d : D} {i : Nat} (h : i < d.n) : (image d).getD i [] = sec d.blk i := by
  simp only [image, List.getD_eq_getElem?_getD, List.getElem?_map, List.getElem?_range h]; rfl
theorem image_len (d : D) : (image d).length = d.n := by simp [image]
end Go.Dk
