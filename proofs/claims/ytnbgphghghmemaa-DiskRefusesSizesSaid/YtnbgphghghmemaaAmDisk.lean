/- What the functions of package disk compute, in plain terms. -/
import Derived.Test.YtnbgphghghmemaaAmKeys
import Derived.Test.YtnbgphghghmemaaAmSeat
namespace Go.Dk
open Go Go.Am

structure D where
  n : Nat
  blk : List Int
  pend : List (List Int × List Int)
  worn : List (List Int × List Int)
  off : Bool
  left : Int

def sec (b : List Int) (i : Nat) : List Int := (b.drop (i * 64)).take 64
def inD (d : D) (i : Int) : Bool := decide (0 ≤ i) && decide (i < (d.n : Int))
def isP (d : D) (i : Int) : Bool := mhas d.pend [i]
def isW (d : D) (i : Int) : Bool := (mget [0] d.worn [i]).getD 0 0 == 1
def nxt (d : D) (i : Int) : List Int := mget (List.replicate 64 0) d.pend [i]
def pending (d : D) : List Int := sortI (keyInts d.pend)
def wornl (d : D) : List Int := sortI (keyInts d.worn)
def check (d : D) (i : Int) : Int := cond d.off 22 (cond (decide (i < 0)) 1 (cond (decide (i ≥ (d.n : Int))) 1 0))
def step (d : D) : D × Int := cond (d.left == 0) ({ d with off := true }, 22) (cond (decide (d.left > 0)) ({ d with left := IntKind.i64.wrap (d.left - 1) }, 0) (d, 0))
def read (d : D) (i : Int) : List Int × Int := cond (check d i != 0) ([], check d i) (cond (isP d i) ((nxt d i).take 64, 0) (sec d.blk i.toNat, 0))
def write (d : D) (i : Int) (s : List Int) : D × Int := cond (check d i != 0) (d, check d i) (cond ((s.length : Int) != 64) (d, 1)
  (cond ((step d).2 != 0) (step d) ({ (step d).1 with pend := mput (step d).1.pend [i] (s.take 64) }, 0)))
def clamp (p : Int) : Nat := Int.toNat (if (if 64 < p then 64 else p) > 0 then (if 64 < p then 64 else p) else 0)
def putsec (b : List Int) (i m : Nat) (s : List Int) : List Int := b.take (i * 64) ++ (s.take 64).take m ++ b.drop (i * 64 + m)
def settle (d : D) (i p : Int) : D := { d with pend := mdel d.pend [i], blk := cond (!isW d i) (cond (!(nxt d i == sec d.blk i.toNat)) (putsec d.blk i.toNat (min 64 (clamp p)) (nxt d i)) d.blk) d.blk }
def flush (d : D) : D × Int := cond (check d 0 != 0) (d, check d 0) (cond ((step d).2 != 0) (step d) ((pending d).foldl (fun e i => settle e i 64) (step d).1, 0))
def mountAll (picks : List Int) : List Int → Nat → D → D
  | [], _, d => d
  | i :: is, k, d => mountAll picks is (k + 1) (settle d i (picks.getD k 64))
def mount (d : D) (picks : List Int) : D := { mountAll picks (pending d) 0 d with off := false, left := -1 }
def place (i b : Int) : Nat := Int.toNat (Int.tdiv b 8) + Int.toNat i * 64
def bit (b : Int) : Int := IntKind.u8.wrap (1 * 2 ^ (min (Int.toNat (Int.tmod b 8)) 8))
def rot (d : D) (i b : Int) : D × Int := cond (decide (i < 0)) (d, 1) (cond (decide (i ≥ (d.n : Int))) (d, 1) (cond (decide (b < 0)) (d, 1) (cond (decide (b ≥ 512)) (d, 1)
  ({ d with blk := d.blk.set (place i b) (ibits .xor .u8 (d.blk.getD (place i b) 0) (bit b)) }, 0))))
def wear (d : D) (i : Int) : D × Int := cond (decide (i < 0)) (d, 1) (cond (decide (i ≥ (d.n : Int))) (d, 1) ({ d with worn := mput d.worn [i] [1] }, 0))
def trip (d : D) (n : Int) : D := { d with left := n }
def fine (d : D) : Bool := decide (d.n < 8000 ∧ d.blk.length = d.n * 64 ∧ d.pend.length < 8000 ∧ d.worn.length < 8000) && d.pend.all fun e => inD d (e.1.getD 0 0)
theorem putsec_len {b : List Int} {i m : Nat} {s : List Int} (hs : s.length = 64) (hm : m ≤ 64) (hb : i * 64 + 64 ≤ b.length) : (putsec b i m s).length = b.length := by
  simp only [putsec, List.length_append, List.length_take, List.length_drop, hs]; omega
theorem vals64 {es : List (List Int × List Int)} (h : okB (.cells 0 (.rM .i64 0 (.arr .u8 64) es) true)) (e : List Int × List Int) (he : e ∈ es) : e.2.length = 64 := (okR_rI (h.1 e he).2).1
theorem mget64 {es : List (List Int × List Int)} (h : ∀ e ∈ es, e.2.length = 64) (k : List Int) : (mget (List.replicate 64 0) es k).length = 64 := by
  induction es with
  | nil => simp [mget]
  | cons e es ih =>
    simp only [mget]
    cases e.1 == k
    · exact ih fun x hx => h x (.tail _ hx)
    · exact h e (.head _)
theorem check_ok {d : D} {i : Int} (h : check d i = 0) : d.off = false ∧ 0 ≤ i ∧ i < (d.n : Int) := by
  unfold check at h
  cases ho : d.off with
  | true => rw [ho] at h; cases h
  | false =>
    rw [ho] at h
    by_cases h1 : i < 0
    · simp [h1] at h
    · by_cases h2 : i ≥ (d.n : Int)
      · simp [h1, h2] at h
      · exact ⟨rfl, by omega, by omega⟩
structure Ok (d : D) : Prop where
  len : d.blk.length = d.n * 64
  vals : ∀ e ∈ d.pend, e.2.length = 64
theorem settle_ok {d : D} (h : Ok d) {i : Int} (hi : inD d i = true) (p : Int) : Ok (settle d i p) := by
  have h1 : 0 ≤ i ∧ i < (d.n : Int) := by simpa [inD] using hi
  refine ⟨?_, fun e he => h.vals e (List.mem_filter.1 he).1⟩
  simp only [settle]
  cases (!isW d i)
  · exact h.len
  · cases (!(nxt d i == sec d.blk i.toNat))
    · exact h.len
    · show (putsec d.blk i.toNat (min 64 (clamp p)) (nxt d i)).length = d.n * 64
      rw [putsec_len (s := nxt d i) (mget64 h.vals [i]) (by omega) (by have := h.len; omega)]; exact h.len
theorem settle_n (d : D) (i p : Int) : (settle d i p).n = d.n := rfl
theorem inD_n {d d' : D} (h : d'.n = d.n) (i : Int) : inD d' i = inD d i := by simp only [inD, h]
theorem mem_pending {d : D} {i : Int} (h : i ∈ pending d) : ∃ e ∈ d.pend, e.1.getD 0 0 = i := by
  simp only [pending, sortI, List.mem_mergeSort, keyInts, List.mem_map] at h; exact h
theorem fine_iff {d : D} (h : fine d = true) : (d.n < 8000 ∧ d.blk.length = d.n * 64 ∧ d.pend.length < 8000 ∧ d.worn.length < 8000) ∧ ∀ i ∈ pending d, inD d i = true := by
  simp only [fine, Bool.and_eq_true, decide_eq_true_eq, List.all_eq_true] at h
  refine ⟨h.1, fun i hi => ?_⟩
  obtain ⟨e, he, rfl⟩ := mem_pending hi
  exact h.2 e he
theorem pending_len (d : D) : (pending d).length = d.pend.length := by simp [pending, sortI, keyInts]
theorem take_one {L : List Int} {k : Nat} (h : k < L.length) : L.take (k + 1) = L.take k ++ [L.getD k 0] := by
  rw [List.take_add_one, List.getElem?_eq_getElem h, List.getD_eq_getElem?_getD, List.getElem?_eq_getElem h]; rfl
theorem mem_at {L : List Int} {k : Nat} (h : k < L.length) : L.getD k 0 ∈ L := by
  rw [List.getD_eq_getElem?_getD, List.getElem?_eq_getElem h]; exact List.getElem_mem _
def flushK (L : List Int) (k : Nat) (d : D) : D := (L.take k).foldl (fun e i => settle e i 64) d
theorem flushK_succ {L : List Int} {k : Nat} (h : k < L.length) (d : D) : flushK L (k + 1) d = settle (flushK L k d) (L.getD k 0) 64 := by
  simp only [flushK, take_one h, List.foldl_append, List.foldl_cons, List.foldl_nil]
theorem flushK_ok {L : List Int} {d : D} (h : Ok d) (hL : ∀ i ∈ L, inD d i = true) : ∀ k, k ≤ L.length → Ok (flushK L k d) ∧ (flushK L k d).n = d.n
  | 0, _ => ⟨by simpa [flushK] using h, by simp [flushK]⟩
  | k + 1, hk => by
    obtain ⟨h1, h2⟩ := flushK_ok h hL k (by omega)
    rw [flushK_succ (by omega)]
    exact ⟨settle_ok h1 (by rw [inD_n h2]; exact hL _ (mem_at (by omega))) _, h2⟩
theorem mountAll_snoc (picks : List Int) (x : Int) : ∀ (l : List Int) (k : Nat) (d : D), mountAll picks (l ++ [x]) k d = settle (mountAll picks l k d) x (picks.getD (k + l.length) 64)
  | [], k, d => rfl
  | i :: l, k, d => by
    simp only [List.cons_append, mountAll, List.length_cons]
    rw [mountAll_snoc picks x l (k + 1)]
    congr 2; omega
def mountK (picks L : List Int) (k : Nat) (d : D) : D := mountAll picks (L.take k) 0 d
theorem mountK_succ {picks L : List Int} {k : Nat} (h : k < L.length) (d : D) : mountK picks L (k + 1) d = settle (mountK picks L k d) (L.getD k 0) (picks.getD k 64) := by
  simp only [mountK, take_one h, mountAll_snoc, List.length_take, Nat.zero_add]
  rw [Nat.min_eq_left (by omega)]
theorem mountK_ok {picks L : List Int} {d : D} (h : Ok d) (hL : ∀ i ∈ L, inD d i = true) : ∀ k, k ≤ L.length → Ok (mountK picks L k d) ∧ (mountK picks L k d).n = d.n
  | 0, _ => ⟨by simpa [mountK, mountAll] using h, by simp [mountK, mountAll]⟩
  | k + 1, hk => by
    obtain ⟨h1, h2⟩ := mountK_ok h hL k (by omega)
    rw [mountK_succ (by omega)]
    exact ⟨settle_ok h1 (by rw [inD_n h2]; exact hL _ (mem_at (by omega))) _, h2⟩
theorem mountK_all (picks : List Int) (d : D) : mountK picks (pending d) (pending d).length d = mountAll picks (pending d) 0 d := by simp [mountK]
theorem step_same (d : D) : (step d).1.n = d.n ∧ (step d).1.blk = d.blk ∧ (step d).1.pend = d.pend ∧ (step d).1.worn = d.worn := by
  unfold step
  cases (d.left == 0)
  · cases (decide (d.left > 0)) <;> exact ⟨rfl, rfl, rfl, rfl⟩
  · exact ⟨rfl, rfl, rfl, rfl⟩
theorem getD_far {l : List Int} {k : Nat} (h : l.length ≤ k) (z : Int) : l.getD k z = z := by
  rw [List.getD_eq_getElem?_getD, List.getElem?_eq_none h]; rfl
theorem getD_in {l : List Int} {k : Nat} (h : k < l.length) (z z' : Int) : l.getD k z = l.getD k z' := by
  rw [List.getD_eq_getElem?_getD, List.getD_eq_getElem?_getD, List.getElem?_eq_getElem h]; rfl
end Go.Dk
