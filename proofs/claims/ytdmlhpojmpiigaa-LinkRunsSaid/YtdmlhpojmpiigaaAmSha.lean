/- SHA-256, as plain functions on lists of integers. -/
import Derived.Test.YtdmlhpojmpiigaaAmSeat
set_option linter.unusedVariables false
set_option linter.unusedSimpArgs false
namespace Go.Am.Sha
open Go

def K : List Int := [1116352408, 1899447441, 3049323471, 3921009573, 961987163, 1508970993, 2453635748, 2870763221, 3624381080, 310598401, 607225278, 1426881987, 1925078388, 2162078206, 2614888103, 3248222580, 3835390401, 4022224774, 264347078, 604807628, 770255983, 1249150122, 1555081692, 1996064986, 2554220882, 2821834349, 2952996808, 3210313671, 3336571891, 3584528711, 113926993, 338241895, 666307205, 773529912, 1294757372, 1396182291, 1695183700, 1986661051, 2177026350, 2456956037, 2730485921, 2820302411, 3259730800, 3345764771, 3516065817, 3600352804, 4094571909, 275423344, 430227734, 506948616, 659060556, 883997877, 958139571, 1322822218, 1537002063, 1747873779, 1955562222, 2024104815, 2227730452, 2361852424, 2428436474, 2756734187, 3204031479, 3329325298]
def iv : List Int := [1779033703, 3144134277, 1013904242, 2773480762, 1359893119, 2600822924, 528734635, 1541459225]

def rotl (x k : Int) : Int := ibits .or .u32 (IntKind.u32.wrap (x * 2 ^ (min (Int.toNat (ibits .and .u64 (IntKind.u64.wrap k) 31)) 32))) (Int.fdiv x (2 ^ (min (Int.toNat (IntKind.u64.wrap (32 - (ibits .and .u64 (IntKind.u64.wrap k) 31)))) 32)))
def rotr (x : Int) (n : Nat) : Int := ibits .or .u32 (Int.fdiv x (2 ^ n)) (IntKind.u32.wrap (x * 2 ^ (32 - n)))
def mix (x i j k : Int) : Int := ibits .xor .u32 (ibits .xor .u32 (rotl x (IntKind.i64.wrap (0 - i))) (rotl x (IntKind.i64.wrap (0 - j)))) (rotl x (IntKind.i64.wrap (0 - k)))
def S3 (x : Int) (i j k : Nat) : Int := ibits .xor .u32 (ibits .xor .u32 (rotr x i) (rotr x j)) (rotr x k)
def sig (x : Int) (i j k : Nat) : Int := ibits .xor .u32 (ibits .xor .u32 (rotr x i) (rotr x j)) (Int.fdiv x (2 ^ k))
def add (x y : Int) : Int := IntKind.u32.wrap (x + y)
def word (a b c d : Int) : Int := a * 16777216 + b * 65536 + c * 256 + d
def sched (b : List Int) : Nat → List Int
  | 0 => []
  | t + 1 => sched b t ++ [if t < 16 then word (b.getD (4 * t) 0) (b.getD (4 * t + 1) 0) (b.getD (4 * t + 2) 0) (b.getD (4 * t + 3) 0)
      else add (add (add ((sched b t).getD (t - 16) 0) (sig ((sched b t).getD (t - 15) 0) 7 18 3)) ((sched b t).getD (t - 7) 0)) (sig ((sched b t).getD (t - 2) 0) 17 19 10)]
def ch (e f g : Int) : Int := ibits .xor .u32 (ibits .and .u32 e f) (ibits .and .u32 (ibits .xor .u32 4294967295 e) g)
def maj (a b c : Int) : Int := ibits .xor .u32 (ibits .xor .u32 (ibits .and .u32 a b) (ibits .and .u32 a c)) (ibits .and .u32 b c)
def rnd (k w : Int) (s : List Int × List Int) : List Int × List Int :=
  ([add (add (add (add (add (s.2.getD 3 0) (S3 (s.2.getD 0 0) 6 11 25)) (ch (s.2.getD 0 0) (s.2.getD 1 0) (s.2.getD 2 0))) k) w) (add (S3 (s.1.getD 0 0) 2 13 22) (maj (s.1.getD 0 0) (s.1.getD 1 0) (s.1.getD 2 0))), s.1.getD 0 0, s.1.getD 1 0, s.1.getD 2 0],
   [add (s.1.getD 3 0) (add (add (add (add (s.2.getD 3 0) (S3 (s.2.getD 0 0) 6 11 25)) (ch (s.2.getD 0 0) (s.2.getD 1 0) (s.2.getD 2 0))) k) w), s.2.getD 0 0, s.2.getD 1 0, s.2.getD 2 0])
def rnds (w : List Int) (s : List Int × List Int) : Nat → List Int × List Int
  | 0 => s
  | t + 1 => rnd (K.getD t 0) (w.getD t 0) (rnds w s t)
def sum8 (s : List Int) (t : List Int × List Int) : List Int :=
  [add (s.getD 0 0) (t.1.getD 0 0), add (s.getD 1 0) (t.1.getD 1 0), add (s.getD 2 0) (t.1.getD 2 0), add (s.getD 3 0) (t.1.getD 3 0),
   add (s.getD 4 0) (t.2.getD 0 0), add (s.getD 5 0) (t.2.getD 1 0), add (s.getD 6 0) (t.2.getD 2 0), add (s.getD 7 0) (t.2.getD 3 0)]
def comp (s b : List Int) : List Int := sum8 s (rnds (sched b 64) (s.take 4, s.drop 4) 64)

theorem ibits_or_comm (k : IntKind) (x y : Int) : ibits .or k x y = ibits .or k y x := by
  simp only [ibits, BitVec.or_comm]
theorem ibits_xor_comm (k : IntKind) (x y : Int) : ibits .xor k x y = ibits .xor k y x := by
  simp only [ibits, BitVec.xor_comm]
theorem ibits_and_comm (k : IntKind) (x y : Int) : ibits .and k x y = ibits .and k y x := by
  simp only [ibits, BitVec.and_comm]
theorem rotl_neg (x : Int) : ∀ n : Nat, n < 32 → 0 < n → rotl x (-(n : Int)) = rotr x n := by
  intro n h1 h2
  have key : ∀ n : Fin 32, 0 < n.val → (min (Int.toNat (ibits .and .u64 (IntKind.u64.wrap (-(n.val : Int))) 31)) 32) = 32 - n.val ∧ min (Int.toNat (IntKind.u64.wrap (32 - (ibits .and .u64 (IntKind.u64.wrap (-(n.val : Int))) 31)))) 32 = n.val := by decide
  have := key ⟨n, h1⟩ h2
  unfold rotl rotr
  rw [this.1, this.2, ibits_or_comm]
end Go.Am.Sha
namespace Go.Am.Sha
open Go
abbrev Str := List Int × List Int × Int
def begin : Str := (iv, List.replicate 64 0, 0)
def add1 (s : Str) (x : Int) : Str :=
  (if s.2.2 % 64 = 63 then comp s.1 (s.2.1.set (s.2.2 % 64).toNat x) else s.1, s.2.1.set (s.2.2 % 64).toNat x, IntKind.u64.wrap (s.2.2 + 1))
def addS (s : Str) (text : List Int) : Str := text.foldl add1 s
def be8 (m : Int) : List Int := (List.range 8).map fun i => IntKind.u8.wrap (m.fdiv (2 ^ (56 - 8 * i)))
def pad (n : Int) : List Int := 128 :: (List.replicate ((55 - n) % 64).toNat 0 ++ be8 (IntKind.u64.wrap (8 * n)))
def out (st : List Int) : List Int := (List.range 32).map fun i => IntKind.u8.wrap ((st.getD (i / 4) 0).fdiv (2 ^ (24 - 8 * (i % 4))))
def fin (s : Str) : List Int := out (addS s (pad s.2.2)).1
def hash (b : List Int) : List Int := fin (addS begin b)
end Go.Am.Sha
namespace Go.Am.Sha
open Go
theorem add1_len (s : Str) (x : Int) : (add1 s x).2.1.length = s.2.1.length := by simp [add1]
theorem addS_append (s : Str) (a b : List Int) : addS s (a ++ b) = addS (addS s a) b := by simp [addS, List.foldl_append]
theorem addS_nil (s : Str) : addS s [] = s := rfl
theorem addS_chunk : ∀ (t : List Int) (st bl : List Int) (n : Int), bl.length = 64 → 0 ≤ n → n ≤ 18446744073709551615 → (n % 64).toNat + t.length ≤ 64 →
    addS (st, bl, n) t = (if (n % 64).toNat + t.length = 64 then comp st (bl.take (n % 64).toNat ++ t ++ bl.drop ((n % 64).toNat + t.length)) else st,
      bl.take (n % 64).toNat ++ t ++ bl.drop ((n % 64).toNat + t.length), IntKind.u64.wrap (n + t.length))
  | [], st, bl, n, hb, h0, h1, hl => by
    have : ¬ ((n % 64).toNat + 0 = 64) := by omega
    simp only [addS, List.foldl_nil, List.length_nil, if_neg this, List.append_nil, Nat.add_zero, List.take_append_drop]
    rw [u64w (by simpa using h0) (by simpa using h1)]
    simp; omega
  | x :: t, st, bl, n, hb, h0, h1, hl => by
    simp only [List.length_cons] at hl
    have hat : (n % 64).toNat < 64 := by omega
    show addS (add1 (st, bl, n) x) t = _
    have hn' : IntKind.u64.wrap (n + 1) = (n + 1) % 18446744073709551616 := u64mod _
    have htk : (bl.set (n % 64).toNat x).take ((n % 64).toNat + 1) = bl.take (n % 64).toNat ++ [x] := by
      rw [List.take_add_one, List.take_set_of_le (Nat.le_refl _)]
      simp [hb, hat]
    by_cases h63 : n % 64 = 63
    · have ht : t = [] := by
        have : t.length = 0 := by omega
        exact List.length_eq_zero_iff.mp this
      subst ht
      have e1 : (n % 64).toNat = 63 := by omega
      simp only [addS, List.foldl_nil, add1, h63, if_true, List.length_cons, List.length_nil, Nat.zero_add]
      rw [show (63 : Int).toNat = 63 from rfl]
      have e2 : bl.set 63 x = bl.take 63 ++ [x] ++ bl.drop (63 + 1) := by
        rw [List.drop_of_length_le (by omega), List.append_nil]
        rw [e1] at htk
        rw [← htk, List.take_of_length_le (by simp [hb])]
      rw [e2]
      simp
    · have e3 : (add1 (st, bl, n) x) = (st, bl.set (n % 64).toNat x, IntKind.u64.wrap (n + 1)) := by simp only [add1, if_neg h63]
      have e4 : (IntKind.u64.wrap (n + 1) % 64).toNat = (n % 64).toNat + 1 := by rw [hn']; omega
      rw [e3, addS_chunk t st (bl.set (n % 64).toNat x) (IntKind.u64.wrap (n + 1)) (by simpa using hb) (by rw [hn']; omega) (by rw [hn']; omega) (by rw [e4]; omega), e4, htk]
      have e5 : (bl.set (n % 64).toNat x).drop ((n % 64).toNat + 1 + t.length) = bl.drop ((n % 64).toNat + (x :: t).length) := by
        rw [List.drop_set_of_lt (by omega)]
        congr 1
        simp only [List.length_cons]; omega
      have e6 : IntKind.u64.wrap (IntKind.u64.wrap (n + 1) + (t.length : Int)) = IntKind.u64.wrap (n + ((x :: t).length : Nat)) := by
        simp only [u64mod, List.length_cons]; omega
      have e7 : ((n % 64).toNat + 1 + t.length = 64) = ((n % 64).toNat + (x :: t).length = 64) := by
        simp only [List.length_cons]; apply propext; omega
      rw [e5, e6]
      simp only [e7]
      simp only [List.append_assoc, List.singleton_append, List.cons_append, List.nil_append]
theorem addS_n : ∀ (t : List Int) (st bl : List Int) (n : Int), 0 ≤ n → n ≤ 18446744073709551615 → (addS (st, bl, n) t).2.2 = IntKind.u64.wrap (n + t.length)
  | [], st, bl, n, h0, h1 => by simp [addS]; rw [u64w h0 h1]
  | x :: t, st, bl, n, h0, h1 => by
    show (addS (add1 (st, bl, n) x) t).2.2 = _
    have e : add1 (st, bl, n) x = ((add1 (st, bl, n) x).1, (add1 (st, bl, n) x).2.1, IntKind.u64.wrap (n + 1)) := rfl
    rw [e, addS_n t _ _ _ (by rw [u64mod]; omega) (by rw [u64mod]; omega)]
    simp only [u64mod, List.length_cons]; omega
theorem comp_len (s b : List Int) : (comp s b).length = 8 := rfl
theorem addS_lens : ∀ (t : List Int) (s : Str), s.1.length = 8 → (addS s t).1.length = 8 ∧ (addS s t).2.1.length = s.2.1.length
  | [], s, h => ⟨h, rfl⟩
  | x :: t, s, h => by
    have := addS_lens t (add1 s x) (by simp only [add1]; split; exact comp_len _ _; exact h)
    exact ⟨this.1, this.2.trans (add1_len s x)⟩
end Go.Am.Sha
