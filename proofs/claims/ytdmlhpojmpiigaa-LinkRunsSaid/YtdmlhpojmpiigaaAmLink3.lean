/- Links: seals that are opened, packets that are read, bytes that are bent. -/
import Derived.Test.YtdmlhpojmpiigaaAmLink2
import Derived.Test.YtdmlhpojmpiigaaAmWire4
set_option linter.unusedVariables false
set_option linter.unusedSimpArgs false
namespace Go.Am
open Go
namespace Lk
theorem around_lt {n m : Int} (h : 0 < m) : 0 ≤ around n m ∧ around n m < m := by
  unfold around
  exact ⟨Int.emod_nonneg _ (by omega), Int.emod_lt_of_pos _ h⟩
theorem tdiv_has {a : Int} (h : IntKind.i64.has a) (b : Int) (hb : 2 ≤ b) : IntKind.i64.wrap (Int.tdiv a b) = Int.tdiv a b := by
  have hr : -9223372036854775808 ≤ a ∧ a ≤ 9223372036854775807 := h
  have h1 : (Int.tdiv a b).natAbs ≤ a.natAbs / 2 := by
    rw [Int.natAbs_tdiv]
    exact Nat.div_le_div_left (by omega) (by omega)
  rw [i64w (by omega) (by omega)]
theorem openB_sealed (k : Int) (b : List Int) : openB k (sealed k b) = (b, 0) := by
  have e1 : (sealed k b).take ((sealed k b).length - 8) = b := by
    rw [sealed_length, show b.length + 8 - 8 = b.length by omega, sealed]
    exact List.take_left
  have e2 : (sealed k b).drop ((sealed k b).length - 8) = seal8 (hash k b) := by
    rw [sealed_length, show b.length + 8 - 8 = b.length by omega, sealed]
    exact List.drop_left
  unfold openB
  rw [if_neg (by rw [sealed_length]; omega), e1, e2, if_pos rfl]
theorem pread_pbytes {s a : Int} {b : List Int} (hs : IntKind.i64.has s) (ha : IntKind.i64.has a) (hb : b.length < 9223372036854775808) : pread (pbytes s a b) = some (s, a, b) := by
  have h1 : Wire.getInts (pbytes s a b) = ([s, a], ((Wire.ints [s, a]).length : Int), 0) := Wire.getInts_rt (by intro x hx; simp at hx; rcases hx with rfl | rfl <;> assumption) (by show 2 < 9223372036854775808; omega) _
  have h2 : Wire.getBytes ((pbytes s a b).drop (Wire.ints [s, a]).length) = (b, ((Wire.bytes b).length : Int), 0) := by
    rw [pbytes, List.drop_left]
    have := Wire.getBytes_rt hb []
    rwa [List.append_nil] at this
  unfold pread
  rw [h1]
  simp only [Int.toNat_natCast]
  rw [h2, if_neg (by simp), if_neg (by simp [pbytes])]
  rfl
theorem rd_pbytes {s a : Int} {b : List Int} (hs : IntKind.i64.has s) (ha : IntKind.i64.has a) (hb : b.length < 9223372036854775808) : rd (pbytes s a b) = (s, a, b, valid s a b) := by
  unfold rd
  rw [pread_pbytes hs ha hb]
theorem recv_sealed {e : E} {k s a : Int} {b : List Int} (hk : e.key = k) (hs : IntKind.i64.has s) (ha : IntKind.i64.has a) (hv : valid s a b = true) : recv e (sealed k (pbytes s a b)) = ((take e s a b).1, (take e s a b).2, 0) := by
  subst hk
  have hb : b.length ≤ 65536 := by
    simp only [valid, Bool.and_eq_true, decide_eq_true_eq] at hv
    exact hv.1.2
  unfold recv
  rw [openB_sealed, rd_pbytes hs ha (by omega)]
  simp only [if_true, hv]
theorem ofInt_inj64 {a b : Int} (ha : 0 ≤ a ∧ a < 18446744073709551616) (hb : 0 ≤ b ∧ b < 18446744073709551616) (h : BitVec.ofInt 64 a = BitVec.ofInt 64 b) : a = b := by
  have := congrArg BitVec.toNat h
  rw [BitVec.toNat_ofInt, BitVec.toNat_ofInt] at this
  have e : ((2 ^ 64 : Nat) : Int) = 18446744073709551616 := rfl
  rw [e, Int.emod_eq_of_lt ha.1 ha.2, Int.emod_eq_of_lt hb.1 hb.2] at this
  omega
theorem xor64 (a b : Int) : ibits .xor .u64 a b = ((BitVec.ofInt 64 a ^^^ BitVec.ofInt 64 b).toNat : Int) := by
  unfold ibits
  simp only
  have := (BitVec.ofInt 64 a ^^^ BitVec.ofInt 64 b).isLt
  rw [u64w (by omega) (by show ((BitVec.ofInt 64 a ^^^ BitVec.ofInt 64 b).toNat : Int) ≤ _; omega)]
  rfl
theorem xor_cancel {w : Nat} {a b c : BitVec w} (h : a ^^^ c = b ^^^ c) : a = b := by
  have := congrArg (· ^^^ c) h; simpa [BitVec.xor_assoc] using this
theorem mul_back {x : Int} (hx : 0 ≤ x ∧ x < 18446744073709551616) : x * 1099511628211 % 18446744073709551616 * 14886173955864302971 % 18446744073709551616 = x := by
  have e := Int.mul_ediv_add_emod (x * 1099511628211) 18446744073709551616
  generalize x * 1099511628211 % 18446744073709551616 = r at e ⊢
  generalize x * 1099511628211 / 18446744073709551616 = q at e
  have e2 : r * 14886173955864302971 = x + 18446744073709551616 * (887285111055 * x - 14886173955864302971 * q) := by omega
  rw [e2, Int.add_mul_emod_self_left, Int.emod_eq_of_lt hx.1 hx.2]
theorem mul_cancel {x y : Int} (hx : 0 ≤ x ∧ x < 18446744073709551616) (hy : 0 ≤ y ∧ y < 18446744073709551616) (h : x * 1099511628211 % 18446744073709551616 = y * 1099511628211 % 18446744073709551616) : x = y := by
  rw [← mul_back hx, h, mul_back hy]
theorem bv_rng (x : BitVec 64) : 0 ≤ (x.toNat : Int) ∧ (x.toNat : Int) < 18446744073709551616 := by
  have b1 := x.isLt
  omega
theorem bv_mul {x y : BitVec 64} (e : (x.toNat : Int) * 1099511628211 % 18446744073709551616 = (y.toNat : Int) * 1099511628211 % 18446744073709551616) : x = y :=
  BitVec.eq_of_toNat_eq (Int.ofNat_inj.1 (mul_cancel (bv_rng x) (bv_rng y) e))
theorem mixB_eq2 (h c : Int) : mixB h c = ((BitVec.ofInt 64 h ^^^ BitVec.ofInt 64 (IntKind.u64.wrap c)).toNat : Int) * 1099511628211 % 18446744073709551616 := by
  unfold mixB
  rw [xor64]
theorem mixB_inj {h h' c c' : Int} (e : mixB h c = mixB h' c') : BitVec.ofInt 64 h ^^^ BitVec.ofInt 64 (IntKind.u64.wrap c) = BitVec.ofInt 64 h' ^^^ BitVec.ofInt 64 (IntKind.u64.wrap c') := by
  rw [mixB_eq2, mixB_eq2] at e
  exact bv_mul e
theorem mixB_state {h h' c : Int} (hh : 0 ≤ h ∧ h < 18446744073709551616) (hh' : 0 ≤ h' ∧ h' < 18446744073709551616) (e : mixB h c = mixB h' c) : h = h' := ofInt_inj64 hh hh' (xor_cancel (mixB_inj e))
theorem mixB_byte {h c c' : Int} (hc : 0 ≤ c ∧ c ≤ 255) (hc' : 0 ≤ c' ∧ c' ≤ 255) (e : mixB h c = mixB h c') : c = c' := by
  have := mixB_inj e
  rw [BitVec.xor_comm, BitVec.xor_comm (BitVec.ofInt 64 h)] at this
  rw [u64w (by omega) (by omega), u64w (by omega) (by omega)] at this
  exact ofInt_inj64 (by omega) (by omega) (xor_cancel this)
theorem foldl_state : ∀ (l : List Int) {z z' : Int}, (0 ≤ z ∧ z < 18446744073709551616) → (0 ≤ z' ∧ z' < 18446744073709551616) → l.foldl mixB z = l.foldl mixB z' → z = z'
  | [], _, _, _, _, h => h
  | c :: l, z, z', hz, hz', h => mixB_state hz hz' (foldl_state l (mixB_range z c) (mixB_range z' c) h)
theorem foldl_bent : ∀ (l : List Int) (k : Nat) (z c : Int), Wire.okBytes l → (0 ≤ c ∧ c ≤ 255) → k < l.length → c ≠ l.getD k 0 → (l.set k c).foldl mixB z ≠ l.foldl mixB z
  | [], k, z, c, _, _, hk, _ => by simp at hk
  | y :: l, 0, z, c, ho, hc, _, hne => by
    intro e
    simp only [List.set_cons_zero, List.foldl_cons] at e
    exact hne (mixB_byte hc (ho y (.head _)) (foldl_state l (mixB_range z c) (mixB_range z y) e))
  | y :: l, k + 1, z, c, ho, hc, hk, hne => by
    intro e
    simp only [List.set_cons_succ, List.foldl_cons] at e
    exact foldl_bent l k _ c (fun x hx => ho x (.tail _ hx)) hc (by simpa using hk) (by simpa using hne) e
theorem seal8_at (h : Int) {i : Nat} (hi : i < 8) : (seal8 h).getD i 0 = h / 256 ^ i % 256 := by
  unfold seal8
  rw [List.getD_eq_getElem?_getD, List.getElem?_map, List.getElem?_range hi]
  rfl
theorem seal8_inj {h h' : Int} (hh : 0 ≤ h ∧ h < 18446744073709551616) (hh' : 0 ≤ h' ∧ h' < 18446744073709551616) (e : seal8 h = seal8 h') : h = h' := by
  obtain ⟨m, rfl⟩ : ∃ m : Nat, h = (m : Int) := ⟨h.toNat, by omega⟩
  obtain ⟨n, rfl⟩ : ∃ n : Nat, h' = (n : Int) := ⟨h'.toNat, by omega⟩
  have := Wire.digits_inj 8 m n (by show m < 18446744073709551616; omega) (by show n < 18446744073709551616; omega) fun i hi => by
    have h2 := seal8_at (m : Int) hi
    rw [e, seal8_at _ hi, show (256 : Int) ^ i = ((256 ^ i : Nat) : Int) by rw [Int.natCast_pow]; rfl] at h2
    omega
  omega
theorem open_bent {key c : Int} {b : List Int} {k : Nat} (ho : Wire.okBytes b) (hc : 0 ≤ c ∧ c ≤ 255) (hk : k < b.length + 8) (hne : c ≠ (sealed key b).getD k 0) : openB key ((sealed key b).set k c) = ([], 9) := by
  have hl : ((sealed key b).set k c).length = b.length + 8 := by rw [List.length_set, sealed_length]
  unfold openB
  rw [if_neg (by omega), if_neg]
  rw [hl, show b.length + 8 - 8 = b.length by omega, sealed, List.take_set, List.drop_set, List.take_left, List.drop_left]
  by_cases h : k < b.length
  · rw [if_pos h]
    intro e
    have he := seal8_inj (hash_range _ _) (hash_range _ _) e
    refine foldl_bent b k (ibits .xor .u64 14695981039346656037 key) c ho hc h (fun hh => hne ?_) he
    rw [hh, sealed, List.getD_eq_getElem?_getD, List.getD_eq_getElem?_getD, List.getElem?_append_left h]
  · rw [if_neg h, List.set_eq_of_length_le (by omega)]
    intro e
    have := congrArg (fun l => l.getD (k - b.length) 0) e
    simp only [List.getD_eq_getElem?_getD] at this
    rw [List.getElem?_set_self (by rw [seal8_length]; omega)] at this
    refine hne ?_
    rw [sealed, List.getD_eq_getElem?_getD, List.getElem?_append_right (by omega), this]
    rfl
theorem xor8_ne (x y : Int) (hx : 0 ≤ x ∧ x ≤ 255) (hy : 1 ≤ y ∧ y ≤ 255) : (0 ≤ ibits .xor .u8 x y ∧ ibits .xor .u8 x y ≤ 255) ∧ ibits .xor .u8 x y ≠ x := by
  have hb := (BitVec.ofInt 8 x ^^^ BitVec.ofInt 8 y).isLt
  have e : ibits .xor .u8 x y = ((BitVec.ofInt 8 x ^^^ BitVec.ofInt 8 y).toNat : Int) := by
    unfold ibits
    simp only
    rw [u8w (by omega) (by show ((BitVec.ofInt 8 x ^^^ BitVec.ofInt 8 y).toNat : Int) ≤ _; omega)]
    rfl
  rw [e]
  refine ⟨⟨by omega, by omega⟩, fun h => ?_⟩
  have h2 : BitVec.ofInt 8 x ^^^ BitVec.ofInt 8 y = BitVec.ofInt 8 x := by
    apply BitVec.eq_of_toNat_eq
    rw [BitVec.toNat_ofInt x]
    have e : ((2 ^ 8 : Nat) : Int) = 256 := rfl
    rw [e, Int.emod_eq_of_lt hx.1 (by omega)]
    omega
  have h3 := congrArg (BitVec.ofInt 8 x ^^^ ·) h2
  simp only [← BitVec.xor_assoc, BitVec.xor_self, BitVec.zero_xor] at h3
  have h4 := congrArg BitVec.toNat h3
  rw [BitVec.toNat_ofInt] at h4
  have e : ((2 ^ 8 : Nat) : Int) = 256 := rfl
  rw [e, Int.emod_eq_of_lt (by omega) (by omega)] at h4
  simp at h4
  omega
theorem seal8_ok (h : Int) : Wire.okBytes (seal8 h) := by
  intro x hx
  simp only [seal8, List.mem_map] at hx
  obtain ⟨i, _, rfl⟩ := hx
  omega
theorem okBytes_app {a b : List Int} (ha : Wire.okBytes a) (hb : Wire.okBytes b) : Wire.okBytes (a ++ b) := fun x hx => (List.mem_append.1 hx).elim (ha x) (hb x)
theorem sealed_ok {k : Int} {b : List Int} (h : Wire.okBytes b) : Wire.okBytes (sealed k b) := okBytes_app h (seal8_ok _)
theorem int_ok (n : Int) : Wire.okBytes (Wire.int n) := by
  have := Wire.nb_le (Wire.mag n)
  intro x hx
  rcases List.mem_cons.1 hx with rfl | hx
  · unfold Wire.head; split <;> omega
  · simp only [List.mem_map] at hx
    obtain ⟨i, _, rfl⟩ := hx
    unfold Wire.dig; split <;> omega
theorem pbytes_ok {s a : Int} {b : List Int} (h : Wire.okBytes b) : Wire.okBytes (pbytes s a b) := by
  unfold pbytes Wire.ints Wire.bytes
  exact okBytes_app (okBytes_app (int_ok _) (by simpa using okBytes_app (int_ok s) (int_ok a))) (okBytes_app (int_ok _) h)
end Lk
end Go.Am
