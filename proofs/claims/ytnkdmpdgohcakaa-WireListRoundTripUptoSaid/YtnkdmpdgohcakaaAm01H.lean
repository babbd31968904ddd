/- Part of a proof about the functions of the given program. -/
import Derived.Test.YtnkdmpdgohcakaaAm01E
import Derived.Test.YtnkdmpdgohcakaaAmWire4
import Derived.Test.YtnkdmpdgohcakaaAmWire6
set_option linter.unusedVariables false
set_option linter.unusedSimpArgs false
namespace Go.Am
open Go Go.Proofs

/-! gantry/gantrylaw01.WireIntRoundTrip -/
def lVG016 : List CEnt := [(12, [], r12), (14, [none], r14), (24, [some 5], r24)]
def VG016 : Env := mkEnv T01 G01 lVG016
theorem eVG016 : EOk Try.prog VG016 := eok_mk (by exact ⟨c12, c14, c24, trivial⟩)
def Af6 (F : Nat) : Cuts := { F := F, at_ := fun _ => none, join := fun _ => none }
def ef6_a : Int × (List Int) → St := fun (a0, a1) => { tmps := [(0, (.int .i64 a0)), (1, (.vs (.rI .u8 a1) 0 1))], heap := [], next := 0, nt := 52, m := 0 }
def f6_nt (F : Nat) : Int × (List Int) → Option (AV × List Blk) := fun (a0, a1) => (cond (decide ((↑a1.length : Int) > (2000 : Int))) (some ((.bool true), [])) (cond ((Nat.blt 0 (Wire.int a0).length) && ((decide ((↑(Wire.int a0).length : Int) = (↑(Wire.int a0).length : Int))) && (decide ((↑(Wire.int a0).length : Int) = (↑(Wire.int a0).length : Int))))) (cond (decide (((Wire.int a0).length + a1.length) < 1073741824)) (cond ((Wire.getInt ((Wire.int a0) ++ a1)).1 == a0) (cond ((Wire.getInt ((Wire.int a0) ++ a1)).2.1 == (↑(Wire.int a0).length : Int)) (cond ((Wire.getInt ((Wire.int a0) ++ a1)).2.2 == (0 : Int)) (cond (decide ((Wire.getInt ((Wire.int a0) ++ a1)).2.1 ≥ (1 : Int))) (some ((.bool (decide ((Wire.getInt ((Wire.int a0) ++ a1)).2.1 ≤ (9 : Int)))), [])) (some ((.bool false), []))) (some ((.bool false), []))) (some ((.bool false), []))) (some ((.bool false), []))) none) none))
theorem f6_nt_eq (F : Nat) : ∀ v, aexec VG016 (Af6 F) (sub (bodyOf Try.f6) []) (ef6_a v) (kFin VG016 none (Try.f6).results.toList) = f6_nt F v := by
  rintro ⟨a0, a1⟩; kernel_rfl
/-- gantry/gantrylaw01.WireIntRoundTrip -/
def f6 (F : Nat) : Int × (List Int) → Option (AV × List Blk) := f6_nt F
theorem f6_body (F : Nat) (a0 : Int) (a1 : List Int) : abody VG016 (Af6 F) Try.f6 [(.int .i64 a0), (.vs (.rI .u8 a1) 0 1)] [] = f6 F (a0, a1) :=
  (abody_in (c := (sub (bodyOf Try.f6) [])) (by kernel_rfl) (s := ef6_a (a0, a1)) (by kernel_rfl)).trans (f6_nt_eq F (a0, a1))
def r6 : CRun := fun X H => match X, H with
  | [(.int .i64 a0), (.vs (.rI .u8 a1) 0 1)], [] => some (true, (.bool true), [])
  | _, _ => none
theorem s6 (a0 : Int) (a1 : List Int) (h0 : okV (.int .i64 a0)) (h1 : okV (.vs (.rI .u8 a1) 0 1)) : ∃ F, f6 F (a0, a1) = some ((.bool true), []) := by
  have hi : IntKind.i64.has a0 := h0
  have hp := Wire.int_pos a0
  have h9 := Wire.int_le9 a0
  refine ⟨0, ?_⟩
  simp only [f6, f6_nt]
  by_cases h : (a1.length : Int) > 2000
  · rw [cond_pos h]
  · rw [cond_neg h]
    have hb : Nat.blt 0 (Wire.int a0).length = true := by rw [Nat.blt_eq]; omega
    simp only [hb, decide_true, Bool.and_self, cond_true]
    rw [cond_pos (by omega), Wire.getInt_int hi a1]
    simp only [beq_self_eq_true, cond_true]
    rw [cond_pos (by omega), decide_eq_true (by omega)]

theorem c6 : CallOk Try.prog G01 6 r6 := callOk_of (V := VG016) mixed tys eVG016 (f := 6) (fn := Try.f6) Try.func6 (by kernel_rfl) (c := sub (bodyOf Try.f6) []) (by kernel_rfl) (by
  intro X H r H' h hX hH
  unfold r6 at h; split at h <;> try contradiction
  simp only [Option.some.injEq, Prod.mk.injEq] at h
  obtain ⟨hp, rfl, rfl⟩ := h
  obtain ⟨F, hF⟩ := s6 _ _ (hX _ (.head _)) (hX _ (.tail _ (.head _)))
  exact ⟨Af6 F, (f6_body F _ _).trans hF⟩)
/-! gantry/gantrylaw01.WireListRoundTrip -/
def lVG018 : List CEnt := [(11, [some 9], r11), (12, [], r12), (16, [none], r16), (18, [some 3], r18), (20, [some 9], r20), (22, [some 57], r22), (26, [some 5], r26), (28, [some 5], r28), (30, [some 3, some 3], r30), (31, [some 5], r31), (33, [some 9, some 9], r33), (34, [some 5], r34), (36, [some 57, some 57], r36)]
def VG018 : Env := mkEnv T01 G01 lVG018
theorem eVG018 : EOk Try.prog VG018 := eok_mk (by exact ⟨c11, c12, c16, c18, c20, c22, c26, c28, c30, c31, c33, c34, c36, trivial⟩)
def Af8 (F : Nat) : Cuts := { F := F, at_ := fun _ => none, join := fun _ => none }
def ef8_a : (List Int) × (List Int) × (List (List Int)) × (List Int) × Nat × (List Int) → St := fun (a0, a1, a2, a3, a3n, a4) => { tmps := [(0, (.str a0)), (1, (.vs (.rI .i64 a1) 0 1)), (2, (.vs (.rS a2) 0 1)), (3, (.vs (.rI .u8 a3) a3n 16)), (4, (.vs (.rI .u8 a4) 0 1))], heap := [], next := 0, nt := 166, m := 0 }
def f8_nt (F : Nat) : (List Int) × (List Int) × (List (List Int)) × (List Int) × Nat × (List Int) → Option (AV × List Blk) := fun (a0, a1, a2, a3, a3n, a4) => (cond (decide ((IntKind.i64.wrap ((IntKind.i64.wrap ((IntKind.i64.wrap ((↑a0.length : Int) + (↑a1.length : Int))) + (↑a3n : Int))) + (↑a4.length : Int))) > (2000 : Int))) (some ((.bool true), [])) (cond (decide (Wire.total a2 < 4611686018427387904)) (cond (!(Wire.few a2)) (some ((.bool true), [])) (cond (decide (a0.length < 1073741000)) (cond (decide ((Wire.ints a1).length < 1073741000)) (cond (decide (a3.length < 1073741000)) (cond (decide ((Wire.strs a2).length < 1073741000)) (cond ((Nat.blt 0 (Wire.bytes a0).length) && ((decide ((↑(Wire.bytes a0).length : Int) = (↑(Wire.bytes a0).length : Int))) && (decide ((↑(Wire.bytes a0).length : Int) = (↑(Wire.bytes a0).length : Int))))) (cond (decide (((Wire.bytes a0).length + a4.length) < 1073741824)) (cond ((Nat.blt 0 (Wire.ints a1).length) && ((decide ((↑(Wire.ints a1).length : Int) = (↑(Wire.ints a1).length : Int))) && (decide ((↑(Wire.ints a1).length : Int) = (↑(Wire.ints a1).length : Int))))) (cond (decide (((Wire.ints a1).length + a4.length) < 1073741824)) (cond (decide (((Wire.ints a1) ++ a4).length < 1073741000)) (cond ((Nat.blt 0 (Wire.digs a3n a3).length) && ((decide ((↑(Wire.digs a3n a3).length : Int) = (↑(Wire.digs a3n a3).length : Int))) && (decide ((↑(Wire.digs a3n a3).length : Int) = (↑(Wire.digs a3n a3).length : Int))))) (cond (decide (((Wire.digs a3n a3).length + a4.length) < 1073741824)) (cond (decide (((Wire.digs a3n a3) ++ a4).length < 1073741000)) (cond ((Nat.blt 0 (Wire.strs a2).length) && ((decide ((↑(Wire.strs a2).length : Int) = (↑(Wire.strs a2).length : Int))) && (decide ((↑(Wire.strs a2).length : Int) = (↑(Wire.strs a2).length : Int))))) (cond (decide (((Wire.strs a2).length + a4.length) < 1073741824)) (cond (decide (((Wire.strs a2) ++ a4).length < 1073741000)) (cond (decide ((Wire.getStrs ((Wire.strs a2) ++ a4)).1 = a2)) (cond ((Wire.getStrs ((Wire.strs a2) ++ a4)).2.1 == (↑(Wire.strs a2).length : Int)) (cond ((Wire.getStrs ((Wire.strs a2) ++ a4)).2.2 == (0 : Int)) (cond (((Wire.getBytes ((Wire.bytes a0) ++ a4)).1 : List Int) == (a0 : List Int)) (cond ((Wire.getBytes ((Wire.bytes a0) ++ a4)).2.1 == (↑(Wire.bytes a0).length : Int)) (cond ((Wire.getBytes ((Wire.bytes a0) ++ a4)).2.2 == (0 : Int)) (cond (decide ((Wire.getInts ((Wire.ints a1) ++ a4)).1 = a1)) (cond ((Wire.getInts ((Wire.ints a1) ++ a4)).2.1 == (↑(Wire.ints a1).length : Int)) (cond ((Wire.getInts ((Wire.ints a1) ++ a4)).2.2 == (0 : Int)) (cond (decide ((Wire.getDigs ((Wire.digs a3n a3) ++ a4)).2.1 = a3)) (cond ((Wire.getDigs ((Wire.digs a3n a3) ++ a4)).2.2.1 == (↑(Wire.digs a3n a3).length : Int)) (some ((.bool ((Wire.getDigs ((Wire.digs a3n a3) ++ a4)).2.2.2 == (0 : Int))), [])) (some ((.bool false), []))) (some ((.bool false), []))) (some ((.bool false), []))) (some ((.bool false), []))) (some ((.bool false), []))) (some ((.bool false), []))) (some ((.bool false), []))) (some ((.bool false), []))) (some ((.bool false), []))) (some ((.bool false), []))) (some ((.bool false), []))) none) none) none) none) none) none) none) none) none) none) none) none) none) none) none)) none))
theorem f8_nt_eq (F : Nat) : ∀ v, aexec VG018 (Af8 F) (sub (bodyOf Try.f8) []) (ef8_a v) (kFin VG018 none (Try.f8).results.toList) = f8_nt F v := by
  rintro ⟨a0, a1, a2, a3, a3n, a4⟩; kernel_rfl
/-- gantry/gantrylaw01.WireListRoundTrip -/
def f8 (F : Nat) : (List Int) × (List Int) × (List (List Int)) × (List Int) × Nat × (List Int) → Option (AV × List Blk) := f8_nt F
theorem f8_body (F : Nat) (a0 : List Int) (a1 : List Int) (a2 : List (List Int)) (a3 : List Int) (a3n : Nat) (a4 : List Int) : abody VG018 (Af8 F) Try.f8 [(.str a0), (.vs (.rI .i64 a1) 0 1), (.vs (.rS a2) 0 1), (.vs (.rI .u8 a3) a3n 16), (.vs (.rI .u8 a4) 0 1)] [] = f8 F (a0, a1, a2, a3, a3n, a4) :=
  (abody_in (c := (sub (bodyOf Try.f8) [])) (by kernel_rfl) (s := ef8_a (a0, a1, a2, a3, a3n, a4)) (by kernel_rfl)).trans (f8_nt_eq F (a0, a1, a2, a3, a3n, a4))
def r8 : CRun := fun X H => match X, H with
  | [(.str a0), (.vs (.rI .i64 a1) 0 1), (.vs (.rS a2) 0 1), (.vs (.rI .u8 a3) a3n 16), (.vs (.rI .u8 a4) 0 1)], [] => some ((Wire.small a0 a1 a2 a3n), (.bool true), [])
  | _, _ => none
theorem s8 (a0 : List Int) (a1 : List Int) (a2 : List (List Int)) (a3 : List Int) (a3n : Nat) (a4 : List Int) (hp : ((Wire.small a0 a1 a2 a3n)) = true) (h0 : okV (.str a0)) (h1 : okV (.vs (.rI .i64 a1) 0 1)) (h2 : okV (.vs (.rS a2) 0 1)) (h3 : okV (.vs (.rI .u8 a3) a3n 16)) (h4 : okV (.vs (.rI .u8 a4) 0 1)) : ∃ F, f8 F (a0, a1, a2, a3, a3n, a4) = some ((.bool true), []) := by
  obtain ⟨g1, g2, g3, g4⟩ := Wire.small_ok hp
  have hn : a3.length = a3n * 16 := h3.2.1
  have hl4 : a4.length < 4611686018427387904 := h4.2
  have i1 := Wire.ints_le a1
  have i2 := Wire.strs_le a2
  have i4 := Wire.bytes_le a0
  have i5 : (Wire.digs a3n a3).length ≤ 9 + a3.length := by
    have := Wire.int_le9 (a3n : Int)
    simp only [Wire.digs, List.length_append]; omega
  have i3 : a2.length + a2.flatten.length ≤ 1048576 := g3
  have hin : ∀ x ∈ a1, IntKind.i64.has x := h1.1
  refine ⟨0, ?_⟩
  simp only [f8, f8_nt]
  rw [i64w (x := (a0.length : Int) + (a1.length : Int)) (by omega) (by omega), i64w (x := (a0.length : Int) + (a1.length : Int) + (a3n : Int)) (by omega) (by omega), i64w (x := (a0.length : Int) + (a1.length : Int) + (a3n : Int) + (a4.length : Int)) (by omega) (by omega)]
  by_cases h : (a0.length : Int) + (a1.length : Int) + (a3n : Int) + (a4.length : Int) > 2000
  · rw [cond_pos h]
  rw [cond_neg h, cond_pos (by unfold Wire.total; omega)]
  cases hf : Wire.few a2 with
  | false => rfl
  | true =>
  have hd : 1 ≤ (Wire.digs a3n a3).length := by
    have := Wire.int_pos (a3n : Int)
    simp only [Wire.digs, List.length_append]; omega
  have hi : 1 ≤ (Wire.ints a1).length := by
    have := Wire.int_pos (a1.length : Int)
    simp only [Wire.ints, List.length_append]; omega
  have hs : 1 ≤ (Wire.strs a2).length := by
    have := Wire.int_pos (a2.length : Int)
    simp only [Wire.strs, List.length_append]; omega
  have b1 : Nat.blt 0 (Wire.bytes a0).length = true := by rw [Nat.blt_eq]; exact Wire.bytes_pos a0
  have b2 : Nat.blt 0 (Wire.ints a1).length = true := by rw [Nat.blt_eq]; exact hi
  have b3 : Nat.blt 0 (Wire.digs a3n a3).length = true := by rw [Nat.blt_eq]; exact hd
  have b4 : Nat.blt 0 (Wire.strs a2).length = true := by rw [Nat.blt_eq]; exact hs
  have e1 := Wire.getBytes_rt (s := a0) (by omega) a4
  have e2 := Wire.getInts_rt hin (by omega) a4
  have e3 := Wire.getStrs_rt (l := a2) (fun x hx => by have := Wire.mem_le_total hx; unfold Wire.total at this; omega) (by omega) a4
  have e4 := Wire.getDigs_rt hn (by omega) a4
  simp only [Bool.not_true, cond_false, b1, b2, b3, b4, e1, e2, e3, e4, decide_true, Bool.and_self, cond_true, List.length_append, beq_self_eq_true]
  rw [cond_pos (by omega), cond_pos (by omega), cond_pos (by omega), cond_pos (by omega), cond_pos (by omega), cond_pos (by omega), cond_pos (by omega), cond_pos (by omega), cond_pos (by omega), cond_pos (by omega), cond_pos (by omega)]

theorem c8 : CallOk Try.prog G01 8 r8 := callOk_of (V := VG018) mixed tys eVG018 (f := 8) (fn := Try.f8) Try.func8 (by kernel_rfl) (c := sub (bodyOf Try.f8) []) (by kernel_rfl) (by
  intro X H r H' h hX hH
  unfold r8 at h; split at h <;> try contradiction
  simp only [Option.some.injEq, Prod.mk.injEq] at h
  obtain ⟨hp, rfl, rfl⟩ := h
  obtain ⟨F, hF⟩ := s8 _ _ _ _ _ _ hp (hX _ (.head _)) (hX _ (.tail _ (.head _))) (hX _ (.tail _ (.tail _ (.head _)))) (hX _ (.tail _ (.tail _ (.tail _ (.head _))))) (hX _ (.tail _ (.tail _ (.tail _ (.tail _ (.head _))))))
  exact ⟨Af8 F, (f8_body F _ _ _ _ _ _).trans hF⟩)
end Go.Am
