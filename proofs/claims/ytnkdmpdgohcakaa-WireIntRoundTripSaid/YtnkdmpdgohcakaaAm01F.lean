/- Part of a proof about the functions of the given program. -/
import Derived.Test.YtnkdmpdgohcakaaAm01E
import Derived.Test.YtnkdmpdgohcakaaAmWire5
set_option linter.unusedVariables false
set_option linter.unusedSimpArgs false
namespace Go.Am
open Go Go.Proofs

/-! gantry/gantrylaw01.WireDecodeMatchesSpec -/
def lVG014 : List CEnt := [(12, [], r12), (24, [some 5], r24), (25, [some 5], r25), (26, [some 5], r26), (27, [some 5], r27), (28, [some 5], r28), (29, [some 5], r29), (30, [some 3, some 3], r30), (31, [some 5], r31), (32, [some 5], r32), (33, [some 9, some 9], r33), (34, [some 5], r34), (35, [some 5], r35), (36, [some 57, some 57], r36)]
def VG014 : Env := mkEnv T01 G01 lVG014
theorem eVG014 : EOk Try.prog VG014 := eok_mk (by exact ⟨c12, c24, c25, c26, c27, c28, c29, c30, c31, c32, c33, c34, c35, c36, trivial⟩)
def Af4 (F : Nat) : Cuts := { F := F, at_ := fun _ => none, join := fun _ => none }
def ef4_a : (List Int) → St := fun a0 => { tmps := [(0, (.vs (.rI .u8 a0) 0 1))], heap := [], next := 0, nt := 167, m := 0 }
def f4_nt (F : Nat) : (List Int) → Option (AV × List Blk) := fun a0 => (cond (decide ((↑a0.length : Int) > (2000 : Int))) (some ((.bool true), [])) (cond ((Wire.getInt a0).1 != (Wire.getInt a0).1) (some ((.bool false), [])) (cond ((Wire.getInt a0).2.1 != (Wire.getInt a0).2.1) (some ((.bool false), [])) (cond ((Wire.getInt a0).2.2 != (Wire.getInt a0).2.2) (some ((.bool false), [])) (cond (decide (a0.length < 1073741000)) (cond (!(((Wire.getBytes a0).1 : List Int) == ((Wire.getBytes a0).1 : List Int))) (some ((.bool false), [])) (cond ((Wire.getBytes a0).2.1 != (Wire.getBytes a0).2.1) (some ((.bool false), [])) (cond ((Wire.getBytes a0).2.2 != (Wire.getBytes a0).2.2) (some ((.bool false), [])) (cond (decide (a0.length < 1073741000)) (cond (decide (a0.length < 1073741000)) (cond (!(decide ((Wire.getInts a0).1 = (Wire.getInts a0).1))) (some ((.bool false), [])) (cond ((Wire.getInts a0).2.1 != (Wire.getInts a0).2.1) (some ((.bool false), [])) (cond ((Wire.getInts a0).2.2 != (Wire.getInts a0).2.2) (some ((.bool false), [])) (cond (decide (a0.length < 1073741000)) (cond (decide (a0.length < 1073741000)) (cond (!(decide ((Wire.getStrs a0).1 = (Wire.getStrs a0).1))) (some ((.bool false), [])) (cond ((Wire.getStrs a0).2.1 != (Wire.getStrs a0).2.1) (some ((.bool false), [])) (cond ((Wire.getStrs a0).2.2 != (Wire.getStrs a0).2.2) (some ((.bool false), [])) (cond (decide (a0.length < 1073741000)) (cond (decide (a0.length < 1073741000)) (cond (decide ((Wire.getDigs a0).2.1 = (Wire.getDigs a0).2.1)) (cond ((Wire.getDigs a0).2.2.1 == (Wire.getDigs a0).2.2.1) (some ((.bool ((Wire.getDigs a0).2.2.2 == (Wire.getDigs a0).2.2.2)), [])) (some ((.bool false), []))) (some ((.bool false), []))) none) none)))) none) none)))) none) none)))) none)))))
theorem f4_nt_eq (F : Nat) : ∀ v, aexec VG014 (Af4 F) (sub (bodyOf Try.f4) []) (ef4_a v) (kFin VG014 none (Try.f4).results.toList) = f4_nt F v := by
  intro a0; kernel_rfl
/-- gantry/gantrylaw01.WireDecodeMatchesSpec -/
def f4 (F : Nat) : (List Int) → Option (AV × List Blk) := f4_nt F
theorem f4_body (F : Nat) (a0 : List Int) : abody VG014 (Af4 F) Try.f4 [(.vs (.rI .u8 a0) 0 1)] [] = f4 F a0 :=
  (abody_in (c := (sub (bodyOf Try.f4) [])) (by kernel_rfl) (s := ef4_a a0) (by kernel_rfl)).trans (f4_nt_eq F a0)
def r4 : CRun := fun X H => match X, H with
  | [(.vs (.rI .u8 a0) 0 1)], [] => some (true, (.bool true), [])
  | _, _ => none
theorem s4 (a0 : List Int) (h0 : okV (.vs (.rI .u8 a0) 0 1)) : ∃ F, f4 F a0 = some ((.bool true), []) := by
  refine ⟨0, ?_⟩
  simp only [f4, f4_nt]
  by_cases h : (a0.length : Int) > 2000
  · rw [cond_pos h]
  · rw [cond_neg h]
    have hp : decide (a0.length < 1073741000) = true := decide_eq_true (by omega)
    simp only [hp, cond_true, bne_self_eq_false, cond_false, beq_self_eq_true, Bool.not_true, decide_true]

theorem c4 : CallOk Try.prog G01 4 r4 := callOk_of (V := VG014) mixed tys eVG014 (f := 4) (fn := Try.f4) Try.func4 (by kernel_rfl) (c := sub (bodyOf Try.f4) []) (by kernel_rfl) (by
  intro X H r H' h hX hH
  unfold r4 at h; split at h <;> try contradiction
  simp only [Option.some.injEq, Prod.mk.injEq] at h
  obtain ⟨hp, rfl, rfl⟩ := h
  obtain ⟨F, hF⟩ := s4 _ (hX _ (.head _))
  exact ⟨Af4 F, (f4_body F _).trans hF⟩)
/-! gantry/gantrylaw01.WireOrder -/
def lVG015 : List CEnt := [(12, [], r12), (14, [none], r14)]
def VG015 : Env := mkEnv T01 G01 lVG015
theorem eVG015 : EOk Try.prog VG015 := eok_mk (by exact ⟨c12, c14, trivial⟩)
def Af5 (F : Nat) : Cuts := { F := F, at_ := fun _ => none, join := fun _ => none }
def ef5_a : Int × Int → St := fun (a0, a1) => { tmps := [(0, (.int .i64 a0)), (1, (.int .i64 a1))], heap := [], next := 0, nt := 51, m := 0 }
def f5_nt (F : Nat) : Int × Int → Option (AV × List Blk) := fun (a0, a1) => (cond ((decide (a0 < a1)) == (sless ((Wire.int a0) : List Int) ((Wire.int a1) : List Int))) (cond ((a0 == a1) == (((Wire.int a0) : List Int) == ((Wire.int a1) : List Int))) (cond ((decide ((0 : Int) ≤ (if (↑(Wire.int a1).length : Int) < (↑(Wire.int a0).length : Int) then (↑(Wire.int a1).length : Int) else (↑(Wire.int a0).length : Int)))) && (decide ((if (↑(Wire.int a1).length : Int) < (↑(Wire.int a0).length : Int) then (↑(Wire.int a1).length : Int) else (↑(Wire.int a0).length : Int)) ≤ (↑(Wire.int a0).length : Int)))) (cond ((decide ((0 : Int) ≤ (if (↑(Wire.int a1).length : Int) < (↑(Wire.int a0).length : Int) then (↑(Wire.int a1).length : Int) else (↑(Wire.int a0).length : Int)))) && (decide ((if (↑(Wire.int a1).length : Int) < (↑(Wire.int a0).length : Int) then (↑(Wire.int a1).length : Int) else (↑(Wire.int a0).length : Int)) ≤ (↑(Wire.int a1).length : Int)))) (some ((.bool (((((Wire.int a0).take (Int.toNat (if (↑(Wire.int a1).length : Int) < (↑(Wire.int a0).length : Int) then (↑(Wire.int a1).length : Int) else (↑(Wire.int a0).length : Int)))) : List Int) == (((Wire.int a1).take (Int.toNat (if (↑(Wire.int a1).length : Int) < (↑(Wire.int a0).length : Int) then (↑(Wire.int a1).length : Int) else (↑(Wire.int a0).length : Int)))) : List Int)) == (a0 == a1))), [])) none) none) (some ((.bool false), []))) (some ((.bool false), [])))
theorem f5_nt_eq (F : Nat) : ∀ v, aexec VG015 (Af5 F) (sub (bodyOf Try.f5) []) (ef5_a v) (kFin VG015 none (Try.f5).results.toList) = f5_nt F v := by
  rintro ⟨a0, a1⟩; kernel_rfl
/-- gantry/gantrylaw01.WireOrder -/
def f5 (F : Nat) : Int × Int → Option (AV × List Blk) := f5_nt F
theorem f5_body (F : Nat) (a0 : Int) (a1 : Int) : abody VG015 (Af5 F) Try.f5 [(.int .i64 a0), (.int .i64 a1)] [] = f5 F (a0, a1) :=
  (abody_in (c := (sub (bodyOf Try.f5) [])) (by kernel_rfl) (s := ef5_a (a0, a1)) (by kernel_rfl)).trans (f5_nt_eq F (a0, a1))
def r5 : CRun := fun X H => match X, H with
  | [(.int .i64 a0), (.int .i64 a1)], [] => some (true, (.bool true), [])
  | _, _ => none
theorem s5 (a0 : Int) (a1 : Int) (h0 : okV (.int .i64 a0)) (h1 : okV (.int .i64 a1)) : ∃ F, f5 F (a0, a1) = some ((.bool true), []) := by
  refine ⟨0, ?_⟩
  have hm : IntKind.i64.has a0 := h0
  have hn : IntKind.i64.has a1 := h1
  have e1 : sless (Wire.int a0) (Wire.int a1) = decide (a0 < a1) := by rw [Bool.eq_iff_iff, Wire.order hm hn, decide_eq_true_eq]
  have hinj : Wire.int a0 = Wire.int a1 → a0 = a1 := fun e => Wire.int_inj' hm hn (x := []) (y := []) (by rw [e])
  have e2 : (Wire.int a0 == Wire.int a1) = (a0 == a1) := by
    rw [Bool.eq_iff_iff, beq_iff_eq, beq_iff_eq]
    exact ⟨hinj, fun e => by rw [e]⟩
  simp only [f5, f5_nt, e1, e2, beq_self_eq_true, cond_true, dec_and]
  have hk : (if ((Wire.int a1).length : Int) < ((Wire.int a0).length : Int) then ((Wire.int a1).length : Int) else ((Wire.int a0).length : Int)) = ((min (Wire.int a0).length (Wire.int a1).length : Nat) : Int) := by split <;> omega
  rw [hk, Int.toNat_natCast, cond_pos (by omega), cond_pos (by omega)]
  have e3 : ((Wire.int a0).take (min (Wire.int a0).length (Wire.int a1).length) == (Wire.int a1).take (min (Wire.int a0).length (Wire.int a1).length)) = (a0 == a1) := by
    rw [Bool.eq_iff_iff, beq_iff_eq, beq_iff_eq]
    constructor
    · intro e
      by_cases hle : (Wire.int a0).length ≤ (Wire.int a1).length
      · rw [Nat.min_eq_left hle, List.take_length] at e
        refine Wire.int_inj' hm hn (x := (Wire.int a1).drop (Wire.int a0).length) (y := []) ?_
        rw [List.append_nil]
        conv => lhs; lhs; rw [e]
        exact List.take_append_drop _ _
      · rw [Nat.min_eq_right (by omega), List.take_length] at e
        refine (Wire.int_inj' hn hm (x := (Wire.int a0).drop (Wire.int a1).length) (y := []) ?_).symm
        rw [List.append_nil]
        conv => lhs; lhs; rw [← e]
        exact List.take_append_drop _ _
    · intro e; rw [e]
  rw [e3, beq_self_eq_true]

theorem c5 : CallOk Try.prog G01 5 r5 := callOk_of (V := VG015) mixed tys eVG015 (f := 5) (fn := Try.f5) Try.func5 (by kernel_rfl) (c := sub (bodyOf Try.f5) []) (by kernel_rfl) (by
  intro X H r H' h hX hH
  unfold r5 at h; split at h <;> try contradiction
  simp only [Option.some.injEq, Prod.mk.injEq] at h
  obtain ⟨hp, rfl, rfl⟩ := h
  obtain ⟨F, hF⟩ := s5 _ _ (hX _ (.head _)) (hX _ (.tail _ (.head _)))
  exact ⟨Af5 F, (f5_body F _ _).trans hF⟩)
/-! gantry/gantrylaw01.WireCanonical -/
def lVG017 : List CEnt := [(12, [], r12), (14, [none], r14), (16, [none], r16), (18, [some 3], r18), (20, [some 9], r20), (22, [some 57], r22), (24, [some 5], r24), (26, [some 5], r26), (28, [some 5], r28), (31, [some 5], r31), (34, [some 5], r34), (37, [some 5, none, none, none], r37)]
def VG017 : Env := mkEnv T01 G01 lVG017
theorem eVG017 : EOk Try.prog VG017 := eok_mk (by exact ⟨c12, c14, c16, c18, c20, c22, c24, c26, c28, c31, c34, c37, trivial⟩)
def Af7 (F : Nat) : Cuts := { F := F, at_ := fun _ => none, join := fun _ => none }
def ef7_a : (List Int) → St := fun a0 => { tmps := [(0, (.vs (.rI .u8 a0) 0 1))], heap := [], next := 0, nt := 95, m := 0 }
def f7_nt (F : Nat) : (List Int) → Option (AV × List Blk) := fun a0 => (cond (decide ((↑a0.length : Int) > (2000 : Int))) (some ((.bool true), [])) (cond (decide (a0.length < 1073741000)) (cond (decide (a0.length < 1073741000)) (cond (decide (a0.length < 1073741000)) (cond (Wire.is (Wire.int (Wire.getInt a0).1) (Wire.getInt a0).2.1 (Wire.getInt a0).2.2 a0) (cond (decide ((Wire.getBytes a0).1.length < 1073741000)) (cond (Wire.is (Wire.bytes (Wire.getBytes a0).1) (Wire.getBytes a0).2.1 (Wire.getBytes a0).2.2 a0) (cond (decide ((Wire.ints (Wire.getInts a0).1).length < 1073741000)) (cond (Wire.is (Wire.ints (Wire.getInts a0).1) (Wire.getInts a0).2.1 (Wire.getInts a0).2.2 a0) (cond (decide ((Wire.strs (Wire.getStrs a0).1).length < 1073741000)) (cond (Wire.is (Wire.strs (Wire.getStrs a0).1) (Wire.getStrs a0).2.1 (Wire.getStrs a0).2.2 a0) (cond (decide ((Wire.getDigs a0).2.1.length < 1073741000)) (some ((.bool (Wire.is (Wire.digs (Wire.getDigs a0).1 (Wire.getDigs a0).2.1) (Wire.getDigs a0).2.2.1 (Wire.getDigs a0).2.2.2 a0)), [])) none) (some ((.bool false), []))) none) (some ((.bool false), []))) none) (some ((.bool false), []))) none) (some ((.bool false), []))) none) none) none))
theorem f7_nt_eq (F : Nat) : ∀ v, aexec VG017 (Af7 F) (sub (bodyOf Try.f7) []) (ef7_a v) (kFin VG017 none (Try.f7).results.toList) = f7_nt F v := by
  intro a0; kernel_rfl
/-- gantry/gantrylaw01.WireCanonical -/
def f7 (F : Nat) : (List Int) → Option (AV × List Blk) := f7_nt F
theorem f7_body (F : Nat) (a0 : List Int) : abody VG017 (Af7 F) Try.f7 [(.vs (.rI .u8 a0) 0 1)] [] = f7 F a0 :=
  (abody_in (c := (sub (bodyOf Try.f7) [])) (by kernel_rfl) (s := ef7_a a0) (by kernel_rfl)).trans (f7_nt_eq F a0)
def r7 : CRun := fun X H => match X, H with
  | [(.vs (.rI .u8 a0) 0 1)], [] => some (true, (.bool true), [])
  | _, _ => none
theorem is_ok {c : List Int} {u e : Int} {b : List Int} (h : e = 0 → 0 ≤ u ∧ u ≤ (b.length : Int) ∧ c = b.take u.toNat) : Wire.is c u e b = true := by
  unfold Wire.is
  by_cases he : e = 0
  · obtain ⟨h1, h2, h3⟩ := h he
    rw [decide_eq_true h1, decide_eq_true h2, decide_eq_true h3]; simp
  · rw [decide_eq_true he]; rfl
theorem len_of_take {c b : List Int} {n : Nat} (h : c = b.take n) : c.length ≤ b.length := by rw [h, List.length_take]; omega
theorem s7 (a0 : List Int) (h0 : okV (.vs (.rI .u8 a0) 0 1)) : ∃ F, f7 F a0 = some ((.bool true), []) := by
  have hb := Wire.okB_of h0.1
  refine ⟨0, ?_⟩
  simp only [f7, f7_nt]
  by_cases h : (a0.length : Int) > 2000
  · rw [cond_pos h]
  · rw [cond_neg h]
    have hp : decide (a0.length < 1073741000) = true := decide_eq_true (by omega)
    have hr := Wire.getInt_rng hb
    have hr2 := Wire.getBytes_rng hb
    have q1 : Wire.is (Wire.int (Wire.getInt a0).1) (Wire.getInt a0).2.1 (Wire.getInt a0).2.2 a0 = true := is_ok fun e => ⟨hr.2.1, hr.1, Wire.getInt_canon hb e⟩
    have q2 : Wire.is (Wire.bytes (Wire.getBytes a0).1) (Wire.getBytes a0).2.1 (Wire.getBytes a0).2.2 a0 = true := is_ok fun e => ⟨hr2.1, hr2.2.1, Wire.getBytes_canon hb e⟩
    have q3 : Wire.is (Wire.ints (Wire.getInts a0).1) (Wire.getInts a0).2.1 (Wire.getInts a0).2.2 a0 = true := is_ok fun e => Wire.getInts_canon hb e
    have q4 : Wire.is (Wire.strs (Wire.getStrs a0).1) (Wire.getStrs a0).2.1 (Wire.getStrs a0).2.2 a0 = true := is_ok fun e => Wire.getStrs_canon hb e
    have q5 : Wire.is (Wire.digs (Wire.getDigs a0).1 (Wire.getDigs a0).2.1) (Wire.getDigs a0).2.2.1 (Wire.getDigs a0).2.2.2 a0 = true := is_ok fun e => Wire.getDigs_canon hb e
    have z : ∀ l : List Int, l.length ≤ a0.length + 2000 → decide (l.length < 1073741000) = true := fun l hl => decide_eq_true (by omega)
    have n1 : (Wire.getBytes a0).1.length ≤ a0.length + 2000 := by
      simp only [Wire.getBytes]; split
      · simp only [List.length_take, List.length_drop]; omega
      · simp
    have i0 : ((Wire.ints []).length) ≤ a0.length + 2000 := by simp [Wire.ints, Wire.int_len, show Wire.nb (Wire.mag 0) = 0 from rfl]
    have n2 : (Wire.ints (Wire.getInts a0).1).length ≤ a0.length + 2000 := by
      by_cases e : (Wire.getInts a0).2.2 = 0
      · have := len_of_take (Wire.getInts_canon hb e).2.2; omega
      · have : (Wire.getInts a0).1 = [] := Wire.getInts_err e
        rw [this]; exact i0
    have n3 : (Wire.strs (Wire.getStrs a0).1).length ≤ a0.length + 2000 := by
      by_cases e : (Wire.getStrs a0).2.2 = 0
      · have := len_of_take (Wire.getStrs_canon hb e).2.2; omega
      · have : (Wire.getStrs a0).1 = [] := Wire.getStrs_err e
        rw [this]; exact i0
    have n4 : (Wire.getDigs a0).2.1.length ≤ a0.length + 2000 := by
      simp only [Wire.getDigs]; split
      · simp only [List.length_take, List.length_drop]; omega
      · simp
    simp only [hp, cond_true, q1, q2, q3, q4, q5, z _ n1, z _ n2, z _ n3, z _ n4]

theorem c7 : CallOk Try.prog G01 7 r7 := callOk_of (V := VG017) mixed tys eVG017 (f := 7) (fn := Try.f7) Try.func7 (by kernel_rfl) (c := sub (bodyOf Try.f7) []) (by kernel_rfl) (by
  intro X H r H' h hX hH
  unfold r7 at h; split at h <;> try contradiction
  simp only [Option.some.injEq, Prod.mk.injEq] at h
  obtain ⟨hp, rfl, rfl⟩ := h
  obtain ⟨F, hF⟩ := s7 _ (hX _ (.head _))
  exact ⟨Af7 F, (f7_body F _).trans hF⟩)
/-! gantry/gantrylaw01.WireConcat -/
def lVG0110 : List CEnt := [(12, [], r12), (16, [none], r16), (18, [some 3], r18), (26, [some 5], r26), (28, [some 5], r28), (30, [some 3, some 3], r30)]
def VG0110 : Env := mkEnv T01 G01 lVG0110
theorem eVG0110 : EOk Try.prog VG0110 := eok_mk (by exact ⟨c12, c16, c18, c26, c28, c30, trivial⟩)
def Af10 (F : Nat) : Cuts := { F := F, at_ := fun _ => none, join := fun _ => none }
def ef10_a : (List Int) × (List Int) → St := fun (a0, a1) => { tmps := [(0, (.str a0)), (1, (.vs (.rI .i64 a1) 0 1))], heap := [], next := 0, nt := 75, m := 0 }
def f10_nt (F : Nat) : (List Int) × (List Int) → Option (AV × List Blk) := fun (a0, a1) => (cond (decide ((IntKind.i64.wrap ((↑a0.length : Int) + (↑a1.length : Int))) > (2000 : Int))) (some ((.bool true), [])) (cond (decide (a0.length < 1073741000)) (cond (decide ((0 + (Wire.bytes a0).length) < 1073741824)) (cond (decide ((Wire.ints a1).length < 1073741000)) (cond (decide ((([] ++ (Wire.bytes a0)).length + (Wire.ints a1).length) < 1073741824)) (cond ((Wire.getBytes (([] ++ (Wire.bytes a0)) ++ (Wire.ints a1))).2.2 != (0 : Int)) (some ((.bool false), [])) (cond (decide ((Wire.getBytes (([] ++ (Wire.bytes a0)) ++ (Wire.ints a1))).2.1 < (0 : Int))) (some ((.bool false), [])) (cond (decide ((Wire.getBytes (([] ++ (Wire.bytes a0)) ++ (Wire.ints a1))).2.1 > (↑(([] ++ (Wire.bytes a0)) ++ (Wire.ints a1)).length : Int))) (some ((.bool false), [])) (cond (((decide (0 ≤ (Wire.getBytes (([] ++ (Wire.bytes a0)) ++ (Wire.ints a1))).2.1)) && (decide ((Wire.getBytes (([] ++ (Wire.bytes a0)) ++ (Wire.ints a1))).2.1 ≤ (↑(([] ++ (Wire.bytes a0)) ++ (Wire.ints a1)).length : Int)))) && (decide ((↑(([] ++ (Wire.bytes a0)) ++ (Wire.ints a1)).length : Int) ≤ (↑(([] ++ (Wire.bytes a0)) ++ (Wire.ints a1)).length : Int)))) (cond (decide ((((([] ++ (Wire.bytes a0)) ++ (Wire.ints a1)).drop (Int.toNat (Wire.getBytes (([] ++ (Wire.bytes a0)) ++ (Wire.ints a1))).2.1)).take ((([] ++ (Wire.bytes a0)) ++ (Wire.ints a1)).length - (Int.toNat (Wire.getBytes (([] ++ (Wire.bytes a0)) ++ (Wire.ints a1))).2.1))).length < 1073741000)) (cond (((Wire.getBytes (([] ++ (Wire.bytes a0)) ++ (Wire.ints a1))).1 : List Int) == (a0 : List Int)) (cond (decide ((Wire.getInts (((([] ++ (Wire.bytes a0)) ++ (Wire.ints a1)).drop (Int.toNat (Wire.getBytes (([] ++ (Wire.bytes a0)) ++ (Wire.ints a1))).2.1)).take ((([] ++ (Wire.bytes a0)) ++ (Wire.ints a1)).length - (Int.toNat (Wire.getBytes (([] ++ (Wire.bytes a0)) ++ (Wire.ints a1))).2.1)))).1 = a1)) (cond ((Wire.getInts (((([] ++ (Wire.bytes a0)) ++ (Wire.ints a1)).drop (Int.toNat (Wire.getBytes (([] ++ (Wire.bytes a0)) ++ (Wire.ints a1))).2.1)).take ((([] ++ (Wire.bytes a0)) ++ (Wire.ints a1)).length - (Int.toNat (Wire.getBytes (([] ++ (Wire.bytes a0)) ++ (Wire.ints a1))).2.1)))).2.2 == (0 : Int)) (some ((.bool ((IntKind.i64.wrap ((Wire.getBytes (([] ++ (Wire.bytes a0)) ++ (Wire.ints a1))).2.1 + (Wire.getInts (((([] ++ (Wire.bytes a0)) ++ (Wire.ints a1)).drop (Int.toNat (Wire.getBytes (([] ++ (Wire.bytes a0)) ++ (Wire.ints a1))).2.1)).take ((([] ++ (Wire.bytes a0)) ++ (Wire.ints a1)).length - (Int.toNat (Wire.getBytes (([] ++ (Wire.bytes a0)) ++ (Wire.ints a1))).2.1)))).2.1)) == (↑(([] ++ (Wire.bytes a0)) ++ (Wire.ints a1)).length : Int))), [])) (some ((.bool false), []))) (some ((.bool false), []))) (some ((.bool false), []))) none) none)))) none) none) none) none))
theorem f10_nt_eq (F : Nat) : ∀ v, aexec VG0110 (Af10 F) (sub (bodyOf Try.f10) []) (ef10_a v) (kFin VG0110 none (Try.f10).results.toList) = f10_nt F v := by
  rintro ⟨a0, a1⟩; kernel_rfl
/-- gantry/gantrylaw01.WireConcat -/
def f10 (F : Nat) : (List Int) × (List Int) → Option (AV × List Blk) := f10_nt F
theorem f10_body (F : Nat) (a0 : List Int) (a1 : List Int) : abody VG0110 (Af10 F) Try.f10 [(.str a0), (.vs (.rI .i64 a1) 0 1)] [] = f10 F (a0, a1) :=
  (abody_in (c := (sub (bodyOf Try.f10) [])) (by kernel_rfl) (s := ef10_a (a0, a1)) (by kernel_rfl)).trans (f10_nt_eq F (a0, a1))
def r10 : CRun := fun X H => match X, H with
  | [(.str a0), (.vs (.rI .i64 a1) 0 1)], [] => some (true, (.bool true), [])
  | _, _ => none
theorem s10 (a0 : List Int) (a1 : List Int) (h0 : okV (.str a0)) (h1 : okV (.vs (.rI .i64 a1) 0 1)) : ∃ F, f10 F (a0, a1) = some ((.bool true), []) := by
  have hl0 := h0.1
  have hl1 := h1.2
  have hin : ∀ x ∈ a1, IntKind.i64.has x := h1.1
  refine ⟨0, ?_⟩
  have e0 : IntKind.i64.wrap ((a0.length : Int) + (a1.length : Int)) = (a0.length : Int) + (a1.length : Int) := i64w (by omega) (by omega)
  simp only [f10, f10_nt, List.nil_append, e0]
  by_cases h : (a0.length : Int) + (a1.length : Int) > 2000
  · rw [cond_pos h]
  · rw [cond_neg h]
    have b1 : (Wire.bytes a0).length ≤ a0.length + 9 := by
      have := Wire.nb_le (Wire.mag (a0.length : Int))
      simp only [Wire.bytes, List.length_append, Wire.int_len]; omega
    have b2 : (Wire.ints a1).length ≤ 9 + 9 * a1.length := by
      have hle : ∀ l : List Int, (l.flatMap Wire.int).length ≤ 9 * l.length := by
        intro l
        induction l with
        | nil => simp
        | cons x l ih =>
          have := Wire.nb_le (Wire.mag x)
          simp only [List.flatMap_cons, List.length_append, List.length_cons, Wire.int_len]; omega
      have := Wire.nb_le (Wire.mag (a1.length : Int))
      have := hle a1
      simp only [Wire.ints, List.length_append, Wire.int_len]; omega
    have r1 := Wire.getBytes_rt (s := a0) (by omega) (Wire.ints a1)
    have r2 := Wire.getInts_rt hin (by omega) []
    rw [List.append_nil] at r2
    simp only [r1, List.length_append, Int.toNat_natCast, List.drop_left, Nat.add_sub_cancel_left]
    rw [List.take_length]
    simp only [r2, beq_self_eq_true, bne_self_eq_false, decide_true, cond_true, cond_false, dec_and]
    rw [cond_pos (by omega), cond_pos (by omega), cond_pos (by omega), cond_pos (by omega), cond_neg (by omega), cond_neg (by omega), cond_pos (by omega), cond_pos (by omega), i64w (by omega) (by omega)]
    have : ((Wire.bytes a0).length : Int) + ((Wire.ints a1).length : Int) = (((Wire.bytes a0).length + (Wire.ints a1).length : Nat) : Int) := by omega
    rw [this, beq_self_eq_true]

theorem c10 : CallOk Try.prog G01 10 r10 := callOk_of (V := VG0110) mixed tys eVG0110 (f := 10) (fn := Try.f10) Try.func10 (by kernel_rfl) (c := sub (bodyOf Try.f10) []) (by kernel_rfl) (by
  intro X H r H' h hX hH
  unfold r10 at h; split at h <;> try contradiction
  simp only [Option.some.injEq, Prod.mk.injEq] at h
  obtain ⟨hp, rfl, rfl⟩ := h
  obtain ⟨F, hF⟩ := s10 _ _ (hX _ (.head _)) (hX _ (.tail _ (.head _)))
  exact ⟨Af10 F, (f10_body F _ _).trans hF⟩)
end Go.Am
