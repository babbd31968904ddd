/- Part of a proof about the functions of the given program. -/
import Derived.Test.YtgdibbphgdkllaaAmReg
import Derived.Test.YtgdibbphgdkllaaAmWire2
import Derived.Test.YtgdibbphgdkllaaProg
set_option linter.unusedVariables false
set_option linter.unusedSimpArgs false
namespace Go.Am
open Go Go.Proofs
def T38 : Tys := [⟨.other, 1, 0⟩, ⟨.other, 1, 8⟩, ⟨.int .i64, 1, 8⟩, ⟨.int .i64, 1, 8⟩, ⟨.bool, 1, 1⟩, ⟨.int .u8, 1, 1⟩, ⟨.int .u8, 1, 1⟩, ⟨.struct [(2, 0), (3, 1), (4, 2), (6, 3)], 4, 24⟩, ⟨.struct [(2, 0), (3, 1), (4, 2), (6, 3)], 4, 24⟩, ⟨.str, 1, 16⟩, ⟨.str, 1, 16⟩, ⟨.str, 1, 16⟩, ⟨.int .u64, 1, 8⟩, ⟨.other, 0, 0⟩, ⟨.other, 0, 0⟩, ⟨.ptr 115, 1, 8⟩, ⟨.ptr 118, 1, 8⟩, ⟨.ptr 127, 1, 8⟩, ⟨.other, 0, 0⟩, ⟨.other, 0, 0⟩, ⟨.other, 1, 16⟩, ⟨.int .i32, 1, 4⟩, ⟨.slice 3, 1, 24⟩, ⟨.other, 1, 8⟩, ⟨.slice 22, 1, 24⟩, ⟨.other, 1, 8⟩, ⟨.other, 1, 8⟩, ⟨.slice 4, 1, 24⟩, ⟨.other, 1, 8⟩, ⟨.slice 27, 1, 24⟩, ⟨.other, 1, 8⟩, ⟨.int .i64, 1, 8⟩, ⟨.other, 1, 0⟩, ⟨.other, 1, 8⟩, ⟨.other, 1, 8⟩, ⟨.other, 1, 8⟩, ⟨.other, 1, 8⟩, ⟨.other, 1, 8⟩, ⟨.other, 1, 8⟩, ⟨.other, 1, 8⟩, ⟨.other, 1, 8⟩, ⟨.other, 1, 8⟩, ⟨.other, 1, 8⟩, ⟨.other, 1, 8⟩, ⟨.other, 1, 8⟩, ⟨.other, 1, 8⟩, ⟨.other, 1, 8⟩, ⟨.slice 52, 1, 24⟩, ⟨.other, 1, 8⟩, ⟨.other, 1, 8⟩, ⟨.other, 1, 8⟩, ⟨.other, 1, 8⟩, ⟨.arr 3 3, 3, 24⟩, ⟨.other, 1, 8⟩, ⟨.other, 1, 8⟩, ⟨.other, 1, 8⟩, ⟨.other, 1, 8⟩, ⟨.other, 1, 8⟩, ⟨.other, 1, 8⟩, ⟨.other, 1, 8⟩, ⟨.other, 1, 8⟩, ⟨.other, 1, 8⟩, ⟨.other, 1, 8⟩, ⟨.other, 1, 8⟩, ⟨.other, 1, 8⟩, ⟨.other, 1, 8⟩, ⟨.other, 1, 8⟩, ⟨.other, 1, 8⟩, ⟨.arr 6 3, 6, 48⟩, ⟨.other, 1, 8⟩, ⟨.other, 1, 8⟩, ⟨.other, 1, 8⟩, ⟨.other, 1, 8⟩, ⟨.other, 1, 8⟩, ⟨.other, 1, 8⟩, ⟨.other, 1, 8⟩, ⟨.other, 1, 8⟩, ⟨.other, 1, 8⟩, ⟨.other, 1, 8⟩, ⟨.int .u64, 1, 8⟩, ⟨.map 3 3, 1, 8⟩, ⟨.other, 1, 8⟩, ⟨.other, 1, 0⟩, ⟨.map 3 22, 1, 8⟩, ⟨.other, 1, 8⟩, ⟨.other, 1, 8⟩, ⟨.other, 1, 8⟩, ⟨.other, 1, 8⟩, ⟨.slice 24, 1, 24⟩, ⟨.other, 1, 8⟩, ⟨.other, 1, 8⟩, ⟨.other, 1, 8⟩, ⟨.other, 1, 8⟩, ⟨.int .i64, 1, 8⟩, ⟨.other, 1, 0⟩, ⟨.other, 1, 8⟩, ⟨.other, 1, 8⟩, ⟨.other, 1, 8⟩, ⟨.other, 1, 8⟩, ⟨.other, 1, 8⟩, ⟨.int .u32, 1, 4⟩, ⟨.other, 1, 8⟩, ⟨.int .u64, 1, 8⟩, ⟨.int .u64, 1, 8⟩, ⟨.other, 1, 8⟩, ⟨.other, 1, 8⟩, ⟨.other, 1, 8⟩, ⟨.ptr 3, 1, 8⟩, ⟨.other, 1, 8⟩, ⟨.other, 1, 8⟩, ⟨.ptr 103, 1, 8⟩, ⟨.other, 1, 0⟩, ⟨.other, 1, 8⟩, ⟨.other, 1, 8⟩, ⟨.other, 0, 0⟩, ⟨.other, 0, 0⟩, ⟨.arr 0 16, 0, 0⟩, ⟨.other, 0, 0⟩, ⟨.other, 0, 0⟩, ⟨.other, 1, 8⟩, ⟨.int .u8, 1, 1⟩, ⟨.int .u8, 1, 1⟩, ⟨.other, 1, 8⟩, ⟨.ptr 5, 1, 8⟩, ⟨.int .i32, 1, 4⟩, ⟨.int .i32, 1, 4⟩, ⟨.other, 0, 0⟩, ⟨.other, 0, 0⟩, ⟨.other, 1, 8⟩]
def G38 : Nat → Option AV := fun _ => none
theorem mixed : Try.prog.follows .mixedOrders = true := by kernel_rfl
theorem tys : TysOk Try.prog T38 := tysB_ok (by kernel_rfl)

/-! gantry/gantryref01.Around -/
def lVG3810 : List CEnt := []
def VG3810 : Env := mkEnv T38 G38 lVG3810
theorem eVG3810 : EOk Try.prog VG3810 := eok_mk (by exact trivial)
def Af10 (F : Nat) : Cuts := { F := F, at_ := fun _ => none, join := fun _ => none }
def ef10_a : Int × Int → St := fun (a0, a1) => { tmps := [(0, (.int .i64 a0)), (1, (.int .i64 a1))], heap := [], next := 0, nt := 13, m := 0 }
def f10_nt (F : Nat) : Int × Int → Option (AV × List Blk) := fun (a0, a1) => (cond (decide (a0 < (0 : Int))) (cond (!(a1 == 0)) (some ((.int .i64 (Int.tmod (IntKind.i64.wrap (0 - (IntKind.i64.wrap (a0 + (1 : Int))))) a1)), [])) none) (cond (!(a1 == 0)) (some ((.int .i64 (Int.tmod a0 a1)), [])) none))
theorem f10_nt_eq (F : Nat) : ∀ v, aexec VG3810 (Af10 F) (sub (bodyOf Try.f10) []) (ef10_a v) (kFin VG3810 none (Try.f10).results.toList) = f10_nt F v := by
  rintro ⟨a0, a1⟩; kernel_rfl
/-- gantry/gantryref01.Around -/
def f10 (F : Nat) : Int × Int → Option (AV × List Blk) := f10_nt F
theorem f10_body (F : Nat) (a0 : Int) (a1 : Int) : abody VG3810 (Af10 F) Try.f10 [(.int .i64 a0), (.int .i64 a1)] [] = f10 F (a0, a1) :=
  (abody_in (c := (sub (bodyOf Try.f10) [])) (by kernel_rfl) (s := ef10_a (a0, a1)) (by kernel_rfl)).trans (f10_nt_eq F (a0, a1))
def r10 : CRun := fun X H => match X, H with
  | [(.int .i64 a0), (.int .i64 a1)], [] => some ((decide (0 < a1)), (.int .i64 (Reg.around a0 a1)), [])
  | _, _ => none
theorem s10 (a0 : Int) (a1 : Int) (hp : ((decide (0 < a1))) = true) (h0 : okV (.int .i64 a0)) (h1 : okV (.int .i64 a1)) : ∃ F, f10 F (a0, a1) = some ((.int .i64 (Reg.around a0 a1)), []) := by
  have hm : 0 < a1 := of_decide_eq_true hp
  have hn : -9223372036854775808 ≤ a0 ∧ a0 ≤ 9223372036854775807 := h0
  refine ⟨0, ?_⟩
  simp only [f10, f10_nt, int_beq, dec_not, Reg.around]
  by_cases h : a0 < 0
  · rw [cond_pos h, cond_pos (by omega), i64w (x := a0 + 1) (by omega) (by omega), i64w (by omega) (by omega), if_pos h, Int.zero_sub]
  · rw [cond_neg h, cond_pos (by omega), if_neg h]

theorem c10 : CallOk Try.prog G38 10 r10 := callOk_of (V := VG3810) mixed tys eVG3810 (f := 10) (fn := Try.f10) Try.func10 (by kernel_rfl) (c := sub (bodyOf Try.f10) []) (by kernel_rfl) (by
  intro X H r H' h hX hH
  unfold r10 at h; split at h <;> try contradiction
  · simp only [Option.some.injEq, Prod.mk.injEq] at h
    obtain ⟨hp, rfl, rfl⟩ := h
    obtain ⟨F, hF⟩ := s10 _ _ hp (hX _ (.head _)) (hX _ (.tail _ (.head _)))
    exact ⟨Af10 F, (f10_body F _ _).trans hF⟩)
/-! gantry/gantryref01.At -/
def lVG3836 : List CEnt := [(10, [none, none], r10)]
def VG3836 : Env := mkEnv T38 G38 lVG3836
theorem eVG3836 : EOk Try.prog VG3836 := eok_mk (by exact ⟨c10, trivial⟩)
def Af36 (F : Nat) : Cuts := { F := F, at_ := fun _ => none, join := fun _ => none }
def ef36_a : (List Int) × Int × Int → St := fun (a0, a1, a2) => { tmps := [(0, (.vs (.rI .i64 a0) 0 1)), (1, (.int .i64 a1)), (2, (.int .i64 a2))], heap := [], next := 0, nt := 21, m := 0 }
def f36_nt (F : Nat) : (List Int) × Int × Int → Option (AV × List Blk) := fun (a0, a1, a2) => (cond (decide (a1 < (0 : Int))) (some ((.int .i64 (0 : Int)), [])) (cond (decide (a1 ≥ (↑a0.length : Int))) (some ((.int .i64 (0 : Int)), [])) (cond ((decide (0 ≤ a1)) && (decide (a1 < (↑a0.length : Int)))) (cond (decide (0 < a2)) (some ((.int .i64 (Reg.around (a0.getD (Int.toNat a1) 0) a2)), [])) none) none)))
theorem f36_nt_eq (F : Nat) : ∀ v, aexec VG3836 (Af36 F) (sub (bodyOf Try.f36) []) (ef36_a v) (kFin VG3836 none (Try.f36).results.toList) = f36_nt F v := by
  rintro ⟨a0, a1, a2⟩; kernel_rfl
/-- gantry/gantryref01.At -/
def f36 (F : Nat) : (List Int) × Int × Int → Option (AV × List Blk) := f36_nt F
theorem f36_body (F : Nat) (a0 : List Int) (a1 : Int) (a2 : Int) : abody VG3836 (Af36 F) Try.f36 [(.vs (.rI .i64 a0) 0 1), (.int .i64 a1), (.int .i64 a2)] [] = f36 F (a0, a1, a2) :=
  (abody_in (c := (sub (bodyOf Try.f36) [])) (by kernel_rfl) (s := ef36_a (a0, a1, a2)) (by kernel_rfl)).trans (f36_nt_eq F (a0, a1, a2))
def r36 : CRun := fun X H => match X, H with
  | [(.vs (.rI .i64 a0) 0 1), (.int .i64 a1), (.int .i64 a2)], [] => some ((decide (0 < a2)), (.int .i64 (Reg.at_ a0 a1 a2)), [])
  | _, _ => none
theorem s36 (a0 : List Int) (a1 : Int) (a2 : Int) (hp : ((decide (0 < a2))) = true) (h0 : okV (.vs (.rI .i64 a0) 0 1)) (h1 : okV (.int .i64 a1)) (h2 : okV (.int .i64 a2)) : ∃ F, f36 F (a0, a1, a2) = some ((.int .i64 (Reg.at_ a0 a1 a2)), []) := by
  refine ⟨0, ?_⟩
  simp only [f36, f36_nt, hp, cond_true, Reg.at_, dec_and]
  by_cases h : a1 < 0
  · rw [cond_pos h, if_pos (.inl h)]
  · rw [cond_neg h]
    by_cases h' : a1 ≥ (a0.length : Int)
    · rw [cond_pos h', if_pos (.inr h')]
    · rw [cond_neg h', cond_pos (by omega), if_neg (by omega)]

theorem c36 : CallOk Try.prog G38 36 r36 := callOk_of (V := VG3836) mixed tys eVG3836 (f := 36) (fn := Try.f36) Try.func36 (by kernel_rfl) (c := sub (bodyOf Try.f36) []) (by kernel_rfl) (by
  intro X H r H' h hX hH
  unfold r36 at h; split at h <;> try contradiction
  · simp only [Option.some.injEq, Prod.mk.injEq] at h
    obtain ⟨hp, rfl, rfl⟩ := h
    obtain ⟨F, hF⟩ := s36 _ _ _ hp (hX _ (.head _)) (hX _ (.tail _ (.head _))) (hX _ (.tail _ (.tail _ (.head _))))
    exact ⟨Af36 F, (f36_body F _ _ _).trans hF⟩)
/-! gantry/gantryref01.Take -/
def lVG3814 : List CEnt := []
def VG3814 : Env := mkEnv T38 G38 lVG3814
theorem eVG3814 : EOk Try.prog VG3814 := eok_mk (by exact trivial)
def Af14 (F : Nat) : Cuts := { F := F, at_ := fun _ => none, join := fun _ => none, fin := (some [(4, (.own 3))]) }
def ef14_a : (List Int) × Int → St := fun (a0, a1) => { tmps := [(0, (.vs (.rI .i64 a0) 0 1)), (1, (.int .i64 a1))], heap := [], next := 0, nt := 14, m := 0 }
def f14_nt (F : Nat) : (List Int) × Int → Option (AV × List Blk) := fun (a0, a1) => (cond ((decide ((0 : Int) ≤ (if a1 < (↑a0.length : Int) then a1 else (↑a0.length : Int)))) && (decide ((if a1 < (↑a0.length : Int) then a1 else (↑a0.length : Int)) ≤ (↑a0.length : Int)))) (cond (decide ((a0.take (Int.toNat (if a1 < (↑a0.length : Int) then a1 else (↑a0.length : Int)))).length < 1073741824)) (some ((.own 0 0 1), [(.cells ([] ++ (a0.take (Int.toNat (if a1 < (↑a0.length : Int) then a1 else (↑a0.length : Int))))).length (.rI .i64 ([] ++ (a0.take (Int.toNat (if a1 < (↑a0.length : Int) then a1 else (↑a0.length : Int)))))) true)])) none) none)
theorem f14_nt_eq (F : Nat) : ∀ v, aexec VG3814 (Af14 F) (sub (bodyOf Try.f14) []) (ef14_a v) (kFin VG3814 (some [(4, (.own 3))]) (Try.f14).results.toList) = f14_nt F v := by
  rintro ⟨a0, a1⟩; kernel_rfl
/-- gantry/gantryref01.Take -/
def f14 (F : Nat) : (List Int) × Int → Option (AV × List Blk) := f14_nt F
theorem f14_body (F : Nat) (a0 : List Int) (a1 : Int) : abody VG3814 (Af14 F) Try.f14 [(.vs (.rI .i64 a0) 0 1), (.int .i64 a1)] [] = f14 F (a0, a1) :=
  (abody_in (c := (sub (bodyOf Try.f14) [])) (by kernel_rfl) (s := ef14_a (a0, a1)) (by kernel_rfl)).trans (f14_nt_eq F (a0, a1))
def r14 : CRun := fun X H => match X, H with
  | [(.vs (.rI .i64 a0) 0 1), (.int .i64 a1)], [] => some (((decide (0 ≤ a1)) && (decide (Int.toNat a1 < 1073741000))), (.own 0 0 1), [(.cells (a0.take (Int.toNat a1)).length (.rI .i64 (a0.take (Int.toNat a1))) true)])
  | _, _ => none
theorem s14 (a0 : List Int) (a1 : Int) (hp : (((decide (0 ≤ a1)) && (decide (Int.toNat a1 < 1073741000)))) = true) (h0 : okV (.vs (.rI .i64 a0) 0 1)) (h1 : okV (.int .i64 a1)) : ∃ F, f14 F (a0, a1) = some ((.own 0 0 1), [(.cells (a0.take (Int.toNat a1)).length (.rI .i64 (a0.take (Int.toNat a1))) true)]) := by
  simp only [Bool.and_eq_true, decide_eq_true_eq] at hp
  refine ⟨0, ?_⟩
  simp only [f14, f14_nt, dec_and, List.nil_append]
  have e : a0.take (Int.toNat (if a1 < (a0.length : Int) then a1 else (a0.length : Int))) = a0.take (Int.toNat a1) := by
    split
    · rfl
    · rw [Int.toNat_natCast, List.take_length, List.take_of_length_le (by omega)]
  rw [e, cond_pos (by split <;> omega), cond_pos (by rw [List.length_take]; omega)]

theorem c14 : CallOk Try.prog G38 14 r14 := callOk_of (V := VG3814) mixed tys eVG3814 (f := 14) (fn := Try.f14) Try.func14 (by kernel_rfl) (c := sub (bodyOf Try.f14) []) (by kernel_rfl) (by
  intro X H r H' h hX hH
  unfold r14 at h; split at h <;> try contradiction
  · simp only [Option.some.injEq, Prod.mk.injEq] at h
    obtain ⟨hp, rfl, rfl⟩ := h
    obtain ⟨F, hF⟩ := s14 _ _ hp (hX _ (.head _)) (hX _ (.tail _ (.head _)))
    exact ⟨Af14 F, (f14_body F _ _).trans hF⟩)
/-! gantry/gantryref38.Groups -/
def lVG3811 : List CEnt := [(36, [some 3, none, none], r36)]
def VG3811 : Env := mkEnv T38 G38 lVG3811
theorem eVG3811 : EOk Try.prog VG3811 := eok_mk (by exact ⟨c36, trivial⟩)
def Af11 (F : Nat) : Cuts := { F := F + 6, at_ := fun n => match n with | 3016 => some [(0, .plain), (2, .plain), (7, .plain), (8, .plain)] | _ => none, join := fun n => match n with | 1047 => some [(0, .plain), (1, .plain), (2, .plain)] | 2045 => some [(0, .plain), (1, .plain), (2, .plain), (7, .plain)] | 3018 => some [(0, .plain), (2, .plain), (7, .plain), (8, .plain)] | 8024 => some [(2, .plain), (7, .plain)] | _ => none, fin := (some [(6, (.own 22))]), cas := fun n => match n with | 7 => some (9, 4) | _ => none }
def ef11_a : (List Int) × Int → St := fun (a0, a1) => { tmps := [(0, (.vs (.rI .i64 a0) 0 1)), (1, (.int .i64 a1)), (2, (.int .i64 (4 : Int)))], heap := [], next := 0, nt := 57, m := 0 }
def ef11_j1047 : (List Int) × Int → St := fun (t0, t1) => { tmps := [(0, (.vs (.rI .i64 t0) 0 1)), (1, (.int .i64 t1)), (2, (.int .i64 (4 : Int)))], heap := [], next := 0, nt := 57, m := 0 }
def ef11_j2045 : (List Int) × Int × (List Int) × (List Int) × (List Int) × (List Int) → St := fun (t0, t1, x3, x4, x5, x6) => { tmps := [(0, (.vs (.rI .i64 t0) 0 1)), (1, (.int .i64 t1)), (2, (.int .i64 (4 : Int))), (7, (.own 0 0 1))], heap := [(0, (.cells 4 (.segs (.cons 1 (.one (.own 1 0 1)) (.cons 1 (.one (.own 2 0 1)) (.cons 1 (.one (.own 3 0 1)) (.cons 1 (.one (.own 4 0 1)) .nil))))) true)), (1, (.cells x3.length (.rI .i64 x3) true)), (2, (.cells x4.length (.rI .i64 x4) true)), (3, (.cells x5.length (.rI .i64 x5) true)), (4, (.cells x6.length (.rI .i64 x6) true))], next := 5, nt := 57, m := 0 }
def ef11_j3018 : (List Int) × Int × (List Int) × (List Int) × (List Int) × (List Int) → St := fun (t0, t8, x3, x4, x5, x6) => { tmps := [(0, (.vs (.rI .i64 t0) 0 1)), (2, (.int .i64 (4 : Int))), (7, (.own 0 0 1)), (8, (.int .i64 t8))], heap := [(0, (.cells 4 (.segs (.cons 1 (.one (.own 1 0 1)) (.cons 1 (.one (.own 2 0 1)) (.cons 1 (.one (.own 3 0 1)) (.cons 1 (.one (.own 4 0 1)) .nil))))) true)), (1, (.cells x3.length (.rI .i64 x3) true)), (2, (.cells x4.length (.rI .i64 x4) true)), (3, (.cells x5.length (.rI .i64 x5) true)), (4, (.cells x6.length (.rI .i64 x6) true))], next := 5, nt := 57, m := 0 }
def ef11_l3016 : (List Int) × Int × (List Int) × (List Int) × (List Int) × (List Int) → St := fun (t0, t8, x3, x4, x5, x6) => { tmps := [(0, (.vs (.rI .i64 t0) 0 1)), (2, (.int .i64 (4 : Int))), (7, (.own 0 0 1)), (8, (.int .i64 t8))], heap := [(0, (.cells 4 (.segs (.cons 1 (.one (.own 1 0 1)) (.cons 1 (.one (.own 2 0 1)) (.cons 1 (.one (.own 3 0 1)) (.cons 1 (.one (.own 4 0 1)) .nil))))) true)), (1, (.cells x3.length (.rI .i64 x3) true)), (2, (.cells x4.length (.rI .i64 x4) true)), (3, (.cells x5.length (.rI .i64 x5) true)), (4, (.cells x6.length (.rI .i64 x6) true))], next := 5, nt := 57, m := 0 }
def ef11_j8024 : (List Int) × (List Int) × (List Int) × (List Int) → St := fun (x1, x2, x3, x4) => { tmps := [(2, (.int .i64 (4 : Int))), (7, (.own 0 0 1))], heap := [(0, (.cells 4 (.segs (.cons 1 (.one (.own 1 0 1)) (.cons 1 (.one (.own 2 0 1)) (.cons 1 (.one (.own 3 0 1)) (.cons 1 (.one (.own 4 0 1)) .nil))))) true)), (1, (.cells x1.length (.rI .i64 x1) true)), (2, (.cells x2.length (.rI .i64 x2) true)), (3, (.cells x3.length (.rI .i64 x3) true)), (4, (.cells x4.length (.rI .i64 x4) true))], next := 5, nt := 57, m := 0 }
def f11_n0 (F : Nat) (kf11_j1047 : (List Int) × Int → Option (AV × List Blk)) : (List Int) × Int → Option (AV × List Blk) := fun (a0, a1) => (kf11_j1047 (a0, a1))
theorem f11_n0_eq (F : Nat) (Rf11_j1047 : St → Option (AV × List Blk)) : ∀ v, aexec VG3811 (Af11 F) (sub (bodyOf Try.f11) [0]) (ef11_a v) (kSeq (fun s => Rf11_j1047 (cutTo VG3811 (some [(0, .plain), (1, .plain), (2, .plain)]) s)) (kFin VG3811 (some [(6, (.own 22))]) (Try.f11).results.toList)) = f11_n0 F (fun w => Rf11_j1047 (ef11_j1047 w)) v := by
  rintro ⟨a0, a1⟩; kernel_rfl
def f11_n10 (F : Nat) (kf11_j2045 : (List Int) × Int × (List Int) × (List Int) × (List Int) × (List Int) → Option (AV × List Blk)) : (List Int) × Int → Option (AV × List Blk) := fun (t0, t1) => (kf11_j2045 (t0, t1, [], [], [], []))
theorem f11_n10_eq (F : Nat) (Rf11_j2045 : St → Option (AV × List Blk)) : ∀ v, aexec VG3811 (Af11 F) (sub (bodyOf Try.f11) [1, 0]) (ef11_j1047 v) (kSeq (fun s => Rf11_j2045 (cutTo VG3811 (some [(0, .plain), (1, .plain), (2, .plain), (7, .plain)]) s)) (kFin VG3811 (some [(6, (.own 22))]) (Try.f11).results.toList)) = f11_n10 F (fun w => Rf11_j2045 (ef11_j2045 w)) v := by
  rintro ⟨t0, t1⟩; kernel_rfl
def f11_n1100 (F : Nat) (kf11_j3018 : (List Int) × Int × (List Int) × (List Int) × (List Int) × (List Int) → Option (AV × List Blk)) (kf11_j8024 : (List Int) × (List Int) × (List Int) × (List Int) → Option (AV × List Blk)) : (List Int) × Int × (List Int) × (List Int) × (List Int) × (List Int) → Option (AV × List Blk) := fun (t0, t1, x3, x4, x5, x6) => (kf11_j3018 (t0, (IntKind.i64.wrap (t1 - (1 : Int))), x3, x4, x5, x6))
theorem f11_n1100_eq (F : Nat) (Rf11_j3018 : St → Option (AV × List Blk)) (Rf11_j8024 : St → Option (AV × List Blk)) : ∀ v, aexec VG3811 (Af11 F) (sub (bodyOf Try.f11) [1, 1, 0, 0]) (ef11_j2045 v) (kSeq (fun s => Rf11_j3018 (cutTo VG3811 (some [(0, .plain), (2, .plain), (7, .plain), (8, .plain)]) s)) (kSeq (fun s => Rf11_j8024 (cutTo VG3811 (some [(2, .plain), (7, .plain)]) s)) (kFin VG3811 (some [(6, (.own 22))]) (Try.f11).results.toList))) = f11_n1100 F (fun w => Rf11_j3018 (ef11_j3018 w)) (fun w => Rf11_j8024 (ef11_j8024 w)) v := by
  rintro ⟨t0, t1, x3, x4, x5, x6⟩; kernel_rfl
def f11_n110100 (F : Nat) (kf11_l3016 : (List Int) × Int × (List Int) × (List Int) × (List Int) × (List Int) → Option (AV × List Blk)) (kf11_j8024 : (List Int) × (List Int) × (List Int) × (List Int) → Option (AV × List Blk)) : (List Int) × Int × (List Int) × (List Int) × (List Int) × (List Int) → Option (AV × List Blk) := fun (t0, t8, x3, x4, x5, x6) => (cond (decide (t8 ≥ (0 : Int))) (cond (decide (0 < (5 : Int))) (cond (decide ((Reg.at_ t0 t8 (5 : Int)) < (4 : Int))) (cond (decide ((Reg.at_ t0 t8 (5 : Int)) = (0 : Int))) (cond (decide ((x3.length + 1) < 1073741824)) (kf11_l3016 (t0, (IntKind.i64.wrap (t8 - (1 : Int))), (x3 ++ [t8]), x4, x5, x6)) none) (cond (decide ((Reg.at_ t0 t8 (5 : Int)) = (1 : Int))) (cond (decide ((x4.length + 1) < 1073741824)) (kf11_l3016 (t0, (IntKind.i64.wrap (t8 - (1 : Int))), x3, (x4 ++ [t8]), x5, x6)) none) (cond (decide ((Reg.at_ t0 t8 (5 : Int)) = (2 : Int))) (cond (decide ((x5.length + 1) < 1073741824)) (kf11_l3016 (t0, (IntKind.i64.wrap (t8 - (1 : Int))), x3, x4, (x5 ++ [t8]), x6)) none) (cond (decide ((Reg.at_ t0 t8 (5 : Int)) = (3 : Int))) (cond (decide ((x6.length + 1) < 1073741824)) (kf11_l3016 (t0, (IntKind.i64.wrap (t8 - (1 : Int))), x3, x4, x5, (x6 ++ [t8]))) none) none)))) (kf11_l3016 (t0, (IntKind.i64.wrap (t8 - (1 : Int))), x3, x4, x5, x6))) none) (kf11_j8024 (x3, x4, x5, x6)))
theorem f11_n110100_eq (F : Nat) (Rf11_l3016 : St → Option (AV × List Blk)) (Rf11_j8024 : St → Option (AV × List Blk)) : ∀ v, aexec VG3811 (Af11 F) (sub (bodyOf Try.f11) [1, 1, 0, 1, 0, 0]) (ef11_l3016 v) (kSeq (fun s => Rf11_l3016 (cutTo VG3811 (some [(0, .plain), (2, .plain), (7, .plain), (8, .plain)]) s)) (kBlock 0 (kSeq (fun s => Rf11_j8024 (cutTo VG3811 (some [(2, .plain), (7, .plain)]) s)) (kFin VG3811 (some [(6, (.own 22))]) (Try.f11).results.toList)))) = f11_n110100 F (fun w => Rf11_l3016 (ef11_l3016 w)) (fun w => Rf11_j8024 (ef11_j8024 w)) v := by
  rintro ⟨t0, t8, x3, x4, x5, x6⟩; kernel_rfl
def f11_n11010_i : (List Int) × Int × (List Int) × (List Int) × (List Int) × (List Int) → (List Int) × Int × (List Int) × (List Int) × (List Int) × (List Int) := fun (t0, t8, x3, x4, x5, x6) => (t0, t8, x3, x4, x5, x6)
def f11_n11010 (F : Nat) (kf11_j8024 : (List Int) × (List Int) × (List Int) × (List Int) → Option (AV × List Blk)) : (List Int) × Int × (List Int) × (List Int) × (List Int) × (List Int) → Option (AV × List Blk) := fun v => loopN (fun k => f11_n110100 F k kf11_j8024) (F + 6) (f11_n11010_i v)
theorem f11_n11010_eq (F : Nat) (Rf11_j8024 : St → Option (AV × List Blk)) : ∀ v, aexec VG3811 (Af11 F) (sub (bodyOf Try.f11) [1, 1, 0, 1, 0]) (ef11_j3018 v) (kBlock 0 (kSeq (fun s => Rf11_j8024 (cutTo VG3811 (some [(2, .plain), (7, .plain)]) s)) (kFin VG3811 (some [(6, (.own 22))]) (Try.f11).results.toList))) = f11_n11010 F (fun w => Rf11_j8024 (ef11_j8024 w)) v :=
  loop_cut (c := (sub (bodyOf Try.f11) [1, 1, 0, 1, 0])) (d := (sub (bodyOf Try.f11) [1, 1, 0, 1, 0, 0])) (by kernel_rfl) (spec := [(0, .plain), (2, .plain), (7, .plain), (8, .plain)]) (by kernel_rfl) ef11_j3018 ef11_l3016 (kBlock 0 (kSeq (fun s => Rf11_j8024 (cutTo VG3811 (some [(2, .plain), (7, .plain)]) s)) (kFin VG3811 (some [(6, (.own 22))]) (Try.f11).results.toList))) f11_n11010_i (fun k => f11_n110100 F k (fun w => Rf11_j8024 (ef11_j8024 w)))
    (by rintro ⟨t0, t8, x3, x4, x5, x6⟩; kernel_rfl) (fun Rf11_l3016 => f11_n110100_eq F Rf11_l3016 Rf11_j8024)
def f11_n1101 (F : Nat) (kf11_j8024 : (List Int) × (List Int) × (List Int) × (List Int) → Option (AV × List Blk)) : (List Int) × Int × (List Int) × (List Int) × (List Int) × (List Int) → Option (AV × List Blk) := f11_n11010 F kf11_j8024
theorem f11_n1101_eq (F : Nat) (Rf11_j8024 : St → Option (AV × List Blk)) : ∀ v, aexec VG3811 (Af11 F) (sub (bodyOf Try.f11) [1, 1, 0, 1]) (ef11_j3018 v) (kSeq (fun s => Rf11_j8024 (cutTo VG3811 (some [(2, .plain), (7, .plain)]) s)) (kFin VG3811 (some [(6, (.own 22))]) (Try.f11).results.toList)) = f11_n1101 F (fun w => Rf11_j8024 (ef11_j8024 w)) v := fun v =>
  (block_in (c := (sub (bodyOf Try.f11) [1, 1, 0, 1])) (d := (sub (bodyOf Try.f11) [1, 1, 0, 1, 0])) (id := 0) (by kernel_rfl) _ _).trans (f11_n11010_eq F Rf11_j8024 v)
def f11_n110 (F : Nat) (kf11_j8024 : (List Int) × (List Int) × (List Int) × (List Int) → Option (AV × List Blk)) : (List Int) × Int × (List Int) × (List Int) × (List Int) × (List Int) → Option (AV × List Blk) := fun v => f11_n1100 F (f11_n1101 F kf11_j8024) kf11_j8024 v
theorem f11_n110_eq (F : Nat) (Rf11_j8024 : St → Option (AV × List Blk)) : ∀ v, aexec VG3811 (Af11 F) (sub (bodyOf Try.f11) [1, 1, 0]) (ef11_j2045 v) (kSeq (fun s => Rf11_j8024 (cutTo VG3811 (some [(2, .plain), (7, .plain)]) s)) (kFin VG3811 (some [(6, (.own 22))]) (Try.f11).results.toList)) = f11_n110 F (fun w => Rf11_j8024 (ef11_j8024 w)) v :=
  seq_cut (c := (sub (bodyOf Try.f11) [1, 1, 0])) (a := (sub (bodyOf Try.f11) [1, 1, 0, 0])) (b := (sub (bodyOf Try.f11) [1, 1, 0, 1])) (by kernel_rfl) (spec := [(0, .plain), (2, .plain), (7, .plain), (8, .plain)]) (by kernel_rfl) ef11_j2045 ef11_j3018 (kSeq (fun s => Rf11_j8024 (cutTo VG3811 (some [(2, .plain), (7, .plain)]) s)) (kFin VG3811 (some [(6, (.own 22))]) (Try.f11).results.toList)) (fun k => f11_n1100 F k (fun w => Rf11_j8024 (ef11_j8024 w))) (f11_n1101 F (fun w => Rf11_j8024 (ef11_j8024 w)))
    (fun Rf11_j3018 => f11_n1100_eq F Rf11_j3018 Rf11_j8024) (f11_n1101_eq F Rf11_j8024)
def f11_n111 (F : Nat) : (List Int) × (List Int) × (List Int) × (List Int) → Option (AV × List Blk) := fun (x1, x2, x3, x4) => (cond (decide ((↑x1.length : Int) > (0 : Int))) (cond (decide ((↑x2.length : Int) > (0 : Int))) (cond (decide ((↑x3.length : Int) > (0 : Int))) (cond (decide ((↑x4.length : Int) > (0 : Int))) (some ((.own 0 0 1), [(.cells 4 (.rL .i64 [x1, x2, x3, x4]) true)])) (some ((.own 0 0 1), [(.cells 3 (.rL .i64 [x1, x2, x3]) true)]))) (cond (decide ((↑x4.length : Int) > (0 : Int))) (some ((.own 0 0 1), [(.cells 3 (.rL .i64 [x1, x2, x4]) true)])) (some ((.own 0 0 1), [(.cells 2 (.rL .i64 [x1, x2]) true)])))) (cond (decide ((↑x3.length : Int) > (0 : Int))) (cond (decide ((↑x4.length : Int) > (0 : Int))) (some ((.own 0 0 1), [(.cells 3 (.rL .i64 [x1, x3, x4]) true)])) (some ((.own 0 0 1), [(.cells 2 (.rL .i64 [x1, x3]) true)]))) (cond (decide ((↑x4.length : Int) > (0 : Int))) (some ((.own 0 0 1), [(.cells 2 (.rL .i64 [x1, x4]) true)])) (some ((.own 0 0 1), [(.cells 1 (.rL .i64 [x1]) true)]))))) (cond (decide ((↑x2.length : Int) > (0 : Int))) (cond (decide ((↑x3.length : Int) > (0 : Int))) (cond (decide ((↑x4.length : Int) > (0 : Int))) (some ((.own 0 0 1), [(.cells 3 (.rL .i64 [x2, x3, x4]) true)])) (some ((.own 0 0 1), [(.cells 2 (.rL .i64 [x2, x3]) true)]))) (cond (decide ((↑x4.length : Int) > (0 : Int))) (some ((.own 0 0 1), [(.cells 2 (.rL .i64 [x2, x4]) true)])) (some ((.own 0 0 1), [(.cells 1 (.rL .i64 [x2]) true)])))) (cond (decide ((↑x3.length : Int) > (0 : Int))) (cond (decide ((↑x4.length : Int) > (0 : Int))) (some ((.own 0 0 1), [(.cells 2 (.rL .i64 [x3, x4]) true)])) (some ((.own 0 0 1), [(.cells 1 (.rL .i64 [x3]) true)]))) (cond (decide ((↑x4.length : Int) > (0 : Int))) (some ((.own 0 0 1), [(.cells 1 (.rL .i64 [x4]) true)])) (some ((.own 0 0 1), [(.cells 0 (.rL .i64 []) true)]))))))
theorem f11_n111_eq (F : Nat) : ∀ v, aexec VG3811 (Af11 F) (sub (bodyOf Try.f11) [1, 1, 1]) (ef11_j8024 v) (kFin VG3811 (some [(6, (.own 22))]) (Try.f11).results.toList) = f11_n111 F v := by
  rintro ⟨x1, x2, x3, x4⟩; kernel_rfl
def f11_n11 (F : Nat) : (List Int) × Int × (List Int) × (List Int) × (List Int) × (List Int) → Option (AV × List Blk) := fun v => f11_n110 F (f11_n111 F) v
theorem f11_n11_eq (F : Nat) : ∀ v, aexec VG3811 (Af11 F) (sub (bodyOf Try.f11) [1, 1]) (ef11_j2045 v) (kFin VG3811 (some [(6, (.own 22))]) (Try.f11).results.toList) = f11_n11 F v :=
  seq_cut (c := (sub (bodyOf Try.f11) [1, 1])) (a := (sub (bodyOf Try.f11) [1, 1, 0])) (b := (sub (bodyOf Try.f11) [1, 1, 1])) (by kernel_rfl) (spec := [(2, .plain), (7, .plain)]) (by kernel_rfl) ef11_j2045 ef11_j8024 (kFin VG3811 (some [(6, (.own 22))]) (Try.f11).results.toList) (fun k => f11_n110 F k) (f11_n111 F)
    (fun Rf11_j8024 => f11_n110_eq F Rf11_j8024) (f11_n111_eq F)
def f11_n1 (F : Nat) : (List Int) × Int → Option (AV × List Blk) := fun v => f11_n10 F (f11_n11 F) v
theorem f11_n1_eq (F : Nat) : ∀ v, aexec VG3811 (Af11 F) (sub (bodyOf Try.f11) [1]) (ef11_j1047 v) (kFin VG3811 (some [(6, (.own 22))]) (Try.f11).results.toList) = f11_n1 F v :=
  seq_cut (c := (sub (bodyOf Try.f11) [1])) (a := (sub (bodyOf Try.f11) [1, 0])) (b := (sub (bodyOf Try.f11) [1, 1])) (by kernel_rfl) (spec := [(0, .plain), (1, .plain), (2, .plain), (7, .plain)]) (by kernel_rfl) ef11_j1047 ef11_j2045 (kFin VG3811 (some [(6, (.own 22))]) (Try.f11).results.toList) (fun k => f11_n10 F k) (f11_n11 F)
    (fun Rf11_j2045 => f11_n10_eq F Rf11_j2045) (f11_n11_eq F)
def f11_nt (F : Nat) : (List Int) × Int → Option (AV × List Blk) := fun v => f11_n0 F (f11_n1 F) v
theorem f11_nt_eq (F : Nat) : ∀ v, aexec VG3811 (Af11 F) (sub (bodyOf Try.f11) []) (ef11_a v) (kFin VG3811 (some [(6, (.own 22))]) (Try.f11).results.toList) = f11_nt F v :=
  seq_cut (c := (sub (bodyOf Try.f11) [])) (a := (sub (bodyOf Try.f11) [0])) (b := (sub (bodyOf Try.f11) [1])) (by kernel_rfl) (spec := [(0, .plain), (1, .plain), (2, .plain)]) (by kernel_rfl) ef11_a ef11_j1047 (kFin VG3811 (some [(6, (.own 22))]) (Try.f11).results.toList) (fun k => f11_n0 F k) (f11_n1 F)
    (fun Rf11_j1047 => f11_n0_eq F Rf11_j1047) (f11_n1_eq F)
/-- gantry/gantryref38.Groups -/
def f11 (F : Nat) : (List Int) × Int → Option (AV × List Blk) := f11_nt F
theorem f11_body (F : Nat) (a0 : List Int) (a1 : Int) : abody VG3811 (Af11 F) Try.f11 [(.vs (.rI .i64 a0) 0 1), (.int .i64 a1), (.int .i64 (4 : Int))] [] = f11 F (a0, a1) :=
  (abody_in (c := (sub (bodyOf Try.f11) [])) (by kernel_rfl) (s := ef11_a (a0, a1)) (by kernel_rfl)).trans (f11_nt_eq F (a0, a1))
def r11 : CRun := fun X H => match X, H with
  | [(.vs (.rI .i64 a0) 0 1), (.int .i64 a1), (.int .i64 (4 : Int))], [] => some (((decide (0 ≤ a1)) && (decide (Int.toNat a1 < 1073741000))), (.own 0 0 1), [(.cells (Reg.groups a0 (Int.toNat a1) 4).length (.rL .i64 (Reg.groups a0 (Int.toNat a1) 4)) true)])
  | _, _ => none
theorem s11 (a0 : List Int) (a1 : Int) (hp : (((decide (0 ≤ a1)) && (decide (Int.toNat a1 < 1073741000)))) = true) (h0 : okV (.vs (.rI .i64 a0) 0 1)) (h1 : okV (.int .i64 a1)) (h2 : okV (.int .i64 (4 : Int))) : ∃ F, f11 F (a0, a1) = some ((.own 0 0 1), [(.cells (Reg.groups a0 (Int.toNat a1) 4).length (.rL .i64 (Reg.groups a0 (Int.toNat a1) 4)) true)]) := by
  simp only [Bool.and_eq_true, decide_eq_true_eq] at hp
  obtain ⟨n, rfl⟩ : ∃ n : Nat, a1 = (n : Int) := ⟨a1.toNat, by omega⟩
  rw [Int.toNat_natCast]
  refine ⟨n + 1, ?_⟩
  simp only [f11, f11_nt, f11_n0, f11_n1, f11_n10, f11_n11, f11_n110, f11_n1100, f11_n1101, f11_n11010, f11_n11010_i]
  refine loopN_from (fun i => (a0, (n : Int) - 1 - (i : Int), Reg.cls a0 5 n i 0, Reg.cls a0 5 n i 1, Reg.cls a0 5 n i 2, Reg.cls a0 5 n i 3)) n ?_ (fun i hi k => ?_) (fun k => ?_) _ (by omega)
  · rw [i64w (by omega) (by omega)]; simp [Reg.cls]
  · have l0 := Reg.cls_len a0 5 n i 0
    have l1 := Reg.cls_len a0 5 n i 1
    have l2 := Reg.cls_len a0 5 n i 2
    have l3 := Reg.cls_len a0 5 n i 3
    have hr := Reg.at_lt (l := a0) (i := (n : Int) - 1 - (i : Int)) (m := 5) (by omega)
    simp only [f11_n110100, Reg.cls_succ]
    rw [cond_pos (by omega), cond_pos (by omega), i64w (by omega) (by omega)]
    have e : (n : Int) - 1 - (i : Int) - 1 = (n : Int) - 1 - ((i + 1 : Nat) : Int) := by omega
    rw [e]
    generalize Reg.at_ a0 ((n : Int) - 1 - (i : Int)) 5 = q at hr ⊢
    by_cases h4 : q < 4
    · rw [cond_pos h4]
      by_cases q0 : q = 0
      · subst q0; rw [cond_pos rfl, cond_pos (by omega)]; simp
      rw [cond_neg q0]
      by_cases q1 : q = 1
      · subst q1; rw [cond_pos rfl, cond_pos (by omega)]; simp
      rw [cond_neg q1]
      by_cases q2 : q = 2
      · subst q2; rw [cond_pos rfl, cond_pos (by omega)]; simp
      rw [cond_neg q2]
      have q3 : q = 3 := by omega
      subst q3; rw [cond_pos rfl, cond_pos (by omega)]; simp
    · rw [cond_neg h4, if_neg (by omega), if_neg (by omega), if_neg (by omega), if_neg (by omega)]
      simp
  · simp only [f11_n110100]
    rw [cond_neg (by omega)]
    simp only [f11_n111, Reg.groups, List.range_succ, List.range_zero, List.nil_append, List.cons_append, List.map_cons, List.map_nil]
    have z0 : (((0 : Nat) : Int)) = 0 := rfl
    have z1 : (((1 : Nat) : Int)) = 1 := rfl
    have z2 : (((2 : Nat) : Int)) = 2 := rfl
    have z3 : (((3 : Nat) : Int)) = 3 := rfl
    have z4 : (((4 : Nat) : Int)) + 1 = 5 := rfl
    rw [z0, z1, z2, z3, z4]
    generalize Reg.cls a0 5 n n 0 = x0
    generalize Reg.cls a0 5 n n 1 = x1
    generalize Reg.cls a0 5 n n 2 = x2
    generalize Reg.cls a0 5 n n 3 = x3
    have e : ∀ x : List Int, decide ((x.length : Int) > 0) = decide (0 < x.length) := fun x => by rw [Bool.eq_iff_iff]; simp only [decide_eq_true_eq]; omega
    simp only [e, List.filter_cons, List.filter_nil]
    generalize decide (0 < x0.length) = b0
    generalize decide (0 < x1.length) = b1
    generalize decide (0 < x2.length) = b2
    generalize decide (0 < x3.length) = b3
    cases b0 <;> cases b1 <;> cases b2 <;> cases b3 <;> rfl

theorem c11 : CallOk Try.prog G38 11 r11 := callOk_of (V := VG3811) mixed tys eVG3811 (f := 11) (fn := Try.f11) Try.func11 (by kernel_rfl) (c := sub (bodyOf Try.f11) []) (by kernel_rfl) (by
  intro X H r H' h hX hH
  unfold r11 at h; split at h <;> try contradiction
  · simp only [Option.some.injEq, Prod.mk.injEq] at h
    obtain ⟨hp, rfl, rfl⟩ := h
    obtain ⟨F, hF⟩ := s11 _ _ hp (hX _ (.head _)) (hX _ (.tail _ (.head _))) (hX _ (.tail _ (.tail _ (.head _))))
    exact ⟨Af11 F, (f11_body F _ _).trans hF⟩)
/-! gantry/gantryref38.Owners -/
def lVG3812 : List CEnt := [(36, [some 3, none, none], r36)]
def VG3812 : Env := mkEnv T38 G38 lVG3812
theorem eVG3812 : EOk Try.prog VG3812 := eok_mk (by exact ⟨c36, trivial⟩)
def Af12 (F : Nat) : Cuts := { F := F, at_ := fun n => match n with | 3010 => some [(0, .plain), (1, .plain), (2, .plain), (7, .own 2), (8, .plain)] | _ => none, join := fun n => match n with | 1020 => some [(0, .plain), (1, .plain), (2, .plain)] | 2018 => some [(0, .plain), (1, .plain), (2, .plain), (7, .plain)] | 3012 => some [(0, .plain), (1, .plain), (2, .plain), (7, .plain), (8, .plain)] | 6003 => some [(7, .plain)] | _ => none, fin := (some [(6, (.own 3))]) }
def ef12_a : (List Int) × Int × Int → St := fun (a0, a1, a2) => { tmps := [(0, (.vs (.rI .i64 a0) 0 1)), (1, (.int .i64 a1)), (2, (.int .i64 a2))], heap := [], next := 0, nt := 24, m := 0 }
def ef12_j1020 : (List Int) × Int × Int → St := fun (t0, t1, t2) => { tmps := [(0, (.vs (.rI .i64 t0) 0 1)), (1, (.int .i64 t1)), (2, (.int .i64 t2))], heap := [], next := 0, nt := 24, m := 0 }
def ef12_j2018 : (List Int) × Int × Int → St := fun (t0, t1, t2) => { tmps := [(0, (.vs (.rI .i64 t0) 0 1)), (1, (.int .i64 t1)), (2, (.int .i64 t2)), (7, .ns)], heap := [], next := 0, nt := 24, m := 0 }
def ef12_j3012 : (List Int) × Int × Int × Int → St := fun (t0, t1, t2, t8) => { tmps := [(0, (.vs (.rI .i64 t0) 0 1)), (1, (.int .i64 t1)), (2, (.int .i64 t2)), (7, .ns), (8, (.int .i64 t8))], heap := [], next := 0, nt := 24, m := 0 }
def ef12_l3010 : (List Int) × Int × Int × Int × (List Int) → St := fun (t0, t1, t2, t8, x5) => { tmps := [(0, (.vs (.rI .i64 t0) 0 1)), (1, (.int .i64 t1)), (2, (.int .i64 t2)), (7, (.own 0 0 1)), (8, (.int .i64 t8))], heap := [(0, (.cells x5.length (.rI .i64 x5) true))], next := 1, nt := 24, m := 0 }
def ef12_j6003 : (List Int) → St := fun x1 => { tmps := [(7, (.own 0 0 1))], heap := [(0, (.cells x1.length (.rI .i64 x1) true))], next := 1, nt := 24, m := 0 }
def f12_n0 (F : Nat) (kf12_j1020 : (List Int) × Int × Int → Option (AV × List Blk)) : (List Int) × Int × Int → Option (AV × List Blk) := fun (a0, a1, a2) => (kf12_j1020 (a0, a1, a2))
theorem f12_n0_eq (F : Nat) (Rf12_j1020 : St → Option (AV × List Blk)) : ∀ v, aexec VG3812 (Af12 F) (sub (bodyOf Try.f12) [0]) (ef12_a v) (kSeq (fun s => Rf12_j1020 (cutTo VG3812 (some [(0, .plain), (1, .plain), (2, .plain)]) s)) (kFin VG3812 (some [(6, (.own 3))]) (Try.f12).results.toList)) = f12_n0 F (fun w => Rf12_j1020 (ef12_j1020 w)) v := by
  rintro ⟨a0, a1, a2⟩; kernel_rfl
def f12_n10 (F : Nat) (kf12_j2018 : (List Int) × Int × Int → Option (AV × List Blk)) : (List Int) × Int × Int → Option (AV × List Blk) := fun (t0, t1, t2) => (kf12_j2018 (t0, t1, t2))
theorem f12_n10_eq (F : Nat) (Rf12_j2018 : St → Option (AV × List Blk)) : ∀ v, aexec VG3812 (Af12 F) (sub (bodyOf Try.f12) [1, 0]) (ef12_j1020 v) (kSeq (fun s => Rf12_j2018 (cutTo VG3812 (some [(0, .plain), (1, .plain), (2, .plain), (7, .plain)]) s)) (kFin VG3812 (some [(6, (.own 3))]) (Try.f12).results.toList)) = f12_n10 F (fun w => Rf12_j2018 (ef12_j2018 w)) v := by
  rintro ⟨t0, t1, t2⟩; kernel_rfl
def f12_n1100 (F : Nat) (kf12_j3012 : (List Int) × Int × Int × Int → Option (AV × List Blk)) (kf12_j6003 : (List Int) → Option (AV × List Blk)) : (List Int) × Int × Int → Option (AV × List Blk) := fun (t0, t1, t2) => (kf12_j3012 (t0, t1, t2, (0 : Int)))
theorem f12_n1100_eq (F : Nat) (Rf12_j3012 : St → Option (AV × List Blk)) (Rf12_j6003 : St → Option (AV × List Blk)) : ∀ v, aexec VG3812 (Af12 F) (sub (bodyOf Try.f12) [1, 1, 0, 0]) (ef12_j2018 v) (kSeq (fun s => Rf12_j3012 (cutTo VG3812 (some [(0, .plain), (1, .plain), (2, .plain), (7, .plain), (8, .plain)]) s)) (kSeq (fun s => Rf12_j6003 (cutTo VG3812 (some [(7, .plain)]) s)) (kFin VG3812 (some [(6, (.own 3))]) (Try.f12).results.toList))) = f12_n1100 F (fun w => Rf12_j3012 (ef12_j3012 w)) (fun w => Rf12_j6003 (ef12_j6003 w)) v := by
  rintro ⟨t0, t1, t2⟩; kernel_rfl
def f12_n110100 (F : Nat) (kf12_l3010 : (List Int) × Int × Int × Int × (List Int) → Option (AV × List Blk)) (kf12_j6003 : (List Int) → Option (AV × List Blk)) : (List Int) × Int × Int × Int × (List Int) → Option (AV × List Blk) := fun (t0, t1, t2, t8, x5) => (cond (decide (t8 < t1)) (cond (decide (0 < (IntKind.i64.wrap (t2 + (1 : Int))))) (cond (decide ((x5.length + 1) < 1073741824)) (kf12_l3010 (t0, t1, t2, (IntKind.i64.wrap (t8 + (1 : Int))), (x5 ++ [(IntKind.i64.wrap ((Reg.at_ t0 t8 (IntKind.i64.wrap (t2 + (1 : Int)))) - (1 : Int)))]))) none) none) (kf12_j6003 x5))
theorem f12_n110100_eq (F : Nat) (Rf12_l3010 : St → Option (AV × List Blk)) (Rf12_j6003 : St → Option (AV × List Blk)) : ∀ v, aexec VG3812 (Af12 F) (sub (bodyOf Try.f12) [1, 1, 0, 1, 0, 0]) (ef12_l3010 v) (kSeq (fun s => Rf12_l3010 (cutTo VG3812 (some [(0, .plain), (1, .plain), (2, .plain), (7, .own 2), (8, .plain)]) s)) (kBlock 0 (kSeq (fun s => Rf12_j6003 (cutTo VG3812 (some [(7, .plain)]) s)) (kFin VG3812 (some [(6, (.own 3))]) (Try.f12).results.toList)))) = f12_n110100 F (fun w => Rf12_l3010 (ef12_l3010 w)) (fun w => Rf12_j6003 (ef12_j6003 w)) v := by
  rintro ⟨t0, t1, t2, t8, x5⟩; kernel_rfl
def f12_n11010_i : (List Int) × Int × Int × Int → (List Int) × Int × Int × Int × (List Int) := fun (t0, t1, t2, t8) => (t0, t1, t2, t8, [])
def f12_n11010 (F : Nat) (kf12_j6003 : (List Int) → Option (AV × List Blk)) : (List Int) × Int × Int × Int → Option (AV × List Blk) := fun v => loopN (fun k => f12_n110100 F k kf12_j6003) F (f12_n11010_i v)
theorem f12_n11010_eq (F : Nat) (Rf12_j6003 : St → Option (AV × List Blk)) : ∀ v, aexec VG3812 (Af12 F) (sub (bodyOf Try.f12) [1, 1, 0, 1, 0]) (ef12_j3012 v) (kBlock 0 (kSeq (fun s => Rf12_j6003 (cutTo VG3812 (some [(7, .plain)]) s)) (kFin VG3812 (some [(6, (.own 3))]) (Try.f12).results.toList))) = f12_n11010 F (fun w => Rf12_j6003 (ef12_j6003 w)) v :=
  loop_cut (c := (sub (bodyOf Try.f12) [1, 1, 0, 1, 0])) (d := (sub (bodyOf Try.f12) [1, 1, 0, 1, 0, 0])) (by kernel_rfl) (spec := [(0, .plain), (1, .plain), (2, .plain), (7, .own 2), (8, .plain)]) (by kernel_rfl) ef12_j3012 ef12_l3010 (kBlock 0 (kSeq (fun s => Rf12_j6003 (cutTo VG3812 (some [(7, .plain)]) s)) (kFin VG3812 (some [(6, (.own 3))]) (Try.f12).results.toList))) f12_n11010_i (fun k => f12_n110100 F k (fun w => Rf12_j6003 (ef12_j6003 w)))
    (by rintro ⟨t0, t1, t2, t8⟩; kernel_rfl) (fun Rf12_l3010 => f12_n110100_eq F Rf12_l3010 Rf12_j6003)
def f12_n1101 (F : Nat) (kf12_j6003 : (List Int) → Option (AV × List Blk)) : (List Int) × Int × Int × Int → Option (AV × List Blk) := f12_n11010 F kf12_j6003
theorem f12_n1101_eq (F : Nat) (Rf12_j6003 : St → Option (AV × List Blk)) : ∀ v, aexec VG3812 (Af12 F) (sub (bodyOf Try.f12) [1, 1, 0, 1]) (ef12_j3012 v) (kSeq (fun s => Rf12_j6003 (cutTo VG3812 (some [(7, .plain)]) s)) (kFin VG3812 (some [(6, (.own 3))]) (Try.f12).results.toList)) = f12_n1101 F (fun w => Rf12_j6003 (ef12_j6003 w)) v := fun v =>
  (block_in (c := (sub (bodyOf Try.f12) [1, 1, 0, 1])) (d := (sub (bodyOf Try.f12) [1, 1, 0, 1, 0])) (id := 0) (by kernel_rfl) _ _).trans (f12_n11010_eq F Rf12_j6003 v)
def f12_n110 (F : Nat) (kf12_j6003 : (List Int) → Option (AV × List Blk)) : (List Int) × Int × Int → Option (AV × List Blk) := fun v => f12_n1100 F (f12_n1101 F kf12_j6003) kf12_j6003 v
theorem f12_n110_eq (F : Nat) (Rf12_j6003 : St → Option (AV × List Blk)) : ∀ v, aexec VG3812 (Af12 F) (sub (bodyOf Try.f12) [1, 1, 0]) (ef12_j2018 v) (kSeq (fun s => Rf12_j6003 (cutTo VG3812 (some [(7, .plain)]) s)) (kFin VG3812 (some [(6, (.own 3))]) (Try.f12).results.toList)) = f12_n110 F (fun w => Rf12_j6003 (ef12_j6003 w)) v :=
  seq_cut (c := (sub (bodyOf Try.f12) [1, 1, 0])) (a := (sub (bodyOf Try.f12) [1, 1, 0, 0])) (b := (sub (bodyOf Try.f12) [1, 1, 0, 1])) (by kernel_rfl) (spec := [(0, .plain), (1, .plain), (2, .plain), (7, .plain), (8, .plain)]) (by kernel_rfl) ef12_j2018 ef12_j3012 (kSeq (fun s => Rf12_j6003 (cutTo VG3812 (some [(7, .plain)]) s)) (kFin VG3812 (some [(6, (.own 3))]) (Try.f12).results.toList)) (fun k => f12_n1100 F k (fun w => Rf12_j6003 (ef12_j6003 w))) (f12_n1101 F (fun w => Rf12_j6003 (ef12_j6003 w)))
    (fun Rf12_j3012 => f12_n1100_eq F Rf12_j3012 Rf12_j6003) (f12_n1101_eq F Rf12_j6003)
def f12_n111 (F : Nat) : (List Int) → Option (AV × List Blk) := fun x1 => (some ((.own 0 0 1), [(.cells x1.length (.rI .i64 x1) true)]))
theorem f12_n111_eq (F : Nat) : ∀ v, aexec VG3812 (Af12 F) (sub (bodyOf Try.f12) [1, 1, 1]) (ef12_j6003 v) (kFin VG3812 (some [(6, (.own 3))]) (Try.f12).results.toList) = f12_n111 F v := by
  intro x1; kernel_rfl
def f12_n11 (F : Nat) : (List Int) × Int × Int → Option (AV × List Blk) := fun v => f12_n110 F (f12_n111 F) v
theorem f12_n11_eq (F : Nat) : ∀ v, aexec VG3812 (Af12 F) (sub (bodyOf Try.f12) [1, 1]) (ef12_j2018 v) (kFin VG3812 (some [(6, (.own 3))]) (Try.f12).results.toList) = f12_n11 F v :=
  seq_cut (c := (sub (bodyOf Try.f12) [1, 1])) (a := (sub (bodyOf Try.f12) [1, 1, 0])) (b := (sub (bodyOf Try.f12) [1, 1, 1])) (by kernel_rfl) (spec := [(7, .plain)]) (by kernel_rfl) ef12_j2018 ef12_j6003 (kFin VG3812 (some [(6, (.own 3))]) (Try.f12).results.toList) (fun k => f12_n110 F k) (f12_n111 F)
    (fun Rf12_j6003 => f12_n110_eq F Rf12_j6003) (f12_n111_eq F)
def f12_n1 (F : Nat) : (List Int) × Int × Int → Option (AV × List Blk) := fun v => f12_n10 F (f12_n11 F) v
theorem f12_n1_eq (F : Nat) : ∀ v, aexec VG3812 (Af12 F) (sub (bodyOf Try.f12) [1]) (ef12_j1020 v) (kFin VG3812 (some [(6, (.own 3))]) (Try.f12).results.toList) = f12_n1 F v :=
  seq_cut (c := (sub (bodyOf Try.f12) [1])) (a := (sub (bodyOf Try.f12) [1, 0])) (b := (sub (bodyOf Try.f12) [1, 1])) (by kernel_rfl) (spec := [(0, .plain), (1, .plain), (2, .plain), (7, .plain)]) (by kernel_rfl) ef12_j1020 ef12_j2018 (kFin VG3812 (some [(6, (.own 3))]) (Try.f12).results.toList) (fun k => f12_n10 F k) (f12_n11 F)
    (fun Rf12_j2018 => f12_n10_eq F Rf12_j2018) (f12_n11_eq F)
def f12_nt (F : Nat) : (List Int) × Int × Int → Option (AV × List Blk) := fun v => f12_n0 F (f12_n1 F) v
theorem f12_nt_eq (F : Nat) : ∀ v, aexec VG3812 (Af12 F) (sub (bodyOf Try.f12) []) (ef12_a v) (kFin VG3812 (some [(6, (.own 3))]) (Try.f12).results.toList) = f12_nt F v :=
  seq_cut (c := (sub (bodyOf Try.f12) [])) (a := (sub (bodyOf Try.f12) [0])) (b := (sub (bodyOf Try.f12) [1])) (by kernel_rfl) (spec := [(0, .plain), (1, .plain), (2, .plain)]) (by kernel_rfl) ef12_a ef12_j1020 (kFin VG3812 (some [(6, (.own 3))]) (Try.f12).results.toList) (fun k => f12_n0 F k) (f12_n1 F)
    (fun Rf12_j1020 => f12_n0_eq F Rf12_j1020) (f12_n1_eq F)
/-- gantry/gantryref38.Owners -/
def f12 (F : Nat) : (List Int) × Int × Int → Option (AV × List Blk) := f12_nt F
theorem f12_body (F : Nat) (a0 : List Int) (a1 : Int) (a2 : Int) : abody VG3812 (Af12 F) Try.f12 [(.vs (.rI .i64 a0) 0 1), (.int .i64 a1), (.int .i64 a2)] [] = f12 F (a0, a1, a2) :=
  (abody_in (c := (sub (bodyOf Try.f12) [])) (by kernel_rfl) (s := ef12_a (a0, a1, a2)) (by kernel_rfl)).trans (f12_nt_eq F (a0, a1, a2))
def r12 : CRun := fun X H => match X, H with
  | [(.vs (.rI .i64 a0) 0 1), (.int .i64 a1), (.int .i64 a2)], [] => some ((((decide (0 ≤ a1)) && (decide (Int.toNat a1 < 1073741000))) && ((decide (0 ≤ a2)) && (decide (Int.toNat a2 < 1073741000)))), (.own 0 0 1), [(.cells (Reg.owners a0 (Int.toNat a1) a2).length (.rI .i64 (Reg.owners a0 (Int.toNat a1) a2)) true)])
  | _, _ => none
theorem s12 (a0 : List Int) (a1 : Int) (a2 : Int) (hp : ((((decide (0 ≤ a1)) && (decide (Int.toNat a1 < 1073741000))) && ((decide (0 ≤ a2)) && (decide (Int.toNat a2 < 1073741000))))) = true) (h0 : okV (.vs (.rI .i64 a0) 0 1)) (h1 : okV (.int .i64 a1)) (h2 : okV (.int .i64 a2)) : ∃ F, f12 F (a0, a1, a2) = some ((.own 0 0 1), [(.cells (Reg.owners a0 (Int.toNat a1) a2).length (.rI .i64 (Reg.owners a0 (Int.toNat a1) a2)) true)]) := by
  simp only [Bool.and_eq_true, decide_eq_true_eq] at hp
  obtain ⟨n, rfl⟩ : ∃ n : Nat, a1 = (n : Int) := ⟨a1.toNat, by omega⟩
  rw [Int.toNat_natCast]
  refine ⟨n + 1, ?_⟩
  simp only [f12, f12_nt, f12_n0, f12_n1, f12_n10, f12_n11, f12_n110, f12_n1100, f12_n1101, f12_n11010, f12_n11010_i]
  refine loopN_from (fun i => (a0, (n : Int), a2, (i : Int), Reg.owners a0 i a2)) n (by rfl) (fun i hi k => ?_) (fun k => ?_) _ (by omega)
  · have hr := Reg.at_lt (l := a0) (i := (i : Int)) (m := a2 + 1) (by omega)
    simp only [f12_n110100]
    rw [cond_pos (by omega), i64w (x := a2 + 1) (by omega) (by omega), cond_pos (by omega), cond_pos (by simp [Reg.owners]; omega), i64w (x := (i : Int) + 1) (by omega) (by omega), i64w (by omega) (by omega)]
    simp [Reg.owners, List.range_succ]
  · simp only [f12_n110100]
    rw [cond_neg (by omega)]
    rfl

theorem c12 : CallOk Try.prog G38 12 r12 := callOk_of (V := VG3812) mixed tys eVG3812 (f := 12) (fn := Try.f12) Try.func12 (by kernel_rfl) (c := sub (bodyOf Try.f12) []) (by kernel_rfl) (by
  intro X H r H' h hX hH
  unfold r12 at h; split at h <;> try contradiction
  · simp only [Option.some.injEq, Prod.mk.injEq] at h
    obtain ⟨hp, rfl, rfl⟩ := h
    obtain ⟨F, hF⟩ := s12 _ _ _ hp (hX _ (.head _)) (hX _ (.tail _ (.head _))) (hX _ (.tail _ (.tail _ (.head _))))
    exact ⟨Af12 F, (f12_body F _ _ _).trans hF⟩)
/-! gantry/gantryref38.Up -/
def lVG3813 : List CEnt := [(10, [none, none], r10)]
def VG3813 : Env := mkEnv T38 G38 lVG3813
theorem eVG3813 : EOk Try.prog VG3813 := eok_mk (by exact ⟨c10, trivial⟩)
def Af13 (F : Nat) : Cuts := { F := F, at_ := fun n => match n with | 4012 => some [(1, .plain), (5, .plain), (6, .own 4), (7, .plain)] | _ => none, join := fun n => match n with | 1024 => some [(0, .plain), (1, .plain)] | 2022 => some [(1, .plain), (5, .plain)] | 3020 => some [(1, .plain), (5, .plain), (6, .plain)] | 4014 => some [(1, .plain), (5, .plain), (6, .plain), (7, .plain)] | 8003 => some [(6, .plain)] | _ => none, fin := (some [(4, (.own 4))]) }
def ef13_a : Int × Int → St := fun (a0, a1) => { tmps := [(0, (.int .i64 a0)), (1, (.int .i64 a1))], heap := [], next := 0, nt := 24, m := 0 }
def ef13_j1024 : Int × Int → St := fun (t0, t1) => { tmps := [(0, (.int .i64 t0)), (1, (.int .i64 t1))], heap := [], next := 0, nt := 24, m := 0 }
def ef13_j2022 : Int × Int → St := fun (t1, t5) => { tmps := [(1, (.int .i64 t1)), (5, (.int .i64 t5))], heap := [], next := 0, nt := 24, m := 0 }
def ef13_j3020 : Int × Int → St := fun (t1, t5) => { tmps := [(1, (.int .i64 t1)), (5, (.int .i64 t5)), (6, .ns)], heap := [], next := 0, nt := 24, m := 0 }
def ef13_j4014 : Int × Int × Int → St := fun (t1, t5, t7) => { tmps := [(1, (.int .i64 t1)), (5, (.int .i64 t5)), (6, .ns), (7, (.int .i64 t7))], heap := [], next := 0, nt := 24, m := 0 }
def ef13_l4012 : Int × Int × Int × (List Bool) → St := fun (t1, t5, t7, x4) => { tmps := [(1, (.int .i64 t1)), (5, (.int .i64 t5)), (6, (.own 0 0 1)), (7, (.int .i64 t7))], heap := [(0, (.cells x4.length (.rB x4) true))], next := 1, nt := 24, m := 0 }
def ef13_j8003 : (List Bool) → St := fun x1 => { tmps := [(6, (.own 0 0 1))], heap := [(0, (.cells x1.length (.rB x1) true))], next := 1, nt := 24, m := 0 }
def f13_n0 (F : Nat) (kf13_j1024 : Int × Int → Option (AV × List Blk)) : Int × Int → Option (AV × List Blk) := fun (a0, a1) => (kf13_j1024 (a0, a1))
theorem f13_n0_eq (F : Nat) (Rf13_j1024 : St → Option (AV × List Blk)) : ∀ v, aexec VG3813 (Af13 F) (sub (bodyOf Try.f13) [0]) (ef13_a v) (kSeq (fun s => Rf13_j1024 (cutTo VG3813 (some [(0, .plain), (1, .plain)]) s)) (kFin VG3813 (some [(4, (.own 4))]) (Try.f13).results.toList)) = f13_n0 F (fun w => Rf13_j1024 (ef13_j1024 w)) v := by
  rintro ⟨a0, a1⟩; kernel_rfl
def f13_n10 (F : Nat) (kf13_j2022 : Int × Int → Option (AV × List Blk)) : Int × Int → Option (AV × List Blk) := fun (t0, t1) => (cond (decide (0 < (64 : Int))) (kf13_j2022 (t1, (Reg.around t0 (64 : Int)))) none)
theorem f13_n10_eq (F : Nat) (Rf13_j2022 : St → Option (AV × List Blk)) : ∀ v, aexec VG3813 (Af13 F) (sub (bodyOf Try.f13) [1, 0]) (ef13_j1024 v) (kSeq (fun s => Rf13_j2022 (cutTo VG3813 (some [(1, .plain), (5, .plain)]) s)) (kFin VG3813 (some [(4, (.own 4))]) (Try.f13).results.toList)) = f13_n10 F (fun w => Rf13_j2022 (ef13_j2022 w)) v := by
  rintro ⟨t0, t1⟩; kernel_rfl
def f13_n110 (F : Nat) (kf13_j3020 : Int × Int → Option (AV × List Blk)) : Int × Int → Option (AV × List Blk) := fun (t1, t5) => (kf13_j3020 (t1, t5))
theorem f13_n110_eq (F : Nat) (Rf13_j3020 : St → Option (AV × List Blk)) : ∀ v, aexec VG3813 (Af13 F) (sub (bodyOf Try.f13) [1, 1, 0]) (ef13_j2022 v) (kSeq (fun s => Rf13_j3020 (cutTo VG3813 (some [(1, .plain), (5, .plain), (6, .plain)]) s)) (kFin VG3813 (some [(4, (.own 4))]) (Try.f13).results.toList)) = f13_n110 F (fun w => Rf13_j3020 (ef13_j3020 w)) v := by
  rintro ⟨t1, t5⟩; kernel_rfl
def f13_n11100 (F : Nat) (kf13_j4014 : Int × Int × Int → Option (AV × List Blk)) (kf13_j8003 : (List Bool) → Option (AV × List Blk)) : Int × Int → Option (AV × List Blk) := fun (t1, t5) => (kf13_j4014 (t1, t5, (0 : Int)))
theorem f13_n11100_eq (F : Nat) (Rf13_j4014 : St → Option (AV × List Blk)) (Rf13_j8003 : St → Option (AV × List Blk)) : ∀ v, aexec VG3813 (Af13 F) (sub (bodyOf Try.f13) [1, 1, 1, 0, 0]) (ef13_j3020 v) (kSeq (fun s => Rf13_j4014 (cutTo VG3813 (some [(1, .plain), (5, .plain), (6, .plain), (7, .plain)]) s)) (kSeq (fun s => Rf13_j8003 (cutTo VG3813 (some [(6, .plain)]) s)) (kFin VG3813 (some [(4, (.own 4))]) (Try.f13).results.toList))) = f13_n11100 F (fun w => Rf13_j4014 (ef13_j4014 w)) (fun w => Rf13_j8003 (ef13_j8003 w)) v := by
  rintro ⟨t1, t5⟩; kernel_rfl
def f13_n1110100 (F : Nat) (kf13_l4012 : Int × Int × Int × (List Bool) → Option (AV × List Blk)) (kf13_j8003 : (List Bool) → Option (AV × List Blk)) : Int × Int × Int × (List Bool) → Option (AV × List Blk) := fun (t1, t5, t7, x4) => (cond (decide (t7 < t1)) (cond (decide ((x4.length + 1) < 1073741824)) (kf13_l4012 (t1, (IntKind.i64.wrap (Int.tdiv t5 (2 : Int))), (IntKind.i64.wrap (t7 + (1 : Int))), (x4 ++ [((Int.tmod t5 (2 : Int)) == (0 : Int))]))) none) (kf13_j8003 x4))
theorem f13_n1110100_eq (F : Nat) (Rf13_l4012 : St → Option (AV × List Blk)) (Rf13_j8003 : St → Option (AV × List Blk)) : ∀ v, aexec VG3813 (Af13 F) (sub (bodyOf Try.f13) [1, 1, 1, 0, 1, 0, 0]) (ef13_l4012 v) (kSeq (fun s => Rf13_l4012 (cutTo VG3813 (some [(1, .plain), (5, .plain), (6, .own 4), (7, .plain)]) s)) (kBlock 0 (kSeq (fun s => Rf13_j8003 (cutTo VG3813 (some [(6, .plain)]) s)) (kFin VG3813 (some [(4, (.own 4))]) (Try.f13).results.toList)))) = f13_n1110100 F (fun w => Rf13_l4012 (ef13_l4012 w)) (fun w => Rf13_j8003 (ef13_j8003 w)) v := by
  rintro ⟨t1, t5, t7, x4⟩; kernel_rfl
def f13_n111010_i : Int × Int × Int → Int × Int × Int × (List Bool) := fun (t1, t5, t7) => (t1, t5, t7, [])
def f13_n111010 (F : Nat) (kf13_j8003 : (List Bool) → Option (AV × List Blk)) : Int × Int × Int → Option (AV × List Blk) := fun v => loopN (fun k => f13_n1110100 F k kf13_j8003) F (f13_n111010_i v)
theorem f13_n111010_eq (F : Nat) (Rf13_j8003 : St → Option (AV × List Blk)) : ∀ v, aexec VG3813 (Af13 F) (sub (bodyOf Try.f13) [1, 1, 1, 0, 1, 0]) (ef13_j4014 v) (kBlock 0 (kSeq (fun s => Rf13_j8003 (cutTo VG3813 (some [(6, .plain)]) s)) (kFin VG3813 (some [(4, (.own 4))]) (Try.f13).results.toList))) = f13_n111010 F (fun w => Rf13_j8003 (ef13_j8003 w)) v :=
  loop_cut (c := (sub (bodyOf Try.f13) [1, 1, 1, 0, 1, 0])) (d := (sub (bodyOf Try.f13) [1, 1, 1, 0, 1, 0, 0])) (by kernel_rfl) (spec := [(1, .plain), (5, .plain), (6, .own 4), (7, .plain)]) (by kernel_rfl) ef13_j4014 ef13_l4012 (kBlock 0 (kSeq (fun s => Rf13_j8003 (cutTo VG3813 (some [(6, .plain)]) s)) (kFin VG3813 (some [(4, (.own 4))]) (Try.f13).results.toList))) f13_n111010_i (fun k => f13_n1110100 F k (fun w => Rf13_j8003 (ef13_j8003 w)))
    (by rintro ⟨t1, t5, t7⟩; kernel_rfl) (fun Rf13_l4012 => f13_n1110100_eq F Rf13_l4012 Rf13_j8003)
def f13_n11101 (F : Nat) (kf13_j8003 : (List Bool) → Option (AV × List Blk)) : Int × Int × Int → Option (AV × List Blk) := f13_n111010 F kf13_j8003
theorem f13_n11101_eq (F : Nat) (Rf13_j8003 : St → Option (AV × List Blk)) : ∀ v, aexec VG3813 (Af13 F) (sub (bodyOf Try.f13) [1, 1, 1, 0, 1]) (ef13_j4014 v) (kSeq (fun s => Rf13_j8003 (cutTo VG3813 (some [(6, .plain)]) s)) (kFin VG3813 (some [(4, (.own 4))]) (Try.f13).results.toList)) = f13_n11101 F (fun w => Rf13_j8003 (ef13_j8003 w)) v := fun v =>
  (block_in (c := (sub (bodyOf Try.f13) [1, 1, 1, 0, 1])) (d := (sub (bodyOf Try.f13) [1, 1, 1, 0, 1, 0])) (id := 0) (by kernel_rfl) _ _).trans (f13_n111010_eq F Rf13_j8003 v)
def f13_n1110 (F : Nat) (kf13_j8003 : (List Bool) → Option (AV × List Blk)) : Int × Int → Option (AV × List Blk) := fun v => f13_n11100 F (f13_n11101 F kf13_j8003) kf13_j8003 v
theorem f13_n1110_eq (F : Nat) (Rf13_j8003 : St → Option (AV × List Blk)) : ∀ v, aexec VG3813 (Af13 F) (sub (bodyOf Try.f13) [1, 1, 1, 0]) (ef13_j3020 v) (kSeq (fun s => Rf13_j8003 (cutTo VG3813 (some [(6, .plain)]) s)) (kFin VG3813 (some [(4, (.own 4))]) (Try.f13).results.toList)) = f13_n1110 F (fun w => Rf13_j8003 (ef13_j8003 w)) v :=
  seq_cut (c := (sub (bodyOf Try.f13) [1, 1, 1, 0])) (a := (sub (bodyOf Try.f13) [1, 1, 1, 0, 0])) (b := (sub (bodyOf Try.f13) [1, 1, 1, 0, 1])) (by kernel_rfl) (spec := [(1, .plain), (5, .plain), (6, .plain), (7, .plain)]) (by kernel_rfl) ef13_j3020 ef13_j4014 (kSeq (fun s => Rf13_j8003 (cutTo VG3813 (some [(6, .plain)]) s)) (kFin VG3813 (some [(4, (.own 4))]) (Try.f13).results.toList)) (fun k => f13_n11100 F k (fun w => Rf13_j8003 (ef13_j8003 w))) (f13_n11101 F (fun w => Rf13_j8003 (ef13_j8003 w)))
    (fun Rf13_j4014 => f13_n11100_eq F Rf13_j4014 Rf13_j8003) (f13_n11101_eq F Rf13_j8003)
def f13_n1111 (F : Nat) : (List Bool) → Option (AV × List Blk) := fun x1 => (some ((.own 0 0 1), [(.cells x1.length (.rB x1) true)]))
theorem f13_n1111_eq (F : Nat) : ∀ v, aexec VG3813 (Af13 F) (sub (bodyOf Try.f13) [1, 1, 1, 1]) (ef13_j8003 v) (kFin VG3813 (some [(4, (.own 4))]) (Try.f13).results.toList) = f13_n1111 F v := by
  intro x1; kernel_rfl
def f13_n111 (F : Nat) : Int × Int → Option (AV × List Blk) := fun v => f13_n1110 F (f13_n1111 F) v
theorem f13_n111_eq (F : Nat) : ∀ v, aexec VG3813 (Af13 F) (sub (bodyOf Try.f13) [1, 1, 1]) (ef13_j3020 v) (kFin VG3813 (some [(4, (.own 4))]) (Try.f13).results.toList) = f13_n111 F v :=
  seq_cut (c := (sub (bodyOf Try.f13) [1, 1, 1])) (a := (sub (bodyOf Try.f13) [1, 1, 1, 0])) (b := (sub (bodyOf Try.f13) [1, 1, 1, 1])) (by kernel_rfl) (spec := [(6, .plain)]) (by kernel_rfl) ef13_j3020 ef13_j8003 (kFin VG3813 (some [(4, (.own 4))]) (Try.f13).results.toList) (fun k => f13_n1110 F k) (f13_n1111 F)
    (fun Rf13_j8003 => f13_n1110_eq F Rf13_j8003) (f13_n1111_eq F)
def f13_n11 (F : Nat) : Int × Int → Option (AV × List Blk) := fun v => f13_n110 F (f13_n111 F) v
theorem f13_n11_eq (F : Nat) : ∀ v, aexec VG3813 (Af13 F) (sub (bodyOf Try.f13) [1, 1]) (ef13_j2022 v) (kFin VG3813 (some [(4, (.own 4))]) (Try.f13).results.toList) = f13_n11 F v :=
  seq_cut (c := (sub (bodyOf Try.f13) [1, 1])) (a := (sub (bodyOf Try.f13) [1, 1, 0])) (b := (sub (bodyOf Try.f13) [1, 1, 1])) (by kernel_rfl) (spec := [(1, .plain), (5, .plain), (6, .plain)]) (by kernel_rfl) ef13_j2022 ef13_j3020 (kFin VG3813 (some [(4, (.own 4))]) (Try.f13).results.toList) (fun k => f13_n110 F k) (f13_n111 F)
    (fun Rf13_j3020 => f13_n110_eq F Rf13_j3020) (f13_n111_eq F)
def f13_n1 (F : Nat) : Int × Int → Option (AV × List Blk) := fun v => f13_n10 F (f13_n11 F) v
theorem f13_n1_eq (F : Nat) : ∀ v, aexec VG3813 (Af13 F) (sub (bodyOf Try.f13) [1]) (ef13_j1024 v) (kFin VG3813 (some [(4, (.own 4))]) (Try.f13).results.toList) = f13_n1 F v :=
  seq_cut (c := (sub (bodyOf Try.f13) [1])) (a := (sub (bodyOf Try.f13) [1, 0])) (b := (sub (bodyOf Try.f13) [1, 1])) (by kernel_rfl) (spec := [(1, .plain), (5, .plain)]) (by kernel_rfl) ef13_j1024 ef13_j2022 (kFin VG3813 (some [(4, (.own 4))]) (Try.f13).results.toList) (fun k => f13_n10 F k) (f13_n11 F)
    (fun Rf13_j2022 => f13_n10_eq F Rf13_j2022) (f13_n11_eq F)
def f13_nt (F : Nat) : Int × Int → Option (AV × List Blk) := fun v => f13_n0 F (f13_n1 F) v
theorem f13_nt_eq (F : Nat) : ∀ v, aexec VG3813 (Af13 F) (sub (bodyOf Try.f13) []) (ef13_a v) (kFin VG3813 (some [(4, (.own 4))]) (Try.f13).results.toList) = f13_nt F v :=
  seq_cut (c := (sub (bodyOf Try.f13) [])) (a := (sub (bodyOf Try.f13) [0])) (b := (sub (bodyOf Try.f13) [1])) (by kernel_rfl) (spec := [(0, .plain), (1, .plain)]) (by kernel_rfl) ef13_a ef13_j1024 (kFin VG3813 (some [(4, (.own 4))]) (Try.f13).results.toList) (fun k => f13_n0 F k) (f13_n1 F)
    (fun Rf13_j1024 => f13_n0_eq F Rf13_j1024) (f13_n1_eq F)
/-- gantry/gantryref38.Up -/
def f13 (F : Nat) : Int × Int → Option (AV × List Blk) := f13_nt F
theorem f13_body (F : Nat) (a0 : Int) (a1 : Int) : abody VG3813 (Af13 F) Try.f13 [(.int .i64 a0), (.int .i64 a1)] [] = f13 F (a0, a1) :=
  (abody_in (c := (sub (bodyOf Try.f13) [])) (by kernel_rfl) (s := ef13_a (a0, a1)) (by kernel_rfl)).trans (f13_nt_eq F (a0, a1))
def r13 : CRun := fun X H => match X, H with
  | [(.int .i64 a0), (.int .i64 a1)], [] => some (((decide (0 ≤ a1)) && (decide (Int.toNat a1 < 1073741000))), (.own 0 0 1), [(.cells (Reg.ups a0 (Int.toNat a1)).length (.rB (Reg.ups a0 (Int.toNat a1))) true)])
  | _, _ => none
theorem s13 (a0 : Int) (a1 : Int) (hp : (((decide (0 ≤ a1)) && (decide (Int.toNat a1 < 1073741000)))) = true) (h0 : okV (.int .i64 a0)) (h1 : okV (.int .i64 a1)) : ∃ F, f13 F (a0, a1) = some ((.own 0 0 1), [(.cells (Reg.ups a0 (Int.toNat a1)).length (.rB (Reg.ups a0 (Int.toNat a1))) true)]) := by
  simp only [Bool.and_eq_true, decide_eq_true_eq] at hp
  obtain ⟨n, rfl⟩ : ∃ n : Nat, a1 = (n : Int) := ⟨a1.toNat, by omega⟩
  rw [Int.toNat_natCast]
  refine ⟨n + 1, ?_⟩
  simp only [f13, f13_nt, f13_n0, f13_n1, f13_n10, f13_n11, f13_n110, f13_n111, f13_n1110, f13_n11100, f13_n11101, f13_n111010, f13_n111010_i]
  rw [cond_pos (by omega)]
  have hk := Reg.kk_nn (Reg.around_lt (n := a0) (m := 64) (by omega))
  refine loopN_from (fun i => ((n : Int), Reg.kk i (Reg.around a0 64), (i : Int), Reg.ups a0 i)) n (by rfl) (fun i hi k => ?_) (fun k => ?_) _ (by omega)
  · have := hk i
    have h2 := hk (i + 1)
    simp only [Reg.kk] at h2
    simp only [f13_n1110100]
    rw [cond_pos (by omega), cond_pos (by simp [Reg.ups]; omega), i64w (x := (i : Int) + 1) (by omega) (by omega), i64w (by omega) (by omega)]
    simp [Reg.ups, Reg.kk, List.range_succ]
  · simp only [f13_n1110100]
    rw [cond_neg (by omega)]
    rfl

theorem c13 : CallOk Try.prog G38 13 r13 := callOk_of (V := VG3813) mixed tys eVG3813 (f := 13) (fn := Try.f13) Try.func13 (by kernel_rfl) (c := sub (bodyOf Try.f13) []) (by kernel_rfl) (by
  intro X H r H' h hX hH
  unfold r13 at h; split at h <;> try contradiction
  · simp only [Option.some.injEq, Prod.mk.injEq] at h
    obtain ⟨hp, rfl, rfl⟩ := h
    obtain ⟨F, hF⟩ := s13 _ _ hp (hX _ (.head _)) (hX _ (.tail _ (.head _)))
    exact ⟨Af13 F, (f13_body F _ _).trans hF⟩)
/-! gantry/gantryref38.Spoilt -/
def lVG3817 : List CEnt := [(10, [none, none], r10)]
def VG3817 : Env := mkEnv T38 G38 lVG3817
theorem eVG3817 : EOk Try.prog VG3817 := eok_mk (by exact ⟨c10, trivial⟩)
def Af17 (F : Nat) : Cuts := { F := F, at_ := fun n => match n with | 3010 => some [(0, .plain), (1, .plain), (2, .plain), (7, .own 22), (8, .plain)] | _ => none, join := fun n => match n with | 1041 => some [(0, .plain), (1, .plain), (2, .plain)] | 2039 => some [(0, .plain), (1, .plain), (2, .plain), (7, .plain)] | 3012 => some [(0, .plain), (1, .plain), (2, .plain), (7, .plain), (8, .plain)] | 6024 => some [(1, .plain), (2, .plain), (7, .plain)] | _ => none, fin := (some [(6, (.own 22))]) }
def ef17_a : (List (List Int)) × Int × Int → St := fun (a0, a1, a2) => { tmps := [(0, (.vs (.rL .i64 a0) 0 1)), (1, (.int .i64 a1)), (2, (.int .i64 a2))], heap := [], next := 0, nt := 53, m := 0 }
def ef17_j1041 : (List (List Int)) × Int × Int → St := fun (t0, t1, t2) => { tmps := [(0, (.vs (.rL .i64 t0) 0 1)), (1, (.int .i64 t1)), (2, (.int .i64 t2))], heap := [], next := 0, nt := 53, m := 0 }
def ef17_j2039 : (List (List Int)) × Int × Int → St := fun (t0, t1, t2) => { tmps := [(0, (.vs (.rL .i64 t0) 0 1)), (1, (.int .i64 t1)), (2, (.int .i64 t2)), (7, .ns)], heap := [], next := 0, nt := 53, m := 0 }
def ef17_j3012 : (List (List Int)) × Int × Int × Int → St := fun (t0, t1, t2, t8) => { tmps := [(0, (.vs (.rL .i64 t0) 0 1)), (1, (.int .i64 t1)), (2, (.int .i64 t2)), (7, .ns), (8, (.int .i64 t8))], heap := [], next := 0, nt := 53, m := 0 }
def ef17_l3010 : (List (List Int)) × Int × Int × Int × (List (List Int)) → St := fun (t0, t1, t2, t8, x5) => { tmps := [(0, (.vs (.rL .i64 t0) 0 1)), (1, (.int .i64 t1)), (2, (.int .i64 t2)), (7, (.own 0 0 1)), (8, (.int .i64 t8))], heap := [(0, (.cells x5.length (.rL .i64 x5) true))], next := 1, nt := 53, m := 0 }
def ef17_j6024 : Int × Int × (List (List Int)) → St := fun (t1, t2, x3) => { tmps := [(1, (.int .i64 t1)), (2, (.int .i64 t2)), (7, (.own 0 0 1))], heap := [(0, (.cells x3.length (.rL .i64 x3) true))], next := 1, nt := 53, m := 0 }
def f17_n0 (F : Nat) (kf17_j1041 : (List (List Int)) × Int × Int → Option (AV × List Blk)) : (List (List Int)) × Int × Int → Option (AV × List Blk) := fun (a0, a1, a2) => (kf17_j1041 (a0, a1, a2))
theorem f17_n0_eq (F : Nat) (Rf17_j1041 : St → Option (AV × List Blk)) : ∀ v, aexec VG3817 (Af17 F) (sub (bodyOf Try.f17) [0]) (ef17_a v) (kSeq (fun s => Rf17_j1041 (cutTo VG3817 (some [(0, .plain), (1, .plain), (2, .plain)]) s)) (kFin VG3817 (some [(6, (.own 22))]) (Try.f17).results.toList)) = f17_n0 F (fun w => Rf17_j1041 (ef17_j1041 w)) v := by
  rintro ⟨a0, a1, a2⟩; kernel_rfl
def f17_n10 (F : Nat) (kf17_j2039 : (List (List Int)) × Int × Int → Option (AV × List Blk)) : (List (List Int)) × Int × Int → Option (AV × List Blk) := fun (t0, t1, t2) => (kf17_j2039 (t0, t1, t2))
theorem f17_n10_eq (F : Nat) (Rf17_j2039 : St → Option (AV × List Blk)) : ∀ v, aexec VG3817 (Af17 F) (sub (bodyOf Try.f17) [1, 0]) (ef17_j1041 v) (kSeq (fun s => Rf17_j2039 (cutTo VG3817 (some [(0, .plain), (1, .plain), (2, .plain), (7, .plain)]) s)) (kFin VG3817 (some [(6, (.own 22))]) (Try.f17).results.toList)) = f17_n10 F (fun w => Rf17_j2039 (ef17_j2039 w)) v := by
  rintro ⟨t0, t1, t2⟩; kernel_rfl
def f17_n1100 (F : Nat) (kf17_j3012 : (List (List Int)) × Int × Int × Int → Option (AV × List Blk)) (kf17_j6024 : Int × Int × (List (List Int)) → Option (AV × List Blk)) : (List (List Int)) × Int × Int → Option (AV × List Blk) := fun (t0, t1, t2) => (kf17_j3012 (t0, t1, t2, (0 : Int)))
theorem f17_n1100_eq (F : Nat) (Rf17_j3012 : St → Option (AV × List Blk)) (Rf17_j6024 : St → Option (AV × List Blk)) : ∀ v, aexec VG3817 (Af17 F) (sub (bodyOf Try.f17) [1, 1, 0, 0]) (ef17_j2039 v) (kSeq (fun s => Rf17_j3012 (cutTo VG3817 (some [(0, .plain), (1, .plain), (2, .plain), (7, .plain), (8, .plain)]) s)) (kSeq (fun s => Rf17_j6024 (cutTo VG3817 (some [(1, .plain), (2, .plain), (7, .plain)]) s)) (kFin VG3817 (some [(6, (.own 22))]) (Try.f17).results.toList))) = f17_n1100 F (fun w => Rf17_j3012 (ef17_j3012 w)) (fun w => Rf17_j6024 (ef17_j6024 w)) v := by
  rintro ⟨t0, t1, t2⟩; kernel_rfl
def f17_n110100 (F : Nat) (kf17_l3010 : (List (List Int)) × Int × Int × Int × (List (List Int)) → Option (AV × List Blk)) (kf17_j6024 : Int × Int × (List (List Int)) → Option (AV × List Blk)) : (List (List Int)) × Int × Int × Int × (List (List Int)) → Option (AV × List Blk) := fun (t0, t1, t2, t8, x5) => (cond (decide (t8 < (↑t0.length : Int))) (cond ((decide (0 ≤ t8)) && (decide (t8 < (↑t0.length : Int)))) (cond (decide ((0 + (t0.getD (Int.toNat t8) []).length) < 1073741824)) (cond (decide ((x5.length + 1) < 1073741824)) (kf17_l3010 (t0, t1, t2, (IntKind.i64.wrap (t8 + (1 : Int))), (x5 ++ [([] ++ (t0.getD (Int.toNat t8) []))]))) none) none) none) (kf17_j6024 (t1, t2, x5)))
theorem f17_n110100_eq (F : Nat) (Rf17_l3010 : St → Option (AV × List Blk)) (Rf17_j6024 : St → Option (AV × List Blk)) : ∀ v, aexec VG3817 (Af17 F) (sub (bodyOf Try.f17) [1, 1, 0, 1, 0, 0]) (ef17_l3010 v) (kSeq (fun s => Rf17_l3010 (cutTo VG3817 (some [(0, .plain), (1, .plain), (2, .plain), (7, .own 22), (8, .plain)]) s)) (kBlock 0 (kSeq (fun s => Rf17_j6024 (cutTo VG3817 (some [(1, .plain), (2, .plain), (7, .plain)]) s)) (kFin VG3817 (some [(6, (.own 22))]) (Try.f17).results.toList)))) = f17_n110100 F (fun w => Rf17_l3010 (ef17_l3010 w)) (fun w => Rf17_j6024 (ef17_j6024 w)) v := by
  rintro ⟨t0, t1, t2, t8, x5⟩; kernel_rfl
def f17_n11010_i : (List (List Int)) × Int × Int × Int → (List (List Int)) × Int × Int × Int × (List (List Int)) := fun (t0, t1, t2, t8) => (t0, t1, t2, t8, [])
def f17_n11010 (F : Nat) (kf17_j6024 : Int × Int × (List (List Int)) → Option (AV × List Blk)) : (List (List Int)) × Int × Int × Int → Option (AV × List Blk) := fun v => loopN (fun k => f17_n110100 F k kf17_j6024) F (f17_n11010_i v)
theorem f17_n11010_eq (F : Nat) (Rf17_j6024 : St → Option (AV × List Blk)) : ∀ v, aexec VG3817 (Af17 F) (sub (bodyOf Try.f17) [1, 1, 0, 1, 0]) (ef17_j3012 v) (kBlock 0 (kSeq (fun s => Rf17_j6024 (cutTo VG3817 (some [(1, .plain), (2, .plain), (7, .plain)]) s)) (kFin VG3817 (some [(6, (.own 22))]) (Try.f17).results.toList))) = f17_n11010 F (fun w => Rf17_j6024 (ef17_j6024 w)) v :=
  loop_cut (c := (sub (bodyOf Try.f17) [1, 1, 0, 1, 0])) (d := (sub (bodyOf Try.f17) [1, 1, 0, 1, 0, 0])) (by kernel_rfl) (spec := [(0, .plain), (1, .plain), (2, .plain), (7, .own 22), (8, .plain)]) (by kernel_rfl) ef17_j3012 ef17_l3010 (kBlock 0 (kSeq (fun s => Rf17_j6024 (cutTo VG3817 (some [(1, .plain), (2, .plain), (7, .plain)]) s)) (kFin VG3817 (some [(6, (.own 22))]) (Try.f17).results.toList))) f17_n11010_i (fun k => f17_n110100 F k (fun w => Rf17_j6024 (ef17_j6024 w)))
    (by rintro ⟨t0, t1, t2, t8⟩; kernel_rfl) (fun Rf17_l3010 => f17_n110100_eq F Rf17_l3010 Rf17_j6024)
def f17_n1101 (F : Nat) (kf17_j6024 : Int × Int × (List (List Int)) → Option (AV × List Blk)) : (List (List Int)) × Int × Int × Int → Option (AV × List Blk) := f17_n11010 F kf17_j6024
theorem f17_n1101_eq (F : Nat) (Rf17_j6024 : St → Option (AV × List Blk)) : ∀ v, aexec VG3817 (Af17 F) (sub (bodyOf Try.f17) [1, 1, 0, 1]) (ef17_j3012 v) (kSeq (fun s => Rf17_j6024 (cutTo VG3817 (some [(1, .plain), (2, .plain), (7, .plain)]) s)) (kFin VG3817 (some [(6, (.own 22))]) (Try.f17).results.toList)) = f17_n1101 F (fun w => Rf17_j6024 (ef17_j6024 w)) v := fun v =>
  (block_in (c := (sub (bodyOf Try.f17) [1, 1, 0, 1])) (d := (sub (bodyOf Try.f17) [1, 1, 0, 1, 0])) (id := 0) (by kernel_rfl) _ _).trans (f17_n11010_eq F Rf17_j6024 v)
def f17_n110 (F : Nat) (kf17_j6024 : Int × Int × (List (List Int)) → Option (AV × List Blk)) : (List (List Int)) × Int × Int → Option (AV × List Blk) := fun v => f17_n1100 F (f17_n1101 F kf17_j6024) kf17_j6024 v
theorem f17_n110_eq (F : Nat) (Rf17_j6024 : St → Option (AV × List Blk)) : ∀ v, aexec VG3817 (Af17 F) (sub (bodyOf Try.f17) [1, 1, 0]) (ef17_j2039 v) (kSeq (fun s => Rf17_j6024 (cutTo VG3817 (some [(1, .plain), (2, .plain), (7, .plain)]) s)) (kFin VG3817 (some [(6, (.own 22))]) (Try.f17).results.toList)) = f17_n110 F (fun w => Rf17_j6024 (ef17_j6024 w)) v :=
  seq_cut (c := (sub (bodyOf Try.f17) [1, 1, 0])) (a := (sub (bodyOf Try.f17) [1, 1, 0, 0])) (b := (sub (bodyOf Try.f17) [1, 1, 0, 1])) (by kernel_rfl) (spec := [(0, .plain), (1, .plain), (2, .plain), (7, .plain), (8, .plain)]) (by kernel_rfl) ef17_j2039 ef17_j3012 (kSeq (fun s => Rf17_j6024 (cutTo VG3817 (some [(1, .plain), (2, .plain), (7, .plain)]) s)) (kFin VG3817 (some [(6, (.own 22))]) (Try.f17).results.toList)) (fun k => f17_n1100 F k (fun w => Rf17_j6024 (ef17_j6024 w))) (f17_n1101 F (fun w => Rf17_j6024 (ef17_j6024 w)))
    (fun Rf17_j3012 => f17_n1100_eq F Rf17_j3012 Rf17_j6024) (f17_n1101_eq F Rf17_j6024)
def f17_n111 (F : Nat) : Int × Int × (List (List Int)) → Option (AV × List Blk) := fun (t1, t2, x3) => (cond (decide (0 < (4 : Int))) (cond ((Reg.around t1 (4 : Int)) == (0 : Int)) (cond (decide ((x3.length + 1) < 1073741824)) (some ((.own 0 0 1), [(.cells (x3 ++ [[]]).length (.rL .i64 (x3 ++ [[]])) true)])) none) (cond ((Reg.around t1 (4 : Int)) == (1 : Int)) (cond (decide ((x3.length + 1) < 1073741824)) (some ((.own 0 0 1), [(.cells (x3 ++ [[t2]]).length (.rL .i64 (x3 ++ [[t2]])) true)])) none) (cond ((Reg.around t1 (4 : Int)) == (2 : Int)) (cond (decide ((↑x3.length : Int) > (0 : Int))) (cond (decide ((0 : Int) < (↑x3.length : Int))) (cond (decide ((0 : Int) < (↑(x3.getD 0 []).length : Int))) (cond (decide ((x3.length + 1) < 1073741824)) (some ((.own 0 0 1), [(.cells (x3 ++ [[((x3.getD 0 []).getD 0 0)]]).length (.rL .i64 (x3 ++ [[((x3.getD 0 []).getD 0 0)]])) true)])) none) none) none) (some ((.own 0 0 1), [(.cells x3.length (.rL .i64 x3) true)]))) (some ((.own 0 0 1), [(.cells x3.length (.rL .i64 x3) true)]))))) none)
theorem f17_n111_eq (F : Nat) : ∀ v, aexec VG3817 (Af17 F) (sub (bodyOf Try.f17) [1, 1, 1]) (ef17_j6024 v) (kFin VG3817 (some [(6, (.own 22))]) (Try.f17).results.toList) = f17_n111 F v := by
  rintro ⟨t1, t2, x3⟩; kernel_rfl
def f17_n11 (F : Nat) : (List (List Int)) × Int × Int → Option (AV × List Blk) := fun v => f17_n110 F (f17_n111 F) v
theorem f17_n11_eq (F : Nat) : ∀ v, aexec VG3817 (Af17 F) (sub (bodyOf Try.f17) [1, 1]) (ef17_j2039 v) (kFin VG3817 (some [(6, (.own 22))]) (Try.f17).results.toList) = f17_n11 F v :=
  seq_cut (c := (sub (bodyOf Try.f17) [1, 1])) (a := (sub (bodyOf Try.f17) [1, 1, 0])) (b := (sub (bodyOf Try.f17) [1, 1, 1])) (by kernel_rfl) (spec := [(1, .plain), (2, .plain), (7, .plain)]) (by kernel_rfl) ef17_j2039 ef17_j6024 (kFin VG3817 (some [(6, (.own 22))]) (Try.f17).results.toList) (fun k => f17_n110 F k) (f17_n111 F)
    (fun Rf17_j6024 => f17_n110_eq F Rf17_j6024) (f17_n111_eq F)
def f17_n1 (F : Nat) : (List (List Int)) × Int × Int → Option (AV × List Blk) := fun v => f17_n10 F (f17_n11 F) v
theorem f17_n1_eq (F : Nat) : ∀ v, aexec VG3817 (Af17 F) (sub (bodyOf Try.f17) [1]) (ef17_j1041 v) (kFin VG3817 (some [(6, (.own 22))]) (Try.f17).results.toList) = f17_n1 F v :=
  seq_cut (c := (sub (bodyOf Try.f17) [1])) (a := (sub (bodyOf Try.f17) [1, 0])) (b := (sub (bodyOf Try.f17) [1, 1])) (by kernel_rfl) (spec := [(0, .plain), (1, .plain), (2, .plain), (7, .plain)]) (by kernel_rfl) ef17_j1041 ef17_j2039 (kFin VG3817 (some [(6, (.own 22))]) (Try.f17).results.toList) (fun k => f17_n10 F k) (f17_n11 F)
    (fun Rf17_j2039 => f17_n10_eq F Rf17_j2039) (f17_n11_eq F)
def f17_nt (F : Nat) : (List (List Int)) × Int × Int → Option (AV × List Blk) := fun v => f17_n0 F (f17_n1 F) v
theorem f17_nt_eq (F : Nat) : ∀ v, aexec VG3817 (Af17 F) (sub (bodyOf Try.f17) []) (ef17_a v) (kFin VG3817 (some [(6, (.own 22))]) (Try.f17).results.toList) = f17_nt F v :=
  seq_cut (c := (sub (bodyOf Try.f17) [])) (a := (sub (bodyOf Try.f17) [0])) (b := (sub (bodyOf Try.f17) [1])) (by kernel_rfl) (spec := [(0, .plain), (1, .plain), (2, .plain)]) (by kernel_rfl) ef17_a ef17_j1041 (kFin VG3817 (some [(6, (.own 22))]) (Try.f17).results.toList) (fun k => f17_n0 F k) (f17_n1 F)
    (fun Rf17_j1041 => f17_n0_eq F Rf17_j1041) (f17_n1_eq F)
/-- gantry/gantryref38.Spoilt -/
def f17 (F : Nat) : (List (List Int)) × Int × Int → Option (AV × List Blk) := f17_nt F
theorem f17_body (F : Nat) (a0 : List (List Int)) (a1 : Int) (a2 : Int) : abody VG3817 (Af17 F) Try.f17 [(.vs (.rL .i64 a0) 0 1), (.int .i64 a1), (.int .i64 a2)] [] = f17 F (a0, a1, a2) :=
  (abody_in (c := (sub (bodyOf Try.f17) [])) (by kernel_rfl) (s := ef17_a (a0, a1, a2)) (by kernel_rfl)).trans (f17_nt_eq F (a0, a1, a2))
def r17 : CRun := fun X H => match X, H with
  | [(.vs (.rL .i64 a0) 0 1), (.int .i64 a1), (.int .i64 a2)], [] => some (((decide (a0.length < 1073741000)) && (Reg.nonempty a0)), (.own 0 0 1), [(.cells (Reg.spoilt a0 a1 a2).length (.rL .i64 (Reg.spoilt a0 a1 a2)) true)])
  | _, _ => none
theorem s17 (a0 : List (List Int)) (a1 : Int) (a2 : Int) (hp : (((decide (a0.length < 1073741000)) && (Reg.nonempty a0))) = true) (h0 : okV (.vs (.rL .i64 a0) 0 1)) (h1 : okV (.int .i64 a1)) (h2 : okV (.int .i64 a2)) : ∃ F, f17 F (a0, a1, a2) = some ((.own 0 0 1), [(.cells (Reg.spoilt a0 a1 a2).length (.rL .i64 (Reg.spoilt a0 a1 a2)) true)]) := by
  simp only [Bool.and_eq_true, decide_eq_true_eq, Reg.nonempty, List.all_eq_true] at hp
  obtain ⟨hl, hne⟩ := hp
  refine ⟨a0.length + 1, ?_⟩
  simp only [f17, f17_nt, f17_n0, f17_n1, f17_n10, f17_n11, f17_n110, f17_n1100, f17_n1101, f17_n11010, f17_n11010_i]
  refine loopN_from (fun i => (a0, a1, a2, (i : Int), a0.take i)) a0.length (by rfl) (fun i hi k => ?_) (fun k => ?_) _ (by omega)
  · have hx := hne (a0.getD i []) (by rw [List.getD_eq_getElem?_getD, List.getElem?_eq_getElem hi]; exact List.getElem_mem hi)
    simp only [f17_n110100, dec_and, List.nil_append]
    rw [cond_pos (by omega), cond_pos (by omega), Int.toNat_natCast, cond_pos (by omega), cond_pos (by rw [List.length_take]; omega), i64w (by omega) (by omega), Reg.take_get a0 [] i hi]
    rfl
  · simp only [f17_n110100]
    rw [cond_neg (by omega), List.take_length]
    simp only [f17_n111, Reg.spoilt, int_beq]
    rw [cond_pos (by omega)]
    by_cases q0 : Reg.around a1 4 = 0
    · rw [cond_pos q0, if_pos q0, cond_pos (by omega)]
    rw [cond_neg q0, if_neg q0]
    by_cases q1 : Reg.around a1 4 = 1
    · rw [cond_pos q1, if_pos q1, cond_pos (by omega)]
    rw [cond_neg q1, if_neg q1]
    by_cases q2 : Reg.around a1 4 = 2
    · rw [cond_pos q2, if_pos q2]
      by_cases h : 0 < a0.length
      · have hx := hne (a0.getD 0 []) (by rw [List.getD_eq_getElem?_getD, List.getElem?_eq_getElem h]; exact List.getElem_mem h)
        rw [cond_pos (by omega), cond_pos (by omega), cond_pos (by omega), cond_pos (by omega), if_pos h]
      · rw [cond_neg (by omega), if_neg h]
    · rw [cond_neg q2, if_neg q2]

theorem c17 : CallOk Try.prog G38 17 r17 := callOk_of (V := VG3817) mixed tys eVG3817 (f := 17) (fn := Try.f17) Try.func17 (by kernel_rfl) (c := sub (bodyOf Try.f17) []) (by kernel_rfl) (by
  intro X H r H' h hX hH
  unfold r17 at h; split at h <;> try contradiction
  · simp only [Option.some.injEq, Prod.mk.injEq] at h
    obtain ⟨hp, rfl, rfl⟩ := h
    obtain ⟨F, hF⟩ := s17 _ _ _ hp (hX _ (.head _)) (hX _ (.tail _ (.head _))) (hX _ (.tail _ (.tail _ (.head _))))
    exact ⟨Af17 F, (f17_body F _ _ _).trans hF⟩)
/-! gantry/gantryref01.SameInts -/
def lVG3818 : List CEnt := []
def VG3818 : Env := mkEnv T38 G38 lVG3818
theorem eVG3818 : EOk Try.prog VG3818 := eok_mk (by exact trivial)
def Af18 (F : Nat) : Cuts := { F := F, at_ := fun n => match n with | 4016 => some [(0, .plain), (1, .plain), (5, .plain)] | _ => none, join := fun n => match n with | 1032 => some [(0, .plain), (1, .plain)] | 3024 => some [(0, .plain), (1, .plain)] | 4018 => some [(0, .plain), (1, .plain), (5, .plain)] | 8003 => some [] | _ => none }
def ef18_a : (List Int) × (List Int) → St := fun (a0, a1) => { tmps := [(0, (.vs (.rI .i64 a0) 0 1)), (1, (.vs (.rI .i64 a1) 0 1))], heap := [], next := 0, nt := 26, m := 0 }
def ef18_j1032 : (List Int) × (List Int) → St := fun (t0, t1) => { tmps := [(0, (.vs (.rI .i64 t0) 0 1)), (1, (.vs (.rI .i64 t1) 0 1))], heap := [], next := 0, nt := 26, m := 0 }
def ef18_j3024 : (List Int) × (List Int) → St := fun (t0, t1) => { tmps := [(0, (.vs (.rI .i64 t0) 0 1)), (1, (.vs (.rI .i64 t1) 0 1))], heap := [], next := 0, nt := 26, m := 0 }
def ef18_j4018 : (List Int) × (List Int) × Int → St := fun (t0, t1, t5) => { tmps := [(0, (.vs (.rI .i64 t0) 0 1)), (1, (.vs (.rI .i64 t1) 0 1)), (5, (.int .i64 t5))], heap := [], next := 0, nt := 26, m := 0 }
def ef18_l4016 : (List Int) × (List Int) × Int → St := fun (t0, t1, t5) => { tmps := [(0, (.vs (.rI .i64 t0) 0 1)), (1, (.vs (.rI .i64 t1) 0 1)), (5, (.int .i64 t5))], heap := [], next := 0, nt := 26, m := 0 }
def ef18_j8003 : Unit → St := fun _ => { tmps := [], heap := [], next := 0, nt := 26, m := 0 }
def f18_n0 (F : Nat) (kf18_j1032 : (List Int) × (List Int) → Option (AV × List Blk)) : (List Int) × (List Int) → Option (AV × List Blk) := fun (a0, a1) => (kf18_j1032 (a0, a1))
theorem f18_n0_eq (F : Nat) (Rf18_j1032 : St → Option (AV × List Blk)) : ∀ v, aexec VG3818 (Af18 F) (sub (bodyOf Try.f18) [0]) (ef18_a v) (kSeq (fun s => Rf18_j1032 (cutTo VG3818 (some [(0, .plain), (1, .plain)]) s)) (kFin VG3818 none (Try.f18).results.toList)) = f18_n0 F (fun w => Rf18_j1032 (ef18_j1032 w)) v := by
  rintro ⟨a0, a1⟩; kernel_rfl
def f18_n10 (F : Nat) (kf18_j3024 : (List Int) × (List Int) → Option (AV × List Blk)) : (List Int) × (List Int) → Option (AV × List Blk) := fun (t0, t1) => (cond ((↑t0.length : Int) != (↑t1.length : Int)) (some ((.bool false), [])) (kf18_j3024 (t0, t1)))
theorem f18_n10_eq (F : Nat) (Rf18_j3024 : St → Option (AV × List Blk)) : ∀ v, aexec VG3818 (Af18 F) (sub (bodyOf Try.f18) [1, 0]) (ef18_j1032 v) (kSeq (fun s => Rf18_j3024 (cutTo VG3818 (some [(0, .plain), (1, .plain)]) s)) (kFin VG3818 none (Try.f18).results.toList)) = f18_n10 F (fun w => Rf18_j3024 (ef18_j3024 w)) v := by
  rintro ⟨t0, t1⟩; kernel_rfl
def f18_n1100 (F : Nat) (kf18_j4018 : (List Int) × (List Int) × Int → Option (AV × List Blk)) (kf18_j8003 : Unit → Option (AV × List Blk)) : (List Int) × (List Int) → Option (AV × List Blk) := fun (t0, t1) => (kf18_j4018 (t0, t1, (0 : Int)))
theorem f18_n1100_eq (F : Nat) (Rf18_j4018 : St → Option (AV × List Blk)) (Rf18_j8003 : St → Option (AV × List Blk)) : ∀ v, aexec VG3818 (Af18 F) (sub (bodyOf Try.f18) [1, 1, 0, 0]) (ef18_j3024 v) (kSeq (fun s => Rf18_j4018 (cutTo VG3818 (some [(0, .plain), (1, .plain), (5, .plain)]) s)) (kSeq (fun s => Rf18_j8003 (cutTo VG3818 (some []) s)) (kFin VG3818 none (Try.f18).results.toList))) = f18_n1100 F (fun w => Rf18_j4018 (ef18_j4018 w)) (fun w => Rf18_j8003 (ef18_j8003 w)) v := by
  rintro ⟨t0, t1⟩; kernel_rfl
def f18_n110100 (F : Nat) (kf18_l4016 : (List Int) × (List Int) × Int → Option (AV × List Blk)) (kf18_j8003 : Unit → Option (AV × List Blk)) : (List Int) × (List Int) × Int → Option (AV × List Blk) := fun (t0, t1, t5) => (cond (decide (t5 < (↑t0.length : Int))) (cond ((decide (0 ≤ t5)) && (decide (t5 < (↑t0.length : Int)))) (cond ((decide (0 ≤ t5)) && (decide (t5 < (↑t1.length : Int)))) (cond ((t0.getD (Int.toNat t5) 0) != (t1.getD (Int.toNat t5) 0)) (some ((.bool false), [])) (kf18_l4016 (t0, t1, (IntKind.i64.wrap (t5 + (1 : Int)))))) none) none) (kf18_j8003 ()))
theorem f18_n110100_eq (F : Nat) (Rf18_l4016 : St → Option (AV × List Blk)) (Rf18_j8003 : St → Option (AV × List Blk)) : ∀ v, aexec VG3818 (Af18 F) (sub (bodyOf Try.f18) [1, 1, 0, 1, 0, 0]) (ef18_l4016 v) (kSeq (fun s => Rf18_l4016 (cutTo VG3818 (some [(0, .plain), (1, .plain), (5, .plain)]) s)) (kBlock 0 (kSeq (fun s => Rf18_j8003 (cutTo VG3818 (some []) s)) (kFin VG3818 none (Try.f18).results.toList)))) = f18_n110100 F (fun w => Rf18_l4016 (ef18_l4016 w)) (fun w => Rf18_j8003 (ef18_j8003 w)) v := by
  rintro ⟨t0, t1, t5⟩; kernel_rfl
def f18_n11010_i : (List Int) × (List Int) × Int → (List Int) × (List Int) × Int := fun (t0, t1, t5) => (t0, t1, t5)
def f18_n11010 (F : Nat) (kf18_j8003 : Unit → Option (AV × List Blk)) : (List Int) × (List Int) × Int → Option (AV × List Blk) := fun v => loopN (fun k => f18_n110100 F k kf18_j8003) F (f18_n11010_i v)
theorem f18_n11010_eq (F : Nat) (Rf18_j8003 : St → Option (AV × List Blk)) : ∀ v, aexec VG3818 (Af18 F) (sub (bodyOf Try.f18) [1, 1, 0, 1, 0]) (ef18_j4018 v) (kBlock 0 (kSeq (fun s => Rf18_j8003 (cutTo VG3818 (some []) s)) (kFin VG3818 none (Try.f18).results.toList))) = f18_n11010 F (fun w => Rf18_j8003 (ef18_j8003 w)) v :=
  loop_cut (c := (sub (bodyOf Try.f18) [1, 1, 0, 1, 0])) (d := (sub (bodyOf Try.f18) [1, 1, 0, 1, 0, 0])) (by kernel_rfl) (spec := [(0, .plain), (1, .plain), (5, .plain)]) (by kernel_rfl) ef18_j4018 ef18_l4016 (kBlock 0 (kSeq (fun s => Rf18_j8003 (cutTo VG3818 (some []) s)) (kFin VG3818 none (Try.f18).results.toList))) f18_n11010_i (fun k => f18_n110100 F k (fun w => Rf18_j8003 (ef18_j8003 w)))
    (by rintro ⟨t0, t1, t5⟩; kernel_rfl) (fun Rf18_l4016 => f18_n110100_eq F Rf18_l4016 Rf18_j8003)
def f18_n1101 (F : Nat) (kf18_j8003 : Unit → Option (AV × List Blk)) : (List Int) × (List Int) × Int → Option (AV × List Blk) := f18_n11010 F kf18_j8003
theorem f18_n1101_eq (F : Nat) (Rf18_j8003 : St → Option (AV × List Blk)) : ∀ v, aexec VG3818 (Af18 F) (sub (bodyOf Try.f18) [1, 1, 0, 1]) (ef18_j4018 v) (kSeq (fun s => Rf18_j8003 (cutTo VG3818 (some []) s)) (kFin VG3818 none (Try.f18).results.toList)) = f18_n1101 F (fun w => Rf18_j8003 (ef18_j8003 w)) v := fun v =>
  (block_in (c := (sub (bodyOf Try.f18) [1, 1, 0, 1])) (d := (sub (bodyOf Try.f18) [1, 1, 0, 1, 0])) (id := 0) (by kernel_rfl) _ _).trans (f18_n11010_eq F Rf18_j8003 v)
def f18_n110 (F : Nat) (kf18_j8003 : Unit → Option (AV × List Blk)) : (List Int) × (List Int) → Option (AV × List Blk) := fun v => f18_n1100 F (f18_n1101 F kf18_j8003) kf18_j8003 v
theorem f18_n110_eq (F : Nat) (Rf18_j8003 : St → Option (AV × List Blk)) : ∀ v, aexec VG3818 (Af18 F) (sub (bodyOf Try.f18) [1, 1, 0]) (ef18_j3024 v) (kSeq (fun s => Rf18_j8003 (cutTo VG3818 (some []) s)) (kFin VG3818 none (Try.f18).results.toList)) = f18_n110 F (fun w => Rf18_j8003 (ef18_j8003 w)) v :=
  seq_cut (c := (sub (bodyOf Try.f18) [1, 1, 0])) (a := (sub (bodyOf Try.f18) [1, 1, 0, 0])) (b := (sub (bodyOf Try.f18) [1, 1, 0, 1])) (by kernel_rfl) (spec := [(0, .plain), (1, .plain), (5, .plain)]) (by kernel_rfl) ef18_j3024 ef18_j4018 (kSeq (fun s => Rf18_j8003 (cutTo VG3818 (some []) s)) (kFin VG3818 none (Try.f18).results.toList)) (fun k => f18_n1100 F k (fun w => Rf18_j8003 (ef18_j8003 w))) (f18_n1101 F (fun w => Rf18_j8003 (ef18_j8003 w)))
    (fun Rf18_j4018 => f18_n1100_eq F Rf18_j4018 Rf18_j8003) (f18_n1101_eq F Rf18_j8003)
def f18_n111 (F : Nat) : Unit → Option (AV × List Blk) := fun _ => (some ((.bool true), []))
theorem f18_n111_eq (F : Nat) : ∀ v, aexec VG3818 (Af18 F) (sub (bodyOf Try.f18) [1, 1, 1]) (ef18_j8003 v) (kFin VG3818 none (Try.f18).results.toList) = f18_n111 F v := by
  intro _; kernel_rfl
def f18_n11 (F : Nat) : (List Int) × (List Int) → Option (AV × List Blk) := fun v => f18_n110 F (f18_n111 F) v
theorem f18_n11_eq (F : Nat) : ∀ v, aexec VG3818 (Af18 F) (sub (bodyOf Try.f18) [1, 1]) (ef18_j3024 v) (kFin VG3818 none (Try.f18).results.toList) = f18_n11 F v :=
  seq_cut (c := (sub (bodyOf Try.f18) [1, 1])) (a := (sub (bodyOf Try.f18) [1, 1, 0])) (b := (sub (bodyOf Try.f18) [1, 1, 1])) (by kernel_rfl) (spec := []) (by kernel_rfl) ef18_j3024 ef18_j8003 (kFin VG3818 none (Try.f18).results.toList) (fun k => f18_n110 F k) (f18_n111 F)
    (fun Rf18_j8003 => f18_n110_eq F Rf18_j8003) (f18_n111_eq F)
def f18_n1 (F : Nat) : (List Int) × (List Int) → Option (AV × List Blk) := fun v => f18_n10 F (f18_n11 F) v
theorem f18_n1_eq (F : Nat) : ∀ v, aexec VG3818 (Af18 F) (sub (bodyOf Try.f18) [1]) (ef18_j1032 v) (kFin VG3818 none (Try.f18).results.toList) = f18_n1 F v :=
  seq_cut (c := (sub (bodyOf Try.f18) [1])) (a := (sub (bodyOf Try.f18) [1, 0])) (b := (sub (bodyOf Try.f18) [1, 1])) (by kernel_rfl) (spec := [(0, .plain), (1, .plain)]) (by kernel_rfl) ef18_j1032 ef18_j3024 (kFin VG3818 none (Try.f18).results.toList) (fun k => f18_n10 F k) (f18_n11 F)
    (fun Rf18_j3024 => f18_n10_eq F Rf18_j3024) (f18_n11_eq F)
def f18_nt (F : Nat) : (List Int) × (List Int) → Option (AV × List Blk) := fun v => f18_n0 F (f18_n1 F) v
theorem f18_nt_eq (F : Nat) : ∀ v, aexec VG3818 (Af18 F) (sub (bodyOf Try.f18) []) (ef18_a v) (kFin VG3818 none (Try.f18).results.toList) = f18_nt F v :=
  seq_cut (c := (sub (bodyOf Try.f18) [])) (a := (sub (bodyOf Try.f18) [0])) (b := (sub (bodyOf Try.f18) [1])) (by kernel_rfl) (spec := [(0, .plain), (1, .plain)]) (by kernel_rfl) ef18_a ef18_j1032 (kFin VG3818 none (Try.f18).results.toList) (fun k => f18_n0 F k) (f18_n1 F)
    (fun Rf18_j1032 => f18_n0_eq F Rf18_j1032) (f18_n1_eq F)
/-- gantry/gantryref01.SameInts -/
def f18 (F : Nat) : (List Int) × (List Int) → Option (AV × List Blk) := f18_nt F
theorem f18_body (F : Nat) (a0 : List Int) (a1 : List Int) : abody VG3818 (Af18 F) Try.f18 [(.vs (.rI .i64 a0) 0 1), (.vs (.rI .i64 a1) 0 1)] [] = f18 F (a0, a1) :=
  (abody_in (c := (sub (bodyOf Try.f18) [])) (by kernel_rfl) (s := ef18_a (a0, a1)) (by kernel_rfl)).trans (f18_nt_eq F (a0, a1))
def r18 : CRun := fun X H => match X, H with
  | [(.vs (.rI .i64 a0) 0 1), (.vs (.rI .i64 a1) 0 1)], [] => some (true, (.bool (decide (a0 = a1))), [])
  | _, _ => none
theorem s18 (a0 : List Int) (a1 : List Int) (h0 : okV (.vs (.rI .i64 a0) 0 1)) (h1 : okV (.vs (.rI .i64 a1) 0 1)) : ∃ F, f18 F (a0, a1) = some ((.bool (decide (a0 = a1))), []) := by
  have hl0 := h0.2
  have hl1 := h1.2
  refine ⟨a0.length + 1, ?_⟩
  simp only [f18, f18_nt, f18_n0, f18_n1, f18_n10, int_bne]
  by_cases hl : a0.length = a1.length
  · rw [cond_neg (by omega)]
    simp only [f18_n11, f18_n110, f18_n1100, f18_n1101, f18_n11010, f18_n11010_i]
    refine loopN_ind (fun m s => s.1 = a0 ∧ s.2.1 = a1 ∧ s.2.2 = ((a0.length - m : Nat) : Int) ∧ m ≤ a0.length ∧ ∀ i, i < a0.length - m → a0.getD i 0 = a1.getD i 0) ?_ _ a0.length _ (by omega) ⟨rfl, rfl, by simp, Nat.le_refl _, fun i hi => by omega⟩
    rintro m ⟨t0, t1, t5⟩ k ⟨e1, e2, e3, hm, hi⟩ hk
    simp only at e1 e2 e3 hi
    subst e1; subst e2; subst e3
    simp only [f18_n110100, dec_and, int_bne, lst_beq, dec_not]
    cases m with
    | zero =>
      rw [cond_neg (by omega), decide_eq_true (list_eq 0 hl fun i h => hi i (by omega))]
      rfl
    | succ m =>
      rw [Int.toNat_natCast, cond_pos (by omega), cond_pos (by omega), cond_pos (by omega)]
      by_cases he : t0.getD (t0.length - (m + 1)) 0 = t1.getD (t0.length - (m + 1)) 0
      · rw [cond_neg (fun h => h he), i64w (by omega) (by omega)]
        refine hk m _ (by omega) ⟨rfl, rfl, by simp only []; omega, by omega, fun i hi' => ?_⟩
        by_cases hh : i < t0.length - (m + 1)
        · exact hi i hh
        · rw [show i = t0.length - (m + 1) by omega]; exact he
      · rw [cond_pos he, decide_eq_false (fun e => he (by rw [e]))]
  · rw [cond_pos (by omega), decide_eq_false (fun e => hl (by rw [e]))]

theorem c18 : CallOk Try.prog G38 18 r18 := callOk_of (V := VG3818) mixed tys eVG3818 (f := 18) (fn := Try.f18) Try.func18 (by kernel_rfl) (c := sub (bodyOf Try.f18) []) (by kernel_rfl) (by
  intro X H r H' h hX hH
  unfold r18 at h; split at h <;> try contradiction
  · simp only [Option.some.injEq, Prod.mk.injEq] at h
    obtain ⟨hp, rfl, rfl⟩ := h
    obtain ⟨F, hF⟩ := s18 _ _ (hX _ (.head _)) (hX _ (.tail _ (.head _)))
    exact ⟨Af18 F, (f18_body F _ _).trans hF⟩)
end Go.Am
