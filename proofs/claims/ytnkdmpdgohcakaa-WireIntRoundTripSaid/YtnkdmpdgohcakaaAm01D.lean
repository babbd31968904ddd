/- Part of a proof about the functions of the given program. -/
import Derived.Test.YtnkdmpdgohcakaaAm01C
set_option linter.unusedVariables false
set_option linter.unusedSimpArgs false
namespace Go.Am
open Go Go.Proofs

/-! gantry/wire.GetInts -/
def lVG0128 : List CEnt := [(38, [some 5, none], r38), (40, [some 5, none], r40), (41, [none, none], r41)]
def VG0128 : Env := mkEnv T01 G01 lVG0128
theorem eVG0128 : EOk Try.prog VG0128 := eok_mk (by exact ⟨c38, c40, c41, trivial⟩)
def Af28 (F : Nat) : Cuts := { F := F, at_ := fun n => match n with | 7020 => some [(6, .plain), (8, .plain), (9, .own 2), (25, .plain), (26, .plain)] | _ => none, join := fun n => match n with | 1042 => some [(0, .plain)] | 2040 => some [(0, .plain), (5, .plain), (6, .plain), (7, .plain)] | 4032 => some [(0, .plain), (5, .plain), (6, .plain)] | 5030 => some [(5, .plain), (6, .plain), (8, .plain)] | 6028 => some [(5, .plain), (6, .plain), (8, .plain), (9, .plain)] | 7022 => some [(6, .plain), (8, .plain), (9, .plain), (25, .plain), (26, .plain)] | 13003 => some [(6, .plain), (9, .plain)] | _ => none, fin := (some [(2, (.own 3)), (3, .plain), (4, .plain)]) }
def ef28_a : (List Int) → St := fun a0 => { tmps := [(0, (.vs (.rI .u8 a0) 0 1))], heap := [], next := 0, nt := 45, m := 0 }
def ef28_j1042 : (List Int) → St := fun t0 => { tmps := [(0, (.vs (.rI .u8 t0) 0 1))], heap := [], next := 0, nt := 45, m := 0 }
def ef28_j2040 : (List Int) × Int × Int × Int → St := fun (t0, t5, t6, t7) => { tmps := [(0, (.vs (.rI .u8 t0) 0 1)), (5, (.int .i64 t5)), (6, (.int .i64 t6)), (7, (.int .i64 t7))], heap := [], next := 0, nt := 45, m := 0 }
def ef28_j4032 : (List Int) × Int × Int → St := fun (t0, t5, t6) => { tmps := [(0, (.vs (.rI .u8 t0) 0 1)), (5, (.int .i64 t5)), (6, (.int .i64 t6))], heap := [], next := 0, nt := 45, m := 0 }
def ef28_j5030 : Int × Int × (List Int) × Int → St := fun (t5, t6, x3, x4) => { tmps := [(5, (.int .i64 t5)), (6, (.int .i64 t6)), (8, (.fn 41 (.cons 0 (.ptr 0 0 1 0 0 0 1) (.cons 0 (.ptr 1 0 1 0 0 0 1) .nil))))], heap := [(0, (.cells 1 (.one (.vs (.rI .u8 x3) 0 1)) true)), (1, (.cells 1 (.one (.int .i64 x4)) true))], next := 2, nt := 45, m := 0 }
def ef28_j6028 : Int × Int × (List Int) × Int → St := fun (t5, t6, x3, x4) => { tmps := [(5, (.int .i64 t5)), (6, (.int .i64 t6)), (8, (.fn 41 (.cons 0 (.ptr 0 0 1 0 0 0 1) (.cons 0 (.ptr 1 0 1 0 0 0 1) .nil)))), (9, .ns)], heap := [(0, (.cells 1 (.one (.vs (.rI .u8 x3) 0 1)) true)), (1, (.cells 1 (.one (.int .i64 x4)) true))], next := 2, nt := 45, m := 0 }
def ef28_j7022 : Int × Int × Int × (List Int) × Int → St := fun (t6, t25, t26, x4, x5) => { tmps := [(6, (.int .i64 t6)), (8, (.fn 41 (.cons 0 (.ptr 0 0 1 0 0 0 1) (.cons 0 (.ptr 1 0 1 0 0 0 1) .nil)))), (9, .ns), (25, (.int .i64 t25)), (26, (.int .i64 t26))], heap := [(0, (.cells 1 (.one (.vs (.rI .u8 x4) 0 1)) true)), (1, (.cells 1 (.one (.int .i64 x5)) true))], next := 2, nt := 45, m := 0 }
def ef28_l7020 : Int × Int × Int × (List Int) × Int × (List Int) → St := fun (t6, t25, t26, x4, x5, x6) => { tmps := [(6, (.int .i64 t6)), (8, (.fn 41 (.cons 0 (.ptr 0 0 1 0 0 0 1) (.cons 0 (.ptr 1 0 1 0 0 0 1) .nil)))), (9, (.own 2 0 1)), (25, (.int .i64 t25)), (26, (.int .i64 t26))], heap := [(0, (.cells 1 (.one (.vs (.rI .u8 x4) 0 1)) true)), (1, (.cells 1 (.one (.int .i64 x5)) true)), (2, (.cells x6.length (.rI .i64 x6) true))], next := 3, nt := 45, m := 0 }
def ef28_j13003 : Int × (List Int) → St := fun (t6, x2) => { tmps := [(6, (.int .i64 t6)), (9, (.own 0 0 1))], heap := [(0, (.cells x2.length (.rI .i64 x2) true))], next := 1, nt := 45, m := 0 }
def f28_n0 (F : Nat) (kf28_j1042 : (List Int) → Option (AV × List Blk)) : (List Int) → Option (AV × List Blk) := fun a0 => (kf28_j1042 a0)
theorem f28_n0_eq (F : Nat) (Rf28_j1042 : St → Option (AV × List Blk)) : ∀ v, aexec VG0128 (Af28 F) (sub (bodyOf Try.f28) [0]) (ef28_a v) (kSeq (fun s => Rf28_j1042 (cutTo VG0128 (some [(0, .plain)]) s)) (kFin VG0128 (some [(2, (.own 3)), (3, .plain), (4, .plain)]) (Try.f28).results.toList)) = f28_n0 F (fun w => Rf28_j1042 (ef28_j1042 w)) v := by
  intro a0; kernel_rfl
def f28_n10 (F : Nat) (kf28_j2040 : (List Int) × Int × Int × Int → Option (AV × List Blk)) : (List Int) → Option (AV × List Blk) := fun t0 => (cond (decide (0 < (1 : Int))) (kf28_j2040 (t0, (Wire.count t0 (1 : Int)).1, (Wire.count t0 (1 : Int)).2.1, (Wire.count t0 (1 : Int)).2.2)) none)
theorem f28_n10_eq (F : Nat) (Rf28_j2040 : St → Option (AV × List Blk)) : ∀ v, aexec VG0128 (Af28 F) (sub (bodyOf Try.f28) [1, 0]) (ef28_j1042 v) (kSeq (fun s => Rf28_j2040 (cutTo VG0128 (some [(0, .plain), (5, .plain), (6, .plain), (7, .plain)]) s)) (kFin VG0128 (some [(2, (.own 3)), (3, .plain), (4, .plain)]) (Try.f28).results.toList)) = f28_n10 F (fun w => Rf28_j2040 (ef28_j2040 w)) v := by
  intro t0; kernel_rfl
def f28_n110 (F : Nat) (kf28_j4032 : (List Int) × Int × Int → Option (AV × List Blk)) : (List Int) × Int × Int × Int → Option (AV × List Blk) := fun (t0, t5, t6, t7) => (cond (t7 != (0 : Int)) (some ((.tup (.cons 0 (.own 0 0 1) (.cons 0 (.int .i64 (0 : Int)) (.cons 0 (.int .i64 t7) .nil)))), [(.cells 0 (.rI .i64 []) true)])) (kf28_j4032 (t0, t5, t6)))
theorem f28_n110_eq (F : Nat) (Rf28_j4032 : St → Option (AV × List Blk)) : ∀ v, aexec VG0128 (Af28 F) (sub (bodyOf Try.f28) [1, 1, 0]) (ef28_j2040 v) (kSeq (fun s => Rf28_j4032 (cutTo VG0128 (some [(0, .plain), (5, .plain), (6, .plain)]) s)) (kFin VG0128 (some [(2, (.own 3)), (3, .plain), (4, .plain)]) (Try.f28).results.toList)) = f28_n110 F (fun w => Rf28_j4032 (ef28_j4032 w)) v := by
  rintro ⟨t0, t5, t6, t7⟩; kernel_rfl
def f28_n1110 (F : Nat) (kf28_j5030 : Int × Int × (List Int) × Int → Option (AV × List Blk)) : (List Int) × Int × Int → Option (AV × List Blk) := fun (t0, t5, t6) => (kf28_j5030 (t5, t6, t0, t6))
theorem f28_n1110_eq (F : Nat) (Rf28_j5030 : St → Option (AV × List Blk)) : ∀ v, aexec VG0128 (Af28 F) (sub (bodyOf Try.f28) [1, 1, 1, 0]) (ef28_j4032 v) (kSeq (fun s => Rf28_j5030 (cutTo VG0128 (some [(5, .plain), (6, .plain), (8, .plain)]) s)) (kFin VG0128 (some [(2, (.own 3)), (3, .plain), (4, .plain)]) (Try.f28).results.toList)) = f28_n1110 F (fun w => Rf28_j5030 (ef28_j5030 w)) v := by
  rintro ⟨t0, t5, t6⟩; kernel_rfl
def f28_n11110 (F : Nat) (kf28_j6028 : Int × Int × (List Int) × Int → Option (AV × List Blk)) : Int × Int × (List Int) × Int → Option (AV × List Blk) := fun (t5, t6, x3, x4) => (kf28_j6028 (t5, t6, x3, x4))
theorem f28_n11110_eq (F : Nat) (Rf28_j6028 : St → Option (AV × List Blk)) : ∀ v, aexec VG0128 (Af28 F) (sub (bodyOf Try.f28) [1, 1, 1, 1, 0]) (ef28_j5030 v) (kSeq (fun s => Rf28_j6028 (cutTo VG0128 (some [(5, .plain), (6, .plain), (8, .plain), (9, .plain)]) s)) (kFin VG0128 (some [(2, (.own 3)), (3, .plain), (4, .plain)]) (Try.f28).results.toList)) = f28_n11110 F (fun w => Rf28_j6028 (ef28_j6028 w)) v := by
  rintro ⟨t5, t6, x3, x4⟩; kernel_rfl
def f28_n1111100 (F : Nat) (kf28_j7022 : Int × Int × Int × (List Int) × Int → Option (AV × List Blk)) (kf28_j13003 : Int × (List Int) → Option (AV × List Blk)) : Int × Int × (List Int) × Int → Option (AV × List Blk) := fun (t5, t6, x3, x4) => (kf28_j7022 (t6, t5, (0 : Int), x3, x4))
theorem f28_n1111100_eq (F : Nat) (Rf28_j7022 : St → Option (AV × List Blk)) (Rf28_j13003 : St → Option (AV × List Blk)) : ∀ v, aexec VG0128 (Af28 F) (sub (bodyOf Try.f28) [1, 1, 1, 1, 1, 0, 0]) (ef28_j6028 v) (kSeq (fun s => Rf28_j7022 (cutTo VG0128 (some [(6, .plain), (8, .plain), (9, .plain), (25, .plain), (26, .plain)]) s)) (kSeq (fun s => Rf28_j13003 (cutTo VG0128 (some [(6, .plain), (9, .plain)]) s)) (kFin VG0128 (some [(2, (.own 3)), (3, .plain), (4, .plain)]) (Try.f28).results.toList))) = f28_n1111100 F (fun w => Rf28_j7022 (ef28_j7022 w)) (fun w => Rf28_j13003 (ef28_j13003 w)) v := by
  rintro ⟨t5, t6, x3, x4⟩; kernel_rfl
def f28_n111110100 (F : Nat) (kf28_l7020 : Int × Int × Int × (List Int) × Int × (List Int) → Option (AV × List Blk)) (kf28_j13003 : Int × (List Int) → Option (AV × List Blk)) : Int × Int × Int × (List Int) × Int × (List Int) → Option (AV × List Blk) := fun (t6, t25, t26, x4, x5, x6) => (cond (decide (t26 < t25)) (cond ((decide (0 ≤ x5)) && (decide (x5 ≤ (x4.length : Int)))) (cond ((Wire.getInt (x4.drop (Int.toNat x5))).2.2 != (0 : Int)) (some ((.tup (.cons 0 (.own 0 0 1) (.cons 0 (.int .i64 (0 : Int)) (.cons 0 (.int .i64 (Wire.getInt (x4.drop (Int.toNat x5))).2.2) .nil)))), [(.cells 0 (.rI .i64 []) true)])) (cond (decide ((x6.length + 1) < 1073741824)) (kf28_l7020 ((Wire.nextAt x4 x5), t25, (IntKind.i64.wrap (t26 + (1 : Int))), x4, (Wire.nextAt x4 x5), (x6 ++ [(Wire.getInt (x4.drop (Int.toNat x5))).1]))) none)) none) (kf28_j13003 (t6, x6)))
theorem f28_n111110100_eq (F : Nat) (Rf28_l7020 : St → Option (AV × List Blk)) (Rf28_j13003 : St → Option (AV × List Blk)) : ∀ v, aexec VG0128 (Af28 F) (sub (bodyOf Try.f28) [1, 1, 1, 1, 1, 0, 1, 0, 0]) (ef28_l7020 v) (kSeq (fun s => Rf28_l7020 (cutTo VG0128 (some [(6, .plain), (8, .plain), (9, .own 2), (25, .plain), (26, .plain)]) s)) (kBlock 0 (kSeq (fun s => Rf28_j13003 (cutTo VG0128 (some [(6, .plain), (9, .plain)]) s)) (kFin VG0128 (some [(2, (.own 3)), (3, .plain), (4, .plain)]) (Try.f28).results.toList)))) = f28_n111110100 F (fun w => Rf28_l7020 (ef28_l7020 w)) (fun w => Rf28_j13003 (ef28_j13003 w)) v := by
  rintro ⟨t6, t25, t26, x4, x5, x6⟩; kernel_rfl
def f28_n11111010_i : Int × Int × Int × (List Int) × Int → Int × Int × Int × (List Int) × Int × (List Int) := fun (t6, t25, t26, x4, x5) => (t6, t25, t26, x4, x5, [])
def f28_n11111010 (F : Nat) (kf28_j13003 : Int × (List Int) → Option (AV × List Blk)) : Int × Int × Int × (List Int) × Int → Option (AV × List Blk) := fun v => loopN (fun k => f28_n111110100 F k kf28_j13003) F (f28_n11111010_i v)
theorem f28_n11111010_eq (F : Nat) (Rf28_j13003 : St → Option (AV × List Blk)) : ∀ v, aexec VG0128 (Af28 F) (sub (bodyOf Try.f28) [1, 1, 1, 1, 1, 0, 1, 0]) (ef28_j7022 v) (kBlock 0 (kSeq (fun s => Rf28_j13003 (cutTo VG0128 (some [(6, .plain), (9, .plain)]) s)) (kFin VG0128 (some [(2, (.own 3)), (3, .plain), (4, .plain)]) (Try.f28).results.toList))) = f28_n11111010 F (fun w => Rf28_j13003 (ef28_j13003 w)) v :=
  loop_cut (c := (sub (bodyOf Try.f28) [1, 1, 1, 1, 1, 0, 1, 0])) (d := (sub (bodyOf Try.f28) [1, 1, 1, 1, 1, 0, 1, 0, 0])) (by kernel_rfl) (spec := [(6, .plain), (8, .plain), (9, .own 2), (25, .plain), (26, .plain)]) (by kernel_rfl) ef28_j7022 ef28_l7020 (kBlock 0 (kSeq (fun s => Rf28_j13003 (cutTo VG0128 (some [(6, .plain), (9, .plain)]) s)) (kFin VG0128 (some [(2, (.own 3)), (3, .plain), (4, .plain)]) (Try.f28).results.toList))) f28_n11111010_i (fun k => f28_n111110100 F k (fun w => Rf28_j13003 (ef28_j13003 w)))
    (by rintro ⟨t6, t25, t26, x4, x5⟩; kernel_rfl) (fun Rf28_l7020 => f28_n111110100_eq F Rf28_l7020 Rf28_j13003)
def f28_n1111101 (F : Nat) (kf28_j13003 : Int × (List Int) → Option (AV × List Blk)) : Int × Int × Int × (List Int) × Int → Option (AV × List Blk) := f28_n11111010 F kf28_j13003
theorem f28_n1111101_eq (F : Nat) (Rf28_j13003 : St → Option (AV × List Blk)) : ∀ v, aexec VG0128 (Af28 F) (sub (bodyOf Try.f28) [1, 1, 1, 1, 1, 0, 1]) (ef28_j7022 v) (kSeq (fun s => Rf28_j13003 (cutTo VG0128 (some [(6, .plain), (9, .plain)]) s)) (kFin VG0128 (some [(2, (.own 3)), (3, .plain), (4, .plain)]) (Try.f28).results.toList)) = f28_n1111101 F (fun w => Rf28_j13003 (ef28_j13003 w)) v := fun v =>
  (block_in (c := (sub (bodyOf Try.f28) [1, 1, 1, 1, 1, 0, 1])) (d := (sub (bodyOf Try.f28) [1, 1, 1, 1, 1, 0, 1, 0])) (id := 0) (by kernel_rfl) _ _).trans (f28_n11111010_eq F Rf28_j13003 v)
def f28_n111110 (F : Nat) (kf28_j13003 : Int × (List Int) → Option (AV × List Blk)) : Int × Int × (List Int) × Int → Option (AV × List Blk) := fun v => f28_n1111100 F (f28_n1111101 F kf28_j13003) kf28_j13003 v
theorem f28_n111110_eq (F : Nat) (Rf28_j13003 : St → Option (AV × List Blk)) : ∀ v, aexec VG0128 (Af28 F) (sub (bodyOf Try.f28) [1, 1, 1, 1, 1, 0]) (ef28_j6028 v) (kSeq (fun s => Rf28_j13003 (cutTo VG0128 (some [(6, .plain), (9, .plain)]) s)) (kFin VG0128 (some [(2, (.own 3)), (3, .plain), (4, .plain)]) (Try.f28).results.toList)) = f28_n111110 F (fun w => Rf28_j13003 (ef28_j13003 w)) v :=
  seq_cut (c := (sub (bodyOf Try.f28) [1, 1, 1, 1, 1, 0])) (a := (sub (bodyOf Try.f28) [1, 1, 1, 1, 1, 0, 0])) (b := (sub (bodyOf Try.f28) [1, 1, 1, 1, 1, 0, 1])) (by kernel_rfl) (spec := [(6, .plain), (8, .plain), (9, .plain), (25, .plain), (26, .plain)]) (by kernel_rfl) ef28_j6028 ef28_j7022 (kSeq (fun s => Rf28_j13003 (cutTo VG0128 (some [(6, .plain), (9, .plain)]) s)) (kFin VG0128 (some [(2, (.own 3)), (3, .plain), (4, .plain)]) (Try.f28).results.toList)) (fun k => f28_n1111100 F k (fun w => Rf28_j13003 (ef28_j13003 w))) (f28_n1111101 F (fun w => Rf28_j13003 (ef28_j13003 w)))
    (fun Rf28_j7022 => f28_n1111100_eq F Rf28_j7022 Rf28_j13003) (f28_n1111101_eq F Rf28_j13003)
def f28_n111111 (F : Nat) : Int × (List Int) → Option (AV × List Blk) := fun (t6, x2) => (some ((.tup (.cons 0 (.own 0 0 1) (.cons 0 (.int .i64 t6) (.cons 0 (.int .i64 (0 : Int)) .nil)))), [(.cells x2.length (.rI .i64 x2) true)]))
theorem f28_n111111_eq (F : Nat) : ∀ v, aexec VG0128 (Af28 F) (sub (bodyOf Try.f28) [1, 1, 1, 1, 1, 1]) (ef28_j13003 v) (kFin VG0128 (some [(2, (.own 3)), (3, .plain), (4, .plain)]) (Try.f28).results.toList) = f28_n111111 F v := by
  rintro ⟨t6, x2⟩; kernel_rfl
def f28_n11111 (F : Nat) : Int × Int × (List Int) × Int → Option (AV × List Blk) := fun v => f28_n111110 F (f28_n111111 F) v
theorem f28_n11111_eq (F : Nat) : ∀ v, aexec VG0128 (Af28 F) (sub (bodyOf Try.f28) [1, 1, 1, 1, 1]) (ef28_j6028 v) (kFin VG0128 (some [(2, (.own 3)), (3, .plain), (4, .plain)]) (Try.f28).results.toList) = f28_n11111 F v :=
  seq_cut (c := (sub (bodyOf Try.f28) [1, 1, 1, 1, 1])) (a := (sub (bodyOf Try.f28) [1, 1, 1, 1, 1, 0])) (b := (sub (bodyOf Try.f28) [1, 1, 1, 1, 1, 1])) (by kernel_rfl) (spec := [(6, .plain), (9, .plain)]) (by kernel_rfl) ef28_j6028 ef28_j13003 (kFin VG0128 (some [(2, (.own 3)), (3, .plain), (4, .plain)]) (Try.f28).results.toList) (fun k => f28_n111110 F k) (f28_n111111 F)
    (fun Rf28_j13003 => f28_n111110_eq F Rf28_j13003) (f28_n111111_eq F)
def f28_n1111 (F : Nat) : Int × Int × (List Int) × Int → Option (AV × List Blk) := fun v => f28_n11110 F (f28_n11111 F) v
theorem f28_n1111_eq (F : Nat) : ∀ v, aexec VG0128 (Af28 F) (sub (bodyOf Try.f28) [1, 1, 1, 1]) (ef28_j5030 v) (kFin VG0128 (some [(2, (.own 3)), (3, .plain), (4, .plain)]) (Try.f28).results.toList) = f28_n1111 F v :=
  seq_cut (c := (sub (bodyOf Try.f28) [1, 1, 1, 1])) (a := (sub (bodyOf Try.f28) [1, 1, 1, 1, 0])) (b := (sub (bodyOf Try.f28) [1, 1, 1, 1, 1])) (by kernel_rfl) (spec := [(5, .plain), (6, .plain), (8, .plain), (9, .plain)]) (by kernel_rfl) ef28_j5030 ef28_j6028 (kFin VG0128 (some [(2, (.own 3)), (3, .plain), (4, .plain)]) (Try.f28).results.toList) (fun k => f28_n11110 F k) (f28_n11111 F)
    (fun Rf28_j6028 => f28_n11110_eq F Rf28_j6028) (f28_n11111_eq F)
def f28_n111 (F : Nat) : (List Int) × Int × Int → Option (AV × List Blk) := fun v => f28_n1110 F (f28_n1111 F) v
theorem f28_n111_eq (F : Nat) : ∀ v, aexec VG0128 (Af28 F) (sub (bodyOf Try.f28) [1, 1, 1]) (ef28_j4032 v) (kFin VG0128 (some [(2, (.own 3)), (3, .plain), (4, .plain)]) (Try.f28).results.toList) = f28_n111 F v :=
  seq_cut (c := (sub (bodyOf Try.f28) [1, 1, 1])) (a := (sub (bodyOf Try.f28) [1, 1, 1, 0])) (b := (sub (bodyOf Try.f28) [1, 1, 1, 1])) (by kernel_rfl) (spec := [(5, .plain), (6, .plain), (8, .plain)]) (by kernel_rfl) ef28_j4032 ef28_j5030 (kFin VG0128 (some [(2, (.own 3)), (3, .plain), (4, .plain)]) (Try.f28).results.toList) (fun k => f28_n1110 F k) (f28_n1111 F)
    (fun Rf28_j5030 => f28_n1110_eq F Rf28_j5030) (f28_n1111_eq F)
def f28_n11 (F : Nat) : (List Int) × Int × Int × Int → Option (AV × List Blk) := fun v => f28_n110 F (f28_n111 F) v
theorem f28_n11_eq (F : Nat) : ∀ v, aexec VG0128 (Af28 F) (sub (bodyOf Try.f28) [1, 1]) (ef28_j2040 v) (kFin VG0128 (some [(2, (.own 3)), (3, .plain), (4, .plain)]) (Try.f28).results.toList) = f28_n11 F v :=
  seq_cut (c := (sub (bodyOf Try.f28) [1, 1])) (a := (sub (bodyOf Try.f28) [1, 1, 0])) (b := (sub (bodyOf Try.f28) [1, 1, 1])) (by kernel_rfl) (spec := [(0, .plain), (5, .plain), (6, .plain)]) (by kernel_rfl) ef28_j2040 ef28_j4032 (kFin VG0128 (some [(2, (.own 3)), (3, .plain), (4, .plain)]) (Try.f28).results.toList) (fun k => f28_n110 F k) (f28_n111 F)
    (fun Rf28_j4032 => f28_n110_eq F Rf28_j4032) (f28_n111_eq F)
def f28_n1 (F : Nat) : (List Int) → Option (AV × List Blk) := fun v => f28_n10 F (f28_n11 F) v
theorem f28_n1_eq (F : Nat) : ∀ v, aexec VG0128 (Af28 F) (sub (bodyOf Try.f28) [1]) (ef28_j1042 v) (kFin VG0128 (some [(2, (.own 3)), (3, .plain), (4, .plain)]) (Try.f28).results.toList) = f28_n1 F v :=
  seq_cut (c := (sub (bodyOf Try.f28) [1])) (a := (sub (bodyOf Try.f28) [1, 0])) (b := (sub (bodyOf Try.f28) [1, 1])) (by kernel_rfl) (spec := [(0, .plain), (5, .plain), (6, .plain), (7, .plain)]) (by kernel_rfl) ef28_j1042 ef28_j2040 (kFin VG0128 (some [(2, (.own 3)), (3, .plain), (4, .plain)]) (Try.f28).results.toList) (fun k => f28_n10 F k) (f28_n11 F)
    (fun Rf28_j2040 => f28_n10_eq F Rf28_j2040) (f28_n11_eq F)
def f28_nt (F : Nat) : (List Int) → Option (AV × List Blk) := fun v => f28_n0 F (f28_n1 F) v
theorem f28_nt_eq (F : Nat) : ∀ v, aexec VG0128 (Af28 F) (sub (bodyOf Try.f28) []) (ef28_a v) (kFin VG0128 (some [(2, (.own 3)), (3, .plain), (4, .plain)]) (Try.f28).results.toList) = f28_nt F v :=
  seq_cut (c := (sub (bodyOf Try.f28) [])) (a := (sub (bodyOf Try.f28) [0])) (b := (sub (bodyOf Try.f28) [1])) (by kernel_rfl) (spec := [(0, .plain)]) (by kernel_rfl) ef28_a ef28_j1042 (kFin VG0128 (some [(2, (.own 3)), (3, .plain), (4, .plain)]) (Try.f28).results.toList) (fun k => f28_n0 F k) (f28_n1 F)
    (fun Rf28_j1042 => f28_n0_eq F Rf28_j1042) (f28_n1_eq F)
/-- gantry/wire.GetInts -/
def f28 (F : Nat) : (List Int) → Option (AV × List Blk) := f28_nt F
theorem f28_body (F : Nat) (a0 : List Int) : abody VG0128 (Af28 F) Try.f28 [(.vs (.rI .u8 a0) 0 1)] [] = f28 F a0 :=
  (abody_in (c := (sub (bodyOf Try.f28) [])) (by kernel_rfl) (s := ef28_a a0) (by kernel_rfl)).trans (f28_nt_eq F a0)
def r28 : CRun := fun X H => match X, H with
  | [(.vs (.rI .u8 a0) 0 1)], [] => some ((decide (a0.length < 1073741000)), (.tup (.cons 0 (.own 0 0 1) (.cons 0 (.int .i64 (Wire.getInts a0).2.1) (.cons 0 (.int .i64 (Wire.getInts a0).2.2) .nil)))), [(.cells (Wire.getInts a0).1.length (.rI .i64 (Wire.getInts a0).1) true)])
  | _, _ => none
theorem s28 (a0 : List Int) (hp : ((decide (a0.length < 1073741000))) = true) (h0 : okV (.vs (.rI .u8 a0) 0 1)) : ∃ F, f28 F a0 = some ((.tup (.cons 0 (.own 0 0 1) (.cons 0 (.int .i64 (Wire.getInts a0).2.1) (.cons 0 (.int .i64 (Wire.getInts a0).2.2) .nil)))), [(.cells (Wire.getInts a0).1.length (.rI .i64 (Wire.getInts a0).1) true)]) := by
  have hb := Wire.okB_of h0.1
  have hl : a0.length < 1073741000 := of_decide_eq_true hp
  refine ⟨a0.length + 1, ?_⟩
  simp only [f28, f28_nt, f28_n0, f28_n1, f28_n10, f28_n11, f28_n110, f28_n111, f28_n1110, f28_n1111, f28_n11110, f28_n11111, f28_n111110, f28_n1111100, f28_n1111101, f28_n11111010, f28_n11111010_i, int_bne]
  rw [cond_pos (by omega)]
  unfold Wire.getInts
  by_cases c : (Wire.count a0 1).2.2 = 0
  · obtain ⟨g1, g2, g3, g4, g5, g6, g7⟩ := Wire.count_ok hb (by omega) c
    rw [cond_neg (by omega), if_pos c, g2, g3]
    generalize (Wire.getInt a0).1 = n at *
    generalize (Wire.getInt a0).2.1 = at0 at *
    generalize hR : Wire.intsN a0 n.toNat at0 [] = R
    refine loopN_ind (fun m s => s.2.1 = n ∧ s.2.2.1 = ((n.toNat - m : Nat) : Int) ∧ s.2.2.2.1 = a0 ∧ s.2.2.2.2.1 = s.1 ∧ 0 ≤ s.1 ∧ s.1 ≤ (a0.length : Int) ∧ ((s.2.2.2.2.2.length : Nat) : Int) ≤ s.1 ∧ m ≤ n.toNat ∧ Wire.intsN a0 m s.1 s.2.2.2.2.2 = R) ?_ _ n.toNat _ (by omega) ⟨rfl, by simp, rfl, rfl, by simp only []; omega, by simp only []; omega, by simp only [List.length_nil]; omega, Nat.le_refl _, hR⟩
    rintro m ⟨t6, n', i, b, at', acc⟩ k ⟨e1, e2, e3, e4, e5, e6, e7, hm, e8⟩ hk
    simp only at e1 e2 e3 e4 e5 e6 e7 e8
    subst e1; subst e2; subst e3; subst e4
    simp only [f28_n111110100, dec_and, int_bne]
    cases m with
    | zero =>
      rw [cond_neg (by omega)]
      simp only [Wire.intsN] at e8
      subst e8
      rfl
    | succ m =>
      have hr := Wire.getInt_rng (Wire.okBytes_drop hb at'.toNat)
      rw [List.length_drop] at hr
      simp only [Wire.intsN] at e8
      rw [cond_pos (by omega), cond_pos (by omega)]
      by_cases ce : (Wire.getInt (b.drop at'.toNat)).2.2 = 0
      · rw [if_pos ce] at e8
        have h1 := hr.2.2.2.2.1 ce
        rw [cond_neg (fun e => e ce), cond_pos (by omega), i64w (by omega) (by omega)]
        refine hk m _ (by omega) ⟨rfl, by simp only []; omega, rfl, rfl, ?_, ?_, ?_, by omega, e8⟩ <;> simp only [Wire.nextAt, List.length_append, List.length_singleton] <;> omega
      · rw [if_neg ce] at e8
        rw [cond_pos ce, ← e8]
        rfl
  · rw [cond_pos c, if_neg c]; rfl

theorem c28 : CallOk Try.prog G01 28 r28 := callOk_of (V := VG0128) mixed tys eVG0128 (f := 28) (fn := Try.f28) Try.func28 (by kernel_rfl) (c := sub (bodyOf Try.f28) []) (by kernel_rfl) (by
  intro X H r H' h hX hH
  unfold r28 at h; split at h <;> try contradiction
  simp only [Option.some.injEq, Prod.mk.injEq] at h
  obtain ⟨hp, rfl, rfl⟩ := h
  obtain ⟨F, hF⟩ := s28 _ hp (hX _ (.head _))
  exact ⟨Af28 F, (f28_body F _).trans hF⟩)
/-! gantry/gantryref01.GetInts -/
def lVG0129 : List CEnt := [(25, [some 5], r25), (39, [some 5, none], r39)]
def VG0129 : Env := mkEnv T01 G01 lVG0129
theorem eVG0129 : EOk Try.prog VG0129 := eok_mk (by exact ⟨c25, c39, trivial⟩)
def Af29 (F : Nat) : Cuts := { F := F, at_ := fun n => match n with | 6022 => some [(0, .plain), (5, .plain), (6, .plain), (8, .own 2), (9, .plain)] | _ => none, join := fun n => match n with | 1042 => some [(0, .plain)] | 2040 => some [(0, .plain), (5, .plain), (6, .plain), (7, .plain)] | 4032 => some [(0, .plain), (5, .plain), (6, .plain)] | 5030 => some [(0, .plain), (5, .plain), (6, .plain), (8, .plain)] | 6024 => some [(0, .plain), (5, .plain), (6, .plain), (8, .plain), (9, .plain)] | 13003 => some [(6, .plain), (8, .plain)] | _ => none, fin := (some [(2, (.own 3)), (3, .plain), (4, .plain)]) }
def ef29_a : (List Int) → St := fun a0 => { tmps := [(0, (.vs (.rI .u8 a0) 0 1))], heap := [], next := 0, nt := 47, m := 0 }
def ef29_j1042 : (List Int) → St := fun t0 => { tmps := [(0, (.vs (.rI .u8 t0) 0 1))], heap := [], next := 0, nt := 47, m := 0 }
def ef29_j2040 : (List Int) × Int × Int × Int → St := fun (t0, t5, t6, t7) => { tmps := [(0, (.vs (.rI .u8 t0) 0 1)), (5, (.int .i64 t5)), (6, (.int .i64 t6)), (7, (.int .i64 t7))], heap := [], next := 0, nt := 47, m := 0 }
def ef29_j4032 : (List Int) × Int × Int → St := fun (t0, t5, t6) => { tmps := [(0, (.vs (.rI .u8 t0) 0 1)), (5, (.int .i64 t5)), (6, (.int .i64 t6))], heap := [], next := 0, nt := 47, m := 0 }
def ef29_j5030 : (List Int) × Int × Int → St := fun (t0, t5, t6) => { tmps := [(0, (.vs (.rI .u8 t0) 0 1)), (5, (.int .i64 t5)), (6, (.int .i64 t6)), (8, .ns)], heap := [], next := 0, nt := 47, m := 0 }
def ef29_j6024 : (List Int) × Int × Int × Int → St := fun (t0, t5, t6, t9) => { tmps := [(0, (.vs (.rI .u8 t0) 0 1)), (5, (.int .i64 t5)), (6, (.int .i64 t6)), (8, .ns), (9, (.int .i64 t9))], heap := [], next := 0, nt := 47, m := 0 }
def ef29_l6022 : (List Int) × Int × Int × Int × (List Int) → St := fun (t0, t5, t6, t9, x5) => { tmps := [(0, (.vs (.rI .u8 t0) 0 1)), (5, (.int .i64 t5)), (6, (.int .i64 t6)), (8, (.own 0 0 1)), (9, (.int .i64 t9))], heap := [(0, (.cells x5.length (.rI .i64 x5) true))], next := 1, nt := 47, m := 0 }
def ef29_j13003 : Int × (List Int) → St := fun (t6, x2) => { tmps := [(6, (.int .i64 t6)), (8, (.own 0 0 1))], heap := [(0, (.cells x2.length (.rI .i64 x2) true))], next := 1, nt := 47, m := 0 }
def f29_n0 (F : Nat) (kf29_j1042 : (List Int) → Option (AV × List Blk)) : (List Int) → Option (AV × List Blk) := fun a0 => (kf29_j1042 a0)
theorem f29_n0_eq (F : Nat) (Rf29_j1042 : St → Option (AV × List Blk)) : ∀ v, aexec VG0129 (Af29 F) (sub (bodyOf Try.f29) [0]) (ef29_a v) (kSeq (fun s => Rf29_j1042 (cutTo VG0129 (some [(0, .plain)]) s)) (kFin VG0129 (some [(2, (.own 3)), (3, .plain), (4, .plain)]) (Try.f29).results.toList)) = f29_n0 F (fun w => Rf29_j1042 (ef29_j1042 w)) v := by
  intro a0; kernel_rfl
def f29_n10 (F : Nat) (kf29_j2040 : (List Int) × Int × Int × Int → Option (AV × List Blk)) : (List Int) → Option (AV × List Blk) := fun t0 => (cond (((decide (0 < (1 : Int))) && (decide ((1 : Int) ≤ 16))) && (decide (t0.length < 1073741000))) (kf29_j2040 (t0, (Wire.rcount t0 (1 : Int)).1, (Wire.rcount t0 (1 : Int)).2.1, (Wire.rcount t0 (1 : Int)).2.2)) none)
theorem f29_n10_eq (F : Nat) (Rf29_j2040 : St → Option (AV × List Blk)) : ∀ v, aexec VG0129 (Af29 F) (sub (bodyOf Try.f29) [1, 0]) (ef29_j1042 v) (kSeq (fun s => Rf29_j2040 (cutTo VG0129 (some [(0, .plain), (5, .plain), (6, .plain), (7, .plain)]) s)) (kFin VG0129 (some [(2, (.own 3)), (3, .plain), (4, .plain)]) (Try.f29).results.toList)) = f29_n10 F (fun w => Rf29_j2040 (ef29_j2040 w)) v := by
  intro t0; kernel_rfl
def f29_n110 (F : Nat) (kf29_j4032 : (List Int) × Int × Int → Option (AV × List Blk)) : (List Int) × Int × Int × Int → Option (AV × List Blk) := fun (t0, t5, t6, t7) => (cond (t7 != (0 : Int)) (some ((.tup (.cons 0 (.own 0 0 1) (.cons 0 (.int .i64 (0 : Int)) (.cons 0 (.int .i64 t7) .nil)))), [(.cells 0 (.rI .i64 []) true)])) (kf29_j4032 (t0, t5, t6)))
theorem f29_n110_eq (F : Nat) (Rf29_j4032 : St → Option (AV × List Blk)) : ∀ v, aexec VG0129 (Af29 F) (sub (bodyOf Try.f29) [1, 1, 0]) (ef29_j2040 v) (kSeq (fun s => Rf29_j4032 (cutTo VG0129 (some [(0, .plain), (5, .plain), (6, .plain)]) s)) (kFin VG0129 (some [(2, (.own 3)), (3, .plain), (4, .plain)]) (Try.f29).results.toList)) = f29_n110 F (fun w => Rf29_j4032 (ef29_j4032 w)) v := by
  rintro ⟨t0, t5, t6, t7⟩; kernel_rfl
def f29_n1110 (F : Nat) (kf29_j5030 : (List Int) × Int × Int → Option (AV × List Blk)) : (List Int) × Int × Int → Option (AV × List Blk) := fun (t0, t5, t6) => (kf29_j5030 (t0, t5, t6))
theorem f29_n1110_eq (F : Nat) (Rf29_j5030 : St → Option (AV × List Blk)) : ∀ v, aexec VG0129 (Af29 F) (sub (bodyOf Try.f29) [1, 1, 1, 0]) (ef29_j4032 v) (kSeq (fun s => Rf29_j5030 (cutTo VG0129 (some [(0, .plain), (5, .plain), (6, .plain), (8, .plain)]) s)) (kFin VG0129 (some [(2, (.own 3)), (3, .plain), (4, .plain)]) (Try.f29).results.toList)) = f29_n1110 F (fun w => Rf29_j5030 (ef29_j5030 w)) v := by
  rintro ⟨t0, t5, t6⟩; kernel_rfl
def f29_n111100 (F : Nat) (kf29_j6024 : (List Int) × Int × Int × Int → Option (AV × List Blk)) (kf29_j13003 : Int × (List Int) → Option (AV × List Blk)) : (List Int) × Int × Int → Option (AV × List Blk) := fun (t0, t5, t6) => (kf29_j6024 (t0, t5, t6, (0 : Int)))
theorem f29_n111100_eq (F : Nat) (Rf29_j6024 : St → Option (AV × List Blk)) (Rf29_j13003 : St → Option (AV × List Blk)) : ∀ v, aexec VG0129 (Af29 F) (sub (bodyOf Try.f29) [1, 1, 1, 1, 0, 0]) (ef29_j5030 v) (kSeq (fun s => Rf29_j6024 (cutTo VG0129 (some [(0, .plain), (5, .plain), (6, .plain), (8, .plain), (9, .plain)]) s)) (kSeq (fun s => Rf29_j13003 (cutTo VG0129 (some [(6, .plain), (8, .plain)]) s)) (kFin VG0129 (some [(2, (.own 3)), (3, .plain), (4, .plain)]) (Try.f29).results.toList))) = f29_n111100 F (fun w => Rf29_j6024 (ef29_j6024 w)) (fun w => Rf29_j13003 (ef29_j13003 w)) v := by
  rintro ⟨t0, t5, t6⟩; kernel_rfl
def f29_n11110100 (F : Nat) (kf29_l6022 : (List Int) × Int × Int × Int × (List Int) → Option (AV × List Blk)) (kf29_j13003 : Int × (List Int) → Option (AV × List Blk)) : (List Int) × Int × Int × Int × (List Int) → Option (AV × List Blk) := fun (t0, t5, t6, t9, x5) => (cond (decide (t9 < t5)) (cond (((decide (0 ≤ t6)) && (decide (t6 ≤ (↑t0.length : Int)))) && (decide ((↑t0.length : Int) ≤ (↑t0.length : Int)))) (cond ((Wire.getInt ((t0.drop (Int.toNat t6)).take (t0.length - (Int.toNat t6)))).2.2 != (0 : Int)) (some ((.tup (.cons 0 (.own 0 0 1) (.cons 0 (.int .i64 (0 : Int)) (.cons 0 (.int .i64 (Wire.getInt ((t0.drop (Int.toNat t6)).take (t0.length - (Int.toNat t6)))).2.2) .nil)))), [(.cells 0 (.rI .i64 []) true)])) (cond (decide ((x5.length + 1) < 1073741824)) (kf29_l6022 (t0, t5, (IntKind.i64.wrap (t6 + (Wire.getInt ((t0.drop (Int.toNat t6)).take (t0.length - (Int.toNat t6)))).2.1)), (IntKind.i64.wrap (t9 + (1 : Int))), (x5 ++ [(Wire.getInt ((t0.drop (Int.toNat t6)).take (t0.length - (Int.toNat t6)))).1]))) none)) none) (kf29_j13003 (t6, x5)))
theorem f29_n11110100_eq (F : Nat) (Rf29_l6022 : St → Option (AV × List Blk)) (Rf29_j13003 : St → Option (AV × List Blk)) : ∀ v, aexec VG0129 (Af29 F) (sub (bodyOf Try.f29) [1, 1, 1, 1, 0, 1, 0, 0]) (ef29_l6022 v) (kSeq (fun s => Rf29_l6022 (cutTo VG0129 (some [(0, .plain), (5, .plain), (6, .plain), (8, .own 2), (9, .plain)]) s)) (kBlock 0 (kSeq (fun s => Rf29_j13003 (cutTo VG0129 (some [(6, .plain), (8, .plain)]) s)) (kFin VG0129 (some [(2, (.own 3)), (3, .plain), (4, .plain)]) (Try.f29).results.toList)))) = f29_n11110100 F (fun w => Rf29_l6022 (ef29_l6022 w)) (fun w => Rf29_j13003 (ef29_j13003 w)) v := by
  rintro ⟨t0, t5, t6, t9, x5⟩; kernel_rfl
def f29_n1111010_i : (List Int) × Int × Int × Int → (List Int) × Int × Int × Int × (List Int) := fun (t0, t5, t6, t9) => (t0, t5, t6, t9, [])
def f29_n1111010 (F : Nat) (kf29_j13003 : Int × (List Int) → Option (AV × List Blk)) : (List Int) × Int × Int × Int → Option (AV × List Blk) := fun v => loopN (fun k => f29_n11110100 F k kf29_j13003) F (f29_n1111010_i v)
theorem f29_n1111010_eq (F : Nat) (Rf29_j13003 : St → Option (AV × List Blk)) : ∀ v, aexec VG0129 (Af29 F) (sub (bodyOf Try.f29) [1, 1, 1, 1, 0, 1, 0]) (ef29_j6024 v) (kBlock 0 (kSeq (fun s => Rf29_j13003 (cutTo VG0129 (some [(6, .plain), (8, .plain)]) s)) (kFin VG0129 (some [(2, (.own 3)), (3, .plain), (4, .plain)]) (Try.f29).results.toList))) = f29_n1111010 F (fun w => Rf29_j13003 (ef29_j13003 w)) v :=
  loop_cut (c := (sub (bodyOf Try.f29) [1, 1, 1, 1, 0, 1, 0])) (d := (sub (bodyOf Try.f29) [1, 1, 1, 1, 0, 1, 0, 0])) (by kernel_rfl) (spec := [(0, .plain), (5, .plain), (6, .plain), (8, .own 2), (9, .plain)]) (by kernel_rfl) ef29_j6024 ef29_l6022 (kBlock 0 (kSeq (fun s => Rf29_j13003 (cutTo VG0129 (some [(6, .plain), (8, .plain)]) s)) (kFin VG0129 (some [(2, (.own 3)), (3, .plain), (4, .plain)]) (Try.f29).results.toList))) f29_n1111010_i (fun k => f29_n11110100 F k (fun w => Rf29_j13003 (ef29_j13003 w)))
    (by rintro ⟨t0, t5, t6, t9⟩; kernel_rfl) (fun Rf29_l6022 => f29_n11110100_eq F Rf29_l6022 Rf29_j13003)
def f29_n111101 (F : Nat) (kf29_j13003 : Int × (List Int) → Option (AV × List Blk)) : (List Int) × Int × Int × Int → Option (AV × List Blk) := f29_n1111010 F kf29_j13003
theorem f29_n111101_eq (F : Nat) (Rf29_j13003 : St → Option (AV × List Blk)) : ∀ v, aexec VG0129 (Af29 F) (sub (bodyOf Try.f29) [1, 1, 1, 1, 0, 1]) (ef29_j6024 v) (kSeq (fun s => Rf29_j13003 (cutTo VG0129 (some [(6, .plain), (8, .plain)]) s)) (kFin VG0129 (some [(2, (.own 3)), (3, .plain), (4, .plain)]) (Try.f29).results.toList)) = f29_n111101 F (fun w => Rf29_j13003 (ef29_j13003 w)) v := fun v =>
  (block_in (c := (sub (bodyOf Try.f29) [1, 1, 1, 1, 0, 1])) (d := (sub (bodyOf Try.f29) [1, 1, 1, 1, 0, 1, 0])) (id := 0) (by kernel_rfl) _ _).trans (f29_n1111010_eq F Rf29_j13003 v)
def f29_n11110 (F : Nat) (kf29_j13003 : Int × (List Int) → Option (AV × List Blk)) : (List Int) × Int × Int → Option (AV × List Blk) := fun v => f29_n111100 F (f29_n111101 F kf29_j13003) kf29_j13003 v
theorem f29_n11110_eq (F : Nat) (Rf29_j13003 : St → Option (AV × List Blk)) : ∀ v, aexec VG0129 (Af29 F) (sub (bodyOf Try.f29) [1, 1, 1, 1, 0]) (ef29_j5030 v) (kSeq (fun s => Rf29_j13003 (cutTo VG0129 (some [(6, .plain), (8, .plain)]) s)) (kFin VG0129 (some [(2, (.own 3)), (3, .plain), (4, .plain)]) (Try.f29).results.toList)) = f29_n11110 F (fun w => Rf29_j13003 (ef29_j13003 w)) v :=
  seq_cut (c := (sub (bodyOf Try.f29) [1, 1, 1, 1, 0])) (a := (sub (bodyOf Try.f29) [1, 1, 1, 1, 0, 0])) (b := (sub (bodyOf Try.f29) [1, 1, 1, 1, 0, 1])) (by kernel_rfl) (spec := [(0, .plain), (5, .plain), (6, .plain), (8, .plain), (9, .plain)]) (by kernel_rfl) ef29_j5030 ef29_j6024 (kSeq (fun s => Rf29_j13003 (cutTo VG0129 (some [(6, .plain), (8, .plain)]) s)) (kFin VG0129 (some [(2, (.own 3)), (3, .plain), (4, .plain)]) (Try.f29).results.toList)) (fun k => f29_n111100 F k (fun w => Rf29_j13003 (ef29_j13003 w))) (f29_n111101 F (fun w => Rf29_j13003 (ef29_j13003 w)))
    (fun Rf29_j6024 => f29_n111100_eq F Rf29_j6024 Rf29_j13003) (f29_n111101_eq F Rf29_j13003)
def f29_n11111 (F : Nat) : Int × (List Int) → Option (AV × List Blk) := fun (t6, x2) => (some ((.tup (.cons 0 (.own 0 0 1) (.cons 0 (.int .i64 t6) (.cons 0 (.int .i64 (0 : Int)) .nil)))), [(.cells x2.length (.rI .i64 x2) true)]))
theorem f29_n11111_eq (F : Nat) : ∀ v, aexec VG0129 (Af29 F) (sub (bodyOf Try.f29) [1, 1, 1, 1, 1]) (ef29_j13003 v) (kFin VG0129 (some [(2, (.own 3)), (3, .plain), (4, .plain)]) (Try.f29).results.toList) = f29_n11111 F v := by
  rintro ⟨t6, x2⟩; kernel_rfl
def f29_n1111 (F : Nat) : (List Int) × Int × Int → Option (AV × List Blk) := fun v => f29_n11110 F (f29_n11111 F) v
theorem f29_n1111_eq (F : Nat) : ∀ v, aexec VG0129 (Af29 F) (sub (bodyOf Try.f29) [1, 1, 1, 1]) (ef29_j5030 v) (kFin VG0129 (some [(2, (.own 3)), (3, .plain), (4, .plain)]) (Try.f29).results.toList) = f29_n1111 F v :=
  seq_cut (c := (sub (bodyOf Try.f29) [1, 1, 1, 1])) (a := (sub (bodyOf Try.f29) [1, 1, 1, 1, 0])) (b := (sub (bodyOf Try.f29) [1, 1, 1, 1, 1])) (by kernel_rfl) (spec := [(6, .plain), (8, .plain)]) (by kernel_rfl) ef29_j5030 ef29_j13003 (kFin VG0129 (some [(2, (.own 3)), (3, .plain), (4, .plain)]) (Try.f29).results.toList) (fun k => f29_n11110 F k) (f29_n11111 F)
    (fun Rf29_j13003 => f29_n11110_eq F Rf29_j13003) (f29_n11111_eq F)
def f29_n111 (F : Nat) : (List Int) × Int × Int → Option (AV × List Blk) := fun v => f29_n1110 F (f29_n1111 F) v
theorem f29_n111_eq (F : Nat) : ∀ v, aexec VG0129 (Af29 F) (sub (bodyOf Try.f29) [1, 1, 1]) (ef29_j4032 v) (kFin VG0129 (some [(2, (.own 3)), (3, .plain), (4, .plain)]) (Try.f29).results.toList) = f29_n111 F v :=
  seq_cut (c := (sub (bodyOf Try.f29) [1, 1, 1])) (a := (sub (bodyOf Try.f29) [1, 1, 1, 0])) (b := (sub (bodyOf Try.f29) [1, 1, 1, 1])) (by kernel_rfl) (spec := [(0, .plain), (5, .plain), (6, .plain), (8, .plain)]) (by kernel_rfl) ef29_j4032 ef29_j5030 (kFin VG0129 (some [(2, (.own 3)), (3, .plain), (4, .plain)]) (Try.f29).results.toList) (fun k => f29_n1110 F k) (f29_n1111 F)
    (fun Rf29_j5030 => f29_n1110_eq F Rf29_j5030) (f29_n1111_eq F)
def f29_n11 (F : Nat) : (List Int) × Int × Int × Int → Option (AV × List Blk) := fun v => f29_n110 F (f29_n111 F) v
theorem f29_n11_eq (F : Nat) : ∀ v, aexec VG0129 (Af29 F) (sub (bodyOf Try.f29) [1, 1]) (ef29_j2040 v) (kFin VG0129 (some [(2, (.own 3)), (3, .plain), (4, .plain)]) (Try.f29).results.toList) = f29_n11 F v :=
  seq_cut (c := (sub (bodyOf Try.f29) [1, 1])) (a := (sub (bodyOf Try.f29) [1, 1, 0])) (b := (sub (bodyOf Try.f29) [1, 1, 1])) (by kernel_rfl) (spec := [(0, .plain), (5, .plain), (6, .plain)]) (by kernel_rfl) ef29_j2040 ef29_j4032 (kFin VG0129 (some [(2, (.own 3)), (3, .plain), (4, .plain)]) (Try.f29).results.toList) (fun k => f29_n110 F k) (f29_n111 F)
    (fun Rf29_j4032 => f29_n110_eq F Rf29_j4032) (f29_n111_eq F)
def f29_n1 (F : Nat) : (List Int) → Option (AV × List Blk) := fun v => f29_n10 F (f29_n11 F) v
theorem f29_n1_eq (F : Nat) : ∀ v, aexec VG0129 (Af29 F) (sub (bodyOf Try.f29) [1]) (ef29_j1042 v) (kFin VG0129 (some [(2, (.own 3)), (3, .plain), (4, .plain)]) (Try.f29).results.toList) = f29_n1 F v :=
  seq_cut (c := (sub (bodyOf Try.f29) [1])) (a := (sub (bodyOf Try.f29) [1, 0])) (b := (sub (bodyOf Try.f29) [1, 1])) (by kernel_rfl) (spec := [(0, .plain), (5, .plain), (6, .plain), (7, .plain)]) (by kernel_rfl) ef29_j1042 ef29_j2040 (kFin VG0129 (some [(2, (.own 3)), (3, .plain), (4, .plain)]) (Try.f29).results.toList) (fun k => f29_n10 F k) (f29_n11 F)
    (fun Rf29_j2040 => f29_n10_eq F Rf29_j2040) (f29_n11_eq F)
def f29_nt (F : Nat) : (List Int) → Option (AV × List Blk) := fun v => f29_n0 F (f29_n1 F) v
theorem f29_nt_eq (F : Nat) : ∀ v, aexec VG0129 (Af29 F) (sub (bodyOf Try.f29) []) (ef29_a v) (kFin VG0129 (some [(2, (.own 3)), (3, .plain), (4, .plain)]) (Try.f29).results.toList) = f29_nt F v :=
  seq_cut (c := (sub (bodyOf Try.f29) [])) (a := (sub (bodyOf Try.f29) [0])) (b := (sub (bodyOf Try.f29) [1])) (by kernel_rfl) (spec := [(0, .plain)]) (by kernel_rfl) ef29_a ef29_j1042 (kFin VG0129 (some [(2, (.own 3)), (3, .plain), (4, .plain)]) (Try.f29).results.toList) (fun k => f29_n0 F k) (f29_n1 F)
    (fun Rf29_j1042 => f29_n0_eq F Rf29_j1042) (f29_n1_eq F)
/-- gantry/gantryref01.GetInts -/
def f29 (F : Nat) : (List Int) → Option (AV × List Blk) := f29_nt F
theorem f29_body (F : Nat) (a0 : List Int) : abody VG0129 (Af29 F) Try.f29 [(.vs (.rI .u8 a0) 0 1)] [] = f29 F a0 :=
  (abody_in (c := (sub (bodyOf Try.f29) [])) (by kernel_rfl) (s := ef29_a a0) (by kernel_rfl)).trans (f29_nt_eq F a0)
def r29 : CRun := fun X H => match X, H with
  | [(.vs (.rI .u8 a0) 0 1)], [] => some ((decide (a0.length < 1073741000)), (.tup (.cons 0 (.own 0 0 1) (.cons 0 (.int .i64 (Wire.getInts a0).2.1) (.cons 0 (.int .i64 (Wire.getInts a0).2.2) .nil)))), [(.cells (Wire.getInts a0).1.length (.rI .i64 (Wire.getInts a0).1) true)])
  | _, _ => none
theorem s29 (a0 : List Int) (hp : ((decide (a0.length < 1073741000))) = true) (h0 : okV (.vs (.rI .u8 a0) 0 1)) : ∃ F, f29 F a0 = some ((.tup (.cons 0 (.own 0 0 1) (.cons 0 (.int .i64 (Wire.getInts a0).2.1) (.cons 0 (.int .i64 (Wire.getInts a0).2.2) .nil)))), [(.cells (Wire.getInts a0).1.length (.rI .i64 (Wire.getInts a0).1) true)]) := by
  have hb := Wire.okB_of h0.1
  have hl : a0.length < 1073741000 := of_decide_eq_true hp
  refine ⟨a0.length + 1, ?_⟩
  simp only [f29, f29_nt, f29_n0, f29_n1, f29_n10, f29_n11, f29_n110, f29_n111, f29_n1110, f29_n1111, f29_n11110, f29_n111100, f29_n111101, f29_n1111010, f29_n1111010_i, int_bne, dec_and, Wire.rcount_err]
  rw [cond_pos (by omega)]
  unfold Wire.getInts
  by_cases c : (Wire.count a0 1).2.2 = 0
  · obtain ⟨g1, g2, g3, g4, g5, g6, g7⟩ := Wire.count_ok hb (by omega) c
    rw [cond_neg (by omega), if_pos c, Wire.rcount_ok c, g2, g3]
    generalize (Wire.getInt a0).1 = n at *
    generalize (Wire.getInt a0).2.1 = at0 at *
    generalize hR : Wire.intsN a0 n.toNat at0 [] = R
    refine loopN_ind (fun m s => s.1 = a0 ∧ s.2.1 = n ∧ s.2.2.2.1 = ((n.toNat - m : Nat) : Int) ∧ 0 ≤ s.2.2.1 ∧ s.2.2.1 ≤ (a0.length : Int) ∧ ((s.2.2.2.2.length : Nat) : Int) ≤ s.2.2.1 ∧ m ≤ n.toNat ∧ Wire.intsN a0 m s.2.2.1 s.2.2.2.2 = R) ?_ _ n.toNat _ (by omega) ⟨rfl, rfl, by simp, by simp only []; omega, by simp only []; omega, by simp only [List.length_nil]; omega, Nat.le_refl _, hR⟩
    rintro m ⟨b, n', at', i, acc⟩ k ⟨e1, e2, e3, e5, e6, e7, hm, e8⟩ hk
    simp only at e1 e2 e3 e5 e6 e7 e8
    subst e1; subst e2; subst e3
    simp only [f29_n11110100, dec_and, int_bne, Wire.drop_all]
    cases m with
    | zero =>
      rw [cond_neg (by omega)]
      simp only [Wire.intsN] at e8
      subst e8
      rfl
    | succ m =>
      have hr := Wire.getInt_rng (Wire.okBytes_drop hb at'.toNat)
      rw [List.length_drop] at hr
      simp only [Wire.intsN] at e8
      rw [cond_pos (by omega), cond_pos (by omega)]
      by_cases ce : (Wire.getInt (b.drop at'.toNat)).2.2 = 0
      · rw [if_pos ce] at e8
        have h1 := hr.2.2.2.2.1 ce
        rw [cond_neg (fun e => e ce), cond_pos (by omega), i64w (x := at' + _) (by omega) (by omega), i64w (by omega) (by omega)]
        refine hk m _ (by omega) ⟨rfl, rfl, by simp only []; omega, ?_, ?_, ?_, by omega, e8⟩ <;> simp only [List.length_append, List.length_singleton] <;> omega
      · rw [if_neg ce] at e8
        rw [cond_pos ce, ← e8]
        rfl
  · rw [cond_pos c, if_neg c]; rfl

theorem c29 : CallOk Try.prog G01 29 r29 := callOk_of (V := VG0129) mixed tys eVG0129 (f := 29) (fn := Try.f29) Try.func29 (by kernel_rfl) (c := sub (bodyOf Try.f29) []) (by kernel_rfl) (by
  intro X H r H' h hX hH
  unfold r29 at h; split at h <;> try contradiction
  simp only [Option.some.injEq, Prod.mk.injEq] at h
  obtain ⟨hp, rfl, rfl⟩ := h
  obtain ⟨F, hF⟩ := s29 _ hp (hX _ (.head _))
  exact ⟨Af29 F, (f29_body F _).trans hF⟩)
/-! gantry/wire.GetStrings -/
def lVG0131 : List CEnt := [(26, [some 5], r26), (38, [some 5, none], r38)]
def VG0131 : Env := mkEnv T01 G01 lVG0131
theorem eVG0131 : EOk Try.prog VG0131 := eok_mk (by exact ⟨c26, c38, trivial⟩)
def Af31 (F : Nat) : Cuts := { F := F, at_ := fun n => match n with | 6020 => some [(0, .plain), (6, .plain), (8, .own 9), (21, .plain), (22, .plain)] | _ => none, join := fun n => match n with | 1040 => some [(0, .plain)] | 2038 => some [(0, .plain), (5, .plain), (6, .plain), (7, .plain)] | 4030 => some [(0, .plain), (5, .plain), (6, .plain)] | 5028 => some [(0, .plain), (5, .plain), (6, .plain), (8, .plain)] | 6022 => some [(0, .plain), (6, .plain), (8, .plain), (21, .plain), (22, .plain)] | 12003 => some [(6, .plain), (8, .plain)] | _ => none, fin := (some [(2, (.own 9)), (3, .plain), (4, .plain)]) }
def ef31_a : (List Int) → St := fun a0 => { tmps := [(0, (.vs (.rI .u8 a0) 0 1))], heap := [], next := 0, nt := 45, m := 0 }
def ef31_j1040 : (List Int) → St := fun t0 => { tmps := [(0, (.vs (.rI .u8 t0) 0 1))], heap := [], next := 0, nt := 45, m := 0 }
def ef31_j2038 : (List Int) × Int × Int × Int → St := fun (t0, t5, t6, t7) => { tmps := [(0, (.vs (.rI .u8 t0) 0 1)), (5, (.int .i64 t5)), (6, (.int .i64 t6)), (7, (.int .i64 t7))], heap := [], next := 0, nt := 45, m := 0 }
def ef31_j4030 : (List Int) × Int × Int → St := fun (t0, t5, t6) => { tmps := [(0, (.vs (.rI .u8 t0) 0 1)), (5, (.int .i64 t5)), (6, (.int .i64 t6))], heap := [], next := 0, nt := 45, m := 0 }
def ef31_j5028 : (List Int) × Int × Int → St := fun (t0, t5, t6) => { tmps := [(0, (.vs (.rI .u8 t0) 0 1)), (5, (.int .i64 t5)), (6, (.int .i64 t6)), (8, .ns)], heap := [], next := 0, nt := 45, m := 0 }
def ef31_j6022 : (List Int) × Int × Int × Int → St := fun (t0, t6, t21, t22) => { tmps := [(0, (.vs (.rI .u8 t0) 0 1)), (6, (.int .i64 t6)), (8, .ns), (21, (.int .i64 t21)), (22, (.int .i64 t22))], heap := [], next := 0, nt := 45, m := 0 }
def ef31_l6020 : (List Int) × Int × Int × Int × (List (List Int)) → St := fun (t0, t6, t21, t22, x5) => { tmps := [(0, (.vs (.rI .u8 t0) 0 1)), (6, (.int .i64 t6)), (8, (.own 0 0 1)), (21, (.int .i64 t21)), (22, (.int .i64 t22))], heap := [(0, (.cells x5.length (.rS x5) true))], next := 1, nt := 45, m := 0 }
def ef31_j12003 : Int × (List (List Int)) → St := fun (t6, x2) => { tmps := [(6, (.int .i64 t6)), (8, (.own 0 0 1))], heap := [(0, (.cells x2.length (.rS x2) true))], next := 1, nt := 45, m := 0 }
def f31_n0 (F : Nat) (kf31_j1040 : (List Int) → Option (AV × List Blk)) : (List Int) → Option (AV × List Blk) := fun a0 => (kf31_j1040 a0)
theorem f31_n0_eq (F : Nat) (Rf31_j1040 : St → Option (AV × List Blk)) : ∀ v, aexec VG0131 (Af31 F) (sub (bodyOf Try.f31) [0]) (ef31_a v) (kSeq (fun s => Rf31_j1040 (cutTo VG0131 (some [(0, .plain)]) s)) (kFin VG0131 (some [(2, (.own 9)), (3, .plain), (4, .plain)]) (Try.f31).results.toList)) = f31_n0 F (fun w => Rf31_j1040 (ef31_j1040 w)) v := by
  intro a0; kernel_rfl
def f31_n10 (F : Nat) (kf31_j2038 : (List Int) × Int × Int × Int → Option (AV × List Blk)) : (List Int) → Option (AV × List Blk) := fun t0 => (cond (decide (0 < (1 : Int))) (kf31_j2038 (t0, (Wire.count t0 (1 : Int)).1, (Wire.count t0 (1 : Int)).2.1, (Wire.count t0 (1 : Int)).2.2)) none)
theorem f31_n10_eq (F : Nat) (Rf31_j2038 : St → Option (AV × List Blk)) : ∀ v, aexec VG0131 (Af31 F) (sub (bodyOf Try.f31) [1, 0]) (ef31_j1040 v) (kSeq (fun s => Rf31_j2038 (cutTo VG0131 (some [(0, .plain), (5, .plain), (6, .plain), (7, .plain)]) s)) (kFin VG0131 (some [(2, (.own 9)), (3, .plain), (4, .plain)]) (Try.f31).results.toList)) = f31_n10 F (fun w => Rf31_j2038 (ef31_j2038 w)) v := by
  intro t0; kernel_rfl
def f31_n110 (F : Nat) (kf31_j4030 : (List Int) × Int × Int → Option (AV × List Blk)) : (List Int) × Int × Int × Int → Option (AV × List Blk) := fun (t0, t5, t6, t7) => (cond (t7 != (0 : Int)) (some ((.tup (.cons 0 (.own 0 0 1) (.cons 0 (.int .i64 (0 : Int)) (.cons 0 (.int .i64 t7) .nil)))), [(.cells 0 (.rS []) true)])) (kf31_j4030 (t0, t5, t6)))
theorem f31_n110_eq (F : Nat) (Rf31_j4030 : St → Option (AV × List Blk)) : ∀ v, aexec VG0131 (Af31 F) (sub (bodyOf Try.f31) [1, 1, 0]) (ef31_j2038 v) (kSeq (fun s => Rf31_j4030 (cutTo VG0131 (some [(0, .plain), (5, .plain), (6, .plain)]) s)) (kFin VG0131 (some [(2, (.own 9)), (3, .plain), (4, .plain)]) (Try.f31).results.toList)) = f31_n110 F (fun w => Rf31_j4030 (ef31_j4030 w)) v := by
  rintro ⟨t0, t5, t6, t7⟩; kernel_rfl
def f31_n1110 (F : Nat) (kf31_j5028 : (List Int) × Int × Int → Option (AV × List Blk)) : (List Int) × Int × Int → Option (AV × List Blk) := fun (t0, t5, t6) => (kf31_j5028 (t0, t5, t6))
theorem f31_n1110_eq (F : Nat) (Rf31_j5028 : St → Option (AV × List Blk)) : ∀ v, aexec VG0131 (Af31 F) (sub (bodyOf Try.f31) [1, 1, 1, 0]) (ef31_j4030 v) (kSeq (fun s => Rf31_j5028 (cutTo VG0131 (some [(0, .plain), (5, .plain), (6, .plain), (8, .plain)]) s)) (kFin VG0131 (some [(2, (.own 9)), (3, .plain), (4, .plain)]) (Try.f31).results.toList)) = f31_n1110 F (fun w => Rf31_j5028 (ef31_j5028 w)) v := by
  rintro ⟨t0, t5, t6⟩; kernel_rfl
def f31_n111100 (F : Nat) (kf31_j6022 : (List Int) × Int × Int × Int → Option (AV × List Blk)) (kf31_j12003 : Int × (List (List Int)) → Option (AV × List Blk)) : (List Int) × Int × Int → Option (AV × List Blk) := fun (t0, t5, t6) => (kf31_j6022 (t0, t6, t5, (0 : Int)))
theorem f31_n111100_eq (F : Nat) (Rf31_j6022 : St → Option (AV × List Blk)) (Rf31_j12003 : St → Option (AV × List Blk)) : ∀ v, aexec VG0131 (Af31 F) (sub (bodyOf Try.f31) [1, 1, 1, 1, 0, 0]) (ef31_j5028 v) (kSeq (fun s => Rf31_j6022 (cutTo VG0131 (some [(0, .plain), (6, .plain), (8, .plain), (21, .plain), (22, .plain)]) s)) (kSeq (fun s => Rf31_j12003 (cutTo VG0131 (some [(6, .plain), (8, .plain)]) s)) (kFin VG0131 (some [(2, (.own 9)), (3, .plain), (4, .plain)]) (Try.f31).results.toList))) = f31_n111100 F (fun w => Rf31_j6022 (ef31_j6022 w)) (fun w => Rf31_j12003 (ef31_j12003 w)) v := by
  rintro ⟨t0, t5, t6⟩; kernel_rfl
def f31_n11110100 (F : Nat) (kf31_l6020 : (List Int) × Int × Int × Int × (List (List Int)) → Option (AV × List Blk)) (kf31_j12003 : Int × (List (List Int)) → Option (AV × List Blk)) : (List Int) × Int × Int × Int × (List (List Int)) → Option (AV × List Blk) := fun (t0, t6, t21, t22, x5) => (cond (decide (t22 < t21)) (cond (((decide (0 ≤ t6)) && (decide (t6 ≤ (↑t0.length : Int)))) && (decide ((↑t0.length : Int) ≤ (↑t0.length : Int)))) (cond ((Wire.getBytes ((t0.drop (Int.toNat t6)).take (t0.length - (Int.toNat t6)))).2.2 != (0 : Int)) (some ((.tup (.cons 0 (.own 0 0 1) (.cons 0 (.int .i64 (0 : Int)) (.cons 0 (.int .i64 (Wire.getBytes ((t0.drop (Int.toNat t6)).take (t0.length - (Int.toNat t6)))).2.2) .nil)))), [(.cells 0 (.rS []) true)])) (cond (decide ((x5.length + 1) < 1073741824)) (kf31_l6020 (t0, (IntKind.i64.wrap (t6 + (Wire.getBytes ((t0.drop (Int.toNat t6)).take (t0.length - (Int.toNat t6)))).2.1)), t21, (IntKind.i64.wrap (t22 + (1 : Int))), (x5 ++ [(Wire.getBytes ((t0.drop (Int.toNat t6)).take (t0.length - (Int.toNat t6)))).1]))) none)) none) (kf31_j12003 (t6, x5)))
theorem f31_n11110100_eq (F : Nat) (Rf31_l6020 : St → Option (AV × List Blk)) (Rf31_j12003 : St → Option (AV × List Blk)) : ∀ v, aexec VG0131 (Af31 F) (sub (bodyOf Try.f31) [1, 1, 1, 1, 0, 1, 0, 0]) (ef31_l6020 v) (kSeq (fun s => Rf31_l6020 (cutTo VG0131 (some [(0, .plain), (6, .plain), (8, .own 9), (21, .plain), (22, .plain)]) s)) (kBlock 0 (kSeq (fun s => Rf31_j12003 (cutTo VG0131 (some [(6, .plain), (8, .plain)]) s)) (kFin VG0131 (some [(2, (.own 9)), (3, .plain), (4, .plain)]) (Try.f31).results.toList)))) = f31_n11110100 F (fun w => Rf31_l6020 (ef31_l6020 w)) (fun w => Rf31_j12003 (ef31_j12003 w)) v := by
  rintro ⟨t0, t6, t21, t22, x5⟩; kernel_rfl
def f31_n1111010_i : (List Int) × Int × Int × Int → (List Int) × Int × Int × Int × (List (List Int)) := fun (t0, t6, t21, t22) => (t0, t6, t21, t22, [])
def f31_n1111010 (F : Nat) (kf31_j12003 : Int × (List (List Int)) → Option (AV × List Blk)) : (List Int) × Int × Int × Int → Option (AV × List Blk) := fun v => loopN (fun k => f31_n11110100 F k kf31_j12003) F (f31_n1111010_i v)
theorem f31_n1111010_eq (F : Nat) (Rf31_j12003 : St → Option (AV × List Blk)) : ∀ v, aexec VG0131 (Af31 F) (sub (bodyOf Try.f31) [1, 1, 1, 1, 0, 1, 0]) (ef31_j6022 v) (kBlock 0 (kSeq (fun s => Rf31_j12003 (cutTo VG0131 (some [(6, .plain), (8, .plain)]) s)) (kFin VG0131 (some [(2, (.own 9)), (3, .plain), (4, .plain)]) (Try.f31).results.toList))) = f31_n1111010 F (fun w => Rf31_j12003 (ef31_j12003 w)) v :=
  loop_cut (c := (sub (bodyOf Try.f31) [1, 1, 1, 1, 0, 1, 0])) (d := (sub (bodyOf Try.f31) [1, 1, 1, 1, 0, 1, 0, 0])) (by kernel_rfl) (spec := [(0, .plain), (6, .plain), (8, .own 9), (21, .plain), (22, .plain)]) (by kernel_rfl) ef31_j6022 ef31_l6020 (kBlock 0 (kSeq (fun s => Rf31_j12003 (cutTo VG0131 (some [(6, .plain), (8, .plain)]) s)) (kFin VG0131 (some [(2, (.own 9)), (3, .plain), (4, .plain)]) (Try.f31).results.toList))) f31_n1111010_i (fun k => f31_n11110100 F k (fun w => Rf31_j12003 (ef31_j12003 w)))
    (by rintro ⟨t0, t6, t21, t22⟩; kernel_rfl) (fun Rf31_l6020 => f31_n11110100_eq F Rf31_l6020 Rf31_j12003)
def f31_n111101 (F : Nat) (kf31_j12003 : Int × (List (List Int)) → Option (AV × List Blk)) : (List Int) × Int × Int × Int → Option (AV × List Blk) := f31_n1111010 F kf31_j12003
theorem f31_n111101_eq (F : Nat) (Rf31_j12003 : St → Option (AV × List Blk)) : ∀ v, aexec VG0131 (Af31 F) (sub (bodyOf Try.f31) [1, 1, 1, 1, 0, 1]) (ef31_j6022 v) (kSeq (fun s => Rf31_j12003 (cutTo VG0131 (some [(6, .plain), (8, .plain)]) s)) (kFin VG0131 (some [(2, (.own 9)), (3, .plain), (4, .plain)]) (Try.f31).results.toList)) = f31_n111101 F (fun w => Rf31_j12003 (ef31_j12003 w)) v := fun v =>
  (block_in (c := (sub (bodyOf Try.f31) [1, 1, 1, 1, 0, 1])) (d := (sub (bodyOf Try.f31) [1, 1, 1, 1, 0, 1, 0])) (id := 0) (by kernel_rfl) _ _).trans (f31_n1111010_eq F Rf31_j12003 v)
def f31_n11110 (F : Nat) (kf31_j12003 : Int × (List (List Int)) → Option (AV × List Blk)) : (List Int) × Int × Int → Option (AV × List Blk) := fun v => f31_n111100 F (f31_n111101 F kf31_j12003) kf31_j12003 v
theorem f31_n11110_eq (F : Nat) (Rf31_j12003 : St → Option (AV × List Blk)) : ∀ v, aexec VG0131 (Af31 F) (sub (bodyOf Try.f31) [1, 1, 1, 1, 0]) (ef31_j5028 v) (kSeq (fun s => Rf31_j12003 (cutTo VG0131 (some [(6, .plain), (8, .plain)]) s)) (kFin VG0131 (some [(2, (.own 9)), (3, .plain), (4, .plain)]) (Try.f31).results.toList)) = f31_n11110 F (fun w => Rf31_j12003 (ef31_j12003 w)) v :=
  seq_cut (c := (sub (bodyOf Try.f31) [1, 1, 1, 1, 0])) (a := (sub (bodyOf Try.f31) [1, 1, 1, 1, 0, 0])) (b := (sub (bodyOf Try.f31) [1, 1, 1, 1, 0, 1])) (by kernel_rfl) (spec := [(0, .plain), (6, .plain), (8, .plain), (21, .plain), (22, .plain)]) (by kernel_rfl) ef31_j5028 ef31_j6022 (kSeq (fun s => Rf31_j12003 (cutTo VG0131 (some [(6, .plain), (8, .plain)]) s)) (kFin VG0131 (some [(2, (.own 9)), (3, .plain), (4, .plain)]) (Try.f31).results.toList)) (fun k => f31_n111100 F k (fun w => Rf31_j12003 (ef31_j12003 w))) (f31_n111101 F (fun w => Rf31_j12003 (ef31_j12003 w)))
    (fun Rf31_j6022 => f31_n111100_eq F Rf31_j6022 Rf31_j12003) (f31_n111101_eq F Rf31_j12003)
def f31_n11111 (F : Nat) : Int × (List (List Int)) → Option (AV × List Blk) := fun (t6, x2) => (some ((.tup (.cons 0 (.own 0 0 1) (.cons 0 (.int .i64 t6) (.cons 0 (.int .i64 (0 : Int)) .nil)))), [(.cells x2.length (.rS x2) true)]))
theorem f31_n11111_eq (F : Nat) : ∀ v, aexec VG0131 (Af31 F) (sub (bodyOf Try.f31) [1, 1, 1, 1, 1]) (ef31_j12003 v) (kFin VG0131 (some [(2, (.own 9)), (3, .plain), (4, .plain)]) (Try.f31).results.toList) = f31_n11111 F v := by
  rintro ⟨t6, x2⟩; kernel_rfl
def f31_n1111 (F : Nat) : (List Int) × Int × Int → Option (AV × List Blk) := fun v => f31_n11110 F (f31_n11111 F) v
theorem f31_n1111_eq (F : Nat) : ∀ v, aexec VG0131 (Af31 F) (sub (bodyOf Try.f31) [1, 1, 1, 1]) (ef31_j5028 v) (kFin VG0131 (some [(2, (.own 9)), (3, .plain), (4, .plain)]) (Try.f31).results.toList) = f31_n1111 F v :=
  seq_cut (c := (sub (bodyOf Try.f31) [1, 1, 1, 1])) (a := (sub (bodyOf Try.f31) [1, 1, 1, 1, 0])) (b := (sub (bodyOf Try.f31) [1, 1, 1, 1, 1])) (by kernel_rfl) (spec := [(6, .plain), (8, .plain)]) (by kernel_rfl) ef31_j5028 ef31_j12003 (kFin VG0131 (some [(2, (.own 9)), (3, .plain), (4, .plain)]) (Try.f31).results.toList) (fun k => f31_n11110 F k) (f31_n11111 F)
    (fun Rf31_j12003 => f31_n11110_eq F Rf31_j12003) (f31_n11111_eq F)
def f31_n111 (F : Nat) : (List Int) × Int × Int → Option (AV × List Blk) := fun v => f31_n1110 F (f31_n1111 F) v
theorem f31_n111_eq (F : Nat) : ∀ v, aexec VG0131 (Af31 F) (sub (bodyOf Try.f31) [1, 1, 1]) (ef31_j4030 v) (kFin VG0131 (some [(2, (.own 9)), (3, .plain), (4, .plain)]) (Try.f31).results.toList) = f31_n111 F v :=
  seq_cut (c := (sub (bodyOf Try.f31) [1, 1, 1])) (a := (sub (bodyOf Try.f31) [1, 1, 1, 0])) (b := (sub (bodyOf Try.f31) [1, 1, 1, 1])) (by kernel_rfl) (spec := [(0, .plain), (5, .plain), (6, .plain), (8, .plain)]) (by kernel_rfl) ef31_j4030 ef31_j5028 (kFin VG0131 (some [(2, (.own 9)), (3, .plain), (4, .plain)]) (Try.f31).results.toList) (fun k => f31_n1110 F k) (f31_n1111 F)
    (fun Rf31_j5028 => f31_n1110_eq F Rf31_j5028) (f31_n1111_eq F)
def f31_n11 (F : Nat) : (List Int) × Int × Int × Int → Option (AV × List Blk) := fun v => f31_n110 F (f31_n111 F) v
theorem f31_n11_eq (F : Nat) : ∀ v, aexec VG0131 (Af31 F) (sub (bodyOf Try.f31) [1, 1]) (ef31_j2038 v) (kFin VG0131 (some [(2, (.own 9)), (3, .plain), (4, .plain)]) (Try.f31).results.toList) = f31_n11 F v :=
  seq_cut (c := (sub (bodyOf Try.f31) [1, 1])) (a := (sub (bodyOf Try.f31) [1, 1, 0])) (b := (sub (bodyOf Try.f31) [1, 1, 1])) (by kernel_rfl) (spec := [(0, .plain), (5, .plain), (6, .plain)]) (by kernel_rfl) ef31_j2038 ef31_j4030 (kFin VG0131 (some [(2, (.own 9)), (3, .plain), (4, .plain)]) (Try.f31).results.toList) (fun k => f31_n110 F k) (f31_n111 F)
    (fun Rf31_j4030 => f31_n110_eq F Rf31_j4030) (f31_n111_eq F)
def f31_n1 (F : Nat) : (List Int) → Option (AV × List Blk) := fun v => f31_n10 F (f31_n11 F) v
theorem f31_n1_eq (F : Nat) : ∀ v, aexec VG0131 (Af31 F) (sub (bodyOf Try.f31) [1]) (ef31_j1040 v) (kFin VG0131 (some [(2, (.own 9)), (3, .plain), (4, .plain)]) (Try.f31).results.toList) = f31_n1 F v :=
  seq_cut (c := (sub (bodyOf Try.f31) [1])) (a := (sub (bodyOf Try.f31) [1, 0])) (b := (sub (bodyOf Try.f31) [1, 1])) (by kernel_rfl) (spec := [(0, .plain), (5, .plain), (6, .plain), (7, .plain)]) (by kernel_rfl) ef31_j1040 ef31_j2038 (kFin VG0131 (some [(2, (.own 9)), (3, .plain), (4, .plain)]) (Try.f31).results.toList) (fun k => f31_n10 F k) (f31_n11 F)
    (fun Rf31_j2038 => f31_n10_eq F Rf31_j2038) (f31_n11_eq F)
def f31_nt (F : Nat) : (List Int) → Option (AV × List Blk) := fun v => f31_n0 F (f31_n1 F) v
theorem f31_nt_eq (F : Nat) : ∀ v, aexec VG0131 (Af31 F) (sub (bodyOf Try.f31) []) (ef31_a v) (kFin VG0131 (some [(2, (.own 9)), (3, .plain), (4, .plain)]) (Try.f31).results.toList) = f31_nt F v :=
  seq_cut (c := (sub (bodyOf Try.f31) [])) (a := (sub (bodyOf Try.f31) [0])) (b := (sub (bodyOf Try.f31) [1])) (by kernel_rfl) (spec := [(0, .plain)]) (by kernel_rfl) ef31_a ef31_j1040 (kFin VG0131 (some [(2, (.own 9)), (3, .plain), (4, .plain)]) (Try.f31).results.toList) (fun k => f31_n0 F k) (f31_n1 F)
    (fun Rf31_j1040 => f31_n0_eq F Rf31_j1040) (f31_n1_eq F)
/-- gantry/wire.GetStrings -/
def f31 (F : Nat) : (List Int) → Option (AV × List Blk) := f31_nt F
theorem f31_body (F : Nat) (a0 : List Int) : abody VG0131 (Af31 F) Try.f31 [(.vs (.rI .u8 a0) 0 1)] [] = f31 F a0 :=
  (abody_in (c := (sub (bodyOf Try.f31) [])) (by kernel_rfl) (s := ef31_a a0) (by kernel_rfl)).trans (f31_nt_eq F a0)
def r31 : CRun := fun X H => match X, H with
  | [(.vs (.rI .u8 a0) 0 1)], [] => some ((decide (a0.length < 1073741000)), (.tup (.cons 0 (.own 0 0 1) (.cons 0 (.int .i64 (Wire.getStrs a0).2.1) (.cons 0 (.int .i64 (Wire.getStrs a0).2.2) .nil)))), [(.cells (Wire.getStrs a0).1.length (.rS (Wire.getStrs a0).1) true)])
  | _, _ => none
theorem s31 (a0 : List Int) (hp : ((decide (a0.length < 1073741000))) = true) (h0 : okV (.vs (.rI .u8 a0) 0 1)) : ∃ F, f31 F a0 = some ((.tup (.cons 0 (.own 0 0 1) (.cons 0 (.int .i64 (Wire.getStrs a0).2.1) (.cons 0 (.int .i64 (Wire.getStrs a0).2.2) .nil)))), [(.cells (Wire.getStrs a0).1.length (.rS (Wire.getStrs a0).1) true)]) := by
  have hb := Wire.okB_of h0.1
  have hl : a0.length < 1073741000 := of_decide_eq_true hp
  refine ⟨a0.length + 1, ?_⟩
  simp only [f31, f31_nt, f31_n0, f31_n1, f31_n10, f31_n11, f31_n110, f31_n111, f31_n1110, f31_n1111, f31_n11110, f31_n111100, f31_n111101, f31_n1111010, f31_n1111010_i, int_bne]
  rw [cond_pos (by omega)]
  unfold Wire.getStrs
  by_cases c : (Wire.count a0 1).2.2 = 0
  · obtain ⟨g1, g2, g3, g4, g5, g6, g7⟩ := Wire.count_ok hb (by omega) c
    rw [cond_neg (by omega), if_pos c, g2, g3]
    generalize (Wire.getInt a0).1 = n at *
    generalize (Wire.getInt a0).2.1 = at0 at *
    generalize hR : Wire.strsN a0 n.toNat at0 [] = R
    refine loopN_ind (fun m s => s.1 = a0 ∧ s.2.2.1 = n ∧ s.2.2.2.1 = ((n.toNat - m : Nat) : Int) ∧ 0 ≤ s.2.1 ∧ s.2.1 ≤ (a0.length : Int) ∧ ((s.2.2.2.2.length : Nat) : Int) ≤ s.2.1 ∧ m ≤ n.toNat ∧ Wire.strsN a0 m s.2.1 s.2.2.2.2 = R) ?_ _ n.toNat _ (by omega) ⟨rfl, rfl, by simp, by simp only []; omega, by simp only []; omega, by simp only [List.length_nil]; omega, Nat.le_refl _, hR⟩
    rintro m ⟨b, at', n', i, acc⟩ k ⟨e1, e2, e3, e5, e6, e7, hm, e8⟩ hk
    simp only at e1 e2 e3 e5 e6 e7 e8
    subst e1; subst e2; subst e3
    simp only [f31_n11110100, dec_and, int_bne, Wire.drop_all]
    cases m with
    | zero =>
      rw [cond_neg (by omega)]
      simp only [Wire.strsN] at e8
      subst e8
      rfl
    | succ m =>
      have hr := Wire.getBytes_rng (Wire.okBytes_drop hb at'.toNat)
      rw [List.length_drop] at hr
      simp only [Wire.strsN] at e8
      rw [cond_pos (by omega), cond_pos (by omega)]
      by_cases ce : (Wire.getBytes (b.drop at'.toNat)).2.2 = 0
      · rw [if_pos ce] at e8
        have h1 := hr.2.2 ce
        rw [cond_neg (fun e => e ce), cond_pos (by omega), i64w (x := at' + _) (by omega) (by omega), i64w (by omega) (by omega)]
        refine hk m _ (by omega) ⟨rfl, rfl, by simp only []; omega, ?_, ?_, ?_, by omega, e8⟩ <;> simp only [List.length_append, List.length_singleton] <;> omega
      · rw [if_neg ce] at e8
        rw [cond_pos ce, ← e8]
        rfl
  · rw [cond_pos c, if_neg c]; rfl

theorem c31 : CallOk Try.prog G01 31 r31 := callOk_of (V := VG0131) mixed tys eVG0131 (f := 31) (fn := Try.f31) Try.func31 (by kernel_rfl) (c := sub (bodyOf Try.f31) []) (by kernel_rfl) (by
  intro X H r H' h hX hH
  unfold r31 at h; split at h <;> try contradiction
  simp only [Option.some.injEq, Prod.mk.injEq] at h
  obtain ⟨hp, rfl, rfl⟩ := h
  obtain ⟨F, hF⟩ := s31 _ hp (hX _ (.head _))
  exact ⟨Af31 F, (f31_body F _).trans hF⟩)
/-! gantry/gantryref01.GetStrings -/
def lVG0132 : List CEnt := [(27, [some 5], r27), (39, [some 5, none], r39)]
def VG0132 : Env := mkEnv T01 G01 lVG0132
theorem eVG0132 : EOk Try.prog VG0132 := eok_mk (by exact ⟨c27, c39, trivial⟩)
def Af32 (F : Nat) : Cuts := { F := F, at_ := fun n => match n with | 6022 => some [(0, .plain), (5, .plain), (6, .plain), (8, .own 9), (9, .plain)] | _ => none, join := fun n => match n with | 1042 => some [(0, .plain)] | 2040 => some [(0, .plain), (5, .plain), (6, .plain), (7, .plain)] | 4032 => some [(0, .plain), (5, .plain), (6, .plain)] | 5030 => some [(0, .plain), (5, .plain), (6, .plain), (8, .plain)] | 6024 => some [(0, .plain), (5, .plain), (6, .plain), (8, .plain), (9, .plain)] | 13003 => some [(6, .plain), (8, .plain)] | _ => none, fin := (some [(2, (.own 9)), (3, .plain), (4, .plain)]) }
def ef32_a : (List Int) → St := fun a0 => { tmps := [(0, (.vs (.rI .u8 a0) 0 1))], heap := [], next := 0, nt := 47, m := 0 }
def ef32_j1042 : (List Int) → St := fun t0 => { tmps := [(0, (.vs (.rI .u8 t0) 0 1))], heap := [], next := 0, nt := 47, m := 0 }
def ef32_j2040 : (List Int) × Int × Int × Int → St := fun (t0, t5, t6, t7) => { tmps := [(0, (.vs (.rI .u8 t0) 0 1)), (5, (.int .i64 t5)), (6, (.int .i64 t6)), (7, (.int .i64 t7))], heap := [], next := 0, nt := 47, m := 0 }
def ef32_j4032 : (List Int) × Int × Int → St := fun (t0, t5, t6) => { tmps := [(0, (.vs (.rI .u8 t0) 0 1)), (5, (.int .i64 t5)), (6, (.int .i64 t6))], heap := [], next := 0, nt := 47, m := 0 }
def ef32_j5030 : (List Int) × Int × Int → St := fun (t0, t5, t6) => { tmps := [(0, (.vs (.rI .u8 t0) 0 1)), (5, (.int .i64 t5)), (6, (.int .i64 t6)), (8, .ns)], heap := [], next := 0, nt := 47, m := 0 }
def ef32_j6024 : (List Int) × Int × Int × Int → St := fun (t0, t5, t6, t9) => { tmps := [(0, (.vs (.rI .u8 t0) 0 1)), (5, (.int .i64 t5)), (6, (.int .i64 t6)), (8, .ns), (9, (.int .i64 t9))], heap := [], next := 0, nt := 47, m := 0 }
def ef32_l6022 : (List Int) × Int × Int × Int × (List (List Int)) → St := fun (t0, t5, t6, t9, x5) => { tmps := [(0, (.vs (.rI .u8 t0) 0 1)), (5, (.int .i64 t5)), (6, (.int .i64 t6)), (8, (.own 0 0 1)), (9, (.int .i64 t9))], heap := [(0, (.cells x5.length (.rS x5) true))], next := 1, nt := 47, m := 0 }
def ef32_j13003 : Int × (List (List Int)) → St := fun (t6, x2) => { tmps := [(6, (.int .i64 t6)), (8, (.own 0 0 1))], heap := [(0, (.cells x2.length (.rS x2) true))], next := 1, nt := 47, m := 0 }
def f32_n0 (F : Nat) (kf32_j1042 : (List Int) → Option (AV × List Blk)) : (List Int) → Option (AV × List Blk) := fun a0 => (kf32_j1042 a0)
theorem f32_n0_eq (F : Nat) (Rf32_j1042 : St → Option (AV × List Blk)) : ∀ v, aexec VG0132 (Af32 F) (sub (bodyOf Try.f32) [0]) (ef32_a v) (kSeq (fun s => Rf32_j1042 (cutTo VG0132 (some [(0, .plain)]) s)) (kFin VG0132 (some [(2, (.own 9)), (3, .plain), (4, .plain)]) (Try.f32).results.toList)) = f32_n0 F (fun w => Rf32_j1042 (ef32_j1042 w)) v := by
  intro a0; kernel_rfl
def f32_n10 (F : Nat) (kf32_j2040 : (List Int) × Int × Int × Int → Option (AV × List Blk)) : (List Int) → Option (AV × List Blk) := fun t0 => (cond (((decide (0 < (1 : Int))) && (decide ((1 : Int) ≤ 16))) && (decide (t0.length < 1073741000))) (kf32_j2040 (t0, (Wire.rcount t0 (1 : Int)).1, (Wire.rcount t0 (1 : Int)).2.1, (Wire.rcount t0 (1 : Int)).2.2)) none)
theorem f32_n10_eq (F : Nat) (Rf32_j2040 : St → Option (AV × List Blk)) : ∀ v, aexec VG0132 (Af32 F) (sub (bodyOf Try.f32) [1, 0]) (ef32_j1042 v) (kSeq (fun s => Rf32_j2040 (cutTo VG0132 (some [(0, .plain), (5, .plain), (6, .plain), (7, .plain)]) s)) (kFin VG0132 (some [(2, (.own 9)), (3, .plain), (4, .plain)]) (Try.f32).results.toList)) = f32_n10 F (fun w => Rf32_j2040 (ef32_j2040 w)) v := by
  intro t0; kernel_rfl
def f32_n110 (F : Nat) (kf32_j4032 : (List Int) × Int × Int → Option (AV × List Blk)) : (List Int) × Int × Int × Int → Option (AV × List Blk) := fun (t0, t5, t6, t7) => (cond (t7 != (0 : Int)) (some ((.tup (.cons 0 (.own 0 0 1) (.cons 0 (.int .i64 (0 : Int)) (.cons 0 (.int .i64 t7) .nil)))), [(.cells 0 (.rS []) true)])) (kf32_j4032 (t0, t5, t6)))
theorem f32_n110_eq (F : Nat) (Rf32_j4032 : St → Option (AV × List Blk)) : ∀ v, aexec VG0132 (Af32 F) (sub (bodyOf Try.f32) [1, 1, 0]) (ef32_j2040 v) (kSeq (fun s => Rf32_j4032 (cutTo VG0132 (some [(0, .plain), (5, .plain), (6, .plain)]) s)) (kFin VG0132 (some [(2, (.own 9)), (3, .plain), (4, .plain)]) (Try.f32).results.toList)) = f32_n110 F (fun w => Rf32_j4032 (ef32_j4032 w)) v := by
  rintro ⟨t0, t5, t6, t7⟩; kernel_rfl
def f32_n1110 (F : Nat) (kf32_j5030 : (List Int) × Int × Int → Option (AV × List Blk)) : (List Int) × Int × Int → Option (AV × List Blk) := fun (t0, t5, t6) => (kf32_j5030 (t0, t5, t6))
theorem f32_n1110_eq (F : Nat) (Rf32_j5030 : St → Option (AV × List Blk)) : ∀ v, aexec VG0132 (Af32 F) (sub (bodyOf Try.f32) [1, 1, 1, 0]) (ef32_j4032 v) (kSeq (fun s => Rf32_j5030 (cutTo VG0132 (some [(0, .plain), (5, .plain), (6, .plain), (8, .plain)]) s)) (kFin VG0132 (some [(2, (.own 9)), (3, .plain), (4, .plain)]) (Try.f32).results.toList)) = f32_n1110 F (fun w => Rf32_j5030 (ef32_j5030 w)) v := by
  rintro ⟨t0, t5, t6⟩; kernel_rfl
def f32_n111100 (F : Nat) (kf32_j6024 : (List Int) × Int × Int × Int → Option (AV × List Blk)) (kf32_j13003 : Int × (List (List Int)) → Option (AV × List Blk)) : (List Int) × Int × Int → Option (AV × List Blk) := fun (t0, t5, t6) => (kf32_j6024 (t0, t5, t6, (0 : Int)))
theorem f32_n111100_eq (F : Nat) (Rf32_j6024 : St → Option (AV × List Blk)) (Rf32_j13003 : St → Option (AV × List Blk)) : ∀ v, aexec VG0132 (Af32 F) (sub (bodyOf Try.f32) [1, 1, 1, 1, 0, 0]) (ef32_j5030 v) (kSeq (fun s => Rf32_j6024 (cutTo VG0132 (some [(0, .plain), (5, .plain), (6, .plain), (8, .plain), (9, .plain)]) s)) (kSeq (fun s => Rf32_j13003 (cutTo VG0132 (some [(6, .plain), (8, .plain)]) s)) (kFin VG0132 (some [(2, (.own 9)), (3, .plain), (4, .plain)]) (Try.f32).results.toList))) = f32_n111100 F (fun w => Rf32_j6024 (ef32_j6024 w)) (fun w => Rf32_j13003 (ef32_j13003 w)) v := by
  rintro ⟨t0, t5, t6⟩; kernel_rfl
def f32_n11110100 (F : Nat) (kf32_l6022 : (List Int) × Int × Int × Int × (List (List Int)) → Option (AV × List Blk)) (kf32_j13003 : Int × (List (List Int)) → Option (AV × List Blk)) : (List Int) × Int × Int × Int × (List (List Int)) → Option (AV × List Blk) := fun (t0, t5, t6, t9, x5) => (cond (decide (t9 < t5)) (cond (((decide (0 ≤ t6)) && (decide (t6 ≤ (↑t0.length : Int)))) && (decide ((↑t0.length : Int) ≤ (↑t0.length : Int)))) (cond (decide (((t0.drop (Int.toNat t6)).take (t0.length - (Int.toNat t6))).length < 1073741000)) (cond ((Wire.getBytes ((t0.drop (Int.toNat t6)).take (t0.length - (Int.toNat t6)))).2.2 != (0 : Int)) (some ((.tup (.cons 0 (.own 0 0 1) (.cons 0 (.int .i64 (0 : Int)) (.cons 0 (.int .i64 (Wire.getBytes ((t0.drop (Int.toNat t6)).take (t0.length - (Int.toNat t6)))).2.2) .nil)))), [(.cells 0 (.rS []) true)])) (cond (decide ((x5.length + 1) < 1073741824)) (kf32_l6022 (t0, t5, (IntKind.i64.wrap (t6 + (Wire.getBytes ((t0.drop (Int.toNat t6)).take (t0.length - (Int.toNat t6)))).2.1)), (IntKind.i64.wrap (t9 + (1 : Int))), (x5 ++ [(Wire.getBytes ((t0.drop (Int.toNat t6)).take (t0.length - (Int.toNat t6)))).1]))) none)) none) none) (kf32_j13003 (t6, x5)))
theorem f32_n11110100_eq (F : Nat) (Rf32_l6022 : St → Option (AV × List Blk)) (Rf32_j13003 : St → Option (AV × List Blk)) : ∀ v, aexec VG0132 (Af32 F) (sub (bodyOf Try.f32) [1, 1, 1, 1, 0, 1, 0, 0]) (ef32_l6022 v) (kSeq (fun s => Rf32_l6022 (cutTo VG0132 (some [(0, .plain), (5, .plain), (6, .plain), (8, .own 9), (9, .plain)]) s)) (kBlock 0 (kSeq (fun s => Rf32_j13003 (cutTo VG0132 (some [(6, .plain), (8, .plain)]) s)) (kFin VG0132 (some [(2, (.own 9)), (3, .plain), (4, .plain)]) (Try.f32).results.toList)))) = f32_n11110100 F (fun w => Rf32_l6022 (ef32_l6022 w)) (fun w => Rf32_j13003 (ef32_j13003 w)) v := by
  rintro ⟨t0, t5, t6, t9, x5⟩; kernel_rfl
def f32_n1111010_i : (List Int) × Int × Int × Int → (List Int) × Int × Int × Int × (List (List Int)) := fun (t0, t5, t6, t9) => (t0, t5, t6, t9, [])
def f32_n1111010 (F : Nat) (kf32_j13003 : Int × (List (List Int)) → Option (AV × List Blk)) : (List Int) × Int × Int × Int → Option (AV × List Blk) := fun v => loopN (fun k => f32_n11110100 F k kf32_j13003) F (f32_n1111010_i v)
theorem f32_n1111010_eq (F : Nat) (Rf32_j13003 : St → Option (AV × List Blk)) : ∀ v, aexec VG0132 (Af32 F) (sub (bodyOf Try.f32) [1, 1, 1, 1, 0, 1, 0]) (ef32_j6024 v) (kBlock 0 (kSeq (fun s => Rf32_j13003 (cutTo VG0132 (some [(6, .plain), (8, .plain)]) s)) (kFin VG0132 (some [(2, (.own 9)), (3, .plain), (4, .plain)]) (Try.f32).results.toList))) = f32_n1111010 F (fun w => Rf32_j13003 (ef32_j13003 w)) v :=
  loop_cut (c := (sub (bodyOf Try.f32) [1, 1, 1, 1, 0, 1, 0])) (d := (sub (bodyOf Try.f32) [1, 1, 1, 1, 0, 1, 0, 0])) (by kernel_rfl) (spec := [(0, .plain), (5, .plain), (6, .plain), (8, .own 9), (9, .plain)]) (by kernel_rfl) ef32_j6024 ef32_l6022 (kBlock 0 (kSeq (fun s => Rf32_j13003 (cutTo VG0132 (some [(6, .plain), (8, .plain)]) s)) (kFin VG0132 (some [(2, (.own 9)), (3, .plain), (4, .plain)]) (Try.f32).results.toList))) f32_n1111010_i (fun k => f32_n11110100 F k (fun w => Rf32_j13003 (ef32_j13003 w)))
    (by rintro ⟨t0, t5, t6, t9⟩; kernel_rfl) (fun Rf32_l6022 => f32_n11110100_eq F Rf32_l6022 Rf32_j13003)
def f32_n111101 (F : Nat) (kf32_j13003 : Int × (List (List Int)) → Option (AV × List Blk)) : (List Int) × Int × Int × Int → Option (AV × List Blk) := f32_n1111010 F kf32_j13003
theorem f32_n111101_eq (F : Nat) (Rf32_j13003 : St → Option (AV × List Blk)) : ∀ v, aexec VG0132 (Af32 F) (sub (bodyOf Try.f32) [1, 1, 1, 1, 0, 1]) (ef32_j6024 v) (kSeq (fun s => Rf32_j13003 (cutTo VG0132 (some [(6, .plain), (8, .plain)]) s)) (kFin VG0132 (some [(2, (.own 9)), (3, .plain), (4, .plain)]) (Try.f32).results.toList)) = f32_n111101 F (fun w => Rf32_j13003 (ef32_j13003 w)) v := fun v =>
  (block_in (c := (sub (bodyOf Try.f32) [1, 1, 1, 1, 0, 1])) (d := (sub (bodyOf Try.f32) [1, 1, 1, 1, 0, 1, 0])) (id := 0) (by kernel_rfl) _ _).trans (f32_n1111010_eq F Rf32_j13003 v)
def f32_n11110 (F : Nat) (kf32_j13003 : Int × (List (List Int)) → Option (AV × List Blk)) : (List Int) × Int × Int → Option (AV × List Blk) := fun v => f32_n111100 F (f32_n111101 F kf32_j13003) kf32_j13003 v
theorem f32_n11110_eq (F : Nat) (Rf32_j13003 : St → Option (AV × List Blk)) : ∀ v, aexec VG0132 (Af32 F) (sub (bodyOf Try.f32) [1, 1, 1, 1, 0]) (ef32_j5030 v) (kSeq (fun s => Rf32_j13003 (cutTo VG0132 (some [(6, .plain), (8, .plain)]) s)) (kFin VG0132 (some [(2, (.own 9)), (3, .plain), (4, .plain)]) (Try.f32).results.toList)) = f32_n11110 F (fun w => Rf32_j13003 (ef32_j13003 w)) v :=
  seq_cut (c := (sub (bodyOf Try.f32) [1, 1, 1, 1, 0])) (a := (sub (bodyOf Try.f32) [1, 1, 1, 1, 0, 0])) (b := (sub (bodyOf Try.f32) [1, 1, 1, 1, 0, 1])) (by kernel_rfl) (spec := [(0, .plain), (5, .plain), (6, .plain), (8, .plain), (9, .plain)]) (by kernel_rfl) ef32_j5030 ef32_j6024 (kSeq (fun s => Rf32_j13003 (cutTo VG0132 (some [(6, .plain), (8, .plain)]) s)) (kFin VG0132 (some [(2, (.own 9)), (3, .plain), (4, .plain)]) (Try.f32).results.toList)) (fun k => f32_n111100 F k (fun w => Rf32_j13003 (ef32_j13003 w))) (f32_n111101 F (fun w => Rf32_j13003 (ef32_j13003 w)))
    (fun Rf32_j6024 => f32_n111100_eq F Rf32_j6024 Rf32_j13003) (f32_n111101_eq F Rf32_j13003)
def f32_n11111 (F : Nat) : Int × (List (List Int)) → Option (AV × List Blk) := fun (t6, x2) => (some ((.tup (.cons 0 (.own 0 0 1) (.cons 0 (.int .i64 t6) (.cons 0 (.int .i64 (0 : Int)) .nil)))), [(.cells x2.length (.rS x2) true)]))
theorem f32_n11111_eq (F : Nat) : ∀ v, aexec VG0132 (Af32 F) (sub (bodyOf Try.f32) [1, 1, 1, 1, 1]) (ef32_j13003 v) (kFin VG0132 (some [(2, (.own 9)), (3, .plain), (4, .plain)]) (Try.f32).results.toList) = f32_n11111 F v := by
  rintro ⟨t6, x2⟩; kernel_rfl
def f32_n1111 (F : Nat) : (List Int) × Int × Int → Option (AV × List Blk) := fun v => f32_n11110 F (f32_n11111 F) v
theorem f32_n1111_eq (F : Nat) : ∀ v, aexec VG0132 (Af32 F) (sub (bodyOf Try.f32) [1, 1, 1, 1]) (ef32_j5030 v) (kFin VG0132 (some [(2, (.own 9)), (3, .plain), (4, .plain)]) (Try.f32).results.toList) = f32_n1111 F v :=
  seq_cut (c := (sub (bodyOf Try.f32) [1, 1, 1, 1])) (a := (sub (bodyOf Try.f32) [1, 1, 1, 1, 0])) (b := (sub (bodyOf Try.f32) [1, 1, 1, 1, 1])) (by kernel_rfl) (spec := [(6, .plain), (8, .plain)]) (by kernel_rfl) ef32_j5030 ef32_j13003 (kFin VG0132 (some [(2, (.own 9)), (3, .plain), (4, .plain)]) (Try.f32).results.toList) (fun k => f32_n11110 F k) (f32_n11111 F)
    (fun Rf32_j13003 => f32_n11110_eq F Rf32_j13003) (f32_n11111_eq F)
def f32_n111 (F : Nat) : (List Int) × Int × Int → Option (AV × List Blk) := fun v => f32_n1110 F (f32_n1111 F) v
theorem f32_n111_eq (F : Nat) : ∀ v, aexec VG0132 (Af32 F) (sub (bodyOf Try.f32) [1, 1, 1]) (ef32_j4032 v) (kFin VG0132 (some [(2, (.own 9)), (3, .plain), (4, .plain)]) (Try.f32).results.toList) = f32_n111 F v :=
  seq_cut (c := (sub (bodyOf Try.f32) [1, 1, 1])) (a := (sub (bodyOf Try.f32) [1, 1, 1, 0])) (b := (sub (bodyOf Try.f32) [1, 1, 1, 1])) (by kernel_rfl) (spec := [(0, .plain), (5, .plain), (6, .plain), (8, .plain)]) (by kernel_rfl) ef32_j4032 ef32_j5030 (kFin VG0132 (some [(2, (.own 9)), (3, .plain), (4, .plain)]) (Try.f32).results.toList) (fun k => f32_n1110 F k) (f32_n1111 F)
    (fun Rf32_j5030 => f32_n1110_eq F Rf32_j5030) (f32_n1111_eq F)
def f32_n11 (F : Nat) : (List Int) × Int × Int × Int → Option (AV × List Blk) := fun v => f32_n110 F (f32_n111 F) v
theorem f32_n11_eq (F : Nat) : ∀ v, aexec VG0132 (Af32 F) (sub (bodyOf Try.f32) [1, 1]) (ef32_j2040 v) (kFin VG0132 (some [(2, (.own 9)), (3, .plain), (4, .plain)]) (Try.f32).results.toList) = f32_n11 F v :=
  seq_cut (c := (sub (bodyOf Try.f32) [1, 1])) (a := (sub (bodyOf Try.f32) [1, 1, 0])) (b := (sub (bodyOf Try.f32) [1, 1, 1])) (by kernel_rfl) (spec := [(0, .plain), (5, .plain), (6, .plain)]) (by kernel_rfl) ef32_j2040 ef32_j4032 (kFin VG0132 (some [(2, (.own 9)), (3, .plain), (4, .plain)]) (Try.f32).results.toList) (fun k => f32_n110 F k) (f32_n111 F)
    (fun Rf32_j4032 => f32_n110_eq F Rf32_j4032) (f32_n111_eq F)
def f32_n1 (F : Nat) : (List Int) → Option (AV × List Blk) := fun v => f32_n10 F (f32_n11 F) v
theorem f32_n1_eq (F : Nat) : ∀ v, aexec VG0132 (Af32 F) (sub (bodyOf Try.f32) [1]) (ef32_j1042 v) (kFin VG0132 (some [(2, (.own 9)), (3, .plain), (4, .plain)]) (Try.f32).results.toList) = f32_n1 F v :=
  seq_cut (c := (sub (bodyOf Try.f32) [1])) (a := (sub (bodyOf Try.f32) [1, 0])) (b := (sub (bodyOf Try.f32) [1, 1])) (by kernel_rfl) (spec := [(0, .plain), (5, .plain), (6, .plain), (7, .plain)]) (by kernel_rfl) ef32_j1042 ef32_j2040 (kFin VG0132 (some [(2, (.own 9)), (3, .plain), (4, .plain)]) (Try.f32).results.toList) (fun k => f32_n10 F k) (f32_n11 F)
    (fun Rf32_j2040 => f32_n10_eq F Rf32_j2040) (f32_n11_eq F)
def f32_nt (F : Nat) : (List Int) → Option (AV × List Blk) := fun v => f32_n0 F (f32_n1 F) v
theorem f32_nt_eq (F : Nat) : ∀ v, aexec VG0132 (Af32 F) (sub (bodyOf Try.f32) []) (ef32_a v) (kFin VG0132 (some [(2, (.own 9)), (3, .plain), (4, .plain)]) (Try.f32).results.toList) = f32_nt F v :=
  seq_cut (c := (sub (bodyOf Try.f32) [])) (a := (sub (bodyOf Try.f32) [0])) (b := (sub (bodyOf Try.f32) [1])) (by kernel_rfl) (spec := [(0, .plain)]) (by kernel_rfl) ef32_a ef32_j1042 (kFin VG0132 (some [(2, (.own 9)), (3, .plain), (4, .plain)]) (Try.f32).results.toList) (fun k => f32_n0 F k) (f32_n1 F)
    (fun Rf32_j1042 => f32_n0_eq F Rf32_j1042) (f32_n1_eq F)
/-- gantry/gantryref01.GetStrings -/
def f32 (F : Nat) : (List Int) → Option (AV × List Blk) := f32_nt F
theorem f32_body (F : Nat) (a0 : List Int) : abody VG0132 (Af32 F) Try.f32 [(.vs (.rI .u8 a0) 0 1)] [] = f32 F a0 :=
  (abody_in (c := (sub (bodyOf Try.f32) [])) (by kernel_rfl) (s := ef32_a a0) (by kernel_rfl)).trans (f32_nt_eq F a0)
def r32 : CRun := fun X H => match X, H with
  | [(.vs (.rI .u8 a0) 0 1)], [] => some ((decide (a0.length < 1073741000)), (.tup (.cons 0 (.own 0 0 1) (.cons 0 (.int .i64 (Wire.getStrs a0).2.1) (.cons 0 (.int .i64 (Wire.getStrs a0).2.2) .nil)))), [(.cells (Wire.getStrs a0).1.length (.rS (Wire.getStrs a0).1) true)])
  | _, _ => none
theorem s32 (a0 : List Int) (hp : ((decide (a0.length < 1073741000))) = true) (h0 : okV (.vs (.rI .u8 a0) 0 1)) : ∃ F, f32 F a0 = some ((.tup (.cons 0 (.own 0 0 1) (.cons 0 (.int .i64 (Wire.getStrs a0).2.1) (.cons 0 (.int .i64 (Wire.getStrs a0).2.2) .nil)))), [(.cells (Wire.getStrs a0).1.length (.rS (Wire.getStrs a0).1) true)]) := by
  have hb := Wire.okB_of h0.1
  have hl : a0.length < 1073741000 := of_decide_eq_true hp
  refine ⟨a0.length + 1, ?_⟩
  simp only [f32, f32_nt, f32_n0, f32_n1, f32_n10, f32_n11, f32_n110, f32_n111, f32_n1110, f32_n1111, f32_n11110, f32_n111100, f32_n111101, f32_n1111010, f32_n1111010_i, int_bne, dec_and, Wire.rcount_err]
  rw [cond_pos (by omega)]
  unfold Wire.getStrs
  by_cases c : (Wire.count a0 1).2.2 = 0
  · obtain ⟨g1, g2, g3, g4, g5, g6, g7⟩ := Wire.count_ok hb (by omega) c
    rw [cond_neg (by omega), if_pos c, Wire.rcount_ok c, g2, g3]
    generalize (Wire.getInt a0).1 = n at *
    generalize (Wire.getInt a0).2.1 = at0 at *
    generalize hR : Wire.strsN a0 n.toNat at0 [] = R
    refine loopN_ind (fun m s => s.1 = a0 ∧ s.2.1 = n ∧ s.2.2.2.1 = ((n.toNat - m : Nat) : Int) ∧ 0 ≤ s.2.2.1 ∧ s.2.2.1 ≤ (a0.length : Int) ∧ ((s.2.2.2.2.length : Nat) : Int) ≤ s.2.2.1 ∧ m ≤ n.toNat ∧ Wire.strsN a0 m s.2.2.1 s.2.2.2.2 = R) ?_ _ n.toNat _ (by omega) ⟨rfl, rfl, by simp, by simp only []; omega, by simp only []; omega, by simp only [List.length_nil]; omega, Nat.le_refl _, hR⟩
    rintro m ⟨b, n', at', i, acc⟩ k ⟨e1, e2, e3, e5, e6, e7, hm, e8⟩ hk
    simp only at e1 e2 e3 e5 e6 e7 e8
    subst e1; subst e2; subst e3
    simp only [f32_n11110100, dec_and, int_bne, Wire.drop_all]
    cases m with
    | zero =>
      rw [cond_neg (by omega)]
      simp only [Wire.strsN] at e8
      subst e8
      rfl
    | succ m =>
      have hr := Wire.getBytes_rng (Wire.okBytes_drop hb at'.toNat)
      rw [List.length_drop] at hr
      simp only [Wire.strsN] at e8
      rw [cond_pos (by omega), cond_pos (by omega), cond_pos (by rw [List.length_drop]; omega)]
      by_cases ce : (Wire.getBytes (b.drop at'.toNat)).2.2 = 0
      · rw [if_pos ce] at e8
        have h1 := hr.2.2 ce
        rw [cond_neg (fun e => e ce), cond_pos (by omega), i64w (x := at' + _) (by omega) (by omega), i64w (by omega) (by omega)]
        refine hk m _ (by omega) ⟨rfl, rfl, by simp only []; omega, ?_, ?_, ?_, by omega, e8⟩ <;> simp only [List.length_append, List.length_singleton] <;> omega
      · rw [if_neg ce] at e8
        rw [cond_pos ce, ← e8]
        rfl
  · rw [cond_pos c, if_neg c]; rfl

theorem c32 : CallOk Try.prog G01 32 r32 := callOk_of (V := VG0132) mixed tys eVG0132 (f := 32) (fn := Try.f32) Try.func32 (by kernel_rfl) (c := sub (bodyOf Try.f32) []) (by kernel_rfl) (by
  intro X H r H' h hX hH
  unfold r32 at h; split at h <;> try contradiction
  simp only [Option.some.injEq, Prod.mk.injEq] at h
  obtain ⟨hp, rfl, rfl⟩ := h
  obtain ⟨F, hF⟩ := s32 _ hp (hX _ (.head _))
  exact ⟨Af32 F, (f32_body F _).trans hF⟩)
/-! gantry/wire.GetDigests -/
def lVG0134 : List CEnt := [(38, [some 5, none], r38)]
def VG0134 : Env := mkEnv T01 G01 lVG0134
theorem eVG0134 : EOk Try.prog VG0134 := eok_mk (by exact ⟨c38, trivial⟩)
def Af34 (F : Nat) : Cuts := { F := F, at_ := fun n => match n with | 6012 => some [(0, .plain), (6, .plain), (8, .own 56), (18, .plain), (19, .plain)] | _ => none, join := fun n => match n with | 1032 => some [(0, .plain)] | 2030 => some [(0, .plain), (5, .plain), (6, .plain), (7, .plain)] | 4022 => some [(0, .plain), (5, .plain), (6, .plain)] | 5020 => some [(0, .plain), (5, .plain), (6, .plain), (8, .plain)] | 6014 => some [(0, .plain), (6, .plain), (8, .plain), (18, .plain), (19, .plain)] | 10003 => some [(6, .plain), (8, .plain)] | _ => none, fin := (some [(2, (.own 57)), (3, .plain), (4, .plain)]) }
def ef34_a : (List Int) → St := fun a0 => { tmps := [(0, (.vs (.rI .u8 a0) 0 1))], heap := [], next := 0, nt := 36, m := 0 }
def ef34_j1032 : (List Int) → St := fun t0 => { tmps := [(0, (.vs (.rI .u8 t0) 0 1))], heap := [], next := 0, nt := 36, m := 0 }
def ef34_j2030 : (List Int) × Int × Int × Int → St := fun (t0, t5, t6, t7) => { tmps := [(0, (.vs (.rI .u8 t0) 0 1)), (5, (.int .i64 t5)), (6, (.int .i64 t6)), (7, (.int .i64 t7))], heap := [], next := 0, nt := 36, m := 0 }
def ef34_j4022 : (List Int) × Int × Int → St := fun (t0, t5, t6) => { tmps := [(0, (.vs (.rI .u8 t0) 0 1)), (5, (.int .i64 t5)), (6, (.int .i64 t6))], heap := [], next := 0, nt := 36, m := 0 }
def ef34_j5020 : (List Int) × Int × Int → St := fun (t0, t5, t6) => { tmps := [(0, (.vs (.rI .u8 t0) 0 1)), (5, (.int .i64 t5)), (6, (.int .i64 t6)), (8, .ns)], heap := [], next := 0, nt := 36, m := 0 }
def ef34_j6014 : (List Int) × Int × Int × Int → St := fun (t0, t6, t18, t19) => { tmps := [(0, (.vs (.rI .u8 t0) 0 1)), (6, (.int .i64 t6)), (8, .ns), (18, (.int .i64 t18)), (19, (.int .i64 t19))], heap := [], next := 0, nt := 36, m := 0 }
def ef34_l6012 : (List Int) × Int × Nat × Int × Int × (List Int) → St := fun (t0, t6, x3, t18, t19, x6) => { tmps := [(0, (.vs (.rI .u8 t0) 0 1)), (6, (.int .i64 t6)), (8, (.own 0 x3 16)), (18, (.int .i64 t18)), (19, (.int .i64 t19))], heap := [(0, (.cells (x3 * 16) (.rI .u8 x6) true))], next := 1, nt := 36, m := 0 }
def ef34_j10003 : Int × Nat × (List Int) → St := fun (t6, x2, x3) => { tmps := [(6, (.int .i64 t6)), (8, (.own 0 x2 16))], heap := [(0, (.cells (x2 * 16) (.rI .u8 x3) true))], next := 1, nt := 36, m := 0 }
def f34_n0 (F : Nat) (kf34_j1032 : (List Int) → Option (AV × List Blk)) : (List Int) → Option (AV × List Blk) := fun a0 => (kf34_j1032 a0)
theorem f34_n0_eq (F : Nat) (Rf34_j1032 : St → Option (AV × List Blk)) : ∀ v, aexec VG0134 (Af34 F) (sub (bodyOf Try.f34) [0]) (ef34_a v) (kSeq (fun s => Rf34_j1032 (cutTo VG0134 (some [(0, .plain)]) s)) (kFin VG0134 (some [(2, (.own 57)), (3, .plain), (4, .plain)]) (Try.f34).results.toList)) = f34_n0 F (fun w => Rf34_j1032 (ef34_j1032 w)) v := by
  intro a0; kernel_rfl
def f34_n10 (F : Nat) (kf34_j2030 : (List Int) × Int × Int × Int → Option (AV × List Blk)) : (List Int) → Option (AV × List Blk) := fun t0 => (cond (decide (0 < (16 : Int))) (kf34_j2030 (t0, (Wire.count t0 (16 : Int)).1, (Wire.count t0 (16 : Int)).2.1, (Wire.count t0 (16 : Int)).2.2)) none)
theorem f34_n10_eq (F : Nat) (Rf34_j2030 : St → Option (AV × List Blk)) : ∀ v, aexec VG0134 (Af34 F) (sub (bodyOf Try.f34) [1, 0]) (ef34_j1032 v) (kSeq (fun s => Rf34_j2030 (cutTo VG0134 (some [(0, .plain), (5, .plain), (6, .plain), (7, .plain)]) s)) (kFin VG0134 (some [(2, (.own 57)), (3, .plain), (4, .plain)]) (Try.f34).results.toList)) = f34_n10 F (fun w => Rf34_j2030 (ef34_j2030 w)) v := by
  intro t0; kernel_rfl
def f34_n110 (F : Nat) (kf34_j4022 : (List Int) × Int × Int → Option (AV × List Blk)) : (List Int) × Int × Int × Int → Option (AV × List Blk) := fun (t0, t5, t6, t7) => (cond (t7 != (0 : Int)) (some ((.tup (.cons 0 (.own 0 0 16) (.cons 0 (.int .i64 (0 : Int)) (.cons 0 (.int .i64 t7) .nil)))), [(.cells 0 (.rI .u8 []) true)])) (kf34_j4022 (t0, t5, t6)))
theorem f34_n110_eq (F : Nat) (Rf34_j4022 : St → Option (AV × List Blk)) : ∀ v, aexec VG0134 (Af34 F) (sub (bodyOf Try.f34) [1, 1, 0]) (ef34_j2030 v) (kSeq (fun s => Rf34_j4022 (cutTo VG0134 (some [(0, .plain), (5, .plain), (6, .plain)]) s)) (kFin VG0134 (some [(2, (.own 57)), (3, .plain), (4, .plain)]) (Try.f34).results.toList)) = f34_n110 F (fun w => Rf34_j4022 (ef34_j4022 w)) v := by
  rintro ⟨t0, t5, t6, t7⟩; kernel_rfl
def f34_n1110 (F : Nat) (kf34_j5020 : (List Int) × Int × Int → Option (AV × List Blk)) : (List Int) × Int × Int → Option (AV × List Blk) := fun (t0, t5, t6) => (kf34_j5020 (t0, t5, t6))
theorem f34_n1110_eq (F : Nat) (Rf34_j5020 : St → Option (AV × List Blk)) : ∀ v, aexec VG0134 (Af34 F) (sub (bodyOf Try.f34) [1, 1, 1, 0]) (ef34_j4022 v) (kSeq (fun s => Rf34_j5020 (cutTo VG0134 (some [(0, .plain), (5, .plain), (6, .plain), (8, .plain)]) s)) (kFin VG0134 (some [(2, (.own 57)), (3, .plain), (4, .plain)]) (Try.f34).results.toList)) = f34_n1110 F (fun w => Rf34_j5020 (ef34_j5020 w)) v := by
  rintro ⟨t0, t5, t6⟩; kernel_rfl
def f34_n111100 (F : Nat) (kf34_j6014 : (List Int) × Int × Int × Int → Option (AV × List Blk)) (kf34_j10003 : Int × Nat × (List Int) → Option (AV × List Blk)) : (List Int) × Int × Int → Option (AV × List Blk) := fun (t0, t5, t6) => (kf34_j6014 (t0, t6, t5, (0 : Int)))
theorem f34_n111100_eq (F : Nat) (Rf34_j6014 : St → Option (AV × List Blk)) (Rf34_j10003 : St → Option (AV × List Blk)) : ∀ v, aexec VG0134 (Af34 F) (sub (bodyOf Try.f34) [1, 1, 1, 1, 0, 0]) (ef34_j5020 v) (kSeq (fun s => Rf34_j6014 (cutTo VG0134 (some [(0, .plain), (6, .plain), (8, .plain), (18, .plain), (19, .plain)]) s)) (kSeq (fun s => Rf34_j10003 (cutTo VG0134 (some [(6, .plain), (8, .plain)]) s)) (kFin VG0134 (some [(2, (.own 57)), (3, .plain), (4, .plain)]) (Try.f34).results.toList))) = f34_n111100 F (fun w => Rf34_j6014 (ef34_j6014 w)) (fun w => Rf34_j10003 (ef34_j10003 w)) v := by
  rintro ⟨t0, t5, t6⟩; kernel_rfl
def f34_n11110100 (F : Nat) (kf34_l6012 : (List Int) × Int × Nat × Int × Int × (List Int) → Option (AV × List Blk)) (kf34_j10003 : Int × Nat × (List Int) → Option (AV × List Blk)) : (List Int) × Int × Nat × Int × Int × (List Int) → Option (AV × List Blk) := fun (t0, t6, x3, t18, t19, x6) => (cond (decide (t19 < t18)) (cond (((decide (0 ≤ t6)) && (decide (t6 ≤ (IntKind.i64.wrap (t6 + (16 : Int)))))) && (decide ((IntKind.i64.wrap (t6 + (16 : Int))) ≤ (↑t0.length : Int)))) (cond (decide (16 ≤ ((t0.drop (Int.toNat t6)).take ((Int.toNat (IntKind.i64.wrap (t6 + (16 : Int)))) - (Int.toNat t6))).length)) (cond (decide ((x3 + 1) < 1073741824)) (kf34_l6012 (t0, (IntKind.i64.wrap (t6 + (16 : Int))), (x3 + 1), t18, (IntKind.i64.wrap (t19 + (1 : Int))), (x6 ++ (((t0.drop (Int.toNat t6)).take ((Int.toNat (IntKind.i64.wrap (t6 + (16 : Int)))) - (Int.toNat t6))).take 16)))) none) none) none) (kf34_j10003 (t6, x3, x6)))
theorem f34_n11110100_eq (F : Nat) (Rf34_l6012 : St → Option (AV × List Blk)) (Rf34_j10003 : St → Option (AV × List Blk)) : ∀ v, aexec VG0134 (Af34 F) (sub (bodyOf Try.f34) [1, 1, 1, 1, 0, 1, 0, 0]) (ef34_l6012 v) (kSeq (fun s => Rf34_l6012 (cutTo VG0134 (some [(0, .plain), (6, .plain), (8, .own 56), (18, .plain), (19, .plain)]) s)) (kBlock 0 (kSeq (fun s => Rf34_j10003 (cutTo VG0134 (some [(6, .plain), (8, .plain)]) s)) (kFin VG0134 (some [(2, (.own 57)), (3, .plain), (4, .plain)]) (Try.f34).results.toList)))) = f34_n11110100 F (fun w => Rf34_l6012 (ef34_l6012 w)) (fun w => Rf34_j10003 (ef34_j10003 w)) v := by
  rintro ⟨t0, t6, x3, t18, t19, x6⟩; kernel_rfl
def f34_n1111010_i : (List Int) × Int × Int × Int → (List Int) × Int × Nat × Int × Int × (List Int) := fun (t0, t6, t18, t19) => (t0, t6, 0, t18, t19, [])
def f34_n1111010 (F : Nat) (kf34_j10003 : Int × Nat × (List Int) → Option (AV × List Blk)) : (List Int) × Int × Int × Int → Option (AV × List Blk) := fun v => loopN (fun k => f34_n11110100 F k kf34_j10003) F (f34_n1111010_i v)
theorem f34_n1111010_eq (F : Nat) (Rf34_j10003 : St → Option (AV × List Blk)) : ∀ v, aexec VG0134 (Af34 F) (sub (bodyOf Try.f34) [1, 1, 1, 1, 0, 1, 0]) (ef34_j6014 v) (kBlock 0 (kSeq (fun s => Rf34_j10003 (cutTo VG0134 (some [(6, .plain), (8, .plain)]) s)) (kFin VG0134 (some [(2, (.own 57)), (3, .plain), (4, .plain)]) (Try.f34).results.toList))) = f34_n1111010 F (fun w => Rf34_j10003 (ef34_j10003 w)) v :=
  loop_cut (c := (sub (bodyOf Try.f34) [1, 1, 1, 1, 0, 1, 0])) (d := (sub (bodyOf Try.f34) [1, 1, 1, 1, 0, 1, 0, 0])) (by kernel_rfl) (spec := [(0, .plain), (6, .plain), (8, .own 56), (18, .plain), (19, .plain)]) (by kernel_rfl) ef34_j6014 ef34_l6012 (kBlock 0 (kSeq (fun s => Rf34_j10003 (cutTo VG0134 (some [(6, .plain), (8, .plain)]) s)) (kFin VG0134 (some [(2, (.own 57)), (3, .plain), (4, .plain)]) (Try.f34).results.toList))) f34_n1111010_i (fun k => f34_n11110100 F k (fun w => Rf34_j10003 (ef34_j10003 w)))
    (by rintro ⟨t0, t6, t18, t19⟩; kernel_rfl) (fun Rf34_l6012 => f34_n11110100_eq F Rf34_l6012 Rf34_j10003)
def f34_n111101 (F : Nat) (kf34_j10003 : Int × Nat × (List Int) → Option (AV × List Blk)) : (List Int) × Int × Int × Int → Option (AV × List Blk) := f34_n1111010 F kf34_j10003
theorem f34_n111101_eq (F : Nat) (Rf34_j10003 : St → Option (AV × List Blk)) : ∀ v, aexec VG0134 (Af34 F) (sub (bodyOf Try.f34) [1, 1, 1, 1, 0, 1]) (ef34_j6014 v) (kSeq (fun s => Rf34_j10003 (cutTo VG0134 (some [(6, .plain), (8, .plain)]) s)) (kFin VG0134 (some [(2, (.own 57)), (3, .plain), (4, .plain)]) (Try.f34).results.toList)) = f34_n111101 F (fun w => Rf34_j10003 (ef34_j10003 w)) v := fun v =>
  (block_in (c := (sub (bodyOf Try.f34) [1, 1, 1, 1, 0, 1])) (d := (sub (bodyOf Try.f34) [1, 1, 1, 1, 0, 1, 0])) (id := 0) (by kernel_rfl) _ _).trans (f34_n1111010_eq F Rf34_j10003 v)
def f34_n11110 (F : Nat) (kf34_j10003 : Int × Nat × (List Int) → Option (AV × List Blk)) : (List Int) × Int × Int → Option (AV × List Blk) := fun v => f34_n111100 F (f34_n111101 F kf34_j10003) kf34_j10003 v
theorem f34_n11110_eq (F : Nat) (Rf34_j10003 : St → Option (AV × List Blk)) : ∀ v, aexec VG0134 (Af34 F) (sub (bodyOf Try.f34) [1, 1, 1, 1, 0]) (ef34_j5020 v) (kSeq (fun s => Rf34_j10003 (cutTo VG0134 (some [(6, .plain), (8, .plain)]) s)) (kFin VG0134 (some [(2, (.own 57)), (3, .plain), (4, .plain)]) (Try.f34).results.toList)) = f34_n11110 F (fun w => Rf34_j10003 (ef34_j10003 w)) v :=
  seq_cut (c := (sub (bodyOf Try.f34) [1, 1, 1, 1, 0])) (a := (sub (bodyOf Try.f34) [1, 1, 1, 1, 0, 0])) (b := (sub (bodyOf Try.f34) [1, 1, 1, 1, 0, 1])) (by kernel_rfl) (spec := [(0, .plain), (6, .plain), (8, .plain), (18, .plain), (19, .plain)]) (by kernel_rfl) ef34_j5020 ef34_j6014 (kSeq (fun s => Rf34_j10003 (cutTo VG0134 (some [(6, .plain), (8, .plain)]) s)) (kFin VG0134 (some [(2, (.own 57)), (3, .plain), (4, .plain)]) (Try.f34).results.toList)) (fun k => f34_n111100 F k (fun w => Rf34_j10003 (ef34_j10003 w))) (f34_n111101 F (fun w => Rf34_j10003 (ef34_j10003 w)))
    (fun Rf34_j6014 => f34_n111100_eq F Rf34_j6014 Rf34_j10003) (f34_n111101_eq F Rf34_j10003)
def f34_n11111 (F : Nat) : Int × Nat × (List Int) → Option (AV × List Blk) := fun (t6, x2, x3) => (some ((.tup (.cons 0 (.own 0 x2 16) (.cons 0 (.int .i64 t6) (.cons 0 (.int .i64 (0 : Int)) .nil)))), [(.cells (x2 * 16) (.rI .u8 x3) true)]))
theorem f34_n11111_eq (F : Nat) : ∀ v, aexec VG0134 (Af34 F) (sub (bodyOf Try.f34) [1, 1, 1, 1, 1]) (ef34_j10003 v) (kFin VG0134 (some [(2, (.own 57)), (3, .plain), (4, .plain)]) (Try.f34).results.toList) = f34_n11111 F v := by
  rintro ⟨t6, x2, x3⟩; kernel_rfl
def f34_n1111 (F : Nat) : (List Int) × Int × Int → Option (AV × List Blk) := fun v => f34_n11110 F (f34_n11111 F) v
theorem f34_n1111_eq (F : Nat) : ∀ v, aexec VG0134 (Af34 F) (sub (bodyOf Try.f34) [1, 1, 1, 1]) (ef34_j5020 v) (kFin VG0134 (some [(2, (.own 57)), (3, .plain), (4, .plain)]) (Try.f34).results.toList) = f34_n1111 F v :=
  seq_cut (c := (sub (bodyOf Try.f34) [1, 1, 1, 1])) (a := (sub (bodyOf Try.f34) [1, 1, 1, 1, 0])) (b := (sub (bodyOf Try.f34) [1, 1, 1, 1, 1])) (by kernel_rfl) (spec := [(6, .plain), (8, .plain)]) (by kernel_rfl) ef34_j5020 ef34_j10003 (kFin VG0134 (some [(2, (.own 57)), (3, .plain), (4, .plain)]) (Try.f34).results.toList) (fun k => f34_n11110 F k) (f34_n11111 F)
    (fun Rf34_j10003 => f34_n11110_eq F Rf34_j10003) (f34_n11111_eq F)
def f34_n111 (F : Nat) : (List Int) × Int × Int → Option (AV × List Blk) := fun v => f34_n1110 F (f34_n1111 F) v
theorem f34_n111_eq (F : Nat) : ∀ v, aexec VG0134 (Af34 F) (sub (bodyOf Try.f34) [1, 1, 1]) (ef34_j4022 v) (kFin VG0134 (some [(2, (.own 57)), (3, .plain), (4, .plain)]) (Try.f34).results.toList) = f34_n111 F v :=
  seq_cut (c := (sub (bodyOf Try.f34) [1, 1, 1])) (a := (sub (bodyOf Try.f34) [1, 1, 1, 0])) (b := (sub (bodyOf Try.f34) [1, 1, 1, 1])) (by kernel_rfl) (spec := [(0, .plain), (5, .plain), (6, .plain), (8, .plain)]) (by kernel_rfl) ef34_j4022 ef34_j5020 (kFin VG0134 (some [(2, (.own 57)), (3, .plain), (4, .plain)]) (Try.f34).results.toList) (fun k => f34_n1110 F k) (f34_n1111 F)
    (fun Rf34_j5020 => f34_n1110_eq F Rf34_j5020) (f34_n1111_eq F)
def f34_n11 (F : Nat) : (List Int) × Int × Int × Int → Option (AV × List Blk) := fun v => f34_n110 F (f34_n111 F) v
theorem f34_n11_eq (F : Nat) : ∀ v, aexec VG0134 (Af34 F) (sub (bodyOf Try.f34) [1, 1]) (ef34_j2030 v) (kFin VG0134 (some [(2, (.own 57)), (3, .plain), (4, .plain)]) (Try.f34).results.toList) = f34_n11 F v :=
  seq_cut (c := (sub (bodyOf Try.f34) [1, 1])) (a := (sub (bodyOf Try.f34) [1, 1, 0])) (b := (sub (bodyOf Try.f34) [1, 1, 1])) (by kernel_rfl) (spec := [(0, .plain), (5, .plain), (6, .plain)]) (by kernel_rfl) ef34_j2030 ef34_j4022 (kFin VG0134 (some [(2, (.own 57)), (3, .plain), (4, .plain)]) (Try.f34).results.toList) (fun k => f34_n110 F k) (f34_n111 F)
    (fun Rf34_j4022 => f34_n110_eq F Rf34_j4022) (f34_n111_eq F)
def f34_n1 (F : Nat) : (List Int) → Option (AV × List Blk) := fun v => f34_n10 F (f34_n11 F) v
theorem f34_n1_eq (F : Nat) : ∀ v, aexec VG0134 (Af34 F) (sub (bodyOf Try.f34) [1]) (ef34_j1032 v) (kFin VG0134 (some [(2, (.own 57)), (3, .plain), (4, .plain)]) (Try.f34).results.toList) = f34_n1 F v :=
  seq_cut (c := (sub (bodyOf Try.f34) [1])) (a := (sub (bodyOf Try.f34) [1, 0])) (b := (sub (bodyOf Try.f34) [1, 1])) (by kernel_rfl) (spec := [(0, .plain), (5, .plain), (6, .plain), (7, .plain)]) (by kernel_rfl) ef34_j1032 ef34_j2030 (kFin VG0134 (some [(2, (.own 57)), (3, .plain), (4, .plain)]) (Try.f34).results.toList) (fun k => f34_n10 F k) (f34_n11 F)
    (fun Rf34_j2030 => f34_n10_eq F Rf34_j2030) (f34_n11_eq F)
def f34_nt (F : Nat) : (List Int) → Option (AV × List Blk) := fun v => f34_n0 F (f34_n1 F) v
theorem f34_nt_eq (F : Nat) : ∀ v, aexec VG0134 (Af34 F) (sub (bodyOf Try.f34) []) (ef34_a v) (kFin VG0134 (some [(2, (.own 57)), (3, .plain), (4, .plain)]) (Try.f34).results.toList) = f34_nt F v :=
  seq_cut (c := (sub (bodyOf Try.f34) [])) (a := (sub (bodyOf Try.f34) [0])) (b := (sub (bodyOf Try.f34) [1])) (by kernel_rfl) (spec := [(0, .plain)]) (by kernel_rfl) ef34_a ef34_j1032 (kFin VG0134 (some [(2, (.own 57)), (3, .plain), (4, .plain)]) (Try.f34).results.toList) (fun k => f34_n0 F k) (f34_n1 F)
    (fun Rf34_j1032 => f34_n0_eq F Rf34_j1032) (f34_n1_eq F)
/-- gantry/wire.GetDigests -/
def f34 (F : Nat) : (List Int) → Option (AV × List Blk) := f34_nt F
theorem f34_body (F : Nat) (a0 : List Int) : abody VG0134 (Af34 F) Try.f34 [(.vs (.rI .u8 a0) 0 1)] [] = f34 F a0 :=
  (abody_in (c := (sub (bodyOf Try.f34) [])) (by kernel_rfl) (s := ef34_a a0) (by kernel_rfl)).trans (f34_nt_eq F a0)
def r34 : CRun := fun X H => match X, H with
  | [(.vs (.rI .u8 a0) 0 1)], [] => some ((decide (a0.length < 1073741000)), (.tup (.cons 0 (.own 0 (Wire.getDigs a0).1 16) (.cons 0 (.int .i64 (Wire.getDigs a0).2.2.1) (.cons 0 (.int .i64 (Wire.getDigs a0).2.2.2) .nil)))), [(.cells ((Wire.getDigs a0).1 * 16) (.rI .u8 (Wire.getDigs a0).2.1) true)])
  | _, _ => none
theorem s34 (a0 : List Int) (hp : ((decide (a0.length < 1073741000))) = true) (h0 : okV (.vs (.rI .u8 a0) 0 1)) : ∃ F, f34 F a0 = some ((.tup (.cons 0 (.own 0 (Wire.getDigs a0).1 16) (.cons 0 (.int .i64 (Wire.getDigs a0).2.2.1) (.cons 0 (.int .i64 (Wire.getDigs a0).2.2.2) .nil)))), [(.cells ((Wire.getDigs a0).1 * 16) (.rI .u8 (Wire.getDigs a0).2.1) true)]) := by
  have hb := Wire.okB_of h0.1
  have hl : a0.length < 1073741000 := of_decide_eq_true hp
  refine ⟨a0.length + 1, ?_⟩
  simp only [f34, f34_nt, f34_n0, f34_n1, f34_n10, f34_n11, f34_n110, f34_n111, f34_n1110, f34_n1111, f34_n11110, f34_n111100, f34_n111101, f34_n1111010, f34_n1111010_i, int_bne]
  rw [cond_pos (by omega)]
  unfold Wire.getDigs
  by_cases c : (Wire.count a0 16).2.2 = 0
  · obtain ⟨g1, g2, g3, g4, g5, g6, g7⟩ := Wire.count_ok hb (by omega) c
    rw [cond_neg (by omega), if_pos c, g2, g3]
    generalize (Wire.getInt a0).1 = n at *
    generalize (Wire.getInt a0).2.1 = at0 at *
    obtain ⟨N, rfl⟩ := Int.eq_ofNat_of_zero_le g4
    refine loopN_from (fun i => (a0, at0 + 16 * (i : Int), i, (N : Int), (i : Int), (a0.drop at0.toNat).take (16 * i))) N (by simp) (fun i hi k => ?_) (fun k => ?_) _ (by omega)
    · simp only [f34_n11110100, dec_and]
      rw [i64w (x := at0 + 16 * (i : Int) + 16) (by omega) (by omega), show (at0 + 16 * (i : Int) + 16).toNat - (at0 + 16 * (i : Int)).toNat = 16 by omega, show (at0 + 16 * (i : Int)).toNat = at0.toNat + 16 * i by omega, cond_pos (by omega), cond_pos (by omega), cond_pos (by rw [List.length_take, List.length_drop]; omega), cond_pos (by omega), i64w (x := (i : Int) + 1) (by omega) (by omega),
        List.take_take, Nat.min_self, ← List.drop_drop, ← List.take_add, show at0 + 16 * (i : Int) + 16 = at0 + 16 * ((i + 1 : Nat) : Int) by omega]
      rfl
    · simp only [f34_n11110100]
      rw [cond_neg (by omega)]
      rfl
  · rw [cond_pos c, if_neg c]; rfl

theorem c34 : CallOk Try.prog G01 34 r34 := callOk_of (V := VG0134) mixed tys eVG0134 (f := 34) (fn := Try.f34) Try.func34 (by kernel_rfl) (c := sub (bodyOf Try.f34) []) (by kernel_rfl) (by
  intro X H r H' h hX hH
  unfold r34 at h; split at h <;> try contradiction
  simp only [Option.some.injEq, Prod.mk.injEq] at h
  obtain ⟨hp, rfl, rfl⟩ := h
  obtain ⟨F, hF⟩ := s34 _ hp (hX _ (.head _))
  exact ⟨Af34 F, (f34_body F _).trans hF⟩)
/-! gantry/gantryref01.GetDigests -/
def lVG0135 : List CEnt := [(39, [some 5, none], r39)]
def VG0135 : Env := mkEnv T01 G01 lVG0135
theorem eVG0135 : EOk Try.prog VG0135 := eok_mk (by exact ⟨c39, trivial⟩)
def Af35 (F : Nat) : Cuts := { F := F, at_ := fun n => match n with | 6029 => some [(0, .plain), (5, .plain), (6, .plain), (8, .own 56), (9, .plain)] | 10010 => some [(0, .plain), (5, .plain), (6, .plain), (8, .plain), (9, .plain), (10, .plain), (11, .plain)] | _ => none, join := fun n => match n with | 1049 => some [(0, .plain)] | 2047 => some [(0, .plain), (5, .plain), (6, .plain), (7, .plain)] | 4039 => some [(0, .plain), (5, .plain), (6, .plain)] | 5037 => some [(0, .plain), (5, .plain), (6, .plain), (8, .plain)] | 6031 => some [(0, .plain), (5, .plain), (6, .plain), (8, .plain), (9, .plain)] | 7001 => some [(0, .plain), (5, .plain), (6, .plain), (8, .plain), (9, .plain)] | 8023 => some [(0, .plain), (5, .plain), (6, .plain), (8, .plain), (9, .plain)] | 9018 => some [(0, .plain), (5, .plain), (6, .plain), (8, .plain), (9, .plain), (10, .plain)] | 10012 => some [(0, .plain), (5, .plain), (6, .plain), (8, .plain), (9, .plain), (10, .plain), (11, .plain)] | 13003 => some [(0, .plain), (5, .plain), (6, .plain), (8, .plain), (9, .plain), (10, .plain)] | 15003 => some [(6, .plain), (8, .plain)] | _ => none, fin := (some [(2, (.own 57)), (3, .plain), (4, .plain)]) }
def ef35_a : (List Int) → St := fun a0 => { tmps := [(0, (.vs (.rI .u8 a0) 0 1))], heap := [], next := 0, nt := 46, m := 0 }
def ef35_j1049 : (List Int) → St := fun t0 => { tmps := [(0, (.vs (.rI .u8 t0) 0 1))], heap := [], next := 0, nt := 46, m := 0 }
def ef35_j2047 : (List Int) × Int × Int × Int → St := fun (t0, t5, t6, t7) => { tmps := [(0, (.vs (.rI .u8 t0) 0 1)), (5, (.int .i64 t5)), (6, (.int .i64 t6)), (7, (.int .i64 t7))], heap := [], next := 0, nt := 46, m := 0 }
def ef35_j4039 : (List Int) × Int × Int → St := fun (t0, t5, t6) => { tmps := [(0, (.vs (.rI .u8 t0) 0 1)), (5, (.int .i64 t5)), (6, (.int .i64 t6))], heap := [], next := 0, nt := 46, m := 0 }
def ef35_j5037 : (List Int) × Int × Int → St := fun (t0, t5, t6) => { tmps := [(0, (.vs (.rI .u8 t0) 0 1)), (5, (.int .i64 t5)), (6, (.int .i64 t6)), (8, .ns)], heap := [], next := 0, nt := 46, m := 0 }
def ef35_j6031 : (List Int) × Int × Int × Int → St := fun (t0, t5, t6, t9) => { tmps := [(0, (.vs (.rI .u8 t0) 0 1)), (5, (.int .i64 t5)), (6, (.int .i64 t6)), (8, .ns), (9, (.int .i64 t9))], heap := [], next := 0, nt := 46, m := 0 }
def ef35_l6029 : (List Int) × Int × Int × Nat × Int × (List Int) → St := fun (t0, t5, t6, x4, t9, x6) => { tmps := [(0, (.vs (.rI .u8 t0) 0 1)), (5, (.int .i64 t5)), (6, (.int .i64 t6)), (8, (.own 0 x4 16)), (9, (.int .i64 t9))], heap := [(0, (.cells (x4 * 16) (.rI .u8 x6) true))], next := 1, nt := 46, m := 0 }
def ef35_j8023 : (List Int) × Int × Int × Nat × Int × (List Int) → St := fun (t0, t5, t6, x4, t9, x6) => { tmps := [(0, (.vs (.rI .u8 t0) 0 1)), (5, (.int .i64 t5)), (6, (.int .i64 t6)), (8, (.own 0 x4 16)), (9, (.int .i64 t9))], heap := [(0, (.cells (x4 * 16) (.rI .u8 x6) true))], next := 1, nt := 46, m := 0 }
def ef35_j9018 : (List Int) × Int × Int × Nat × Int × (List Int) × (List Int) → St := fun (t0, t5, t6, x4, t9, x6, x7) => { tmps := [(0, (.vs (.rI .u8 t0) 0 1)), (5, (.int .i64 t5)), (6, (.int .i64 t6)), (8, (.own 0 x4 16)), (9, (.int .i64 t9)), (10, (.ptr 1 0 16 0 0 0 16))], heap := [(0, (.cells (x4 * 16) (.rI .u8 x6) true)), (1, (.cells 16 (.rI .u8 x7) true))], next := 2, nt := 46, m := 0 }
def ef35_j10012 : (List Int) × Int × Int × Nat × Int × Int × (List Int) × (List Int) → St := fun (t0, t5, t6, x4, t9, t11, x7, x8) => { tmps := [(0, (.vs (.rI .u8 t0) 0 1)), (5, (.int .i64 t5)), (6, (.int .i64 t6)), (8, (.own 0 x4 16)), (9, (.int .i64 t9)), (10, (.ptr 1 0 16 0 0 0 16)), (11, (.int .i64 t11))], heap := [(0, (.cells (x4 * 16) (.rI .u8 x7) true)), (1, (.cells 16 (.rI .u8 x8) true))], next := 2, nt := 46, m := 0 }
def ef35_l10010 : (List Int) × Int × Int × Nat × Int × Int × (List Int) × (List Int) → St := fun (t0, t5, t6, x4, t9, t11, x7, x8) => { tmps := [(0, (.vs (.rI .u8 t0) 0 1)), (5, (.int .i64 t5)), (6, (.int .i64 t6)), (8, (.own 0 x4 16)), (9, (.int .i64 t9)), (10, (.ptr 1 0 16 0 0 0 16)), (11, (.int .i64 t11))], heap := [(0, (.cells (x4 * 16) (.rI .u8 x7) true)), (1, (.cells 16 (.rI .u8 x8) true))], next := 2, nt := 46, m := 0 }
def ef35_j13003 : (List Int) × Int × Int × Nat × Int × (List Int) × (List Int) → St := fun (t0, t5, t6, x4, t9, x6, x7) => { tmps := [(0, (.vs (.rI .u8 t0) 0 1)), (5, (.int .i64 t5)), (6, (.int .i64 t6)), (8, (.own 0 x4 16)), (9, (.int .i64 t9)), (10, (.ptr 1 0 16 0 0 0 16))], heap := [(0, (.cells (x4 * 16) (.rI .u8 x6) true)), (1, (.cells 16 (.rI .u8 x7) true))], next := 2, nt := 46, m := 0 }
def ef35_j7001 : (List Int) × Int × Int × Nat × Int × (List Int) → St := fun (t0, t5, t6, x4, t9, x6) => { tmps := [(0, (.vs (.rI .u8 t0) 0 1)), (5, (.int .i64 t5)), (6, (.int .i64 t6)), (8, (.own 0 x4 16)), (9, (.int .i64 t9))], heap := [(0, (.cells (x4 * 16) (.rI .u8 x6) true))], next := 1, nt := 46, m := 0 }
def ef35_j15003 : Int × Nat × (List Int) → St := fun (t6, x2, x3) => { tmps := [(6, (.int .i64 t6)), (8, (.own 0 x2 16))], heap := [(0, (.cells (x2 * 16) (.rI .u8 x3) true))], next := 1, nt := 46, m := 0 }
def f35_n0 (F : Nat) (kf35_j1049 : (List Int) → Option (AV × List Blk)) : (List Int) → Option (AV × List Blk) := fun a0 => (kf35_j1049 a0)
theorem f35_n0_eq (F : Nat) (Rf35_j1049 : St → Option (AV × List Blk)) : ∀ v, aexec VG0135 (Af35 F) (sub (bodyOf Try.f35) [0]) (ef35_a v) (kSeq (fun s => Rf35_j1049 (cutTo VG0135 (some [(0, .plain)]) s)) (kFin VG0135 (some [(2, (.own 57)), (3, .plain), (4, .plain)]) (Try.f35).results.toList)) = f35_n0 F (fun w => Rf35_j1049 (ef35_j1049 w)) v := by
  intro a0; kernel_rfl
def f35_n10 (F : Nat) (kf35_j2047 : (List Int) × Int × Int × Int → Option (AV × List Blk)) : (List Int) → Option (AV × List Blk) := fun t0 => (cond (((decide (0 < (16 : Int))) && (decide ((16 : Int) ≤ 16))) && (decide (t0.length < 1073741000))) (kf35_j2047 (t0, (Wire.rcount t0 (16 : Int)).1, (Wire.rcount t0 (16 : Int)).2.1, (Wire.rcount t0 (16 : Int)).2.2)) none)
theorem f35_n10_eq (F : Nat) (Rf35_j2047 : St → Option (AV × List Blk)) : ∀ v, aexec VG0135 (Af35 F) (sub (bodyOf Try.f35) [1, 0]) (ef35_j1049 v) (kSeq (fun s => Rf35_j2047 (cutTo VG0135 (some [(0, .plain), (5, .plain), (6, .plain), (7, .plain)]) s)) (kFin VG0135 (some [(2, (.own 57)), (3, .plain), (4, .plain)]) (Try.f35).results.toList)) = f35_n10 F (fun w => Rf35_j2047 (ef35_j2047 w)) v := by
  intro t0; kernel_rfl
def f35_n110 (F : Nat) (kf35_j4039 : (List Int) × Int × Int → Option (AV × List Blk)) : (List Int) × Int × Int × Int → Option (AV × List Blk) := fun (t0, t5, t6, t7) => (cond (t7 != (0 : Int)) (some ((.tup (.cons 0 (.own 0 0 16) (.cons 0 (.int .i64 (0 : Int)) (.cons 0 (.int .i64 t7) .nil)))), [(.cells 0 (.rI .u8 []) true)])) (kf35_j4039 (t0, t5, t6)))
theorem f35_n110_eq (F : Nat) (Rf35_j4039 : St → Option (AV × List Blk)) : ∀ v, aexec VG0135 (Af35 F) (sub (bodyOf Try.f35) [1, 1, 0]) (ef35_j2047 v) (kSeq (fun s => Rf35_j4039 (cutTo VG0135 (some [(0, .plain), (5, .plain), (6, .plain)]) s)) (kFin VG0135 (some [(2, (.own 57)), (3, .plain), (4, .plain)]) (Try.f35).results.toList)) = f35_n110 F (fun w => Rf35_j4039 (ef35_j4039 w)) v := by
  rintro ⟨t0, t5, t6, t7⟩; kernel_rfl
def f35_n1110 (F : Nat) (kf35_j5037 : (List Int) × Int × Int → Option (AV × List Blk)) : (List Int) × Int × Int → Option (AV × List Blk) := fun (t0, t5, t6) => (kf35_j5037 (t0, t5, t6))
theorem f35_n1110_eq (F : Nat) (Rf35_j5037 : St → Option (AV × List Blk)) : ∀ v, aexec VG0135 (Af35 F) (sub (bodyOf Try.f35) [1, 1, 1, 0]) (ef35_j4039 v) (kSeq (fun s => Rf35_j5037 (cutTo VG0135 (some [(0, .plain), (5, .plain), (6, .plain), (8, .plain)]) s)) (kFin VG0135 (some [(2, (.own 57)), (3, .plain), (4, .plain)]) (Try.f35).results.toList)) = f35_n1110 F (fun w => Rf35_j5037 (ef35_j5037 w)) v := by
  rintro ⟨t0, t5, t6⟩; kernel_rfl
def f35_n111100 (F : Nat) (kf35_j6031 : (List Int) × Int × Int × Int → Option (AV × List Blk)) (kf35_j15003 : Int × Nat × (List Int) → Option (AV × List Blk)) : (List Int) × Int × Int → Option (AV × List Blk) := fun (t0, t5, t6) => (kf35_j6031 (t0, t5, t6, (0 : Int)))
theorem f35_n111100_eq (F : Nat) (Rf35_j6031 : St → Option (AV × List Blk)) (Rf35_j15003 : St → Option (AV × List Blk)) : ∀ v, aexec VG0135 (Af35 F) (sub (bodyOf Try.f35) [1, 1, 1, 1, 0, 0]) (ef35_j5037 v) (kSeq (fun s => Rf35_j6031 (cutTo VG0135 (some [(0, .plain), (5, .plain), (6, .plain), (8, .plain), (9, .plain)]) s)) (kSeq (fun s => Rf35_j15003 (cutTo VG0135 (some [(6, .plain), (8, .plain)]) s)) (kFin VG0135 (some [(2, (.own 57)), (3, .plain), (4, .plain)]) (Try.f35).results.toList))) = f35_n111100 F (fun w => Rf35_j6031 (ef35_j6031 w)) (fun w => Rf35_j15003 (ef35_j15003 w)) v := by
  rintro ⟨t0, t5, t6⟩; kernel_rfl
def f35_n111101000 (F : Nat) (kf35_j8023 : (List Int) × Int × Int × Nat × Int × (List Int) → Option (AV × List Blk)) (kf35_l6029 : (List Int) × Int × Int × Nat × Int × (List Int) → Option (AV × List Blk)) (kf35_j15003 : Int × Nat × (List Int) → Option (AV × List Blk)) : (List Int) × Int × Int × Nat × Int × (List Int) → Option (AV × List Blk) := fun (t0, t5, t6, x4, t9, x6) => (cond (decide (t9 < t5)) (kf35_j8023 (t0, t5, t6, x4, t9, x6)) (kf35_j15003 (t6, x4, x6)))
theorem f35_n111101000_eq (F : Nat) (Rf35_j8023 : St → Option (AV × List Blk)) (Rf35_l6029 : St → Option (AV × List Blk)) (Rf35_j15003 : St → Option (AV × List Blk)) : ∀ v, aexec VG0135 (Af35 F) (sub (bodyOf Try.f35) [1, 1, 1, 1, 0, 1, 0, 0, 0]) (ef35_l6029 v) (kSeq (fun s => Rf35_j8023 (cutTo VG0135 (some [(0, .plain), (5, .plain), (6, .plain), (8, .plain), (9, .plain)]) s)) (kSeq (fun s => Rf35_l6029 (cutTo VG0135 (some [(0, .plain), (5, .plain), (6, .plain), (8, .own 56), (9, .plain)]) s)) (kBlock 0 (kSeq (fun s => Rf35_j15003 (cutTo VG0135 (some [(6, .plain), (8, .plain)]) s)) (kFin VG0135 (some [(2, (.own 57)), (3, .plain), (4, .plain)]) (Try.f35).results.toList))))) = f35_n111101000 F (fun w => Rf35_j8023 (ef35_j8023 w)) (fun w => Rf35_l6029 (ef35_l6029 w)) (fun w => Rf35_j15003 (ef35_j15003 w)) v := by
  rintro ⟨t0, t5, t6, x4, t9, x6⟩; kernel_rfl
def f35_n111101001000 (F : Nat) (kf35_j9018 : (List Int) × Int × Int × Nat × Int × (List Int) × (List Int) → Option (AV × List Blk)) (kf35_j7001 : (List Int) × Int × Int × Nat × Int × (List Int) → Option (AV × List Blk)) (kf35_l6029 : (List Int) × Int × Int × Nat × Int × (List Int) → Option (AV × List Blk)) (kf35_j15003 : Int × Nat × (List Int) → Option (AV × List Blk)) : (List Int) × Int × Int × Nat × Int × (List Int) → Option (AV × List Blk) := fun (t0, t5, t6, x4, t9, x6) => (kf35_j9018 (t0, t5, t6, x4, t9, x6, (List.replicate 16 0)))
theorem f35_n111101001000_eq (F : Nat) (Rf35_j9018 : St → Option (AV × List Blk)) (Rf35_j7001 : St → Option (AV × List Blk)) (Rf35_l6029 : St → Option (AV × List Blk)) (Rf35_j15003 : St → Option (AV × List Blk)) : ∀ v, aexec VG0135 (Af35 F) (sub (bodyOf Try.f35) [1, 1, 1, 1, 0, 1, 0, 0, 1, 0, 0, 0]) (ef35_j8023 v) (kSeq (fun s => Rf35_j9018 (cutTo VG0135 (some [(0, .plain), (5, .plain), (6, .plain), (8, .plain), (9, .plain), (10, .plain)]) s)) (kBlock 1 (kSeq (fun s => Rf35_j7001 (cutTo VG0135 (some [(0, .plain), (5, .plain), (6, .plain), (8, .plain), (9, .plain)]) s)) (kSeq (fun s => Rf35_l6029 (cutTo VG0135 (some [(0, .plain), (5, .plain), (6, .plain), (8, .own 56), (9, .plain)]) s)) (kBlock 0 (kSeq (fun s => Rf35_j15003 (cutTo VG0135 (some [(6, .plain), (8, .plain)]) s)) (kFin VG0135 (some [(2, (.own 57)), (3, .plain), (4, .plain)]) (Try.f35).results.toList))))))) = f35_n111101001000 F (fun w => Rf35_j9018 (ef35_j9018 w)) (fun w => Rf35_j7001 (ef35_j7001 w)) (fun w => Rf35_l6029 (ef35_l6029 w)) (fun w => Rf35_j15003 (ef35_j15003 w)) v := by
  rintro ⟨t0, t5, t6, x4, t9, x6⟩; kernel_rfl
def f35_n11110100100100 (F : Nat) (kf35_j10012 : (List Int) × Int × Int × Nat × Int × Int × (List Int) × (List Int) → Option (AV × List Blk)) (kf35_j13003 : (List Int) × Int × Int × Nat × Int × (List Int) × (List Int) → Option (AV × List Blk)) (kf35_j7001 : (List Int) × Int × Int × Nat × Int × (List Int) → Option (AV × List Blk)) (kf35_l6029 : (List Int) × Int × Int × Nat × Int × (List Int) → Option (AV × List Blk)) (kf35_j15003 : Int × Nat × (List Int) → Option (AV × List Blk)) : (List Int) × Int × Int × Nat × Int × (List Int) × (List Int) → Option (AV × List Blk) := fun (t0, t5, t6, x4, t9, x6, x7) => (kf35_j10012 (t0, t5, t6, x4, t9, (0 : Int), x6, x7))
theorem f35_n11110100100100_eq (F : Nat) (Rf35_j10012 : St → Option (AV × List Blk)) (Rf35_j13003 : St → Option (AV × List Blk)) (Rf35_j7001 : St → Option (AV × List Blk)) (Rf35_l6029 : St → Option (AV × List Blk)) (Rf35_j15003 : St → Option (AV × List Blk)) : ∀ v, aexec VG0135 (Af35 F) (sub (bodyOf Try.f35) [1, 1, 1, 1, 0, 1, 0, 0, 1, 0, 0, 1, 0, 0]) (ef35_j9018 v) (kSeq (fun s => Rf35_j10012 (cutTo VG0135 (some [(0, .plain), (5, .plain), (6, .plain), (8, .plain), (9, .plain), (10, .plain), (11, .plain)]) s)) (kSeq (fun s => Rf35_j13003 (cutTo VG0135 (some [(0, .plain), (5, .plain), (6, .plain), (8, .plain), (9, .plain), (10, .plain)]) s)) (kBlock 1 (kSeq (fun s => Rf35_j7001 (cutTo VG0135 (some [(0, .plain), (5, .plain), (6, .plain), (8, .plain), (9, .plain)]) s)) (kSeq (fun s => Rf35_l6029 (cutTo VG0135 (some [(0, .plain), (5, .plain), (6, .plain), (8, .own 56), (9, .plain)]) s)) (kBlock 0 (kSeq (fun s => Rf35_j15003 (cutTo VG0135 (some [(6, .plain), (8, .plain)]) s)) (kFin VG0135 (some [(2, (.own 57)), (3, .plain), (4, .plain)]) (Try.f35).results.toList)))))))) = f35_n11110100100100 F (fun w => Rf35_j10012 (ef35_j10012 w)) (fun w => Rf35_j13003 (ef35_j13003 w)) (fun w => Rf35_j7001 (ef35_j7001 w)) (fun w => Rf35_l6029 (ef35_l6029 w)) (fun w => Rf35_j15003 (ef35_j15003 w)) v := by
  rintro ⟨t0, t5, t6, x4, t9, x6, x7⟩; kernel_rfl
def f35_n1111010010010100 (F : Nat) (kf35_l10010 : (List Int) × Int × Int × Nat × Int × Int × (List Int) × (List Int) → Option (AV × List Blk)) (kf35_j13003 : (List Int) × Int × Int × Nat × Int × (List Int) × (List Int) → Option (AV × List Blk)) (kf35_j7001 : (List Int) × Int × Int × Nat × Int × (List Int) → Option (AV × List Blk)) (kf35_l6029 : (List Int) × Int × Int × Nat × Int × (List Int) → Option (AV × List Blk)) (kf35_j15003 : Int × Nat × (List Int) → Option (AV × List Blk)) : (List Int) × Int × Int × Nat × Int × Int × (List Int) × (List Int) → Option (AV × List Blk) := fun (t0, t5, t6, x4, t9, t11, x7, x8) => (cond (decide (t11 < (16 : Int))) (cond ((decide (0 ≤ (IntKind.i64.wrap (t6 + t11)))) && (decide ((IntKind.i64.wrap (t6 + t11)) < (↑t0.length : Int)))) (cond ((decide (0 ≤ t11)) && (decide (t11 < (16 : Int)))) (kf35_l10010 (t0, t5, t6, x4, t9, (IntKind.i64.wrap (t11 + (1 : Int))), x7, (x8.set (Int.toNat t11) (t0.getD (Int.toNat (IntKind.i64.wrap (t6 + t11))) 0)))) none) none) (kf35_j13003 (t0, t5, t6, x4, t9, x7, x8)))
theorem f35_n1111010010010100_eq (F : Nat) (Rf35_l10010 : St → Option (AV × List Blk)) (Rf35_j13003 : St → Option (AV × List Blk)) (Rf35_j7001 : St → Option (AV × List Blk)) (Rf35_l6029 : St → Option (AV × List Blk)) (Rf35_j15003 : St → Option (AV × List Blk)) : ∀ v, aexec VG0135 (Af35 F) (sub (bodyOf Try.f35) [1, 1, 1, 1, 0, 1, 0, 0, 1, 0, 0, 1, 0, 1, 0, 0]) (ef35_l10010 v) (kSeq (fun s => Rf35_l10010 (cutTo VG0135 (some [(0, .plain), (5, .plain), (6, .plain), (8, .plain), (9, .plain), (10, .plain), (11, .plain)]) s)) (kBlock 2 (kSeq (fun s => Rf35_j13003 (cutTo VG0135 (some [(0, .plain), (5, .plain), (6, .plain), (8, .plain), (9, .plain), (10, .plain)]) s)) (kBlock 1 (kSeq (fun s => Rf35_j7001 (cutTo VG0135 (some [(0, .plain), (5, .plain), (6, .plain), (8, .plain), (9, .plain)]) s)) (kSeq (fun s => Rf35_l6029 (cutTo VG0135 (some [(0, .plain), (5, .plain), (6, .plain), (8, .own 56), (9, .plain)]) s)) (kBlock 0 (kSeq (fun s => Rf35_j15003 (cutTo VG0135 (some [(6, .plain), (8, .plain)]) s)) (kFin VG0135 (some [(2, (.own 57)), (3, .plain), (4, .plain)]) (Try.f35).results.toList))))))))) = f35_n1111010010010100 F (fun w => Rf35_l10010 (ef35_l10010 w)) (fun w => Rf35_j13003 (ef35_j13003 w)) (fun w => Rf35_j7001 (ef35_j7001 w)) (fun w => Rf35_l6029 (ef35_l6029 w)) (fun w => Rf35_j15003 (ef35_j15003 w)) v := by
  rintro ⟨t0, t5, t6, x4, t9, t11, x7, x8⟩; kernel_rfl
def f35_n111101001001010_i : (List Int) × Int × Int × Nat × Int × Int × (List Int) × (List Int) → (List Int) × Int × Int × Nat × Int × Int × (List Int) × (List Int) := fun (t0, t5, t6, x4, t9, t11, x7, x8) => (t0, t5, t6, x4, t9, t11, x7, x8)
def f35_n111101001001010 (F : Nat) (kf35_j13003 : (List Int) × Int × Int × Nat × Int × (List Int) × (List Int) → Option (AV × List Blk)) (kf35_j7001 : (List Int) × Int × Int × Nat × Int × (List Int) → Option (AV × List Blk)) (kf35_l6029 : (List Int) × Int × Int × Nat × Int × (List Int) → Option (AV × List Blk)) (kf35_j15003 : Int × Nat × (List Int) → Option (AV × List Blk)) : (List Int) × Int × Int × Nat × Int × Int × (List Int) × (List Int) → Option (AV × List Blk) := fun v => loopN (fun k => f35_n1111010010010100 F k kf35_j13003 kf35_j7001 kf35_l6029 kf35_j15003) F (f35_n111101001001010_i v)
theorem f35_n111101001001010_eq (F : Nat) (Rf35_j13003 : St → Option (AV × List Blk)) (Rf35_j7001 : St → Option (AV × List Blk)) (Rf35_l6029 : St → Option (AV × List Blk)) (Rf35_j15003 : St → Option (AV × List Blk)) : ∀ v, aexec VG0135 (Af35 F) (sub (bodyOf Try.f35) [1, 1, 1, 1, 0, 1, 0, 0, 1, 0, 0, 1, 0, 1, 0]) (ef35_j10012 v) (kBlock 2 (kSeq (fun s => Rf35_j13003 (cutTo VG0135 (some [(0, .plain), (5, .plain), (6, .plain), (8, .plain), (9, .plain), (10, .plain)]) s)) (kBlock 1 (kSeq (fun s => Rf35_j7001 (cutTo VG0135 (some [(0, .plain), (5, .plain), (6, .plain), (8, .plain), (9, .plain)]) s)) (kSeq (fun s => Rf35_l6029 (cutTo VG0135 (some [(0, .plain), (5, .plain), (6, .plain), (8, .own 56), (9, .plain)]) s)) (kBlock 0 (kSeq (fun s => Rf35_j15003 (cutTo VG0135 (some [(6, .plain), (8, .plain)]) s)) (kFin VG0135 (some [(2, (.own 57)), (3, .plain), (4, .plain)]) (Try.f35).results.toList)))))))) = f35_n111101001001010 F (fun w => Rf35_j13003 (ef35_j13003 w)) (fun w => Rf35_j7001 (ef35_j7001 w)) (fun w => Rf35_l6029 (ef35_l6029 w)) (fun w => Rf35_j15003 (ef35_j15003 w)) v :=
  loop_cut (c := (sub (bodyOf Try.f35) [1, 1, 1, 1, 0, 1, 0, 0, 1, 0, 0, 1, 0, 1, 0])) (d := (sub (bodyOf Try.f35) [1, 1, 1, 1, 0, 1, 0, 0, 1, 0, 0, 1, 0, 1, 0, 0])) (by kernel_rfl) (spec := [(0, .plain), (5, .plain), (6, .plain), (8, .plain), (9, .plain), (10, .plain), (11, .plain)]) (by kernel_rfl) ef35_j10012 ef35_l10010 (kBlock 2 (kSeq (fun s => Rf35_j13003 (cutTo VG0135 (some [(0, .plain), (5, .plain), (6, .plain), (8, .plain), (9, .plain), (10, .plain)]) s)) (kBlock 1 (kSeq (fun s => Rf35_j7001 (cutTo VG0135 (some [(0, .plain), (5, .plain), (6, .plain), (8, .plain), (9, .plain)]) s)) (kSeq (fun s => Rf35_l6029 (cutTo VG0135 (some [(0, .plain), (5, .plain), (6, .plain), (8, .own 56), (9, .plain)]) s)) (kBlock 0 (kSeq (fun s => Rf35_j15003 (cutTo VG0135 (some [(6, .plain), (8, .plain)]) s)) (kFin VG0135 (some [(2, (.own 57)), (3, .plain), (4, .plain)]) (Try.f35).results.toList)))))))) f35_n111101001001010_i (fun k => f35_n1111010010010100 F k (fun w => Rf35_j13003 (ef35_j13003 w)) (fun w => Rf35_j7001 (ef35_j7001 w)) (fun w => Rf35_l6029 (ef35_l6029 w)) (fun w => Rf35_j15003 (ef35_j15003 w)))
    (by rintro ⟨t0, t5, t6, x4, t9, t11, x7, x8⟩; kernel_rfl) (fun Rf35_l10010 => f35_n1111010010010100_eq F Rf35_l10010 Rf35_j13003 Rf35_j7001 Rf35_l6029 Rf35_j15003)
def f35_n11110100100101 (F : Nat) (kf35_j13003 : (List Int) × Int × Int × Nat × Int × (List Int) × (List Int) → Option (AV × List Blk)) (kf35_j7001 : (List Int) × Int × Int × Nat × Int × (List Int) → Option (AV × List Blk)) (kf35_l6029 : (List Int) × Int × Int × Nat × Int × (List Int) → Option (AV × List Blk)) (kf35_j15003 : Int × Nat × (List Int) → Option (AV × List Blk)) : (List Int) × Int × Int × Nat × Int × Int × (List Int) × (List Int) → Option (AV × List Blk) := f35_n111101001001010 F kf35_j13003 kf35_j7001 kf35_l6029 kf35_j15003
theorem f35_n11110100100101_eq (F : Nat) (Rf35_j13003 : St → Option (AV × List Blk)) (Rf35_j7001 : St → Option (AV × List Blk)) (Rf35_l6029 : St → Option (AV × List Blk)) (Rf35_j15003 : St → Option (AV × List Blk)) : ∀ v, aexec VG0135 (Af35 F) (sub (bodyOf Try.f35) [1, 1, 1, 1, 0, 1, 0, 0, 1, 0, 0, 1, 0, 1]) (ef35_j10012 v) (kSeq (fun s => Rf35_j13003 (cutTo VG0135 (some [(0, .plain), (5, .plain), (6, .plain), (8, .plain), (9, .plain), (10, .plain)]) s)) (kBlock 1 (kSeq (fun s => Rf35_j7001 (cutTo VG0135 (some [(0, .plain), (5, .plain), (6, .plain), (8, .plain), (9, .plain)]) s)) (kSeq (fun s => Rf35_l6029 (cutTo VG0135 (some [(0, .plain), (5, .plain), (6, .plain), (8, .own 56), (9, .plain)]) s)) (kBlock 0 (kSeq (fun s => Rf35_j15003 (cutTo VG0135 (some [(6, .plain), (8, .plain)]) s)) (kFin VG0135 (some [(2, (.own 57)), (3, .plain), (4, .plain)]) (Try.f35).results.toList))))))) = f35_n11110100100101 F (fun w => Rf35_j13003 (ef35_j13003 w)) (fun w => Rf35_j7001 (ef35_j7001 w)) (fun w => Rf35_l6029 (ef35_l6029 w)) (fun w => Rf35_j15003 (ef35_j15003 w)) v := fun v =>
  (block_in (c := (sub (bodyOf Try.f35) [1, 1, 1, 1, 0, 1, 0, 0, 1, 0, 0, 1, 0, 1])) (d := (sub (bodyOf Try.f35) [1, 1, 1, 1, 0, 1, 0, 0, 1, 0, 0, 1, 0, 1, 0])) (id := 2) (by kernel_rfl) _ _).trans (f35_n111101001001010_eq F Rf35_j13003 Rf35_j7001 Rf35_l6029 Rf35_j15003 v)
def f35_n1111010010010 (F : Nat) (kf35_j13003 : (List Int) × Int × Int × Nat × Int × (List Int) × (List Int) → Option (AV × List Blk)) (kf35_j7001 : (List Int) × Int × Int × Nat × Int × (List Int) → Option (AV × List Blk)) (kf35_l6029 : (List Int) × Int × Int × Nat × Int × (List Int) → Option (AV × List Blk)) (kf35_j15003 : Int × Nat × (List Int) → Option (AV × List Blk)) : (List Int) × Int × Int × Nat × Int × (List Int) × (List Int) → Option (AV × List Blk) := fun v => f35_n11110100100100 F (f35_n11110100100101 F kf35_j13003 kf35_j7001 kf35_l6029 kf35_j15003) kf35_j13003 kf35_j7001 kf35_l6029 kf35_j15003 v
theorem f35_n1111010010010_eq (F : Nat) (Rf35_j13003 : St → Option (AV × List Blk)) (Rf35_j7001 : St → Option (AV × List Blk)) (Rf35_l6029 : St → Option (AV × List Blk)) (Rf35_j15003 : St → Option (AV × List Blk)) : ∀ v, aexec VG0135 (Af35 F) (sub (bodyOf Try.f35) [1, 1, 1, 1, 0, 1, 0, 0, 1, 0, 0, 1, 0]) (ef35_j9018 v) (kSeq (fun s => Rf35_j13003 (cutTo VG0135 (some [(0, .plain), (5, .plain), (6, .plain), (8, .plain), (9, .plain), (10, .plain)]) s)) (kBlock 1 (kSeq (fun s => Rf35_j7001 (cutTo VG0135 (some [(0, .plain), (5, .plain), (6, .plain), (8, .plain), (9, .plain)]) s)) (kSeq (fun s => Rf35_l6029 (cutTo VG0135 (some [(0, .plain), (5, .plain), (6, .plain), (8, .own 56), (9, .plain)]) s)) (kBlock 0 (kSeq (fun s => Rf35_j15003 (cutTo VG0135 (some [(6, .plain), (8, .plain)]) s)) (kFin VG0135 (some [(2, (.own 57)), (3, .plain), (4, .plain)]) (Try.f35).results.toList))))))) = f35_n1111010010010 F (fun w => Rf35_j13003 (ef35_j13003 w)) (fun w => Rf35_j7001 (ef35_j7001 w)) (fun w => Rf35_l6029 (ef35_l6029 w)) (fun w => Rf35_j15003 (ef35_j15003 w)) v :=
  seq_cut (c := (sub (bodyOf Try.f35) [1, 1, 1, 1, 0, 1, 0, 0, 1, 0, 0, 1, 0])) (a := (sub (bodyOf Try.f35) [1, 1, 1, 1, 0, 1, 0, 0, 1, 0, 0, 1, 0, 0])) (b := (sub (bodyOf Try.f35) [1, 1, 1, 1, 0, 1, 0, 0, 1, 0, 0, 1, 0, 1])) (by kernel_rfl) (spec := [(0, .plain), (5, .plain), (6, .plain), (8, .plain), (9, .plain), (10, .plain), (11, .plain)]) (by kernel_rfl) ef35_j9018 ef35_j10012 (kSeq (fun s => Rf35_j13003 (cutTo VG0135 (some [(0, .plain), (5, .plain), (6, .plain), (8, .plain), (9, .plain), (10, .plain)]) s)) (kBlock 1 (kSeq (fun s => Rf35_j7001 (cutTo VG0135 (some [(0, .plain), (5, .plain), (6, .plain), (8, .plain), (9, .plain)]) s)) (kSeq (fun s => Rf35_l6029 (cutTo VG0135 (some [(0, .plain), (5, .plain), (6, .plain), (8, .own 56), (9, .plain)]) s)) (kBlock 0 (kSeq (fun s => Rf35_j15003 (cutTo VG0135 (some [(6, .plain), (8, .plain)]) s)) (kFin VG0135 (some [(2, (.own 57)), (3, .plain), (4, .plain)]) (Try.f35).results.toList))))))) (fun k => f35_n11110100100100 F k (fun w => Rf35_j13003 (ef35_j13003 w)) (fun w => Rf35_j7001 (ef35_j7001 w)) (fun w => Rf35_l6029 (ef35_l6029 w)) (fun w => Rf35_j15003 (ef35_j15003 w))) (f35_n11110100100101 F (fun w => Rf35_j13003 (ef35_j13003 w)) (fun w => Rf35_j7001 (ef35_j7001 w)) (fun w => Rf35_l6029 (ef35_l6029 w)) (fun w => Rf35_j15003 (ef35_j15003 w)))
    (fun Rf35_j10012 => f35_n11110100100100_eq F Rf35_j10012 Rf35_j13003 Rf35_j7001 Rf35_l6029 Rf35_j15003) (f35_n11110100100101_eq F Rf35_j13003 Rf35_j7001 Rf35_l6029 Rf35_j15003)
def f35_n1111010010011 (F : Nat) (kf35_j7001 : (List Int) × Int × Int × Nat × Int × (List Int) → Option (AV × List Blk)) (kf35_l6029 : (List Int) × Int × Int × Nat × Int × (List Int) → Option (AV × List Blk)) (kf35_j15003 : Int × Nat × (List Int) → Option (AV × List Blk)) : (List Int) × Int × Int × Nat × Int × (List Int) × (List Int) → Option (AV × List Blk) := fun (t0, t5, t6, x4, t9, x6, x7) => (cond (decide ((x4 + 1) < 1073741824)) (kf35_j7001 (t0, t5, (IntKind.i64.wrap (t6 + (16 : Int))), (x4 + 1), t9, (x6 ++ x7))) none)
theorem f35_n1111010010011_eq (F : Nat) (Rf35_j7001 : St → Option (AV × List Blk)) (Rf35_l6029 : St → Option (AV × List Blk)) (Rf35_j15003 : St → Option (AV × List Blk)) : ∀ v, aexec VG0135 (Af35 F) (sub (bodyOf Try.f35) [1, 1, 1, 1, 0, 1, 0, 0, 1, 0, 0, 1, 1]) (ef35_j13003 v) (kBlock 1 (kSeq (fun s => Rf35_j7001 (cutTo VG0135 (some [(0, .plain), (5, .plain), (6, .plain), (8, .plain), (9, .plain)]) s)) (kSeq (fun s => Rf35_l6029 (cutTo VG0135 (some [(0, .plain), (5, .plain), (6, .plain), (8, .own 56), (9, .plain)]) s)) (kBlock 0 (kSeq (fun s => Rf35_j15003 (cutTo VG0135 (some [(6, .plain), (8, .plain)]) s)) (kFin VG0135 (some [(2, (.own 57)), (3, .plain), (4, .plain)]) (Try.f35).results.toList)))))) = f35_n1111010010011 F (fun w => Rf35_j7001 (ef35_j7001 w)) (fun w => Rf35_l6029 (ef35_l6029 w)) (fun w => Rf35_j15003 (ef35_j15003 w)) v := by
  rintro ⟨t0, t5, t6, x4, t9, x6, x7⟩; kernel_rfl
def f35_n111101001001 (F : Nat) (kf35_j7001 : (List Int) × Int × Int × Nat × Int × (List Int) → Option (AV × List Blk)) (kf35_l6029 : (List Int) × Int × Int × Nat × Int × (List Int) → Option (AV × List Blk)) (kf35_j15003 : Int × Nat × (List Int) → Option (AV × List Blk)) : (List Int) × Int × Int × Nat × Int × (List Int) × (List Int) → Option (AV × List Blk) := fun v => f35_n1111010010010 F (f35_n1111010010011 F kf35_j7001 kf35_l6029 kf35_j15003) kf35_j7001 kf35_l6029 kf35_j15003 v
theorem f35_n111101001001_eq (F : Nat) (Rf35_j7001 : St → Option (AV × List Blk)) (Rf35_l6029 : St → Option (AV × List Blk)) (Rf35_j15003 : St → Option (AV × List Blk)) : ∀ v, aexec VG0135 (Af35 F) (sub (bodyOf Try.f35) [1, 1, 1, 1, 0, 1, 0, 0, 1, 0, 0, 1]) (ef35_j9018 v) (kBlock 1 (kSeq (fun s => Rf35_j7001 (cutTo VG0135 (some [(0, .plain), (5, .plain), (6, .plain), (8, .plain), (9, .plain)]) s)) (kSeq (fun s => Rf35_l6029 (cutTo VG0135 (some [(0, .plain), (5, .plain), (6, .plain), (8, .own 56), (9, .plain)]) s)) (kBlock 0 (kSeq (fun s => Rf35_j15003 (cutTo VG0135 (some [(6, .plain), (8, .plain)]) s)) (kFin VG0135 (some [(2, (.own 57)), (3, .plain), (4, .plain)]) (Try.f35).results.toList)))))) = f35_n111101001001 F (fun w => Rf35_j7001 (ef35_j7001 w)) (fun w => Rf35_l6029 (ef35_l6029 w)) (fun w => Rf35_j15003 (ef35_j15003 w)) v :=
  seq_cut (c := (sub (bodyOf Try.f35) [1, 1, 1, 1, 0, 1, 0, 0, 1, 0, 0, 1])) (a := (sub (bodyOf Try.f35) [1, 1, 1, 1, 0, 1, 0, 0, 1, 0, 0, 1, 0])) (b := (sub (bodyOf Try.f35) [1, 1, 1, 1, 0, 1, 0, 0, 1, 0, 0, 1, 1])) (by kernel_rfl) (spec := [(0, .plain), (5, .plain), (6, .plain), (8, .plain), (9, .plain), (10, .plain)]) (by kernel_rfl) ef35_j9018 ef35_j13003 (kBlock 1 (kSeq (fun s => Rf35_j7001 (cutTo VG0135 (some [(0, .plain), (5, .plain), (6, .plain), (8, .plain), (9, .plain)]) s)) (kSeq (fun s => Rf35_l6029 (cutTo VG0135 (some [(0, .plain), (5, .plain), (6, .plain), (8, .own 56), (9, .plain)]) s)) (kBlock 0 (kSeq (fun s => Rf35_j15003 (cutTo VG0135 (some [(6, .plain), (8, .plain)]) s)) (kFin VG0135 (some [(2, (.own 57)), (3, .plain), (4, .plain)]) (Try.f35).results.toList)))))) (fun k => f35_n1111010010010 F k (fun w => Rf35_j7001 (ef35_j7001 w)) (fun w => Rf35_l6029 (ef35_l6029 w)) (fun w => Rf35_j15003 (ef35_j15003 w))) (f35_n1111010010011 F (fun w => Rf35_j7001 (ef35_j7001 w)) (fun w => Rf35_l6029 (ef35_l6029 w)) (fun w => Rf35_j15003 (ef35_j15003 w)))
    (fun Rf35_j13003 => f35_n1111010010010_eq F Rf35_j13003 Rf35_j7001 Rf35_l6029 Rf35_j15003) (f35_n1111010010011_eq F Rf35_j7001 Rf35_l6029 Rf35_j15003)
def f35_n11110100100 (F : Nat) (kf35_j7001 : (List Int) × Int × Int × Nat × Int × (List Int) → Option (AV × List Blk)) (kf35_l6029 : (List Int) × Int × Int × Nat × Int × (List Int) → Option (AV × List Blk)) (kf35_j15003 : Int × Nat × (List Int) → Option (AV × List Blk)) : (List Int) × Int × Int × Nat × Int × (List Int) → Option (AV × List Blk) := fun v => f35_n111101001000 F (f35_n111101001001 F kf35_j7001 kf35_l6029 kf35_j15003) kf35_j7001 kf35_l6029 kf35_j15003 v
theorem f35_n11110100100_eq (F : Nat) (Rf35_j7001 : St → Option (AV × List Blk)) (Rf35_l6029 : St → Option (AV × List Blk)) (Rf35_j15003 : St → Option (AV × List Blk)) : ∀ v, aexec VG0135 (Af35 F) (sub (bodyOf Try.f35) [1, 1, 1, 1, 0, 1, 0, 0, 1, 0, 0]) (ef35_j8023 v) (kBlock 1 (kSeq (fun s => Rf35_j7001 (cutTo VG0135 (some [(0, .plain), (5, .plain), (6, .plain), (8, .plain), (9, .plain)]) s)) (kSeq (fun s => Rf35_l6029 (cutTo VG0135 (some [(0, .plain), (5, .plain), (6, .plain), (8, .own 56), (9, .plain)]) s)) (kBlock 0 (kSeq (fun s => Rf35_j15003 (cutTo VG0135 (some [(6, .plain), (8, .plain)]) s)) (kFin VG0135 (some [(2, (.own 57)), (3, .plain), (4, .plain)]) (Try.f35).results.toList)))))) = f35_n11110100100 F (fun w => Rf35_j7001 (ef35_j7001 w)) (fun w => Rf35_l6029 (ef35_l6029 w)) (fun w => Rf35_j15003 (ef35_j15003 w)) v :=
  seq_cut (c := (sub (bodyOf Try.f35) [1, 1, 1, 1, 0, 1, 0, 0, 1, 0, 0])) (a := (sub (bodyOf Try.f35) [1, 1, 1, 1, 0, 1, 0, 0, 1, 0, 0, 0])) (b := (sub (bodyOf Try.f35) [1, 1, 1, 1, 0, 1, 0, 0, 1, 0, 0, 1])) (by kernel_rfl) (spec := [(0, .plain), (5, .plain), (6, .plain), (8, .plain), (9, .plain), (10, .plain)]) (by kernel_rfl) ef35_j8023 ef35_j9018 (kBlock 1 (kSeq (fun s => Rf35_j7001 (cutTo VG0135 (some [(0, .plain), (5, .plain), (6, .plain), (8, .plain), (9, .plain)]) s)) (kSeq (fun s => Rf35_l6029 (cutTo VG0135 (some [(0, .plain), (5, .plain), (6, .plain), (8, .own 56), (9, .plain)]) s)) (kBlock 0 (kSeq (fun s => Rf35_j15003 (cutTo VG0135 (some [(6, .plain), (8, .plain)]) s)) (kFin VG0135 (some [(2, (.own 57)), (3, .plain), (4, .plain)]) (Try.f35).results.toList)))))) (fun k => f35_n111101001000 F k (fun w => Rf35_j7001 (ef35_j7001 w)) (fun w => Rf35_l6029 (ef35_l6029 w)) (fun w => Rf35_j15003 (ef35_j15003 w))) (f35_n111101001001 F (fun w => Rf35_j7001 (ef35_j7001 w)) (fun w => Rf35_l6029 (ef35_l6029 w)) (fun w => Rf35_j15003 (ef35_j15003 w)))
    (fun Rf35_j9018 => f35_n111101001000_eq F Rf35_j9018 Rf35_j7001 Rf35_l6029 Rf35_j15003) (f35_n111101001001_eq F Rf35_j7001 Rf35_l6029 Rf35_j15003)
def f35_n1111010010 (F : Nat) (kf35_j7001 : (List Int) × Int × Int × Nat × Int × (List Int) → Option (AV × List Blk)) (kf35_l6029 : (List Int) × Int × Int × Nat × Int × (List Int) → Option (AV × List Blk)) (kf35_j15003 : Int × Nat × (List Int) → Option (AV × List Blk)) : (List Int) × Int × Int × Nat × Int × (List Int) → Option (AV × List Blk) := f35_n11110100100 F kf35_j7001 kf35_l6029 kf35_j15003
theorem f35_n1111010010_eq (F : Nat) (Rf35_j7001 : St → Option (AV × List Blk)) (Rf35_l6029 : St → Option (AV × List Blk)) (Rf35_j15003 : St → Option (AV × List Blk)) : ∀ v, aexec VG0135 (Af35 F) (sub (bodyOf Try.f35) [1, 1, 1, 1, 0, 1, 0, 0, 1, 0]) (ef35_j8023 v) (kSeq (fun s => Rf35_j7001 (cutTo VG0135 (some [(0, .plain), (5, .plain), (6, .plain), (8, .plain), (9, .plain)]) s)) (kSeq (fun s => Rf35_l6029 (cutTo VG0135 (some [(0, .plain), (5, .plain), (6, .plain), (8, .own 56), (9, .plain)]) s)) (kBlock 0 (kSeq (fun s => Rf35_j15003 (cutTo VG0135 (some [(6, .plain), (8, .plain)]) s)) (kFin VG0135 (some [(2, (.own 57)), (3, .plain), (4, .plain)]) (Try.f35).results.toList))))) = f35_n1111010010 F (fun w => Rf35_j7001 (ef35_j7001 w)) (fun w => Rf35_l6029 (ef35_l6029 w)) (fun w => Rf35_j15003 (ef35_j15003 w)) v := fun v =>
  (block_in (c := (sub (bodyOf Try.f35) [1, 1, 1, 1, 0, 1, 0, 0, 1, 0])) (d := (sub (bodyOf Try.f35) [1, 1, 1, 1, 0, 1, 0, 0, 1, 0, 0])) (id := 1) (by kernel_rfl) _ _).trans (f35_n11110100100_eq F Rf35_j7001 Rf35_l6029 Rf35_j15003 v)
def f35_n1111010011 (F : Nat) (kf35_l6029 : (List Int) × Int × Int × Nat × Int × (List Int) → Option (AV × List Blk)) (kf35_j15003 : Int × Nat × (List Int) → Option (AV × List Blk)) : (List Int) × Int × Int × Nat × Int × (List Int) → Option (AV × List Blk) := fun (t0, t5, t6, x4, t9, x6) => (kf35_l6029 (t0, t5, t6, x4, (IntKind.i64.wrap (t9 + (1 : Int))), x6))
theorem f35_n1111010011_eq (F : Nat) (Rf35_l6029 : St → Option (AV × List Blk)) (Rf35_j15003 : St → Option (AV × List Blk)) : ∀ v, aexec VG0135 (Af35 F) (sub (bodyOf Try.f35) [1, 1, 1, 1, 0, 1, 0, 0, 1, 1]) (ef35_j7001 v) (kSeq (fun s => Rf35_l6029 (cutTo VG0135 (some [(0, .plain), (5, .plain), (6, .plain), (8, .own 56), (9, .plain)]) s)) (kBlock 0 (kSeq (fun s => Rf35_j15003 (cutTo VG0135 (some [(6, .plain), (8, .plain)]) s)) (kFin VG0135 (some [(2, (.own 57)), (3, .plain), (4, .plain)]) (Try.f35).results.toList)))) = f35_n1111010011 F (fun w => Rf35_l6029 (ef35_l6029 w)) (fun w => Rf35_j15003 (ef35_j15003 w)) v := by
  rintro ⟨t0, t5, t6, x4, t9, x6⟩; kernel_rfl
def f35_n111101001 (F : Nat) (kf35_l6029 : (List Int) × Int × Int × Nat × Int × (List Int) → Option (AV × List Blk)) (kf35_j15003 : Int × Nat × (List Int) → Option (AV × List Blk)) : (List Int) × Int × Int × Nat × Int × (List Int) → Option (AV × List Blk) := fun v => f35_n1111010010 F (f35_n1111010011 F kf35_l6029 kf35_j15003) kf35_l6029 kf35_j15003 v
theorem f35_n111101001_eq (F : Nat) (Rf35_l6029 : St → Option (AV × List Blk)) (Rf35_j15003 : St → Option (AV × List Blk)) : ∀ v, aexec VG0135 (Af35 F) (sub (bodyOf Try.f35) [1, 1, 1, 1, 0, 1, 0, 0, 1]) (ef35_j8023 v) (kSeq (fun s => Rf35_l6029 (cutTo VG0135 (some [(0, .plain), (5, .plain), (6, .plain), (8, .own 56), (9, .plain)]) s)) (kBlock 0 (kSeq (fun s => Rf35_j15003 (cutTo VG0135 (some [(6, .plain), (8, .plain)]) s)) (kFin VG0135 (some [(2, (.own 57)), (3, .plain), (4, .plain)]) (Try.f35).results.toList)))) = f35_n111101001 F (fun w => Rf35_l6029 (ef35_l6029 w)) (fun w => Rf35_j15003 (ef35_j15003 w)) v :=
  seq_cut (c := (sub (bodyOf Try.f35) [1, 1, 1, 1, 0, 1, 0, 0, 1])) (a := (sub (bodyOf Try.f35) [1, 1, 1, 1, 0, 1, 0, 0, 1, 0])) (b := (sub (bodyOf Try.f35) [1, 1, 1, 1, 0, 1, 0, 0, 1, 1])) (by kernel_rfl) (spec := [(0, .plain), (5, .plain), (6, .plain), (8, .plain), (9, .plain)]) (by kernel_rfl) ef35_j8023 ef35_j7001 (kSeq (fun s => Rf35_l6029 (cutTo VG0135 (some [(0, .plain), (5, .plain), (6, .plain), (8, .own 56), (9, .plain)]) s)) (kBlock 0 (kSeq (fun s => Rf35_j15003 (cutTo VG0135 (some [(6, .plain), (8, .plain)]) s)) (kFin VG0135 (some [(2, (.own 57)), (3, .plain), (4, .plain)]) (Try.f35).results.toList)))) (fun k => f35_n1111010010 F k (fun w => Rf35_l6029 (ef35_l6029 w)) (fun w => Rf35_j15003 (ef35_j15003 w))) (f35_n1111010011 F (fun w => Rf35_l6029 (ef35_l6029 w)) (fun w => Rf35_j15003 (ef35_j15003 w)))
    (fun Rf35_j7001 => f35_n1111010010_eq F Rf35_j7001 Rf35_l6029 Rf35_j15003) (f35_n1111010011_eq F Rf35_l6029 Rf35_j15003)
def f35_n11110100 (F : Nat) (kf35_l6029 : (List Int) × Int × Int × Nat × Int × (List Int) → Option (AV × List Blk)) (kf35_j15003 : Int × Nat × (List Int) → Option (AV × List Blk)) : (List Int) × Int × Int × Nat × Int × (List Int) → Option (AV × List Blk) := fun v => f35_n111101000 F (f35_n111101001 F kf35_l6029 kf35_j15003) kf35_l6029 kf35_j15003 v
theorem f35_n11110100_eq (F : Nat) (Rf35_l6029 : St → Option (AV × List Blk)) (Rf35_j15003 : St → Option (AV × List Blk)) : ∀ v, aexec VG0135 (Af35 F) (sub (bodyOf Try.f35) [1, 1, 1, 1, 0, 1, 0, 0]) (ef35_l6029 v) (kSeq (fun s => Rf35_l6029 (cutTo VG0135 (some [(0, .plain), (5, .plain), (6, .plain), (8, .own 56), (9, .plain)]) s)) (kBlock 0 (kSeq (fun s => Rf35_j15003 (cutTo VG0135 (some [(6, .plain), (8, .plain)]) s)) (kFin VG0135 (some [(2, (.own 57)), (3, .plain), (4, .plain)]) (Try.f35).results.toList)))) = f35_n11110100 F (fun w => Rf35_l6029 (ef35_l6029 w)) (fun w => Rf35_j15003 (ef35_j15003 w)) v :=
  seq_cut (c := (sub (bodyOf Try.f35) [1, 1, 1, 1, 0, 1, 0, 0])) (a := (sub (bodyOf Try.f35) [1, 1, 1, 1, 0, 1, 0, 0, 0])) (b := (sub (bodyOf Try.f35) [1, 1, 1, 1, 0, 1, 0, 0, 1])) (by kernel_rfl) (spec := [(0, .plain), (5, .plain), (6, .plain), (8, .plain), (9, .plain)]) (by kernel_rfl) ef35_l6029 ef35_j8023 (kSeq (fun s => Rf35_l6029 (cutTo VG0135 (some [(0, .plain), (5, .plain), (6, .plain), (8, .own 56), (9, .plain)]) s)) (kBlock 0 (kSeq (fun s => Rf35_j15003 (cutTo VG0135 (some [(6, .plain), (8, .plain)]) s)) (kFin VG0135 (some [(2, (.own 57)), (3, .plain), (4, .plain)]) (Try.f35).results.toList)))) (fun k => f35_n111101000 F k (fun w => Rf35_l6029 (ef35_l6029 w)) (fun w => Rf35_j15003 (ef35_j15003 w))) (f35_n111101001 F (fun w => Rf35_l6029 (ef35_l6029 w)) (fun w => Rf35_j15003 (ef35_j15003 w)))
    (fun Rf35_j8023 => f35_n111101000_eq F Rf35_j8023 Rf35_l6029 Rf35_j15003) (f35_n111101001_eq F Rf35_l6029 Rf35_j15003)
def f35_n1111010_i : (List Int) × Int × Int × Int → (List Int) × Int × Int × Nat × Int × (List Int) := fun (t0, t5, t6, t9) => (t0, t5, t6, 0, t9, [])
def f35_n1111010 (F : Nat) (kf35_j15003 : Int × Nat × (List Int) → Option (AV × List Blk)) : (List Int) × Int × Int × Int → Option (AV × List Blk) := fun v => loopN (fun k => f35_n11110100 F k kf35_j15003) F (f35_n1111010_i v)
theorem f35_n1111010_eq (F : Nat) (Rf35_j15003 : St → Option (AV × List Blk)) : ∀ v, aexec VG0135 (Af35 F) (sub (bodyOf Try.f35) [1, 1, 1, 1, 0, 1, 0]) (ef35_j6031 v) (kBlock 0 (kSeq (fun s => Rf35_j15003 (cutTo VG0135 (some [(6, .plain), (8, .plain)]) s)) (kFin VG0135 (some [(2, (.own 57)), (3, .plain), (4, .plain)]) (Try.f35).results.toList))) = f35_n1111010 F (fun w => Rf35_j15003 (ef35_j15003 w)) v :=
  loop_cut (c := (sub (bodyOf Try.f35) [1, 1, 1, 1, 0, 1, 0])) (d := (sub (bodyOf Try.f35) [1, 1, 1, 1, 0, 1, 0, 0])) (by kernel_rfl) (spec := [(0, .plain), (5, .plain), (6, .plain), (8, .own 56), (9, .plain)]) (by kernel_rfl) ef35_j6031 ef35_l6029 (kBlock 0 (kSeq (fun s => Rf35_j15003 (cutTo VG0135 (some [(6, .plain), (8, .plain)]) s)) (kFin VG0135 (some [(2, (.own 57)), (3, .plain), (4, .plain)]) (Try.f35).results.toList))) f35_n1111010_i (fun k => f35_n11110100 F k (fun w => Rf35_j15003 (ef35_j15003 w)))
    (by rintro ⟨t0, t5, t6, t9⟩; kernel_rfl) (fun Rf35_l6029 => f35_n11110100_eq F Rf35_l6029 Rf35_j15003)
def f35_n111101 (F : Nat) (kf35_j15003 : Int × Nat × (List Int) → Option (AV × List Blk)) : (List Int) × Int × Int × Int → Option (AV × List Blk) := f35_n1111010 F kf35_j15003
theorem f35_n111101_eq (F : Nat) (Rf35_j15003 : St → Option (AV × List Blk)) : ∀ v, aexec VG0135 (Af35 F) (sub (bodyOf Try.f35) [1, 1, 1, 1, 0, 1]) (ef35_j6031 v) (kSeq (fun s => Rf35_j15003 (cutTo VG0135 (some [(6, .plain), (8, .plain)]) s)) (kFin VG0135 (some [(2, (.own 57)), (3, .plain), (4, .plain)]) (Try.f35).results.toList)) = f35_n111101 F (fun w => Rf35_j15003 (ef35_j15003 w)) v := fun v =>
  (block_in (c := (sub (bodyOf Try.f35) [1, 1, 1, 1, 0, 1])) (d := (sub (bodyOf Try.f35) [1, 1, 1, 1, 0, 1, 0])) (id := 0) (by kernel_rfl) _ _).trans (f35_n1111010_eq F Rf35_j15003 v)
def f35_n11110 (F : Nat) (kf35_j15003 : Int × Nat × (List Int) → Option (AV × List Blk)) : (List Int) × Int × Int → Option (AV × List Blk) := fun v => f35_n111100 F (f35_n111101 F kf35_j15003) kf35_j15003 v
theorem f35_n11110_eq (F : Nat) (Rf35_j15003 : St → Option (AV × List Blk)) : ∀ v, aexec VG0135 (Af35 F) (sub (bodyOf Try.f35) [1, 1, 1, 1, 0]) (ef35_j5037 v) (kSeq (fun s => Rf35_j15003 (cutTo VG0135 (some [(6, .plain), (8, .plain)]) s)) (kFin VG0135 (some [(2, (.own 57)), (3, .plain), (4, .plain)]) (Try.f35).results.toList)) = f35_n11110 F (fun w => Rf35_j15003 (ef35_j15003 w)) v :=
  seq_cut (c := (sub (bodyOf Try.f35) [1, 1, 1, 1, 0])) (a := (sub (bodyOf Try.f35) [1, 1, 1, 1, 0, 0])) (b := (sub (bodyOf Try.f35) [1, 1, 1, 1, 0, 1])) (by kernel_rfl) (spec := [(0, .plain), (5, .plain), (6, .plain), (8, .plain), (9, .plain)]) (by kernel_rfl) ef35_j5037 ef35_j6031 (kSeq (fun s => Rf35_j15003 (cutTo VG0135 (some [(6, .plain), (8, .plain)]) s)) (kFin VG0135 (some [(2, (.own 57)), (3, .plain), (4, .plain)]) (Try.f35).results.toList)) (fun k => f35_n111100 F k (fun w => Rf35_j15003 (ef35_j15003 w))) (f35_n111101 F (fun w => Rf35_j15003 (ef35_j15003 w)))
    (fun Rf35_j6031 => f35_n111100_eq F Rf35_j6031 Rf35_j15003) (f35_n111101_eq F Rf35_j15003)
def f35_n11111 (F : Nat) : Int × Nat × (List Int) → Option (AV × List Blk) := fun (t6, x2, x3) => (some ((.tup (.cons 0 (.own 0 x2 16) (.cons 0 (.int .i64 t6) (.cons 0 (.int .i64 (0 : Int)) .nil)))), [(.cells (x2 * 16) (.rI .u8 x3) true)]))
theorem f35_n11111_eq (F : Nat) : ∀ v, aexec VG0135 (Af35 F) (sub (bodyOf Try.f35) [1, 1, 1, 1, 1]) (ef35_j15003 v) (kFin VG0135 (some [(2, (.own 57)), (3, .plain), (4, .plain)]) (Try.f35).results.toList) = f35_n11111 F v := by
  rintro ⟨t6, x2, x3⟩; kernel_rfl
def f35_n1111 (F : Nat) : (List Int) × Int × Int → Option (AV × List Blk) := fun v => f35_n11110 F (f35_n11111 F) v
theorem f35_n1111_eq (F : Nat) : ∀ v, aexec VG0135 (Af35 F) (sub (bodyOf Try.f35) [1, 1, 1, 1]) (ef35_j5037 v) (kFin VG0135 (some [(2, (.own 57)), (3, .plain), (4, .plain)]) (Try.f35).results.toList) = f35_n1111 F v :=
  seq_cut (c := (sub (bodyOf Try.f35) [1, 1, 1, 1])) (a := (sub (bodyOf Try.f35) [1, 1, 1, 1, 0])) (b := (sub (bodyOf Try.f35) [1, 1, 1, 1, 1])) (by kernel_rfl) (spec := [(6, .plain), (8, .plain)]) (by kernel_rfl) ef35_j5037 ef35_j15003 (kFin VG0135 (some [(2, (.own 57)), (3, .plain), (4, .plain)]) (Try.f35).results.toList) (fun k => f35_n11110 F k) (f35_n11111 F)
    (fun Rf35_j15003 => f35_n11110_eq F Rf35_j15003) (f35_n11111_eq F)
def f35_n111 (F : Nat) : (List Int) × Int × Int → Option (AV × List Blk) := fun v => f35_n1110 F (f35_n1111 F) v
theorem f35_n111_eq (F : Nat) : ∀ v, aexec VG0135 (Af35 F) (sub (bodyOf Try.f35) [1, 1, 1]) (ef35_j4039 v) (kFin VG0135 (some [(2, (.own 57)), (3, .plain), (4, .plain)]) (Try.f35).results.toList) = f35_n111 F v :=
  seq_cut (c := (sub (bodyOf Try.f35) [1, 1, 1])) (a := (sub (bodyOf Try.f35) [1, 1, 1, 0])) (b := (sub (bodyOf Try.f35) [1, 1, 1, 1])) (by kernel_rfl) (spec := [(0, .plain), (5, .plain), (6, .plain), (8, .plain)]) (by kernel_rfl) ef35_j4039 ef35_j5037 (kFin VG0135 (some [(2, (.own 57)), (3, .plain), (4, .plain)]) (Try.f35).results.toList) (fun k => f35_n1110 F k) (f35_n1111 F)
    (fun Rf35_j5037 => f35_n1110_eq F Rf35_j5037) (f35_n1111_eq F)
def f35_n11 (F : Nat) : (List Int) × Int × Int × Int → Option (AV × List Blk) := fun v => f35_n110 F (f35_n111 F) v
theorem f35_n11_eq (F : Nat) : ∀ v, aexec VG0135 (Af35 F) (sub (bodyOf Try.f35) [1, 1]) (ef35_j2047 v) (kFin VG0135 (some [(2, (.own 57)), (3, .plain), (4, .plain)]) (Try.f35).results.toList) = f35_n11 F v :=
  seq_cut (c := (sub (bodyOf Try.f35) [1, 1])) (a := (sub (bodyOf Try.f35) [1, 1, 0])) (b := (sub (bodyOf Try.f35) [1, 1, 1])) (by kernel_rfl) (spec := [(0, .plain), (5, .plain), (6, .plain)]) (by kernel_rfl) ef35_j2047 ef35_j4039 (kFin VG0135 (some [(2, (.own 57)), (3, .plain), (4, .plain)]) (Try.f35).results.toList) (fun k => f35_n110 F k) (f35_n111 F)
    (fun Rf35_j4039 => f35_n110_eq F Rf35_j4039) (f35_n111_eq F)
def f35_n1 (F : Nat) : (List Int) → Option (AV × List Blk) := fun v => f35_n10 F (f35_n11 F) v
theorem f35_n1_eq (F : Nat) : ∀ v, aexec VG0135 (Af35 F) (sub (bodyOf Try.f35) [1]) (ef35_j1049 v) (kFin VG0135 (some [(2, (.own 57)), (3, .plain), (4, .plain)]) (Try.f35).results.toList) = f35_n1 F v :=
  seq_cut (c := (sub (bodyOf Try.f35) [1])) (a := (sub (bodyOf Try.f35) [1, 0])) (b := (sub (bodyOf Try.f35) [1, 1])) (by kernel_rfl) (spec := [(0, .plain), (5, .plain), (6, .plain), (7, .plain)]) (by kernel_rfl) ef35_j1049 ef35_j2047 (kFin VG0135 (some [(2, (.own 57)), (3, .plain), (4, .plain)]) (Try.f35).results.toList) (fun k => f35_n10 F k) (f35_n11 F)
    (fun Rf35_j2047 => f35_n10_eq F Rf35_j2047) (f35_n11_eq F)
def f35_nt (F : Nat) : (List Int) → Option (AV × List Blk) := fun v => f35_n0 F (f35_n1 F) v
theorem f35_nt_eq (F : Nat) : ∀ v, aexec VG0135 (Af35 F) (sub (bodyOf Try.f35) []) (ef35_a v) (kFin VG0135 (some [(2, (.own 57)), (3, .plain), (4, .plain)]) (Try.f35).results.toList) = f35_nt F v :=
  seq_cut (c := (sub (bodyOf Try.f35) [])) (a := (sub (bodyOf Try.f35) [0])) (b := (sub (bodyOf Try.f35) [1])) (by kernel_rfl) (spec := [(0, .plain)]) (by kernel_rfl) ef35_a ef35_j1049 (kFin VG0135 (some [(2, (.own 57)), (3, .plain), (4, .plain)]) (Try.f35).results.toList) (fun k => f35_n0 F k) (f35_n1 F)
    (fun Rf35_j1049 => f35_n0_eq F Rf35_j1049) (f35_n1_eq F)
/-- gantry/gantryref01.GetDigests -/
def f35 (F : Nat) : (List Int) → Option (AV × List Blk) := f35_nt F
theorem f35_body (F : Nat) (a0 : List Int) : abody VG0135 (Af35 F) Try.f35 [(.vs (.rI .u8 a0) 0 1)] [] = f35 F a0 :=
  (abody_in (c := (sub (bodyOf Try.f35) [])) (by kernel_rfl) (s := ef35_a a0) (by kernel_rfl)).trans (f35_nt_eq F a0)
def r35 : CRun := fun X H => match X, H with
  | [(.vs (.rI .u8 a0) 0 1)], [] => some ((decide (a0.length < 1073741000)), (.tup (.cons 0 (.own 0 (Wire.getDigs a0).1 16) (.cons 0 (.int .i64 (Wire.getDigs a0).2.2.1) (.cons 0 (.int .i64 (Wire.getDigs a0).2.2.2) .nil)))), [(.cells ((Wire.getDigs a0).1 * 16) (.rI .u8 (Wire.getDigs a0).2.1) true)])
  | _, _ => none
theorem s35 (a0 : List Int) (hp : ((decide (a0.length < 1073741000))) = true) (h0 : okV (.vs (.rI .u8 a0) 0 1)) : ∃ F, f35 F a0 = some ((.tup (.cons 0 (.own 0 (Wire.getDigs a0).1 16) (.cons 0 (.int .i64 (Wire.getDigs a0).2.2.1) (.cons 0 (.int .i64 (Wire.getDigs a0).2.2.2) .nil)))), [(.cells ((Wire.getDigs a0).1 * 16) (.rI .u8 (Wire.getDigs a0).2.1) true)]) := by
  have hb := Wire.okB_of h0.1
  have hl : a0.length < 1073741000 := of_decide_eq_true hp
  refine ⟨a0.length + 17, ?_⟩
  simp only [f35, f35_nt, f35_n0, f35_n1, f35_n10, f35_n11, f35_n110, f35_n111, f35_n1110, f35_n1111, f35_n11110, f35_n111100, f35_n111101, f35_n1111010, f35_n1111010_i, int_bne, dec_and, Wire.rcount_err]
  rw [cond_pos (by omega)]
  unfold Wire.getDigs
  by_cases c : (Wire.count a0 16).2.2 = 0
  · obtain ⟨g1, g2, g3, g4, g5, g6, g7⟩ := Wire.count_ok hb (by omega) c
    rw [cond_neg (by omega), if_pos c, Wire.rcount_ok c, g2, g3]
    generalize (Wire.getInt a0).1 = n at *
    generalize (Wire.getInt a0).2.1 = at0 at *
    obtain ⟨N, rfl⟩ := Int.eq_ofNat_of_zero_le g4
    refine loopN_from (fun i => (a0, (N : Int), at0 + 16 * (i : Int), i, (i : Int), (a0.drop at0.toNat).take (16 * i))) N (by simp) (fun i hi k => ?_) (fun k => ?_) _ (by omega)
    · simp only [f35_n11110100, f35_n111101000, f35_n111101001, f35_n1111010010, f35_n11110100100, f35_n111101001000, f35_n111101001001, f35_n1111010010010, f35_n11110100100100, f35_n11110100100101, f35_n111101001001010, f35_n111101001001010_i]
      rw [cond_pos (by omega)]
      refine loopN_from (fun j => (a0, (N : Int), at0 + 16 * (i : Int), i, (i : Int), (j : Int), (a0.drop at0.toNat).take (16 * i), (List.range j).map (fun j => a0.getD (at0.toNat + 16 * i + j) 0) ++ List.replicate (16 - j) 0)) 16 (by rfl) (fun j hj k' => ?_) (fun k' => ?_) _ (by omega)
      · simp only [f35_n1111010010010100, dec_and]
        rw [i64w (x := at0 + 16 * (i : Int) + (j : Int)) (by omega) (by omega), i64w (x := (j : Int) + 1) (by omega) (by omega), cond_pos (by omega), cond_pos (by omega), cond_pos (by omega), show (at0 + 16 * (i : Int) + (j : Int)).toNat = at0.toNat + 16 * i + j by omega, Int.toNat_natCast, fill_set _ 0 16 j hj rfl]
        rfl
      · simp only [f35_n1111010010010100]
        rw [cond_neg (by omega)]
        simp only [f35_n1111010010011, f35_n1111010011]
        have e : (List.range 16).map (fun j => a0.getD (at0.toNat + 16 * i + j) 0) = ((a0.drop at0.toNat).drop (16 * i)).take 16 := by
          refine List.ext_getElem (by simp; omega) fun j h1 h2 => ?_
          simp only [List.length_map, List.length_range] at h1
          rw [List.getElem_map, List.getElem_range, List.getElem_take, List.getElem_drop, List.getElem_drop, List.getD_eq_getElem?_getD, List.getElem?_eq_getElem (by omega)]
          simp only [Option.getD_some, Nat.add_assoc]
        rw [Nat.sub_self, List.replicate_zero, List.append_nil, e, cond_pos (by omega), ← List.take_add, i64w (x := at0 + 16 * (i : Int) + 16) (by omega) (by omega), i64w (x := (i : Int) + 1) (by omega) (by omega), show at0 + 16 * (i : Int) + 16 = at0 + 16 * ((i + 1 : Nat) : Int) by omega]
        rfl
    · simp only [f35_n11110100, f35_n111101000]
      rw [cond_neg (by omega)]
      rfl
  · rw [cond_pos c, if_neg c]; rfl

theorem c35 : CallOk Try.prog G01 35 r35 := callOk_of (V := VG0135) mixed tys eVG0135 (f := 35) (fn := Try.f35) Try.func35 (by kernel_rfl) (c := sub (bodyOf Try.f35) []) (by kernel_rfl) (by
  intro X H r H' h hX hH
  unfold r35 at h; split at h <;> try contradiction
  simp only [Option.some.injEq, Prod.mk.injEq] at h
  obtain ⟨hp, rfl, rfl⟩ := h
  obtain ⟨F, hF⟩ := s35 _ hp (hX _ (.head _))
  exact ⟨Af35 F, (f35_body F _).trans hF⟩)
/-! gantry/gantrylaw01.few -/
def lVG0111 : List CEnt := []
def VG0111 : Env := mkEnv T01 G01 lVG0111
theorem eVG0111 : EOk Try.prog VG0111 := eok_mk (by exact trivial)
def Af11 (F : Nat) : Cuts := { F := F, at_ := fun n => match n with | 3012 => some [(3, .plain), (8, .plain), (9, .plain), (10, .plain)] | _ => none, join := fun n => match n with | 1022 => some [(0, .plain)] | 2020 => some [(0, .plain), (3, .plain)] | 3014 => some [(3, .plain), (8, .plain), (9, .plain), (10, .plain)] | 7003 => some [(3, .plain)] | _ => none }
def ef11_a : (List (List Int)) → St := fun a0 => { tmps := [(0, (.vs (.rS a0) 0 1))], heap := [], next := 0, nt := 21, m := 0 }
def ef11_j1022 : (List (List Int)) → St := fun t0 => { tmps := [(0, (.vs (.rS t0) 0 1))], heap := [], next := 0, nt := 21, m := 0 }
def ef11_j2020 : (List (List Int)) × Int → St := fun (t0, t3) => { tmps := [(0, (.vs (.rS t0) 0 1)), (3, (.int .i64 t3))], heap := [], next := 0, nt := 21, m := 0 }
def ef11_j3014 : Int × (List (List Int)) × Int × Int → St := fun (t3, t8, t9, t10) => { tmps := [(3, (.int .i64 t3)), (8, (.vs (.rS t8) 0 1)), (9, (.int .i64 t9)), (10, (.int .i64 t10))], heap := [], next := 0, nt := 21, m := 0 }
def ef11_l3012 : Int × (List (List Int)) × Int × Int → St := fun (t3, t8, t9, t10) => { tmps := [(3, (.int .i64 t3)), (8, (.vs (.rS t8) 0 1)), (9, (.int .i64 t9)), (10, (.int .i64 t10))], heap := [], next := 0, nt := 21, m := 0 }
def ef11_j7003 : Int → St := fun t3 => { tmps := [(3, (.int .i64 t3))], heap := [], next := 0, nt := 21, m := 0 }
def f11_n0 (F : Nat) (kf11_j1022 : (List (List Int)) → Option (AV × List Blk)) : (List (List Int)) → Option (AV × List Blk) := fun a0 => (kf11_j1022 a0)
theorem f11_n0_eq (F : Nat) (Rf11_j1022 : St → Option (AV × List Blk)) : ∀ v, aexec VG0111 (Af11 F) (sub (bodyOf Try.f11) [0]) (ef11_a v) (kSeq (fun s => Rf11_j1022 (cutTo VG0111 (some [(0, .plain)]) s)) (kFin VG0111 none (Try.f11).results.toList)) = f11_n0 F (fun w => Rf11_j1022 (ef11_j1022 w)) v := by
  intro a0; kernel_rfl
def f11_n10 (F : Nat) (kf11_j2020 : (List (List Int)) × Int → Option (AV × List Blk)) : (List (List Int)) → Option (AV × List Blk) := fun t0 => (kf11_j2020 (t0, (↑t0.length : Int)))
theorem f11_n10_eq (F : Nat) (Rf11_j2020 : St → Option (AV × List Blk)) : ∀ v, aexec VG0111 (Af11 F) (sub (bodyOf Try.f11) [1, 0]) (ef11_j1022 v) (kSeq (fun s => Rf11_j2020 (cutTo VG0111 (some [(0, .plain), (3, .plain)]) s)) (kFin VG0111 none (Try.f11).results.toList)) = f11_n10 F (fun w => Rf11_j2020 (ef11_j2020 w)) v := by
  intro t0; kernel_rfl
def f11_n1100 (F : Nat) (kf11_j3014 : Int × (List (List Int)) × Int × Int → Option (AV × List Blk)) (kf11_j7003 : Int → Option (AV × List Blk)) : (List (List Int)) × Int → Option (AV × List Blk) := fun (t0, t3) => (kf11_j3014 (t3, t0, (↑t0.length : Int), (0 : Int)))
theorem f11_n1100_eq (F : Nat) (Rf11_j3014 : St → Option (AV × List Blk)) (Rf11_j7003 : St → Option (AV × List Blk)) : ∀ v, aexec VG0111 (Af11 F) (sub (bodyOf Try.f11) [1, 1, 0, 0]) (ef11_j2020 v) (kSeq (fun s => Rf11_j3014 (cutTo VG0111 (some [(3, .plain), (8, .plain), (9, .plain), (10, .plain)]) s)) (kSeq (fun s => Rf11_j7003 (cutTo VG0111 (some [(3, .plain)]) s)) (kFin VG0111 none (Try.f11).results.toList))) = f11_n1100 F (fun w => Rf11_j3014 (ef11_j3014 w)) (fun w => Rf11_j7003 (ef11_j7003 w)) v := by
  rintro ⟨t0, t3⟩; kernel_rfl
def f11_n110100 (F : Nat) (kf11_l3012 : Int × (List (List Int)) × Int × Int → Option (AV × List Blk)) (kf11_j7003 : Int → Option (AV × List Blk)) : Int × (List (List Int)) × Int × Int → Option (AV × List Blk) := fun (t3, t8, t9, t10) => (cond (decide (t10 < t9)) (cond ((decide (0 ≤ t10)) && (decide (t10 < (↑t8.length : Int)))) (kf11_l3012 ((IntKind.i64.wrap (t3 + (↑(t8.getD (Int.toNat t10) []).length : Int))), t8, t9, (IntKind.i64.wrap (t10 + (1 : Int))))) none) (kf11_j7003 t3))
theorem f11_n110100_eq (F : Nat) (Rf11_l3012 : St → Option (AV × List Blk)) (Rf11_j7003 : St → Option (AV × List Blk)) : ∀ v, aexec VG0111 (Af11 F) (sub (bodyOf Try.f11) [1, 1, 0, 1, 0, 0]) (ef11_l3012 v) (kSeq (fun s => Rf11_l3012 (cutTo VG0111 (some [(3, .plain), (8, .plain), (9, .plain), (10, .plain)]) s)) (kBlock 0 (kSeq (fun s => Rf11_j7003 (cutTo VG0111 (some [(3, .plain)]) s)) (kFin VG0111 none (Try.f11).results.toList)))) = f11_n110100 F (fun w => Rf11_l3012 (ef11_l3012 w)) (fun w => Rf11_j7003 (ef11_j7003 w)) v := by
  rintro ⟨t3, t8, t9, t10⟩; kernel_rfl
def f11_n11010_i : Int × (List (List Int)) × Int × Int → Int × (List (List Int)) × Int × Int := fun (t3, t8, t9, t10) => (t3, t8, t9, t10)
def f11_n11010 (F : Nat) (kf11_j7003 : Int → Option (AV × List Blk)) : Int × (List (List Int)) × Int × Int → Option (AV × List Blk) := fun v => loopN (fun k => f11_n110100 F k kf11_j7003) F (f11_n11010_i v)
theorem f11_n11010_eq (F : Nat) (Rf11_j7003 : St → Option (AV × List Blk)) : ∀ v, aexec VG0111 (Af11 F) (sub (bodyOf Try.f11) [1, 1, 0, 1, 0]) (ef11_j3014 v) (kBlock 0 (kSeq (fun s => Rf11_j7003 (cutTo VG0111 (some [(3, .plain)]) s)) (kFin VG0111 none (Try.f11).results.toList))) = f11_n11010 F (fun w => Rf11_j7003 (ef11_j7003 w)) v :=
  loop_cut (c := (sub (bodyOf Try.f11) [1, 1, 0, 1, 0])) (d := (sub (bodyOf Try.f11) [1, 1, 0, 1, 0, 0])) (by kernel_rfl) (spec := [(3, .plain), (8, .plain), (9, .plain), (10, .plain)]) (by kernel_rfl) ef11_j3014 ef11_l3012 (kBlock 0 (kSeq (fun s => Rf11_j7003 (cutTo VG0111 (some [(3, .plain)]) s)) (kFin VG0111 none (Try.f11).results.toList))) f11_n11010_i (fun k => f11_n110100 F k (fun w => Rf11_j7003 (ef11_j7003 w)))
    (by rintro ⟨t3, t8, t9, t10⟩; kernel_rfl) (fun Rf11_l3012 => f11_n110100_eq F Rf11_l3012 Rf11_j7003)
def f11_n1101 (F : Nat) (kf11_j7003 : Int → Option (AV × List Blk)) : Int × (List (List Int)) × Int × Int → Option (AV × List Blk) := f11_n11010 F kf11_j7003
theorem f11_n1101_eq (F : Nat) (Rf11_j7003 : St → Option (AV × List Blk)) : ∀ v, aexec VG0111 (Af11 F) (sub (bodyOf Try.f11) [1, 1, 0, 1]) (ef11_j3014 v) (kSeq (fun s => Rf11_j7003 (cutTo VG0111 (some [(3, .plain)]) s)) (kFin VG0111 none (Try.f11).results.toList)) = f11_n1101 F (fun w => Rf11_j7003 (ef11_j7003 w)) v := fun v =>
  (block_in (c := (sub (bodyOf Try.f11) [1, 1, 0, 1])) (d := (sub (bodyOf Try.f11) [1, 1, 0, 1, 0])) (id := 0) (by kernel_rfl) _ _).trans (f11_n11010_eq F Rf11_j7003 v)
def f11_n110 (F : Nat) (kf11_j7003 : Int → Option (AV × List Blk)) : (List (List Int)) × Int → Option (AV × List Blk) := fun v => f11_n1100 F (f11_n1101 F kf11_j7003) kf11_j7003 v
theorem f11_n110_eq (F : Nat) (Rf11_j7003 : St → Option (AV × List Blk)) : ∀ v, aexec VG0111 (Af11 F) (sub (bodyOf Try.f11) [1, 1, 0]) (ef11_j2020 v) (kSeq (fun s => Rf11_j7003 (cutTo VG0111 (some [(3, .plain)]) s)) (kFin VG0111 none (Try.f11).results.toList)) = f11_n110 F (fun w => Rf11_j7003 (ef11_j7003 w)) v :=
  seq_cut (c := (sub (bodyOf Try.f11) [1, 1, 0])) (a := (sub (bodyOf Try.f11) [1, 1, 0, 0])) (b := (sub (bodyOf Try.f11) [1, 1, 0, 1])) (by kernel_rfl) (spec := [(3, .plain), (8, .plain), (9, .plain), (10, .plain)]) (by kernel_rfl) ef11_j2020 ef11_j3014 (kSeq (fun s => Rf11_j7003 (cutTo VG0111 (some [(3, .plain)]) s)) (kFin VG0111 none (Try.f11).results.toList)) (fun k => f11_n1100 F k (fun w => Rf11_j7003 (ef11_j7003 w))) (f11_n1101 F (fun w => Rf11_j7003 (ef11_j7003 w)))
    (fun Rf11_j3014 => f11_n1100_eq F Rf11_j3014 Rf11_j7003) (f11_n1101_eq F Rf11_j7003)
def f11_n111 (F : Nat) : Int → Option (AV × List Blk) := fun t3 => (some ((.bool (decide (t3 ≤ (2000 : Int)))), []))
theorem f11_n111_eq (F : Nat) : ∀ v, aexec VG0111 (Af11 F) (sub (bodyOf Try.f11) [1, 1, 1]) (ef11_j7003 v) (kFin VG0111 none (Try.f11).results.toList) = f11_n111 F v := by
  intro t3; kernel_rfl
def f11_n11 (F : Nat) : (List (List Int)) × Int → Option (AV × List Blk) := fun v => f11_n110 F (f11_n111 F) v
theorem f11_n11_eq (F : Nat) : ∀ v, aexec VG0111 (Af11 F) (sub (bodyOf Try.f11) [1, 1]) (ef11_j2020 v) (kFin VG0111 none (Try.f11).results.toList) = f11_n11 F v :=
  seq_cut (c := (sub (bodyOf Try.f11) [1, 1])) (a := (sub (bodyOf Try.f11) [1, 1, 0])) (b := (sub (bodyOf Try.f11) [1, 1, 1])) (by kernel_rfl) (spec := [(3, .plain)]) (by kernel_rfl) ef11_j2020 ef11_j7003 (kFin VG0111 none (Try.f11).results.toList) (fun k => f11_n110 F k) (f11_n111 F)
    (fun Rf11_j7003 => f11_n110_eq F Rf11_j7003) (f11_n111_eq F)
def f11_n1 (F : Nat) : (List (List Int)) → Option (AV × List Blk) := fun v => f11_n10 F (f11_n11 F) v
theorem f11_n1_eq (F : Nat) : ∀ v, aexec VG0111 (Af11 F) (sub (bodyOf Try.f11) [1]) (ef11_j1022 v) (kFin VG0111 none (Try.f11).results.toList) = f11_n1 F v :=
  seq_cut (c := (sub (bodyOf Try.f11) [1])) (a := (sub (bodyOf Try.f11) [1, 0])) (b := (sub (bodyOf Try.f11) [1, 1])) (by kernel_rfl) (spec := [(0, .plain), (3, .plain)]) (by kernel_rfl) ef11_j1022 ef11_j2020 (kFin VG0111 none (Try.f11).results.toList) (fun k => f11_n10 F k) (f11_n11 F)
    (fun Rf11_j2020 => f11_n10_eq F Rf11_j2020) (f11_n11_eq F)
def f11_nt (F : Nat) : (List (List Int)) → Option (AV × List Blk) := fun v => f11_n0 F (f11_n1 F) v
theorem f11_nt_eq (F : Nat) : ∀ v, aexec VG0111 (Af11 F) (sub (bodyOf Try.f11) []) (ef11_a v) (kFin VG0111 none (Try.f11).results.toList) = f11_nt F v :=
  seq_cut (c := (sub (bodyOf Try.f11) [])) (a := (sub (bodyOf Try.f11) [0])) (b := (sub (bodyOf Try.f11) [1])) (by kernel_rfl) (spec := [(0, .plain)]) (by kernel_rfl) ef11_a ef11_j1022 (kFin VG0111 none (Try.f11).results.toList) (fun k => f11_n0 F k) (f11_n1 F)
    (fun Rf11_j1022 => f11_n0_eq F Rf11_j1022) (f11_n1_eq F)
/-- gantry/gantrylaw01.few -/
def f11 (F : Nat) : (List (List Int)) → Option (AV × List Blk) := f11_nt F
theorem f11_body (F : Nat) (a0 : List (List Int)) : abody VG0111 (Af11 F) Try.f11 [(.vs (.rS a0) 0 1)] [] = f11 F a0 :=
  (abody_in (c := (sub (bodyOf Try.f11) [])) (by kernel_rfl) (s := ef11_a a0) (by kernel_rfl)).trans (f11_nt_eq F a0)
def r11 : CRun := fun X H => match X, H with
  | [(.vs (.rS a0) 0 1)], [] => some ((decide (Wire.total a0 < 4611686018427387904)), (.bool (Wire.few a0)), [])
  | _, _ => none
theorem s11 (a0 : List (List Int)) (hp : ((decide (Wire.total a0 < 4611686018427387904))) = true) (h0 : okV (.vs (.rS a0) 0 1)) : ∃ F, f11 F a0 = some ((.bool (Wire.few a0)), []) := by
  have hf : a0.length + a0.flatten.length < 4611686018427387904 := of_decide_eq_true hp
  refine ⟨a0.length + 1, ?_⟩
  simp only [f11, f11_nt, f11_n0, f11_n1, f11_n10, f11_n11, f11_n110, f11_n1100, f11_n1101, f11_n11010, f11_n11010_i]
  have hle : ∀ i, (a0.take i).flatten.length ≤ a0.flatten.length := fun i => by
    have : a0.flatten = (a0.take i).flatten ++ (a0.drop i).flatten := by rw [← List.flatten_append, List.take_append_drop]
    rw [this, List.length_append]; omega
  refine loopN_from (fun i => ((a0.length : Int) + ((a0.take i).flatten.length : Nat), a0, (a0.length : Int), (i : Int))) a0.length (by simp) (fun i hi k => ?_) (fun k => ?_) _ (by omega)
  · have h2 := hle (i + 1)
    have e : (a0.take (i + 1)).flatten = (a0.take i).flatten ++ a0.getD i [] := by
      rw [List.take_add_one, List.getElem?_eq_getElem hi, List.getD_eq_getElem?_getD, List.getElem?_eq_getElem hi, List.flatten_append]
      simp only [Option.toList_some, List.flatten_cons, List.flatten_nil, List.append_nil, Option.getD_some]
    rw [e, List.length_append] at h2
    simp only [f11_n110100, dec_and]
    rw [Int.toNat_natCast, cond_pos (by omega), cond_pos (by omega), i64w (x := (i : Int) + 1) (by omega) (by omega), i64w (by omega) (by omega), e, List.length_append]
    rw [show (a0.length : Int) + ((a0.take i).flatten.length : Nat) + ((a0.getD i []).length : Nat) = (a0.length : Int) + (((a0.take i).flatten.length + (a0.getD i []).length : Nat) : Int) by omega]
    rfl
  · simp only [f11_n110100]
    rw [cond_neg (by omega), List.take_length]
    simp only [f11_n111]
    have e : decide ((a0.length : Int) + ((a0.flatten.length : Nat) : Int) ≤ 2000) = Wire.few a0 := by
      unfold Wire.few
      rw [Bool.eq_iff_iff, decide_eq_true_eq, decide_eq_true_eq]; unfold Wire.total; omega
    rw [e]

theorem c11 : CallOk Try.prog G01 11 r11 := callOk_of (V := VG0111) mixed tys eVG0111 (f := 11) (fn := Try.f11) Try.func11 (by kernel_rfl) (c := sub (bodyOf Try.f11) []) (by kernel_rfl) (by
  intro X H r H' h hX hH
  unfold r11 at h; split at h <;> try contradiction
  simp only [Option.some.injEq, Prod.mk.injEq] at h
  obtain ⟨hp, rfl, rfl⟩ := h
  obtain ⟨F, hF⟩ := s11 _ hp (hX _ (.head _))
  exact ⟨Af11 F, (f11_body F _).trans hF⟩)
/-! gantry/gantrylaw01.WireCanonical$1 -/
def lVG0137 : List CEnt := [(13, [some 5, some 5], r13)]
def VG0137 : Env := mkEnv T01 G01 lVG0137
theorem eVG0137 : EOk Try.prog VG0137 := eok_mk (by exact ⟨c13, trivial⟩)
def Af37 (F : Nat) : Cuts := { F := F, at_ := fun _ => none, join := fun _ => none }
def ef37_a : (List Int) × Int × Int × (List Int) → St := fun (a0, a1, a2, a3) => { tmps := [(0, (.vs (.rI .u8 a0) 0 1)), (1, (.int .i64 a1)), (2, (.int .i64 a2)), (3, (.ptr 0 0 1 0 0 0 1))], heap := [(0, (.cells 1 (.one (.vs (.rI .u8 a3) 0 1)) true))], next := 1, nt := 31, m := 1 }
def f37_nt (F : Nat) : (List Int) × Int × Int × (List Int) → Option (AV × List Blk) := fun (a0, a1, a2, a3) => (cond (a2 != (0 : Int)) (some ((.bool true), [(.cells 1 (.one (.vs (.rI .u8 a3) 0 1)) true)])) (cond (decide (a1 ≥ (0 : Int))) (cond (decide (a1 ≤ (↑a3.length : Int))) (cond ((decide ((0 : Int) ≤ (if (if (↑a3.length : Int) < a1 then (↑a3.length : Int) else a1) > (0 : Int) then (if (↑a3.length : Int) < a1 then (↑a3.length : Int) else a1) else (0 : Int)))) && (decide ((if (if (↑a3.length : Int) < a1 then (↑a3.length : Int) else a1) > (0 : Int) then (if (↑a3.length : Int) < a1 then (↑a3.length : Int) else a1) else (0 : Int)) ≤ (↑a3.length : Int)))) (some ((.bool (decide (a0 = (a3.take (Int.toNat (if (if (↑a3.length : Int) < a1 then (↑a3.length : Int) else a1) > (0 : Int) then (if (↑a3.length : Int) < a1 then (↑a3.length : Int) else a1) else (0 : Int))))))), [(.cells 1 (.one (.vs (.rI .u8 a3) 0 1)) true)])) none) (some ((.bool false), [(.cells 1 (.one (.vs (.rI .u8 a3) 0 1)) true)]))) (some ((.bool false), [(.cells 1 (.one (.vs (.rI .u8 a3) 0 1)) true)]))))
theorem f37_nt_eq (F : Nat) : ∀ v, aexec VG0137 (Af37 F) (sub (bodyOf Try.f37) []) (ef37_a v) (kFin VG0137 none (Try.f37).results.toList) = f37_nt F v := by
  rintro ⟨a0, a1, a2, a3⟩; kernel_rfl
/-- gantry/gantrylaw01.WireCanonical$1 -/
def f37 (F : Nat) : (List Int) × Int × Int × (List Int) → Option (AV × List Blk) := f37_nt F
theorem f37_body (F : Nat) (a0 : List Int) (a1 : Int) (a2 : Int) (a3 : List Int) : abody VG0137 (Af37 F) Try.f37 [(.vs (.rI .u8 a0) 0 1), (.int .i64 a1), (.int .i64 a2), (.ptr 0 0 1 0 0 0 1)] [(.cells 1 (.one (.vs (.rI .u8 a3) 0 1)) true)] = f37 F (a0, a1, a2, a3) :=
  (abody_in (c := (sub (bodyOf Try.f37) [])) (by kernel_rfl) (s := ef37_a (a0, a1, a2, a3)) (by kernel_rfl)).trans (f37_nt_eq F (a0, a1, a2, a3))
def r37 : CRun := fun X H => match X, H with
  | [(.vs (.rI .u8 a0) 0 1), (.int .i64 a1), (.int .i64 a2), (.ptr 0 0 1 0 0 0 1)], [(.cells 1 (.one (.vs (.rI .u8 a3) 0 1)) true)] => some (true, (.bool (Wire.is a0 a1 a2 a3)), [(.cells 1 (.one (.vs (.rI .u8 a3) 0 1)) true)])
  | _, _ => none
theorem s37 (a0 : List Int) (a1 : Int) (a2 : Int) (a3 : List Int) (h0 : okV (.vs (.rI .u8 a0) 0 1)) (h1 : okV (.int .i64 a1)) (h2 : okV (.int .i64 a2)) (k0 : okB (.cells 1 (.one (.vs (.rI .u8 a3) 0 1)) true)) : ∃ F, f37 F (a0, a1, a2, a3) = some ((.bool (Wire.is a0 a1 a2 a3)), [(.cells 1 (.one (.vs (.rI .u8 a3) 0 1)) true)]) := by
  refine ⟨0, ?_⟩
  simp only [f37, f37_nt, int_bne, dec_and]
  by_cases c : a2 = 0
  · have hW : Wire.is a0 a1 a2 a3 = ((decide (0 ≤ a1) && decide (a1 ≤ (a3.length : Int))) && decide (a0 = a3.take a1.toNat)) := by simp [Wire.is, c]
    rw [cond_neg (not_not_intro c), hW]
    by_cases c1 : a1 ≥ 0
    · rw [cond_pos c1, decide_eq_true (show 0 ≤ a1 from c1), Bool.true_and]
      by_cases c2 : a1 ≤ (a3.length : Int)
      · have e : (if a1 > 0 then a1 else 0) = a1 := by split <;> omega
        rw [cond_pos c2, if_neg (show ¬ ((a3.length : Int) < a1) by omega), e, cond_pos ⟨c1, c2⟩, decide_eq_true c2, Bool.true_and]
      · rw [cond_neg c2, decide_eq_false c2, Bool.false_and]
    · rw [cond_neg c1, decide_eq_false (show ¬ (0 ≤ a1) from c1), Bool.false_and, Bool.false_and]
  · have hW : Wire.is a0 a1 a2 a3 = true := by simp [Wire.is, c]
    rw [cond_pos c, hW]

theorem c37 : CallOk Try.prog G01 37 r37 := callOk_of (V := VG0137) mixed tys eVG0137 (f := 37) (fn := Try.f37) Try.func37 (by kernel_rfl) (c := sub (bodyOf Try.f37) []) (by kernel_rfl) (by
  intro X H r H' h hX hH
  unfold r37 at h; split at h <;> try contradiction
  simp only [Option.some.injEq, Prod.mk.injEq] at h
  obtain ⟨hp, rfl, rfl⟩ := h
  obtain ⟨F, hF⟩ := s37 _ _ _ _ (hX _ (.head _)) (hX _ (.tail _ (.head _))) (hX _ (.tail _ (.tail _ (.head _)))) (hH _ (.head _))
  exact ⟨Af37 F, (f37_body F _ _ _ _).trans hF⟩)
end Go.Am
