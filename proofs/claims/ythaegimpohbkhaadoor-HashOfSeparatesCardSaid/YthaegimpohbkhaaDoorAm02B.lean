/- Part of a proof about the functions of the given program. -/
import Derived.Test.YthaegimpohbkhaaDoorAm02A
set_option linter.unusedVariables false
set_option linter.unusedSimpArgs false
namespace Go.Am
open Go Go.Proofs

/-! gantry/hash.compress -/
def lVG0230 : List CEnt := [(36, [some 5], r36), (37, [none, none, none, none], r37)]
def VG0230 : Env := mkEnv T02 G02 lVG0230
theorem eVG0230 : EOk Tryd.prog VG0230 := eok_mk (by exact ⟨c36, c37, trivial⟩)
def Af30 (F : Nat) : Cuts := { F := F, at_ := fun n => match n with | 4018 => some [(2, .plain), (4, .plain), (5, .plain), (6, .plain), (7, .plain), (21, .plain), (22, .plain)] | 12014 => some [(2, .plain), (4, .plain), (6, .plain), (7, .plain), (94, .plain)] | _ => none, join := fun n => match n with | 1049 => some [(1, .plain), (2, .plain), (4, .plain)] | 2047 => some [(2, .plain), (4, .plain), (5, .plain)] | 3045 => some [(2, .plain), (4, .plain), (5, .plain), (6, .plain), (7, .plain)] | 4020 => some [(2, .plain), (4, .plain), (5, .plain), (6, .plain), (7, .plain), (21, .plain), (22, .plain)] | 11022 => some [(2, .plain), (4, .plain), (6, .plain), (7, .plain)] | 12016 => some [(2, .plain), (4, .plain), (6, .plain), (7, .plain), (94, .plain)] | 17003 => some [(2, .plain), (4, .plain)] | _ => none }
def ef30_a : (List Int) × (List Int) → St := fun (a0, a1) => { tmps := [(0, (.agg 8 (.rI .u32 a0))), (1, (.vs (.rI .u8 a1) 0 1))], heap := [], next := 0, nt := 116, m := 0 }
def ef30_j1049 : (List Int) × (List Int) × (List Int) → St := fun (t1, x2, x3) => { tmps := [(1, (.vs (.rI .u8 t1) 0 1)), (2, (.ptr 0 0 8 0 0 0 8)), (4, (.ptr 1 0 8 0 0 0 8))], heap := [(0, (.cells 8 (.rI .u32 x2) true)), (1, (.cells 8 (.rI .u32 x3) true))], next := 2, nt := 116, m := 0 }
def ef30_j2047 : (List Int) × (List Int) × (List Int) → St := fun (x1, x2, x3) => { tmps := [(2, (.ptr 0 0 8 0 0 0 8)), (4, (.ptr 1 0 8 0 0 0 8)), (5, (.ptr 2 0 64 0 0 0 64))], heap := [(0, (.cells 8 (.rI .u32 x1) true)), (1, (.cells 8 (.rI .u32 x2) true)), (2, (.cells 64 (.rI .u32 x3) true))], next := 3, nt := 116, m := 0 }
def ef30_j3045 : (List Int) × (List Int) × (List Int) × (List Int) × (List Int) → St := fun (x1, x2, x3, x4, x5) => { tmps := [(2, (.ptr 0 0 8 0 0 0 8)), (4, (.ptr 1 0 8 0 0 0 8)), (5, (.ptr 2 0 64 0 0 0 64)), (6, (.ptr 3 0 4 0 0 0 4)), (7, (.ptr 4 0 4 0 0 0 4))], heap := [(0, (.cells 8 (.rI .u32 x1) true)), (1, (.cells 8 (.rI .u32 x2) true)), (2, (.cells 64 (.rI .u32 x3) true)), (3, (.cells 4 (.rI .u32 x4) true)), (4, (.cells 4 (.rI .u32 x5) true))], next := 5, nt := 116, m := 0 }
def ef30_j4020 : (List Int) × Int × (List Int) × (List Int) × (List Int) × (List Int) × (List Int) → St := fun (t21, t22, x3, x4, x5, x6, x7) => { tmps := [(2, (.ptr 0 0 8 0 0 0 8)), (4, (.ptr 1 0 8 0 0 0 8)), (5, (.ptr 2 0 64 0 0 0 64)), (6, (.ptr 3 0 4 0 0 0 4)), (7, (.ptr 4 0 4 0 0 0 4)), (21, (.agg 64 (.rI .u32 t21))), (22, (.int .i64 t22))], heap := [(0, (.cells 8 (.rI .u32 x3) true)), (1, (.cells 8 (.rI .u32 x4) true)), (2, (.cells 64 (.rI .u32 x5) true)), (3, (.cells 4 (.rI .u32 x6) true)), (4, (.cells 4 (.rI .u32 x7) true))], next := 5, nt := 116, m := 0 }
def ef30_l4018 : (List Int) × Int × (List Int) × (List Int) × (List Int) × (List Int) × (List Int) → St := fun (t21, t22, x3, x4, x5, x6, x7) => { tmps := [(2, (.ptr 0 0 8 0 0 0 8)), (4, (.ptr 1 0 8 0 0 0 8)), (5, (.ptr 2 0 64 0 0 0 64)), (6, (.ptr 3 0 4 0 0 0 4)), (7, (.ptr 4 0 4 0 0 0 4)), (21, (.agg 64 (.rI .u32 t21))), (22, (.int .i64 t22))], heap := [(0, (.cells 8 (.rI .u32 x3) true)), (1, (.cells 8 (.rI .u32 x4) true)), (2, (.cells 64 (.rI .u32 x5) true)), (3, (.cells 4 (.rI .u32 x6) true)), (4, (.cells 4 (.rI .u32 x7) true))], next := 5, nt := 116, m := 0 }
def ef30_j11022 : (List Int) × (List Int) × (List Int) × (List Int) → St := fun (x1, x2, x3, x4) => { tmps := [(2, (.ptr 0 0 8 0 0 0 8)), (4, (.ptr 1 0 8 0 0 0 8)), (6, (.ptr 2 0 4 0 0 0 4)), (7, (.ptr 3 0 4 0 0 0 4))], heap := [(0, (.cells 8 (.rI .u32 x1) true)), (1, (.cells 8 (.rI .u32 x2) true)), (2, (.cells 4 (.rI .u32 x3) true)), (3, (.cells 4 (.rI .u32 x4) true))], next := 4, nt := 116, m := 0 }
def ef30_j12016 : Int × (List Int) × (List Int) × (List Int) × (List Int) → St := fun (t94, x2, x3, x4, x5) => { tmps := [(2, (.ptr 0 0 8 0 0 0 8)), (4, (.ptr 1 0 8 0 0 0 8)), (6, (.ptr 2 0 4 0 0 0 4)), (7, (.ptr 3 0 4 0 0 0 4)), (94, (.int .i64 t94))], heap := [(0, (.cells 8 (.rI .u32 x2) true)), (1, (.cells 8 (.rI .u32 x3) true)), (2, (.cells 4 (.rI .u32 x4) true)), (3, (.cells 4 (.rI .u32 x5) true))], next := 4, nt := 116, m := 0 }
def ef30_l12014 : Int × (List Int) × (List Int) × (List Int) × (List Int) → St := fun (t94, x2, x3, x4, x5) => { tmps := [(2, (.ptr 0 0 8 0 0 0 8)), (4, (.ptr 1 0 8 0 0 0 8)), (6, (.ptr 2 0 4 0 0 0 4)), (7, (.ptr 3 0 4 0 0 0 4)), (94, (.int .i64 t94))], heap := [(0, (.cells 8 (.rI .u32 x2) true)), (1, (.cells 8 (.rI .u32 x3) true)), (2, (.cells 4 (.rI .u32 x4) true)), (3, (.cells 4 (.rI .u32 x5) true))], next := 4, nt := 116, m := 0 }
def ef30_j17003 : (List Int) × (List Int) → St := fun (x1, x2) => { tmps := [(2, (.ptr 0 0 8 0 0 0 8)), (4, (.ptr 1 0 8 0 0 0 8))], heap := [(0, (.cells 8 (.rI .u32 x1) true)), (1, (.cells 8 (.rI .u32 x2) true))], next := 2, nt := 116, m := 0 }
def f30_n0 (F : Nat) (kf30_j1049 : (List Int) × (List Int) × (List Int) → Option (AV × List Blk)) : (List Int) × (List Int) → Option (AV × List Blk) := fun (a0, a1) => (kf30_j1049 (a1, a0, [0, 0, 0, 0, 0, 0, 0, 0]))
theorem f30_n0_eq (F : Nat) (Rf30_j1049 : St → Option (AV × List Blk)) : ∀ v, aexec VG0230 (Af30 F) (sub (bodyOf Tryd.f30) [0]) (ef30_a v) (kSeq (fun s => Rf30_j1049 (cutTo VG0230 (some [(1, .plain), (2, .plain), (4, .plain)]) s)) (kFin VG0230 0 (Tryd.f30).results.toList)) = f30_n0 F (fun w => Rf30_j1049 (ef30_j1049 w)) v := by
  rintro ⟨a0, a1⟩; kernel_rfl
def f30_n10 (F : Nat) (kf30_j2047 : (List Int) × (List Int) × (List Int) → Option (AV × List Blk)) : (List Int) × (List Int) × (List Int) → Option (AV × List Blk) := fun (t1, x2, x3) => (cond (decide (t1.length = 64)) (kf30_j2047 (x2, x3, (Sha.sched t1 64))) none)
theorem f30_n10_eq (F : Nat) (Rf30_j2047 : St → Option (AV × List Blk)) : ∀ v, aexec VG0230 (Af30 F) (sub (bodyOf Tryd.f30) [1, 0]) (ef30_j1049 v) (kSeq (fun s => Rf30_j2047 (cutTo VG0230 (some [(2, .plain), (4, .plain), (5, .plain)]) s)) (kFin VG0230 0 (Tryd.f30).results.toList)) = f30_n10 F (fun w => Rf30_j2047 (ef30_j2047 w)) v := by
  rintro ⟨t1, x2, x3⟩; kernel_rfl
def f30_n110 (F : Nat) (kf30_j3045 : (List Int) × (List Int) × (List Int) × (List Int) × (List Int) → Option (AV × List Blk)) : (List Int) × (List Int) × (List Int) → Option (AV × List Blk) := fun (x1, x2, x3) => (kf30_j3045 (x1, x2, x3, (x1.take 4), ((x1.drop 4).take 4)))
theorem f30_n110_eq (F : Nat) (Rf30_j3045 : St → Option (AV × List Blk)) : ∀ v, aexec VG0230 (Af30 F) (sub (bodyOf Tryd.f30) [1, 1, 0]) (ef30_j2047 v) (kSeq (fun s => Rf30_j3045 (cutTo VG0230 (some [(2, .plain), (4, .plain), (5, .plain), (6, .plain), (7, .plain)]) s)) (kFin VG0230 0 (Tryd.f30).results.toList)) = f30_n110 F (fun w => Rf30_j3045 (ef30_j3045 w)) v := by
  rintro ⟨x1, x2, x3⟩; kernel_rfl
def f30_n11100 (F : Nat) (kf30_j4020 : (List Int) × Int × (List Int) × (List Int) × (List Int) × (List Int) × (List Int) → Option (AV × List Blk)) (kf30_j11022 : (List Int) × (List Int) × (List Int) × (List Int) → Option (AV × List Blk)) : (List Int) × (List Int) × (List Int) × (List Int) × (List Int) → Option (AV × List Blk) := fun (x1, x2, x3, x4, x5) => (kf30_j4020 (Sha.K, (0 : Int), x1, x2, x3, x4, x5))
theorem f30_n11100_eq (F : Nat) (Rf30_j4020 : St → Option (AV × List Blk)) (Rf30_j11022 : St → Option (AV × List Blk)) : ∀ v, aexec VG0230 (Af30 F) (sub (bodyOf Tryd.f30) [1, 1, 1, 0, 0]) (ef30_j3045 v) (kSeq (fun s => Rf30_j4020 (cutTo VG0230 (some [(2, .plain), (4, .plain), (5, .plain), (6, .plain), (7, .plain), (21, .plain), (22, .plain)]) s)) (kSeq (fun s => Rf30_j11022 (cutTo VG0230 (some [(2, .plain), (4, .plain), (6, .plain), (7, .plain)]) s)) (kFin VG0230 0 (Tryd.f30).results.toList))) = f30_n11100 F (fun w => Rf30_j4020 (ef30_j4020 w)) (fun w => Rf30_j11022 (ef30_j11022 w)) v := by
  rintro ⟨x1, x2, x3, x4, x5⟩; kernel_rfl
def f30_n1110100 (F : Nat) (kf30_l4018 : (List Int) × Int × (List Int) × (List Int) × (List Int) × (List Int) × (List Int) → Option (AV × List Blk)) (kf30_j11022 : (List Int) × (List Int) × (List Int) × (List Int) → Option (AV × List Blk)) : (List Int) × Int × (List Int) × (List Int) × (List Int) × (List Int) × (List Int) → Option (AV × List Blk) := fun (t21, t22, x3, x4, x5, x6, x7) => (cond (decide (t22 < (64 : Int))) (cond ((decide (0 ≤ t22)) && (decide (t22 < (64 : Int)))) (cond ((decide (0 ≤ t22)) && (decide (t22 < (64 : Int)))) (kf30_l4018 (t21, (IntKind.i64.wrap (t22 + (1 : Int))), x3, x4, x5, [(IntKind.u32.wrap ((IntKind.u32.wrap ((IntKind.u32.wrap ((IntKind.u32.wrap ((IntKind.u32.wrap ((x7.getD 3 0) + (Sha.mix (x7.getD 0 0) (6 : Int) (11 : Int) (25 : Int)))) + (ibits .xor .u32 (ibits .and .u32 (x7.getD 0 0) (x7.getD 1 0)) (ibits .and .u32 (ibits .xor .u32 (4294967295 : Int) (x7.getD 0 0)) (x7.getD 2 0))))) + (t21.getD (Int.toNat t22) 0))) + (x5.getD (Int.toNat t22) 0))) + (IntKind.u32.wrap ((Sha.mix (x6.getD 0 0) (2 : Int) (13 : Int) (22 : Int)) + (ibits .xor .u32 (ibits .xor .u32 (ibits .and .u32 (x6.getD 0 0) (x6.getD 1 0)) (ibits .and .u32 (x6.getD 0 0) (x6.getD 2 0))) (ibits .and .u32 (x6.getD 1 0) (x6.getD 2 0))))))), (x6.getD 0 0), (x6.getD 1 0), (x6.getD 2 0)], [(IntKind.u32.wrap ((x6.getD 3 0) + (IntKind.u32.wrap ((IntKind.u32.wrap ((IntKind.u32.wrap ((IntKind.u32.wrap ((x7.getD 3 0) + (Sha.mix (x7.getD 0 0) (6 : Int) (11 : Int) (25 : Int)))) + (ibits .xor .u32 (ibits .and .u32 (x7.getD 0 0) (x7.getD 1 0)) (ibits .and .u32 (ibits .xor .u32 (4294967295 : Int) (x7.getD 0 0)) (x7.getD 2 0))))) + (t21.getD (Int.toNat t22) 0))) + (x5.getD (Int.toNat t22) 0))))), (x7.getD 0 0), (x7.getD 1 0), (x7.getD 2 0)])) none) none) (kf30_j11022 (x3, x4, x6, x7)))
theorem f30_n1110100_eq (F : Nat) (Rf30_l4018 : St → Option (AV × List Blk)) (Rf30_j11022 : St → Option (AV × List Blk)) : ∀ v, aexec VG0230 (Af30 F) (sub (bodyOf Tryd.f30) [1, 1, 1, 0, 1, 0, 0]) (ef30_l4018 v) (kSeq (fun s => Rf30_l4018 (cutTo VG0230 (some [(2, .plain), (4, .plain), (5, .plain), (6, .plain), (7, .plain), (21, .plain), (22, .plain)]) s)) (kBlock 0 (kSeq (fun s => Rf30_j11022 (cutTo VG0230 (some [(2, .plain), (4, .plain), (6, .plain), (7, .plain)]) s)) (kFin VG0230 0 (Tryd.f30).results.toList)))) = f30_n1110100 F (fun w => Rf30_l4018 (ef30_l4018 w)) (fun w => Rf30_j11022 (ef30_j11022 w)) v := by
  rintro ⟨t21, t22, x3, x4, x5, x6, x7⟩; kernel_rfl
def f30_n111010_i : (List Int) × Int × (List Int) × (List Int) × (List Int) × (List Int) × (List Int) → (List Int) × Int × (List Int) × (List Int) × (List Int) × (List Int) × (List Int) := fun (t21, t22, x3, x4, x5, x6, x7) => (t21, t22, x3, x4, x5, x6, x7)
def f30_n111010 (F : Nat) (kf30_j11022 : (List Int) × (List Int) × (List Int) × (List Int) → Option (AV × List Blk)) : (List Int) × Int × (List Int) × (List Int) × (List Int) × (List Int) × (List Int) → Option (AV × List Blk) := fun v => loopN (fun k => f30_n1110100 F k kf30_j11022) F (f30_n111010_i v)
theorem f30_n111010_eq (F : Nat) (Rf30_j11022 : St → Option (AV × List Blk)) : ∀ v, aexec VG0230 (Af30 F) (sub (bodyOf Tryd.f30) [1, 1, 1, 0, 1, 0]) (ef30_j4020 v) (kBlock 0 (kSeq (fun s => Rf30_j11022 (cutTo VG0230 (some [(2, .plain), (4, .plain), (6, .plain), (7, .plain)]) s)) (kFin VG0230 0 (Tryd.f30).results.toList))) = f30_n111010 F (fun w => Rf30_j11022 (ef30_j11022 w)) v :=
  loop_cut (c := (sub (bodyOf Tryd.f30) [1, 1, 1, 0, 1, 0])) (d := (sub (bodyOf Tryd.f30) [1, 1, 1, 0, 1, 0, 0])) (by kernel_rfl) (spec := [(2, .plain), (4, .plain), (5, .plain), (6, .plain), (7, .plain), (21, .plain), (22, .plain)]) (by kernel_rfl) ef30_j4020 ef30_l4018 (kBlock 0 (kSeq (fun s => Rf30_j11022 (cutTo VG0230 (some [(2, .plain), (4, .plain), (6, .plain), (7, .plain)]) s)) (kFin VG0230 0 (Tryd.f30).results.toList))) f30_n111010_i (fun k => f30_n1110100 F k (fun w => Rf30_j11022 (ef30_j11022 w)))
    (by rintro ⟨t21, t22, x3, x4, x5, x6, x7⟩; kernel_rfl) (fun Rf30_l4018 => f30_n1110100_eq F Rf30_l4018 Rf30_j11022)
def f30_n11101 (F : Nat) (kf30_j11022 : (List Int) × (List Int) × (List Int) × (List Int) → Option (AV × List Blk)) : (List Int) × Int × (List Int) × (List Int) × (List Int) × (List Int) × (List Int) → Option (AV × List Blk) := f30_n111010 F kf30_j11022
theorem f30_n11101_eq (F : Nat) (Rf30_j11022 : St → Option (AV × List Blk)) : ∀ v, aexec VG0230 (Af30 F) (sub (bodyOf Tryd.f30) [1, 1, 1, 0, 1]) (ef30_j4020 v) (kSeq (fun s => Rf30_j11022 (cutTo VG0230 (some [(2, .plain), (4, .plain), (6, .plain), (7, .plain)]) s)) (kFin VG0230 0 (Tryd.f30).results.toList)) = f30_n11101 F (fun w => Rf30_j11022 (ef30_j11022 w)) v := fun v =>
  (block_in (c := (sub (bodyOf Tryd.f30) [1, 1, 1, 0, 1])) (d := (sub (bodyOf Tryd.f30) [1, 1, 1, 0, 1, 0])) (id := 0) (by kernel_rfl) _ _).trans (f30_n111010_eq F Rf30_j11022 v)
def f30_n1110 (F : Nat) (kf30_j11022 : (List Int) × (List Int) × (List Int) × (List Int) → Option (AV × List Blk)) : (List Int) × (List Int) × (List Int) × (List Int) × (List Int) → Option (AV × List Blk) := fun v => f30_n11100 F (f30_n11101 F kf30_j11022) kf30_j11022 v
theorem f30_n1110_eq (F : Nat) (Rf30_j11022 : St → Option (AV × List Blk)) : ∀ v, aexec VG0230 (Af30 F) (sub (bodyOf Tryd.f30) [1, 1, 1, 0]) (ef30_j3045 v) (kSeq (fun s => Rf30_j11022 (cutTo VG0230 (some [(2, .plain), (4, .plain), (6, .plain), (7, .plain)]) s)) (kFin VG0230 0 (Tryd.f30).results.toList)) = f30_n1110 F (fun w => Rf30_j11022 (ef30_j11022 w)) v :=
  seq_cut (c := (sub (bodyOf Tryd.f30) [1, 1, 1, 0])) (a := (sub (bodyOf Tryd.f30) [1, 1, 1, 0, 0])) (b := (sub (bodyOf Tryd.f30) [1, 1, 1, 0, 1])) (by kernel_rfl) (spec := [(2, .plain), (4, .plain), (5, .plain), (6, .plain), (7, .plain), (21, .plain), (22, .plain)]) (by kernel_rfl) ef30_j3045 ef30_j4020 (kSeq (fun s => Rf30_j11022 (cutTo VG0230 (some [(2, .plain), (4, .plain), (6, .plain), (7, .plain)]) s)) (kFin VG0230 0 (Tryd.f30).results.toList)) (fun k => f30_n11100 F k (fun w => Rf30_j11022 (ef30_j11022 w))) (f30_n11101 F (fun w => Rf30_j11022 (ef30_j11022 w)))
    (fun Rf30_j4020 => f30_n11100_eq F Rf30_j4020 Rf30_j11022) (f30_n11101_eq F Rf30_j11022)
def f30_n111100 (F : Nat) (kf30_j12016 : Int × (List Int) × (List Int) × (List Int) × (List Int) → Option (AV × List Blk)) (kf30_j17003 : (List Int) × (List Int) → Option (AV × List Blk)) : (List Int) × (List Int) × (List Int) × (List Int) → Option (AV × List Blk) := fun (x1, x2, x3, x4) => (kf30_j12016 ((0 : Int), x1, x2, x3, x4))
theorem f30_n111100_eq (F : Nat) (Rf30_j12016 : St → Option (AV × List Blk)) (Rf30_j17003 : St → Option (AV × List Blk)) : ∀ v, aexec VG0230 (Af30 F) (sub (bodyOf Tryd.f30) [1, 1, 1, 1, 0, 0]) (ef30_j11022 v) (kSeq (fun s => Rf30_j12016 (cutTo VG0230 (some [(2, .plain), (4, .plain), (6, .plain), (7, .plain), (94, .plain)]) s)) (kSeq (fun s => Rf30_j17003 (cutTo VG0230 (some [(2, .plain), (4, .plain)]) s)) (kFin VG0230 0 (Tryd.f30).results.toList))) = f30_n111100 F (fun w => Rf30_j12016 (ef30_j12016 w)) (fun w => Rf30_j17003 (ef30_j17003 w)) v := by
  rintro ⟨x1, x2, x3, x4⟩; kernel_rfl
def f30_n11110100 (F : Nat) (kf30_l12014 : Int × (List Int) × (List Int) × (List Int) × (List Int) → Option (AV × List Blk)) (kf30_j17003 : (List Int) × (List Int) → Option (AV × List Blk)) : Int × (List Int) × (List Int) × (List Int) × (List Int) → Option (AV × List Blk) := fun (t94, x2, x3, x4, x5) => (cond (decide (t94 < (4 : Int))) (cond ((decide (0 ≤ t94)) && (decide (t94 < (8 : Int)))) (cond ((decide (0 ≤ t94)) && (decide (t94 < (4 : Int)))) (cond ((decide (0 ≤ t94)) && (decide (t94 < (8 : Int)))) (cond ((decide (0 ≤ (IntKind.i64.wrap (t94 + (4 : Int))))) && (decide ((IntKind.i64.wrap (t94 + (4 : Int))) < (8 : Int)))) (cond ((decide (0 ≤ t94)) && (decide (t94 < (4 : Int)))) (cond ((decide (0 ≤ (IntKind.i64.wrap (t94 + (4 : Int))))) && (decide ((IntKind.i64.wrap (t94 + (4 : Int))) < (8 : Int)))) (kf30_l12014 ((IntKind.i64.wrap (t94 + (1 : Int))), ((x2.set (Int.toNat t94) (IntKind.u32.wrap ((x2.getD (Int.toNat t94) 0) + (x4.getD (Int.toNat t94) 0)))).set (Int.toNat (IntKind.i64.wrap (t94 + (4 : Int)))) (IntKind.u32.wrap (((x2.set (Int.toNat t94) (IntKind.u32.wrap ((x2.getD (Int.toNat t94) 0) + (x4.getD (Int.toNat t94) 0)))).getD (Int.toNat (IntKind.i64.wrap (t94 + (4 : Int)))) 0) + (x5.getD (Int.toNat t94) 0)))), x3, x4, x5)) none) none) none) none) none) none) (kf30_j17003 (x2, x3)))
theorem f30_n11110100_eq (F : Nat) (Rf30_l12014 : St → Option (AV × List Blk)) (Rf30_j17003 : St → Option (AV × List Blk)) : ∀ v, aexec VG0230 (Af30 F) (sub (bodyOf Tryd.f30) [1, 1, 1, 1, 0, 1, 0, 0]) (ef30_l12014 v) (kSeq (fun s => Rf30_l12014 (cutTo VG0230 (some [(2, .plain), (4, .plain), (6, .plain), (7, .plain), (94, .plain)]) s)) (kBlock 2 (kSeq (fun s => Rf30_j17003 (cutTo VG0230 (some [(2, .plain), (4, .plain)]) s)) (kFin VG0230 0 (Tryd.f30).results.toList)))) = f30_n11110100 F (fun w => Rf30_l12014 (ef30_l12014 w)) (fun w => Rf30_j17003 (ef30_j17003 w)) v := by
  rintro ⟨t94, x2, x3, x4, x5⟩; kernel_rfl
def f30_n1111010_i : Int × (List Int) × (List Int) × (List Int) × (List Int) → Int × (List Int) × (List Int) × (List Int) × (List Int) := fun (t94, x2, x3, x4, x5) => (t94, x2, x3, x4, x5)
def f30_n1111010 (F : Nat) (kf30_j17003 : (List Int) × (List Int) → Option (AV × List Blk)) : Int × (List Int) × (List Int) × (List Int) × (List Int) → Option (AV × List Blk) := fun v => loopN (fun k => f30_n11110100 F k kf30_j17003) F (f30_n1111010_i v)
theorem f30_n1111010_eq (F : Nat) (Rf30_j17003 : St → Option (AV × List Blk)) : ∀ v, aexec VG0230 (Af30 F) (sub (bodyOf Tryd.f30) [1, 1, 1, 1, 0, 1, 0]) (ef30_j12016 v) (kBlock 2 (kSeq (fun s => Rf30_j17003 (cutTo VG0230 (some [(2, .plain), (4, .plain)]) s)) (kFin VG0230 0 (Tryd.f30).results.toList))) = f30_n1111010 F (fun w => Rf30_j17003 (ef30_j17003 w)) v :=
  loop_cut (c := (sub (bodyOf Tryd.f30) [1, 1, 1, 1, 0, 1, 0])) (d := (sub (bodyOf Tryd.f30) [1, 1, 1, 1, 0, 1, 0, 0])) (by kernel_rfl) (spec := [(2, .plain), (4, .plain), (6, .plain), (7, .plain), (94, .plain)]) (by kernel_rfl) ef30_j12016 ef30_l12014 (kBlock 2 (kSeq (fun s => Rf30_j17003 (cutTo VG0230 (some [(2, .plain), (4, .plain)]) s)) (kFin VG0230 0 (Tryd.f30).results.toList))) f30_n1111010_i (fun k => f30_n11110100 F k (fun w => Rf30_j17003 (ef30_j17003 w)))
    (by rintro ⟨t94, x2, x3, x4, x5⟩; kernel_rfl) (fun Rf30_l12014 => f30_n11110100_eq F Rf30_l12014 Rf30_j17003)
def f30_n111101 (F : Nat) (kf30_j17003 : (List Int) × (List Int) → Option (AV × List Blk)) : Int × (List Int) × (List Int) × (List Int) × (List Int) → Option (AV × List Blk) := f30_n1111010 F kf30_j17003
theorem f30_n111101_eq (F : Nat) (Rf30_j17003 : St → Option (AV × List Blk)) : ∀ v, aexec VG0230 (Af30 F) (sub (bodyOf Tryd.f30) [1, 1, 1, 1, 0, 1]) (ef30_j12016 v) (kSeq (fun s => Rf30_j17003 (cutTo VG0230 (some [(2, .plain), (4, .plain)]) s)) (kFin VG0230 0 (Tryd.f30).results.toList)) = f30_n111101 F (fun w => Rf30_j17003 (ef30_j17003 w)) v := fun v =>
  (block_in (c := (sub (bodyOf Tryd.f30) [1, 1, 1, 1, 0, 1])) (d := (sub (bodyOf Tryd.f30) [1, 1, 1, 1, 0, 1, 0])) (id := 2) (by kernel_rfl) _ _).trans (f30_n1111010_eq F Rf30_j17003 v)
def f30_n11110 (F : Nat) (kf30_j17003 : (List Int) × (List Int) → Option (AV × List Blk)) : (List Int) × (List Int) × (List Int) × (List Int) → Option (AV × List Blk) := fun v => f30_n111100 F (f30_n111101 F kf30_j17003) kf30_j17003 v
theorem f30_n11110_eq (F : Nat) (Rf30_j17003 : St → Option (AV × List Blk)) : ∀ v, aexec VG0230 (Af30 F) (sub (bodyOf Tryd.f30) [1, 1, 1, 1, 0]) (ef30_j11022 v) (kSeq (fun s => Rf30_j17003 (cutTo VG0230 (some [(2, .plain), (4, .plain)]) s)) (kFin VG0230 0 (Tryd.f30).results.toList)) = f30_n11110 F (fun w => Rf30_j17003 (ef30_j17003 w)) v :=
  seq_cut (c := (sub (bodyOf Tryd.f30) [1, 1, 1, 1, 0])) (a := (sub (bodyOf Tryd.f30) [1, 1, 1, 1, 0, 0])) (b := (sub (bodyOf Tryd.f30) [1, 1, 1, 1, 0, 1])) (by kernel_rfl) (spec := [(2, .plain), (4, .plain), (6, .plain), (7, .plain), (94, .plain)]) (by kernel_rfl) ef30_j11022 ef30_j12016 (kSeq (fun s => Rf30_j17003 (cutTo VG0230 (some [(2, .plain), (4, .plain)]) s)) (kFin VG0230 0 (Tryd.f30).results.toList)) (fun k => f30_n111100 F k (fun w => Rf30_j17003 (ef30_j17003 w))) (f30_n111101 F (fun w => Rf30_j17003 (ef30_j17003 w)))
    (fun Rf30_j12016 => f30_n111100_eq F Rf30_j12016 Rf30_j17003) (f30_n111101_eq F Rf30_j17003)
def f30_n11111 (F : Nat) : (List Int) × (List Int) → Option (AV × List Blk) := fun (x1, x2) => (some ((.agg 8 (.rI .u32 x1)), []))
theorem f30_n11111_eq (F : Nat) : ∀ v, aexec VG0230 (Af30 F) (sub (bodyOf Tryd.f30) [1, 1, 1, 1, 1]) (ef30_j17003 v) (kFin VG0230 0 (Tryd.f30).results.toList) = f30_n11111 F v := by
  rintro ⟨x1, x2⟩; kernel_rfl
def f30_n1111 (F : Nat) : (List Int) × (List Int) × (List Int) × (List Int) → Option (AV × List Blk) := fun v => f30_n11110 F (f30_n11111 F) v
theorem f30_n1111_eq (F : Nat) : ∀ v, aexec VG0230 (Af30 F) (sub (bodyOf Tryd.f30) [1, 1, 1, 1]) (ef30_j11022 v) (kFin VG0230 0 (Tryd.f30).results.toList) = f30_n1111 F v :=
  seq_cut (c := (sub (bodyOf Tryd.f30) [1, 1, 1, 1])) (a := (sub (bodyOf Tryd.f30) [1, 1, 1, 1, 0])) (b := (sub (bodyOf Tryd.f30) [1, 1, 1, 1, 1])) (by kernel_rfl) (spec := [(2, .plain), (4, .plain)]) (by kernel_rfl) ef30_j11022 ef30_j17003 (kFin VG0230 0 (Tryd.f30).results.toList) (fun k => f30_n11110 F k) (f30_n11111 F)
    (fun Rf30_j17003 => f30_n11110_eq F Rf30_j17003) (f30_n11111_eq F)
def f30_n111 (F : Nat) : (List Int) × (List Int) × (List Int) × (List Int) × (List Int) → Option (AV × List Blk) := fun v => f30_n1110 F (f30_n1111 F) v
theorem f30_n111_eq (F : Nat) : ∀ v, aexec VG0230 (Af30 F) (sub (bodyOf Tryd.f30) [1, 1, 1]) (ef30_j3045 v) (kFin VG0230 0 (Tryd.f30).results.toList) = f30_n111 F v :=
  seq_cut (c := (sub (bodyOf Tryd.f30) [1, 1, 1])) (a := (sub (bodyOf Tryd.f30) [1, 1, 1, 0])) (b := (sub (bodyOf Tryd.f30) [1, 1, 1, 1])) (by kernel_rfl) (spec := [(2, .plain), (4, .plain), (6, .plain), (7, .plain)]) (by kernel_rfl) ef30_j3045 ef30_j11022 (kFin VG0230 0 (Tryd.f30).results.toList) (fun k => f30_n1110 F k) (f30_n1111 F)
    (fun Rf30_j11022 => f30_n1110_eq F Rf30_j11022) (f30_n1111_eq F)
def f30_n11 (F : Nat) : (List Int) × (List Int) × (List Int) → Option (AV × List Blk) := fun v => f30_n110 F (f30_n111 F) v
theorem f30_n11_eq (F : Nat) : ∀ v, aexec VG0230 (Af30 F) (sub (bodyOf Tryd.f30) [1, 1]) (ef30_j2047 v) (kFin VG0230 0 (Tryd.f30).results.toList) = f30_n11 F v :=
  seq_cut (c := (sub (bodyOf Tryd.f30) [1, 1])) (a := (sub (bodyOf Tryd.f30) [1, 1, 0])) (b := (sub (bodyOf Tryd.f30) [1, 1, 1])) (by kernel_rfl) (spec := [(2, .plain), (4, .plain), (5, .plain), (6, .plain), (7, .plain)]) (by kernel_rfl) ef30_j2047 ef30_j3045 (kFin VG0230 0 (Tryd.f30).results.toList) (fun k => f30_n110 F k) (f30_n111 F)
    (fun Rf30_j3045 => f30_n110_eq F Rf30_j3045) (f30_n111_eq F)
def f30_n1 (F : Nat) : (List Int) × (List Int) × (List Int) → Option (AV × List Blk) := fun v => f30_n10 F (f30_n11 F) v
theorem f30_n1_eq (F : Nat) : ∀ v, aexec VG0230 (Af30 F) (sub (bodyOf Tryd.f30) [1]) (ef30_j1049 v) (kFin VG0230 0 (Tryd.f30).results.toList) = f30_n1 F v :=
  seq_cut (c := (sub (bodyOf Tryd.f30) [1])) (a := (sub (bodyOf Tryd.f30) [1, 0])) (b := (sub (bodyOf Tryd.f30) [1, 1])) (by kernel_rfl) (spec := [(2, .plain), (4, .plain), (5, .plain)]) (by kernel_rfl) ef30_j1049 ef30_j2047 (kFin VG0230 0 (Tryd.f30).results.toList) (fun k => f30_n10 F k) (f30_n11 F)
    (fun Rf30_j2047 => f30_n10_eq F Rf30_j2047) (f30_n11_eq F)
def f30_nt (F : Nat) : (List Int) × (List Int) → Option (AV × List Blk) := fun v => f30_n0 F (f30_n1 F) v
theorem f30_nt_eq (F : Nat) : ∀ v, aexec VG0230 (Af30 F) (sub (bodyOf Tryd.f30) []) (ef30_a v) (kFin VG0230 0 (Tryd.f30).results.toList) = f30_nt F v :=
  seq_cut (c := (sub (bodyOf Tryd.f30) [])) (a := (sub (bodyOf Tryd.f30) [0])) (b := (sub (bodyOf Tryd.f30) [1])) (by kernel_rfl) (spec := [(1, .plain), (2, .plain), (4, .plain)]) (by kernel_rfl) ef30_a ef30_j1049 (kFin VG0230 0 (Tryd.f30).results.toList) (fun k => f30_n0 F k) (f30_n1 F)
    (fun Rf30_j1049 => f30_n0_eq F Rf30_j1049) (f30_n1_eq F)
/-- gantry/hash.compress -/
def f30 (F : Nat) : (List Int) × (List Int) → Option (AV × List Blk) := f30_nt F
theorem f30_body (F : Nat) (a0 : List Int) (a1 : List Int) : abody VG0230 (Af30 F) Tryd.f30 [(.agg 8 (.rI .u32 a0)), (.vs (.rI .u8 a1) 0 1)] [] = f30 F (a0, a1) :=
  (abody_in (c := (sub (bodyOf Tryd.f30) [])) (by kernel_rfl) (s := ef30_a (a0, a1)) (by kernel_rfl)).trans (f30_nt_eq F (a0, a1))
def r30 : CRun := fun X H => match X, H with
  | [(.agg 8 (.rI .u32 a0)), (.vs (.rI .u8 a1) 0 1)], [] => some ((decide (a1.length = 64)), (.agg 8 (.rI .u32 (Sha.comp a0 a1))), [])
  | _, _ => none
theorem mix_S3 (x : Int) (i j k : Nat) (hi : i < 32 ∧ 0 < i) (hj : j < 32 ∧ 0 < j) (hk : k < 32 ∧ 0 < k) : Sha.mix x i j k = Sha.S3 x i j k := by
  unfold Sha.mix Sha.S3
  rw [i64w (by omega) (by omega), i64w (by omega) (by omega), i64w (by omega) (by omega), show (0 - (i : Int)) = -(i : Int) by omega, show (0 - (j : Int)) = -(j : Int) by omega, show (0 - (k : Int)) = -(k : Int) by omega,
    Sha.rotl_neg _ i hi.1 hi.2, Sha.rotl_neg _ j hj.1 hj.2, Sha.rotl_neg _ k hk.1 hk.2]
theorem mixE (x : Int) : Sha.mix x 6 11 25 = Sha.S3 x 6 11 25 := mix_S3 x 6 11 25 (by decide) (by decide) (by decide)
theorem mixA (x : Int) : Sha.mix x 2 13 22 = Sha.S3 x 2 13 22 := mix_S3 x 2 13 22 (by decide) (by decide) (by decide)
theorem len8 {l : List Int} (h : l.length = 8) : ∃ a b c d e f g i, l = [a, b, c, d, e, f, g, i] := by
  match l, h with
  | [a, b, c, d, e, f, g, i], _ => exact ⟨a, b, c, d, e, f, g, i, rfl⟩
theorem s30 (a0 : List Int) (a1 : List Int) (hp : ((decide (a1.length = 64))) = true) (h0 : okV (.agg 8 (.rI .u32 a0))) (h1 : okV (.vs (.rI .u8 a1) 0 1)) : ∃ F, f30 F (a0, a1) = some ((.agg 8 (.rI .u32 (Sha.comp a0 a1))), []) := by
  refine ⟨65, ?_⟩
  simp only [f30, f30_nt, f30_n0, f30_n1, f30_n10, f30_n11, f30_n110, f30_n111, f30_n1110, f30_n1111, f30_n11100, f30_n11101, f30_n111010, f30_n111010_i]
  rw [hp]
  simp only [cond_true]
  rw [List.take_of_length_le (show (List.drop 4 a0).length ≤ 4 by rw [List.length_drop, (okR_rI h0).1]; omega)]
  refine loopN_from (fun i => (Sha.K, (i : Int), a0, [0, 0, 0, 0, 0, 0, 0, 0], Sha.sched a1 64, (Sha.rnds (Sha.sched a1 64) (a0.take 4, a0.drop 4) i).1, (Sha.rnds (Sha.sched a1 64) (a0.take 4, a0.drop 4) i).2)) 64 (by rfl) (fun i hi k => ?_) (fun k => ?_) 65 (by omega)
  · simp only [f30_n1110100, dec_and]
    rw [cond_pos (by omega), cond_pos (by omega), cond_pos (by omega), i64w (x := (i : Int) + 1) (by omega) (by omega), mixE, mixA]
    rfl
  · simp only [f30_n1110100]
    rw [cond_neg (by omega)]
    simp only [f30_n1111, f30_n11110, f30_n111100, f30_n111101, f30_n1111010, f30_n1111010_i]
    unfold Sha.comp
    generalize Sha.rnds (Sha.sched a1 64) (a0.take 4, a0.drop 4) 64 = t
    obtain ⟨v, e⟩ := t
    obtain ⟨b0, b1, b2, b3, b4, b5, b6, b7, rfl⟩ := len8 (okR_rI h0).1
    refine loopN_from (fun j => ((j : Int), (match j with
      | 0 => [b0, b1, b2, b3, b4, b5, b6, b7]
      | 1 => [Sha.add b0 (v.getD 0 0), b1, b2, b3, Sha.add b4 (e.getD 0 0), b5, b6, b7]
      | 2 => [Sha.add b0 (v.getD 0 0), Sha.add b1 (v.getD 1 0), b2, b3, Sha.add b4 (e.getD 0 0), Sha.add b5 (e.getD 1 0), b6, b7]
      | 3 => [Sha.add b0 (v.getD 0 0), Sha.add b1 (v.getD 1 0), Sha.add b2 (v.getD 2 0), b3, Sha.add b4 (e.getD 0 0), Sha.add b5 (e.getD 1 0), Sha.add b6 (e.getD 2 0), b7]
      | _ => [Sha.add b0 (v.getD 0 0), Sha.add b1 (v.getD 1 0), Sha.add b2 (v.getD 2 0), Sha.add b3 (v.getD 3 0), Sha.add b4 (e.getD 0 0), Sha.add b5 (e.getD 1 0), Sha.add b6 (e.getD 2 0), Sha.add b7 (e.getD 3 0)]), [0, 0, 0, 0, 0, 0, 0, 0], v, e)) 4 (by rfl) (fun j hj k' => ?_) (fun k' => ?_) 65 (by omega)
    · simp only [f30_n11110100, dec_and]
      have hj' : j = 0 ∨ j = 1 ∨ j = 2 ∨ j = 3 := by omega
      rcases hj' with rfl | rfl | rfl | rfl <;> rfl
    · simp only [f30_n11110100]
      rw [cond_neg (by omega)]
      rfl

theorem c30 : CallOk Tryd.prog G02 30 r30 := callOk_of (V := VG0230) mixed tys eVG0230 (f := 30) (fn := Tryd.f30) Tryd.func30 (by kernel_rfl) (c := sub (bodyOf Tryd.f30) []) (by kernel_rfl) (by
  intro X H r H' h hX hH
  unfold r30 at h; split at h <;> try contradiction
  simp only [Option.some.injEq, Prod.mk.injEq] at h
  obtain ⟨hp, rfl, rfl⟩ := h
  obtain ⟨F, hF⟩ := s30 _ _ hp (hX _ (.head _)) (hX _ (.tail _ (.head _)))
  exact ⟨Af30 F, (f30_body F _ _).trans hF⟩)
end Go.Am
