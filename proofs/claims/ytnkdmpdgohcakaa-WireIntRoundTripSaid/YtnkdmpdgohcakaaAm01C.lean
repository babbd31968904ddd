/- Part of a proof about the functions of the given program. -/
import Derived.Test.YtnkdmpdgohcakaaAm01B
set_option linter.unusedVariables false
set_option linter.unusedSimpArgs false
namespace Go.Am
open Go Go.Proofs

/-! gantry/wire.GetInt -/
def lVG0124 : List CEnt := []
def VG0124 : Env := mkEnv T01 G01 lVG0124
theorem eVG0124 : EOk Try.prog VG0124 := eok_mk (by exact trivial)
def Af24 (F : Nat) : Cuts := { F := F, at_ := fun n => match n with | 15012 => some [(5, .plain), (6, .plain), (7, .plain), (46, .plain), (47, .plain), (48, .plain)] | _ => none, join := fun n => match n with | 1075 => some [(0, .plain)] | 3067 => some [(0, .plain)] | 4065 => some [(0, .plain), (5, .plain)] | 6059 => some [(0, .plain), (5, .plain)] | 7057 => some [(0, .plain), (5, .plain), (6, .plain)] | 13036 => some [(0, .plain), (5, .plain), (6, .plain)] | 14034 => some [(0, .plain), (5, .plain), (6, .plain), (7, .plain)] | 15014 => some [(5, .plain), (6, .plain), (7, .plain), (46, .plain), (47, .plain), (48, .plain)] | 19017 => some [(5, .plain), (6, .plain), (7, .plain)] | _ => none }
def ef24_a : (List Int) → St := fun a0 => { tmps := [(0, (.vs (.rI .u8 a0) 0 1))], heap := [], next := 0, nt := 71, m := 0 }
def ef24_j1075 : (List Int) → St := fun t0 => { tmps := [(0, (.vs (.rI .u8 t0) 0 1))], heap := [], next := 0, nt := 71, m := 0 }
def ef24_j3067 : (List Int) → St := fun t0 => { tmps := [(0, (.vs (.rI .u8 t0) 0 1))], heap := [], next := 0, nt := 71, m := 0 }
def ef24_j4065 : (List Int) × Int → St := fun (t0, t5) => { tmps := [(0, (.vs (.rI .u8 t0) 0 1)), (5, (.int .u8 t5))], heap := [], next := 0, nt := 71, m := 0 }
def ef24_j6059 : (List Int) × Int → St := fun (t0, t5) => { tmps := [(0, (.vs (.rI .u8 t0) 0 1)), (5, (.int .u8 t5))], heap := [], next := 0, nt := 71, m := 0 }
def ef24_j7057 : (List Int) × Int × Int → St := fun (t0, t5, t6) => { tmps := [(0, (.vs (.rI .u8 t0) 0 1)), (5, (.int .u8 t5)), (6, (.int .i64 t6))], heap := [], next := 0, nt := 71, m := 0 }
def ef24_j13036 : (List Int) × Int × Int → St := fun (t0, t5, t6) => { tmps := [(0, (.vs (.rI .u8 t0) 0 1)), (5, (.int .u8 t5)), (6, (.int .i64 t6))], heap := [], next := 0, nt := 71, m := 0 }
def ef24_j14034 : (List Int) × Int × Int × Int → St := fun (t0, t5, t6, t7) => { tmps := [(0, (.vs (.rI .u8 t0) 0 1)), (5, (.int .u8 t5)), (6, (.int .i64 t6)), (7, (.int .u64 t7))], heap := [], next := 0, nt := 71, m := 0 }
def ef24_j15014 : Int × Int × Int × (List Int) × Int × Int → St := fun (t5, t6, t7, t46, t47, t48) => { tmps := [(5, (.int .u8 t5)), (6, (.int .i64 t6)), (7, (.int .u64 t7)), (46, (.vs (.rI .u8 t46) 0 1)), (47, (.int .i64 t47)), (48, (.int .i64 t48))], heap := [], next := 0, nt := 71, m := 0 }
def ef24_l15012 : Int × Int × Int × (List Int) × Int × Int → St := fun (t5, t6, t7, t46, t47, t48) => { tmps := [(5, (.int .u8 t5)), (6, (.int .i64 t6)), (7, (.int .u64 t7)), (46, (.vs (.rI .u8 t46) 0 1)), (47, (.int .i64 t47)), (48, (.int .i64 t48))], heap := [], next := 0, nt := 71, m := 0 }
def ef24_j19017 : Int × Int × Int → St := fun (t5, t6, t7) => { tmps := [(5, (.int .u8 t5)), (6, (.int .i64 t6)), (7, (.int .u64 t7))], heap := [], next := 0, nt := 71, m := 0 }
def f24_n0 (F : Nat) (kf24_j1075 : (List Int) → Option (AV × List Blk)) : (List Int) → Option (AV × List Blk) := fun a0 => (kf24_j1075 a0)
theorem f24_n0_eq (F : Nat) (Rf24_j1075 : St → Option (AV × List Blk)) : ∀ v, aexec VG0124 (Af24 F) (sub (bodyOf Try.f24) [0]) (ef24_a v) (kSeq (fun s => Rf24_j1075 (cutTo VG0124 (some [(0, .plain)]) s)) (kFin VG0124 none (Try.f24).results.toList)) = f24_n0 F (fun w => Rf24_j1075 (ef24_j1075 w)) v := by
  intro a0; kernel_rfl
def f24_n10 (F : Nat) (kf24_j3067 : (List Int) → Option (AV × List Blk)) : (List Int) → Option (AV × List Blk) := fun t0 => (cond ((↑t0.length : Int) == (0 : Int)) (some ((.tup (.cons 0 (.int .i64 (0 : Int)) (.cons 0 (.int .i64 (0 : Int)) (.cons 0 (.int .i64 (3 : Int)) .nil)))), [])) (kf24_j3067 t0))
theorem f24_n10_eq (F : Nat) (Rf24_j3067 : St → Option (AV × List Blk)) : ∀ v, aexec VG0124 (Af24 F) (sub (bodyOf Try.f24) [1, 0]) (ef24_j1075 v) (kSeq (fun s => Rf24_j3067 (cutTo VG0124 (some [(0, .plain)]) s)) (kFin VG0124 none (Try.f24).results.toList)) = f24_n10 F (fun w => Rf24_j3067 (ef24_j3067 w)) v := by
  intro t0; kernel_rfl
def f24_n110 (F : Nat) (kf24_j4065 : (List Int) × Int → Option (AV × List Blk)) : (List Int) → Option (AV × List Blk) := fun t0 => (kf24_j4065 (t0, (0 : Int)))
theorem f24_n110_eq (F : Nat) (Rf24_j4065 : St → Option (AV × List Blk)) : ∀ v, aexec VG0124 (Af24 F) (sub (bodyOf Try.f24) [1, 1, 0]) (ef24_j3067 v) (kSeq (fun s => Rf24_j4065 (cutTo VG0124 (some [(0, .plain), (5, .plain)]) s)) (kFin VG0124 none (Try.f24).results.toList)) = f24_n110 F (fun w => Rf24_j4065 (ef24_j4065 w)) v := by
  intro t0; kernel_rfl
def f24_n1110 (F : Nat) (kf24_j6059 : (List Int) × Int → Option (AV × List Blk)) : (List Int) × Int → Option (AV × List Blk) := fun (t0, t5) => (cond (decide ((0 : Int) < (↑t0.length : Int))) (cond (decide ((t0.getD 0 0) < (128 : Int))) (kf24_j6059 (t0, (255 : Int))) (kf24_j6059 (t0, t5))) none)
theorem f24_n1110_eq (F : Nat) (Rf24_j6059 : St → Option (AV × List Blk)) : ∀ v, aexec VG0124 (Af24 F) (sub (bodyOf Try.f24) [1, 1, 1, 0]) (ef24_j4065 v) (kSeq (fun s => Rf24_j6059 (cutTo VG0124 (some [(0, .plain), (5, .plain)]) s)) (kFin VG0124 none (Try.f24).results.toList)) = f24_n1110 F (fun w => Rf24_j6059 (ef24_j6059 w)) v := by
  rintro ⟨t0, t5⟩; kernel_rfl
def f24_n11110 (F : Nat) (kf24_j7057 : (List Int) × Int × Int → Option (AV × List Blk)) : (List Int) × Int → Option (AV × List Blk) := fun (t0, t5) => (cond (decide ((0 : Int) < (↑t0.length : Int))) (kf24_j7057 (t0, t5, (IntKind.i64.wrap ((IntKind.i64.wrap (ibits .xor .u8 (t0.getD 0 0) t5)) - (128 : Int))))) none)
theorem f24_n11110_eq (F : Nat) (Rf24_j7057 : St → Option (AV × List Blk)) : ∀ v, aexec VG0124 (Af24 F) (sub (bodyOf Try.f24) [1, 1, 1, 1, 0]) (ef24_j6059 v) (kSeq (fun s => Rf24_j7057 (cutTo VG0124 (some [(0, .plain), (5, .plain), (6, .plain)]) s)) (kFin VG0124 none (Try.f24).results.toList)) = f24_n11110 F (fun w => Rf24_j7057 (ef24_j7057 w)) v := by
  rintro ⟨t0, t5⟩; kernel_rfl
def f24_n111110 (F : Nat) (kf24_j13036 : (List Int) × Int × Int → Option (AV × List Blk)) : (List Int) × Int × Int → Option (AV × List Blk) := fun (t0, t5, t6) => (cond (decide (t6 > (8 : Int))) (some ((.tup (.cons 0 (.int .i64 (0 : Int)) (.cons 0 (.int .i64 (0 : Int)) (.cons 0 (.int .i64 (2 : Int)) .nil)))), [])) (cond (decide ((↑t0.length : Int) ≤ t6)) (some ((.tup (.cons 0 (.int .i64 (0 : Int)) (.cons 0 (.int .i64 (0 : Int)) (.cons 0 (.int .i64 (3 : Int)) .nil)))), [])) (cond (decide (t6 > (0 : Int))) (cond (decide ((1 : Int) < (↑t0.length : Int))) (cond ((ibits .xor .u8 (t0.getD 1 0) t5) == (0 : Int)) (some ((.tup (.cons 0 (.int .i64 (0 : Int)) (.cons 0 (.int .i64 (0 : Int)) (.cons 0 (.int .i64 (2 : Int)) .nil)))), [])) (kf24_j13036 (t0, t5, t6))) none) (kf24_j13036 (t0, t5, t6)))))
theorem f24_n111110_eq (F : Nat) (Rf24_j13036 : St → Option (AV × List Blk)) : ∀ v, aexec VG0124 (Af24 F) (sub (bodyOf Try.f24) [1, 1, 1, 1, 1, 0]) (ef24_j7057 v) (kSeq (fun s => Rf24_j13036 (cutTo VG0124 (some [(0, .plain), (5, .plain), (6, .plain)]) s)) (kFin VG0124 none (Try.f24).results.toList)) = f24_n111110 F (fun w => Rf24_j13036 (ef24_j13036 w)) v := by
  rintro ⟨t0, t5, t6⟩; kernel_rfl
def f24_n1111110 (F : Nat) (kf24_j14034 : (List Int) × Int × Int × Int → Option (AV × List Blk)) : (List Int) × Int × Int → Option (AV × List Blk) := fun (t0, t5, t6) => (kf24_j14034 (t0, t5, t6, (0 : Int)))
theorem f24_n1111110_eq (F : Nat) (Rf24_j14034 : St → Option (AV × List Blk)) : ∀ v, aexec VG0124 (Af24 F) (sub (bodyOf Try.f24) [1, 1, 1, 1, 1, 1, 0]) (ef24_j13036 v) (kSeq (fun s => Rf24_j14034 (cutTo VG0124 (some [(0, .plain), (5, .plain), (6, .plain), (7, .plain)]) s)) (kFin VG0124 none (Try.f24).results.toList)) = f24_n1111110 F (fun w => Rf24_j14034 (ef24_j14034 w)) v := by
  rintro ⟨t0, t5, t6⟩; kernel_rfl
def f24_n111111100 (F : Nat) (kf24_j15014 : Int × Int × Int × (List Int) × Int × Int → Option (AV × List Blk)) (kf24_j19017 : Int × Int × Int → Option (AV × List Blk)) : (List Int) × Int × Int × Int → Option (AV × List Blk) := fun (t0, t5, t6, t7) => (cond ((decide ((1 : Int) ≤ (IntKind.i64.wrap (t6 + (1 : Int))))) && (decide ((IntKind.i64.wrap (t6 + (1 : Int))) ≤ (↑t0.length : Int)))) (kf24_j15014 (t5, t6, t7, ((t0.drop 1).take ((Int.toNat (IntKind.i64.wrap (t6 + (1 : Int)))) - 1)), (↑((t0.drop 1).take ((Int.toNat (IntKind.i64.wrap (t6 + (1 : Int)))) - 1)).length : Int), (0 : Int))) none)
theorem f24_n111111100_eq (F : Nat) (Rf24_j15014 : St → Option (AV × List Blk)) (Rf24_j19017 : St → Option (AV × List Blk)) : ∀ v, aexec VG0124 (Af24 F) (sub (bodyOf Try.f24) [1, 1, 1, 1, 1, 1, 1, 0, 0]) (ef24_j14034 v) (kSeq (fun s => Rf24_j15014 (cutTo VG0124 (some [(5, .plain), (6, .plain), (7, .plain), (46, .plain), (47, .plain), (48, .plain)]) s)) (kSeq (fun s => Rf24_j19017 (cutTo VG0124 (some [(5, .plain), (6, .plain), (7, .plain)]) s)) (kFin VG0124 none (Try.f24).results.toList))) = f24_n111111100 F (fun w => Rf24_j15014 (ef24_j15014 w)) (fun w => Rf24_j19017 (ef24_j19017 w)) v := by
  rintro ⟨t0, t5, t6, t7⟩; kernel_rfl
def f24_n11111110100 (F : Nat) (kf24_l15012 : Int × Int × Int × (List Int) × Int × Int → Option (AV × List Blk)) (kf24_j19017 : Int × Int × Int → Option (AV × List Blk)) : Int × Int × Int × (List Int) × Int × Int → Option (AV × List Blk) := fun (t5, t6, t7, t46, t47, t48) => (cond (decide (t48 < t47)) (cond ((decide (0 ≤ t48)) && (decide (t48 < (↑t46.length : Int)))) (kf24_l15012 (t5, t6, (ibits .or .u64 (IntKind.u64.wrap (t7 * 2 ^ 8)) (IntKind.u64.wrap (ibits .xor .u8 (t46.getD (Int.toNat t48) 0) t5))), t46, t47, (IntKind.i64.wrap (t48 + (1 : Int))))) none) (kf24_j19017 (t5, t6, t7)))
theorem f24_n11111110100_eq (F : Nat) (Rf24_l15012 : St → Option (AV × List Blk)) (Rf24_j19017 : St → Option (AV × List Blk)) : ∀ v, aexec VG0124 (Af24 F) (sub (bodyOf Try.f24) [1, 1, 1, 1, 1, 1, 1, 0, 1, 0, 0]) (ef24_l15012 v) (kSeq (fun s => Rf24_l15012 (cutTo VG0124 (some [(5, .plain), (6, .plain), (7, .plain), (46, .plain), (47, .plain), (48, .plain)]) s)) (kBlock 1 (kSeq (fun s => Rf24_j19017 (cutTo VG0124 (some [(5, .plain), (6, .plain), (7, .plain)]) s)) (kFin VG0124 none (Try.f24).results.toList)))) = f24_n11111110100 F (fun w => Rf24_l15012 (ef24_l15012 w)) (fun w => Rf24_j19017 (ef24_j19017 w)) v := by
  rintro ⟨t5, t6, t7, t46, t47, t48⟩; kernel_rfl
def f24_n1111111010_i : Int × Int × Int × (List Int) × Int × Int → Int × Int × Int × (List Int) × Int × Int := fun (t5, t6, t7, t46, t47, t48) => (t5, t6, t7, t46, t47, t48)
def f24_n1111111010 (F : Nat) (kf24_j19017 : Int × Int × Int → Option (AV × List Blk)) : Int × Int × Int × (List Int) × Int × Int → Option (AV × List Blk) := fun v => loopN (fun k => f24_n11111110100 F k kf24_j19017) F (f24_n1111111010_i v)
theorem f24_n1111111010_eq (F : Nat) (Rf24_j19017 : St → Option (AV × List Blk)) : ∀ v, aexec VG0124 (Af24 F) (sub (bodyOf Try.f24) [1, 1, 1, 1, 1, 1, 1, 0, 1, 0]) (ef24_j15014 v) (kBlock 1 (kSeq (fun s => Rf24_j19017 (cutTo VG0124 (some [(5, .plain), (6, .plain), (7, .plain)]) s)) (kFin VG0124 none (Try.f24).results.toList))) = f24_n1111111010 F (fun w => Rf24_j19017 (ef24_j19017 w)) v :=
  loop_cut (c := (sub (bodyOf Try.f24) [1, 1, 1, 1, 1, 1, 1, 0, 1, 0])) (d := (sub (bodyOf Try.f24) [1, 1, 1, 1, 1, 1, 1, 0, 1, 0, 0])) (by kernel_rfl) (spec := [(5, .plain), (6, .plain), (7, .plain), (46, .plain), (47, .plain), (48, .plain)]) (by kernel_rfl) ef24_j15014 ef24_l15012 (kBlock 1 (kSeq (fun s => Rf24_j19017 (cutTo VG0124 (some [(5, .plain), (6, .plain), (7, .plain)]) s)) (kFin VG0124 none (Try.f24).results.toList))) f24_n1111111010_i (fun k => f24_n11111110100 F k (fun w => Rf24_j19017 (ef24_j19017 w)))
    (by rintro ⟨t5, t6, t7, t46, t47, t48⟩; kernel_rfl) (fun Rf24_l15012 => f24_n11111110100_eq F Rf24_l15012 Rf24_j19017)
def f24_n111111101 (F : Nat) (kf24_j19017 : Int × Int × Int → Option (AV × List Blk)) : Int × Int × Int × (List Int) × Int × Int → Option (AV × List Blk) := f24_n1111111010 F kf24_j19017
theorem f24_n111111101_eq (F : Nat) (Rf24_j19017 : St → Option (AV × List Blk)) : ∀ v, aexec VG0124 (Af24 F) (sub (bodyOf Try.f24) [1, 1, 1, 1, 1, 1, 1, 0, 1]) (ef24_j15014 v) (kSeq (fun s => Rf24_j19017 (cutTo VG0124 (some [(5, .plain), (6, .plain), (7, .plain)]) s)) (kFin VG0124 none (Try.f24).results.toList)) = f24_n111111101 F (fun w => Rf24_j19017 (ef24_j19017 w)) v := fun v =>
  (block_in (c := (sub (bodyOf Try.f24) [1, 1, 1, 1, 1, 1, 1, 0, 1])) (d := (sub (bodyOf Try.f24) [1, 1, 1, 1, 1, 1, 1, 0, 1, 0])) (id := 1) (by kernel_rfl) _ _).trans (f24_n1111111010_eq F Rf24_j19017 v)
def f24_n11111110 (F : Nat) (kf24_j19017 : Int × Int × Int → Option (AV × List Blk)) : (List Int) × Int × Int × Int → Option (AV × List Blk) := fun v => f24_n111111100 F (f24_n111111101 F kf24_j19017) kf24_j19017 v
theorem f24_n11111110_eq (F : Nat) (Rf24_j19017 : St → Option (AV × List Blk)) : ∀ v, aexec VG0124 (Af24 F) (sub (bodyOf Try.f24) [1, 1, 1, 1, 1, 1, 1, 0]) (ef24_j14034 v) (kSeq (fun s => Rf24_j19017 (cutTo VG0124 (some [(5, .plain), (6, .plain), (7, .plain)]) s)) (kFin VG0124 none (Try.f24).results.toList)) = f24_n11111110 F (fun w => Rf24_j19017 (ef24_j19017 w)) v :=
  seq_cut (c := (sub (bodyOf Try.f24) [1, 1, 1, 1, 1, 1, 1, 0])) (a := (sub (bodyOf Try.f24) [1, 1, 1, 1, 1, 1, 1, 0, 0])) (b := (sub (bodyOf Try.f24) [1, 1, 1, 1, 1, 1, 1, 0, 1])) (by kernel_rfl) (spec := [(5, .plain), (6, .plain), (7, .plain), (46, .plain), (47, .plain), (48, .plain)]) (by kernel_rfl) ef24_j14034 ef24_j15014 (kSeq (fun s => Rf24_j19017 (cutTo VG0124 (some [(5, .plain), (6, .plain), (7, .plain)]) s)) (kFin VG0124 none (Try.f24).results.toList)) (fun k => f24_n111111100 F k (fun w => Rf24_j19017 (ef24_j19017 w))) (f24_n111111101 F (fun w => Rf24_j19017 (ef24_j19017 w)))
    (fun Rf24_j15014 => f24_n111111100_eq F Rf24_j15014 Rf24_j19017) (f24_n111111101_eq F Rf24_j19017)
def f24_n11111111 (F : Nat) : Int × Int × Int → Option (AV × List Blk) := fun (t5, t6, t7) => (cond (decide ((Int.fdiv t7 (2 ^ 63)) > (0 : Int))) (some ((.tup (.cons 0 (.int .i64 (0 : Int)) (.cons 0 (.int .i64 (0 : Int)) (.cons 0 (.int .i64 (2 : Int)) .nil)))), [])) (cond (decide (t5 > (0 : Int))) (some ((.tup (.cons 0 (.int .i64 (IntKind.i64.wrap (ibits .xor .u64 (18446744073709551615 : Int) t7))) (.cons 0 (.int .i64 (IntKind.i64.wrap (t6 + (1 : Int)))) (.cons 0 (.int .i64 (0 : Int)) .nil)))), [])) (some ((.tup (.cons 0 (.int .i64 (IntKind.i64.wrap t7)) (.cons 0 (.int .i64 (IntKind.i64.wrap (t6 + (1 : Int)))) (.cons 0 (.int .i64 (0 : Int)) .nil)))), []))))
theorem f24_n11111111_eq (F : Nat) : ∀ v, aexec VG0124 (Af24 F) (sub (bodyOf Try.f24) [1, 1, 1, 1, 1, 1, 1, 1]) (ef24_j19017 v) (kFin VG0124 none (Try.f24).results.toList) = f24_n11111111 F v := by
  rintro ⟨t5, t6, t7⟩; kernel_rfl
def f24_n1111111 (F : Nat) : (List Int) × Int × Int × Int → Option (AV × List Blk) := fun v => f24_n11111110 F (f24_n11111111 F) v
theorem f24_n1111111_eq (F : Nat) : ∀ v, aexec VG0124 (Af24 F) (sub (bodyOf Try.f24) [1, 1, 1, 1, 1, 1, 1]) (ef24_j14034 v) (kFin VG0124 none (Try.f24).results.toList) = f24_n1111111 F v :=
  seq_cut (c := (sub (bodyOf Try.f24) [1, 1, 1, 1, 1, 1, 1])) (a := (sub (bodyOf Try.f24) [1, 1, 1, 1, 1, 1, 1, 0])) (b := (sub (bodyOf Try.f24) [1, 1, 1, 1, 1, 1, 1, 1])) (by kernel_rfl) (spec := [(5, .plain), (6, .plain), (7, .plain)]) (by kernel_rfl) ef24_j14034 ef24_j19017 (kFin VG0124 none (Try.f24).results.toList) (fun k => f24_n11111110 F k) (f24_n11111111 F)
    (fun Rf24_j19017 => f24_n11111110_eq F Rf24_j19017) (f24_n11111111_eq F)
def f24_n111111 (F : Nat) : (List Int) × Int × Int → Option (AV × List Blk) := fun v => f24_n1111110 F (f24_n1111111 F) v
theorem f24_n111111_eq (F : Nat) : ∀ v, aexec VG0124 (Af24 F) (sub (bodyOf Try.f24) [1, 1, 1, 1, 1, 1]) (ef24_j13036 v) (kFin VG0124 none (Try.f24).results.toList) = f24_n111111 F v :=
  seq_cut (c := (sub (bodyOf Try.f24) [1, 1, 1, 1, 1, 1])) (a := (sub (bodyOf Try.f24) [1, 1, 1, 1, 1, 1, 0])) (b := (sub (bodyOf Try.f24) [1, 1, 1, 1, 1, 1, 1])) (by kernel_rfl) (spec := [(0, .plain), (5, .plain), (6, .plain), (7, .plain)]) (by kernel_rfl) ef24_j13036 ef24_j14034 (kFin VG0124 none (Try.f24).results.toList) (fun k => f24_n1111110 F k) (f24_n1111111 F)
    (fun Rf24_j14034 => f24_n1111110_eq F Rf24_j14034) (f24_n1111111_eq F)
def f24_n11111 (F : Nat) : (List Int) × Int × Int → Option (AV × List Blk) := fun v => f24_n111110 F (f24_n111111 F) v
theorem f24_n11111_eq (F : Nat) : ∀ v, aexec VG0124 (Af24 F) (sub (bodyOf Try.f24) [1, 1, 1, 1, 1]) (ef24_j7057 v) (kFin VG0124 none (Try.f24).results.toList) = f24_n11111 F v :=
  seq_cut (c := (sub (bodyOf Try.f24) [1, 1, 1, 1, 1])) (a := (sub (bodyOf Try.f24) [1, 1, 1, 1, 1, 0])) (b := (sub (bodyOf Try.f24) [1, 1, 1, 1, 1, 1])) (by kernel_rfl) (spec := [(0, .plain), (5, .plain), (6, .plain)]) (by kernel_rfl) ef24_j7057 ef24_j13036 (kFin VG0124 none (Try.f24).results.toList) (fun k => f24_n111110 F k) (f24_n111111 F)
    (fun Rf24_j13036 => f24_n111110_eq F Rf24_j13036) (f24_n111111_eq F)
def f24_n1111 (F : Nat) : (List Int) × Int → Option (AV × List Blk) := fun v => f24_n11110 F (f24_n11111 F) v
theorem f24_n1111_eq (F : Nat) : ∀ v, aexec VG0124 (Af24 F) (sub (bodyOf Try.f24) [1, 1, 1, 1]) (ef24_j6059 v) (kFin VG0124 none (Try.f24).results.toList) = f24_n1111 F v :=
  seq_cut (c := (sub (bodyOf Try.f24) [1, 1, 1, 1])) (a := (sub (bodyOf Try.f24) [1, 1, 1, 1, 0])) (b := (sub (bodyOf Try.f24) [1, 1, 1, 1, 1])) (by kernel_rfl) (spec := [(0, .plain), (5, .plain), (6, .plain)]) (by kernel_rfl) ef24_j6059 ef24_j7057 (kFin VG0124 none (Try.f24).results.toList) (fun k => f24_n11110 F k) (f24_n11111 F)
    (fun Rf24_j7057 => f24_n11110_eq F Rf24_j7057) (f24_n11111_eq F)
def f24_n111 (F : Nat) : (List Int) × Int → Option (AV × List Blk) := fun v => f24_n1110 F (f24_n1111 F) v
theorem f24_n111_eq (F : Nat) : ∀ v, aexec VG0124 (Af24 F) (sub (bodyOf Try.f24) [1, 1, 1]) (ef24_j4065 v) (kFin VG0124 none (Try.f24).results.toList) = f24_n111 F v :=
  seq_cut (c := (sub (bodyOf Try.f24) [1, 1, 1])) (a := (sub (bodyOf Try.f24) [1, 1, 1, 0])) (b := (sub (bodyOf Try.f24) [1, 1, 1, 1])) (by kernel_rfl) (spec := [(0, .plain), (5, .plain)]) (by kernel_rfl) ef24_j4065 ef24_j6059 (kFin VG0124 none (Try.f24).results.toList) (fun k => f24_n1110 F k) (f24_n1111 F)
    (fun Rf24_j6059 => f24_n1110_eq F Rf24_j6059) (f24_n1111_eq F)
def f24_n11 (F : Nat) : (List Int) → Option (AV × List Blk) := fun v => f24_n110 F (f24_n111 F) v
theorem f24_n11_eq (F : Nat) : ∀ v, aexec VG0124 (Af24 F) (sub (bodyOf Try.f24) [1, 1]) (ef24_j3067 v) (kFin VG0124 none (Try.f24).results.toList) = f24_n11 F v :=
  seq_cut (c := (sub (bodyOf Try.f24) [1, 1])) (a := (sub (bodyOf Try.f24) [1, 1, 0])) (b := (sub (bodyOf Try.f24) [1, 1, 1])) (by kernel_rfl) (spec := [(0, .plain), (5, .plain)]) (by kernel_rfl) ef24_j3067 ef24_j4065 (kFin VG0124 none (Try.f24).results.toList) (fun k => f24_n110 F k) (f24_n111 F)
    (fun Rf24_j4065 => f24_n110_eq F Rf24_j4065) (f24_n111_eq F)
def f24_n1 (F : Nat) : (List Int) → Option (AV × List Blk) := fun v => f24_n10 F (f24_n11 F) v
theorem f24_n1_eq (F : Nat) : ∀ v, aexec VG0124 (Af24 F) (sub (bodyOf Try.f24) [1]) (ef24_j1075 v) (kFin VG0124 none (Try.f24).results.toList) = f24_n1 F v :=
  seq_cut (c := (sub (bodyOf Try.f24) [1])) (a := (sub (bodyOf Try.f24) [1, 0])) (b := (sub (bodyOf Try.f24) [1, 1])) (by kernel_rfl) (spec := [(0, .plain)]) (by kernel_rfl) ef24_j1075 ef24_j3067 (kFin VG0124 none (Try.f24).results.toList) (fun k => f24_n10 F k) (f24_n11 F)
    (fun Rf24_j3067 => f24_n10_eq F Rf24_j3067) (f24_n11_eq F)
def f24_nt (F : Nat) : (List Int) → Option (AV × List Blk) := fun v => f24_n0 F (f24_n1 F) v
theorem f24_nt_eq (F : Nat) : ∀ v, aexec VG0124 (Af24 F) (sub (bodyOf Try.f24) []) (ef24_a v) (kFin VG0124 none (Try.f24).results.toList) = f24_nt F v :=
  seq_cut (c := (sub (bodyOf Try.f24) [])) (a := (sub (bodyOf Try.f24) [0])) (b := (sub (bodyOf Try.f24) [1])) (by kernel_rfl) (spec := [(0, .plain)]) (by kernel_rfl) ef24_a ef24_j1075 (kFin VG0124 none (Try.f24).results.toList) (fun k => f24_n0 F k) (f24_n1 F)
    (fun Rf24_j1075 => f24_n0_eq F Rf24_j1075) (f24_n1_eq F)
/-- gantry/wire.GetInt -/
def f24 (F : Nat) : (List Int) → Option (AV × List Blk) := f24_nt F
theorem f24_body (F : Nat) (a0 : List Int) : abody VG0124 (Af24 F) Try.f24 [(.vs (.rI .u8 a0) 0 1)] [] = f24 F a0 :=
  (abody_in (c := (sub (bodyOf Try.f24) [])) (by kernel_rfl) (s := ef24_a a0) (by kernel_rfl)).trans (f24_nt_eq F a0)
def r24 : CRun := fun X H => match X, H with
  | [(.vs (.rI .u8 a0) 0 1)], [] => some (true, (.tup (.cons 0 (.int .i64 (Wire.getInt a0).1) (.cons 0 (.int .i64 (Wire.getInt a0).2.1) (.cons 0 (.int .i64 (Wire.getInt a0).2.2) .nil)))), [])
  | _, _ => none
theorem s24 (a0 : List Int) (h0 : okV (.vs (.rI .u8 a0) 0 1)) : ∃ F, f24 F a0 = some ((.tup (.cons 0 (.int .i64 (Wire.getInt a0).1) (.cons 0 (.int .i64 (Wire.getInt a0).2.1) (.cons 0 (.int .i64 (Wire.getInt a0).2.2) .nil)))), []) := by
  have hb := Wire.okB_of h0.1
  have hlen := h0.2
  refine ⟨9, ?_⟩
  simp only [f24, f24_nt, f24_n0, f24_n1, f24_n10, int_beq]
  cases a0 with
  | nil => rfl
  | cons h t =>
    have hh := hb h (by simp)
    have ht : Wire.okBytes t := fun x hx => hb x (by simp [hx])
    have hk127 := Wire.cntOf_le hh
    simp only [List.length_cons] at hlen
    rw [cond_neg (by simp only [List.length_cons]; omega)]
    simp only [f24_n11, f24_n110, f24_n111, f24_n1110, List.length_cons, List.getD_cons_zero]
    rw [cond_pos (by omega)]
    have key : ∀ fl : Int, fl = (if h < 128 then 255 else 0) → f24_n1111 9 (h :: t, fl) = some ((.tup (.cons 0 (.int .i64 (Wire.getInt (h :: t)).1) (.cons 0 (.int .i64 (Wire.getInt (h :: t)).2.1) (.cons 0 (.int .i64 (Wire.getInt (h :: t)).2.2) .nil)))), []) := by
      intro fl hfl
      have hx : ∀ d : Int, 0 ≤ d ∧ d ≤ 255 → ibits .xor .u8 d fl = Wire.flp h d := fun d hd => by
        unfold Wire.flp; rw [hfl]
        by_cases h1 : h < 128
        · rw [if_pos h1, if_pos h1, xor8_255 _ hd.1 hd.2]
        · rw [if_neg h1, if_neg h1, xor8_0 _ hd.1 hd.2]
      have hk : IntKind.i64.wrap ((IntKind.i64.wrap (Wire.flp h h)) - (128 : Int)) = (Wire.cntOf h : Int) := by
        have := Wire.flp_rng (h := h) hh
        rw [i64w (x := Wire.flp h h) (by omega) (by omega), i64w (by omega) (by omega)]
        unfold Wire.flp Wire.cntOf; split <;> omega
      have t0 := Wire.byte_getD ht 0
      simp only [f24_n1111, f24_n11110, f24_n11111, f24_n111110, List.length_cons, List.getD_cons_zero, List.getD_cons_succ, int_beq]
      rw [cond_pos (by omega), hx h hh, hk, hx _ t0]
      simp only [Wire.getInt]
      by_cases c1 : 8 < Wire.cntOf h
      · rw [cond_pos (by omega), if_pos c1]
      rw [cond_neg (by omega), if_neg c1]
      by_cases c2 : t.length < Wire.cntOf h
      · rw [cond_pos (by omega), if_pos c2]
      rw [cond_neg (by omega), if_neg c2]
      have rest : ∀ Z : Int × Int × Int, Z = (if 9223372036854775808 ≤ Wire.val h (t.take (Wire.cntOf h)) then ((0 : Int), (0 : Int), (2 : Int)) else ((if h < 128 then -1 - Wire.val h (t.take (Wire.cntOf h)) else Wire.val h (t.take (Wire.cntOf h))), (Wire.cntOf h : Int) + 1, 0)) → f24_n111111 9 (h :: t, fl, (Wire.cntOf h : Int)) = some ((.tup (.cons 0 (.int .i64 Z.1) (.cons 0 (.int .i64 Z.2.1) (.cons 0 (.int .i64 Z.2.2) .nil)))), []) := by
        intro Z hZ
        simp only [f24_n111111, f24_n1111110, f24_n1111111, f24_n11111110, f24_n111111100, f24_n111111101, f24_n1111111010, f24_n1111111010_i, dec_and, List.length_cons]
        rw [i64w (x := (Wire.cntOf h : Int) + 1) (by omega) (by omega), cond_pos (by omega), show ((Wire.cntOf h : Int) + 1).toNat - 1 = Wire.cntOf h by omega]
        simp only [List.drop_succ_cons, List.drop_zero]
        have hl1 : (t.take (Wire.cntOf h)).length = Wire.cntOf h := by rw [List.length_take]; omega
        have hb1 := Wire.okBytes_take ht (Wire.cntOf h)
        rw [hl1]
        generalize t.take (Wire.cntOf h) = l at *
        refine loopN_from (fun j => (fl, (Wire.cntOf h : Int), Wire.val h (l.take j), l, (Wire.cntOf h : Int), (j : Int))) (Wire.cntOf h) (by rfl) (fun j hj k => ?_) (fun k => ?_) 9 (by omega)
        · have hv := Wire.val_rng h (Wire.okBytes_take hb1 j)
          have hjl : (l.take j).length = j := by rw [List.length_take]; omega
          rw [hjl] at hv
          have hp := pow256_le j 7 72057594037927936 (by omega) (by decide)
          have hd := Wire.byte_getD hb1 j
          have hf := Wire.flp_rng (h := h) hd
          simp only [f24_n11111110100, dec_and]
          rw [Int.toNat_natCast, cond_pos (by omega), cond_pos (by omega), hx _ hd, or64 _ _ hv.1 (by omega) hf.1 hf.2, i64w (x := (j : Int) + 1) (by omega) (by omega), ← Wire.val_step h l j (by omega)]
          rfl
        · have hv := Wire.val_rng h hb1
          rw [hl1] at hv
          have hp := pow256_le (Wire.cntOf h) 8 18446744073709551616 (by omega) (by decide)
          simp only [f24_n11111110100]
          rw [cond_neg (by omega), List.take_of_length_le (by omega)]
          simp only [f24_n11111111, fdiv63]
          by_cases c4 : 9223372036854775808 ≤ Wire.val h l
          · rw [if_pos c4] at hZ; rw [cond_pos c4, hZ]
          · rw [if_neg c4] at hZ; rw [cond_neg c4, i64w (x := (Wire.cntOf h : Int) + 1) (by omega) (by omega), hZ]
            by_cases h1 : h < 128
            · rw [if_pos h1] at hfl ⊢
              rw [cond_pos (by omega), not64 _ (by omega) (by omega), i64hi (by omega) (by omega), show 18446744073709551615 - Wire.val h l - 18446744073709551616 = -1 - Wire.val h l by omega]
            · rw [if_neg h1] at hfl ⊢
              rw [cond_neg (by omega), i64w (by omega) (by omega)]
      by_cases c3 : 0 < Wire.cntOf h
      · rw [cond_pos (by omega), cond_pos (by omega)]
        by_cases c4 : Wire.flp h (t.getD 0 0) = 0
        · rw [cond_pos c4, if_pos ⟨c3, c4⟩]
        · rw [cond_neg c4, if_neg (fun e => c4 e.2)]
          exact rest _ rfl
      · rw [cond_neg (by omega), if_neg (fun e => c3 e.1)]
        exact rest _ rfl
    by_cases h1 : h < 128
    · rw [cond_pos h1]; exact key 255 (by rw [if_pos h1])
    · rw [cond_neg h1]; exact key 0 (by rw [if_neg h1])

theorem c24 : CallOk Try.prog G01 24 r24 := callOk_of (V := VG0124) mixed tys eVG0124 (f := 24) (fn := Try.f24) Try.func24 (by kernel_rfl) (c := sub (bodyOf Try.f24) []) (by kernel_rfl) (by
  intro X H r H' h hX hH
  unfold r24 at h; split at h <;> try contradiction
  simp only [Option.some.injEq, Prod.mk.injEq] at h
  obtain ⟨hp, rfl, rfl⟩ := h
  obtain ⟨F, hF⟩ := s24 _ (hX _ (.head _))
  exact ⟨Af24 F, (f24_body F _).trans hF⟩)
/-! gantry/gantryref01.GetInt -/
def lVG0125 : List CEnt := [(13, [some 5, some 5], r13), (15, [none], r15)]
def VG0125 : Env := mkEnv T01 G01 lVG0125
theorem eVG0125 : EOk Try.prog VG0125 := eok_mk (by exact ⟨c13, c15, trivial⟩)
def Af25 (F : Nat) : Cuts := { F := F, at_ := fun n => match n with | 13026 => some [(0, .plain), (5, .plain), (6, .plain), (7, .plain), (8, .plain)] | _ => none, join := fun n => match n with | 1086 => some [(0, .plain)] | 3078 => some [(0, .plain)] | 4076 => some [(0, .plain), (5, .plain)] | 6068 => some [(0, .plain), (5, .plain)] | 7066 => some [(0, .plain), (5, .plain), (6, .plain)] | 9060 => some [(0, .plain), (5, .plain), (6, .plain)] | 11052 => some [(0, .plain), (5, .plain), (6, .plain)] | 12050 => some [(0, .plain), (5, .plain), (6, .plain), (7, .plain)] | 13028 => some [(0, .plain), (5, .plain), (6, .plain), (7, .plain), (8, .plain)] | 21019 => some [(0, .plain), (5, .plain), (6, .plain), (7, .plain)] | _ => none }
def ef25_a : (List Int) → St := fun a0 => { tmps := [(0, (.vs (.rI .u8 a0) 0 1))], heap := [], next := 0, nt := 71, m := 0 }
def ef25_j1086 : (List Int) → St := fun t0 => { tmps := [(0, (.vs (.rI .u8 t0) 0 1))], heap := [], next := 0, nt := 71, m := 0 }
def ef25_j3078 : (List Int) → St := fun t0 => { tmps := [(0, (.vs (.rI .u8 t0) 0 1))], heap := [], next := 0, nt := 71, m := 0 }
def ef25_j4076 : (List Int) × Int → St := fun (t0, t5) => { tmps := [(0, (.vs (.rI .u8 t0) 0 1)), (5, (.int .i64 t5))], heap := [], next := 0, nt := 71, m := 0 }
def ef25_j6068 : (List Int) × Int → St := fun (t0, t5) => { tmps := [(0, (.vs (.rI .u8 t0) 0 1)), (5, (.int .i64 t5))], heap := [], next := 0, nt := 71, m := 0 }
def ef25_j7066 : (List Int) × Int × Int → St := fun (t0, t5, t6) => { tmps := [(0, (.vs (.rI .u8 t0) 0 1)), (5, (.int .i64 t5)), (6, (.int .i64 t6))], heap := [], next := 0, nt := 71, m := 0 }
def ef25_j9060 : (List Int) × Int × Int → St := fun (t0, t5, t6) => { tmps := [(0, (.vs (.rI .u8 t0) 0 1)), (5, (.int .i64 t5)), (6, (.int .i64 t6))], heap := [], next := 0, nt := 71, m := 0 }
def ef25_j11052 : (List Int) × Int × Int → St := fun (t0, t5, t6) => { tmps := [(0, (.vs (.rI .u8 t0) 0 1)), (5, (.int .i64 t5)), (6, (.int .i64 t6))], heap := [], next := 0, nt := 71, m := 0 }
def ef25_j12050 : (List Int) × Int × Int × Int → St := fun (t0, t5, t6, t7) => { tmps := [(0, (.vs (.rI .u8 t0) 0 1)), (5, (.int .i64 t5)), (6, (.int .i64 t6)), (7, (.int .i64 t7))], heap := [], next := 0, nt := 71, m := 0 }
def ef25_j13028 : (List Int) × Int × Int × Int × Int → St := fun (t0, t5, t6, t7, t8) => { tmps := [(0, (.vs (.rI .u8 t0) 0 1)), (5, (.int .i64 t5)), (6, (.int .i64 t6)), (7, (.int .i64 t7)), (8, (.int .i64 t8))], heap := [], next := 0, nt := 71, m := 0 }
def ef25_l13026 : (List Int) × Int × Int × Int × Int → St := fun (t0, t5, t6, t7, t8) => { tmps := [(0, (.vs (.rI .u8 t0) 0 1)), (5, (.int .i64 t5)), (6, (.int .i64 t6)), (7, (.int .i64 t7)), (8, (.int .i64 t8))], heap := [], next := 0, nt := 71, m := 0 }
def ef25_j21019 : (List Int) × Int × Int × Int → St := fun (t0, t5, t6, t7) => { tmps := [(0, (.vs (.rI .u8 t0) 0 1)), (5, (.int .i64 t5)), (6, (.int .i64 t6)), (7, (.int .i64 t7))], heap := [], next := 0, nt := 71, m := 0 }
def f25_n0 (F : Nat) (kf25_j1086 : (List Int) → Option (AV × List Blk)) : (List Int) → Option (AV × List Blk) := fun a0 => (kf25_j1086 a0)
theorem f25_n0_eq (F : Nat) (Rf25_j1086 : St → Option (AV × List Blk)) : ∀ v, aexec VG0125 (Af25 F) (sub (bodyOf Try.f25) [0]) (ef25_a v) (kSeq (fun s => Rf25_j1086 (cutTo VG0125 (some [(0, .plain)]) s)) (kFin VG0125 none (Try.f25).results.toList)) = f25_n0 F (fun w => Rf25_j1086 (ef25_j1086 w)) v := by
  intro a0; kernel_rfl
def f25_n10 (F : Nat) (kf25_j3078 : (List Int) → Option (AV × List Blk)) : (List Int) → Option (AV × List Blk) := fun t0 => (cond ((↑t0.length : Int) == (0 : Int)) (some ((.tup (.cons 0 (.int .i64 (0 : Int)) (.cons 0 (.int .i64 (0 : Int)) (.cons 0 (.int .i64 (3 : Int)) .nil)))), [])) (kf25_j3078 t0))
theorem f25_n10_eq (F : Nat) (Rf25_j3078 : St → Option (AV × List Blk)) : ∀ v, aexec VG0125 (Af25 F) (sub (bodyOf Try.f25) [1, 0]) (ef25_j1086 v) (kSeq (fun s => Rf25_j3078 (cutTo VG0125 (some [(0, .plain)]) s)) (kFin VG0125 none (Try.f25).results.toList)) = f25_n10 F (fun w => Rf25_j3078 (ef25_j3078 w)) v := by
  intro t0; kernel_rfl
def f25_n110 (F : Nat) (kf25_j4076 : (List Int) × Int → Option (AV × List Blk)) : (List Int) → Option (AV × List Blk) := fun t0 => (cond (decide ((0 : Int) < (↑t0.length : Int))) (kf25_j4076 (t0, (IntKind.i64.wrap (t0.getD 0 0)))) none)
theorem f25_n110_eq (F : Nat) (Rf25_j4076 : St → Option (AV × List Blk)) : ∀ v, aexec VG0125 (Af25 F) (sub (bodyOf Try.f25) [1, 1, 0]) (ef25_j3078 v) (kSeq (fun s => Rf25_j4076 (cutTo VG0125 (some [(0, .plain), (5, .plain)]) s)) (kFin VG0125 none (Try.f25).results.toList)) = f25_n110 F (fun w => Rf25_j4076 (ef25_j4076 w)) v := by
  intro t0; kernel_rfl
def f25_n1110 (F : Nat) (kf25_j6068 : (List Int) × Int → Option (AV × List Blk)) : (List Int) × Int → Option (AV × List Blk) := fun (t0, t5) => (cond (decide (t5 < (119 : Int))) (some ((.tup (.cons 0 (.int .i64 (0 : Int)) (.cons 0 (.int .i64 (0 : Int)) (.cons 0 (.int .i64 (2 : Int)) .nil)))), [])) (cond (decide (t5 > (136 : Int))) (some ((.tup (.cons 0 (.int .i64 (0 : Int)) (.cons 0 (.int .i64 (0 : Int)) (.cons 0 (.int .i64 (2 : Int)) .nil)))), [])) (kf25_j6068 (t0, t5))))
theorem f25_n1110_eq (F : Nat) (Rf25_j6068 : St → Option (AV × List Blk)) : ∀ v, aexec VG0125 (Af25 F) (sub (bodyOf Try.f25) [1, 1, 1, 0]) (ef25_j4076 v) (kSeq (fun s => Rf25_j6068 (cutTo VG0125 (some [(0, .plain), (5, .plain)]) s)) (kFin VG0125 none (Try.f25).results.toList)) = f25_n1110 F (fun w => Rf25_j6068 (ef25_j6068 w)) v := by
  rintro ⟨t0, t5⟩; kernel_rfl
def f25_n11110 (F : Nat) (kf25_j7066 : (List Int) × Int × Int → Option (AV × List Blk)) : (List Int) × Int → Option (AV × List Blk) := fun (t0, t5) => (kf25_j7066 (t0, t5, (IntKind.i64.wrap (t5 - (128 : Int)))))
theorem f25_n11110_eq (F : Nat) (Rf25_j7066 : St → Option (AV × List Blk)) : ∀ v, aexec VG0125 (Af25 F) (sub (bodyOf Try.f25) [1, 1, 1, 1, 0]) (ef25_j6068 v) (kSeq (fun s => Rf25_j7066 (cutTo VG0125 (some [(0, .plain), (5, .plain), (6, .plain)]) s)) (kFin VG0125 none (Try.f25).results.toList)) = f25_n11110 F (fun w => Rf25_j7066 (ef25_j7066 w)) v := by
  rintro ⟨t0, t5⟩; kernel_rfl
def f25_n111110 (F : Nat) (kf25_j9060 : (List Int) × Int × Int → Option (AV × List Blk)) : (List Int) × Int × Int → Option (AV × List Blk) := fun (t0, t5, t6) => (cond (decide (t5 < (128 : Int))) (kf25_j9060 (t0, t5, (IntKind.i64.wrap ((127 : Int) - t5)))) (kf25_j9060 (t0, t5, t6)))
theorem f25_n111110_eq (F : Nat) (Rf25_j9060 : St → Option (AV × List Blk)) : ∀ v, aexec VG0125 (Af25 F) (sub (bodyOf Try.f25) [1, 1, 1, 1, 1, 0]) (ef25_j7066 v) (kSeq (fun s => Rf25_j9060 (cutTo VG0125 (some [(0, .plain), (5, .plain), (6, .plain)]) s)) (kFin VG0125 none (Try.f25).results.toList)) = f25_n111110 F (fun w => Rf25_j9060 (ef25_j9060 w)) v := by
  rintro ⟨t0, t5, t6⟩; kernel_rfl
def f25_n1111110 (F : Nat) (kf25_j11052 : (List Int) × Int × Int → Option (AV × List Blk)) : (List Int) × Int × Int → Option (AV × List Blk) := fun (t0, t5, t6) => (cond (decide ((↑t0.length : Int) < (IntKind.i64.wrap (t6 + (1 : Int))))) (some ((.tup (.cons 0 (.int .i64 (0 : Int)) (.cons 0 (.int .i64 (0 : Int)) (.cons 0 (.int .i64 (3 : Int)) .nil)))), [])) (kf25_j11052 (t0, t5, t6)))
theorem f25_n1111110_eq (F : Nat) (Rf25_j11052 : St → Option (AV × List Blk)) : ∀ v, aexec VG0125 (Af25 F) (sub (bodyOf Try.f25) [1, 1, 1, 1, 1, 1, 0]) (ef25_j9060 v) (kSeq (fun s => Rf25_j11052 (cutTo VG0125 (some [(0, .plain), (5, .plain), (6, .plain)]) s)) (kFin VG0125 none (Try.f25).results.toList)) = f25_n1111110 F (fun w => Rf25_j11052 (ef25_j11052 w)) v := by
  rintro ⟨t0, t5, t6⟩; kernel_rfl
def f25_n11111110 (F : Nat) (kf25_j12050 : (List Int) × Int × Int × Int → Option (AV × List Blk)) : (List Int) × Int × Int → Option (AV × List Blk) := fun (t0, t5, t6) => (kf25_j12050 (t0, t5, t6, (0 : Int)))
theorem f25_n11111110_eq (F : Nat) (Rf25_j12050 : St → Option (AV × List Blk)) : ∀ v, aexec VG0125 (Af25 F) (sub (bodyOf Try.f25) [1, 1, 1, 1, 1, 1, 1, 0]) (ef25_j11052 v) (kSeq (fun s => Rf25_j12050 (cutTo VG0125 (some [(0, .plain), (5, .plain), (6, .plain), (7, .plain)]) s)) (kFin VG0125 none (Try.f25).results.toList)) = f25_n11111110 F (fun w => Rf25_j12050 (ef25_j12050 w)) v := by
  rintro ⟨t0, t5, t6⟩; kernel_rfl
def f25_n1111111100 (F : Nat) (kf25_j13028 : (List Int) × Int × Int × Int × Int → Option (AV × List Blk)) (kf25_j21019 : (List Int) × Int × Int × Int → Option (AV × List Blk)) : (List Int) × Int × Int × Int → Option (AV × List Blk) := fun (t0, t5, t6, t7) => (kf25_j13028 (t0, t5, t6, t7, (1 : Int)))
theorem f25_n1111111100_eq (F : Nat) (Rf25_j13028 : St → Option (AV × List Blk)) (Rf25_j21019 : St → Option (AV × List Blk)) : ∀ v, aexec VG0125 (Af25 F) (sub (bodyOf Try.f25) [1, 1, 1, 1, 1, 1, 1, 1, 0, 0]) (ef25_j12050 v) (kSeq (fun s => Rf25_j13028 (cutTo VG0125 (some [(0, .plain), (5, .plain), (6, .plain), (7, .plain), (8, .plain)]) s)) (kSeq (fun s => Rf25_j21019 (cutTo VG0125 (some [(0, .plain), (5, .plain), (6, .plain), (7, .plain)]) s)) (kFin VG0125 none (Try.f25).results.toList))) = f25_n1111111100 F (fun w => Rf25_j13028 (ef25_j13028 w)) (fun w => Rf25_j21019 (ef25_j21019 w)) v := by
  rintro ⟨t0, t5, t6, t7⟩; kernel_rfl
def f25_n111111110100 (F : Nat) (kf25_l13026 : (List Int) × Int × Int × Int × Int → Option (AV × List Blk)) (kf25_j21019 : (List Int) × Int × Int × Int → Option (AV × List Blk)) : (List Int) × Int × Int × Int × Int → Option (AV × List Blk) := fun (t0, t5, t6, t7, t8) => (cond (decide (t8 ≤ t6)) (cond ((decide (0 ≤ t8)) && (decide (t8 < (↑t0.length : Int)))) (cond (decide (t5 < (128 : Int))) (cond (decide (t7 > (36028797018963967 : Int))) (some ((.tup (.cons 0 (.int .i64 (0 : Int)) (.cons 0 (.int .i64 (0 : Int)) (.cons 0 (.int .i64 (2 : Int)) .nil)))), [])) (kf25_l13026 (t0, t5, t6, (IntKind.i64.wrap ((IntKind.i64.wrap ((256 : Int) * t7)) + (IntKind.i64.wrap ((255 : Int) - (IntKind.i64.wrap (t0.getD (Int.toNat t8) 0)))))), (IntKind.i64.wrap (t8 + (1 : Int)))))) (cond (decide (t7 > (36028797018963967 : Int))) (some ((.tup (.cons 0 (.int .i64 (0 : Int)) (.cons 0 (.int .i64 (0 : Int)) (.cons 0 (.int .i64 (2 : Int)) .nil)))), [])) (kf25_l13026 (t0, t5, t6, (IntKind.i64.wrap ((IntKind.i64.wrap ((256 : Int) * t7)) + (IntKind.i64.wrap (t0.getD (Int.toNat t8) 0)))), (IntKind.i64.wrap (t8 + (1 : Int))))))) none) (kf25_j21019 (t0, t5, t6, t7)))
theorem f25_n111111110100_eq (F : Nat) (Rf25_l13026 : St → Option (AV × List Blk)) (Rf25_j21019 : St → Option (AV × List Blk)) : ∀ v, aexec VG0125 (Af25 F) (sub (bodyOf Try.f25) [1, 1, 1, 1, 1, 1, 1, 1, 0, 1, 0, 0]) (ef25_l13026 v) (kSeq (fun s => Rf25_l13026 (cutTo VG0125 (some [(0, .plain), (5, .plain), (6, .plain), (7, .plain), (8, .plain)]) s)) (kBlock 0 (kSeq (fun s => Rf25_j21019 (cutTo VG0125 (some [(0, .plain), (5, .plain), (6, .plain), (7, .plain)]) s)) (kFin VG0125 none (Try.f25).results.toList)))) = f25_n111111110100 F (fun w => Rf25_l13026 (ef25_l13026 w)) (fun w => Rf25_j21019 (ef25_j21019 w)) v := by
  rintro ⟨t0, t5, t6, t7, t8⟩; kernel_rfl
def f25_n11111111010_i : (List Int) × Int × Int × Int × Int → (List Int) × Int × Int × Int × Int := fun (t0, t5, t6, t7, t8) => (t0, t5, t6, t7, t8)
def f25_n11111111010 (F : Nat) (kf25_j21019 : (List Int) × Int × Int × Int → Option (AV × List Blk)) : (List Int) × Int × Int × Int × Int → Option (AV × List Blk) := fun v => loopN (fun k => f25_n111111110100 F k kf25_j21019) F (f25_n11111111010_i v)
theorem f25_n11111111010_eq (F : Nat) (Rf25_j21019 : St → Option (AV × List Blk)) : ∀ v, aexec VG0125 (Af25 F) (sub (bodyOf Try.f25) [1, 1, 1, 1, 1, 1, 1, 1, 0, 1, 0]) (ef25_j13028 v) (kBlock 0 (kSeq (fun s => Rf25_j21019 (cutTo VG0125 (some [(0, .plain), (5, .plain), (6, .plain), (7, .plain)]) s)) (kFin VG0125 none (Try.f25).results.toList))) = f25_n11111111010 F (fun w => Rf25_j21019 (ef25_j21019 w)) v :=
  loop_cut (c := (sub (bodyOf Try.f25) [1, 1, 1, 1, 1, 1, 1, 1, 0, 1, 0])) (d := (sub (bodyOf Try.f25) [1, 1, 1, 1, 1, 1, 1, 1, 0, 1, 0, 0])) (by kernel_rfl) (spec := [(0, .plain), (5, .plain), (6, .plain), (7, .plain), (8, .plain)]) (by kernel_rfl) ef25_j13028 ef25_l13026 (kBlock 0 (kSeq (fun s => Rf25_j21019 (cutTo VG0125 (some [(0, .plain), (5, .plain), (6, .plain), (7, .plain)]) s)) (kFin VG0125 none (Try.f25).results.toList))) f25_n11111111010_i (fun k => f25_n111111110100 F k (fun w => Rf25_j21019 (ef25_j21019 w)))
    (by rintro ⟨t0, t5, t6, t7, t8⟩; kernel_rfl) (fun Rf25_l13026 => f25_n111111110100_eq F Rf25_l13026 Rf25_j21019)
def f25_n1111111101 (F : Nat) (kf25_j21019 : (List Int) × Int × Int × Int → Option (AV × List Blk)) : (List Int) × Int × Int × Int × Int → Option (AV × List Blk) := f25_n11111111010 F kf25_j21019
theorem f25_n1111111101_eq (F : Nat) (Rf25_j21019 : St → Option (AV × List Blk)) : ∀ v, aexec VG0125 (Af25 F) (sub (bodyOf Try.f25) [1, 1, 1, 1, 1, 1, 1, 1, 0, 1]) (ef25_j13028 v) (kSeq (fun s => Rf25_j21019 (cutTo VG0125 (some [(0, .plain), (5, .plain), (6, .plain), (7, .plain)]) s)) (kFin VG0125 none (Try.f25).results.toList)) = f25_n1111111101 F (fun w => Rf25_j21019 (ef25_j21019 w)) v := fun v =>
  (block_in (c := (sub (bodyOf Try.f25) [1, 1, 1, 1, 1, 1, 1, 1, 0, 1])) (d := (sub (bodyOf Try.f25) [1, 1, 1, 1, 1, 1, 1, 1, 0, 1, 0])) (id := 0) (by kernel_rfl) _ _).trans (f25_n11111111010_eq F Rf25_j21019 v)
def f25_n111111110 (F : Nat) (kf25_j21019 : (List Int) × Int × Int × Int → Option (AV × List Blk)) : (List Int) × Int × Int × Int → Option (AV × List Blk) := fun v => f25_n1111111100 F (f25_n1111111101 F kf25_j21019) kf25_j21019 v
theorem f25_n111111110_eq (F : Nat) (Rf25_j21019 : St → Option (AV × List Blk)) : ∀ v, aexec VG0125 (Af25 F) (sub (bodyOf Try.f25) [1, 1, 1, 1, 1, 1, 1, 1, 0]) (ef25_j12050 v) (kSeq (fun s => Rf25_j21019 (cutTo VG0125 (some [(0, .plain), (5, .plain), (6, .plain), (7, .plain)]) s)) (kFin VG0125 none (Try.f25).results.toList)) = f25_n111111110 F (fun w => Rf25_j21019 (ef25_j21019 w)) v :=
  seq_cut (c := (sub (bodyOf Try.f25) [1, 1, 1, 1, 1, 1, 1, 1, 0])) (a := (sub (bodyOf Try.f25) [1, 1, 1, 1, 1, 1, 1, 1, 0, 0])) (b := (sub (bodyOf Try.f25) [1, 1, 1, 1, 1, 1, 1, 1, 0, 1])) (by kernel_rfl) (spec := [(0, .plain), (5, .plain), (6, .plain), (7, .plain), (8, .plain)]) (by kernel_rfl) ef25_j12050 ef25_j13028 (kSeq (fun s => Rf25_j21019 (cutTo VG0125 (some [(0, .plain), (5, .plain), (6, .plain), (7, .plain)]) s)) (kFin VG0125 none (Try.f25).results.toList)) (fun k => f25_n1111111100 F k (fun w => Rf25_j21019 (ef25_j21019 w))) (f25_n1111111101 F (fun w => Rf25_j21019 (ef25_j21019 w)))
    (fun Rf25_j13028 => f25_n1111111100_eq F Rf25_j13028 Rf25_j21019) (f25_n1111111101_eq F Rf25_j21019)
def f25_n111111111 (F : Nat) : (List Int) × Int × Int × Int → Option (AV × List Blk) := fun (t0, t5, t6, t7) => (cond (decide (t5 < (128 : Int))) (cond ((decide ((0 : Int) ≤ (IntKind.i64.wrap (t6 + (1 : Int))))) && (decide ((IntKind.i64.wrap (t6 + (1 : Int))) ≤ (↑t0.length : Int)))) (cond (!(decide ((Wire.int (IntKind.i64.wrap ((-1 : Int) - t7))) = (t0.take (Int.toNat (IntKind.i64.wrap (t6 + (1 : Int)))))))) (some ((.tup (.cons 0 (.int .i64 (0 : Int)) (.cons 0 (.int .i64 (0 : Int)) (.cons 0 (.int .i64 (2 : Int)) .nil)))), [])) (some ((.tup (.cons 0 (.int .i64 (IntKind.i64.wrap ((-1 : Int) - t7))) (.cons 0 (.int .i64 (IntKind.i64.wrap (t6 + (1 : Int)))) (.cons 0 (.int .i64 (0 : Int)) .nil)))), []))) none) (cond ((decide ((0 : Int) ≤ (IntKind.i64.wrap (t6 + (1 : Int))))) && (decide ((IntKind.i64.wrap (t6 + (1 : Int))) ≤ (↑t0.length : Int)))) (cond (!(decide ((Wire.int t7) = (t0.take (Int.toNat (IntKind.i64.wrap (t6 + (1 : Int)))))))) (some ((.tup (.cons 0 (.int .i64 (0 : Int)) (.cons 0 (.int .i64 (0 : Int)) (.cons 0 (.int .i64 (2 : Int)) .nil)))), [])) (some ((.tup (.cons 0 (.int .i64 t7) (.cons 0 (.int .i64 (IntKind.i64.wrap (t6 + (1 : Int)))) (.cons 0 (.int .i64 (0 : Int)) .nil)))), []))) none))
theorem f25_n111111111_eq (F : Nat) : ∀ v, aexec VG0125 (Af25 F) (sub (bodyOf Try.f25) [1, 1, 1, 1, 1, 1, 1, 1, 1]) (ef25_j21019 v) (kFin VG0125 none (Try.f25).results.toList) = f25_n111111111 F v := by
  rintro ⟨t0, t5, t6, t7⟩; kernel_rfl
def f25_n11111111 (F : Nat) : (List Int) × Int × Int × Int → Option (AV × List Blk) := fun v => f25_n111111110 F (f25_n111111111 F) v
theorem f25_n11111111_eq (F : Nat) : ∀ v, aexec VG0125 (Af25 F) (sub (bodyOf Try.f25) [1, 1, 1, 1, 1, 1, 1, 1]) (ef25_j12050 v) (kFin VG0125 none (Try.f25).results.toList) = f25_n11111111 F v :=
  seq_cut (c := (sub (bodyOf Try.f25) [1, 1, 1, 1, 1, 1, 1, 1])) (a := (sub (bodyOf Try.f25) [1, 1, 1, 1, 1, 1, 1, 1, 0])) (b := (sub (bodyOf Try.f25) [1, 1, 1, 1, 1, 1, 1, 1, 1])) (by kernel_rfl) (spec := [(0, .plain), (5, .plain), (6, .plain), (7, .plain)]) (by kernel_rfl) ef25_j12050 ef25_j21019 (kFin VG0125 none (Try.f25).results.toList) (fun k => f25_n111111110 F k) (f25_n111111111 F)
    (fun Rf25_j21019 => f25_n111111110_eq F Rf25_j21019) (f25_n111111111_eq F)
def f25_n1111111 (F : Nat) : (List Int) × Int × Int → Option (AV × List Blk) := fun v => f25_n11111110 F (f25_n11111111 F) v
theorem f25_n1111111_eq (F : Nat) : ∀ v, aexec VG0125 (Af25 F) (sub (bodyOf Try.f25) [1, 1, 1, 1, 1, 1, 1]) (ef25_j11052 v) (kFin VG0125 none (Try.f25).results.toList) = f25_n1111111 F v :=
  seq_cut (c := (sub (bodyOf Try.f25) [1, 1, 1, 1, 1, 1, 1])) (a := (sub (bodyOf Try.f25) [1, 1, 1, 1, 1, 1, 1, 0])) (b := (sub (bodyOf Try.f25) [1, 1, 1, 1, 1, 1, 1, 1])) (by kernel_rfl) (spec := [(0, .plain), (5, .plain), (6, .plain), (7, .plain)]) (by kernel_rfl) ef25_j11052 ef25_j12050 (kFin VG0125 none (Try.f25).results.toList) (fun k => f25_n11111110 F k) (f25_n11111111 F)
    (fun Rf25_j12050 => f25_n11111110_eq F Rf25_j12050) (f25_n11111111_eq F)
def f25_n111111 (F : Nat) : (List Int) × Int × Int → Option (AV × List Blk) := fun v => f25_n1111110 F (f25_n1111111 F) v
theorem f25_n111111_eq (F : Nat) : ∀ v, aexec VG0125 (Af25 F) (sub (bodyOf Try.f25) [1, 1, 1, 1, 1, 1]) (ef25_j9060 v) (kFin VG0125 none (Try.f25).results.toList) = f25_n111111 F v :=
  seq_cut (c := (sub (bodyOf Try.f25) [1, 1, 1, 1, 1, 1])) (a := (sub (bodyOf Try.f25) [1, 1, 1, 1, 1, 1, 0])) (b := (sub (bodyOf Try.f25) [1, 1, 1, 1, 1, 1, 1])) (by kernel_rfl) (spec := [(0, .plain), (5, .plain), (6, .plain)]) (by kernel_rfl) ef25_j9060 ef25_j11052 (kFin VG0125 none (Try.f25).results.toList) (fun k => f25_n1111110 F k) (f25_n1111111 F)
    (fun Rf25_j11052 => f25_n1111110_eq F Rf25_j11052) (f25_n1111111_eq F)
def f25_n11111 (F : Nat) : (List Int) × Int × Int → Option (AV × List Blk) := fun v => f25_n111110 F (f25_n111111 F) v
theorem f25_n11111_eq (F : Nat) : ∀ v, aexec VG0125 (Af25 F) (sub (bodyOf Try.f25) [1, 1, 1, 1, 1]) (ef25_j7066 v) (kFin VG0125 none (Try.f25).results.toList) = f25_n11111 F v :=
  seq_cut (c := (sub (bodyOf Try.f25) [1, 1, 1, 1, 1])) (a := (sub (bodyOf Try.f25) [1, 1, 1, 1, 1, 0])) (b := (sub (bodyOf Try.f25) [1, 1, 1, 1, 1, 1])) (by kernel_rfl) (spec := [(0, .plain), (5, .plain), (6, .plain)]) (by kernel_rfl) ef25_j7066 ef25_j9060 (kFin VG0125 none (Try.f25).results.toList) (fun k => f25_n111110 F k) (f25_n111111 F)
    (fun Rf25_j9060 => f25_n111110_eq F Rf25_j9060) (f25_n111111_eq F)
def f25_n1111 (F : Nat) : (List Int) × Int → Option (AV × List Blk) := fun v => f25_n11110 F (f25_n11111 F) v
theorem f25_n1111_eq (F : Nat) : ∀ v, aexec VG0125 (Af25 F) (sub (bodyOf Try.f25) [1, 1, 1, 1]) (ef25_j6068 v) (kFin VG0125 none (Try.f25).results.toList) = f25_n1111 F v :=
  seq_cut (c := (sub (bodyOf Try.f25) [1, 1, 1, 1])) (a := (sub (bodyOf Try.f25) [1, 1, 1, 1, 0])) (b := (sub (bodyOf Try.f25) [1, 1, 1, 1, 1])) (by kernel_rfl) (spec := [(0, .plain), (5, .plain), (6, .plain)]) (by kernel_rfl) ef25_j6068 ef25_j7066 (kFin VG0125 none (Try.f25).results.toList) (fun k => f25_n11110 F k) (f25_n11111 F)
    (fun Rf25_j7066 => f25_n11110_eq F Rf25_j7066) (f25_n11111_eq F)
def f25_n111 (F : Nat) : (List Int) × Int → Option (AV × List Blk) := fun v => f25_n1110 F (f25_n1111 F) v
theorem f25_n111_eq (F : Nat) : ∀ v, aexec VG0125 (Af25 F) (sub (bodyOf Try.f25) [1, 1, 1]) (ef25_j4076 v) (kFin VG0125 none (Try.f25).results.toList) = f25_n111 F v :=
  seq_cut (c := (sub (bodyOf Try.f25) [1, 1, 1])) (a := (sub (bodyOf Try.f25) [1, 1, 1, 0])) (b := (sub (bodyOf Try.f25) [1, 1, 1, 1])) (by kernel_rfl) (spec := [(0, .plain), (5, .plain)]) (by kernel_rfl) ef25_j4076 ef25_j6068 (kFin VG0125 none (Try.f25).results.toList) (fun k => f25_n1110 F k) (f25_n1111 F)
    (fun Rf25_j6068 => f25_n1110_eq F Rf25_j6068) (f25_n1111_eq F)
def f25_n11 (F : Nat) : (List Int) → Option (AV × List Blk) := fun v => f25_n110 F (f25_n111 F) v
theorem f25_n11_eq (F : Nat) : ∀ v, aexec VG0125 (Af25 F) (sub (bodyOf Try.f25) [1, 1]) (ef25_j3078 v) (kFin VG0125 none (Try.f25).results.toList) = f25_n11 F v :=
  seq_cut (c := (sub (bodyOf Try.f25) [1, 1])) (a := (sub (bodyOf Try.f25) [1, 1, 0])) (b := (sub (bodyOf Try.f25) [1, 1, 1])) (by kernel_rfl) (spec := [(0, .plain), (5, .plain)]) (by kernel_rfl) ef25_j3078 ef25_j4076 (kFin VG0125 none (Try.f25).results.toList) (fun k => f25_n110 F k) (f25_n111 F)
    (fun Rf25_j4076 => f25_n110_eq F Rf25_j4076) (f25_n111_eq F)
def f25_n1 (F : Nat) : (List Int) → Option (AV × List Blk) := fun v => f25_n10 F (f25_n11 F) v
theorem f25_n1_eq (F : Nat) : ∀ v, aexec VG0125 (Af25 F) (sub (bodyOf Try.f25) [1]) (ef25_j1086 v) (kFin VG0125 none (Try.f25).results.toList) = f25_n1 F v :=
  seq_cut (c := (sub (bodyOf Try.f25) [1])) (a := (sub (bodyOf Try.f25) [1, 0])) (b := (sub (bodyOf Try.f25) [1, 1])) (by kernel_rfl) (spec := [(0, .plain)]) (by kernel_rfl) ef25_j1086 ef25_j3078 (kFin VG0125 none (Try.f25).results.toList) (fun k => f25_n10 F k) (f25_n11 F)
    (fun Rf25_j3078 => f25_n10_eq F Rf25_j3078) (f25_n11_eq F)
def f25_nt (F : Nat) : (List Int) → Option (AV × List Blk) := fun v => f25_n0 F (f25_n1 F) v
theorem f25_nt_eq (F : Nat) : ∀ v, aexec VG0125 (Af25 F) (sub (bodyOf Try.f25) []) (ef25_a v) (kFin VG0125 none (Try.f25).results.toList) = f25_nt F v :=
  seq_cut (c := (sub (bodyOf Try.f25) [])) (a := (sub (bodyOf Try.f25) [0])) (b := (sub (bodyOf Try.f25) [1])) (by kernel_rfl) (spec := [(0, .plain)]) (by kernel_rfl) ef25_a ef25_j1086 (kFin VG0125 none (Try.f25).results.toList) (fun k => f25_n0 F k) (f25_n1 F)
    (fun Rf25_j1086 => f25_n0_eq F Rf25_j1086) (f25_n1_eq F)
/-- gantry/gantryref01.GetInt -/
def f25 (F : Nat) : (List Int) → Option (AV × List Blk) := f25_nt F
theorem f25_body (F : Nat) (a0 : List Int) : abody VG0125 (Af25 F) Try.f25 [(.vs (.rI .u8 a0) 0 1)] [] = f25 F a0 :=
  (abody_in (c := (sub (bodyOf Try.f25) [])) (by kernel_rfl) (s := ef25_a a0) (by kernel_rfl)).trans (f25_nt_eq F a0)
def r25 : CRun := fun X H => match X, H with
  | [(.vs (.rI .u8 a0) 0 1)], [] => some (true, (.tup (.cons 0 (.int .i64 (Wire.getInt a0).1) (.cons 0 (.int .i64 (Wire.getInt a0).2.1) (.cons 0 (.int .i64 (Wire.getInt a0).2.2) .nil)))), [])
  | _, _ => none
theorem s25 (a0 : List Int) (h0 : okV (.vs (.rI .u8 a0) 0 1)) : ∃ F, f25 F a0 = some ((.tup (.cons 0 (.int .i64 (Wire.getInt a0).1) (.cons 0 (.int .i64 (Wire.getInt a0).2.1) (.cons 0 (.int .i64 (Wire.getInt a0).2.2) .nil)))), []) := by
  have hb := Wire.okB_of h0.1
  have hlen := h0.2
  refine ⟨10, ?_⟩
  simp only [f25, f25_nt, f25_n0, f25_n1, f25_n10, int_beq]
  cases a0 with
  | nil => rfl
  | cons h t =>
    have hh := hb h (by simp)
    have ht : Wire.okBytes t := fun x hx => hb x (by simp [hx])
    simp only [List.length_cons] at hlen
    rw [cond_neg (by simp only [List.length_cons]; omega)]
    simp only [f25_n11, f25_n110, f25_n111, f25_n1110, List.length_cons, List.getD_cons_zero]
    rw [cond_pos (by omega), i64w (x := h) (by omega) (by omega)]
    have hck : Wire.cntOf h > 8 ↔ (h < 119 ∨ h > 136) := by unfold Wire.cntOf; split <;> omega
    by_cases c1 : 8 < Wire.cntOf h
    · have hW : Wire.getInt (h :: t) = (0, 0, 2) := by simp only [Wire.getInt]; rw [if_pos c1]
      rw [hW]
      rcases hck.mp c1 with g | g
      · rw [cond_pos g]
      · rw [cond_neg (by omega), cond_pos g]
    · have hno : ¬ (h < 119 ∨ h > 136) := fun e => c1 (hck.mpr e)
      rw [cond_neg (by omega), cond_neg (by omega)]
      simp only [f25_n1111, f25_n11110, f25_n11111, f25_n111110]
      rw [i64w (x := h - 128) (by omega) (by omega), i64w (x := 127 - h) (by omega) (by omega)]
      have hc : ∀ K : List Int × Int × Int → Option (AV × List Blk), (cond (decide (h < 128)) (K (h :: t, h, 127 - h)) (K (h :: t, h, h - 128))) = K (h :: t, h, (Wire.cntOf h : Int)) := by
        intro K
        by_cases h1 : h < 128
        · rw [cond_pos h1]; congr 3; unfold Wire.cntOf; rw [if_pos h1]; omega
        · rw [cond_neg h1]; congr 3; unfold Wire.cntOf; rw [if_neg h1]; omega
      rw [hc]
      simp only [f25_n111111, f25_n1111110, List.length_cons]
      rw [i64w (x := (Wire.cntOf h : Int) + 1) (by omega) (by omega)]
      by_cases c2 : t.length < Wire.cntOf h
      · have hW : Wire.getInt (h :: t) = (0, 0, 3) := by simp only [Wire.getInt]; rw [if_neg c1, if_pos c2]
        rw [hW, cond_pos (by omega)]
      · rw [cond_neg (by omega)]
        have hbad : 9223372036854775808 ≤ Wire.val h (t.take (Wire.cntOf h)) → Wire.getInt (h :: t) = (0, 0, 2) := fun c4 => by
          simp only [Wire.getInt]; rw [if_neg c1, if_neg c2]
          by_cases c3 : 0 < Wire.cntOf h ∧ Wire.flp h (t.getD 0 0) = 0
          · rw [if_pos c3]
          · rw [if_neg c3, if_pos c4]
        have hcan := Wire.canon (h := h) (t := t) hh ht (by omega)
        have hend : Wire.val h (t.take (Wire.cntOf h)) < 9223372036854775808 → Wire.getInt (h :: t) = if 0 < Wire.cntOf h ∧ Wire.flp h (t.getD 0 0) = 0 then (0, 0, 2) else ((if h < 128 then -1 - Wire.val h (t.take (Wire.cntOf h)) else Wire.val h (t.take (Wire.cntOf h))), (Wire.cntOf h : Int) + 1, 0) := fun c4 => by
          simp only [Wire.getInt]; rw [if_neg c1, if_neg c2]
          by_cases c3 : 0 < Wire.cntOf h ∧ Wire.flp h (t.getD 0 0) = 0
          · rw [if_pos c3, if_pos c3]
          · rw [if_neg c3, if_neg c3, if_neg (by omega)]
        generalize hW : Wire.getInt (h :: t) = W at *
        generalize hk : Wire.cntOf h = kk at *
        simp only [f25_n1111111, f25_n11111110, f25_n11111111, f25_n111111110, f25_n1111111100, f25_n1111111101, f25_n11111111010, f25_n11111111010_i]
        refine loopN_ind (fun m s => s.1 = h :: t ∧ s.2.1 = h ∧ s.2.2.1 = (kk : Int) ∧ s.2.2.2.2 = ((kk - m : Nat) : Int) + 1 ∧ s.2.2.2.1 = Wire.val h (t.take (kk - m)) ∧ m ≤ kk ∧ s.2.2.2.1 < 9223372036854775808) ?_ 10 kk _ (by omega) ⟨rfl, rfl, rfl, by simp, by simp [Wire.val], Nat.le_refl _, by simp⟩
        rintro m ⟨b, h', k', v, i⟩ k ⟨e1, e2, e3, e4, e5, hm, e6⟩ hkk
        simp only at e1 e2 e3 e4 e5 e6
        subst e1; subst e2; subst e3; subst e4; subst e5
        have hv0 := (Wire.val_rng h' (Wire.okBytes_take ht (kk - m))).1
        simp only [f25_n111111110100, dec_and, List.length_cons]
        cases m with
        | zero =>
          rw [Nat.sub_zero] at hv0 e6 ⊢
          rw [cond_neg (by omega)]
          have hW2 := hend e6
          have hc2 := hcan e6
          simp only [f25_n111111111, dec_and, dec_not, List.length_cons]
          rw [i64w (x := (kk : Int) + 1) (by omega) (by omega), show ((kk : Int) + 1).toNat = kk + 1 by omega, List.take_succ_cons]
          generalize Wire.val h' (t.take kk) = v at *
          by_cases h1 : h' < 128
          · rw [if_pos h1] at hW2 hc2
            rw [cond_pos h1, cond_pos (by omega), i64w (x := -1 - v) (by omega) (by omega)]
            by_cases c3 : 0 < kk ∧ Wire.flp h' (t.getD 0 0) = 0
            · rw [if_pos c3] at hW2; rw [cond_pos (mt hc2.mp (fun q => q c3)), hW2]
            · rw [if_neg c3] at hW2; rw [cond_neg (not_not_intro (hc2.mpr c3)), hW2]
          · rw [if_neg h1] at hW2 hc2
            rw [cond_neg h1, cond_pos (by omega)]
            by_cases c3 : 0 < kk ∧ Wire.flp h' (t.getD 0 0) = 0
            · rw [if_pos c3] at hW2; rw [cond_pos (mt hc2.mp (fun q => q c3)), hW2]
            · rw [if_neg c3] at hW2; rw [cond_neg (not_not_intro (hc2.mpr c3)), hW2]
        | succ m =>
          have hd := Wire.byte_getD ht (kk - (m + 1))
          have hst := Wire.val_step h' t (kk - (m + 1)) (by omega)
          have hmo := Wire.val_mono h' ht (kk - (m + 1)) (by omega) kk (by omega) (by omega)
          rw [show (((kk - (m + 1) : Nat) : Int) + 1).toNat = (kk - (m + 1)) + 1 by omega, List.getD_cons_succ]
          rw [show kk - (m + 1) + 1 = kk - m by omega] at hst
          rw [cond_pos (by omega), cond_pos (by omega), i64w (x := t.getD (kk - (m + 1)) 0) (by omega) (by omega), i64w (x := 255 - t.getD (kk - (m + 1)) 0) (by omega) (by omega), i64w (x := ((kk - (m + 1) : Nat) : Int) + 1 + 1) (by omega) (by omega)]
          by_cases hbig : Wire.val h' (t.take (kk - (m + 1))) > 36028797018963967
          · have := hbad (by omega)
            rw [this]
            by_cases h1 : h' < 128
            · rw [cond_pos h1, cond_pos hbig]
            · rw [cond_neg h1, cond_pos hbig]
          · have hf := Wire.flp_rng (h := h') hd
            have hst2 : Wire.val h' (t.take (kk - m)) < 9223372036854775808 := by omega
            by_cases h1 : h' < 128
            · rw [cond_pos h1, cond_neg hbig, i64w (x := 256 * Wire.val h' (t.take (kk - (m + 1)))) (by omega) (by omega), i64w (by omega) (by omega)]
              have hfe : Wire.flp h' (t.getD (kk - (m + 1)) 0) = 255 - t.getD (kk - (m + 1)) 0 := by unfold Wire.flp; rw [if_pos h1]
              refine hkk m _ (by omega) ⟨rfl, rfl, rfl, by simp only []; omega, by simp only []; omega, by omega, by simp only []; omega⟩
            · rw [cond_neg h1, cond_neg hbig, i64w (x := 256 * Wire.val h' (t.take (kk - (m + 1)))) (by omega) (by omega)]
              have hfe : Wire.flp h' (t.getD (kk - (m + 1)) 0) = t.getD (kk - (m + 1)) 0 := by unfold Wire.flp; rw [if_neg h1]
              rw [i64w (by omega) (by omega)]
              refine hkk m _ (by omega) ⟨rfl, rfl, rfl, by simp only []; omega, by simp only []; omega, by omega, by simp only []; omega⟩

theorem c25 : CallOk Try.prog G01 25 r25 := callOk_of (V := VG0125) mixed tys eVG0125 (f := 25) (fn := Try.f25) Try.func25 (by kernel_rfl) (c := sub (bodyOf Try.f25) []) (by kernel_rfl) (by
  intro X H r H' h hX hH
  unfold r25 at h; split at h <;> try contradiction
  simp only [Option.some.injEq, Prod.mk.injEq] at h
  obtain ⟨hp, rfl, rfl⟩ := h
  obtain ⟨F, hF⟩ := s25 _ (hX _ (.head _))
  exact ⟨Af25 F, (f25_body F _).trans hF⟩)
/-! gantry/wire.count -/
def lVG0138 : List CEnt := [(24, [some 5], r24)]
def VG0138 : Env := mkEnv T01 G01 lVG0138
theorem eVG0138 : EOk Try.prog VG0138 := eok_mk (by exact ⟨c24, trivial⟩)
def Af38 (F : Nat) : Cuts := { F := F, at_ := fun _ => none, join := fun _ => none }
def ef38_a : (List Int) × Int → St := fun (a0, a1) => { tmps := [(0, (.vs (.rI .u8 a0) 0 1)), (1, (.int .i64 a1))], heap := [], next := 0, nt := 31, m := 0 }
def f38_nt (F : Nat) : (List Int) × Int → Option (AV × List Blk) := fun (a0, a1) => (cond ((Wire.getInt a0).2.2 != (0 : Int)) (some ((.tup (.cons 0 (.int .i64 (Wire.getInt a0).1) (.cons 0 (.int .i64 (Wire.getInt a0).2.1) (.cons 0 (.int .i64 (Wire.getInt a0).2.2) .nil)))), [])) (cond (decide ((Wire.getInt a0).1 < (0 : Int))) (some ((.tup (.cons 0 (.int .i64 (Wire.getInt a0).1) (.cons 0 (.int .i64 (Wire.getInt a0).2.1) (.cons 0 (.int .i64 (2 : Int)) .nil)))), [])) (cond (!(a1 == 0)) (cond (decide ((Wire.getInt a0).1 > (IntKind.i64.wrap (Int.tdiv (IntKind.i64.wrap ((↑a0.length : Int) - (Wire.getInt a0).2.1)) a1)))) (some ((.tup (.cons 0 (.int .i64 (Wire.getInt a0).1) (.cons 0 (.int .i64 (Wire.getInt a0).2.1) (.cons 0 (.int .i64 (3 : Int)) .nil)))), [])) (some ((.tup (.cons 0 (.int .i64 (Wire.getInt a0).1) (.cons 0 (.int .i64 (Wire.getInt a0).2.1) (.cons 0 (.int .i64 (Wire.getInt a0).2.2) .nil)))), []))) none)))
theorem f38_nt_eq (F : Nat) : ∀ v, aexec VG0138 (Af38 F) (sub (bodyOf Try.f38) []) (ef38_a v) (kFin VG0138 none (Try.f38).results.toList) = f38_nt F v := by
  rintro ⟨a0, a1⟩; kernel_rfl
/-- gantry/wire.count -/
def f38 (F : Nat) : (List Int) × Int → Option (AV × List Blk) := f38_nt F
theorem f38_body (F : Nat) (a0 : List Int) (a1 : Int) : abody VG0138 (Af38 F) Try.f38 [(.vs (.rI .u8 a0) 0 1), (.int .i64 a1)] [] = f38 F (a0, a1) :=
  (abody_in (c := (sub (bodyOf Try.f38) [])) (by kernel_rfl) (s := ef38_a (a0, a1)) (by kernel_rfl)).trans (f38_nt_eq F (a0, a1))
def r38 : CRun := fun X H => match X, H with
  | [(.vs (.rI .u8 a0) 0 1), (.int .i64 a1)], [] => some ((decide (0 < a1)), (.tup (.cons 0 (.int .i64 (Wire.count a0 a1).1) (.cons 0 (.int .i64 (Wire.count a0 a1).2.1) (.cons 0 (.int .i64 (Wire.count a0 a1).2.2) .nil)))), [])
  | _, _ => none
theorem s38 (a0 : List Int) (a1 : Int) (hp : ((decide (0 < a1))) = true) (h0 : okV (.vs (.rI .u8 a0) 0 1)) (h1 : okV (.int .i64 a1)) : ∃ F, f38 F (a0, a1) = some ((.tup (.cons 0 (.int .i64 (Wire.count a0 a1).1) (.cons 0 (.int .i64 (Wire.count a0 a1).2.1) (.cons 0 (.int .i64 (Wire.count a0 a1).2.2) .nil)))), []) := by
  have hz : 0 < a1 := of_decide_eq_true hp
  have hr := Wire.getInt_rng (Wire.okB_of h0.1)
  have hl := h0.2
  refine ⟨0, ?_⟩
  simp only [f38, f38_nt, Wire.count, int_bne, int_beq, dec_not]
  by_cases c1 : (Wire.getInt a0).2.2 = 0
  · rw [cond_neg (by omega), if_neg (by omega)]
    by_cases c2 : (Wire.getInt a0).1 < 0
    · rw [cond_pos c2, if_pos c2]
    · have hd0 : 0 ≤ ((a0.length : Int) - (Wire.getInt a0).2.1) / a1 := Int.ediv_nonneg (by omega) (by omega)
      have hd1 : ((a0.length : Int) - (Wire.getInt a0).2.1) / a1 ≤ (a0.length : Int) - (Wire.getInt a0).2.1 := Int.ediv_le_self _ (by omega)
      rw [cond_neg c2, if_neg c2, cond_pos (by omega), i64w (x := (a0.length : Int) - (Wire.getInt a0).2.1) (by omega) (by omega), tdiv_nn (by omega), i64w (by omega) (by omega)]
      by_cases c3 : ((a0.length : Int) - (Wire.getInt a0).2.1) / a1 < (Wire.getInt a0).1
      · rw [cond_pos c3, if_pos c3]
      · rw [cond_neg c3, if_neg c3, c1]
  · rw [cond_pos c1, if_pos c1]

theorem c38 : CallOk Try.prog G01 38 r38 := callOk_of (V := VG0138) mixed tys eVG0138 (f := 38) (fn := Try.f38) Try.func38 (by kernel_rfl) (c := sub (bodyOf Try.f38) []) (by kernel_rfl) (by
  intro X H r H' h hX hH
  unfold r38 at h; split at h <;> try contradiction
  simp only [Option.some.injEq, Prod.mk.injEq] at h
  obtain ⟨hp, rfl, rfl⟩ := h
  obtain ⟨F, hF⟩ := s38 _ _ hp (hX _ (.head _)) (hX _ (.tail _ (.head _)))
  exact ⟨Af38 F, (f38_body F _ _).trans hF⟩)
/-! gantry/gantryref01.count -/
def lVG0139 : List CEnt := [(25, [some 5], r25)]
def VG0139 : Env := mkEnv T01 G01 lVG0139
theorem eVG0139 : EOk Try.prog VG0139 := eok_mk (by exact ⟨c25, trivial⟩)
def Af39 (F : Nat) : Cuts := { F := F, at_ := fun _ => none, join := fun _ => none }
def ef39_a : (List Int) × Int → St := fun (a0, a1) => { tmps := [(0, (.vs (.rI .u8 a0) 0 1)), (1, (.int .i64 a1))], heap := [], next := 0, nt := 37, m := 0 }
def f39_nt (F : Nat) : (List Int) × Int → Option (AV × List Blk) := fun (a0, a1) => (cond ((Wire.getInt a0).2.2 != (0 : Int)) (some ((.tup (.cons 0 (.int .i64 (0 : Int)) (.cons 0 (.int .i64 (0 : Int)) (.cons 0 (.int .i64 (Wire.getInt a0).2.2) .nil)))), [])) (cond (decide ((Wire.getInt a0).1 < (0 : Int))) (some ((.tup (.cons 0 (.int .i64 (0 : Int)) (.cons 0 (.int .i64 (0 : Int)) (.cons 0 (.int .i64 (2 : Int)) .nil)))), [])) (cond (decide ((Wire.getInt a0).1 > (↑a0.length : Int))) (some ((.tup (.cons 0 (.int .i64 (0 : Int)) (.cons 0 (.int .i64 (0 : Int)) (.cons 0 (.int .i64 (3 : Int)) .nil)))), [])) (cond (decide ((IntKind.i64.wrap ((Wire.getInt a0).1 * a1)) > (IntKind.i64.wrap ((↑a0.length : Int) - (Wire.getInt a0).2.1)))) (some ((.tup (.cons 0 (.int .i64 (0 : Int)) (.cons 0 (.int .i64 (0 : Int)) (.cons 0 (.int .i64 (3 : Int)) .nil)))), [])) (some ((.tup (.cons 0 (.int .i64 (Wire.getInt a0).1) (.cons 0 (.int .i64 (Wire.getInt a0).2.1) (.cons 0 (.int .i64 (0 : Int)) .nil)))), []))))))
theorem f39_nt_eq (F : Nat) : ∀ v, aexec VG0139 (Af39 F) (sub (bodyOf Try.f39) []) (ef39_a v) (kFin VG0139 none (Try.f39).results.toList) = f39_nt F v := by
  rintro ⟨a0, a1⟩; kernel_rfl
/-- gantry/gantryref01.count -/
def f39 (F : Nat) : (List Int) × Int → Option (AV × List Blk) := f39_nt F
theorem f39_body (F : Nat) (a0 : List Int) (a1 : Int) : abody VG0139 (Af39 F) Try.f39 [(.vs (.rI .u8 a0) 0 1), (.int .i64 a1)] [] = f39 F (a0, a1) :=
  (abody_in (c := (sub (bodyOf Try.f39) [])) (by kernel_rfl) (s := ef39_a (a0, a1)) (by kernel_rfl)).trans (f39_nt_eq F (a0, a1))
def r39 : CRun := fun X H => match X, H with
  | [(.vs (.rI .u8 a0) 0 1), (.int .i64 a1)], [] => some ((((decide (0 < a1)) && (decide (a1 ≤ 16))) && (decide (a0.length < 1073741000))), (.tup (.cons 0 (.int .i64 (Wire.rcount a0 a1).1) (.cons 0 (.int .i64 (Wire.rcount a0 a1).2.1) (.cons 0 (.int .i64 (Wire.rcount a0 a1).2.2) .nil)))), [])
  | _, _ => none
theorem s39 (a0 : List Int) (a1 : Int) (hp : ((((decide (0 < a1)) && (decide (a1 ≤ 16))) && (decide (a0.length < 1073741000)))) = true) (h0 : okV (.vs (.rI .u8 a0) 0 1)) (h1 : okV (.int .i64 a1)) : ∃ F, f39 F (a0, a1) = some ((.tup (.cons 0 (.int .i64 (Wire.rcount a0 a1).1) (.cons 0 (.int .i64 (Wire.rcount a0 a1).2.1) (.cons 0 (.int .i64 (Wire.rcount a0 a1).2.2) .nil)))), []) := by
  rw [dec_and, dec_and, decide_eq_true_eq] at hp
  obtain ⟨⟨hz, hz16⟩, hl⟩ := hp
  have hr := Wire.getInt_rng (Wire.okB_of h0.1)
  refine ⟨0, ?_⟩
  simp only [f39, f39_nt, int_bne]
  by_cases c1 : (Wire.getInt a0).2.2 = 0
  · rw [cond_neg (by omega)]
    by_cases c2 : (Wire.getInt a0).1 < 0
    · have e : (Wire.count a0 a1).2.2 = 2 := by simp only [Wire.count]; rw [if_neg (by omega), if_pos c2]
      rw [cond_pos c2, Wire.rcount_bad (by omega), e]
    · have hd1 : ((a0.length : Int) - (Wire.getInt a0).2.1) / a1 ≤ (a0.length : Int) - (Wire.getInt a0).2.1 := Int.ediv_le_self _ (by omega)
      have hiff := Int.ediv_lt_iff_lt_mul (a := (a0.length : Int) - (Wire.getInt a0).2.1) (b := (Wire.getInt a0).1) hz
      have e3 : ((a0.length : Int) - (Wire.getInt a0).2.1) / a1 < (Wire.getInt a0).1 → (Wire.count a0 a1).2.2 = 3 := fun c => by simp only [Wire.count]; rw [if_neg (by omega), if_neg c2, if_pos c]
      rw [cond_neg c2]
      by_cases c3 : (Wire.getInt a0).1 > (a0.length : Int)
      · have e := e3 (by omega)
        rw [cond_pos c3, Wire.rcount_bad (by omega), e]
      · have hm : (Wire.getInt a0).1 * a1 ≤ 1073741000 * 16 := by
          refine Int.le_trans (Int.mul_le_mul_of_nonneg_left hz16 (by omega)) ?_
          omega
        have hm0 : 0 ≤ (Wire.getInt a0).1 * a1 := Int.mul_nonneg (by omega) (by omega)
        rw [cond_neg c3, i64w (x := (Wire.getInt a0).1 * a1) (by omega) (by omega), i64w (by omega) (by omega)]
        by_cases c4 : ((a0.length : Int) - (Wire.getInt a0).2.1) / a1 < (Wire.getInt a0).1
        · have e := e3 c4
          rw [cond_pos (hiff.mp c4), Wire.rcount_bad (by omega), e]
        · have e : (Wire.count a0 a1).2.2 = 0 := by simp only [Wire.count]; rw [if_neg (by omega), if_neg c2, if_neg c4]
          rw [cond_neg (mt hiff.mpr c4), Wire.rcount_ok e, e]; rfl
  · have e : (Wire.count a0 a1).2.2 = (Wire.getInt a0).2.2 := by simp only [Wire.count]; rw [if_pos c1]
    rw [cond_pos c1, Wire.rcount_bad (by omega), e]

theorem c39 : CallOk Try.prog G01 39 r39 := callOk_of (V := VG0139) mixed tys eVG0139 (f := 39) (fn := Try.f39) Try.func39 (by kernel_rfl) (c := sub (bodyOf Try.f39) []) (by kernel_rfl) (by
  intro X H r H' h hX hH
  unfold r39 at h; split at h <;> try contradiction
  simp only [Option.some.injEq, Prod.mk.injEq] at h
  obtain ⟨hp, rfl, rfl⟩ := h
  obtain ⟨F, hF⟩ := s39 _ _ hp (hX _ (.head _)) (hX _ (.tail _ (.head _)))
  exact ⟨Af39 F, (f39_body F _ _).trans hF⟩)
/-! gantry/wire.GetBytes -/
def lVG0126 : List CEnt := [(38, [some 5, none], r38)]
def VG0126 : Env := mkEnv T01 G01 lVG0126
theorem eVG0126 : EOk Try.prog VG0126 := eok_mk (by exact ⟨c38, trivial⟩)
def Af26 (F : Nat) : Cuts := { F := F, at_ := fun _ => none, join := fun _ => none }
def ef26_a : (List Int) → St := fun a0 => { tmps := [(0, (.vs (.rI .u8 a0) 0 1))], heap := [], next := 0, nt := 27, m := 0 }
def f26_nt (F : Nat) : (List Int) → Option (AV × List Blk) := fun a0 => (cond (decide (0 < (1 : Int))) (cond ((Wire.count a0 (1 : Int)).2.2 != (0 : Int)) (some ((.tup (.cons 0 (.str []) (.cons 0 (.int .i64 (0 : Int)) (.cons 0 (.int .i64 (Wire.count a0 (1 : Int)).2.2) .nil)))), [])) (cond (((decide (0 ≤ (Wire.count a0 (1 : Int)).2.1)) && (decide ((Wire.count a0 (1 : Int)).2.1 ≤ (IntKind.i64.wrap ((Wire.count a0 (1 : Int)).2.1 + (Wire.count a0 (1 : Int)).1))))) && (decide ((IntKind.i64.wrap ((Wire.count a0 (1 : Int)).2.1 + (Wire.count a0 (1 : Int)).1)) ≤ (↑a0.length : Int)))) (some ((.tup (.cons 0 (.str ((a0.drop (Int.toNat (Wire.count a0 (1 : Int)).2.1)).take ((Int.toNat (IntKind.i64.wrap ((Wire.count a0 (1 : Int)).2.1 + (Wire.count a0 (1 : Int)).1))) - (Int.toNat (Wire.count a0 (1 : Int)).2.1)))) (.cons 0 (.int .i64 (IntKind.i64.wrap ((Wire.count a0 (1 : Int)).2.1 + (Wire.count a0 (1 : Int)).1))) (.cons 0 (.int .i64 (0 : Int)) .nil)))), [])) none)) none)
theorem f26_nt_eq (F : Nat) : ∀ v, aexec VG0126 (Af26 F) (sub (bodyOf Try.f26) []) (ef26_a v) (kFin VG0126 none (Try.f26).results.toList) = f26_nt F v := by
  intro a0; kernel_rfl
/-- gantry/wire.GetBytes -/
def f26 (F : Nat) : (List Int) → Option (AV × List Blk) := f26_nt F
theorem f26_body (F : Nat) (a0 : List Int) : abody VG0126 (Af26 F) Try.f26 [(.vs (.rI .u8 a0) 0 1)] [] = f26 F a0 :=
  (abody_in (c := (sub (bodyOf Try.f26) [])) (by kernel_rfl) (s := ef26_a a0) (by kernel_rfl)).trans (f26_nt_eq F a0)
def r26 : CRun := fun X H => match X, H with
  | [(.vs (.rI .u8 a0) 0 1)], [] => some (true, (.tup (.cons 0 (.str (Wire.getBytes a0).1) (.cons 0 (.int .i64 (Wire.getBytes a0).2.1) (.cons 0 (.int .i64 (Wire.getBytes a0).2.2) .nil)))), [])
  | _, _ => none
theorem s26 (a0 : List Int) (h0 : okV (.vs (.rI .u8 a0) 0 1)) : ∃ F, f26 F a0 = some ((.tup (.cons 0 (.str (Wire.getBytes a0).1) (.cons 0 (.int .i64 (Wire.getBytes a0).2.1) (.cons 0 (.int .i64 (Wire.getBytes a0).2.2) .nil)))), []) := by
  have hb := Wire.okB_of h0.1
  have hl := h0.2
  refine ⟨0, ?_⟩
  simp only [f26, f26_nt, Wire.getBytes, int_bne, dec_and]
  rw [cond_pos (by omega)]
  by_cases c : (Wire.count a0 1).2.2 = 0
  · obtain ⟨g1, g2, g3, g4, g5, g6, g7⟩ := Wire.count_ok hb (by omega) c
    rw [cond_neg (by omega), if_pos c, g2, g3, i64w (by omega) (by omega), cond_pos (by omega), show ((Wire.getInt a0).2.1 + (Wire.getInt a0).1).toNat - (Wire.getInt a0).2.1.toNat = (Wire.getInt a0).1.toNat by omega]
  · rw [cond_pos c, if_neg c]

theorem c26 : CallOk Try.prog G01 26 r26 := callOk_of (V := VG0126) mixed tys eVG0126 (f := 26) (fn := Try.f26) Try.func26 (by kernel_rfl) (c := sub (bodyOf Try.f26) []) (by kernel_rfl) (by
  intro X H r H' h hX hH
  unfold r26 at h; split at h <;> try contradiction
  simp only [Option.some.injEq, Prod.mk.injEq] at h
  obtain ⟨hp, rfl, rfl⟩ := h
  obtain ⟨F, hF⟩ := s26 _ (hX _ (.head _))
  exact ⟨Af26 F, (f26_body F _).trans hF⟩)
/-! gantry/gantryref01.GetBytes -/
def lVG0127 : List CEnt := [(39, [some 5, none], r39)]
def VG0127 : Env := mkEnv T01 G01 lVG0127
theorem eVG0127 : EOk Try.prog VG0127 := eok_mk (by exact ⟨c39, trivial⟩)
def Af27 (F : Nat) : Cuts := { F := F, at_ := fun _ => none, join := fun _ => none }
def ef27_a : (List Int) → St := fun a0 => { tmps := [(0, (.vs (.rI .u8 a0) 0 1))], heap := [], next := 0, nt := 27, m := 0 }
def f27_nt (F : Nat) : (List Int) → Option (AV × List Blk) := fun a0 => (cond (((decide (0 < (1 : Int))) && (decide ((1 : Int) ≤ 16))) && (decide (a0.length < 1073741000))) (cond ((Wire.rcount a0 (1 : Int)).2.2 != (0 : Int)) (some ((.tup (.cons 0 (.str []) (.cons 0 (.int .i64 (0 : Int)) (.cons 0 (.int .i64 (Wire.rcount a0 (1 : Int)).2.2) .nil)))), [])) (cond (((decide (0 ≤ (Wire.rcount a0 (1 : Int)).2.1)) && (decide ((Wire.rcount a0 (1 : Int)).2.1 ≤ (IntKind.i64.wrap ((Wire.rcount a0 (1 : Int)).2.1 + (Wire.rcount a0 (1 : Int)).1))))) && (decide ((IntKind.i64.wrap ((Wire.rcount a0 (1 : Int)).2.1 + (Wire.rcount a0 (1 : Int)).1)) ≤ (↑a0.length : Int)))) (some ((.tup (.cons 0 (.str ((a0.drop (Int.toNat (Wire.rcount a0 (1 : Int)).2.1)).take ((Int.toNat (IntKind.i64.wrap ((Wire.rcount a0 (1 : Int)).2.1 + (Wire.rcount a0 (1 : Int)).1))) - (Int.toNat (Wire.rcount a0 (1 : Int)).2.1)))) (.cons 0 (.int .i64 (IntKind.i64.wrap ((Wire.rcount a0 (1 : Int)).2.1 + (Wire.rcount a0 (1 : Int)).1))) (.cons 0 (.int .i64 (0 : Int)) .nil)))), [])) none)) none)
theorem f27_nt_eq (F : Nat) : ∀ v, aexec VG0127 (Af27 F) (sub (bodyOf Try.f27) []) (ef27_a v) (kFin VG0127 none (Try.f27).results.toList) = f27_nt F v := by
  intro a0; kernel_rfl
/-- gantry/gantryref01.GetBytes -/
def f27 (F : Nat) : (List Int) → Option (AV × List Blk) := f27_nt F
theorem f27_body (F : Nat) (a0 : List Int) : abody VG0127 (Af27 F) Try.f27 [(.vs (.rI .u8 a0) 0 1)] [] = f27 F a0 :=
  (abody_in (c := (sub (bodyOf Try.f27) [])) (by kernel_rfl) (s := ef27_a a0) (by kernel_rfl)).trans (f27_nt_eq F a0)
def r27 : CRun := fun X H => match X, H with
  | [(.vs (.rI .u8 a0) 0 1)], [] => some ((decide (a0.length < 1073741000)), (.tup (.cons 0 (.str (Wire.getBytes a0).1) (.cons 0 (.int .i64 (Wire.getBytes a0).2.1) (.cons 0 (.int .i64 (Wire.getBytes a0).2.2) .nil)))), [])
  | _, _ => none
theorem s27 (a0 : List Int) (hp : ((decide (a0.length < 1073741000))) = true) (h0 : okV (.vs (.rI .u8 a0) 0 1)) : ∃ F, f27 F a0 = some ((.tup (.cons 0 (.str (Wire.getBytes a0).1) (.cons 0 (.int .i64 (Wire.getBytes a0).2.1) (.cons 0 (.int .i64 (Wire.getBytes a0).2.2) .nil)))), []) := by
  have hb := Wire.okB_of h0.1
  have hl : a0.length < 1073741000 := of_decide_eq_true hp
  refine ⟨0, ?_⟩
  simp only [f27, f27_nt, Wire.getBytes, int_bne, dec_and, Wire.rcount_err]
  rw [cond_pos (by omega)]
  by_cases c : (Wire.count a0 1).2.2 = 0
  · obtain ⟨g1, g2, g3, g4, g5, g6, g7⟩ := Wire.count_ok hb (by omega) c
    rw [cond_neg (by omega), if_pos c, Wire.rcount_ok c, g2, g3, i64w (by omega) (by omega), cond_pos (by omega), show ((Wire.getInt a0).2.1 + (Wire.getInt a0).1).toNat - (Wire.getInt a0).2.1.toNat = (Wire.getInt a0).1.toNat by omega]
  · rw [cond_pos c, if_neg c]

theorem c27 : CallOk Try.prog G01 27 r27 := callOk_of (V := VG0127) mixed tys eVG0127 (f := 27) (fn := Try.f27) Try.func27 (by kernel_rfl) (c := sub (bodyOf Try.f27) []) (by kernel_rfl) (by
  intro X H r H' h hX hH
  unfold r27 at h; split at h <;> try contradiction
  simp only [Option.some.injEq, Prod.mk.injEq] at h
  obtain ⟨hp, rfl, rfl⟩ := h
  obtain ⟨F, hF⟩ := s27 _ hp (hX _ (.head _))
  exact ⟨Af27 F, (f27_body F _).trans hF⟩)
/-! gantry/wire.reader -/
def lVG0140 : List CEnt := []
def VG0140 : Env := mkEnv T01 G01 lVG0140
theorem eVG0140 : EOk Try.prog VG0140 := eok_mk (by exact trivial)
def Af40 (F : Nat) : Cuts := { F := F, at_ := fun _ => none, join := fun _ => none }
def ef40_a : (List Int) × Int → St := fun (a0, a1) => { tmps := [(0, (.vs (.rI .u8 a0) 0 1)), (1, (.int .i64 a1))], heap := [], next := 0, nt := 6, m := 0 }
def f40_nt (F : Nat) : (List Int) × Int → Option (AV × List Blk) := fun (a0, a1) => (some ((.fn 41 (.cons 0 (.ptr 0 0 1 0 0 0 1) (.cons 0 (.ptr 1 0 1 0 0 0 1) .nil))), [(.cells 1 (.one (.vs (.rI .u8 a0) 0 1)) true), (.cells 1 (.one (.int .i64 a1)) true)]))
theorem f40_nt_eq (F : Nat) : ∀ v, aexec VG0140 (Af40 F) (sub (bodyOf Try.f40) []) (ef40_a v) (kFin VG0140 none (Try.f40).results.toList) = f40_nt F v := by
  rintro ⟨a0, a1⟩; kernel_rfl
/-- gantry/wire.reader -/
def f40 (F : Nat) : (List Int) × Int → Option (AV × List Blk) := f40_nt F
theorem f40_body (F : Nat) (a0 : List Int) (a1 : Int) : abody VG0140 (Af40 F) Try.f40 [(.vs (.rI .u8 a0) 0 1), (.int .i64 a1)] [] = f40 F (a0, a1) :=
  (abody_in (c := (sub (bodyOf Try.f40) [])) (by kernel_rfl) (s := ef40_a (a0, a1)) (by kernel_rfl)).trans (f40_nt_eq F (a0, a1))
def r40 : CRun := fun X H => match X, H with
  | [(.vs (.rI .u8 a0) 0 1), (.int .i64 a1)], [] => some (true, (.fn 41 (.cons 0 (.ptr 0 0 1 0 0 0 1) (.cons 0 (.ptr 1 0 1 0 0 0 1) .nil))), [(.cells 1 (.one (.vs (.rI .u8 a0) 0 1)) true), (.cells 1 (.one (.int .i64 a1)) true)])
  | _, _ => none
theorem s40 (a0 : List Int) (a1 : Int) (h0 : okV (.vs (.rI .u8 a0) 0 1)) (h1 : okV (.int .i64 a1)) : ∃ F, f40 F (a0, a1) = some ((.fn 41 (.cons 0 (.ptr 0 0 1 0 0 0 1) (.cons 0 (.ptr 1 0 1 0 0 0 1) .nil))), [(.cells 1 (.one (.vs (.rI .u8 a0) 0 1)) true), (.cells 1 (.one (.int .i64 a1)) true)]) := ⟨0, rfl⟩

theorem c40 : CallOk Try.prog G01 40 r40 := callOk_of (V := VG0140) mixed tys eVG0140 (f := 40) (fn := Try.f40) Try.func40 (by kernel_rfl) (c := sub (bodyOf Try.f40) []) (by kernel_rfl) (by
  intro X H r H' h hX hH
  unfold r40 at h; split at h <;> try contradiction
  simp only [Option.some.injEq, Prod.mk.injEq] at h
  obtain ⟨hp, rfl, rfl⟩ := h
  obtain ⟨F, hF⟩ := s40 _ _ (hX _ (.head _)) (hX _ (.tail _ (.head _)))
  exact ⟨Af40 F, (f40_body F _ _).trans hF⟩)
/-! gantry/wire.reader$1 -/
def lVG0141 : List CEnt := [(24, [some 5], r24)]
def VG0141 : Env := mkEnv T01 G01 lVG0141
theorem eVG0141 : EOk Try.prog VG0141 := eok_mk (by exact ⟨c24, trivial⟩)
def Af41 (F : Nat) : Cuts := { F := F, at_ := fun _ => none, join := fun _ => none }
def ef41_a : (List Int) × Int → St := fun (a0, a1) => { tmps := [(0, (.ptr 0 0 1 0 0 0 1)), (1, (.ptr 1 0 1 0 0 0 1))], heap := [(0, (.cells 1 (.one (.vs (.rI .u8 a0) 0 1)) true)), (1, (.cells 1 (.one (.int .i64 a1)) true))], next := 2, nt := 22, m := 2 }
def f41_nt (F : Nat) : (List Int) × Int → Option (AV × List Blk) := fun (a0, a1) => (cond (((decide (0 ≤ a1)) && (decide (a1 ≤ (↑a0.length : Int)))) && (decide ((↑a0.length : Int) ≤ (↑a0.length : Int)))) (some ((.tup (.cons 0 (.int .i64 (Wire.getInt ((a0.drop (Int.toNat a1)).take (a0.length - (Int.toNat a1)))).1) (.cons 0 (.int .i64 (IntKind.i64.wrap (a1 + (Wire.getInt ((a0.drop (Int.toNat a1)).take (a0.length - (Int.toNat a1)))).2.1))) (.cons 0 (.int .i64 (Wire.getInt ((a0.drop (Int.toNat a1)).take (a0.length - (Int.toNat a1)))).2.2) .nil)))), [(.cells 1 (.one (.vs (.rI .u8 a0) 0 1)) true), (.cells 1 (.one (.int .i64 (IntKind.i64.wrap (a1 + (Wire.getInt ((a0.drop (Int.toNat a1)).take (a0.length - (Int.toNat a1)))).2.1)))) true)])) none)
theorem f41_nt_eq (F : Nat) : ∀ v, aexec VG0141 (Af41 F) (sub (bodyOf Try.f41) []) (ef41_a v) (kFin VG0141 none (Try.f41).results.toList) = f41_nt F v := by
  rintro ⟨a0, a1⟩; kernel_rfl
/-- gantry/wire.reader$1 -/
def f41 (F : Nat) : (List Int) × Int → Option (AV × List Blk) := f41_nt F
theorem f41_body (F : Nat) (a0 : List Int) (a1 : Int) : abody VG0141 (Af41 F) Try.f41 [(.ptr 0 0 1 0 0 0 1), (.ptr 1 0 1 0 0 0 1)] [(.cells 1 (.one (.vs (.rI .u8 a0) 0 1)) true), (.cells 1 (.one (.int .i64 a1)) true)] = f41 F (a0, a1) :=
  (abody_in (c := (sub (bodyOf Try.f41) [])) (by kernel_rfl) (s := ef41_a (a0, a1)) (by kernel_rfl)).trans (f41_nt_eq F (a0, a1))
def r41 : CRun := fun X H => match X, H with
  | [(.ptr 0 0 1 0 0 0 1), (.ptr 1 0 1 0 0 0 1)], [(.cells 1 (.one (.vs (.rI .u8 a0) 0 1)) true), (.cells 1 (.one (.int .i64 a1)) true)] => some (((decide (0 ≤ a1)) && (decide (a1 ≤ (a0.length : Int)))), (.tup (.cons 0 (.int .i64 (Wire.getInt (a0.drop (Int.toNat a1))).1) (.cons 0 (.int .i64 (Wire.nextAt a0 a1)) (.cons 0 (.int .i64 (Wire.getInt (a0.drop (Int.toNat a1))).2.2) .nil)))), [(.cells 1 (.one (.vs (.rI .u8 a0) 0 1)) true), (.cells 1 (.one (.int .i64 (Wire.nextAt a0 a1))) true)])
  | _, _ => none
theorem s41 (a0 : List Int) (a1 : Int) (hp : (((decide (0 ≤ a1)) && (decide (a1 ≤ (a0.length : Int))))) = true) (k0 : okB (.cells 1 (.one (.vs (.rI .u8 a0) 0 1)) true)) (k1 : okB (.cells 1 (.one (.int .i64 a1)) true)) : ∃ F, f41 F (a0, a1) = some ((.tup (.cons 0 (.int .i64 (Wire.getInt (a0.drop (Int.toNat a1))).1) (.cons 0 (.int .i64 (Wire.nextAt a0 a1)) (.cons 0 (.int .i64 (Wire.getInt (a0.drop (Int.toNat a1))).2.2) .nil)))), [(.cells 1 (.one (.vs (.rI .u8 a0) 0 1)) true), (.cells 1 (.one (.int .i64 (Wire.nextAt a0 a1))) true)]) := by
  rw [dec_and, decide_eq_true_eq] at hp
  have hk : okC (.vs (.rI .u8 a0) 0 1) := k0.2.2 0 (by omega)
  have hb := Wire.okB_of hk.1
  have hl := hk.2
  have hr := Wire.getInt_rng (Wire.okBytes_drop hb a1.toNat)
  rw [List.length_drop] at hr
  refine ⟨0, ?_⟩
  simp only [f41, f41_nt, dec_and, Wire.nextAt]
  rw [cond_pos (by omega), List.take_of_length_le (by rw [List.length_drop]; exact Nat.le_refl _), i64w (by omega) (by omega)]

theorem c41 : CallOk Try.prog G01 41 r41 := callOk_of (V := VG0141) mixed tys eVG0141 (f := 41) (fn := Try.f41) Try.func41 (by kernel_rfl) (c := sub (bodyOf Try.f41) []) (by kernel_rfl) (by
  intro X H r H' h hX hH
  unfold r41 at h; split at h <;> try contradiction
  simp only [Option.some.injEq, Prod.mk.injEq] at h
  obtain ⟨hp, rfl, rfl⟩ := h
  obtain ⟨F, hF⟩ := s41 _ _ hp (hH _ (.head _)) (hH _ (.tail _ (.head _)))
  exact ⟨Af41 F, (f41_body F _ _).trans hF⟩)
end Go.Am
