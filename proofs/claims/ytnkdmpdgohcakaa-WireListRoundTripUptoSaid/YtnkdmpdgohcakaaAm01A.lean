/- Part of a proof about the functions of the given program. -/
import Derived.Test.YtnkdmpdgohcakaaAmWire3
import Derived.Test.YtnkdmpdgohcakaaProg
set_option linter.unusedVariables false
set_option linter.unusedSimpArgs false
namespace Go.Am
open Go Go.Proofs
def T01 : Tys := [⟨.other, 1, 0⟩, ⟨.other, 1, 8⟩, ⟨.int .i64, 1, 8⟩, ⟨.int .i64, 1, 8⟩, ⟨.bool, 1, 1⟩, ⟨.int .u8, 1, 1⟩, ⟨.int .u8, 1, 1⟩, ⟨.struct [(2, 0), (3, 1), (4, 2), (6, 3)], 4, 24⟩, ⟨.struct [(2, 0), (3, 1), (4, 2), (6, 3)], 4, 24⟩, ⟨.str, 1, 16⟩, ⟨.str, 1, 16⟩, ⟨.str, 1, 16⟩, ⟨.int .u64, 1, 8⟩, ⟨.other, 0, 0⟩, ⟨.other, 0, 0⟩, ⟨.ptr 65, 1, 8⟩, ⟨.ptr 68, 1, 8⟩, ⟨.ptr 78, 1, 8⟩, ⟨.other, 0, 0⟩, ⟨.other, 0, 0⟩, ⟨.other, 1, 16⟩, ⟨.int .i32, 1, 4⟩, ⟨.slice 3, 1, 24⟩, ⟨.slice 9, 1, 24⟩, ⟨.slice 57, 1, 24⟩, ⟨.other, 1, 8⟩, ⟨.other, 1, 8⟩, ⟨.other, 1, 8⟩, ⟨.slice 5, 1, 24⟩, ⟨.other, 1, 8⟩, ⟨.other, 1, 8⟩, ⟨.other, 1, 8⟩, ⟨.other, 1, 8⟩, ⟨.other, 1, 8⟩, ⟨.other, 1, 8⟩, ⟨.int .i64, 1, 8⟩, ⟨.other, 1, 0⟩, ⟨.other, 1, 8⟩, ⟨.other, 1, 0⟩, ⟨.other, 1, 8⟩, ⟨.other, 1, 0⟩, ⟨.other, 1, 8⟩, ⟨.other, 1, 8⟩, ⟨.other, 1, 0⟩, ⟨.other, 1, 8⟩, ⟨.other, 1, 8⟩, ⟨.other, 1, 0⟩, ⟨.other, 1, 8⟩, ⟨.other, 1, 8⟩, ⟨.other, 1, 8⟩, ⟨.other, 1, 8⟩, ⟨.other, 1, 8⟩, ⟨.other, 1, 8⟩, ⟨.other, 1, 8⟩, ⟨.slice 28, 1, 24⟩, ⟨.other, 1, 8⟩, ⟨.arr 16 5, 16, 16⟩, ⟨.arr 16 5, 16, 16⟩, ⟨.int .u64, 1, 8⟩, ⟨.int .u64, 1, 8⟩, ⟨.other, 1, 8⟩, ⟨.other, 1, 8⟩, ⟨.other, 1, 8⟩, ⟨.other, 1, 8⟩, ⟨.other, 0, 0⟩, ⟨.other, 0, 0⟩, ⟨.arr 0 16, 0, 0⟩, ⟨.other, 0, 0⟩, ⟨.other, 0, 0⟩, ⟨.other, 1, 8⟩, ⟨.int .u32, 1, 4⟩, ⟨.int .u8, 1, 1⟩, ⟨.int .u8, 1, 1⟩, ⟨.other, 1, 8⟩, ⟨.ptr 5, 1, 8⟩, ⟨.int .i32, 1, 4⟩, ⟨.int .i32, 1, 4⟩, ⟨.other, 0, 0⟩, ⟨.other, 0, 0⟩, ⟨.other, 1, 8⟩]
def G01 : Nat → Option AV := fun _ => none
theorem mixed : Try.prog.follows .mixedOrders = true := by kernel_rfl
theorem tys : TysOk Try.prog T01 := tysB_ok (by kernel_rfl)

/-! gantry/wire.Int -/
def lVG0114 : List CEnt := []
def VG0114 : Env := mkEnv T01 G01 lVG0114
theorem eVG0114 : EOk Try.prog VG0114 := eok_mk (by exact trivial)
def Af14 (F : Nat) : Cuts := { F := F, at_ := fun n => match n with | 5014 => some [(3, .plain), (4, .plain), (5, .plain)] | 10010 => some [(3, .plain), (4, .plain), (6, .plain), (7, .plain)] | _ => none, join := fun n => match n with | 1050 => some [(0, .plain)] | 2047 => some [(0, .plain), (3, .plain), (4, .plain)] | 4041 => some [(3, .plain), (4, .plain)] | 5037 => some [(3, .plain), (4, .plain), (5, .plain)] | 5039 => some [(3, .plain), (4, .plain), (5, .plain)] | 8020 => some [(3, .plain), (4, .plain), (5, .plain)] | 9018 => some [(3, .plain), (4, .plain), (5, .plain), (6, .plain)] | 10012 => some [(3, .plain), (4, .plain), (6, .plain), (7, .plain)] | 13003 => some [(6, .plain)] | _ => none }
def ef14_a : Int → St := fun a0 => { tmps := [(0, (.int .i64 a0))], heap := [], next := 0, nt := 47, m := 0 }
def ef14_j1050 : Int → St := fun t0 => { tmps := [(0, (.int .i64 t0))], heap := [], next := 0, nt := 47, m := 0 }
def ef14_j2047 : Int × Int × Int → St := fun (t0, t3, t4) => { tmps := [(0, (.int .i64 t0)), (3, (.int .u64 t3)), (4, (.int .u8 t4))], heap := [], next := 0, nt := 47, m := 0 }
def ef14_j4041 : Int × Int → St := fun (t3, t4) => { tmps := [(3, (.int .u64 t3)), (4, (.int .u8 t4))], heap := [], next := 0, nt := 47, m := 0 }
def ef14_j5039 : Int × Int × Int → St := fun (t3, t4, t5) => { tmps := [(3, (.int .u64 t3)), (4, (.int .u8 t4)), (5, (.int .i64 t5))], heap := [], next := 0, nt := 47, m := 0 }
def ef14_j5037 : Int × Int × Int → St := fun (t3, t4, t5) => { tmps := [(3, (.int .u64 t3)), (4, (.int .u8 t4)), (5, (.int .i64 t5))], heap := [], next := 0, nt := 47, m := 0 }
def ef14_l5014 : Int × Int × Int → St := fun (t3, t4, t5) => { tmps := [(3, (.int .u64 t3)), (4, (.int .u8 t4)), (5, (.int .i64 t5))], heap := [], next := 0, nt := 47, m := 0 }
def ef14_j8020 : Int × Int × Int → St := fun (t3, t4, t5) => { tmps := [(3, (.int .u64 t3)), (4, (.int .u8 t4)), (5, (.int .i64 t5))], heap := [], next := 0, nt := 47, m := 0 }
def ef14_j9018 : Int × Int × Int × (List Int) → St := fun (t3, t4, t5, x4) => { tmps := [(3, (.int .u64 t3)), (4, (.int .u8 t4)), (5, (.int .i64 t5)), (6, (.own 0 0 1))], heap := [(0, (.cells x4.length (.rI .u8 x4) true))], next := 1, nt := 47, m := 0 }
def ef14_j10012 : Int × Int × Int × (List Int) → St := fun (t3, t4, t7, x4) => { tmps := [(3, (.int .u64 t3)), (4, (.int .u8 t4)), (6, (.own 0 0 1)), (7, (.int .i64 t7))], heap := [(0, (.cells x4.length (.rI .u8 x4) true))], next := 1, nt := 47, m := 0 }
def ef14_l10010 : Int × Int × Int × (List Int) → St := fun (t3, t4, t7, x4) => { tmps := [(3, (.int .u64 t3)), (4, (.int .u8 t4)), (6, (.own 0 0 1)), (7, (.int .i64 t7))], heap := [(0, (.cells x4.length (.rI .u8 x4) true))], next := 1, nt := 47, m := 0 }
def ef14_j13003 : (List Int) → St := fun x1 => { tmps := [(6, (.own 0 0 1))], heap := [(0, (.cells x1.length (.rI .u8 x1) true))], next := 1, nt := 47, m := 0 }
def f14_n0 (F : Nat) (kf14_j1050 : Int → Option (AV × List Blk)) : Int → Option (AV × List Blk) := fun a0 => (kf14_j1050 a0)
theorem f14_n0_eq (F : Nat) (Rf14_j1050 : St → Option (AV × List Blk)) : ∀ v, aexec VG0114 (Af14 F) (sub (bodyOf Try.f14) [0]) (ef14_a v) (kSeq (fun s => Rf14_j1050 (cutTo VG0114 (some [(0, .plain)]) s)) (kFin VG0114 none (Try.f14).results.toList)) = f14_n0 F (fun w => Rf14_j1050 (ef14_j1050 w)) v := by
  intro a0; kernel_rfl
def f14_n100 (F : Nat) (kf14_j2047 : Int × Int × Int → Option (AV × List Blk)) : Int → Option (AV × List Blk) := fun t0 => (kf14_j2047 (t0, (IntKind.u64.wrap t0), (0 : Int)))
theorem f14_n100_eq (F : Nat) (Rf14_j2047 : St → Option (AV × List Blk)) : ∀ v, aexec VG0114 (Af14 F) (sub (bodyOf Try.f14) [1, 0, 0]) (ef14_j1050 v) (kSeq (fun s => Rf14_j2047 (cutTo VG0114 (some [(0, .plain), (3, .plain), (4, .plain)]) s)) (kFin VG0114 none (Try.f14).results.toList)) = f14_n100 F (fun w => Rf14_j2047 (ef14_j2047 w)) v := by
  intro t0; kernel_rfl
def f14_n1010 (F : Nat) (kf14_j4041 : Int × Int → Option (AV × List Blk)) : Int × Int × Int → Option (AV × List Blk) := fun (t0, t3, t4) => (cond (decide (t0 < (0 : Int))) (kf14_j4041 ((ibits .xor .u64 (18446744073709551615 : Int) t3), (255 : Int))) (kf14_j4041 (t3, t4)))
theorem f14_n1010_eq (F : Nat) (Rf14_j4041 : St → Option (AV × List Blk)) : ∀ v, aexec VG0114 (Af14 F) (sub (bodyOf Try.f14) [1, 0, 1, 0]) (ef14_j2047 v) (kSeq (fun s => Rf14_j4041 (cutTo VG0114 (some [(3, .plain), (4, .plain)]) s)) (kFin VG0114 none (Try.f14).results.toList)) = f14_n1010 F (fun w => Rf14_j4041 (ef14_j4041 w)) v := by
  rintro ⟨t0, t3, t4⟩; kernel_rfl
def f14_n10110 (F : Nat) (kf14_j5039 : Int × Int × Int → Option (AV × List Blk)) : Int × Int → Option (AV × List Blk) := fun (t3, t4) => (kf14_j5039 (t3, t4, (8 : Int)))
theorem f14_n10110_eq (F : Nat) (Rf14_j5039 : St → Option (AV × List Blk)) : ∀ v, aexec VG0114 (Af14 F) (sub (bodyOf Try.f14) [1, 0, 1, 1, 0]) (ef14_j4041 v) (kSeq (fun s => Rf14_j5039 (cutTo VG0114 (some [(3, .plain), (4, .plain), (5, .plain)]) s)) (kFin VG0114 none (Try.f14).results.toList)) = f14_n10110 F (fun w => Rf14_j5039 (ef14_j5039 w)) v := by
  rintro ⟨t3, t4⟩; kernel_rfl
def f14_n101110 (F : Nat) (kf14_j5037 : Int × Int × Int → Option (AV × List Blk)) : Int × Int × Int → Option (AV × List Blk) := fun (t3, t4, t5) => (kf14_j5037 (t3, t4, t5))
theorem f14_n101110_eq (F : Nat) (Rf14_j5037 : St → Option (AV × List Blk)) : ∀ v, aexec VG0114 (Af14 F) (sub (bodyOf Try.f14) [1, 0, 1, 1, 1, 0]) (ef14_j5039 v) (kSeq (fun s => Rf14_j5037 (cutTo VG0114 (some [(3, .plain), (4, .plain), (5, .plain)]) s)) (kFin VG0114 none (Try.f14).results.toList)) = f14_n101110 F (fun w => Rf14_j5037 (ef14_j5037 w)) v := by
  rintro ⟨t3, t4, t5⟩; kernel_rfl
def f14_n101111000 (F : Nat) (kf14_l5014 : Int × Int × Int → Option (AV × List Blk)) (kf14_j8020 : Int × Int × Int → Option (AV × List Blk)) : Int × Int × Int → Option (AV × List Blk) := fun (t3, t4, t5) => (cond (decide (t5 > (0 : Int))) (cond (decide (0 ≤ (IntKind.i64.wrap ((8 : Int) * (IntKind.i64.wrap (t5 - (1 : Int))))))) (cond (decide ((Int.fdiv t3 (2 ^ (min (Int.toNat (IntKind.i64.wrap ((8 : Int) * (IntKind.i64.wrap (t5 - (1 : Int)))))) 64))) > (0 : Int))) (kf14_j8020 (t3, t4, t5)) (kf14_l5014 (t3, t4, (IntKind.i64.wrap (t5 - (1 : Int)))))) none) (kf14_j8020 (t3, t4, t5)))
theorem f14_n101111000_eq (F : Nat) (Rf14_l5014 : St → Option (AV × List Blk)) (Rf14_j8020 : St → Option (AV × List Blk)) : ∀ v, aexec VG0114 (Af14 F) (sub (bodyOf Try.f14) [1, 0, 1, 1, 1, 1, 0, 0, 0]) (ef14_l5014 v) (kSeq (fun s => Rf14_l5014 (cutTo VG0114 (some [(3, .plain), (4, .plain), (5, .plain)]) s)) (kBlock 0 (kSeq (fun s => Rf14_j8020 (cutTo VG0114 (some [(3, .plain), (4, .plain), (5, .plain)]) s)) (kFin VG0114 none (Try.f14).results.toList)))) = f14_n101111000 F (fun w => Rf14_l5014 (ef14_l5014 w)) (fun w => Rf14_j8020 (ef14_j8020 w)) v := by
  rintro ⟨t3, t4, t5⟩; kernel_rfl
def f14_n10111100_i : Int × Int × Int → Int × Int × Int := fun (t3, t4, t5) => (t3, t4, t5)
def f14_n10111100 (F : Nat) (kf14_j8020 : Int × Int × Int → Option (AV × List Blk)) : Int × Int × Int → Option (AV × List Blk) := fun v => loopN (fun k => f14_n101111000 F k kf14_j8020) F (f14_n10111100_i v)
theorem f14_n10111100_eq (F : Nat) (Rf14_j8020 : St → Option (AV × List Blk)) : ∀ v, aexec VG0114 (Af14 F) (sub (bodyOf Try.f14) [1, 0, 1, 1, 1, 1, 0, 0]) (ef14_j5037 v) (kBlock 0 (kSeq (fun s => Rf14_j8020 (cutTo VG0114 (some [(3, .plain), (4, .plain), (5, .plain)]) s)) (kFin VG0114 none (Try.f14).results.toList))) = f14_n10111100 F (fun w => Rf14_j8020 (ef14_j8020 w)) v :=
  loop_cut (c := (sub (bodyOf Try.f14) [1, 0, 1, 1, 1, 1, 0, 0])) (d := (sub (bodyOf Try.f14) [1, 0, 1, 1, 1, 1, 0, 0, 0])) (by kernel_rfl) (spec := [(3, .plain), (4, .plain), (5, .plain)]) (by kernel_rfl) ef14_j5037 ef14_l5014 (kBlock 0 (kSeq (fun s => Rf14_j8020 (cutTo VG0114 (some [(3, .plain), (4, .plain), (5, .plain)]) s)) (kFin VG0114 none (Try.f14).results.toList))) f14_n10111100_i (fun k => f14_n101111000 F k (fun w => Rf14_j8020 (ef14_j8020 w)))
    (by rintro ⟨t3, t4, t5⟩; kernel_rfl) (fun Rf14_l5014 => f14_n101111000_eq F Rf14_l5014 Rf14_j8020)
def f14_n1011110 (F : Nat) (kf14_j8020 : Int × Int × Int → Option (AV × List Blk)) : Int × Int × Int → Option (AV × List Blk) := f14_n10111100 F kf14_j8020
theorem f14_n1011110_eq (F : Nat) (Rf14_j8020 : St → Option (AV × List Blk)) : ∀ v, aexec VG0114 (Af14 F) (sub (bodyOf Try.f14) [1, 0, 1, 1, 1, 1, 0]) (ef14_j5037 v) (kSeq (fun s => Rf14_j8020 (cutTo VG0114 (some [(3, .plain), (4, .plain), (5, .plain)]) s)) (kFin VG0114 none (Try.f14).results.toList)) = f14_n1011110 F (fun w => Rf14_j8020 (ef14_j8020 w)) v := fun v =>
  (block_in (c := (sub (bodyOf Try.f14) [1, 0, 1, 1, 1, 1, 0])) (d := (sub (bodyOf Try.f14) [1, 0, 1, 1, 1, 1, 0, 0])) (id := 0) (by kernel_rfl) _ _).trans (f14_n10111100_eq F Rf14_j8020 v)
def f14_n10111110 (F : Nat) (kf14_j9018 : Int × Int × Int × (List Int) → Option (AV × List Blk)) : Int × Int × Int → Option (AV × List Blk) := fun (t3, t4, t5) => (kf14_j9018 (t3, t4, t5, [(ibits .xor .u8 (IntKind.u8.wrap (IntKind.i64.wrap ((128 : Int) + t5))) t4)]))
theorem f14_n10111110_eq (F : Nat) (Rf14_j9018 : St → Option (AV × List Blk)) : ∀ v, aexec VG0114 (Af14 F) (sub (bodyOf Try.f14) [1, 0, 1, 1, 1, 1, 1, 0]) (ef14_j8020 v) (kSeq (fun s => Rf14_j9018 (cutTo VG0114 (some [(3, .plain), (4, .plain), (5, .plain), (6, .plain)]) s)) (kFin VG0114 none (Try.f14).results.toList)) = f14_n10111110 F (fun w => Rf14_j9018 (ef14_j9018 w)) v := by
  rintro ⟨t3, t4, t5⟩; kernel_rfl
def f14_n1011111100 (F : Nat) (kf14_j10012 : Int × Int × Int × (List Int) → Option (AV × List Blk)) (kf14_j13003 : (List Int) → Option (AV × List Blk)) : Int × Int × Int × (List Int) → Option (AV × List Blk) := fun (t3, t4, t5, x4) => (kf14_j10012 (t3, t4, (IntKind.i64.wrap (t5 - (1 : Int))), x4))
theorem f14_n1011111100_eq (F : Nat) (Rf14_j10012 : St → Option (AV × List Blk)) (Rf14_j13003 : St → Option (AV × List Blk)) : ∀ v, aexec VG0114 (Af14 F) (sub (bodyOf Try.f14) [1, 0, 1, 1, 1, 1, 1, 1, 0, 0]) (ef14_j9018 v) (kSeq (fun s => Rf14_j10012 (cutTo VG0114 (some [(3, .plain), (4, .plain), (6, .plain), (7, .plain)]) s)) (kSeq (fun s => Rf14_j13003 (cutTo VG0114 (some [(6, .plain)]) s)) (kFin VG0114 none (Try.f14).results.toList))) = f14_n1011111100 F (fun w => Rf14_j10012 (ef14_j10012 w)) (fun w => Rf14_j13003 (ef14_j13003 w)) v := by
  rintro ⟨t3, t4, t5, x4⟩; kernel_rfl
def f14_n101111110100 (F : Nat) (kf14_l10010 : Int × Int × Int × (List Int) → Option (AV × List Blk)) (kf14_j13003 : (List Int) → Option (AV × List Blk)) : Int × Int × Int × (List Int) → Option (AV × List Blk) := fun (t3, t4, t7, x4) => (cond (decide (t7 ≥ (0 : Int))) (cond (decide (0 ≤ (IntKind.i64.wrap ((8 : Int) * t7)))) (cond (decide ((x4.length + 1) < 1073741824)) (kf14_l10010 (t3, t4, (IntKind.i64.wrap (t7 - (1 : Int))), (x4 ++ [(ibits .xor .u8 (IntKind.u8.wrap (Int.fdiv t3 (2 ^ (min (Int.toNat (IntKind.i64.wrap ((8 : Int) * t7))) 64)))) t4)]))) none) none) (kf14_j13003 x4))
theorem f14_n101111110100_eq (F : Nat) (Rf14_l10010 : St → Option (AV × List Blk)) (Rf14_j13003 : St → Option (AV × List Blk)) : ∀ v, aexec VG0114 (Af14 F) (sub (bodyOf Try.f14) [1, 0, 1, 1, 1, 1, 1, 1, 0, 1, 0, 0]) (ef14_l10010 v) (kSeq (fun s => Rf14_l10010 (cutTo VG0114 (some [(3, .plain), (4, .plain), (6, .plain), (7, .plain)]) s)) (kBlock 2 (kSeq (fun s => Rf14_j13003 (cutTo VG0114 (some [(6, .plain)]) s)) (kFin VG0114 none (Try.f14).results.toList)))) = f14_n101111110100 F (fun w => Rf14_l10010 (ef14_l10010 w)) (fun w => Rf14_j13003 (ef14_j13003 w)) v := by
  rintro ⟨t3, t4, t7, x4⟩; kernel_rfl
def f14_n10111111010_i : Int × Int × Int × (List Int) → Int × Int × Int × (List Int) := fun (t3, t4, t7, x4) => (t3, t4, t7, x4)
def f14_n10111111010 (F : Nat) (kf14_j13003 : (List Int) → Option (AV × List Blk)) : Int × Int × Int × (List Int) → Option (AV × List Blk) := fun v => loopN (fun k => f14_n101111110100 F k kf14_j13003) F (f14_n10111111010_i v)
theorem f14_n10111111010_eq (F : Nat) (Rf14_j13003 : St → Option (AV × List Blk)) : ∀ v, aexec VG0114 (Af14 F) (sub (bodyOf Try.f14) [1, 0, 1, 1, 1, 1, 1, 1, 0, 1, 0]) (ef14_j10012 v) (kBlock 2 (kSeq (fun s => Rf14_j13003 (cutTo VG0114 (some [(6, .plain)]) s)) (kFin VG0114 none (Try.f14).results.toList))) = f14_n10111111010 F (fun w => Rf14_j13003 (ef14_j13003 w)) v :=
  loop_cut (c := (sub (bodyOf Try.f14) [1, 0, 1, 1, 1, 1, 1, 1, 0, 1, 0])) (d := (sub (bodyOf Try.f14) [1, 0, 1, 1, 1, 1, 1, 1, 0, 1, 0, 0])) (by kernel_rfl) (spec := [(3, .plain), (4, .plain), (6, .plain), (7, .plain)]) (by kernel_rfl) ef14_j10012 ef14_l10010 (kBlock 2 (kSeq (fun s => Rf14_j13003 (cutTo VG0114 (some [(6, .plain)]) s)) (kFin VG0114 none (Try.f14).results.toList))) f14_n10111111010_i (fun k => f14_n101111110100 F k (fun w => Rf14_j13003 (ef14_j13003 w)))
    (by rintro ⟨t3, t4, t7, x4⟩; kernel_rfl) (fun Rf14_l10010 => f14_n101111110100_eq F Rf14_l10010 Rf14_j13003)
def f14_n1011111101 (F : Nat) (kf14_j13003 : (List Int) → Option (AV × List Blk)) : Int × Int × Int × (List Int) → Option (AV × List Blk) := f14_n10111111010 F kf14_j13003
theorem f14_n1011111101_eq (F : Nat) (Rf14_j13003 : St → Option (AV × List Blk)) : ∀ v, aexec VG0114 (Af14 F) (sub (bodyOf Try.f14) [1, 0, 1, 1, 1, 1, 1, 1, 0, 1]) (ef14_j10012 v) (kSeq (fun s => Rf14_j13003 (cutTo VG0114 (some [(6, .plain)]) s)) (kFin VG0114 none (Try.f14).results.toList)) = f14_n1011111101 F (fun w => Rf14_j13003 (ef14_j13003 w)) v := fun v =>
  (block_in (c := (sub (bodyOf Try.f14) [1, 0, 1, 1, 1, 1, 1, 1, 0, 1])) (d := (sub (bodyOf Try.f14) [1, 0, 1, 1, 1, 1, 1, 1, 0, 1, 0])) (id := 2) (by kernel_rfl) _ _).trans (f14_n10111111010_eq F Rf14_j13003 v)
def f14_n101111110 (F : Nat) (kf14_j13003 : (List Int) → Option (AV × List Blk)) : Int × Int × Int × (List Int) → Option (AV × List Blk) := fun v => f14_n1011111100 F (f14_n1011111101 F kf14_j13003) kf14_j13003 v
theorem f14_n101111110_eq (F : Nat) (Rf14_j13003 : St → Option (AV × List Blk)) : ∀ v, aexec VG0114 (Af14 F) (sub (bodyOf Try.f14) [1, 0, 1, 1, 1, 1, 1, 1, 0]) (ef14_j9018 v) (kSeq (fun s => Rf14_j13003 (cutTo VG0114 (some [(6, .plain)]) s)) (kFin VG0114 none (Try.f14).results.toList)) = f14_n101111110 F (fun w => Rf14_j13003 (ef14_j13003 w)) v :=
  seq_cut (c := (sub (bodyOf Try.f14) [1, 0, 1, 1, 1, 1, 1, 1, 0])) (a := (sub (bodyOf Try.f14) [1, 0, 1, 1, 1, 1, 1, 1, 0, 0])) (b := (sub (bodyOf Try.f14) [1, 0, 1, 1, 1, 1, 1, 1, 0, 1])) (by kernel_rfl) (spec := [(3, .plain), (4, .plain), (6, .plain), (7, .plain)]) (by kernel_rfl) ef14_j9018 ef14_j10012 (kSeq (fun s => Rf14_j13003 (cutTo VG0114 (some [(6, .plain)]) s)) (kFin VG0114 none (Try.f14).results.toList)) (fun k => f14_n1011111100 F k (fun w => Rf14_j13003 (ef14_j13003 w))) (f14_n1011111101 F (fun w => Rf14_j13003 (ef14_j13003 w)))
    (fun Rf14_j10012 => f14_n1011111100_eq F Rf14_j10012 Rf14_j13003) (f14_n1011111101_eq F Rf14_j13003)
def f14_n101111111 (F : Nat) : (List Int) → Option (AV × List Blk) := fun x1 => (some ((.own 0 0 1), [(.cells x1.length (.rI .u8 x1) true)]))
theorem f14_n101111111_eq (F : Nat) : ∀ v, aexec VG0114 (Af14 F) (sub (bodyOf Try.f14) [1, 0, 1, 1, 1, 1, 1, 1, 1]) (ef14_j13003 v) (kFin VG0114 none (Try.f14).results.toList) = f14_n101111111 F v := by
  intro x1; kernel_rfl
def f14_n10111111 (F : Nat) : Int × Int × Int × (List Int) → Option (AV × List Blk) := fun v => f14_n101111110 F (f14_n101111111 F) v
theorem f14_n10111111_eq (F : Nat) : ∀ v, aexec VG0114 (Af14 F) (sub (bodyOf Try.f14) [1, 0, 1, 1, 1, 1, 1, 1]) (ef14_j9018 v) (kFin VG0114 none (Try.f14).results.toList) = f14_n10111111 F v :=
  seq_cut (c := (sub (bodyOf Try.f14) [1, 0, 1, 1, 1, 1, 1, 1])) (a := (sub (bodyOf Try.f14) [1, 0, 1, 1, 1, 1, 1, 1, 0])) (b := (sub (bodyOf Try.f14) [1, 0, 1, 1, 1, 1, 1, 1, 1])) (by kernel_rfl) (spec := [(6, .plain)]) (by kernel_rfl) ef14_j9018 ef14_j13003 (kFin VG0114 none (Try.f14).results.toList) (fun k => f14_n101111110 F k) (f14_n101111111 F)
    (fun Rf14_j13003 => f14_n101111110_eq F Rf14_j13003) (f14_n101111111_eq F)
def f14_n1011111 (F : Nat) : Int × Int × Int → Option (AV × List Blk) := fun v => f14_n10111110 F (f14_n10111111 F) v
theorem f14_n1011111_eq (F : Nat) : ∀ v, aexec VG0114 (Af14 F) (sub (bodyOf Try.f14) [1, 0, 1, 1, 1, 1, 1]) (ef14_j8020 v) (kFin VG0114 none (Try.f14).results.toList) = f14_n1011111 F v :=
  seq_cut (c := (sub (bodyOf Try.f14) [1, 0, 1, 1, 1, 1, 1])) (a := (sub (bodyOf Try.f14) [1, 0, 1, 1, 1, 1, 1, 0])) (b := (sub (bodyOf Try.f14) [1, 0, 1, 1, 1, 1, 1, 1])) (by kernel_rfl) (spec := [(3, .plain), (4, .plain), (5, .plain), (6, .plain)]) (by kernel_rfl) ef14_j8020 ef14_j9018 (kFin VG0114 none (Try.f14).results.toList) (fun k => f14_n10111110 F k) (f14_n10111111 F)
    (fun Rf14_j9018 => f14_n10111110_eq F Rf14_j9018) (f14_n10111111_eq F)
def f14_n101111 (F : Nat) : Int × Int × Int → Option (AV × List Blk) := fun v => f14_n1011110 F (f14_n1011111 F) v
theorem f14_n101111_eq (F : Nat) : ∀ v, aexec VG0114 (Af14 F) (sub (bodyOf Try.f14) [1, 0, 1, 1, 1, 1]) (ef14_j5037 v) (kFin VG0114 none (Try.f14).results.toList) = f14_n101111 F v :=
  seq_cut (c := (sub (bodyOf Try.f14) [1, 0, 1, 1, 1, 1])) (a := (sub (bodyOf Try.f14) [1, 0, 1, 1, 1, 1, 0])) (b := (sub (bodyOf Try.f14) [1, 0, 1, 1, 1, 1, 1])) (by kernel_rfl) (spec := [(3, .plain), (4, .plain), (5, .plain)]) (by kernel_rfl) ef14_j5037 ef14_j8020 (kFin VG0114 none (Try.f14).results.toList) (fun k => f14_n1011110 F k) (f14_n1011111 F)
    (fun Rf14_j8020 => f14_n1011110_eq F Rf14_j8020) (f14_n1011111_eq F)
def f14_n10111 (F : Nat) : Int × Int × Int → Option (AV × List Blk) := fun v => f14_n101110 F (f14_n101111 F) v
theorem f14_n10111_eq (F : Nat) : ∀ v, aexec VG0114 (Af14 F) (sub (bodyOf Try.f14) [1, 0, 1, 1, 1]) (ef14_j5039 v) (kFin VG0114 none (Try.f14).results.toList) = f14_n10111 F v :=
  seq_cut (c := (sub (bodyOf Try.f14) [1, 0, 1, 1, 1])) (a := (sub (bodyOf Try.f14) [1, 0, 1, 1, 1, 0])) (b := (sub (bodyOf Try.f14) [1, 0, 1, 1, 1, 1])) (by kernel_rfl) (spec := [(3, .plain), (4, .plain), (5, .plain)]) (by kernel_rfl) ef14_j5039 ef14_j5037 (kFin VG0114 none (Try.f14).results.toList) (fun k => f14_n101110 F k) (f14_n101111 F)
    (fun Rf14_j5037 => f14_n101110_eq F Rf14_j5037) (f14_n101111_eq F)
def f14_n1011 (F : Nat) : Int × Int → Option (AV × List Blk) := fun v => f14_n10110 F (f14_n10111 F) v
theorem f14_n1011_eq (F : Nat) : ∀ v, aexec VG0114 (Af14 F) (sub (bodyOf Try.f14) [1, 0, 1, 1]) (ef14_j4041 v) (kFin VG0114 none (Try.f14).results.toList) = f14_n1011 F v :=
  seq_cut (c := (sub (bodyOf Try.f14) [1, 0, 1, 1])) (a := (sub (bodyOf Try.f14) [1, 0, 1, 1, 0])) (b := (sub (bodyOf Try.f14) [1, 0, 1, 1, 1])) (by kernel_rfl) (spec := [(3, .plain), (4, .plain), (5, .plain)]) (by kernel_rfl) ef14_j4041 ef14_j5039 (kFin VG0114 none (Try.f14).results.toList) (fun k => f14_n10110 F k) (f14_n10111 F)
    (fun Rf14_j5039 => f14_n10110_eq F Rf14_j5039) (f14_n10111_eq F)
def f14_n101 (F : Nat) : Int × Int × Int → Option (AV × List Blk) := fun v => f14_n1010 F (f14_n1011 F) v
theorem f14_n101_eq (F : Nat) : ∀ v, aexec VG0114 (Af14 F) (sub (bodyOf Try.f14) [1, 0, 1]) (ef14_j2047 v) (kFin VG0114 none (Try.f14).results.toList) = f14_n101 F v :=
  seq_cut (c := (sub (bodyOf Try.f14) [1, 0, 1])) (a := (sub (bodyOf Try.f14) [1, 0, 1, 0])) (b := (sub (bodyOf Try.f14) [1, 0, 1, 1])) (by kernel_rfl) (spec := [(3, .plain), (4, .plain)]) (by kernel_rfl) ef14_j2047 ef14_j4041 (kFin VG0114 none (Try.f14).results.toList) (fun k => f14_n1010 F k) (f14_n1011 F)
    (fun Rf14_j4041 => f14_n1010_eq F Rf14_j4041) (f14_n1011_eq F)
def f14_n10 (F : Nat) : Int → Option (AV × List Blk) := fun v => f14_n100 F (f14_n101 F) v
theorem f14_n10_eq (F : Nat) : ∀ v, aexec VG0114 (Af14 F) (sub (bodyOf Try.f14) [1, 0]) (ef14_j1050 v) (kFin VG0114 none (Try.f14).results.toList) = f14_n10 F v :=
  seq_cut (c := (sub (bodyOf Try.f14) [1, 0])) (a := (sub (bodyOf Try.f14) [1, 0, 0])) (b := (sub (bodyOf Try.f14) [1, 0, 1])) (by kernel_rfl) (spec := [(0, .plain), (3, .plain), (4, .plain)]) (by kernel_rfl) ef14_j1050 ef14_j2047 (kFin VG0114 none (Try.f14).results.toList) (fun k => f14_n100 F k) (f14_n101 F)
    (fun Rf14_j2047 => f14_n100_eq F Rf14_j2047) (f14_n101_eq F)
def f14_n1 (F : Nat) : Int → Option (AV × List Blk) := f14_n10 F
theorem f14_n1_eq (F : Nat) : ∀ v, aexec VG0114 (Af14 F) (sub (bodyOf Try.f14) [1]) (ef14_j1050 v) (kFin VG0114 none (Try.f14).results.toList) = f14_n1 F v := fun v =>
  (scope_in (c := (sub (bodyOf Try.f14) [1])) (d := (sub (bodyOf Try.f14) [1, 0])) (by kernel_rfl) _ _).trans (f14_n10_eq F v)
def f14_nt (F : Nat) : Int → Option (AV × List Blk) := fun v => f14_n0 F (f14_n1 F) v
theorem f14_nt_eq (F : Nat) : ∀ v, aexec VG0114 (Af14 F) (sub (bodyOf Try.f14) []) (ef14_a v) (kFin VG0114 none (Try.f14).results.toList) = f14_nt F v :=
  seq_cut (c := (sub (bodyOf Try.f14) [])) (a := (sub (bodyOf Try.f14) [0])) (b := (sub (bodyOf Try.f14) [1])) (by kernel_rfl) (spec := [(0, .plain)]) (by kernel_rfl) ef14_a ef14_j1050 (kFin VG0114 none (Try.f14).results.toList) (fun k => f14_n0 F k) (f14_n1 F)
    (fun Rf14_j1050 => f14_n0_eq F Rf14_j1050) (f14_n1_eq F)
/-- gantry/wire.Int -/
def f14 (F : Nat) : Int → Option (AV × List Blk) := f14_nt F
theorem f14_body (F : Nat) (a0 : Int) : abody VG0114 (Af14 F) Try.f14 [(.int .i64 a0)] [] = f14 F a0 :=
  (abody_in (c := (sub (bodyOf Try.f14) [])) (by kernel_rfl) (s := ef14_a a0) (by kernel_rfl)).trans (f14_nt_eq F a0)
def r14 : CRun := fun X H => match X, H with
  | [(.int .i64 a0)], [] => some (true, (.own 0 0 1), [(.cells (Wire.int a0).length (.rI .u8 (Wire.int a0)) true)])
  | _, _ => none
theorem s14 (a0 : Int) (h0 : okV (.int .i64 a0)) : ∃ F, f14 F a0 = some ((.own 0 0 1), [(.cells (Wire.int a0).length (.rI .u8 (Wire.int a0)) true)]) := by
  have hm := Wire.mag_lt h0
  have h0' : -9223372036854775808 ≤ a0 ∧ a0 ≤ 9223372036854775807 := h0
  have hk8 := Wire.nb_le (Wire.mag a0)
  refine ⟨10, ?_⟩
  simp only [f14, f14_nt, f14_n0, f14_n1, f14_n10, f14_n100, f14_n101, f14_n1010]
  -- the number and the mask
  have key : ∀ fl : Int, fl = (if a0 < 0 then 255 else 0) → f14_n1011 10 ((Wire.mag a0 : Nat), fl) = some ((.own 0 0 1), [(.cells (Wire.int a0).length (.rI .u8 (Wire.int a0)) true)]) := by
    intro fl hfl
    simp only [f14_n1011, f14_n10110, f14_n10111, f14_n101110, f14_n101111, f14_n1011110, f14_n10111100, f14_n10111100_i]
    generalize hM : Wire.mag a0 = m at *
    refine loopN_from (fun i => ((m : Int), fl, (8 : Int) - i)) (8 - Wire.nb m) (by rfl) (fun i hi k => ?_) (fun k => ?_) 10 (by omega)
    · simp only [f14_n101111000]
      rw [i64w (x := 8 - (i : Int) - 1) (by omega) (by omega), i64w (x := 8 * (8 - (i : Int) - 1)) (by omega) (by omega), cond_pos (by omega), cond_pos (by omega),
        show min (8 * (8 - (i : Int) - 1)).toNat 64 = 8 * (7 - i) by omega, shr_nat, pow256, (Wire.nb_shift (show m < 18446744073709551616 by omega)).mpr (show Wire.nb m ≤ 7 - i by omega), cond_neg (by decide)]
      rw [show (8 : Int) - (i : Int) - 1 = 8 - ((i + 1 : Nat) : Int) by omega]
    · have hkk : (8 : Int) - ((8 - Wire.nb m : Nat) : Int) = (Wire.nb m : Int) := by omega
      rw [hkk]
      generalize hK : Wire.nb m = kk at *
      have e1 : f14_n101111000 10 k (f14_n1011111 10) ((m : Int), fl, (kk : Int)) = f14_n1011111 10 ((m : Int), fl, (kk : Int)) := by
        simp only [f14_n101111000]
        by_cases hz : kk = 0
        · rw [cond_neg (by omega)]
        · rw [i64w (x := (kk : Int) - 1) (by omega) (by omega), i64w (x := 8 * ((kk : Int) - 1)) (by omega) (by omega), cond_pos (by omega), cond_pos (by omega),
            show min (8 * ((kk : Int) - 1)).toNat 64 = 8 * (kk - 1) by omega, shr_nat, pow256]
          have : ¬ (m / 256 ^ (kk - 1) = 0) := by
            rw [Wire.nb_shift (show m < 18446744073709551616 by omega), hK]; omega
          generalize m / 256 ^ (kk - 1) = q at *
          rw [cond_pos (by omega)]
      rw [e1]
      simp only [f14_n1011111, f14_n10111110, f14_n10111111, f14_n101111110, f14_n1011111100, f14_n1011111101, f14_n10111111010, f14_n10111111010_i]
      have hd : ∀ i, ibits .xor .u8 (IntKind.u8.wrap ((m / 256 ^ i : Nat) : Int)) fl = Wire.dig a0 i := by
        intro i
        unfold Wire.dig
        rw [hM, u8mod, hfl]
        split
        · rw [xor8_255 _ (by omega) (by omega)]; omega
        · rw [xor8_0 _ (by omega) (by omega)]; omega
      have hh : ibits .xor .u8 (IntKind.u8.wrap (IntKind.i64.wrap (128 + (kk : Int)))) fl = Wire.head a0 := by
        unfold Wire.head
        rw [hM, hK, i64w (by omega) (by omega), u8w (by omega) (by omega), hfl]
        split
        · rw [xor8_255 _ (by omega) (by omega)]; omega
        · rw [xor8_0 _ (by omega) (by omega)]
      rw [hh, i64w (x := (kk : Int) - 1) (by omega) (by omega)]
      refine loopN_from (fun j => ((m : Int), fl, (kk : Int) - 1 - j, Wire.head a0 :: (List.range j).map fun j => Wire.dig a0 (kk - 1 - j))) kk (by simp) (fun j hj k' => ?_) (fun k' => ?_) 10 (by omega)
      · simp only [f14_n101111110100, List.length_cons, List.length_map, List.length_range]
        rw [i64w (x := 8 * ((kk : Int) - 1 - j)) (by omega) (by omega), i64w (x := (kk : Int) - 1 - (j : Int) - 1) (by omega) (by omega), cond_pos (by omega), cond_pos (by omega), cond_pos (by omega),
          show min (8 * ((kk : Int) - 1 - j)).toNat 64 = 8 * (kk - 1 - j) by omega, shr_nat, pow256, hd, List.range_succ, List.map_append]
        rw [show (kk : Int) - 1 - (j : Int) - 1 = (kk : Int) - 1 - ((j + 1 : Nat) : Int) by omega]
        rfl
      · simp only [f14_n101111110100]
        rw [cond_neg (by omega)]
        simp only [f14_n101111111]
        have : Wire.int a0 = Wire.head a0 :: (List.range kk).map fun j => Wire.dig a0 (kk - 1 - j) := by unfold Wire.int; rw [hM, hK]
        rw [this]
  by_cases hn : a0 < 0
  · rw [cond_pos hn]
    have : ibits .xor .u64 (18446744073709551615 : Int) (IntKind.u64.wrap a0) = ((Wire.mag a0 : Nat) : Int) := by
      rw [not64 _ (by rw [u64mod]; omega) (by rw [u64mod]; omega), u64mod]
      unfold Wire.mag; rw [if_pos hn]; omega
    rw [this]
    exact key 255 (by rw [if_pos hn])
  · rw [cond_neg hn]
    have : IntKind.u64.wrap a0 = ((Wire.mag a0 : Nat) : Int) := by
      rw [u64w (by omega) (by omega)]; unfold Wire.mag; rw [if_neg hn]; omega
    rw [this]
    exact key 0 (by rw [if_neg hn])

theorem c14 : CallOk Try.prog G01 14 r14 := callOk_of (V := VG0114) mixed tys eVG0114 (f := 14) (fn := Try.f14) Try.func14 (by kernel_rfl) (c := sub (bodyOf Try.f14) []) (by kernel_rfl) (by
  intro X H r H' h hX hH
  unfold r14 at h; split at h <;> try contradiction
  simp only [Option.some.injEq, Prod.mk.injEq] at h
  obtain ⟨hp, rfl, rfl⟩ := h
  obtain ⟨F, hF⟩ := s14 _ (hX _ (.head _))
  exact ⟨Af14 F, (f14_body F _).trans hF⟩)
/-! gantry/gantryref01.Int -/
def lVG0115 : List CEnt := []
def VG0115 : Env := mkEnv T01 G01 lVG0115
theorem eVG0115 : EOk Try.prog VG0115 := eok_mk (by exact trivial)
def Af15 (F : Nat) : Cuts := { F := F, at_ := fun n => match n with | 5010 => some [(0, .plain), (3, .plain), (4, .own 5)] | 14018 => some [(0, .plain), (4, .plain), (6, .plain), (7, .plain)] | _ => none, join := fun n => match n with | 1059 => some [(0, .plain)] | 2057 => some [(0, .plain), (3, .plain)] | 4051 => some [(0, .plain), (3, .plain)] | 5049 => some [(0, .plain), (3, .plain), (4, .plain)] | 8036 => some [(0, .plain), (4, .plain)] | 9034 => some [(0, .plain), (4, .plain), (5, .plain)] | 10032 => some [(0, .plain), (4, .plain), (5, .plain), (6, .plain)] | 13026 => some [(0, .plain), (4, .plain), (5, .plain), (6, .plain)] | 14020 => some [(0, .plain), (4, .plain), (6, .plain), (7, .plain)] | 20003 => some [(6, .plain)] | _ => none }
def ef15_a : Int → St := fun a0 => { tmps := [(0, (.int .i64 a0))], heap := [], next := 0, nt := 59, m := 0 }
def ef15_j1059 : Int → St := fun t0 => { tmps := [(0, (.int .i64 t0))], heap := [], next := 0, nt := 59, m := 0 }
def ef15_j2057 : Int × Int → St := fun (t0, t3) => { tmps := [(0, (.int .i64 t0)), (3, (.int .i64 t3))], heap := [], next := 0, nt := 59, m := 0 }
def ef15_j4051 : Int × Int → St := fun (t0, t3) => { tmps := [(0, (.int .i64 t0)), (3, (.int .i64 t3))], heap := [], next := 0, nt := 59, m := 0 }
def ef15_j5049 : Int × Int → St := fun (t0, t3) => { tmps := [(0, (.int .i64 t0)), (3, (.int .i64 t3)), (4, .ns)], heap := [], next := 0, nt := 59, m := 0 }
def ef15_l5010 : Int × Int × (List Int) → St := fun (t0, t3, x3) => { tmps := [(0, (.int .i64 t0)), (3, (.int .i64 t3)), (4, (.own 0 0 1))], heap := [(0, (.cells x3.length (.rI .u8 x3) true))], next := 1, nt := 59, m := 0 }
def ef15_j8036 : Int × (List Int) → St := fun (t0, x2) => { tmps := [(0, (.int .i64 t0)), (4, (.own 0 0 1))], heap := [(0, (.cells x2.length (.rI .u8 x2) true))], next := 1, nt := 59, m := 0 }
def ef15_j9034 : Int × Int × (List Int) → St := fun (t0, t5, x3) => { tmps := [(0, (.int .i64 t0)), (4, (.own 0 0 1)), (5, (.int .i64 t5))], heap := [(0, (.cells x3.length (.rI .u8 x3) true))], next := 1, nt := 59, m := 0 }
def ef15_j10032 : Int × Int × (List Int) → St := fun (t0, t5, x3) => { tmps := [(0, (.int .i64 t0)), (4, (.own 0 0 1)), (5, (.int .i64 t5)), (6, .ns)], heap := [(0, (.cells x3.length (.rI .u8 x3) true))], next := 1, nt := 59, m := 0 }
def ef15_j13026 : Int × Int × (List Int) × (List Int) → St := fun (t0, t5, x3, x4) => { tmps := [(0, (.int .i64 t0)), (4, (.own 0 0 1)), (5, (.int .i64 t5)), (6, (.own 1 0 1))], heap := [(0, (.cells x3.length (.rI .u8 x3) true)), (1, (.cells x4.length (.rI .u8 x4) true))], next := 2, nt := 59, m := 0 }
def ef15_j14020 : Int × Int × (List Int) × (List Int) → St := fun (t0, t7, x3, x4) => { tmps := [(0, (.int .i64 t0)), (4, (.own 0 0 1)), (6, (.own 1 0 1)), (7, (.int .i64 t7))], heap := [(0, (.cells x3.length (.rI .u8 x3) true)), (1, (.cells x4.length (.rI .u8 x4) true))], next := 2, nt := 59, m := 0 }
def ef15_l14018 : Int × Int × (List Int) × (List Int) → St := fun (t0, t7, x3, x4) => { tmps := [(0, (.int .i64 t0)), (4, (.own 0 0 1)), (6, (.own 1 0 1)), (7, (.int .i64 t7))], heap := [(0, (.cells x3.length (.rI .u8 x3) true)), (1, (.cells x4.length (.rI .u8 x4) true))], next := 2, nt := 59, m := 0 }
def ef15_j20003 : (List Int) → St := fun x1 => { tmps := [(6, (.own 0 0 1))], heap := [(0, (.cells x1.length (.rI .u8 x1) true))], next := 1, nt := 59, m := 0 }
def f15_n0 (F : Nat) (kf15_j1059 : Int → Option (AV × List Blk)) : Int → Option (AV × List Blk) := fun a0 => (kf15_j1059 a0)
theorem f15_n0_eq (F : Nat) (Rf15_j1059 : St → Option (AV × List Blk)) : ∀ v, aexec VG0115 (Af15 F) (sub (bodyOf Try.f15) [0]) (ef15_a v) (kSeq (fun s => Rf15_j1059 (cutTo VG0115 (some [(0, .plain)]) s)) (kFin VG0115 none (Try.f15).results.toList)) = f15_n0 F (fun w => Rf15_j1059 (ef15_j1059 w)) v := by
  intro a0; kernel_rfl
def f15_n10 (F : Nat) (kf15_j2057 : Int × Int → Option (AV × List Blk)) : Int → Option (AV × List Blk) := fun t0 => (kf15_j2057 (t0, t0))
theorem f15_n10_eq (F : Nat) (Rf15_j2057 : St → Option (AV × List Blk)) : ∀ v, aexec VG0115 (Af15 F) (sub (bodyOf Try.f15) [1, 0]) (ef15_j1059 v) (kSeq (fun s => Rf15_j2057 (cutTo VG0115 (some [(0, .plain), (3, .plain)]) s)) (kFin VG0115 none (Try.f15).results.toList)) = f15_n10 F (fun w => Rf15_j2057 (ef15_j2057 w)) v := by
  intro t0; kernel_rfl
def f15_n110 (F : Nat) (kf15_j4051 : Int × Int → Option (AV × List Blk)) : Int × Int → Option (AV × List Blk) := fun (t0, t3) => (cond (decide (t0 < (0 : Int))) (kf15_j4051 (t0, (IntKind.i64.wrap ((-1 : Int) - t0)))) (kf15_j4051 (t0, t3)))
theorem f15_n110_eq (F : Nat) (Rf15_j4051 : St → Option (AV × List Blk)) : ∀ v, aexec VG0115 (Af15 F) (sub (bodyOf Try.f15) [1, 1, 0]) (ef15_j2057 v) (kSeq (fun s => Rf15_j4051 (cutTo VG0115 (some [(0, .plain), (3, .plain)]) s)) (kFin VG0115 none (Try.f15).results.toList)) = f15_n110 F (fun w => Rf15_j4051 (ef15_j4051 w)) v := by
  rintro ⟨t0, t3⟩; kernel_rfl
def f15_n1110 (F : Nat) (kf15_j5049 : Int × Int → Option (AV × List Blk)) : Int × Int → Option (AV × List Blk) := fun (t0, t3) => (kf15_j5049 (t0, t3))
theorem f15_n1110_eq (F : Nat) (Rf15_j5049 : St → Option (AV × List Blk)) : ∀ v, aexec VG0115 (Af15 F) (sub (bodyOf Try.f15) [1, 1, 1, 0]) (ef15_j4051 v) (kSeq (fun s => Rf15_j5049 (cutTo VG0115 (some [(0, .plain), (3, .plain), (4, .plain)]) s)) (kFin VG0115 none (Try.f15).results.toList)) = f15_n1110 F (fun w => Rf15_j5049 (ef15_j5049 w)) v := by
  rintro ⟨t0, t3⟩; kernel_rfl
def f15_n1111000 (F : Nat) (kf15_l5010 : Int × Int × (List Int) → Option (AV × List Blk)) (kf15_j8036 : Int × (List Int) → Option (AV × List Blk)) : Int × Int × (List Int) → Option (AV × List Blk) := fun (t0, t3, x3) => (cond (decide (t3 > (0 : Int))) (cond (decide ((x3.length + 1) < 1073741824)) (kf15_l5010 (t0, (IntKind.i64.wrap (Int.tdiv t3 (256 : Int))), (x3 ++ [(IntKind.u8.wrap (Int.tmod t3 (256 : Int)))]))) none) (kf15_j8036 (t0, x3)))
theorem f15_n1111000_eq (F : Nat) (Rf15_l5010 : St → Option (AV × List Blk)) (Rf15_j8036 : St → Option (AV × List Blk)) : ∀ v, aexec VG0115 (Af15 F) (sub (bodyOf Try.f15) [1, 1, 1, 1, 0, 0, 0]) (ef15_l5010 v) (kSeq (fun s => Rf15_l5010 (cutTo VG0115 (some [(0, .plain), (3, .plain), (4, .own 5)]) s)) (kBlock 0 (kSeq (fun s => Rf15_j8036 (cutTo VG0115 (some [(0, .plain), (4, .plain)]) s)) (kFin VG0115 none (Try.f15).results.toList)))) = f15_n1111000 F (fun w => Rf15_l5010 (ef15_l5010 w)) (fun w => Rf15_j8036 (ef15_j8036 w)) v := by
  rintro ⟨t0, t3, x3⟩; kernel_rfl
def f15_n111100_i : Int × Int → Int × Int × (List Int) := fun (t0, t3) => (t0, t3, [])
def f15_n111100 (F : Nat) (kf15_j8036 : Int × (List Int) → Option (AV × List Blk)) : Int × Int → Option (AV × List Blk) := fun v => loopN (fun k => f15_n1111000 F k kf15_j8036) F (f15_n111100_i v)
theorem f15_n111100_eq (F : Nat) (Rf15_j8036 : St → Option (AV × List Blk)) : ∀ v, aexec VG0115 (Af15 F) (sub (bodyOf Try.f15) [1, 1, 1, 1, 0, 0]) (ef15_j5049 v) (kBlock 0 (kSeq (fun s => Rf15_j8036 (cutTo VG0115 (some [(0, .plain), (4, .plain)]) s)) (kFin VG0115 none (Try.f15).results.toList))) = f15_n111100 F (fun w => Rf15_j8036 (ef15_j8036 w)) v :=
  loop_cut (c := (sub (bodyOf Try.f15) [1, 1, 1, 1, 0, 0])) (d := (sub (bodyOf Try.f15) [1, 1, 1, 1, 0, 0, 0])) (by kernel_rfl) (spec := [(0, .plain), (3, .plain), (4, .own 5)]) (by kernel_rfl) ef15_j5049 ef15_l5010 (kBlock 0 (kSeq (fun s => Rf15_j8036 (cutTo VG0115 (some [(0, .plain), (4, .plain)]) s)) (kFin VG0115 none (Try.f15).results.toList))) f15_n111100_i (fun k => f15_n1111000 F k (fun w => Rf15_j8036 (ef15_j8036 w)))
    (by rintro ⟨t0, t3⟩; kernel_rfl) (fun Rf15_l5010 => f15_n1111000_eq F Rf15_l5010 Rf15_j8036)
def f15_n11110 (F : Nat) (kf15_j8036 : Int × (List Int) → Option (AV × List Blk)) : Int × Int → Option (AV × List Blk) := f15_n111100 F kf15_j8036
theorem f15_n11110_eq (F : Nat) (Rf15_j8036 : St → Option (AV × List Blk)) : ∀ v, aexec VG0115 (Af15 F) (sub (bodyOf Try.f15) [1, 1, 1, 1, 0]) (ef15_j5049 v) (kSeq (fun s => Rf15_j8036 (cutTo VG0115 (some [(0, .plain), (4, .plain)]) s)) (kFin VG0115 none (Try.f15).results.toList)) = f15_n11110 F (fun w => Rf15_j8036 (ef15_j8036 w)) v := fun v =>
  (block_in (c := (sub (bodyOf Try.f15) [1, 1, 1, 1, 0])) (d := (sub (bodyOf Try.f15) [1, 1, 1, 1, 0, 0])) (id := 0) (by kernel_rfl) _ _).trans (f15_n111100_eq F Rf15_j8036 v)
def f15_n111110 (F : Nat) (kf15_j9034 : Int × Int × (List Int) → Option (AV × List Blk)) : Int × (List Int) → Option (AV × List Blk) := fun (t0, x2) => (kf15_j9034 (t0, (↑x2.length : Int), x2))
theorem f15_n111110_eq (F : Nat) (Rf15_j9034 : St → Option (AV × List Blk)) : ∀ v, aexec VG0115 (Af15 F) (sub (bodyOf Try.f15) [1, 1, 1, 1, 1, 0]) (ef15_j8036 v) (kSeq (fun s => Rf15_j9034 (cutTo VG0115 (some [(0, .plain), (4, .plain), (5, .plain)]) s)) (kFin VG0115 none (Try.f15).results.toList)) = f15_n111110 F (fun w => Rf15_j9034 (ef15_j9034 w)) v := by
  rintro ⟨t0, x2⟩; kernel_rfl
def f15_n1111110 (F : Nat) (kf15_j10032 : Int × Int × (List Int) → Option (AV × List Blk)) : Int × Int × (List Int) → Option (AV × List Blk) := fun (t0, t5, x3) => (kf15_j10032 (t0, t5, x3))
theorem f15_n1111110_eq (F : Nat) (Rf15_j10032 : St → Option (AV × List Blk)) : ∀ v, aexec VG0115 (Af15 F) (sub (bodyOf Try.f15) [1, 1, 1, 1, 1, 1, 0]) (ef15_j9034 v) (kSeq (fun s => Rf15_j10032 (cutTo VG0115 (some [(0, .plain), (4, .plain), (5, .plain), (6, .plain)]) s)) (kFin VG0115 none (Try.f15).results.toList)) = f15_n1111110 F (fun w => Rf15_j10032 (ef15_j10032 w)) v := by
  rintro ⟨t0, t5, x3⟩; kernel_rfl
def f15_n11111110 (F : Nat) (kf15_j13026 : Int × Int × (List Int) × (List Int) → Option (AV × List Blk)) : Int × Int × (List Int) → Option (AV × List Blk) := fun (t0, t5, x3) => (cond (decide (t0 ≥ (0 : Int))) (kf15_j13026 (t0, t5, x3, [(IntKind.u8.wrap (IntKind.i64.wrap ((128 : Int) + t5)))])) (kf15_j13026 (t0, t5, x3, [(IntKind.u8.wrap (IntKind.i64.wrap ((127 : Int) - t5)))])))
theorem f15_n11111110_eq (F : Nat) (Rf15_j13026 : St → Option (AV × List Blk)) : ∀ v, aexec VG0115 (Af15 F) (sub (bodyOf Try.f15) [1, 1, 1, 1, 1, 1, 1, 0]) (ef15_j10032 v) (kSeq (fun s => Rf15_j13026 (cutTo VG0115 (some [(0, .plain), (4, .plain), (5, .plain), (6, .plain)]) s)) (kFin VG0115 none (Try.f15).results.toList)) = f15_n11111110 F (fun w => Rf15_j13026 (ef15_j13026 w)) v := by
  rintro ⟨t0, t5, x3⟩; kernel_rfl
def f15_n1111111100 (F : Nat) (kf15_j14020 : Int × Int × (List Int) × (List Int) → Option (AV × List Blk)) (kf15_j20003 : (List Int) → Option (AV × List Blk)) : Int × Int × (List Int) × (List Int) → Option (AV × List Blk) := fun (t0, t5, x3, x4) => (kf15_j14020 (t0, (IntKind.i64.wrap (t5 - (1 : Int))), x3, x4))
theorem f15_n1111111100_eq (F : Nat) (Rf15_j14020 : St → Option (AV × List Blk)) (Rf15_j20003 : St → Option (AV × List Blk)) : ∀ v, aexec VG0115 (Af15 F) (sub (bodyOf Try.f15) [1, 1, 1, 1, 1, 1, 1, 1, 0, 0]) (ef15_j13026 v) (kSeq (fun s => Rf15_j14020 (cutTo VG0115 (some [(0, .plain), (4, .plain), (6, .plain), (7, .plain)]) s)) (kSeq (fun s => Rf15_j20003 (cutTo VG0115 (some [(6, .plain)]) s)) (kFin VG0115 none (Try.f15).results.toList))) = f15_n1111111100 F (fun w => Rf15_j14020 (ef15_j14020 w)) (fun w => Rf15_j20003 (ef15_j20003 w)) v := by
  rintro ⟨t0, t5, x3, x4⟩; kernel_rfl
def f15_n111111110100 (F : Nat) (kf15_l14018 : Int × Int × (List Int) × (List Int) → Option (AV × List Blk)) (kf15_j20003 : (List Int) → Option (AV × List Blk)) : Int × Int × (List Int) × (List Int) → Option (AV × List Blk) := fun (t0, t7, x3, x4) => (cond (decide (t7 ≥ (0 : Int))) (cond ((decide (0 ≤ t7)) && (decide (t7 < (↑x3.length : Int)))) (cond (decide (t0 < (0 : Int))) (cond (decide ((x4.length + 1) < 1073741824)) (kf15_l14018 (t0, (IntKind.i64.wrap (t7 - (1 : Int))), x3, (x4 ++ [(IntKind.u8.wrap ((255 : Int) - (x3.getD (Int.toNat t7) 0)))]))) none) (cond (decide ((x4.length + 1) < 1073741824)) (kf15_l14018 (t0, (IntKind.i64.wrap (t7 - (1 : Int))), x3, (x4 ++ [(x3.getD (Int.toNat t7) 0)]))) none)) none) (kf15_j20003 x4))
theorem f15_n111111110100_eq (F : Nat) (Rf15_l14018 : St → Option (AV × List Blk)) (Rf15_j20003 : St → Option (AV × List Blk)) : ∀ v, aexec VG0115 (Af15 F) (sub (bodyOf Try.f15) [1, 1, 1, 1, 1, 1, 1, 1, 0, 1, 0, 0]) (ef15_l14018 v) (kSeq (fun s => Rf15_l14018 (cutTo VG0115 (some [(0, .plain), (4, .plain), (6, .plain), (7, .plain)]) s)) (kBlock 2 (kSeq (fun s => Rf15_j20003 (cutTo VG0115 (some [(6, .plain)]) s)) (kFin VG0115 none (Try.f15).results.toList)))) = f15_n111111110100 F (fun w => Rf15_l14018 (ef15_l14018 w)) (fun w => Rf15_j20003 (ef15_j20003 w)) v := by
  rintro ⟨t0, t7, x3, x4⟩; kernel_rfl
def f15_n11111111010_i : Int × Int × (List Int) × (List Int) → Int × Int × (List Int) × (List Int) := fun (t0, t7, x3, x4) => (t0, t7, x3, x4)
def f15_n11111111010 (F : Nat) (kf15_j20003 : (List Int) → Option (AV × List Blk)) : Int × Int × (List Int) × (List Int) → Option (AV × List Blk) := fun v => loopN (fun k => f15_n111111110100 F k kf15_j20003) F (f15_n11111111010_i v)
theorem f15_n11111111010_eq (F : Nat) (Rf15_j20003 : St → Option (AV × List Blk)) : ∀ v, aexec VG0115 (Af15 F) (sub (bodyOf Try.f15) [1, 1, 1, 1, 1, 1, 1, 1, 0, 1, 0]) (ef15_j14020 v) (kBlock 2 (kSeq (fun s => Rf15_j20003 (cutTo VG0115 (some [(6, .plain)]) s)) (kFin VG0115 none (Try.f15).results.toList))) = f15_n11111111010 F (fun w => Rf15_j20003 (ef15_j20003 w)) v :=
  loop_cut (c := (sub (bodyOf Try.f15) [1, 1, 1, 1, 1, 1, 1, 1, 0, 1, 0])) (d := (sub (bodyOf Try.f15) [1, 1, 1, 1, 1, 1, 1, 1, 0, 1, 0, 0])) (by kernel_rfl) (spec := [(0, .plain), (4, .plain), (6, .plain), (7, .plain)]) (by kernel_rfl) ef15_j14020 ef15_l14018 (kBlock 2 (kSeq (fun s => Rf15_j20003 (cutTo VG0115 (some [(6, .plain)]) s)) (kFin VG0115 none (Try.f15).results.toList))) f15_n11111111010_i (fun k => f15_n111111110100 F k (fun w => Rf15_j20003 (ef15_j20003 w)))
    (by rintro ⟨t0, t7, x3, x4⟩; kernel_rfl) (fun Rf15_l14018 => f15_n111111110100_eq F Rf15_l14018 Rf15_j20003)
def f15_n1111111101 (F : Nat) (kf15_j20003 : (List Int) → Option (AV × List Blk)) : Int × Int × (List Int) × (List Int) → Option (AV × List Blk) := f15_n11111111010 F kf15_j20003
theorem f15_n1111111101_eq (F : Nat) (Rf15_j20003 : St → Option (AV × List Blk)) : ∀ v, aexec VG0115 (Af15 F) (sub (bodyOf Try.f15) [1, 1, 1, 1, 1, 1, 1, 1, 0, 1]) (ef15_j14020 v) (kSeq (fun s => Rf15_j20003 (cutTo VG0115 (some [(6, .plain)]) s)) (kFin VG0115 none (Try.f15).results.toList)) = f15_n1111111101 F (fun w => Rf15_j20003 (ef15_j20003 w)) v := fun v =>
  (block_in (c := (sub (bodyOf Try.f15) [1, 1, 1, 1, 1, 1, 1, 1, 0, 1])) (d := (sub (bodyOf Try.f15) [1, 1, 1, 1, 1, 1, 1, 1, 0, 1, 0])) (id := 2) (by kernel_rfl) _ _).trans (f15_n11111111010_eq F Rf15_j20003 v)
def f15_n111111110 (F : Nat) (kf15_j20003 : (List Int) → Option (AV × List Blk)) : Int × Int × (List Int) × (List Int) → Option (AV × List Blk) := fun v => f15_n1111111100 F (f15_n1111111101 F kf15_j20003) kf15_j20003 v
theorem f15_n111111110_eq (F : Nat) (Rf15_j20003 : St → Option (AV × List Blk)) : ∀ v, aexec VG0115 (Af15 F) (sub (bodyOf Try.f15) [1, 1, 1, 1, 1, 1, 1, 1, 0]) (ef15_j13026 v) (kSeq (fun s => Rf15_j20003 (cutTo VG0115 (some [(6, .plain)]) s)) (kFin VG0115 none (Try.f15).results.toList)) = f15_n111111110 F (fun w => Rf15_j20003 (ef15_j20003 w)) v :=
  seq_cut (c := (sub (bodyOf Try.f15) [1, 1, 1, 1, 1, 1, 1, 1, 0])) (a := (sub (bodyOf Try.f15) [1, 1, 1, 1, 1, 1, 1, 1, 0, 0])) (b := (sub (bodyOf Try.f15) [1, 1, 1, 1, 1, 1, 1, 1, 0, 1])) (by kernel_rfl) (spec := [(0, .plain), (4, .plain), (6, .plain), (7, .plain)]) (by kernel_rfl) ef15_j13026 ef15_j14020 (kSeq (fun s => Rf15_j20003 (cutTo VG0115 (some [(6, .plain)]) s)) (kFin VG0115 none (Try.f15).results.toList)) (fun k => f15_n1111111100 F k (fun w => Rf15_j20003 (ef15_j20003 w))) (f15_n1111111101 F (fun w => Rf15_j20003 (ef15_j20003 w)))
    (fun Rf15_j14020 => f15_n1111111100_eq F Rf15_j14020 Rf15_j20003) (f15_n1111111101_eq F Rf15_j20003)
def f15_n111111111 (F : Nat) : (List Int) → Option (AV × List Blk) := fun x1 => (some ((.own 0 0 1), [(.cells x1.length (.rI .u8 x1) true)]))
theorem f15_n111111111_eq (F : Nat) : ∀ v, aexec VG0115 (Af15 F) (sub (bodyOf Try.f15) [1, 1, 1, 1, 1, 1, 1, 1, 1]) (ef15_j20003 v) (kFin VG0115 none (Try.f15).results.toList) = f15_n111111111 F v := by
  intro x1; kernel_rfl
def f15_n11111111 (F : Nat) : Int × Int × (List Int) × (List Int) → Option (AV × List Blk) := fun v => f15_n111111110 F (f15_n111111111 F) v
theorem f15_n11111111_eq (F : Nat) : ∀ v, aexec VG0115 (Af15 F) (sub (bodyOf Try.f15) [1, 1, 1, 1, 1, 1, 1, 1]) (ef15_j13026 v) (kFin VG0115 none (Try.f15).results.toList) = f15_n11111111 F v :=
  seq_cut (c := (sub (bodyOf Try.f15) [1, 1, 1, 1, 1, 1, 1, 1])) (a := (sub (bodyOf Try.f15) [1, 1, 1, 1, 1, 1, 1, 1, 0])) (b := (sub (bodyOf Try.f15) [1, 1, 1, 1, 1, 1, 1, 1, 1])) (by kernel_rfl) (spec := [(6, .plain)]) (by kernel_rfl) ef15_j13026 ef15_j20003 (kFin VG0115 none (Try.f15).results.toList) (fun k => f15_n111111110 F k) (f15_n111111111 F)
    (fun Rf15_j20003 => f15_n111111110_eq F Rf15_j20003) (f15_n111111111_eq F)
def f15_n1111111 (F : Nat) : Int × Int × (List Int) → Option (AV × List Blk) := fun v => f15_n11111110 F (f15_n11111111 F) v
theorem f15_n1111111_eq (F : Nat) : ∀ v, aexec VG0115 (Af15 F) (sub (bodyOf Try.f15) [1, 1, 1, 1, 1, 1, 1]) (ef15_j10032 v) (kFin VG0115 none (Try.f15).results.toList) = f15_n1111111 F v :=
  seq_cut (c := (sub (bodyOf Try.f15) [1, 1, 1, 1, 1, 1, 1])) (a := (sub (bodyOf Try.f15) [1, 1, 1, 1, 1, 1, 1, 0])) (b := (sub (bodyOf Try.f15) [1, 1, 1, 1, 1, 1, 1, 1])) (by kernel_rfl) (spec := [(0, .plain), (4, .plain), (5, .plain), (6, .plain)]) (by kernel_rfl) ef15_j10032 ef15_j13026 (kFin VG0115 none (Try.f15).results.toList) (fun k => f15_n11111110 F k) (f15_n11111111 F)
    (fun Rf15_j13026 => f15_n11111110_eq F Rf15_j13026) (f15_n11111111_eq F)
def f15_n111111 (F : Nat) : Int × Int × (List Int) → Option (AV × List Blk) := fun v => f15_n1111110 F (f15_n1111111 F) v
theorem f15_n111111_eq (F : Nat) : ∀ v, aexec VG0115 (Af15 F) (sub (bodyOf Try.f15) [1, 1, 1, 1, 1, 1]) (ef15_j9034 v) (kFin VG0115 none (Try.f15).results.toList) = f15_n111111 F v :=
  seq_cut (c := (sub (bodyOf Try.f15) [1, 1, 1, 1, 1, 1])) (a := (sub (bodyOf Try.f15) [1, 1, 1, 1, 1, 1, 0])) (b := (sub (bodyOf Try.f15) [1, 1, 1, 1, 1, 1, 1])) (by kernel_rfl) (spec := [(0, .plain), (4, .plain), (5, .plain), (6, .plain)]) (by kernel_rfl) ef15_j9034 ef15_j10032 (kFin VG0115 none (Try.f15).results.toList) (fun k => f15_n1111110 F k) (f15_n1111111 F)
    (fun Rf15_j10032 => f15_n1111110_eq F Rf15_j10032) (f15_n1111111_eq F)
def f15_n11111 (F : Nat) : Int × (List Int) → Option (AV × List Blk) := fun v => f15_n111110 F (f15_n111111 F) v
theorem f15_n11111_eq (F : Nat) : ∀ v, aexec VG0115 (Af15 F) (sub (bodyOf Try.f15) [1, 1, 1, 1, 1]) (ef15_j8036 v) (kFin VG0115 none (Try.f15).results.toList) = f15_n11111 F v :=
  seq_cut (c := (sub (bodyOf Try.f15) [1, 1, 1, 1, 1])) (a := (sub (bodyOf Try.f15) [1, 1, 1, 1, 1, 0])) (b := (sub (bodyOf Try.f15) [1, 1, 1, 1, 1, 1])) (by kernel_rfl) (spec := [(0, .plain), (4, .plain), (5, .plain)]) (by kernel_rfl) ef15_j8036 ef15_j9034 (kFin VG0115 none (Try.f15).results.toList) (fun k => f15_n111110 F k) (f15_n111111 F)
    (fun Rf15_j9034 => f15_n111110_eq F Rf15_j9034) (f15_n111111_eq F)
def f15_n1111 (F : Nat) : Int × Int → Option (AV × List Blk) := fun v => f15_n11110 F (f15_n11111 F) v
theorem f15_n1111_eq (F : Nat) : ∀ v, aexec VG0115 (Af15 F) (sub (bodyOf Try.f15) [1, 1, 1, 1]) (ef15_j5049 v) (kFin VG0115 none (Try.f15).results.toList) = f15_n1111 F v :=
  seq_cut (c := (sub (bodyOf Try.f15) [1, 1, 1, 1])) (a := (sub (bodyOf Try.f15) [1, 1, 1, 1, 0])) (b := (sub (bodyOf Try.f15) [1, 1, 1, 1, 1])) (by kernel_rfl) (spec := [(0, .plain), (4, .plain)]) (by kernel_rfl) ef15_j5049 ef15_j8036 (kFin VG0115 none (Try.f15).results.toList) (fun k => f15_n11110 F k) (f15_n11111 F)
    (fun Rf15_j8036 => f15_n11110_eq F Rf15_j8036) (f15_n11111_eq F)
def f15_n111 (F : Nat) : Int × Int → Option (AV × List Blk) := fun v => f15_n1110 F (f15_n1111 F) v
theorem f15_n111_eq (F : Nat) : ∀ v, aexec VG0115 (Af15 F) (sub (bodyOf Try.f15) [1, 1, 1]) (ef15_j4051 v) (kFin VG0115 none (Try.f15).results.toList) = f15_n111 F v :=
  seq_cut (c := (sub (bodyOf Try.f15) [1, 1, 1])) (a := (sub (bodyOf Try.f15) [1, 1, 1, 0])) (b := (sub (bodyOf Try.f15) [1, 1, 1, 1])) (by kernel_rfl) (spec := [(0, .plain), (3, .plain), (4, .plain)]) (by kernel_rfl) ef15_j4051 ef15_j5049 (kFin VG0115 none (Try.f15).results.toList) (fun k => f15_n1110 F k) (f15_n1111 F)
    (fun Rf15_j5049 => f15_n1110_eq F Rf15_j5049) (f15_n1111_eq F)
def f15_n11 (F : Nat) : Int × Int → Option (AV × List Blk) := fun v => f15_n110 F (f15_n111 F) v
theorem f15_n11_eq (F : Nat) : ∀ v, aexec VG0115 (Af15 F) (sub (bodyOf Try.f15) [1, 1]) (ef15_j2057 v) (kFin VG0115 none (Try.f15).results.toList) = f15_n11 F v :=
  seq_cut (c := (sub (bodyOf Try.f15) [1, 1])) (a := (sub (bodyOf Try.f15) [1, 1, 0])) (b := (sub (bodyOf Try.f15) [1, 1, 1])) (by kernel_rfl) (spec := [(0, .plain), (3, .plain)]) (by kernel_rfl) ef15_j2057 ef15_j4051 (kFin VG0115 none (Try.f15).results.toList) (fun k => f15_n110 F k) (f15_n111 F)
    (fun Rf15_j4051 => f15_n110_eq F Rf15_j4051) (f15_n111_eq F)
def f15_n1 (F : Nat) : Int → Option (AV × List Blk) := fun v => f15_n10 F (f15_n11 F) v
theorem f15_n1_eq (F : Nat) : ∀ v, aexec VG0115 (Af15 F) (sub (bodyOf Try.f15) [1]) (ef15_j1059 v) (kFin VG0115 none (Try.f15).results.toList) = f15_n1 F v :=
  seq_cut (c := (sub (bodyOf Try.f15) [1])) (a := (sub (bodyOf Try.f15) [1, 0])) (b := (sub (bodyOf Try.f15) [1, 1])) (by kernel_rfl) (spec := [(0, .plain), (3, .plain)]) (by kernel_rfl) ef15_j1059 ef15_j2057 (kFin VG0115 none (Try.f15).results.toList) (fun k => f15_n10 F k) (f15_n11 F)
    (fun Rf15_j2057 => f15_n10_eq F Rf15_j2057) (f15_n11_eq F)
def f15_nt (F : Nat) : Int → Option (AV × List Blk) := fun v => f15_n0 F (f15_n1 F) v
theorem f15_nt_eq (F : Nat) : ∀ v, aexec VG0115 (Af15 F) (sub (bodyOf Try.f15) []) (ef15_a v) (kFin VG0115 none (Try.f15).results.toList) = f15_nt F v :=
  seq_cut (c := (sub (bodyOf Try.f15) [])) (a := (sub (bodyOf Try.f15) [0])) (b := (sub (bodyOf Try.f15) [1])) (by kernel_rfl) (spec := [(0, .plain)]) (by kernel_rfl) ef15_a ef15_j1059 (kFin VG0115 none (Try.f15).results.toList) (fun k => f15_n0 F k) (f15_n1 F)
    (fun Rf15_j1059 => f15_n0_eq F Rf15_j1059) (f15_n1_eq F)
/-- gantry/gantryref01.Int -/
def f15 (F : Nat) : Int → Option (AV × List Blk) := f15_nt F
theorem f15_body (F : Nat) (a0 : Int) : abody VG0115 (Af15 F) Try.f15 [(.int .i64 a0)] [] = f15 F a0 :=
  (abody_in (c := (sub (bodyOf Try.f15) [])) (by kernel_rfl) (s := ef15_a a0) (by kernel_rfl)).trans (f15_nt_eq F a0)
def r15 : CRun := fun X H => match X, H with
  | [(.int .i64 a0)], [] => some (true, (.own 0 0 1), [(.cells (Wire.int a0).length (.rI .u8 (Wire.int a0)) true)])
  | _, _ => none
theorem s15 (a0 : Int) (h0 : okV (.int .i64 a0)) : ∃ F, f15 F a0 = some ((.own 0 0 1), [(.cells (Wire.int a0).length (.rI .u8 (Wire.int a0)) true)]) := by
  have hm := Wire.mag_lt h0
  have h0' : -9223372036854775808 ≤ a0 ∧ a0 ≤ 9223372036854775807 := h0
  have hk8 := Wire.nb_le (Wire.mag a0)
  refine ⟨10, ?_⟩
  simp only [f15, f15_nt, f15_n0, f15_n1, f15_n10, f15_n11, f15_n110]
  have key : f15_n111 10 (a0, ((Wire.mag a0 : Nat) : Int)) = some ((.own 0 0 1), [(.cells (Wire.int a0).length (.rI .u8 (Wire.int a0)) true)]) := by
    simp only [f15_n111, f15_n1110, f15_n1111, f15_n11110, f15_n111100, f15_n111100_i]
    generalize hM : Wire.mag a0 = m at *
    refine loopN_from (fun j => (a0, ((m / 256 ^ j : Nat) : Int), (List.range j).map fun i => ((m / 256 ^ i % 256 : Nat) : Int))) (Wire.nb m) (by simp) (fun j hj k => ?_) (fun k => ?_) 10 (by omega)
    · have hne : ¬ (m / 256 ^ j = 0) := by rw [Wire.nb_shift (show m < 18446744073709551616 by omega)]; omega
      have hle : m / 256 ^ j ≤ m := Nat.div_le_self _ _
      simp only [f15_n1111000, List.length_map, List.length_range]
      have e : m / 256 ^ (j + 1) = m / 256 ^ j / 256 := by rw [Nat.pow_succ, Nat.div_div_eq_div_mul]
      rw [List.range_succ, List.map_append, e]
      simp only [List.map_cons, List.map_nil]
      generalize m / 256 ^ j = q at *
      rw [tdiv_nn (by omega), tmod_nn (by omega), i64w (by omega) (by omega), u8w (by omega) (by omega), cond_pos (by omega), cond_pos (by omega)]
      simp
    · have hz : m / 256 ^ Wire.nb m = 0 := (Wire.nb_shift (show m < 18446744073709551616 by omega)).mpr (Nat.le_refl _)
      simp only [f15_n1111000]
      rw [hz, cond_neg (by decide)]
      simp only [f15_n11111, f15_n111110, f15_n111111, f15_n1111110, f15_n1111111, f15_n11111110, List.length_map, List.length_range]
      generalize hK : Wire.nb m = kk at *
      have fin : f15_n11111111 10 (a0, (kk : Int), (List.range kk).map (fun i => ((m / 256 ^ i % 256 : Nat) : Int)), [Wire.head a0]) = some ((.own 0 0 1), [(.cells (Wire.int a0).length (.rI .u8 (Wire.int a0)) true)]) := by
        simp only [f15_n11111111, f15_n111111110, f15_n111111111, f15_n1111111100, f15_n1111111101, f15_n11111111010, f15_n11111111010_i]
        rw [i64w (x := (kk : Int) - 1) (by omega) (by omega)]
        refine loopN_from (fun j => (a0, (kk : Int) - 1 - j, (List.range kk).map (fun i => ((m / 256 ^ i % 256 : Nat) : Int)), Wire.head a0 :: (List.range j).map fun j => Wire.dig a0 (kk - 1 - j))) kk (by simp) (fun j hj k' => ?_) (fun k' => ?_) 10 (by omega)
        · simp only [f15_n111111110100, dec_and, List.length_cons, List.length_map, List.length_range]
          rw [i64w (x := (kk : Int) - 1 - (j : Int) - 1) (by omega) (by omega), cond_pos (by omega), cond_pos (by omega), show ((kk : Int) - 1 - j).toNat = kk - 1 - j by omega]
          have hg : ((List.range kk).map (fun i => ((m / 256 ^ i % 256 : Nat) : Int))).getD (kk - 1 - j) 0 = ((m / 256 ^ (kk - 1 - j) % 256 : Nat) : Int) := by
            rw [List.getD_eq_getElem?_getD, List.getElem?_map, List.getElem?_range (by omega)]; rfl
          have hd : Wire.dig a0 (kk - 1 - j) = if a0 < 0 then 255 - ((m / 256 ^ (kk - 1 - j) % 256 : Nat) : Int) else ((m / 256 ^ (kk - 1 - j) % 256 : Nat) : Int) := by unfold Wire.dig; rw [hM]
          rw [hg, List.range_succ, List.map_append]
          simp only [List.map_cons, List.map_nil, hd]
          rw [show (kk : Int) - 1 - (j : Int) - 1 = (kk : Int) - 1 - ((j + 1 : Nat) : Int) by omega]
          have hq : m / 256 ^ (kk - 1 - j) % 256 < 256 := Nat.mod_lt _ (by decide)
          generalize m / 256 ^ (kk - 1 - j) % 256 = q at *
          by_cases hn : a0 < 0
          · rw [cond_pos hn, cond_pos (by omega), if_pos hn, u8w (by omega) (by omega)]; rfl
          · rw [cond_neg hn, cond_pos (by omega), if_neg hn]; rfl
        · simp only [f15_n111111110100]
          rw [cond_neg (by omega)]
          have : Wire.int a0 = Wire.head a0 :: (List.range kk).map fun j => Wire.dig a0 (kk - 1 - j) := by unfold Wire.int; rw [hM, hK]
          rw [this]; rfl
      by_cases hn : a0 ≥ 0
      · rw [cond_pos hn]
        have : IntKind.u8.wrap (IntKind.i64.wrap (128 + (kk : Int))) = Wire.head a0 := by
          unfold Wire.head; rw [hM, hK, if_neg (by omega), i64w (by omega) (by omega), u8w (by omega) (by omega)]
        rw [this]; exact fin
      · rw [cond_neg hn]
        have : IntKind.u8.wrap (IntKind.i64.wrap (127 - (kk : Int))) = Wire.head a0 := by
          unfold Wire.head; rw [hM, hK, if_pos (by omega), i64w (by omega) (by omega), u8w (by omega) (by omega)]
        rw [this]; exact fin
  by_cases hn : a0 < 0
  · rw [cond_pos hn]
    have : IntKind.i64.wrap (-1 - a0) = ((Wire.mag a0 : Nat) : Int) := by
      rw [i64w (by omega) (by omega)]; unfold Wire.mag; rw [if_pos hn]; omega
    rw [this]; exact key
  · rw [cond_neg hn]
    have : a0 = ((Wire.mag a0 : Nat) : Int) := by unfold Wire.mag; rw [if_neg hn]; omega
    rw [← this] at key; exact key

theorem c15 : CallOk Try.prog G01 15 r15 := callOk_of (V := VG0115) mixed tys eVG0115 (f := 15) (fn := Try.f15) Try.func15 (by kernel_rfl) (c := sub (bodyOf Try.f15) []) (by kernel_rfl) (by
  intro X H r H' h hX hH
  unfold r15 at h; split at h <;> try contradiction
  simp only [Option.some.injEq, Prod.mk.injEq] at h
  obtain ⟨hp, rfl, rfl⟩ := h
  obtain ⟨F, hF⟩ := s15 _ (hX _ (.head _))
  exact ⟨Af15 F, (f15_body F _).trans hF⟩)
/-! gantry/wire.Bytes -/
def lVG0116 : List CEnt := [(14, [none], r14)]
def VG0116 : Env := mkEnv T01 G01 lVG0116
theorem eVG0116 : EOk Try.prog VG0116 := eok_mk (by exact ⟨c14, trivial⟩)
def Af16 (F : Nat) : Cuts := { F := F, at_ := fun _ => none, join := fun _ => none }
def ef16_a : (List Int) → St := fun a0 => { tmps := [(0, (.str a0))], heap := [], next := 0, nt := 8, m := 0 }
def f16_nt (F : Nat) : (List Int) → Option (AV × List Blk) := fun a0 => (cond (decide (((Wire.int (↑a0.length : Int)).length + a0.length) < 1073741824)) (some ((.own 0 0 1), [(.cells ((Wire.int (↑a0.length : Int)) ++ a0).length (.rI .u8 ((Wire.int (↑a0.length : Int)) ++ a0)) true)])) none)
theorem f16_nt_eq (F : Nat) : ∀ v, aexec VG0116 (Af16 F) (sub (bodyOf Try.f16) []) (ef16_a v) (kFin VG0116 none (Try.f16).results.toList) = f16_nt F v := by
  intro a0; kernel_rfl
/-- gantry/wire.Bytes -/
def f16 (F : Nat) : (List Int) → Option (AV × List Blk) := f16_nt F
theorem f16_body (F : Nat) (a0 : List Int) : abody VG0116 (Af16 F) Try.f16 [(.str a0)] [] = f16 F a0 :=
  (abody_in (c := (sub (bodyOf Try.f16) [])) (by kernel_rfl) (s := ef16_a a0) (by kernel_rfl)).trans (f16_nt_eq F a0)
def r16 : CRun := fun X H => match X, H with
  | [(.str a0)], [] => some ((decide (a0.length < 1073741000)), (.own 0 0 1), [(.cells (Wire.bytes a0).length (.rI .u8 (Wire.bytes a0)) true)])
  | _, _ => none
theorem s16 (a0 : List Int) (hp : ((decide (a0.length < 1073741000))) = true) (h0 : okV (.str a0)) : ∃ F, f16 F a0 = some ((.own 0 0 1), [(.cells (Wire.bytes a0).length (.rI .u8 (Wire.bytes a0)) true)]) := by
  have hl : a0.length < 1073741000 := of_decide_eq_true hp
  have := Wire.nb_le (Wire.mag (a0.length : Int))
  refine ⟨0, ?_⟩
  simp only [f16, f16_nt]
  rw [cond_pos (by rw [Wire.int_len]; omega)]
  rfl

theorem c16 : CallOk Try.prog G01 16 r16 := callOk_of (V := VG0116) mixed tys eVG0116 (f := 16) (fn := Try.f16) Try.func16 (by kernel_rfl) (c := sub (bodyOf Try.f16) []) (by kernel_rfl) (by
  intro X H r H' h hX hH
  unfold r16 at h; split at h <;> try contradiction
  simp only [Option.some.injEq, Prod.mk.injEq] at h
  obtain ⟨hp, rfl, rfl⟩ := h
  obtain ⟨F, hF⟩ := s16 _ hp (hX _ (.head _))
  exact ⟨Af16 F, (f16_body F _).trans hF⟩)
/-! gantry/gantryref01.Bytes -/
def lVG0117 : List CEnt := [(15, [none], r15)]
def VG0117 : Env := mkEnv T01 G01 lVG0117
theorem eVG0117 : EOk Try.prog VG0117 := eok_mk (by exact ⟨c15, trivial⟩)
def Af17 (F : Nat) : Cuts := { F := F, at_ := fun _ => none, join := fun _ => none }
def ef17_a : (List Int) → St := fun a0 => { tmps := [(0, (.str a0))], heap := [], next := 0, nt := 9, m := 0 }
def f17_nt (F : Nat) : (List Int) → Option (AV × List Blk) := fun a0 => (cond (decide (((Wire.int (↑a0.length : Int)).length + a0.length) < 1073741824)) (some ((.own 0 0 1), [(.cells ((Wire.int (↑a0.length : Int)) ++ a0).length (.rI .u8 ((Wire.int (↑a0.length : Int)) ++ a0)) true)])) none)
theorem f17_nt_eq (F : Nat) : ∀ v, aexec VG0117 (Af17 F) (sub (bodyOf Try.f17) []) (ef17_a v) (kFin VG0117 none (Try.f17).results.toList) = f17_nt F v := by
  intro a0; kernel_rfl
/-- gantry/gantryref01.Bytes -/
def f17 (F : Nat) : (List Int) → Option (AV × List Blk) := f17_nt F
theorem f17_body (F : Nat) (a0 : List Int) : abody VG0117 (Af17 F) Try.f17 [(.str a0)] [] = f17 F a0 :=
  (abody_in (c := (sub (bodyOf Try.f17) [])) (by kernel_rfl) (s := ef17_a a0) (by kernel_rfl)).trans (f17_nt_eq F a0)
def r17 : CRun := fun X H => match X, H with
  | [(.str a0)], [] => some ((decide (a0.length < 1073741000)), (.own 0 0 1), [(.cells (Wire.bytes a0).length (.rI .u8 (Wire.bytes a0)) true)])
  | _, _ => none
theorem s17 (a0 : List Int) (hp : ((decide (a0.length < 1073741000))) = true) (h0 : okV (.str a0)) : ∃ F, f17 F a0 = some ((.own 0 0 1), [(.cells (Wire.bytes a0).length (.rI .u8 (Wire.bytes a0)) true)]) := by
  have hl : a0.length < 1073741000 := of_decide_eq_true hp
  have := Wire.nb_le (Wire.mag (a0.length : Int))
  refine ⟨0, ?_⟩
  simp only [f17, f17_nt]
  rw [cond_pos (by rw [Wire.int_len]; omega)]
  rfl

theorem c17 : CallOk Try.prog G01 17 r17 := callOk_of (V := VG0117) mixed tys eVG0117 (f := 17) (fn := Try.f17) Try.func17 (by kernel_rfl) (c := sub (bodyOf Try.f17) []) (by kernel_rfl) (by
  intro X H r H' h hX hH
  unfold r17 at h; split at h <;> try contradiction
  simp only [Option.some.injEq, Prod.mk.injEq] at h
  obtain ⟨hp, rfl, rfl⟩ := h
  obtain ⟨F, hF⟩ := s17 _ hp (hX _ (.head _))
  exact ⟨Af17 F, (f17_body F _).trans hF⟩)
end Go.Am
