/- Part of a proof about the functions of the given program. -/
import Derived.Test.YtgdibbphgdkllaaAm38P
set_option linter.unusedVariables false
set_option linter.unusedSimpArgs false
namespace Go.Am
open Go Go.Proofs

/-! gantry/gantryref38.Valid -/
def lVG3841 : List CEnt := []
def VG3841 : Env := mkEnv T38 G38 lVG3841
theorem eVG3841 : EOk Try.prog VG3841 := eok_mk (by exact trivial)
def Af41 (F : Nat) : Cuts := { F := F,at_ := fun n => match n with | 5041 => some [(0,.plain),(1,.plain),(2,.plain),(3,.plain),(9,.plain),(10,.plain)] | 10020 => some [(0,.plain),(1,.plain),(2,.plain),(3,.plain),(9,.plain),(10,.plain),(11,.plain)] | 17016 => some [(2,.plain),(3,.plain),(13,.plain)] | _ => none,join := fun n => match n with | 1080 => some [(0,.plain),(1,.plain),(2,.plain),(3,.plain)] | 3072 => some [(0,.plain),(1,.plain),(2,.plain),(3,.plain)] | 4070 => some [(0,.plain),(1,.plain),(2,.plain),(3,.plain),(9,.plain)] | 5043 => some [(0,.plain),(1,.plain),(2,.plain),(3,.plain),(9,.plain),(10,.plain)] | 6001 => some [(0,.plain),(1,.plain),(2,.plain),(3,.plain),(9,.plain),(10,.plain)] | 7035 => some [(0,.plain),(1,.plain),(2,.plain),(3,.plain),(9,.plain),(10,.plain)] | 9024 => some [(0,.plain),(1,.plain),(2,.plain),(3,.plain),(9,.plain),(10,.plain)] | 10022 => some [(0,.plain),(1,.plain),(2,.plain),(3,.plain),(9,.plain),(10,.plain),(11,.plain)] | 16024 => some [(2,.plain),(3,.plain)] | 17018 => some [(2,.plain),(3,.plain),(13,.plain)] | 21003 => some [] | _ => none }
def ef41_a : (List (List Int)) × Int × (List Int) × (List Bool) → St := fun (a0,a1,a2,a3) => { tmps := [(0,(.vs (.rL .i64 a0) 0 1)),(1,(.int .i64 a1)),(2,(.vs (.rI .i64 a2) 0 1)),(3,(.vs (.rB a3) 0 1))],heap := [],next := 0,nt := 88,m := 0 }
def ef41j1 : (List (List Int)) × Int × (List Int) × (List Bool) → St := fun (t0,t1,t2,t3) => { tmps := [(0,(.vs (.rL .i64 t0) 0 1)),(1,(.int .i64 t1)),(2,(.vs (.rI .i64 t2) 0 1)),(3,(.vs (.rB t3) 0 1))],heap := [],next := 0,nt := 88,m := 0 }
def ef41j2 : (List (List Int)) × Int × (List Int) × (List Bool) → St := fun (t0,t1,t2,t3) => { tmps := [(0,(.vs (.rL .i64 t0) 0 1)),(1,(.int .i64 t1)),(2,(.vs (.rI .i64 t2) 0 1)),(3,(.vs (.rB t3) 0 1))],heap := [],next := 0,nt := 88,m := 0 }
def ef41j3 : (List (List Int)) × Int × (List Int) × (List Bool) × (List Bool) → St := fun (t0,t1,t2,t3,x5) => { tmps := [(0,(.vs (.rL .i64 t0) 0 1)),(1,(.int .i64 t1)),(2,(.vs (.rI .i64 t2) 0 1)),(3,(.vs (.rB t3) 0 1)),(9,(.own 0 0 1))],heap := [(0,(.cells x5.length (.rB x5) true))],next := 1,nt := 88,m := 0 }
def ef41j4 : (List (List Int)) × Int × (List Int) × (List Bool) × Int × (List Bool) → St := fun (t0,t1,t2,t3,t10,x6) => { tmps := [(0,(.vs (.rL .i64 t0) 0 1)),(1,(.int .i64 t1)),(2,(.vs (.rI .i64 t2) 0 1)),(3,(.vs (.rB t3) 0 1)),(9,(.own 0 0 1)),(10,(.int .i64 t10))],heap := [(0,(.cells x6.length (.rB x6) true))],next := 1,nt := 88,m := 0 }
def ef41l1 : (List (List Int)) × Int × (List Int) × (List Bool) × Int × (List Bool) × Nat → St := fun (t0,t1,t2,t3,t10,x6,x7) => { tmps := [(0,(.vs (.rL .i64 t0) 0 1)),(1,(.int .i64 t1)),(2,(.vs (.rI .i64 t2) 0 1)),(3,(.vs (.rB t3) 0 1)),(9,(.own 0 0 1)),(10,(.int .i64 t10))],heap := [(0,(.cells x7 (.rB x6) true))],next := 1,nt := 88,m := 0 }
def ef41j5 : (List (List Int)) × Int × (List Int) × (List Bool) × Int × (List Bool) × Nat → St := fun (t0,t1,t2,t3,t10,x6,x7) => { tmps := [(0,(.vs (.rL .i64 t0) 0 1)),(1,(.int .i64 t1)),(2,(.vs (.rI .i64 t2) 0 1)),(3,(.vs (.rB t3) 0 1)),(9,(.own 0 0 1)),(10,(.int .i64 t10))],heap := [(0,(.cells x7 (.rB x6) true))],next := 1,nt := 88,m := 0 }
def ef41j6 : (List (List Int)) × Int × (List Int) × (List Bool) × Int × (List Bool) × Nat → St := fun (t0,t1,t2,t3,t10,x6,x7) => { tmps := [(0,(.vs (.rL .i64 t0) 0 1)),(1,(.int .i64 t1)),(2,(.vs (.rI .i64 t2) 0 1)),(3,(.vs (.rB t3) 0 1)),(9,(.own 0 0 1)),(10,(.int .i64 t10))],heap := [(0,(.cells x7 (.rB x6) true))],next := 1,nt := 88,m := 0 }
def ef41j7 : (List (List Int)) × Int × (List Int) × (List Bool) × Int × Int × (List Bool) × Nat → St := fun (t0,t1,t2,t3,t10,t11,x7,x8) => { tmps := [(0,(.vs (.rL .i64 t0) 0 1)),(1,(.int .i64 t1)),(2,(.vs (.rI .i64 t2) 0 1)),(3,(.vs (.rB t3) 0 1)),(9,(.own 0 0 1)),(10,(.int .i64 t10)),(11,(.int .i64 t11))],heap := [(0,(.cells x8 (.rB x7) true))],next := 1,nt := 88,m := 0 }
def ef41l2 : (List (List Int)) × Int × (List Int) × (List Bool) × Int × Int × (List Bool) × Nat → St := fun (t0,t1,t2,t3,t10,t11,x7,x8) => { tmps := [(0,(.vs (.rL .i64 t0) 0 1)),(1,(.int .i64 t1)),(2,(.vs (.rI .i64 t2) 0 1)),(3,(.vs (.rB t3) 0 1)),(9,(.own 0 0 1)),(10,(.int .i64 t10)),(11,(.int .i64 t11))],heap := [(0,(.cells x8 (.rB x7) true))],next := 1,nt := 88,m := 0 }
def ef41j8 : (List (List Int)) × Int × (List Int) × (List Bool) × Int × (List Bool) × Nat → St := fun (t0,t1,t2,t3,t10,x6,x7) => { tmps := [(0,(.vs (.rL .i64 t0) 0 1)),(1,(.int .i64 t1)),(2,(.vs (.rI .i64 t2) 0 1)),(3,(.vs (.rB t3) 0 1)),(9,(.own 0 0 1)),(10,(.int .i64 t10))],heap := [(0,(.cells x7 (.rB x6) true))],next := 1,nt := 88,m := 0 }
def ef41j9 : (List Int) × (List Bool) → St := fun (t2,t3) => { tmps := [(2,(.vs (.rI .i64 t2) 0 1)),(3,(.vs (.rB t3) 0 1))],heap := [],next := 0,nt := 88,m := 0 }
def ef41j10 : (List Int) × (List Bool) × Int → St := fun (t2,t3,t13) => { tmps := [(2,(.vs (.rI .i64 t2) 0 1)),(3,(.vs (.rB t3) 0 1)),(13,(.int .i64 t13))],heap := [],next := 0,nt := 88,m := 0 }
def ef41l3 : (List Int) × (List Bool) × Int → St := fun (t2,t3,t13) => { tmps := [(2,(.vs (.rI .i64 t2) 0 1)),(3,(.vs (.rB t3) 0 1)),(13,(.int .i64 t13))],heap := [],next := 0,nt := 88,m := 0 }
def ef41j11 : Unit → St := fun _ => { tmps := [],heap := [],next := 0,nt := 88,m := 0 }
def f41_1 (F : Nat) (kf41j1 : (List (List Int)) × Int × (List Int) × (List Bool) → Option (AV × List Blk)) : (List (List Int)) × Int × (List Int) × (List Bool) → Option (AV × List Blk) := fun (a0,a1,a2,a3) => (kf41j1 (a0,a1,a2,a3))
theorem f41_1_eq (F : Nat) (Rf41j1 : St → Option (AV × List Blk)) : ∀ v,aexec VG3841 (Af41 F) (sub (bodyOf Try.f41) [0]) (ef41_a v) (kSeq (fun s => Rf41j1 (cutTo VG3841 (some [(0,.plain),(1,.plain),(2,.plain),(3,.plain)]) s)) (kFin VG3841 none (Try.f41).results.toList)) = f41_1 F (fun w => Rf41j1 (ef41j1 w)) v := by
  rintro ⟨a0,a1,a2,a3⟩; kernel_rfl
def f41_2 (F : Nat) (kf41j2 : (List (List Int)) × Int × (List Int) × (List Bool) → Option (AV × List Blk)) : (List (List Int)) × Int × (List Int) × (List Bool) → Option (AV × List Blk) := fun (t0,t1,t2,t3) => (cond (decide ((↑t3.length : Int) < (1 : Int))) (some ((.bool false),[])) (cond (decide ((↑t3.length : Int) > (6 : Int))) (some ((.bool false),[])) (kf41j2 (t0,t1,t2,t3))))
theorem f41_2_eq (F : Nat) (Rf41j2 : St → Option (AV × List Blk)) : ∀ v,aexec VG3841 (Af41 F) (sub (bodyOf Try.f41) [1,0]) (ef41j1 v) (kSeq (fun s => Rf41j2 (cutTo VG3841 (some [(0,.plain),(1,.plain),(2,.plain),(3,.plain)]) s)) (kFin VG3841 none (Try.f41).results.toList)) = f41_2 F (fun w => Rf41j2 (ef41j2 w)) v := by
  rintro ⟨t0,t1,t2,t3⟩; kernel_rfl
def f41_3 (F : Nat) (kf41j3 : (List (List Int)) × Int × (List Int) × (List Bool) × (List Bool) → Option (AV × List Blk)) : (List (List Int)) × Int × (List Int) × (List Bool) → Option (AV × List Blk) := fun (t0,t1,t2,t3) => (cond (((decide (0 ≤ t1)) && (decide (t1 ≤ t1))) && (decide (t1 < 1073741824))) (kf41j3 (t0,t1,t2,t3,(List.replicate (Int.toNat t1) false))) none)
theorem f41_3_eq (F : Nat) (Rf41j3 : St → Option (AV × List Blk)) : ∀ v,aexec VG3841 (Af41 F) (sub (bodyOf Try.f41) [1,1,0]) (ef41j2 v) (kSeq (fun s => Rf41j3 (cutTo VG3841 (some [(0,.plain),(1,.plain),(2,.plain),(3,.plain),(9,.plain)]) s)) (kFin VG3841 none (Try.f41).results.toList)) = f41_3 F (fun w => Rf41j3 (ef41j3 w)) v := by
  rintro ⟨t0,t1,t2,t3⟩; kernel_rfl
def f41_4 (F : Nat) (kf41j4 : (List (List Int)) × Int × (List Int) × (List Bool) × Int × (List Bool) → Option (AV × List Blk)) (kf41j9 : (List Int) × (List Bool) → Option (AV × List Blk)) : (List (List Int)) × Int × (List Int) × (List Bool) × (List Bool) → Option (AV × List Blk) := fun (t0,t1,t2,t3,x5) => (kf41j4 (t0,t1,t2,t3,(0 : Int),x5))
theorem f41_4_eq (F : Nat) (Rf41j4 : St → Option (AV × List Blk)) (Rf41j9 : St → Option (AV × List Blk)) : ∀ v,aexec VG3841 (Af41 F) (sub (bodyOf Try.f41) [1,1,1,0,0]) (ef41j3 v) (kSeq (fun s => Rf41j4 (cutTo VG3841 (some [(0,.plain),(1,.plain),(2,.plain),(3,.plain),(9,.plain),(10,.plain)]) s)) (kSeq (fun s => Rf41j9 (cutTo VG3841 (some [(2,.plain),(3,.plain)]) s)) (kFin VG3841 none (Try.f41).results.toList))) = f41_4 F (fun w => Rf41j4 (ef41j4 w)) (fun w => Rf41j9 (ef41j9 w)) v := by
  rintro ⟨t0,t1,t2,t3,x5⟩; kernel_rfl
def f41_5 (F : Nat) (kf41j5 : (List (List Int)) × Int × (List Int) × (List Bool) × Int × (List Bool) × Nat → Option (AV × List Blk)) (kf41l1 : (List (List Int)) × Int × (List Int) × (List Bool) × Int × (List Bool) × Nat → Option (AV × List Blk)) (kf41j9 : (List Int) × (List Bool) → Option (AV × List Blk)) : (List (List Int)) × Int × (List Int) × (List Bool) × Int × (List Bool) × Nat → Option (AV × List Blk) := fun (t0,t1,t2,t3,t10,x6,x7) => (cond (decide (t10 < (↑t0.length : Int))) (kf41j5 (t0,t1,t2,t3,t10,x6,x7)) (kf41j9 (t2,t3)))
theorem f41_5_eq (F : Nat) (Rf41j5 : St → Option (AV × List Blk)) (Rf41l1 : St → Option (AV × List Blk)) (Rf41j9 : St → Option (AV × List Blk)) : ∀ v,aexec VG3841 (Af41 F) (sub (bodyOf Try.f41) [1,1,1,0,1,0,0,0]) (ef41l1 v) (kSeq (fun s => Rf41j5 (cutTo VG3841 (some [(0,.plain),(1,.plain),(2,.plain),(3,.plain),(9,.plain),(10,.plain)]) s)) (kSeq (fun s => Rf41l1 (cutTo VG3841 (some [(0,.plain),(1,.plain),(2,.plain),(3,.plain),(9,.plain),(10,.plain)]) s)) (kBlock 0 (kSeq (fun s => Rf41j9 (cutTo VG3841 (some [(2,.plain),(3,.plain)]) s)) (kFin VG3841 none (Try.f41).results.toList))))) = f41_5 F (fun w => Rf41j5 (ef41j5 w)) (fun w => Rf41l1 (ef41l1 w)) (fun w => Rf41j9 (ef41j9 w)) v := by
  rintro ⟨t0,t1,t2,t3,t10,x6,x7⟩; kernel_rfl
def f41_6 (F : Nat) (kf41j6 : (List (List Int)) × Int × (List Int) × (List Bool) × Int × (List Bool) × Nat → Option (AV × List Blk)) (kf41j8 : (List (List Int)) × Int × (List Int) × (List Bool) × Int × (List Bool) × Nat → Option (AV × List Blk)) (kf41l1 : (List (List Int)) × Int × (List Int) × (List Bool) × Int × (List Bool) × Nat → Option (AV × List Blk)) (kf41j9 : (List Int) × (List Bool) → Option (AV × List Blk)) : (List (List Int)) × Int × (List Int) × (List Bool) × Int × (List Bool) × Nat → Option (AV × List Blk) := fun (t0,t1,t2,t3,t10,x6,x7) => (cond ((decide (0 ≤ t10)) && (decide (t10 < (↑t0.length : Int)))) (cond ((↑(t0.getD (Int.toNat t10) []).length : Int) == (0 : Int)) (some ((.bool false),[])) (kf41j6 (t0,t1,t2,t3,t10,x6,x7))) none)
theorem f41_6_eq (F : Nat) (Rf41j6 : St → Option (AV × List Blk)) (Rf41j8 : St → Option (AV × List Blk)) (Rf41l1 : St → Option (AV × List Blk)) (Rf41j9 : St → Option (AV × List Blk)) : ∀ v,aexec VG3841 (Af41 F) (sub (bodyOf Try.f41) [1,1,1,0,1,0,0,1,0,0,0]) (ef41j5 v) (kSeq (fun s => Rf41j6 (cutTo VG3841 (some [(0,.plain),(1,.plain),(2,.plain),(3,.plain),(9,.plain),(10,.plain)]) s)) (kBlock 1 (kSeq (fun s => Rf41j8 (cutTo VG3841 (some [(0,.plain),(1,.plain),(2,.plain),(3,.plain),(9,.plain),(10,.plain)]) s)) (kSeq (fun s => Rf41l1 (cutTo VG3841 (some [(0,.plain),(1,.plain),(2,.plain),(3,.plain),(9,.plain),(10,.plain)]) s)) (kBlock 0 (kSeq (fun s => Rf41j9 (cutTo VG3841 (some [(2,.plain),(3,.plain)]) s)) (kFin VG3841 none (Try.f41).results.toList))))))) = f41_6 F (fun w => Rf41j6 (ef41j6 w)) (fun w => Rf41j8 (ef41j8 w)) (fun w => Rf41l1 (ef41l1 w)) (fun w => Rf41j9 (ef41j9 w)) v := by
  rintro ⟨t0,t1,t2,t3,t10,x6,x7⟩; kernel_rfl
def f41_7 (F : Nat) (kf41j7 : (List (List Int)) × Int × (List Int) × (List Bool) × Int × Int × (List Bool) × Nat → Option (AV × List Blk)) (kf41j8 : (List (List Int)) × Int × (List Int) × (List Bool) × Int × (List Bool) × Nat → Option (AV × List Blk)) (kf41l1 : (List (List Int)) × Int × (List Int) × (List Bool) × Int × (List Bool) × Nat → Option (AV × List Blk)) (kf41j9 : (List Int) × (List Bool) → Option (AV × List Blk)) : (List (List Int)) × Int × (List Int) × (List Bool) × Int × (List Bool) × Nat → Option (AV × List Blk) := fun (t0,t1,t2,t3,t10,x6,x7) => (kf41j7 (t0,t1,t2,t3,t10,(0 : Int),x6,x7))
theorem f41_7_eq (F : Nat) (Rf41j7 : St → Option (AV × List Blk)) (Rf41j8 : St → Option (AV × List Blk)) (Rf41l1 : St → Option (AV × List Blk)) (Rf41j9 : St → Option (AV × List Blk)) : ∀ v,aexec VG3841 (Af41 F) (sub (bodyOf Try.f41) [1,1,1,0,1,0,0,1,0,0,1,0]) (ef41j6 v) (kSeq (fun s => Rf41j7 (cutTo VG3841 (some [(0,.plain),(1,.plain),(2,.plain),(3,.plain),(9,.plain),(10,.plain),(11,.plain)]) s)) (kBlock 1 (kSeq (fun s => Rf41j8 (cutTo VG3841 (some [(0,.plain),(1,.plain),(2,.plain),(3,.plain),(9,.plain),(10,.plain)]) s)) (kSeq (fun s => Rf41l1 (cutTo VG3841 (some [(0,.plain),(1,.plain),(2,.plain),(3,.plain),(9,.plain),(10,.plain)]) s)) (kBlock 0 (kSeq (fun s => Rf41j9 (cutTo VG3841 (some [(2,.plain),(3,.plain)]) s)) (kFin VG3841 none (Try.f41).results.toList))))))) = f41_7 F (fun w => Rf41j7 (ef41j7 w)) (fun w => Rf41j8 (ef41j8 w)) (fun w => Rf41l1 (ef41l1 w)) (fun w => Rf41j9 (ef41j9 w)) v := by
  rintro ⟨t0,t1,t2,t3,t10,x6,x7⟩; kernel_rfl
def f41_8 (F : Nat) (kf41l2 : (List (List Int)) × Int × (List Int) × (List Bool) × Int × Int × (List Bool) × Nat → Option (AV × List Blk)) (kf41j8 : (List (List Int)) × Int × (List Int) × (List Bool) × Int × (List Bool) × Nat → Option (AV × List Blk)) (kf41l1 : (List (List Int)) × Int × (List Int) × (List Bool) × Int × (List Bool) × Nat → Option (AV × List Blk)) (kf41j9 : (List Int) × (List Bool) → Option (AV × List Blk)) : (List (List Int)) × Int × (List Int) × (List Bool) × Int × Int × (List Bool) × Nat → Option (AV × List Blk) := fun (t0,t1,t2,t3,t10,t11,x7,x8) => (cond ((decide (0 ≤ t10)) && (decide (t10 < (↑t0.length : Int)))) (cond (decide (t11 < (↑(t0.getD (Int.toNat t10) []).length : Int))) (cond ((decide (0 ≤ t10)) && (decide (t10 < (↑t0.length : Int)))) (cond ((decide (0 ≤ t11)) && (decide (t11 < (↑(t0.getD (Int.toNat t10) []).length : Int)))) (cond (decide (((t0.getD (Int.toNat t10) []).getD (Int.toNat t11) 0) < (0 : Int))) (some ((.bool false),[])) (cond (decide (((t0.getD (Int.toNat t10) []).getD (Int.toNat t11) 0) ≥ t1)) (some ((.bool false),[])) (cond ((decide (0 ≤ ((t0.getD (Int.toNat t10) []).getD (Int.toNat t11) 0))) && (decide (((t0.getD (Int.toNat t10) []).getD (Int.toNat t11) 0) < (↑x7.length : Int)))) (cond (x7.getD (Int.toNat ((t0.getD (Int.toNat t10) []).getD (Int.toNat t11) 0)) false) (some ((.bool false),[])) (cond ((decide (0 ≤ ((t0.getD (Int.toNat t10) []).getD (Int.toNat t11) 0))) && (decide (((t0.getD (Int.toNat t10) []).getD (Int.toNat t11) 0) < (↑x7.length : Int)))) (kf41l2 (t0,t1,t2,t3,t10,(IntKind.i64.wrap (t11 + (1 : Int))),(x7.set (Int.toNat ((t0.getD (Int.toNat t10) []).getD (Int.toNat t11) 0)) true),x8)) none)) none))) none) none) (kf41j8 (t0,t1,t2,t3,t10,x7,x8))) none)
theorem f41_8_eq (F : Nat) (Rf41l2 : St → Option (AV × List Blk)) (Rf41j8 : St → Option (AV × List Blk)) (Rf41l1 : St → Option (AV × List Blk)) (Rf41j9 : St → Option (AV × List Blk)) : ∀ v,aexec VG3841 (Af41 F) (sub (bodyOf Try.f41) [1,1,1,0,1,0,0,1,0,0,1,1,0,0]) (ef41l2 v) (kSeq (fun s => Rf41l2 (cutTo VG3841 (some [(0,.plain),(1,.plain),(2,.plain),(3,.plain),(9,.plain),(10,.plain),(11,.plain)]) s)) (kBlock 2 (kBlock 1 (kSeq (fun s => Rf41j8 (cutTo VG3841 (some [(0,.plain),(1,.plain),(2,.plain),(3,.plain),(9,.plain),(10,.plain)]) s)) (kSeq (fun s => Rf41l1 (cutTo VG3841 (some [(0,.plain),(1,.plain),(2,.plain),(3,.plain),(9,.plain),(10,.plain)]) s)) (kBlock 0 (kSeq (fun s => Rf41j9 (cutTo VG3841 (some [(2,.plain),(3,.plain)]) s)) (kFin VG3841 none (Try.f41).results.toList)))))))) = f41_8 F (fun w => Rf41l2 (ef41l2 w)) (fun w => Rf41j8 (ef41j8 w)) (fun w => Rf41l1 (ef41l1 w)) (fun w => Rf41j9 (ef41j9 w)) v := by
  rintro ⟨t0,t1,t2,t3,t10,t11,x7,x8⟩; kernel_rfl
def f41_9_i : (List (List Int)) × Int × (List Int) × (List Bool) × Int × Int × (List Bool) × Nat → (List (List Int)) × Int × (List Int) × (List Bool) × Int × Int × (List Bool) × Nat := fun (t0,t1,t2,t3,t10,t11,x7,x8) => (t0,t1,t2,t3,t10,t11,x7,x8)
def f41_9 (F : Nat) (kf41j8 : (List (List Int)) × Int × (List Int) × (List Bool) × Int × (List Bool) × Nat → Option (AV × List Blk)) (kf41l1 : (List (List Int)) × Int × (List Int) × (List Bool) × Int × (List Bool) × Nat → Option (AV × List Blk)) (kf41j9 : (List Int) × (List Bool) → Option (AV × List Blk)) : (List (List Int)) × Int × (List Int) × (List Bool) × Int × Int × (List Bool) × Nat → Option (AV × List Blk) := fun v => loopN (fun k => f41_8 F k kf41j8 kf41l1 kf41j9) F (f41_9_i v)
theorem f41_9_eq (F : Nat) (Rf41j8 : St → Option (AV × List Blk)) (Rf41l1 : St → Option (AV × List Blk)) (Rf41j9 : St → Option (AV × List Blk)) : ∀ v,aexec VG3841 (Af41 F) (sub (bodyOf Try.f41) [1,1,1,0,1,0,0,1,0,0,1,1,0]) (ef41j7 v) (kBlock 2 (kBlock 1 (kSeq (fun s => Rf41j8 (cutTo VG3841 (some [(0,.plain),(1,.plain),(2,.plain),(3,.plain),(9,.plain),(10,.plain)]) s)) (kSeq (fun s => Rf41l1 (cutTo VG3841 (some [(0,.plain),(1,.plain),(2,.plain),(3,.plain),(9,.plain),(10,.plain)]) s)) (kBlock 0 (kSeq (fun s => Rf41j9 (cutTo VG3841 (some [(2,.plain),(3,.plain)]) s)) (kFin VG3841 none (Try.f41).results.toList))))))) = f41_9 F (fun w => Rf41j8 (ef41j8 w)) (fun w => Rf41l1 (ef41l1 w)) (fun w => Rf41j9 (ef41j9 w)) v :=
  loop_cut (c := (sub (bodyOf Try.f41) [1,1,1,0,1,0,0,1,0,0,1,1,0])) (d := (sub (bodyOf Try.f41) [1,1,1,0,1,0,0,1,0,0,1,1,0,0])) (by kernel_rfl) (spec := [(0,.plain),(1,.plain),(2,.plain),(3,.plain),(9,.plain),(10,.plain),(11,.plain)]) (by kernel_rfl) ef41j7 ef41l2 (kBlock 2 (kBlock 1 (kSeq (fun s => Rf41j8 (cutTo VG3841 (some [(0,.plain),(1,.plain),(2,.plain),(3,.plain),(9,.plain),(10,.plain)]) s)) (kSeq (fun s => Rf41l1 (cutTo VG3841 (some [(0,.plain),(1,.plain),(2,.plain),(3,.plain),(9,.plain),(10,.plain)]) s)) (kBlock 0 (kSeq (fun s => Rf41j9 (cutTo VG3841 (some [(2,.plain),(3,.plain)]) s)) (kFin VG3841 none (Try.f41).results.toList))))))) f41_9_i (fun k => f41_8 F k (fun w => Rf41j8 (ef41j8 w)) (fun w => Rf41l1 (ef41l1 w)) (fun w => Rf41j9 (ef41j9 w)))
    (by rintro ⟨t0,t1,t2,t3,t10,t11,x7,x8⟩; kernel_rfl) (fun Rf41l2 => f41_8_eq F Rf41l2 Rf41j8 Rf41l1 Rf41j9)
def f41_10 (F : Nat) (kf41j8 : (List (List Int)) × Int × (List Int) × (List Bool) × Int × (List Bool) × Nat → Option (AV × List Blk)) (kf41l1 : (List (List Int)) × Int × (List Int) × (List Bool) × Int × (List Bool) × Nat → Option (AV × List Blk)) (kf41j9 : (List Int) × (List Bool) → Option (AV × List Blk)) : (List (List Int)) × Int × (List Int) × (List Bool) × Int × Int × (List Bool) × Nat → Option (AV × List Blk) := f41_9 F kf41j8 kf41l1 kf41j9
theorem f41_10_eq (F : Nat) (Rf41j8 : St → Option (AV × List Blk)) (Rf41l1 : St → Option (AV × List Blk)) (Rf41j9 : St → Option (AV × List Blk)) : ∀ v,aexec VG3841 (Af41 F) (sub (bodyOf Try.f41) [1,1,1,0,1,0,0,1,0,0,1,1]) (ef41j7 v) (kBlock 1 (kSeq (fun s => Rf41j8 (cutTo VG3841 (some [(0,.plain),(1,.plain),(2,.plain),(3,.plain),(9,.plain),(10,.plain)]) s)) (kSeq (fun s => Rf41l1 (cutTo VG3841 (some [(0,.plain),(1,.plain),(2,.plain),(3,.plain),(9,.plain),(10,.plain)]) s)) (kBlock 0 (kSeq (fun s => Rf41j9 (cutTo VG3841 (some [(2,.plain),(3,.plain)]) s)) (kFin VG3841 none (Try.f41).results.toList)))))) = f41_10 F (fun w => Rf41j8 (ef41j8 w)) (fun w => Rf41l1 (ef41l1 w)) (fun w => Rf41j9 (ef41j9 w)) v := fun v =>
  (block_in (c := (sub (bodyOf Try.f41) [1,1,1,0,1,0,0,1,0,0,1,1])) (d := (sub (bodyOf Try.f41) [1,1,1,0,1,0,0,1,0,0,1,1,0])) (id := 2) (by kernel_rfl) _ _).trans (f41_9_eq F Rf41j8 Rf41l1 Rf41j9 v)
def f41_11 (F : Nat) (kf41j8 : (List (List Int)) × Int × (List Int) × (List Bool) × Int × (List Bool) × Nat → Option (AV × List Blk)) (kf41l1 : (List (List Int)) × Int × (List Int) × (List Bool) × Int × (List Bool) × Nat → Option (AV × List Blk)) (kf41j9 : (List Int) × (List Bool) → Option (AV × List Blk)) : (List (List Int)) × Int × (List Int) × (List Bool) × Int × (List Bool) × Nat → Option (AV × List Blk) := fun v => f41_7 F (f41_10 F kf41j8 kf41l1 kf41j9) kf41j8 kf41l1 kf41j9 v
theorem f41_11_eq (F : Nat) (Rf41j8 : St → Option (AV × List Blk)) (Rf41l1 : St → Option (AV × List Blk)) (Rf41j9 : St → Option (AV × List Blk)) : ∀ v,aexec VG3841 (Af41 F) (sub (bodyOf Try.f41) [1,1,1,0,1,0,0,1,0,0,1]) (ef41j6 v) (kBlock 1 (kSeq (fun s => Rf41j8 (cutTo VG3841 (some [(0,.plain),(1,.plain),(2,.plain),(3,.plain),(9,.plain),(10,.plain)]) s)) (kSeq (fun s => Rf41l1 (cutTo VG3841 (some [(0,.plain),(1,.plain),(2,.plain),(3,.plain),(9,.plain),(10,.plain)]) s)) (kBlock 0 (kSeq (fun s => Rf41j9 (cutTo VG3841 (some [(2,.plain),(3,.plain)]) s)) (kFin VG3841 none (Try.f41).results.toList)))))) = f41_11 F (fun w => Rf41j8 (ef41j8 w)) (fun w => Rf41l1 (ef41l1 w)) (fun w => Rf41j9 (ef41j9 w)) v :=
  seq_cut (c := (sub (bodyOf Try.f41) [1,1,1,0,1,0,0,1,0,0,1])) (a := (sub (bodyOf Try.f41) [1,1,1,0,1,0,0,1,0,0,1,0])) (b := (sub (bodyOf Try.f41) [1,1,1,0,1,0,0,1,0,0,1,1])) (by kernel_rfl) (spec := [(0,.plain),(1,.plain),(2,.plain),(3,.plain),(9,.plain),(10,.plain),(11,.plain)]) (by kernel_rfl) ef41j6 ef41j7 (kBlock 1 (kSeq (fun s => Rf41j8 (cutTo VG3841 (some [(0,.plain),(1,.plain),(2,.plain),(3,.plain),(9,.plain),(10,.plain)]) s)) (kSeq (fun s => Rf41l1 (cutTo VG3841 (some [(0,.plain),(1,.plain),(2,.plain),(3,.plain),(9,.plain),(10,.plain)]) s)) (kBlock 0 (kSeq (fun s => Rf41j9 (cutTo VG3841 (some [(2,.plain),(3,.plain)]) s)) (kFin VG3841 none (Try.f41).results.toList)))))) (fun k => f41_7 F k (fun w => Rf41j8 (ef41j8 w)) (fun w => Rf41l1 (ef41l1 w)) (fun w => Rf41j9 (ef41j9 w))) (f41_10 F (fun w => Rf41j8 (ef41j8 w)) (fun w => Rf41l1 (ef41l1 w)) (fun w => Rf41j9 (ef41j9 w)))
    (fun Rf41j7 => f41_7_eq F Rf41j7 Rf41j8 Rf41l1 Rf41j9) (f41_10_eq F Rf41j8 Rf41l1 Rf41j9)
def f41_12 (F : Nat) (kf41j8 : (List (List Int)) × Int × (List Int) × (List Bool) × Int × (List Bool) × Nat → Option (AV × List Blk)) (kf41l1 : (List (List Int)) × Int × (List Int) × (List Bool) × Int × (List Bool) × Nat → Option (AV × List Blk)) (kf41j9 : (List Int) × (List Bool) → Option (AV × List Blk)) : (List (List Int)) × Int × (List Int) × (List Bool) × Int × (List Bool) × Nat → Option (AV × List Blk) := fun v => f41_6 F (f41_11 F kf41j8 kf41l1 kf41j9) kf41j8 kf41l1 kf41j9 v
theorem f41_12_eq (F : Nat) (Rf41j8 : St → Option (AV × List Blk)) (Rf41l1 : St → Option (AV × List Blk)) (Rf41j9 : St → Option (AV × List Blk)) : ∀ v,aexec VG3841 (Af41 F) (sub (bodyOf Try.f41) [1,1,1,0,1,0,0,1,0,0]) (ef41j5 v) (kBlock 1 (kSeq (fun s => Rf41j8 (cutTo VG3841 (some [(0,.plain),(1,.plain),(2,.plain),(3,.plain),(9,.plain),(10,.plain)]) s)) (kSeq (fun s => Rf41l1 (cutTo VG3841 (some [(0,.plain),(1,.plain),(2,.plain),(3,.plain),(9,.plain),(10,.plain)]) s)) (kBlock 0 (kSeq (fun s => Rf41j9 (cutTo VG3841 (some [(2,.plain),(3,.plain)]) s)) (kFin VG3841 none (Try.f41).results.toList)))))) = f41_12 F (fun w => Rf41j8 (ef41j8 w)) (fun w => Rf41l1 (ef41l1 w)) (fun w => Rf41j9 (ef41j9 w)) v :=
  seq_cut (c := (sub (bodyOf Try.f41) [1,1,1,0,1,0,0,1,0,0])) (a := (sub (bodyOf Try.f41) [1,1,1,0,1,0,0,1,0,0,0])) (b := (sub (bodyOf Try.f41) [1,1,1,0,1,0,0,1,0,0,1])) (by kernel_rfl) (spec := [(0,.plain),(1,.plain),(2,.plain),(3,.plain),(9,.plain),(10,.plain)]) (by kernel_rfl) ef41j5 ef41j6 (kBlock 1 (kSeq (fun s => Rf41j8 (cutTo VG3841 (some [(0,.plain),(1,.plain),(2,.plain),(3,.plain),(9,.plain),(10,.plain)]) s)) (kSeq (fun s => Rf41l1 (cutTo VG3841 (some [(0,.plain),(1,.plain),(2,.plain),(3,.plain),(9,.plain),(10,.plain)]) s)) (kBlock 0 (kSeq (fun s => Rf41j9 (cutTo VG3841 (some [(2,.plain),(3,.plain)]) s)) (kFin VG3841 none (Try.f41).results.toList)))))) (fun k => f41_6 F k (fun w => Rf41j8 (ef41j8 w)) (fun w => Rf41l1 (ef41l1 w)) (fun w => Rf41j9 (ef41j9 w))) (f41_11 F (fun w => Rf41j8 (ef41j8 w)) (fun w => Rf41l1 (ef41l1 w)) (fun w => Rf41j9 (ef41j9 w)))
    (fun Rf41j6 => f41_6_eq F Rf41j6 Rf41j8 Rf41l1 Rf41j9) (f41_11_eq F Rf41j8 Rf41l1 Rf41j9)
def f41_13 (F : Nat) (kf41j8 : (List (List Int)) × Int × (List Int) × (List Bool) × Int × (List Bool) × Nat → Option (AV × List Blk)) (kf41l1 : (List (List Int)) × Int × (List Int) × (List Bool) × Int × (List Bool) × Nat → Option (AV × List Blk)) (kf41j9 : (List Int) × (List Bool) → Option (AV × List Blk)) : (List (List Int)) × Int × (List Int) × (List Bool) × Int × (List Bool) × Nat → Option (AV × List Blk) := f41_12 F kf41j8 kf41l1 kf41j9
theorem f41_13_eq (F : Nat) (Rf41j8 : St → Option (AV × List Blk)) (Rf41l1 : St → Option (AV × List Blk)) (Rf41j9 : St → Option (AV × List Blk)) : ∀ v,aexec VG3841 (Af41 F) (sub (bodyOf Try.f41) [1,1,1,0,1,0,0,1,0]) (ef41j5 v) (kSeq (fun s => Rf41j8 (cutTo VG3841 (some [(0,.plain),(1,.plain),(2,.plain),(3,.plain),(9,.plain),(10,.plain)]) s)) (kSeq (fun s => Rf41l1 (cutTo VG3841 (some [(0,.plain),(1,.plain),(2,.plain),(3,.plain),(9,.plain),(10,.plain)]) s)) (kBlock 0 (kSeq (fun s => Rf41j9 (cutTo VG3841 (some [(2,.plain),(3,.plain)]) s)) (kFin VG3841 none (Try.f41).results.toList))))) = f41_13 F (fun w => Rf41j8 (ef41j8 w)) (fun w => Rf41l1 (ef41l1 w)) (fun w => Rf41j9 (ef41j9 w)) v := fun v =>
  (block_in (c := (sub (bodyOf Try.f41) [1,1,1,0,1,0,0,1,0])) (d := (sub (bodyOf Try.f41) [1,1,1,0,1,0,0,1,0,0])) (id := 1) (by kernel_rfl) _ _).trans (f41_12_eq F Rf41j8 Rf41l1 Rf41j9 v)
def f41_14 (F : Nat) (kf41l1 : (List (List Int)) × Int × (List Int) × (List Bool) × Int × (List Bool) × Nat → Option (AV × List Blk)) (kf41j9 : (List Int) × (List Bool) → Option (AV × List Blk)) : (List (List Int)) × Int × (List Int) × (List Bool) × Int × (List Bool) × Nat → Option (AV × List Blk) := fun (t0,t1,t2,t3,t10,x6,x7) => (kf41l1 (t0,t1,t2,t3,(IntKind.i64.wrap (t10 + (1 : Int))),x6,x7))
theorem f41_14_eq (F : Nat) (Rf41l1 : St → Option (AV × List Blk)) (Rf41j9 : St → Option (AV × List Blk)) : ∀ v,aexec VG3841 (Af41 F) (sub (bodyOf Try.f41) [1,1,1,0,1,0,0,1,1]) (ef41j8 v) (kSeq (fun s => Rf41l1 (cutTo VG3841 (some [(0,.plain),(1,.plain),(2,.plain),(3,.plain),(9,.plain),(10,.plain)]) s)) (kBlock 0 (kSeq (fun s => Rf41j9 (cutTo VG3841 (some [(2,.plain),(3,.plain)]) s)) (kFin VG3841 none (Try.f41).results.toList)))) = f41_14 F (fun w => Rf41l1 (ef41l1 w)) (fun w => Rf41j9 (ef41j9 w)) v := by
  rintro ⟨t0,t1,t2,t3,t10,x6,x7⟩; kernel_rfl
def f41_15 (F : Nat) (kf41l1 : (List (List Int)) × Int × (List Int) × (List Bool) × Int × (List Bool) × Nat → Option (AV × List Blk)) (kf41j9 : (List Int) × (List Bool) → Option (AV × List Blk)) : (List (List Int)) × Int × (List Int) × (List Bool) × Int × (List Bool) × Nat → Option (AV × List Blk) := fun v => f41_13 F (f41_14 F kf41l1 kf41j9) kf41l1 kf41j9 v
theorem f41_15_eq (F : Nat) (Rf41l1 : St → Option (AV × List Blk)) (Rf41j9 : St → Option (AV × List Blk)) : ∀ v,aexec VG3841 (Af41 F) (sub (bodyOf Try.f41) [1,1,1,0,1,0,0,1]) (ef41j5 v) (kSeq (fun s => Rf41l1 (cutTo VG3841 (some [(0,.plain),(1,.plain),(2,.plain),(3,.plain),(9,.plain),(10,.plain)]) s)) (kBlock 0 (kSeq (fun s => Rf41j9 (cutTo VG3841 (some [(2,.plain),(3,.plain)]) s)) (kFin VG3841 none (Try.f41).results.toList)))) = f41_15 F (fun w => Rf41l1 (ef41l1 w)) (fun w => Rf41j9 (ef41j9 w)) v :=
  seq_cut (c := (sub (bodyOf Try.f41) [1,1,1,0,1,0,0,1])) (a := (sub (bodyOf Try.f41) [1,1,1,0,1,0,0,1,0])) (b := (sub (bodyOf Try.f41) [1,1,1,0,1,0,0,1,1])) (by kernel_rfl) (spec := [(0,.plain),(1,.plain),(2,.plain),(3,.plain),(9,.plain),(10,.plain)]) (by kernel_rfl) ef41j5 ef41j8 (kSeq (fun s => Rf41l1 (cutTo VG3841 (some [(0,.plain),(1,.plain),(2,.plain),(3,.plain),(9,.plain),(10,.plain)]) s)) (kBlock 0 (kSeq (fun s => Rf41j9 (cutTo VG3841 (some [(2,.plain),(3,.plain)]) s)) (kFin VG3841 none (Try.f41).results.toList)))) (fun k => f41_13 F k (fun w => Rf41l1 (ef41l1 w)) (fun w => Rf41j9 (ef41j9 w))) (f41_14 F (fun w => Rf41l1 (ef41l1 w)) (fun w => Rf41j9 (ef41j9 w)))
    (fun Rf41j8 => f41_13_eq F Rf41j8 Rf41l1 Rf41j9) (f41_14_eq F Rf41l1 Rf41j9)
def f41_16 (F : Nat) (kf41l1 : (List (List Int)) × Int × (List Int) × (List Bool) × Int × (List Bool) × Nat → Option (AV × List Blk)) (kf41j9 : (List Int) × (List Bool) → Option (AV × List Blk)) : (List (List Int)) × Int × (List Int) × (List Bool) × Int × (List Bool) × Nat → Option (AV × List Blk) := fun v => f41_5 F (f41_15 F kf41l1 kf41j9) kf41l1 kf41j9 v
theorem f41_16_eq (F : Nat) (Rf41l1 : St → Option (AV × List Blk)) (Rf41j9 : St → Option (AV × List Blk)) : ∀ v,aexec VG3841 (Af41 F) (sub (bodyOf Try.f41) [1,1,1,0,1,0,0]) (ef41l1 v) (kSeq (fun s => Rf41l1 (cutTo VG3841 (some [(0,.plain),(1,.plain),(2,.plain),(3,.plain),(9,.plain),(10,.plain)]) s)) (kBlock 0 (kSeq (fun s => Rf41j9 (cutTo VG3841 (some [(2,.plain),(3,.plain)]) s)) (kFin VG3841 none (Try.f41).results.toList)))) = f41_16 F (fun w => Rf41l1 (ef41l1 w)) (fun w => Rf41j9 (ef41j9 w)) v :=
  seq_cut (c := (sub (bodyOf Try.f41) [1,1,1,0,1,0,0])) (a := (sub (bodyOf Try.f41) [1,1,1,0,1,0,0,0])) (b := (sub (bodyOf Try.f41) [1,1,1,0,1,0,0,1])) (by kernel_rfl) (spec := [(0,.plain),(1,.plain),(2,.plain),(3,.plain),(9,.plain),(10,.plain)]) (by kernel_rfl) ef41l1 ef41j5 (kSeq (fun s => Rf41l1 (cutTo VG3841 (some [(0,.plain),(1,.plain),(2,.plain),(3,.plain),(9,.plain),(10,.plain)]) s)) (kBlock 0 (kSeq (fun s => Rf41j9 (cutTo VG3841 (some [(2,.plain),(3,.plain)]) s)) (kFin VG3841 none (Try.f41).results.toList)))) (fun k => f41_5 F k (fun w => Rf41l1 (ef41l1 w)) (fun w => Rf41j9 (ef41j9 w))) (f41_15 F (fun w => Rf41l1 (ef41l1 w)) (fun w => Rf41j9 (ef41j9 w)))
    (fun Rf41j5 => f41_5_eq F Rf41j5 Rf41l1 Rf41j9) (f41_15_eq F Rf41l1 Rf41j9)
def f41_17_i : (List (List Int)) × Int × (List Int) × (List Bool) × Int × (List Bool) → (List (List Int)) × Int × (List Int) × (List Bool) × Int × (List Bool) × Nat := fun (t0,t1,t2,t3,t10,x6) => (t0,t1,t2,t3,t10,x6,x6.length)
def f41_17 (F : Nat) (kf41j9 : (List Int) × (List Bool) → Option (AV × List Blk)) : (List (List Int)) × Int × (List Int) × (List Bool) × Int × (List Bool) → Option (AV × List Blk) := fun v => loopN (fun k => f41_16 F k kf41j9) F (f41_17_i v)
theorem f41_17_eq (F : Nat) (Rf41j9 : St → Option (AV × List Blk)) : ∀ v,aexec VG3841 (Af41 F) (sub (bodyOf Try.f41) [1,1,1,0,1,0]) (ef41j4 v) (kBlock 0 (kSeq (fun s => Rf41j9 (cutTo VG3841 (some [(2,.plain),(3,.plain)]) s)) (kFin VG3841 none (Try.f41).results.toList))) = f41_17 F (fun w => Rf41j9 (ef41j9 w)) v :=
  loop_cut (c := (sub (bodyOf Try.f41) [1,1,1,0,1,0])) (d := (sub (bodyOf Try.f41) [1,1,1,0,1,0,0])) (by kernel_rfl) (spec := [(0,.plain),(1,.plain),(2,.plain),(3,.plain),(9,.plain),(10,.plain)]) (by kernel_rfl) ef41j4 ef41l1 (kBlock 0 (kSeq (fun s => Rf41j9 (cutTo VG3841 (some [(2,.plain),(3,.plain)]) s)) (kFin VG3841 none (Try.f41).results.toList))) f41_17_i (fun k => f41_16 F k (fun w => Rf41j9 (ef41j9 w)))
    (by rintro ⟨t0,t1,t2,t3,t10,x6⟩; kernel_rfl) (fun Rf41l1 => f41_16_eq F Rf41l1 Rf41j9)
def f41_18 (F : Nat) (kf41j9 : (List Int) × (List Bool) → Option (AV × List Blk)) : (List (List Int)) × Int × (List Int) × (List Bool) × Int × (List Bool) → Option (AV × List Blk) := f41_17 F kf41j9
theorem f41_18_eq (F : Nat) (Rf41j9 : St → Option (AV × List Blk)) : ∀ v,aexec VG3841 (Af41 F) (sub (bodyOf Try.f41) [1,1,1,0,1]) (ef41j4 v) (kSeq (fun s => Rf41j9 (cutTo VG3841 (some [(2,.plain),(3,.plain)]) s)) (kFin VG3841 none (Try.f41).results.toList)) = f41_18 F (fun w => Rf41j9 (ef41j9 w)) v := fun v =>
  (block_in (c := (sub (bodyOf Try.f41) [1,1,1,0,1])) (d := (sub (bodyOf Try.f41) [1,1,1,0,1,0])) (id := 0) (by kernel_rfl) _ _).trans (f41_17_eq F Rf41j9 v)
def f41_19 (F : Nat) (kf41j9 : (List Int) × (List Bool) → Option (AV × List Blk)) : (List (List Int)) × Int × (List Int) × (List Bool) × (List Bool) → Option (AV × List Blk) := fun v => f41_4 F (f41_18 F kf41j9) kf41j9 v
theorem f41_19_eq (F : Nat) (Rf41j9 : St → Option (AV × List Blk)) : ∀ v,aexec VG3841 (Af41 F) (sub (bodyOf Try.f41) [1,1,1,0]) (ef41j3 v) (kSeq (fun s => Rf41j9 (cutTo VG3841 (some [(2,.plain),(3,.plain)]) s)) (kFin VG3841 none (Try.f41).results.toList)) = f41_19 F (fun w => Rf41j9 (ef41j9 w)) v :=
  seq_cut (c := (sub (bodyOf Try.f41) [1,1,1,0])) (a := (sub (bodyOf Try.f41) [1,1,1,0,0])) (b := (sub (bodyOf Try.f41) [1,1,1,0,1])) (by kernel_rfl) (spec := [(0,.plain),(1,.plain),(2,.plain),(3,.plain),(9,.plain),(10,.plain)]) (by kernel_rfl) ef41j3 ef41j4 (kSeq (fun s => Rf41j9 (cutTo VG3841 (some [(2,.plain),(3,.plain)]) s)) (kFin VG3841 none (Try.f41).results.toList)) (fun k => f41_4 F k (fun w => Rf41j9 (ef41j9 w))) (f41_18 F (fun w => Rf41j9 (ef41j9 w)))
    (fun Rf41j4 => f41_4_eq F Rf41j4 Rf41j9) (f41_18_eq F Rf41j9)
def f41_20 (F : Nat) (kf41j10 : (List Int) × (List Bool) × Int → Option (AV × List Blk)) (kf41j11 : Unit → Option (AV × List Blk)) : (List Int) × (List Bool) → Option (AV × List Blk) := fun (t2,t3) => (kf41j10 (t2,t3,(0 : Int)))
theorem f41_20_eq (F : Nat) (Rf41j10 : St → Option (AV × List Blk)) (Rf41j11 : St → Option (AV × List Blk)) : ∀ v,aexec VG3841 (Af41 F) (sub (bodyOf Try.f41) [1,1,1,1,0,0]) (ef41j9 v) (kSeq (fun s => Rf41j10 (cutTo VG3841 (some [(2,.plain),(3,.plain),(13,.plain)]) s)) (kSeq (fun s => Rf41j11 (cutTo VG3841 (some []) s)) (kFin VG3841 none (Try.f41).results.toList))) = f41_20 F (fun w => Rf41j10 (ef41j10 w)) (fun w => Rf41j11 (ef41j11 w)) v := by
  rintro ⟨t2,t3⟩; kernel_rfl
def f41_21 (F : Nat) (kf41l3 : (List Int) × (List Bool) × Int → Option (AV × List Blk)) (kf41j11 : Unit → Option (AV × List Blk)) : (List Int) × (List Bool) × Int → Option (AV × List Blk) := fun (t2,t3,t13) => (cond (decide (t13 < (↑t2.length : Int))) (cond ((decide (0 ≤ t13)) && (decide (t13 < (↑t2.length : Int)))) (cond (decide ((t2.getD (Int.toNat t13) 0) < (-1 : Int))) (some ((.bool false),[])) (cond ((decide (0 ≤ t13)) && (decide (t13 < (↑t2.length : Int)))) (cond (decide ((t2.getD (Int.toNat t13) 0) ≥ (↑t3.length : Int))) (some ((.bool false),[])) (kf41l3 (t2,t3,(IntKind.i64.wrap (t13 + (1 : Int)))))) none)) none) (kf41j11 ()))
theorem f41_21_eq (F : Nat) (Rf41l3 : St → Option (AV × List Blk)) (Rf41j11 : St → Option (AV × List Blk)) : ∀ v,aexec VG3841 (Af41 F) (sub (bodyOf Try.f41) [1,1,1,1,0,1,0,0]) (ef41l3 v) (kSeq (fun s => Rf41l3 (cutTo VG3841 (some [(2,.plain),(3,.plain),(13,.plain)]) s)) (kBlock 4 (kSeq (fun s => Rf41j11 (cutTo VG3841 (some []) s)) (kFin VG3841 none (Try.f41).results.toList)))) = f41_21 F (fun w => Rf41l3 (ef41l3 w)) (fun w => Rf41j11 (ef41j11 w)) v := by
  rintro ⟨t2,t3,t13⟩; kernel_rfl
def f41_22_i : (List Int) × (List Bool) × Int → (List Int) × (List Bool) × Int := fun (t2,t3,t13) => (t2,t3,t13)
def f41_22 (F : Nat) (kf41j11 : Unit → Option (AV × List Blk)) : (List Int) × (List Bool) × Int → Option (AV × List Blk) := fun v => loopN (fun k => f41_21 F k kf41j11) F (f41_22_i v)
theorem f41_22_eq (F : Nat) (Rf41j11 : St → Option (AV × List Blk)) : ∀ v,aexec VG3841 (Af41 F) (sub (bodyOf Try.f41) [1,1,1,1,0,1,0]) (ef41j10 v) (kBlock 4 (kSeq (fun s => Rf41j11 (cutTo VG3841 (some []) s)) (kFin VG3841 none (Try.f41).results.toList))) = f41_22 F (fun w => Rf41j11 (ef41j11 w)) v :=
  loop_cut (c := (sub (bodyOf Try.f41) [1,1,1,1,0,1,0])) (d := (sub (bodyOf Try.f41) [1,1,1,1,0,1,0,0])) (by kernel_rfl) (spec := [(2,.plain),(3,.plain),(13,.plain)]) (by kernel_rfl) ef41j10 ef41l3 (kBlock 4 (kSeq (fun s => Rf41j11 (cutTo VG3841 (some []) s)) (kFin VG3841 none (Try.f41).results.toList))) f41_22_i (fun k => f41_21 F k (fun w => Rf41j11 (ef41j11 w)))
    (by rintro ⟨t2,t3,t13⟩; kernel_rfl) (fun Rf41l3 => f41_21_eq F Rf41l3 Rf41j11)
def f41_23 (F : Nat) (kf41j11 : Unit → Option (AV × List Blk)) : (List Int) × (List Bool) × Int → Option (AV × List Blk) := f41_22 F kf41j11
theorem f41_23_eq (F : Nat) (Rf41j11 : St → Option (AV × List Blk)) : ∀ v,aexec VG3841 (Af41 F) (sub (bodyOf Try.f41) [1,1,1,1,0,1]) (ef41j10 v) (kSeq (fun s => Rf41j11 (cutTo VG3841 (some []) s)) (kFin VG3841 none (Try.f41).results.toList)) = f41_23 F (fun w => Rf41j11 (ef41j11 w)) v := fun v =>
  (block_in (c := (sub (bodyOf Try.f41) [1,1,1,1,0,1])) (d := (sub (bodyOf Try.f41) [1,1,1,1,0,1,0])) (id := 4) (by kernel_rfl) _ _).trans (f41_22_eq F Rf41j11 v)
def f41_24 (F : Nat) (kf41j11 : Unit → Option (AV × List Blk)) : (List Int) × (List Bool) → Option (AV × List Blk) := fun v => f41_20 F (f41_23 F kf41j11) kf41j11 v
theorem f41_24_eq (F : Nat) (Rf41j11 : St → Option (AV × List Blk)) : ∀ v,aexec VG3841 (Af41 F) (sub (bodyOf Try.f41) [1,1,1,1,0]) (ef41j9 v) (kSeq (fun s => Rf41j11 (cutTo VG3841 (some []) s)) (kFin VG3841 none (Try.f41).results.toList)) = f41_24 F (fun w => Rf41j11 (ef41j11 w)) v :=
  seq_cut (c := (sub (bodyOf Try.f41) [1,1,1,1,0])) (a := (sub (bodyOf Try.f41) [1,1,1,1,0,0])) (b := (sub (bodyOf Try.f41) [1,1,1,1,0,1])) (by kernel_rfl) (spec := [(2,.plain),(3,.plain),(13,.plain)]) (by kernel_rfl) ef41j9 ef41j10 (kSeq (fun s => Rf41j11 (cutTo VG3841 (some []) s)) (kFin VG3841 none (Try.f41).results.toList)) (fun k => f41_20 F k (fun w => Rf41j11 (ef41j11 w))) (f41_23 F (fun w => Rf41j11 (ef41j11 w)))
    (fun Rf41j10 => f41_20_eq F Rf41j10 Rf41j11) (f41_23_eq F Rf41j11)
def f41_25 (F : Nat) : Unit → Option (AV × List Blk) := fun _ => (some ((.bool true),[]))
theorem f41_25_eq (F : Nat) : ∀ v,aexec VG3841 (Af41 F) (sub (bodyOf Try.f41) [1,1,1,1,1]) (ef41j11 v) (kFin VG3841 none (Try.f41).results.toList) = f41_25 F v := by
  intro _; kernel_rfl
def f41_26 (F : Nat) : (List Int) × (List Bool) → Option (AV × List Blk) := fun v => f41_24 F (f41_25 F) v
theorem f41_26_eq (F : Nat) : ∀ v,aexec VG3841 (Af41 F) (sub (bodyOf Try.f41) [1,1,1,1]) (ef41j9 v) (kFin VG3841 none (Try.f41).results.toList) = f41_26 F v :=
  seq_cut (c := (sub (bodyOf Try.f41) [1,1,1,1])) (a := (sub (bodyOf Try.f41) [1,1,1,1,0])) (b := (sub (bodyOf Try.f41) [1,1,1,1,1])) (by kernel_rfl) (spec := []) (by kernel_rfl) ef41j9 ef41j11 (kFin VG3841 none (Try.f41).results.toList) (fun k => f41_24 F k) (f41_25 F)
    (fun Rf41j11 => f41_24_eq F Rf41j11) (f41_25_eq F)
def f41_27 (F : Nat) : (List (List Int)) × Int × (List Int) × (List Bool) × (List Bool) → Option (AV × List Blk) := fun v => f41_19 F (f41_26 F) v
theorem f41_27_eq (F : Nat) : ∀ v,aexec VG3841 (Af41 F) (sub (bodyOf Try.f41) [1,1,1]) (ef41j3 v) (kFin VG3841 none (Try.f41).results.toList) = f41_27 F v :=
  seq_cut (c := (sub (bodyOf Try.f41) [1,1,1])) (a := (sub (bodyOf Try.f41) [1,1,1,0])) (b := (sub (bodyOf Try.f41) [1,1,1,1])) (by kernel_rfl) (spec := [(2,.plain),(3,.plain)]) (by kernel_rfl) ef41j3 ef41j9 (kFin VG3841 none (Try.f41).results.toList) (fun k => f41_19 F k) (f41_26 F)
    (fun Rf41j9 => f41_19_eq F Rf41j9) (f41_26_eq F)
def f41_28 (F : Nat) : (List (List Int)) × Int × (List Int) × (List Bool) → Option (AV × List Blk) := fun v => f41_3 F (f41_27 F) v
theorem f41_28_eq (F : Nat) : ∀ v,aexec VG3841 (Af41 F) (sub (bodyOf Try.f41) [1,1]) (ef41j2 v) (kFin VG3841 none (Try.f41).results.toList) = f41_28 F v :=
  seq_cut (c := (sub (bodyOf Try.f41) [1,1])) (a := (sub (bodyOf Try.f41) [1,1,0])) (b := (sub (bodyOf Try.f41) [1,1,1])) (by kernel_rfl) (spec := [(0,.plain),(1,.plain),(2,.plain),(3,.plain),(9,.plain)]) (by kernel_rfl) ef41j2 ef41j3 (kFin VG3841 none (Try.f41).results.toList) (fun k => f41_3 F k) (f41_27 F)
    (fun Rf41j3 => f41_3_eq F Rf41j3) (f41_27_eq F)
def f41_29 (F : Nat) : (List (List Int)) × Int × (List Int) × (List Bool) → Option (AV × List Blk) := fun v => f41_2 F (f41_28 F) v
theorem f41_29_eq (F : Nat) : ∀ v,aexec VG3841 (Af41 F) (sub (bodyOf Try.f41) [1]) (ef41j1 v) (kFin VG3841 none (Try.f41).results.toList) = f41_29 F v :=
  seq_cut (c := (sub (bodyOf Try.f41) [1])) (a := (sub (bodyOf Try.f41) [1,0])) (b := (sub (bodyOf Try.f41) [1,1])) (by kernel_rfl) (spec := [(0,.plain),(1,.plain),(2,.plain),(3,.plain)]) (by kernel_rfl) ef41j1 ef41j2 (kFin VG3841 none (Try.f41).results.toList) (fun k => f41_2 F k) (f41_28 F)
    (fun Rf41j2 => f41_2_eq F Rf41j2) (f41_28_eq F)
def f41_30 (F : Nat) : (List (List Int)) × Int × (List Int) × (List Bool) → Option (AV × List Blk) := fun v => f41_1 F (f41_29 F) v
theorem f41_30_eq (F : Nat) : ∀ v,aexec VG3841 (Af41 F) (sub (bodyOf Try.f41) []) (ef41_a v) (kFin VG3841 none (Try.f41).results.toList) = f41_30 F v :=
  seq_cut (c := (sub (bodyOf Try.f41) [])) (a := (sub (bodyOf Try.f41) [0])) (b := (sub (bodyOf Try.f41) [1])) (by kernel_rfl) (spec := [(0,.plain),(1,.plain),(2,.plain),(3,.plain)]) (by kernel_rfl) ef41_a ef41j1 (kFin VG3841 none (Try.f41).results.toList) (fun k => f41_1 F k) (f41_29 F)
    (fun Rf41j1 => f41_1_eq F Rf41j1) (f41_29_eq F)
/-- gantry/gantryref38.Valid -/
def f41 (F : Nat) : (List (List Int)) × Int × (List Int) × (List Bool) → Option (AV × List Blk) := f41_30 F
theorem f41_body (F : Nat) (a0 : List (List Int)) (a1 : Int) (a2 : List Int) (a3 : List Bool) : abody VG3841 (Af41 F) Try.f41 [(.vs (.rL .i64 a0) 0 1),(.int .i64 a1),(.vs (.rI .i64 a2) 0 1),(.vs (.rB a3) 0 1)] [] = f41 F (a0,a1,a2,a3) :=
  (abody_in (c := (sub (bodyOf Try.f41) [])) (by kernel_rfl) (s := ef41_a (a0,a1,a2,a3)) (by kernel_rfl)).trans (f41_30_eq F (a0,a1,a2,a3))
def r41 : CRun := fun X H => match X,H with
  | [(.vs (.rL .i64 a0) 0 1),(.int .i64 a1),(.vs (.rI .i64 a2) 0 1),(.vs (.rB a3) 0 1)],[] => some (((decide (0 ≤ a1)) && (decide (Int.toNat a1 < 1073741000))),(.bool (Reg.valid a0 (Int.toNat a1) a2 a3)),[])
  | _,_ => none
theorem s41 (a0 : List (List Int)) (a1 : Int) (a2 : List Int) (a3 : List Bool) (hp : (((decide (0 ≤ a1)) && (decide (Int.toNat a1 < 1073741000)))) = true) (h0 : okV (.vs (.rL .i64 a0) 0 1)) (h1 : okV (.int .i64 a1)) (h2 : okV (.vs (.rI .i64 a2) 0 1)) (h3 : okV (.vs (.rB a3) 0 1)) : ∃ F,f41 F (a0,a1,a2,a3) = some ((.bool (Reg.valid a0 (Int.toNat a1) a2 a3)),[]) := by
  simp only [Bool.and_eq_true,decide_eq_true_eq] at hp
  obtain ⟨n,rfl⟩ : ∃ n : Nat,a1 = (n : Int) := ⟨a1.toNat,by omega⟩
  rw [Int.toNat_natCast,Reg.valid_eq]
  have hl0 : a0.length < 4611686018427387904 := h0.2
  have hl2 : a2.length < 4611686018427387904 := h2.2
  have hl3 : a3.length < 4611686018427387904 := h3
  have hlx : ∀ i,(a0.getD i []).length < 4611686018427387904 := fun i => by
    rw [List.getD_eq_getElem?_getD]
    cases h : a0[i]? with
    | none => simp
    | some x => exact (h0.1 x (List.mem_of_getElem? h)).2
  refine ⟨a0.length + a0.flatten.length + a2.length + 1,?_⟩
  have hF : ∀ i,(a0.getD i []).length ≤ a0.flatten.length := fun i => by
    rw [List.getD_eq_getElem?_getD]
    cases h : a0[i]? with
    | none => simp
    | some x => exact (List.sublist_flatten_of_mem (List.mem_of_getElem? h)).length_le
  simp only [f41,f41_30,f41_1,f41_29,f41_2]
  by_cases q1 : (a3.length : Int) < 1
  · rw [cond_pos q1,if_pos q1]
  rw [cond_neg q1,if_neg q1]
  by_cases q2 : (a3.length : Int) > 6
  · rw [cond_pos q2,if_pos q2]
  rw [cond_neg q2,if_neg q2]
  simp only [f41_28,f41_3,f41_27,dec_and]
  rw [cond_pos (by omega),Int.toNat_natCast]
  simp only [f41_19,f41_4,f41_18,f41_17,f41_17_i]
  generalize hm0 : List.replicate n false = m0
  have hm0l : m0.length = n := by rw [← hm0,List.length_replicate]
  refine (loopN_scan (fun i => (a0,(n : Int),a2,a3,(i : Int),Reg.marks (a0.take i) m0,m0.length)) a0.length
    (fun i => if (a0.getD i []).length = 0 ∨ Reg.vg n (a0.getD i []) (Reg.marks (a0.take i) m0) = none then some (some (AV.bool false,[])) else none) (some (AV.bool (a2.all (Reg.okO a3.length)),[])) (by rfl) (fun i hi k => ?_) (fun k => ?_) _ (by omega)).trans ?_
  · simp only [f41_16,f41_5,f41_15,f41_13,f41_14,f41_12,f41_6,f41_11,f41_7,f41_10,f41_9,f41_9_i,dec_and,int_beq]
    rw [cond_pos (by omega),cond_pos (by omega),Int.toNat_natCast]
    generalize hx : a0.getD i [] = x
    have hlx' := hlx i
    have hF' := hF i
    rw [hx] at hlx' hF'
    by_cases hz : x.length = 0
    · rw [cond_pos (by omega),if_pos (.inl hz)]
    rw [cond_neg (by omega)]
    generalize hm : Reg.marks (a0.take i) m0 = met
    have hml : met.length = n := by rw [← hm,Reg.marks_len,hm0l]
    have hs : Reg.marks (a0.take (i + 1)) m0 = Reg.mark x met := by
      simp only [Reg.marks]
      rw [foldl_take _ _ a0 [] i hi,hx]
      simp only [Reg.marks] at hm
      rw [hm]
    rw [hs]
    refine (loopN_scan (fun j => (a0,(n : Int),a2,a3,(i : Int),(j : Int),Reg.mark (x.take j) met,m0.length)) x.length
      (fun j => if Reg.bad n (Reg.mark (x.take j) met) (x.getD j 0) then some (some (AV.bool false,[])) else none) (k (a0,(n : Int),a2,a3,((i + 1 : Nat) : Int),Reg.mark x met,m0.length)) (by rfl) (fun j hj k' => ?_) (fun k' => ?_) _ (by omega)).trans ?_
    · simp only [f41_8,dec_and]
      rw [cond_pos (by omega),Int.toNat_natCast,hx,cond_pos (by omega),cond_pos (by omega),cond_pos (by omega),Int.toNat_natCast]
      generalize hd : x.getD j 0 = d
      have hml' := Reg.mark_len (x.take j) met
      have hs' : Reg.mark (x.take (j + 1)) met = (Reg.mark (x.take j) met).set d.toNat true := by
        simp only [Reg.mark]
        rw [foldl_take _ _ x 0 j hj,hd]
      by_cases b1 : d < 0
      · rw [cond_pos b1,if_pos (.inl b1)]
      rw [cond_neg b1]
      by_cases b2 : d ≥ (n : Int)
      · rw [cond_pos b2,if_pos (.inr (.inl b2))]
      rw [cond_neg b2,cond_pos (by omega)]
      cases b3 : (Reg.mark (x.take j) met).getD (Int.toNat d) false with
      | true => rw [if_pos (.inr (.inr b3))]; rfl
      | false =>
        rw [if_neg (by unfold Reg.bad; rw [b3]; simp; omega),cond_false,cond_pos (by omega),i64w (by omega) (by omega),← hs']
        rfl
    · simp only [f41_8,dec_and]
      rw [cond_pos (by omega),Int.toNat_natCast,hx,cond_neg (by omega),List.take_length]
      simp only [f41_14]
      rw [i64w (by omega) (by omega)]
      rfl
    · rw [Reg.scan_vg]
      cases hv : Reg.vg n x met with
      | none => rw [if_pos (.inr rfl)]
      | some m => rw [if_neg (by simp [hz])]
  · simp only [f41_16,f41_5,f41_26,f41_24,f41_20,f41_23,f41_22,f41_22_i]
    rw [cond_neg (by omega)]
    refine (loopN_scan (fun j => (a2,a3,(j : Int))) a2.length (fun j => if (!(Reg.okO a3.length (a2.getD j 0))) = true then some (some (AV.bool false,[])) else none) (some (AV.bool true,[])) (by rfl) (fun j hj k' => ?_) (fun k' => ?_) _ (by omega)).trans ?_
    · simp only [f41_21,dec_and,Reg.okO,dec_not]
      rw [cond_pos (by omega),cond_pos (by omega),Int.toNat_natCast]
      generalize a2.getD j 0 = d
      by_cases b1 : d < -1
      · rw [cond_pos b1,if_pos (decide_eq_true (by omega))]
      rw [cond_neg b1,cond_pos (by omega)]
      by_cases b2 : d ≥ (a3.length : Int)
      · rw [cond_pos b2,if_pos (decide_eq_true (by omega))]
      rw [cond_neg b2,if_neg (by simp; omega),i64w (by omega) (by omega)]
      rfl
    · simp only [f41_21]
      rw [cond_neg (by omega)]
      rfl
    · rw [scan_idx (fun x => !(Reg.okO a3.length x)) a2 0 (fun _ => some (AV.bool false,[]))]
      cases h : a2.findIdx? (fun x => !(Reg.okO a3.length x)) with
      | none =>
        rw [List.findIdx?_eq_none_iff] at h
        have : a2.all (Reg.okO a3.length) = true := by rw [List.all_eq_true]; intro x hx; simpa using h x hx
        rw [this]
      | some i =>
        rw [List.findIdx?_eq_some_iff_getElem] at h
        obtain ⟨hi,hpp,_⟩ := h
        have : a2.all (Reg.okO a3.length) = false := by rw [List.all_eq_false]; exact ⟨_,List.getElem_mem hi,by simpa using hpp⟩
        rw [this]
  · rw [Reg.scan_vgs]
    cases Reg.vgs n a0 m0 <;> rfl

theorem c41 : CallOk Try.prog G38 41 r41 := callOk_of (V := VG3841) mixed tys eVG3841 (f := 41) (fn := Try.f41) Try.func41 (by kernel_rfl) (c := sub (bodyOf Try.f41) []) (by kernel_rfl) (by
  intro X H r H' h hX hH
  unfold r41 at h; split at h <;> try contradiction
  · simp only [Option.some.injEq,Prod.mk.injEq] at h
    obtain ⟨hp,rfl,rfl⟩ := h
    obtain ⟨F,hF⟩ := s41 _ _ _ _ hp (hX _ (.head _)) (hX _ (.tail _ (.head _))) (hX _ (.tail _ (.tail _ (.head _)))) (hX _ (.tail _ (.tail _ (.tail _ (.head _)))))
    exact ⟨Af41 F,(f41_body F _ _ _ _).trans hF⟩)
end Go.Am
