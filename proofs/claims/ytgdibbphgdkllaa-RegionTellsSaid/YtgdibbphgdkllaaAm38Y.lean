/- Part of a proof about the functions of the given program. -/
import Derived.Test.YtgdibbphgdkllaaAm38X
set_option linter.unusedVariables false
set_option linter.unusedSimpArgs false
namespace Go.Am
open Go Go.Proofs
abbrev sp69 : List (Nat × Md) := [(9,.view 3),(10,.view 3),(12,.plain),(13,.view 22),(14,.view 52),(15,.plain),(16,.plain)]
abbrev sp70 : List (Nat × Md) := [(9,.view 3),(10,.view 3),(12,.plain),(13,.view 22),(15,.plain),(18,.plain)]
abbrev sp71 : List (Nat × Md) := [(9,.view 3),(10,.view 3),(12,.plain),(13,.view 22),(15,.plain),(18,.plain),(19,.plain),(20,.plain)]
abbrev sp72 : List (Nat × Md) := [(9,.view 3),(10,.view 3),(12,.plain),(13,.view 22),(15,.plain),(18,.plain),(19,.plain),(20,.plain),(21,.plain)]
abbrev sp73 : List (Nat × Md) := [(0,.plain),(1,.plain),(2,.plain),(3,.plain)]
abbrev sp74 : List (Nat × Md) := [(1,.plain),(2,.plain),(3,.plain),(9,.view 3)]
abbrev sp75 : List (Nat × Md) := [(2,.plain),(3,.plain),(9,.view 3),(10,.view 3)]
abbrev sp76 : List (Nat × Md) := [(2,.plain),(9,.view 3),(10,.view 3),(11,.view 3)]
abbrev sp77 : List (Nat × Md) := [(9,.view 3),(10,.view 3),(11,.view 3),(12,.plain)]
abbrev sp78 : List (Nat × Md) := [(9,.view 3),(10,.view 3),(11,.view 3),(12,.plain),(13,.view 22)]
abbrev sp79 : List (Nat × Md) := [(9,.view 3),(10,.view 3),(11,.view 3),(12,.plain),(13,.view 22),(14,.view 52)]
abbrev sp80 : List (Nat × Md) := [(9,.view 3),(10,.view 3),(12,.plain),(13,.view 22),(14,.view 52)]
abbrev sp81 : List (Nat × Md) := [(9,.view 3),(10,.view 3),(12,.plain),(13,.view 22),(14,.view 52),(15,.plain)]
abbrev sp82 : List (Nat × Md) := [(9,.view 3),(10,.view 3),(12,.plain),(13,.view 22),(15,.plain)]
abbrev sp83 : List (Nat × Md) := [(9,.view 3),(10,.view 3),(12,.plain),(13,.view 22),(15,.plain),(18,.plain),(19,.plain)]
abbrev Ty93 := (List Int) × Int × (List Int) × (List Int)
abbrev Ty94 := Int × (List Int) × (List Int) × (List Int)
abbrev Ty95 := (List Int) × (List Int) × (List Int) × Int
abbrev Ty96 := (List Int) × (List Int) × (List Int) × Int × (List (List Int))
abbrev Ty97 := (List Int) × (List Int) × (List Int) × Int × (List (List Int)) × (List Int) × Nat
abbrev Ty98 := (List Int) × (List Int) × Int × (List (List Int)) × (List Int) × Nat
abbrev Ty99 := (List Int) × (List Int) × Int × (List (List Int)) × (List Int) × Nat × (List Int)
abbrev Ty100 := (List Int) × (List Int) × Int × (List (List Int)) × (List Int) × Nat × Int × (List Int)
abbrev Ty101 := (List Int) × (List Int) × Int × (List (List Int)) × (List Int) × Nat × Int × (List Int) × Nat
abbrev Ty102 := (List Int) × (List Int) × Int × (List (List Int)) × Int × (List Int) × Nat
abbrev Ty103 := (List Int) × (List Int) × Int × (List (List Int)) × Int × Int × (List Int) × Nat
abbrev Ty104 := (List Int) × (List Int) × Int × (List (List Int)) × Int × Int × Int × (List Int) × Nat
abbrev Ty105 := (List Int) × (List Int) × Int × (List (List Int)) × Int × Int × Int × Int × (List Int) × Nat
def lVG388 : List CEnt := [(10,[none,none],r10),(14,[some 3,none],r14),(18,[some 3,some 3],r18),(19,[],r19),(25,[some 3,none],r25l),(27,[some 3,some 3],r27),(28,[some 52,some 52],r28),(29,[some 3,some 3],r29),(30,[some 22,some 22],r30),(31,[some 3,none],r31),(32,[some 3,some 3],r32),(33,[some 3,some 3],r33)]
def VG388 : Env := mkEnv T38 G38 lVG388
theorem eVG388 : EOk Try.prog VG388 := eok_mk (by exact ⟨c10,c14,c18,c19,c25l,c27,c28,c29,c30,c31,c32,c33,trivial⟩)
def Af8 (F : Nat) : Cuts := { F := F,at_ := fun n => match n with | 11020 => some sp69 | 18060 => some sp70 | 24027 => some sp71 | 27014 => some sp72 | _ => none,join := fun n => match n with | 1115 => some sp73 | 2113 => some sp74 | 3111 => some sp75 | 4109 => some sp76 | 5107 => some sp77 | 6105 => some sp78 | 7103 => some sp79 | 9095 => some sp80 | 10093 => some sp81 | 11022 => some sp69 | 17068 => some sp82 | 18062 => some sp70 | 19001 => some sp70 | 20054 => some sp70 | 22043 => some sp70 | 23041 => some sp83 | 24029 => some sp71 | 25001 => some sp71 | 26021 => some sp71 | 27016 => some sp72 | 31009 => some sp83 | 34003 => some [] | _ => none }
def ef8_a : Ty91 → St := fun (a0,a1,a2,a3) => { tmps := [(0,(.vs (.rI .i64 a0) 0 1)),(1,(.vs (.rI .i64 a1) 0 1)),(2,(.int .i64 a2)),(3,(.vs (.rI .i64 a3) 0 1))],heap := [],next := 0,nt := 195,m := 0 }
def ef8j1 : Ty91 → St := fun (t0,t1,t2,t3) => { tmps := [(0,(.vs (.rI .i64 t0) 0 1)),(1,(.vs (.rI .i64 t1) 0 1)),(2,(.int .i64 t2)),(3,(.vs (.rI .i64 t3) 0 1))],heap := [],next := 0,nt := 195,m := 0 }
def ef8j2 : Ty93 → St := fun (t1,t2,t3,t9) => { tmps := [(1,(.vs (.rI .i64 t1) 0 1)),(2,(.int .i64 t2)),(3,(.vs (.rI .i64 t3) 0 1)),(9,(.vs (.rI .i64 t9) 0 1))],heap := [],next := 0,nt := 195,m := 0 }
def ef8j3 : Ty94 → St := fun (t2,t3,t9,t10) => { tmps := [(2,(.int .i64 t2)),(3,(.vs (.rI .i64 t3) 0 1)),(9,(.vs (.rI .i64 t9) 0 1)),(10,(.vs (.rI .i64 t10) 0 1))],heap := [],next := 0,nt := 195,m := 0 }
def ef8j4 : Ty94 → St := fun (t2,t9,t10,t11) => { tmps := [(2,(.int .i64 t2)),(9,(.vs (.rI .i64 t9) 0 1)),(10,(.vs (.rI .i64 t10) 0 1)),(11,(.vs (.rI .i64 t11) 0 1))],heap := [],next := 0,nt := 195,m := 0 }
def ef8j5 : Ty95 → St := fun (t9,t10,t11,t12) => { tmps := [(9,(.vs (.rI .i64 t9) 0 1)),(10,(.vs (.rI .i64 t10) 0 1)),(11,(.vs (.rI .i64 t11) 0 1)),(12,(.int .i64 t12))],heap := [],next := 0,nt := 195,m := 0 }
def ef8j6 : Ty96 → St := fun (t9,t10,t11,t12,t13) => { tmps := [(9,(.vs (.rI .i64 t9) 0 1)),(10,(.vs (.rI .i64 t10) 0 1)),(11,(.vs (.rI .i64 t11) 0 1)),(12,(.int .i64 t12)),(13,(.vs (.rL .i64 t13) 0 1))],heap := [],next := 0,nt := 195,m := 0 }
def ef8j7 : Ty97 → St := fun (t9,t10,t11,t12,t13,t14,x7) => { tmps := [(9,(.vs (.rI .i64 t9) 0 1)),(10,(.vs (.rI .i64 t10) 0 1)),(11,(.vs (.rI .i64 t11) 0 1)),(12,(.int .i64 t12)),(13,(.vs (.rL .i64 t13) 0 1)),(14,(.vs (.rI .i64 t14) x7 3))],heap := [],next := 0,nt := 195,m := 0 }
def ef8j8 : Ty98 → St := fun (t9,t10,t12,t13,t14,x6) => { tmps := [(9,(.vs (.rI .i64 t9) 0 1)),(10,(.vs (.rI .i64 t10) 0 1)),(12,(.int .i64 t12)),(13,(.vs (.rL .i64 t13) 0 1)),(14,(.vs (.rI .i64 t14) x6 3))],heap := [],next := 0,nt := 195,m := 0 }
def ef8j9 : Ty99 → St := fun (t9,t10,t12,t13,t14,x6,x7) => { tmps := [(9,(.vs (.rI .i64 t9) 0 1)),(10,(.vs (.rI .i64 t10) 0 1)),(12,(.int .i64 t12)),(13,(.vs (.rL .i64 t13) 0 1)),(14,(.vs (.rI .i64 t14) x6 3)),(15,(.own 0 0 1))],heap := [(0,(.cells x7.length (.rI .i64 x7) true))],next := 1,nt := 195,m := 0 }
def ef8j10 : Ty100 → St := fun (t9,t10,t12,t13,t14,x6,t16,x8) => { tmps := [(9,(.vs (.rI .i64 t9) 0 1)),(10,(.vs (.rI .i64 t10) 0 1)),(12,(.int .i64 t12)),(13,(.vs (.rL .i64 t13) 0 1)),(14,(.vs (.rI .i64 t14) x6 3)),(15,(.own 0 0 1)),(16,(.int .i64 t16))],heap := [(0,(.cells x8.length (.rI .i64 x8) true))],next := 1,nt := 195,m := 0 }
def ef8l1 : Ty101 → St := fun (t9,t10,t12,t13,t14,x6,t16,x8,x9) => { tmps := [(9,(.vs (.rI .i64 t9) 0 1)),(10,(.vs (.rI .i64 t10) 0 1)),(12,(.int .i64 t12)),(13,(.vs (.rL .i64 t13) 0 1)),(14,(.vs (.rI .i64 t14) x6 3)),(15,(.own 0 0 1)),(16,(.int .i64 t16))],heap := [(0,(.cells x9 (.rI .i64 x8) true))],next := 1,nt := 195,m := 0 }
def ef8j11 : Ty98 → St := fun (t9,t10,t12,t13,x5,x6) => { tmps := [(9,(.vs (.rI .i64 t9) 0 1)),(10,(.vs (.rI .i64 t10) 0 1)),(12,(.int .i64 t12)),(13,(.vs (.rL .i64 t13) 0 1)),(15,(.own 0 0 1))],heap := [(0,(.cells x6 (.rI .i64 x5) true))],next := 1,nt := 195,m := 0 }
def ef8j12 : Ty102 → St := fun (t9,t10,t12,t13,t18,x6,x7) => { tmps := [(9,(.vs (.rI .i64 t9) 0 1)),(10,(.vs (.rI .i64 t10) 0 1)),(12,(.int .i64 t12)),(13,(.vs (.rL .i64 t13) 0 1)),(15,(.own 0 0 1)),(18,(.int .i64 t18))],heap := [(0,(.cells x7 (.rI .i64 x6) true))],next := 1,nt := 195,m := 0 }
def ef8l2 : Ty102 → St := fun (t9,t10,t12,t13,t18,x6,x7) => { tmps := [(9,(.vs (.rI .i64 t9) 0 1)),(10,(.vs (.rI .i64 t10) 0 1)),(12,(.int .i64 t12)),(13,(.vs (.rL .i64 t13) 0 1)),(15,(.own 0 0 1)),(18,(.int .i64 t18))],heap := [(0,(.cells x7 (.rI .i64 x6) true))],next := 1,nt := 195,m := 0 }
def ef8j13 : Ty102 → St := fun (t9,t10,t12,t13,t18,x6,x7) => { tmps := [(9,(.vs (.rI .i64 t9) 0 1)),(10,(.vs (.rI .i64 t10) 0 1)),(12,(.int .i64 t12)),(13,(.vs (.rL .i64 t13) 0 1)),(15,(.own 0 0 1)),(18,(.int .i64 t18))],heap := [(0,(.cells x7 (.rI .i64 x6) true))],next := 1,nt := 195,m := 0 }
def ef8j14 : Ty102 → St := fun (t9,t10,t12,t13,t18,x6,x7) => { tmps := [(9,(.vs (.rI .i64 t9) 0 1)),(10,(.vs (.rI .i64 t10) 0 1)),(12,(.int .i64 t12)),(13,(.vs (.rL .i64 t13) 0 1)),(15,(.own 0 0 1)),(18,(.int .i64 t18))],heap := [(0,(.cells x7 (.rI .i64 x6) true))],next := 1,nt := 195,m := 0 }
def ef8j15 : Ty103 → St := fun (t9,t10,t12,t13,t18,t19,x7,x8) => { tmps := [(9,(.vs (.rI .i64 t9) 0 1)),(10,(.vs (.rI .i64 t10) 0 1)),(12,(.int .i64 t12)),(13,(.vs (.rL .i64 t13) 0 1)),(15,(.own 0 0 1)),(18,(.int .i64 t18)),(19,(.int .i64 t19))],heap := [(0,(.cells x8 (.rI .i64 x7) true))],next := 1,nt := 195,m := 0 }
def ef8j16 : Ty104 → St := fun (t9,t10,t12,t13,t18,t19,t20,x8,x9) => { tmps := [(9,(.vs (.rI .i64 t9) 0 1)),(10,(.vs (.rI .i64 t10) 0 1)),(12,(.int .i64 t12)),(13,(.vs (.rL .i64 t13) 0 1)),(15,(.own 0 0 1)),(18,(.int .i64 t18)),(19,(.int .i64 t19)),(20,(.int .i64 t20))],heap := [(0,(.cells x9 (.rI .i64 x8) true))],next := 1,nt := 195,m := 0 }
def ef8l3 : Ty104 → St := fun (t9,t10,t12,t13,t18,t19,t20,x8,x9) => { tmps := [(9,(.vs (.rI .i64 t9) 0 1)),(10,(.vs (.rI .i64 t10) 0 1)),(12,(.int .i64 t12)),(13,(.vs (.rL .i64 t13) 0 1)),(15,(.own 0 0 1)),(18,(.int .i64 t18)),(19,(.int .i64 t19)),(20,(.int .i64 t20))],heap := [(0,(.cells x9 (.rI .i64 x8) true))],next := 1,nt := 195,m := 0 }
def ef8j17 : Ty104 → St := fun (t9,t10,t12,t13,t18,t19,t20,x8,x9) => { tmps := [(9,(.vs (.rI .i64 t9) 0 1)),(10,(.vs (.rI .i64 t10) 0 1)),(12,(.int .i64 t12)),(13,(.vs (.rL .i64 t13) 0 1)),(15,(.own 0 0 1)),(18,(.int .i64 t18)),(19,(.int .i64 t19)),(20,(.int .i64 t20))],heap := [(0,(.cells x9 (.rI .i64 x8) true))],next := 1,nt := 195,m := 0 }
def ef8j18 : Ty105 → St := fun (t9,t10,t12,t13,t18,t19,t20,t21,x9,x10) => { tmps := [(9,(.vs (.rI .i64 t9) 0 1)),(10,(.vs (.rI .i64 t10) 0 1)),(12,(.int .i64 t12)),(13,(.vs (.rL .i64 t13) 0 1)),(15,(.own 0 0 1)),(18,(.int .i64 t18)),(19,(.int .i64 t19)),(20,(.int .i64 t20)),(21,(.int .i64 t21))],heap := [(0,(.cells x10 (.rI .i64 x9) true))],next := 1,nt := 195,m := 0 }
def ef8l4 : Ty105 → St := fun (t9,t10,t12,t13,t18,t19,t20,t21,x9,x10) => { tmps := [(9,(.vs (.rI .i64 t9) 0 1)),(10,(.vs (.rI .i64 t10) 0 1)),(12,(.int .i64 t12)),(13,(.vs (.rL .i64 t13) 0 1)),(15,(.own 0 0 1)),(18,(.int .i64 t18)),(19,(.int .i64 t19)),(20,(.int .i64 t20)),(21,(.int .i64 t21))],heap := [(0,(.cells x10 (.rI .i64 x9) true))],next := 1,nt := 195,m := 0 }
def ef8j19 : Ty104 → St := fun (t9,t10,t12,t13,t18,t19,t20,x8,x9) => { tmps := [(9,(.vs (.rI .i64 t9) 0 1)),(10,(.vs (.rI .i64 t10) 0 1)),(12,(.int .i64 t12)),(13,(.vs (.rL .i64 t13) 0 1)),(15,(.own 0 0 1)),(18,(.int .i64 t18)),(19,(.int .i64 t19)),(20,(.int .i64 t20))],heap := [(0,(.cells x9 (.rI .i64 x8) true))],next := 1,nt := 195,m := 0 }
def ef8j20 : Ty103 → St := fun (t9,t10,t12,t13,t18,t19,x7,x8) => { tmps := [(9,(.vs (.rI .i64 t9) 0 1)),(10,(.vs (.rI .i64 t10) 0 1)),(12,(.int .i64 t12)),(13,(.vs (.rL .i64 t13) 0 1)),(15,(.own 0 0 1)),(18,(.int .i64 t18)),(19,(.int .i64 t19))],heap := [(0,(.cells x8 (.rI .i64 x7) true))],next := 1,nt := 195,m := 0 }
def ef8j21 : Ty102 → St := fun (t9,t10,t12,t13,t18,x6,x7) => { tmps := [(9,(.vs (.rI .i64 t9) 0 1)),(10,(.vs (.rI .i64 t10) 0 1)),(12,(.int .i64 t12)),(13,(.vs (.rL .i64 t13) 0 1)),(15,(.own 0 0 1)),(18,(.int .i64 t18))],heap := [(0,(.cells x7 (.rI .i64 x6) true))],next := 1,nt := 195,m := 0 }
def ef8j22 : Unit → St := fun _ => { tmps := [],heap := [],next := 0,nt := 195,m := 0 }
def f8_1 (F : Nat) (kf8j1 : Ty91 → Rz) : Ty91 → Rz := fun (a0,a1,a2,a3) => (kf8j1 (a0,a1,a2,a3))
theorem f8_1_eq (F : Nat) (Rf8j1 : St → Rz) : ∀ v,aexec VG388 (Af8 F) (bp Try.f8 2) (ef8_a v) (kSeq (kc VG388 Rf8j1 sp73) (kFin VG388 none (Try.f8).results.toList)) = f8_1 F (Rf8j1 ∘ ef8j1) v := by
  rintro ⟨a0,a1,a2,a3⟩; kernel_rfl
def f8_2 (F : Nat) (kf8j2 : Ty93 → Rz) : Ty91 → Rz := fun (t0,t1,t2,t3) => (cond ((decide (0 ≤ (40 : Int))) && (decide (Int.toNat (40 : Int) < 1073741000))) (kf8j2 (t1,t2,t3,(t0.take (Int.toNat (40 : Int))))) none)
theorem f8_2_eq (F : Nat) (Rf8j2 : St → Rz) : ∀ v,aexec VG388 (Af8 F) (bp Try.f8 6) (ef8j1 v) (kSeq (kc VG388 Rf8j2 sp74) (kFin VG388 none (Try.f8).results.toList)) = f8_2 F (Rf8j2 ∘ ef8j2) v := by
  rintro ⟨t0,t1,t2,t3⟩; kernel_rfl
def f8_3 (F : Nat) (kf8j3 : Ty94 → Rz) : Ty93 → Rz := fun (t1,t2,t3,t9) => (cond ((decide (0 ≤ (40 : Int))) && (decide (Int.toNat (40 : Int) < 1073741000))) (kf8j3 (t2,t3,t9,(t1.take (Int.toNat (40 : Int))))) none)
theorem f8_3_eq (F : Nat) (Rf8j3 : St → Rz) : ∀ v,aexec VG388 (Af8 F) (bp Try.f8 14) (ef8j2 v) (kSeq (kc VG388 Rf8j3 sp75) (kFin VG388 none (Try.f8).results.toList)) = f8_3 F (Rf8j3 ∘ ef8j3) v := by
  rintro ⟨t1,t2,t3,t9⟩; kernel_rfl
def f8_4 (F : Nat) (kf8j4 : Ty94 → Rz) : Ty94 → Rz := fun (t2,t3,t9,t10) => (cond ((decide (0 ≤ (40 : Int))) && (decide (Int.toNat (40 : Int) < 1073741000))) (kf8j4 (t2,t9,t10,(t3.take (Int.toNat (40 : Int))))) none)
theorem f8_4_eq (F : Nat) (Rf8j4 : St → Rz) : ∀ v,aexec VG388 (Af8 F) (bp Try.f8 30) (ef8j3 v) (kSeq (kc VG388 Rf8j4 sp76) (kFin VG388 none (Try.f8).results.toList)) = f8_4 F (Rf8j4 ∘ ef8j4) v := by
  rintro ⟨t2,t3,t9,t10⟩; kernel_rfl
def f8_5 (F : Nat) (kf8j5 : Ty95 → Rz) : Ty94 → Rz := fun (t2,t9,t10,t11) => (cond (decide (0 < (10 : Int))) (kf8j5 (t9,t10,t11,(IntKind.i64.wrap ((Reg.around t2 (10 : Int)) - (1 : Int))))) none)
theorem f8_5_eq (F : Nat) (Rf8j5 : St → Rz) : ∀ v,aexec VG388 (Af8 F) (bp Try.f8 62) (ef8j4 v) (kSeq (kc VG388 Rf8j5 sp77) (kFin VG388 none (Try.f8).results.toList)) = f8_5 F (Rf8j5 ∘ ef8j5) v := by
  rintro ⟨t2,t9,t10,t11⟩; kernel_rfl
def f8_6 (F : Nat) (kf8j6 : Ty96 → Rz) : Ty95 → Rz := fun (t9,t10,t11,t12) => (cond ((decide (t9.length < 1073741000)) && ((decide (-1 ≤ t12)) && (decide (t12 < 9)))) (kf8j6 (t9,t10,t11,t12,(Reg.shares t9 t12))) none)
theorem f8_6_eq (F : Nat) (Rf8j6 : St → Rz) : ∀ v,aexec VG388 (Af8 F) (bp Try.f8 126) (ef8j5 v) (kSeq (kc VG388 Rf8j6 sp78) (kFin VG388 none (Try.f8).results.toList)) = f8_6 F (Rf8j6 ∘ ef8j6) v := by
  rintro ⟨t9,t10,t11,t12⟩; kernel_rfl
def f8_7 (F : Nat) (kf8j7 : Ty97 → Rz) : Ty96 → Rz := fun (t9,t10,t11,t12,t13) => (cond (decide (t9.length < 1073741000)) (kf8j7 (t9,t10,t11,t12,t13,(Reg.moves t9 t10),(Reg.movesN t9 t10))) none)
theorem f8_7_eq (F : Nat) (Rf8j7 : St → Rz) : ∀ v,aexec VG388 (Af8 F) (bp Try.f8 254) (ef8j6 v) (kSeq (kc VG388 Rf8j7 sp79) (kFin VG388 none (Try.f8).results.toList)) = f8_7 F (Rf8j7 ∘ ef8j7) v := by
  rintro ⟨t9,t10,t11,t12,t13⟩; kernel_rfl
def f8_8 (F : Nat) (kf8j8 : Ty98 → Rz) : Ty97 → Rz := fun (t9,t10,t11,t12,t13,t14,x7) => (cond (decide (t9.length < 1073741000)) (cond ((decide (t14.length = x7 * 3)) && (decide ((Reg.moves t9 t10).length = (Reg.movesN t9 t10) * 3))) (cond (!((decide (x7 = (Reg.movesN t9 t10))) && (decide (t14 = (Reg.moves t9 t10))))) (some ((.bool false),[])) (cond (decide (t9.length < 1073741000)) (cond (!(decide (t13 = (Reg.shares t9 t12)))) (some ((.bool false),[])) (cond (decide (t11.length < 1073741000)) (cond (decide (t11.length < 1073741000)) (cond (!(decide ((Reg.need t11 t9) = (Reg.need t11 t9)))) (some ((.bool false),[])) (kf8j8 (t9,t10,t12,t13,t14,x7))) none) none)) none)) none) none)
theorem f8_8_eq (F : Nat) (Rf8j8 : St → Rz) : ∀ v,aexec VG388 (Af8 F) (bp Try.f8 510) (ef8j7 v) (kSeq (kc VG388 Rf8j8 sp80) (kFin VG388 none (Try.f8).results.toList)) = f8_8 F (Rf8j8 ∘ ef8j8) v := by
  rintro ⟨t9,t10,t11,t12,t13,t14,x7⟩; kernel_rfl
def f8_9 (F : Nat) (kf8j9 : Ty99 → Rz) : Ty98 → Rz := fun (t9,t10,t12,t13,t14,x6) => (cond (decide ((0 + t9.length) < 1073741824)) (kf8j9 (t9,t10,t12,t13,t14,x6,([] ++ t9))) none)
theorem f8_9_eq (F : Nat) (Rf8j9 : St → Rz) : ∀ v,aexec VG388 (Af8 F) (bp Try.f8 1022) (ef8j8 v) (kSeq (kc VG388 Rf8j9 sp81) (kFin VG388 none (Try.f8).results.toList)) = f8_9 F (Rf8j9 ∘ ef8j9) v := by
  rintro ⟨t9,t10,t12,t13,t14,x6⟩; kernel_rfl
def f8_10 (F : Nat) (kf8j10 : Ty100 → Rz) (kf8j11 : Ty98 → Rz) : Ty99 → Rz := fun (t9,t10,t12,t13,t14,x6,x7) => (kf8j10 (t9,t10,t12,t13,t14,x6,(0 : Int),x7))
theorem f8_10_eq (F : Nat) (Rf8j10 : St → Rz) (Rf8j11 : St → Rz) : ∀ v,aexec VG388 (Af8 F) (bp Try.f8 4092) (ef8j9 v) (kSeq (kc VG388 Rf8j10 sp69) (kSeq (kc VG388 Rf8j11 sp82) (kFin VG388 none (Try.f8).results.toList))) = f8_10 F (Rf8j10 ∘ ef8j10) (Rf8j11 ∘ ef8j11) v := by
  rintro ⟨t9,t10,t12,t13,t14,x6,x7⟩; kernel_rfl
def f8_11 (F : Nat) (kf8l1 : Ty101 → Rz) (kf8j11 : Ty98 → Rz) : Ty101 → Rz := fun (t9,t10,t12,t13,t14,x6,t16,x8,x9) => (cond (decide (t16 < (↑x6 : Int))) (cond ((decide (0 ≤ t16)) && (decide (t16 < (↑x6 : Int)))) (cond (decide ((t14.getD (0 + ((Int.toNat t16) * 3)) 0) < (0 : Int))) (some ((.bool false),[])) (cond (decide ((t14.getD (0 + ((Int.toNat t16) * 3)) 0) ≥ (↑x8.length : Int))) (some ((.bool false),[])) (cond ((decide (0 ≤ (t14.getD (0 + ((Int.toNat t16) * 3)) 0))) && (decide ((t14.getD (0 + ((Int.toNat t16) * 3)) 0) < (↑x8.length : Int)))) (cond ((decide (0 ≤ t16)) && (decide (t16 < (↑x6 : Int)))) (cond ((x8.getD (Int.toNat (t14.getD (0 + ((Int.toNat t16) * 3)) 0)) 0) != (t14.getD (1 + ((Int.toNat t16) * 3)) 0)) (some ((.bool false),[])) (cond ((decide (0 ≤ t16)) && (decide (t16 < (↑x6 : Int)))) (cond ((decide (0 ≤ (t14.getD (0 + ((Int.toNat t16) * 3)) 0))) && (decide ((t14.getD (0 + ((Int.toNat t16) * 3)) 0) < (↑x8.length : Int)))) (kf8l1 (t9,t10,t12,t13,t14,x6,(IntKind.i64.wrap (t16 + (1 : Int))),(x8.set (Int.toNat (t14.getD (0 + ((Int.toNat t16) * 3)) 0)) (t14.getD (2 + ((Int.toNat t16) * 3)) 0)),x9)) none) none)) none) none))) none) (kf8j11 (t9,t10,t12,t13,x8,x9)))
theorem f8_11_eq (F : Nat) (Rf8l1 : St → Rz) (Rf8j11 : St → Rz) : ∀ v,aexec VG388 (Af8 F) (bp Try.f8 16372) (ef8l1 v) (kSeq (kc VG388 Rf8l1 sp69) (kBlock 0 (kSeq (kc VG388 Rf8j11 sp82) (kFin VG388 none (Try.f8).results.toList)))) = f8_11 F (Rf8l1 ∘ ef8l1) (Rf8j11 ∘ ef8j11) v := by
  rintro ⟨t9,t10,t12,t13,t14,x6,t16,x8,x9⟩; kernel_rfl
def f8_12_i : Ty100 → (List Int) × (List Int) × Int × (List (List Int)) × (List Int) × Nat × Int × (List Int) × Nat := fun (t9,t10,t12,t13,t14,x6,t16,x8) => (t9,t10,t12,t13,t14,x6,t16,x8,x8.length)
def f8_12 (F : Nat) (kf8j11 : Ty98 → Rz) : Ty100 → Rz := fun v => loopN (fun k => f8_11 F k kf8j11) F (f8_12_i v)
theorem f8_12_eq (F : Nat) (Rf8j11 : St → Rz) : ∀ v,aexec VG388 (Af8 F) (bp Try.f8 8186) (ef8j10 v) (kBlock 0 (kSeq (kc VG388 Rf8j11 sp82) (kFin VG388 none (Try.f8).results.toList))) = f8_12 F (Rf8j11 ∘ ef8j11) v :=
  loop_cut (by kernel_rfl) (by kernel_rfl) ef8j10 ef8l1 _ f8_12_i (fun k => f8_11 F k (Rf8j11 ∘ ef8j11))
    (by rintro ⟨t9,t10,t12,t13,t14,x6,t16,x8⟩; kernel_rfl) (fun Rf8l1 => f8_11_eq F Rf8l1 Rf8j11)
def f8_13 (F : Nat) (kf8j11 : Ty98 → Rz) : Ty100 → Rz := f8_12 F kf8j11
theorem f8_13_eq (F : Nat) (Rf8j11 : St → Rz) : ∀ v,aexec VG388 (Af8 F) (bp Try.f8 4093) (ef8j10 v) (kSeq (kc VG388 Rf8j11 sp82) (kFin VG388 none (Try.f8).results.toList)) = f8_13 F (Rf8j11 ∘ ef8j11) v := fun v =>
  (block_in  (by kernel_rfl) _ _).trans (f8_12_eq F Rf8j11 v)
def f8_14 (F : Nat) (kf8j11 : Ty98 → Rz) : Ty99 → Rz := fun v => f8_10 F (f8_13 F kf8j11) kf8j11 v
theorem f8_14_eq (F : Nat) (Rf8j11 : St → Rz) : ∀ v,aexec VG388 (Af8 F) (bp Try.f8 2046) (ef8j9 v) (kSeq (kc VG388 Rf8j11 sp82) (kFin VG388 none (Try.f8).results.toList)) = f8_14 F (Rf8j11 ∘ ef8j11) v :=
  seq_cut (by kernel_rfl) (by kernel_rfl) ef8j9 ef8j10 _ (fun k => f8_10 F k (Rf8j11 ∘ ef8j11)) (f8_13 F (Rf8j11 ∘ ef8j11))
    (fun Rf8j10 => f8_10_eq F Rf8j10 Rf8j11) (f8_13_eq F Rf8j11)
def f8_15 (F : Nat) (kf8j12 : Ty102 → Rz) (kf8j22 : Unit → Rz) : Ty98 → Rz := fun (t9,t10,t12,t13,x5,x6) => (kf8j12 (t9,t10,t12,t13,(0 : Int),x5,x6))
theorem f8_15_eq (F : Nat) (Rf8j12 : St → Rz) (Rf8j22 : St → Rz) : ∀ v,aexec VG388 (Af8 F) (bp Try.f8 8188) (ef8j11 v) (kSeq (kc VG388 Rf8j12 sp70) (kSeq (kc VG388 Rf8j22 []) (kFin VG388 none (Try.f8).results.toList))) = f8_15 F (Rf8j12 ∘ ef8j12) (Rf8j22 ∘ ef8j22) v := by
  rintro ⟨t9,t10,t12,t13,x5,x6⟩; kernel_rfl
def f8_16 (F : Nat) (kf8j13 : Ty102 → Rz) (kf8l2 : Ty102 → Rz) (kf8j22 : Unit → Rz) : Ty102 → Rz := fun (t9,t10,t12,t13,t18,x6,x7) => (cond (decide (t18 < (↑x6.length : Int))) (kf8j13 (t9,t10,t12,t13,t18,x6,x7)) (kf8j22 ()))
theorem f8_16_eq (F : Nat) (Rf8j13 : St → Rz) (Rf8l2 : St → Rz) (Rf8j22 : St → Rz) : ∀ v,aexec VG388 (Af8 F) (bp Try.f8 65512) (ef8l2 v) (kSeq (kc VG388 Rf8j13 sp70) (kSeq (kc VG388 Rf8l2 sp70) (kBlock 2 (kSeq (kc VG388 Rf8j22 []) (kFin VG388 none (Try.f8).results.toList))))) = f8_16 F (Rf8j13 ∘ ef8j13) (Rf8l2 ∘ ef8l2) (Rf8j22 ∘ ef8j22) v := by
  rintro ⟨t9,t10,t12,t13,t18,x6,x7⟩; kernel_rfl
def f8_17 (F : Nat) (kf8j14 : Ty102 → Rz) (kf8j21 : Ty102 → Rz) (kf8l2 : Ty102 → Rz) (kf8j22 : Unit → Rz) : Ty102 → Rz := fun (t9,t10,t12,t13,t18,x6,x7) => (cond (decide (t18 < (↑t10.length : Int))) (cond ((decide (0 ≤ t18)) && (decide (t18 < (↑x6.length : Int)))) (cond ((decide (0 ≤ t18)) && (decide (t18 < (↑t10.length : Int)))) (cond ((x6.getD (Int.toNat t18) 0) != (t10.getD (Int.toNat t18) 0)) (some ((.bool false),[])) (cond (decide (t18 ≥ (↑t10.length : Int))) (cond ((decide (0 ≤ t18)) && (decide (t18 < (↑x6.length : Int)))) (cond ((decide (0 ≤ t18)) && (decide (t18 < (↑t9.length : Int)))) (cond ((x6.getD (Int.toNat t18) 0) != (t9.getD (Int.toNat t18) 0)) (some ((.bool false),[])) (kf8j14 (t9,t10,t12,t13,t18,x6,x7))) none) none) (kf8j14 (t9,t10,t12,t13,t18,x6,x7)))) none) none) (cond (decide (t18 ≥ (↑t10.length : Int))) (cond ((decide (0 ≤ t18)) && (decide (t18 < (↑x6.length : Int)))) (cond ((decide (0 ≤ t18)) && (decide (t18 < (↑t9.length : Int)))) (cond ((x6.getD (Int.toNat t18) 0) != (t9.getD (Int.toNat t18) 0)) (some ((.bool false),[])) (kf8j14 (t9,t10,t12,t13,t18,x6,x7))) none) none) (kf8j14 (t9,t10,t12,t13,t18,x6,x7))))
theorem f8_17_eq (F : Nat) (Rf8j14 : St → Rz) (Rf8j21 : St → Rz) (Rf8l2 : St → Rz) (Rf8j22 : St → Rz) : ∀ v,aexec VG388 (Af8 F) (bp Try.f8 524104) (ef8j13 v) (kSeq (kc VG388 Rf8j14 sp70) (kBlock 3 (kSeq (kc VG388 Rf8j21 sp70) (kSeq (kc VG388 Rf8l2 sp70) (kBlock 2 (kSeq (kc VG388 Rf8j22 []) (kFin VG388 none (Try.f8).results.toList))))))) = f8_17 F (Rf8j14 ∘ ef8j14) (Rf8j21 ∘ ef8j21) (Rf8l2 ∘ ef8l2) (Rf8j22 ∘ ef8j22) v := by
  rintro ⟨t9,t10,t12,t13,t18,x6,x7⟩; kernel_rfl
def f8_18 (F : Nat) (kf8j15 : Ty103 → Rz) (kf8j21 : Ty102 → Rz) (kf8l2 : Ty102 → Rz) (kf8j22 : Unit → Rz) : Ty102 → Rz := fun (t9,t10,t12,t13,t18,x6,x7) => (kf8j15 (t9,t10,t12,t13,t18,(0 : Int),x6,x7))
theorem f8_18_eq (F : Nat) (Rf8j15 : St → Rz) (Rf8j21 : St → Rz) (Rf8l2 : St → Rz) (Rf8j22 : St → Rz) : ∀ v,aexec VG388 (Af8 F) (bp Try.f8 1048210) (ef8j14 v) (kSeq (kc VG388 Rf8j15 sp83) (kBlock 3 (kSeq (kc VG388 Rf8j21 sp70) (kSeq (kc VG388 Rf8l2 sp70) (kBlock 2 (kSeq (kc VG388 Rf8j22 []) (kFin VG388 none (Try.f8).results.toList))))))) = f8_18 F (Rf8j15 ∘ ef8j15) (Rf8j21 ∘ ef8j21) (Rf8l2 ∘ ef8l2) (Rf8j22 ∘ ef8j22) v := by
  rintro ⟨t9,t10,t12,t13,t18,x6,x7⟩; kernel_rfl
def f8_19 (F : Nat) (kf8j16 : Ty104 → Rz) (kf8j20 : Ty103 → Rz) (kf8j21 : Ty102 → Rz) (kf8l2 : Ty102 → Rz) (kf8j22 : Unit → Rz) : Ty103 → Rz := fun (t9,t10,t12,t13,t18,t19,x7,x8) => (kf8j16 (t9,t10,t12,t13,t18,t19,(0 : Int),x7,x8))
theorem f8_19_eq (F : Nat) (Rf8j16 : St → Rz) (Rf8j20 : St → Rz) (Rf8j21 : St → Rz) (Rf8l2 : St → Rz) (Rf8j22 : St → Rz) : ∀ v,aexec VG388 (Af8 F) (bp Try.f8 4192844) (ef8j15 v) (kSeq (kc VG388 Rf8j16 sp71) (kSeq (kc VG388 Rf8j20 sp83) (kBlock 3 (kSeq (kc VG388 Rf8j21 sp70) (kSeq (kc VG388 Rf8l2 sp70) (kBlock 2 (kSeq (kc VG388 Rf8j22 []) (kFin VG388 none (Try.f8).results.toList)))))))) = f8_19 F (Rf8j16 ∘ ef8j16) (Rf8j20 ∘ ef8j20) (Rf8j21 ∘ ef8j21) (Rf8l2 ∘ ef8l2) (Rf8j22 ∘ ef8j22) v := by
  rintro ⟨t9,t10,t12,t13,t18,t19,x7,x8⟩; kernel_rfl
def f8_20 (F : Nat) (kf8j17 : Ty104 → Rz) (kf8l3 : Ty104 → Rz) (kf8j20 : Ty103 → Rz) (kf8j21 : Ty102 → Rz) (kf8l2 : Ty102 → Rz) (kf8j22 : Unit → Rz) : Ty104 → Rz := fun (t9,t10,t12,t13,t18,t19,t20,x8,x9) => (cond (decide (t20 < (↑t13.length : Int))) (kf8j17 (t9,t10,t12,t13,t18,t19,t20,x8,x9)) (kf8j20 (t9,t10,t12,t13,t18,t19,x8,x9)))
theorem f8_20_eq (F : Nat) (Rf8j17 : St → Rz) (Rf8l3 : St → Rz) (Rf8j20 : St → Rz) (Rf8j21 : St → Rz) (Rf8l2 : St → Rz) (Rf8j22 : St → Rz) : ∀ v,aexec VG388 (Af8 F) (bp Try.f8 33542760) (ef8l3 v) (kSeq (kc VG388 Rf8j17 sp71) (kSeq (kc VG388 Rf8l3 sp71) (kBlock 4 (kSeq (kc VG388 Rf8j20 sp83) (kBlock 3 (kSeq (kc VG388 Rf8j21 sp70) (kSeq (kc VG388 Rf8l2 sp70) (kBlock 2 (kSeq (kc VG388 Rf8j22 []) (kFin VG388 none (Try.f8).results.toList)))))))))) = f8_20 F (Rf8j17 ∘ ef8j17) (Rf8l3 ∘ ef8l3) (Rf8j20 ∘ ef8j20) (Rf8j21 ∘ ef8j21) (Rf8l2 ∘ ef8l2) (Rf8j22 ∘ ef8j22) v := by
  rintro ⟨t9,t10,t12,t13,t18,t19,t20,x8,x9⟩; kernel_rfl
def f8_21 (F : Nat) (kf8j18 : Ty105 → Rz) (kf8j19 : Ty104 → Rz) (kf8l3 : Ty104 → Rz) (kf8j20 : Ty103 → Rz) (kf8j21 : Ty102 → Rz) (kf8l2 : Ty102 → Rz) (kf8j22 : Unit → Rz) : Ty104 → Rz := fun (t9,t10,t12,t13,t18,t19,t20,x8,x9) => (kf8j18 (t9,t10,t12,t13,t18,t19,t20,(0 : Int),x8,x9))
theorem f8_21_eq (F : Nat) (Rf8j18 : St → Rz) (Rf8j19 : St → Rz) (Rf8l3 : St → Rz) (Rf8j20 : St → Rz) (Rf8j21 : St → Rz) (Rf8l2 : St → Rz) (Rf8j22 : St → Rz) : ∀ v,aexec VG388 (Af8 F) (bp Try.f8 268342088) (ef8j17 v) (kSeq (kc VG388 Rf8j18 sp72) (kBlock 5 (kSeq (kc VG388 Rf8j19 sp71) (kSeq (kc VG388 Rf8l3 sp71) (kBlock 4 (kSeq (kc VG388 Rf8j20 sp83) (kBlock 3 (kSeq (kc VG388 Rf8j21 sp70) (kSeq (kc VG388 Rf8l2 sp70) (kBlock 2 (kSeq (kc VG388 Rf8j22 []) (kFin VG388 none (Try.f8).results.toList)))))))))))) = f8_21 F (Rf8j18 ∘ ef8j18) (Rf8j19 ∘ ef8j19) (Rf8l3 ∘ ef8l3) (Rf8j20 ∘ ef8j20) (Rf8j21 ∘ ef8j21) (Rf8l2 ∘ ef8l2) (Rf8j22 ∘ ef8j22) v := by
  rintro ⟨t9,t10,t12,t13,t18,t19,t20,x8,x9⟩; kernel_rfl
def f8_22 (F : Nat) (kf8l4 : Ty105 → Rz) (kf8j19 : Ty104 → Rz) (kf8l3 : Ty104 → Rz) (kf8j20 : Ty103 → Rz) (kf8j21 : Ty102 → Rz) (kf8l2 : Ty102 → Rz) (kf8j22 : Unit → Rz) : Ty105 → Rz := fun (t9,t10,t12,t13,t18,t19,t20,t21,x9,x10) => (cond ((decide (0 ≤ t20)) && (decide (t20 < (↑t13.length : Int)))) (cond (decide (t21 < (↑(t13.getD (Int.toNat t20) []).length : Int))) (cond ((decide (0 ≤ t20)) && (decide (t20 < (↑t13.length : Int)))) (cond ((decide (0 ≤ t21)) && (decide (t21 < (↑(t13.getD (Int.toNat t20) []).length : Int)))) (cond (((t13.getD (Int.toNat t20) []).getD (Int.toNat t21) 0) == t18) (kf8l4 (t9,t10,t12,t13,t18,(IntKind.i64.wrap (t19 + (1 : Int))),t20,(IntKind.i64.wrap (t21 + (1 : Int))),x9,x10)) (kf8l4 (t9,t10,t12,t13,t18,t19,t20,(IntKind.i64.wrap (t21 + (1 : Int))),x9,x10))) none) none) (kf8j19 (t9,t10,t12,t13,t18,t19,t20,x9,x10))) none)
theorem f8_22_eq (F : Nat) (Rf8l4 : St → Rz) (Rf8j19 : St → Rz) (Rf8l3 : St → Rz) (Rf8j20 : St → Rz) (Rf8j21 : St → Rz) (Rf8l2 : St → Rz) (Rf8j22 : St → Rz) : ∀ v,aexec VG388 (Af8 F) (bp Try.f8 1073368356) (ef8l4 v) (kSeq (kc VG388 Rf8l4 sp72) (kBlock 6 (kBlock 5 (kSeq (kc VG388 Rf8j19 sp71) (kSeq (kc VG388 Rf8l3 sp71) (kBlock 4 (kSeq (kc VG388 Rf8j20 sp83) (kBlock 3 (kSeq (kc VG388 Rf8j21 sp70) (kSeq (kc VG388 Rf8l2 sp70) (kBlock 2 (kSeq (kc VG388 Rf8j22 []) (kFin VG388 none (Try.f8).results.toList))))))))))))) = f8_22 F (Rf8l4 ∘ ef8l4) (Rf8j19 ∘ ef8j19) (Rf8l3 ∘ ef8l3) (Rf8j20 ∘ ef8j20) (Rf8j21 ∘ ef8j21) (Rf8l2 ∘ ef8l2) (Rf8j22 ∘ ef8j22) v := by
  rintro ⟨t9,t10,t12,t13,t18,t19,t20,t21,x9,x10⟩; kernel_rfl
def f8_23_i : Ty105 → (List Int) × (List Int) × Int × (List (List Int)) × Int × Int × Int × Int × (List Int) × Nat := fun (t9,t10,t12,t13,t18,t19,t20,t21,x9,x10) => (t9,t10,t12,t13,t18,t19,t20,t21,x9,x10)
def f8_23 (F : Nat) (kf8j19 : Ty104 → Rz) (kf8l3 : Ty104 → Rz) (kf8j20 : Ty103 → Rz) (kf8j21 : Ty102 → Rz) (kf8l2 : Ty102 → Rz) (kf8j22 : Unit → Rz) : Ty105 → Rz := fun v => loopN (fun k => f8_22 F k kf8j19 kf8l3 kf8j20 kf8j21 kf8l2 kf8j22) F (f8_23_i v)
theorem f8_23_eq (F : Nat) (Rf8j19 : St → Rz) (Rf8l3 : St → Rz) (Rf8j20 : St → Rz) (Rf8j21 : St → Rz) (Rf8l2 : St → Rz) (Rf8j22 : St → Rz) : ∀ v,aexec VG388 (Af8 F) (bp Try.f8 536684178) (ef8j18 v) (kBlock 6 (kBlock 5 (kSeq (kc VG388 Rf8j19 sp71) (kSeq (kc VG388 Rf8l3 sp71) (kBlock 4 (kSeq (kc VG388 Rf8j20 sp83) (kBlock 3 (kSeq (kc VG388 Rf8j21 sp70) (kSeq (kc VG388 Rf8l2 sp70) (kBlock 2 (kSeq (kc VG388 Rf8j22 []) (kFin VG388 none (Try.f8).results.toList)))))))))))) = f8_23 F (Rf8j19 ∘ ef8j19) (Rf8l3 ∘ ef8l3) (Rf8j20 ∘ ef8j20) (Rf8j21 ∘ ef8j21) (Rf8l2 ∘ ef8l2) (Rf8j22 ∘ ef8j22) v :=
  loop_cut (by kernel_rfl) (by kernel_rfl) ef8j18 ef8l4 _ f8_23_i (fun k => f8_22 F k (Rf8j19 ∘ ef8j19) (Rf8l3 ∘ ef8l3) (Rf8j20 ∘ ef8j20) (Rf8j21 ∘ ef8j21) (Rf8l2 ∘ ef8l2) (Rf8j22 ∘ ef8j22))
    (by rintro ⟨t9,t10,t12,t13,t18,t19,t20,t21,x9,x10⟩; kernel_rfl) (fun Rf8l4 => f8_22_eq F Rf8l4 Rf8j19 Rf8l3 Rf8j20 Rf8j21 Rf8l2 Rf8j22)
def f8_24 (F : Nat) (kf8j19 : Ty104 → Rz) (kf8l3 : Ty104 → Rz) (kf8j20 : Ty103 → Rz) (kf8j21 : Ty102 → Rz) (kf8l2 : Ty102 → Rz) (kf8j22 : Unit → Rz) : Ty105 → Rz := f8_23 F kf8j19 kf8l3 kf8j20 kf8j21 kf8l2 kf8j22
theorem f8_24_eq (F : Nat) (Rf8j19 : St → Rz) (Rf8l3 : St → Rz) (Rf8j20 : St → Rz) (Rf8j21 : St → Rz) (Rf8l2 : St → Rz) (Rf8j22 : St → Rz) : ∀ v,aexec VG388 (Af8 F) (bp Try.f8 268342089) (ef8j18 v) (kBlock 5 (kSeq (kc VG388 Rf8j19 sp71) (kSeq (kc VG388 Rf8l3 sp71) (kBlock 4 (kSeq (kc VG388 Rf8j20 sp83) (kBlock 3 (kSeq (kc VG388 Rf8j21 sp70) (kSeq (kc VG388 Rf8l2 sp70) (kBlock 2 (kSeq (kc VG388 Rf8j22 []) (kFin VG388 none (Try.f8).results.toList))))))))))) = f8_24 F (Rf8j19 ∘ ef8j19) (Rf8l3 ∘ ef8l3) (Rf8j20 ∘ ef8j20) (Rf8j21 ∘ ef8j21) (Rf8l2 ∘ ef8l2) (Rf8j22 ∘ ef8j22) v := fun v =>
  (block_in  (by kernel_rfl) _ _).trans (f8_23_eq F Rf8j19 Rf8l3 Rf8j20 Rf8j21 Rf8l2 Rf8j22 v)
def f8_25 (F : Nat) (kf8j19 : Ty104 → Rz) (kf8l3 : Ty104 → Rz) (kf8j20 : Ty103 → Rz) (kf8j21 : Ty102 → Rz) (kf8l2 : Ty102 → Rz) (kf8j22 : Unit → Rz) : Ty104 → Rz := fun v => f8_21 F (f8_24 F kf8j19 kf8l3 kf8j20 kf8j21 kf8l2 kf8j22) kf8j19 kf8l3 kf8j20 kf8j21 kf8l2 kf8j22 v
theorem f8_25_eq (F : Nat) (Rf8j19 : St → Rz) (Rf8l3 : St → Rz) (Rf8j20 : St → Rz) (Rf8j21 : St → Rz) (Rf8l2 : St → Rz) (Rf8j22 : St → Rz) : ∀ v,aexec VG388 (Af8 F) (bp Try.f8 134171044) (ef8j17 v) (kBlock 5 (kSeq (kc VG388 Rf8j19 sp71) (kSeq (kc VG388 Rf8l3 sp71) (kBlock 4 (kSeq (kc VG388 Rf8j20 sp83) (kBlock 3 (kSeq (kc VG388 Rf8j21 sp70) (kSeq (kc VG388 Rf8l2 sp70) (kBlock 2 (kSeq (kc VG388 Rf8j22 []) (kFin VG388 none (Try.f8).results.toList))))))))))) = f8_25 F (Rf8j19 ∘ ef8j19) (Rf8l3 ∘ ef8l3) (Rf8j20 ∘ ef8j20) (Rf8j21 ∘ ef8j21) (Rf8l2 ∘ ef8l2) (Rf8j22 ∘ ef8j22) v :=
  seq_cut (by kernel_rfl) (by kernel_rfl) ef8j17 ef8j18 _ (fun k => f8_21 F k (Rf8j19 ∘ ef8j19) (Rf8l3 ∘ ef8l3) (Rf8j20 ∘ ef8j20) (Rf8j21 ∘ ef8j21) (Rf8l2 ∘ ef8l2) (Rf8j22 ∘ ef8j22)) (f8_24 F (Rf8j19 ∘ ef8j19) (Rf8l3 ∘ ef8l3) (Rf8j20 ∘ ef8j20) (Rf8j21 ∘ ef8j21) (Rf8l2 ∘ ef8l2) (Rf8j22 ∘ ef8j22))
    (fun Rf8j18 => f8_21_eq F Rf8j18 Rf8j19 Rf8l3 Rf8j20 Rf8j21 Rf8l2 Rf8j22) (f8_24_eq F Rf8j19 Rf8l3 Rf8j20 Rf8j21 Rf8l2 Rf8j22)
def f8_26 (F : Nat) (kf8j19 : Ty104 → Rz) (kf8l3 : Ty104 → Rz) (kf8j20 : Ty103 → Rz) (kf8j21 : Ty102 → Rz) (kf8l2 : Ty102 → Rz) (kf8j22 : Unit → Rz) : Ty104 → Rz := f8_25 F kf8j19 kf8l3 kf8j20 kf8j21 kf8l2 kf8j22
theorem f8_26_eq (F : Nat) (Rf8j19 : St → Rz) (Rf8l3 : St → Rz) (Rf8j20 : St → Rz) (Rf8j21 : St → Rz) (Rf8l2 : St → Rz) (Rf8j22 : St → Rz) : ∀ v,aexec VG388 (Af8 F) (bp Try.f8 67085522) (ef8j17 v) (kSeq (kc VG388 Rf8j19 sp71) (kSeq (kc VG388 Rf8l3 sp71) (kBlock 4 (kSeq (kc VG388 Rf8j20 sp83) (kBlock 3 (kSeq (kc VG388 Rf8j21 sp70) (kSeq (kc VG388 Rf8l2 sp70) (kBlock 2 (kSeq (kc VG388 Rf8j22 []) (kFin VG388 none (Try.f8).results.toList)))))))))) = f8_26 F (Rf8j19 ∘ ef8j19) (Rf8l3 ∘ ef8l3) (Rf8j20 ∘ ef8j20) (Rf8j21 ∘ ef8j21) (Rf8l2 ∘ ef8l2) (Rf8j22 ∘ ef8j22) v := fun v =>
  (block_in  (by kernel_rfl) _ _).trans (f8_25_eq F Rf8j19 Rf8l3 Rf8j20 Rf8j21 Rf8l2 Rf8j22 v)
def f8_27 (F : Nat) (kf8l3 : Ty104 → Rz) (kf8j20 : Ty103 → Rz) (kf8j21 : Ty102 → Rz) (kf8l2 : Ty102 → Rz) (kf8j22 : Unit → Rz) : Ty104 → Rz := fun (t9,t10,t12,t13,t18,t19,t20,x8,x9) => (kf8l3 (t9,t10,t12,t13,t18,t19,(IntKind.i64.wrap (t20 + (1 : Int))),x8,x9))
theorem f8_27_eq (F : Nat) (Rf8l3 : St → Rz) (Rf8j20 : St → Rz) (Rf8j21 : St → Rz) (Rf8l2 : St → Rz) (Rf8j22 : St → Rz) : ∀ v,aexec VG388 (Af8 F) (bp Try.f8 67085523) (ef8j19 v) (kSeq (kc VG388 Rf8l3 sp71) (kBlock 4 (kSeq (kc VG388 Rf8j20 sp83) (kBlock 3 (kSeq (kc VG388 Rf8j21 sp70) (kSeq (kc VG388 Rf8l2 sp70) (kBlock 2 (kSeq (kc VG388 Rf8j22 []) (kFin VG388 none (Try.f8).results.toList))))))))) = f8_27 F (Rf8l3 ∘ ef8l3) (Rf8j20 ∘ ef8j20) (Rf8j21 ∘ ef8j21) (Rf8l2 ∘ ef8l2) (Rf8j22 ∘ ef8j22) v := by
  rintro ⟨t9,t10,t12,t13,t18,t19,t20,x8,x9⟩; kernel_rfl
def f8_28 (F : Nat) (kf8l3 : Ty104 → Rz) (kf8j20 : Ty103 → Rz) (kf8j21 : Ty102 → Rz) (kf8l2 : Ty102 → Rz) (kf8j22 : Unit → Rz) : Ty104 → Rz := fun v => f8_26 F (f8_27 F kf8l3 kf8j20 kf8j21 kf8l2 kf8j22) kf8l3 kf8j20 kf8j21 kf8l2 kf8j22 v
theorem f8_28_eq (F : Nat) (Rf8l3 : St → Rz) (Rf8j20 : St → Rz) (Rf8j21 : St → Rz) (Rf8l2 : St → Rz) (Rf8j22 : St → Rz) : ∀ v,aexec VG388 (Af8 F) (bp Try.f8 33542761) (ef8j17 v) (kSeq (kc VG388 Rf8l3 sp71) (kBlock 4 (kSeq (kc VG388 Rf8j20 sp83) (kBlock 3 (kSeq (kc VG388 Rf8j21 sp70) (kSeq (kc VG388 Rf8l2 sp70) (kBlock 2 (kSeq (kc VG388 Rf8j22 []) (kFin VG388 none (Try.f8).results.toList))))))))) = f8_28 F (Rf8l3 ∘ ef8l3) (Rf8j20 ∘ ef8j20) (Rf8j21 ∘ ef8j21) (Rf8l2 ∘ ef8l2) (Rf8j22 ∘ ef8j22) v :=
  seq_cut (by kernel_rfl) (by kernel_rfl) ef8j17 ef8j19 _ (fun k => f8_26 F k (Rf8l3 ∘ ef8l3) (Rf8j20 ∘ ef8j20) (Rf8j21 ∘ ef8j21) (Rf8l2 ∘ ef8l2) (Rf8j22 ∘ ef8j22)) (f8_27 F (Rf8l3 ∘ ef8l3) (Rf8j20 ∘ ef8j20) (Rf8j21 ∘ ef8j21) (Rf8l2 ∘ ef8l2) (Rf8j22 ∘ ef8j22))
    (fun Rf8j19 => f8_26_eq F Rf8j19 Rf8l3 Rf8j20 Rf8j21 Rf8l2 Rf8j22) (f8_27_eq F Rf8l3 Rf8j20 Rf8j21 Rf8l2 Rf8j22)
def f8_29 (F : Nat) (kf8l3 : Ty104 → Rz) (kf8j20 : Ty103 → Rz) (kf8j21 : Ty102 → Rz) (kf8l2 : Ty102 → Rz) (kf8j22 : Unit → Rz) : Ty104 → Rz := fun v => f8_20 F (f8_28 F kf8l3 kf8j20 kf8j21 kf8l2 kf8j22) kf8l3 kf8j20 kf8j21 kf8l2 kf8j22 v
theorem f8_29_eq (F : Nat) (Rf8l3 : St → Rz) (Rf8j20 : St → Rz) (Rf8j21 : St → Rz) (Rf8l2 : St → Rz) (Rf8j22 : St → Rz) : ∀ v,aexec VG388 (Af8 F) (bp Try.f8 16771380) (ef8l3 v) (kSeq (kc VG388 Rf8l3 sp71) (kBlock 4 (kSeq (kc VG388 Rf8j20 sp83) (kBlock 3 (kSeq (kc VG388 Rf8j21 sp70) (kSeq (kc VG388 Rf8l2 sp70) (kBlock 2 (kSeq (kc VG388 Rf8j22 []) (kFin VG388 none (Try.f8).results.toList))))))))) = f8_29 F (Rf8l3 ∘ ef8l3) (Rf8j20 ∘ ef8j20) (Rf8j21 ∘ ef8j21) (Rf8l2 ∘ ef8l2) (Rf8j22 ∘ ef8j22) v :=
  seq_cut (by kernel_rfl) (by kernel_rfl) ef8l3 ef8j17 _ (fun k => f8_20 F k (Rf8l3 ∘ ef8l3) (Rf8j20 ∘ ef8j20) (Rf8j21 ∘ ef8j21) (Rf8l2 ∘ ef8l2) (Rf8j22 ∘ ef8j22)) (f8_28 F (Rf8l3 ∘ ef8l3) (Rf8j20 ∘ ef8j20) (Rf8j21 ∘ ef8j21) (Rf8l2 ∘ ef8l2) (Rf8j22 ∘ ef8j22))
    (fun Rf8j17 => f8_20_eq F Rf8j17 Rf8l3 Rf8j20 Rf8j21 Rf8l2 Rf8j22) (f8_28_eq F Rf8l3 Rf8j20 Rf8j21 Rf8l2 Rf8j22)
def f8_30_i : Ty104 → (List Int) × (List Int) × Int × (List (List Int)) × Int × Int × Int × (List Int) × Nat := fun (t9,t10,t12,t13,t18,t19,t20,x8,x9) => (t9,t10,t12,t13,t18,t19,t20,x8,x9)
def f8_30 (F : Nat) (kf8j20 : Ty103 → Rz) (kf8j21 : Ty102 → Rz) (kf8l2 : Ty102 → Rz) (kf8j22 : Unit → Rz) : Ty104 → Rz := fun v => loopN (fun k => f8_29 F k kf8j20 kf8j21 kf8l2 kf8j22) F (f8_30_i v)
theorem f8_30_eq (F : Nat) (Rf8j20 : St → Rz) (Rf8j21 : St → Rz) (Rf8l2 : St → Rz) (Rf8j22 : St → Rz) : ∀ v,aexec VG388 (Af8 F) (bp Try.f8 8385690) (ef8j16 v) (kBlock 4 (kSeq (kc VG388 Rf8j20 sp83) (kBlock 3 (kSeq (kc VG388 Rf8j21 sp70) (kSeq (kc VG388 Rf8l2 sp70) (kBlock 2 (kSeq (kc VG388 Rf8j22 []) (kFin VG388 none (Try.f8).results.toList)))))))) = f8_30 F (Rf8j20 ∘ ef8j20) (Rf8j21 ∘ ef8j21) (Rf8l2 ∘ ef8l2) (Rf8j22 ∘ ef8j22) v :=
  loop_cut (by kernel_rfl) (by kernel_rfl) ef8j16 ef8l3 _ f8_30_i (fun k => f8_29 F k (Rf8j20 ∘ ef8j20) (Rf8j21 ∘ ef8j21) (Rf8l2 ∘ ef8l2) (Rf8j22 ∘ ef8j22))
    (by rintro ⟨t9,t10,t12,t13,t18,t19,t20,x8,x9⟩; kernel_rfl) (fun Rf8l3 => f8_29_eq F Rf8l3 Rf8j20 Rf8j21 Rf8l2 Rf8j22)
def f8_31 (F : Nat) (kf8j20 : Ty103 → Rz) (kf8j21 : Ty102 → Rz) (kf8l2 : Ty102 → Rz) (kf8j22 : Unit → Rz) : Ty104 → Rz := f8_30 F kf8j20 kf8j21 kf8l2 kf8j22
theorem f8_31_eq (F : Nat) (Rf8j20 : St → Rz) (Rf8j21 : St → Rz) (Rf8l2 : St → Rz) (Rf8j22 : St → Rz) : ∀ v,aexec VG388 (Af8 F) (bp Try.f8 4192845) (ef8j16 v) (kSeq (kc VG388 Rf8j20 sp83) (kBlock 3 (kSeq (kc VG388 Rf8j21 sp70) (kSeq (kc VG388 Rf8l2 sp70) (kBlock 2 (kSeq (kc VG388 Rf8j22 []) (kFin VG388 none (Try.f8).results.toList))))))) = f8_31 F (Rf8j20 ∘ ef8j20) (Rf8j21 ∘ ef8j21) (Rf8l2 ∘ ef8l2) (Rf8j22 ∘ ef8j22) v := fun v =>
  (block_in  (by kernel_rfl) _ _).trans (f8_30_eq F Rf8j20 Rf8j21 Rf8l2 Rf8j22 v)
def f8_32 (F : Nat) (kf8j20 : Ty103 → Rz) (kf8j21 : Ty102 → Rz) (kf8l2 : Ty102 → Rz) (kf8j22 : Unit → Rz) : Ty103 → Rz := fun v => f8_19 F (f8_31 F kf8j20 kf8j21 kf8l2 kf8j22) kf8j20 kf8j21 kf8l2 kf8j22 v
theorem f8_32_eq (F : Nat) (Rf8j20 : St → Rz) (Rf8j21 : St → Rz) (Rf8l2 : St → Rz) (Rf8j22 : St → Rz) : ∀ v,aexec VG388 (Af8 F) (bp Try.f8 2096422) (ef8j15 v) (kSeq (kc VG388 Rf8j20 sp83) (kBlock 3 (kSeq (kc VG388 Rf8j21 sp70) (kSeq (kc VG388 Rf8l2 sp70) (kBlock 2 (kSeq (kc VG388 Rf8j22 []) (kFin VG388 none (Try.f8).results.toList))))))) = f8_32 F (Rf8j20 ∘ ef8j20) (Rf8j21 ∘ ef8j21) (Rf8l2 ∘ ef8l2) (Rf8j22 ∘ ef8j22) v :=
  seq_cut (by kernel_rfl) (by kernel_rfl) ef8j15 ef8j16 _ (fun k => f8_19 F k (Rf8j20 ∘ ef8j20) (Rf8j21 ∘ ef8j21) (Rf8l2 ∘ ef8l2) (Rf8j22 ∘ ef8j22)) (f8_31 F (Rf8j20 ∘ ef8j20) (Rf8j21 ∘ ef8j21) (Rf8l2 ∘ ef8l2) (Rf8j22 ∘ ef8j22))
    (fun Rf8j16 => f8_19_eq F Rf8j16 Rf8j20 Rf8j21 Rf8l2 Rf8j22) (f8_31_eq F Rf8j20 Rf8j21 Rf8l2 Rf8j22)
def f8_33 (F : Nat) (kf8j21 : Ty102 → Rz) (kf8l2 : Ty102 → Rz) (kf8j22 : Unit → Rz) : Ty103 → Rz := fun (t9,t10,t12,t13,t18,t19,x7,x8) => (cond ((decide (0 ≤ t18)) && (decide (t18 < (↑t9.length : Int)))) (cond (decide ((t9.getD (Int.toNat t18) 0) ≥ (0 : Int))) (cond ((decide (0 ≤ t18)) && (decide (t18 < (↑t9.length : Int)))) (cond (!((decide ((t9.getD (Int.toNat t18) 0) < (if (6 : Int) < t12 then (6 : Int) else t12))) == (t19 == (1 : Int)))) (some ((.bool false),[])) (cond (!(decide ((t9.getD (Int.toNat t18) 0) < (if (6 : Int) < t12 then (6 : Int) else t12)))) (cond (t19 != (0 : Int)) (some ((.bool false),[])) (kf8j21 (t9,t10,t12,t13,t18,x7,x8))) (kf8j21 (t9,t10,t12,t13,t18,x7,x8)))) none) (cond (!(false == (t19 == (1 : Int)))) (some ((.bool false),[])) (cond (t19 != (0 : Int)) (some ((.bool false),[])) (kf8j21 (t9,t10,t12,t13,t18,x7,x8))))) none)
theorem f8_33_eq (F : Nat) (Rf8j21 : St → Rz) (Rf8l2 : St → Rz) (Rf8j22 : St → Rz) : ∀ v,aexec VG388 (Af8 F) (bp Try.f8 2096423) (ef8j20 v) (kBlock 3 (kSeq (kc VG388 Rf8j21 sp70) (kSeq (kc VG388 Rf8l2 sp70) (kBlock 2 (kSeq (kc VG388 Rf8j22 []) (kFin VG388 none (Try.f8).results.toList)))))) = f8_33 F (Rf8j21 ∘ ef8j21) (Rf8l2 ∘ ef8l2) (Rf8j22 ∘ ef8j22) v := by
  rintro ⟨t9,t10,t12,t13,t18,t19,x7,x8⟩; kernel_rfl
def f8_34 (F : Nat) (kf8j21 : Ty102 → Rz) (kf8l2 : Ty102 → Rz) (kf8j22 : Unit → Rz) : Ty103 → Rz := fun v => f8_32 F (f8_33 F kf8j21 kf8l2 kf8j22) kf8j21 kf8l2 kf8j22 v
theorem f8_34_eq (F : Nat) (Rf8j21 : St → Rz) (Rf8l2 : St → Rz) (Rf8j22 : St → Rz) : ∀ v,aexec VG388 (Af8 F) (bp Try.f8 1048211) (ef8j15 v) (kBlock 3 (kSeq (kc VG388 Rf8j21 sp70) (kSeq (kc VG388 Rf8l2 sp70) (kBlock 2 (kSeq (kc VG388 Rf8j22 []) (kFin VG388 none (Try.f8).results.toList)))))) = f8_34 F (Rf8j21 ∘ ef8j21) (Rf8l2 ∘ ef8l2) (Rf8j22 ∘ ef8j22) v :=
  seq_cut (by kernel_rfl) (by kernel_rfl) ef8j15 ef8j20 _ (fun k => f8_32 F k (Rf8j21 ∘ ef8j21) (Rf8l2 ∘ ef8l2) (Rf8j22 ∘ ef8j22)) (f8_33 F (Rf8j21 ∘ ef8j21) (Rf8l2 ∘ ef8l2) (Rf8j22 ∘ ef8j22))
    (fun Rf8j20 => f8_32_eq F Rf8j20 Rf8j21 Rf8l2 Rf8j22) (f8_33_eq F Rf8j21 Rf8l2 Rf8j22)
def f8_35 (F : Nat) (kf8j21 : Ty102 → Rz) (kf8l2 : Ty102 → Rz) (kf8j22 : Unit → Rz) : Ty102 → Rz := fun v => f8_18 F (f8_34 F kf8j21 kf8l2 kf8j22) kf8j21 kf8l2 kf8j22 v
theorem f8_35_eq (F : Nat) (Rf8j21 : St → Rz) (Rf8l2 : St → Rz) (Rf8j22 : St → Rz) : ∀ v,aexec VG388 (Af8 F) (bp Try.f8 524105) (ef8j14 v) (kBlock 3 (kSeq (kc VG388 Rf8j21 sp70) (kSeq (kc VG388 Rf8l2 sp70) (kBlock 2 (kSeq (kc VG388 Rf8j22 []) (kFin VG388 none (Try.f8).results.toList)))))) = f8_35 F (Rf8j21 ∘ ef8j21) (Rf8l2 ∘ ef8l2) (Rf8j22 ∘ ef8j22) v :=
  seq_cut (by kernel_rfl) (by kernel_rfl) ef8j14 ef8j15 _ (fun k => f8_18 F k (Rf8j21 ∘ ef8j21) (Rf8l2 ∘ ef8l2) (Rf8j22 ∘ ef8j22)) (f8_34 F (Rf8j21 ∘ ef8j21) (Rf8l2 ∘ ef8l2) (Rf8j22 ∘ ef8j22))
    (fun Rf8j15 => f8_18_eq F Rf8j15 Rf8j21 Rf8l2 Rf8j22) (f8_34_eq F Rf8j21 Rf8l2 Rf8j22)
def f8_36 (F : Nat) (kf8j21 : Ty102 → Rz) (kf8l2 : Ty102 → Rz) (kf8j22 : Unit → Rz) : Ty102 → Rz := fun v => f8_17 F (f8_35 F kf8j21 kf8l2 kf8j22) kf8j21 kf8l2 kf8j22 v
theorem f8_36_eq (F : Nat) (Rf8j21 : St → Rz) (Rf8l2 : St → Rz) (Rf8j22 : St → Rz) : ∀ v,aexec VG388 (Af8 F) (bp Try.f8 262052) (ef8j13 v) (kBlock 3 (kSeq (kc VG388 Rf8j21 sp70) (kSeq (kc VG388 Rf8l2 sp70) (kBlock 2 (kSeq (kc VG388 Rf8j22 []) (kFin VG388 none (Try.f8).results.toList)))))) = f8_36 F (Rf8j21 ∘ ef8j21) (Rf8l2 ∘ ef8l2) (Rf8j22 ∘ ef8j22) v :=
  seq_cut (by kernel_rfl) (by kernel_rfl) ef8j13 ef8j14 _ (fun k => f8_17 F k (Rf8j21 ∘ ef8j21) (Rf8l2 ∘ ef8l2) (Rf8j22 ∘ ef8j22)) (f8_35 F (Rf8j21 ∘ ef8j21) (Rf8l2 ∘ ef8l2) (Rf8j22 ∘ ef8j22))
    (fun Rf8j14 => f8_17_eq F Rf8j14 Rf8j21 Rf8l2 Rf8j22) (f8_35_eq F Rf8j21 Rf8l2 Rf8j22)
def f8_37 (F : Nat) (kf8j21 : Ty102 → Rz) (kf8l2 : Ty102 → Rz) (kf8j22 : Unit → Rz) : Ty102 → Rz := f8_36 F kf8j21 kf8l2 kf8j22
theorem f8_37_eq (F : Nat) (Rf8j21 : St → Rz) (Rf8l2 : St → Rz) (Rf8j22 : St → Rz) : ∀ v,aexec VG388 (Af8 F) (bp Try.f8 131026) (ef8j13 v) (kSeq (kc VG388 Rf8j21 sp70) (kSeq (kc VG388 Rf8l2 sp70) (kBlock 2 (kSeq (kc VG388 Rf8j22 []) (kFin VG388 none (Try.f8).results.toList))))) = f8_37 F (Rf8j21 ∘ ef8j21) (Rf8l2 ∘ ef8l2) (Rf8j22 ∘ ef8j22) v := fun v =>
  (block_in  (by kernel_rfl) _ _).trans (f8_36_eq F Rf8j21 Rf8l2 Rf8j22 v)
def f8_38 (F : Nat) (kf8l2 : Ty102 → Rz) (kf8j22 : Unit → Rz) : Ty102 → Rz := fun (t9,t10,t12,t13,t18,x6,x7) => (kf8l2 (t9,t10,t12,t13,(IntKind.i64.wrap (t18 + (1 : Int))),x6,x7))
theorem f8_38_eq (F : Nat) (Rf8l2 : St → Rz) (Rf8j22 : St → Rz) : ∀ v,aexec VG388 (Af8 F) (bp Try.f8 131027) (ef8j21 v) (kSeq (kc VG388 Rf8l2 sp70) (kBlock 2 (kSeq (kc VG388 Rf8j22 []) (kFin VG388 none (Try.f8).results.toList)))) = f8_38 F (Rf8l2 ∘ ef8l2) (Rf8j22 ∘ ef8j22) v := by
  rintro ⟨t9,t10,t12,t13,t18,x6,x7⟩; kernel_rfl
def f8_39 (F : Nat) (kf8l2 : Ty102 → Rz) (kf8j22 : Unit → Rz) : Ty102 → Rz := fun v => f8_37 F (f8_38 F kf8l2 kf8j22) kf8l2 kf8j22 v
theorem f8_39_eq (F : Nat) (Rf8l2 : St → Rz) (Rf8j22 : St → Rz) : ∀ v,aexec VG388 (Af8 F) (bp Try.f8 65513) (ef8j13 v) (kSeq (kc VG388 Rf8l2 sp70) (kBlock 2 (kSeq (kc VG388 Rf8j22 []) (kFin VG388 none (Try.f8).results.toList)))) = f8_39 F (Rf8l2 ∘ ef8l2) (Rf8j22 ∘ ef8j22) v :=
  seq_cut (by kernel_rfl) (by kernel_rfl) ef8j13 ef8j21 _ (fun k => f8_37 F k (Rf8l2 ∘ ef8l2) (Rf8j22 ∘ ef8j22)) (f8_38 F (Rf8l2 ∘ ef8l2) (Rf8j22 ∘ ef8j22))
    (fun Rf8j21 => f8_37_eq F Rf8j21 Rf8l2 Rf8j22) (f8_38_eq F Rf8l2 Rf8j22)
def f8_40 (F : Nat) (kf8l2 : Ty102 → Rz) (kf8j22 : Unit → Rz) : Ty102 → Rz := fun v => f8_16 F (f8_39 F kf8l2 kf8j22) kf8l2 kf8j22 v
theorem f8_40_eq (F : Nat) (Rf8l2 : St → Rz) (Rf8j22 : St → Rz) : ∀ v,aexec VG388 (Af8 F) (bp Try.f8 32756) (ef8l2 v) (kSeq (kc VG388 Rf8l2 sp70) (kBlock 2 (kSeq (kc VG388 Rf8j22 []) (kFin VG388 none (Try.f8).results.toList)))) = f8_40 F (Rf8l2 ∘ ef8l2) (Rf8j22 ∘ ef8j22) v :=
  seq_cut (by kernel_rfl) (by kernel_rfl) ef8l2 ef8j13 _ (fun k => f8_16 F k (Rf8l2 ∘ ef8l2) (Rf8j22 ∘ ef8j22)) (f8_39 F (Rf8l2 ∘ ef8l2) (Rf8j22 ∘ ef8j22))
    (fun Rf8j13 => f8_16_eq F Rf8j13 Rf8l2 Rf8j22) (f8_39_eq F Rf8l2 Rf8j22)
def f8_41_i : Ty102 → (List Int) × (List Int) × Int × (List (List Int)) × Int × (List Int) × Nat := fun (t9,t10,t12,t13,t18,x6,x7) => (t9,t10,t12,t13,t18,x6,x7)
def f8_41 (F : Nat) (kf8j22 : Unit → Rz) : Ty102 → Rz := fun v => loopN (fun k => f8_40 F k kf8j22) F (f8_41_i v)
theorem f8_41_eq (F : Nat) (Rf8j22 : St → Rz) : ∀ v,aexec VG388 (Af8 F) (bp Try.f8 16378) (ef8j12 v) (kBlock 2 (kSeq (kc VG388 Rf8j22 []) (kFin VG388 none (Try.f8).results.toList))) = f8_41 F (Rf8j22 ∘ ef8j22) v :=
  loop_cut (by kernel_rfl) (by kernel_rfl) ef8j12 ef8l2 _ f8_41_i (fun k => f8_40 F k (Rf8j22 ∘ ef8j22))
    (by rintro ⟨t9,t10,t12,t13,t18,x6,x7⟩; kernel_rfl) (fun Rf8l2 => f8_40_eq F Rf8l2 Rf8j22)
def f8_42 (F : Nat) (kf8j22 : Unit → Rz) : Ty102 → Rz := f8_41 F kf8j22
theorem f8_42_eq (F : Nat) (Rf8j22 : St → Rz) : ∀ v,aexec VG388 (Af8 F) (bp Try.f8 8189) (ef8j12 v) (kSeq (kc VG388 Rf8j22 []) (kFin VG388 none (Try.f8).results.toList)) = f8_42 F (Rf8j22 ∘ ef8j22) v := fun v =>
  (block_in  (by kernel_rfl) _ _).trans (f8_41_eq F Rf8j22 v)
def f8_43 (F : Nat) (kf8j22 : Unit → Rz) : Ty98 → Rz := fun v => f8_15 F (f8_42 F kf8j22) kf8j22 v
theorem f8_43_eq (F : Nat) (Rf8j22 : St → Rz) : ∀ v,aexec VG388 (Af8 F) (bp Try.f8 4094) (ef8j11 v) (kSeq (kc VG388 Rf8j22 []) (kFin VG388 none (Try.f8).results.toList)) = f8_43 F (Rf8j22 ∘ ef8j22) v :=
  seq_cut (by kernel_rfl) (by kernel_rfl) ef8j11 ef8j12 _ (fun k => f8_15 F k (Rf8j22 ∘ ef8j22)) (f8_42 F (Rf8j22 ∘ ef8j22))
    (fun Rf8j12 => f8_15_eq F Rf8j12 Rf8j22) (f8_42_eq F Rf8j22)
def f8_44 (F : Nat) : Unit → Rz := fun _ => (some ((.bool true),[]))
theorem f8_44_eq (F : Nat) : ∀ v,aexec VG388 (Af8 F) (bp Try.f8 4095) (ef8j22 v) (kFin VG388 none (Try.f8).results.toList) = f8_44 F v := by
  intro _; kernel_rfl
def f8_45 (F : Nat) : Ty98 → Rz := fun v => f8_43 F (f8_44 F) v
theorem f8_45_eq (F : Nat) : ∀ v,aexec VG388 (Af8 F) (bp Try.f8 2047) (ef8j11 v) (kFin VG388 none (Try.f8).results.toList) = f8_45 F v :=
  seq_cut (by kernel_rfl) (by kernel_rfl) ef8j11 ef8j22 _ (fun k => f8_43 F k) (f8_44 F)
    (fun Rf8j22 => f8_43_eq F Rf8j22) (f8_44_eq F)
def f8_46 (F : Nat) : Ty99 → Rz := fun v => f8_14 F (f8_45 F) v
theorem f8_46_eq (F : Nat) : ∀ v,aexec VG388 (Af8 F) (bp Try.f8 1023) (ef8j9 v) (kFin VG388 none (Try.f8).results.toList) = f8_46 F v :=
  seq_cut (by kernel_rfl) (by kernel_rfl) ef8j9 ef8j11 _ (fun k => f8_14 F k) (f8_45 F)
    (fun Rf8j11 => f8_14_eq F Rf8j11) (f8_45_eq F)
def f8_47 (F : Nat) : Ty98 → Rz := fun v => f8_9 F (f8_46 F) v
theorem f8_47_eq (F : Nat) : ∀ v,aexec VG388 (Af8 F) (bp Try.f8 511) (ef8j8 v) (kFin VG388 none (Try.f8).results.toList) = f8_47 F v :=
  seq_cut (by kernel_rfl) (by kernel_rfl) ef8j8 ef8j9 _ (fun k => f8_9 F k) (f8_46 F)
    (fun Rf8j9 => f8_9_eq F Rf8j9) (f8_46_eq F)
def f8_48 (F : Nat) : Ty97 → Rz := fun v => f8_8 F (f8_47 F) v
theorem f8_48_eq (F : Nat) : ∀ v,aexec VG388 (Af8 F) (bp Try.f8 255) (ef8j7 v) (kFin VG388 none (Try.f8).results.toList) = f8_48 F v :=
  seq_cut (by kernel_rfl) (by kernel_rfl) ef8j7 ef8j8 _ (fun k => f8_8 F k) (f8_47 F)
    (fun Rf8j8 => f8_8_eq F Rf8j8) (f8_47_eq F)
def f8_49 (F : Nat) : Ty96 → Rz := fun v => f8_7 F (f8_48 F) v
theorem f8_49_eq (F : Nat) : ∀ v,aexec VG388 (Af8 F) (bp Try.f8 127) (ef8j6 v) (kFin VG388 none (Try.f8).results.toList) = f8_49 F v :=
  seq_cut (by kernel_rfl) (by kernel_rfl) ef8j6 ef8j7 _ (fun k => f8_7 F k) (f8_48 F)
    (fun Rf8j7 => f8_7_eq F Rf8j7) (f8_48_eq F)
def f8_50 (F : Nat) : Ty95 → Rz := fun v => f8_6 F (f8_49 F) v
theorem f8_50_eq (F : Nat) : ∀ v,aexec VG388 (Af8 F) (bp Try.f8 63) (ef8j5 v) (kFin VG388 none (Try.f8).results.toList) = f8_50 F v :=
  seq_cut (by kernel_rfl) (by kernel_rfl) ef8j5 ef8j6 _ (fun k => f8_6 F k) (f8_49 F)
    (fun Rf8j6 => f8_6_eq F Rf8j6) (f8_49_eq F)
def f8_51 (F : Nat) : Ty94 → Rz := fun v => f8_5 F (f8_50 F) v
theorem f8_51_eq (F : Nat) : ∀ v,aexec VG388 (Af8 F) (bp Try.f8 31) (ef8j4 v) (kFin VG388 none (Try.f8).results.toList) = f8_51 F v :=
  seq_cut (by kernel_rfl) (by kernel_rfl) ef8j4 ef8j5 _ (fun k => f8_5 F k) (f8_50 F)
    (fun Rf8j5 => f8_5_eq F Rf8j5) (f8_50_eq F)
def f8_52 (F : Nat) : Ty94 → Rz := fun v => f8_4 F (f8_51 F) v
theorem f8_52_eq (F : Nat) : ∀ v,aexec VG388 (Af8 F) (bp Try.f8 15) (ef8j3 v) (kFin VG388 none (Try.f8).results.toList) = f8_52 F v :=
  seq_cut (by kernel_rfl) (by kernel_rfl) ef8j3 ef8j4 _ (fun k => f8_4 F k) (f8_51 F)
    (fun Rf8j4 => f8_4_eq F Rf8j4) (f8_51_eq F)
def f8_53 (F : Nat) : Ty93 → Rz := fun v => f8_3 F (f8_52 F) v
theorem f8_53_eq (F : Nat) : ∀ v,aexec VG388 (Af8 F) (bp Try.f8 7) (ef8j2 v) (kFin VG388 none (Try.f8).results.toList) = f8_53 F v :=
  seq_cut (by kernel_rfl) (by kernel_rfl) ef8j2 ef8j3 _ (fun k => f8_3 F k) (f8_52 F)
    (fun Rf8j3 => f8_3_eq F Rf8j3) (f8_52_eq F)
def f8_54 (F : Nat) : Ty91 → Rz := fun v => f8_2 F (f8_53 F) v
theorem f8_54_eq (F : Nat) : ∀ v,aexec VG388 (Af8 F) (bp Try.f8 3) (ef8j1 v) (kFin VG388 none (Try.f8).results.toList) = f8_54 F v :=
  seq_cut (by kernel_rfl) (by kernel_rfl) ef8j1 ef8j2 _ (fun k => f8_2 F k) (f8_53 F)
    (fun Rf8j2 => f8_2_eq F Rf8j2) (f8_53_eq F)
def f8_55 (F : Nat) : Ty91 → Rz := fun v => f8_1 F (f8_54 F) v
theorem f8_55_eq (F : Nat) : ∀ v,aexec VG388 (Af8 F) (sub (bodyOf Try.f8) []) (ef8_a v) (kFin VG388 none (Try.f8).results.toList) = f8_55 F v :=
  seq_cut (by kernel_rfl) (by kernel_rfl) ef8_a ef8j1 _ (fun k => f8_1 F k) (f8_54 F)
    (fun Rf8j1 => f8_1_eq F Rf8j1) (f8_54_eq F)
def f8 (F : Nat) : Ty91 → Rz := f8_55 F
theorem f8_body (F : Nat) (a0 : List Int) (a1 : List Int) (a2 : Int) (a3 : List Int) : abody VG388 (Af8 F) Try.f8 [(.vs (.rI .i64 a0) 0 1),(.vs (.rI .i64 a1) 0 1),(.int .i64 a2),(.vs (.rI .i64 a3) 0 1)] [] = f8 F (a0,a1,a2,a3) :=
  (abody_in (c := (sub (bodyOf Try.f8) [])) (by kernel_rfl) (s := ef8_a (a0,a1,a2,a3)) (by kernel_rfl)).trans (f8_55_eq F (a0,a1,a2,a3))
def r8 : CRun := fun X H => match X,H with
  | [(.vs (.rI .i64 a0) 0 1),(.vs (.rI .i64 a1) 0 1),(.int .i64 a2),(.vs (.rI .i64 a3) 0 1)],[] => some (true,(.bool true),[])
  | _,_ => none
theorem s8 (a0 : List Int) (a1 : List Int) (a2 : Int) (a3 : List Int) (h0 : okV (.vs (.rI .i64 a0) 0 1)) (h1 : okV (.vs (.rI .i64 a1) 0 1)) (h2 : okV (.int .i64 a2)) (h3 : okV (.vs (.rI .i64 a3) 0 1)) : ∃ F,f8 F (a0,a1,a2,a3) = some ((.bool true),[]) := by
  obtain ⟨F,hF⟩ : ∃ F,F = 100 := ⟨_,rfl⟩
  refine ⟨F,?_⟩
  simp only [f8,f8_55,f8_1,f8_54,f8_2,f8_53,f8_3,f8_52,f8_4,f8_51,f8_5,f8_50,f8_6,f8_49,f8_7,f8_48,f8_8,f8_47,f8_9,f8_46,f8_14,f8_10,f8_13,f8_12,f8_12_i]
  have hx : (a0.take (Int.toNat 40)).length ≤ 40 := by rw [List.length_take]; exact Nat.min_le_left _ _
  have hy : (a1.take (Int.toNat 40)).length ≤ 40 := by rw [List.length_take]; exact Nat.min_le_left _ _
  have hs : (a3.take (Int.toNat 40)).length ≤ 40 := by rw [List.length_take]; exact Nat.min_le_left _ _
  have har := Reg.around_lt (n := a2) (m := 10) (by decide)
  have hn : IntKind.i64.wrap (Reg.around a2 10 - 1) = Reg.around a2 10 - 1 := i64w (by omega) (by omega)
  rw [hn]
  obtain ⟨n,hn'⟩ : ∃ n,n = Reg.around a2 10 - 1 := ⟨_,rfl⟩
  rw [← hn']
  have hn1 : -1 ≤ n := by omega
  have hn2 : n < 9 := by omega
  clear hn hn' har h0 h1 h2 h3
  generalize a0.take (Int.toNat 40) = x at *
  generalize a1.take (Int.toNat 40) = y at *
  generalize a3.take (Int.toNat 40) = g at *
  simp only [decide_true,Bool.and_self,Bool.not_true,cond_false,List.nil_append,Nat.zero_add,dec_and]
  rw [cond_pos (by decide),cond_pos (by decide),cond_pos (by decide),cond_pos (by decide),cond_pos ⟨by omega,hn1,hn2⟩,cond_pos (by omega),cond_pos (by omega),cond_pos (show (Reg.moves x y).length = Reg.movesN x y * 3 from Reg.mv_len _ _ _),cond_pos (by omega),cond_pos (by omega),cond_pos (by omega),cond_pos (by omega)]
  have hN : Reg.movesN x y = (Reg.dL x y).length := rfl
  have hNl : Reg.movesN x y ≤ 40 := Nat.le_trans (Reg.mvN_le _ _ _) (by omega)
  refine loopN_ind (fun m s => ∃ (i : Nat) (z : List Int),s = (x,y,n,Reg.shares x n,Reg.moves x y,Reg.movesN x y,(i : Int),z,x.length) ∧ m = Reg.movesN x y - i ∧ i ≤ Reg.movesN x y ∧ Reg.zOk x y i z) ?_ _ (Reg.movesN x y) _ (by omega) ⟨0,x,rfl,by omega,by omega,Reg.zOk_zero x y⟩
  rintro m s K ⟨i,z,rfl,hm,hi,hz⟩ hk
  simp only [f8_11,dec_and,int_bne,Int.toNat_natCast]
  by_cases hiN : i < Reg.movesN x y
  · obtain ⟨e0,e1,e2⟩ := Reg.moves_at (a := x) (b := y) hiN
    obtain ⟨d0,d1,d2⟩ := Reg.zOk_at hz hiN
    have hz' := Reg.zOk_succ hz hiN
    rw [Nat.zero_add] at e0
    simp only [Nat.zero_add,e0,e1,e2,Int.toNat_natCast]
    generalize (Reg.dL x y).getD i 0 = d at *
    have hzl := hz.1
    rw [cond_pos (by omega),cond_pos (by omega),cond_neg (by omega),cond_neg (by omega),cond_pos (by omega),cond_pos (by omega),cond_neg (fun h => h d2),cond_pos (by omega),cond_pos (by omega),i64w (by omega) (by omega)]
    exact hk (m - 1) _ (by omega) ⟨i + 1,_,rfl,by omega,by omega,hz'⟩
  have hie : i = Reg.movesN x y := by omega
  subst hie
  rw [cond_neg (by omega)]
  clear hk hm hi hiN
  obtain ⟨hzl,hzy,hzx⟩ := Reg.zOk_end hz
  clear hz
  simp only [f8_45,f8_43,f8_15,f8_42,f8_41,f8_41_i]
  have hsl := Reg.shares_len x n
  refine loopN_from (fun d => (x,y,n,Reg.shares x n,(d : Int),z,x.length)) z.length (by rfl) (fun d hd k => ?_) (fun k => ?_) _ (by omega)
  · simp only [f8_40,f8_16]
    rw [cond_pos (by omega)]
    simp only [f8_39,f8_37,f8_36,f8_17,dec_and,int_bne,Int.toNat_natCast]
    have hgo : f8_34 F (f8_38 F k (f8_44 F)) k (f8_44 F) (x,y,n,Reg.shares x n,(d : Int),0,z,x.length) = k (x,y,n,Reg.shares x n,((d + 1 : Nat) : Int),z,x.length) := by
      simp only [f8_18,f8_34,f8_32,f8_19,f8_31,f8_30,f8_30_i]
      refine loopN_from (fun h => (x,y,n,Reg.shares x n,(d : Int),((Reg.cntTo (Reg.shares x n) (d : Int) h : Nat) : Int),(h : Int),z,x.length)) (Reg.shares x n).length (by rfl) (fun h hh k' => ?_) (fun k' => ?_) _ (by omega)
      · simp only [f8_29,f8_20]
        rw [cond_pos (by omega)]
        simp only [f8_28,f8_26,f8_25,f8_21,f8_24,f8_23,f8_23_i]
        have hl : ((Reg.shares x n).getD h []).length ≤ 40 := Reg.share_len hh hx
        have hc := Reg.cntTo_le (Reg.shares x n) (d : Int) h (fun l hl => Reg.share_len' hl hx)
        refine loopN_from (fun j => (x,y,n,Reg.shares x n,(d : Int),((Reg.cntTo (Reg.shares x n) (d : Int) h + (((Reg.shares x n).getD h []).take j).count (d : Int) : Nat) : Int),(h : Int),(j : Int),z,x.length)) ((Reg.shares x n).getD h []).length (by simp) (fun j hj k2 => ?_) (fun k2 => ?_) _ (by omega)
        · have hcj : (((Reg.shares x n).getD h []).take j).count (d : Int) ≤ j := Nat.le_trans (List.count_le_length) (by rw [List.length_take]; omega)
          simp only [f8_22,dec_and,int_beq,Int.toNat_natCast]
          rw [cond_pos (by omega),cond_pos (by omega),cond_pos (by omega),cond_pos (by omega)]
          have hs := Reg.count_snoc (l := (Reg.shares x n).getD h []) (d : Int) hj
          by_cases he : ((Reg.shares x n).getD h []).getD j 0 = (d : Int)
          · rw [cond_pos he,i64w (by omega) (by omega),i64w (by omega) (by omega),hs,if_pos he]; rfl
          · rw [cond_neg he,i64w (by omega) (by omega),hs,if_neg he]; rfl
        · simp only [f8_22,f8_27,dec_and]
          rw [cond_pos (by omega),cond_neg (by simp only [Int.toNat_natCast]; omega),i64w (by omega) (by omega),List.take_length,Reg.cntTo_succ hh]; rfl
      · simp only [f8_29,f8_20]
        rw [cond_neg (by omega)]
        simp only [f8_33,f8_38,dec_and,int_beq,int_bne,dec_not,Int.toNat_natCast]
        have hcnt := Reg.cnt_shares (x := x) (n := n) (d := d) (by omega)
        have h6 : (if (6 : Int) < n then (6 : Int) else n) = min n 6 := by split <;> omega
        rw [h6]
        rw [hcnt,i64w (by omega) (by omega)]
        rw [cond_pos (by omega)]
        by_cases q0 : x.getD d 0 ≥ 0
        · rw [cond_pos q0,cond_pos (by omega)]
          by_cases q1 : x.getD d 0 < min n 6
          · simp only [q1,and_true,if_pos (show 0 ≤ x.getD d 0 from q0),not_true,decide_true,decide_false,cond_false]; rfl
          · simp only [q1,and_false,if_false,not_false_eq_true,decide_true,decide_false,cond_true]; rfl
        · rw [cond_neg q0]
          simp only [if_neg (show ¬ (0 ≤ x.getD d 0 ∧ x.getD d 0 < min n 6) from fun h => q0 h.1)]; rfl
    by_cases hdy : d < y.length
    · rw [cond_pos (by omega),cond_pos (by omega),cond_pos (by omega),cond_neg (fun h => h (hzy d (by omega) hdy)),cond_neg (by omega)]; exact hgo
    · rw [cond_neg (by omega),cond_pos (by omega),cond_pos (by omega),cond_pos (by omega),cond_neg (fun h => h (hzx d (by omega) hdy))]; exact hgo
  · simp only [f8_40,f8_16,f8_44]
    rw [cond_neg (by omega)]
theorem c8 : CallOk Try.prog G38 8 r8 := callOk_of (V := VG388) mixed tys eVG388 (f := 8) (fn := Try.f8) Try.func8 (by kernel_rfl) (c := sub (bodyOf Try.f8) []) (by kernel_rfl) (by
  intro X H r H' h hX hH
  unfold r8 at h; split at h <;> try contradiction
  · simp only [Option.some.injEq,Prod.mk.injEq] at h
    obtain ⟨hp,rfl,rfl⟩ := h
    obtain ⟨F,hF⟩ := s8 _ _ _ _ (hX _ (.head _)) (hX _ (.tail _ (.head _))) (hX _ (.tail _ (.tail _ (.head _)))) (hX _ (.tail _ (.tail _ (.tail _ (.head _)))))
    exact ⟨Af8 F,(f8_body F _ _ _ _).trans hF⟩)
end Go.Am
