/- Part of a proof about the functions of the given program. -/
import Derived.Test.YtcafjaenmbhlnaaAmIsl4
set_option linter.unusedVariables false
set_option linter.unusedSimpArgs false
namespace Go.Am
open Go Go.Proofs
abbrev sp50 : List (Nat × Md) := [(7,.plain),(8,.plain),(9,.plain),(10,.plain),(11,.plain)]
abbrev sp51 : List (Nat × Md) := [(7,.plain),(8,.plain),(9,.plain),(10,.plain),(11,.plain),(12,.plain)]
abbrev sp52 : List (Nat × Md) := [(7,.plain),(8,.plain),(9,.plain),(10,.plain),(11,.plain),(13,.plain),(14,.plain)]
abbrev sp53 : List (Nat × Md) := [(7,.plain),(8,.plain),(9,.plain),(10,.plain),(11,.plain),(13,.plain),(14,.plain),(15,.own 2),(16,.plain)]
abbrev sp54 : List (Nat × Md) := [(1,.plain),(7,.plain),(8,.plain)]
abbrev sp55 : List (Nat × Md) := [(1,.plain),(7,.plain),(8,.plain),(9,.plain)]
abbrev sp56 : List (Nat × Md) := [(7,.plain),(8,.plain),(9,.plain),(10,.plain)]
abbrev sp57 : List (Nat × Md) := [(7,.plain),(8,.plain),(9,.plain),(10,.plain),(11,.plain),(13,.plain)]
abbrev sp58 : List (Nat × Md) := [(7,.plain),(8,.plain),(9,.plain),(10,.plain),(11,.plain),(13,.plain),(14,.plain),(15,.plain)]
abbrev sp59 : List (Nat × Md) := [(7,.plain),(8,.plain),(9,.plain),(10,.plain),(11,.plain),(13,.plain),(14,.plain),(15,.plain),(16,.plain)]
abbrev Ty64 := (List Int) × Int × (List (List Int))
abbrev Ty65 := (List Int) × Int × (List (List Int)) × (List (List Int))
abbrev Ty66 := Int × (List (List Int)) × (List (List Int)) × (List Int)
abbrev Ty67 := Int × Int × (List (List Int)) × (List (List Int)) × (List Int)
abbrev Ty68 := Int × Int × Int × (List (List Int)) × (List (List Int)) × (List Int)
abbrev Ty69 := Int × Int × (List (List Int)) × (List (List Int)) × (List Int) × (List Int)
abbrev Ty70 := Int × Int × Int × (List (List Int)) × (List (List Int)) × (List Int) × (List Int)
abbrev Ty71 := Int × Int × Int × Int × (List (List Int)) × (List (List Int)) × (List Int) × (List Int)
abbrev Ty72 := Int × Int × Int × Int × (List (List Int)) × (List (List Int)) × (List Int) × (List Int) × (List Int)
abbrev Ty73 := Int × Int × Int × (List (List Int)) × (List (List Int)) × (List Int) × (List Int) × (List Int)
def lVG228 : List CEnt := [(10,[none,none],r10),(11,[some 3,none],r11),(17,[some 3,some 22],r17),(19,[],r19),(22,[some 3,some 22],r22),(24,[none,some 22],r24),(25,[none,some 22],r25)]
def VG228 : Env := mkEnv T22 G22 lVG228
theorem eVG228 : EOk Try.prog VG228 := eok_mk (by exact ⟨c10,c11,c17,c19,c22,c24,c25,trivial⟩)
def Af8 (F : Nat) : Cuts := { F := F,at_ := fun n => match n with | 8081 => some sp50 | 11016 => some sp51 | 19037 => some sp52 | 23014 => some sp53 | _ => none,join := fun n => match n with | 1105 => some sp39 | 2103 => some sp40 | 3101 => some sp54 | 4099 => some sp55 | 5097 => some sp56 | 7089 => some sp56 | 8083 => some sp50 | 9001 => some sp50 | 10075 => some sp50 | 11018 => some sp51 | 15051 => some sp50 | 16049 => some sp57 | 18041 => some sp57 | 19039 => some sp52 | 20001 => some sp52 | 21031 => some sp52 | 22026 => some sp58 | 23016 => some sp59 | 27007 => some sp58 | 29003 => some [] | _ => none }
def ef8_a : Ty5 → St := fun (a0,a1,a2) => { tmps := [(0,(.vs (.rI .i64 a0) 0 1)),(1,(.vs (.rI .i64 a1) 0 1)),(2,(.int .i64 a2))],heap := [],next := 0,nt := 174,m := 0 }
def ef8j1 : Ty5 → St := fun (t0,t1,t2) => { tmps := [(0,(.vs (.rI .i64 t0) 0 1)),(1,(.vs (.rI .i64 t1) 0 1)),(2,(.int .i64 t2))],heap := [],next := 0,nt := 174,m := 0 }
def ef8j2 : Ty5 → St := fun (t0,t1,t7) => { tmps := [(0,(.vs (.rI .i64 t0) 0 1)),(1,(.vs (.rI .i64 t1) 0 1)),(7,(.int .i64 t7))],heap := [],next := 0,nt := 174,m := 0 }
def ef8j3 : Ty64 → St := fun (t1,t7,x3) => { tmps := [(1,(.vs (.rI .i64 t1) 0 1)),(7,(.int .i64 t7)),(8,(.own 0 0 1))],heap := [(0,(.cells x3.length (.rL .i64 x3) true))],next := 1,nt := 174,m := 0 }
def ef8j4 : Ty65 → St := fun (t1,t7,x3,x4) => { tmps := [(1,(.vs (.rI .i64 t1) 0 1)),(7,(.int .i64 t7)),(8,(.own 0 0 1)),(9,(.own 1 0 1))],heap := [(0,(.cells x3.length (.rL .i64 x3) false)),(1,(.cells x4.length (.rL .i64 x4) true))],next := 2,nt := 174,m := 0 }
def ef8j5 : Ty66 → St := fun (t7,x2,x3,x4) => { tmps := [(7,(.int .i64 t7)),(8,(.own 0 0 1)),(9,(.own 1 0 1)),(10,(.own 2 0 1))],heap := [(0,(.cells x2.length (.rL .i64 x2) false)),(1,(.cells x3.length (.rL .i64 x3) true)),(2,(.cells x4.length (.rI .i64 x4) true))],next := 3,nt := 174,m := 0 }
def ef8j6 : Ty66 → St := fun (t7,x2,x3,x4) => { tmps := [(7,(.int .i64 t7)),(8,(.own 0 0 1)),(9,(.own 1 0 1)),(10,(.own 2 0 1))],heap := [(0,(.cells x2.length (.rL .i64 x2) false)),(1,(.cells x3.length (.rL .i64 x3) true)),(2,(.cells x4.length (.rI .i64 x4) true))],next := 3,nt := 174,m := 0 }
def ef8j7 : Ty67 → St := fun (t7,t11,x3,x4,x5) => { tmps := [(7,(.int .i64 t7)),(8,(.own 0 0 1)),(9,(.own 1 0 1)),(10,(.own 2 0 1)),(11,(.int .i64 t11))],heap := [(0,(.cells x3.length (.rL .i64 x3) false)),(1,(.cells x4.length (.rL .i64 x4) true)),(2,(.cells x5.length (.rI .i64 x5) true))],next := 3,nt := 174,m := 0 }
def ef8l1 : Ty67 → St := fun (t7,t11,x3,x4,x5) => { tmps := [(7,(.int .i64 t7)),(8,(.own 0 0 1)),(9,(.own 1 0 1)),(10,(.own 2 0 1)),(11,(.int .i64 t11))],heap := [(0,(.cells x3.length (.rL .i64 x3) false)),(1,(.cells x4.length (.rL .i64 x4) true)),(2,(.cells x5.length (.rI .i64 x5) true))],next := 3,nt := 174,m := 0 }
def ef8j8 : Ty67 → St := fun (t7,t11,x3,x4,x5) => { tmps := [(7,(.int .i64 t7)),(8,(.own 0 0 1)),(9,(.own 1 0 1)),(10,(.own 2 0 1)),(11,(.int .i64 t11))],heap := [(0,(.cells x3.length (.rL .i64 x3) false)),(1,(.cells x4.length (.rL .i64 x4) true)),(2,(.cells x5.length (.rI .i64 x5) true))],next := 3,nt := 174,m := 0 }
def ef8j9 : Ty68 → St := fun (t7,t11,t12,x4,x5,x6) => { tmps := [(7,(.int .i64 t7)),(8,(.own 0 0 1)),(9,(.own 1 0 1)),(10,(.own 2 0 1)),(11,(.int .i64 t11)),(12,(.int .i64 t12))],heap := [(0,(.cells x4.length (.rL .i64 x4) false)),(1,(.cells x5.length (.rL .i64 x5) true)),(2,(.cells x6.length (.rI .i64 x6) true))],next := 3,nt := 174,m := 0 }
def ef8l2 : Ty68 → St := fun (t7,t11,t12,x4,x5,x6) => { tmps := [(7,(.int .i64 t7)),(8,(.own 0 0 1)),(9,(.own 1 0 1)),(10,(.own 2 0 1)),(11,(.int .i64 t11)),(12,(.int .i64 t12))],heap := [(0,(.cells x4.length (.rL .i64 x4) false)),(1,(.cells x5.length (.rL .i64 x5) true)),(2,(.cells x6.length (.rI .i64 x6) true))],next := 3,nt := 174,m := 0 }
def ef8j10 : Ty67 → St := fun (t7,t11,x3,x4,x5) => { tmps := [(7,(.int .i64 t7)),(8,(.own 0 0 1)),(9,(.own 1 0 1)),(10,(.own 2 0 1)),(11,(.int .i64 t11))],heap := [(0,(.cells x3.length (.rL .i64 x3) false)),(1,(.cells x4.length (.rL .i64 x4) true)),(2,(.cells x5.length (.rI .i64 x5) true))],next := 3,nt := 174,m := 0 }
def ef8j11 : Ty69 → St := fun (t7,t11,x3,x4,x5,x6) => { tmps := [(7,(.int .i64 t7)),(8,(.own 0 0 1)),(9,(.own 1 0 1)),(10,(.own 2 0 1)),(11,(.int .i64 t11)),(13,(.own 3 0 1))],heap := [(0,(.cells x3.length (.rL .i64 x3) false)),(1,(.cells x4.length (.rL .i64 x4) true)),(2,(.cells x5.length (.rI .i64 x5) true)),(3,(.cells x6.length (.rI .i64 x6) true))],next := 4,nt := 174,m := 0 }
def ef8j12 : Ty69 → St := fun (t7,t11,x3,x4,x5,x6) => { tmps := [(7,(.int .i64 t7)),(8,(.own 0 0 1)),(9,(.own 1 0 1)),(10,(.own 2 0 1)),(11,(.int .i64 t11)),(13,(.own 3 0 1))],heap := [(0,(.cells x3.length (.rL .i64 x3) false)),(1,(.cells x4.length (.rL .i64 x4) true)),(2,(.cells x5.length (.rI .i64 x5) true)),(3,(.cells x6.length (.rI .i64 x6) true))],next := 4,nt := 174,m := 0 }
def ef8j13 : Ty70 → St := fun (t7,t11,t14,x4,x5,x6,x7) => { tmps := [(7,(.int .i64 t7)),(8,(.own 0 0 1)),(9,(.own 1 0 1)),(10,(.own 2 0 1)),(11,(.int .i64 t11)),(13,(.own 3 0 1)),(14,(.int .i64 t14))],heap := [(0,(.cells x4.length (.rL .i64 x4) false)),(1,(.cells x5.length (.rL .i64 x5) true)),(2,(.cells x6.length (.rI .i64 x6) true)),(3,(.cells x7.length (.rI .i64 x7) true))],next := 4,nt := 174,m := 0 }
def ef8l3 : Ty70 → St := fun (t7,t11,t14,x4,x5,x6,x7) => { tmps := [(7,(.int .i64 t7)),(8,(.own 0 0 1)),(9,(.own 1 0 1)),(10,(.own 2 0 1)),(11,(.int .i64 t11)),(13,(.own 3 0 1)),(14,(.int .i64 t14))],heap := [(0,(.cells x4.length (.rL .i64 x4) false)),(1,(.cells x5.length (.rL .i64 x5) true)),(2,(.cells x6.length (.rI .i64 x6) true)),(3,(.cells x7.length (.rI .i64 x7) true))],next := 4,nt := 174,m := 0 }
def ef8j14 : Ty70 → St := fun (t7,t11,t14,x4,x5,x6,x7) => { tmps := [(7,(.int .i64 t7)),(8,(.own 0 0 1)),(9,(.own 1 0 1)),(10,(.own 2 0 1)),(11,(.int .i64 t11)),(13,(.own 3 0 1)),(14,(.int .i64 t14))],heap := [(0,(.cells x4.length (.rL .i64 x4) false)),(1,(.cells x5.length (.rL .i64 x5) true)),(2,(.cells x6.length (.rI .i64 x6) true)),(3,(.cells x7.length (.rI .i64 x7) true))],next := 4,nt := 174,m := 0 }
def ef8j15 : Ty70 → St := fun (t7,t11,t14,x4,x5,x6,x7) => { tmps := [(7,(.int .i64 t7)),(8,(.own 0 0 1)),(9,(.own 1 0 1)),(10,(.own 2 0 1)),(11,(.int .i64 t11)),(13,(.own 3 0 1)),(14,(.int .i64 t14)),(15,.ns)],heap := [(0,(.cells x4.length (.rL .i64 x4) false)),(1,(.cells x5.length (.rL .i64 x5) true)),(2,(.cells x6.length (.rI .i64 x6) true)),(3,(.cells x7.length (.rI .i64 x7) true))],next := 4,nt := 174,m := 0 }
def ef8j16 : Ty71 → St := fun (t7,t11,t14,t16,x5,x6,x7,x8) => { tmps := [(7,(.int .i64 t7)),(8,(.own 0 0 1)),(9,(.own 1 0 1)),(10,(.own 2 0 1)),(11,(.int .i64 t11)),(13,(.own 3 0 1)),(14,(.int .i64 t14)),(15,.ns),(16,(.int .i64 t16))],heap := [(0,(.cells x5.length (.rL .i64 x5) false)),(1,(.cells x6.length (.rL .i64 x6) true)),(2,(.cells x7.length (.rI .i64 x7) true)),(3,(.cells x8.length (.rI .i64 x8) true))],next := 4,nt := 174,m := 0 }
def ef8l4 : Ty72 → St := fun (t7,t11,t14,t16,x5,x6,x7,x8,x9) => { tmps := [(7,(.int .i64 t7)),(8,(.own 0 0 1)),(9,(.own 1 0 1)),(10,(.own 2 0 1)),(11,(.int .i64 t11)),(13,(.own 3 0 1)),(14,(.int .i64 t14)),(15,(.own 4 0 1)),(16,(.int .i64 t16))],heap := [(0,(.cells x5.length (.rL .i64 x5) false)),(1,(.cells x6.length (.rL .i64 x6) true)),(2,(.cells x7.length (.rI .i64 x7) true)),(3,(.cells x8.length (.rI .i64 x8) true)),(4,(.cells x9.length (.rI .i64 x9) true))],next := 5,nt := 174,m := 0 }
def ef8j17 : Ty73 → St := fun (t7,t11,t14,x4,x5,x6,x7,x8) => { tmps := [(7,(.int .i64 t7)),(8,(.own 0 0 1)),(9,(.own 1 0 1)),(10,(.own 2 0 1)),(11,(.int .i64 t11)),(13,(.own 3 0 1)),(14,(.int .i64 t14)),(15,(.own 4 0 1))],heap := [(0,(.cells x4.length (.rL .i64 x4) false)),(1,(.cells x5.length (.rL .i64 x5) true)),(2,(.cells x6.length (.rI .i64 x6) true)),(3,(.cells x7.length (.rI .i64 x7) true)),(4,(.cells x8.length (.rI .i64 x8) true))],next := 5,nt := 174,m := 0 }
def ef8j18 : Ty70 → St := fun (t7,t11,t14,x4,x5,x6,x7) => { tmps := [(7,(.int .i64 t7)),(8,(.own 0 0 1)),(9,(.own 1 0 1)),(10,(.own 2 0 1)),(11,(.int .i64 t11)),(13,(.own 3 0 1)),(14,(.int .i64 t14))],heap := [(0,(.cells x4.length (.rL .i64 x4) false)),(1,(.cells x5.length (.rL .i64 x5) true)),(2,(.cells x6.length (.rI .i64 x6) true)),(3,(.cells x7.length (.rI .i64 x7) true))],next := 4,nt := 174,m := 0 }
def ef8j19 : Ty67 → St := fun (t7,t11,x3,x4,x5) => { tmps := [(7,(.int .i64 t7)),(8,(.own 0 0 1)),(9,(.own 1 0 1)),(10,(.own 2 0 1)),(11,(.int .i64 t11))],heap := [(0,(.cells x3.length (.rL .i64 x3) false)),(1,(.cells x4.length (.rL .i64 x4) true)),(2,(.cells x5.length (.rI .i64 x5) true))],next := 3,nt := 174,m := 0 }
def ef8j20 : Unit → St := fun _ => { tmps := [],heap := [],next := 0,nt := 174,m := 0 }
def f8_1 (F : Nat) (kf8j1 : Ty5 → Rz) : Ty5 → Rz := fun (a0,a1,a2) => (kf8j1 (a0,a1,a2))
theorem f8_1_eq (F : Nat) (Rf8j1 : St → Rz) : ∀ v,aexec VG228 (Af8 F) (bp Try.f8 2) (ef8_a v) (kSeq (kc VG228 Rf8j1 sp39) (kFin VG228 none (Try.f8).results.toList)) = f8_1 F (Rf8j1 ∘ ef8j1) v := by
  rintro ⟨a0,a1,a2⟩; kernel_rfl
def f8_2 (F : Nat) (kf8j2 : Ty5 → Rz) : Ty5 → Rz := fun (t0,t1,t2) => (cond (decide (0 < (12 : Int))) (kf8j2 (t0,t1,(IntKind.i64.wrap ((1 : Int) + (Reg.around t2 (12 : Int)))))) none)
theorem f8_2_eq (F : Nat) (Rf8j2 : St → Rz) : ∀ v,aexec VG228 (Af8 F) (bp Try.f8 6) (ef8j1 v) (kSeq (kc VG228 Rf8j2 sp40) (kFin VG228 none (Try.f8).results.toList)) = f8_2 F (Rf8j2 ∘ ef8j2) v := by
  rintro ⟨t0,t1,t2⟩; kernel_rfl
def f8_3 (F : Nat) (kf8j3 : Ty64 → Rz) : Ty5 → Rz := fun (t0,t1,t7) => (cond ((decide (0 ≤ t7)) && (decide (t7 < 1000))) (kf8j3 (t1,t7,(Isl.some t0 t7))) none)
theorem f8_3_eq (F : Nat) (Rf8j3 : St → Rz) : ∀ v,aexec VG228 (Af8 F) (bp Try.f8 14) (ef8j2 v) (kSeq (kc VG228 Rf8j3 sp54) (kFin VG228 none (Try.f8).results.toList)) = f8_3 F (Rf8j3 ∘ ef8j3) v := by
  rintro ⟨t0,t1,t7⟩; kernel_rfl
def f8_4 (F : Nat) (kf8j4 : Ty65 → Rz) : Ty64 → Rz := fun (t1,t7,x3) => (kf8j4 (t1,t7,x3,(Isl.groups t7 x3)))
theorem f8_4_eq (F : Nat) (Rf8j4 : St → Rz) : ∀ v,aexec VG228 (Af8 F) (bp Try.f8 30) (ef8j3 v) (kSeq (kc VG228 Rf8j4 sp55) (kFin VG228 none (Try.f8).results.toList)) = f8_4 F (Rf8j4 ∘ ef8j4) v := by
  rintro ⟨t1,t7,x3⟩; kernel_rfl
def f8_5 (F : Nat) (kf8j5 : Ty66 → Rz) : Ty65 → Rz := fun (t1,t7,x3,x4) => (cond (decide ((0 + x3.length) < 1073741824)) (cond ((decide (0 ≤ t7)) && (decide (t7 < 1000))) (cond (decide ((([] ++ x3).length + (Isl.some t1 t7).length) < 1073741824)) (kf8j5 (t7,x3,x4,(Isl.of t7 (Isl.groups t7 (([] ++ x3) ++ (Isl.some t1 t7)))))) none) none) none)
theorem f8_5_eq (F : Nat) (Rf8j5 : St → Rz) : ∀ v,aexec VG228 (Af8 F) (bp Try.f8 62) (ef8j4 v) (kSeq (kc VG228 Rf8j5 sp56) (kFin VG228 none (Try.f8).results.toList)) = f8_5 F (Rf8j5 ∘ ef8j5) v := by
  rintro ⟨t1,t7,x3,x4⟩; kernel_rfl
def f8_6 (F : Nat) (kf8j6 : Ty66 → Rz) : Ty66 → Rz := fun (t7,x2,x3,x4) => (cond ((↑x4.length : Int) != t7) (some ((.bool false),[])) (kf8j6 (t7,x2,x3,x4)))
theorem f8_6_eq (F : Nat) (Rf8j6 : St → Rz) : ∀ v,aexec VG228 (Af8 F) (bp Try.f8 126) (ef8j5 v) (kSeq (kc VG228 Rf8j6 sp56) (kFin VG228 none (Try.f8).results.toList)) = f8_6 F (Rf8j6 ∘ ef8j6) v := by
  rintro ⟨t7,x2,x3,x4⟩; kernel_rfl
def f8_7 (F : Nat) (kf8j7 : Ty67 → Rz) (kf8j20 : Unit → Rz) : Ty66 → Rz := fun (t7,x2,x3,x4) => (kf8j7 (t7,(0 : Int),x2,x3,x4))
theorem f8_7_eq (F : Nat) (Rf8j7 : St → Rz) (Rf8j20 : St → Rz) : ∀ v,aexec VG228 (Af8 F) (bp Try.f8 508) (ef8j6 v) (kSeq (kc VG228 Rf8j7 sp50) (kSeq (kc VG228 Rf8j20 []) (kFin VG228 none (Try.f8).results.toList))) = f8_7 F (Rf8j7 ∘ ef8j7) (Rf8j20 ∘ ef8j20) v := by
  rintro ⟨t7,x2,x3,x4⟩; kernel_rfl
def f8_8 (F : Nat) (kf8j8 : Ty67 → Rz) (kf8l1 : Ty67 → Rz) (kf8j20 : Unit → Rz) : Ty67 → Rz := fun (t7,t11,x3,x4,x5) => (cond (decide (t11 < (↑x4.length : Int))) (kf8j8 (t7,t11,x3,x4,x5)) (kf8j20 ()))
theorem f8_8_eq (F : Nat) (Rf8j8 : St → Rz) (Rf8l1 : St → Rz) (Rf8j20 : St → Rz) : ∀ v,aexec VG228 (Af8 F) (bp Try.f8 4072) (ef8l1 v) (kSeq (kc VG228 Rf8j8 sp50) (kSeq (kc VG228 Rf8l1 sp50) (kBlock 0 (kSeq (kc VG228 Rf8j20 []) (kFin VG228 none (Try.f8).results.toList))))) = f8_8 F (Rf8j8 ∘ ef8j8) (Rf8l1 ∘ ef8l1) (Rf8j20 ∘ ef8j20) v := by
  rintro ⟨t7,t11,x3,x4,x5⟩; kernel_rfl
def f8_9 (F : Nat) (kf8j9 : Ty68 → Rz) (kf8j10 : Ty67 → Rz) (kf8j19 : Ty67 → Rz) (kf8l1 : Ty67 → Rz) (kf8j20 : Unit → Rz) : Ty67 → Rz := fun (t7,t11,x3,x4,x5) => (kf8j9 (t7,t11,(0 : Int),x3,x4,x5))
theorem f8_9_eq (F : Nat) (Rf8j9 : St → Rz) (Rf8j10 : St → Rz) (Rf8j19 : St → Rz) (Rf8l1 : St → Rz) (Rf8j20 : St → Rz) : ∀ v,aexec VG228 (Af8 F) (bp Try.f8 65168) (ef8j8 v) (kSeq (kc VG228 Rf8j9 sp51) (kSeq (kc VG228 Rf8j10 sp50) (kBlock 1 (kSeq (kc VG228 Rf8j19 sp50) (kSeq (kc VG228 Rf8l1 sp50) (kBlock 0 (kSeq (kc VG228 Rf8j20 []) (kFin VG228 none (Try.f8).results.toList)))))))) = f8_9 F (Rf8j9 ∘ ef8j9) (Rf8j10 ∘ ef8j10) (Rf8j19 ∘ ef8j19) (Rf8l1 ∘ ef8l1) (Rf8j20 ∘ ef8j20) v := by
  rintro ⟨t7,t11,x3,x4,x5⟩; kernel_rfl
def f8_10 (F : Nat) (kf8l2 : Ty68 → Rz) (kf8j10 : Ty67 → Rz) (kf8j19 : Ty67 → Rz) (kf8l1 : Ty67 → Rz) (kf8j20 : Unit → Rz) : Ty68 → Rz := fun (t7,t11,t12,x4,x5,x6) => (cond ((decide (0 ≤ t11)) && (decide (t11 < (↑x5.length : Int)))) (cond (decide (t12 < (↑(x5.getD (Int.toNat t11) []).length : Int))) (cond ((decide (0 ≤ t11)) && (decide (t11 < (↑x5.length : Int)))) (cond ((decide (0 ≤ t12)) && (decide (t12 < (↑(x5.getD (Int.toNat t11) []).length : Int)))) (cond (decide (((x5.getD (Int.toNat t11) []).getD (Int.toNat t12) 0) < (0 : Int))) (some ((.bool false),[])) (cond ((decide (0 ≤ t11)) && (decide (t11 < (↑x5.length : Int)))) (cond ((decide (0 ≤ t12)) && (decide (t12 < (↑(x5.getD (Int.toNat t11) []).length : Int)))) (cond (decide (((x5.getD (Int.toNat t11) []).getD (Int.toNat t12) 0) ≥ t7)) (some ((.bool false),[])) (cond ((decide (0 ≤ t11)) && (decide (t11 < (↑x5.length : Int)))) (cond ((decide (0 ≤ t12)) && (decide (t12 < (↑(x5.getD (Int.toNat t11) []).length : Int)))) (cond ((decide (0 ≤ ((x5.getD (Int.toNat t11) []).getD (Int.toNat t12) 0))) && (decide (((x5.getD (Int.toNat t11) []).getD (Int.toNat t12) 0) < (↑x6.length : Int)))) (cond ((decide (0 ≤ t11)) && (decide (t11 < (↑x5.length : Int)))) (cond (decide ((0 : Int) < (↑(x5.getD (Int.toNat t11) []).length : Int))) (cond ((decide (0 ≤ ((x5.getD (Int.toNat t11) []).getD 0 0))) && (decide (((x5.getD (Int.toNat t11) []).getD 0 0) < (↑x6.length : Int)))) (cond ((x6.getD (Int.toNat ((x5.getD (Int.toNat t11) []).getD (Int.toNat t12) 0)) 0) != (x6.getD (Int.toNat ((x5.getD (Int.toNat t11) []).getD 0 0)) 0)) (some ((.bool false),[])) (kf8l2 (t7,t11,(IntKind.i64.wrap (t12 + (1 : Int))),x4,x5,x6))) none) none) none) none) none) none)) none) none)) none) none) (kf8j10 (t7,t11,x4,x5,x6))) none)
theorem f8_10_eq (F : Nat) (Rf8l2 : St → Rz) (Rf8j10 : St → Rz) (Rf8j19 : St → Rz) (Rf8l1 : St → Rz) (Rf8j20 : St → Rz) : ∀ v,aexec VG228 (Af8 F) (bp Try.f8 260676) (ef8l2 v) (kSeq (kc VG228 Rf8l2 sp51) (kBlock 2 (kSeq (kc VG228 Rf8j10 sp50) (kBlock 1 (kSeq (kc VG228 Rf8j19 sp50) (kSeq (kc VG228 Rf8l1 sp50) (kBlock 0 (kSeq (kc VG228 Rf8j20 []) (kFin VG228 none (Try.f8).results.toList))))))))) = f8_10 F (Rf8l2 ∘ ef8l2) (Rf8j10 ∘ ef8j10) (Rf8j19 ∘ ef8j19) (Rf8l1 ∘ ef8l1) (Rf8j20 ∘ ef8j20) v := by
  rintro ⟨t7,t11,t12,x4,x5,x6⟩; kernel_rfl
def f8_11_i : Ty68 → Int × Int × Int × (List (List Int)) × (List (List Int)) × (List Int) := fun (t7,t11,t12,x4,x5,x6) => (t7,t11,t12,x4,x5,x6)
def f8_11 (F : Nat) (kf8j10 : Ty67 → Rz) (kf8j19 : Ty67 → Rz) (kf8l1 : Ty67 → Rz) (kf8j20 : Unit → Rz) : Ty68 → Rz := fun v => loopN (fun k => f8_10 F k kf8j10 kf8j19 kf8l1 kf8j20) F (f8_11_i v)
theorem f8_11_eq (F : Nat) (Rf8j10 : St → Rz) (Rf8j19 : St → Rz) (Rf8l1 : St → Rz) (Rf8j20 : St → Rz) : ∀ v,aexec VG228 (Af8 F) (bp Try.f8 130338) (ef8j9 v) (kBlock 2 (kSeq (kc VG228 Rf8j10 sp50) (kBlock 1 (kSeq (kc VG228 Rf8j19 sp50) (kSeq (kc VG228 Rf8l1 sp50) (kBlock 0 (kSeq (kc VG228 Rf8j20 []) (kFin VG228 none (Try.f8).results.toList)))))))) = f8_11 F (Rf8j10 ∘ ef8j10) (Rf8j19 ∘ ef8j19) (Rf8l1 ∘ ef8l1) (Rf8j20 ∘ ef8j20) v :=
  loop_cut (by kernel_rfl) (by kernel_rfl) ef8j9 ef8l2 _ f8_11_i (fun k => f8_10 F k (Rf8j10 ∘ ef8j10) (Rf8j19 ∘ ef8j19) (Rf8l1 ∘ ef8l1) (Rf8j20 ∘ ef8j20))
    (by rintro ⟨t7,t11,t12,x4,x5,x6⟩; kernel_rfl) (fun Rf8l2 => f8_10_eq F Rf8l2 Rf8j10 Rf8j19 Rf8l1 Rf8j20)
def f8_12 (F : Nat) (kf8j10 : Ty67 → Rz) (kf8j19 : Ty67 → Rz) (kf8l1 : Ty67 → Rz) (kf8j20 : Unit → Rz) : Ty68 → Rz := f8_11 F kf8j10 kf8j19 kf8l1 kf8j20
theorem f8_12_eq (F : Nat) (Rf8j10 : St → Rz) (Rf8j19 : St → Rz) (Rf8l1 : St → Rz) (Rf8j20 : St → Rz) : ∀ v,aexec VG228 (Af8 F) (bp Try.f8 65169) (ef8j9 v) (kSeq (kc VG228 Rf8j10 sp50) (kBlock 1 (kSeq (kc VG228 Rf8j19 sp50) (kSeq (kc VG228 Rf8l1 sp50) (kBlock 0 (kSeq (kc VG228 Rf8j20 []) (kFin VG228 none (Try.f8).results.toList))))))) = f8_12 F (Rf8j10 ∘ ef8j10) (Rf8j19 ∘ ef8j19) (Rf8l1 ∘ ef8l1) (Rf8j20 ∘ ef8j20) v := fun v =>
  (block_in  (by kernel_rfl) _ _).trans (f8_11_eq F Rf8j10 Rf8j19 Rf8l1 Rf8j20 v)
def f8_13 (F : Nat) (kf8j10 : Ty67 → Rz) (kf8j19 : Ty67 → Rz) (kf8l1 : Ty67 → Rz) (kf8j20 : Unit → Rz) : Ty67 → Rz := fun v => f8_9 F (f8_12 F kf8j10 kf8j19 kf8l1 kf8j20) kf8j10 kf8j19 kf8l1 kf8j20 v
theorem f8_13_eq (F : Nat) (Rf8j10 : St → Rz) (Rf8j19 : St → Rz) (Rf8l1 : St → Rz) (Rf8j20 : St → Rz) : ∀ v,aexec VG228 (Af8 F) (bp Try.f8 32584) (ef8j8 v) (kSeq (kc VG228 Rf8j10 sp50) (kBlock 1 (kSeq (kc VG228 Rf8j19 sp50) (kSeq (kc VG228 Rf8l1 sp50) (kBlock 0 (kSeq (kc VG228 Rf8j20 []) (kFin VG228 none (Try.f8).results.toList))))))) = f8_13 F (Rf8j10 ∘ ef8j10) (Rf8j19 ∘ ef8j19) (Rf8l1 ∘ ef8l1) (Rf8j20 ∘ ef8j20) v :=
  seq_cut (by kernel_rfl) (by kernel_rfl) ef8j8 ef8j9 _ (fun k => f8_9 F k (Rf8j10 ∘ ef8j10) (Rf8j19 ∘ ef8j19) (Rf8l1 ∘ ef8l1) (Rf8j20 ∘ ef8j20)) (f8_12 F (Rf8j10 ∘ ef8j10) (Rf8j19 ∘ ef8j19) (Rf8l1 ∘ ef8l1) (Rf8j20 ∘ ef8j20))
    (fun Rf8j9 => f8_9_eq F Rf8j9 Rf8j10 Rf8j19 Rf8l1 Rf8j20) (f8_12_eq F Rf8j10 Rf8j19 Rf8l1 Rf8j20)
def f8_14 (F : Nat) (kf8j11 : Ty69 → Rz) (kf8j19 : Ty67 → Rz) (kf8l1 : Ty67 → Rz) (kf8j20 : Unit → Rz) : Ty67 → Rz := fun (t7,t11,x3,x4,x5) => (cond ((decide (0 ≤ t11)) && (decide (t11 < (↑x4.length : Int)))) (cond (decide ((x4.getD (Int.toNat t11) []).length < 1073740000)) (kf8j11 (t7,t11,x3,x4,x5,(Isl.cut (x4.getD (Int.toNat t11) []) x3))) none) none)
theorem f8_14_eq (F : Nat) (Rf8j11 : St → Rz) (Rf8j19 : St → Rz) (Rf8l1 : St → Rz) (Rf8j20 : St → Rz) : ∀ v,aexec VG228 (Af8 F) (bp Try.f8 65170) (ef8j10 v) (kSeq (kc VG228 Rf8j11 sp57) (kBlock 1 (kSeq (kc VG228 Rf8j19 sp50) (kSeq (kc VG228 Rf8l1 sp50) (kBlock 0 (kSeq (kc VG228 Rf8j20 []) (kFin VG228 none (Try.f8).results.toList))))))) = f8_14 F (Rf8j11 ∘ ef8j11) (Rf8j19 ∘ ef8j19) (Rf8l1 ∘ ef8l1) (Rf8j20 ∘ ef8j20) v := by
  rintro ⟨t7,t11,x3,x4,x5⟩; kernel_rfl
def f8_15 (F : Nat) (kf8j12 : Ty69 → Rz) (kf8j19 : Ty67 → Rz) (kf8l1 : Ty67 → Rz) (kf8j20 : Unit → Rz) : Ty69 → Rz := fun (t7,t11,x3,x4,x5,x6) => (cond ((decide (0 ≤ t11)) && (decide (t11 < (↑x4.length : Int)))) (cond (decide ((↑(x4.getD (Int.toNat t11) []).length : Int) ≥ (2 : Int))) (cond ((decide (0 ≤ t11)) && (decide (t11 < (↑x4.length : Int)))) (cond (decide ((↑x6.length : Int) > (IntKind.i64.wrap ((↑(x4.getD (Int.toNat t11) []).length : Int) - (2 : Int))))) (some ((.bool false),[])) (kf8j12 (t7,t11,x3,x4,x5,x6))) none) (kf8j12 (t7,t11,x3,x4,x5,x6))) none)
theorem f8_15_eq (F : Nat) (Rf8j12 : St → Rz) (Rf8j19 : St → Rz) (Rf8l1 : St → Rz) (Rf8j20 : St → Rz) : ∀ v,aexec VG228 (Af8 F) (bp Try.f8 130342) (ef8j11 v) (kSeq (kc VG228 Rf8j12 sp57) (kBlock 1 (kSeq (kc VG228 Rf8j19 sp50) (kSeq (kc VG228 Rf8l1 sp50) (kBlock 0 (kSeq (kc VG228 Rf8j20 []) (kFin VG228 none (Try.f8).results.toList))))))) = f8_15 F (Rf8j12 ∘ ef8j12) (Rf8j19 ∘ ef8j19) (Rf8l1 ∘ ef8l1) (Rf8j20 ∘ ef8j20) v := by
  rintro ⟨t7,t11,x3,x4,x5,x6⟩; kernel_rfl
def f8_16 (F : Nat) (kf8j13 : Ty70 → Rz) (kf8j19 : Ty67 → Rz) (kf8l1 : Ty67 → Rz) (kf8j20 : Unit → Rz) : Ty69 → Rz := fun (t7,t11,x3,x4,x5,x6) => (kf8j13 (t7,t11,(0 : Int),x3,x4,x5,x6))
theorem f8_16_eq (F : Nat) (Rf8j13 : St → Rz) (Rf8j19 : St → Rz) (Rf8l1 : St → Rz) (Rf8j20 : St → Rz) : ∀ v,aexec VG228 (Af8 F) (bp Try.f8 260686) (ef8j12 v) (kSeq (kc VG228 Rf8j13 sp52) (kBlock 1 (kSeq (kc VG228 Rf8j19 sp50) (kSeq (kc VG228 Rf8l1 sp50) (kBlock 0 (kSeq (kc VG228 Rf8j20 []) (kFin VG228 none (Try.f8).results.toList))))))) = f8_16 F (Rf8j13 ∘ ef8j13) (Rf8j19 ∘ ef8j19) (Rf8l1 ∘ ef8l1) (Rf8j20 ∘ ef8j20) v := by
  rintro ⟨t7,t11,x3,x4,x5,x6⟩; kernel_rfl
def f8_17 (F : Nat) (kf8j14 : Ty70 → Rz) (kf8l3 : Ty70 → Rz) (kf8j19 : Ty67 → Rz) (kf8l1 : Ty67 → Rz) (kf8j20 : Unit → Rz) : Ty70 → Rz := fun (t7,t11,t14,x4,x5,x6,x7) => (cond (decide (t14 < (↑x7.length : Int))) (kf8j14 (t7,t11,t14,x4,x5,x6,x7)) (kf8j19 (t7,t11,x4,x5,x6)))
theorem f8_17_eq (F : Nat) (Rf8j14 : St → Rz) (Rf8l3 : St → Rz) (Rf8j19 : St → Rz) (Rf8l1 : St → Rz) (Rf8j20 : St → Rz) : ∀ v,aexec VG228 (Af8 F) (bp Try.f8 2085496) (ef8l3 v) (kSeq (kc VG228 Rf8j14 sp52) (kSeq (kc VG228 Rf8l3 sp52) (kBlock 4 (kBlock 1 (kSeq (kc VG228 Rf8j19 sp50) (kSeq (kc VG228 Rf8l1 sp50) (kBlock 0 (kSeq (kc VG228 Rf8j20 []) (kFin VG228 none (Try.f8).results.toList))))))))) = f8_17 F (Rf8j14 ∘ ef8j14) (Rf8l3 ∘ ef8l3) (Rf8j19 ∘ ef8j19) (Rf8l1 ∘ ef8l1) (Rf8j20 ∘ ef8j20) v := by
  rintro ⟨t7,t11,t14,x4,x5,x6,x7⟩; kernel_rfl
def f8_18 (F : Nat) (kf8j15 : Ty70 → Rz) (kf8j18 : Ty70 → Rz) (kf8l3 : Ty70 → Rz) (kf8j19 : Ty67 → Rz) (kf8l1 : Ty67 → Rz) (kf8j20 : Unit → Rz) : Ty70 → Rz := fun (t7,t11,t14,x4,x5,x6,x7) => (kf8j15 (t7,t11,t14,x4,x5,x6,x7))
theorem f8_18_eq (F : Nat) (Rf8j15 : St → Rz) (Rf8j18 : St → Rz) (Rf8l3 : St → Rz) (Rf8j19 : St → Rz) (Rf8l1 : St → Rz) (Rf8j20 : St → Rz) : ∀ v,aexec VG228 (Af8 F) (bp Try.f8 16683976) (ef8j14 v) (kSeq (kc VG228 Rf8j15 sp58) (kBlock 5 (kSeq (kc VG228 Rf8j18 sp52) (kSeq (kc VG228 Rf8l3 sp52) (kBlock 4 (kBlock 1 (kSeq (kc VG228 Rf8j19 sp50) (kSeq (kc VG228 Rf8l1 sp50) (kBlock 0 (kSeq (kc VG228 Rf8j20 []) (kFin VG228 none (Try.f8).results.toList))))))))))) = f8_18 F (Rf8j15 ∘ ef8j15) (Rf8j18 ∘ ef8j18) (Rf8l3 ∘ ef8l3) (Rf8j19 ∘ ef8j19) (Rf8l1 ∘ ef8l1) (Rf8j20 ∘ ef8j20) v := by
  rintro ⟨t7,t11,t14,x4,x5,x6,x7⟩; kernel_rfl
def f8_19 (F : Nat) (kf8j16 : Ty71 → Rz) (kf8j17 : Ty73 → Rz) (kf8j18 : Ty70 → Rz) (kf8l3 : Ty70 → Rz) (kf8j19 : Ty67 → Rz) (kf8l1 : Ty67 → Rz) (kf8j20 : Unit → Rz) : Ty70 → Rz := fun (t7,t11,t14,x4,x5,x6,x7) => (kf8j16 (t7,t11,t14,(0 : Int),x4,x5,x6,x7))
theorem f8_19_eq (F : Nat) (Rf8j16 : St → Rz) (Rf8j17 : St → Rz) (Rf8j18 : St → Rz) (Rf8l3 : St → Rz) (Rf8j19 : St → Rz) (Rf8l1 : St → Rz) (Rf8j20 : St → Rz) : ∀ v,aexec VG228 (Af8 F) (bp Try.f8 66735908) (ef8j15 v) (kSeq (kc VG228 Rf8j16 sp59) (kSeq (kc VG228 Rf8j17 sp58) (kBlock 5 (kSeq (kc VG228 Rf8j18 sp52) (kSeq (kc VG228 Rf8l3 sp52) (kBlock 4 (kBlock 1 (kSeq (kc VG228 Rf8j19 sp50) (kSeq (kc VG228 Rf8l1 sp50) (kBlock 0 (kSeq (kc VG228 Rf8j20 []) (kFin VG228 none (Try.f8).results.toList)))))))))))) = f8_19 F (Rf8j16 ∘ ef8j16) (Rf8j17 ∘ ef8j17) (Rf8j18 ∘ ef8j18) (Rf8l3 ∘ ef8l3) (Rf8j19 ∘ ef8j19) (Rf8l1 ∘ ef8l1) (Rf8j20 ∘ ef8j20) v := by
  rintro ⟨t7,t11,t14,x4,x5,x6,x7⟩; kernel_rfl
def f8_20 (F : Nat) (kf8l4 : Ty72 → Rz) (kf8j17 : Ty73 → Rz) (kf8j18 : Ty70 → Rz) (kf8l3 : Ty70 → Rz) (kf8j19 : Ty67 → Rz) (kf8l1 : Ty67 → Rz) (kf8j20 : Unit → Rz) : Ty72 → Rz := fun (t7,t11,t14,t16,x5,x6,x7,x8,x9) => (cond ((decide (0 ≤ t11)) && (decide (t11 < (↑x6.length : Int)))) (cond (decide (t16 < (↑(x6.getD (Int.toNat t11) []).length : Int))) (cond ((decide (0 ≤ t11)) && (decide (t11 < (↑x6.length : Int)))) (cond ((decide (0 ≤ t16)) && (decide (t16 < (↑(x6.getD (Int.toNat t11) []).length : Int)))) (cond ((decide (0 ≤ t14)) && (decide (t14 < (↑x8.length : Int)))) (cond (((x6.getD (Int.toNat t11) []).getD (Int.toNat t16) 0) != (x8.getD (Int.toNat t14) 0)) (cond ((decide (0 ≤ t11)) && (decide (t11 < (↑x6.length : Int)))) (cond ((decide (0 ≤ t16)) && (decide (t16 < (↑(x6.getD (Int.toNat t11) []).length : Int)))) (cond (decide ((x9.length + 1) < 1073741824)) (kf8l4 (t7,t11,t14,(IntKind.i64.wrap (t16 + (1 : Int))),x5,x6,x7,x8,(x9 ++ [((x6.getD (Int.toNat t11) []).getD (Int.toNat t16) 0)]))) none) none) none) (kf8l4 (t7,t11,t14,(IntKind.i64.wrap (t16 + (1 : Int))),x5,x6,x7,x8,x9))) none) none) none) (kf8j17 (t7,t11,t14,x5,x6,x7,x8,x9))) none)
theorem f8_20_eq (F : Nat) (Rf8l4 : St → Rz) (Rf8j17 : St → Rz) (Rf8j18 : St → Rz) (Rf8l3 : St → Rz) (Rf8j19 : St → Rz) (Rf8l1 : St → Rz) (Rf8j20 : St → Rz) : ∀ v,aexec VG228 (Af8 F) (bp Try.f8 266943636) (ef8l4 v) (kSeq (kc VG228 Rf8l4 sp53) (kBlock 6 (kSeq (kc VG228 Rf8j17 sp58) (kBlock 5 (kSeq (kc VG228 Rf8j18 sp52) (kSeq (kc VG228 Rf8l3 sp52) (kBlock 4 (kBlock 1 (kSeq (kc VG228 Rf8j19 sp50) (kSeq (kc VG228 Rf8l1 sp50) (kBlock 0 (kSeq (kc VG228 Rf8j20 []) (kFin VG228 none (Try.f8).results.toList))))))))))))) = f8_20 F (Rf8l4 ∘ ef8l4) (Rf8j17 ∘ ef8j17) (Rf8j18 ∘ ef8j18) (Rf8l3 ∘ ef8l3) (Rf8j19 ∘ ef8j19) (Rf8l1 ∘ ef8l1) (Rf8j20 ∘ ef8j20) v := by
  rintro ⟨t7,t11,t14,t16,x5,x6,x7,x8,x9⟩; kernel_rfl
def f8_21_i : Ty71 → Int × Int × Int × Int × (List (List Int)) × (List (List Int)) × (List Int) × (List Int) × (List Int) := fun (t7,t11,t14,t16,x5,x6,x7,x8) => (t7,t11,t14,t16,x5,x6,x7,x8,[])
def f8_21 (F : Nat) (kf8j17 : Ty73 → Rz) (kf8j18 : Ty70 → Rz) (kf8l3 : Ty70 → Rz) (kf8j19 : Ty67 → Rz) (kf8l1 : Ty67 → Rz) (kf8j20 : Unit → Rz) : Ty71 → Rz := fun v => loopN (fun k => f8_20 F k kf8j17 kf8j18 kf8l3 kf8j19 kf8l1 kf8j20) F (f8_21_i v)
theorem f8_21_eq (F : Nat) (Rf8j17 : St → Rz) (Rf8j18 : St → Rz) (Rf8l3 : St → Rz) (Rf8j19 : St → Rz) (Rf8l1 : St → Rz) (Rf8j20 : St → Rz) : ∀ v,aexec VG228 (Af8 F) (bp Try.f8 133471818) (ef8j16 v) (kBlock 6 (kSeq (kc VG228 Rf8j17 sp58) (kBlock 5 (kSeq (kc VG228 Rf8j18 sp52) (kSeq (kc VG228 Rf8l3 sp52) (kBlock 4 (kBlock 1 (kSeq (kc VG228 Rf8j19 sp50) (kSeq (kc VG228 Rf8l1 sp50) (kBlock 0 (kSeq (kc VG228 Rf8j20 []) (kFin VG228 none (Try.f8).results.toList)))))))))))) = f8_21 F (Rf8j17 ∘ ef8j17) (Rf8j18 ∘ ef8j18) (Rf8l3 ∘ ef8l3) (Rf8j19 ∘ ef8j19) (Rf8l1 ∘ ef8l1) (Rf8j20 ∘ ef8j20) v :=
  loop_cut (by kernel_rfl) (by kernel_rfl) ef8j16 ef8l4 _ f8_21_i (fun k => f8_20 F k (Rf8j17 ∘ ef8j17) (Rf8j18 ∘ ef8j18) (Rf8l3 ∘ ef8l3) (Rf8j19 ∘ ef8j19) (Rf8l1 ∘ ef8l1) (Rf8j20 ∘ ef8j20))
    (by rintro ⟨t7,t11,t14,t16,x5,x6,x7,x8⟩; kernel_rfl) (fun Rf8l4 => f8_20_eq F Rf8l4 Rf8j17 Rf8j18 Rf8l3 Rf8j19 Rf8l1 Rf8j20)
def f8_22 (F : Nat) (kf8j17 : Ty73 → Rz) (kf8j18 : Ty70 → Rz) (kf8l3 : Ty70 → Rz) (kf8j19 : Ty67 → Rz) (kf8l1 : Ty67 → Rz) (kf8j20 : Unit → Rz) : Ty71 → Rz := f8_21 F kf8j17 kf8j18 kf8l3 kf8j19 kf8l1 kf8j20
theorem f8_22_eq (F : Nat) (Rf8j17 : St → Rz) (Rf8j18 : St → Rz) (Rf8l3 : St → Rz) (Rf8j19 : St → Rz) (Rf8l1 : St → Rz) (Rf8j20 : St → Rz) : ∀ v,aexec VG228 (Af8 F) (bp Try.f8 66735909) (ef8j16 v) (kSeq (kc VG228 Rf8j17 sp58) (kBlock 5 (kSeq (kc VG228 Rf8j18 sp52) (kSeq (kc VG228 Rf8l3 sp52) (kBlock 4 (kBlock 1 (kSeq (kc VG228 Rf8j19 sp50) (kSeq (kc VG228 Rf8l1 sp50) (kBlock 0 (kSeq (kc VG228 Rf8j20 []) (kFin VG228 none (Try.f8).results.toList))))))))))) = f8_22 F (Rf8j17 ∘ ef8j17) (Rf8j18 ∘ ef8j18) (Rf8l3 ∘ ef8l3) (Rf8j19 ∘ ef8j19) (Rf8l1 ∘ ef8l1) (Rf8j20 ∘ ef8j20) v := fun v =>
  (block_in  (by kernel_rfl) _ _).trans (f8_21_eq F Rf8j17 Rf8j18 Rf8l3 Rf8j19 Rf8l1 Rf8j20 v)
def f8_23 (F : Nat) (kf8j17 : Ty73 → Rz) (kf8j18 : Ty70 → Rz) (kf8l3 : Ty70 → Rz) (kf8j19 : Ty67 → Rz) (kf8l1 : Ty67 → Rz) (kf8j20 : Unit → Rz) : Ty70 → Rz := fun v => f8_19 F (f8_22 F kf8j17 kf8j18 kf8l3 kf8j19 kf8l1 kf8j20) kf8j17 kf8j18 kf8l3 kf8j19 kf8l1 kf8j20 v
theorem f8_23_eq (F : Nat) (Rf8j17 : St → Rz) (Rf8j18 : St → Rz) (Rf8l3 : St → Rz) (Rf8j19 : St → Rz) (Rf8l1 : St → Rz) (Rf8j20 : St → Rz) : ∀ v,aexec VG228 (Af8 F) (bp Try.f8 33367954) (ef8j15 v) (kSeq (kc VG228 Rf8j17 sp58) (kBlock 5 (kSeq (kc VG228 Rf8j18 sp52) (kSeq (kc VG228 Rf8l3 sp52) (kBlock 4 (kBlock 1 (kSeq (kc VG228 Rf8j19 sp50) (kSeq (kc VG228 Rf8l1 sp50) (kBlock 0 (kSeq (kc VG228 Rf8j20 []) (kFin VG228 none (Try.f8).results.toList))))))))))) = f8_23 F (Rf8j17 ∘ ef8j17) (Rf8j18 ∘ ef8j18) (Rf8l3 ∘ ef8l3) (Rf8j19 ∘ ef8j19) (Rf8l1 ∘ ef8l1) (Rf8j20 ∘ ef8j20) v :=
  seq_cut (by kernel_rfl) (by kernel_rfl) ef8j15 ef8j16 _ (fun k => f8_19 F k (Rf8j17 ∘ ef8j17) (Rf8j18 ∘ ef8j18) (Rf8l3 ∘ ef8l3) (Rf8j19 ∘ ef8j19) (Rf8l1 ∘ ef8l1) (Rf8j20 ∘ ef8j20)) (f8_22 F (Rf8j17 ∘ ef8j17) (Rf8j18 ∘ ef8j18) (Rf8l3 ∘ ef8l3) (Rf8j19 ∘ ef8j19) (Rf8l1 ∘ ef8l1) (Rf8j20 ∘ ef8j20))
    (fun Rf8j16 => f8_19_eq F Rf8j16 Rf8j17 Rf8j18 Rf8l3 Rf8j19 Rf8l1 Rf8j20) (f8_22_eq F Rf8j17 Rf8j18 Rf8l3 Rf8j19 Rf8l1 Rf8j20)
def f8_24 (F : Nat) (kf8j18 : Ty70 → Rz) (kf8l3 : Ty70 → Rz) (kf8j19 : Ty67 → Rz) (kf8l1 : Ty67 → Rz) (kf8j20 : Unit → Rz) : Ty73 → Rz := fun (t7,t11,t14,x4,x5,x6,x7,x8) => (cond ((decide (0 ≤ t11)) && (decide (t11 < (↑x5.length : Int)))) (cond ((↑x8.length : Int) != (IntKind.i64.wrap ((↑(x5.getD (Int.toNat t11) []).length : Int) - (1 : Int)))) (some ((.bool false),[])) (cond (decide (x8.length < 1073740000)) (cond (decide ((↑(Isl.split x8 x4).length : Int) < (2 : Int))) (some ((.bool false),[])) (kf8j18 (t7,t11,t14,x4,x5,x6,x7))) none)) none)
theorem f8_24_eq (F : Nat) (Rf8j18 : St → Rz) (Rf8l3 : St → Rz) (Rf8j19 : St → Rz) (Rf8l1 : St → Rz) (Rf8j20 : St → Rz) : ∀ v,aexec VG228 (Af8 F) (bp Try.f8 33367955) (ef8j17 v) (kBlock 5 (kSeq (kc VG228 Rf8j18 sp52) (kSeq (kc VG228 Rf8l3 sp52) (kBlock 4 (kBlock 1 (kSeq (kc VG228 Rf8j19 sp50) (kSeq (kc VG228 Rf8l1 sp50) (kBlock 0 (kSeq (kc VG228 Rf8j20 []) (kFin VG228 none (Try.f8).results.toList)))))))))) = f8_24 F (Rf8j18 ∘ ef8j18) (Rf8l3 ∘ ef8l3) (Rf8j19 ∘ ef8j19) (Rf8l1 ∘ ef8l1) (Rf8j20 ∘ ef8j20) v := by
  rintro ⟨t7,t11,t14,x4,x5,x6,x7,x8⟩; kernel_rfl
def f8_25 (F : Nat) (kf8j18 : Ty70 → Rz) (kf8l3 : Ty70 → Rz) (kf8j19 : Ty67 → Rz) (kf8l1 : Ty67 → Rz) (kf8j20 : Unit → Rz) : Ty70 → Rz := fun v => f8_23 F (f8_24 F kf8j18 kf8l3 kf8j19 kf8l1 kf8j20) kf8j18 kf8l3 kf8j19 kf8l1 kf8j20 v
theorem f8_25_eq (F : Nat) (Rf8j18 : St → Rz) (Rf8l3 : St → Rz) (Rf8j19 : St → Rz) (Rf8l1 : St → Rz) (Rf8j20 : St → Rz) : ∀ v,aexec VG228 (Af8 F) (bp Try.f8 16683977) (ef8j15 v) (kBlock 5 (kSeq (kc VG228 Rf8j18 sp52) (kSeq (kc VG228 Rf8l3 sp52) (kBlock 4 (kBlock 1 (kSeq (kc VG228 Rf8j19 sp50) (kSeq (kc VG228 Rf8l1 sp50) (kBlock 0 (kSeq (kc VG228 Rf8j20 []) (kFin VG228 none (Try.f8).results.toList)))))))))) = f8_25 F (Rf8j18 ∘ ef8j18) (Rf8l3 ∘ ef8l3) (Rf8j19 ∘ ef8j19) (Rf8l1 ∘ ef8l1) (Rf8j20 ∘ ef8j20) v :=
  seq_cut (by kernel_rfl) (by kernel_rfl) ef8j15 ef8j17 _ (fun k => f8_23 F k (Rf8j18 ∘ ef8j18) (Rf8l3 ∘ ef8l3) (Rf8j19 ∘ ef8j19) (Rf8l1 ∘ ef8l1) (Rf8j20 ∘ ef8j20)) (f8_24 F (Rf8j18 ∘ ef8j18) (Rf8l3 ∘ ef8l3) (Rf8j19 ∘ ef8j19) (Rf8l1 ∘ ef8l1) (Rf8j20 ∘ ef8j20))
    (fun Rf8j17 => f8_23_eq F Rf8j17 Rf8j18 Rf8l3 Rf8j19 Rf8l1 Rf8j20) (f8_24_eq F Rf8j18 Rf8l3 Rf8j19 Rf8l1 Rf8j20)
def f8_26 (F : Nat) (kf8j18 : Ty70 → Rz) (kf8l3 : Ty70 → Rz) (kf8j19 : Ty67 → Rz) (kf8l1 : Ty67 → Rz) (kf8j20 : Unit → Rz) : Ty70 → Rz := fun v => f8_18 F (f8_25 F kf8j18 kf8l3 kf8j19 kf8l1 kf8j20) kf8j18 kf8l3 kf8j19 kf8l1 kf8j20 v
theorem f8_26_eq (F : Nat) (Rf8j18 : St → Rz) (Rf8l3 : St → Rz) (Rf8j19 : St → Rz) (Rf8l1 : St → Rz) (Rf8j20 : St → Rz) : ∀ v,aexec VG228 (Af8 F) (bp Try.f8 8341988) (ef8j14 v) (kBlock 5 (kSeq (kc VG228 Rf8j18 sp52) (kSeq (kc VG228 Rf8l3 sp52) (kBlock 4 (kBlock 1 (kSeq (kc VG228 Rf8j19 sp50) (kSeq (kc VG228 Rf8l1 sp50) (kBlock 0 (kSeq (kc VG228 Rf8j20 []) (kFin VG228 none (Try.f8).results.toList)))))))))) = f8_26 F (Rf8j18 ∘ ef8j18) (Rf8l3 ∘ ef8l3) (Rf8j19 ∘ ef8j19) (Rf8l1 ∘ ef8l1) (Rf8j20 ∘ ef8j20) v :=
  seq_cut (by kernel_rfl) (by kernel_rfl) ef8j14 ef8j15 _ (fun k => f8_18 F k (Rf8j18 ∘ ef8j18) (Rf8l3 ∘ ef8l3) (Rf8j19 ∘ ef8j19) (Rf8l1 ∘ ef8l1) (Rf8j20 ∘ ef8j20)) (f8_25 F (Rf8j18 ∘ ef8j18) (Rf8l3 ∘ ef8l3) (Rf8j19 ∘ ef8j19) (Rf8l1 ∘ ef8l1) (Rf8j20 ∘ ef8j20))
    (fun Rf8j15 => f8_18_eq F Rf8j15 Rf8j18 Rf8l3 Rf8j19 Rf8l1 Rf8j20) (f8_25_eq F Rf8j18 Rf8l3 Rf8j19 Rf8l1 Rf8j20)
def f8_27 (F : Nat) (kf8j18 : Ty70 → Rz) (kf8l3 : Ty70 → Rz) (kf8j19 : Ty67 → Rz) (kf8l1 : Ty67 → Rz) (kf8j20 : Unit → Rz) : Ty70 → Rz := f8_26 F kf8j18 kf8l3 kf8j19 kf8l1 kf8j20
theorem f8_27_eq (F : Nat) (Rf8j18 : St → Rz) (Rf8l3 : St → Rz) (Rf8j19 : St → Rz) (Rf8l1 : St → Rz) (Rf8j20 : St → Rz) : ∀ v,aexec VG228 (Af8 F) (bp Try.f8 4170994) (ef8j14 v) (kSeq (kc VG228 Rf8j18 sp52) (kSeq (kc VG228 Rf8l3 sp52) (kBlock 4 (kBlock 1 (kSeq (kc VG228 Rf8j19 sp50) (kSeq (kc VG228 Rf8l1 sp50) (kBlock 0 (kSeq (kc VG228 Rf8j20 []) (kFin VG228 none (Try.f8).results.toList))))))))) = f8_27 F (Rf8j18 ∘ ef8j18) (Rf8l3 ∘ ef8l3) (Rf8j19 ∘ ef8j19) (Rf8l1 ∘ ef8l1) (Rf8j20 ∘ ef8j20) v := fun v =>
  (block_in  (by kernel_rfl) _ _).trans (f8_26_eq F Rf8j18 Rf8l3 Rf8j19 Rf8l1 Rf8j20 v)
def f8_28 (F : Nat) (kf8l3 : Ty70 → Rz) (kf8j19 : Ty67 → Rz) (kf8l1 : Ty67 → Rz) (kf8j20 : Unit → Rz) : Ty70 → Rz := fun (t7,t11,t14,x4,x5,x6,x7) => (kf8l3 (t7,t11,(IntKind.i64.wrap (t14 + (1 : Int))),x4,x5,x6,x7))
theorem f8_28_eq (F : Nat) (Rf8l3 : St → Rz) (Rf8j19 : St → Rz) (Rf8l1 : St → Rz) (Rf8j20 : St → Rz) : ∀ v,aexec VG228 (Af8 F) (bp Try.f8 4170995) (ef8j18 v) (kSeq (kc VG228 Rf8l3 sp52) (kBlock 4 (kBlock 1 (kSeq (kc VG228 Rf8j19 sp50) (kSeq (kc VG228 Rf8l1 sp50) (kBlock 0 (kSeq (kc VG228 Rf8j20 []) (kFin VG228 none (Try.f8).results.toList)))))))) = f8_28 F (Rf8l3 ∘ ef8l3) (Rf8j19 ∘ ef8j19) (Rf8l1 ∘ ef8l1) (Rf8j20 ∘ ef8j20) v := by
  rintro ⟨t7,t11,t14,x4,x5,x6,x7⟩; kernel_rfl
def f8_29 (F : Nat) (kf8l3 : Ty70 → Rz) (kf8j19 : Ty67 → Rz) (kf8l1 : Ty67 → Rz) (kf8j20 : Unit → Rz) : Ty70 → Rz := fun v => f8_27 F (f8_28 F kf8l3 kf8j19 kf8l1 kf8j20) kf8l3 kf8j19 kf8l1 kf8j20 v
theorem f8_29_eq (F : Nat) (Rf8l3 : St → Rz) (Rf8j19 : St → Rz) (Rf8l1 : St → Rz) (Rf8j20 : St → Rz) : ∀ v,aexec VG228 (Af8 F) (bp Try.f8 2085497) (ef8j14 v) (kSeq (kc VG228 Rf8l3 sp52) (kBlock 4 (kBlock 1 (kSeq (kc VG228 Rf8j19 sp50) (kSeq (kc VG228 Rf8l1 sp50) (kBlock 0 (kSeq (kc VG228 Rf8j20 []) (kFin VG228 none (Try.f8).results.toList)))))))) = f8_29 F (Rf8l3 ∘ ef8l3) (Rf8j19 ∘ ef8j19) (Rf8l1 ∘ ef8l1) (Rf8j20 ∘ ef8j20) v :=
  seq_cut (by kernel_rfl) (by kernel_rfl) ef8j14 ef8j18 _ (fun k => f8_27 F k (Rf8l3 ∘ ef8l3) (Rf8j19 ∘ ef8j19) (Rf8l1 ∘ ef8l1) (Rf8j20 ∘ ef8j20)) (f8_28 F (Rf8l3 ∘ ef8l3) (Rf8j19 ∘ ef8j19) (Rf8l1 ∘ ef8l1) (Rf8j20 ∘ ef8j20))
    (fun Rf8j18 => f8_27_eq F Rf8j18 Rf8l3 Rf8j19 Rf8l1 Rf8j20) (f8_28_eq F Rf8l3 Rf8j19 Rf8l1 Rf8j20)
def f8_30 (F : Nat) (kf8l3 : Ty70 → Rz) (kf8j19 : Ty67 → Rz) (kf8l1 : Ty67 → Rz) (kf8j20 : Unit → Rz) : Ty70 → Rz := fun v => f8_17 F (f8_29 F kf8l3 kf8j19 kf8l1 kf8j20) kf8l3 kf8j19 kf8l1 kf8j20 v
theorem f8_30_eq (F : Nat) (Rf8l3 : St → Rz) (Rf8j19 : St → Rz) (Rf8l1 : St → Rz) (Rf8j20 : St → Rz) : ∀ v,aexec VG228 (Af8 F) (bp Try.f8 1042748) (ef8l3 v) (kSeq (kc VG228 Rf8l3 sp52) (kBlock 4 (kBlock 1 (kSeq (kc VG228 Rf8j19 sp50) (kSeq (kc VG228 Rf8l1 sp50) (kBlock 0 (kSeq (kc VG228 Rf8j20 []) (kFin VG228 none (Try.f8).results.toList)))))))) = f8_30 F (Rf8l3 ∘ ef8l3) (Rf8j19 ∘ ef8j19) (Rf8l1 ∘ ef8l1) (Rf8j20 ∘ ef8j20) v :=
  seq_cut (by kernel_rfl) (by kernel_rfl) ef8l3 ef8j14 _ (fun k => f8_17 F k (Rf8l3 ∘ ef8l3) (Rf8j19 ∘ ef8j19) (Rf8l1 ∘ ef8l1) (Rf8j20 ∘ ef8j20)) (f8_29 F (Rf8l3 ∘ ef8l3) (Rf8j19 ∘ ef8j19) (Rf8l1 ∘ ef8l1) (Rf8j20 ∘ ef8j20))
    (fun Rf8j14 => f8_17_eq F Rf8j14 Rf8l3 Rf8j19 Rf8l1 Rf8j20) (f8_29_eq F Rf8l3 Rf8j19 Rf8l1 Rf8j20)
def f8_31_i : Ty70 → Int × Int × Int × (List (List Int)) × (List (List Int)) × (List Int) × (List Int) := fun (t7,t11,t14,x4,x5,x6,x7) => (t7,t11,t14,x4,x5,x6,x7)
def f8_31 (F : Nat) (kf8j19 : Ty67 → Rz) (kf8l1 : Ty67 → Rz) (kf8j20 : Unit → Rz) : Ty70 → Rz := fun v => loopN (fun k => f8_30 F k kf8j19 kf8l1 kf8j20) F (f8_31_i v)
theorem f8_31_eq (F : Nat) (Rf8j19 : St → Rz) (Rf8l1 : St → Rz) (Rf8j20 : St → Rz) : ∀ v,aexec VG228 (Af8 F) (bp Try.f8 521374) (ef8j13 v) (kBlock 4 (kBlock 1 (kSeq (kc VG228 Rf8j19 sp50) (kSeq (kc VG228 Rf8l1 sp50) (kBlock 0 (kSeq (kc VG228 Rf8j20 []) (kFin VG228 none (Try.f8).results.toList))))))) = f8_31 F (Rf8j19 ∘ ef8j19) (Rf8l1 ∘ ef8l1) (Rf8j20 ∘ ef8j20) v :=
  loop_cut (by kernel_rfl) (by kernel_rfl) ef8j13 ef8l3 _ f8_31_i (fun k => f8_30 F k (Rf8j19 ∘ ef8j19) (Rf8l1 ∘ ef8l1) (Rf8j20 ∘ ef8j20))
    (by rintro ⟨t7,t11,t14,x4,x5,x6,x7⟩; kernel_rfl) (fun Rf8l3 => f8_30_eq F Rf8l3 Rf8j19 Rf8l1 Rf8j20)
def f8_32 (F : Nat) (kf8j19 : Ty67 → Rz) (kf8l1 : Ty67 → Rz) (kf8j20 : Unit → Rz) : Ty70 → Rz := f8_31 F kf8j19 kf8l1 kf8j20
theorem f8_32_eq (F : Nat) (Rf8j19 : St → Rz) (Rf8l1 : St → Rz) (Rf8j20 : St → Rz) : ∀ v,aexec VG228 (Af8 F) (bp Try.f8 260687) (ef8j13 v) (kBlock 1 (kSeq (kc VG228 Rf8j19 sp50) (kSeq (kc VG228 Rf8l1 sp50) (kBlock 0 (kSeq (kc VG228 Rf8j20 []) (kFin VG228 none (Try.f8).results.toList)))))) = f8_32 F (Rf8j19 ∘ ef8j19) (Rf8l1 ∘ ef8l1) (Rf8j20 ∘ ef8j20) v := fun v =>
  (block_in  (by kernel_rfl) _ _).trans (f8_31_eq F Rf8j19 Rf8l1 Rf8j20 v)
def f8_33 (F : Nat) (kf8j19 : Ty67 → Rz) (kf8l1 : Ty67 → Rz) (kf8j20 : Unit → Rz) : Ty69 → Rz := fun v => f8_16 F (f8_32 F kf8j19 kf8l1 kf8j20) kf8j19 kf8l1 kf8j20 v
theorem f8_33_eq (F : Nat) (Rf8j19 : St → Rz) (Rf8l1 : St → Rz) (Rf8j20 : St → Rz) : ∀ v,aexec VG228 (Af8 F) (bp Try.f8 130343) (ef8j12 v) (kBlock 1 (kSeq (kc VG228 Rf8j19 sp50) (kSeq (kc VG228 Rf8l1 sp50) (kBlock 0 (kSeq (kc VG228 Rf8j20 []) (kFin VG228 none (Try.f8).results.toList)))))) = f8_33 F (Rf8j19 ∘ ef8j19) (Rf8l1 ∘ ef8l1) (Rf8j20 ∘ ef8j20) v :=
  seq_cut (by kernel_rfl) (by kernel_rfl) ef8j12 ef8j13 _ (fun k => f8_16 F k (Rf8j19 ∘ ef8j19) (Rf8l1 ∘ ef8l1) (Rf8j20 ∘ ef8j20)) (f8_32 F (Rf8j19 ∘ ef8j19) (Rf8l1 ∘ ef8l1) (Rf8j20 ∘ ef8j20))
    (fun Rf8j13 => f8_16_eq F Rf8j13 Rf8j19 Rf8l1 Rf8j20) (f8_32_eq F Rf8j19 Rf8l1 Rf8j20)
def f8_34 (F : Nat) (kf8j19 : Ty67 → Rz) (kf8l1 : Ty67 → Rz) (kf8j20 : Unit → Rz) : Ty69 → Rz := fun v => f8_15 F (f8_33 F kf8j19 kf8l1 kf8j20) kf8j19 kf8l1 kf8j20 v
theorem f8_34_eq (F : Nat) (Rf8j19 : St → Rz) (Rf8l1 : St → Rz) (Rf8j20 : St → Rz) : ∀ v,aexec VG228 (Af8 F) (bp Try.f8 65171) (ef8j11 v) (kBlock 1 (kSeq (kc VG228 Rf8j19 sp50) (kSeq (kc VG228 Rf8l1 sp50) (kBlock 0 (kSeq (kc VG228 Rf8j20 []) (kFin VG228 none (Try.f8).results.toList)))))) = f8_34 F (Rf8j19 ∘ ef8j19) (Rf8l1 ∘ ef8l1) (Rf8j20 ∘ ef8j20) v :=
  seq_cut (by kernel_rfl) (by kernel_rfl) ef8j11 ef8j12 _ (fun k => f8_15 F k (Rf8j19 ∘ ef8j19) (Rf8l1 ∘ ef8l1) (Rf8j20 ∘ ef8j20)) (f8_33 F (Rf8j19 ∘ ef8j19) (Rf8l1 ∘ ef8l1) (Rf8j20 ∘ ef8j20))
    (fun Rf8j12 => f8_15_eq F Rf8j12 Rf8j19 Rf8l1 Rf8j20) (f8_33_eq F Rf8j19 Rf8l1 Rf8j20)
def f8_35 (F : Nat) (kf8j19 : Ty67 → Rz) (kf8l1 : Ty67 → Rz) (kf8j20 : Unit → Rz) : Ty67 → Rz := fun v => f8_14 F (f8_34 F kf8j19 kf8l1 kf8j20) kf8j19 kf8l1 kf8j20 v
theorem f8_35_eq (F : Nat) (Rf8j19 : St → Rz) (Rf8l1 : St → Rz) (Rf8j20 : St → Rz) : ∀ v,aexec VG228 (Af8 F) (bp Try.f8 32585) (ef8j10 v) (kBlock 1 (kSeq (kc VG228 Rf8j19 sp50) (kSeq (kc VG228 Rf8l1 sp50) (kBlock 0 (kSeq (kc VG228 Rf8j20 []) (kFin VG228 none (Try.f8).results.toList)))))) = f8_35 F (Rf8j19 ∘ ef8j19) (Rf8l1 ∘ ef8l1) (Rf8j20 ∘ ef8j20) v :=
  seq_cut (by kernel_rfl) (by kernel_rfl) ef8j10 ef8j11 _ (fun k => f8_14 F k (Rf8j19 ∘ ef8j19) (Rf8l1 ∘ ef8l1) (Rf8j20 ∘ ef8j20)) (f8_34 F (Rf8j19 ∘ ef8j19) (Rf8l1 ∘ ef8l1) (Rf8j20 ∘ ef8j20))
    (fun Rf8j11 => f8_14_eq F Rf8j11 Rf8j19 Rf8l1 Rf8j20) (f8_34_eq F Rf8j19 Rf8l1 Rf8j20)
def f8_36 (F : Nat) (kf8j19 : Ty67 → Rz) (kf8l1 : Ty67 → Rz) (kf8j20 : Unit → Rz) : Ty67 → Rz := fun v => f8_13 F (f8_35 F kf8j19 kf8l1 kf8j20) kf8j19 kf8l1 kf8j20 v
theorem f8_36_eq (F : Nat) (Rf8j19 : St → Rz) (Rf8l1 : St → Rz) (Rf8j20 : St → Rz) : ∀ v,aexec VG228 (Af8 F) (bp Try.f8 16292) (ef8j8 v) (kBlock 1 (kSeq (kc VG228 Rf8j19 sp50) (kSeq (kc VG228 Rf8l1 sp50) (kBlock 0 (kSeq (kc VG228 Rf8j20 []) (kFin VG228 none (Try.f8).results.toList)))))) = f8_36 F (Rf8j19 ∘ ef8j19) (Rf8l1 ∘ ef8l1) (Rf8j20 ∘ ef8j20) v :=
  seq_cut (by kernel_rfl) (by kernel_rfl) ef8j8 ef8j10 _ (fun k => f8_13 F k (Rf8j19 ∘ ef8j19) (Rf8l1 ∘ ef8l1) (Rf8j20 ∘ ef8j20)) (f8_35 F (Rf8j19 ∘ ef8j19) (Rf8l1 ∘ ef8l1) (Rf8j20 ∘ ef8j20))
    (fun Rf8j10 => f8_13_eq F Rf8j10 Rf8j19 Rf8l1 Rf8j20) (f8_35_eq F Rf8j19 Rf8l1 Rf8j20)
def f8_37 (F : Nat) (kf8j19 : Ty67 → Rz) (kf8l1 : Ty67 → Rz) (kf8j20 : Unit → Rz) : Ty67 → Rz := f8_36 F kf8j19 kf8l1 kf8j20
theorem f8_37_eq (F : Nat) (Rf8j19 : St → Rz) (Rf8l1 : St → Rz) (Rf8j20 : St → Rz) : ∀ v,aexec VG228 (Af8 F) (bp Try.f8 8146) (ef8j8 v) (kSeq (kc VG228 Rf8j19 sp50) (kSeq (kc VG228 Rf8l1 sp50) (kBlock 0 (kSeq (kc VG228 Rf8j20 []) (kFin VG228 none (Try.f8).results.toList))))) = f8_37 F (Rf8j19 ∘ ef8j19) (Rf8l1 ∘ ef8l1) (Rf8j20 ∘ ef8j20) v := fun v =>
  (block_in  (by kernel_rfl) _ _).trans (f8_36_eq F Rf8j19 Rf8l1 Rf8j20 v)
def f8_38 (F : Nat) (kf8l1 : Ty67 → Rz) (kf8j20 : Unit → Rz) : Ty67 → Rz := fun (t7,t11,x3,x4,x5) => (kf8l1 (t7,(IntKind.i64.wrap (t11 + (1 : Int))),x3,x4,x5))
theorem f8_38_eq (F : Nat) (Rf8l1 : St → Rz) (Rf8j20 : St → Rz) : ∀ v,aexec VG228 (Af8 F) (bp Try.f8 8147) (ef8j19 v) (kSeq (kc VG228 Rf8l1 sp50) (kBlock 0 (kSeq (kc VG228 Rf8j20 []) (kFin VG228 none (Try.f8).results.toList)))) = f8_38 F (Rf8l1 ∘ ef8l1) (Rf8j20 ∘ ef8j20) v := by
  rintro ⟨t7,t11,x3,x4,x5⟩; kernel_rfl
def f8_39 (F : Nat) (kf8l1 : Ty67 → Rz) (kf8j20 : Unit → Rz) : Ty67 → Rz := fun v => f8_37 F (f8_38 F kf8l1 kf8j20) kf8l1 kf8j20 v
theorem f8_39_eq (F : Nat) (Rf8l1 : St → Rz) (Rf8j20 : St → Rz) : ∀ v,aexec VG228 (Af8 F) (bp Try.f8 4073) (ef8j8 v) (kSeq (kc VG228 Rf8l1 sp50) (kBlock 0 (kSeq (kc VG228 Rf8j20 []) (kFin VG228 none (Try.f8).results.toList)))) = f8_39 F (Rf8l1 ∘ ef8l1) (Rf8j20 ∘ ef8j20) v :=
  seq_cut (by kernel_rfl) (by kernel_rfl) ef8j8 ef8j19 _ (fun k => f8_37 F k (Rf8l1 ∘ ef8l1) (Rf8j20 ∘ ef8j20)) (f8_38 F (Rf8l1 ∘ ef8l1) (Rf8j20 ∘ ef8j20))
    (fun Rf8j19 => f8_37_eq F Rf8j19 Rf8l1 Rf8j20) (f8_38_eq F Rf8l1 Rf8j20)
def f8_40 (F : Nat) (kf8l1 : Ty67 → Rz) (kf8j20 : Unit → Rz) : Ty67 → Rz := fun v => f8_8 F (f8_39 F kf8l1 kf8j20) kf8l1 kf8j20 v
theorem f8_40_eq (F : Nat) (Rf8l1 : St → Rz) (Rf8j20 : St → Rz) : ∀ v,aexec VG228 (Af8 F) (bp Try.f8 2036) (ef8l1 v) (kSeq (kc VG228 Rf8l1 sp50) (kBlock 0 (kSeq (kc VG228 Rf8j20 []) (kFin VG228 none (Try.f8).results.toList)))) = f8_40 F (Rf8l1 ∘ ef8l1) (Rf8j20 ∘ ef8j20) v :=
  seq_cut (by kernel_rfl) (by kernel_rfl) ef8l1 ef8j8 _ (fun k => f8_8 F k (Rf8l1 ∘ ef8l1) (Rf8j20 ∘ ef8j20)) (f8_39 F (Rf8l1 ∘ ef8l1) (Rf8j20 ∘ ef8j20))
    (fun Rf8j8 => f8_8_eq F Rf8j8 Rf8l1 Rf8j20) (f8_39_eq F Rf8l1 Rf8j20)
def f8_41_i : Ty67 → Int × Int × (List (List Int)) × (List (List Int)) × (List Int) := fun (t7,t11,x3,x4,x5) => (t7,t11,x3,x4,x5)
def f8_41 (F : Nat) (kf8j20 : Unit → Rz) : Ty67 → Rz := fun v => loopN (fun k => f8_40 F k kf8j20) F (f8_41_i v)
theorem f8_41_eq (F : Nat) (Rf8j20 : St → Rz) : ∀ v,aexec VG228 (Af8 F) (bp Try.f8 1018) (ef8j7 v) (kBlock 0 (kSeq (kc VG228 Rf8j20 []) (kFin VG228 none (Try.f8).results.toList))) = f8_41 F (Rf8j20 ∘ ef8j20) v :=
  loop_cut (by kernel_rfl) (by kernel_rfl) ef8j7 ef8l1 _ f8_41_i (fun k => f8_40 F k (Rf8j20 ∘ ef8j20))
    (by rintro ⟨t7,t11,x3,x4,x5⟩; kernel_rfl) (fun Rf8l1 => f8_40_eq F Rf8l1 Rf8j20)
def f8_42 (F : Nat) (kf8j20 : Unit → Rz) : Ty67 → Rz := f8_41 F kf8j20
theorem f8_42_eq (F : Nat) (Rf8j20 : St → Rz) : ∀ v,aexec VG228 (Af8 F) (bp Try.f8 509) (ef8j7 v) (kSeq (kc VG228 Rf8j20 []) (kFin VG228 none (Try.f8).results.toList)) = f8_42 F (Rf8j20 ∘ ef8j20) v := fun v =>
  (block_in  (by kernel_rfl) _ _).trans (f8_41_eq F Rf8j20 v)
def f8_43 (F : Nat) (kf8j20 : Unit → Rz) : Ty66 → Rz := fun v => f8_7 F (f8_42 F kf8j20) kf8j20 v
theorem f8_43_eq (F : Nat) (Rf8j20 : St → Rz) : ∀ v,aexec VG228 (Af8 F) (bp Try.f8 254) (ef8j6 v) (kSeq (kc VG228 Rf8j20 []) (kFin VG228 none (Try.f8).results.toList)) = f8_43 F (Rf8j20 ∘ ef8j20) v :=
  seq_cut (by kernel_rfl) (by kernel_rfl) ef8j6 ef8j7 _ (fun k => f8_7 F k (Rf8j20 ∘ ef8j20)) (f8_42 F (Rf8j20 ∘ ef8j20))
    (fun Rf8j7 => f8_7_eq F Rf8j7 Rf8j20) (f8_42_eq F Rf8j20)
def f8_44 (F : Nat) : Unit → Rz := fun _ => (some ((.bool true),[]))
theorem f8_44_eq (F : Nat) : ∀ v,aexec VG228 (Af8 F) (bp Try.f8 255) (ef8j20 v) (kFin VG228 none (Try.f8).results.toList) = f8_44 F v := by
  intro _; kernel_rfl
def f8_45 (F : Nat) : Ty66 → Rz := fun v => f8_43 F (f8_44 F) v
theorem f8_45_eq (F : Nat) : ∀ v,aexec VG228 (Af8 F) (bp Try.f8 127) (ef8j6 v) (kFin VG228 none (Try.f8).results.toList) = f8_45 F v :=
  seq_cut (by kernel_rfl) (by kernel_rfl) ef8j6 ef8j20 _ (fun k => f8_43 F k) (f8_44 F)
    (fun Rf8j20 => f8_43_eq F Rf8j20) (f8_44_eq F)
def f8_46 (F : Nat) : Ty66 → Rz := fun v => f8_6 F (f8_45 F) v
theorem f8_46_eq (F : Nat) : ∀ v,aexec VG228 (Af8 F) (bp Try.f8 63) (ef8j5 v) (kFin VG228 none (Try.f8).results.toList) = f8_46 F v :=
  seq_cut (by kernel_rfl) (by kernel_rfl) ef8j5 ef8j6 _ (fun k => f8_6 F k) (f8_45 F)
    (fun Rf8j6 => f8_6_eq F Rf8j6) (f8_45_eq F)
def f8_47 (F : Nat) : Ty65 → Rz := fun v => f8_5 F (f8_46 F) v
theorem f8_47_eq (F : Nat) : ∀ v,aexec VG228 (Af8 F) (bp Try.f8 31) (ef8j4 v) (kFin VG228 none (Try.f8).results.toList) = f8_47 F v :=
  seq_cut (by kernel_rfl) (by kernel_rfl) ef8j4 ef8j5 _ (fun k => f8_5 F k) (f8_46 F)
    (fun Rf8j5 => f8_5_eq F Rf8j5) (f8_46_eq F)
def f8_48 (F : Nat) : Ty64 → Rz := fun v => f8_4 F (f8_47 F) v
theorem f8_48_eq (F : Nat) : ∀ v,aexec VG228 (Af8 F) (bp Try.f8 15) (ef8j3 v) (kFin VG228 none (Try.f8).results.toList) = f8_48 F v :=
  seq_cut (by kernel_rfl) (by kernel_rfl) ef8j3 ef8j4 _ (fun k => f8_4 F k) (f8_47 F)
    (fun Rf8j4 => f8_4_eq F Rf8j4) (f8_47_eq F)
def f8_49 (F : Nat) : Ty5 → Rz := fun v => f8_3 F (f8_48 F) v
theorem f8_49_eq (F : Nat) : ∀ v,aexec VG228 (Af8 F) (bp Try.f8 7) (ef8j2 v) (kFin VG228 none (Try.f8).results.toList) = f8_49 F v :=
  seq_cut (by kernel_rfl) (by kernel_rfl) ef8j2 ef8j3 _ (fun k => f8_3 F k) (f8_48 F)
    (fun Rf8j3 => f8_3_eq F Rf8j3) (f8_48_eq F)
def f8_50 (F : Nat) : Ty5 → Rz := fun v => f8_2 F (f8_49 F) v
theorem f8_50_eq (F : Nat) : ∀ v,aexec VG228 (Af8 F) (bp Try.f8 3) (ef8j1 v) (kFin VG228 none (Try.f8).results.toList) = f8_50 F v :=
  seq_cut (by kernel_rfl) (by kernel_rfl) ef8j1 ef8j2 _ (fun k => f8_2 F k) (f8_49 F)
    (fun Rf8j2 => f8_2_eq F Rf8j2) (f8_49_eq F)
def f8_51 (F : Nat) : Ty5 → Rz := fun v => f8_1 F (f8_50 F) v
theorem f8_51_eq (F : Nat) : ∀ v,aexec VG228 (Af8 F) (sub (bodyOf Try.f8) []) (ef8_a v) (kFin VG228 none (Try.f8).results.toList) = f8_51 F v :=
  seq_cut (by kernel_rfl) (by kernel_rfl) ef8_a ef8j1 _ (fun k => f8_1 F k) (f8_50 F)
    (fun Rf8j1 => f8_1_eq F Rf8j1) (f8_50_eq F)
def f8 (F : Nat) : Ty5 → Rz := f8_51 F
theorem f8_body (F : Nat) (a0 : List Int) (a1 : List Int) (a2 : Int) : abody VG228 (Af8 F) Try.f8 [(.vs (.rI .i64 a0) 0 1),(.vs (.rI .i64 a1) 0 1),(.int .i64 a2)] [] = f8 F (a0,a1,a2) :=
  (abody_in (c := (sub (bodyOf Try.f8) [])) (by kernel_rfl) (s := ef8_a (a0,a1,a2)) (by kernel_rfl)).trans (f8_51_eq F (a0,a1,a2))
def r8 : CRun := fun X H => match X,H with
  | [(.vs (.rI .i64 a0) 0 1),(.vs (.rI .i64 a1) 0 1),(.int .i64 a2)],[] => some (true,(.bool true),[])
  | _,_ => none
theorem s8 (a0 : List Int) (a1 : List Int) (a2 : Int) (h0 : okV (.vs (.rI .i64 a0) 0 1)) (h1 : okV (.vs (.rI .i64 a1) 0 1)) (h2 : okV (.int .i64 a2)) : ∃ F,f8 F (a0,a1,a2) = some ((.bool true),[]) := by
  have hr := Reg.around_lt (n := a2) (m := 12) (by decide)
  refine ⟨100,?_⟩
  simp only [f8_1,f8_2,f8_3,f8_4,f8_5,f8_6,f8_7,f8_41_i,f8_41,f8_42,f8_43,f8_44,f8_45,f8_46,f8_47,f8_48,f8_49,f8_50,f8_51,f8,dec_and,List.nil_append,Nat.zero_add]
  rw [cond_pos (by decide),i64w (by omega) (by omega)]
  generalize hk : (1 : Int) + Reg.around a2 12 = t
  have g0 := Isl.groups_clss (n := t) (by omega) (by omega) (Isl.some a0 t)
  have hs := Isl.nums_lt t.toNat
  have l1 := Isl.some_len a0 t
  have l2 := Isl.some_len a1 t
  have l3 := (Isl.groups_bound t (Isl.some a0 t)).1
  have l6 := (Isl.groups_bound t (Isl.some a0 t)).2
  have l7 := Isl.of_len (n := t) (by omega) (by omega) (Isl.groups t (Isl.some a0 t ++ Isl.some a1 t))
  have hsame : ∀ x ∈ Isl.nums t.toNat,∀ y,Isl.Conn (Isl.nums t.toNat) (Isl.some a0 t) x y → (Isl.of t (Isl.groups t (Isl.some a0 t ++ Isl.some a1 t))).getD x.toNat 0 = (Isl.of t (Isl.groups t (Isl.some a0 t ++ Isl.some a1 t))).getD y.toNat 0 :=
    fun x hx y hc => Isl.of_same (by omega) (by omega) _ hx (Isl.conn_more (fun l hl => List.mem_append_left _ hl) hx hc)
  have hg := fun g (h : g ∈ Isl.groups t (Isl.some a0 t)) => Isl.group_ok (g := g) (links := Isl.some a0 t) hs (by rw [← g0]; exact h)
  generalize Isl.of t (Isl.groups t (Isl.some a0 t ++ Isl.some a1 t)) = O at l7 hsame
  rw [cond_pos (by omega),cond_pos (by omega),cond_pos (by omega),cond_pos (by omega),show (((O.length : Nat) : Int) != t) = false by simp; omega,cond_false]
  generalize Isl.groups t (Isl.some a0 t) = G at hg l3 l6
  generalize Isl.some a0 t = links at hsame hg l1
  have inner1 : ∀ i,i < G.length → ∀ k15 k9 k8 k29,loopN (fun k => f8_10 100 k k15 k9 k8 k29) 100 (t,(i : Int),0,links,G,O) = k15 (t,(i : Int),links,G,O) := by
    intro i hi k15 k9 k8 k29
    obtain ⟨c1,c2,c3,c4,c5⟩ := hg _ (Isl.getD_mem' hi)
    have hl := Isl.getD_len l6 i
    refine loopN_from (fun j => (t,(i : Int),(j : Int),links,G,O)) (G.getD i []).length (by rfl) (fun j hj k => ?_) (fun k => ?_) _ (by omega)
    · have hx := c3 _ (Isl.getD_mem hj)
      have h0 := c3 _ (Isl.getD_mem c2)
      have he := hsame _ hx _ (c4 _ (Isl.getD_mem hj) _ (Isl.getD_mem c2))
      rw [Isl.mem_nums] at hx h0
      simp only [f8_10,dec_and,Int.toNat_natCast]
      rw [cond_pos (by omega),cond_pos (by omega),cond_pos (by omega),cond_pos (by omega),cond_neg (by omega),cond_pos (by omega),cond_pos (by omega),cond_neg (by omega),cond_pos (by omega),cond_pos (by omega),cond_pos (by omega),cond_pos (by omega),cond_pos (by omega),cond_pos (by omega),he,bne_self_eq_false,cond_false,i64w (by omega) (by omega)]
      rfl
    · simp only [f8_10,dec_and,Int.toNat_natCast]
      rw [cond_pos (by omega),cond_neg (by omega)]
  have inner3 : ∀ i,i < G.length → ∀ (cut : List Int) q,q < cut.length → ∀ k27 k20 k19 k9 k8 k29,loopN (fun k => f8_20 100 k k27 k20 k19 k9 k8 k29) 100 (t,(i : Int),(q : Int),0,links,G,O,cut,[]) = k27 (t,(i : Int),(q : Int),links,G,O,cut,Isl.del (G.getD i []) (cut.getD q 0)) := by
    intro i hi cut q hq k27 k20 k19 k9 k8 k29
    have hl := Isl.getD_len l6 i
    refine loopN_from (fun j => (t,(i : Int),(q : Int),(j : Int),links,G,O,cut,Isl.del ((G.getD i []).take j) (cut.getD q 0))) (G.getD i []).length (by rfl) (fun j hj k => ?_) (fun k => ?_) _ (by omega)
    · have hdl := Isl.del_len ((G.getD i []).take j) (cut.getD q 0)
      rw [List.length_take] at hdl
      have hds := Isl.del_succ (cut.getD q 0) hj
      simp only [f8_20,dec_and,Int.toNat_natCast]
      rw [cond_pos (by omega),cond_pos (by omega),cond_pos (by omega),cond_pos (by omega),cond_pos (by omega),hds]
      by_cases hc : (G.getD i []).getD j 0 = cut.getD q 0
      · rw [show ((G.getD i []).getD j 0 != cut.getD q 0) = false by simpa using hc,cond_false,if_pos hc,List.append_nil,i64w (by omega) (by omega)]
        rfl
      · rw [show ((G.getD i []).getD j 0 != cut.getD q 0) = true by simpa using hc,cond_true,if_neg hc,cond_pos (by omega),cond_pos (by omega),cond_pos (by omega),i64w (by omega) (by omega)]
        rfl
    · simp only [f8_20,dec_and,Int.toNat_natCast]
      rw [cond_pos (by omega),cond_neg (by omega),List.take_length]
  have inner2 : ∀ i,i < G.length → ∀ k9 k8 k29,loopN (fun k => f8_30 100 k k9 k8 k29) 100 (t,(i : Int),0,links,G,O,Isl.cut (G.getD i []) links) = k9 (t,(i : Int),links,G,O) := by
    intro i hi k9 k8 k29
    obtain ⟨c1,c2,c3,c4,c5⟩ := hg _ (Isl.getD_mem' hi)
    have hl := Isl.getD_len l6 i
    have hcl : (Isl.cut (G.getD i []) links).length ≤ (G.getD i []).length := by
      unfold Isl.cut; rw [Isl.set_self c1]; exact List.length_filter_le _ _
    refine loopN_from (fun q => (t,(i : Int),(q : Int),links,G,O,Isl.cut (G.getD i []) links)) (Isl.cut (G.getD i []) links).length (by rfl) (fun q hq k => ?_) (fun k => ?_) _ (by omega)
    · obtain ⟨d1,d2,d3⟩ := Isl.cut_rest c1 c5 (Isl.getD_mem hq)
      simp only [f8_17,f8_18,f8_19,f8_21_i,f8_21,f8_22,f8_23,f8_24,f8_25,f8_26,f8_27,f8_28,f8_29,f8_30,dec_and,Int.toNat_natCast]
      rw [cond_pos (by omega)]
      refine (inner3 i hi _ q hq _ _ _ _ _ _).trans ?_
      simp only [f8_17,f8_18,f8_19,f8_21_i,f8_21,f8_22,f8_23,f8_24,f8_25,f8_26,f8_27,f8_28,f8_29,f8_30,dec_and,Int.toNat_natCast]
      rw [cond_pos (by omega),i64w (by omega) (by omega),show (((Isl.del (G.getD i []) ((Isl.cut (G.getD i []) links).getD q 0)).length : Int) != ((G.getD i []).length : Int) - 1) = false by rw [bne_eq_false_iff_eq]; omega,cond_false,cond_pos (by omega),cond_neg (by omega),i64w (by omega) (by omega)]
      rfl
    · simp only [f8_17,f8_18,f8_19,f8_21_i,f8_21,f8_22,f8_23,f8_24,f8_25,f8_26,f8_27,f8_28,f8_29,f8_30,dec_and,Int.toNat_natCast]
      rw [cond_neg (by omega)]
  refine loopN_from (fun i => (t,(i : Int),links,G,O)) G.length (by rfl) (fun i hi k => ?_) (fun k => ?_) _ (by omega)
  · obtain ⟨c1,c2,c3,c4,c5⟩ := hg _ (Isl.getD_mem' hi)
    have hl := Isl.getD_len l6 i
    simp only [f8_8,f8_9,f8_11_i,f8_11,f8_12,f8_13,f8_14,f8_15,f8_16,f8_31_i,f8_31,f8_32,f8_33,f8_34,f8_35,f8_36,f8_37,f8_38,f8_39,f8_40,dec_and,Int.toNat_natCast]
    rw [cond_pos (by omega)]
    refine (inner1 i hi _ _ _ _).trans ?_
    simp only [f8_8,f8_9,f8_11_i,f8_11,f8_12,f8_13,f8_14,f8_15,f8_16,f8_31_i,f8_31,f8_32,f8_33,f8_34,f8_35,f8_36,f8_37,f8_38,f8_39,f8_40,dec_and,Int.toNat_natCast]
    have h2 := inner2 i hi (f8_38 100 k (f8_44 100)) k (f8_44 100)
    rw [cond_pos (by omega),cond_pos (by omega),cond_pos (by omega)]
    have fin : f8_38 100 k (f8_44 100) (t,(i : Int),links,G,O) = k (t,((i + 1 : Nat) : Int),links,G,O) := by
      simp only [f8_38]
      rw [i64w (by omega) (by omega)]; rfl
    by_cases hge : 2 ≤ (G.getD i []).length
    · have hc := Isl.cut_two c1 hge c5
      rw [cond_pos (by omega),cond_pos (by omega),cond_neg (by rw [i64w (by omega) (by omega)]; omega)]
      exact h2.trans fin
    · rw [cond_neg (by omega)]
      exact h2.trans fin
  · simp only [f8_8,f8_9,f8_11_i,f8_11,f8_12,f8_13,f8_14,f8_15,f8_16,f8_31_i,f8_31,f8_32,f8_33,f8_34,f8_35,f8_36,f8_37,f8_38,f8_39,f8_40]
    rw [cond_neg (by omega)]
    rfl
theorem c8 : CallOk Try.prog G22 8 r8 := callOk_of (V := VG228) mixed tys eVG228 (f := 8) (fn := Try.f8) Try.func8 (by kernel_rfl) (c := sub (bodyOf Try.f8) []) (by kernel_rfl) (by
  intro X H r H' h hX hH
  unfold r8 at h; split at h <;> try contradiction
  · simp only [Option.some.injEq,Prod.mk.injEq] at h
    obtain ⟨hp,rfl,rfl⟩ := h
    obtain ⟨F,hF⟩ := s8 _ _ _ (hX _ (.head _)) (hX _ (.tail _ (.head _))) (hX _ (.tail _ (.tail _ (.head _))))
    exact ⟨Af8 F,(f8_body F _ _ _).trans hF⟩)
end Go.Am
