/- Part of a proof about the functions of the given program. -/
import Derived.Test.YtcafjaenmbhlnaaAmIsl4
set_option linter.unusedVariables false
set_option linter.unusedSimpArgs false
namespace Go.Am
open Go Go.Proofs
abbrev sp50 : List (Nat × Md) := [(0,.plain),(1,.plain),(2,.plain),(3,.plain)]
abbrev sp51 : List (Nat × Md) := [(0,.plain),(1,.plain),(3,.plain),(9,.plain)]
abbrev Ty64 := (List Int) × (List Int) × Int × (List (List Int))
abbrev Ty65 := (List Int) × (List Int) × (List (List Int)) × Int
abbrev Ty66 := (List Int) × (List (List Int)) × Int × (List (List Int))
abbrev Ty67 := (List (List Int)) × Int × (List (List Int)) × (List (List Int))
abbrev Ty68 := (List (List Int)) × (List (List Int)) × (List (List Int)) × (List (List Int)) × (List (List Int)) × (List (List Int))
abbrev Ty69 := (List (List Int)) × Int × (List (List Int)) × (List (List Int)) × (List (List Int)) × (List (List Int)) × (List (List Int))
abbrev Ty70 := (List (List Int)) × (List (List Int)) × Int × (List (List Int)) × (List (List Int)) × (List (List Int)) × (List (List Int))
abbrev Ty71 := (List (List Int)) × (List (List Int)) × Int × Int × (List (List Int)) × (List (List Int)) × (List (List Int)) × (List (List Int))
def lVG223 : List CEnt := [(10,[none,none],r10),(11,[some 3,none],r11),(12,[none,some 22],r12),(13,[some 22],r13),(14,[some 22,some 22],r14),(15,[some 22,some 22],r15),(16,[some 22,some 22],r16),(17,[some 3,some 22],r17),(18,[some 3,some 22],r18),(19,[],r19)]
def VG223 : Env := mkEnv T22 G22 lVG223
theorem eVG223 : EOk Try.prog VG223 := eok_mk (by exact ⟨c10,c11,c12,c13,c14,c15,c16,c17,c18,c19,trivial⟩)
def Af3 (F : Nat) : Cuts := { F := F,at_ := fun n => match n with | 6037 => some [(3,.plain),(10,.lists .i64 22),(11,.view 22),(12,.lists .i64 22),(13,.plain)] | 11016 => some [(3,.plain),(10,.lists .i64 22),(11,.plain),(12,.lists .i64 22),(13,.plain),(14,.plain)] | _ => none,join := fun n => match n with | 1053 => some sp50 | 2051 => some sp51 | 3049 => some [(1,.plain),(3,.plain),(9,.plain),(10,.lists .i64 22)] | 4047 => some [(3,.plain),(9,.plain),(10,.lists .i64 22),(11,.plain)] | 5045 => some [(3,.plain),(10,.lists .i64 22),(11,.plain),(12,.lists .i64 22)] | 6039 => some [(3,.plain),(10,.lists .i64 22),(11,.plain),(12,.lists .i64 22),(13,.plain)] | 7001 => some [(3,.plain),(10,.lists .i64 22),(11,.plain),(12,.lists .i64 22),(13,.plain)] | 8031 => some [(3,.plain),(10,.lists .i64 22),(11,.plain),(12,.lists .i64 22),(13,.plain)] | 10020 => some [(3,.plain),(10,.lists .i64 22),(11,.plain),(12,.lists .i64 22),(13,.plain)] | 11018 => some [(3,.plain),(10,.lists .i64 22),(11,.plain),(12,.lists .i64 22),(13,.plain),(14,.plain)] | 15003 => some [] | _ => none,cas := fun n => match n with | 8 => some (13,3) | 11 => some (13,3) | 13 => some (13,3) | _ => none }
def ef3_a : Ty64 → St := fun (a0,a1,a2,a3) => { tmps := [(0,(.vs (.rI .i64 a0) 0 1)),(1,(.vs (.rI .i64 a1) 0 1)),(2,(.int .i64 a2)),(3,(.vs (.rL .i64 a3) 0 1))],heap := [],next := 0,nt := 102,m := 0 }
def ef3j1 : Ty64 → St := fun (t0,t1,t2,t3) => { tmps := [(0,(.vs (.rI .i64 t0) 0 1)),(1,(.vs (.rI .i64 t1) 0 1)),(2,(.int .i64 t2)),(3,(.vs (.rL .i64 t3) 0 1))],heap := [],next := 0,nt := 102,m := 0 }
def ef3j2 : Ty65 → St := fun (t0,t1,t3,t9) => { tmps := [(0,(.vs (.rI .i64 t0) 0 1)),(1,(.vs (.rI .i64 t1) 0 1)),(3,(.vs (.rL .i64 t3) 0 1)),(9,(.int .i64 t9))],heap := [],next := 0,nt := 102,m := 0 }
def ef3j3 : Ty66 → St := fun (t1,t3,t9,x4) => { tmps := [(1,(.vs (.rI .i64 t1) 0 1)),(3,(.vs (.rL .i64 t3) 0 1)),(9,(.int .i64 t9)),(10,(.own 0 0 1))],heap := [(0,(.cells x4.length (.rL .i64 x4) true))],next := 1,nt := 102,m := 0 }
def ef3j4 : Ty67 → St := fun (t3,t9,x3,x4) => { tmps := [(3,(.vs (.rL .i64 t3) 0 1)),(9,(.int .i64 t9)),(10,(.own 0 0 1)),(11,(.own 1 0 1))],heap := [(0,(.cells x3.length (.rL .i64 x3) true)),(1,(.cells x4.length (.rL .i64 x4) true))],next := 2,nt := 102,m := 0 }
def ef3j5 : Ty68 → St := fun (t3,x2,x3,x4,x5,x6) => { tmps := [(3,(.vs (.rL .i64 t3) 0 1)),(10,(.own 0 0 1)),(11,(.own 1 0 1)),(12,(.own 2 0 1))],heap := [(0,(.cells x2.length (.rL .i64 x2) false)),(1,(.cells x3.length (.rL .i64 x3) true)),(2,(.cells 3 (.segs (.cons 1 (.one (.vs (.rL .i64 x4) 0 1)) (.cons 1 (.one (.vs (.rL .i64 x5) 0 1)) (.cons 1 (.one (.vs (.rL .i64 x6) 0 1)) .nil)))) true))],next := 3,nt := 102,m := 0 }
def ef3j6 : Ty69 → St := fun (t3,t13,x3,x4,x5,x6,x7) => { tmps := [(3,(.vs (.rL .i64 t3) 0 1)),(10,(.own 0 0 1)),(11,(.own 1 0 1)),(12,(.own 2 0 1)),(13,(.int .i64 t13))],heap := [(0,(.cells x3.length (.rL .i64 x3) false)),(1,(.cells x4.length (.rL .i64 x4) true)),(2,(.cells 3 (.segs (.cons 1 (.one (.vs (.rL .i64 x5) 0 1)) (.cons 1 (.one (.vs (.rL .i64 x6) 0 1)) (.cons 1 (.one (.vs (.rL .i64 x7) 0 1)) .nil)))) true))],next := 3,nt := 102,m := 0 }
def ef3l1 : Ty70 → St := fun (t3,t11,t13,x4,x5,x6,x7) => { tmps := [(3,(.vs (.rL .i64 t3) 0 1)),(10,(.own 0 0 1)),(11,(.vs (.rL .i64 t11) 0 1)),(12,(.own 1 0 1)),(13,(.int .i64 t13))],heap := [(0,(.cells x4.length (.rL .i64 x4) false)),(1,(.cells 3 (.segs (.cons 1 (.one (.vs (.rL .i64 x5) 0 1)) (.cons 1 (.one (.vs (.rL .i64 x6) 0 1)) (.cons 1 (.one (.vs (.rL .i64 x7) 0 1)) .nil)))) true))],next := 2,nt := 102,m := 0 }
def ef3j7 : Ty70 → St := fun (t3,t11,t13,x4,x5,x6,x7) => { tmps := [(3,(.vs (.rL .i64 t3) 0 1)),(10,(.own 0 0 1)),(11,(.vs (.rL .i64 t11) 0 1)),(12,(.own 1 0 1)),(13,(.int .i64 t13))],heap := [(0,(.cells x4.length (.rL .i64 x4) false)),(1,(.cells 3 (.segs (.cons 1 (.one (.vs (.rL .i64 x5) 0 1)) (.cons 1 (.one (.vs (.rL .i64 x6) 0 1)) (.cons 1 (.one (.vs (.rL .i64 x7) 0 1)) .nil)))) true))],next := 2,nt := 102,m := 0 }
def ef3j8 : Ty70 → St := fun (t3,t11,t13,x4,x5,x6,x7) => { tmps := [(3,(.vs (.rL .i64 t3) 0 1)),(10,(.own 0 0 1)),(11,(.vs (.rL .i64 t11) 0 1)),(12,(.own 1 0 1)),(13,(.int .i64 t13))],heap := [(0,(.cells x4.length (.rL .i64 x4) false)),(1,(.cells 3 (.segs (.cons 1 (.one (.vs (.rL .i64 x5) 0 1)) (.cons 1 (.one (.vs (.rL .i64 x6) 0 1)) (.cons 1 (.one (.vs (.rL .i64 x7) 0 1)) .nil)))) true))],next := 2,nt := 102,m := 0 }
def ef3j9 : Ty71 → St := fun (t3,t11,t13,t14,x5,x6,x7,x8) => { tmps := [(3,(.vs (.rL .i64 t3) 0 1)),(10,(.own 0 0 1)),(11,(.vs (.rL .i64 t11) 0 1)),(12,(.own 1 0 1)),(13,(.int .i64 t13)),(14,(.int .i64 t14))],heap := [(0,(.cells x5.length (.rL .i64 x5) false)),(1,(.cells 3 (.segs (.cons 1 (.one (.vs (.rL .i64 x6) 0 1)) (.cons 1 (.one (.vs (.rL .i64 x7) 0 1)) (.cons 1 (.one (.vs (.rL .i64 x8) 0 1)) .nil)))) true))],next := 2,nt := 102,m := 0 }
def ef3l2 : Ty71 → St := fun (t3,t11,t13,t14,x5,x6,x7,x8) => { tmps := [(3,(.vs (.rL .i64 t3) 0 1)),(10,(.own 0 0 1)),(11,(.vs (.rL .i64 t11) 0 1)),(12,(.own 1 0 1)),(13,(.int .i64 t13)),(14,(.int .i64 t14))],heap := [(0,(.cells x5.length (.rL .i64 x5) false)),(1,(.cells 3 (.segs (.cons 1 (.one (.vs (.rL .i64 x6) 0 1)) (.cons 1 (.one (.vs (.rL .i64 x7) 0 1)) (.cons 1 (.one (.vs (.rL .i64 x8) 0 1)) .nil)))) true))],next := 2,nt := 102,m := 0 }
def ef3j10 : Ty70 → St := fun (t3,t11,t13,x4,x5,x6,x7) => { tmps := [(3,(.vs (.rL .i64 t3) 0 1)),(10,(.own 0 0 1)),(11,(.vs (.rL .i64 t11) 0 1)),(12,(.own 1 0 1)),(13,(.int .i64 t13))],heap := [(0,(.cells x4.length (.rL .i64 x4) false)),(1,(.cells 3 (.segs (.cons 1 (.one (.vs (.rL .i64 x5) 0 1)) (.cons 1 (.one (.vs (.rL .i64 x6) 0 1)) (.cons 1 (.one (.vs (.rL .i64 x7) 0 1)) .nil)))) true))],next := 2,nt := 102,m := 0 }
def ef3j11 : Unit → St := fun _ => { tmps := [],heap := [],next := 0,nt := 102,m := 0 }
def f3_1 (F : Nat) (kf3j1 : Ty64 → Rz) : Ty64 → Rz := fun (a0,a1,a2,a3) => (kf3j1 (a0,a1,a2,a3))
theorem f3_1_eq (F : Nat) (Rf3j1 : St → Rz) : ∀ v,aexec VG223 (Af3 F) (bp Try.f3 2) (ef3_a v) (kSeq (kc VG223 Rf3j1 sp50) (kFin VG223 none (Try.f3).results.toList)) = f3_1 F (Rf3j1 ∘ ef3j1) v := by
  rintro ⟨a0,a1,a2,a3⟩; kernel_rfl
def f3_2 (F : Nat) (kf3j2 : Ty65 → Rz) : Ty64 → Rz := fun (t0,t1,t2,t3) => (cond (decide (0 < (14 : Int))) (kf3j2 (t0,t1,t3,(IntKind.i64.wrap ((1 : Int) + (Reg.around t2 (14 : Int)))))) none)
theorem f3_2_eq (F : Nat) (Rf3j2 : St → Rz) : ∀ v,aexec VG223 (Af3 F) (bp Try.f3 6) (ef3j1 v) (kSeq (kc VG223 Rf3j2 sp51) (kFin VG223 none (Try.f3).results.toList)) = f3_2 F (Rf3j2 ∘ ef3j2) v := by
  rintro ⟨t0,t1,t2,t3⟩; kernel_rfl
def f3_3 (F : Nat) (kf3j3 : Ty66 → Rz) : Ty65 → Rz := fun (t0,t1,t3,t9) => (cond ((decide (0 ≤ t9)) && (decide (t9 < 1000))) (kf3j3 (t1,t3,t9,(Isl.some t0 t9))) none)
theorem f3_3_eq (F : Nat) (Rf3j3 : St → Rz) : ∀ v,aexec VG223 (Af3 F) (bp Try.f3 14) (ef3j2 v) (kSeq (kc VG223 Rf3j3 [(1,.plain),(3,.plain),(9,.plain),(10,.lists .i64 22)]) (kFin VG223 none (Try.f3).results.toList)) = f3_3 F (Rf3j3 ∘ ef3j3) v := by
  rintro ⟨t0,t1,t3,t9⟩; kernel_rfl
def f3_4 (F : Nat) (kf3j4 : Ty67 → Rz) : Ty66 → Rz := fun (t1,t3,t9,x4) => (cond ((decide (0 ≤ t9)) && (decide (t9 < 1000))) (kf3j4 (t3,t9,x4,(Isl.some t1 t9))) none)
theorem f3_4_eq (F : Nat) (Rf3j4 : St → Rz) : ∀ v,aexec VG223 (Af3 F) (bp Try.f3 30) (ef3j3 v) (kSeq (kc VG223 Rf3j4 [(3,.plain),(9,.plain),(10,.lists .i64 22),(11,.plain)]) (kFin VG223 none (Try.f3).results.toList)) = f3_4 F (Rf3j4 ∘ ef3j4) v := by
  rintro ⟨t1,t3,t9,x4⟩; kernel_rfl
def f3_5 (F : Nat) (kf3j5 : Ty68 → Rz) : Ty67 → Rz := fun (t3,t9,x3,x4) => (kf3j5 (t3,x3,x4,(Isl.groups t9 x3),(Isl.few t3),[]))
theorem f3_5_eq (F : Nat) (Rf3j5 : St → Rz) : ∀ v,aexec VG223 (Af3 F) (bp Try.f3 62) (ef3j4 v) (kSeq (kc VG223 Rf3j5 [(3,.plain),(10,.lists .i64 22),(11,.plain),(12,.lists .i64 22)]) (kFin VG223 none (Try.f3).results.toList)) = f3_5 F (Rf3j5 ∘ ef3j5) v := by
  rintro ⟨t3,t9,x3,x4⟩; kernel_rfl
def f3_6 (F : Nat) (kf3j6 : Ty69 → Rz) (kf3j11 : Unit → Rz) : Ty68 → Rz := fun (t3,x2,x3,x4,x5,x6) => (kf3j6 (t3,(0 : Int),x2,x3,x4,x5,x6))
theorem f3_6_eq (F : Nat) (Rf3j6 : St → Rz) (Rf3j11 : St → Rz) : ∀ v,aexec VG223 (Af3 F) (bp Try.f3 252) (ef3j5 v) (kSeq (kc VG223 Rf3j6 [(3,.plain),(10,.lists .i64 22),(11,.plain),(12,.lists .i64 22),(13,.plain)]) (kSeq (kc VG223 Rf3j11 []) (kFin VG223 none (Try.f3).results.toList))) = f3_6 F (Rf3j6 ∘ ef3j6) (Rf3j11 ∘ ef3j11) v := by
  rintro ⟨t3,x2,x3,x4,x5,x6⟩; kernel_rfl
def f3_7 (F : Nat) (kf3j7 : Ty70 → Rz) (kf3l1 : Ty70 → Rz) (kf3j11 : Unit → Rz) : Ty70 → Rz := fun (t3,t11,t13,x4,x5,x6,x7) => (cond (decide (t13 < (3 : Int))) (kf3j7 (t3,t11,t13,x4,x5,x6,x7)) (kf3j11 ()))
theorem f3_7_eq (F : Nat) (Rf3j7 : St → Rz) (Rf3l1 : St → Rz) (Rf3j11 : St → Rz) : ∀ v,aexec VG223 (Af3 F) (bp Try.f3 2024) (ef3l1 v) (kSeq (kc VG223 Rf3j7 [(3,.plain),(10,.lists .i64 22),(11,.plain),(12,.lists .i64 22),(13,.plain)]) (kSeq (kc VG223 Rf3l1 [(3,.plain),(10,.lists .i64 22),(11,.view 22),(12,.lists .i64 22),(13,.plain)]) (kBlock 0 (kSeq (kc VG223 Rf3j11 []) (kFin VG223 none (Try.f3).results.toList))))) = f3_7 F (Rf3j7 ∘ ef3j7) (Rf3l1 ∘ ef3l1) (Rf3j11 ∘ ef3j11) v := by
  rintro ⟨t3,t11,t13,x4,x5,x6,x7⟩; kernel_rfl
def f3_8 (F : Nat) (kf3j8 : Ty70 → Rz) (kf3j10 : Ty70 → Rz) (kf3l1 : Ty70 → Rz) (kf3j11 : Unit → Rz) : Ty70 → Rz := fun (t3,t11,t13,x4,x5,x6,x7) => (cond (decide (t13 = (0 : Int))) (cond ((decide (x5.flatten.length < 1073740000)) && (decide (x5.length + t11.length < 1073741000))) (cond ((decide (x5.flatten.length < 1073740000)) && (decide (x5.length + t11.length < 1073741000))) (cond (!(decide ((Isl.merge x5 t11) = (Isl.merge x5 t11)))) (some ((.bool false),[])) (kf3j8 (t3,t11,(0 : Int),x4,x5,x6,x7))) none) none) (cond (decide (t13 = (1 : Int))) (cond ((decide (x6.flatten.length < 1073740000)) && (decide (x6.length + t11.length < 1073741000))) (cond ((decide (x6.flatten.length < 1073740000)) && (decide (x6.length + t11.length < 1073741000))) (cond (!(decide ((Isl.merge x6 t11) = (Isl.merge x6 t11)))) (some ((.bool false),[])) (kf3j8 (t3,t11,(1 : Int),x4,x5,x6,x7))) none) none) (cond (decide (t13 = (2 : Int))) (cond ((decide (x7.flatten.length < 1073740000)) && (decide (x7.length + t11.length < 1073741000))) (cond ((decide (x7.flatten.length < 1073740000)) && (decide (x7.length + t11.length < 1073741000))) (cond (!(decide ((Isl.merge x7 t11) = (Isl.merge x7 t11)))) (some ((.bool false),[])) (kf3j8 (t3,t11,(2 : Int),x4,x5,x6,x7))) none) none) none)))
theorem f3_8_eq (F : Nat) (Rf3j8 : St → Rz) (Rf3j10 : St → Rz) (Rf3l1 : St → Rz) (Rf3j11 : St → Rz) : ∀ v,aexec VG223 (Af3 F) (bp Try.f3 16200) (ef3j7 v) (kSeq (kc VG223 Rf3j8 [(3,.plain),(10,.lists .i64 22),(11,.plain),(12,.lists .i64 22),(13,.plain)]) (kBlock 1 (kSeq (kc VG223 Rf3j10 [(3,.plain),(10,.lists .i64 22),(11,.plain),(12,.lists .i64 22),(13,.plain)]) (kSeq (kc VG223 Rf3l1 [(3,.plain),(10,.lists .i64 22),(11,.view 22),(12,.lists .i64 22),(13,.plain)]) (kBlock 0 (kSeq (kc VG223 Rf3j11 []) (kFin VG223 none (Try.f3).results.toList))))))) = f3_8 F (Rf3j8 ∘ ef3j8) (Rf3j10 ∘ ef3j10) (Rf3l1 ∘ ef3l1) (Rf3j11 ∘ ef3j11) v := by
  rintro ⟨t3,t11,t13,x4,x5,x6,x7⟩; kernel_rfl
def f3_9 (F : Nat) (kf3j9 : Ty71 → Rz) (kf3j10 : Ty70 → Rz) (kf3l1 : Ty70 → Rz) (kf3j11 : Unit → Rz) : Ty70 → Rz := fun (t3,t11,t13,x4,x5,x6,x7) => (kf3j9 (t3,t11,t13,(0 : Int),x4,x5,x6,x7))
theorem f3_9_eq (F : Nat) (Rf3j9 : St → Rz) (Rf3j10 : St → Rz) (Rf3l1 : St → Rz) (Rf3j11 : St → Rz) : ∀ v,aexec VG223 (Af3 F) (bp Try.f3 32402) (ef3j8 v) (kSeq (kc VG223 Rf3j9 [(3,.plain),(10,.lists .i64 22),(11,.plain),(12,.lists .i64 22),(13,.plain),(14,.plain)]) (kBlock 1 (kSeq (kc VG223 Rf3j10 [(3,.plain),(10,.lists .i64 22),(11,.plain),(12,.lists .i64 22),(13,.plain)]) (kSeq (kc VG223 Rf3l1 [(3,.plain),(10,.lists .i64 22),(11,.view 22),(12,.lists .i64 22),(13,.plain)]) (kBlock 0 (kSeq (kc VG223 Rf3j11 []) (kFin VG223 none (Try.f3).results.toList))))))) = f3_9 F (Rf3j9 ∘ ef3j9) (Rf3j10 ∘ ef3j10) (Rf3l1 ∘ ef3l1) (Rf3j11 ∘ ef3j11) v := by
  rintro ⟨t3,t11,t13,x4,x5,x6,x7⟩; kernel_rfl
def f3_10 (F : Nat) (kf3l2 : Ty71 → Rz) (kf3j10 : Ty70 → Rz) (kf3l1 : Ty70 → Rz) (kf3j11 : Unit → Rz) : Ty71 → Rz := fun (t3,t11,t13,t14,x5,x6,x7,x8) => (cond (decide (t13 = (0 : Int))) (cond (decide (t14 < (↑x6.length : Int))) (cond ((decide (0 ≤ t14)) && (decide (t14 < (↑x6.length : Int)))) (cond (decide ((x6.getD (Int.toNat t14) []).length < 1073740000)) (cond ((decide (0 ≤ t14)) && (decide (t14 < (↑x6.length : Int)))) (cond (decide ((x6.getD (Int.toNat t14) []).length < 1073740000)) (cond (!(decide ((Isl.split (x6.getD (Int.toNat t14) []) x5) = (Isl.split (x6.getD (Int.toNat t14) []) x5)))) (some ((.bool false),[])) (cond ((decide (0 ≤ t14)) && (decide (t14 < (↑x6.length : Int)))) (cond (decide ((x6.getD (Int.toNat t14) []).length < 1073740000)) (cond ((decide (0 ≤ t14)) && (decide (t14 < (↑x6.length : Int)))) (cond (decide ((x6.getD (Int.toNat t14) []).length < 1073740000)) (cond (!(decide ((Isl.split (x6.getD (Int.toNat t14) []) (Isl.few t3)) = (Isl.split (x6.getD (Int.toNat t14) []) (Isl.few t3))))) (some ((.bool false),[])) (kf3l2 (t3,t11,(0 : Int),(IntKind.i64.wrap (t14 + (1 : Int))),x5,x6,x7,x8))) none) none) none) none)) none) none) none) none) (kf3j10 (t3,t11,(0 : Int),x5,x6,x7,x8))) (cond (decide (t13 = (1 : Int))) (cond (decide (t14 < (↑x7.length : Int))) (cond ((decide (0 ≤ t14)) && (decide (t14 < (↑x7.length : Int)))) (cond (decide ((x7.getD (Int.toNat t14) []).length < 1073740000)) (cond ((decide (0 ≤ t14)) && (decide (t14 < (↑x7.length : Int)))) (cond (decide ((x7.getD (Int.toNat t14) []).length < 1073740000)) (cond (!(decide ((Isl.split (x7.getD (Int.toNat t14) []) x5) = (Isl.split (x7.getD (Int.toNat t14) []) x5)))) (some ((.bool false),[])) (cond ((decide (0 ≤ t14)) && (decide (t14 < (↑x7.length : Int)))) (cond (decide ((x7.getD (Int.toNat t14) []).length < 1073740000)) (cond ((decide (0 ≤ t14)) && (decide (t14 < (↑x7.length : Int)))) (cond (decide ((x7.getD (Int.toNat t14) []).length < 1073740000)) (cond (!(decide ((Isl.split (x7.getD (Int.toNat t14) []) (Isl.few t3)) = (Isl.split (x7.getD (Int.toNat t14) []) (Isl.few t3))))) (some ((.bool false),[])) (kf3l2 (t3,t11,(1 : Int),(IntKind.i64.wrap (t14 + (1 : Int))),x5,x6,x7,x8))) none) none) none) none)) none) none) none) none) (kf3j10 (t3,t11,(1 : Int),x5,x6,x7,x8))) (cond (decide (t13 = (2 : Int))) (cond (decide (t14 < (↑x8.length : Int))) (cond ((decide (0 ≤ t14)) && (decide (t14 < (↑x8.length : Int)))) (cond (decide ((x8.getD (Int.toNat t14) []).length < 1073740000)) (cond ((decide (0 ≤ t14)) && (decide (t14 < (↑x8.length : Int)))) (cond (decide ((x8.getD (Int.toNat t14) []).length < 1073740000)) (cond (!(decide ((Isl.split (x8.getD (Int.toNat t14) []) x5) = (Isl.split (x8.getD (Int.toNat t14) []) x5)))) (some ((.bool false),[])) (cond ((decide (0 ≤ t14)) && (decide (t14 < (↑x8.length : Int)))) (cond (decide ((x8.getD (Int.toNat t14) []).length < 1073740000)) (cond ((decide (0 ≤ t14)) && (decide (t14 < (↑x8.length : Int)))) (cond (decide ((x8.getD (Int.toNat t14) []).length < 1073740000)) (cond (!(decide ((Isl.split (x8.getD (Int.toNat t14) []) (Isl.few t3)) = (Isl.split (x8.getD (Int.toNat t14) []) (Isl.few t3))))) (some ((.bool false),[])) (kf3l2 (t3,t11,(2 : Int),(IntKind.i64.wrap (t14 + (1 : Int))),x5,x6,x7,x8))) none) none) none) none)) none) none) none) none) (kf3j10 (t3,t11,(2 : Int),x5,x6,x7,x8))) none)))
theorem f3_10_eq (F : Nat) (Rf3l2 : St → Rz) (Rf3j10 : St → Rz) (Rf3l1 : St → Rz) (Rf3j11 : St → Rz) : ∀ v,aexec VG223 (Af3 F) (bp Try.f3 129612) (ef3l2 v) (kSeq (kc VG223 Rf3l2 [(3,.plain),(10,.lists .i64 22),(11,.plain),(12,.lists .i64 22),(13,.plain),(14,.plain)]) (kBlock 2 (kBlock 1 (kSeq (kc VG223 Rf3j10 [(3,.plain),(10,.lists .i64 22),(11,.plain),(12,.lists .i64 22),(13,.plain)]) (kSeq (kc VG223 Rf3l1 [(3,.plain),(10,.lists .i64 22),(11,.view 22),(12,.lists .i64 22),(13,.plain)]) (kBlock 0 (kSeq (kc VG223 Rf3j11 []) (kFin VG223 none (Try.f3).results.toList)))))))) = f3_10 F (Rf3l2 ∘ ef3l2) (Rf3j10 ∘ ef3j10) (Rf3l1 ∘ ef3l1) (Rf3j11 ∘ ef3j11) v := by
  rintro ⟨t3,t11,t13,t14,x5,x6,x7,x8⟩; kernel_rfl
def f3_11_i : Ty71 → (List (List Int)) × (List (List Int)) × Int × Int × (List (List Int)) × (List (List Int)) × (List (List Int)) × (List (List Int)) := fun (t3,t11,t13,t14,x5,x6,x7,x8) => (t3,t11,t13,t14,x5,x6,x7,x8)
def f3_11 (F : Nat) (kf3j10 : Ty70 → Rz) (kf3l1 : Ty70 → Rz) (kf3j11 : Unit → Rz) : Ty71 → Rz := fun v => loopN (fun k => f3_10 F k kf3j10 kf3l1 kf3j11) F (f3_11_i v)
theorem f3_11_eq (F : Nat) (Rf3j10 : St → Rz) (Rf3l1 : St → Rz) (Rf3j11 : St → Rz) : ∀ v,aexec VG223 (Af3 F) (bp Try.f3 64806) (ef3j9 v) (kBlock 2 (kBlock 1 (kSeq (kc VG223 Rf3j10 [(3,.plain),(10,.lists .i64 22),(11,.plain),(12,.lists .i64 22),(13,.plain)]) (kSeq (kc VG223 Rf3l1 [(3,.plain),(10,.lists .i64 22),(11,.view 22),(12,.lists .i64 22),(13,.plain)]) (kBlock 0 (kSeq (kc VG223 Rf3j11 []) (kFin VG223 none (Try.f3).results.toList))))))) = f3_11 F (Rf3j10 ∘ ef3j10) (Rf3l1 ∘ ef3l1) (Rf3j11 ∘ ef3j11) v :=
  loop_cut (by kernel_rfl) (by kernel_rfl) ef3j9 ef3l2 _ f3_11_i (fun k => f3_10 F k (Rf3j10 ∘ ef3j10) (Rf3l1 ∘ ef3l1) (Rf3j11 ∘ ef3j11))
    (by rintro ⟨t3,t11,t13,t14,x5,x6,x7,x8⟩; kernel_rfl) (fun Rf3l2 => f3_10_eq F Rf3l2 Rf3j10 Rf3l1 Rf3j11)
def f3_12 (F : Nat) (kf3j10 : Ty70 → Rz) (kf3l1 : Ty70 → Rz) (kf3j11 : Unit → Rz) : Ty71 → Rz := f3_11 F kf3j10 kf3l1 kf3j11
theorem f3_12_eq (F : Nat) (Rf3j10 : St → Rz) (Rf3l1 : St → Rz) (Rf3j11 : St → Rz) : ∀ v,aexec VG223 (Af3 F) (bp Try.f3 32403) (ef3j9 v) (kBlock 1 (kSeq (kc VG223 Rf3j10 [(3,.plain),(10,.lists .i64 22),(11,.plain),(12,.lists .i64 22),(13,.plain)]) (kSeq (kc VG223 Rf3l1 [(3,.plain),(10,.lists .i64 22),(11,.view 22),(12,.lists .i64 22),(13,.plain)]) (kBlock 0 (kSeq (kc VG223 Rf3j11 []) (kFin VG223 none (Try.f3).results.toList)))))) = f3_12 F (Rf3j10 ∘ ef3j10) (Rf3l1 ∘ ef3l1) (Rf3j11 ∘ ef3j11) v := fun v =>
  (block_in  (by kernel_rfl) _ _).trans (f3_11_eq F Rf3j10 Rf3l1 Rf3j11 v)
def f3_13 (F : Nat) (kf3j10 : Ty70 → Rz) (kf3l1 : Ty70 → Rz) (kf3j11 : Unit → Rz) : Ty70 → Rz := fun v => f3_9 F (f3_12 F kf3j10 kf3l1 kf3j11) kf3j10 kf3l1 kf3j11 v
theorem f3_13_eq (F : Nat) (Rf3j10 : St → Rz) (Rf3l1 : St → Rz) (Rf3j11 : St → Rz) : ∀ v,aexec VG223 (Af3 F) (bp Try.f3 16201) (ef3j8 v) (kBlock 1 (kSeq (kc VG223 Rf3j10 [(3,.plain),(10,.lists .i64 22),(11,.plain),(12,.lists .i64 22),(13,.plain)]) (kSeq (kc VG223 Rf3l1 [(3,.plain),(10,.lists .i64 22),(11,.view 22),(12,.lists .i64 22),(13,.plain)]) (kBlock 0 (kSeq (kc VG223 Rf3j11 []) (kFin VG223 none (Try.f3).results.toList)))))) = f3_13 F (Rf3j10 ∘ ef3j10) (Rf3l1 ∘ ef3l1) (Rf3j11 ∘ ef3j11) v :=
  seq_cut (by kernel_rfl) (by kernel_rfl) ef3j8 ef3j9 _ (fun k => f3_9 F k (Rf3j10 ∘ ef3j10) (Rf3l1 ∘ ef3l1) (Rf3j11 ∘ ef3j11)) (f3_12 F (Rf3j10 ∘ ef3j10) (Rf3l1 ∘ ef3l1) (Rf3j11 ∘ ef3j11))
    (fun Rf3j9 => f3_9_eq F Rf3j9 Rf3j10 Rf3l1 Rf3j11) (f3_12_eq F Rf3j10 Rf3l1 Rf3j11)
def f3_14 (F : Nat) (kf3j10 : Ty70 → Rz) (kf3l1 : Ty70 → Rz) (kf3j11 : Unit → Rz) : Ty70 → Rz := fun v => f3_8 F (f3_13 F kf3j10 kf3l1 kf3j11) kf3j10 kf3l1 kf3j11 v
theorem f3_14_eq (F : Nat) (Rf3j10 : St → Rz) (Rf3l1 : St → Rz) (Rf3j11 : St → Rz) : ∀ v,aexec VG223 (Af3 F) (bp Try.f3 8100) (ef3j7 v) (kBlock 1 (kSeq (kc VG223 Rf3j10 [(3,.plain),(10,.lists .i64 22),(11,.plain),(12,.lists .i64 22),(13,.plain)]) (kSeq (kc VG223 Rf3l1 [(3,.plain),(10,.lists .i64 22),(11,.view 22),(12,.lists .i64 22),(13,.plain)]) (kBlock 0 (kSeq (kc VG223 Rf3j11 []) (kFin VG223 none (Try.f3).results.toList)))))) = f3_14 F (Rf3j10 ∘ ef3j10) (Rf3l1 ∘ ef3l1) (Rf3j11 ∘ ef3j11) v :=
  seq_cut (by kernel_rfl) (by kernel_rfl) ef3j7 ef3j8 _ (fun k => f3_8 F k (Rf3j10 ∘ ef3j10) (Rf3l1 ∘ ef3l1) (Rf3j11 ∘ ef3j11)) (f3_13 F (Rf3j10 ∘ ef3j10) (Rf3l1 ∘ ef3l1) (Rf3j11 ∘ ef3j11))
    (fun Rf3j8 => f3_8_eq F Rf3j8 Rf3j10 Rf3l1 Rf3j11) (f3_13_eq F Rf3j10 Rf3l1 Rf3j11)
def f3_15 (F : Nat) (kf3j10 : Ty70 → Rz) (kf3l1 : Ty70 → Rz) (kf3j11 : Unit → Rz) : Ty70 → Rz := f3_14 F kf3j10 kf3l1 kf3j11
theorem f3_15_eq (F : Nat) (Rf3j10 : St → Rz) (Rf3l1 : St → Rz) (Rf3j11 : St → Rz) : ∀ v,aexec VG223 (Af3 F) (bp Try.f3 4050) (ef3j7 v) (kSeq (kc VG223 Rf3j10 [(3,.plain),(10,.lists .i64 22),(11,.plain),(12,.lists .i64 22),(13,.plain)]) (kSeq (kc VG223 Rf3l1 [(3,.plain),(10,.lists .i64 22),(11,.view 22),(12,.lists .i64 22),(13,.plain)]) (kBlock 0 (kSeq (kc VG223 Rf3j11 []) (kFin VG223 none (Try.f3).results.toList))))) = f3_15 F (Rf3j10 ∘ ef3j10) (Rf3l1 ∘ ef3l1) (Rf3j11 ∘ ef3j11) v := fun v =>
  (block_in  (by kernel_rfl) _ _).trans (f3_14_eq F Rf3j10 Rf3l1 Rf3j11 v)
def f3_16 (F : Nat) (kf3l1 : Ty70 → Rz) (kf3j11 : Unit → Rz) : Ty70 → Rz := fun (t3,t11,t13,x4,x5,x6,x7) => (kf3l1 (t3,t11,(IntKind.i64.wrap (t13 + (1 : Int))),x4,x5,x6,x7))
theorem f3_16_eq (F : Nat) (Rf3l1 : St → Rz) (Rf3j11 : St → Rz) : ∀ v,aexec VG223 (Af3 F) (bp Try.f3 4051) (ef3j10 v) (kSeq (kc VG223 Rf3l1 [(3,.plain),(10,.lists .i64 22),(11,.view 22),(12,.lists .i64 22),(13,.plain)]) (kBlock 0 (kSeq (kc VG223 Rf3j11 []) (kFin VG223 none (Try.f3).results.toList)))) = f3_16 F (Rf3l1 ∘ ef3l1) (Rf3j11 ∘ ef3j11) v := by
  rintro ⟨t3,t11,t13,x4,x5,x6,x7⟩; kernel_rfl
def f3_17 (F : Nat) (kf3l1 : Ty70 → Rz) (kf3j11 : Unit → Rz) : Ty70 → Rz := fun v => f3_15 F (f3_16 F kf3l1 kf3j11) kf3l1 kf3j11 v
theorem f3_17_eq (F : Nat) (Rf3l1 : St → Rz) (Rf3j11 : St → Rz) : ∀ v,aexec VG223 (Af3 F) (bp Try.f3 2025) (ef3j7 v) (kSeq (kc VG223 Rf3l1 [(3,.plain),(10,.lists .i64 22),(11,.view 22),(12,.lists .i64 22),(13,.plain)]) (kBlock 0 (kSeq (kc VG223 Rf3j11 []) (kFin VG223 none (Try.f3).results.toList)))) = f3_17 F (Rf3l1 ∘ ef3l1) (Rf3j11 ∘ ef3j11) v :=
  seq_cut (by kernel_rfl) (by kernel_rfl) ef3j7 ef3j10 _ (fun k => f3_15 F k (Rf3l1 ∘ ef3l1) (Rf3j11 ∘ ef3j11)) (f3_16 F (Rf3l1 ∘ ef3l1) (Rf3j11 ∘ ef3j11))
    (fun Rf3j10 => f3_15_eq F Rf3j10 Rf3l1 Rf3j11) (f3_16_eq F Rf3l1 Rf3j11)
def f3_18 (F : Nat) (kf3l1 : Ty70 → Rz) (kf3j11 : Unit → Rz) : Ty70 → Rz := fun v => f3_7 F (f3_17 F kf3l1 kf3j11) kf3l1 kf3j11 v
theorem f3_18_eq (F : Nat) (Rf3l1 : St → Rz) (Rf3j11 : St → Rz) : ∀ v,aexec VG223 (Af3 F) (bp Try.f3 1012) (ef3l1 v) (kSeq (kc VG223 Rf3l1 [(3,.plain),(10,.lists .i64 22),(11,.view 22),(12,.lists .i64 22),(13,.plain)]) (kBlock 0 (kSeq (kc VG223 Rf3j11 []) (kFin VG223 none (Try.f3).results.toList)))) = f3_18 F (Rf3l1 ∘ ef3l1) (Rf3j11 ∘ ef3j11) v :=
  seq_cut (by kernel_rfl) (by kernel_rfl) ef3l1 ef3j7 _ (fun k => f3_7 F k (Rf3l1 ∘ ef3l1) (Rf3j11 ∘ ef3j11)) (f3_17 F (Rf3l1 ∘ ef3l1) (Rf3j11 ∘ ef3j11))
    (fun Rf3j7 => f3_7_eq F Rf3j7 Rf3l1 Rf3j11) (f3_17_eq F Rf3l1 Rf3j11)
def f3_19_i : Ty69 → (List (List Int)) × (List (List Int)) × Int × (List (List Int)) × (List (List Int)) × (List (List Int)) × (List (List Int)) := fun (t3,t13,x3,x4,x5,x6,x7) => (t3,x4,t13,x3,x5,x6,x7)
def f3_19 (F : Nat) (kf3j11 : Unit → Rz) : Ty69 → Rz := fun v => loopN (fun k => f3_18 F k kf3j11) F (f3_19_i v)
theorem f3_19_eq (F : Nat) (Rf3j11 : St → Rz) : ∀ v,aexec VG223 (Af3 F) (bp Try.f3 506) (ef3j6 v) (kBlock 0 (kSeq (kc VG223 Rf3j11 []) (kFin VG223 none (Try.f3).results.toList))) = f3_19 F (Rf3j11 ∘ ef3j11) v :=
  loop_cut (by kernel_rfl) (by kernel_rfl) ef3j6 ef3l1 _ f3_19_i (fun k => f3_18 F k (Rf3j11 ∘ ef3j11))
    (by rintro ⟨t3,t13,x3,x4,x5,x6,x7⟩; kernel_rfl) (fun Rf3l1 => f3_18_eq F Rf3l1 Rf3j11)
def f3_20 (F : Nat) (kf3j11 : Unit → Rz) : Ty69 → Rz := f3_19 F kf3j11
theorem f3_20_eq (F : Nat) (Rf3j11 : St → Rz) : ∀ v,aexec VG223 (Af3 F) (bp Try.f3 253) (ef3j6 v) (kSeq (kc VG223 Rf3j11 []) (kFin VG223 none (Try.f3).results.toList)) = f3_20 F (Rf3j11 ∘ ef3j11) v := fun v =>
  (block_in  (by kernel_rfl) _ _).trans (f3_19_eq F Rf3j11 v)
def f3_21 (F : Nat) (kf3j11 : Unit → Rz) : Ty68 → Rz := fun v => f3_6 F (f3_20 F kf3j11) kf3j11 v
theorem f3_21_eq (F : Nat) (Rf3j11 : St → Rz) : ∀ v,aexec VG223 (Af3 F) (bp Try.f3 126) (ef3j5 v) (kSeq (kc VG223 Rf3j11 []) (kFin VG223 none (Try.f3).results.toList)) = f3_21 F (Rf3j11 ∘ ef3j11) v :=
  seq_cut (by kernel_rfl) (by kernel_rfl) ef3j5 ef3j6 _ (fun k => f3_6 F k (Rf3j11 ∘ ef3j11)) (f3_20 F (Rf3j11 ∘ ef3j11))
    (fun Rf3j6 => f3_6_eq F Rf3j6 Rf3j11) (f3_20_eq F Rf3j11)
def f3_22 (F : Nat) : Unit → Rz := fun _ => (some ((.bool true),[]))
theorem f3_22_eq (F : Nat) : ∀ v,aexec VG223 (Af3 F) (bp Try.f3 127) (ef3j11 v) (kFin VG223 none (Try.f3).results.toList) = f3_22 F v := by
  intro _; kernel_rfl
def f3_23 (F : Nat) : Ty68 → Rz := fun v => f3_21 F (f3_22 F) v
theorem f3_23_eq (F : Nat) : ∀ v,aexec VG223 (Af3 F) (bp Try.f3 63) (ef3j5 v) (kFin VG223 none (Try.f3).results.toList) = f3_23 F v :=
  seq_cut (by kernel_rfl) (by kernel_rfl) ef3j5 ef3j11 _ (fun k => f3_21 F k) (f3_22 F)
    (fun Rf3j11 => f3_21_eq F Rf3j11) (f3_22_eq F)
def f3_24 (F : Nat) : Ty67 → Rz := fun v => f3_5 F (f3_23 F) v
theorem f3_24_eq (F : Nat) : ∀ v,aexec VG223 (Af3 F) (bp Try.f3 31) (ef3j4 v) (kFin VG223 none (Try.f3).results.toList) = f3_24 F v :=
  seq_cut (by kernel_rfl) (by kernel_rfl) ef3j4 ef3j5 _ (fun k => f3_5 F k) (f3_23 F)
    (fun Rf3j5 => f3_5_eq F Rf3j5) (f3_23_eq F)
def f3_25 (F : Nat) : Ty66 → Rz := fun v => f3_4 F (f3_24 F) v
theorem f3_25_eq (F : Nat) : ∀ v,aexec VG223 (Af3 F) (bp Try.f3 15) (ef3j3 v) (kFin VG223 none (Try.f3).results.toList) = f3_25 F v :=
  seq_cut (by kernel_rfl) (by kernel_rfl) ef3j3 ef3j4 _ (fun k => f3_4 F k) (f3_24 F)
    (fun Rf3j4 => f3_4_eq F Rf3j4) (f3_24_eq F)
def f3_26 (F : Nat) : Ty65 → Rz := fun v => f3_3 F (f3_25 F) v
theorem f3_26_eq (F : Nat) : ∀ v,aexec VG223 (Af3 F) (bp Try.f3 7) (ef3j2 v) (kFin VG223 none (Try.f3).results.toList) = f3_26 F v :=
  seq_cut (by kernel_rfl) (by kernel_rfl) ef3j2 ef3j3 _ (fun k => f3_3 F k) (f3_25 F)
    (fun Rf3j3 => f3_3_eq F Rf3j3) (f3_25_eq F)
def f3_27 (F : Nat) : Ty64 → Rz := fun v => f3_2 F (f3_26 F) v
theorem f3_27_eq (F : Nat) : ∀ v,aexec VG223 (Af3 F) (bp Try.f3 3) (ef3j1 v) (kFin VG223 none (Try.f3).results.toList) = f3_27 F v :=
  seq_cut (by kernel_rfl) (by kernel_rfl) ef3j1 ef3j2 _ (fun k => f3_2 F k) (f3_26 F)
    (fun Rf3j2 => f3_2_eq F Rf3j2) (f3_26_eq F)
def f3_28 (F : Nat) : Ty64 → Rz := fun v => f3_1 F (f3_27 F) v
theorem f3_28_eq (F : Nat) : ∀ v,aexec VG223 (Af3 F) (sub (bodyOf Try.f3) []) (ef3_a v) (kFin VG223 none (Try.f3).results.toList) = f3_28 F v :=
  seq_cut (by kernel_rfl) (by kernel_rfl) ef3_a ef3j1 _ (fun k => f3_1 F k) (f3_27 F)
    (fun Rf3j1 => f3_1_eq F Rf3j1) (f3_27_eq F)
def f3 (F : Nat) : Ty64 → Rz := f3_28 F
theorem f3_body (F : Nat) (a0 : List Int) (a1 : List Int) (a2 : Int) (a3 : List (List Int)) : abody VG223 (Af3 F) Try.f3 [(.vs (.rI .i64 a0) 0 1),(.vs (.rI .i64 a1) 0 1),(.int .i64 a2),(.vs (.rL .i64 a3) 0 1)] [] = f3 F (a0,a1,a2,a3) :=
  (abody_in (c := (sub (bodyOf Try.f3) [])) (by kernel_rfl) (s := ef3_a (a0,a1,a2,a3)) (by kernel_rfl)).trans (f3_28_eq F (a0,a1,a2,a3))
def r3 : CRun := fun X H => match X,H with
  | [(.vs (.rI .i64 a0) 0 1),(.vs (.rI .i64 a1) 0 1),(.int .i64 a2),(.vs (.rL .i64 a3) 0 1)],[] => some (true,(.bool true),[])
  | _,_ => none
theorem s3 (a0 : List Int) (a1 : List Int) (a2 : Int) (a3 : List (List Int)) (h0 : okV (.vs (.rI .i64 a0) 0 1)) (h1 : okV (.vs (.rI .i64 a1) 0 1)) (h2 : okV (.int .i64 a2)) (h3 : okV (.vs (.rL .i64 a3) 0 1)) : ∃ F,f3 F (a0,a1,a2,a3) = some ((.bool true),[]) := by
  have hr := Reg.around_lt (n := a2) (m := 14) (by decide)
  refine ⟨100,?_⟩
  simp only [f3_1,f3_2,f3_3,f3_4,f3_5,f3_6,f3_19_i,f3_19,f3_20,f3_21,f3_22,f3_23,f3_24,f3_25,f3_26,f3_27,f3_28,f3,dec_and]
  rw [cond_pos (by decide),i64w (by omega) (by omega),cond_pos (by omega),cond_pos (by omega)]
  generalize hk : (1 : Int) + Reg.around a2 14 = t
  obtain ⟨g1,g2⟩ := Isl.groups_bound t (Isl.some a0 t)
  have g4 := Isl.groups_flat (n := t) (N := 14) (by omega) (Isl.some a0 t)
  have g3 := Isl.few_len a3
  have g5 := Isl.few_flat a3
  have g6 := Isl.few_each (l := a3)
  have g7 := Isl.some_len a1 t
  generalize Isl.groups t (Isl.some a0 t) = G at g1 g2 g4
  have inner : ∀ (q : Int) (L : List (List Int)),(q = 0 ∧ L = G ∨ q = 1 ∧ L = Isl.few a3 ∨ q = 2 ∧ L = []) → ∀ k7 k6 kj,loopN (fun k => f3_10 100 k k7 k6 kj) 100 (a3,Isl.some a1 t,q,0,Isl.some a0 t,G,Isl.few a3,[]) = k7 (a3,Isl.some a1 t,q,Isl.some a0 t,G,Isl.few a3,[]) := by
    intro q L h k7 k6 kj
    have hb : ∀ g ∈ L,g.length ≤ 14 := by
      rcases h with ⟨_,rfl⟩ | ⟨_,rfl⟩ | ⟨_,rfl⟩
      · intro g hg; have := g2 g hg; omega
      · intro g hg; have := g6 g hg; omega
      · intro g hg; simp at hg
    have hl : L.length ≤ 14 := by
      rcases h with ⟨_,rfl⟩ | ⟨_,rfl⟩ | ⟨_,rfl⟩
      · omega
      · omega
      · simp
    refine loopN_from (fun j => (a3,Isl.some a1 t,q,(j : Int),Isl.some a0 t,G,Isl.few a3,[])) L.length (by rfl) (fun i hi k => ?_) (fun k => ?_) _ (by omega)
    · have hg := Isl.getD_len hb i
      rcases h with ⟨rfl,rfl⟩ | ⟨rfl,rfl⟩ | ⟨rfl,rfl⟩
      · simp only [f3_10,dec_and,Int.toNat_natCast]
        rw [cond_pos (by decide),cond_pos (by omega),cond_pos (by omega),cond_pos (by omega),cond_pos (by omega),cond_pos (by omega),cond_pos (by omega),cond_pos (by omega),cond_pos (by omega),cond_pos (by omega),i64w (by omega) (by omega)]
        simp
      · simp only [f3_10,dec_and,Int.toNat_natCast]
        rw [cond_neg (by decide),cond_pos (by decide),cond_pos (by omega),cond_pos (by omega),cond_pos (by omega),cond_pos (by omega),cond_pos (by omega),cond_pos (by omega),cond_pos (by omega),cond_pos (by omega),cond_pos (by omega),i64w (by omega) (by omega)]
        simp
      · simp at hi
    · rcases h with ⟨rfl,rfl⟩ | ⟨rfl,rfl⟩ | ⟨rfl,rfl⟩
      · simp only [f3_10]
        rw [cond_pos (by decide),cond_neg (by omega)]
      · simp only [f3_10]
        rw [cond_neg (by decide),cond_pos (by decide),cond_neg (by omega)]
      · simp only [f3_10]
        rw [cond_neg (by decide),cond_neg (by decide),cond_pos (by decide),cond_neg (by simp)]
  refine loopN_from (fun i => (a3,Isl.some a1 t,(i : Int),Isl.some a0 t,G,Isl.few a3,[])) 3 (by rfl) (fun i hi k => ?_) (fun k => ?_) _ (by omega)
  · simp only [f3_7,f3_8,f3_9,f3_11_i,f3_11,f3_12,f3_13,f3_14,f3_15,f3_16,f3_17,f3_18]
    rw [cond_pos (by omega)]
    match i,hi with
    | 0,_ =>
      simp only [dec_and]
      rw [cond_pos (by decide),cond_pos (by omega),cond_pos (by omega),decide_eq_true trivial]
      refine (inner 0 _ (.inl ⟨rfl,rfl⟩) _ _ _).trans ?_
      rfl
    | 1,_ =>
      simp only [dec_and]
      rw [cond_neg (by decide),cond_pos (by decide),cond_pos (by omega),cond_pos (by omega),decide_eq_true trivial]
      refine (inner 1 _ (.inr (.inl ⟨rfl,rfl⟩)) _ _ _).trans ?_
      rfl
    | 2,_ =>
      simp only [dec_and]
      rw [cond_neg (by decide),cond_neg (by decide),cond_pos (by decide),cond_pos (by simp; omega),cond_pos (by simp; omega),decide_eq_true trivial,Bool.not_true,cond_false]
      refine (inner 2 _ (.inr (.inr ⟨rfl,rfl⟩)) _ _ _).trans ?_
      rfl
  · simp only [f3_7,f3_8,f3_9,f3_11_i,f3_11,f3_12,f3_13,f3_14,f3_15,f3_16,f3_17,f3_18]
    rw [cond_neg (by omega)]
    rfl
theorem c3 : CallOk Try.prog G22 3 r3 := callOk_of (V := VG223) mixed tys eVG223 (f := 3) (fn := Try.f3) Try.func3 (by kernel_rfl) (c := sub (bodyOf Try.f3) []) (by kernel_rfl) (by
  intro X H r H' h hX hH
  unfold r3 at h; split at h <;> try contradiction
  · simp only [Option.some.injEq,Prod.mk.injEq] at h
    obtain ⟨hp,rfl,rfl⟩ := h
    obtain ⟨F,hF⟩ := s3 _ _ _ _ (hX _ (.head _)) (hX _ (.tail _ (.head _))) (hX _ (.tail _ (.tail _ (.head _)))) (hX _ (.tail _ (.tail _ (.tail _ (.head _)))))
    exact ⟨Af3 F,(f3_body F _ _ _ _).trans hF⟩)
end Go.Am
