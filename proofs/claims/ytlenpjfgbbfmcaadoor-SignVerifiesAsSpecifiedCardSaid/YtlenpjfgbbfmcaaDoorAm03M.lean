/- Part of a proof about the functions of the given program. -/
import Derived.Test.YtlenpjfgbbfmcaaDoorAm03K
section
set_option linter.unusedVariables false
set_option linter.unusedSimpArgs false
namespace Go.Am
open Go Go.Proofs
abbrev sp56 : List (Nat × Md) := [(0,.plain),(1,.plain),(2,.plain),(10,.plain),(11,.plain),(50,.plain),(51,.plain),(52,.plain)]
abbrev sp57 : List (Nat × Md) := [(2,.plain),(10,.plain),(11,.plain),(68,.plain),(69,.plain)]
abbrev sp58 : List (Nat × Md) := [(0,.plain),(1,.plain),(2,.plain),(3,.plain)]
abbrev sp59 : List (Nat × Md) := [(0,.plain),(1,.plain),(2,.plain),(3,.plain),(10,.plain)]
abbrev sp60 : List (Nat × Md) := [(0,.plain),(1,.plain),(2,.plain),(3,.plain),(10,.plain),(11,.plain)]
abbrev sp61 : List (Nat × Md) := [(1,.plain),(2,.plain),(10,.plain),(11,.plain)]
abbrev Ty43 := (List Int) × Int × Int × (List Int) × (List Int) × (List (List Int × List Int))
abbrev Ty44 := (List Int) × Int × Int × (List Int) × (List Int) × (List (List Int × List Int)) × (List Int)
abbrev Ty45 := (List Int) × Int × Int × (List Int) × Int × Int × (List Int) × (List (List Int × List Int)) × (List Int)
abbrev Ty46 := Int × Int × (List Int) × (List (List Int × List Int)) × (List Int)
abbrev Ty47 := Int × Int × Int × (List Int) × (List (List Int × List Int)) × (List Int)
def lVG0214 : List CEnt := [(10,[none],r10),(16,[none,none,none],r16),(21,[none],r21),(22,[none],r22),(25,[none,some 5],r25),(26,[none],r26),(27,[none,none,none,none,none],r27),(28,[none,none,none],r28),(29,[none],r29),(44,[none,none,none,none,none],r44 3)]
def VG0214 : Env := mkEnv T03 G02 lVG0214
theorem eVG0214 : EOk Tryd.prog VG0214 := eok_mk (by exact ⟨c10,c16,c21,c22,c25,c26,c27,c28,c29,(c44 3),trivial⟩)
def Af14 (F : Nat) : Cuts := { F := F,at_ := fun n => match n with | 11014 => some sp56 | 17014 => some sp57 | _ => none,join := fun n => match n with | 1068 => some sp58 | 7047 => some sp58 | 8045 => some sp59 | 9043 => some sp60 | 10041 => some sp60 | 11016 => some sp56 | 16022 => some sp61 | 17016 => some sp57 | 22003 => some [(11,.plain)] | _ => none }
def ef14_a : Ty25 → St := fun (a0,a1,a2,a3) => { tmps := [(0,(.str a0)),(1,(.int .i64 a1)),(2,(.int .i64 a2)),(3,(.str a3))],heap := [],next := 0,nt := 83,m := 0 }
def ef14j1 : Ty25 → St := fun (t0,t1,t2,t3) => { tmps := [(0,(.str t0)),(1,(.int .i64 t1)),(2,(.int .i64 t2)),(3,(.str t3))],heap := [],next := 0,nt := 83,m := 0 }
def ef14j2 : Ty25 → St := fun (t0,t1,t2,t3) => { tmps := [(0,(.str t0)),(1,(.int .i64 t1)),(2,(.int .i64 t2)),(3,(.str t3))],heap := [],next := 0,nt := 83,m := 0 }
def ef14j3 : Ty43 → St := fun (t0,t1,t2,t3,x5,x6) => { tmps := [(0,(.str t0)),(1,(.int .i64 t1)),(2,(.int .i64 t2)),(3,(.str t3)),(10,(.fn 44 (.cons 0 (.ptr 0 0 1 0 0 0 1) (.cons 0 (.ptr 1 0 1 0 0 0 1) (.cons 0 (.ptr 2 0 1 0 0 0 1) .nil)))))],heap := [(0,(.cells 1 (.one (.mp 3)) true)),(1,(.cells 1 (.one (.str x5)) true)),(2,(.cells 1 (.one (.fn 44 (.cons 0 (.ptr 0 0 1 0 0 0 1) (.cons 0 (.ptr 1 0 1 0 0 0 1) (.cons 0 (.ptr 2 0 1 0 0 0 1) .nil))))) true)),(3,(.cells 0 (.rM .i64 2 (.arr .u8 16) x6) true))],next := 4,nt := 83,m := 0 }
def ef14j4 : Ty43 → St := fun (t0,t1,t2,t3,x5,x6) => { tmps := [(0,(.str t0)),(1,(.int .i64 t1)),(2,(.int .i64 t2)),(3,(.str t3)),(10,(.fn 44 (.cons 0 (.ptr 0 0 1 0 0 0 1) (.cons 0 (.ptr 1 0 1 0 0 0 1) (.cons 0 (.ptr 2 0 1 0 0 0 1) .nil))))),(11,(.ptr 3 0 2 0 0 0 2))],heap := [(0,(.cells 1 (.one (.mp 4)) true)),(1,(.cells 1 (.one (.str x5)) true)),(2,(.cells 1 (.one (.fn 44 (.cons 0 (.ptr 0 0 1 0 0 0 1) (.cons 0 (.ptr 1 0 1 0 0 0 1) (.cons 0 (.ptr 2 0 1 0 0 0 1) .nil))))) true)),(3,(.cells 2 (.segs (.cons 0 (.rT [.int .u32,.int .u32,.int .i8] []) (.cons 1 (.one .nilp) (.cons 1 (.one .ns) .nil)))) true)),(4,(.cells 0 (.rM .i64 2 (.arr .u8 16) x6) true))],next := 5,nt := 83,m := 0 }
def ef14j5 : Ty44 → St := fun (t0,t1,t2,t3,x5,x6,x7) => { tmps := [(0,(.str t0)),(1,(.int .i64 t1)),(2,(.int .i64 t2)),(3,(.str t3)),(10,(.fn 44 (.cons 0 (.ptr 0 0 1 0 0 0 1) (.cons 0 (.ptr 1 0 1 0 0 0 1) (.cons 0 (.ptr 2 0 1 0 0 0 1) .nil))))),(11,(.ptr 3 0 2 0 0 0 2))],heap := [(0,(.cells 1 (.one (.mp 4)) true)),(1,(.cells 1 (.one (.str x5)) true)),(2,(.cells 1 (.one (.fn 44 (.cons 0 (.ptr 0 0 1 0 0 0 1) (.cons 0 (.ptr 1 0 1 0 0 0 1) (.cons 0 (.ptr 2 0 1 0 0 0 1) .nil))))) true)),(3,(.cells 2 (.segs (.cons 0 (.rT [.int .u32,.int .u32,.int .i8] []) (.cons 1 (.one (.ptr 3 0 2 0 0 0 2)) (.cons 1 (.one (.own 5 0 1)) .nil)))) true)),(4,(.cells 0 (.rM .i64 2 (.arr .u8 16) x6) true)),(5,(.cells (0 + x7.length) (.segs (.cons 0 (.rT [.int .u16,.int .i8,.int .i8,.int .i16] []) (.cons x7.length (.rI .u8 x7) .nil))) true))],next := 6,nt := 83,m := 0 }
def ef14j6 : Ty45 → St := fun (t0,t1,t2,t50,t51,t52,x7,x8,x9) => { tmps := [(0,(.str t0)),(1,(.int .i64 t1)),(2,(.int .i64 t2)),(10,(.fn 44 (.cons 0 (.ptr 0 0 1 0 0 0 1) (.cons 0 (.ptr 1 0 1 0 0 0 1) (.cons 0 (.ptr 2 0 1 0 0 0 1) .nil))))),(11,(.ptr 3 0 2 0 0 0 2)),(50,(.vs (.rI .i64 t50) 0 1)),(51,(.int .i64 t51)),(52,(.int .i64 t52))],heap := [(0,(.cells 1 (.one (.mp 4)) true)),(1,(.cells 1 (.one (.str x7)) true)),(2,(.cells 1 (.one (.fn 44 (.cons 0 (.ptr 0 0 1 0 0 0 1) (.cons 0 (.ptr 1 0 1 0 0 0 1) (.cons 0 (.ptr 2 0 1 0 0 0 1) .nil))))) true)),(3,(.cells 2 (.segs (.cons 0 (.rT [.int .u32,.int .u32,.int .i8] []) (.cons 1 (.one (.ptr 3 0 2 0 0 0 2)) (.cons 1 (.one (.own 5 0 1)) .nil)))) true)),(4,(.cells 0 (.rM .i64 2 (.arr .u8 16) x8) true)),(5,(.cells (0 + x9.length) (.segs (.cons 0 (.rT [.int .u16,.int .i8,.int .i8,.int .i16] []) (.cons x9.length (.rI .u8 x9) .nil))) true))],next := 6,nt := 83,m := 0 }
def ef14l1 : Ty45 → St := fun (t0,t1,t2,t50,t51,t52,x7,x8,x9) => { tmps := [(0,(.str t0)),(1,(.int .i64 t1)),(2,(.int .i64 t2)),(10,(.fn 44 (.cons 0 (.ptr 0 0 1 0 0 0 1) (.cons 0 (.ptr 1 0 1 0 0 0 1) (.cons 0 (.ptr 2 0 1 0 0 0 1) .nil))))),(11,(.ptr 3 0 2 0 0 0 2)),(50,(.vs (.rI .i64 t50) 0 1)),(51,(.int .i64 t51)),(52,(.int .i64 t52))],heap := [(0,(.cells 1 (.one (.mp 4)) true)),(1,(.cells 1 (.one (.str x7)) true)),(2,(.cells 1 (.one (.fn 44 (.cons 0 (.ptr 0 0 1 0 0 0 1) (.cons 0 (.ptr 1 0 1 0 0 0 1) (.cons 0 (.ptr 2 0 1 0 0 0 1) .nil))))) true)),(3,(.cells 2 (.segs (.cons 0 (.rT [.int .u32,.int .u32,.int .i8] []) (.cons 1 (.one (.ptr 3 0 2 0 0 0 2)) (.cons 1 (.one (.own 5 0 1)) .nil)))) true)),(4,(.cells 0 (.rM .i64 2 (.arr .u8 16) x8) true)),(5,(.cells (0 + x9.length) (.segs (.cons 0 (.rT [.int .u16,.int .i8,.int .i8,.int .i16] []) (.cons x9.length (.rI .u8 x9) .nil))) true))],next := 6,nt := 83,m := 0 }
def ef14j7 : Ty46 → St := fun (t1,t2,x3,x4,x5) => { tmps := [(1,(.int .i64 t1)),(2,(.int .i64 t2)),(10,(.fn 44 (.cons 0 (.ptr 0 0 1 0 0 0 1) (.cons 0 (.ptr 1 0 1 0 0 0 1) (.cons 0 (.ptr 2 0 1 0 0 0 1) .nil))))),(11,(.ptr 3 0 2 0 0 0 2))],heap := [(0,(.cells 1 (.one (.mp 4)) true)),(1,(.cells 1 (.one (.str x3)) true)),(2,(.cells 1 (.one (.fn 44 (.cons 0 (.ptr 0 0 1 0 0 0 1) (.cons 0 (.ptr 1 0 1 0 0 0 1) (.cons 0 (.ptr 2 0 1 0 0 0 1) .nil))))) true)),(3,(.cells 2 (.segs (.cons 0 (.rT [.int .u32,.int .u32,.int .i8] []) (.cons 1 (.one (.ptr 3 0 2 0 0 0 2)) (.cons 1 (.one (.own 5 0 1)) .nil)))) true)),(4,(.cells 0 (.rM .i64 2 (.arr .u8 16) x4) true)),(5,(.cells (0 + x5.length) (.segs (.cons 0 (.rT [.int .u16,.int .i8,.int .i8,.int .i16] []) (.cons x5.length (.rI .u8 x5) .nil))) true))],next := 6,nt := 83,m := 0 }
def ef14j8 : Ty47 → St := fun (t2,t68,t69,x4,x5,x6) => { tmps := [(2,(.int .i64 t2)),(10,(.fn 44 (.cons 0 (.ptr 0 0 1 0 0 0 1) (.cons 0 (.ptr 1 0 1 0 0 0 1) (.cons 0 (.ptr 2 0 1 0 0 0 1) .nil))))),(11,(.ptr 3 0 2 0 0 0 2)),(68,(.int .i64 t68)),(69,(.int .i64 t69))],heap := [(0,(.cells 1 (.one (.mp 4)) true)),(1,(.cells 1 (.one (.str x4)) true)),(2,(.cells 1 (.one (.fn 44 (.cons 0 (.ptr 0 0 1 0 0 0 1) (.cons 0 (.ptr 1 0 1 0 0 0 1) (.cons 0 (.ptr 2 0 1 0 0 0 1) .nil))))) true)),(3,(.cells 2 (.segs (.cons 0 (.rT [.int .u32,.int .u32,.int .i8] []) (.cons 1 (.one (.ptr 3 0 2 0 0 0 2)) (.cons 1 (.one (.own 5 0 1)) .nil)))) true)),(4,(.cells 0 (.rM .i64 2 (.arr .u8 16) x5) true)),(5,(.cells (0 + x6.length) (.segs (.cons 0 (.rT [.int .u16,.int .i8,.int .i8,.int .i16] []) (.cons x6.length (.rI .u8 x6) .nil))) true))],next := 6,nt := 83,m := 0 }
def ef14l2 : Ty47 → St := fun (t2,t68,t69,x4,x5,x6) => { tmps := [(2,(.int .i64 t2)),(10,(.fn 44 (.cons 0 (.ptr 0 0 1 0 0 0 1) (.cons 0 (.ptr 1 0 1 0 0 0 1) (.cons 0 (.ptr 2 0 1 0 0 0 1) .nil))))),(11,(.ptr 3 0 2 0 0 0 2)),(68,(.int .i64 t68)),(69,(.int .i64 t69))],heap := [(0,(.cells 1 (.one (.mp 4)) true)),(1,(.cells 1 (.one (.str x4)) true)),(2,(.cells 1 (.one (.fn 44 (.cons 0 (.ptr 0 0 1 0 0 0 1) (.cons 0 (.ptr 1 0 1 0 0 0 1) (.cons 0 (.ptr 2 0 1 0 0 0 1) .nil))))) true)),(3,(.cells 2 (.segs (.cons 0 (.rT [.int .u32,.int .u32,.int .i8] []) (.cons 1 (.one (.ptr 3 0 2 0 0 0 2)) (.cons 1 (.one (.own 5 0 1)) .nil)))) true)),(4,(.cells 0 (.rM .i64 2 (.arr .u8 16) x5) true)),(5,(.cells (0 + x6.length) (.segs (.cons 0 (.rT [.int .u16,.int .i8,.int .i8,.int .i16] []) (.cons x6.length (.rI .u8 x6) .nil))) true))],next := 6,nt := 83,m := 0 }
def ef14j9 : (List Int) → St := fun x1 => { tmps := [(11,(.ptr 0 0 2 0 0 0 2))],heap := [(0,(.cells 2 (.segs (.cons 0 (.rT [.int .u32,.int .u32,.int .i8] []) (.cons 1 (.one (.ptr 0 0 2 0 0 0 2)) (.cons 1 (.one (.own 1 0 1)) .nil)))) true)),(1,(.cells (0 + x1.length) (.segs (.cons 0 (.rT [.int .u16,.int .i8,.int .i8,.int .i16] []) (.cons x1.length (.rI .u8 x1) .nil))) true))],next := 2,nt := 83,m := 0 }
def f14_1 (F : Nat) (kf14j1 : Ty25 → Rz) : Ty25 → Rz := fun (a0,a1,a2,a3) => (kf14j1 (a0,a1,a2,a3))
theorem f14_1_eq (F : Nat) (Rf14j1 : St → Rz) : ∀ v,aexec VG0214 (Af14 F) (bp Tryd.f14 2) (ef14_a v) (kSeq (kc VG0214 Rf14j1 sp58) (kFin VG0214 none (Tryd.f14).results.toList)) = f14_1 F (Rf14j1 ∘ ef14j1) v := by
  rintro ⟨a0,a1,a2,a3⟩; kernel_rfl
def f14_2 (F : Nat) (kf14j2 : Ty25 → Rz) : Ty25 → Rz := fun (t0,t1,t2,t3) => (cond ((↑t0.length : Int) != (32 : Int)) (some ((.tup (.cons 0 (.str []) (.cons 0 (.int .i64 (1 : Int)) .nil))),[])) (cond (!((decide (0 ≤ t1)) && (decide (t1 ≤ 6)))) (some ((.tup (.cons 0 (.str []) (.cons 0 (.int .i64 (1 : Int)) .nil))),[])) (cond (decide (t2 < (0 : Int))) (some ((.tup (.cons 0 (.str []) (.cons 0 (.int .i64 (24 : Int)) .nil))),[])) (cond (decide (0 ≤ t1)) (cond (decide (t2 ≥ (IntKind.i64.wrap ((1 : Int) * 2 ^ (min (Int.toNat t1) 64))))) (some ((.tup (.cons 0 (.str []) (.cons 0 (.int .i64 (24 : Int)) .nil))),[])) (cond (decide ((↑t3.length : Int) > (1048576 : Int))) (some ((.tup (.cons 0 (.str []) (.cons 0 (.int .i64 (4 : Int)) .nil))),[])) (kf14j2 (t0,t1,t2,t3)))) none))))
theorem f14_2_eq (F : Nat) (Rf14j2 : St → Rz) : ∀ v,aexec VG0214 (Af14 F) (bp Tryd.f14 6) (ef14j1 v) (kSeq (kc VG0214 Rf14j2 sp58) (kFin VG0214 none (Tryd.f14).results.toList)) = f14_2 F (Rf14j2 ∘ ef14j2) v := by
  rintro ⟨t0,t1,t2,t3⟩; kernel_rfl
def f14_3 (F : Nat) (kf14j3 : Ty43 → Rz) : Ty25 → Rz := fun (t0,t1,t2,t3) => (kf14j3 (t0,t1,t2,t3,t0,[]))
theorem f14_3_eq (F : Nat) (Rf14j3 : St → Rz) : ∀ v,aexec VG0214 (Af14 F) (bp Tryd.f14 14) (ef14j2 v) (kSeq (kc VG0214 Rf14j3 sp59) (kFin VG0214 none (Tryd.f14).results.toList)) = f14_3 F (Rf14j3 ∘ ef14j3) v := by
  rintro ⟨t0,t1,t2,t3⟩; kernel_rfl
def f14_4 (F : Nat) (kf14j4 : Ty43 → Rz) : Ty43 → Rz := fun (t0,t1,t2,t3,x5,x6) => (kf14j4 (t0,t1,t2,t3,x5,x6))
theorem f14_4_eq (F : Nat) (Rf14j4 : St → Rz) : ∀ v,aexec VG0214 (Af14 F) (bp Tryd.f14 30) (ef14j3 v) (kSeq (kc VG0214 Rf14j4 sp60) (kFin VG0214 none (Tryd.f14).results.toList)) = f14_4 F (Rf14j4 ∘ ef14j4) v := by
  rintro ⟨t0,t1,t2,t3,x5,x6⟩; kernel_rfl
def f14_5 (F : Nat) (kf14j5 : Ty44 → Rz) : Ty43 → Rz := fun (t0,t1,t2,t3,x5,x6) => (cond (decide ((Wire.int t2).length < 1073741824)) (kf14j5 (t0,t1,t2,t3,x5,x6,([] ++ (Wire.int t2)))) none)
theorem f14_5_eq (F : Nat) (Rf14j5 : St → Rz) : ∀ v,aexec VG0214 (Af14 F) (bp Tryd.f14 62) (ef14j4 v) (kSeq (kc VG0214 Rf14j5 sp60) (kFin VG0214 none (Tryd.f14).results.toList)) = f14_5 F (Rf14j5 ∘ ef14j5) v := by
  rintro ⟨t0,t1,t2,t3,x5,x6⟩; kernel_rfl
def f14_6 (F : Nat) (kf14j6 : Ty45 → Rz) (kf14j7 : Ty46 → Rz) : Ty44 → Rz := fun (t0,t1,t2,t3,x5,x6,x7) => (cond (Sg.nodeOk t1 (0 : Int) 3) (cond (decide (t3.length < 1073741000)) (kf14j6 (t0,t1,t2,(Sg.digits (Sg.digest (Sg.ndM x5 t1 (0 : Int) x6).1 t2 t3)),(↑(Sg.digits (Sg.digest (Sg.ndM x5 t1 (0 : Int) x6).1 t2 t3)).length : Int),(0 : Int),x5,(Sg.ndM x5 t1 (0 : Int) x6).2,x7)) none) none)
theorem f14_6_eq (F : Nat) (Rf14j6 : St → Rz) (Rf14j7 : St → Rz) : ∀ v,aexec VG0214 (Af14 F) (bp Tryd.f14 252) (ef14j5 v) (kSeq (kc VG0214 Rf14j6 sp56) (kSeq (kc VG0214 Rf14j7 sp61) (kFin VG0214 none (Tryd.f14).results.toList))) = f14_6 F (Rf14j6 ∘ ef14j6) (Rf14j7 ∘ ef14j7) v := by
  rintro ⟨t0,t1,t2,t3,x5,x6,x7⟩; kernel_rfl
def f14_7 (F : Nat) (kf14l1 : Ty45 → Rz) (kf14j7 : Ty46 → Rz) : Ty45 → Rz := fun (t0,t1,t2,t50,t51,t52,x7,x8,x9) => (cond (decide (t52 < t51)) (cond ((decide (0 ≤ t52)) && (decide (t52 < (↑t50.length : Int)))) (cond (decide ((t50.getD (Int.toNat t52) 0) ≤ 3)) (cond (decide (x9.length + ((Sg.adv t2 t52 (0 : Int) (Int.toNat ((t50.getD (Int.toNat t52) 0) - (0 : Int))) (Sg.start t0 t2 t52)).take 16).length < 1073741824)) (kf14l1 (t0,t1,t2,t50,t51,(IntKind.i64.wrap (t52 + (1 : Int))),x7,x8,(x9 ++ ((Sg.adv t2 t52 (0 : Int) (Int.toNat ((t50.getD (Int.toNat t52) 0) - (0 : Int))) (Sg.start t0 t2 t52)).take 16)))) none) none) none) (kf14j7 (t1,t2,x7,x8,x9)))
theorem f14_7_eq (F : Nat) (Rf14l1 : St → Rz) (Rf14j7 : St → Rz) : ∀ v,aexec VG0214 (Af14 F) (bp Tryd.f14 1012) (ef14l1 v) (kSeq (kc VG0214 Rf14l1 sp56) (kBlock 1 (kSeq (kc VG0214 Rf14j7 sp61) (kFin VG0214 none (Tryd.f14).results.toList)))) = f14_7 F (Rf14l1 ∘ ef14l1) (Rf14j7 ∘ ef14j7) v := by
  rintro ⟨t0,t1,t2,t50,t51,t52,x7,x8,x9⟩; kernel_rfl
def f14_8_i : Ty45 → (List Int) × Int × Int × (List Int) × Int × Int × (List Int) × (List (List Int × List Int)) × (List Int) := fun (t0,t1,t2,t50,t51,t52,x7,x8,x9) => (t0,t1,t2,t50,t51,t52,x7,x8,x9)
def f14_8 (F : Nat) (kf14j7 : Ty46 → Rz) : Ty45 → Rz := fun v => loopN (fun k => f14_7 F k kf14j7) F (f14_8_i v)
theorem f14_8_eq (F : Nat) (Rf14j7 : St → Rz) : ∀ v,aexec VG0214 (Af14 F) (bp Tryd.f14 506) (ef14j6 v) (kBlock 1 (kSeq (kc VG0214 Rf14j7 sp61) (kFin VG0214 none (Tryd.f14).results.toList))) = f14_8 F (Rf14j7 ∘ ef14j7) v :=
  loop_cut (by kernel_rfl) (by kernel_rfl) ef14j6 ef14l1 _ f14_8_i (fun k => f14_7 F k (Rf14j7 ∘ ef14j7))
    (by rintro ⟨t0,t1,t2,t50,t51,t52,x7,x8,x9⟩; kernel_rfl) (fun Rf14l1 => f14_7_eq F Rf14l1 Rf14j7)
def f14_9 (F : Nat) (kf14j7 : Ty46 → Rz) : Ty45 → Rz := f14_8 F kf14j7
theorem f14_9_eq (F : Nat) (Rf14j7 : St → Rz) : ∀ v,aexec VG0214 (Af14 F) (bp Tryd.f14 253) (ef14j6 v) (kSeq (kc VG0214 Rf14j7 sp61) (kFin VG0214 none (Tryd.f14).results.toList)) = f14_9 F (Rf14j7 ∘ ef14j7) v := fun v =>
  (block_in  (by kernel_rfl) _ _).trans (f14_8_eq F Rf14j7 v)
def f14_10 (F : Nat) (kf14j7 : Ty46 → Rz) : Ty44 → Rz := fun v => f14_6 F (f14_9 F kf14j7) kf14j7 v
theorem f14_10_eq (F : Nat) (Rf14j7 : St → Rz) : ∀ v,aexec VG0214 (Af14 F) (bp Tryd.f14 126) (ef14j5 v) (kSeq (kc VG0214 Rf14j7 sp61) (kFin VG0214 none (Tryd.f14).results.toList)) = f14_10 F (Rf14j7 ∘ ef14j7) v :=
  seq_cut (by kernel_rfl) (by kernel_rfl) ef14j5 ef14j6 _ (fun k => f14_6 F k (Rf14j7 ∘ ef14j7)) (f14_9 F (Rf14j7 ∘ ef14j7))
    (fun Rf14j6 => f14_6_eq F Rf14j6 Rf14j7) (f14_9_eq F Rf14j7)
def f14_11 (F : Nat) (kf14j8 : Ty47 → Rz) (kf14j9 : (List Int) → Rz) : Ty46 → Rz := fun (t1,t2,x3,x4,x5) => (kf14j8 (t2,t1,(0 : Int),x3,x4,x5))
theorem f14_11_eq (F : Nat) (Rf14j8 : St → Rz) (Rf14j9 : St → Rz) : ∀ v,aexec VG0214 (Af14 F) (bp Tryd.f14 508) (ef14j7 v) (kSeq (kc VG0214 Rf14j8 sp57) (kSeq (kc VG0214 Rf14j9 [(11,.plain)]) (kFin VG0214 none (Tryd.f14).results.toList))) = f14_11 F (Rf14j8 ∘ ef14j8) (Rf14j9 ∘ ef14j9) v := by
  rintro ⟨t1,t2,x3,x4,x5⟩; kernel_rfl
def f14_12 (F : Nat) (kf14l2 : Ty47 → Rz) (kf14j9 : (List Int) → Rz) : Ty47 → Rz := fun (t2,t68,t69,x4,x5,x6) => (cond (decide (t69 < t68)) (cond (decide (0 ≤ t69)) (cond (Sg.nodeOk t69 (ibits .xor .i64 (Int.fdiv t2 (2 ^ (min (Int.toNat t69) 64))) (1 : Int)) 3) (cond (decide (x6.length + ((Sg.ndM x4 t69 (ibits .xor .i64 (Int.fdiv t2 (2 ^ (min (Int.toNat t69) 64))) (1 : Int)) x5).1.take 16).length < 1073741824)) (kf14l2 (t2,t68,(IntKind.i64.wrap (t69 + (1 : Int))),x4,(Sg.ndM x4 t69 (ibits .xor .i64 (Int.fdiv t2 (2 ^ (min (Int.toNat t69) 64))) (1 : Int)) x5).2,(x6 ++ ((Sg.ndM x4 t69 (ibits .xor .i64 (Int.fdiv t2 (2 ^ (min (Int.toNat t69) 64))) (1 : Int)) x5).1.take 16)))) none) none) none) (kf14j9 x6))
theorem f14_12_eq (F : Nat) (Rf14l2 : St → Rz) (Rf14j9 : St → Rz) : ∀ v,aexec VG0214 (Af14 F) (bp Tryd.f14 2036) (ef14l2 v) (kSeq (kc VG0214 Rf14l2 sp57) (kBlock 3 (kSeq (kc VG0214 Rf14j9 [(11,.plain)]) (kFin VG0214 none (Tryd.f14).results.toList)))) = f14_12 F (Rf14l2 ∘ ef14l2) (Rf14j9 ∘ ef14j9) v := by
  rintro ⟨t2,t68,t69,x4,x5,x6⟩; kernel_rfl
def f14_13_i : Ty47 → Int × Int × Int × (List Int) × (List (List Int × List Int)) × (List Int) := fun (t2,t68,t69,x4,x5,x6) => (t2,t68,t69,x4,x5,x6)
def f14_13 (F : Nat) (kf14j9 : (List Int) → Rz) : Ty47 → Rz := fun v => loopN (fun k => f14_12 F k kf14j9) F (f14_13_i v)
theorem f14_13_eq (F : Nat) (Rf14j9 : St → Rz) : ∀ v,aexec VG0214 (Af14 F) (bp Tryd.f14 1018) (ef14j8 v) (kBlock 3 (kSeq (kc VG0214 Rf14j9 [(11,.plain)]) (kFin VG0214 none (Tryd.f14).results.toList))) = f14_13 F (Rf14j9 ∘ ef14j9) v :=
  loop_cut (by kernel_rfl) (by kernel_rfl) ef14j8 ef14l2 _ f14_13_i (fun k => f14_12 F k (Rf14j9 ∘ ef14j9))
    (by rintro ⟨t2,t68,t69,x4,x5,x6⟩; kernel_rfl) (fun Rf14l2 => f14_12_eq F Rf14l2 Rf14j9)
def f14_14 (F : Nat) (kf14j9 : (List Int) → Rz) : Ty47 → Rz := f14_13 F kf14j9
theorem f14_14_eq (F : Nat) (Rf14j9 : St → Rz) : ∀ v,aexec VG0214 (Af14 F) (bp Tryd.f14 509) (ef14j8 v) (kSeq (kc VG0214 Rf14j9 [(11,.plain)]) (kFin VG0214 none (Tryd.f14).results.toList)) = f14_14 F (Rf14j9 ∘ ef14j9) v := fun v =>
  (block_in  (by kernel_rfl) _ _).trans (f14_13_eq F Rf14j9 v)
def f14_15 (F : Nat) (kf14j9 : (List Int) → Rz) : Ty46 → Rz := fun v => f14_11 F (f14_14 F kf14j9) kf14j9 v
theorem f14_15_eq (F : Nat) (Rf14j9 : St → Rz) : ∀ v,aexec VG0214 (Af14 F) (bp Tryd.f14 254) (ef14j7 v) (kSeq (kc VG0214 Rf14j9 [(11,.plain)]) (kFin VG0214 none (Tryd.f14).results.toList)) = f14_15 F (Rf14j9 ∘ ef14j9) v :=
  seq_cut (by kernel_rfl) (by kernel_rfl) ef14j7 ef14j8 _ (fun k => f14_11 F k (Rf14j9 ∘ ef14j9)) (f14_14 F (Rf14j9 ∘ ef14j9))
    (fun Rf14j8 => f14_11_eq F Rf14j8 Rf14j9) (f14_14_eq F Rf14j9)
def f14_16 (F : Nat) : (List Int) → Rz := fun x1 => (cond (Nat.blt 0 x1.length) (some ((.tup (.cons 0 (.str x1) (.cons 0 (.int .i64 (0 : Int)) .nil))),[])) none)
theorem f14_16_eq (F : Nat) : ∀ v,aexec VG0214 (Af14 F) (bp Tryd.f14 255) (ef14j9 v) (kFin VG0214 none (Tryd.f14).results.toList) = f14_16 F v := by
  intro x1; kernel_rfl
def f14_17 (F : Nat) : Ty46 → Rz := fun v => f14_15 F (f14_16 F) v
theorem f14_17_eq (F : Nat) : ∀ v,aexec VG0214 (Af14 F) (bp Tryd.f14 127) (ef14j7 v) (kFin VG0214 none (Tryd.f14).results.toList) = f14_17 F v :=
  seq_cut (by kernel_rfl) (by kernel_rfl) ef14j7 ef14j9 _ (fun k => f14_15 F k) (f14_16 F)
    (fun Rf14j9 => f14_15_eq F Rf14j9) (f14_16_eq F)
def f14_18 (F : Nat) : Ty44 → Rz := fun v => f14_10 F (f14_17 F) v
theorem f14_18_eq (F : Nat) : ∀ v,aexec VG0214 (Af14 F) (bp Tryd.f14 63) (ef14j5 v) (kFin VG0214 none (Tryd.f14).results.toList) = f14_18 F v :=
  seq_cut (by kernel_rfl) (by kernel_rfl) ef14j5 ef14j7 _ (fun k => f14_10 F k) (f14_17 F)
    (fun Rf14j7 => f14_10_eq F Rf14j7) (f14_17_eq F)
def f14_19 (F : Nat) : Ty43 → Rz := fun v => f14_5 F (f14_18 F) v
theorem f14_19_eq (F : Nat) : ∀ v,aexec VG0214 (Af14 F) (bp Tryd.f14 31) (ef14j4 v) (kFin VG0214 none (Tryd.f14).results.toList) = f14_19 F v :=
  seq_cut (by kernel_rfl) (by kernel_rfl) ef14j4 ef14j5 _ (fun k => f14_5 F k) (f14_18 F)
    (fun Rf14j5 => f14_5_eq F Rf14j5) (f14_18_eq F)
def f14_20 (F : Nat) : Ty43 → Rz := fun v => f14_4 F (f14_19 F) v
theorem f14_20_eq (F : Nat) : ∀ v,aexec VG0214 (Af14 F) (bp Tryd.f14 15) (ef14j3 v) (kFin VG0214 none (Tryd.f14).results.toList) = f14_20 F v :=
  seq_cut (by kernel_rfl) (by kernel_rfl) ef14j3 ef14j4 _ (fun k => f14_4 F k) (f14_19 F)
    (fun Rf14j4 => f14_4_eq F Rf14j4) (f14_19_eq F)
def f14_21 (F : Nat) : Ty25 → Rz := fun v => f14_3 F (f14_20 F) v
theorem f14_21_eq (F : Nat) : ∀ v,aexec VG0214 (Af14 F) (bp Tryd.f14 7) (ef14j2 v) (kFin VG0214 none (Tryd.f14).results.toList) = f14_21 F v :=
  seq_cut (by kernel_rfl) (by kernel_rfl) ef14j2 ef14j3 _ (fun k => f14_3 F k) (f14_20 F)
    (fun Rf14j3 => f14_3_eq F Rf14j3) (f14_20_eq F)
def f14_22 (F : Nat) : Ty25 → Rz := fun v => f14_2 F (f14_21 F) v
theorem f14_22_eq (F : Nat) : ∀ v,aexec VG0214 (Af14 F) (bp Tryd.f14 3) (ef14j1 v) (kFin VG0214 none (Tryd.f14).results.toList) = f14_22 F v :=
  seq_cut (by kernel_rfl) (by kernel_rfl) ef14j1 ef14j2 _ (fun k => f14_2 F k) (f14_21 F)
    (fun Rf14j2 => f14_2_eq F Rf14j2) (f14_21_eq F)
def f14_23 (F : Nat) : Ty25 → Rz := fun v => f14_1 F (f14_22 F) v
theorem f14_23_eq (F : Nat) : ∀ v,aexec VG0214 (Af14 F) (sub (bodyOf Tryd.f14) []) (ef14_a v) (kFin VG0214 none (Tryd.f14).results.toList) = f14_23 F v :=
  seq_cut (by kernel_rfl) (by kernel_rfl) ef14_a ef14j1 _ (fun k => f14_1 F k) (f14_22 F)
    (fun Rf14j1 => f14_1_eq F Rf14j1) (f14_22_eq F)
def f14 (F : Nat) : Ty25 → Rz := f14_23 F
theorem f14_body (F : Nat) (a0 : List Int) (a1 : Int) (a2 : Int) (a3 : List Int) : abody VG0214 (Af14 F) Tryd.f14 [(.str a0),(.int .i64 a1),(.int .i64 a2),(.str a3)] [] = f14 F (a0,a1,a2,a3) :=
  (abody_in (c := (sub (bodyOf Tryd.f14) [])) (by kernel_rfl) (s := ef14_a (a0,a1,a2,a3)) (by kernel_rfl)).trans (f14_23_eq F (a0,a1,a2,a3))
def r14 : CRun := fun X H => match X,H with
  | [(.str a0),(.int .i64 a1),(.int .i64 a2),(.str a3)],[] => some ((Sg.low a1),(.tup (.cons 0 (.str (Sg.sign a0 a1 a2 a3).1) (.cons 0 (.int .i64 (Sg.sign a0 a1 a2 a3).2) .nil))),[])
  | _,_ => none
theorem ediv2 (m j : Nat) : (m : Int) / 2 ^ j = ((m / 2 ^ j : Nat) : Int) := by
  rw [Int.natCast_ediv,Int.natCast_pow]; rfl
theorem shr2 {m j : Nat} (hj : j ≤ 64) : Int.fdiv (m : Int) (2 ^ (min (Int.toNat (j : Int)) 64)) = ((m / 2 ^ j : Nat) : Int) := by
  rw [Int.toNat_natCast,Nat.min_eq_left hj,shr_nat]
theorem sib_eq {m j : Nat} (hm : m < 64) : ibits .xor .i64 ((m / 2 ^ j : Nat) : Int) 1 = Sg.sib (m : Int) j := by
  rw [Sg.xor1 _ (Nat.lt_of_le_of_lt (Nat.div_le_self _ _) hm),Sg.sib,ediv2]
theorem pow_small {n : Nat} (h : n ≤ 6) : IntKind.i64.wrap ((1 : Int) * 2 ^ (min (Int.toNat (n : Int)) 64)) = 2 ^ n := by
  match n,h with
  | 0,_ => rfl
  | 1,_ => rfl
  | 2,_ => rfl
  | 3,_ => rfl
  | 4,_ => rfl
  | 5,_ => rfl
  | 6,_ => rfl
  | n + 7,h => omega
theorem pow_le64 {n : Nat} (h : n ≤ 6) : (2 : Int) ^ n ≤ 64 := by
  match n,h with
  | 0,_ => decide
  | 1,_ => decide
  | 2,_ => decide
  | 3,_ => decide
  | 4,_ => decide
  | 5,_ => decide
  | 6,_ => decide
  | n + 7,h => omega
theorem pow_le4 {n : Nat} (h : n ≤ 2) : (2 : Int) ^ n ≤ 4 := by
  match n,h with
  | 0,_ => decide
  | 1,_ => decide
  | 2,_ => decide
  | n + 3,h => omega
theorem s14 (a0 : List Int) (a1 : Int) (a2 : Int) (a3 : List Int) (hp : ((Sg.low a1)) = true) (h0 : okV (.str a0)) (h1 : okV (.int .i64 a1)) (h2 : okV (.int .i64 a2)) (h3 : okV (.str a3)) : ∃ F,f14 F (a0,a1,a2,a3) = some ((.tup (.cons 0 (.str (Sg.sign a0 a1 a2 a3).1) (.cons 0 (.int .i64 (Sg.sign a0 a1 a2 a3).2) .nil))),[]) := by
  simp only [Sg.low,decide_eq_true_eq] at hp
  obtain ⟨F,hF⟩ : ∃ F,100 < F := ⟨101,by decide⟩
  refine ⟨F,?_⟩
  simp only [f14_1,f14_2,f14_3,f14_4,f14_5,f14_6,f14_8_i,f14_8,f14_9,f14_10,f14_18,f14_19,f14_20,f14_21,f14_22,f14_23,f14,int_bne,dec_and,dec_not,ge_iff_le,gt_iff_lt]
  by_cases hl : a0.length = 32
  case neg =>
    rw [cond_pos (by omega)]
    have e : Sg.sign a0 a1 a2 a3 = ([],1) := by rw [Sg.sign,if_pos (.inl hl)]
    rw [e]
  rw [cond_neg (by omega)]
  by_cases hh : 0 ≤ a1 ∧ a1 ≤ 6
  case neg =>
    rw [cond_pos hh]
    have e : Sg.sign a0 a1 a2 a3 = ([],1) := by rw [Sg.sign,if_pos (.inr hh)]
    rw [e]
  rw [cond_neg (fun h => h hh)]
  obtain ⟨n,rfl⟩ := Int.eq_ofNat_of_zero_le hh.1
  have hn : n ≤ 2 := by omega
  have hpow := pow_le4 hn
  rw [pow_small (by omega)]
  by_cases hi : a2 < 0
  · rw [cond_pos hi]
    have e : Sg.sign a0 (n : Int) a2 a3 = ([],24) := by rw [Sg.sign,if_neg (by omega),if_pos (.inl hi)]
    rw [e]
  rw [cond_neg hi,cond_pos hh.1]
  by_cases hi2 : 2 ^ n ≤ a2
  · rw [cond_pos hi2]
    have e : Sg.sign a0 (n : Int) a2 a3 = ([],24) := by rw [Sg.sign,if_neg (by omega),if_pos (.inr hi2)]
    rw [e]
  rw [cond_neg hi2]
  by_cases hm : 1048576 < (a3.length : Int)
  · rw [cond_pos hm]
    have e : Sg.sign a0 (n : Int) a2 a3 = ([],4) := by rw [Sg.sign,if_neg (by omega),if_neg (by rw [Int.toNat_natCast]; omega),if_pos (by omega)]
    rw [e]
  rw [cond_neg hm]
  have e : Sg.sign a0 (n : Int) a2 a3 = (Wire.int a2 ++ Sg.body a0 a2 (Sg.digits (Sg.digest (Sg.nd a0 n 0) a2 a3)) ++ Sg.path a0 a2 n,0) := by
    rw [Sg.sign,if_neg (by omega),if_neg (by rw [Int.toNat_natCast]; omega),if_neg (by omega),Int.toNat_natCast]
  rw [e]
  have hint := Sg.int_le a2
  rw [cond_pos (by omega),nodeOk_root hh.1 (by omega),cond_true,cond_pos (by omega),root_eq hh.1,Int.toNat_natCast]
  have hc1 : Sg.Cons a0 (Sg.ndM a0 (n : Int) 0 []).2 := (Sg.ndF_ok a0 _ 0 [] (Sg.cons_nil a0)).2
  generalize hes : (Sg.ndM a0 (n : Int) 0 []).2 = es1 at hc1
  generalize hD : Sg.digits (Sg.digest (Sg.nd a0 n 0) a2 a3) = D
  have hDl : D.length = 68 := by rw [← hD]; exact Sg.digits_len _
  have hDg : ∀ c,0 ≤ D.getD c 0 ∧ D.getD c 0 ≤ 3 := fun c => by rw [← hD]; exact Sg.digits_get _ c
  have hpl : ∀ c,(Sg.part a0 a2 D c).length = 16 := fun c => Sg.part_len a0 a2 D c
  have hbl : ∀ m : Nat,((List.range m).flatMap (Sg.part a0 a2 D)).length = 16 * m := fun m => Sg.flat_len _ m fun i _ => hpl i
  refine loopN_from (fun i => (a0,(n : Int),a2,D,(D.length : Int),(i : Int),a0,es1,Wire.int a2 ++ (List.range i).flatMap (Sg.part a0 a2 D))) 68 (by simp) (fun i hi' k => ?_) (fun k => ?_) _ (by omega)
  · have h5 := hDg i
    have h6 := hbl i
    have h7 := hpl i
    have e1 : (Sg.adv a2 (i : Int) 0 (Int.toNat (D.getD i 0 - 0)) (Sg.start a0 a2 (i : Int))).take 16 = Sg.part a0 a2 D i := by
      rw [Int.sub_zero]; exact Sg.take16 h7
    simp only [f14_7,dec_and,Int.toNat_natCast]
    have e2 : (List.take 16 (Sg.adv a2 (i : Int) 0 (Int.toNat (D.getD i 0 - 0)) (Sg.start a0 a2 (i : Int)))).length = 16 := by rw [e1]; exact h7
    rw [cond_pos (by omega),cond_pos (by omega),cond_pos (by omega),cond_pos (by rw [List.length_append,e2]; omega),e1,i64w (by omega) (by omega),Sg.flat_succ,List.append_assoc]
    rfl
  · have h6 := hbl 68
    simp only [f14_7,dec_and]
    rw [cond_neg (by omega)]
    simp only [f14_11,f14_13_i,f14_13,f14_14,f14_15,f14_17]
    have hX : (Wire.int a2 ++ (List.range 68).flatMap (Sg.part a0 a2 D)).length ≤ 1097 := by rw [List.length_append]; omega
    have eB : Sg.body a0 a2 D = (List.range 68).flatMap (Sg.part a0 a2 D) := rfl
    rw [eB]
    generalize hXX : Wire.int a2 ++ (List.range 68).flatMap (Sg.part a0 a2 D) = X at hX
    have hX0 : 0 < X.length := by rw [← hXX,List.length_append]; omega
    obtain ⟨i2,rfl⟩ := Int.eq_ofNat_of_zero_le (show 0 ≤ a2 by omega)
    have hi64 : i2 < 64 := by omega
    have hpth : ∀ m : Nat,(Sg.path a0 (i2 : Int) m).length = 16 * m := fun m => Sg.flat_len _ m fun i _ => Sg.nd_len a0 i _
    refine loopN_ind (fun m s => ∃ (j : Nat) (es : Sg.Ent),s = ((i2 : Int),(n : Int),(j : Int),a0,es,X ++ Sg.path a0 (i2 : Int) j) ∧ j + m = n ∧ Sg.Cons a0 es) ?_ _ n _ (by omega) ⟨0,es1,by simp [Sg.path],by omega,hc1⟩
    rintro m s k' ⟨j,es,rfl,hjm,hc⟩ hk
    have h8 := hpth j
    simp only [f14_12,dec_and]
    cases m with
    | zero =>
      rw [cond_neg (by omega)]
      simp only [f14_16]
      have : j = n := by omega
      subst this
      rw [show Nat.blt 0 (X ++ Sg.path a0 (i2 : Int) j).length = true by rw [Nat.blt_eq,List.length_append]; omega,cond_true]
    | succ m =>
      rw [cond_pos (by omega),cond_pos (by omega),shr2 (by omega),sib_eq hi64]
      have hsb : 0 ≤ Sg.sib (i2 : Int) j ∧ Sg.sib (i2 : Int) j ≤ 5 := by
        rw [Sg.sib,ediv2]
        have hdl := Nat.div_le_self i2 (2 ^ j)
        have hx3 : i2 ≤ 3 := by omega
        generalize i2 / 2 ^ j = x at hdl
        split <;> omega
      have hj2 : (2 : Int) ^ j ≤ 4 := pow_le4 (by omega)
      have hok : Sg.nodeOk (j : Int) (Sg.sib (i2 : Int) j) 3 = true := by
        simp only [Sg.nodeOk,decide_eq_true_eq,Int.toNat_natCast]
        refine ⟨by omega,by omega,by omega,hsb.1,?_⟩
        have : (Sg.sib (i2 : Int) j + 1) * 2 ^ j ≤ (Sg.sib (i2 : Int) j + 1) * 4 := Int.mul_le_mul_of_nonneg_left hj2 (by omega)
        omega
      obtain ⟨g1,g2⟩ := Sg.ndF_ok a0 j (Sg.sib (i2 : Int) j) es hc
      have g1' : (Sg.ndM a0 (j : Int) (Sg.sib (i2 : Int) j) es).1 = Sg.nd a0 j (Sg.sib (i2 : Int) j) := g1
      have h9 := Sg.nd_len a0 j (Sg.sib (i2 : Int) j)
      rw [hok,cond_true,g1',Sg.take16 h9,cond_pos (by rw [List.length_append]; omega),i64w (by omega) (by omega)]
      refine hk m _ (by omega) ⟨j + 1,(Sg.ndM a0 (j : Int) (Sg.sib (i2 : Int) j) es).2,?_,by omega,g2⟩
      have e9 : Sg.path a0 (i2 : Int) (j + 1) = Sg.path a0 (i2 : Int) j ++ Sg.nd a0 j (Sg.sib (i2 : Int) j) := Sg.flat_succ _ j
      rw [e9,List.append_assoc]
      rfl
theorem c14 : CallOk Tryd.prog G02 14 r14 := callOk_of (V := VG0214) mixed tys eVG0214 (f := 14) (fn := Tryd.f14) Tryd.func14 (by kernel_rfl) (c := sub (bodyOf Tryd.f14) []) (by kernel_rfl) (by
  intro X H r H' h hX hH
  unfold r14 at h; split at h <;> try contradiction
  · simp only [Option.some.injEq,Prod.mk.injEq] at h
    obtain ⟨hp,rfl,rfl⟩ := h
    obtain ⟨F,hF⟩ := s14 _ _ _ _ hp (hX _ (.head _)) (hX _ (.tail _ (.head _))) (hX _ (.tail _ (.tail _ (.head _)))) (hX _ (.tail _ (.tail _ (.tail _ (.head _)))))
    exact ⟨Af14 F,(f14_body F _ _ _ _).trans hF⟩)
end Go.Am
end
section
set_option linter.unusedVariables false
set_option linter.unusedSimpArgs false
namespace Go.Am
open Go Go.Proofs
abbrev sp62 : List (Nat × Md) := [(4,.plain),(10,.plain),(14,.plain),(16,.plain),(64,.plain),(65,.plain)]
abbrev sp63 : List (Nat × Md) := [(1,.plain),(2,.plain),(3,.plain),(4,.plain),(10,.plain),(11,.plain),(12,.plain)]
abbrev sp64 : List (Nat × Md) := [(1,.plain),(2,.plain),(3,.plain),(4,.plain),(10,.plain),(11,.plain)]
abbrev sp65 : List (Nat × Md) := [(1,.plain),(2,.plain),(4,.plain),(10,.plain),(13,.plain)]
abbrev sp66 : List (Nat × Md) := [(1,.plain),(2,.plain),(4,.plain),(10,.plain),(14,.plain)]
abbrev sp67 : List (Nat × Md) := [(1,.plain),(4,.plain),(10,.plain),(14,.plain),(15,.plain)]
abbrev sp68 : List (Nat × Md) := [(1,.plain),(4,.plain),(10,.plain),(14,.plain),(16,.plain)]
abbrev sp69 : List (Nat × Md) := [(4,.plain),(10,.plain),(16,.plain)]
abbrev Ty48 := Int × (List Int) × (List Int) × Int × Int × (List Int) × Int
abbrev Ty49 := Int × (List Int) × (List Int) × Int × (List Int) × Int
abbrev Ty50 := Int × (List Int) × Int × (List Int) × (List Int)
abbrev Ty51 := Int × Int × (List Int) × Int × (List Int) × (List Int)
noncomputable section
def lVG0218 : List CEnt := [(10,[none],r10),(16,[none,none,none],r16),(21,[none],r21),(36,[some 5],r36),(37,[none,none],r37),(38,[none],r38),(40,[none,none],r40)]
def VG0218 : Env := mkEnv T03 G02 lVG0218
theorem eVG0218 : EOk Tryd.prog VG0218 := eok_mk (by exact ⟨c10,c16,c21,c36,c37,c38,c40,trivial⟩)
def Af18 (F : Nat) : Cuts := { F := F,at_ := fun n => match n with | 15016 => some sp62 | _ => none,join := fun n => match n with | 1073 => some sp12 | 5058 => some sp12 | 6056 => some sp63 | 8048 => some sp64 | 9046 => some sp65 | 11038 => some sp65 | 12036 => some sp66 | 13034 => some sp67 | 14032 => some sp68 | 15018 => some sp62 | 21011 => some sp69 | _ => none }
def ef18_a : Ty1 → St := fun (a0,a1,a2,a3) => { tmps := [(0,(.agg 16 (.rI .u8 a0))),(1,(.int .i64 a1)),(2,(.str a2)),(3,(.str a3))],heap := [],next := 0,nt := 90,m := 0 }
def ef18j1 : Ty30 → St := fun (t1,t2,t3,x4) => { tmps := [(1,(.int .i64 t1)),(2,(.str t2)),(3,(.str t3)),(4,(.ptr 0 0 16 0 0 0 16))],heap := [(0,(.cells 16 (.rI .u8 x4) true))],next := 1,nt := 90,m := 0 }
def ef18j2 : Ty30 → St := fun (t1,t2,t3,x4) => { tmps := [(1,(.int .i64 t1)),(2,(.str t2)),(3,(.str t3)),(4,(.ptr 0 0 16 0 0 0 16))],heap := [(0,(.cells 16 (.rI .u8 x4) true))],next := 1,nt := 90,m := 0 }
def ef18j3 : Ty48 → St := fun (t1,t2,t3,t11,t12,x6,x7) => { tmps := [(1,(.int .i64 t1)),(2,(.str t2)),(3,(.str t3)),(4,(.ptr 0 0 16 0 0 0 16)),(10,(.ptr 1 0 1 0 0 0 1)),(11,(.int .i64 t11)),(12,(.int .i64 t12))],heap := [(0,(.cells 16 (.rI .u8 x6) true)),(1,(.cells 1 (.one (.int .i64 x7)) true))],next := 2,nt := 90,m := 0 }
def ef18j4 : Ty49 → St := fun (t1,t2,t3,t11,x5,x6) => { tmps := [(1,(.int .i64 t1)),(2,(.str t2)),(3,(.str t3)),(4,(.ptr 0 0 16 0 0 0 16)),(10,(.ptr 1 0 1 0 0 0 1)),(11,(.int .i64 t11))],heap := [(0,(.cells 16 (.rI .u8 x5) true)),(1,(.cells 1 (.one (.int .i64 x6)) true))],next := 2,nt := 90,m := 0 }
def ef18j5 : Ty14 → St := fun (t1,t2,x3,x4,x5) => { tmps := [(1,(.int .i64 t1)),(2,(.str t2)),(4,(.ptr 0 0 16 0 0 0 16)),(10,(.ptr 1 0 1 0 0 0 1)),(13,(.ptr 2 0 1 0 0 0 1))],heap := [(0,(.cells 16 (.rI .u8 x3) true)),(1,(.cells 1 (.one (.int .i64 x4)) true)),(2,(.cells 1 (.one (.own 3 0 1)) true)),(3,(.cells x5.length (.rI .u8 x5) true))],next := 4,nt := 90,m := 0 }
def ef18j6 : Ty14 → St := fun (t1,t2,x3,x4,x5) => { tmps := [(1,(.int .i64 t1)),(2,(.str t2)),(4,(.ptr 0 0 16 0 0 0 16)),(10,(.ptr 1 0 1 0 0 0 1)),(13,(.ptr 2 0 1 0 0 0 1))],heap := [(0,(.cells 16 (.rI .u8 x3) true)),(1,(.cells 1 (.one (.int .i64 x4)) true)),(2,(.cells 1 (.one (.own 3 0 1)) true)),(3,(.cells x5.length (.rI .u8 x5) true))],next := 4,nt := 90,m := 0 }
def ef18j7 : Ty14 → St := fun (t1,t2,x3,x4,x5) => { tmps := [(1,(.int .i64 t1)),(2,(.str t2)),(4,(.ptr 0 0 16 0 0 0 16)),(10,(.ptr 1 0 1 0 0 0 1)),(14,(.ptr 2 0 1 0 0 0 1))],heap := [(0,(.cells 16 (.rI .u8 x3) true)),(1,(.cells 1 (.one (.int .i64 x4)) true)),(2,(.cells 1 (.one (.fn 37 (.cons 0 (.ptr 3 0 1 0 0 0 1) .nil))) true)),(3,(.cells 1 (.one (.own 4 0 1)) true)),(4,(.cells x5.length (.rI .u8 x5) true))],next := 5,nt := 90,m := 0 }
def ef18j8 : Ty50 → St := fun (t1,x2,x3,x4,x5) => { tmps := [(1,(.int .i64 t1)),(4,(.ptr 0 0 16 0 0 0 16)),(10,(.ptr 1 0 1 0 0 0 1)),(14,(.ptr 2 0 1 0 0 0 1)),(15,(.ptr 3 0 1 0 0 0 1))],heap := [(0,(.cells 16 (.rI .u8 x2) true)),(1,(.cells 1 (.one (.int .i64 x3)) true)),(2,(.cells 1 (.one (.fn 37 (.cons 0 (.ptr 4 0 1 0 0 0 1) .nil))) true)),(3,(.cells 1 (.one (.vs (.rI .i64 x4) 0 1)) true)),(4,(.cells 1 (.one (.own 5 0 1)) true)),(5,(.cells x5.length (.rI .u8 x5) true))],next := 6,nt := 90,m := 0 }
def ef18j9 : Ty50 → St := fun (t1,x2,x3,x4,x5) => { tmps := [(1,(.int .i64 t1)),(4,(.ptr 0 0 16 0 0 0 16)),(10,(.ptr 1 0 1 0 0 0 1)),(14,(.ptr 2 0 1 0 0 0 1)),(16,(.ptr 3 0 16 0 0 0 16))],heap := [(0,(.cells 16 (.rI .u8 x2) true)),(1,(.cells 1 (.one (.int .i64 x3)) true)),(2,(.cells 1 (.one (.fn 37 (.cons 0 (.ptr 4 0 1 0 0 0 1) .nil))) true)),(3,(.cells 16 (.rI .u8 x4) true)),(4,(.cells 1 (.one (.own 5 0 1)) true)),(5,(.cells x5.length (.rI .u8 x5) true))],next := 6,nt := 90,m := 0 }
def ef18j10 : Ty51 → St := fun (t64,t65,x3,x4,x5,x6) => { tmps := [(4,(.ptr 0 0 16 0 0 0 16)),(10,(.ptr 1 0 1 0 0 0 1)),(14,(.ptr 2 0 1 0 0 0 1)),(16,(.ptr 3 0 16 0 0 0 16)),(64,(.int .i64 t64)),(65,(.int .i64 t65))],heap := [(0,(.cells 16 (.rI .u8 x3) true)),(1,(.cells 1 (.one (.int .i64 x4)) true)),(2,(.cells 1 (.one (.fn 37 (.cons 0 (.ptr 4 0 1 0 0 0 1) .nil))) true)),(3,(.cells 16 (.rI .u8 x5) true)),(4,(.cells 1 (.one (.own 5 0 1)) true)),(5,(.cells x6.length (.rI .u8 x6) true))],next := 6,nt := 90,m := 0 }
def ef18l1 : Ty51 → St := fun (t64,t65,x3,x4,x5,x6) => { tmps := [(4,(.ptr 0 0 16 0 0 0 16)),(10,(.ptr 1 0 1 0 0 0 1)),(14,(.ptr 2 0 1 0 0 0 1)),(16,(.ptr 3 0 16 0 0 0 16)),(64,(.int .i64 t64)),(65,(.int .i64 t65))],heap := [(0,(.cells 16 (.rI .u8 x3) true)),(1,(.cells 1 (.one (.int .i64 x4)) true)),(2,(.cells 1 (.one (.fn 37 (.cons 0 (.ptr 4 0 1 0 0 0 1) .nil))) true)),(3,(.cells 16 (.rI .u8 x5) true)),(4,(.cells 1 (.one (.own 5 0 1)) true)),(5,(.cells x6.length (.rI .u8 x6) true))],next := 6,nt := 90,m := 0 }
def ef18j11 : Ty34 → St := fun (x1,x2,x3) => { tmps := [(4,(.ptr 0 0 16 0 0 0 16)),(10,(.ptr 1 0 1 0 0 0 1)),(16,(.ptr 2 0 16 0 0 0 16))],heap := [(0,(.cells 16 (.rI .u8 x1) true)),(1,(.cells 1 (.one (.int .i64 x2)) true)),(2,(.cells 16 (.rI .u8 x3) true))],next := 3,nt := 90,m := 0 }
def f18_1 (F : Nat) (kf18j1 : Ty30 → Rz) : Ty1 → Rz := fun (a0,a1,a2,a3) => (kf18j1 (a1,a2,a3,a0))
theorem f18_1_eq (F : Nat) (Rf18j1 : St → Rz) : ∀ v,aexec VG0218 (Af18 F) (bp Tryd.f18 2) (ef18_a v) (kSeq (kc VG0218 Rf18j1 sp12) (kFin VG0218 none (Tryd.f18).results.toList)) = f18_1 F (Rf18j1 ∘ ef18j1) v := by
  rintro ⟨a0,a1,a2,a3⟩; kernel_rfl
def f18_2 (F : Nat) (kf18j2 : Ty30 → Rz) : Ty30 → Rz := fun (t1,t2,t3,x4) => (cond (!((decide (0 ≤ t1)) && (decide (t1 ≤ 6)))) (some ((.tup (.cons 0 (.int .i64 (0 : Int)) (.cons 0 (.int .i64 (1 : Int)) .nil))),[])) (cond (decide ((↑t2.length : Int) > (1048576 : Int))) (some ((.tup (.cons 0 (.int .i64 (0 : Int)) (.cons 0 (.int .i64 (4 : Int)) .nil))),[])) (kf18j2 (t1,t2,t3,x4))))
theorem f18_2_eq (F : Nat) (Rf18j2 : St → Rz) : ∀ v,aexec VG0218 (Af18 F) (bp Tryd.f18 6) (ef18j1 v) (kSeq (kc VG0218 Rf18j2 sp12) (kFin VG0218 none (Tryd.f18).results.toList)) = f18_2 F (Rf18j2 ∘ ef18j2) v := by
  rintro ⟨t1,t2,t3,x4⟩; kernel_rfl
def f18_3 (F : Nat) (kf18j3 : Ty48 → Rz) : Ty30 → Rz := fun (t1,t2,t3,x4) => (kf18j3 (t1,t2,t3,(Wire.getInt t3).2.1,(Wire.getInt t3).2.2,x4,(Wire.getInt t3).1))
theorem f18_3_eq (F : Nat) (Rf18j3 : St → Rz) : ∀ v,aexec VG0218 (Af18 F) (bp Tryd.f18 14) (ef18j2 v) (kSeq (kc VG0218 Rf18j3 sp63) (kFin VG0218 none (Tryd.f18).results.toList)) = f18_3 F (Rf18j3 ∘ ef18j3) v := by
  rintro ⟨t1,t2,t3,x4⟩; kernel_rfl
def f18_4 (F : Nat) (kf18j4 : Ty49 → Rz) : Ty48 → Rz := fun (t1,t2,t3,t11,t12,x6,x7) => (cond (t12 != (0 : Int)) (some ((.tup (.cons 0 (.int .i64 (0 : Int)) (.cons 0 (.int .i64 t12) .nil))),[])) (kf18j4 (t1,t2,t3,t11,x6,x7)))
theorem f18_4_eq (F : Nat) (Rf18j4 : St → Rz) : ∀ v,aexec VG0218 (Af18 F) (bp Tryd.f18 30) (ef18j3 v) (kSeq (kc VG0218 Rf18j4 sp64) (kFin VG0218 none (Tryd.f18).results.toList)) = f18_4 F (Rf18j4 ∘ ef18j4) v := by
  rintro ⟨t1,t2,t3,t11,t12,x6,x7⟩; kernel_rfl
def f18_5 (F : Nat) (kf18j5 : Ty14 → Rz) : Ty49 → Rz := fun (t1,t2,t3,t11,x5,x6) => (cond (((decide (0 ≤ t11)) && (decide (t11 ≤ (↑t3.length : Int)))) && (decide ((↑t3.length : Int) ≤ (↑t3.length : Int)))) (kf18j5 (t1,t2,x5,x6,((t3.take t3.length).drop (Int.toNat t11)))) none)
theorem f18_5_eq (F : Nat) (Rf18j5 : St → Rz) : ∀ v,aexec VG0218 (Af18 F) (bp Tryd.f18 62) (ef18j4 v) (kSeq (kc VG0218 Rf18j5 sp65) (kFin VG0218 none (Tryd.f18).results.toList)) = f18_5 F (Rf18j5 ∘ ef18j5) v := by
  rintro ⟨t1,t2,t3,t11,x5,x6⟩; kernel_rfl
def f18_6 (F : Nat) (kf18j6 : Ty14 → Rz) : Ty14 → Rz := fun (t1,t2,x3,x4,x5) => (cond (decide (x4 < (0 : Int))) (some ((.tup (.cons 0 (.int .i64 (0 : Int)) (.cons 0 (.int .i64 (2 : Int)) .nil))),[])) (cond (decide (0 ≤ t1)) (cond (decide (x4 ≥ (IntKind.i64.wrap ((1 : Int) * 2 ^ (min (Int.toNat t1) 64))))) (some ((.tup (.cons 0 (.int .i64 (0 : Int)) (.cons 0 (.int .i64 (2 : Int)) .nil))),[])) (cond ((↑x5.length : Int) != (IntKind.i64.wrap ((IntKind.i64.wrap ((68 : Int) + t1)) * (16 : Int)))) (some ((.tup (.cons 0 (.int .i64 (0 : Int)) (.cons 0 (.int .i64 (2 : Int)) .nil))),[])) (kf18j6 (t1,t2,x3,x4,x5)))) none))
theorem f18_6_eq (F : Nat) (Rf18j6 : St → Rz) : ∀ v,aexec VG0218 (Af18 F) (bp Tryd.f18 126) (ef18j5 v) (kSeq (kc VG0218 Rf18j6 sp65) (kFin VG0218 none (Tryd.f18).results.toList)) = f18_6 F (Rf18j6 ∘ ef18j6) v := by
  rintro ⟨t1,t2,x3,x4,x5⟩; kernel_rfl
def f18_7 (F : Nat) (kf18j7 : Ty14 → Rz) : Ty14 → Rz := fun (t1,t2,x3,x4,x5) => (kf18j7 (t1,t2,x3,x4,x5))
theorem f18_7_eq (F : Nat) (Rf18j7 : St → Rz) : ∀ v,aexec VG0218 (Af18 F) (bp Tryd.f18 254) (ef18j6 v) (kSeq (kc VG0218 Rf18j7 sp66) (kFin VG0218 none (Tryd.f18).results.toList)) = f18_7 F (Rf18j7 ∘ ef18j7) v := by
  rintro ⟨t1,t2,x3,x4,x5⟩; kernel_rfl
def f18_8 (F : Nat) (kf18j8 : Ty50 → Rz) : Ty14 → Rz := fun (t1,t2,x3,x4,x5) => (cond (decide (t2.length < 1073741000)) (kf18j8 (t1,x3,x4,(Sg.digits (Sg.digest x3 x4 t2)),x5)) none)
theorem f18_8_eq (F : Nat) (Rf18j8 : St → Rz) : ∀ v,aexec VG0218 (Af18 F) (bp Tryd.f18 510) (ef18j7 v) (kSeq (kc VG0218 Rf18j8 sp67) (kFin VG0218 none (Tryd.f18).results.toList)) = f18_8 F (Rf18j8 ∘ ef18j8) v := by
  rintro ⟨t1,t2,x3,x4,x5⟩; kernel_rfl
def f18_9 (F : Nat) (kf18j9 : Ty50 → Rz) : Ty50 → Rz := fun (t1,x2,x3,x4,x5) => (cond ((decide (68 ≤ x4.length)) && ((decide (1088 ≤ x5.length)) && (decide (x5.length < 1073741000)))) (kf18j9 (t1,x2,x3,(Sg.leafV x3 x4 x5),x5)) none)
theorem f18_9_eq (F : Nat) (Rf18j9 : St → Rz) : ∀ v,aexec VG0218 (Af18 F) (bp Tryd.f18 1022) (ef18j8 v) (kSeq (kc VG0218 Rf18j9 sp68) (kFin VG0218 none (Tryd.f18).results.toList)) = f18_9 F (Rf18j9 ∘ ef18j9) v := by
  rintro ⟨t1,x2,x3,x4,x5⟩; kernel_rfl
def f18_10 (F : Nat) (kf18j10 : Ty51 → Rz) (kf18j11 : Ty34 → Rz) : Ty50 → Rz := fun (t1,x2,x3,x4,x5) => (kf18j10 (t1,(0 : Int),x2,x3,x4,x5))
theorem f18_10_eq (F : Nat) (Rf18j10 : St → Rz) (Rf18j11 : St → Rz) : ∀ v,aexec VG0218 (Af18 F) (bp Tryd.f18 4092) (ef18j9 v) (kSeq (kc VG0218 Rf18j10 sp62) (kSeq (kc VG0218 Rf18j11 sp69) (kFin VG0218 none (Tryd.f18).results.toList))) = f18_10 F (Rf18j10 ∘ ef18j10) (Rf18j11 ∘ ef18j11) v := by
  rintro ⟨t1,x2,x3,x4,x5⟩; kernel_rfl
def f18_11 (F : Nat) (kf18l1 : Ty51 → Rz) (kf18j11 : Ty34 → Rz) : Ty51 → Rz := fun (t64,t65,x3,x4,x5,x6) => (cond (decide (t65 < t64)) (cond (decide (0 ≤ t65)) (cond ((ibits .and .i64 (Int.fdiv x4 (2 ^ (min (Int.toNat t65) 64))) (1 : Int)) == (1 : Int)) (cond ((decide (0 ≤ (IntKind.i64.wrap ((68 : Int) + t65)))) && ((decide (((IntKind.i64.wrap ((68 : Int) + t65)) + 1) * 16 ≤ (x6.length : Int))) && (decide (x6.length < 1073741000)))) (kf18l1 (t64,(IntKind.i64.wrap (t65 + (1 : Int))),x3,x4,(Sg.node ((x6.drop (Int.toNat ((IntKind.i64.wrap ((68 : Int) + t65)) * 16))).take 16) x5),x6)) none) (cond ((decide (0 ≤ (IntKind.i64.wrap ((68 : Int) + t65)))) && ((decide (((IntKind.i64.wrap ((68 : Int) + t65)) + 1) * 16 ≤ (x6.length : Int))) && (decide (x6.length < 1073741000)))) (kf18l1 (t64,(IntKind.i64.wrap (t65 + (1 : Int))),x3,x4,(Sg.node x5 ((x6.drop (Int.toNat ((IntKind.i64.wrap ((68 : Int) + t65)) * 16))).take 16)),x6)) none)) none) (kf18j11 (x3,x4,x5)))
theorem f18_11_eq (F : Nat) (Rf18l1 : St → Rz) (Rf18j11 : St → Rz) : ∀ v,aexec VG0218 (Af18 F) (bp Tryd.f18 16372) (ef18l1 v) (kSeq (kc VG0218 Rf18l1 sp62) (kBlock 1 (kSeq (kc VG0218 Rf18j11 sp69) (kFin VG0218 none (Tryd.f18).results.toList)))) = f18_11 F (Rf18l1 ∘ ef18l1) (Rf18j11 ∘ ef18j11) v := by
  rintro ⟨t64,t65,x3,x4,x5,x6⟩; kernel_rfl
def f18_12_i : Ty51 → Int × Int × (List Int) × Int × (List Int) × (List Int) := fun (t64,t65,x3,x4,x5,x6) => (t64,t65,x3,x4,x5,x6)
def f18_12 (F : Nat) (kf18j11 : Ty34 → Rz) : Ty51 → Rz := fun v => loopN (fun k => f18_11 F k kf18j11) F (f18_12_i v)
theorem f18_12_eq (F : Nat) (Rf18j11 : St → Rz) : ∀ v,aexec VG0218 (Af18 F) (bp Tryd.f18 8186) (ef18j10 v) (kBlock 1 (kSeq (kc VG0218 Rf18j11 sp69) (kFin VG0218 none (Tryd.f18).results.toList))) = f18_12 F (Rf18j11 ∘ ef18j11) v :=
  loop_cut (by kernel_rfl) (by kernel_rfl) ef18j10 ef18l1 _ f18_12_i (fun k => f18_11 F k (Rf18j11 ∘ ef18j11))
    (by rintro ⟨t64,t65,x3,x4,x5,x6⟩; kernel_rfl) (fun Rf18l1 => f18_11_eq F Rf18l1 Rf18j11)
def f18_13 (F : Nat) (kf18j11 : Ty34 → Rz) : Ty51 → Rz := f18_12 F kf18j11
theorem f18_13_eq (F : Nat) (Rf18j11 : St → Rz) : ∀ v,aexec VG0218 (Af18 F) (bp Tryd.f18 4093) (ef18j10 v) (kSeq (kc VG0218 Rf18j11 sp69) (kFin VG0218 none (Tryd.f18).results.toList)) = f18_13 F (Rf18j11 ∘ ef18j11) v := fun v =>
  (block_in  (by kernel_rfl) _ _).trans (f18_12_eq F Rf18j11 v)
def f18_14 (F : Nat) (kf18j11 : Ty34 → Rz) : Ty50 → Rz := fun v => f18_10 F (f18_13 F kf18j11) kf18j11 v
theorem f18_14_eq (F : Nat) (Rf18j11 : St → Rz) : ∀ v,aexec VG0218 (Af18 F) (bp Tryd.f18 2046) (ef18j9 v) (kSeq (kc VG0218 Rf18j11 sp69) (kFin VG0218 none (Tryd.f18).results.toList)) = f18_14 F (Rf18j11 ∘ ef18j11) v :=
  seq_cut (by kernel_rfl) (by kernel_rfl) ef18j9 ef18j10 _ (fun k => f18_10 F k (Rf18j11 ∘ ef18j11)) (f18_13 F (Rf18j11 ∘ ef18j11))
    (fun Rf18j10 => f18_10_eq F Rf18j10 Rf18j11) (f18_13_eq F Rf18j11)
def f18_15 (F : Nat) : Ty34 → Rz := fun (x1,x2,x3) => (cond (!((x3 : List Int) == x1)) (some ((.tup (.cons 0 (.int .i64 (0 : Int)) (.cons 0 (.int .i64 (10 : Int)) .nil))),[])) (some ((.tup (.cons 0 (.int .i64 x2) (.cons 0 (.int .i64 (0 : Int)) .nil))),[])))
theorem f18_15_eq (F : Nat) : ∀ v,aexec VG0218 (Af18 F) (bp Tryd.f18 2047) (ef18j11 v) (kFin VG0218 none (Tryd.f18).results.toList) = f18_15 F v := by
  rintro ⟨x1,x2,x3⟩; kernel_rfl
def f18_16 (F : Nat) : Ty50 → Rz := fun v => f18_14 F (f18_15 F) v
theorem f18_16_eq (F : Nat) : ∀ v,aexec VG0218 (Af18 F) (bp Tryd.f18 1023) (ef18j9 v) (kFin VG0218 none (Tryd.f18).results.toList) = f18_16 F v :=
  seq_cut (by kernel_rfl) (by kernel_rfl) ef18j9 ef18j11 _ (fun k => f18_14 F k) (f18_15 F)
    (fun Rf18j11 => f18_14_eq F Rf18j11) (f18_15_eq F)
def f18_17 (F : Nat) : Ty50 → Rz := fun v => f18_9 F (f18_16 F) v
theorem f18_17_eq (F : Nat) : ∀ v,aexec VG0218 (Af18 F) (bp Tryd.f18 511) (ef18j8 v) (kFin VG0218 none (Tryd.f18).results.toList) = f18_17 F v :=
  seq_cut (by kernel_rfl) (by kernel_rfl) ef18j8 ef18j9 _ (fun k => f18_9 F k) (f18_16 F)
    (fun Rf18j9 => f18_9_eq F Rf18j9) (f18_16_eq F)
def f18_18 (F : Nat) : Ty14 → Rz := fun v => f18_8 F (f18_17 F) v
theorem f18_18_eq (F : Nat) : ∀ v,aexec VG0218 (Af18 F) (bp Tryd.f18 255) (ef18j7 v) (kFin VG0218 none (Tryd.f18).results.toList) = f18_18 F v :=
  seq_cut (by kernel_rfl) (by kernel_rfl) ef18j7 ef18j8 _ (fun k => f18_8 F k) (f18_17 F)
    (fun Rf18j8 => f18_8_eq F Rf18j8) (f18_17_eq F)
def f18_19 (F : Nat) : Ty14 → Rz := fun v => f18_7 F (f18_18 F) v
theorem f18_19_eq (F : Nat) : ∀ v,aexec VG0218 (Af18 F) (bp Tryd.f18 127) (ef18j6 v) (kFin VG0218 none (Tryd.f18).results.toList) = f18_19 F v :=
  seq_cut (by kernel_rfl) (by kernel_rfl) ef18j6 ef18j7 _ (fun k => f18_7 F k) (f18_18 F)
    (fun Rf18j7 => f18_7_eq F Rf18j7) (f18_18_eq F)
def f18_20 (F : Nat) : Ty14 → Rz := fun v => f18_6 F (f18_19 F) v
theorem f18_20_eq (F : Nat) : ∀ v,aexec VG0218 (Af18 F) (bp Tryd.f18 63) (ef18j5 v) (kFin VG0218 none (Tryd.f18).results.toList) = f18_20 F v :=
  seq_cut (by kernel_rfl) (by kernel_rfl) ef18j5 ef18j6 _ (fun k => f18_6 F k) (f18_19 F)
    (fun Rf18j6 => f18_6_eq F Rf18j6) (f18_19_eq F)
def f18_21 (F : Nat) : Ty49 → Rz := fun v => f18_5 F (f18_20 F) v
theorem f18_21_eq (F : Nat) : ∀ v,aexec VG0218 (Af18 F) (bp Tryd.f18 31) (ef18j4 v) (kFin VG0218 none (Tryd.f18).results.toList) = f18_21 F v :=
  seq_cut (by kernel_rfl) (by kernel_rfl) ef18j4 ef18j5 _ (fun k => f18_5 F k) (f18_20 F)
    (fun Rf18j5 => f18_5_eq F Rf18j5) (f18_20_eq F)
def f18_22 (F : Nat) : Ty48 → Rz := fun v => f18_4 F (f18_21 F) v
theorem f18_22_eq (F : Nat) : ∀ v,aexec VG0218 (Af18 F) (bp Tryd.f18 15) (ef18j3 v) (kFin VG0218 none (Tryd.f18).results.toList) = f18_22 F v :=
  seq_cut (by kernel_rfl) (by kernel_rfl) ef18j3 ef18j4 _ (fun k => f18_4 F k) (f18_21 F)
    (fun Rf18j4 => f18_4_eq F Rf18j4) (f18_21_eq F)
def f18_23 (F : Nat) : Ty30 → Rz := fun v => f18_3 F (f18_22 F) v
theorem f18_23_eq (F : Nat) : ∀ v,aexec VG0218 (Af18 F) (bp Tryd.f18 7) (ef18j2 v) (kFin VG0218 none (Tryd.f18).results.toList) = f18_23 F v :=
  seq_cut (by kernel_rfl) (by kernel_rfl) ef18j2 ef18j3 _ (fun k => f18_3 F k) (f18_22 F)
    (fun Rf18j3 => f18_3_eq F Rf18j3) (f18_22_eq F)
def f18_24 (F : Nat) : Ty30 → Rz := fun v => f18_2 F (f18_23 F) v
theorem f18_24_eq (F : Nat) : ∀ v,aexec VG0218 (Af18 F) (bp Tryd.f18 3) (ef18j1 v) (kFin VG0218 none (Tryd.f18).results.toList) = f18_24 F v :=
  seq_cut (by kernel_rfl) (by kernel_rfl) ef18j1 ef18j2 _ (fun k => f18_2 F k) (f18_23 F)
    (fun Rf18j2 => f18_2_eq F Rf18j2) (f18_23_eq F)
def f18_25 (F : Nat) : Ty1 → Rz := fun v => f18_1 F (f18_24 F) v
theorem f18_25_eq (F : Nat) : ∀ v,aexec VG0218 (Af18 F) (sub (bodyOf Tryd.f18) []) (ef18_a v) (kFin VG0218 none (Tryd.f18).results.toList) = f18_25 F v :=
  seq_cut (by kernel_rfl) (by kernel_rfl) ef18_a ef18j1 _ (fun k => f18_1 F k) (f18_24 F)
    (fun Rf18j1 => f18_1_eq F Rf18j1) (f18_24_eq F)
def f18 (F : Nat) : Ty1 → Rz := f18_25 F
theorem f18_body (F : Nat) (a0 : List Int) (a1 : Int) (a2 : List Int) (a3 : List Int) : abody VG0218 (Af18 F) Tryd.f18 [(.agg 16 (.rI .u8 a0)),(.int .i64 a1),(.str a2),(.str a3)] [] = f18 F (a0,a1,a2,a3) :=
  (abody_in (c := (sub (bodyOf Tryd.f18) [])) (by kernel_rfl) (s := ef18_a (a0,a1,a2,a3)) (by kernel_rfl)).trans (f18_25_eq F (a0,a1,a2,a3))
def r18 : CRun := fun X H => match X,H with
  | [(.agg 16 (.rI .u8 a0)),(.int .i64 a1),(.str a2),(.str a3)],[] => some (true,(.tup (.cons 0 (.int .i64 (Sg.verO a0 a1 a2 a3).1) (.cons 0 (.int .i64 (Sg.verO a0 a1 a2 a3).2) .nil))),[])
  | _,_ => none
theorem and_eq {m j : Nat} (hm : m < 64) : ((ibits .and .i64 ((m / 2 ^ j : Nat) : Int) 1) == (1 : Int)) = decide ((m : Int) / 2 ^ j % 2 = 1) := by
  rw [Sg.and1 _ (Nat.lt_of_le_of_lt (Nat.div_le_self _ _) hm),int_beq,ediv2]
theorem s18 (a0 : List Int) (a1 : Int) (a2 : List Int) (a3 : List Int) (h0 : okV (.agg 16 (.rI .u8 a0))) (h1 : okV (.int .i64 a1)) (h2 : okV (.str a2)) (h3 : okV (.str a3)) : ∃ F,f18 F (a0,a1,a2,a3) = some ((.tup (.cons 0 (.int .i64 (Sg.verO a0 a1 a2 a3).1) (.cons 0 (.int .i64 (Sg.verO a0 a1 a2 a3).2) .nil))),[]) := by
  rw [Sg.verO_eq]
  obtain ⟨F,hF⟩ : ∃ F,100 < F := ⟨101,by decide⟩
  have h3' : okS a3 := h3
  have hby : Wire.okBytes a3 := fun x hx => (h3'.2 x hx)
  have hgr := Wire.getInt_rng hby
  refine ⟨F,?_⟩
  simp only [f18_1,f18_2,f18_3,f18_4,f18_5,f18_6,f18_7,f18_8,f18_9,f18_10,f18_12_i,f18_12,f18_13,f18_14,f18_16,f18_17,f18_18,f18_19,f18_20,f18_21,f18_22,f18_23,f18_24,f18_25,f18,int_bne,dec_and,dec_not,ge_iff_le,gt_iff_lt]
  by_cases hh : 0 ≤ a1 ∧ a1 ≤ 6
  case neg =>
    rw [cond_pos hh]
    have e : Sg.verify a0 a1 a2 a3 = (0,1) := by rw [Sg.verify,if_pos hh]
    rw [e]
  rw [cond_neg (fun h => h hh)]
  obtain ⟨n,rfl⟩ := Int.eq_ofNat_of_zero_le hh.1
  have hn : n ≤ 6 := by omega
  have hpow := pow_le64 hn
  rw [pow_small hn]
  by_cases hm : 1048576 < (a2.length : Int)
  · rw [cond_pos hm]
    have e : Sg.verify a0 (n : Int) a2 a3 = (0,4) := by rw [Sg.verify,if_neg (by omega),if_pos (by omega)]
    rw [e]
  rw [cond_neg hm]
  by_cases hE : (Wire.getInt a3).2.2 ≠ 0
  · rw [cond_pos hE]
    have e : Sg.verify a0 (n : Int) a2 a3 = (0,(Wire.getInt a3).2.2) := by rw [Sg.verify,if_neg (by omega),if_neg (by omega),if_pos hE]
    rw [e]
  rw [cond_neg hE]
  have h5 : 0 ≤ (Wire.getInt a3).2.1 := hgr.2.1
  have h6 : (Wire.getInt a3).2.1 ≤ (a3.length : Int) := hgr.1
  rw [cond_pos (by omega),List.take_length]
  generalize hix : (Wire.getInt a3).1 = ix
  generalize hb : a3.drop (Int.toNat (Wire.getInt a3).2.1) = b
  have ev : Sg.verify a0 (n : Int) a2 a3 = if ix < 0 ∨ 2 ^ n ≤ ix ∨ (b.length : Int) ≠ (68 + (n : Int)) * 16 then (0,2) else if Sg.climb ix b (Sg.leafV ix (Sg.digits (Sg.digest a0 ix a2)) b) n ≠ a0 then (0,10) else (ix,0) := by
    rw [Sg.verify,if_neg (by omega),if_neg (by omega),if_neg hE,hix,hb,Int.toNat_natCast]
  rw [ev]
  by_cases hi : ix < 0
  · rw [cond_pos hi,if_pos (.inl hi)]
  rw [cond_neg hi,cond_pos hh.1]
  by_cases hi2 : 2 ^ n ≤ ix
  · rw [cond_pos hi2,if_pos (.inr (.inl hi2))]
  rw [cond_neg hi2,i64w (x := 68 + (n : Int)) (by omega) (by omega),i64w (x := (68 + (n : Int)) * 16) (by omega) (by omega)]
  by_cases hlen : (b.length : Int) ≠ (68 + (n : Int)) * 16
  · rw [cond_pos hlen,if_pos (.inr (.inr hlen))]
  rw [cond_neg hlen,if_neg (by omega),cond_pos (by omega)]
  have hdl := Sg.digits_len (Sg.digest a0 ix a2)
  rw [cond_pos (by omega)]
  have hlv : (Sg.leafV ix (Sg.digits (Sg.digest a0 ix a2)) b).length = 16 := Sg.leafOf_len _
  generalize Sg.leafV ix (Sg.digits (Sg.digest a0 ix a2)) b = v0 at hlv
  obtain ⟨i2,rfl⟩ := Int.eq_ofNat_of_zero_le (show 0 ≤ ix by omega)
  refine loopN_from (fun i => ((n : Int),(i : Int),a0,(i2 : Int),Sg.climb (i2 : Int) b v0 i,b)) n (by rfl) (fun i hi' k => ?_) (fun k => ?_) _ (by omega)
  · simp only [f18_11,dec_and]
    rw [cond_pos (by omega),cond_pos (by omega),shr2 (by omega),and_eq (by omega),i64w (x := 68 + (i : Int)) (by omega) (by omega),i64w (x := (i : Int) + 1) (by omega) (by omega)]
    have e1 : Int.toNat ((68 + (i : Int)) * 16) = (68 + i) * 16 := by omega
    rw [e1]
    by_cases hbit : (i2 : Int) / 2 ^ i % 2 = 1
    · rw [cond_pos hbit,cond_pos (by omega)]
      have e2 : Sg.climb (i2 : Int) b v0 (i + 1) = Sg.node (Sg.val b (68 + i)) (Sg.climb (i2 : Int) b v0 i) := by rw [Sg.climb,if_pos hbit]
      rw [e2]; rfl
    · rw [cond_neg hbit,cond_pos (by omega)]
      have e2 : Sg.climb (i2 : Int) b v0 (i + 1) = Sg.node (Sg.climb (i2 : Int) b v0 i) (Sg.val b (68 + i)) := by rw [Sg.climb,if_neg hbit]
      rw [e2]; rfl
  · simp only [f18_11,dec_and]
    rw [cond_neg (by omega)]
    simp only [f18_15,lst_beq,dec_not]
    by_cases hv : Sg.climb (i2 : Int) b v0 n = a0
    · rw [cond_neg (fun h => h hv),if_neg (fun h => h hv)]
    · rw [cond_pos hv,if_pos hv]
theorem c18 : CallOk Tryd.prog G02 18 r18 := callOk_of (V := VG0218) mixed tys eVG0218 (f := 18) (fn := Tryd.f18) Tryd.func18 (by kernel_rfl) (c := sub (bodyOf Tryd.f18) []) (by kernel_rfl) (by
  intro X H r H' h hX hH
  unfold r18 at h; split at h <;> try contradiction
  · simp only [Option.some.injEq,Prod.mk.injEq] at h
    obtain ⟨hp,rfl,rfl⟩ := h
    obtain ⟨F,hF⟩ := s18 _ _ _ _ (hX _ (.head _)) (hX _ (.tail _ (.head _))) (hX _ (.tail _ (.tail _ (.head _)))) (hX _ (.tail _ (.tail _ (.tail _ (.head _)))))
    exact ⟨Af18 F,(f18_body F _ _ _ _).trans hF⟩)
end
end Go.Am
end