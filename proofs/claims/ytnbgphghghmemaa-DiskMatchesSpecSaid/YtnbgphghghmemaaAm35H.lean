/- Part of a proof about the functions of the given program. -/
import Derived.Test.YtnbgphghghmemaaAm35G
import Derived.Test.YtnbgphghghmemaaAmDisk3
set_option linter.unusedVariables false
set_option linter.unusedSimpArgs false
namespace Go.Am
open Go Go.Proofs
abbrev sp36 : List (Nat × Md) := [(1,.plain),(5,.plain),(6,.plain),(7,.plain),(9,.plain)]
abbrev sp37 : List (Nat × Md) := [(0,.plain),(1,.plain),(5,.plain),(6,.plain),(7,.plain),(8,.plain),(27,.plain)]
abbrev sp38 : List (Nat × Md) := [(1,.plain),(5,.plain),(6,.plain),(7,.plain)]
abbrev sp39 : List (Nat × Md) := [(1,.plain),(5,.plain),(6,.plain),(7,.plain),(9,.plain),(10,.plain),(11,.plain)]
abbrev sp40 : List (Nat × Md) := [(1,.plain),(5,.plain),(6,.plain),(7,.plain),(9,.plain),(10,.plain),(11,.plain),(12,.plain),(13,.plain)]
abbrev sp41 : List (Nat × Md) := [(1,.plain),(5,.plain),(6,.plain),(7,.plain),(9,.plain),(77,.plain)]
abbrev Ty58 := Int × (List (List (List Int))) × Nat × Bool
abbrev Ty59 := Int × (List (List (List Int))) × Nat × Bool × Bool × (Dk.D) × (Dk.R)
abbrev Ty60 := Int × (List (List (List Int))) × Nat × Bool × Bool × Bool × (Dk.D) × (Dk.R)
abbrev Ty61 := (List (List (List Int))) × Nat × Bool × (Dk.D) × (Dk.R)
abbrev Ty62 := (List (List (List Int))) × Nat × Bool × Int × (Dk.D) × (Dk.R)
abbrev Ty63 := (List (List (List Int))) × Nat × Bool × Int × (List Int) × Int × (Dk.D) × (Dk.R)
abbrev Ty64 := (List (List (List Int))) × Nat × Bool × Int × (List Int) × Int × (List Int) × Int × (Dk.D) × (Dk.R)
abbrev Ty65 := (List (List (List Int))) × Nat × Bool × Int × Bool × (Dk.D) × (Dk.R)

def lVG353v : List CEnt := [(9,[],r9),(10,[none],r10),(11,[none,none],r11),(12,[none,none],r12),(13,[none,none],r13)]
def VG353v : Env := mkEnv T35 G35 lVG353v
theorem eVG353v : EOk Try.prog VG353v := eok_mk (by exact ⟨c9,c10,c11,c12,c13,trivial⟩)
def Af3v (F : Nat) : Cuts := { F := F,at_ := fun n => match n with | 6020 => some sp36 | _ => none,join := fun n => match n with | 1040 => some [(0,.plain),(1,.plain)] | 2038 => some sp7 | 3036 => some sp27 | 4005 => some sp37 | 5028 => some sp38 | 6022 => some sp36 | 7001 => some sp36 | 8014 => some sp36 | 9009 => some sp39 | 10007 => some sp40 | 11005 => some sp41 | 12003 => some [(5,.plain)] | _ => none }
def ef3v_a : Ty54 → St := fun (a0,a1,a1n) => { tmps := [(0,(.int .i64 a0)),(1,(.vs (.rT [.int .i64,.int .i64,.int .i64,.str,.sl .i64] a1) a1n 5))],heap := [],next := 0,nt := 79,m := 0 }
def ef3vj1 : Ty54 → St := fun (t0,t1,x3) => { tmps := [(0,(.int .i64 t0)),(1,(.vs (.rT [.int .i64,.int .i64,.int .i64,.str,.sl .i64] t1) x3 5))],heap := [],next := 0,nt := 79,m := 0 }
def ef3vj2 : Ty58 → St := fun (t0,t1,x3,t5) => { tmps := [(0,(.int .i64 t0)),(1,(.vs (.rT [.int .i64,.int .i64,.int .i64,.str,.sl .i64] t1) x3 5)),(5,(.bool t5))],heap := [],next := 0,nt := 79,m := 0 }
def ef3vj3 : Ty59 → St := fun (t0,t1,x3,t5,t8,e1,e2) => { tmps := [(0,(.int .i64 t0)),(1,(.vs (.rT [.int .i64,.int .i64,.int .i64,.str,.sl .i64] t1) x3 5)),(5,(.bool t5)),(6,(.ptr 0 0 5 0 0 0 5)),(7,(.ptr 1 0 3 0 0 0 3)),(8,(.bool t8))],heap := [(0,(.cells 5 (.segs (.cons 1 (.one (.own 2 e1.n 64)) (.cons 1 (.one (.mp 3)) (.cons 1 (.one (.mp 4)) (.cons 1 (.one (.bool e1.off)) (.cons 1 (.one (.int .i64 e1.left)) .nil)))))) true)),(1,(.cells 3 (.segs (.cons 1 (.one (.own 5 e2.s.length 4)) (.cons 1 (.one (.bool e2.off)) (.cons 1 (.one (.int .i64 e2.left)) .nil)))) true)),(2,(.cells e1.blk.length (.rI .u8 e1.blk) true)),(3,(.cells 0 (.rM .i64 0 (.arr .u8 64) e1.pend) true)),(4,(.cells 0 (.rM .i64 0 .bool e1.worn) true)),(5,(.cells (e2.s.length * 4) (.rT [.str,.str,.bool,.bool] e2.s) true))],next := 6,nt := 79,m := 0 }
def ef3vj4 : Ty60 → St := fun (t0,t1,x3,t5,t8,t27,e1,e2) => { tmps := [(0,(.int .i64 t0)),(1,(.vs (.rT [.int .i64,.int .i64,.int .i64,.str,.sl .i64] t1) x3 5)),(5,(.bool t5)),(6,(.ptr 0 0 5 0 0 0 5)),(7,(.ptr 1 0 3 0 0 0 3)),(8,(.bool t8)),(27,(.bool t27))],heap := [(0,(.cells 5 (.segs (.cons 1 (.one (.own 2 e1.n 64)) (.cons 1 (.one (.mp 3)) (.cons 1 (.one (.mp 4)) (.cons 1 (.one (.bool e1.off)) (.cons 1 (.one (.int .i64 e1.left)) .nil)))))) true)),(1,(.cells 3 (.segs (.cons 1 (.one (.own 5 e2.s.length 4)) (.cons 1 (.one (.bool e2.off)) (.cons 1 (.one (.int .i64 e2.left)) .nil)))) true)),(2,(.cells e1.blk.length (.rI .u8 e1.blk) true)),(3,(.cells 0 (.rM .i64 0 (.arr .u8 64) e1.pend) true)),(4,(.cells 0 (.rM .i64 0 .bool e1.worn) true)),(5,(.cells (e2.s.length * 4) (.rT [.str,.str,.bool,.bool] e2.s) true))],next := 6,nt := 79,m := 0 }
def ef3vj5 : Ty61 → St := fun (t1,x2,t5,e1,e2) => { tmps := [(1,(.vs (.rT [.int .i64,.int .i64,.int .i64,.str,.sl .i64] t1) x2 5)),(5,(.bool t5)),(6,(.ptr 0 0 5 0 0 0 5)),(7,(.ptr 1 0 3 0 0 0 3))],heap := [(0,(.cells 5 (.segs (.cons 1 (.one (.own 2 e1.n 64)) (.cons 1 (.one (.mp 3)) (.cons 1 (.one (.mp 4)) (.cons 1 (.one (.bool e1.off)) (.cons 1 (.one (.int .i64 e1.left)) .nil)))))) true)),(1,(.cells 3 (.segs (.cons 1 (.one (.own 5 e2.s.length 4)) (.cons 1 (.one (.bool e2.off)) (.cons 1 (.one (.int .i64 e2.left)) .nil)))) true)),(2,(.cells e1.blk.length (.rI .u8 e1.blk) true)),(3,(.cells 0 (.rM .i64 0 (.arr .u8 64) e1.pend) true)),(4,(.cells 0 (.rM .i64 0 .bool e1.worn) true)),(5,(.cells (e2.s.length * 4) (.rT [.str,.str,.bool,.bool] e2.s) true))],next := 6,nt := 79,m := 0 }
def ef3vj6 : Ty62 → St := fun (t1,x2,t5,t9,e1,e2) => { tmps := [(1,(.vs (.rT [.int .i64,.int .i64,.int .i64,.str,.sl .i64] t1) x2 5)),(5,(.bool t5)),(6,(.ptr 0 0 5 0 0 0 5)),(7,(.ptr 1 0 3 0 0 0 3)),(9,(.int .i64 t9))],heap := [(0,(.cells 5 (.segs (.cons 1 (.one (.own 2 e1.n 64)) (.cons 1 (.one (.mp 3)) (.cons 1 (.one (.mp 4)) (.cons 1 (.one (.bool e1.off)) (.cons 1 (.one (.int .i64 e1.left)) .nil)))))) true)),(1,(.cells 3 (.segs (.cons 1 (.one (.own 5 e2.s.length 4)) (.cons 1 (.one (.bool e2.off)) (.cons 1 (.one (.int .i64 e2.left)) .nil)))) true)),(2,(.cells e1.blk.length (.rI .u8 e1.blk) true)),(3,(.cells 0 (.rM .i64 0 (.arr .u8 64) e1.pend) true)),(4,(.cells 0 (.rM .i64 0 .bool e1.worn) true)),(5,(.cells (e2.s.length * 4) (.rT [.str,.str,.bool,.bool] e2.s) true))],next := 6,nt := 79,m := 0 }
def ef3vl1 : Ty62 → St := fun (t1,x2,t5,t9,e1,e2) => { tmps := [(1,(.vs (.rT [.int .i64,.int .i64,.int .i64,.str,.sl .i64] t1) x2 5)),(5,(.bool t5)),(6,(.ptr 0 0 5 0 0 0 5)),(7,(.ptr 1 0 3 0 0 0 3)),(9,(.int .i64 t9))],heap := [(0,(.cells 5 (.segs (.cons 1 (.one (.own 2 e1.n 64)) (.cons 1 (.one (.mp 3)) (.cons 1 (.one (.mp 4)) (.cons 1 (.one (.bool e1.off)) (.cons 1 (.one (.int .i64 e1.left)) .nil)))))) true)),(1,(.cells 3 (.segs (.cons 1 (.one (.own 5 e2.s.length 4)) (.cons 1 (.one (.bool e2.off)) (.cons 1 (.one (.int .i64 e2.left)) .nil)))) true)),(2,(.cells e1.blk.length (.rI .u8 e1.blk) true)),(3,(.cells 0 (.rM .i64 0 (.arr .u8 64) e1.pend) true)),(4,(.cells 0 (.rM .i64 0 .bool e1.worn) true)),(5,(.cells (e2.s.length * 4) (.rT [.str,.str,.bool,.bool] e2.s) true))],next := 6,nt := 79,m := 0 }
def ef3vj7 : Ty62 → St := fun (t1,x2,t5,t9,e1,e2) => { tmps := [(1,(.vs (.rT [.int .i64,.int .i64,.int .i64,.str,.sl .i64] t1) x2 5)),(5,(.bool t5)),(6,(.ptr 0 0 5 0 0 0 5)),(7,(.ptr 1 0 3 0 0 0 3)),(9,(.int .i64 t9))],heap := [(0,(.cells 5 (.segs (.cons 1 (.one (.own 2 e1.n 64)) (.cons 1 (.one (.mp 3)) (.cons 1 (.one (.mp 4)) (.cons 1 (.one (.bool e1.off)) (.cons 1 (.one (.int .i64 e1.left)) .nil)))))) true)),(1,(.cells 3 (.segs (.cons 1 (.one (.own 5 e2.s.length 4)) (.cons 1 (.one (.bool e2.off)) (.cons 1 (.one (.int .i64 e2.left)) .nil)))) true)),(2,(.cells e1.blk.length (.rI .u8 e1.blk) true)),(3,(.cells 0 (.rM .i64 0 (.arr .u8 64) e1.pend) true)),(4,(.cells 0 (.rM .i64 0 .bool e1.worn) true)),(5,(.cells (e2.s.length * 4) (.rT [.str,.str,.bool,.bool] e2.s) true))],next := 6,nt := 79,m := 0 }
def ef3vj8 : Ty63 → St := fun (t1,x2,t5,t9,t10,t11,e1,e2) => { tmps := [(1,(.vs (.rT [.int .i64,.int .i64,.int .i64,.str,.sl .i64] t1) x2 5)),(5,(.bool t5)),(6,(.ptr 0 0 5 0 0 0 5)),(7,(.ptr 1 0 3 0 0 0 3)),(9,(.int .i64 t9)),(10,(.str t10)),(11,(.int .i64 t11))],heap := [(0,(.cells 5 (.segs (.cons 1 (.one (.own 2 e1.n 64)) (.cons 1 (.one (.mp 3)) (.cons 1 (.one (.mp 4)) (.cons 1 (.one (.bool e1.off)) (.cons 1 (.one (.int .i64 e1.left)) .nil)))))) true)),(1,(.cells 3 (.segs (.cons 1 (.one (.own 5 e2.s.length 4)) (.cons 1 (.one (.bool e2.off)) (.cons 1 (.one (.int .i64 e2.left)) .nil)))) true)),(2,(.cells e1.blk.length (.rI .u8 e1.blk) true)),(3,(.cells 0 (.rM .i64 0 (.arr .u8 64) e1.pend) true)),(4,(.cells 0 (.rM .i64 0 .bool e1.worn) true)),(5,(.cells (e2.s.length * 4) (.rT [.str,.str,.bool,.bool] e2.s) true))],next := 6,nt := 79,m := 0 }
def ef3vj9 : Ty64 → St := fun (t1,x2,t5,t9,t10,t11,t12,t13,e1,e2) => { tmps := [(1,(.vs (.rT [.int .i64,.int .i64,.int .i64,.str,.sl .i64] t1) x2 5)),(5,(.bool t5)),(6,(.ptr 0 0 5 0 0 0 5)),(7,(.ptr 1 0 3 0 0 0 3)),(9,(.int .i64 t9)),(10,(.str t10)),(11,(.int .i64 t11)),(12,(.str t12)),(13,(.int .i64 t13))],heap := [(0,(.cells 5 (.segs (.cons 1 (.one (.own 2 e1.n 64)) (.cons 1 (.one (.mp 3)) (.cons 1 (.one (.mp 4)) (.cons 1 (.one (.bool e1.off)) (.cons 1 (.one (.int .i64 e1.left)) .nil)))))) true)),(1,(.cells 3 (.segs (.cons 1 (.one (.own 5 e2.s.length 4)) (.cons 1 (.one (.bool e2.off)) (.cons 1 (.one (.int .i64 e2.left)) .nil)))) true)),(2,(.cells e1.blk.length (.rI .u8 e1.blk) true)),(3,(.cells 0 (.rM .i64 0 (.arr .u8 64) e1.pend) true)),(4,(.cells 0 (.rM .i64 0 .bool e1.worn) true)),(5,(.cells (e2.s.length * 4) (.rT [.str,.str,.bool,.bool] e2.s) true))],next := 6,nt := 79,m := 0 }
def ef3vj10 : Ty65 → St := fun (t1,x2,t5,t9,t77,e1,e2) => { tmps := [(1,(.vs (.rT [.int .i64,.int .i64,.int .i64,.str,.sl .i64] t1) x2 5)),(5,(.bool t5)),(6,(.ptr 0 0 5 0 0 0 5)),(7,(.ptr 1 0 3 0 0 0 3)),(9,(.int .i64 t9)),(77,(.bool t77))],heap := [(0,(.cells 5 (.segs (.cons 1 (.one (.own 2 e1.n 64)) (.cons 1 (.one (.mp 3)) (.cons 1 (.one (.mp 4)) (.cons 1 (.one (.bool e1.off)) (.cons 1 (.one (.int .i64 e1.left)) .nil)))))) true)),(1,(.cells 3 (.segs (.cons 1 (.one (.own 5 e2.s.length 4)) (.cons 1 (.one (.bool e2.off)) (.cons 1 (.one (.int .i64 e2.left)) .nil)))) true)),(2,(.cells e1.blk.length (.rI .u8 e1.blk) true)),(3,(.cells 0 (.rM .i64 0 (.arr .u8 64) e1.pend) true)),(4,(.cells 0 (.rM .i64 0 .bool e1.worn) true)),(5,(.cells (e2.s.length * 4) (.rT [.str,.str,.bool,.bool] e2.s) true))],next := 6,nt := 79,m := 0 }
def ef3vj11 : Ty62 → St := fun (t1,x2,t5,t9,e1,e2) => { tmps := [(1,(.vs (.rT [.int .i64,.int .i64,.int .i64,.str,.sl .i64] t1) x2 5)),(5,(.bool t5)),(6,(.ptr 0 0 5 0 0 0 5)),(7,(.ptr 1 0 3 0 0 0 3)),(9,(.int .i64 t9))],heap := [(0,(.cells 5 (.segs (.cons 1 (.one (.own 2 e1.n 64)) (.cons 1 (.one (.mp 3)) (.cons 1 (.one (.mp 4)) (.cons 1 (.one (.bool e1.off)) (.cons 1 (.one (.int .i64 e1.left)) .nil)))))) true)),(1,(.cells 3 (.segs (.cons 1 (.one (.own 5 e2.s.length 4)) (.cons 1 (.one (.bool e2.off)) (.cons 1 (.one (.int .i64 e2.left)) .nil)))) true)),(2,(.cells e1.blk.length (.rI .u8 e1.blk) true)),(3,(.cells 0 (.rM .i64 0 (.arr .u8 64) e1.pend) true)),(4,(.cells 0 (.rM .i64 0 .bool e1.worn) true)),(5,(.cells (e2.s.length * 4) (.rT [.str,.str,.bool,.bool] e2.s) true))],next := 6,nt := 79,m := 0 }
def ef3vj12 : Bool → St := fun t5 => { tmps := [(5,(.bool t5))],heap := [],next := 0,nt := 79,m := 0 }
def f3v_1 (F : Nat) (kf3vj1 : Ty54 → Rz) : Ty54 → Rz := fun (a0,a1,a1n) => (kf3vj1 (a0,a1,a1n))
theorem f3v_1_eq (F : Nat) (Rf3vj1 : St → Rz) : ∀ v,aexec VG353v (Af3v F) (bp Try.f3 2) (ef3v_a v) (kSeq (kc VG353v Rf3vj1 [(0,.plain),(1,.plain)]) (kFin VG353v none (Try.f3).results.toList)) = f3v_1 F (Rf3vj1 ∘ ef3vj1) v := by
  rintro ⟨a0,a1,a1n⟩; kernel_rfl
def f3v_2 (F : Nat) (kf3vj2 : Ty58 → Rz) : Ty54 → Rz := fun (t0,t1,x3) => (kf3vj2 (t0,t1,x3,true))
theorem f3v_2_eq (F : Nat) (Rf3vj2 : St → Rz) : ∀ v,aexec VG353v (Af3v F) (bp Try.f3 6) (ef3vj1 v) (kSeq (kc VG353v Rf3vj2 sp7) (kFin VG353v none (Try.f3).results.toList)) = f3v_2 F (Rf3vj2 ∘ ef3vj2) v := by
  rintro ⟨t0,t1,x3⟩; kernel_rfl
def f3v_3 (F : Nat) (kf3vj3 : Ty59 → Rz) : Ty58 → Rz := fun (t0,t1,x3,t5) => (cond ((decide (0 < t0)) && (decide (t0 < 65))) (kf3vj3 (t0,t1,x3,t5,true,(Dk.new t0),(Dk.rnew t0))) none)
theorem f3v_3_eq (F : Nat) (Rf3vj3 : St → Rz) : ∀ v,aexec VG353v (Af3v F) (bp Try.f3 14) (ef3vj2 v) (kSeq (kc VG353v Rf3vj3 sp27) (kFin VG353v none (Try.f3).results.toList)) = f3v_3 F (Rf3vj3 ∘ ef3vj3) v := by
  rintro ⟨t0,t1,x3,t5⟩; kernel_rfl
def f3v_4 (F : Nat) (kf3vj4 : Ty60 → Rz) (kf3vj5 : Ty61 → Rz) : Ty59 → Rz := fun (t0,t1,x3,t5,t8,e1,e2) => (cond (!t8) (kf3vj4 (t0,t1,x3,t5,t8,true,e1,e2)) (kf3vj4 (t0,t1,x3,t5,t8,(decide ((↑x3 : Int) > (60 : Int))),e1,e2)))
theorem f3v_4_eq (F : Nat) (Rf3vj4 : St → Rz) (Rf3vj5 : St → Rz) : ∀ v,aexec VG353v (Af3v F) (bp Try.f3 60) (ef3vj3 v) (kSeq (kc VG353v Rf3vj4 sp37) (kSeq (kc VG353v Rf3vj5 sp38) (kFin VG353v none (Try.f3).results.toList))) = f3v_4 F (Rf3vj4 ∘ ef3vj4) (Rf3vj5 ∘ ef3vj5) v := by
  rintro ⟨t0,t1,x3,t5,t8,e1,e2⟩; kernel_rfl
def f3v_5 (F : Nat) (kf3vj5 : Ty61 → Rz) : Ty60 → Rz := fun (t0,t1,x3,t5,t8,t27,e1,e2) => (cond t27 (cond t5 (cond t8 (some ((.bool true),[])) (cond (decide (t0 < (1 : Int))) (some ((.bool true),[])) (some ((.bool (decide (t0 > (64 : Int)))),[])))) (some ((.bool false),[]))) (kf3vj5 (t1,x3,t5,e1,e2)))
theorem f3v_5_eq (F : Nat) (Rf3vj5 : St → Rz) : ∀ v,aexec VG353v (Af3v F) (bp Try.f3 61) (ef3vj4 v) (kSeq (kc VG353v Rf3vj5 sp38) (kFin VG353v none (Try.f3).results.toList)) = f3v_5 F (Rf3vj5 ∘ ef3vj5) v := by
  rintro ⟨t0,t1,x3,t5,t8,t27,e1,e2⟩; kernel_rfl
def f3v_6 (F : Nat) (kf3vj5 : Ty61 → Rz) : Ty59 → Rz := fun v => f3v_4 F (f3v_5 F kf3vj5) kf3vj5 v
theorem f3v_6_eq (F : Nat) (Rf3vj5 : St → Rz) : ∀ v,aexec VG353v (Af3v F) (bp Try.f3 30) (ef3vj3 v) (kSeq (kc VG353v Rf3vj5 sp38) (kFin VG353v none (Try.f3).results.toList)) = f3v_6 F (Rf3vj5 ∘ ef3vj5) v :=
  seq_cut (by kernel_rfl) (by kernel_rfl) ef3vj3 ef3vj4 _ (fun k => f3v_4 F k (Rf3vj5 ∘ ef3vj5)) (f3v_5 F (Rf3vj5 ∘ ef3vj5))
    (fun Rf3vj4 => f3v_4_eq F Rf3vj4 Rf3vj5) (f3v_5_eq F Rf3vj5)
def f3v_7 (F : Nat) (kf3vj6 : Ty62 → Rz) (kf3vj12 : Bool → Rz) : Ty61 → Rz := fun (t1,x2,t5,e1,e2) => (kf3vj6 (t1,x2,t5,(0 : Int),e1,e2))
theorem f3v_7_eq (F : Nat) (Rf3vj6 : St → Rz) (Rf3vj12 : St → Rz) : ∀ v,aexec VG353v (Af3v F) (bp Try.f3 124) (ef3vj5 v) (kSeq (kc VG353v Rf3vj6 sp36) (kSeq (kc VG353v Rf3vj12 [(5,.plain)]) (kFin VG353v none (Try.f3).results.toList))) = f3v_7 F (Rf3vj6 ∘ ef3vj6) (Rf3vj12 ∘ ef3vj12) v := by
  rintro ⟨t1,x2,t5,e1,e2⟩; kernel_rfl
def f3v_8 (F : Nat) (kf3vj7 : Ty62 → Rz) (kf3vl1 : Ty62 → Rz) (kf3vj12 : Bool → Rz) : Ty62 → Rz := fun (t1,x2,t5,t9,e1,e2) => (cond (decide (t9 < (↑x2 : Int))) (kf3vj7 (t1,x2,t5,t9,e1,e2)) (kf3vj12 t5))
theorem f3v_8_eq (F : Nat) (Rf3vj7 : St → Rz) (Rf3vl1 : St → Rz) (Rf3vj12 : St → Rz) : ∀ v,aexec VG353v (Af3v F) (bp Try.f3 1000) (ef3vl1 v) (kSeq (kc VG353v Rf3vj7 sp36) (kSeq (kc VG353v Rf3vl1 sp36) (kBlock 0 (kSeq (kc VG353v Rf3vj12 [(5,.plain)]) (kFin VG353v none (Try.f3).results.toList))))) = f3v_8 F (Rf3vj7 ∘ ef3vj7) (Rf3vl1 ∘ ef3vl1) (Rf3vj12 ∘ ef3vj12) v := by
  rintro ⟨t1,x2,t5,t9,e1,e2⟩; kernel_rfl
def f3v_9 (F : Nat) (kf3vj8 : Ty63 → Rz) (kf3vj11 : Ty62 → Rz) (kf3vl1 : Ty62 → Rz) (kf3vj12 : Bool → Rz) : Ty62 → Rz := fun (t1,x2,t5,t9,e1,e2) => (cond ((decide (0 ≤ t9)) && (decide (t9 < (↑x2 : Int)))) (cond (Dk.fine e1) (kf3vj8 (t1,x2,t5,t9,(Dk.op e1 (((t1.getD (Int.toNat t9) []).getD 0 []).getD 0 0) (((t1.getD (Int.toNat t9) []).getD 1 []).getD 0 0) (((t1.getD (Int.toNat t9) []).getD 2 []).getD 0 0) ((t1.getD (Int.toNat t9) []).getD 3 []) ((t1.getD (Int.toNat t9) []).getD 4 [])).2.1,(Dk.op e1 (((t1.getD (Int.toNat t9) []).getD 0 []).getD 0 0) (((t1.getD (Int.toNat t9) []).getD 1 []).getD 0 0) (((t1.getD (Int.toNat t9) []).getD 2 []).getD 0 0) ((t1.getD (Int.toNat t9) []).getD 3 []) ((t1.getD (Int.toNat t9) []).getD 4 [])).2.2,(Dk.op e1 (((t1.getD (Int.toNat t9) []).getD 0 []).getD 0 0) (((t1.getD (Int.toNat t9) []).getD 1 []).getD 0 0) (((t1.getD (Int.toNat t9) []).getD 2 []).getD 0 0) ((t1.getD (Int.toNat t9) []).getD 3 []) ((t1.getD (Int.toNat t9) []).getD 4 [])).1,e2)) none) none)
theorem f3v_9_eq (F : Nat) (Rf3vj8 : St → Rz) (Rf3vj11 : St → Rz) (Rf3vl1 : St → Rz) (Rf3vj12 : St → Rz) : ∀ v,aexec VG353v (Af3v F) (bp Try.f3 8008) (ef3vj7 v) (kSeq (kc VG353v Rf3vj8 sp39) (kBlock 1 (kSeq (kc VG353v Rf3vj11 sp36) (kSeq (kc VG353v Rf3vl1 sp36) (kBlock 0 (kSeq (kc VG353v Rf3vj12 [(5,.plain)]) (kFin VG353v none (Try.f3).results.toList))))))) = f3v_9 F (Rf3vj8 ∘ ef3vj8) (Rf3vj11 ∘ ef3vj11) (Rf3vl1 ∘ ef3vl1) (Rf3vj12 ∘ ef3vj12) v := by
  rintro ⟨t1,x2,t5,t9,e1,e2⟩; kernel_rfl
def f3v_10 (F : Nat) (kf3vj9 : Ty64 → Rz) (kf3vj11 : Ty62 → Rz) (kf3vl1 : Ty62 → Rz) (kf3vj12 : Bool → Rz) : Ty63 → Rz := fun (t1,x2,t5,t9,t10,t11,e1,e2) => (cond ((decide (0 ≤ t9)) && (decide (t9 < (↑x2 : Int)))) (cond ((decide (e2.s.length = e2.s.length ∧ e2.s.length < 8000)) && ((Dk.rfine e2))) (kf3vj9 (t1,x2,t5,t9,t10,t11,(Dk.rop e2 (((t1.getD (Int.toNat t9) []).getD 0 []).getD 0 0) (((t1.getD (Int.toNat t9) []).getD 1 []).getD 0 0) (((t1.getD (Int.toNat t9) []).getD 2 []).getD 0 0) ((t1.getD (Int.toNat t9) []).getD 3 []) ((t1.getD (Int.toNat t9) []).getD 4 [])).2.1,(Dk.rop e2 (((t1.getD (Int.toNat t9) []).getD 0 []).getD 0 0) (((t1.getD (Int.toNat t9) []).getD 1 []).getD 0 0) (((t1.getD (Int.toNat t9) []).getD 2 []).getD 0 0) ((t1.getD (Int.toNat t9) []).getD 3 []) ((t1.getD (Int.toNat t9) []).getD 4 [])).2.2,e1,(Dk.rop e2 (((t1.getD (Int.toNat t9) []).getD 0 []).getD 0 0) (((t1.getD (Int.toNat t9) []).getD 1 []).getD 0 0) (((t1.getD (Int.toNat t9) []).getD 2 []).getD 0 0) ((t1.getD (Int.toNat t9) []).getD 3 []) ((t1.getD (Int.toNat t9) []).getD 4 [])).1)) none) none)
theorem f3v_10_eq (F : Nat) (Rf3vj9 : St → Rz) (Rf3vj11 : St → Rz) (Rf3vl1 : St → Rz) (Rf3vj12 : St → Rz) : ∀ v,aexec VG353v (Af3v F) (bp Try.f3 16018) (ef3vj8 v) (kSeq (kc VG353v Rf3vj9 sp40) (kBlock 1 (kSeq (kc VG353v Rf3vj11 sp36) (kSeq (kc VG353v Rf3vl1 sp36) (kBlock 0 (kSeq (kc VG353v Rf3vj12 [(5,.plain)]) (kFin VG353v none (Try.f3).results.toList))))))) = f3v_10 F (Rf3vj9 ∘ ef3vj9) (Rf3vj11 ∘ ef3vj11) (Rf3vl1 ∘ ef3vl1) (Rf3vj12 ∘ ef3vj12) v := by
  rintro ⟨t1,x2,t5,t9,t10,t11,e1,e2⟩; kernel_rfl
def f3v_11 (F : Nat) (kf3vj10 : Ty65 → Rz) (kf3vj11 : Ty62 → Rz) (kf3vl1 : Ty62 → Rz) (kf3vj12 : Bool → Rz) : Ty64 → Rz := fun (t1,x2,t5,t9,t10,t11,t12,t13,e1,e2) => (cond (!((t10 : List Int) == (t12 : List Int))) (kf3vj10 (t1,x2,t5,t9,true,e1,e2)) (cond (t11 != t13) (kf3vj10 (t1,x2,t5,t9,true,e1,e2)) (cond ((Dk.fine e1) && (Dk.rfine e2) && (decide (e2.s.length = e2.s.length))) (kf3vj10 (t1,x2,t5,t9,(!(Dk.same e1 e2)),e1,e2)) none)))
theorem f3v_11_eq (F : Nat) (Rf3vj10 : St → Rz) (Rf3vj11 : St → Rz) (Rf3vl1 : St → Rz) (Rf3vj12 : St → Rz) : ∀ v,aexec VG353v (Af3v F) (bp Try.f3 32038) (ef3vj9 v) (kSeq (kc VG353v Rf3vj10 sp41) (kBlock 1 (kSeq (kc VG353v Rf3vj11 sp36) (kSeq (kc VG353v Rf3vl1 sp36) (kBlock 0 (kSeq (kc VG353v Rf3vj12 [(5,.plain)]) (kFin VG353v none (Try.f3).results.toList))))))) = f3v_11 F (Rf3vj10 ∘ ef3vj10) (Rf3vj11 ∘ ef3vj11) (Rf3vl1 ∘ ef3vl1) (Rf3vj12 ∘ ef3vj12) v := by
  rintro ⟨t1,x2,t5,t9,t10,t11,t12,t13,e1,e2⟩; kernel_rfl
def f3v_12 (F : Nat) (kf3vj11 : Ty62 → Rz) (kf3vl1 : Ty62 → Rz) (kf3vj12 : Bool → Rz) : Ty65 → Rz := fun (t1,x2,t5,t9,t77,e1,e2) => (cond t77 (some ((.bool false),[])) (kf3vj11 (t1,x2,t5,t9,e1,e2)))
theorem f3v_12_eq (F : Nat) (Rf3vj11 : St → Rz) (Rf3vl1 : St → Rz) (Rf3vj12 : St → Rz) : ∀ v,aexec VG353v (Af3v F) (bp Try.f3 32039) (ef3vj10 v) (kBlock 1 (kSeq (kc VG353v Rf3vj11 sp36) (kSeq (kc VG353v Rf3vl1 sp36) (kBlock 0 (kSeq (kc VG353v Rf3vj12 [(5,.plain)]) (kFin VG353v none (Try.f3).results.toList)))))) = f3v_12 F (Rf3vj11 ∘ ef3vj11) (Rf3vl1 ∘ ef3vl1) (Rf3vj12 ∘ ef3vj12) v := by
  rintro ⟨t1,x2,t5,t9,t77,e1,e2⟩; kernel_rfl
def f3v_13 (F : Nat) (kf3vj11 : Ty62 → Rz) (kf3vl1 : Ty62 → Rz) (kf3vj12 : Bool → Rz) : Ty64 → Rz := fun v => f3v_11 F (f3v_12 F kf3vj11 kf3vl1 kf3vj12) kf3vj11 kf3vl1 kf3vj12 v
theorem f3v_13_eq (F : Nat) (Rf3vj11 : St → Rz) (Rf3vl1 : St → Rz) (Rf3vj12 : St → Rz) : ∀ v,aexec VG353v (Af3v F) (bp Try.f3 16019) (ef3vj9 v) (kBlock 1 (kSeq (kc VG353v Rf3vj11 sp36) (kSeq (kc VG353v Rf3vl1 sp36) (kBlock 0 (kSeq (kc VG353v Rf3vj12 [(5,.plain)]) (kFin VG353v none (Try.f3).results.toList)))))) = f3v_13 F (Rf3vj11 ∘ ef3vj11) (Rf3vl1 ∘ ef3vl1) (Rf3vj12 ∘ ef3vj12) v :=
  seq_cut (by kernel_rfl) (by kernel_rfl) ef3vj9 ef3vj10 _ (fun k => f3v_11 F k (Rf3vj11 ∘ ef3vj11) (Rf3vl1 ∘ ef3vl1) (Rf3vj12 ∘ ef3vj12)) (f3v_12 F (Rf3vj11 ∘ ef3vj11) (Rf3vl1 ∘ ef3vl1) (Rf3vj12 ∘ ef3vj12))
    (fun Rf3vj10 => f3v_11_eq F Rf3vj10 Rf3vj11 Rf3vl1 Rf3vj12) (f3v_12_eq F Rf3vj11 Rf3vl1 Rf3vj12)
def f3v_14 (F : Nat) (kf3vj11 : Ty62 → Rz) (kf3vl1 : Ty62 → Rz) (kf3vj12 : Bool → Rz) : Ty63 → Rz := fun v => f3v_10 F (f3v_13 F kf3vj11 kf3vl1 kf3vj12) kf3vj11 kf3vl1 kf3vj12 v
theorem f3v_14_eq (F : Nat) (Rf3vj11 : St → Rz) (Rf3vl1 : St → Rz) (Rf3vj12 : St → Rz) : ∀ v,aexec VG353v (Af3v F) (bp Try.f3 8009) (ef3vj8 v) (kBlock 1 (kSeq (kc VG353v Rf3vj11 sp36) (kSeq (kc VG353v Rf3vl1 sp36) (kBlock 0 (kSeq (kc VG353v Rf3vj12 [(5,.plain)]) (kFin VG353v none (Try.f3).results.toList)))))) = f3v_14 F (Rf3vj11 ∘ ef3vj11) (Rf3vl1 ∘ ef3vl1) (Rf3vj12 ∘ ef3vj12) v :=
  seq_cut (by kernel_rfl) (by kernel_rfl) ef3vj8 ef3vj9 _ (fun k => f3v_10 F k (Rf3vj11 ∘ ef3vj11) (Rf3vl1 ∘ ef3vl1) (Rf3vj12 ∘ ef3vj12)) (f3v_13 F (Rf3vj11 ∘ ef3vj11) (Rf3vl1 ∘ ef3vl1) (Rf3vj12 ∘ ef3vj12))
    (fun Rf3vj9 => f3v_10_eq F Rf3vj9 Rf3vj11 Rf3vl1 Rf3vj12) (f3v_13_eq F Rf3vj11 Rf3vl1 Rf3vj12)
def f3v_15 (F : Nat) (kf3vj11 : Ty62 → Rz) (kf3vl1 : Ty62 → Rz) (kf3vj12 : Bool → Rz) : Ty62 → Rz := fun v => f3v_9 F (f3v_14 F kf3vj11 kf3vl1 kf3vj12) kf3vj11 kf3vl1 kf3vj12 v
theorem f3v_15_eq (F : Nat) (Rf3vj11 : St → Rz) (Rf3vl1 : St → Rz) (Rf3vj12 : St → Rz) : ∀ v,aexec VG353v (Af3v F) (bp Try.f3 4004) (ef3vj7 v) (kBlock 1 (kSeq (kc VG353v Rf3vj11 sp36) (kSeq (kc VG353v Rf3vl1 sp36) (kBlock 0 (kSeq (kc VG353v Rf3vj12 [(5,.plain)]) (kFin VG353v none (Try.f3).results.toList)))))) = f3v_15 F (Rf3vj11 ∘ ef3vj11) (Rf3vl1 ∘ ef3vl1) (Rf3vj12 ∘ ef3vj12) v :=
  seq_cut (by kernel_rfl) (by kernel_rfl) ef3vj7 ef3vj8 _ (fun k => f3v_9 F k (Rf3vj11 ∘ ef3vj11) (Rf3vl1 ∘ ef3vl1) (Rf3vj12 ∘ ef3vj12)) (f3v_14 F (Rf3vj11 ∘ ef3vj11) (Rf3vl1 ∘ ef3vl1) (Rf3vj12 ∘ ef3vj12))
    (fun Rf3vj8 => f3v_9_eq F Rf3vj8 Rf3vj11 Rf3vl1 Rf3vj12) (f3v_14_eq F Rf3vj11 Rf3vl1 Rf3vj12)
def f3v_16 (F : Nat) (kf3vj11 : Ty62 → Rz) (kf3vl1 : Ty62 → Rz) (kf3vj12 : Bool → Rz) : Ty62 → Rz := f3v_15 F kf3vj11 kf3vl1 kf3vj12
theorem f3v_16_eq (F : Nat) (Rf3vj11 : St → Rz) (Rf3vl1 : St → Rz) (Rf3vj12 : St → Rz) : ∀ v,aexec VG353v (Af3v F) (bp Try.f3 2002) (ef3vj7 v) (kSeq (kc VG353v Rf3vj11 sp36) (kSeq (kc VG353v Rf3vl1 sp36) (kBlock 0 (kSeq (kc VG353v Rf3vj12 [(5,.plain)]) (kFin VG353v none (Try.f3).results.toList))))) = f3v_16 F (Rf3vj11 ∘ ef3vj11) (Rf3vl1 ∘ ef3vl1) (Rf3vj12 ∘ ef3vj12) v := fun v =>
  (block_in  (by kernel_rfl) _ _).trans (f3v_15_eq F Rf3vj11 Rf3vl1 Rf3vj12 v)
def f3v_17 (F : Nat) (kf3vl1 : Ty62 → Rz) (kf3vj12 : Bool → Rz) : Ty62 → Rz := fun (t1,x2,t5,t9,e1,e2) => (kf3vl1 (t1,x2,t5,(IntKind.i64.wrap (t9 + (1 : Int))),e1,e2))
theorem f3v_17_eq (F : Nat) (Rf3vl1 : St → Rz) (Rf3vj12 : St → Rz) : ∀ v,aexec VG353v (Af3v F) (bp Try.f3 2003) (ef3vj11 v) (kSeq (kc VG353v Rf3vl1 sp36) (kBlock 0 (kSeq (kc VG353v Rf3vj12 [(5,.plain)]) (kFin VG353v none (Try.f3).results.toList)))) = f3v_17 F (Rf3vl1 ∘ ef3vl1) (Rf3vj12 ∘ ef3vj12) v := by
  rintro ⟨t1,x2,t5,t9,e1,e2⟩; kernel_rfl
def f3v_18 (F : Nat) (kf3vl1 : Ty62 → Rz) (kf3vj12 : Bool → Rz) : Ty62 → Rz := fun v => f3v_16 F (f3v_17 F kf3vl1 kf3vj12) kf3vl1 kf3vj12 v
theorem f3v_18_eq (F : Nat) (Rf3vl1 : St → Rz) (Rf3vj12 : St → Rz) : ∀ v,aexec VG353v (Af3v F) (bp Try.f3 1001) (ef3vj7 v) (kSeq (kc VG353v Rf3vl1 sp36) (kBlock 0 (kSeq (kc VG353v Rf3vj12 [(5,.plain)]) (kFin VG353v none (Try.f3).results.toList)))) = f3v_18 F (Rf3vl1 ∘ ef3vl1) (Rf3vj12 ∘ ef3vj12) v :=
  seq_cut (by kernel_rfl) (by kernel_rfl) ef3vj7 ef3vj11 _ (fun k => f3v_16 F k (Rf3vl1 ∘ ef3vl1) (Rf3vj12 ∘ ef3vj12)) (f3v_17 F (Rf3vl1 ∘ ef3vl1) (Rf3vj12 ∘ ef3vj12))
    (fun Rf3vj11 => f3v_16_eq F Rf3vj11 Rf3vl1 Rf3vj12) (f3v_17_eq F Rf3vl1 Rf3vj12)
def f3v_19 (F : Nat) (kf3vl1 : Ty62 → Rz) (kf3vj12 : Bool → Rz) : Ty62 → Rz := fun v => f3v_8 F (f3v_18 F kf3vl1 kf3vj12) kf3vl1 kf3vj12 v
theorem f3v_19_eq (F : Nat) (Rf3vl1 : St → Rz) (Rf3vj12 : St → Rz) : ∀ v,aexec VG353v (Af3v F) (bp Try.f3 500) (ef3vl1 v) (kSeq (kc VG353v Rf3vl1 sp36) (kBlock 0 (kSeq (kc VG353v Rf3vj12 [(5,.plain)]) (kFin VG353v none (Try.f3).results.toList)))) = f3v_19 F (Rf3vl1 ∘ ef3vl1) (Rf3vj12 ∘ ef3vj12) v :=
  seq_cut (by kernel_rfl) (by kernel_rfl) ef3vl1 ef3vj7 _ (fun k => f3v_8 F k (Rf3vl1 ∘ ef3vl1) (Rf3vj12 ∘ ef3vj12)) (f3v_18 F (Rf3vl1 ∘ ef3vl1) (Rf3vj12 ∘ ef3vj12))
    (fun Rf3vj7 => f3v_8_eq F Rf3vj7 Rf3vl1 Rf3vj12) (f3v_18_eq F Rf3vl1 Rf3vj12)
def f3v_20_i : Ty62 → (List (List (List Int))) × Nat × Bool × Int × (Dk.D) × (Dk.R) := fun (t1,x2,t5,t9,e1,e2) => (t1,x2,t5,t9,e1,e2)
def f3v_20 (F : Nat) (kf3vj12 : Bool → Rz) : Ty62 → Rz := fun v => loopN (fun k => f3v_19 F k kf3vj12) F (f3v_20_i v)
theorem f3v_20_eq (F : Nat) (Rf3vj12 : St → Rz) : ∀ v,aexec VG353v (Af3v F) (bp Try.f3 250) (ef3vj6 v) (kBlock 0 (kSeq (kc VG353v Rf3vj12 [(5,.plain)]) (kFin VG353v none (Try.f3).results.toList))) = f3v_20 F (Rf3vj12 ∘ ef3vj12) v :=
  loop_cut (by kernel_rfl) (by kernel_rfl) ef3vj6 ef3vl1 _ f3v_20_i (fun k => f3v_19 F k (Rf3vj12 ∘ ef3vj12))
    (by rintro ⟨t1,x2,t5,t9,e1,e2⟩; kernel_rfl) (fun Rf3vl1 => f3v_19_eq F Rf3vl1 Rf3vj12)
def f3v_21 (F : Nat) (kf3vj12 : Bool → Rz) : Ty62 → Rz := f3v_20 F kf3vj12
theorem f3v_21_eq (F : Nat) (Rf3vj12 : St → Rz) : ∀ v,aexec VG353v (Af3v F) (bp Try.f3 125) (ef3vj6 v) (kSeq (kc VG353v Rf3vj12 [(5,.plain)]) (kFin VG353v none (Try.f3).results.toList)) = f3v_21 F (Rf3vj12 ∘ ef3vj12) v := fun v =>
  (block_in  (by kernel_rfl) _ _).trans (f3v_20_eq F Rf3vj12 v)
def f3v_22 (F : Nat) (kf3vj12 : Bool → Rz) : Ty61 → Rz := fun v => f3v_7 F (f3v_21 F kf3vj12) kf3vj12 v
theorem f3v_22_eq (F : Nat) (Rf3vj12 : St → Rz) : ∀ v,aexec VG353v (Af3v F) (bp Try.f3 62) (ef3vj5 v) (kSeq (kc VG353v Rf3vj12 [(5,.plain)]) (kFin VG353v none (Try.f3).results.toList)) = f3v_22 F (Rf3vj12 ∘ ef3vj12) v :=
  seq_cut (by kernel_rfl) (by kernel_rfl) ef3vj5 ef3vj6 _ (fun k => f3v_7 F k (Rf3vj12 ∘ ef3vj12)) (f3v_21 F (Rf3vj12 ∘ ef3vj12))
    (fun Rf3vj6 => f3v_7_eq F Rf3vj6 Rf3vj12) (f3v_21_eq F Rf3vj12)
def f3v_23 (F : Nat) : Bool → Rz := fun t5 => (some ((.bool t5),[]))
theorem f3v_23_eq (F : Nat) : ∀ v,aexec VG353v (Af3v F) (bp Try.f3 63) (ef3vj12 v) (kFin VG353v none (Try.f3).results.toList) = f3v_23 F v := by
  intro t5; kernel_rfl
def f3v_24 (F : Nat) : Ty61 → Rz := fun v => f3v_22 F (f3v_23 F) v
theorem f3v_24_eq (F : Nat) : ∀ v,aexec VG353v (Af3v F) (bp Try.f3 31) (ef3vj5 v) (kFin VG353v none (Try.f3).results.toList) = f3v_24 F v :=
  seq_cut (by kernel_rfl) (by kernel_rfl) ef3vj5 ef3vj12 _ (fun k => f3v_22 F k) (f3v_23 F)
    (fun Rf3vj12 => f3v_22_eq F Rf3vj12) (f3v_23_eq F)
def f3v_25 (F : Nat) : Ty59 → Rz := fun v => f3v_6 F (f3v_24 F) v
theorem f3v_25_eq (F : Nat) : ∀ v,aexec VG353v (Af3v F) (bp Try.f3 15) (ef3vj3 v) (kFin VG353v none (Try.f3).results.toList) = f3v_25 F v :=
  seq_cut (by kernel_rfl) (by kernel_rfl) ef3vj3 ef3vj5 _ (fun k => f3v_6 F k) (f3v_24 F)
    (fun Rf3vj5 => f3v_6_eq F Rf3vj5) (f3v_24_eq F)
def f3v_26 (F : Nat) : Ty58 → Rz := fun v => f3v_3 F (f3v_25 F) v
theorem f3v_26_eq (F : Nat) : ∀ v,aexec VG353v (Af3v F) (bp Try.f3 7) (ef3vj2 v) (kFin VG353v none (Try.f3).results.toList) = f3v_26 F v :=
  seq_cut (by kernel_rfl) (by kernel_rfl) ef3vj2 ef3vj3 _ (fun k => f3v_3 F k) (f3v_25 F)
    (fun Rf3vj3 => f3v_3_eq F Rf3vj3) (f3v_25_eq F)
def f3v_27 (F : Nat) : Ty54 → Rz := fun v => f3v_2 F (f3v_26 F) v
theorem f3v_27_eq (F : Nat) : ∀ v,aexec VG353v (Af3v F) (bp Try.f3 3) (ef3vj1 v) (kFin VG353v none (Try.f3).results.toList) = f3v_27 F v :=
  seq_cut (by kernel_rfl) (by kernel_rfl) ef3vj1 ef3vj2 _ (fun k => f3v_2 F k) (f3v_26 F)
    (fun Rf3vj2 => f3v_2_eq F Rf3vj2) (f3v_26_eq F)
def f3v_28 (F : Nat) : Ty54 → Rz := fun v => f3v_1 F (f3v_27 F) v
theorem f3v_28_eq (F : Nat) : ∀ v,aexec VG353v (Af3v F) (sub (bodyOf Try.f3) []) (ef3v_a v) (kFin VG353v none (Try.f3).results.toList) = f3v_28 F v :=
  seq_cut (by kernel_rfl) (by kernel_rfl) ef3v_a ef3vj1 _ (fun k => f3v_1 F k) (f3v_27 F)
    (fun Rf3vj1 => f3v_1_eq F Rf3vj1) (f3v_27_eq F)
def f3v (F : Nat) : Ty54 → Rz := f3v_28 F
theorem f3v_body (F : Nat) (a0 : Int) (a1 : List (List (List Int))) (a1n : Nat) : abody VG353v (Af3v F) Try.f3 [(.int .i64 a0),(.vs (.rT [.int .i64,.int .i64,.int .i64,.str,.sl .i64] a1) a1n 5)] [] = f3v F (a0,a1,a1n) :=
  (abody_in (c := (sub (bodyOf Try.f3) [])) (by kernel_rfl) (s := ef3v_a (a0,a1,a1n)) (by kernel_rfl)).trans (f3v_28_eq F (a0,a1,a1n))
def r3v : CRun := fun X H => match X,H with
  | [(.int .i64 a0),(.vs (.rT [.int .i64,.int .i64,.int .i64,.str,.sl .i64] a1) a1n 5)],[] => some ((decide (0 < a0)) && (decide (a0 < 65)),(.bool true),[])
  | _,_ => none
theorem s3v (a0 : Int) (a1 : List (List (List Int))) (a1n : Nat) (hp : ((decide (0 < a0)) && (decide (a0 < 65))) = true) (h0 : okV (.int .i64 a0)) (h1 : okV (.vs (.rT [.int .i64,.int .i64,.int .i64,.str,.sl .i64] a1) a1n 5)) : ∃ F,f3v F (a0,a1,a1n) = some ((.bool true),[]) := by
  have e := hp
  rw [dec_and,decide_eq_true_iff] at hp
  obtain ⟨hlen,hint⟩ := Dk.op_int h1
  refine ⟨a1n + 1,?_⟩
  simp only [f3v,f3v_1,f3v_2,f3v_3,f3v_4,f3v_5,f3v_6,f3v_7,f3v_20_i,f3v_20,f3v_21,f3v_22,f3v_23,f3v_24,f3v_25,f3v_26,f3v_27,f3v_28,e,cond_true,Bool.not_true,cond_false]
  by_cases hn : (a1n : Int) > 60
  · have e1 : decide ((a1n : Int) > 60) = true := by rw [decide_eq_true_iff]; exact hn
    rw [e1,cond_true]
  · have e1 : decide ((a1n : Int) > 60) = false := by rw [decide_eq_false_iff_not]; exact hn
    rw [e1,cond_false]
    have hrel := Dk.new_rel hp.1 (show a0 < 8000 by omega)
    have h0 : 0 < (Dk.new a0).n := by show 0 < a0.toNat; omega
    refine loopN_from (fun k => (a1,a1n,true,(k : Int),Dk.dAt a1 k (Dk.new a0),Dk.rAt a1 k (Dk.rnew a0))) a1n (by rfl) (fun k hk K => ?_) (fun K => ?_) (a1n + 1) (by omega)
    · obtain ⟨q1,q2⟩ := hrel.run h0 hint k (by omega)
      obtain ⟨q3,q4⟩ := hrel.run h0 hint (k + 1) (by omega)
      obtain ⟨i1,i2⟩ := hint k hk
      have hop := (q1.op q2 (((a1.getD k []).getD 0 []).getD 0 0) (((a1.getD k []).getD 1 []).getD 0 0) (((a1.getD k []).getD 2 []).getD 0 0) ((a1.getD k []).getD 3 []) ((a1.getD k []).getD 4 []) i1 i2).1
      have hf := q1.fine
      have hr := q1.rfine
      have hf2 := q3.fine
      have hr2 := q3.rfine
      have hs2 := q3.same
      have hl1 := q1.good.1
      simp only [Dk.dAt,Dk.rAt,Dk.opx,Dk.ropx] at hf2 hr2 hs2
      have e2 : (decide (0 ≤ (k : Int)) && decide ((k : Int) < (a1n : Int))) = true := by rw [dec_and,decide_eq_true_iff]; omega
      have e3 : decide (True ∧ (Dk.rAt a1 k (Dk.rnew a0)).s.length < 8000) = true := by rw [decide_eq_true_iff]; exact ⟨trivial,hl1⟩
      simp only [f3v_8,f3v_9,f3v_10,f3v_11,f3v_12,f3v_13,f3v_14,f3v_15,f3v_16,f3v_17,f3v_18,f3v_19,Int.toNat_natCast,e2,cond_true]
      rw [cond_pos (show (k : Int) < (a1n : Int) by omega),hf,hop,hf2]
      simp only [cond_true,e3,hr,Bool.and_self,Bool.true_and,hr2,hs2,beq_self_eq_true,bne_self_eq_false,Bool.not_true,cond_false,i64w (show -9223372036854775808 ≤ (k : Int) + 1 by omega) (show (k : Int) + 1 ≤ 9223372036854775807 by omega),decide_true]
      rfl
    · simp only [f3v_8,f3v_9,f3v_10,f3v_11,f3v_12,f3v_13,f3v_14,f3v_15,f3v_16,f3v_17,f3v_18,f3v_19]
      rw [cond_neg (by omega)]
      rfl

theorem c3v : CallOk Try.prog G35 3 r3v := callOk_of (V := VG353v) mixed tys eVG353v (f := 3) (fn := Try.f3) Try.func3 (by kernel_rfl) (c := sub (bodyOf Try.f3) []) (by kernel_rfl) (by
  intro X H r H' h hX hH
  unfold r3v at h; split at h <;> try contradiction
  · simp only [Option.some.injEq,Prod.mk.injEq] at h
    obtain ⟨hp,rfl,rfl⟩ := h
    obtain ⟨F,hF⟩ := s3v _ _ _ hp (hX _ (.head _)) (hX _ (.tail _ (.head _)))
    exact ⟨Af3v F,(f3v_body F _ _ _).trans hF⟩)
def r3 : CRun := fun X H => match X,H with
  | [(.int .i64 a0),(.vs (.rT [.int .i64,.int .i64,.int .i64,.str,.sl .i64] a1) a1n 5)],[] => some (true,.bool true,[])
  | _,_ => none
theorem c3 : CallOk Try.prog G35 3 r3 := c3v.or c3i fun A H r H' h => by
  unfold r3 at h; split at h <;> try contradiction
  rename_i a0 a1 a1n
  simp only [Option.some.injEq,Prod.mk.injEq,true_and] at h
  obtain ⟨rfl,rfl⟩ := h
  cases hb : (decide (0 < a0) && decide (a0 < 65)) with
  | true => exact .inl (by simp only [r3v,hb])
  | false => exact .inr (by simp only [r3i,hb,Bool.not_false])
end Go.Am
