/- Part of a proof about the functions of the given program. -/
import Derived.Test.YtnbgphghghmemaaAm35G
import Derived.Test.YtnbgphghghmemaaAmDisk5
set_option linter.unusedVariables false
set_option linter.unusedSimpArgs false
namespace Go.Am
open Go Go.Proofs
abbrev sp36 : List (Nat × Md) := [(0,.plain),(1,.plain),(2,.plain),(7,.plain),(8,.plain),(9,.plain),(11,.plain)]
abbrev sp37 : List (Nat × Md) := [(0,.plain),(2,.plain),(7,.plain),(9,.plain),(12,.plain),(13,.plain),(14,.plain),(15,.plain)]
abbrev sp38 : List (Nat × Md) := [(0,.plain),(1,.plain),(2,.plain),(7,.plain),(8,.plain),(9,.plain),(10,.plain),(32,.plain)]
abbrev sp39 : List (Nat × Md) := [(0,.plain),(1,.plain),(2,.plain),(7,.plain),(8,.plain),(9,.plain)]
abbrev sp40 : List (Nat × Md) := [(0,.plain),(2,.plain),(7,.plain),(8,.plain),(9,.plain)]
abbrev sp41 : List (Nat × Md) := [(0,.plain),(2,.plain),(7,.plain),(8,.plain),(9,.plain),(12,.plain)]
abbrev sp42 : List (Nat × Md) := [(0,.plain),(2,.plain),(7,.plain),(8,.plain),(9,.plain),(12,.plain),(13,.plain)]
abbrev sp43 : List (Nat × Md) := [(0,.plain),(2,.plain),(7,.plain),(9,.plain),(12,.plain),(13,.plain),(90,.plain)]
abbrev sp44 : List (Nat × Md) := [(0,.plain),(2,.plain),(7,.plain),(9,.plain),(12,.plain),(13,.plain)]
abbrev sp45 : List (Nat × Md) := [(0,.plain),(2,.plain),(7,.plain),(9,.plain),(12,.plain),(13,.plain),(14,.plain)]
abbrev sp46 : List (Nat × Md) := [(0,.plain),(2,.plain),(7,.plain),(9,.plain),(12,.plain),(13,.plain),(14,.plain),(15,.plain),(16,.plain)]
abbrev sp47 : List (Nat × Md) := [(0,.plain),(2,.plain),(7,.plain),(9,.plain),(12,.plain),(13,.plain),(14,.plain),(15,.plain),(16,.plain),(17,.plain)]
abbrev sp48 : List (Nat × Md) := [(0,.plain),(2,.plain),(7,.plain),(9,.plain),(12,.plain),(13,.plain),(14,.plain),(15,.plain),(16,.plain),(17,.plain),(104,.plain)]
abbrev sp49 : List (Nat × Md) := [(0,.plain),(2,.plain),(7,.plain),(9,.plain),(12,.plain),(13,.plain),(14,.plain),(15,.plain),(16,.plain),(17,.plain),(108,.plain)]
abbrev sp50 : List (Nat × Md) := [(0,.plain),(2,.plain),(7,.plain),(9,.plain),(12,.plain),(13,.plain),(14,.plain),(15,.plain),(16,.plain),(17,.plain),(18,.plain)]
abbrev sp51 : List (Nat × Md) := [(0,.plain),(2,.plain),(7,.plain),(9,.plain),(12,.plain),(13,.plain),(14,.plain),(15,.plain),(16,.plain),(17,.plain),(18,.plain),(127,.plain)]
abbrev sp52 : List (Nat × Md) := [(0,.plain),(2,.plain),(7,.plain),(9,.plain),(12,.plain),(13,.plain),(14,.plain),(15,.plain),(18,.plain)]
abbrev sp53 : List (Nat × Md) := [(0,.plain),(2,.plain),(7,.plain),(9,.plain),(12,.plain),(13,.plain),(14,.plain),(15,.plain),(144,.plain)]
abbrev Ty58 := Int × (List (List (List Int))) × Nat × (List Int) × Bool
abbrev Ty59 := Int × (List (List (List Int))) × Nat × (List Int) × Bool × Bool × (Dk.D) × (Dk.R)
abbrev Ty60 := Int × (List (List (List Int))) × Nat × (List Int) × Bool × Bool × Bool × (Dk.D) × (Dk.R)
abbrev Ty61 := Int × (List (List (List Int))) × Nat × (List Int) × Bool × (Dk.D) × (Dk.R)
abbrev Ty62 := Int × (List (List (List Int))) × Nat × (List Int) × Bool × Int × (Dk.D) × (Dk.R)
abbrev Ty63 := Int × (List Int) × Bool × (Dk.D) × (Dk.R)
abbrev Ty64 := Int × (List Int) × Bool × (List (List Int)) × (Dk.D) × (Dk.R)
abbrev Ty65 := Int × (List Int) × Bool × (List (List Int)) × (List (List Int)) × (Dk.D) × (Dk.R)
abbrev Ty66 := Int × (List Int) × Bool × (List (List Int)) × (List (List Int)) × Bool × (Dk.R)
abbrev Ty67 := Int × (List Int) × Bool × (List (List Int)) × (List (List Int)) × (Dk.R)
abbrev Ty68 := Int × (List Int) × Bool × (List (List Int)) × (List (List Int)) × Int × (Dk.R)
abbrev Ty69 := Int × (List Int) × Bool × (List (List Int)) × (List (List Int)) × Int × Int × (Dk.R)
abbrev Ty70 := Int × (List Int) × Bool × (List (List Int)) × (List (List Int)) × Int × Int × (List Int) × (List Int) × Bool × Bool × (Dk.R)
abbrev Ty71 := Int × (List Int) × Bool × (List (List Int)) × (List (List Int)) × Int × Int × Int × (List Int) × (List Int) × Bool × Bool × (Dk.R)
abbrev Ty72 := Int × (List Int) × Bool × (List (List Int)) × (List (List Int)) × Int × Int × Int × Bool × (List Int) × (List Int) × Bool × Bool × (Dk.R)
abbrev Ty73 := Int × (List Int) × Bool × (List (List Int)) × (List (List Int)) × Int × Int × Int × (List Int) × (List Int) × (List Int) × Bool × Bool × (Dk.R)
abbrev Ty74 := Int × (List Int) × Bool × (List (List Int)) × (List (List Int)) × Int × Int × Int × (List Int) × Bool × (List Int) × (List Int) × Bool × Bool × (Dk.R)
abbrev Ty75 := Int × (List Int) × Bool × (List (List Int)) × (List (List Int)) × Int × Int × (List Int) × (Dk.R)
abbrev Ty76 := Int × (List Int) × Bool × (List (List Int)) × (List (List Int)) × Int × Int × Bool × (Dk.R)

def lVG356v : List CEnt := [(9,[],r9),(10,[none],r10),(11,[none,none],r11),(12,[none,none],r12),(15,[none],r15),(22,[none],r22),(26,[none,some 3],r26),(27,[none],r27)]
def VG356v : Env := mkEnv T35 G35 lVG356v
theorem eVG356v : EOk Try.prog VG356v := eok_mk (by exact ⟨c9,c10,c11,c12,c15,c22,c26,c27,trivial⟩)
def Af6v (F : Nat) : Cuts := { F := F,at_ := fun n => match n with | 6012 => some sp36 | 17042 => some sp37 | _ => none,join := fun n => match n with | 1095 => some sp28 | 2093 => some sp29 | 3091 => some sp31 | 4005 => some sp38 | 5083 => some sp39 | 6014 => some sp36 | 7001 => some sp36 | 8006 => some sp36 | 9001 => some sp36 | 10066 => some sp40 | 11064 => some sp41 | 12062 => some sp41 | 13060 => some sp42 | 14005 => some sp43 | 15052 => some sp44 | 16050 => some sp45 | 17044 => some sp37 | 18001 => some sp37 | 19036 => some sp37 | 20031 => some sp46 | 21029 => some sp47 | 22011 => some sp48 | 23007 => some sp47 | 24003 => some sp49 | 25001 => some sp47 | 26015 => some sp47 | 27013 => some sp50 | 28003 => some sp51 | 29007 => some sp52 | 30005 => some sp53 | 31003 => some [(7,.plain)] | _ => none }
def ef6v_a : Ty55 → St := fun (a0,a1,a1n,a2) => { tmps := [(0,(.int .i64 a0)),(1,(.vs (.rT [.int .i64,.int .i64,.int .i64,.str,.sl .i64] a1) a1n 5)),(2,(.vs (.rI .i64 a2) 0 1))],heap := [],next := 0,nt := 146,m := 0 }
def ef6vj1 : Ty55 → St := fun (t0,t1,x3,t2) => { tmps := [(0,(.int .i64 t0)),(1,(.vs (.rT [.int .i64,.int .i64,.int .i64,.str,.sl .i64] t1) x3 5)),(2,(.vs (.rI .i64 t2) 0 1))],heap := [],next := 0,nt := 146,m := 0 }
def ef6vj2 : Ty58 → St := fun (t0,t1,x3,t2,t7) => { tmps := [(0,(.int .i64 t0)),(1,(.vs (.rT [.int .i64,.int .i64,.int .i64,.str,.sl .i64] t1) x3 5)),(2,(.vs (.rI .i64 t2) 0 1)),(7,(.bool t7))],heap := [],next := 0,nt := 146,m := 0 }
def ef6vj3 : Ty59 → St := fun (t0,t1,x3,t2,t7,t10,e1,e2) => { tmps := [(0,(.int .i64 t0)),(1,(.vs (.rT [.int .i64,.int .i64,.int .i64,.str,.sl .i64] t1) x3 5)),(2,(.vs (.rI .i64 t2) 0 1)),(7,(.bool t7)),(8,(.ptr 0 0 5 0 0 0 5)),(9,(.ptr 1 0 3 0 0 0 3)),(10,(.bool t10))],heap := [(0,(.cells 5 (.segs (.cons 1 (.one (.own 2 e1.n 64)) (.cons 1 (.one (.mp 3)) (.cons 1 (.one (.mp 4)) (.cons 1 (.one (.bool e1.off)) (.cons 1 (.one (.int .i64 e1.left)) .nil)))))) true)),(1,(.cells 3 (.segs (.cons 1 (.one (.own 5 e2.s.length 4)) (.cons 1 (.one (.bool e2.off)) (.cons 1 (.one (.int .i64 e2.left)) .nil)))) true)),(2,(.cells e1.blk.length (.rI .u8 e1.blk) true)),(3,(.cells 0 (.rM .i64 0 (.arr .u8 64) e1.pend) true)),(4,(.cells 0 (.rM .i64 0 .bool e1.worn) true)),(5,(.cells (e2.s.length * 4) (.rT [.str,.str,.bool,.bool] e2.s) true))],next := 6,nt := 146,m := 0 }
def ef6vj4 : Ty60 → St := fun (t0,t1,x3,t2,t7,t10,t32,e1,e2) => { tmps := [(0,(.int .i64 t0)),(1,(.vs (.rT [.int .i64,.int .i64,.int .i64,.str,.sl .i64] t1) x3 5)),(2,(.vs (.rI .i64 t2) 0 1)),(7,(.bool t7)),(8,(.ptr 0 0 5 0 0 0 5)),(9,(.ptr 1 0 3 0 0 0 3)),(10,(.bool t10)),(32,(.bool t32))],heap := [(0,(.cells 5 (.segs (.cons 1 (.one (.own 2 e1.n 64)) (.cons 1 (.one (.mp 3)) (.cons 1 (.one (.mp 4)) (.cons 1 (.one (.bool e1.off)) (.cons 1 (.one (.int .i64 e1.left)) .nil)))))) true)),(1,(.cells 3 (.segs (.cons 1 (.one (.own 5 e2.s.length 4)) (.cons 1 (.one (.bool e2.off)) (.cons 1 (.one (.int .i64 e2.left)) .nil)))) true)),(2,(.cells e1.blk.length (.rI .u8 e1.blk) true)),(3,(.cells 0 (.rM .i64 0 (.arr .u8 64) e1.pend) true)),(4,(.cells 0 (.rM .i64 0 .bool e1.worn) true)),(5,(.cells (e2.s.length * 4) (.rT [.str,.str,.bool,.bool] e2.s) true))],next := 6,nt := 146,m := 0 }
def ef6vj5 : Ty61 → St := fun (t0,t1,x3,t2,t7,e1,e2) => { tmps := [(0,(.int .i64 t0)),(1,(.vs (.rT [.int .i64,.int .i64,.int .i64,.str,.sl .i64] t1) x3 5)),(2,(.vs (.rI .i64 t2) 0 1)),(7,(.bool t7)),(8,(.ptr 0 0 5 0 0 0 5)),(9,(.ptr 1 0 3 0 0 0 3))],heap := [(0,(.cells 5 (.segs (.cons 1 (.one (.own 2 e1.n 64)) (.cons 1 (.one (.mp 3)) (.cons 1 (.one (.mp 4)) (.cons 1 (.one (.bool e1.off)) (.cons 1 (.one (.int .i64 e1.left)) .nil)))))) true)),(1,(.cells 3 (.segs (.cons 1 (.one (.own 5 e2.s.length 4)) (.cons 1 (.one (.bool e2.off)) (.cons 1 (.one (.int .i64 e2.left)) .nil)))) true)),(2,(.cells e1.blk.length (.rI .u8 e1.blk) true)),(3,(.cells 0 (.rM .i64 0 (.arr .u8 64) e1.pend) true)),(4,(.cells 0 (.rM .i64 0 .bool e1.worn) true)),(5,(.cells (e2.s.length * 4) (.rT [.str,.str,.bool,.bool] e2.s) true))],next := 6,nt := 146,m := 0 }
def ef6vj6 : Ty62 → St := fun (t0,t1,x3,t2,t7,t11,e1,e2) => { tmps := [(0,(.int .i64 t0)),(1,(.vs (.rT [.int .i64,.int .i64,.int .i64,.str,.sl .i64] t1) x3 5)),(2,(.vs (.rI .i64 t2) 0 1)),(7,(.bool t7)),(8,(.ptr 0 0 5 0 0 0 5)),(9,(.ptr 1 0 3 0 0 0 3)),(11,(.int .i64 t11))],heap := [(0,(.cells 5 (.segs (.cons 1 (.one (.own 2 e1.n 64)) (.cons 1 (.one (.mp 3)) (.cons 1 (.one (.mp 4)) (.cons 1 (.one (.bool e1.off)) (.cons 1 (.one (.int .i64 e1.left)) .nil)))))) true)),(1,(.cells 3 (.segs (.cons 1 (.one (.own 5 e2.s.length 4)) (.cons 1 (.one (.bool e2.off)) (.cons 1 (.one (.int .i64 e2.left)) .nil)))) true)),(2,(.cells e1.blk.length (.rI .u8 e1.blk) true)),(3,(.cells 0 (.rM .i64 0 (.arr .u8 64) e1.pend) true)),(4,(.cells 0 (.rM .i64 0 .bool e1.worn) true)),(5,(.cells (e2.s.length * 4) (.rT [.str,.str,.bool,.bool] e2.s) true))],next := 6,nt := 146,m := 0 }
def ef6vl1 : Ty62 → St := fun (t0,t1,x3,t2,t7,t11,e1,e2) => { tmps := [(0,(.int .i64 t0)),(1,(.vs (.rT [.int .i64,.int .i64,.int .i64,.str,.sl .i64] t1) x3 5)),(2,(.vs (.rI .i64 t2) 0 1)),(7,(.bool t7)),(8,(.ptr 0 0 5 0 0 0 5)),(9,(.ptr 1 0 3 0 0 0 3)),(11,(.int .i64 t11))],heap := [(0,(.cells 5 (.segs (.cons 1 (.one (.own 2 e1.n 64)) (.cons 1 (.one (.mp 3)) (.cons 1 (.one (.mp 4)) (.cons 1 (.one (.bool e1.off)) (.cons 1 (.one (.int .i64 e1.left)) .nil)))))) true)),(1,(.cells 3 (.segs (.cons 1 (.one (.own 5 e2.s.length 4)) (.cons 1 (.one (.bool e2.off)) (.cons 1 (.one (.int .i64 e2.left)) .nil)))) true)),(2,(.cells e1.blk.length (.rI .u8 e1.blk) true)),(3,(.cells 0 (.rM .i64 0 (.arr .u8 64) e1.pend) true)),(4,(.cells 0 (.rM .i64 0 .bool e1.worn) true)),(5,(.cells (e2.s.length * 4) (.rT [.str,.str,.bool,.bool] e2.s) true))],next := 6,nt := 146,m := 0 }
def ef6vj7 : Ty62 → St := fun (t0,t1,x3,t2,t7,t11,e1,e2) => { tmps := [(0,(.int .i64 t0)),(1,(.vs (.rT [.int .i64,.int .i64,.int .i64,.str,.sl .i64] t1) x3 5)),(2,(.vs (.rI .i64 t2) 0 1)),(7,(.bool t7)),(8,(.ptr 0 0 5 0 0 0 5)),(9,(.ptr 1 0 3 0 0 0 3)),(11,(.int .i64 t11))],heap := [(0,(.cells 5 (.segs (.cons 1 (.one (.own 2 e1.n 64)) (.cons 1 (.one (.mp 3)) (.cons 1 (.one (.mp 4)) (.cons 1 (.one (.bool e1.off)) (.cons 1 (.one (.int .i64 e1.left)) .nil)))))) true)),(1,(.cells 3 (.segs (.cons 1 (.one (.own 5 e2.s.length 4)) (.cons 1 (.one (.bool e2.off)) (.cons 1 (.one (.int .i64 e2.left)) .nil)))) true)),(2,(.cells e1.blk.length (.rI .u8 e1.blk) true)),(3,(.cells 0 (.rM .i64 0 (.arr .u8 64) e1.pend) true)),(4,(.cells 0 (.rM .i64 0 .bool e1.worn) true)),(5,(.cells (e2.s.length * 4) (.rT [.str,.str,.bool,.bool] e2.s) true))],next := 6,nt := 146,m := 0 }
def ef6vj8 : Ty62 → St := fun (t0,t1,x3,t2,t7,t11,e1,e2) => { tmps := [(0,(.int .i64 t0)),(1,(.vs (.rT [.int .i64,.int .i64,.int .i64,.str,.sl .i64] t1) x3 5)),(2,(.vs (.rI .i64 t2) 0 1)),(7,(.bool t7)),(8,(.ptr 0 0 5 0 0 0 5)),(9,(.ptr 1 0 3 0 0 0 3)),(11,(.int .i64 t11))],heap := [(0,(.cells 5 (.segs (.cons 1 (.one (.own 2 e1.n 64)) (.cons 1 (.one (.mp 3)) (.cons 1 (.one (.mp 4)) (.cons 1 (.one (.bool e1.off)) (.cons 1 (.one (.int .i64 e1.left)) .nil)))))) true)),(1,(.cells 3 (.segs (.cons 1 (.one (.own 5 e2.s.length 4)) (.cons 1 (.one (.bool e2.off)) (.cons 1 (.one (.int .i64 e2.left)) .nil)))) true)),(2,(.cells e1.blk.length (.rI .u8 e1.blk) true)),(3,(.cells 0 (.rM .i64 0 (.arr .u8 64) e1.pend) true)),(4,(.cells 0 (.rM .i64 0 .bool e1.worn) true)),(5,(.cells (e2.s.length * 4) (.rT [.str,.str,.bool,.bool] e2.s) true))],next := 6,nt := 146,m := 0 }
def ef6vj9 : Ty62 → St := fun (t0,t1,x3,t2,t7,t11,e1,e2) => { tmps := [(0,(.int .i64 t0)),(1,(.vs (.rT [.int .i64,.int .i64,.int .i64,.str,.sl .i64] t1) x3 5)),(2,(.vs (.rI .i64 t2) 0 1)),(7,(.bool t7)),(8,(.ptr 0 0 5 0 0 0 5)),(9,(.ptr 1 0 3 0 0 0 3)),(11,(.int .i64 t11))],heap := [(0,(.cells 5 (.segs (.cons 1 (.one (.own 2 e1.n 64)) (.cons 1 (.one (.mp 3)) (.cons 1 (.one (.mp 4)) (.cons 1 (.one (.bool e1.off)) (.cons 1 (.one (.int .i64 e1.left)) .nil)))))) true)),(1,(.cells 3 (.segs (.cons 1 (.one (.own 5 e2.s.length 4)) (.cons 1 (.one (.bool e2.off)) (.cons 1 (.one (.int .i64 e2.left)) .nil)))) true)),(2,(.cells e1.blk.length (.rI .u8 e1.blk) true)),(3,(.cells 0 (.rM .i64 0 (.arr .u8 64) e1.pend) true)),(4,(.cells 0 (.rM .i64 0 .bool e1.worn) true)),(5,(.cells (e2.s.length * 4) (.rT [.str,.str,.bool,.bool] e2.s) true))],next := 6,nt := 146,m := 0 }
def ef6vj10 : Ty63 → St := fun (t0,t2,t7,e1,e2) => { tmps := [(0,(.int .i64 t0)),(2,(.vs (.rI .i64 t2) 0 1)),(7,(.bool t7)),(8,(.ptr 0 0 5 0 0 0 5)),(9,(.ptr 1 0 3 0 0 0 3))],heap := [(0,(.cells 5 (.segs (.cons 1 (.one (.own 2 e1.n 64)) (.cons 1 (.one (.mp 3)) (.cons 1 (.one (.mp 4)) (.cons 1 (.one (.bool e1.off)) (.cons 1 (.one (.int .i64 e1.left)) .nil)))))) true)),(1,(.cells 3 (.segs (.cons 1 (.one (.own 5 e2.s.length 4)) (.cons 1 (.one (.bool e2.off)) (.cons 1 (.one (.int .i64 e2.left)) .nil)))) true)),(2,(.cells e1.blk.length (.rI .u8 e1.blk) true)),(3,(.cells 0 (.rM .i64 0 (.arr .u8 64) e1.pend) true)),(4,(.cells 0 (.rM .i64 0 .bool e1.worn) true)),(5,(.cells (e2.s.length * 4) (.rT [.str,.str,.bool,.bool] e2.s) true))],next := 6,nt := 146,m := 0 }
def ef6vj11 : Ty64 → St := fun (t0,t2,t7,t12,e1,e2) => { tmps := [(0,(.int .i64 t0)),(2,(.vs (.rI .i64 t2) 0 1)),(7,(.bool t7)),(8,(.ptr 0 0 5 0 0 0 5)),(9,(.ptr 1 0 3 0 0 0 3)),(12,(.vs (.rS t12) 0 1))],heap := [(0,(.cells 5 (.segs (.cons 1 (.one (.own 2 e1.n 64)) (.cons 1 (.one (.mp 3)) (.cons 1 (.one (.mp 4)) (.cons 1 (.one (.bool e1.off)) (.cons 1 (.one (.int .i64 e1.left)) .nil)))))) true)),(1,(.cells 3 (.segs (.cons 1 (.one (.own 5 e2.s.length 4)) (.cons 1 (.one (.bool e2.off)) (.cons 1 (.one (.int .i64 e2.left)) .nil)))) true)),(2,(.cells e1.blk.length (.rI .u8 e1.blk) true)),(3,(.cells 0 (.rM .i64 0 (.arr .u8 64) e1.pend) true)),(4,(.cells 0 (.rM .i64 0 .bool e1.worn) true)),(5,(.cells (e2.s.length * 4) (.rT [.str,.str,.bool,.bool] e2.s) true))],next := 6,nt := 146,m := 0 }
def ef6vj12 : Ty64 → St := fun (t0,t2,t7,t12,e1,e2) => { tmps := [(0,(.int .i64 t0)),(2,(.vs (.rI .i64 t2) 0 1)),(7,(.bool t7)),(8,(.ptr 0 0 5 0 0 0 5)),(9,(.ptr 1 0 3 0 0 0 3)),(12,(.vs (.rS t12) 0 1))],heap := [(0,(.cells 5 (.segs (.cons 1 (.one (.own 2 e1.n 64)) (.cons 1 (.one (.mp 3)) (.cons 1 (.one (.mp 4)) (.cons 1 (.one (.bool e1.off)) (.cons 1 (.one (.int .i64 e1.left)) .nil)))))) true)),(1,(.cells 3 (.segs (.cons 1 (.one (.own 5 e2.s.length 4)) (.cons 1 (.one (.bool e2.off)) (.cons 1 (.one (.int .i64 e2.left)) .nil)))) true)),(2,(.cells e1.blk.length (.rI .u8 e1.blk) true)),(3,(.cells 0 (.rM .i64 0 (.arr .u8 64) e1.pend) true)),(4,(.cells 0 (.rM .i64 0 .bool e1.worn) true)),(5,(.cells (e2.s.length * 4) (.rT [.str,.str,.bool,.bool] e2.s) true))],next := 6,nt := 146,m := 0 }
def ef6vj13 : Ty65 → St := fun (t0,t2,t7,t12,t13,e1,e2) => { tmps := [(0,(.int .i64 t0)),(2,(.vs (.rI .i64 t2) 0 1)),(7,(.bool t7)),(8,(.ptr 0 0 5 0 0 0 5)),(9,(.ptr 1 0 3 0 0 0 3)),(12,(.vs (.rS t12) 0 1)),(13,(.vs (.rS t13) 0 1))],heap := [(0,(.cells 5 (.segs (.cons 1 (.one (.own 2 e1.n 64)) (.cons 1 (.one (.mp 3)) (.cons 1 (.one (.mp 4)) (.cons 1 (.one (.bool e1.off)) (.cons 1 (.one (.int .i64 e1.left)) .nil)))))) true)),(1,(.cells 3 (.segs (.cons 1 (.one (.own 5 e2.s.length 4)) (.cons 1 (.one (.bool e2.off)) (.cons 1 (.one (.int .i64 e2.left)) .nil)))) true)),(2,(.cells e1.blk.length (.rI .u8 e1.blk) true)),(3,(.cells 0 (.rM .i64 0 (.arr .u8 64) e1.pend) true)),(4,(.cells 0 (.rM .i64 0 .bool e1.worn) true)),(5,(.cells (e2.s.length * 4) (.rT [.str,.str,.bool,.bool] e2.s) true))],next := 6,nt := 146,m := 0 }
def ef6vj14 : Ty66 → St := fun (t0,t2,t7,t12,t13,t90,e1) => { tmps := [(0,(.int .i64 t0)),(2,(.vs (.rI .i64 t2) 0 1)),(7,(.bool t7)),(9,(.ptr 0 0 3 0 0 0 3)),(12,(.vs (.rS t12) 0 1)),(13,(.vs (.rS t13) 0 1)),(90,(.bool t90))],heap := [(0,(.cells 3 (.segs (.cons 1 (.one (.own 1 e1.s.length 4)) (.cons 1 (.one (.bool e1.off)) (.cons 1 (.one (.int .i64 e1.left)) .nil)))) true)),(1,(.cells (e1.s.length * 4) (.rT [.str,.str,.bool,.bool] e1.s) true))],next := 2,nt := 146,m := 0 }
def ef6vj15 : Ty67 → St := fun (t0,t2,t7,t12,t13,e1) => { tmps := [(0,(.int .i64 t0)),(2,(.vs (.rI .i64 t2) 0 1)),(7,(.bool t7)),(9,(.ptr 0 0 3 0 0 0 3)),(12,(.vs (.rS t12) 0 1)),(13,(.vs (.rS t13) 0 1))],heap := [(0,(.cells 3 (.segs (.cons 1 (.one (.own 1 e1.s.length 4)) (.cons 1 (.one (.bool e1.off)) (.cons 1 (.one (.int .i64 e1.left)) .nil)))) true)),(1,(.cells (e1.s.length * 4) (.rT [.str,.str,.bool,.bool] e1.s) true))],next := 2,nt := 146,m := 0 }
def ef6vj16 : Ty68 → St := fun (t0,t2,t7,t12,t13,t14,e1) => { tmps := [(0,(.int .i64 t0)),(2,(.vs (.rI .i64 t2) 0 1)),(7,(.bool t7)),(9,(.ptr 0 0 3 0 0 0 3)),(12,(.vs (.rS t12) 0 1)),(13,(.vs (.rS t13) 0 1)),(14,(.int .i64 t14))],heap := [(0,(.cells 3 (.segs (.cons 1 (.one (.own 1 e1.s.length 4)) (.cons 1 (.one (.bool e1.off)) (.cons 1 (.one (.int .i64 e1.left)) .nil)))) true)),(1,(.cells (e1.s.length * 4) (.rT [.str,.str,.bool,.bool] e1.s) true))],next := 2,nt := 146,m := 0 }
def ef6vj17 : Ty69 → St := fun (t0,t2,t7,t12,t13,t14,t15,e1) => { tmps := [(0,(.int .i64 t0)),(2,(.vs (.rI .i64 t2) 0 1)),(7,(.bool t7)),(9,(.ptr 0 0 3 0 0 0 3)),(12,(.vs (.rS t12) 0 1)),(13,(.vs (.rS t13) 0 1)),(14,(.int .i64 t14)),(15,(.int .i64 t15))],heap := [(0,(.cells 3 (.segs (.cons 1 (.one (.own 1 e1.s.length 4)) (.cons 1 (.one (.bool e1.off)) (.cons 1 (.one (.int .i64 e1.left)) .nil)))) true)),(1,(.cells (e1.s.length * 4) (.rT [.str,.str,.bool,.bool] e1.s) true))],next := 2,nt := 146,m := 0 }
def ef6vl2 : Ty69 → St := fun (t0,t2,t7,t12,t13,t14,t15,e1) => { tmps := [(0,(.int .i64 t0)),(2,(.vs (.rI .i64 t2) 0 1)),(7,(.bool t7)),(9,(.ptr 0 0 3 0 0 0 3)),(12,(.vs (.rS t12) 0 1)),(13,(.vs (.rS t13) 0 1)),(14,(.int .i64 t14)),(15,(.int .i64 t15))],heap := [(0,(.cells 3 (.segs (.cons 1 (.one (.own 1 e1.s.length 4)) (.cons 1 (.one (.bool e1.off)) (.cons 1 (.one (.int .i64 e1.left)) .nil)))) true)),(1,(.cells (e1.s.length * 4) (.rT [.str,.str,.bool,.bool] e1.s) true))],next := 2,nt := 146,m := 0 }
def ef6vj18 : Ty69 → St := fun (t0,t2,t7,t12,t13,t14,t15,e1) => { tmps := [(0,(.int .i64 t0)),(2,(.vs (.rI .i64 t2) 0 1)),(7,(.bool t7)),(9,(.ptr 0 0 3 0 0 0 3)),(12,(.vs (.rS t12) 0 1)),(13,(.vs (.rS t13) 0 1)),(14,(.int .i64 t14)),(15,(.int .i64 t15))],heap := [(0,(.cells 3 (.segs (.cons 1 (.one (.own 1 e1.s.length 4)) (.cons 1 (.one (.bool e1.off)) (.cons 1 (.one (.int .i64 e1.left)) .nil)))) true)),(1,(.cells (e1.s.length * 4) (.rT [.str,.str,.bool,.bool] e1.s) true))],next := 2,nt := 146,m := 0 }
def ef6vj19 : Ty70 → St := fun (t0,t2,t7,t12,t13,t14,t15,x11,x12,x13,x14,e1) => { tmps := [(0,(.int .i64 t0)),(2,(.vs (.rI .i64 t2) 0 1)),(7,(.bool t7)),(9,(.ptr 0 0 3 0 0 0 3)),(12,(.vs (.rS t12) 0 1)),(13,(.vs (.rS t13) 0 1)),(14,(.int .i64 t14)),(15,(.int .i64 t15)),(16,(.ptr 1 0 4 0 0 0 4))],heap := [(0,(.cells 3 (.segs (.cons 1 (.one (.own 2 e1.s.length 4)) (.cons 1 (.one (.bool e1.off)) (.cons 1 (.one (.int .i64 e1.left)) .nil)))) true)),(1,(.cells 4 (.segs (.cons 1 (.one (.str x11)) (.cons 1 (.one (.str x12)) (.cons 1 (.one (.bool x13)) (.cons 1 (.one (.bool x14)) .nil))))) true)),(2,(.cells (e1.s.length * 4) (.rT [.str,.str,.bool,.bool] e1.s) true))],next := 3,nt := 146,m := 0 }
def ef6vj20 : Ty71 → St := fun (t0,t2,t7,t12,t13,t14,t15,t17,x12,x13,x14,x15,e1) => { tmps := [(0,(.int .i64 t0)),(2,(.vs (.rI .i64 t2) 0 1)),(7,(.bool t7)),(9,(.ptr 0 0 3 0 0 0 3)),(12,(.vs (.rS t12) 0 1)),(13,(.vs (.rS t13) 0 1)),(14,(.int .i64 t14)),(15,(.int .i64 t15)),(16,(.ptr 1 0 4 0 0 0 4)),(17,(.int .i64 t17))],heap := [(0,(.cells 3 (.segs (.cons 1 (.one (.own 2 e1.s.length 4)) (.cons 1 (.one (.bool e1.off)) (.cons 1 (.one (.int .i64 e1.left)) .nil)))) true)),(1,(.cells 4 (.segs (.cons 1 (.one (.str x12)) (.cons 1 (.one (.str x13)) (.cons 1 (.one (.bool x14)) (.cons 1 (.one (.bool x15)) .nil))))) true)),(2,(.cells (e1.s.length * 4) (.rT [.str,.str,.bool,.bool] e1.s) true))],next := 3,nt := 146,m := 0 }
def ef6vj21 : Ty72 → St := fun (t0,t2,t7,t12,t13,t14,t15,t17,t104,x13,x14,x15,x16,e1) => { tmps := [(0,(.int .i64 t0)),(2,(.vs (.rI .i64 t2) 0 1)),(7,(.bool t7)),(9,(.ptr 0 0 3 0 0 0 3)),(12,(.vs (.rS t12) 0 1)),(13,(.vs (.rS t13) 0 1)),(14,(.int .i64 t14)),(15,(.int .i64 t15)),(16,(.ptr 1 0 4 0 0 0 4)),(17,(.int .i64 t17)),(104,(.bool t104))],heap := [(0,(.cells 3 (.segs (.cons 1 (.one (.own 2 e1.s.length 4)) (.cons 1 (.one (.bool e1.off)) (.cons 1 (.one (.int .i64 e1.left)) .nil)))) true)),(1,(.cells 4 (.segs (.cons 1 (.one (.str x13)) (.cons 1 (.one (.str x14)) (.cons 1 (.one (.bool x15)) (.cons 1 (.one (.bool x16)) .nil))))) true)),(2,(.cells (e1.s.length * 4) (.rT [.str,.str,.bool,.bool] e1.s) true))],next := 3,nt := 146,m := 0 }
def ef6vj22 : Ty71 → St := fun (t0,t2,t7,t12,t13,t14,t15,t17,x12,x13,x14,x15,e1) => { tmps := [(0,(.int .i64 t0)),(2,(.vs (.rI .i64 t2) 0 1)),(7,(.bool t7)),(9,(.ptr 0 0 3 0 0 0 3)),(12,(.vs (.rS t12) 0 1)),(13,(.vs (.rS t13) 0 1)),(14,(.int .i64 t14)),(15,(.int .i64 t15)),(16,(.ptr 1 0 4 0 0 0 4)),(17,(.int .i64 t17))],heap := [(0,(.cells 3 (.segs (.cons 1 (.one (.own 2 e1.s.length 4)) (.cons 1 (.one (.bool e1.off)) (.cons 1 (.one (.int .i64 e1.left)) .nil)))) true)),(1,(.cells 4 (.segs (.cons 1 (.one (.str x12)) (.cons 1 (.one (.str x13)) (.cons 1 (.one (.bool x14)) (.cons 1 (.one (.bool x15)) .nil))))) true)),(2,(.cells (e1.s.length * 4) (.rT [.str,.str,.bool,.bool] e1.s) true))],next := 3,nt := 146,m := 0 }
def ef6vj23 : Ty72 → St := fun (t0,t2,t7,t12,t13,t14,t15,t17,t108,x13,x14,x15,x16,e1) => { tmps := [(0,(.int .i64 t0)),(2,(.vs (.rI .i64 t2) 0 1)),(7,(.bool t7)),(9,(.ptr 0 0 3 0 0 0 3)),(12,(.vs (.rS t12) 0 1)),(13,(.vs (.rS t13) 0 1)),(14,(.int .i64 t14)),(15,(.int .i64 t15)),(16,(.ptr 1 0 4 0 0 0 4)),(17,(.int .i64 t17)),(108,(.bool t108))],heap := [(0,(.cells 3 (.segs (.cons 1 (.one (.own 2 e1.s.length 4)) (.cons 1 (.one (.bool e1.off)) (.cons 1 (.one (.int .i64 e1.left)) .nil)))) true)),(1,(.cells 4 (.segs (.cons 1 (.one (.str x13)) (.cons 1 (.one (.str x14)) (.cons 1 (.one (.bool x15)) (.cons 1 (.one (.bool x16)) .nil))))) true)),(2,(.cells (e1.s.length * 4) (.rT [.str,.str,.bool,.bool] e1.s) true))],next := 3,nt := 146,m := 0 }
def ef6vj24 : Ty71 → St := fun (t0,t2,t7,t12,t13,t14,t15,t17,x12,x13,x14,x15,e1) => { tmps := [(0,(.int .i64 t0)),(2,(.vs (.rI .i64 t2) 0 1)),(7,(.bool t7)),(9,(.ptr 0 0 3 0 0 0 3)),(12,(.vs (.rS t12) 0 1)),(13,(.vs (.rS t13) 0 1)),(14,(.int .i64 t14)),(15,(.int .i64 t15)),(16,(.ptr 1 0 4 0 0 0 4)),(17,(.int .i64 t17))],heap := [(0,(.cells 3 (.segs (.cons 1 (.one (.own 2 e1.s.length 4)) (.cons 1 (.one (.bool e1.off)) (.cons 1 (.one (.int .i64 e1.left)) .nil)))) true)),(1,(.cells 4 (.segs (.cons 1 (.one (.str x12)) (.cons 1 (.one (.str x13)) (.cons 1 (.one (.bool x14)) (.cons 1 (.one (.bool x15)) .nil))))) true)),(2,(.cells (e1.s.length * 4) (.rT [.str,.str,.bool,.bool] e1.s) true))],next := 3,nt := 146,m := 0 }
def ef6vj25 : Ty71 → St := fun (t0,t2,t7,t12,t13,t14,t15,t17,x12,x13,x14,x15,e1) => { tmps := [(0,(.int .i64 t0)),(2,(.vs (.rI .i64 t2) 0 1)),(7,(.bool t7)),(9,(.ptr 0 0 3 0 0 0 3)),(12,(.vs (.rS t12) 0 1)),(13,(.vs (.rS t13) 0 1)),(14,(.int .i64 t14)),(15,(.int .i64 t15)),(16,(.ptr 1 0 4 0 0 0 4)),(17,(.int .i64 t17))],heap := [(0,(.cells 3 (.segs (.cons 1 (.one (.own 2 e1.s.length 4)) (.cons 1 (.one (.bool e1.off)) (.cons 1 (.one (.int .i64 e1.left)) .nil)))) true)),(1,(.cells 4 (.segs (.cons 1 (.one (.str x12)) (.cons 1 (.one (.str x13)) (.cons 1 (.one (.bool x14)) (.cons 1 (.one (.bool x15)) .nil))))) true)),(2,(.cells (e1.s.length * 4) (.rT [.str,.str,.bool,.bool] e1.s) true))],next := 3,nt := 146,m := 0 }
def ef6vj26 : Ty73 → St := fun (t0,t2,t7,t12,t13,t14,t15,t17,t18,x13,x14,x15,x16,e1) => { tmps := [(0,(.int .i64 t0)),(2,(.vs (.rI .i64 t2) 0 1)),(7,(.bool t7)),(9,(.ptr 0 0 3 0 0 0 3)),(12,(.vs (.rS t12) 0 1)),(13,(.vs (.rS t13) 0 1)),(14,(.int .i64 t14)),(15,(.int .i64 t15)),(16,(.ptr 1 0 4 0 0 0 4)),(17,(.int .i64 t17)),(18,(.str t18))],heap := [(0,(.cells 3 (.segs (.cons 1 (.one (.own 2 e1.s.length 4)) (.cons 1 (.one (.bool e1.off)) (.cons 1 (.one (.int .i64 e1.left)) .nil)))) true)),(1,(.cells 4 (.segs (.cons 1 (.one (.str x13)) (.cons 1 (.one (.str x14)) (.cons 1 (.one (.bool x15)) (.cons 1 (.one (.bool x16)) .nil))))) true)),(2,(.cells (e1.s.length * 4) (.rT [.str,.str,.bool,.bool] e1.s) true))],next := 3,nt := 146,m := 0 }
def ef6vj27 : Ty74 → St := fun (t0,t2,t7,t12,t13,t14,t15,t17,t18,t127,x14,x15,x16,x17,e1) => { tmps := [(0,(.int .i64 t0)),(2,(.vs (.rI .i64 t2) 0 1)),(7,(.bool t7)),(9,(.ptr 0 0 3 0 0 0 3)),(12,(.vs (.rS t12) 0 1)),(13,(.vs (.rS t13) 0 1)),(14,(.int .i64 t14)),(15,(.int .i64 t15)),(16,(.ptr 1 0 4 0 0 0 4)),(17,(.int .i64 t17)),(18,(.str t18)),(127,(.bool t127))],heap := [(0,(.cells 3 (.segs (.cons 1 (.one (.own 2 e1.s.length 4)) (.cons 1 (.one (.bool e1.off)) (.cons 1 (.one (.int .i64 e1.left)) .nil)))) true)),(1,(.cells 4 (.segs (.cons 1 (.one (.str x14)) (.cons 1 (.one (.str x15)) (.cons 1 (.one (.bool x16)) (.cons 1 (.one (.bool x17)) .nil))))) true)),(2,(.cells (e1.s.length * 4) (.rT [.str,.str,.bool,.bool] e1.s) true))],next := 3,nt := 146,m := 0 }
def ef6vj28 : Ty75 → St := fun (t0,t2,t7,t12,t13,t14,t15,t18,e1) => { tmps := [(0,(.int .i64 t0)),(2,(.vs (.rI .i64 t2) 0 1)),(7,(.bool t7)),(9,(.ptr 0 0 3 0 0 0 3)),(12,(.vs (.rS t12) 0 1)),(13,(.vs (.rS t13) 0 1)),(14,(.int .i64 t14)),(15,(.int .i64 t15)),(18,(.str t18))],heap := [(0,(.cells 3 (.segs (.cons 1 (.one (.own 1 e1.s.length 4)) (.cons 1 (.one (.bool e1.off)) (.cons 1 (.one (.int .i64 e1.left)) .nil)))) true)),(1,(.cells (e1.s.length * 4) (.rT [.str,.str,.bool,.bool] e1.s) true))],next := 2,nt := 146,m := 0 }
def ef6vj29 : Ty76 → St := fun (t0,t2,t7,t12,t13,t14,t15,t144,e1) => { tmps := [(0,(.int .i64 t0)),(2,(.vs (.rI .i64 t2) 0 1)),(7,(.bool t7)),(9,(.ptr 0 0 3 0 0 0 3)),(12,(.vs (.rS t12) 0 1)),(13,(.vs (.rS t13) 0 1)),(14,(.int .i64 t14)),(15,(.int .i64 t15)),(144,(.bool t144))],heap := [(0,(.cells 3 (.segs (.cons 1 (.one (.own 1 e1.s.length 4)) (.cons 1 (.one (.bool e1.off)) (.cons 1 (.one (.int .i64 e1.left)) .nil)))) true)),(1,(.cells (e1.s.length * 4) (.rT [.str,.str,.bool,.bool] e1.s) true))],next := 2,nt := 146,m := 0 }
def ef6vj30 : Ty69 → St := fun (t0,t2,t7,t12,t13,t14,t15,e1) => { tmps := [(0,(.int .i64 t0)),(2,(.vs (.rI .i64 t2) 0 1)),(7,(.bool t7)),(9,(.ptr 0 0 3 0 0 0 3)),(12,(.vs (.rS t12) 0 1)),(13,(.vs (.rS t13) 0 1)),(14,(.int .i64 t14)),(15,(.int .i64 t15))],heap := [(0,(.cells 3 (.segs (.cons 1 (.one (.own 1 e1.s.length 4)) (.cons 1 (.one (.bool e1.off)) (.cons 1 (.one (.int .i64 e1.left)) .nil)))) true)),(1,(.cells (e1.s.length * 4) (.rT [.str,.str,.bool,.bool] e1.s) true))],next := 2,nt := 146,m := 0 }
def ef6vj31 : Bool → St := fun t7 => { tmps := [(7,(.bool t7))],heap := [],next := 0,nt := 146,m := 0 }
def f6v_1 (F : Nat) (kf6vj1 : Ty55 → Rz) : Ty55 → Rz := fun (a0,a1,a1n,a2) => (kf6vj1 (a0,a1,a1n,a2))
theorem f6v_1_eq (F : Nat) (Rf6vj1 : St → Rz) : ∀ v,aexec VG356v (Af6v F) (bp Try.f6 2) (ef6v_a v) (kSeq (kc VG356v Rf6vj1 sp28) (kFin VG356v none (Try.f6).results.toList)) = f6v_1 F (Rf6vj1 ∘ ef6vj1) v := by
  rintro ⟨a0,a1,a1n,a2⟩; kernel_rfl
def f6v_2 (F : Nat) (kf6vj2 : Ty58 → Rz) : Ty55 → Rz := fun (t0,t1,x3,t2) => (kf6vj2 (t0,t1,x3,t2,true))
theorem f6v_2_eq (F : Nat) (Rf6vj2 : St → Rz) : ∀ v,aexec VG356v (Af6v F) (bp Try.f6 6) (ef6vj1 v) (kSeq (kc VG356v Rf6vj2 sp29) (kFin VG356v none (Try.f6).results.toList)) = f6v_2 F (Rf6vj2 ∘ ef6vj2) v := by
  rintro ⟨t0,t1,x3,t2⟩; kernel_rfl
def f6v_3 (F : Nat) (kf6vj3 : Ty59 → Rz) : Ty58 → Rz := fun (t0,t1,x3,t2,t7) => (cond ((decide (0 < t0)) && (decide (t0 < 65))) (kf6vj3 (t0,t1,x3,t2,t7,true,(Dk.new t0),(Dk.rnew t0))) none)
theorem f6v_3_eq (F : Nat) (Rf6vj3 : St → Rz) : ∀ v,aexec VG356v (Af6v F) (bp Try.f6 14) (ef6vj2 v) (kSeq (kc VG356v Rf6vj3 sp31) (kFin VG356v none (Try.f6).results.toList)) = f6v_3 F (Rf6vj3 ∘ ef6vj3) v := by
  rintro ⟨t0,t1,x3,t2,t7⟩; kernel_rfl
def f6v_4 (F : Nat) (kf6vj4 : Ty60 → Rz) (kf6vj5 : Ty61 → Rz) : Ty59 → Rz := fun (t0,t1,x3,t2,t7,t10,e1,e2) => (cond (!t10) (kf6vj4 (t0,t1,x3,t2,t7,t10,true,e1,e2)) (kf6vj4 (t0,t1,x3,t2,t7,t10,(decide ((↑x3 : Int) > (60 : Int))),e1,e2)))
theorem f6v_4_eq (F : Nat) (Rf6vj4 : St → Rz) (Rf6vj5 : St → Rz) : ∀ v,aexec VG356v (Af6v F) (bp Try.f6 60) (ef6vj3 v) (kSeq (kc VG356v Rf6vj4 sp38) (kSeq (kc VG356v Rf6vj5 sp39) (kFin VG356v none (Try.f6).results.toList))) = f6v_4 F (Rf6vj4 ∘ ef6vj4) (Rf6vj5 ∘ ef6vj5) v := by
  rintro ⟨t0,t1,x3,t2,t7,t10,e1,e2⟩; kernel_rfl
def f6v_5 (F : Nat) (kf6vj5 : Ty61 → Rz) : Ty60 → Rz := fun (t0,t1,x3,t2,t7,t10,t32,e1,e2) => (cond t32 (cond t7 (cond t10 (some ((.bool true),[])) (cond (decide (t0 < (1 : Int))) (some ((.bool true),[])) (some ((.bool (decide (t0 > (64 : Int)))),[])))) (some ((.bool false),[]))) (kf6vj5 (t0,t1,x3,t2,t7,e1,e2)))
theorem f6v_5_eq (F : Nat) (Rf6vj5 : St → Rz) : ∀ v,aexec VG356v (Af6v F) (bp Try.f6 61) (ef6vj4 v) (kSeq (kc VG356v Rf6vj5 sp39) (kFin VG356v none (Try.f6).results.toList)) = f6v_5 F (Rf6vj5 ∘ ef6vj5) v := by
  rintro ⟨t0,t1,x3,t2,t7,t10,t32,e1,e2⟩; kernel_rfl
def f6v_6 (F : Nat) (kf6vj5 : Ty61 → Rz) : Ty59 → Rz := fun v => f6v_4 F (f6v_5 F kf6vj5) kf6vj5 v
theorem f6v_6_eq (F : Nat) (Rf6vj5 : St → Rz) : ∀ v,aexec VG356v (Af6v F) (bp Try.f6 30) (ef6vj3 v) (kSeq (kc VG356v Rf6vj5 sp39) (kFin VG356v none (Try.f6).results.toList)) = f6v_6 F (Rf6vj5 ∘ ef6vj5) v :=
  seq_cut (by kernel_rfl) (by kernel_rfl) ef6vj3 ef6vj4 _ (fun k => f6v_4 F k (Rf6vj5 ∘ ef6vj5)) (f6v_5 F (Rf6vj5 ∘ ef6vj5))
    (fun Rf6vj4 => f6v_4_eq F Rf6vj4 Rf6vj5) (f6v_5_eq F Rf6vj5)
def f6v_7 (F : Nat) (kf6vj6 : Ty62 → Rz) (kf6vj10 : Ty63 → Rz) : Ty61 → Rz := fun (t0,t1,x3,t2,t7,e1,e2) => (kf6vj6 (t0,t1,x3,t2,t7,(0 : Int),e1,e2))
theorem f6v_7_eq (F : Nat) (Rf6vj6 : St → Rz) (Rf6vj10 : St → Rz) : ∀ v,aexec VG356v (Af6v F) (bp Try.f6 124) (ef6vj5 v) (kSeq (kc VG356v Rf6vj6 sp36) (kSeq (kc VG356v Rf6vj10 sp40) (kFin VG356v none (Try.f6).results.toList))) = f6v_7 F (Rf6vj6 ∘ ef6vj6) (Rf6vj10 ∘ ef6vj10) v := by
  rintro ⟨t0,t1,x3,t2,t7,e1,e2⟩; kernel_rfl
def f6v_8 (F : Nat) (kf6vj7 : Ty62 → Rz) (kf6vl1 : Ty62 → Rz) (kf6vj10 : Ty63 → Rz) : Ty62 → Rz := fun (t0,t1,x3,t2,t7,t11,e1,e2) => (cond (decide (t11 < (↑x3 : Int))) (kf6vj7 (t0,t1,x3,t2,t7,t11,e1,e2)) (kf6vj10 (t0,t2,t7,e1,e2)))
theorem f6v_8_eq (F : Nat) (Rf6vj7 : St → Rz) (Rf6vl1 : St → Rz) (Rf6vj10 : St → Rz) : ∀ v,aexec VG356v (Af6v F) (bp Try.f6 1000) (ef6vl1 v) (kSeq (kc VG356v Rf6vj7 sp36) (kSeq (kc VG356v Rf6vl1 sp36) (kBlock 0 (kSeq (kc VG356v Rf6vj10 sp40) (kFin VG356v none (Try.f6).results.toList))))) = f6v_8 F (Rf6vj7 ∘ ef6vj7) (Rf6vl1 ∘ ef6vl1) (Rf6vj10 ∘ ef6vj10) v := by
  rintro ⟨t0,t1,x3,t2,t7,t11,e1,e2⟩; kernel_rfl
def f6v_9 (F : Nat) (kf6vj8 : Ty62 → Rz) (kf6vj9 : Ty62 → Rz) (kf6vl1 : Ty62 → Rz) (kf6vj10 : Ty63 → Rz) : Ty62 → Rz := fun (t0,t1,x3,t2,t7,t11,e1,e2) => (cond ((decide (0 ≤ t11)) && (decide (t11 < (↑x3 : Int)))) (cond (Dk.fine e1) (kf6vj8 (t0,t1,x3,t2,t7,t11,(Dk.op e1 (((t1.getD (Int.toNat t11) []).getD 0 []).getD 0 0) (((t1.getD (Int.toNat t11) []).getD 1 []).getD 0 0) (((t1.getD (Int.toNat t11) []).getD 2 []).getD 0 0) ((t1.getD (Int.toNat t11) []).getD 3 []) ((t1.getD (Int.toNat t11) []).getD 4 [])).1,e2)) none) none)
theorem f6v_9_eq (F : Nat) (Rf6vj8 : St → Rz) (Rf6vj9 : St → Rz) (Rf6vl1 : St → Rz) (Rf6vj10 : St → Rz) : ∀ v,aexec VG356v (Af6v F) (bp Try.f6 8008) (ef6vj7 v) (kSeq (kc VG356v Rf6vj8 sp36) (kBlock 1 (kSeq (kc VG356v Rf6vj9 sp36) (kSeq (kc VG356v Rf6vl1 sp36) (kBlock 0 (kSeq (kc VG356v Rf6vj10 sp40) (kFin VG356v none (Try.f6).results.toList))))))) = f6v_9 F (Rf6vj8 ∘ ef6vj8) (Rf6vj9 ∘ ef6vj9) (Rf6vl1 ∘ ef6vl1) (Rf6vj10 ∘ ef6vj10) v := by
  rintro ⟨t0,t1,x3,t2,t7,t11,e1,e2⟩; kernel_rfl
def f6v_10 (F : Nat) (kf6vj9 : Ty62 → Rz) (kf6vl1 : Ty62 → Rz) (kf6vj10 : Ty63 → Rz) : Ty62 → Rz := fun (t0,t1,x3,t2,t7,t11,e1,e2) => (cond ((decide (0 ≤ t11)) && (decide (t11 < (↑x3 : Int)))) (cond ((decide (e2.s.length = e2.s.length ∧ e2.s.length < 8000)) && ((Dk.rfine e2))) (kf6vj9 (t0,t1,x3,t2,t7,t11,e1,(Dk.rop e2 (((t1.getD (Int.toNat t11) []).getD 0 []).getD 0 0) (((t1.getD (Int.toNat t11) []).getD 1 []).getD 0 0) (((t1.getD (Int.toNat t11) []).getD 2 []).getD 0 0) ((t1.getD (Int.toNat t11) []).getD 3 []) ((t1.getD (Int.toNat t11) []).getD 4 [])).1)) none) none)
theorem f6v_10_eq (F : Nat) (Rf6vj9 : St → Rz) (Rf6vl1 : St → Rz) (Rf6vj10 : St → Rz) : ∀ v,aexec VG356v (Af6v F) (bp Try.f6 8009) (ef6vj8 v) (kBlock 1 (kSeq (kc VG356v Rf6vj9 sp36) (kSeq (kc VG356v Rf6vl1 sp36) (kBlock 0 (kSeq (kc VG356v Rf6vj10 sp40) (kFin VG356v none (Try.f6).results.toList)))))) = f6v_10 F (Rf6vj9 ∘ ef6vj9) (Rf6vl1 ∘ ef6vl1) (Rf6vj10 ∘ ef6vj10) v := by
  rintro ⟨t0,t1,x3,t2,t7,t11,e1,e2⟩; kernel_rfl
def f6v_11 (F : Nat) (kf6vj9 : Ty62 → Rz) (kf6vl1 : Ty62 → Rz) (kf6vj10 : Ty63 → Rz) : Ty62 → Rz := fun v => f6v_9 F (f6v_10 F kf6vj9 kf6vl1 kf6vj10) kf6vj9 kf6vl1 kf6vj10 v
theorem f6v_11_eq (F : Nat) (Rf6vj9 : St → Rz) (Rf6vl1 : St → Rz) (Rf6vj10 : St → Rz) : ∀ v,aexec VG356v (Af6v F) (bp Try.f6 4004) (ef6vj7 v) (kBlock 1 (kSeq (kc VG356v Rf6vj9 sp36) (kSeq (kc VG356v Rf6vl1 sp36) (kBlock 0 (kSeq (kc VG356v Rf6vj10 sp40) (kFin VG356v none (Try.f6).results.toList)))))) = f6v_11 F (Rf6vj9 ∘ ef6vj9) (Rf6vl1 ∘ ef6vl1) (Rf6vj10 ∘ ef6vj10) v :=
  seq_cut (by kernel_rfl) (by kernel_rfl) ef6vj7 ef6vj8 _ (fun k => f6v_9 F k (Rf6vj9 ∘ ef6vj9) (Rf6vl1 ∘ ef6vl1) (Rf6vj10 ∘ ef6vj10)) (f6v_10 F (Rf6vj9 ∘ ef6vj9) (Rf6vl1 ∘ ef6vl1) (Rf6vj10 ∘ ef6vj10))
    (fun Rf6vj8 => f6v_9_eq F Rf6vj8 Rf6vj9 Rf6vl1 Rf6vj10) (f6v_10_eq F Rf6vj9 Rf6vl1 Rf6vj10)
def f6v_12 (F : Nat) (kf6vj9 : Ty62 → Rz) (kf6vl1 : Ty62 → Rz) (kf6vj10 : Ty63 → Rz) : Ty62 → Rz := f6v_11 F kf6vj9 kf6vl1 kf6vj10
theorem f6v_12_eq (F : Nat) (Rf6vj9 : St → Rz) (Rf6vl1 : St → Rz) (Rf6vj10 : St → Rz) : ∀ v,aexec VG356v (Af6v F) (bp Try.f6 2002) (ef6vj7 v) (kSeq (kc VG356v Rf6vj9 sp36) (kSeq (kc VG356v Rf6vl1 sp36) (kBlock 0 (kSeq (kc VG356v Rf6vj10 sp40) (kFin VG356v none (Try.f6).results.toList))))) = f6v_12 F (Rf6vj9 ∘ ef6vj9) (Rf6vl1 ∘ ef6vl1) (Rf6vj10 ∘ ef6vj10) v := fun v =>
  (block_in  (by kernel_rfl) _ _).trans (f6v_11_eq F Rf6vj9 Rf6vl1 Rf6vj10 v)
def f6v_13 (F : Nat) (kf6vl1 : Ty62 → Rz) (kf6vj10 : Ty63 → Rz) : Ty62 → Rz := fun (t0,t1,x3,t2,t7,t11,e1,e2) => (kf6vl1 (t0,t1,x3,t2,t7,(IntKind.i64.wrap (t11 + (1 : Int))),e1,e2))
theorem f6v_13_eq (F : Nat) (Rf6vl1 : St → Rz) (Rf6vj10 : St → Rz) : ∀ v,aexec VG356v (Af6v F) (bp Try.f6 2003) (ef6vj9 v) (kSeq (kc VG356v Rf6vl1 sp36) (kBlock 0 (kSeq (kc VG356v Rf6vj10 sp40) (kFin VG356v none (Try.f6).results.toList)))) = f6v_13 F (Rf6vl1 ∘ ef6vl1) (Rf6vj10 ∘ ef6vj10) v := by
  rintro ⟨t0,t1,x3,t2,t7,t11,e1,e2⟩; kernel_rfl
def f6v_14 (F : Nat) (kf6vl1 : Ty62 → Rz) (kf6vj10 : Ty63 → Rz) : Ty62 → Rz := fun v => f6v_12 F (f6v_13 F kf6vl1 kf6vj10) kf6vl1 kf6vj10 v
theorem f6v_14_eq (F : Nat) (Rf6vl1 : St → Rz) (Rf6vj10 : St → Rz) : ∀ v,aexec VG356v (Af6v F) (bp Try.f6 1001) (ef6vj7 v) (kSeq (kc VG356v Rf6vl1 sp36) (kBlock 0 (kSeq (kc VG356v Rf6vj10 sp40) (kFin VG356v none (Try.f6).results.toList)))) = f6v_14 F (Rf6vl1 ∘ ef6vl1) (Rf6vj10 ∘ ef6vj10) v :=
  seq_cut (by kernel_rfl) (by kernel_rfl) ef6vj7 ef6vj9 _ (fun k => f6v_12 F k (Rf6vl1 ∘ ef6vl1) (Rf6vj10 ∘ ef6vj10)) (f6v_13 F (Rf6vl1 ∘ ef6vl1) (Rf6vj10 ∘ ef6vj10))
    (fun Rf6vj9 => f6v_12_eq F Rf6vj9 Rf6vl1 Rf6vj10) (f6v_13_eq F Rf6vl1 Rf6vj10)
def f6v_15 (F : Nat) (kf6vl1 : Ty62 → Rz) (kf6vj10 : Ty63 → Rz) : Ty62 → Rz := fun v => f6v_8 F (f6v_14 F kf6vl1 kf6vj10) kf6vl1 kf6vj10 v
theorem f6v_15_eq (F : Nat) (Rf6vl1 : St → Rz) (Rf6vj10 : St → Rz) : ∀ v,aexec VG356v (Af6v F) (bp Try.f6 500) (ef6vl1 v) (kSeq (kc VG356v Rf6vl1 sp36) (kBlock 0 (kSeq (kc VG356v Rf6vj10 sp40) (kFin VG356v none (Try.f6).results.toList)))) = f6v_15 F (Rf6vl1 ∘ ef6vl1) (Rf6vj10 ∘ ef6vj10) v :=
  seq_cut (by kernel_rfl) (by kernel_rfl) ef6vl1 ef6vj7 _ (fun k => f6v_8 F k (Rf6vl1 ∘ ef6vl1) (Rf6vj10 ∘ ef6vj10)) (f6v_14 F (Rf6vl1 ∘ ef6vl1) (Rf6vj10 ∘ ef6vj10))
    (fun Rf6vj7 => f6v_8_eq F Rf6vj7 Rf6vl1 Rf6vj10) (f6v_14_eq F Rf6vl1 Rf6vj10)
def f6v_16_i : Ty62 → Int × (List (List (List Int))) × Nat × (List Int) × Bool × Int × (Dk.D) × (Dk.R) := fun (t0,t1,x3,t2,t7,t11,e1,e2) => (t0,t1,x3,t2,t7,t11,e1,e2)
def f6v_16 (F : Nat) (kf6vj10 : Ty63 → Rz) : Ty62 → Rz := fun v => loopN (fun k => f6v_15 F k kf6vj10) F (f6v_16_i v)
theorem f6v_16_eq (F : Nat) (Rf6vj10 : St → Rz) : ∀ v,aexec VG356v (Af6v F) (bp Try.f6 250) (ef6vj6 v) (kBlock 0 (kSeq (kc VG356v Rf6vj10 sp40) (kFin VG356v none (Try.f6).results.toList))) = f6v_16 F (Rf6vj10 ∘ ef6vj10) v :=
  loop_cut (by kernel_rfl) (by kernel_rfl) ef6vj6 ef6vl1 _ f6v_16_i (fun k => f6v_15 F k (Rf6vj10 ∘ ef6vj10))
    (by rintro ⟨t0,t1,x3,t2,t7,t11,e1,e2⟩; kernel_rfl) (fun Rf6vl1 => f6v_15_eq F Rf6vl1 Rf6vj10)
def f6v_17 (F : Nat) (kf6vj10 : Ty63 → Rz) : Ty62 → Rz := f6v_16 F kf6vj10
theorem f6v_17_eq (F : Nat) (Rf6vj10 : St → Rz) : ∀ v,aexec VG356v (Af6v F) (bp Try.f6 125) (ef6vj6 v) (kSeq (kc VG356v Rf6vj10 sp40) (kFin VG356v none (Try.f6).results.toList)) = f6v_17 F (Rf6vj10 ∘ ef6vj10) v := fun v =>
  (block_in  (by kernel_rfl) _ _).trans (f6v_16_eq F Rf6vj10 v)
def f6v_18 (F : Nat) (kf6vj10 : Ty63 → Rz) : Ty61 → Rz := fun v => f6v_7 F (f6v_17 F kf6vj10) kf6vj10 v
theorem f6v_18_eq (F : Nat) (Rf6vj10 : St → Rz) : ∀ v,aexec VG356v (Af6v F) (bp Try.f6 62) (ef6vj5 v) (kSeq (kc VG356v Rf6vj10 sp40) (kFin VG356v none (Try.f6).results.toList)) = f6v_18 F (Rf6vj10 ∘ ef6vj10) v :=
  seq_cut (by kernel_rfl) (by kernel_rfl) ef6vj5 ef6vj6 _ (fun k => f6v_7 F k (Rf6vj10 ∘ ef6vj10)) (f6v_17 F (Rf6vj10 ∘ ef6vj10))
    (fun Rf6vj6 => f6v_7_eq F Rf6vj6 Rf6vj10) (f6v_17_eq F Rf6vj10)
def f6v_19 (F : Nat) (kf6vj11 : Ty64 → Rz) : Ty63 → Rz := fun (t0,t2,t7,e1,e2) => (cond (decide (e1.blk.length = e1.n * 64 ∧ e1.n < 8000)) (kf6vj11 (t0,t2,t7,(Dk.image e1),e1,e2)) none)
theorem f6v_19_eq (F : Nat) (Rf6vj11 : St → Rz) : ∀ v,aexec VG356v (Af6v F) (bp Try.f6 126) (ef6vj10 v) (kSeq (kc VG356v Rf6vj11 sp41) (kFin VG356v none (Try.f6).results.toList)) = f6v_19 F (Rf6vj11 ∘ ef6vj11) v := by
  rintro ⟨t0,t2,t7,e1,e2⟩; kernel_rfl
def f6v_20 (F : Nat) (kf6vj12 : Ty64 → Rz) : Ty64 → Rz := fun (t0,t2,t7,t12,e1,e2) => (cond (Dk.fine e1) (kf6vj12 (t0,t2,t7,t12,(Dk.mount e1 t2),e2)) none)
theorem f6v_20_eq (F : Nat) (Rf6vj12 : St → Rz) : ∀ v,aexec VG356v (Af6v F) (bp Try.f6 254) (ef6vj11 v) (kSeq (kc VG356v Rf6vj12 sp41) (kFin VG356v none (Try.f6).results.toList)) = f6v_20 F (Rf6vj12 ∘ ef6vj12) v := by
  rintro ⟨t0,t2,t7,t12,e1,e2⟩; kernel_rfl
def f6v_21 (F : Nat) (kf6vj13 : Ty65 → Rz) : Ty64 → Rz := fun (t0,t2,t7,t12,e1,e2) => (cond (decide (e1.blk.length = e1.n * 64 ∧ e1.n < 8000)) (kf6vj13 (t0,t2,t7,t12,(Dk.image e1),e1,e2)) none)
theorem f6v_21_eq (F : Nat) (Rf6vj13 : St → Rz) : ∀ v,aexec VG356v (Af6v F) (bp Try.f6 510) (ef6vj12 v) (kSeq (kc VG356v Rf6vj13 sp42) (kFin VG356v none (Try.f6).results.toList)) = f6v_21 F (Rf6vj13 ∘ ef6vj13) v := by
  rintro ⟨t0,t2,t7,t12,e1,e2⟩; kernel_rfl
def f6v_22 (F : Nat) (kf6vj14 : Ty66 → Rz) (kf6vj15 : Ty67 → Rz) : Ty65 → Rz := fun (t0,t2,t7,t12,t13,e1,e2) => (cond ((↑t12.length : Int) != t0) (kf6vj14 (t0,t2,t7,t12,t13,true,e2)) (cond ((↑t13.length : Int) != t0) (kf6vj14 (t0,t2,t7,t12,t13,true,e2)) (cond (decide (e1.pend.length < 1073741824)) (cond ((↑(Dk.pending e1).length : Int) != (0 : Int)) (kf6vj14 (t0,t2,t7,t12,t13,true,e2)) (kf6vj14 (t0,t2,t7,t12,t13,(!(!e1.off)),e2))) none)))
theorem f6v_22_eq (F : Nat) (Rf6vj14 : St → Rz) (Rf6vj15 : St → Rz) : ∀ v,aexec VG356v (Af6v F) (bp Try.f6 2044) (ef6vj13 v) (kSeq (kc VG356v Rf6vj14 sp43) (kSeq (kc VG356v Rf6vj15 sp44) (kFin VG356v none (Try.f6).results.toList))) = f6v_22 F (Rf6vj14 ∘ ef6vj14) (Rf6vj15 ∘ ef6vj15) v := by
  rintro ⟨t0,t2,t7,t12,t13,e1,e2⟩; kernel_rfl
def f6v_23 (F : Nat) (kf6vj15 : Ty67 → Rz) : Ty66 → Rz := fun (t0,t2,t7,t12,t13,t90,e1) => (cond t90 (some ((.bool false),[])) (kf6vj15 (t0,t2,t7,t12,t13,e1)))
theorem f6v_23_eq (F : Nat) (Rf6vj15 : St → Rz) : ∀ v,aexec VG356v (Af6v F) (bp Try.f6 2045) (ef6vj14 v) (kSeq (kc VG356v Rf6vj15 sp44) (kFin VG356v none (Try.f6).results.toList)) = f6v_23 F (Rf6vj15 ∘ ef6vj15) v := by
  rintro ⟨t0,t2,t7,t12,t13,t90,e1⟩; kernel_rfl
def f6v_24 (F : Nat) (kf6vj15 : Ty67 → Rz) : Ty65 → Rz := fun v => f6v_22 F (f6v_23 F kf6vj15) kf6vj15 v
theorem f6v_24_eq (F : Nat) (Rf6vj15 : St → Rz) : ∀ v,aexec VG356v (Af6v F) (bp Try.f6 1022) (ef6vj13 v) (kSeq (kc VG356v Rf6vj15 sp44) (kFin VG356v none (Try.f6).results.toList)) = f6v_24 F (Rf6vj15 ∘ ef6vj15) v :=
  seq_cut (by kernel_rfl) (by kernel_rfl) ef6vj13 ef6vj14 _ (fun k => f6v_22 F k (Rf6vj15 ∘ ef6vj15)) (f6v_23 F (Rf6vj15 ∘ ef6vj15))
    (fun Rf6vj14 => f6v_22_eq F Rf6vj14 Rf6vj15) (f6v_23_eq F Rf6vj15)
def f6v_25 (F : Nat) (kf6vj16 : Ty68 → Rz) : Ty67 → Rz := fun (t0,t2,t7,t12,t13,e1) => (kf6vj16 (t0,t2,t7,t12,t13,(0 : Int),e1))
theorem f6v_25_eq (F : Nat) (Rf6vj16 : St → Rz) : ∀ v,aexec VG356v (Af6v F) (bp Try.f6 2046) (ef6vj15 v) (kSeq (kc VG356v Rf6vj16 sp45) (kFin VG356v none (Try.f6).results.toList)) = f6v_25 F (Rf6vj16 ∘ ef6vj16) v := by
  rintro ⟨t0,t2,t7,t12,t13,e1⟩; kernel_rfl
def f6v_26 (F : Nat) (kf6vj17 : Ty69 → Rz) (kf6vj31 : Bool → Rz) : Ty68 → Rz := fun (t0,t2,t7,t12,t13,t14,e1) => (kf6vj17 (t0,t2,t7,t12,t13,t14,(0 : Int),e1))
theorem f6v_26_eq (F : Nat) (Rf6vj17 : St → Rz) (Rf6vj31 : St → Rz) : ∀ v,aexec VG356v (Af6v F) (bp Try.f6 8188) (ef6vj16 v) (kSeq (kc VG356v Rf6vj17 sp37) (kSeq (kc VG356v Rf6vj31 [(7,.plain)]) (kFin VG356v none (Try.f6).results.toList))) = f6v_26 F (Rf6vj17 ∘ ef6vj17) (Rf6vj31 ∘ ef6vj31) v := by
  rintro ⟨t0,t2,t7,t12,t13,t14,e1⟩; kernel_rfl
def f6v_27 (F : Nat) (kf6vj18 : Ty69 → Rz) (kf6vl2 : Ty69 → Rz) (kf6vj31 : Bool → Rz) : Ty69 → Rz := fun (t0,t2,t7,t12,t13,t14,t15,e1) => (cond (decide (t15 < t0)) (kf6vj18 (t0,t2,t7,t12,t13,t14,t15,e1)) (kf6vj31 t7))
theorem f6v_27_eq (F : Nat) (Rf6vj18 : St → Rz) (Rf6vl2 : St → Rz) (Rf6vj31 : St → Rz) : ∀ v,aexec VG356v (Af6v F) (bp Try.f6 65512) (ef6vl2 v) (kSeq (kc VG356v Rf6vj18 sp37) (kSeq (kc VG356v Rf6vl2 sp37) (kBlock 2 (kSeq (kc VG356v Rf6vj31 [(7,.plain)]) (kFin VG356v none (Try.f6).results.toList))))) = f6v_27 F (Rf6vj18 ∘ ef6vj18) (Rf6vl2 ∘ ef6vl2) (Rf6vj31 ∘ ef6vj31) v := by
  rintro ⟨t0,t2,t7,t12,t13,t14,t15,e1⟩; kernel_rfl
def f6v_28 (F : Nat) (kf6vj19 : Ty70 → Rz) (kf6vj30 : Ty69 → Rz) (kf6vl2 : Ty69 → Rz) (kf6vj31 : Bool → Rz) : Ty69 → Rz := fun (t0,t2,t7,t12,t13,t14,t15,e1) => (cond ((decide (0 ≤ t15)) && (decide (t15 < (↑e1.s.length : Int)))) (kf6vj19 (t0,t2,t7,t12,t13,t14,t15,((e1.s.getD (Int.toNat t15) []).getD 0 []),((e1.s.getD (Int.toNat t15) []).getD 1 []),((((e1.s.getD (Int.toNat t15) []).getD 2 []).getD 0 0) == 1),((((e1.s.getD (Int.toNat t15) []).getD 3 []).getD 0 0) == 1),e1)) none)
theorem f6v_28_eq (F : Nat) (Rf6vj19 : St → Rz) (Rf6vj30 : St → Rz) (Rf6vl2 : St → Rz) (Rf6vj31 : St → Rz) : ∀ v,aexec VG356v (Af6v F) (bp Try.f6 524104) (ef6vj18 v) (kSeq (kc VG356v Rf6vj19 sp46) (kBlock 3 (kSeq (kc VG356v Rf6vj30 sp37) (kSeq (kc VG356v Rf6vl2 sp37) (kBlock 2 (kSeq (kc VG356v Rf6vj31 [(7,.plain)]) (kFin VG356v none (Try.f6).results.toList))))))) = f6v_28 F (Rf6vj19 ∘ ef6vj19) (Rf6vj30 ∘ ef6vj30) (Rf6vl2 ∘ ef6vl2) (Rf6vj31 ∘ ef6vj31) v := by
  rintro ⟨t0,t2,t7,t12,t13,t14,t15,e1⟩; kernel_rfl
def f6v_29 (F : Nat) (kf6vj20 : Ty71 → Rz) (kf6vj30 : Ty69 → Rz) (kf6vl2 : Ty69 → Rz) (kf6vj31 : Bool → Rz) : Ty70 → Rz := fun (t0,t2,t7,t12,t13,t14,t15,x11,x12,x13,x14,e1) => (kf6vj20 (t0,t2,t7,t12,t13,t14,t15,(0 : Int),x11,x12,x13,x14,e1))
theorem f6v_29_eq (F : Nat) (Rf6vj20 : St → Rz) (Rf6vj30 : St → Rz) (Rf6vl2 : St → Rz) (Rf6vj31 : St → Rz) : ∀ v,aexec VG356v (Af6v F) (bp Try.f6 1048210) (ef6vj19 v) (kSeq (kc VG356v Rf6vj20 sp47) (kBlock 3 (kSeq (kc VG356v Rf6vj30 sp37) (kSeq (kc VG356v Rf6vl2 sp37) (kBlock 2 (kSeq (kc VG356v Rf6vj31 [(7,.plain)]) (kFin VG356v none (Try.f6).results.toList))))))) = f6v_29 F (Rf6vj20 ∘ ef6vj20) (Rf6vj30 ∘ ef6vj30) (Rf6vl2 ∘ ef6vl2) (Rf6vj31 ∘ ef6vj31) v := by
  rintro ⟨t0,t2,t7,t12,t13,t14,t15,x11,x12,x13,x14,e1⟩; kernel_rfl
def f6v_30 (F : Nat) (kf6vj21 : Ty72 → Rz) (kf6vj25 : Ty71 → Rz) (kf6vj30 : Ty69 → Rz) (kf6vl2 : Ty69 → Rz) (kf6vj31 : Bool → Rz) : Ty71 → Rz := fun (t0,t2,t7,t12,t13,t14,t15,t17,x12,x13,x14,x15,e1) => (kf6vj21 (t0,t2,t7,t12,t13,t14,t15,t17,x14,x12,x13,x14,x15,e1))
theorem f6v_30_eq (F : Nat) (Rf6vj21 : St → Rz) (Rf6vj25 : St → Rz) (Rf6vj30 : St → Rz) (Rf6vl2 : St → Rz) (Rf6vj31 : St → Rz) : ∀ v,aexec VG356v (Af6v F) (bp Try.f6 4192844) (ef6vj20 v) (kSeq (kc VG356v Rf6vj21 sp48) (kSeq (kc VG356v Rf6vj25 sp47) (kBlock 3 (kSeq (kc VG356v Rf6vj30 sp37) (kSeq (kc VG356v Rf6vl2 sp37) (kBlock 2 (kSeq (kc VG356v Rf6vj31 [(7,.plain)]) (kFin VG356v none (Try.f6).results.toList)))))))) = f6v_30 F (Rf6vj21 ∘ ef6vj21) (Rf6vj25 ∘ ef6vj25) (Rf6vj30 ∘ ef6vj30) (Rf6vl2 ∘ ef6vl2) (Rf6vj31 ∘ ef6vj31) v := by
  rintro ⟨t0,t2,t7,t12,t13,t14,t15,t17,x12,x13,x14,x15,e1⟩; kernel_rfl
def f6v_31 (F : Nat) (kf6vj22 : Ty71 → Rz) (kf6vj25 : Ty71 → Rz) (kf6vj30 : Ty69 → Rz) (kf6vl2 : Ty69 → Rz) (kf6vj31 : Bool → Rz) : Ty72 → Rz := fun (t0,t2,t7,t12,t13,t14,t15,t17,t104,x13,x14,x15,x16,e1) => (kf6vj22 (t0,t2,t7,t12,t13,t14,t15,(64 : Int),x13,x14,x15,x16,e1))
theorem f6v_31_eq (F : Nat) (Rf6vj22 : St → Rz) (Rf6vj25 : St → Rz) (Rf6vj30 : St → Rz) (Rf6vl2 : St → Rz) (Rf6vj31 : St → Rz) : ∀ v,aexec VG356v (Af6v F) (bp Try.f6 16771380) (ef6vj21 v) (kSeq (kc VG356v Rf6vj22 sp47) (kSeq (kc VG356v Rf6vj25 sp47) (kBlock 3 (kSeq (kc VG356v Rf6vj30 sp37) (kSeq (kc VG356v Rf6vl2 sp37) (kBlock 2 (kSeq (kc VG356v Rf6vj31 [(7,.plain)]) (kFin VG356v none (Try.f6).results.toList)))))))) = f6v_31 F (Rf6vj22 ∘ ef6vj22) (Rf6vj25 ∘ ef6vj25) (Rf6vj30 ∘ ef6vj30) (Rf6vl2 ∘ ef6vl2) (Rf6vj31 ∘ ef6vj31) v := by
  rintro ⟨t0,t2,t7,t12,t13,t14,t15,t17,t104,x13,x14,x15,x16,e1⟩; kernel_rfl
def f6v_32 (F : Nat) (kf6vj23 : Ty72 → Rz) (kf6vj24 : Ty71 → Rz) (kf6vj25 : Ty71 → Rz) (kf6vj30 : Ty69 → Rz) (kf6vl2 : Ty69 → Rz) (kf6vj31 : Bool → Rz) : Ty71 → Rz := fun (t0,t2,t7,t12,t13,t14,t15,t17,x12,x13,x14,x15,e1) => (kf6vj23 (t0,t2,t7,t12,t13,t14,t15,t17,(decide (t14 < (↑t2.length : Int))),x12,x13,x14,x15,e1))
theorem f6v_32_eq (F : Nat) (Rf6vj23 : St → Rz) (Rf6vj24 : St → Rz) (Rf6vj25 : St → Rz) (Rf6vj30 : St → Rz) (Rf6vl2 : St → Rz) (Rf6vj31 : St → Rz) : ∀ v,aexec VG356v (Af6v F) (bp Try.f6 67085524) (ef6vj22 v) (kSeq (kc VG356v Rf6vj23 sp49) (kSeq (kc VG356v Rf6vj24 sp47) (kSeq (kc VG356v Rf6vj25 sp47) (kBlock 3 (kSeq (kc VG356v Rf6vj30 sp37) (kSeq (kc VG356v Rf6vl2 sp37) (kBlock 2 (kSeq (kc VG356v Rf6vj31 [(7,.plain)]) (kFin VG356v none (Try.f6).results.toList))))))))) = f6v_32 F (Rf6vj23 ∘ ef6vj23) (Rf6vj24 ∘ ef6vj24) (Rf6vj25 ∘ ef6vj25) (Rf6vj30 ∘ ef6vj30) (Rf6vl2 ∘ ef6vl2) (Rf6vj31 ∘ ef6vj31) v := by
  rintro ⟨t0,t2,t7,t12,t13,t14,t15,t17,x12,x13,x14,x15,e1⟩; kernel_rfl
def f6v_33 (F : Nat) (kf6vj24 : Ty71 → Rz) (kf6vj25 : Ty71 → Rz) (kf6vj30 : Ty69 → Rz) (kf6vl2 : Ty69 → Rz) (kf6vj31 : Bool → Rz) : Ty72 → Rz := fun (t0,t2,t7,t12,t13,t14,t15,t17,t108,x13,x14,x15,x16,e1) => (cond t108 (cond ((decide (0 ≤ t14)) && (decide (t14 < (↑t2.length : Int)))) (kf6vj24 (t0,t2,t7,t12,t13,t14,t15,(if (if (64 : Int) < (t2.getD (Int.toNat t14) 0) then (64 : Int) else (t2.getD (Int.toNat t14) 0)) > (0 : Int) then (if (64 : Int) < (t2.getD (Int.toNat t14) 0) then (64 : Int) else (t2.getD (Int.toNat t14) 0)) else (0 : Int)),x13,x14,x15,x16,e1)) none) (kf6vj24 (t0,t2,t7,t12,t13,t14,t15,t17,x13,x14,x15,x16,e1)))
theorem f6v_33_eq (F : Nat) (Rf6vj24 : St → Rz) (Rf6vj25 : St → Rz) (Rf6vj30 : St → Rz) (Rf6vl2 : St → Rz) (Rf6vj31 : St → Rz) : ∀ v,aexec VG356v (Af6v F) (bp Try.f6 67085525) (ef6vj23 v) (kSeq (kc VG356v Rf6vj24 sp47) (kSeq (kc VG356v Rf6vj25 sp47) (kBlock 3 (kSeq (kc VG356v Rf6vj30 sp37) (kSeq (kc VG356v Rf6vl2 sp37) (kBlock 2 (kSeq (kc VG356v Rf6vj31 [(7,.plain)]) (kFin VG356v none (Try.f6).results.toList)))))))) = f6v_33 F (Rf6vj24 ∘ ef6vj24) (Rf6vj25 ∘ ef6vj25) (Rf6vj30 ∘ ef6vj30) (Rf6vl2 ∘ ef6vl2) (Rf6vj31 ∘ ef6vj31) v := by
  rintro ⟨t0,t2,t7,t12,t13,t14,t15,t17,t108,x13,x14,x15,x16,e1⟩; kernel_rfl
def f6v_34 (F : Nat) (kf6vj24 : Ty71 → Rz) (kf6vj25 : Ty71 → Rz) (kf6vj30 : Ty69 → Rz) (kf6vl2 : Ty69 → Rz) (kf6vj31 : Bool → Rz) : Ty71 → Rz := fun v => f6v_32 F (f6v_33 F kf6vj24 kf6vj25 kf6vj30 kf6vl2 kf6vj31) kf6vj24 kf6vj25 kf6vj30 kf6vl2 kf6vj31 v
theorem f6v_34_eq (F : Nat) (Rf6vj24 : St → Rz) (Rf6vj25 : St → Rz) (Rf6vj30 : St → Rz) (Rf6vl2 : St → Rz) (Rf6vj31 : St → Rz) : ∀ v,aexec VG356v (Af6v F) (bp Try.f6 33542762) (ef6vj22 v) (kSeq (kc VG356v Rf6vj24 sp47) (kSeq (kc VG356v Rf6vj25 sp47) (kBlock 3 (kSeq (kc VG356v Rf6vj30 sp37) (kSeq (kc VG356v Rf6vl2 sp37) (kBlock 2 (kSeq (kc VG356v Rf6vj31 [(7,.plain)]) (kFin VG356v none (Try.f6).results.toList)))))))) = f6v_34 F (Rf6vj24 ∘ ef6vj24) (Rf6vj25 ∘ ef6vj25) (Rf6vj30 ∘ ef6vj30) (Rf6vl2 ∘ ef6vl2) (Rf6vj31 ∘ ef6vj31) v :=
  seq_cut (by kernel_rfl) (by kernel_rfl) ef6vj22 ef6vj23 _ (fun k => f6v_32 F k (Rf6vj24 ∘ ef6vj24) (Rf6vj25 ∘ ef6vj25) (Rf6vj30 ∘ ef6vj30) (Rf6vl2 ∘ ef6vl2) (Rf6vj31 ∘ ef6vj31)) (f6v_33 F (Rf6vj24 ∘ ef6vj24) (Rf6vj25 ∘ ef6vj25) (Rf6vj30 ∘ ef6vj30) (Rf6vl2 ∘ ef6vl2) (Rf6vj31 ∘ ef6vj31))
    (fun Rf6vj23 => f6v_32_eq F Rf6vj23 Rf6vj24 Rf6vj25 Rf6vj30 Rf6vl2 Rf6vj31) (f6v_33_eq F Rf6vj24 Rf6vj25 Rf6vj30 Rf6vl2 Rf6vj31)
def f6v_35 (F : Nat) (kf6vj25 : Ty71 → Rz) (kf6vj30 : Ty69 → Rz) (kf6vl2 : Ty69 → Rz) (kf6vj31 : Bool → Rz) : Ty71 → Rz := fun (t0,t2,t7,t12,t13,t14,t15,t17,x12,x13,x14,x15,e1) => (kf6vj25 (t0,t2,t7,t12,t13,(IntKind.i64.wrap (t14 + (1 : Int))),t15,t17,x12,x13,x14,x15,e1))
theorem f6v_35_eq (F : Nat) (Rf6vj25 : St → Rz) (Rf6vj30 : St → Rz) (Rf6vl2 : St → Rz) (Rf6vj31 : St → Rz) : ∀ v,aexec VG356v (Af6v F) (bp Try.f6 33542763) (ef6vj24 v) (kSeq (kc VG356v Rf6vj25 sp47) (kBlock 3 (kSeq (kc VG356v Rf6vj30 sp37) (kSeq (kc VG356v Rf6vl2 sp37) (kBlock 2 (kSeq (kc VG356v Rf6vj31 [(7,.plain)]) (kFin VG356v none (Try.f6).results.toList))))))) = f6v_35 F (Rf6vj25 ∘ ef6vj25) (Rf6vj30 ∘ ef6vj30) (Rf6vl2 ∘ ef6vl2) (Rf6vj31 ∘ ef6vj31) v := by
  rintro ⟨t0,t2,t7,t12,t13,t14,t15,t17,x12,x13,x14,x15,e1⟩; kernel_rfl
def f6v_36 (F : Nat) (kf6vj25 : Ty71 → Rz) (kf6vj30 : Ty69 → Rz) (kf6vl2 : Ty69 → Rz) (kf6vj31 : Bool → Rz) : Ty71 → Rz := fun v => f6v_34 F (f6v_35 F kf6vj25 kf6vj30 kf6vl2 kf6vj31) kf6vj25 kf6vj30 kf6vl2 kf6vj31 v
theorem f6v_36_eq (F : Nat) (Rf6vj25 : St → Rz) (Rf6vj30 : St → Rz) (Rf6vl2 : St → Rz) (Rf6vj31 : St → Rz) : ∀ v,aexec VG356v (Af6v F) (bp Try.f6 16771381) (ef6vj22 v) (kSeq (kc VG356v Rf6vj25 sp47) (kBlock 3 (kSeq (kc VG356v Rf6vj30 sp37) (kSeq (kc VG356v Rf6vl2 sp37) (kBlock 2 (kSeq (kc VG356v Rf6vj31 [(7,.plain)]) (kFin VG356v none (Try.f6).results.toList))))))) = f6v_36 F (Rf6vj25 ∘ ef6vj25) (Rf6vj30 ∘ ef6vj30) (Rf6vl2 ∘ ef6vl2) (Rf6vj31 ∘ ef6vj31) v :=
  seq_cut (by kernel_rfl) (by kernel_rfl) ef6vj22 ef6vj24 _ (fun k => f6v_34 F k (Rf6vj25 ∘ ef6vj25) (Rf6vj30 ∘ ef6vj30) (Rf6vl2 ∘ ef6vl2) (Rf6vj31 ∘ ef6vj31)) (f6v_35 F (Rf6vj25 ∘ ef6vj25) (Rf6vj30 ∘ ef6vj30) (Rf6vl2 ∘ ef6vl2) (Rf6vj31 ∘ ef6vj31))
    (fun Rf6vj24 => f6v_34_eq F Rf6vj24 Rf6vj25 Rf6vj30 Rf6vl2 Rf6vj31) (f6v_35_eq F Rf6vj25 Rf6vj30 Rf6vl2 Rf6vj31)
def f6v_37 (F : Nat) (kf6vj25 : Ty71 → Rz) (kf6vj30 : Ty69 → Rz) (kf6vl2 : Ty69 → Rz) (kf6vj31 : Bool → Rz) : Ty72 → Rz := fun v => f6v_31 F (f6v_36 F kf6vj25 kf6vj30 kf6vl2 kf6vj31) kf6vj25 kf6vj30 kf6vl2 kf6vj31 v
theorem f6v_37_eq (F : Nat) (Rf6vj25 : St → Rz) (Rf6vj30 : St → Rz) (Rf6vl2 : St → Rz) (Rf6vj31 : St → Rz) : ∀ v,aexec VG356v (Af6v F) (bp Try.f6 8385690) (ef6vj21 v) (kSeq (kc VG356v Rf6vj25 sp47) (kBlock 3 (kSeq (kc VG356v Rf6vj30 sp37) (kSeq (kc VG356v Rf6vl2 sp37) (kBlock 2 (kSeq (kc VG356v Rf6vj31 [(7,.plain)]) (kFin VG356v none (Try.f6).results.toList))))))) = f6v_37 F (Rf6vj25 ∘ ef6vj25) (Rf6vj30 ∘ ef6vj30) (Rf6vl2 ∘ ef6vl2) (Rf6vj31 ∘ ef6vj31) v :=
  seq_cut (by kernel_rfl) (by kernel_rfl) ef6vj21 ef6vj22 _ (fun k => f6v_31 F k (Rf6vj25 ∘ ef6vj25) (Rf6vj30 ∘ ef6vj30) (Rf6vl2 ∘ ef6vl2) (Rf6vj31 ∘ ef6vj31)) (f6v_36 F (Rf6vj25 ∘ ef6vj25) (Rf6vj30 ∘ ef6vj30) (Rf6vl2 ∘ ef6vl2) (Rf6vj31 ∘ ef6vj31))
    (fun Rf6vj22 => f6v_31_eq F Rf6vj22 Rf6vj25 Rf6vj30 Rf6vl2 Rf6vj31) (f6v_36_eq F Rf6vj25 Rf6vj30 Rf6vl2 Rf6vj31)
def f6v_38 (F : Nat) (kf6vj25 : Ty71 → Rz) (kf6vj30 : Ty69 → Rz) (kf6vl2 : Ty69 → Rz) (kf6vj31 : Bool → Rz) : Ty72 → Rz := fun (t0,t2,t7,t12,t13,t14,t15,t17,t104,x13,x14,x15,x16,e1) => (kf6vj25 (t0,t2,t7,t12,t13,t14,t15,t17,x13,x14,x15,x16,e1))
theorem f6v_38_eq (F : Nat) (Rf6vj25 : St → Rz) (Rf6vj30 : St → Rz) (Rf6vl2 : St → Rz) (Rf6vj31 : St → Rz) : ∀ v,aexec VG356v (Af6v F) (bp Try.f6 8385691) (ef6vj21 v) (kSeq (kc VG356v Rf6vj25 sp47) (kBlock 3 (kSeq (kc VG356v Rf6vj30 sp37) (kSeq (kc VG356v Rf6vl2 sp37) (kBlock 2 (kSeq (kc VG356v Rf6vj31 [(7,.plain)]) (kFin VG356v none (Try.f6).results.toList))))))) = f6v_38 F (Rf6vj25 ∘ ef6vj25) (Rf6vj30 ∘ ef6vj30) (Rf6vl2 ∘ ef6vl2) (Rf6vj31 ∘ ef6vj31) v := by
  rintro ⟨t0,t2,t7,t12,t13,t14,t15,t17,t104,x13,x14,x15,x16,e1⟩; kernel_rfl
def f6v_39 (F : Nat) (kf6vj25 : Ty71 → Rz) (kf6vj30 : Ty69 → Rz) (kf6vl2 : Ty69 → Rz) (kf6vj31 : Bool → Rz) : Ty72 → Rz := fun v => cond ((fun (t0,t2,t7,t12,t13,t14,t15,t17,t104,x13,x14,x15,x16,e1) => t104) v) (f6v_37 F kf6vj25 kf6vj30 kf6vl2 kf6vj31 v) (f6v_38 F kf6vj25 kf6vj30 kf6vl2 kf6vj31 v)
theorem f6v_39_eq (F : Nat) (Rf6vj25 : St → Rz) (Rf6vj30 : St → Rz) (Rf6vl2 : St → Rz) (Rf6vj31 : St → Rz) : ∀ v,aexec VG356v (Af6v F) (bp Try.f6 4192845) (ef6vj21 v) (kSeq (kc VG356v Rf6vj25 sp47) (kBlock 3 (kSeq (kc VG356v Rf6vj30 sp37) (kSeq (kc VG356v Rf6vl2 sp37) (kBlock 2 (kSeq (kc VG356v Rf6vj31 [(7,.plain)]) (kFin VG356v none (Try.f6).results.toList))))))) = f6v_39 F (Rf6vj25 ∘ ef6vj25) (Rf6vj30 ∘ ef6vj30) (Rf6vl2 ∘ ef6vl2) (Rf6vj31 ∘ ef6vj31) v :=
  cond_in (o := .tmp 104) (by kernel_rfl) ef6vj21 _ (fun (t0,t2,t7,t12,t13,t14,t15,t17,t104,x13,x14,x15,x16,e1) => t104) (by rintro ⟨t0,t2,t7,t12,t13,t14,t15,t17,t104,x13,x14,x15,x16,e1⟩; kernel_rfl) _ _ (f6v_37_eq F Rf6vj25 Rf6vj30 Rf6vl2 Rf6vj31) (f6v_38_eq F Rf6vj25 Rf6vj30 Rf6vl2 Rf6vj31)
def f6v_40 (F : Nat) (kf6vj25 : Ty71 → Rz) (kf6vj30 : Ty69 → Rz) (kf6vl2 : Ty69 → Rz) (kf6vj31 : Bool → Rz) : Ty71 → Rz := fun v => f6v_30 F (f6v_39 F kf6vj25 kf6vj30 kf6vl2 kf6vj31) kf6vj25 kf6vj30 kf6vl2 kf6vj31 v
theorem f6v_40_eq (F : Nat) (Rf6vj25 : St → Rz) (Rf6vj30 : St → Rz) (Rf6vl2 : St → Rz) (Rf6vj31 : St → Rz) : ∀ v,aexec VG356v (Af6v F) (bp Try.f6 2096422) (ef6vj20 v) (kSeq (kc VG356v Rf6vj25 sp47) (kBlock 3 (kSeq (kc VG356v Rf6vj30 sp37) (kSeq (kc VG356v Rf6vl2 sp37) (kBlock 2 (kSeq (kc VG356v Rf6vj31 [(7,.plain)]) (kFin VG356v none (Try.f6).results.toList))))))) = f6v_40 F (Rf6vj25 ∘ ef6vj25) (Rf6vj30 ∘ ef6vj30) (Rf6vl2 ∘ ef6vl2) (Rf6vj31 ∘ ef6vj31) v :=
  seq_cut (by kernel_rfl) (by kernel_rfl) ef6vj20 ef6vj21 _ (fun k => f6v_30 F k (Rf6vj25 ∘ ef6vj25) (Rf6vj30 ∘ ef6vj30) (Rf6vl2 ∘ ef6vl2) (Rf6vj31 ∘ ef6vj31)) (f6v_39 F (Rf6vj25 ∘ ef6vj25) (Rf6vj30 ∘ ef6vj30) (Rf6vl2 ∘ ef6vl2) (Rf6vj31 ∘ ef6vj31))
    (fun Rf6vj21 => f6v_30_eq F Rf6vj21 Rf6vj25 Rf6vj30 Rf6vl2 Rf6vj31) (f6v_39_eq F Rf6vj25 Rf6vj30 Rf6vl2 Rf6vj31)
def f6v_41 (F : Nat) (kf6vj26 : Ty73 → Rz) (kf6vj30 : Ty69 → Rz) (kf6vl2 : Ty69 → Rz) (kf6vj31 : Bool → Rz) : Ty71 → Rz := fun (t0,t2,t7,t12,t13,t14,t15,t17,x12,x13,x14,x15,e1) => (cond ((decide (0 ≤ t15)) && (decide (t15 < (↑t12.length : Int)))) (kf6vj26 (t0,t2,t7,t12,t13,t14,t15,t17,(t12.getD (Int.toNat t15) []),x12,x13,x14,x15,e1)) none)
theorem f6v_41_eq (F : Nat) (Rf6vj26 : St → Rz) (Rf6vj30 : St → Rz) (Rf6vl2 : St → Rz) (Rf6vj31 : St → Rz) : ∀ v,aexec VG356v (Af6v F) (bp Try.f6 4192846) (ef6vj25 v) (kSeq (kc VG356v Rf6vj26 sp50) (kBlock 3 (kSeq (kc VG356v Rf6vj30 sp37) (kSeq (kc VG356v Rf6vl2 sp37) (kBlock 2 (kSeq (kc VG356v Rf6vj31 [(7,.plain)]) (kFin VG356v none (Try.f6).results.toList))))))) = f6v_41 F (Rf6vj26 ∘ ef6vj26) (Rf6vj30 ∘ ef6vj30) (Rf6vl2 ∘ ef6vl2) (Rf6vj31 ∘ ef6vj31) v := by
  rintro ⟨t0,t2,t7,t12,t13,t14,t15,t17,x12,x13,x14,x15,e1⟩; kernel_rfl
def f6v_42 (F : Nat) (kf6vj27 : Ty74 → Rz) (kf6vj28 : Ty75 → Rz) (kf6vj30 : Ty69 → Rz) (kf6vl2 : Ty69 → Rz) (kf6vj31 : Bool → Rz) : Ty73 → Rz := fun (t0,t2,t7,t12,t13,t14,t15,t17,t18,x13,x14,x15,x16,e1) => (cond x15 (kf6vj27 (t0,t2,t7,t12,t13,t14,t15,t17,t18,(!x16),x13,x14,x15,x16,e1)) (kf6vj27 (t0,t2,t7,t12,t13,t14,t15,t17,t18,false,x13,x14,x15,x16,e1)))
theorem f6v_42_eq (F : Nat) (Rf6vj27 : St → Rz) (Rf6vj28 : St → Rz) (Rf6vj30 : St → Rz) (Rf6vl2 : St → Rz) (Rf6vj31 : St → Rz) : ∀ v,aexec VG356v (Af6v F) (bp Try.f6 16771388) (ef6vj26 v) (kSeq (kc VG356v Rf6vj27 sp51) (kSeq (kc VG356v Rf6vj28 sp52) (kBlock 3 (kSeq (kc VG356v Rf6vj30 sp37) (kSeq (kc VG356v Rf6vl2 sp37) (kBlock 2 (kSeq (kc VG356v Rf6vj31 [(7,.plain)]) (kFin VG356v none (Try.f6).results.toList)))))))) = f6v_42 F (Rf6vj27 ∘ ef6vj27) (Rf6vj28 ∘ ef6vj28) (Rf6vj30 ∘ ef6vj30) (Rf6vl2 ∘ ef6vl2) (Rf6vj31 ∘ ef6vj31) v := by
  rintro ⟨t0,t2,t7,t12,t13,t14,t15,t17,t18,x13,x14,x15,x16,e1⟩; kernel_rfl
def f6v_43 (F : Nat) (kf6vj28 : Ty75 → Rz) (kf6vj30 : Ty69 → Rz) (kf6vl2 : Ty69 → Rz) (kf6vj31 : Bool → Rz) : Ty74 → Rz := fun (t0,t2,t7,t12,t13,t14,t15,t17,t18,t127,x14,x15,x16,x17,e1) => (cond t127 (cond ((decide ((0 : Int) ≤ t17)) && (decide (t17 ≤ (↑x15.length : Int)))) (cond ((decide (0 ≤ t15)) && (decide (t15 < (↑t12.length : Int)))) (cond (((decide (0 ≤ t17)) && (decide (t17 ≤ (↑(t12.getD (Int.toNat t15) []).length : Int)))) && (decide ((↑(t12.getD (Int.toNat t15) []).length : Int) ≤ (↑(t12.getD (Int.toNat t15) []).length : Int)))) (cond (decide (((x15.take (Int.toNat t17)).length + (((t12.getD (Int.toNat t15) []).take (t12.getD (Int.toNat t15) []).length).drop (Int.toNat t17)).length) < 4611686018427387904)) (kf6vj28 (t0,t2,t7,t12,t13,t14,t15,((x15.take (Int.toNat t17)) ++ (((t12.getD (Int.toNat t15) []).take (t12.getD (Int.toNat t15) []).length).drop (Int.toNat t17))),e1)) none) none) none) none) (kf6vj28 (t0,t2,t7,t12,t13,t14,t15,t18,e1)))
theorem f6v_43_eq (F : Nat) (Rf6vj28 : St → Rz) (Rf6vj30 : St → Rz) (Rf6vl2 : St → Rz) (Rf6vj31 : St → Rz) : ∀ v,aexec VG356v (Af6v F) (bp Try.f6 16771389) (ef6vj27 v) (kSeq (kc VG356v Rf6vj28 sp52) (kBlock 3 (kSeq (kc VG356v Rf6vj30 sp37) (kSeq (kc VG356v Rf6vl2 sp37) (kBlock 2 (kSeq (kc VG356v Rf6vj31 [(7,.plain)]) (kFin VG356v none (Try.f6).results.toList))))))) = f6v_43 F (Rf6vj28 ∘ ef6vj28) (Rf6vj30 ∘ ef6vj30) (Rf6vl2 ∘ ef6vl2) (Rf6vj31 ∘ ef6vj31) v := by
  rintro ⟨t0,t2,t7,t12,t13,t14,t15,t17,t18,t127,x14,x15,x16,x17,e1⟩; kernel_rfl
def f6v_44 (F : Nat) (kf6vj28 : Ty75 → Rz) (kf6vj30 : Ty69 → Rz) (kf6vl2 : Ty69 → Rz) (kf6vj31 : Bool → Rz) : Ty73 → Rz := fun v => f6v_42 F (f6v_43 F kf6vj28 kf6vj30 kf6vl2 kf6vj31) kf6vj28 kf6vj30 kf6vl2 kf6vj31 v
theorem f6v_44_eq (F : Nat) (Rf6vj28 : St → Rz) (Rf6vj30 : St → Rz) (Rf6vl2 : St → Rz) (Rf6vj31 : St → Rz) : ∀ v,aexec VG356v (Af6v F) (bp Try.f6 8385694) (ef6vj26 v) (kSeq (kc VG356v Rf6vj28 sp52) (kBlock 3 (kSeq (kc VG356v Rf6vj30 sp37) (kSeq (kc VG356v Rf6vl2 sp37) (kBlock 2 (kSeq (kc VG356v Rf6vj31 [(7,.plain)]) (kFin VG356v none (Try.f6).results.toList))))))) = f6v_44 F (Rf6vj28 ∘ ef6vj28) (Rf6vj30 ∘ ef6vj30) (Rf6vl2 ∘ ef6vl2) (Rf6vj31 ∘ ef6vj31) v :=
  seq_cut (by kernel_rfl) (by kernel_rfl) ef6vj26 ef6vj27 _ (fun k => f6v_42 F k (Rf6vj28 ∘ ef6vj28) (Rf6vj30 ∘ ef6vj30) (Rf6vl2 ∘ ef6vl2) (Rf6vj31 ∘ ef6vj31)) (f6v_43 F (Rf6vj28 ∘ ef6vj28) (Rf6vj30 ∘ ef6vj30) (Rf6vl2 ∘ ef6vl2) (Rf6vj31 ∘ ef6vj31))
    (fun Rf6vj27 => f6v_42_eq F Rf6vj27 Rf6vj28 Rf6vj30 Rf6vl2 Rf6vj31) (f6v_43_eq F Rf6vj28 Rf6vj30 Rf6vl2 Rf6vj31)
def f6v_45 (F : Nat) (kf6vj29 : Ty76 → Rz) (kf6vj30 : Ty69 → Rz) (kf6vl2 : Ty69 → Rz) (kf6vj31 : Bool → Rz) : Ty75 → Rz := fun (t0,t2,t7,t12,t13,t14,t15,t18,e1) => (cond ((decide (0 ≤ t15)) && (decide (t15 < (↑t13.length : Int)))) (kf6vj29 (t0,t2,t7,t12,t13,t14,t15,(!(((t13.getD (Int.toNat t15) []) : List Int) == (t18 : List Int))),e1)) none)
theorem f6v_45_eq (F : Nat) (Rf6vj29 : St → Rz) (Rf6vj30 : St → Rz) (Rf6vl2 : St → Rz) (Rf6vj31 : St → Rz) : ∀ v,aexec VG356v (Af6v F) (bp Try.f6 16771390) (ef6vj28 v) (kSeq (kc VG356v Rf6vj29 sp53) (kBlock 3 (kSeq (kc VG356v Rf6vj30 sp37) (kSeq (kc VG356v Rf6vl2 sp37) (kBlock 2 (kSeq (kc VG356v Rf6vj31 [(7,.plain)]) (kFin VG356v none (Try.f6).results.toList))))))) = f6v_45 F (Rf6vj29 ∘ ef6vj29) (Rf6vj30 ∘ ef6vj30) (Rf6vl2 ∘ ef6vl2) (Rf6vj31 ∘ ef6vj31) v := by
  rintro ⟨t0,t2,t7,t12,t13,t14,t15,t18,e1⟩; kernel_rfl
def f6v_46 (F : Nat) (kf6vj30 : Ty69 → Rz) (kf6vl2 : Ty69 → Rz) (kf6vj31 : Bool → Rz) : Ty76 → Rz := fun (t0,t2,t7,t12,t13,t14,t15,t144,e1) => (cond t144 (some ((.bool false),[])) (kf6vj30 (t0,t2,t7,t12,t13,t14,t15,e1)))
theorem f6v_46_eq (F : Nat) (Rf6vj30 : St → Rz) (Rf6vl2 : St → Rz) (Rf6vj31 : St → Rz) : ∀ v,aexec VG356v (Af6v F) (bp Try.f6 16771391) (ef6vj29 v) (kBlock 3 (kSeq (kc VG356v Rf6vj30 sp37) (kSeq (kc VG356v Rf6vl2 sp37) (kBlock 2 (kSeq (kc VG356v Rf6vj31 [(7,.plain)]) (kFin VG356v none (Try.f6).results.toList)))))) = f6v_46 F (Rf6vj30 ∘ ef6vj30) (Rf6vl2 ∘ ef6vl2) (Rf6vj31 ∘ ef6vj31) v := by
  rintro ⟨t0,t2,t7,t12,t13,t14,t15,t144,e1⟩; kernel_rfl
def f6v_47 (F : Nat) (kf6vj30 : Ty69 → Rz) (kf6vl2 : Ty69 → Rz) (kf6vj31 : Bool → Rz) : Ty75 → Rz := fun v => f6v_45 F (f6v_46 F kf6vj30 kf6vl2 kf6vj31) kf6vj30 kf6vl2 kf6vj31 v
theorem f6v_47_eq (F : Nat) (Rf6vj30 : St → Rz) (Rf6vl2 : St → Rz) (Rf6vj31 : St → Rz) : ∀ v,aexec VG356v (Af6v F) (bp Try.f6 8385695) (ef6vj28 v) (kBlock 3 (kSeq (kc VG356v Rf6vj30 sp37) (kSeq (kc VG356v Rf6vl2 sp37) (kBlock 2 (kSeq (kc VG356v Rf6vj31 [(7,.plain)]) (kFin VG356v none (Try.f6).results.toList)))))) = f6v_47 F (Rf6vj30 ∘ ef6vj30) (Rf6vl2 ∘ ef6vl2) (Rf6vj31 ∘ ef6vj31) v :=
  seq_cut (by kernel_rfl) (by kernel_rfl) ef6vj28 ef6vj29 _ (fun k => f6v_45 F k (Rf6vj30 ∘ ef6vj30) (Rf6vl2 ∘ ef6vl2) (Rf6vj31 ∘ ef6vj31)) (f6v_46 F (Rf6vj30 ∘ ef6vj30) (Rf6vl2 ∘ ef6vl2) (Rf6vj31 ∘ ef6vj31))
    (fun Rf6vj29 => f6v_45_eq F Rf6vj29 Rf6vj30 Rf6vl2 Rf6vj31) (f6v_46_eq F Rf6vj30 Rf6vl2 Rf6vj31)
def f6v_48 (F : Nat) (kf6vj30 : Ty69 → Rz) (kf6vl2 : Ty69 → Rz) (kf6vj31 : Bool → Rz) : Ty73 → Rz := fun v => f6v_44 F (f6v_47 F kf6vj30 kf6vl2 kf6vj31) kf6vj30 kf6vl2 kf6vj31 v
theorem f6v_48_eq (F : Nat) (Rf6vj30 : St → Rz) (Rf6vl2 : St → Rz) (Rf6vj31 : St → Rz) : ∀ v,aexec VG356v (Af6v F) (bp Try.f6 4192847) (ef6vj26 v) (kBlock 3 (kSeq (kc VG356v Rf6vj30 sp37) (kSeq (kc VG356v Rf6vl2 sp37) (kBlock 2 (kSeq (kc VG356v Rf6vj31 [(7,.plain)]) (kFin VG356v none (Try.f6).results.toList)))))) = f6v_48 F (Rf6vj30 ∘ ef6vj30) (Rf6vl2 ∘ ef6vl2) (Rf6vj31 ∘ ef6vj31) v :=
  seq_cut (by kernel_rfl) (by kernel_rfl) ef6vj26 ef6vj28 _ (fun k => f6v_44 F k (Rf6vj30 ∘ ef6vj30) (Rf6vl2 ∘ ef6vl2) (Rf6vj31 ∘ ef6vj31)) (f6v_47 F (Rf6vj30 ∘ ef6vj30) (Rf6vl2 ∘ ef6vl2) (Rf6vj31 ∘ ef6vj31))
    (fun Rf6vj28 => f6v_44_eq F Rf6vj28 Rf6vj30 Rf6vl2 Rf6vj31) (f6v_47_eq F Rf6vj30 Rf6vl2 Rf6vj31)
def f6v_49 (F : Nat) (kf6vj30 : Ty69 → Rz) (kf6vl2 : Ty69 → Rz) (kf6vj31 : Bool → Rz) : Ty71 → Rz := fun v => f6v_41 F (f6v_48 F kf6vj30 kf6vl2 kf6vj31) kf6vj30 kf6vl2 kf6vj31 v
theorem f6v_49_eq (F : Nat) (Rf6vj30 : St → Rz) (Rf6vl2 : St → Rz) (Rf6vj31 : St → Rz) : ∀ v,aexec VG356v (Af6v F) (bp Try.f6 2096423) (ef6vj25 v) (kBlock 3 (kSeq (kc VG356v Rf6vj30 sp37) (kSeq (kc VG356v Rf6vl2 sp37) (kBlock 2 (kSeq (kc VG356v Rf6vj31 [(7,.plain)]) (kFin VG356v none (Try.f6).results.toList)))))) = f6v_49 F (Rf6vj30 ∘ ef6vj30) (Rf6vl2 ∘ ef6vl2) (Rf6vj31 ∘ ef6vj31) v :=
  seq_cut (by kernel_rfl) (by kernel_rfl) ef6vj25 ef6vj26 _ (fun k => f6v_41 F k (Rf6vj30 ∘ ef6vj30) (Rf6vl2 ∘ ef6vl2) (Rf6vj31 ∘ ef6vj31)) (f6v_48 F (Rf6vj30 ∘ ef6vj30) (Rf6vl2 ∘ ef6vl2) (Rf6vj31 ∘ ef6vj31))
    (fun Rf6vj26 => f6v_41_eq F Rf6vj26 Rf6vj30 Rf6vl2 Rf6vj31) (f6v_48_eq F Rf6vj30 Rf6vl2 Rf6vj31)
def f6v_50 (F : Nat) (kf6vj30 : Ty69 → Rz) (kf6vl2 : Ty69 → Rz) (kf6vj31 : Bool → Rz) : Ty71 → Rz := fun v => f6v_40 F (f6v_49 F kf6vj30 kf6vl2 kf6vj31) kf6vj30 kf6vl2 kf6vj31 v
theorem f6v_50_eq (F : Nat) (Rf6vj30 : St → Rz) (Rf6vl2 : St → Rz) (Rf6vj31 : St → Rz) : ∀ v,aexec VG356v (Af6v F) (bp Try.f6 1048211) (ef6vj20 v) (kBlock 3 (kSeq (kc VG356v Rf6vj30 sp37) (kSeq (kc VG356v Rf6vl2 sp37) (kBlock 2 (kSeq (kc VG356v Rf6vj31 [(7,.plain)]) (kFin VG356v none (Try.f6).results.toList)))))) = f6v_50 F (Rf6vj30 ∘ ef6vj30) (Rf6vl2 ∘ ef6vl2) (Rf6vj31 ∘ ef6vj31) v :=
  seq_cut (by kernel_rfl) (by kernel_rfl) ef6vj20 ef6vj25 _ (fun k => f6v_40 F k (Rf6vj30 ∘ ef6vj30) (Rf6vl2 ∘ ef6vl2) (Rf6vj31 ∘ ef6vj31)) (f6v_49 F (Rf6vj30 ∘ ef6vj30) (Rf6vl2 ∘ ef6vl2) (Rf6vj31 ∘ ef6vj31))
    (fun Rf6vj25 => f6v_40_eq F Rf6vj25 Rf6vj30 Rf6vl2 Rf6vj31) (f6v_49_eq F Rf6vj30 Rf6vl2 Rf6vj31)
def f6v_51 (F : Nat) (kf6vj30 : Ty69 → Rz) (kf6vl2 : Ty69 → Rz) (kf6vj31 : Bool → Rz) : Ty70 → Rz := fun v => f6v_29 F (f6v_50 F kf6vj30 kf6vl2 kf6vj31) kf6vj30 kf6vl2 kf6vj31 v
theorem f6v_51_eq (F : Nat) (Rf6vj30 : St → Rz) (Rf6vl2 : St → Rz) (Rf6vj31 : St → Rz) : ∀ v,aexec VG356v (Af6v F) (bp Try.f6 524105) (ef6vj19 v) (kBlock 3 (kSeq (kc VG356v Rf6vj30 sp37) (kSeq (kc VG356v Rf6vl2 sp37) (kBlock 2 (kSeq (kc VG356v Rf6vj31 [(7,.plain)]) (kFin VG356v none (Try.f6).results.toList)))))) = f6v_51 F (Rf6vj30 ∘ ef6vj30) (Rf6vl2 ∘ ef6vl2) (Rf6vj31 ∘ ef6vj31) v :=
  seq_cut (by kernel_rfl) (by kernel_rfl) ef6vj19 ef6vj20 _ (fun k => f6v_29 F k (Rf6vj30 ∘ ef6vj30) (Rf6vl2 ∘ ef6vl2) (Rf6vj31 ∘ ef6vj31)) (f6v_50 F (Rf6vj30 ∘ ef6vj30) (Rf6vl2 ∘ ef6vl2) (Rf6vj31 ∘ ef6vj31))
    (fun Rf6vj20 => f6v_29_eq F Rf6vj20 Rf6vj30 Rf6vl2 Rf6vj31) (f6v_50_eq F Rf6vj30 Rf6vl2 Rf6vj31)
def f6v_52 (F : Nat) (kf6vj30 : Ty69 → Rz) (kf6vl2 : Ty69 → Rz) (kf6vj31 : Bool → Rz) : Ty69 → Rz := fun v => f6v_28 F (f6v_51 F kf6vj30 kf6vl2 kf6vj31) kf6vj30 kf6vl2 kf6vj31 v
theorem f6v_52_eq (F : Nat) (Rf6vj30 : St → Rz) (Rf6vl2 : St → Rz) (Rf6vj31 : St → Rz) : ∀ v,aexec VG356v (Af6v F) (bp Try.f6 262052) (ef6vj18 v) (kBlock 3 (kSeq (kc VG356v Rf6vj30 sp37) (kSeq (kc VG356v Rf6vl2 sp37) (kBlock 2 (kSeq (kc VG356v Rf6vj31 [(7,.plain)]) (kFin VG356v none (Try.f6).results.toList)))))) = f6v_52 F (Rf6vj30 ∘ ef6vj30) (Rf6vl2 ∘ ef6vl2) (Rf6vj31 ∘ ef6vj31) v :=
  seq_cut (by kernel_rfl) (by kernel_rfl) ef6vj18 ef6vj19 _ (fun k => f6v_28 F k (Rf6vj30 ∘ ef6vj30) (Rf6vl2 ∘ ef6vl2) (Rf6vj31 ∘ ef6vj31)) (f6v_51 F (Rf6vj30 ∘ ef6vj30) (Rf6vl2 ∘ ef6vl2) (Rf6vj31 ∘ ef6vj31))
    (fun Rf6vj19 => f6v_28_eq F Rf6vj19 Rf6vj30 Rf6vl2 Rf6vj31) (f6v_51_eq F Rf6vj30 Rf6vl2 Rf6vj31)
def f6v_53 (F : Nat) (kf6vj30 : Ty69 → Rz) (kf6vl2 : Ty69 → Rz) (kf6vj31 : Bool → Rz) : Ty69 → Rz := f6v_52 F kf6vj30 kf6vl2 kf6vj31
theorem f6v_53_eq (F : Nat) (Rf6vj30 : St → Rz) (Rf6vl2 : St → Rz) (Rf6vj31 : St → Rz) : ∀ v,aexec VG356v (Af6v F) (bp Try.f6 131026) (ef6vj18 v) (kSeq (kc VG356v Rf6vj30 sp37) (kSeq (kc VG356v Rf6vl2 sp37) (kBlock 2 (kSeq (kc VG356v Rf6vj31 [(7,.plain)]) (kFin VG356v none (Try.f6).results.toList))))) = f6v_53 F (Rf6vj30 ∘ ef6vj30) (Rf6vl2 ∘ ef6vl2) (Rf6vj31 ∘ ef6vj31) v := fun v =>
  (block_in  (by kernel_rfl) _ _).trans (f6v_52_eq F Rf6vj30 Rf6vl2 Rf6vj31 v)
def f6v_54 (F : Nat) (kf6vl2 : Ty69 → Rz) (kf6vj31 : Bool → Rz) : Ty69 → Rz := fun (t0,t2,t7,t12,t13,t14,t15,e1) => (kf6vl2 (t0,t2,t7,t12,t13,t14,(IntKind.i64.wrap (t15 + (1 : Int))),e1))
theorem f6v_54_eq (F : Nat) (Rf6vl2 : St → Rz) (Rf6vj31 : St → Rz) : ∀ v,aexec VG356v (Af6v F) (bp Try.f6 131027) (ef6vj30 v) (kSeq (kc VG356v Rf6vl2 sp37) (kBlock 2 (kSeq (kc VG356v Rf6vj31 [(7,.plain)]) (kFin VG356v none (Try.f6).results.toList)))) = f6v_54 F (Rf6vl2 ∘ ef6vl2) (Rf6vj31 ∘ ef6vj31) v := by
  rintro ⟨t0,t2,t7,t12,t13,t14,t15,e1⟩; kernel_rfl
def f6v_55 (F : Nat) (kf6vl2 : Ty69 → Rz) (kf6vj31 : Bool → Rz) : Ty69 → Rz := fun v => f6v_53 F (f6v_54 F kf6vl2 kf6vj31) kf6vl2 kf6vj31 v
theorem f6v_55_eq (F : Nat) (Rf6vl2 : St → Rz) (Rf6vj31 : St → Rz) : ∀ v,aexec VG356v (Af6v F) (bp Try.f6 65513) (ef6vj18 v) (kSeq (kc VG356v Rf6vl2 sp37) (kBlock 2 (kSeq (kc VG356v Rf6vj31 [(7,.plain)]) (kFin VG356v none (Try.f6).results.toList)))) = f6v_55 F (Rf6vl2 ∘ ef6vl2) (Rf6vj31 ∘ ef6vj31) v :=
  seq_cut (by kernel_rfl) (by kernel_rfl) ef6vj18 ef6vj30 _ (fun k => f6v_53 F k (Rf6vl2 ∘ ef6vl2) (Rf6vj31 ∘ ef6vj31)) (f6v_54 F (Rf6vl2 ∘ ef6vl2) (Rf6vj31 ∘ ef6vj31))
    (fun Rf6vj30 => f6v_53_eq F Rf6vj30 Rf6vl2 Rf6vj31) (f6v_54_eq F Rf6vl2 Rf6vj31)
def f6v_56 (F : Nat) (kf6vl2 : Ty69 → Rz) (kf6vj31 : Bool → Rz) : Ty69 → Rz := fun v => f6v_27 F (f6v_55 F kf6vl2 kf6vj31) kf6vl2 kf6vj31 v
theorem f6v_56_eq (F : Nat) (Rf6vl2 : St → Rz) (Rf6vj31 : St → Rz) : ∀ v,aexec VG356v (Af6v F) (bp Try.f6 32756) (ef6vl2 v) (kSeq (kc VG356v Rf6vl2 sp37) (kBlock 2 (kSeq (kc VG356v Rf6vj31 [(7,.plain)]) (kFin VG356v none (Try.f6).results.toList)))) = f6v_56 F (Rf6vl2 ∘ ef6vl2) (Rf6vj31 ∘ ef6vj31) v :=
  seq_cut (by kernel_rfl) (by kernel_rfl) ef6vl2 ef6vj18 _ (fun k => f6v_27 F k (Rf6vl2 ∘ ef6vl2) (Rf6vj31 ∘ ef6vj31)) (f6v_55 F (Rf6vl2 ∘ ef6vl2) (Rf6vj31 ∘ ef6vj31))
    (fun Rf6vj18 => f6v_27_eq F Rf6vj18 Rf6vl2 Rf6vj31) (f6v_55_eq F Rf6vl2 Rf6vj31)
def f6v_57_i : Ty69 → Int × (List Int) × Bool × (List (List Int)) × (List (List Int)) × Int × Int × (Dk.R) := fun (t0,t2,t7,t12,t13,t14,t15,e1) => (t0,t2,t7,t12,t13,t14,t15,e1)
def f6v_57 (F : Nat) (kf6vj31 : Bool → Rz) : Ty69 → Rz := fun v => loopN (fun k => f6v_56 F k kf6vj31) F (f6v_57_i v)
theorem f6v_57_eq (F : Nat) (Rf6vj31 : St → Rz) : ∀ v,aexec VG356v (Af6v F) (bp Try.f6 16378) (ef6vj17 v) (kBlock 2 (kSeq (kc VG356v Rf6vj31 [(7,.plain)]) (kFin VG356v none (Try.f6).results.toList))) = f6v_57 F (Rf6vj31 ∘ ef6vj31) v :=
  loop_cut (by kernel_rfl) (by kernel_rfl) ef6vj17 ef6vl2 _ f6v_57_i (fun k => f6v_56 F k (Rf6vj31 ∘ ef6vj31))
    (by rintro ⟨t0,t2,t7,t12,t13,t14,t15,e1⟩; kernel_rfl) (fun Rf6vl2 => f6v_56_eq F Rf6vl2 Rf6vj31)
def f6v_58 (F : Nat) (kf6vj31 : Bool → Rz) : Ty69 → Rz := f6v_57 F kf6vj31
theorem f6v_58_eq (F : Nat) (Rf6vj31 : St → Rz) : ∀ v,aexec VG356v (Af6v F) (bp Try.f6 8189) (ef6vj17 v) (kSeq (kc VG356v Rf6vj31 [(7,.plain)]) (kFin VG356v none (Try.f6).results.toList)) = f6v_58 F (Rf6vj31 ∘ ef6vj31) v := fun v =>
  (block_in  (by kernel_rfl) _ _).trans (f6v_57_eq F Rf6vj31 v)
def f6v_59 (F : Nat) (kf6vj31 : Bool → Rz) : Ty68 → Rz := fun v => f6v_26 F (f6v_58 F kf6vj31) kf6vj31 v
theorem f6v_59_eq (F : Nat) (Rf6vj31 : St → Rz) : ∀ v,aexec VG356v (Af6v F) (bp Try.f6 4094) (ef6vj16 v) (kSeq (kc VG356v Rf6vj31 [(7,.plain)]) (kFin VG356v none (Try.f6).results.toList)) = f6v_59 F (Rf6vj31 ∘ ef6vj31) v :=
  seq_cut (by kernel_rfl) (by kernel_rfl) ef6vj16 ef6vj17 _ (fun k => f6v_26 F k (Rf6vj31 ∘ ef6vj31)) (f6v_58 F (Rf6vj31 ∘ ef6vj31))
    (fun Rf6vj17 => f6v_26_eq F Rf6vj17 Rf6vj31) (f6v_58_eq F Rf6vj31)
def f6v_60 (F : Nat) : Bool → Rz := fun t7 => (some ((.bool t7),[]))
theorem f6v_60_eq (F : Nat) : ∀ v,aexec VG356v (Af6v F) (bp Try.f6 4095) (ef6vj31 v) (kFin VG356v none (Try.f6).results.toList) = f6v_60 F v := by
  intro t7; kernel_rfl
def f6v_61 (F : Nat) : Ty68 → Rz := fun v => f6v_59 F (f6v_60 F) v
theorem f6v_61_eq (F : Nat) : ∀ v,aexec VG356v (Af6v F) (bp Try.f6 2047) (ef6vj16 v) (kFin VG356v none (Try.f6).results.toList) = f6v_61 F v :=
  seq_cut (by kernel_rfl) (by kernel_rfl) ef6vj16 ef6vj31 _ (fun k => f6v_59 F k) (f6v_60 F)
    (fun Rf6vj31 => f6v_59_eq F Rf6vj31) (f6v_60_eq F)
def f6v_62 (F : Nat) : Ty67 → Rz := fun v => f6v_25 F (f6v_61 F) v
theorem f6v_62_eq (F : Nat) : ∀ v,aexec VG356v (Af6v F) (bp Try.f6 1023) (ef6vj15 v) (kFin VG356v none (Try.f6).results.toList) = f6v_62 F v :=
  seq_cut (by kernel_rfl) (by kernel_rfl) ef6vj15 ef6vj16 _ (fun k => f6v_25 F k) (f6v_61 F)
    (fun Rf6vj16 => f6v_25_eq F Rf6vj16) (f6v_61_eq F)
def f6v_63 (F : Nat) : Ty65 → Rz := fun v => f6v_24 F (f6v_62 F) v
theorem f6v_63_eq (F : Nat) : ∀ v,aexec VG356v (Af6v F) (bp Try.f6 511) (ef6vj13 v) (kFin VG356v none (Try.f6).results.toList) = f6v_63 F v :=
  seq_cut (by kernel_rfl) (by kernel_rfl) ef6vj13 ef6vj15 _ (fun k => f6v_24 F k) (f6v_62 F)
    (fun Rf6vj15 => f6v_24_eq F Rf6vj15) (f6v_62_eq F)
def f6v_64 (F : Nat) : Ty64 → Rz := fun v => f6v_21 F (f6v_63 F) v
theorem f6v_64_eq (F : Nat) : ∀ v,aexec VG356v (Af6v F) (bp Try.f6 255) (ef6vj12 v) (kFin VG356v none (Try.f6).results.toList) = f6v_64 F v :=
  seq_cut (by kernel_rfl) (by kernel_rfl) ef6vj12 ef6vj13 _ (fun k => f6v_21 F k) (f6v_63 F)
    (fun Rf6vj13 => f6v_21_eq F Rf6vj13) (f6v_63_eq F)
def f6v_65 (F : Nat) : Ty64 → Rz := fun v => f6v_20 F (f6v_64 F) v
theorem f6v_65_eq (F : Nat) : ∀ v,aexec VG356v (Af6v F) (bp Try.f6 127) (ef6vj11 v) (kFin VG356v none (Try.f6).results.toList) = f6v_65 F v :=
  seq_cut (by kernel_rfl) (by kernel_rfl) ef6vj11 ef6vj12 _ (fun k => f6v_20 F k) (f6v_64 F)
    (fun Rf6vj12 => f6v_20_eq F Rf6vj12) (f6v_64_eq F)
def f6v_66 (F : Nat) : Ty63 → Rz := fun v => f6v_19 F (f6v_65 F) v
theorem f6v_66_eq (F : Nat) : ∀ v,aexec VG356v (Af6v F) (bp Try.f6 63) (ef6vj10 v) (kFin VG356v none (Try.f6).results.toList) = f6v_66 F v :=
  seq_cut (by kernel_rfl) (by kernel_rfl) ef6vj10 ef6vj11 _ (fun k => f6v_19 F k) (f6v_65 F)
    (fun Rf6vj11 => f6v_19_eq F Rf6vj11) (f6v_65_eq F)
def f6v_67 (F : Nat) : Ty61 → Rz := fun v => f6v_18 F (f6v_66 F) v
theorem f6v_67_eq (F : Nat) : ∀ v,aexec VG356v (Af6v F) (bp Try.f6 31) (ef6vj5 v) (kFin VG356v none (Try.f6).results.toList) = f6v_67 F v :=
  seq_cut (by kernel_rfl) (by kernel_rfl) ef6vj5 ef6vj10 _ (fun k => f6v_18 F k) (f6v_66 F)
    (fun Rf6vj10 => f6v_18_eq F Rf6vj10) (f6v_66_eq F)
def f6v_68 (F : Nat) : Ty59 → Rz := fun v => f6v_6 F (f6v_67 F) v
theorem f6v_68_eq (F : Nat) : ∀ v,aexec VG356v (Af6v F) (bp Try.f6 15) (ef6vj3 v) (kFin VG356v none (Try.f6).results.toList) = f6v_68 F v :=
  seq_cut (by kernel_rfl) (by kernel_rfl) ef6vj3 ef6vj5 _ (fun k => f6v_6 F k) (f6v_67 F)
    (fun Rf6vj5 => f6v_6_eq F Rf6vj5) (f6v_67_eq F)
def f6v_69 (F : Nat) : Ty58 → Rz := fun v => f6v_3 F (f6v_68 F) v
theorem f6v_69_eq (F : Nat) : ∀ v,aexec VG356v (Af6v F) (bp Try.f6 7) (ef6vj2 v) (kFin VG356v none (Try.f6).results.toList) = f6v_69 F v :=
  seq_cut (by kernel_rfl) (by kernel_rfl) ef6vj2 ef6vj3 _ (fun k => f6v_3 F k) (f6v_68 F)
    (fun Rf6vj3 => f6v_3_eq F Rf6vj3) (f6v_68_eq F)
def f6v_70 (F : Nat) : Ty55 → Rz := fun v => f6v_2 F (f6v_69 F) v
theorem f6v_70_eq (F : Nat) : ∀ v,aexec VG356v (Af6v F) (bp Try.f6 3) (ef6vj1 v) (kFin VG356v none (Try.f6).results.toList) = f6v_70 F v :=
  seq_cut (by kernel_rfl) (by kernel_rfl) ef6vj1 ef6vj2 _ (fun k => f6v_2 F k) (f6v_69 F)
    (fun Rf6vj2 => f6v_2_eq F Rf6vj2) (f6v_69_eq F)
def f6v_71 (F : Nat) : Ty55 → Rz := fun v => f6v_1 F (f6v_70 F) v
theorem f6v_71_eq (F : Nat) : ∀ v,aexec VG356v (Af6v F) (sub (bodyOf Try.f6) []) (ef6v_a v) (kFin VG356v none (Try.f6).results.toList) = f6v_71 F v :=
  seq_cut (by kernel_rfl) (by kernel_rfl) ef6v_a ef6vj1 _ (fun k => f6v_1 F k) (f6v_70 F)
    (fun Rf6vj1 => f6v_1_eq F Rf6vj1) (f6v_70_eq F)
def f6v (F : Nat) : Ty55 → Rz := f6v_71 F
theorem f6v_body (F : Nat) (a0 : Int) (a1 : List (List (List Int))) (a1n : Nat) (a2 : List Int) : abody VG356v (Af6v F) Try.f6 [(.int .i64 a0),(.vs (.rT [.int .i64,.int .i64,.int .i64,.str,.sl .i64] a1) a1n 5),(.vs (.rI .i64 a2) 0 1)] [] = f6v F (a0,a1,a1n,a2) :=
  (abody_in (c := (sub (bodyOf Try.f6) [])) (by kernel_rfl) (s := ef6v_a (a0,a1,a1n,a2)) (by kernel_rfl)).trans (f6v_71_eq F (a0,a1,a1n,a2))
def r6v : CRun := fun X H => match X,H with
  | [(.int .i64 a0),(.vs (.rT [.int .i64,.int .i64,.int .i64,.str,.sl .i64] a1) a1n 5),(.vs (.rI .i64 a2) 0 1)],[] => some ((decide (0 < a0)) && (decide (a0 < 65)),(.bool true),[])
  | _,_ => none
theorem s6v (a0 : Int) (a1 : List (List (List Int))) (a1n : Nat) (a2 : List Int) (hp : ((decide (0 < a0)) && (decide (a0 < 65))) = true) (h0 : okV (.int .i64 a0)) (h1 : okV (.vs (.rT [.int .i64,.int .i64,.int .i64,.str,.sl .i64] a1) a1n 5)) (h2 : okV (.vs (.rI .i64 a2) 0 1)) : ∃ F,f6v F (a0,a1,a1n,a2) = some ((.bool true),[]) := by
  have e := hp
  rw [dec_and,decide_eq_true_iff] at hp
  obtain ⟨hlen,hint⟩ := Dk.op_int h1
  obtain ⟨n,rfl⟩ : ∃ n : Nat,a0 = (n : Int) := ⟨a0.toNat,by omega⟩
  refine ⟨a1n + 65,?_⟩
  simp only [f6v,f6v_1,f6v_2,f6v_3,f6v_4,f6v_5,f6v_6,f6v_7,f6v_17,f6v_18,f6v_19,f6v_20,f6v_21,f6v_22,f6v_23,f6v_24,f6v_25,f6v_26,f6v_58,f6v_59,f6v_60,f6v_61,f6v_62,f6v_63,f6v_64,f6v_65,f6v_66,f6v_67,f6v_68,f6v_69,f6v_70,f6v_71,e,cond_true,Bool.not_true,cond_false]
  by_cases hn : (a1n : Int) > 60
  · have e1 : decide ((a1n : Int) > 60) = true := by rw [decide_eq_true_iff]; exact hn
    rw [e1,cond_true]
  have e1 : decide ((a1n : Int) > 60) = false := by rw [decide_eq_false_iff_not]; exact hn
  rw [e1,cond_false]
  have hrel := Dk.new_rel hp.1 (show (n : Int) < 8000 by omega)
  have h0 : 0 < (Dk.new (n : Int)).n := by show 0 < (n : Int).toNat; omega
  obtain ⟨hR,hN⟩ := hrel.run h0 hint a1n (Nat.le_refl _)
  have hDn : (Dk.dAt a1 a1n (Dk.new (n : Int))).n = n := (Dk.dAt_n _ _ _).trans (Int.toNat_natCast n)
  refine loopN_from (fun k => ((n : Int),a1,a1n,a2,true,(k : Int),Dk.dAt a1 k (Dk.new (n : Int)),Dk.rAt a1 k (Dk.rnew (n : Int)))) a1n (by rfl) (fun k hk K => ?_) (fun K => ?_) (a1n + 65) (by omega)
  · obtain ⟨q1,q2⟩ := hrel.run h0 hint k (by omega)
    have hf := q1.fine
    have hr := q1.rfine
    have hl1 := q1.good.1
    have e2 : (decide (0 ≤ (k : Int)) && decide ((k : Int) < (a1n : Int))) = true := by rw [dec_and,decide_eq_true_iff]; omega
    have e3 : decide (True ∧ (Dk.rAt a1 k (Dk.rnew (n : Int))).s.length < 8000) = true := by rw [decide_eq_true_iff]; exact ⟨trivial,hl1⟩
    simp only [f6v_8,f6v_9,f6v_10,f6v_11,f6v_12,f6v_13,f6v_14,f6v_15,f6v_16_i,f6v_16,Int.toNat_natCast,e2,cond_true]
    rw [cond_pos (show (k : Int) < (a1n : Int) by omega),hf]
    simp only [cond_true,e3,hr,Bool.and_self,i64w (show -9223372036854775808 ≤ (k : Int) + 1 by omega) (show (k : Int) + 1 ≤ 9223372036854775807 by omega)]
    rfl
  simp only [f6v_8,f6v_9,f6v_10,f6v_11,f6v_12,f6v_13,f6v_14,f6v_15,f6v_16_i,f6v_16]
  rw [cond_neg (by omega)]
  simp only [f6v,f6v_1,f6v_2,f6v_3,f6v_4,f6v_5,f6v_6,f6v_7,f6v_17,f6v_18,f6v_19,f6v_20,f6v_21,f6v_22,f6v_23,f6v_24,f6v_25,f6v_26,f6v_58,f6v_59,f6v_60,f6v_61,f6v_62,f6v_63,f6v_64,f6v_65,f6v_66,f6v_67,f6v_68,f6v_69,f6v_70,f6v_71]
  revert hR hN hDn
  generalize Dk.dAt a1 a1n (Dk.new (n : Int)) = d
  generalize Dk.rAt a1 a1n (Dk.rnew (n : Int)) = r
  intro hR hN hDn
  have hM := hR.mount a2
  have hf := hR.fine
  have s1 := hR.small
  have s2 := hR.len
  have s3 := hM.small
  have s4 := hM.len
  have hpe := hR.mount_pending a2
  have hpl : (Dk.mount d a2).pend.length = 0 := by rw [← Dk.pending_len,hpe]; rfl
  have b1 : decide (d.blk.length = d.n * 64 ∧ d.n < 8000) = true := by rw [decide_eq_true_iff]; exact ⟨s2,s1⟩
  have b2 : decide ((Dk.mount d a2).blk.length = (Dk.mount d a2).n * 64 ∧ (Dk.mount d a2).n < 8000) = true := by rw [decide_eq_true_iff]; exact ⟨s4,s3⟩
  have b3 : decide ((Dk.mount d a2).pend.length < 1073741824) = true := by rw [decide_eq_true_iff,hpl]; omega
  have b4 : (((Dk.image d).length : Int) != (n : Int)) = false := by rw [Dk.image_len,hDn]; simp
  have b5 : (((Dk.image (Dk.mount d a2)).length : Int) != (n : Int)) = false := by rw [Dk.image_len,Dk.mount_n,hDn]; simp
  have b6 : (Dk.mount d a2).off = false := rfl
  have b7 : (((0 : Nat) : Int) != 0) = false := rfl
  simp only [hf,b1,b2,b3,b4,b5,b6,b7,hpe,cond_true,cond_false,List.length_nil,Bool.not_false,Bool.not_true]
  have hg := hR.good
  have hrn : r.s.length = n := by rw [hR.n,hDn]
  refine loopN_from (fun k => ((n : Int),a2,true,Dk.image d,Dk.image (Dk.mount d a2),((Dk.rlist Dk.fD r.s k).length : Int),(k : Int),r)) n (by rfl) (fun k hk K => ?_) (fun K => ?_) (a1n + 65) (by omega)
  · have hx := hg.2 k (by omega)
    have hnow := hR.mount_get a2 (j := k) (by omega)
    have hold := hR.image_get (j := k) (by omega)
    have hcl := Dk.rlist_len Dk.fD r.s k
    have e2 : (decide (0 ≤ (k : Int)) && decide ((k : Int) < (r.s.length : Int))) = true := by rw [dec_and,decide_eq_true_iff]; omega
    have e3 : (decide (0 ≤ (k : Int)) && decide ((k : Int) < ((Dk.image d).length : Int))) = true := by rw [dec_and,decide_eq_true_iff,Dk.image_len]; omega
    have e4 : (decide (0 ≤ (k : Int)) && decide ((k : Int) < ((Dk.image (Dk.mount d a2)).length : Int))) = true := by rw [dec_and,decide_eq_true_iff,Dk.image_len,Dk.mount_n]; omega
    rw [Dk.rlist_succ]
    generalize hc : (Dk.rlist Dk.fD r.s k) = L at hcl hnow
    simp only [f6v_27,f6v_28,f6v_29,f6v_30,f6v_31,f6v_32,f6v_33,f6v_34,f6v_35,f6v_36,f6v_37,f6v_38,f6v_39,f6v_40,f6v_41,f6v_42,f6v_43,f6v_44,f6v_45,f6v_46,f6v_47,f6v_48,f6v_49,f6v_50,f6v_51,f6v_52,f6v_53,f6v_54,f6v_55,f6v_56,f6v_57_i,f6v_57,Int.toNat_natCast,e2,e3,e4,cond_true,hnow,hold,i64w (show -9223372036854775808 ≤ (k : Int) + 1 by omega) (show (k : Int) + 1 ≤ 9223372036854775807 by omega)]
    rw [cond_pos (show (k : Int) < (n : Int) by omega)]
    cases hd : (((r.s.getD k []).getD 2 []).getD 0 0 == 1)
    · have hd' : Dk.fD (r.s.getD k []) = false := hd
      rw [hd',cond_false,cond_false]
      have eb : (!(Dk.fT (r.s.getD k []) == Dk.fT (r.s.getD k []))) = false := by simp
      rw [if_neg (by decide),eb]
      rfl
    · have hd' : Dk.fD (r.s.getD k []) = true := hd
      have hnx := hx.2 hd'
      have htx := hx.1
      rw [if_pos hd']
      simp only [hd',cond_true,List.length_append,List.length_cons,List.length_nil,Nat.zero_add,i64w (show -9223372036854775808 ≤ (L.length : Int) + 1 by omega) (show (L.length : Int) + 1 ≤ 9223372036854775807 by omega),List.take_length]
      have hk1 : ∀ (m : Nat),((m + 1 : Nat) : Int) = (m : Int) + 1 := fun m => by omega
      rw [hk1,hk1]
      generalize K ((n : Int),a2,true,Dk.image d,Dk.image (Dk.mount d a2),(L.length : Int) + 1,(k : Int) + 1,r) = Kn
      have chain : ∀ (c : Int) (q : Int),0 ≤ c → c ≤ 64 → c.toNat = Dk.clamp q →
          (cond (!(((r.s.getD k []).getD 3 []).getD 0 0 == 1)) (cond (decide (0 ≤ c) && decide (c ≤ (((r.s.getD k []).getD 1 []).length : Int)))
            (cond ((decide (0 ≤ c) && decide (c ≤ ((Dk.fT (r.s.getD k [])).length : Int))) && decide (((Dk.fT (r.s.getD k [])).length : Int) ≤ ((Dk.fT (r.s.getD k [])).length : Int)))
              (cond (decide ((List.take c.toNat ((r.s.getD k []).getD 1 [])).length + (List.drop c.toNat (Dk.fT (r.s.getD k []))).length < 4611686018427387904))
                (cond (!(Dk.fT (Dk.settled (r.s.getD k []) q) == List.take c.toNat ((r.s.getD k []).getD 1 []) ++ List.drop c.toNat (Dk.fT (r.s.getD k [])))) (some (.bool false,[])) Kn) none) none) none)
            (cond (!(Dk.fT (Dk.settled (r.s.getD k []) q) == Dk.fT (r.s.getD k []))) (some (.bool false,[])) Kn)) = Kn := by
        intro c q hc0 hc1 hcq
        have hnx' : ((r.s.getD k []).getD 1 []).length = 64 := hnx
        rw [hcq]
        cases hw : (((r.s.getD k []).getD 3 []).getD 0 0 == 1)
        · have es : Dk.fT (Dk.settled (r.s.getD k []) q) = List.take (Dk.clamp q) ((r.s.getD k []).getD 1 []) ++ List.drop (Dk.clamp q) (Dk.fT (r.s.getD k [])) := by
            have hw' : Dk.fW (r.s.getD k []) = false := hw
            simp only [Dk.settled,hw',Bool.not_false,cond_true]; rfl
          have g1 : (decide (0 ≤ c) && decide (c ≤ (((r.s.getD k []).getD 1 []).length : Int))) = true := by rw [dec_and,decide_eq_true_iff,hnx']; omega
          have g2 : ((decide (0 ≤ c) && decide (c ≤ ((Dk.fT (r.s.getD k [])).length : Int))) && decide (((Dk.fT (r.s.getD k [])).length : Int) ≤ ((Dk.fT (r.s.getD k [])).length : Int))) = true := by rw [dec_and,dec_and,decide_eq_true_iff,htx]; omega
          have g3 : decide ((List.take (Dk.clamp q) ((r.s.getD k []).getD 1 [])).length + (List.drop (Dk.clamp q) (Dk.fT (r.s.getD k []))).length < 4611686018427387904) = true := by
            rw [decide_eq_true_iff,List.length_take,List.length_drop,hnx',htx]; omega
          rw [g1,g2,g3,es,beq_self_eq_true]; rfl
        · have es : Dk.fT (Dk.settled (r.s.getD k []) q) = Dk.fT (r.s.getD k []) := by
            have hw' : Dk.fW (r.s.getD k []) = true := hw
            simp only [Dk.settled,hw',Bool.not_true,cond_false]; rfl
          rw [es,beq_self_eq_true]; rfl
      by_cases hq : L.length < a2.length
      · have g4 : (decide (0 ≤ (L.length : Int)) && decide ((L.length : Int) < (a2.length : Int))) = true := by rw [dec_and,decide_eq_true_iff]; omega
        rw [cond_pos (show (L.length : Int) < (a2.length : Int) by omega),g4,cond_true]
        refine chain _ _ ?_ ?_ ?_
        · split <;> (try split) <;> omega
        · split <;> (try split) <;> omega
        · rw [Dk.getD_in hq 64 0]; rfl
      · rw [cond_neg (show ¬ (L.length : Int) < (a2.length : Int) by omega)]
        exact chain 64 _ (by decide) (by decide) (by rw [Dk.getD_far (by omega) 64]; decide)
  · simp only [f6v_27,f6v_28,f6v_29,f6v_30,f6v_31,f6v_32,f6v_33,f6v_34,f6v_35,f6v_36,f6v_37,f6v_38,f6v_39,f6v_40,f6v_41,f6v_42,f6v_43,f6v_44,f6v_45,f6v_46,f6v_47,f6v_48,f6v_49,f6v_50,f6v_51,f6v_52,f6v_53,f6v_54,f6v_55,f6v_56,f6v_57_i,f6v_57]
    rw [cond_neg (by omega)]
    rfl

theorem c6v : CallOk Try.prog G35 6 r6v := callOk_of (V := VG356v) mixed tys eVG356v (f := 6) (fn := Try.f6) Try.func6 (by kernel_rfl) (c := sub (bodyOf Try.f6) []) (by kernel_rfl) (by
  intro X H r H' h hX hH
  unfold r6v at h; split at h <;> try contradiction
  · simp only [Option.some.injEq,Prod.mk.injEq] at h
    obtain ⟨hp,rfl,rfl⟩ := h
    obtain ⟨F,hF⟩ := s6v _ _ _ _ hp (hX _ (.head _)) (hX _ (.tail _ (.head _))) (hX _ (.tail _ (.tail _ (.head _))))
    exact ⟨Af6v F,(f6v_body F _ _ _ _).trans hF⟩)
def r6 : CRun := fun X H => match X,H with
  | [(.int .i64 a0),(.vs (.rT [.int .i64,.int .i64,.int .i64,.str,.sl .i64] a1) a1n 5),(.vs (.rI .i64 a2) 0 1)],[] => some (true,.bool true,[])
  | _,_ => none
theorem c6 : CallOk Try.prog G35 6 r6 := c6v.or c6i fun A H r H' h => by
  unfold r6 at h; split at h <;> try contradiction
  rename_i a0 a1 a1n a2
  simp only [Option.some.injEq,Prod.mk.injEq,true_and] at h
  obtain ⟨rfl,rfl⟩ := h
  cases hb : (decide (0 < a0) && decide (a0 < 65)) with
  | true => exact .inl (by simp only [r6v,hb])
  | false => exact .inr (by simp only [r6i,hb,Bool.not_false])
end Go.Am
