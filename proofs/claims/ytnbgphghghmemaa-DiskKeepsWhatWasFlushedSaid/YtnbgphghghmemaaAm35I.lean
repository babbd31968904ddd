/- Part of a proof about the functions of the given program. -/
import Derived.Test.YtnbgphghghmemaaAm35G
import Derived.Test.YtnbgphghghmemaaAmDisk4
set_option linter.unusedVariables false
set_option linter.unusedSimpArgs false
namespace Go.Am
open Go Go.Proofs
abbrev sp36 : List (Nat × Md) := [(0,.plain),(1,.plain),(2,.plain),(7,.plain),(8,.plain),(11,.plain),(12,.plain)]
abbrev sp37 : List (Nat × Md) := [(1,.plain),(2,.plain),(7,.plain),(8,.plain),(11,.plain),(13,.plain)]
abbrev sp38 : List (Nat × Md) := [(0,.plain),(1,.plain),(2,.plain),(7,.plain),(8,.plain),(10,.plain),(33,.plain)]
abbrev sp39 : List (Nat × Md) := [(0,.plain),(1,.plain),(2,.plain),(7,.plain),(8,.plain)]
abbrev sp40 : List (Nat × Md) := [(0,.plain),(1,.plain),(2,.plain),(7,.plain),(8,.plain),(11,.plain)]
abbrev sp41 : List (Nat × Md) := [(1,.plain),(2,.plain),(7,.plain),(8,.plain),(11,.plain)]
abbrev sp42 : List (Nat × Md) := [(1,.plain),(2,.plain),(7,.plain),(8,.plain),(11,.plain),(13,.plain),(14,.plain)]
abbrev sp43 : List (Nat × Md) := [(1,.plain),(2,.plain),(7,.plain),(8,.plain),(11,.plain),(13,.plain),(14,.plain),(16,.plain)]
abbrev sp44 : List (Nat × Md) := [(1,.plain),(2,.plain),(7,.plain),(8,.plain),(11,.plain),(13,.plain),(14,.plain),(97,.plain)]
abbrev sp45 : List (Nat × Md) := [(2,.plain),(7,.plain),(8,.plain),(11,.plain)]
abbrev sp46 : List (Nat × Md) := [(2,.plain),(7,.plain),(8,.plain),(11,.plain),(17,.plain)]
abbrev sp47 : List (Nat × Md) := [(2,.plain),(7,.plain),(8,.plain),(11,.plain),(17,.plain),(18,.plain)]
abbrev sp48 : List (Nat × Md) := [(7,.plain),(8,.plain),(11,.plain),(17,.plain),(18,.plain)]
abbrev sp49 : List (Nat × Md) := [(7,.plain),(17,.plain),(18,.plain),(19,.plain)]
abbrev Ty58 := Int × (List (List (List Int))) × Nat × (List Int) × Bool
abbrev Ty59 := Int × (List (List (List Int))) × Nat × (List Int) × Bool × Bool × (Dk.D)
abbrev Ty60 := Int × (List (List (List Int))) × Nat × (List Int) × Bool × Bool × Bool × (Dk.D)
abbrev Ty61 := Int × (List (List (List Int))) × Nat × (List Int) × Bool × (Dk.D)
abbrev Ty62 := Int × (List (List (List Int))) × Nat × (List Int) × Bool × (List (List Int)) × (Dk.D)
abbrev Ty63 := Int × (List (List (List Int))) × Nat × (List Int) × Bool × Int × (List (List Int)) × (Dk.D)
abbrev Ty64 := Int × (List (List (List Int))) × Nat × (List Int) × Bool × Int × (List (List Int)) × Nat × (Dk.D)
abbrev Ty65 := (List (List (List Int))) × Nat × (List Int) × Bool × (List (List Int)) × Nat × (Dk.D)
abbrev Ty66 := (List (List (List Int))) × Nat × (List Int) × Bool × Int × (List (List Int)) × Nat × (Dk.D)
abbrev Ty67 := (List (List (List Int))) × Nat × (List Int) × Bool × Int × (List (List Int)) × Nat × Int × Int × Int × (List Int) × (List Int) × (Dk.D)
abbrev Ty68 := (List (List (List Int))) × Nat × (List Int) × Bool × Int × Int × (List (List Int)) × Nat × Int × Int × Int × (List Int) × (List Int) × (Dk.D)
abbrev Ty69 := (List (List (List Int))) × Nat × (List Int) × Bool × Int × Bool × (List (List Int)) × Nat × Int × Int × Int × (List Int) × (List Int) × (Dk.D)
abbrev Ty70 := (List Int) × Bool × (List (List Int)) × Nat × (Dk.D)
abbrev Ty71 := (List Int) × Bool × Int × (List (List Int)) × Nat × (Dk.D)
abbrev Ty72 := (List Int) × Bool × Int × Bool × (List (List Int)) × Nat × (Dk.D)
abbrev Ty73 := Bool × Int × Bool × (List (List Int)) × Nat × (Dk.D)

def lVG355v : List CEnt := [(9,[],r9),(10,[none],r10),(11,[none,none],r11),(15,[none],r15),(18,[none],r18),(21,[some 9,some 9],r21),(24,[none],r24),(25,[none],r25),(26,[none,some 3],r26)]
def VG355v : Env := mkEnv T35 G35 lVG355v
theorem eVG355v : EOk Try.prog VG355v := eok_mk (by exact ⟨c9,c10,c11,c15,c18,c21,c24,c25,c26,trivial⟩)
def Af5v (F : Nat) : Cuts := { F := F,at_ := fun n => match n with | 7010 => some sp36 | 11024 => some sp37 | _ => none,join := fun n => match n with | 1069 => some sp28 | 2067 => some sp29 | 3065 => some sp30 | 4005 => some sp38 | 5057 => some sp39 | 6055 => some sp40 | 7012 => some sp36 | 8001 => some sp36 | 9004 => some sp36 | 10040 => some sp41 | 11026 => some sp37 | 12001 => some sp37 | 13018 => some sp37 | 14013 => some sp42 | 15007 => some sp42 | 16005 => some sp43 | 17003 => some sp44 | 18011 => some sp45 | 19009 => some sp46 | 20007 => some sp47 | 21005 => some sp48 | 22003 => some sp49 | _ => none }
def ef5v_a : Ty55 → St := fun (a0,a1,a1n,a2) => { tmps := [(0,(.int .i64 a0)),(1,(.vs (.rT [.int .i64,.int .i64,.int .i64,.str,.sl .i64] a1) a1n 5)),(2,(.vs (.rI .i64 a2) 0 1))],heap := [],next := 0,nt := 128,m := 0 }
def ef5vj1 : Ty55 → St := fun (t0,t1,x3,t2) => { tmps := [(0,(.int .i64 t0)),(1,(.vs (.rT [.int .i64,.int .i64,.int .i64,.str,.sl .i64] t1) x3 5)),(2,(.vs (.rI .i64 t2) 0 1))],heap := [],next := 0,nt := 128,m := 0 }
def ef5vj2 : Ty58 → St := fun (t0,t1,x3,t2,t7) => { tmps := [(0,(.int .i64 t0)),(1,(.vs (.rT [.int .i64,.int .i64,.int .i64,.str,.sl .i64] t1) x3 5)),(2,(.vs (.rI .i64 t2) 0 1)),(7,(.bool t7))],heap := [],next := 0,nt := 128,m := 0 }
def ef5vj3 : Ty59 → St := fun (t0,t1,x3,t2,t7,t10,e1) => { tmps := [(0,(.int .i64 t0)),(1,(.vs (.rT [.int .i64,.int .i64,.int .i64,.str,.sl .i64] t1) x3 5)),(2,(.vs (.rI .i64 t2) 0 1)),(7,(.bool t7)),(8,(.ptr 0 0 5 0 0 0 5)),(10,(.bool t10))],heap := [(0,(.cells 5 (.segs (.cons 1 (.one (.own 1 e1.n 64)) (.cons 1 (.one (.mp 2)) (.cons 1 (.one (.mp 3)) (.cons 1 (.one (.bool e1.off)) (.cons 1 (.one (.int .i64 e1.left)) .nil)))))) true)),(1,(.cells e1.blk.length (.rI .u8 e1.blk) true)),(2,(.cells 0 (.rM .i64 0 (.arr .u8 64) e1.pend) true)),(3,(.cells 0 (.rM .i64 0 .bool e1.worn) true))],next := 4,nt := 128,m := 0 }
def ef5vj4 : Ty60 → St := fun (t0,t1,x3,t2,t7,t10,t33,e1) => { tmps := [(0,(.int .i64 t0)),(1,(.vs (.rT [.int .i64,.int .i64,.int .i64,.str,.sl .i64] t1) x3 5)),(2,(.vs (.rI .i64 t2) 0 1)),(7,(.bool t7)),(8,(.ptr 0 0 5 0 0 0 5)),(10,(.bool t10)),(33,(.bool t33))],heap := [(0,(.cells 5 (.segs (.cons 1 (.one (.own 1 e1.n 64)) (.cons 1 (.one (.mp 2)) (.cons 1 (.one (.mp 3)) (.cons 1 (.one (.bool e1.off)) (.cons 1 (.one (.int .i64 e1.left)) .nil)))))) true)),(1,(.cells e1.blk.length (.rI .u8 e1.blk) true)),(2,(.cells 0 (.rM .i64 0 (.arr .u8 64) e1.pend) true)),(3,(.cells 0 (.rM .i64 0 .bool e1.worn) true))],next := 4,nt := 128,m := 0 }
def ef5vj5 : Ty61 → St := fun (t0,t1,x3,t2,t7,e1) => { tmps := [(0,(.int .i64 t0)),(1,(.vs (.rT [.int .i64,.int .i64,.int .i64,.str,.sl .i64] t1) x3 5)),(2,(.vs (.rI .i64 t2) 0 1)),(7,(.bool t7)),(8,(.ptr 0 0 5 0 0 0 5))],heap := [(0,(.cells 5 (.segs (.cons 1 (.one (.own 1 e1.n 64)) (.cons 1 (.one (.mp 2)) (.cons 1 (.one (.mp 3)) (.cons 1 (.one (.bool e1.off)) (.cons 1 (.one (.int .i64 e1.left)) .nil)))))) true)),(1,(.cells e1.blk.length (.rI .u8 e1.blk) true)),(2,(.cells 0 (.rM .i64 0 (.arr .u8 64) e1.pend) true)),(3,(.cells 0 (.rM .i64 0 .bool e1.worn) true))],next := 4,nt := 128,m := 0 }
def ef5vj6 : Ty62 → St := fun (t0,t1,x3,t2,t7,x9,e1) => { tmps := [(0,(.int .i64 t0)),(1,(.vs (.rT [.int .i64,.int .i64,.int .i64,.str,.sl .i64] t1) x3 5)),(2,(.vs (.rI .i64 t2) 0 1)),(7,(.bool t7)),(8,(.ptr 0 0 5 0 0 0 5)),(11,(.own 1 0 1))],heap := [(0,(.cells 5 (.segs (.cons 1 (.one (.own 2 e1.n 64)) (.cons 1 (.one (.mp 3)) (.cons 1 (.one (.mp 4)) (.cons 1 (.one (.bool e1.off)) (.cons 1 (.one (.int .i64 e1.left)) .nil)))))) true)),(1,(.cells x9.length (.rS x9) true)),(2,(.cells e1.blk.length (.rI .u8 e1.blk) true)),(3,(.cells 0 (.rM .i64 0 (.arr .u8 64) e1.pend) true)),(4,(.cells 0 (.rM .i64 0 .bool e1.worn) true))],next := 5,nt := 128,m := 0 }
def ef5vj7 : Ty63 → St := fun (t0,t1,x3,t2,t7,t12,x10,e1) => { tmps := [(0,(.int .i64 t0)),(1,(.vs (.rT [.int .i64,.int .i64,.int .i64,.str,.sl .i64] t1) x3 5)),(2,(.vs (.rI .i64 t2) 0 1)),(7,(.bool t7)),(8,(.ptr 0 0 5 0 0 0 5)),(11,(.own 1 0 1)),(12,(.int .i64 t12))],heap := [(0,(.cells 5 (.segs (.cons 1 (.one (.own 2 e1.n 64)) (.cons 1 (.one (.mp 3)) (.cons 1 (.one (.mp 4)) (.cons 1 (.one (.bool e1.off)) (.cons 1 (.one (.int .i64 e1.left)) .nil)))))) true)),(1,(.cells x10.length (.rS x10) true)),(2,(.cells e1.blk.length (.rI .u8 e1.blk) true)),(3,(.cells 0 (.rM .i64 0 (.arr .u8 64) e1.pend) true)),(4,(.cells 0 (.rM .i64 0 .bool e1.worn) true))],next := 5,nt := 128,m := 0 }
def ef5vl1 : Ty64 → St := fun (t0,t1,x3,t2,t7,t12,x10,x14,e1) => { tmps := [(0,(.int .i64 t0)),(1,(.vs (.rT [.int .i64,.int .i64,.int .i64,.str,.sl .i64] t1) x3 5)),(2,(.vs (.rI .i64 t2) 0 1)),(7,(.bool t7)),(8,(.ptr 0 0 5 0 0 0 5)),(11,(.own 1 0 1)),(12,(.int .i64 t12))],heap := [(0,(.cells 5 (.segs (.cons 1 (.one (.own 2 e1.n 64)) (.cons 1 (.one (.mp 3)) (.cons 1 (.one (.mp 4)) (.cons 1 (.one (.bool e1.off)) (.cons 1 (.one (.int .i64 e1.left)) .nil)))))) true)),(1,(.cells x14 (.rS x10) true)),(2,(.cells e1.blk.length (.rI .u8 e1.blk) true)),(3,(.cells 0 (.rM .i64 0 (.arr .u8 64) e1.pend) true)),(4,(.cells 0 (.rM .i64 0 .bool e1.worn) true))],next := 5,nt := 128,m := 0 }
def ef5vj8 : Ty64 → St := fun (t0,t1,x3,t2,t7,t12,x10,x11,e1) => { tmps := [(0,(.int .i64 t0)),(1,(.vs (.rT [.int .i64,.int .i64,.int .i64,.str,.sl .i64] t1) x3 5)),(2,(.vs (.rI .i64 t2) 0 1)),(7,(.bool t7)),(8,(.ptr 0 0 5 0 0 0 5)),(11,(.own 1 0 1)),(12,(.int .i64 t12))],heap := [(0,(.cells 5 (.segs (.cons 1 (.one (.own 2 e1.n 64)) (.cons 1 (.one (.mp 3)) (.cons 1 (.one (.mp 4)) (.cons 1 (.one (.bool e1.off)) (.cons 1 (.one (.int .i64 e1.left)) .nil)))))) true)),(1,(.cells x11 (.rS x10) true)),(2,(.cells e1.blk.length (.rI .u8 e1.blk) true)),(3,(.cells 0 (.rM .i64 0 (.arr .u8 64) e1.pend) true)),(4,(.cells 0 (.rM .i64 0 .bool e1.worn) true))],next := 5,nt := 128,m := 0 }
def ef5vj9 : Ty64 → St := fun (t0,t1,x3,t2,t7,t12,x10,x11,e1) => { tmps := [(0,(.int .i64 t0)),(1,(.vs (.rT [.int .i64,.int .i64,.int .i64,.str,.sl .i64] t1) x3 5)),(2,(.vs (.rI .i64 t2) 0 1)),(7,(.bool t7)),(8,(.ptr 0 0 5 0 0 0 5)),(11,(.own 1 0 1)),(12,(.int .i64 t12))],heap := [(0,(.cells 5 (.segs (.cons 1 (.one (.own 2 e1.n 64)) (.cons 1 (.one (.mp 3)) (.cons 1 (.one (.mp 4)) (.cons 1 (.one (.bool e1.off)) (.cons 1 (.one (.int .i64 e1.left)) .nil)))))) true)),(1,(.cells x11 (.rS x10) true)),(2,(.cells e1.blk.length (.rI .u8 e1.blk) true)),(3,(.cells 0 (.rM .i64 0 (.arr .u8 64) e1.pend) true)),(4,(.cells 0 (.rM .i64 0 .bool e1.worn) true))],next := 5,nt := 128,m := 0 }
def ef5vj10 : Ty65 → St := fun (t1,x2,t2,t7,x8,x9,e1) => { tmps := [(1,(.vs (.rT [.int .i64,.int .i64,.int .i64,.str,.sl .i64] t1) x2 5)),(2,(.vs (.rI .i64 t2) 0 1)),(7,(.bool t7)),(8,(.ptr 0 0 5 0 0 0 5)),(11,(.own 1 0 1))],heap := [(0,(.cells 5 (.segs (.cons 1 (.one (.own 2 e1.n 64)) (.cons 1 (.one (.mp 3)) (.cons 1 (.one (.mp 4)) (.cons 1 (.one (.bool e1.off)) (.cons 1 (.one (.int .i64 e1.left)) .nil)))))) true)),(1,(.cells x9 (.rS x8) true)),(2,(.cells e1.blk.length (.rI .u8 e1.blk) true)),(3,(.cells 0 (.rM .i64 0 (.arr .u8 64) e1.pend) true)),(4,(.cells 0 (.rM .i64 0 .bool e1.worn) true))],next := 5,nt := 128,m := 0 }
def ef5vj11 : Ty66 → St := fun (t1,x2,t2,t7,t13,x9,x10,e1) => { tmps := [(1,(.vs (.rT [.int .i64,.int .i64,.int .i64,.str,.sl .i64] t1) x2 5)),(2,(.vs (.rI .i64 t2) 0 1)),(7,(.bool t7)),(8,(.ptr 0 0 5 0 0 0 5)),(11,(.own 1 0 1)),(13,(.int .i64 t13))],heap := [(0,(.cells 5 (.segs (.cons 1 (.one (.own 2 e1.n 64)) (.cons 1 (.one (.mp 3)) (.cons 1 (.one (.mp 4)) (.cons 1 (.one (.bool e1.off)) (.cons 1 (.one (.int .i64 e1.left)) .nil)))))) true)),(1,(.cells x10 (.rS x9) true)),(2,(.cells e1.blk.length (.rI .u8 e1.blk) true)),(3,(.cells 0 (.rM .i64 0 (.arr .u8 64) e1.pend) true)),(4,(.cells 0 (.rM .i64 0 .bool e1.worn) true))],next := 5,nt := 128,m := 0 }
def ef5vl2 : Ty66 → St := fun (t1,x2,t2,t7,t13,x9,x10,e1) => { tmps := [(1,(.vs (.rT [.int .i64,.int .i64,.int .i64,.str,.sl .i64] t1) x2 5)),(2,(.vs (.rI .i64 t2) 0 1)),(7,(.bool t7)),(8,(.ptr 0 0 5 0 0 0 5)),(11,(.own 1 0 1)),(13,(.int .i64 t13))],heap := [(0,(.cells 5 (.segs (.cons 1 (.one (.own 2 e1.n 64)) (.cons 1 (.one (.mp 3)) (.cons 1 (.one (.mp 4)) (.cons 1 (.one (.bool e1.off)) (.cons 1 (.one (.int .i64 e1.left)) .nil)))))) true)),(1,(.cells x10 (.rS x9) true)),(2,(.cells e1.blk.length (.rI .u8 e1.blk) true)),(3,(.cells 0 (.rM .i64 0 (.arr .u8 64) e1.pend) true)),(4,(.cells 0 (.rM .i64 0 .bool e1.worn) true))],next := 5,nt := 128,m := 0 }
def ef5vj12 : Ty66 → St := fun (t1,x2,t2,t7,t13,x9,x10,e1) => { tmps := [(1,(.vs (.rT [.int .i64,.int .i64,.int .i64,.str,.sl .i64] t1) x2 5)),(2,(.vs (.rI .i64 t2) 0 1)),(7,(.bool t7)),(8,(.ptr 0 0 5 0 0 0 5)),(11,(.own 1 0 1)),(13,(.int .i64 t13))],heap := [(0,(.cells 5 (.segs (.cons 1 (.one (.own 2 e1.n 64)) (.cons 1 (.one (.mp 3)) (.cons 1 (.one (.mp 4)) (.cons 1 (.one (.bool e1.off)) (.cons 1 (.one (.int .i64 e1.left)) .nil)))))) true)),(1,(.cells x10 (.rS x9) true)),(2,(.cells e1.blk.length (.rI .u8 e1.blk) true)),(3,(.cells 0 (.rM .i64 0 (.arr .u8 64) e1.pend) true)),(4,(.cells 0 (.rM .i64 0 .bool e1.worn) true))],next := 5,nt := 128,m := 0 }
def ef5vj13 : Ty67 → St := fun (t1,x2,t2,t7,t13,x9,x10,x11,x12,x13,x14,x15,e1) => { tmps := [(1,(.vs (.rT [.int .i64,.int .i64,.int .i64,.str,.sl .i64] t1) x2 5)),(2,(.vs (.rI .i64 t2) 0 1)),(7,(.bool t7)),(8,(.ptr 0 0 5 0 0 0 5)),(11,(.own 1 0 1)),(13,(.int .i64 t13)),(14,(.ptr 2 0 5 0 0 0 5))],heap := [(0,(.cells 5 (.segs (.cons 1 (.one (.own 3 e1.n 64)) (.cons 1 (.one (.mp 4)) (.cons 1 (.one (.mp 5)) (.cons 1 (.one (.bool e1.off)) (.cons 1 (.one (.int .i64 e1.left)) .nil)))))) true)),(1,(.cells x10 (.rS x9) true)),(2,(.cells 5 (.segs (.cons 1 (.one (.int .i64 x11)) (.cons 1 (.one (.int .i64 x12)) (.cons 1 (.one (.int .i64 x13)) (.cons 1 (.one (.str x14)) (.cons 1 (.one (.vs (.rI .i64 x15) 0 1)) .nil)))))) true)),(3,(.cells e1.blk.length (.rI .u8 e1.blk) true)),(4,(.cells 0 (.rM .i64 0 (.arr .u8 64) e1.pend) true)),(5,(.cells 0 (.rM .i64 0 .bool e1.worn) true))],next := 6,nt := 128,m := 0 }
def ef5vj14 : Ty67 → St := fun (t1,x2,t2,t7,t13,x9,x10,x11,x12,x13,x14,x15,e1) => { tmps := [(1,(.vs (.rT [.int .i64,.int .i64,.int .i64,.str,.sl .i64] t1) x2 5)),(2,(.vs (.rI .i64 t2) 0 1)),(7,(.bool t7)),(8,(.ptr 0 0 5 0 0 0 5)),(11,(.own 1 0 1)),(13,(.int .i64 t13)),(14,(.ptr 2 0 5 0 0 0 5))],heap := [(0,(.cells 5 (.segs (.cons 1 (.one (.own 3 e1.n 64)) (.cons 1 (.one (.mp 4)) (.cons 1 (.one (.mp 5)) (.cons 1 (.one (.bool e1.off)) (.cons 1 (.one (.int .i64 e1.left)) .nil)))))) true)),(1,(.cells x10 (.rS x9) true)),(2,(.cells 5 (.segs (.cons 1 (.one (.int .i64 x11)) (.cons 1 (.one (.int .i64 x12)) (.cons 1 (.one (.int .i64 x13)) (.cons 1 (.one (.str x14)) (.cons 1 (.one (.vs (.rI .i64 x15) 0 1)) .nil)))))) true)),(3,(.cells e1.blk.length (.rI .u8 e1.blk) true)),(4,(.cells 0 (.rM .i64 0 (.arr .u8 64) e1.pend) true)),(5,(.cells 0 (.rM .i64 0 .bool e1.worn) true))],next := 6,nt := 128,m := 0 }
def ef5vj15 : Ty68 → St := fun (t1,x2,t2,t7,t13,t16,x10,x11,x12,x13,x14,x15,x16,e1) => { tmps := [(1,(.vs (.rT [.int .i64,.int .i64,.int .i64,.str,.sl .i64] t1) x2 5)),(2,(.vs (.rI .i64 t2) 0 1)),(7,(.bool t7)),(8,(.ptr 0 0 5 0 0 0 5)),(11,(.own 1 0 1)),(13,(.int .i64 t13)),(14,(.ptr 2 0 5 0 0 0 5)),(16,(.int .i64 t16))],heap := [(0,(.cells 5 (.segs (.cons 1 (.one (.own 3 e1.n 64)) (.cons 1 (.one (.mp 4)) (.cons 1 (.one (.mp 5)) (.cons 1 (.one (.bool e1.off)) (.cons 1 (.one (.int .i64 e1.left)) .nil)))))) true)),(1,(.cells x11 (.rS x10) true)),(2,(.cells 5 (.segs (.cons 1 (.one (.int .i64 x12)) (.cons 1 (.one (.int .i64 x13)) (.cons 1 (.one (.int .i64 x14)) (.cons 1 (.one (.str x15)) (.cons 1 (.one (.vs (.rI .i64 x16) 0 1)) .nil)))))) true)),(3,(.cells e1.blk.length (.rI .u8 e1.blk) true)),(4,(.cells 0 (.rM .i64 0 (.arr .u8 64) e1.pend) true)),(5,(.cells 0 (.rM .i64 0 .bool e1.worn) true))],next := 6,nt := 128,m := 0 }
def ef5vj16 : Ty69 → St := fun (t1,x2,t2,t7,t13,t97,x10,x11,x12,x13,x14,x15,x16,e1) => { tmps := [(1,(.vs (.rT [.int .i64,.int .i64,.int .i64,.str,.sl .i64] t1) x2 5)),(2,(.vs (.rI .i64 t2) 0 1)),(7,(.bool t7)),(8,(.ptr 0 0 5 0 0 0 5)),(11,(.own 1 0 1)),(13,(.int .i64 t13)),(14,(.ptr 2 0 5 0 0 0 5)),(97,(.bool t97))],heap := [(0,(.cells 5 (.segs (.cons 1 (.one (.own 3 e1.n 64)) (.cons 1 (.one (.mp 4)) (.cons 1 (.one (.mp 5)) (.cons 1 (.one (.bool e1.off)) (.cons 1 (.one (.int .i64 e1.left)) .nil)))))) true)),(1,(.cells x11 (.rS x10) true)),(2,(.cells 5 (.segs (.cons 1 (.one (.int .i64 x12)) (.cons 1 (.one (.int .i64 x13)) (.cons 1 (.one (.int .i64 x14)) (.cons 1 (.one (.str x15)) (.cons 1 (.one (.vs (.rI .i64 x16) 0 1)) .nil)))))) true)),(3,(.cells e1.blk.length (.rI .u8 e1.blk) true)),(4,(.cells 0 (.rM .i64 0 (.arr .u8 64) e1.pend) true)),(5,(.cells 0 (.rM .i64 0 .bool e1.worn) true))],next := 6,nt := 128,m := 0 }
def ef5vj17 : Ty66 → St := fun (t1,x2,t2,t7,t13,x9,x10,e1) => { tmps := [(1,(.vs (.rT [.int .i64,.int .i64,.int .i64,.str,.sl .i64] t1) x2 5)),(2,(.vs (.rI .i64 t2) 0 1)),(7,(.bool t7)),(8,(.ptr 0 0 5 0 0 0 5)),(11,(.own 1 0 1)),(13,(.int .i64 t13))],heap := [(0,(.cells 5 (.segs (.cons 1 (.one (.own 2 e1.n 64)) (.cons 1 (.one (.mp 3)) (.cons 1 (.one (.mp 4)) (.cons 1 (.one (.bool e1.off)) (.cons 1 (.one (.int .i64 e1.left)) .nil)))))) true)),(1,(.cells x10 (.rS x9) true)),(2,(.cells e1.blk.length (.rI .u8 e1.blk) true)),(3,(.cells 0 (.rM .i64 0 (.arr .u8 64) e1.pend) true)),(4,(.cells 0 (.rM .i64 0 .bool e1.worn) true))],next := 5,nt := 128,m := 0 }
def ef5vj18 : Ty70 → St := fun (t2,t7,x6,x7,e1) => { tmps := [(2,(.vs (.rI .i64 t2) 0 1)),(7,(.bool t7)),(8,(.ptr 0 0 5 0 0 0 5)),(11,(.own 1 0 1))],heap := [(0,(.cells 5 (.segs (.cons 1 (.one (.own 2 e1.n 64)) (.cons 1 (.one (.mp 3)) (.cons 1 (.one (.mp 4)) (.cons 1 (.one (.bool e1.off)) (.cons 1 (.one (.int .i64 e1.left)) .nil)))))) true)),(1,(.cells x7 (.rS x6) true)),(2,(.cells e1.blk.length (.rI .u8 e1.blk) true)),(3,(.cells 0 (.rM .i64 0 (.arr .u8 64) e1.pend) true)),(4,(.cells 0 (.rM .i64 0 .bool e1.worn) true))],next := 5,nt := 128,m := 0 }
def ef5vj19 : Ty71 → St := fun (t2,t7,t17,x7,x8,e1) => { tmps := [(2,(.vs (.rI .i64 t2) 0 1)),(7,(.bool t7)),(8,(.ptr 0 0 5 0 0 0 5)),(11,(.own 1 0 1)),(17,(.int .i64 t17))],heap := [(0,(.cells 5 (.segs (.cons 1 (.one (.own 2 e1.n 64)) (.cons 1 (.one (.mp 3)) (.cons 1 (.one (.mp 4)) (.cons 1 (.one (.bool e1.off)) (.cons 1 (.one (.int .i64 e1.left)) .nil)))))) true)),(1,(.cells x8 (.rS x7) true)),(2,(.cells e1.blk.length (.rI .u8 e1.blk) true)),(3,(.cells 0 (.rM .i64 0 (.arr .u8 64) e1.pend) true)),(4,(.cells 0 (.rM .i64 0 .bool e1.worn) true))],next := 5,nt := 128,m := 0 }
def ef5vj20 : Ty72 → St := fun (t2,t7,t17,t18,x8,x9,e1) => { tmps := [(2,(.vs (.rI .i64 t2) 0 1)),(7,(.bool t7)),(8,(.ptr 0 0 5 0 0 0 5)),(11,(.own 1 0 1)),(17,(.int .i64 t17)),(18,(.bool t18))],heap := [(0,(.cells 5 (.segs (.cons 1 (.one (.own 2 e1.n 64)) (.cons 1 (.one (.mp 3)) (.cons 1 (.one (.mp 4)) (.cons 1 (.one (.bool e1.off)) (.cons 1 (.one (.int .i64 e1.left)) .nil)))))) true)),(1,(.cells x9 (.rS x8) true)),(2,(.cells e1.blk.length (.rI .u8 e1.blk) true)),(3,(.cells 0 (.rM .i64 0 (.arr .u8 64) e1.pend) true)),(4,(.cells 0 (.rM .i64 0 .bool e1.worn) true))],next := 5,nt := 128,m := 0 }
def ef5vj21 : Ty73 → St := fun (t7,t17,t18,x7,x8,e1) => { tmps := [(7,(.bool t7)),(8,(.ptr 0 0 5 0 0 0 5)),(11,(.own 1 0 1)),(17,(.int .i64 t17)),(18,(.bool t18))],heap := [(0,(.cells 5 (.segs (.cons 1 (.one (.own 2 e1.n 64)) (.cons 1 (.one (.mp 3)) (.cons 1 (.one (.mp 4)) (.cons 1 (.one (.bool e1.off)) (.cons 1 (.one (.int .i64 e1.left)) .nil)))))) true)),(1,(.cells x8 (.rS x7) true)),(2,(.cells e1.blk.length (.rI .u8 e1.blk) true)),(3,(.cells 0 (.rM .i64 0 (.arr .u8 64) e1.pend) true)),(4,(.cells 0 (.rM .i64 0 .bool e1.worn) true))],next := 5,nt := 128,m := 0 }
def ef5vj22 : Bool × Int × Bool × Bool → St := fun (t7,t17,t18,t19) => { tmps := [(7,(.bool t7)),(17,(.int .i64 t17)),(18,(.bool t18)),(19,(.bool t19))],heap := [],next := 0,nt := 128,m := 0 }
def f5v_1 (F : Nat) (kf5vj1 : Ty55 → Rz) : Ty55 → Rz := fun (a0,a1,a1n,a2) => (kf5vj1 (a0,a1,a1n,a2))
theorem f5v_1_eq (F : Nat) (Rf5vj1 : St → Rz) : ∀ v,aexec VG355v (Af5v F) (bp Try.f5 2) (ef5v_a v) (kSeq (kc VG355v Rf5vj1 sp28) (kFin VG355v none (Try.f5).results.toList)) = f5v_1 F (Rf5vj1 ∘ ef5vj1) v := by
  rintro ⟨a0,a1,a1n,a2⟩; kernel_rfl
def f5v_2 (F : Nat) (kf5vj2 : Ty58 → Rz) : Ty55 → Rz := fun (t0,t1,x3,t2) => (kf5vj2 (t0,t1,x3,t2,true))
theorem f5v_2_eq (F : Nat) (Rf5vj2 : St → Rz) : ∀ v,aexec VG355v (Af5v F) (bp Try.f5 6) (ef5vj1 v) (kSeq (kc VG355v Rf5vj2 sp29) (kFin VG355v none (Try.f5).results.toList)) = f5v_2 F (Rf5vj2 ∘ ef5vj2) v := by
  rintro ⟨t0,t1,x3,t2⟩; kernel_rfl
def f5v_3 (F : Nat) (kf5vj3 : Ty59 → Rz) : Ty58 → Rz := fun (t0,t1,x3,t2,t7) => (cond ((decide (0 < t0)) && (decide (t0 < 65))) (kf5vj3 (t0,t1,x3,t2,t7,true,(Dk.new t0))) none)
theorem f5v_3_eq (F : Nat) (Rf5vj3 : St → Rz) : ∀ v,aexec VG355v (Af5v F) (bp Try.f5 14) (ef5vj2 v) (kSeq (kc VG355v Rf5vj3 sp30) (kFin VG355v none (Try.f5).results.toList)) = f5v_3 F (Rf5vj3 ∘ ef5vj3) v := by
  rintro ⟨t0,t1,x3,t2,t7⟩; kernel_rfl
def f5v_4 (F : Nat) (kf5vj4 : Ty60 → Rz) (kf5vj5 : Ty61 → Rz) : Ty59 → Rz := fun (t0,t1,x3,t2,t7,t10,e1) => (cond (!t10) (kf5vj4 (t0,t1,x3,t2,t7,t10,true,e1)) (kf5vj4 (t0,t1,x3,t2,t7,t10,(decide ((↑x3 : Int) > (60 : Int))),e1)))
theorem f5v_4_eq (F : Nat) (Rf5vj4 : St → Rz) (Rf5vj5 : St → Rz) : ∀ v,aexec VG355v (Af5v F) (bp Try.f5 60) (ef5vj3 v) (kSeq (kc VG355v Rf5vj4 sp38) (kSeq (kc VG355v Rf5vj5 sp39) (kFin VG355v none (Try.f5).results.toList))) = f5v_4 F (Rf5vj4 ∘ ef5vj4) (Rf5vj5 ∘ ef5vj5) v := by
  rintro ⟨t0,t1,x3,t2,t7,t10,e1⟩; kernel_rfl
def f5v_5 (F : Nat) (kf5vj5 : Ty61 → Rz) : Ty60 → Rz := fun (t0,t1,x3,t2,t7,t10,t33,e1) => (cond t33 (cond t7 (cond t10 (some ((.bool true),[])) (cond (decide (t0 < (1 : Int))) (some ((.bool true),[])) (some ((.bool (decide (t0 > (64 : Int)))),[])))) (some ((.bool false),[]))) (kf5vj5 (t0,t1,x3,t2,t7,e1)))
theorem f5v_5_eq (F : Nat) (Rf5vj5 : St → Rz) : ∀ v,aexec VG355v (Af5v F) (bp Try.f5 61) (ef5vj4 v) (kSeq (kc VG355v Rf5vj5 sp39) (kFin VG355v none (Try.f5).results.toList)) = f5v_5 F (Rf5vj5 ∘ ef5vj5) v := by
  rintro ⟨t0,t1,x3,t2,t7,t10,t33,e1⟩; kernel_rfl
def f5v_6 (F : Nat) (kf5vj5 : Ty61 → Rz) : Ty59 → Rz := fun v => f5v_4 F (f5v_5 F kf5vj5) kf5vj5 v
theorem f5v_6_eq (F : Nat) (Rf5vj5 : St → Rz) : ∀ v,aexec VG355v (Af5v F) (bp Try.f5 30) (ef5vj3 v) (kSeq (kc VG355v Rf5vj5 sp39) (kFin VG355v none (Try.f5).results.toList)) = f5v_6 F (Rf5vj5 ∘ ef5vj5) v :=
  seq_cut (by kernel_rfl) (by kernel_rfl) ef5vj3 ef5vj4 _ (fun k => f5v_4 F k (Rf5vj5 ∘ ef5vj5)) (f5v_5 F (Rf5vj5 ∘ ef5vj5))
    (fun Rf5vj4 => f5v_4_eq F Rf5vj4 Rf5vj5) (f5v_5_eq F Rf5vj5)
def f5v_7 (F : Nat) (kf5vj6 : Ty62 → Rz) : Ty61 → Rz := fun (t0,t1,x3,t2,t7,e1) => (cond (((decide (0 ≤ t0)) && (decide (t0 ≤ t0))) && (decide (t0 < 1073741824))) (kf5vj6 (t0,t1,x3,t2,t7,(List.replicate (Int.toNat t0) []),e1)) none)
theorem f5v_7_eq (F : Nat) (Rf5vj6 : St → Rz) : ∀ v,aexec VG355v (Af5v F) (bp Try.f5 62) (ef5vj5 v) (kSeq (kc VG355v Rf5vj6 sp40) (kFin VG355v none (Try.f5).results.toList)) = f5v_7 F (Rf5vj6 ∘ ef5vj6) v := by
  rintro ⟨t0,t1,x3,t2,t7,e1⟩; kernel_rfl
def f5v_8 (F : Nat) (kf5vj7 : Ty63 → Rz) (kf5vj10 : Ty65 → Rz) : Ty62 → Rz := fun (t0,t1,x3,t2,t7,x9,e1) => (kf5vj7 (t0,t1,x3,t2,t7,(0 : Int),x9,e1))
theorem f5v_8_eq (F : Nat) (Rf5vj7 : St → Rz) (Rf5vj10 : St → Rz) : ∀ v,aexec VG355v (Af5v F) (bp Try.f5 252) (ef5vj6 v) (kSeq (kc VG355v Rf5vj7 sp36) (kSeq (kc VG355v Rf5vj10 sp41) (kFin VG355v none (Try.f5).results.toList))) = f5v_8 F (Rf5vj7 ∘ ef5vj7) (Rf5vj10 ∘ ef5vj10) v := by
  rintro ⟨t0,t1,x3,t2,t7,x9,e1⟩; kernel_rfl
def f5v_9 (F : Nat) (kf5vj8 : Ty64 → Rz) (kf5vl1 : Ty64 → Rz) (kf5vj10 : Ty65 → Rz) : Ty64 → Rz := fun (t0,t1,x3,t2,t7,t12,x10,x14,e1) => (cond (decide (t12 < t0)) (kf5vj8 (t0,t1,x3,t2,t7,t12,x10,x14,e1)) (kf5vj10 (t1,x3,t2,t7,x10,x14,e1)))
theorem f5v_9_eq (F : Nat) (Rf5vj8 : St → Rz) (Rf5vl1 : St → Rz) (Rf5vj10 : St → Rz) : ∀ v,aexec VG355v (Af5v F) (bp Try.f5 2024) (ef5vl1 v) (kSeq (kc VG355v Rf5vj8 sp36) (kSeq (kc VG355v Rf5vl1 sp36) (kBlock 0 (kSeq (kc VG355v Rf5vj10 sp41) (kFin VG355v none (Try.f5).results.toList))))) = f5v_9 F (Rf5vj8 ∘ ef5vj8) (Rf5vl1 ∘ ef5vl1) (Rf5vj10 ∘ ef5vj10) v := by
  rintro ⟨t0,t1,x3,t2,t7,t12,x10,x14,e1⟩; kernel_rfl
def f5v_10 (F : Nat) (kf5vj9 : Ty64 → Rz) (kf5vl1 : Ty64 → Rz) (kf5vj10 : Ty65 → Rz) : Ty64 → Rz := fun (t0,t1,x3,t2,t7,t12,x10,x11,e1) => (cond ((decide (0 ≤ t12)) && (decide (t12 < (↑x10.length : Int)))) (kf5vj9 (t0,t1,x3,t2,t7,t12,(x10.set (Int.toNat t12) (Dk.full (0 : Int))),x11,e1)) none)
theorem f5v_10_eq (F : Nat) (Rf5vj9 : St → Rz) (Rf5vl1 : St → Rz) (Rf5vj10 : St → Rz) : ∀ v,aexec VG355v (Af5v F) (bp Try.f5 4050) (ef5vj8 v) (kSeq (kc VG355v Rf5vj9 sp36) (kSeq (kc VG355v Rf5vl1 sp36) (kBlock 0 (kSeq (kc VG355v Rf5vj10 sp41) (kFin VG355v none (Try.f5).results.toList))))) = f5v_10 F (Rf5vj9 ∘ ef5vj9) (Rf5vl1 ∘ ef5vl1) (Rf5vj10 ∘ ef5vj10) v := by
  rintro ⟨t0,t1,x3,t2,t7,t12,x10,x11,e1⟩; kernel_rfl
def f5v_11 (F : Nat) (kf5vl1 : Ty64 → Rz) (kf5vj10 : Ty65 → Rz) : Ty64 → Rz := fun (t0,t1,x3,t2,t7,t12,x10,x11,e1) => (kf5vl1 (t0,t1,x3,t2,t7,(IntKind.i64.wrap (t12 + (1 : Int))),x10,x11,e1))
theorem f5v_11_eq (F : Nat) (Rf5vl1 : St → Rz) (Rf5vj10 : St → Rz) : ∀ v,aexec VG355v (Af5v F) (bp Try.f5 4051) (ef5vj9 v) (kSeq (kc VG355v Rf5vl1 sp36) (kBlock 0 (kSeq (kc VG355v Rf5vj10 sp41) (kFin VG355v none (Try.f5).results.toList)))) = f5v_11 F (Rf5vl1 ∘ ef5vl1) (Rf5vj10 ∘ ef5vj10) v := by
  rintro ⟨t0,t1,x3,t2,t7,t12,x10,x11,e1⟩; kernel_rfl
def f5v_12 (F : Nat) (kf5vl1 : Ty64 → Rz) (kf5vj10 : Ty65 → Rz) : Ty64 → Rz := fun v => f5v_10 F (f5v_11 F kf5vl1 kf5vj10) kf5vl1 kf5vj10 v
theorem f5v_12_eq (F : Nat) (Rf5vl1 : St → Rz) (Rf5vj10 : St → Rz) : ∀ v,aexec VG355v (Af5v F) (bp Try.f5 2025) (ef5vj8 v) (kSeq (kc VG355v Rf5vl1 sp36) (kBlock 0 (kSeq (kc VG355v Rf5vj10 sp41) (kFin VG355v none (Try.f5).results.toList)))) = f5v_12 F (Rf5vl1 ∘ ef5vl1) (Rf5vj10 ∘ ef5vj10) v :=
  seq_cut (by kernel_rfl) (by kernel_rfl) ef5vj8 ef5vj9 _ (fun k => f5v_10 F k (Rf5vl1 ∘ ef5vl1) (Rf5vj10 ∘ ef5vj10)) (f5v_11 F (Rf5vl1 ∘ ef5vl1) (Rf5vj10 ∘ ef5vj10))
    (fun Rf5vj9 => f5v_10_eq F Rf5vj9 Rf5vl1 Rf5vj10) (f5v_11_eq F Rf5vl1 Rf5vj10)
def f5v_13 (F : Nat) (kf5vl1 : Ty64 → Rz) (kf5vj10 : Ty65 → Rz) : Ty64 → Rz := fun v => f5v_9 F (f5v_12 F kf5vl1 kf5vj10) kf5vl1 kf5vj10 v
theorem f5v_13_eq (F : Nat) (Rf5vl1 : St → Rz) (Rf5vj10 : St → Rz) : ∀ v,aexec VG355v (Af5v F) (bp Try.f5 1012) (ef5vl1 v) (kSeq (kc VG355v Rf5vl1 sp36) (kBlock 0 (kSeq (kc VG355v Rf5vj10 sp41) (kFin VG355v none (Try.f5).results.toList)))) = f5v_13 F (Rf5vl1 ∘ ef5vl1) (Rf5vj10 ∘ ef5vj10) v :=
  seq_cut (by kernel_rfl) (by kernel_rfl) ef5vl1 ef5vj8 _ (fun k => f5v_9 F k (Rf5vl1 ∘ ef5vl1) (Rf5vj10 ∘ ef5vj10)) (f5v_12 F (Rf5vl1 ∘ ef5vl1) (Rf5vj10 ∘ ef5vj10))
    (fun Rf5vj8 => f5v_9_eq F Rf5vj8 Rf5vl1 Rf5vj10) (f5v_12_eq F Rf5vl1 Rf5vj10)
def f5v_14_i : Ty63 → Int × (List (List (List Int))) × Nat × (List Int) × Bool × Int × (List (List Int)) × Nat × (Dk.D) := fun (t0,t1,x3,t2,t7,t12,x10,e1) => (t0,t1,x3,t2,t7,t12,x10,x10.length,e1)
def f5v_14 (F : Nat) (kf5vj10 : Ty65 → Rz) : Ty63 → Rz := fun v => loopN (fun k => f5v_13 F k kf5vj10) F (f5v_14_i v)
theorem f5v_14_eq (F : Nat) (Rf5vj10 : St → Rz) : ∀ v,aexec VG355v (Af5v F) (bp Try.f5 506) (ef5vj7 v) (kBlock 0 (kSeq (kc VG355v Rf5vj10 sp41) (kFin VG355v none (Try.f5).results.toList))) = f5v_14 F (Rf5vj10 ∘ ef5vj10) v :=
  loop_cut (by kernel_rfl) (by kernel_rfl) ef5vj7 ef5vl1 _ f5v_14_i (fun k => f5v_13 F k (Rf5vj10 ∘ ef5vj10))
    (by rintro ⟨t0,t1,x3,t2,t7,t12,x10,e1⟩; kernel_rfl) (fun Rf5vl1 => f5v_13_eq F Rf5vl1 Rf5vj10)
def f5v_15 (F : Nat) (kf5vj10 : Ty65 → Rz) : Ty63 → Rz := f5v_14 F kf5vj10
theorem f5v_15_eq (F : Nat) (Rf5vj10 : St → Rz) : ∀ v,aexec VG355v (Af5v F) (bp Try.f5 253) (ef5vj7 v) (kSeq (kc VG355v Rf5vj10 sp41) (kFin VG355v none (Try.f5).results.toList)) = f5v_15 F (Rf5vj10 ∘ ef5vj10) v := fun v =>
  (block_in  (by kernel_rfl) _ _).trans (f5v_14_eq F Rf5vj10 v)
def f5v_16 (F : Nat) (kf5vj10 : Ty65 → Rz) : Ty62 → Rz := fun v => f5v_8 F (f5v_15 F kf5vj10) kf5vj10 v
theorem f5v_16_eq (F : Nat) (Rf5vj10 : St → Rz) : ∀ v,aexec VG355v (Af5v F) (bp Try.f5 126) (ef5vj6 v) (kSeq (kc VG355v Rf5vj10 sp41) (kFin VG355v none (Try.f5).results.toList)) = f5v_16 F (Rf5vj10 ∘ ef5vj10) v :=
  seq_cut (by kernel_rfl) (by kernel_rfl) ef5vj6 ef5vj7 _ (fun k => f5v_8 F k (Rf5vj10 ∘ ef5vj10)) (f5v_15 F (Rf5vj10 ∘ ef5vj10))
    (fun Rf5vj7 => f5v_8_eq F Rf5vj7 Rf5vj10) (f5v_15_eq F Rf5vj10)
def f5v_17 (F : Nat) (kf5vj11 : Ty66 → Rz) (kf5vj18 : Ty70 → Rz) : Ty65 → Rz := fun (t1,x2,t2,t7,x8,x9,e1) => (kf5vj11 (t1,x2,t2,t7,(0 : Int),x8,x9,e1))
theorem f5v_17_eq (F : Nat) (Rf5vj11 : St → Rz) (Rf5vj18 : St → Rz) : ∀ v,aexec VG355v (Af5v F) (bp Try.f5 508) (ef5vj10 v) (kSeq (kc VG355v Rf5vj11 sp37) (kSeq (kc VG355v Rf5vj18 sp45) (kFin VG355v none (Try.f5).results.toList))) = f5v_17 F (Rf5vj11 ∘ ef5vj11) (Rf5vj18 ∘ ef5vj18) v := by
  rintro ⟨t1,x2,t2,t7,x8,x9,e1⟩; kernel_rfl
def f5v_18 (F : Nat) (kf5vj12 : Ty66 → Rz) (kf5vl2 : Ty66 → Rz) (kf5vj18 : Ty70 → Rz) : Ty66 → Rz := fun (t1,x2,t2,t7,t13,x9,x10,e1) => (cond (decide (t13 < (↑x2 : Int))) (kf5vj12 (t1,x2,t2,t7,t13,x9,x10,e1)) (kf5vj18 (t2,t7,x9,x10,e1)))
theorem f5v_18_eq (F : Nat) (Rf5vj12 : St → Rz) (Rf5vl2 : St → Rz) (Rf5vj18 : St → Rz) : ∀ v,aexec VG355v (Af5v F) (bp Try.f5 4072) (ef5vl2 v) (kSeq (kc VG355v Rf5vj12 sp37) (kSeq (kc VG355v Rf5vl2 sp37) (kBlock 2 (kSeq (kc VG355v Rf5vj18 sp45) (kFin VG355v none (Try.f5).results.toList))))) = f5v_18 F (Rf5vj12 ∘ ef5vj12) (Rf5vl2 ∘ ef5vl2) (Rf5vj18 ∘ ef5vj18) v := by
  rintro ⟨t1,x2,t2,t7,t13,x9,x10,e1⟩; kernel_rfl
def f5v_19 (F : Nat) (kf5vj13 : Ty67 → Rz) (kf5vj17 : Ty66 → Rz) (kf5vl2 : Ty66 → Rz) (kf5vj18 : Ty70 → Rz) : Ty66 → Rz := fun (t1,x2,t2,t7,t13,x9,x10,e1) => (cond ((decide (0 ≤ t13)) && (decide (t13 < (↑x2 : Int)))) (kf5vj13 (t1,x2,t2,t7,t13,x9,x10,(((t1.getD (Int.toNat t13) []).getD 0 []).getD 0 0),(((t1.getD (Int.toNat t13) []).getD 1 []).getD 0 0),(((t1.getD (Int.toNat t13) []).getD 2 []).getD 0 0),((t1.getD (Int.toNat t13) []).getD 3 []),((t1.getD (Int.toNat t13) []).getD 4 []),e1)) none)
theorem f5v_19_eq (F : Nat) (Rf5vj13 : St → Rz) (Rf5vj17 : St → Rz) (Rf5vl2 : St → Rz) (Rf5vj18 : St → Rz) : ∀ v,aexec VG355v (Af5v F) (bp Try.f5 32584) (ef5vj12 v) (kSeq (kc VG355v Rf5vj13 sp42) (kBlock 3 (kSeq (kc VG355v Rf5vj17 sp37) (kSeq (kc VG355v Rf5vl2 sp37) (kBlock 2 (kSeq (kc VG355v Rf5vj18 sp45) (kFin VG355v none (Try.f5).results.toList))))))) = f5v_19 F (Rf5vj13 ∘ ef5vj13) (Rf5vj17 ∘ ef5vj17) (Rf5vl2 ∘ ef5vl2) (Rf5vj18 ∘ ef5vj18) v := by
  rintro ⟨t1,x2,t2,t7,t13,x9,x10,e1⟩; kernel_rfl
def f5v_20 (F : Nat) (kf5vj14 : Ty67 → Rz) (kf5vj17 : Ty66 → Rz) (kf5vl2 : Ty66 → Rz) (kf5vj18 : Ty70 → Rz) : Ty67 → Rz := fun (t1,x2,t2,t7,t13,x9,x10,x11,x12,x13,x14,x15,e1) => (cond (x11 == (6 : Int)) (kf5vj17 (t1,x2,t2,t7,t13,x9,x10,e1)) (cond (x11 == (7 : Int)) (kf5vj17 (t1,x2,t2,t7,t13,x9,x10,e1)) (cond (x11 == (4 : Int)) (kf5vj17 (t1,x2,t2,t7,t13,x9,x10,e1)) (cond (x11 == (5 : Int)) (kf5vj17 (t1,x2,t2,t7,t13,x9,x10,e1)) (kf5vj14 (t1,x2,t2,t7,t13,x9,x10,x11,x12,x13,x14,x15,e1))))))
theorem f5v_20_eq (F : Nat) (Rf5vj14 : St → Rz) (Rf5vj17 : St → Rz) (Rf5vl2 : St → Rz) (Rf5vj18 : St → Rz) : ∀ v,aexec VG355v (Af5v F) (bp Try.f5 65170) (ef5vj13 v) (kSeq (kc VG355v Rf5vj14 sp42) (kBlock 3 (kSeq (kc VG355v Rf5vj17 sp37) (kSeq (kc VG355v Rf5vl2 sp37) (kBlock 2 (kSeq (kc VG355v Rf5vj18 sp45) (kFin VG355v none (Try.f5).results.toList))))))) = f5v_20 F (Rf5vj14 ∘ ef5vj14) (Rf5vj17 ∘ ef5vj17) (Rf5vl2 ∘ ef5vl2) (Rf5vj18 ∘ ef5vj18) v := by
  rintro ⟨t1,x2,t2,t7,t13,x9,x10,x11,x12,x13,x14,x15,e1⟩; kernel_rfl
def f5v_21 (F : Nat) (kf5vj15 : Ty68 → Rz) (kf5vj17 : Ty66 → Rz) (kf5vl2 : Ty66 → Rz) (kf5vj18 : Ty70 → Rz) : Ty67 → Rz := fun (t1,x2,t2,t7,t13,x9,x10,x11,x12,x13,x14,x15,e1) => (cond (Dk.fine e1) (kf5vj15 (t1,x2,t2,t7,t13,(Dk.op e1 x11 x12 x13 x14 x15).2.2,x9,x10,x11,x12,x13,x14,x15,(Dk.op e1 x11 x12 x13 x14 x15).1)) none)
theorem f5v_21_eq (F : Nat) (Rf5vj15 : St → Rz) (Rf5vj17 : St → Rz) (Rf5vl2 : St → Rz) (Rf5vj18 : St → Rz) : ∀ v,aexec VG355v (Af5v F) (bp Try.f5 130342) (ef5vj14 v) (kSeq (kc VG355v Rf5vj15 sp43) (kBlock 3 (kSeq (kc VG355v Rf5vj17 sp37) (kSeq (kc VG355v Rf5vl2 sp37) (kBlock 2 (kSeq (kc VG355v Rf5vj18 sp45) (kFin VG355v none (Try.f5).results.toList))))))) = f5v_21 F (Rf5vj15 ∘ ef5vj15) (Rf5vj17 ∘ ef5vj17) (Rf5vl2 ∘ ef5vl2) (Rf5vj18 ∘ ef5vj18) v := by
  rintro ⟨t1,x2,t2,t7,t13,x9,x10,x11,x12,x13,x14,x15,e1⟩; kernel_rfl
def f5v_22 (F : Nat) (kf5vj16 : Ty69 → Rz) (kf5vj17 : Ty66 → Rz) (kf5vl2 : Ty66 → Rz) (kf5vj18 : Ty70 → Rz) : Ty68 → Rz := fun (t1,x2,t2,t7,t13,t16,x10,x11,x12,x13,x14,x15,x16,e1) => (cond (x12 == (1 : Int)) (kf5vj16 (t1,x2,t2,t7,t13,(t16 == (0 : Int)),x10,x11,x12,x13,x14,x15,x16,e1)) (kf5vj16 (t1,x2,t2,t7,t13,false,x10,x11,x12,x13,x14,x15,x16,e1)))
theorem f5v_22_eq (F : Nat) (Rf5vj16 : St → Rz) (Rf5vj17 : St → Rz) (Rf5vl2 : St → Rz) (Rf5vj18 : St → Rz) : ∀ v,aexec VG355v (Af5v F) (bp Try.f5 260686) (ef5vj15 v) (kSeq (kc VG355v Rf5vj16 sp44) (kBlock 3 (kSeq (kc VG355v Rf5vj17 sp37) (kSeq (kc VG355v Rf5vl2 sp37) (kBlock 2 (kSeq (kc VG355v Rf5vj18 sp45) (kFin VG355v none (Try.f5).results.toList))))))) = f5v_22 F (Rf5vj16 ∘ ef5vj16) (Rf5vj17 ∘ ef5vj17) (Rf5vl2 ∘ ef5vl2) (Rf5vj18 ∘ ef5vj18) v := by
  rintro ⟨t1,x2,t2,t7,t13,t16,x10,x11,x12,x13,x14,x15,x16,e1⟩; kernel_rfl
def f5v_23 (F : Nat) (kf5vj17 : Ty66 → Rz) (kf5vl2 : Ty66 → Rz) (kf5vj18 : Ty70 → Rz) : Ty69 → Rz := fun (t1,x2,t2,t7,t13,t97,x10,x11,x12,x13,x14,x15,x16,e1) => (cond t97 (cond ((decide (0 ≤ x13)) && (decide (x13 < (↑x10.length : Int)))) (kf5vj17 (t1,x2,t2,t7,t13,(x10.set (Int.toNat x13) (Dk.text x15)),x11,e1)) none) (kf5vj17 (t1,x2,t2,t7,t13,x10,x11,e1)))
theorem f5v_23_eq (F : Nat) (Rf5vj17 : St → Rz) (Rf5vl2 : St → Rz) (Rf5vj18 : St → Rz) : ∀ v,aexec VG355v (Af5v F) (bp Try.f5 260687) (ef5vj16 v) (kBlock 3 (kSeq (kc VG355v Rf5vj17 sp37) (kSeq (kc VG355v Rf5vl2 sp37) (kBlock 2 (kSeq (kc VG355v Rf5vj18 sp45) (kFin VG355v none (Try.f5).results.toList)))))) = f5v_23 F (Rf5vj17 ∘ ef5vj17) (Rf5vl2 ∘ ef5vl2) (Rf5vj18 ∘ ef5vj18) v := by
  rintro ⟨t1,x2,t2,t7,t13,t97,x10,x11,x12,x13,x14,x15,x16,e1⟩; kernel_rfl
def f5v_24 (F : Nat) (kf5vj17 : Ty66 → Rz) (kf5vl2 : Ty66 → Rz) (kf5vj18 : Ty70 → Rz) : Ty68 → Rz := fun v => f5v_22 F (f5v_23 F kf5vj17 kf5vl2 kf5vj18) kf5vj17 kf5vl2 kf5vj18 v
theorem f5v_24_eq (F : Nat) (Rf5vj17 : St → Rz) (Rf5vl2 : St → Rz) (Rf5vj18 : St → Rz) : ∀ v,aexec VG355v (Af5v F) (bp Try.f5 130343) (ef5vj15 v) (kBlock 3 (kSeq (kc VG355v Rf5vj17 sp37) (kSeq (kc VG355v Rf5vl2 sp37) (kBlock 2 (kSeq (kc VG355v Rf5vj18 sp45) (kFin VG355v none (Try.f5).results.toList)))))) = f5v_24 F (Rf5vj17 ∘ ef5vj17) (Rf5vl2 ∘ ef5vl2) (Rf5vj18 ∘ ef5vj18) v :=
  seq_cut (by kernel_rfl) (by kernel_rfl) ef5vj15 ef5vj16 _ (fun k => f5v_22 F k (Rf5vj17 ∘ ef5vj17) (Rf5vl2 ∘ ef5vl2) (Rf5vj18 ∘ ef5vj18)) (f5v_23 F (Rf5vj17 ∘ ef5vj17) (Rf5vl2 ∘ ef5vl2) (Rf5vj18 ∘ ef5vj18))
    (fun Rf5vj16 => f5v_22_eq F Rf5vj16 Rf5vj17 Rf5vl2 Rf5vj18) (f5v_23_eq F Rf5vj17 Rf5vl2 Rf5vj18)
def f5v_25 (F : Nat) (kf5vj17 : Ty66 → Rz) (kf5vl2 : Ty66 → Rz) (kf5vj18 : Ty70 → Rz) : Ty67 → Rz := fun v => f5v_21 F (f5v_24 F kf5vj17 kf5vl2 kf5vj18) kf5vj17 kf5vl2 kf5vj18 v
theorem f5v_25_eq (F : Nat) (Rf5vj17 : St → Rz) (Rf5vl2 : St → Rz) (Rf5vj18 : St → Rz) : ∀ v,aexec VG355v (Af5v F) (bp Try.f5 65171) (ef5vj14 v) (kBlock 3 (kSeq (kc VG355v Rf5vj17 sp37) (kSeq (kc VG355v Rf5vl2 sp37) (kBlock 2 (kSeq (kc VG355v Rf5vj18 sp45) (kFin VG355v none (Try.f5).results.toList)))))) = f5v_25 F (Rf5vj17 ∘ ef5vj17) (Rf5vl2 ∘ ef5vl2) (Rf5vj18 ∘ ef5vj18) v :=
  seq_cut (by kernel_rfl) (by kernel_rfl) ef5vj14 ef5vj15 _ (fun k => f5v_21 F k (Rf5vj17 ∘ ef5vj17) (Rf5vl2 ∘ ef5vl2) (Rf5vj18 ∘ ef5vj18)) (f5v_24 F (Rf5vj17 ∘ ef5vj17) (Rf5vl2 ∘ ef5vl2) (Rf5vj18 ∘ ef5vj18))
    (fun Rf5vj15 => f5v_21_eq F Rf5vj15 Rf5vj17 Rf5vl2 Rf5vj18) (f5v_24_eq F Rf5vj17 Rf5vl2 Rf5vj18)
def f5v_26 (F : Nat) (kf5vj17 : Ty66 → Rz) (kf5vl2 : Ty66 → Rz) (kf5vj18 : Ty70 → Rz) : Ty67 → Rz := fun v => f5v_20 F (f5v_25 F kf5vj17 kf5vl2 kf5vj18) kf5vj17 kf5vl2 kf5vj18 v
theorem f5v_26_eq (F : Nat) (Rf5vj17 : St → Rz) (Rf5vl2 : St → Rz) (Rf5vj18 : St → Rz) : ∀ v,aexec VG355v (Af5v F) (bp Try.f5 32585) (ef5vj13 v) (kBlock 3 (kSeq (kc VG355v Rf5vj17 sp37) (kSeq (kc VG355v Rf5vl2 sp37) (kBlock 2 (kSeq (kc VG355v Rf5vj18 sp45) (kFin VG355v none (Try.f5).results.toList)))))) = f5v_26 F (Rf5vj17 ∘ ef5vj17) (Rf5vl2 ∘ ef5vl2) (Rf5vj18 ∘ ef5vj18) v :=
  seq_cut (by kernel_rfl) (by kernel_rfl) ef5vj13 ef5vj14 _ (fun k => f5v_20 F k (Rf5vj17 ∘ ef5vj17) (Rf5vl2 ∘ ef5vl2) (Rf5vj18 ∘ ef5vj18)) (f5v_25 F (Rf5vj17 ∘ ef5vj17) (Rf5vl2 ∘ ef5vl2) (Rf5vj18 ∘ ef5vj18))
    (fun Rf5vj14 => f5v_20_eq F Rf5vj14 Rf5vj17 Rf5vl2 Rf5vj18) (f5v_25_eq F Rf5vj17 Rf5vl2 Rf5vj18)
def f5v_27 (F : Nat) (kf5vj17 : Ty66 → Rz) (kf5vl2 : Ty66 → Rz) (kf5vj18 : Ty70 → Rz) : Ty66 → Rz := fun v => f5v_19 F (f5v_26 F kf5vj17 kf5vl2 kf5vj18) kf5vj17 kf5vl2 kf5vj18 v
theorem f5v_27_eq (F : Nat) (Rf5vj17 : St → Rz) (Rf5vl2 : St → Rz) (Rf5vj18 : St → Rz) : ∀ v,aexec VG355v (Af5v F) (bp Try.f5 16292) (ef5vj12 v) (kBlock 3 (kSeq (kc VG355v Rf5vj17 sp37) (kSeq (kc VG355v Rf5vl2 sp37) (kBlock 2 (kSeq (kc VG355v Rf5vj18 sp45) (kFin VG355v none (Try.f5).results.toList)))))) = f5v_27 F (Rf5vj17 ∘ ef5vj17) (Rf5vl2 ∘ ef5vl2) (Rf5vj18 ∘ ef5vj18) v :=
  seq_cut (by kernel_rfl) (by kernel_rfl) ef5vj12 ef5vj13 _ (fun k => f5v_19 F k (Rf5vj17 ∘ ef5vj17) (Rf5vl2 ∘ ef5vl2) (Rf5vj18 ∘ ef5vj18)) (f5v_26 F (Rf5vj17 ∘ ef5vj17) (Rf5vl2 ∘ ef5vl2) (Rf5vj18 ∘ ef5vj18))
    (fun Rf5vj13 => f5v_19_eq F Rf5vj13 Rf5vj17 Rf5vl2 Rf5vj18) (f5v_26_eq F Rf5vj17 Rf5vl2 Rf5vj18)
def f5v_28 (F : Nat) (kf5vj17 : Ty66 → Rz) (kf5vl2 : Ty66 → Rz) (kf5vj18 : Ty70 → Rz) : Ty66 → Rz := f5v_27 F kf5vj17 kf5vl2 kf5vj18
theorem f5v_28_eq (F : Nat) (Rf5vj17 : St → Rz) (Rf5vl2 : St → Rz) (Rf5vj18 : St → Rz) : ∀ v,aexec VG355v (Af5v F) (bp Try.f5 8146) (ef5vj12 v) (kSeq (kc VG355v Rf5vj17 sp37) (kSeq (kc VG355v Rf5vl2 sp37) (kBlock 2 (kSeq (kc VG355v Rf5vj18 sp45) (kFin VG355v none (Try.f5).results.toList))))) = f5v_28 F (Rf5vj17 ∘ ef5vj17) (Rf5vl2 ∘ ef5vl2) (Rf5vj18 ∘ ef5vj18) v := fun v =>
  (block_in  (by kernel_rfl) _ _).trans (f5v_27_eq F Rf5vj17 Rf5vl2 Rf5vj18 v)
def f5v_29 (F : Nat) (kf5vl2 : Ty66 → Rz) (kf5vj18 : Ty70 → Rz) : Ty66 → Rz := fun (t1,x2,t2,t7,t13,x9,x10,e1) => (kf5vl2 (t1,x2,t2,t7,(IntKind.i64.wrap (t13 + (1 : Int))),x9,x10,e1))
theorem f5v_29_eq (F : Nat) (Rf5vl2 : St → Rz) (Rf5vj18 : St → Rz) : ∀ v,aexec VG355v (Af5v F) (bp Try.f5 8147) (ef5vj17 v) (kSeq (kc VG355v Rf5vl2 sp37) (kBlock 2 (kSeq (kc VG355v Rf5vj18 sp45) (kFin VG355v none (Try.f5).results.toList)))) = f5v_29 F (Rf5vl2 ∘ ef5vl2) (Rf5vj18 ∘ ef5vj18) v := by
  rintro ⟨t1,x2,t2,t7,t13,x9,x10,e1⟩; kernel_rfl
def f5v_30 (F : Nat) (kf5vl2 : Ty66 → Rz) (kf5vj18 : Ty70 → Rz) : Ty66 → Rz := fun v => f5v_28 F (f5v_29 F kf5vl2 kf5vj18) kf5vl2 kf5vj18 v
theorem f5v_30_eq (F : Nat) (Rf5vl2 : St → Rz) (Rf5vj18 : St → Rz) : ∀ v,aexec VG355v (Af5v F) (bp Try.f5 4073) (ef5vj12 v) (kSeq (kc VG355v Rf5vl2 sp37) (kBlock 2 (kSeq (kc VG355v Rf5vj18 sp45) (kFin VG355v none (Try.f5).results.toList)))) = f5v_30 F (Rf5vl2 ∘ ef5vl2) (Rf5vj18 ∘ ef5vj18) v :=
  seq_cut (by kernel_rfl) (by kernel_rfl) ef5vj12 ef5vj17 _ (fun k => f5v_28 F k (Rf5vl2 ∘ ef5vl2) (Rf5vj18 ∘ ef5vj18)) (f5v_29 F (Rf5vl2 ∘ ef5vl2) (Rf5vj18 ∘ ef5vj18))
    (fun Rf5vj17 => f5v_28_eq F Rf5vj17 Rf5vl2 Rf5vj18) (f5v_29_eq F Rf5vl2 Rf5vj18)
def f5v_31 (F : Nat) (kf5vl2 : Ty66 → Rz) (kf5vj18 : Ty70 → Rz) : Ty66 → Rz := fun v => f5v_18 F (f5v_30 F kf5vl2 kf5vj18) kf5vl2 kf5vj18 v
theorem f5v_31_eq (F : Nat) (Rf5vl2 : St → Rz) (Rf5vj18 : St → Rz) : ∀ v,aexec VG355v (Af5v F) (bp Try.f5 2036) (ef5vl2 v) (kSeq (kc VG355v Rf5vl2 sp37) (kBlock 2 (kSeq (kc VG355v Rf5vj18 sp45) (kFin VG355v none (Try.f5).results.toList)))) = f5v_31 F (Rf5vl2 ∘ ef5vl2) (Rf5vj18 ∘ ef5vj18) v :=
  seq_cut (by kernel_rfl) (by kernel_rfl) ef5vl2 ef5vj12 _ (fun k => f5v_18 F k (Rf5vl2 ∘ ef5vl2) (Rf5vj18 ∘ ef5vj18)) (f5v_30 F (Rf5vl2 ∘ ef5vl2) (Rf5vj18 ∘ ef5vj18))
    (fun Rf5vj12 => f5v_18_eq F Rf5vj12 Rf5vl2 Rf5vj18) (f5v_30_eq F Rf5vl2 Rf5vj18)
def f5v_32_i : Ty66 → (List (List (List Int))) × Nat × (List Int) × Bool × Int × (List (List Int)) × Nat × (Dk.D) := fun (t1,x2,t2,t7,t13,x9,x10,e1) => (t1,x2,t2,t7,t13,x9,x10,e1)
def f5v_32 (F : Nat) (kf5vj18 : Ty70 → Rz) : Ty66 → Rz := fun v => loopN (fun k => f5v_31 F k kf5vj18) F (f5v_32_i v)
theorem f5v_32_eq (F : Nat) (Rf5vj18 : St → Rz) : ∀ v,aexec VG355v (Af5v F) (bp Try.f5 1018) (ef5vj11 v) (kBlock 2 (kSeq (kc VG355v Rf5vj18 sp45) (kFin VG355v none (Try.f5).results.toList))) = f5v_32 F (Rf5vj18 ∘ ef5vj18) v :=
  loop_cut (by kernel_rfl) (by kernel_rfl) ef5vj11 ef5vl2 _ f5v_32_i (fun k => f5v_31 F k (Rf5vj18 ∘ ef5vj18))
    (by rintro ⟨t1,x2,t2,t7,t13,x9,x10,e1⟩; kernel_rfl) (fun Rf5vl2 => f5v_31_eq F Rf5vl2 Rf5vj18)
def f5v_33 (F : Nat) (kf5vj18 : Ty70 → Rz) : Ty66 → Rz := f5v_32 F kf5vj18
theorem f5v_33_eq (F : Nat) (Rf5vj18 : St → Rz) : ∀ v,aexec VG355v (Af5v F) (bp Try.f5 509) (ef5vj11 v) (kSeq (kc VG355v Rf5vj18 sp45) (kFin VG355v none (Try.f5).results.toList)) = f5v_33 F (Rf5vj18 ∘ ef5vj18) v := fun v =>
  (block_in  (by kernel_rfl) _ _).trans (f5v_32_eq F Rf5vj18 v)
def f5v_34 (F : Nat) (kf5vj18 : Ty70 → Rz) : Ty65 → Rz := fun v => f5v_17 F (f5v_33 F kf5vj18) kf5vj18 v
theorem f5v_34_eq (F : Nat) (Rf5vj18 : St → Rz) : ∀ v,aexec VG355v (Af5v F) (bp Try.f5 254) (ef5vj10 v) (kSeq (kc VG355v Rf5vj18 sp45) (kFin VG355v none (Try.f5).results.toList)) = f5v_34 F (Rf5vj18 ∘ ef5vj18) v :=
  seq_cut (by kernel_rfl) (by kernel_rfl) ef5vj10 ef5vj11 _ (fun k => f5v_17 F k (Rf5vj18 ∘ ef5vj18)) (f5v_33 F (Rf5vj18 ∘ ef5vj18))
    (fun Rf5vj11 => f5v_17_eq F Rf5vj11 Rf5vj18) (f5v_33_eq F Rf5vj18)
def f5v_35 (F : Nat) (kf5vj19 : Ty71 → Rz) : Ty70 → Rz := fun (t2,t7,x6,x7,e1) => (cond (Dk.fine e1) (kf5vj19 (t2,t7,(Dk.flush e1).2,x6,x7,(Dk.flush e1).1)) none)
theorem f5v_35_eq (F : Nat) (Rf5vj19 : St → Rz) : ∀ v,aexec VG355v (Af5v F) (bp Try.f5 510) (ef5vj18 v) (kSeq (kc VG355v Rf5vj19 sp46) (kFin VG355v none (Try.f5).results.toList)) = f5v_35 F (Rf5vj19 ∘ ef5vj19) v := by
  rintro ⟨t2,t7,x6,x7,e1⟩; kernel_rfl
def f5v_36 (F : Nat) (kf5vj20 : Ty72 → Rz) : Ty71 → Rz := fun (t2,t7,t17,x7,x8,e1) => (cond (decide (e1.blk.length = e1.n * 64 ∧ e1.n < 8000)) (cond (decide ((Dk.image e1).length < 1073741824)) (kf5vj20 (t2,t7,t17,((Dk.image e1) == x7),x7,x8,e1)) none) none)
theorem f5v_36_eq (F : Nat) (Rf5vj20 : St → Rz) : ∀ v,aexec VG355v (Af5v F) (bp Try.f5 1022) (ef5vj19 v) (kSeq (kc VG355v Rf5vj20 sp47) (kFin VG355v none (Try.f5).results.toList)) = f5v_36 F (Rf5vj20 ∘ ef5vj20) v := by
  rintro ⟨t2,t7,t17,x7,x8,e1⟩; kernel_rfl
def f5v_37 (F : Nat) (kf5vj21 : Ty73 → Rz) : Ty72 → Rz := fun (t2,t7,t17,t18,x8,x9,e1) => (cond (Dk.fine e1) (kf5vj21 (t7,t17,t18,x8,x9,(Dk.mount e1 t2))) none)
theorem f5v_37_eq (F : Nat) (Rf5vj21 : St → Rz) : ∀ v,aexec VG355v (Af5v F) (bp Try.f5 2046) (ef5vj20 v) (kSeq (kc VG355v Rf5vj21 sp48) (kFin VG355v none (Try.f5).results.toList)) = f5v_37 F (Rf5vj21 ∘ ef5vj21) v := by
  rintro ⟨t2,t7,t17,t18,x8,x9,e1⟩; kernel_rfl
def f5v_38 (F : Nat) (kf5vj22 : Bool × Int × Bool × Bool → Rz) : Ty73 → Rz := fun (t7,t17,t18,x7,x8,e1) => (cond (decide (e1.blk.length = e1.n * 64 ∧ e1.n < 8000)) (cond (decide ((Dk.image e1).length < 1073741824)) (kf5vj22 (t7,t17,t18,((Dk.image e1) == x7))) none) none)
theorem f5v_38_eq (F : Nat) (Rf5vj22 : St → Rz) : ∀ v,aexec VG355v (Af5v F) (bp Try.f5 4094) (ef5vj21 v) (kSeq (kc VG355v Rf5vj22 sp49) (kFin VG355v none (Try.f5).results.toList)) = f5v_38 F (Rf5vj22 ∘ ef5vj22) v := by
  rintro ⟨t7,t17,t18,x7,x8,e1⟩; kernel_rfl
def f5v_39 (F : Nat) : Bool × Int × Bool × Bool → Rz := fun (t7,t17,t18,t19) => (cond t7 (cond (t17 == (0 : Int)) (cond t18 (some ((.bool t19),[])) (some ((.bool false),[]))) (some ((.bool false),[]))) (some ((.bool false),[])))
theorem f5v_39_eq (F : Nat) : ∀ v,aexec VG355v (Af5v F) (bp Try.f5 4095) (ef5vj22 v) (kFin VG355v none (Try.f5).results.toList) = f5v_39 F v := by
  rintro ⟨t7,t17,t18,t19⟩; kernel_rfl
def f5v_40 (F : Nat) : Ty73 → Rz := fun v => f5v_38 F (f5v_39 F) v
theorem f5v_40_eq (F : Nat) : ∀ v,aexec VG355v (Af5v F) (bp Try.f5 2047) (ef5vj21 v) (kFin VG355v none (Try.f5).results.toList) = f5v_40 F v :=
  seq_cut (by kernel_rfl) (by kernel_rfl) ef5vj21 ef5vj22 _ (fun k => f5v_38 F k) (f5v_39 F)
    (fun Rf5vj22 => f5v_38_eq F Rf5vj22) (f5v_39_eq F)
def f5v_41 (F : Nat) : Ty72 → Rz := fun v => f5v_37 F (f5v_40 F) v
theorem f5v_41_eq (F : Nat) : ∀ v,aexec VG355v (Af5v F) (bp Try.f5 1023) (ef5vj20 v) (kFin VG355v none (Try.f5).results.toList) = f5v_41 F v :=
  seq_cut (by kernel_rfl) (by kernel_rfl) ef5vj20 ef5vj21 _ (fun k => f5v_37 F k) (f5v_40 F)
    (fun Rf5vj21 => f5v_37_eq F Rf5vj21) (f5v_40_eq F)
def f5v_42 (F : Nat) : Ty71 → Rz := fun v => f5v_36 F (f5v_41 F) v
theorem f5v_42_eq (F : Nat) : ∀ v,aexec VG355v (Af5v F) (bp Try.f5 511) (ef5vj19 v) (kFin VG355v none (Try.f5).results.toList) = f5v_42 F v :=
  seq_cut (by kernel_rfl) (by kernel_rfl) ef5vj19 ef5vj20 _ (fun k => f5v_36 F k) (f5v_41 F)
    (fun Rf5vj20 => f5v_36_eq F Rf5vj20) (f5v_41_eq F)
def f5v_43 (F : Nat) : Ty70 → Rz := fun v => f5v_35 F (f5v_42 F) v
theorem f5v_43_eq (F : Nat) : ∀ v,aexec VG355v (Af5v F) (bp Try.f5 255) (ef5vj18 v) (kFin VG355v none (Try.f5).results.toList) = f5v_43 F v :=
  seq_cut (by kernel_rfl) (by kernel_rfl) ef5vj18 ef5vj19 _ (fun k => f5v_35 F k) (f5v_42 F)
    (fun Rf5vj19 => f5v_35_eq F Rf5vj19) (f5v_42_eq F)
def f5v_44 (F : Nat) : Ty65 → Rz := fun v => f5v_34 F (f5v_43 F) v
theorem f5v_44_eq (F : Nat) : ∀ v,aexec VG355v (Af5v F) (bp Try.f5 127) (ef5vj10 v) (kFin VG355v none (Try.f5).results.toList) = f5v_44 F v :=
  seq_cut (by kernel_rfl) (by kernel_rfl) ef5vj10 ef5vj18 _ (fun k => f5v_34 F k) (f5v_43 F)
    (fun Rf5vj18 => f5v_34_eq F Rf5vj18) (f5v_43_eq F)
def f5v_45 (F : Nat) : Ty62 → Rz := fun v => f5v_16 F (f5v_44 F) v
theorem f5v_45_eq (F : Nat) : ∀ v,aexec VG355v (Af5v F) (bp Try.f5 63) (ef5vj6 v) (kFin VG355v none (Try.f5).results.toList) = f5v_45 F v :=
  seq_cut (by kernel_rfl) (by kernel_rfl) ef5vj6 ef5vj10 _ (fun k => f5v_16 F k) (f5v_44 F)
    (fun Rf5vj10 => f5v_16_eq F Rf5vj10) (f5v_44_eq F)
def f5v_46 (F : Nat) : Ty61 → Rz := fun v => f5v_7 F (f5v_45 F) v
theorem f5v_46_eq (F : Nat) : ∀ v,aexec VG355v (Af5v F) (bp Try.f5 31) (ef5vj5 v) (kFin VG355v none (Try.f5).results.toList) = f5v_46 F v :=
  seq_cut (by kernel_rfl) (by kernel_rfl) ef5vj5 ef5vj6 _ (fun k => f5v_7 F k) (f5v_45 F)
    (fun Rf5vj6 => f5v_7_eq F Rf5vj6) (f5v_45_eq F)
def f5v_47 (F : Nat) : Ty59 → Rz := fun v => f5v_6 F (f5v_46 F) v
theorem f5v_47_eq (F : Nat) : ∀ v,aexec VG355v (Af5v F) (bp Try.f5 15) (ef5vj3 v) (kFin VG355v none (Try.f5).results.toList) = f5v_47 F v :=
  seq_cut (by kernel_rfl) (by kernel_rfl) ef5vj3 ef5vj5 _ (fun k => f5v_6 F k) (f5v_46 F)
    (fun Rf5vj5 => f5v_6_eq F Rf5vj5) (f5v_46_eq F)
def f5v_48 (F : Nat) : Ty58 → Rz := fun v => f5v_3 F (f5v_47 F) v
theorem f5v_48_eq (F : Nat) : ∀ v,aexec VG355v (Af5v F) (bp Try.f5 7) (ef5vj2 v) (kFin VG355v none (Try.f5).results.toList) = f5v_48 F v :=
  seq_cut (by kernel_rfl) (by kernel_rfl) ef5vj2 ef5vj3 _ (fun k => f5v_3 F k) (f5v_47 F)
    (fun Rf5vj3 => f5v_3_eq F Rf5vj3) (f5v_47_eq F)
def f5v_49 (F : Nat) : Ty55 → Rz := fun v => f5v_2 F (f5v_48 F) v
theorem f5v_49_eq (F : Nat) : ∀ v,aexec VG355v (Af5v F) (bp Try.f5 3) (ef5vj1 v) (kFin VG355v none (Try.f5).results.toList) = f5v_49 F v :=
  seq_cut (by kernel_rfl) (by kernel_rfl) ef5vj1 ef5vj2 _ (fun k => f5v_2 F k) (f5v_48 F)
    (fun Rf5vj2 => f5v_2_eq F Rf5vj2) (f5v_48_eq F)
def f5v_50 (F : Nat) : Ty55 → Rz := fun v => f5v_1 F (f5v_49 F) v
theorem f5v_50_eq (F : Nat) : ∀ v,aexec VG355v (Af5v F) (sub (bodyOf Try.f5) []) (ef5v_a v) (kFin VG355v none (Try.f5).results.toList) = f5v_50 F v :=
  seq_cut (by kernel_rfl) (by kernel_rfl) ef5v_a ef5vj1 _ (fun k => f5v_1 F k) (f5v_49 F)
    (fun Rf5vj1 => f5v_1_eq F Rf5vj1) (f5v_49_eq F)
def f5v (F : Nat) : Ty55 → Rz := f5v_50 F
theorem f5v_body (F : Nat) (a0 : Int) (a1 : List (List (List Int))) (a1n : Nat) (a2 : List Int) : abody VG355v (Af5v F) Try.f5 [(.int .i64 a0),(.vs (.rT [.int .i64,.int .i64,.int .i64,.str,.sl .i64] a1) a1n 5),(.vs (.rI .i64 a2) 0 1)] [] = f5v F (a0,a1,a1n,a2) :=
  (abody_in (c := (sub (bodyOf Try.f5) [])) (by kernel_rfl) (s := ef5v_a (a0,a1,a1n,a2)) (by kernel_rfl)).trans (f5v_50_eq F (a0,a1,a1n,a2))
def r5v : CRun := fun X H => match X,H with
  | [(.int .i64 a0),(.vs (.rT [.int .i64,.int .i64,.int .i64,.str,.sl .i64] a1) a1n 5),(.vs (.rI .i64 a2) 0 1)],[] => some ((decide (0 < a0)) && (decide (a0 < 65)),(.bool true),[])
  | _,_ => none
theorem s5v (a0 : Int) (a1 : List (List (List Int))) (a1n : Nat) (a2 : List Int) (hp : ((decide (0 < a0)) && (decide (a0 < 65))) = true) (h0 : okV (.int .i64 a0)) (h1 : okV (.vs (.rT [.int .i64,.int .i64,.int .i64,.str,.sl .i64] a1) a1n 5)) (h2 : okV (.vs (.rI .i64 a2) 0 1)) : ∃ F,f5v F (a0,a1,a1n,a2) = some ((.bool true),[]) := by
  have e := hp
  rw [dec_and,decide_eq_true_iff] at hp
  obtain ⟨hlen,hint⟩ := Dk.op_int h1
  obtain ⟨n,rfl⟩ : ∃ n : Nat,a0 = (n : Int) := ⟨a0.toNat,by omega⟩
  refine ⟨a1n + 65,?_⟩
  have e9 : ((decide (0 ≤ (n : Int)) && decide ((n : Int) ≤ (n : Int))) && decide ((n : Int) < 1073741824)) = true := by rw [dec_and,dec_and,decide_eq_true_iff]; omega
  simp only [f5v,f5v_1,f5v_2,f5v_3,f5v_4,f5v_5,f5v_6,f5v_7,f5v_8,f5v_15,f5v_16,f5v_17,f5v_33,f5v_34,f5v_35,f5v_36,f5v_37,f5v_38,f5v_39,f5v_40,f5v_41,f5v_42,f5v_43,f5v_44,f5v_45,f5v_46,f5v_47,f5v_48,f5v_49,f5v_50,e,e9,cond_true,Bool.not_true,cond_false]
  by_cases hn : (a1n : Int) > 60
  · have e1 : decide ((a1n : Int) > 60) = true := by rw [decide_eq_true_iff]; exact hn
    rw [e1,cond_true]
  have e1 : decide ((a1n : Int) > 60) = false := by rw [decide_eq_false_iff_not]; exact hn
  rw [e1,cond_false]
  have hrel := Dk.new_rel hp.1 (show (n : Int) < 8000 by omega)
  have h0 : 0 < (Dk.new (n : Int)).n := by show 0 < (n : Int).toNat; omega
  have hN0 : ∃ N0 : Nat,(List.replicate (Int.toNat (n : Int)) ([] : List Int)).length = N0 := ⟨_,rfl⟩
  obtain ⟨N0,hN0⟩ := hN0
  refine loopN_from (fun k => ((n : Int),a1,a1n,a2,true,(k : Int),(List.range k).map (fun _ => Dk.full 0) ++ List.replicate (n - k) [],N0,Dk.new (n : Int))) n (by rw [← hN0]; rfl) (fun k hk K => ?_) (fun K => ?_) (a1n + 65) (by omega)
  · have e2 : (decide (0 ≤ (k : Int)) && decide ((k : Int) < ((((List.range k).map (fun _ => Dk.full 0) ++ List.replicate (n - k) []).length : Nat) : Int))) = true := by
      rw [dec_and,decide_eq_true_iff]; simp; omega
    simp only [f5v_9,f5v_10,f5v_11,f5v_12,f5v_13,f5v_14_i,f5v_14,e2,cond_true,i64w (show -9223372036854775808 ≤ (k : Int) + 1 by omega) (show (k : Int) + 1 ≤ 9223372036854775807 by omega),Int.toNat_natCast]
    rw [cond_pos (show (k : Int) < (n : Int) by omega),fill_set (fun _ => Dk.full 0) [] n k hk rfl]
    rfl
  simp only [f5v_9,f5v_10,f5v_11,f5v_12,f5v_13,f5v_14_i,f5v_14]
  rw [cond_neg (by omega)]
  simp only [Nat.sub_self,List.replicate_zero,List.append_nil]
  simp only [f5v,f5v_1,f5v_2,f5v_3,f5v_4,f5v_5,f5v_6,f5v_7,f5v_8,f5v_15,f5v_16,f5v_17,f5v_33,f5v_34,f5v_35,f5v_36,f5v_37,f5v_38,f5v_39,f5v_40,f5v_41,f5v_42,f5v_43,f5v_44,f5v_45,f5v_46,f5v_47,f5v_48,f5v_49,f5v_50]
  have hkept := Dk.new_kept (n := (n : Int))
  rw [Int.toNat_natCast] at hkept
  refine loopN_ind (fun m s => ∃ (k : Nat) (d : Dk.D) (r : Dk.R) (last : List (List Int)),s = (a1,a1n,a2,true,(k : Int),last,N0,d) ∧ m = a1n - k ∧ k ≤ a1n ∧ Dk.Rel d r ∧ 0 < d.n ∧ Dk.Kept r last) (fun m s K hi hk => ?_) (a1n + 65) a1n _ (by omega) ⟨0,_,_,_,rfl,by omega,by omega,hrel,h0,hkept⟩
  obtain ⟨k,d,r,last,rfl,hm,hle,hR,hd0,hK⟩ := hi
  by_cases hlt : k < a1n
  · obtain ⟨i1,i2⟩ := hint k hlt
    have e2 : (decide (0 ≤ (k : Int)) && decide ((k : Int) < (a1n : Int))) = true := by rw [dec_and,decide_eq_true_iff]; omega
    simp only [f5v_18,f5v_19,f5v_20,f5v_21,f5v_22,f5v_23,f5v_24,f5v_25,f5v_26,f5v_27,f5v_28,f5v_29,f5v_30,f5v_31,f5v_32_i,f5v_32,Int.toNat_natCast,e2,cond_true]
    rw [cond_pos (show (k : Int) < (a1n : Int) by omega),i64w (show -9223372036854775808 ≤ (k : Int) + 1 by omega) (show (k : Int) + 1 ≤ 9223372036854775807 by omega)]
    have hop := hR.op hd0 (((a1.getD k []).getD 0 []).getD 0 0) (((a1.getD k []).getD 1 []).getD 0 0) (((a1.getD k []).getD 2 []).getD 0 0) ((a1.getD k []).getD 3 []) ((a1.getD k []).getD 4 []) i1 i2
    have hopn := Dk.op_n d (((a1.getD k []).getD 0 []).getD 0 0) (((a1.getD k []).getD 1 []).getD 0 0) (((a1.getD k []).getD 2 []).getD 0 0) ((a1.getD k []).getD 3 []) ((a1.getD k []).getD 4 [])
    revert hop hopn
    generalize ((a1.getD k []).getD 0 []).getD 0 0 = c
    generalize ((a1.getD k []).getD 2 []).getD 0 0 = b
    generalize (a1.getD k []).getD 3 [] = t
    generalize (a1.getD k []).getD 4 [] = p
    intro hop hopn
    have hstay : ∀ d' r' l',Dk.Rel d' r' → 0 < d'.n → Dk.Kept r' l' → K (a1,a1n,a2,true,(k : Int) + 1,l',N0,d') = some (.bool true,[]) := fun d' r' l' g1 g2 g3 =>
      hk (m - 1) _ (by omega) ⟨k + 1,d',r',l',rfl,by omega,by omega,g1,g2,g3⟩
    have hf := hR.fine
    by_cases c6 : c = 6
    · rw [show (c == 6) = true by simpa using c6,cond_true]; exact hstay d r last hR hd0 hK
    rw [show (c == 6) = false by simpa using c6,cond_false]
    by_cases c7 : c = 7
    · rw [show (c == 7) = true by simpa using c7,cond_true]; exact hstay d r last hR hd0 hK
    rw [show (c == 7) = false by simpa using c7,cond_false]
    by_cases c4 : c = 4
    · rw [show (c == 4) = true by simpa using c4,cond_true]; exact hstay d r last hR hd0 hK
    rw [show (c == 4) = false by simpa using c4,cond_false]
    by_cases c5 : c = 5
    · rw [show (c == 5) = true by simpa using c5,cond_true]; exact hstay d r last hR hd0 hK
    rw [show (c == 5) = false by simpa using c5,cond_false,hf,cond_true]
    by_cases c1 : c = 1
    · subst c1
      rw [hop.1]
      have eo : Dk.rop r 1 (((a1.getD k []).getD 1 []).getD 0 0) b t p = ((Dk.rwrite r (((a1.getD k []).getD 1 []).getD 0 0) (Dk.text t)).1,[],(Dk.rwrite r (((a1.getD k []).getD 1 []).getD 0 0) (Dk.text t)).2) := rfl
      rw [eo] at hop ⊢
      rw [show ((1 : Int) == 1) = true from rfl,cond_true]
      rcases hK.write (((a1.getD k []).getD 1 []).getD 0 0) (Dk.text t) with ⟨w1,w2,w3⟩ | ⟨w1,w2⟩
      · simp only
        have e5 : (decide (0 ≤ ((a1.getD k []).getD 1 []).getD 0 0) && decide (((a1.getD k []).getD 1 []).getD 0 0 < (last.length : Int))) = true := by rw [dec_and,decide_eq_true_iff]; exact w2
        rw [show ((Dk.rwrite r (((a1.getD k []).getD 1 []).getD 0 0) (Dk.text t)).2 == 0) = true by simpa using w1,cond_true,e5,cond_true]
        exact hstay _ _ _ hop.2 (by omega) w3
      · simp only
        rw [show ((Dk.rwrite r (((a1.getD k []).getD 1 []).getD 0 0) (Dk.text t)).2 == 0) = false by simpa using w1,cond_false]
        exact hstay _ _ _ hop.2 (by omega) w2
    · rw [show (c == 1) = false by simpa using c1,cond_false,cond_false]
      exact hstay _ _ _ hop.2 (by omega) (hK.other hR.good c4 c5 c6 c7 c1)
  · have hk' : k = a1n := by omega
    subst hk'
    simp only [f5v_18,f5v_19,f5v_20,f5v_21,f5v_22,f5v_23,f5v_24,f5v_25,f5v_26,f5v_27,f5v_28,f5v_29,f5v_30,f5v_31,f5v_32_i,f5v_32]
    rw [cond_neg (by omega)]
    obtain ⟨f1,f2⟩ := hR.flush hd0
    obtain ⟨g1,g2,g3,g4⟩ := hK.flush hR.good
    have hm2 := f2.mount a2
    have i1 := f2.image
    have i2 := hm2.image
    rw [Dk.rmount_clean a2 g3] at i2
    rw [g4] at i1 i2
    have s1 := f2.small
    have s2 := f2.len
    have s3 := hm2.small
    have s4 := hm2.len
    have hl : last.length < 1073741824 := by rw [hK.len]; have := hR.good.1; omega
    have b1 : decide ((Dk.flush d).1.blk.length = (Dk.flush d).1.n * 64 ∧ (Dk.flush d).1.n < 8000) = true := by rw [decide_eq_true_iff]; exact ⟨s2,s1⟩
    have b2 : decide ((Dk.mount (Dk.flush d).1 a2).blk.length = (Dk.mount (Dk.flush d).1 a2).n * 64 ∧ (Dk.mount (Dk.flush d).1 a2).n < 8000) = true := by rw [decide_eq_true_iff]; exact ⟨s4,s3⟩
    have b3 : decide (last.length < 1073741824) = true := by rw [decide_eq_true_iff]; exact hl
    simp only [f5v,f5v_1,f5v_2,f5v_3,f5v_4,f5v_5,f5v_6,f5v_7,f5v_8,f5v_15,f5v_16,f5v_17,f5v_33,f5v_34,f5v_35,f5v_36,f5v_37,f5v_38,f5v_39,f5v_40,f5v_41,f5v_42,f5v_43,f5v_44,f5v_45,f5v_46,f5v_47,f5v_48,f5v_49,f5v_50,hR.fine,f2.fine,cond_true,f1,g1,i1,i2,b1,b2,b3,beq_self_eq_true]

theorem c5v : CallOk Try.prog G35 5 r5v := callOk_of (V := VG355v) mixed tys eVG355v (f := 5) (fn := Try.f5) Try.func5 (by kernel_rfl) (c := sub (bodyOf Try.f5) []) (by kernel_rfl) (by
  intro X H r H' h hX hH
  unfold r5v at h; split at h <;> try contradiction
  · simp only [Option.some.injEq,Prod.mk.injEq] at h
    obtain ⟨hp,rfl,rfl⟩ := h
    obtain ⟨F,hF⟩ := s5v _ _ _ _ hp (hX _ (.head _)) (hX _ (.tail _ (.head _))) (hX _ (.tail _ (.tail _ (.head _))))
    exact ⟨Af5v F,(f5v_body F _ _ _ _).trans hF⟩)
def r5 : CRun := fun X H => match X,H with
  | [(.int .i64 a0),(.vs (.rT [.int .i64,.int .i64,.int .i64,.str,.sl .i64] a1) a1n 5),(.vs (.rI .i64 a2) 0 1)],[] => some (true,.bool true,[])
  | _,_ => none
theorem c5 : CallOk Try.prog G35 5 r5 := c5v.or c5i fun A H r H' h => by
  unfold r5 at h; split at h <;> try contradiction
  rename_i a0 a1 a1n a2
  simp only [Option.some.injEq,Prod.mk.injEq,true_and] at h
  obtain ⟨rfl,rfl⟩ := h
  cases hb : (decide (0 < a0) && decide (a0 < 65)) with
  | true => exact .inl (by simp only [r5v,hb])
  | false => exact .inr (by simp only [r5i,hb,Bool.not_false])
end Go.Am
