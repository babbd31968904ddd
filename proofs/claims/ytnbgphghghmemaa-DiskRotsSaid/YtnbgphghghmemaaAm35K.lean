/- Part of a proof about the functions of the given program. -/
import Derived.Test.YtnbgphghghmemaaAm35G
import Derived.Test.YtnbgphghghmemaaAmDisk6
set_option linter.unusedVariables false
set_option linter.unusedSimpArgs false
namespace Go.Am
open Go Go.Proofs
abbrev sp36 : List (Nat × Md) := [(0,.plain),(1,.plain),(2,.plain),(3,.plain),(9,.plain),(10,.plain),(13,.plain)]
abbrev sp37 : List (Nat × Md) := [(0,.plain),(2,.plain),(3,.plain),(9,.plain),(14,.plain),(16,.plain),(19,.plain)]
abbrev sp38 : List (Nat × Md) := [(2,.plain),(3,.plain),(9,.plain),(14,.plain),(16,.plain),(20,.plain)]
abbrev sp39 : List (Nat × Md) := [(0,.plain),(1,.plain),(2,.plain),(3,.plain),(9,.plain),(10,.plain),(12,.plain),(35,.plain)]
abbrev sp40 : List (Nat × Md) := [(0,.plain),(1,.plain),(2,.plain),(3,.plain),(9,.plain),(10,.plain)]
abbrev sp41 : List (Nat × Md) := [(0,.plain),(2,.plain),(3,.plain),(9,.plain),(10,.plain)]
abbrev sp42 : List (Nat × Md) := [(0,.plain),(2,.plain),(3,.plain),(9,.plain),(10,.plain),(14,.plain)]
abbrev sp43 : List (Nat × Md) := [(0,.plain),(2,.plain),(3,.plain),(9,.plain),(10,.plain),(14,.plain),(15,.plain)]
abbrev sp44 : List (Nat × Md) := [(0,.plain),(2,.plain),(3,.plain),(9,.plain),(10,.plain),(14,.plain),(15,.plain),(16,.plain)]
abbrev sp45 : List (Nat × Md) := [(0,.plain),(2,.plain),(3,.plain),(9,.plain),(10,.plain),(14,.plain),(15,.plain),(16,.plain),(17,.plain)]
abbrev sp46 : List (Nat × Md) := [(0,.plain),(2,.plain),(3,.plain),(9,.plain),(14,.plain),(15,.plain),(16,.plain),(17,.plain),(18,.plain)]
abbrev sp47 : List (Nat × Md) := [(0,.plain),(2,.plain),(3,.plain),(9,.plain),(14,.plain),(15,.plain),(16,.plain),(17,.plain),(18,.plain),(77,.plain)]
abbrev sp48 : List (Nat × Md) := [(0,.plain),(2,.plain),(3,.plain),(9,.plain),(14,.plain),(16,.plain),(17,.plain),(18,.plain)]
abbrev sp49 : List (Nat × Md) := [(0,.plain),(2,.plain),(3,.plain),(9,.plain),(14,.plain),(16,.plain),(142,.plain)]
abbrev sp50 : List (Nat × Md) := [(0,.plain),(2,.plain),(3,.plain),(9,.plain),(14,.plain),(16,.plain)]
abbrev sp51 : List (Nat × Md) := [(0,.plain),(2,.plain),(3,.plain),(9,.plain),(14,.plain),(16,.plain),(19,.plain),(168,.plain)]
abbrev sp52 : List (Nat × Md) := [(2,.plain),(3,.plain),(9,.plain),(14,.plain),(16,.plain)]
abbrev sp53 : List (Nat × Md) := [(2,.plain),(3,.plain),(9,.plain),(14,.plain),(16,.plain),(20,.plain),(21,.plain)]
abbrev sp54 : List (Nat × Md) := [(2,.plain),(3,.plain),(9,.plain),(14,.plain),(16,.plain),(20,.plain),(208,.plain)]
abbrev Ty58 := Int × (List (List (List Int))) × Nat × Int × Int × Bool
abbrev Ty59 := Int × (List (List (List Int))) × Nat × Int × Int × Bool × Bool × (Dk.D)
abbrev Ty60 := Int × (List (List (List Int))) × Nat × Int × Int × Bool × Bool × Bool × (Dk.D)
abbrev Ty61 := Int × (List (List (List Int))) × Nat × Int × Int × Bool × (Dk.D)
abbrev Ty62 := Int × (List (List (List Int))) × Nat × Int × Int × Bool × Int × (Dk.D)
abbrev Ty63 := Int × Int × Int × Bool × (Dk.D)
abbrev Ty64 := Int × Int × Int × Bool × (List (List Int)) × (Dk.D)
abbrev Ty65 := Int × Int × Int × Bool × (List (List Int)) × Int × (Dk.D)
abbrev Ty66 := Int × Int × Int × Bool × (List (List Int)) × Int × (List (List Int)) × (Dk.D)
abbrev Ty67 := Int × Int × Int × Bool × (List (List Int)) × Int × (List (List Int)) × Int × (Dk.D)
abbrev Ty68 := Int × Int × Int × Bool × (List (List Int)) × Int × (List (List Int)) × Int × Bool
abbrev Ty69 := Int × Int × Int × Bool × (List (List Int)) × Int × (List (List Int)) × Int × Bool × Bool
abbrev Ty70 := Int × Int × Int × Bool × (List (List Int)) × (List (List Int)) × Int × Bool
abbrev Ty71 := Int × Int × Int × Bool × (List (List Int)) × (List (List Int)) × Bool
abbrev Ty72 := Int × Int × Int × Bool × (List (List Int)) × (List (List Int))
abbrev Ty73 := Int × Int × Int × Bool × (List (List Int)) × (List (List Int)) × Int
abbrev Ty74 := Int × Int × Bool × (List (List Int)) × (List (List Int))
abbrev Ty75 := Int × Int × Bool × (List (List Int)) × (List (List Int)) × Int
abbrev Ty76 := Int × Int × Bool × (List (List Int)) × (List (List Int)) × Int × Int
abbrev Ty77 := Int × Int × Bool × (List (List Int)) × (List (List Int)) × Int × Bool

def lVG357v : List CEnt := [(9,[],r9),(10,[none],r10),(11,[none,none],r11),(15,[none],r15),(19,[none,none,none],r19),(21,[some 9,some 9],r21)]
def VG357v : Env := mkEnv T35 G35 lVG357v
theorem eVG357v : EOk Try.prog VG357v := eok_mk (by exact ⟨c9,c10,c11,c15,c19,c21,trivial⟩)
def Af7v (F : Nat) : Cuts := { F := F,at_ := fun n => match n with | 6010 => some sp36 | 19016 => some sp37 | 24018 => some sp38 | _ => none,join := fun n => match n with | 1100 => some sp32 | 2098 => some sp33 | 3096 => some sp34 | 4005 => some sp39 | 5088 => some sp40 | 6012 => some sp36 | 7001 => some sp36 | 8004 => some sp36 | 9073 => some sp41 | 10071 => some sp42 | 11069 => some sp43 | 12067 => some sp44 | 13065 => some sp45 | 14063 => some sp46 | 15005 => some sp47 | 16055 => some sp48 | 17005 => some sp49 | 18047 => some sp50 | 19018 => some sp37 | 20001 => some sp37 | 21010 => some sp37 | 22005 => some sp51 | 23026 => some sp52 | 24020 => some sp38 | 25001 => some sp38 | 26012 => some sp38 | 27007 => some sp53 | 28005 => some sp54 | 29003 => some [(9,.plain)] | _ => none }
def ef7v_a : Ty56 → St := fun (a0,a1,a1n,a2,a3) => { tmps := [(0,(.int .i64 a0)),(1,(.vs (.rT [.int .i64,.int .i64,.int .i64,.str,.sl .i64] a1) a1n 5)),(2,(.int .i64 a2)),(3,(.int .i64 a3))],heap := [],next := 0,nt := 210,m := 0 }
def ef7vj1 : Ty56 → St := fun (t0,t1,x3,t2,t3) => { tmps := [(0,(.int .i64 t0)),(1,(.vs (.rT [.int .i64,.int .i64,.int .i64,.str,.sl .i64] t1) x3 5)),(2,(.int .i64 t2)),(3,(.int .i64 t3))],heap := [],next := 0,nt := 210,m := 0 }
def ef7vj2 : Ty58 → St := fun (t0,t1,x3,t2,t3,t9) => { tmps := [(0,(.int .i64 t0)),(1,(.vs (.rT [.int .i64,.int .i64,.int .i64,.str,.sl .i64] t1) x3 5)),(2,(.int .i64 t2)),(3,(.int .i64 t3)),(9,(.bool t9))],heap := [],next := 0,nt := 210,m := 0 }
def ef7vj3 : Ty59 → St := fun (t0,t1,x3,t2,t3,t9,t12,e1) => { tmps := [(0,(.int .i64 t0)),(1,(.vs (.rT [.int .i64,.int .i64,.int .i64,.str,.sl .i64] t1) x3 5)),(2,(.int .i64 t2)),(3,(.int .i64 t3)),(9,(.bool t9)),(10,(.ptr 0 0 5 0 0 0 5)),(12,(.bool t12))],heap := [(0,(.cells 5 (.segs (.cons 1 (.one (.own 1 e1.n 64)) (.cons 1 (.one (.mp 2)) (.cons 1 (.one (.mp 3)) (.cons 1 (.one (.bool e1.off)) (.cons 1 (.one (.int .i64 e1.left)) .nil)))))) true)),(1,(.cells e1.blk.length (.rI .u8 e1.blk) true)),(2,(.cells 0 (.rM .i64 0 (.arr .u8 64) e1.pend) true)),(3,(.cells 0 (.rM .i64 0 .bool e1.worn) true))],next := 4,nt := 210,m := 0 }
def ef7vj4 : Ty60 → St := fun (t0,t1,x3,t2,t3,t9,t12,t35,e1) => { tmps := [(0,(.int .i64 t0)),(1,(.vs (.rT [.int .i64,.int .i64,.int .i64,.str,.sl .i64] t1) x3 5)),(2,(.int .i64 t2)),(3,(.int .i64 t3)),(9,(.bool t9)),(10,(.ptr 0 0 5 0 0 0 5)),(12,(.bool t12)),(35,(.bool t35))],heap := [(0,(.cells 5 (.segs (.cons 1 (.one (.own 1 e1.n 64)) (.cons 1 (.one (.mp 2)) (.cons 1 (.one (.mp 3)) (.cons 1 (.one (.bool e1.off)) (.cons 1 (.one (.int .i64 e1.left)) .nil)))))) true)),(1,(.cells e1.blk.length (.rI .u8 e1.blk) true)),(2,(.cells 0 (.rM .i64 0 (.arr .u8 64) e1.pend) true)),(3,(.cells 0 (.rM .i64 0 .bool e1.worn) true))],next := 4,nt := 210,m := 0 }
def ef7vj5 : Ty61 → St := fun (t0,t1,x3,t2,t3,t9,e1) => { tmps := [(0,(.int .i64 t0)),(1,(.vs (.rT [.int .i64,.int .i64,.int .i64,.str,.sl .i64] t1) x3 5)),(2,(.int .i64 t2)),(3,(.int .i64 t3)),(9,(.bool t9)),(10,(.ptr 0 0 5 0 0 0 5))],heap := [(0,(.cells 5 (.segs (.cons 1 (.one (.own 1 e1.n 64)) (.cons 1 (.one (.mp 2)) (.cons 1 (.one (.mp 3)) (.cons 1 (.one (.bool e1.off)) (.cons 1 (.one (.int .i64 e1.left)) .nil)))))) true)),(1,(.cells e1.blk.length (.rI .u8 e1.blk) true)),(2,(.cells 0 (.rM .i64 0 (.arr .u8 64) e1.pend) true)),(3,(.cells 0 (.rM .i64 0 .bool e1.worn) true))],next := 4,nt := 210,m := 0 }
def ef7vj6 : Ty62 → St := fun (t0,t1,x3,t2,t3,t9,t13,e1) => { tmps := [(0,(.int .i64 t0)),(1,(.vs (.rT [.int .i64,.int .i64,.int .i64,.str,.sl .i64] t1) x3 5)),(2,(.int .i64 t2)),(3,(.int .i64 t3)),(9,(.bool t9)),(10,(.ptr 0 0 5 0 0 0 5)),(13,(.int .i64 t13))],heap := [(0,(.cells 5 (.segs (.cons 1 (.one (.own 1 e1.n 64)) (.cons 1 (.one (.mp 2)) (.cons 1 (.one (.mp 3)) (.cons 1 (.one (.bool e1.off)) (.cons 1 (.one (.int .i64 e1.left)) .nil)))))) true)),(1,(.cells e1.blk.length (.rI .u8 e1.blk) true)),(2,(.cells 0 (.rM .i64 0 (.arr .u8 64) e1.pend) true)),(3,(.cells 0 (.rM .i64 0 .bool e1.worn) true))],next := 4,nt := 210,m := 0 }
def ef7vl1 : Ty62 → St := fun (t0,t1,x3,t2,t3,t9,t13,e1) => { tmps := [(0,(.int .i64 t0)),(1,(.vs (.rT [.int .i64,.int .i64,.int .i64,.str,.sl .i64] t1) x3 5)),(2,(.int .i64 t2)),(3,(.int .i64 t3)),(9,(.bool t9)),(10,(.ptr 0 0 5 0 0 0 5)),(13,(.int .i64 t13))],heap := [(0,(.cells 5 (.segs (.cons 1 (.one (.own 1 e1.n 64)) (.cons 1 (.one (.mp 2)) (.cons 1 (.one (.mp 3)) (.cons 1 (.one (.bool e1.off)) (.cons 1 (.one (.int .i64 e1.left)) .nil)))))) true)),(1,(.cells e1.blk.length (.rI .u8 e1.blk) true)),(2,(.cells 0 (.rM .i64 0 (.arr .u8 64) e1.pend) true)),(3,(.cells 0 (.rM .i64 0 .bool e1.worn) true))],next := 4,nt := 210,m := 0 }
def ef7vj7 : Ty62 → St := fun (t0,t1,x3,t2,t3,t9,t13,e1) => { tmps := [(0,(.int .i64 t0)),(1,(.vs (.rT [.int .i64,.int .i64,.int .i64,.str,.sl .i64] t1) x3 5)),(2,(.int .i64 t2)),(3,(.int .i64 t3)),(9,(.bool t9)),(10,(.ptr 0 0 5 0 0 0 5)),(13,(.int .i64 t13))],heap := [(0,(.cells 5 (.segs (.cons 1 (.one (.own 1 e1.n 64)) (.cons 1 (.one (.mp 2)) (.cons 1 (.one (.mp 3)) (.cons 1 (.one (.bool e1.off)) (.cons 1 (.one (.int .i64 e1.left)) .nil)))))) true)),(1,(.cells e1.blk.length (.rI .u8 e1.blk) true)),(2,(.cells 0 (.rM .i64 0 (.arr .u8 64) e1.pend) true)),(3,(.cells 0 (.rM .i64 0 .bool e1.worn) true))],next := 4,nt := 210,m := 0 }
def ef7vj8 : Ty62 → St := fun (t0,t1,x3,t2,t3,t9,t13,e1) => { tmps := [(0,(.int .i64 t0)),(1,(.vs (.rT [.int .i64,.int .i64,.int .i64,.str,.sl .i64] t1) x3 5)),(2,(.int .i64 t2)),(3,(.int .i64 t3)),(9,(.bool t9)),(10,(.ptr 0 0 5 0 0 0 5)),(13,(.int .i64 t13))],heap := [(0,(.cells 5 (.segs (.cons 1 (.one (.own 1 e1.n 64)) (.cons 1 (.one (.mp 2)) (.cons 1 (.one (.mp 3)) (.cons 1 (.one (.bool e1.off)) (.cons 1 (.one (.int .i64 e1.left)) .nil)))))) true)),(1,(.cells e1.blk.length (.rI .u8 e1.blk) true)),(2,(.cells 0 (.rM .i64 0 (.arr .u8 64) e1.pend) true)),(3,(.cells 0 (.rM .i64 0 .bool e1.worn) true))],next := 4,nt := 210,m := 0 }
def ef7vj9 : Ty63 → St := fun (t0,t2,t3,t9,e1) => { tmps := [(0,(.int .i64 t0)),(2,(.int .i64 t2)),(3,(.int .i64 t3)),(9,(.bool t9)),(10,(.ptr 0 0 5 0 0 0 5))],heap := [(0,(.cells 5 (.segs (.cons 1 (.one (.own 1 e1.n 64)) (.cons 1 (.one (.mp 2)) (.cons 1 (.one (.mp 3)) (.cons 1 (.one (.bool e1.off)) (.cons 1 (.one (.int .i64 e1.left)) .nil)))))) true)),(1,(.cells e1.blk.length (.rI .u8 e1.blk) true)),(2,(.cells 0 (.rM .i64 0 (.arr .u8 64) e1.pend) true)),(3,(.cells 0 (.rM .i64 0 .bool e1.worn) true))],next := 4,nt := 210,m := 0 }
def ef7vj10 : Ty64 → St := fun (t0,t2,t3,t9,t14,e1) => { tmps := [(0,(.int .i64 t0)),(2,(.int .i64 t2)),(3,(.int .i64 t3)),(9,(.bool t9)),(10,(.ptr 0 0 5 0 0 0 5)),(14,(.vs (.rS t14) 0 1))],heap := [(0,(.cells 5 (.segs (.cons 1 (.one (.own 1 e1.n 64)) (.cons 1 (.one (.mp 2)) (.cons 1 (.one (.mp 3)) (.cons 1 (.one (.bool e1.off)) (.cons 1 (.one (.int .i64 e1.left)) .nil)))))) true)),(1,(.cells e1.blk.length (.rI .u8 e1.blk) true)),(2,(.cells 0 (.rM .i64 0 (.arr .u8 64) e1.pend) true)),(3,(.cells 0 (.rM .i64 0 .bool e1.worn) true))],next := 4,nt := 210,m := 0 }
def ef7vj11 : Ty65 → St := fun (t0,t2,t3,t9,t14,t15,e1) => { tmps := [(0,(.int .i64 t0)),(2,(.int .i64 t2)),(3,(.int .i64 t3)),(9,(.bool t9)),(10,(.ptr 0 0 5 0 0 0 5)),(14,(.vs (.rS t14) 0 1)),(15,(.int .i64 t15))],heap := [(0,(.cells 5 (.segs (.cons 1 (.one (.own 1 e1.n 64)) (.cons 1 (.one (.mp 2)) (.cons 1 (.one (.mp 3)) (.cons 1 (.one (.bool e1.off)) (.cons 1 (.one (.int .i64 e1.left)) .nil)))))) true)),(1,(.cells e1.blk.length (.rI .u8 e1.blk) true)),(2,(.cells 0 (.rM .i64 0 (.arr .u8 64) e1.pend) true)),(3,(.cells 0 (.rM .i64 0 .bool e1.worn) true))],next := 4,nt := 210,m := 0 }
def ef7vj12 : Ty66 → St := fun (t0,t2,t3,t9,t14,t15,t16,e1) => { tmps := [(0,(.int .i64 t0)),(2,(.int .i64 t2)),(3,(.int .i64 t3)),(9,(.bool t9)),(10,(.ptr 0 0 5 0 0 0 5)),(14,(.vs (.rS t14) 0 1)),(15,(.int .i64 t15)),(16,(.vs (.rS t16) 0 1))],heap := [(0,(.cells 5 (.segs (.cons 1 (.one (.own 1 e1.n 64)) (.cons 1 (.one (.mp 2)) (.cons 1 (.one (.mp 3)) (.cons 1 (.one (.bool e1.off)) (.cons 1 (.one (.int .i64 e1.left)) .nil)))))) true)),(1,(.cells e1.blk.length (.rI .u8 e1.blk) true)),(2,(.cells 0 (.rM .i64 0 (.arr .u8 64) e1.pend) true)),(3,(.cells 0 (.rM .i64 0 .bool e1.worn) true))],next := 4,nt := 210,m := 0 }
def ef7vj13 : Ty67 → St := fun (t0,t2,t3,t9,t14,t15,t16,t17,e1) => { tmps := [(0,(.int .i64 t0)),(2,(.int .i64 t2)),(3,(.int .i64 t3)),(9,(.bool t9)),(10,(.ptr 0 0 5 0 0 0 5)),(14,(.vs (.rS t14) 0 1)),(15,(.int .i64 t15)),(16,(.vs (.rS t16) 0 1)),(17,(.int .i64 t17))],heap := [(0,(.cells 5 (.segs (.cons 1 (.one (.own 1 e1.n 64)) (.cons 1 (.one (.mp 2)) (.cons 1 (.one (.mp 3)) (.cons 1 (.one (.bool e1.off)) (.cons 1 (.one (.int .i64 e1.left)) .nil)))))) true)),(1,(.cells e1.blk.length (.rI .u8 e1.blk) true)),(2,(.cells 0 (.rM .i64 0 (.arr .u8 64) e1.pend) true)),(3,(.cells 0 (.rM .i64 0 .bool e1.worn) true))],next := 4,nt := 210,m := 0 }
def ef7vj14 : Ty68 → St := fun (t0,t2,t3,t9,t14,t15,t16,t17,t18) => { tmps := [(0,(.int .i64 t0)),(2,(.int .i64 t2)),(3,(.int .i64 t3)),(9,(.bool t9)),(14,(.vs (.rS t14) 0 1)),(15,(.int .i64 t15)),(16,(.vs (.rS t16) 0 1)),(17,(.int .i64 t17)),(18,(.bool t18))],heap := [],next := 0,nt := 210,m := 0 }
def ef7vj15 : Ty69 → St := fun (t0,t2,t3,t9,t14,t15,t16,t17,t18,t77) => { tmps := [(0,(.int .i64 t0)),(2,(.int .i64 t2)),(3,(.int .i64 t3)),(9,(.bool t9)),(14,(.vs (.rS t14) 0 1)),(15,(.int .i64 t15)),(16,(.vs (.rS t16) 0 1)),(17,(.int .i64 t17)),(18,(.bool t18)),(77,(.bool t77))],heap := [],next := 0,nt := 210,m := 0 }
def ef7vj16 : Ty70 → St := fun (t0,t2,t3,t9,t14,t16,t17,t18) => { tmps := [(0,(.int .i64 t0)),(2,(.int .i64 t2)),(3,(.int .i64 t3)),(9,(.bool t9)),(14,(.vs (.rS t14) 0 1)),(16,(.vs (.rS t16) 0 1)),(17,(.int .i64 t17)),(18,(.bool t18))],heap := [],next := 0,nt := 210,m := 0 }
def ef7vj17 : Ty71 → St := fun (t0,t2,t3,t9,t14,t16,t142) => { tmps := [(0,(.int .i64 t0)),(2,(.int .i64 t2)),(3,(.int .i64 t3)),(9,(.bool t9)),(14,(.vs (.rS t14) 0 1)),(16,(.vs (.rS t16) 0 1)),(142,(.bool t142))],heap := [],next := 0,nt := 210,m := 0 }
def ef7vj18 : Ty72 → St := fun (t0,t2,t3,t9,t14,t16) => { tmps := [(0,(.int .i64 t0)),(2,(.int .i64 t2)),(3,(.int .i64 t3)),(9,(.bool t9)),(14,(.vs (.rS t14) 0 1)),(16,(.vs (.rS t16) 0 1))],heap := [],next := 0,nt := 210,m := 0 }
def ef7vj19 : Ty73 → St := fun (t0,t2,t3,t9,t14,t16,t19) => { tmps := [(0,(.int .i64 t0)),(2,(.int .i64 t2)),(3,(.int .i64 t3)),(9,(.bool t9)),(14,(.vs (.rS t14) 0 1)),(16,(.vs (.rS t16) 0 1)),(19,(.int .i64 t19))],heap := [],next := 0,nt := 210,m := 0 }
def ef7vl2 : Ty73 → St := fun (t0,t2,t3,t9,t14,t16,t19) => { tmps := [(0,(.int .i64 t0)),(2,(.int .i64 t2)),(3,(.int .i64 t3)),(9,(.bool t9)),(14,(.vs (.rS t14) 0 1)),(16,(.vs (.rS t16) 0 1)),(19,(.int .i64 t19))],heap := [],next := 0,nt := 210,m := 0 }
def ef7vj20 : Ty73 → St := fun (t0,t2,t3,t9,t14,t16,t19) => { tmps := [(0,(.int .i64 t0)),(2,(.int .i64 t2)),(3,(.int .i64 t3)),(9,(.bool t9)),(14,(.vs (.rS t14) 0 1)),(16,(.vs (.rS t16) 0 1)),(19,(.int .i64 t19))],heap := [],next := 0,nt := 210,m := 0 }
def ef7vj21 : Ty70 → St := fun (t0,t2,t3,t9,t14,t16,t19,t168) => { tmps := [(0,(.int .i64 t0)),(2,(.int .i64 t2)),(3,(.int .i64 t3)),(9,(.bool t9)),(14,(.vs (.rS t14) 0 1)),(16,(.vs (.rS t16) 0 1)),(19,(.int .i64 t19)),(168,(.bool t168))],heap := [],next := 0,nt := 210,m := 0 }
def ef7vj22 : Ty73 → St := fun (t0,t2,t3,t9,t14,t16,t19) => { tmps := [(0,(.int .i64 t0)),(2,(.int .i64 t2)),(3,(.int .i64 t3)),(9,(.bool t9)),(14,(.vs (.rS t14) 0 1)),(16,(.vs (.rS t16) 0 1)),(19,(.int .i64 t19))],heap := [],next := 0,nt := 210,m := 0 }
def ef7vj23 : Ty74 → St := fun (t2,t3,t9,t14,t16) => { tmps := [(2,(.int .i64 t2)),(3,(.int .i64 t3)),(9,(.bool t9)),(14,(.vs (.rS t14) 0 1)),(16,(.vs (.rS t16) 0 1))],heap := [],next := 0,nt := 210,m := 0 }
def ef7vj24 : Ty75 → St := fun (t2,t3,t9,t14,t16,t20) => { tmps := [(2,(.int .i64 t2)),(3,(.int .i64 t3)),(9,(.bool t9)),(14,(.vs (.rS t14) 0 1)),(16,(.vs (.rS t16) 0 1)),(20,(.int .i64 t20))],heap := [],next := 0,nt := 210,m := 0 }
def ef7vl3 : Ty75 → St := fun (t2,t3,t9,t14,t16,t20) => { tmps := [(2,(.int .i64 t2)),(3,(.int .i64 t3)),(9,(.bool t9)),(14,(.vs (.rS t14) 0 1)),(16,(.vs (.rS t16) 0 1)),(20,(.int .i64 t20))],heap := [],next := 0,nt := 210,m := 0 }
def ef7vj25 : Ty75 → St := fun (t2,t3,t9,t14,t16,t20) => { tmps := [(2,(.int .i64 t2)),(3,(.int .i64 t3)),(9,(.bool t9)),(14,(.vs (.rS t14) 0 1)),(16,(.vs (.rS t16) 0 1)),(20,(.int .i64 t20))],heap := [],next := 0,nt := 210,m := 0 }
def ef7vj26 : Ty76 → St := fun (t2,t3,t9,t14,t16,t20,t21) => { tmps := [(2,(.int .i64 t2)),(3,(.int .i64 t3)),(9,(.bool t9)),(14,(.vs (.rS t14) 0 1)),(16,(.vs (.rS t16) 0 1)),(20,(.int .i64 t20)),(21,(.int .i64 t21))],heap := [],next := 0,nt := 210,m := 0 }
def ef7vj27 : Ty77 → St := fun (t2,t3,t9,t14,t16,t20,t208) => { tmps := [(2,(.int .i64 t2)),(3,(.int .i64 t3)),(9,(.bool t9)),(14,(.vs (.rS t14) 0 1)),(16,(.vs (.rS t16) 0 1)),(20,(.int .i64 t20)),(208,(.bool t208))],heap := [],next := 0,nt := 210,m := 0 }
def ef7vj28 : Ty75 → St := fun (t2,t3,t9,t14,t16,t20) => { tmps := [(2,(.int .i64 t2)),(3,(.int .i64 t3)),(9,(.bool t9)),(14,(.vs (.rS t14) 0 1)),(16,(.vs (.rS t16) 0 1)),(20,(.int .i64 t20))],heap := [],next := 0,nt := 210,m := 0 }
def ef7vj29 : Bool → St := fun t9 => { tmps := [(9,(.bool t9))],heap := [],next := 0,nt := 210,m := 0 }
def f7v_1 (F : Nat) (kf7vj1 : Ty56 → Rz) : Ty56 → Rz := fun (a0,a1,a1n,a2,a3) => (kf7vj1 (a0,a1,a1n,a2,a3))
theorem f7v_1_eq (F : Nat) (Rf7vj1 : St → Rz) : ∀ v,aexec VG357v (Af7v F) (bp Try.f7 2) (ef7v_a v) (kSeq (kc VG357v Rf7vj1 sp32) (kFin VG357v none (Try.f7).results.toList)) = f7v_1 F (Rf7vj1 ∘ ef7vj1) v := by
  rintro ⟨a0,a1,a1n,a2,a3⟩; kernel_rfl
def f7v_2 (F : Nat) (kf7vj2 : Ty58 → Rz) : Ty56 → Rz := fun (t0,t1,x3,t2,t3) => (kf7vj2 (t0,t1,x3,t2,t3,true))
theorem f7v_2_eq (F : Nat) (Rf7vj2 : St → Rz) : ∀ v,aexec VG357v (Af7v F) (bp Try.f7 6) (ef7vj1 v) (kSeq (kc VG357v Rf7vj2 sp33) (kFin VG357v none (Try.f7).results.toList)) = f7v_2 F (Rf7vj2 ∘ ef7vj2) v := by
  rintro ⟨t0,t1,x3,t2,t3⟩; kernel_rfl
def f7v_3 (F : Nat) (kf7vj3 : Ty59 → Rz) : Ty58 → Rz := fun (t0,t1,x3,t2,t3,t9) => (cond ((decide (0 < t0)) && (decide (t0 < 65))) (kf7vj3 (t0,t1,x3,t2,t3,t9,true,(Dk.new t0))) none)
theorem f7v_3_eq (F : Nat) (Rf7vj3 : St → Rz) : ∀ v,aexec VG357v (Af7v F) (bp Try.f7 14) (ef7vj2 v) (kSeq (kc VG357v Rf7vj3 sp34) (kFin VG357v none (Try.f7).results.toList)) = f7v_3 F (Rf7vj3 ∘ ef7vj3) v := by
  rintro ⟨t0,t1,x3,t2,t3,t9⟩; kernel_rfl
def f7v_4 (F : Nat) (kf7vj4 : Ty60 → Rz) (kf7vj5 : Ty61 → Rz) : Ty59 → Rz := fun (t0,t1,x3,t2,t3,t9,t12,e1) => (cond (!t12) (kf7vj4 (t0,t1,x3,t2,t3,t9,t12,true,e1)) (kf7vj4 (t0,t1,x3,t2,t3,t9,t12,(decide ((↑x3 : Int) > (60 : Int))),e1)))
theorem f7v_4_eq (F : Nat) (Rf7vj4 : St → Rz) (Rf7vj5 : St → Rz) : ∀ v,aexec VG357v (Af7v F) (bp Try.f7 60) (ef7vj3 v) (kSeq (kc VG357v Rf7vj4 sp39) (kSeq (kc VG357v Rf7vj5 sp40) (kFin VG357v none (Try.f7).results.toList))) = f7v_4 F (Rf7vj4 ∘ ef7vj4) (Rf7vj5 ∘ ef7vj5) v := by
  rintro ⟨t0,t1,x3,t2,t3,t9,t12,e1⟩; kernel_rfl
def f7v_5 (F : Nat) (kf7vj5 : Ty61 → Rz) : Ty60 → Rz := fun (t0,t1,x3,t2,t3,t9,t12,t35,e1) => (cond t35 (cond t9 (cond t12 (some ((.bool true),[])) (cond (decide (t0 < (1 : Int))) (some ((.bool true),[])) (some ((.bool (decide (t0 > (64 : Int)))),[])))) (some ((.bool false),[]))) (kf7vj5 (t0,t1,x3,t2,t3,t9,e1)))
theorem f7v_5_eq (F : Nat) (Rf7vj5 : St → Rz) : ∀ v,aexec VG357v (Af7v F) (bp Try.f7 61) (ef7vj4 v) (kSeq (kc VG357v Rf7vj5 sp40) (kFin VG357v none (Try.f7).results.toList)) = f7v_5 F (Rf7vj5 ∘ ef7vj5) v := by
  rintro ⟨t0,t1,x3,t2,t3,t9,t12,t35,e1⟩; kernel_rfl
def f7v_6 (F : Nat) (kf7vj5 : Ty61 → Rz) : Ty59 → Rz := fun v => f7v_4 F (f7v_5 F kf7vj5) kf7vj5 v
theorem f7v_6_eq (F : Nat) (Rf7vj5 : St → Rz) : ∀ v,aexec VG357v (Af7v F) (bp Try.f7 30) (ef7vj3 v) (kSeq (kc VG357v Rf7vj5 sp40) (kFin VG357v none (Try.f7).results.toList)) = f7v_6 F (Rf7vj5 ∘ ef7vj5) v :=
  seq_cut (by kernel_rfl) (by kernel_rfl) ef7vj3 ef7vj4 _ (fun k => f7v_4 F k (Rf7vj5 ∘ ef7vj5)) (f7v_5 F (Rf7vj5 ∘ ef7vj5))
    (fun Rf7vj4 => f7v_4_eq F Rf7vj4 Rf7vj5) (f7v_5_eq F Rf7vj5)
def f7v_7 (F : Nat) (kf7vj6 : Ty62 → Rz) (kf7vj9 : Ty63 → Rz) : Ty61 → Rz := fun (t0,t1,x3,t2,t3,t9,e1) => (kf7vj6 (t0,t1,x3,t2,t3,t9,(0 : Int),e1))
theorem f7v_7_eq (F : Nat) (Rf7vj6 : St → Rz) (Rf7vj9 : St → Rz) : ∀ v,aexec VG357v (Af7v F) (bp Try.f7 124) (ef7vj5 v) (kSeq (kc VG357v Rf7vj6 sp36) (kSeq (kc VG357v Rf7vj9 sp41) (kFin VG357v none (Try.f7).results.toList))) = f7v_7 F (Rf7vj6 ∘ ef7vj6) (Rf7vj9 ∘ ef7vj9) v := by
  rintro ⟨t0,t1,x3,t2,t3,t9,e1⟩; kernel_rfl
def f7v_8 (F : Nat) (kf7vj7 : Ty62 → Rz) (kf7vl1 : Ty62 → Rz) (kf7vj9 : Ty63 → Rz) : Ty62 → Rz := fun (t0,t1,x3,t2,t3,t9,t13,e1) => (cond (decide (t13 < (↑x3 : Int))) (kf7vj7 (t0,t1,x3,t2,t3,t9,t13,e1)) (kf7vj9 (t0,t2,t3,t9,e1)))
theorem f7v_8_eq (F : Nat) (Rf7vj7 : St → Rz) (Rf7vl1 : St → Rz) (Rf7vj9 : St → Rz) : ∀ v,aexec VG357v (Af7v F) (bp Try.f7 1000) (ef7vl1 v) (kSeq (kc VG357v Rf7vj7 sp36) (kSeq (kc VG357v Rf7vl1 sp36) (kBlock 0 (kSeq (kc VG357v Rf7vj9 sp41) (kFin VG357v none (Try.f7).results.toList))))) = f7v_8 F (Rf7vj7 ∘ ef7vj7) (Rf7vl1 ∘ ef7vl1) (Rf7vj9 ∘ ef7vj9) v := by
  rintro ⟨t0,t1,x3,t2,t3,t9,t13,e1⟩; kernel_rfl
def f7v_9 (F : Nat) (kf7vj8 : Ty62 → Rz) (kf7vl1 : Ty62 → Rz) (kf7vj9 : Ty63 → Rz) : Ty62 → Rz := fun (t0,t1,x3,t2,t3,t9,t13,e1) => (cond ((decide (0 ≤ t13)) && (decide (t13 < (↑x3 : Int)))) (cond (Dk.fine e1) (kf7vj8 (t0,t1,x3,t2,t3,t9,t13,(Dk.op e1 (((t1.getD (Int.toNat t13) []).getD 0 []).getD 0 0) (((t1.getD (Int.toNat t13) []).getD 1 []).getD 0 0) (((t1.getD (Int.toNat t13) []).getD 2 []).getD 0 0) ((t1.getD (Int.toNat t13) []).getD 3 []) ((t1.getD (Int.toNat t13) []).getD 4 [])).1)) none) none)
theorem f7v_9_eq (F : Nat) (Rf7vj8 : St → Rz) (Rf7vl1 : St → Rz) (Rf7vj9 : St → Rz) : ∀ v,aexec VG357v (Af7v F) (bp Try.f7 2002) (ef7vj7 v) (kSeq (kc VG357v Rf7vj8 sp36) (kSeq (kc VG357v Rf7vl1 sp36) (kBlock 0 (kSeq (kc VG357v Rf7vj9 sp41) (kFin VG357v none (Try.f7).results.toList))))) = f7v_9 F (Rf7vj8 ∘ ef7vj8) (Rf7vl1 ∘ ef7vl1) (Rf7vj9 ∘ ef7vj9) v := by
  rintro ⟨t0,t1,x3,t2,t3,t9,t13,e1⟩; kernel_rfl
def f7v_10 (F : Nat) (kf7vl1 : Ty62 → Rz) (kf7vj9 : Ty63 → Rz) : Ty62 → Rz := fun (t0,t1,x3,t2,t3,t9,t13,e1) => (kf7vl1 (t0,t1,x3,t2,t3,t9,(IntKind.i64.wrap (t13 + (1 : Int))),e1))
theorem f7v_10_eq (F : Nat) (Rf7vl1 : St → Rz) (Rf7vj9 : St → Rz) : ∀ v,aexec VG357v (Af7v F) (bp Try.f7 2003) (ef7vj8 v) (kSeq (kc VG357v Rf7vl1 sp36) (kBlock 0 (kSeq (kc VG357v Rf7vj9 sp41) (kFin VG357v none (Try.f7).results.toList)))) = f7v_10 F (Rf7vl1 ∘ ef7vl1) (Rf7vj9 ∘ ef7vj9) v := by
  rintro ⟨t0,t1,x3,t2,t3,t9,t13,e1⟩; kernel_rfl
def f7v_11 (F : Nat) (kf7vl1 : Ty62 → Rz) (kf7vj9 : Ty63 → Rz) : Ty62 → Rz := fun v => f7v_9 F (f7v_10 F kf7vl1 kf7vj9) kf7vl1 kf7vj9 v
theorem f7v_11_eq (F : Nat) (Rf7vl1 : St → Rz) (Rf7vj9 : St → Rz) : ∀ v,aexec VG357v (Af7v F) (bp Try.f7 1001) (ef7vj7 v) (kSeq (kc VG357v Rf7vl1 sp36) (kBlock 0 (kSeq (kc VG357v Rf7vj9 sp41) (kFin VG357v none (Try.f7).results.toList)))) = f7v_11 F (Rf7vl1 ∘ ef7vl1) (Rf7vj9 ∘ ef7vj9) v :=
  seq_cut (by kernel_rfl) (by kernel_rfl) ef7vj7 ef7vj8 _ (fun k => f7v_9 F k (Rf7vl1 ∘ ef7vl1) (Rf7vj9 ∘ ef7vj9)) (f7v_10 F (Rf7vl1 ∘ ef7vl1) (Rf7vj9 ∘ ef7vj9))
    (fun Rf7vj8 => f7v_9_eq F Rf7vj8 Rf7vl1 Rf7vj9) (f7v_10_eq F Rf7vl1 Rf7vj9)
def f7v_12 (F : Nat) (kf7vl1 : Ty62 → Rz) (kf7vj9 : Ty63 → Rz) : Ty62 → Rz := fun v => f7v_8 F (f7v_11 F kf7vl1 kf7vj9) kf7vl1 kf7vj9 v
theorem f7v_12_eq (F : Nat) (Rf7vl1 : St → Rz) (Rf7vj9 : St → Rz) : ∀ v,aexec VG357v (Af7v F) (bp Try.f7 500) (ef7vl1 v) (kSeq (kc VG357v Rf7vl1 sp36) (kBlock 0 (kSeq (kc VG357v Rf7vj9 sp41) (kFin VG357v none (Try.f7).results.toList)))) = f7v_12 F (Rf7vl1 ∘ ef7vl1) (Rf7vj9 ∘ ef7vj9) v :=
  seq_cut (by kernel_rfl) (by kernel_rfl) ef7vl1 ef7vj7 _ (fun k => f7v_8 F k (Rf7vl1 ∘ ef7vl1) (Rf7vj9 ∘ ef7vj9)) (f7v_11 F (Rf7vl1 ∘ ef7vl1) (Rf7vj9 ∘ ef7vj9))
    (fun Rf7vj7 => f7v_8_eq F Rf7vj7 Rf7vl1 Rf7vj9) (f7v_11_eq F Rf7vl1 Rf7vj9)
def f7v_13_i : Ty62 → Int × (List (List (List Int))) × Nat × Int × Int × Bool × Int × (Dk.D) := fun (t0,t1,x3,t2,t3,t9,t13,e1) => (t0,t1,x3,t2,t3,t9,t13,e1)
def f7v_13 (F : Nat) (kf7vj9 : Ty63 → Rz) : Ty62 → Rz := fun v => loopN (fun k => f7v_12 F k kf7vj9) F (f7v_13_i v)
theorem f7v_13_eq (F : Nat) (Rf7vj9 : St → Rz) : ∀ v,aexec VG357v (Af7v F) (bp Try.f7 250) (ef7vj6 v) (kBlock 0 (kSeq (kc VG357v Rf7vj9 sp41) (kFin VG357v none (Try.f7).results.toList))) = f7v_13 F (Rf7vj9 ∘ ef7vj9) v :=
  loop_cut (by kernel_rfl) (by kernel_rfl) ef7vj6 ef7vl1 _ f7v_13_i (fun k => f7v_12 F k (Rf7vj9 ∘ ef7vj9))
    (by rintro ⟨t0,t1,x3,t2,t3,t9,t13,e1⟩; kernel_rfl) (fun Rf7vl1 => f7v_12_eq F Rf7vl1 Rf7vj9)
def f7v_14 (F : Nat) (kf7vj9 : Ty63 → Rz) : Ty62 → Rz := f7v_13 F kf7vj9
theorem f7v_14_eq (F : Nat) (Rf7vj9 : St → Rz) : ∀ v,aexec VG357v (Af7v F) (bp Try.f7 125) (ef7vj6 v) (kSeq (kc VG357v Rf7vj9 sp41) (kFin VG357v none (Try.f7).results.toList)) = f7v_14 F (Rf7vj9 ∘ ef7vj9) v := fun v =>
  (block_in  (by kernel_rfl) _ _).trans (f7v_13_eq F Rf7vj9 v)
def f7v_15 (F : Nat) (kf7vj9 : Ty63 → Rz) : Ty61 → Rz := fun v => f7v_7 F (f7v_14 F kf7vj9) kf7vj9 v
theorem f7v_15_eq (F : Nat) (Rf7vj9 : St → Rz) : ∀ v,aexec VG357v (Af7v F) (bp Try.f7 62) (ef7vj5 v) (kSeq (kc VG357v Rf7vj9 sp41) (kFin VG357v none (Try.f7).results.toList)) = f7v_15 F (Rf7vj9 ∘ ef7vj9) v :=
  seq_cut (by kernel_rfl) (by kernel_rfl) ef7vj5 ef7vj6 _ (fun k => f7v_7 F k (Rf7vj9 ∘ ef7vj9)) (f7v_14 F (Rf7vj9 ∘ ef7vj9))
    (fun Rf7vj6 => f7v_7_eq F Rf7vj6 Rf7vj9) (f7v_14_eq F Rf7vj9)
def f7v_16 (F : Nat) (kf7vj10 : Ty64 → Rz) : Ty63 → Rz := fun (t0,t2,t3,t9,e1) => (cond (decide (e1.blk.length = e1.n * 64 ∧ e1.n < 8000)) (kf7vj10 (t0,t2,t3,t9,(Dk.image e1),e1)) none)
theorem f7v_16_eq (F : Nat) (Rf7vj10 : St → Rz) : ∀ v,aexec VG357v (Af7v F) (bp Try.f7 126) (ef7vj9 v) (kSeq (kc VG357v Rf7vj10 sp42) (kFin VG357v none (Try.f7).results.toList)) = f7v_16 F (Rf7vj10 ∘ ef7vj10) v := by
  rintro ⟨t0,t2,t3,t9,e1⟩; kernel_rfl
def f7v_17 (F : Nat) (kf7vj11 : Ty65 → Rz) : Ty64 → Rz := fun (t0,t2,t3,t9,t14,e1) => (kf7vj11 (t0,t2,t3,t9,t14,(Dk.rot e1 t2 t3).2,(Dk.rot e1 t2 t3).1))
theorem f7v_17_eq (F : Nat) (Rf7vj11 : St → Rz) : ∀ v,aexec VG357v (Af7v F) (bp Try.f7 254) (ef7vj10 v) (kSeq (kc VG357v Rf7vj11 sp43) (kFin VG357v none (Try.f7).results.toList)) = f7v_17 F (Rf7vj11 ∘ ef7vj11) v := by
  rintro ⟨t0,t2,t3,t9,t14,e1⟩; kernel_rfl
def f7v_18 (F : Nat) (kf7vj12 : Ty66 → Rz) : Ty65 → Rz := fun (t0,t2,t3,t9,t14,t15,e1) => (cond (decide (e1.blk.length = e1.n * 64 ∧ e1.n < 8000)) (kf7vj12 (t0,t2,t3,t9,t14,t15,(Dk.image e1),e1)) none)
theorem f7v_18_eq (F : Nat) (Rf7vj12 : St → Rz) : ∀ v,aexec VG357v (Af7v F) (bp Try.f7 510) (ef7vj11 v) (kSeq (kc VG357v Rf7vj12 sp44) (kFin VG357v none (Try.f7).results.toList)) = f7v_18 F (Rf7vj12 ∘ ef7vj12) v := by
  rintro ⟨t0,t2,t3,t9,t14,t15,e1⟩; kernel_rfl
def f7v_19 (F : Nat) (kf7vj13 : Ty67 → Rz) : Ty66 → Rz := fun (t0,t2,t3,t9,t14,t15,t16,e1) => (kf7vj13 (t0,t2,t3,t9,t14,t15,t16,(Dk.rot e1 t2 t3).2,(Dk.rot e1 t2 t3).1))
theorem f7v_19_eq (F : Nat) (Rf7vj13 : St → Rz) : ∀ v,aexec VG357v (Af7v F) (bp Try.f7 1022) (ef7vj12 v) (kSeq (kc VG357v Rf7vj13 sp45) (kFin VG357v none (Try.f7).results.toList)) = f7v_19 F (Rf7vj13 ∘ ef7vj13) v := by
  rintro ⟨t0,t2,t3,t9,t14,t15,t16,e1⟩; kernel_rfl
def f7v_20 (F : Nat) (kf7vj14 : Ty68 → Rz) : Ty67 → Rz := fun (t0,t2,t3,t9,t14,t15,t16,t17,e1) => (cond (decide (e1.blk.length = e1.n * 64 ∧ e1.n < 8000)) (cond (decide (t14.length < 1073741824)) (kf7vj14 (t0,t2,t3,t9,t14,t15,t16,t17,(t14 == (Dk.image e1)))) none) none)
theorem f7v_20_eq (F : Nat) (Rf7vj14 : St → Rz) : ∀ v,aexec VG357v (Af7v F) (bp Try.f7 2046) (ef7vj13 v) (kSeq (kc VG357v Rf7vj14 sp46) (kFin VG357v none (Try.f7).results.toList)) = f7v_20 F (Rf7vj14 ∘ ef7vj14) v := by
  rintro ⟨t0,t2,t3,t9,t14,t15,t16,t17,e1⟩; kernel_rfl
def f7v_21 (F : Nat) (kf7vj15 : Ty69 → Rz) (kf7vj16 : Ty70 → Rz) : Ty68 → Rz := fun (t0,t2,t3,t9,t14,t15,t16,t17,t18) => (kf7vj15 (t0,t2,t3,t9,t14,t15,t16,t17,t18,(t15 != (0 : Int))))
theorem f7v_21_eq (F : Nat) (Rf7vj15 : St → Rz) (Rf7vj16 : St → Rz) : ∀ v,aexec VG357v (Af7v F) (bp Try.f7 8188) (ef7vj14 v) (kSeq (kc VG357v Rf7vj15 sp47) (kSeq (kc VG357v Rf7vj16 sp48) (kFin VG357v none (Try.f7).results.toList))) = f7v_21 F (Rf7vj15 ∘ ef7vj15) (Rf7vj16 ∘ ef7vj16) v := by
  rintro ⟨t0,t2,t3,t9,t14,t15,t16,t17,t18⟩; kernel_rfl
def f7v_22 (F : Nat) (kf7vj16 : Ty70 → Rz) : Ty69 → Rz := fun (t0,t2,t3,t9,t14,t15,t16,t17,t18,t77) => (cond t77 (cond t9 (cond (t15 == (1 : Int)) (cond (t17 == t15) (cond t18 (cond (decide (t2 < (0 : Int))) (some ((.bool true),[])) (cond (decide (t2 ≥ t0)) (some ((.bool true),[])) (cond (decide (t3 < (0 : Int))) (some ((.bool true),[])) (some ((.bool (decide (t3 > (511 : Int)))),[]))))) (some ((.bool false),[]))) (some ((.bool false),[]))) (some ((.bool false),[]))) (some ((.bool false),[]))) (kf7vj16 (t0,t2,t3,t9,t14,t16,t17,t18)))
theorem f7v_22_eq (F : Nat) (Rf7vj16 : St → Rz) : ∀ v,aexec VG357v (Af7v F) (bp Try.f7 8189) (ef7vj15 v) (kSeq (kc VG357v Rf7vj16 sp48) (kFin VG357v none (Try.f7).results.toList)) = f7v_22 F (Rf7vj16 ∘ ef7vj16) v := by
  rintro ⟨t0,t2,t3,t9,t14,t15,t16,t17,t18,t77⟩; kernel_rfl
def f7v_23 (F : Nat) (kf7vj16 : Ty70 → Rz) : Ty68 → Rz := fun v => f7v_21 F (f7v_22 F kf7vj16) kf7vj16 v
theorem f7v_23_eq (F : Nat) (Rf7vj16 : St → Rz) : ∀ v,aexec VG357v (Af7v F) (bp Try.f7 4094) (ef7vj14 v) (kSeq (kc VG357v Rf7vj16 sp48) (kFin VG357v none (Try.f7).results.toList)) = f7v_23 F (Rf7vj16 ∘ ef7vj16) v :=
  seq_cut (by kernel_rfl) (by kernel_rfl) ef7vj14 ef7vj15 _ (fun k => f7v_21 F k (Rf7vj16 ∘ ef7vj16)) (f7v_22 F (Rf7vj16 ∘ ef7vj16))
    (fun Rf7vj15 => f7v_21_eq F Rf7vj15 Rf7vj16) (f7v_22_eq F Rf7vj16)
def f7v_24 (F : Nat) (kf7vj17 : Ty71 → Rz) (kf7vj18 : Ty72 → Rz) : Ty70 → Rz := fun (t0,t2,t3,t9,t14,t16,t17,t18) => (cond ((↑t14.length : Int) != t0) (kf7vj17 (t0,t2,t3,t9,t14,t16,true)) (cond ((↑t16.length : Int) != t0) (kf7vj17 (t0,t2,t3,t9,t14,t16,true)) (cond (t17 != (0 : Int)) (kf7vj17 (t0,t2,t3,t9,t14,t16,true)) (cond (!t18) (kf7vj17 (t0,t2,t3,t9,t14,t16,true)) (cond (decide (t2 < (0 : Int))) (kf7vj17 (t0,t2,t3,t9,t14,t16,true)) (cond (decide (t2 ≥ t0)) (kf7vj17 (t0,t2,t3,t9,t14,t16,true)) (cond (decide (t3 < (0 : Int))) (kf7vj17 (t0,t2,t3,t9,t14,t16,true)) (kf7vj17 (t0,t2,t3,t9,t14,t16,(decide (t3 > (511 : Int))))))))))))
theorem f7v_24_eq (F : Nat) (Rf7vj17 : St → Rz) (Rf7vj18 : St → Rz) : ∀ v,aexec VG357v (Af7v F) (bp Try.f7 16380) (ef7vj16 v) (kSeq (kc VG357v Rf7vj17 sp49) (kSeq (kc VG357v Rf7vj18 sp50) (kFin VG357v none (Try.f7).results.toList))) = f7v_24 F (Rf7vj17 ∘ ef7vj17) (Rf7vj18 ∘ ef7vj18) v := by
  rintro ⟨t0,t2,t3,t9,t14,t16,t17,t18⟩; kernel_rfl
def f7v_25 (F : Nat) (kf7vj18 : Ty72 → Rz) : Ty71 → Rz := fun (t0,t2,t3,t9,t14,t16,t142) => (cond t142 (some ((.bool false),[])) (kf7vj18 (t0,t2,t3,t9,t14,t16)))
theorem f7v_25_eq (F : Nat) (Rf7vj18 : St → Rz) : ∀ v,aexec VG357v (Af7v F) (bp Try.f7 16381) (ef7vj17 v) (kSeq (kc VG357v Rf7vj18 sp50) (kFin VG357v none (Try.f7).results.toList)) = f7v_25 F (Rf7vj18 ∘ ef7vj18) v := by
  rintro ⟨t0,t2,t3,t9,t14,t16,t142⟩; kernel_rfl
def f7v_26 (F : Nat) (kf7vj18 : Ty72 → Rz) : Ty70 → Rz := fun v => f7v_24 F (f7v_25 F kf7vj18) kf7vj18 v
theorem f7v_26_eq (F : Nat) (Rf7vj18 : St → Rz) : ∀ v,aexec VG357v (Af7v F) (bp Try.f7 8190) (ef7vj16 v) (kSeq (kc VG357v Rf7vj18 sp50) (kFin VG357v none (Try.f7).results.toList)) = f7v_26 F (Rf7vj18 ∘ ef7vj18) v :=
  seq_cut (by kernel_rfl) (by kernel_rfl) ef7vj16 ef7vj17 _ (fun k => f7v_24 F k (Rf7vj18 ∘ ef7vj18)) (f7v_25 F (Rf7vj18 ∘ ef7vj18))
    (fun Rf7vj17 => f7v_24_eq F Rf7vj17 Rf7vj18) (f7v_25_eq F Rf7vj18)
def f7v_27 (F : Nat) (kf7vj19 : Ty73 → Rz) (kf7vj23 : Ty74 → Rz) : Ty72 → Rz := fun (t0,t2,t3,t9,t14,t16) => (kf7vj19 (t0,t2,t3,t9,t14,t16,(0 : Int)))
theorem f7v_27_eq (F : Nat) (Rf7vj19 : St → Rz) (Rf7vj23 : St → Rz) : ∀ v,aexec VG357v (Af7v F) (bp Try.f7 32764) (ef7vj18 v) (kSeq (kc VG357v Rf7vj19 sp37) (kSeq (kc VG357v Rf7vj23 sp52) (kFin VG357v none (Try.f7).results.toList))) = f7v_27 F (Rf7vj19 ∘ ef7vj19) (Rf7vj23 ∘ ef7vj23) v := by
  rintro ⟨t0,t2,t3,t9,t14,t16⟩; kernel_rfl
def f7v_28 (F : Nat) (kf7vj20 : Ty73 → Rz) (kf7vl2 : Ty73 → Rz) (kf7vj23 : Ty74 → Rz) : Ty73 → Rz := fun (t0,t2,t3,t9,t14,t16,t19) => (cond (decide (t19 < t0)) (kf7vj20 (t0,t2,t3,t9,t14,t16,t19)) (kf7vj23 (t2,t3,t9,t14,t16)))
theorem f7v_28_eq (F : Nat) (Rf7vj20 : St → Rz) (Rf7vl2 : St → Rz) (Rf7vj23 : St → Rz) : ∀ v,aexec VG357v (Af7v F) (bp Try.f7 262120) (ef7vl2 v) (kSeq (kc VG357v Rf7vj20 sp37) (kSeq (kc VG357v Rf7vl2 sp37) (kBlock 2 (kSeq (kc VG357v Rf7vj23 sp52) (kFin VG357v none (Try.f7).results.toList))))) = f7v_28 F (Rf7vj20 ∘ ef7vj20) (Rf7vl2 ∘ ef7vl2) (Rf7vj23 ∘ ef7vj23) v := by
  rintro ⟨t0,t2,t3,t9,t14,t16,t19⟩; kernel_rfl
def f7v_29 (F : Nat) (kf7vj21 : Ty70 → Rz) (kf7vj22 : Ty73 → Rz) (kf7vl2 : Ty73 → Rz) (kf7vj23 : Ty74 → Rz) : Ty73 → Rz := fun (t0,t2,t3,t9,t14,t16,t19) => (cond ((decide (0 ≤ t19)) && (decide (t19 < (↑t14.length : Int)))) (cond ((decide (0 ≤ t19)) && (decide (t19 < (↑t16.length : Int)))) (cond ((((t14.getD (Int.toNat t19) []) : List Int) == ((t16.getD (Int.toNat t19) []) : List Int)) == (t19 == t2)) (kf7vj21 (t0,t2,t3,t9,t14,t16,t19,true)) (cond ((decide (0 ≤ t19)) && (decide (t19 < (↑t16.length : Int)))) (kf7vj21 (t0,t2,t3,t9,t14,t16,t19,((↑(t16.getD (Int.toNat t19) []).length : Int) != (64 : Int)))) none)) none) none)
theorem f7v_29_eq (F : Nat) (Rf7vj21 : St → Rz) (Rf7vj22 : St → Rz) (Rf7vl2 : St → Rz) (Rf7vj23 : St → Rz) : ∀ v,aexec VG357v (Af7v F) (bp Try.f7 2096968) (ef7vj20 v) (kSeq (kc VG357v Rf7vj21 sp51) (kBlock 3 (kSeq (kc VG357v Rf7vj22 sp37) (kSeq (kc VG357v Rf7vl2 sp37) (kBlock 2 (kSeq (kc VG357v Rf7vj23 sp52) (kFin VG357v none (Try.f7).results.toList))))))) = f7v_29 F (Rf7vj21 ∘ ef7vj21) (Rf7vj22 ∘ ef7vj22) (Rf7vl2 ∘ ef7vl2) (Rf7vj23 ∘ ef7vj23) v := by
  rintro ⟨t0,t2,t3,t9,t14,t16,t19⟩; kernel_rfl
def f7v_30 (F : Nat) (kf7vj22 : Ty73 → Rz) (kf7vl2 : Ty73 → Rz) (kf7vj23 : Ty74 → Rz) : Ty70 → Rz := fun (t0,t2,t3,t9,t14,t16,t19,t168) => (cond t168 (some ((.bool false),[])) (kf7vj22 (t0,t2,t3,t9,t14,t16,t19)))
theorem f7v_30_eq (F : Nat) (Rf7vj22 : St → Rz) (Rf7vl2 : St → Rz) (Rf7vj23 : St → Rz) : ∀ v,aexec VG357v (Af7v F) (bp Try.f7 2096969) (ef7vj21 v) (kBlock 3 (kSeq (kc VG357v Rf7vj22 sp37) (kSeq (kc VG357v Rf7vl2 sp37) (kBlock 2 (kSeq (kc VG357v Rf7vj23 sp52) (kFin VG357v none (Try.f7).results.toList)))))) = f7v_30 F (Rf7vj22 ∘ ef7vj22) (Rf7vl2 ∘ ef7vl2) (Rf7vj23 ∘ ef7vj23) v := by
  rintro ⟨t0,t2,t3,t9,t14,t16,t19,t168⟩; kernel_rfl
def f7v_31 (F : Nat) (kf7vj22 : Ty73 → Rz) (kf7vl2 : Ty73 → Rz) (kf7vj23 : Ty74 → Rz) : Ty73 → Rz := fun v => f7v_29 F (f7v_30 F kf7vj22 kf7vl2 kf7vj23) kf7vj22 kf7vl2 kf7vj23 v
theorem f7v_31_eq (F : Nat) (Rf7vj22 : St → Rz) (Rf7vl2 : St → Rz) (Rf7vj23 : St → Rz) : ∀ v,aexec VG357v (Af7v F) (bp Try.f7 1048484) (ef7vj20 v) (kBlock 3 (kSeq (kc VG357v Rf7vj22 sp37) (kSeq (kc VG357v Rf7vl2 sp37) (kBlock 2 (kSeq (kc VG357v Rf7vj23 sp52) (kFin VG357v none (Try.f7).results.toList)))))) = f7v_31 F (Rf7vj22 ∘ ef7vj22) (Rf7vl2 ∘ ef7vl2) (Rf7vj23 ∘ ef7vj23) v :=
  seq_cut (by kernel_rfl) (by kernel_rfl) ef7vj20 ef7vj21 _ (fun k => f7v_29 F k (Rf7vj22 ∘ ef7vj22) (Rf7vl2 ∘ ef7vl2) (Rf7vj23 ∘ ef7vj23)) (f7v_30 F (Rf7vj22 ∘ ef7vj22) (Rf7vl2 ∘ ef7vl2) (Rf7vj23 ∘ ef7vj23))
    (fun Rf7vj21 => f7v_29_eq F Rf7vj21 Rf7vj22 Rf7vl2 Rf7vj23) (f7v_30_eq F Rf7vj22 Rf7vl2 Rf7vj23)
def f7v_32 (F : Nat) (kf7vj22 : Ty73 → Rz) (kf7vl2 : Ty73 → Rz) (kf7vj23 : Ty74 → Rz) : Ty73 → Rz := f7v_31 F kf7vj22 kf7vl2 kf7vj23
theorem f7v_32_eq (F : Nat) (Rf7vj22 : St → Rz) (Rf7vl2 : St → Rz) (Rf7vj23 : St → Rz) : ∀ v,aexec VG357v (Af7v F) (bp Try.f7 524242) (ef7vj20 v) (kSeq (kc VG357v Rf7vj22 sp37) (kSeq (kc VG357v Rf7vl2 sp37) (kBlock 2 (kSeq (kc VG357v Rf7vj23 sp52) (kFin VG357v none (Try.f7).results.toList))))) = f7v_32 F (Rf7vj22 ∘ ef7vj22) (Rf7vl2 ∘ ef7vl2) (Rf7vj23 ∘ ef7vj23) v := fun v =>
  (block_in  (by kernel_rfl) _ _).trans (f7v_31_eq F Rf7vj22 Rf7vl2 Rf7vj23 v)
def f7v_33 (F : Nat) (kf7vl2 : Ty73 → Rz) (kf7vj23 : Ty74 → Rz) : Ty73 → Rz := fun (t0,t2,t3,t9,t14,t16,t19) => (kf7vl2 (t0,t2,t3,t9,t14,t16,(IntKind.i64.wrap (t19 + (1 : Int)))))
theorem f7v_33_eq (F : Nat) (Rf7vl2 : St → Rz) (Rf7vj23 : St → Rz) : ∀ v,aexec VG357v (Af7v F) (bp Try.f7 524243) (ef7vj22 v) (kSeq (kc VG357v Rf7vl2 sp37) (kBlock 2 (kSeq (kc VG357v Rf7vj23 sp52) (kFin VG357v none (Try.f7).results.toList)))) = f7v_33 F (Rf7vl2 ∘ ef7vl2) (Rf7vj23 ∘ ef7vj23) v := by
  rintro ⟨t0,t2,t3,t9,t14,t16,t19⟩; kernel_rfl
def f7v_34 (F : Nat) (kf7vl2 : Ty73 → Rz) (kf7vj23 : Ty74 → Rz) : Ty73 → Rz := fun v => f7v_32 F (f7v_33 F kf7vl2 kf7vj23) kf7vl2 kf7vj23 v
theorem f7v_34_eq (F : Nat) (Rf7vl2 : St → Rz) (Rf7vj23 : St → Rz) : ∀ v,aexec VG357v (Af7v F) (bp Try.f7 262121) (ef7vj20 v) (kSeq (kc VG357v Rf7vl2 sp37) (kBlock 2 (kSeq (kc VG357v Rf7vj23 sp52) (kFin VG357v none (Try.f7).results.toList)))) = f7v_34 F (Rf7vl2 ∘ ef7vl2) (Rf7vj23 ∘ ef7vj23) v :=
  seq_cut (by kernel_rfl) (by kernel_rfl) ef7vj20 ef7vj22 _ (fun k => f7v_32 F k (Rf7vl2 ∘ ef7vl2) (Rf7vj23 ∘ ef7vj23)) (f7v_33 F (Rf7vl2 ∘ ef7vl2) (Rf7vj23 ∘ ef7vj23))
    (fun Rf7vj22 => f7v_32_eq F Rf7vj22 Rf7vl2 Rf7vj23) (f7v_33_eq F Rf7vl2 Rf7vj23)
def f7v_35 (F : Nat) (kf7vl2 : Ty73 → Rz) (kf7vj23 : Ty74 → Rz) : Ty73 → Rz := fun v => f7v_28 F (f7v_34 F kf7vl2 kf7vj23) kf7vl2 kf7vj23 v
theorem f7v_35_eq (F : Nat) (Rf7vl2 : St → Rz) (Rf7vj23 : St → Rz) : ∀ v,aexec VG357v (Af7v F) (bp Try.f7 131060) (ef7vl2 v) (kSeq (kc VG357v Rf7vl2 sp37) (kBlock 2 (kSeq (kc VG357v Rf7vj23 sp52) (kFin VG357v none (Try.f7).results.toList)))) = f7v_35 F (Rf7vl2 ∘ ef7vl2) (Rf7vj23 ∘ ef7vj23) v :=
  seq_cut (by kernel_rfl) (by kernel_rfl) ef7vl2 ef7vj20 _ (fun k => f7v_28 F k (Rf7vl2 ∘ ef7vl2) (Rf7vj23 ∘ ef7vj23)) (f7v_34 F (Rf7vl2 ∘ ef7vl2) (Rf7vj23 ∘ ef7vj23))
    (fun Rf7vj20 => f7v_28_eq F Rf7vj20 Rf7vl2 Rf7vj23) (f7v_34_eq F Rf7vl2 Rf7vj23)
def f7v_36_i : Ty73 → Int × Int × Int × Bool × (List (List Int)) × (List (List Int)) × Int := fun (t0,t2,t3,t9,t14,t16,t19) => (t0,t2,t3,t9,t14,t16,t19)
def f7v_36 (F : Nat) (kf7vj23 : Ty74 → Rz) : Ty73 → Rz := fun v => loopN (fun k => f7v_35 F k kf7vj23) F (f7v_36_i v)
theorem f7v_36_eq (F : Nat) (Rf7vj23 : St → Rz) : ∀ v,aexec VG357v (Af7v F) (bp Try.f7 65530) (ef7vj19 v) (kBlock 2 (kSeq (kc VG357v Rf7vj23 sp52) (kFin VG357v none (Try.f7).results.toList))) = f7v_36 F (Rf7vj23 ∘ ef7vj23) v :=
  loop_cut (by kernel_rfl) (by kernel_rfl) ef7vj19 ef7vl2 _ f7v_36_i (fun k => f7v_35 F k (Rf7vj23 ∘ ef7vj23))
    (by rintro ⟨t0,t2,t3,t9,t14,t16,t19⟩; kernel_rfl) (fun Rf7vl2 => f7v_35_eq F Rf7vl2 Rf7vj23)
def f7v_37 (F : Nat) (kf7vj23 : Ty74 → Rz) : Ty73 → Rz := f7v_36 F kf7vj23
theorem f7v_37_eq (F : Nat) (Rf7vj23 : St → Rz) : ∀ v,aexec VG357v (Af7v F) (bp Try.f7 32765) (ef7vj19 v) (kSeq (kc VG357v Rf7vj23 sp52) (kFin VG357v none (Try.f7).results.toList)) = f7v_37 F (Rf7vj23 ∘ ef7vj23) v := fun v =>
  (block_in  (by kernel_rfl) _ _).trans (f7v_36_eq F Rf7vj23 v)
def f7v_38 (F : Nat) (kf7vj23 : Ty74 → Rz) : Ty72 → Rz := fun v => f7v_27 F (f7v_37 F kf7vj23) kf7vj23 v
theorem f7v_38_eq (F : Nat) (Rf7vj23 : St → Rz) : ∀ v,aexec VG357v (Af7v F) (bp Try.f7 16382) (ef7vj18 v) (kSeq (kc VG357v Rf7vj23 sp52) (kFin VG357v none (Try.f7).results.toList)) = f7v_38 F (Rf7vj23 ∘ ef7vj23) v :=
  seq_cut (by kernel_rfl) (by kernel_rfl) ef7vj18 ef7vj19 _ (fun k => f7v_27 F k (Rf7vj23 ∘ ef7vj23)) (f7v_37 F (Rf7vj23 ∘ ef7vj23))
    (fun Rf7vj19 => f7v_27_eq F Rf7vj19 Rf7vj23) (f7v_37_eq F Rf7vj23)
def f7v_39 (F : Nat) (kf7vj24 : Ty75 → Rz) (kf7vj29 : Bool → Rz) : Ty74 → Rz := fun (t2,t3,t9,t14,t16) => (kf7vj24 (t2,t3,t9,t14,t16,(0 : Int)))
theorem f7v_39_eq (F : Nat) (Rf7vj24 : St → Rz) (Rf7vj29 : St → Rz) : ∀ v,aexec VG357v (Af7v F) (bp Try.f7 65532) (ef7vj23 v) (kSeq (kc VG357v Rf7vj24 sp38) (kSeq (kc VG357v Rf7vj29 [(9,.plain)]) (kFin VG357v none (Try.f7).results.toList))) = f7v_39 F (Rf7vj24 ∘ ef7vj24) (Rf7vj29 ∘ ef7vj29) v := by
  rintro ⟨t2,t3,t9,t14,t16⟩; kernel_rfl
def f7v_40 (F : Nat) (kf7vj25 : Ty75 → Rz) (kf7vl3 : Ty75 → Rz) (kf7vj29 : Bool → Rz) : Ty75 → Rz := fun (t2,t3,t9,t14,t16,t20) => (cond (decide (t20 < (64 : Int))) (kf7vj25 (t2,t3,t9,t14,t16,t20)) (kf7vj29 t9))
theorem f7v_40_eq (F : Nat) (Rf7vj25 : St → Rz) (Rf7vl3 : St → Rz) (Rf7vj29 : St → Rz) : ∀ v,aexec VG357v (Af7v F) (bp Try.f7 524264) (ef7vl3 v) (kSeq (kc VG357v Rf7vj25 sp38) (kSeq (kc VG357v Rf7vl3 sp38) (kBlock 4 (kSeq (kc VG357v Rf7vj29 [(9,.plain)]) (kFin VG357v none (Try.f7).results.toList))))) = f7v_40 F (Rf7vj25 ∘ ef7vj25) (Rf7vl3 ∘ ef7vl3) (Rf7vj29 ∘ ef7vj29) v := by
  rintro ⟨t2,t3,t9,t14,t16,t20⟩; kernel_rfl
def f7v_41 (F : Nat) (kf7vj26 : Ty76 → Rz) (kf7vj28 : Ty75 → Rz) (kf7vl3 : Ty75 → Rz) (kf7vj29 : Bool → Rz) : Ty75 → Rz := fun (t2,t3,t9,t14,t16,t20) => (cond ((decide (0 ≤ t2)) && (decide (t2 < (↑t14.length : Int)))) (cond ((decide (0 ≤ t20)) && (decide (t20 < (↑(t14.getD (Int.toNat t2) []).length : Int)))) (cond ((decide (0 ≤ t2)) && (decide (t2 < (↑t16.length : Int)))) (cond ((decide (0 ≤ t20)) && (decide (t20 < (↑(t16.getD (Int.toNat t2) []).length : Int)))) (kf7vj26 (t2,t3,t9,t14,t16,t20,(ibits .xor .i64 (IntKind.i64.wrap ((t14.getD (Int.toNat t2) []).getD (Int.toNat t20) 0)) (IntKind.i64.wrap ((t16.getD (Int.toNat t2) []).getD (Int.toNat t20) 0))))) none) none) none) none)
theorem f7v_41_eq (F : Nat) (Rf7vj26 : St → Rz) (Rf7vj28 : St → Rz) (Rf7vl3 : St → Rz) (Rf7vj29 : St → Rz) : ∀ v,aexec VG357v (Af7v F) (bp Try.f7 4194120) (ef7vj25 v) (kSeq (kc VG357v Rf7vj26 sp53) (kBlock 5 (kSeq (kc VG357v Rf7vj28 sp38) (kSeq (kc VG357v Rf7vl3 sp38) (kBlock 4 (kSeq (kc VG357v Rf7vj29 [(9,.plain)]) (kFin VG357v none (Try.f7).results.toList))))))) = f7v_41 F (Rf7vj26 ∘ ef7vj26) (Rf7vj28 ∘ ef7vj28) (Rf7vl3 ∘ ef7vl3) (Rf7vj29 ∘ ef7vj29) v := by
  rintro ⟨t2,t3,t9,t14,t16,t20⟩; kernel_rfl
def f7v_42 (F : Nat) (kf7vj27 : Ty77 → Rz) (kf7vj28 : Ty75 → Rz) (kf7vl3 : Ty75 → Rz) (kf7vj29 : Bool → Rz) : Ty76 → Rz := fun (t2,t3,t9,t14,t16,t20,t21) => (cond (t20 == (IntKind.i64.wrap (Int.tdiv t3 (8 : Int)))) (cond (decide (0 ≤ (Int.tmod t3 (8 : Int)))) (cond (t21 != (IntKind.i64.wrap ((1 : Int) * 2 ^ (min (Int.toNat (Int.tmod t3 (8 : Int))) 64)))) (kf7vj27 (t2,t3,t9,t14,t16,t20,true)) (cond (t20 != (IntKind.i64.wrap (Int.tdiv t3 (8 : Int)))) (kf7vj27 (t2,t3,t9,t14,t16,t20,(t21 != (0 : Int)))) (kf7vj27 (t2,t3,t9,t14,t16,t20,false)))) none) (cond (t20 != (IntKind.i64.wrap (Int.tdiv t3 (8 : Int)))) (kf7vj27 (t2,t3,t9,t14,t16,t20,(t21 != (0 : Int)))) (kf7vj27 (t2,t3,t9,t14,t16,t20,false))))
theorem f7v_42_eq (F : Nat) (Rf7vj27 : St → Rz) (Rf7vj28 : St → Rz) (Rf7vl3 : St → Rz) (Rf7vj29 : St → Rz) : ∀ v,aexec VG357v (Af7v F) (bp Try.f7 8388242) (ef7vj26 v) (kSeq (kc VG357v Rf7vj27 sp54) (kBlock 5 (kSeq (kc VG357v Rf7vj28 sp38) (kSeq (kc VG357v Rf7vl3 sp38) (kBlock 4 (kSeq (kc VG357v Rf7vj29 [(9,.plain)]) (kFin VG357v none (Try.f7).results.toList))))))) = f7v_42 F (Rf7vj27 ∘ ef7vj27) (Rf7vj28 ∘ ef7vj28) (Rf7vl3 ∘ ef7vl3) (Rf7vj29 ∘ ef7vj29) v := by
  rintro ⟨t2,t3,t9,t14,t16,t20,t21⟩; kernel_rfl
def f7v_43 (F : Nat) (kf7vj28 : Ty75 → Rz) (kf7vl3 : Ty75 → Rz) (kf7vj29 : Bool → Rz) : Ty77 → Rz := fun (t2,t3,t9,t14,t16,t20,t208) => (cond t208 (some ((.bool false),[])) (kf7vj28 (t2,t3,t9,t14,t16,t20)))
theorem f7v_43_eq (F : Nat) (Rf7vj28 : St → Rz) (Rf7vl3 : St → Rz) (Rf7vj29 : St → Rz) : ∀ v,aexec VG357v (Af7v F) (bp Try.f7 8388243) (ef7vj27 v) (kBlock 5 (kSeq (kc VG357v Rf7vj28 sp38) (kSeq (kc VG357v Rf7vl3 sp38) (kBlock 4 (kSeq (kc VG357v Rf7vj29 [(9,.plain)]) (kFin VG357v none (Try.f7).results.toList)))))) = f7v_43 F (Rf7vj28 ∘ ef7vj28) (Rf7vl3 ∘ ef7vl3) (Rf7vj29 ∘ ef7vj29) v := by
  rintro ⟨t2,t3,t9,t14,t16,t20,t208⟩; kernel_rfl
def f7v_44 (F : Nat) (kf7vj28 : Ty75 → Rz) (kf7vl3 : Ty75 → Rz) (kf7vj29 : Bool → Rz) : Ty76 → Rz := fun v => f7v_42 F (f7v_43 F kf7vj28 kf7vl3 kf7vj29) kf7vj28 kf7vl3 kf7vj29 v
theorem f7v_44_eq (F : Nat) (Rf7vj28 : St → Rz) (Rf7vl3 : St → Rz) (Rf7vj29 : St → Rz) : ∀ v,aexec VG357v (Af7v F) (bp Try.f7 4194121) (ef7vj26 v) (kBlock 5 (kSeq (kc VG357v Rf7vj28 sp38) (kSeq (kc VG357v Rf7vl3 sp38) (kBlock 4 (kSeq (kc VG357v Rf7vj29 [(9,.plain)]) (kFin VG357v none (Try.f7).results.toList)))))) = f7v_44 F (Rf7vj28 ∘ ef7vj28) (Rf7vl3 ∘ ef7vl3) (Rf7vj29 ∘ ef7vj29) v :=
  seq_cut (by kernel_rfl) (by kernel_rfl) ef7vj26 ef7vj27 _ (fun k => f7v_42 F k (Rf7vj28 ∘ ef7vj28) (Rf7vl3 ∘ ef7vl3) (Rf7vj29 ∘ ef7vj29)) (f7v_43 F (Rf7vj28 ∘ ef7vj28) (Rf7vl3 ∘ ef7vl3) (Rf7vj29 ∘ ef7vj29))
    (fun Rf7vj27 => f7v_42_eq F Rf7vj27 Rf7vj28 Rf7vl3 Rf7vj29) (f7v_43_eq F Rf7vj28 Rf7vl3 Rf7vj29)
def f7v_45 (F : Nat) (kf7vj28 : Ty75 → Rz) (kf7vl3 : Ty75 → Rz) (kf7vj29 : Bool → Rz) : Ty75 → Rz := fun v => f7v_41 F (f7v_44 F kf7vj28 kf7vl3 kf7vj29) kf7vj28 kf7vl3 kf7vj29 v
theorem f7v_45_eq (F : Nat) (Rf7vj28 : St → Rz) (Rf7vl3 : St → Rz) (Rf7vj29 : St → Rz) : ∀ v,aexec VG357v (Af7v F) (bp Try.f7 2097060) (ef7vj25 v) (kBlock 5 (kSeq (kc VG357v Rf7vj28 sp38) (kSeq (kc VG357v Rf7vl3 sp38) (kBlock 4 (kSeq (kc VG357v Rf7vj29 [(9,.plain)]) (kFin VG357v none (Try.f7).results.toList)))))) = f7v_45 F (Rf7vj28 ∘ ef7vj28) (Rf7vl3 ∘ ef7vl3) (Rf7vj29 ∘ ef7vj29) v :=
  seq_cut (by kernel_rfl) (by kernel_rfl) ef7vj25 ef7vj26 _ (fun k => f7v_41 F k (Rf7vj28 ∘ ef7vj28) (Rf7vl3 ∘ ef7vl3) (Rf7vj29 ∘ ef7vj29)) (f7v_44 F (Rf7vj28 ∘ ef7vj28) (Rf7vl3 ∘ ef7vl3) (Rf7vj29 ∘ ef7vj29))
    (fun Rf7vj26 => f7v_41_eq F Rf7vj26 Rf7vj28 Rf7vl3 Rf7vj29) (f7v_44_eq F Rf7vj28 Rf7vl3 Rf7vj29)
def f7v_46 (F : Nat) (kf7vj28 : Ty75 → Rz) (kf7vl3 : Ty75 → Rz) (kf7vj29 : Bool → Rz) : Ty75 → Rz := f7v_45 F kf7vj28 kf7vl3 kf7vj29
theorem f7v_46_eq (F : Nat) (Rf7vj28 : St → Rz) (Rf7vl3 : St → Rz) (Rf7vj29 : St → Rz) : ∀ v,aexec VG357v (Af7v F) (bp Try.f7 1048530) (ef7vj25 v) (kSeq (kc VG357v Rf7vj28 sp38) (kSeq (kc VG357v Rf7vl3 sp38) (kBlock 4 (kSeq (kc VG357v Rf7vj29 [(9,.plain)]) (kFin VG357v none (Try.f7).results.toList))))) = f7v_46 F (Rf7vj28 ∘ ef7vj28) (Rf7vl3 ∘ ef7vl3) (Rf7vj29 ∘ ef7vj29) v := fun v =>
  (block_in  (by kernel_rfl) _ _).trans (f7v_45_eq F Rf7vj28 Rf7vl3 Rf7vj29 v)
def f7v_47 (F : Nat) (kf7vl3 : Ty75 → Rz) (kf7vj29 : Bool → Rz) : Ty75 → Rz := fun (t2,t3,t9,t14,t16,t20) => (kf7vl3 (t2,t3,t9,t14,t16,(IntKind.i64.wrap (t20 + (1 : Int)))))
theorem f7v_47_eq (F : Nat) (Rf7vl3 : St → Rz) (Rf7vj29 : St → Rz) : ∀ v,aexec VG357v (Af7v F) (bp Try.f7 1048531) (ef7vj28 v) (kSeq (kc VG357v Rf7vl3 sp38) (kBlock 4 (kSeq (kc VG357v Rf7vj29 [(9,.plain)]) (kFin VG357v none (Try.f7).results.toList)))) = f7v_47 F (Rf7vl3 ∘ ef7vl3) (Rf7vj29 ∘ ef7vj29) v := by
  rintro ⟨t2,t3,t9,t14,t16,t20⟩; kernel_rfl
def f7v_48 (F : Nat) (kf7vl3 : Ty75 → Rz) (kf7vj29 : Bool → Rz) : Ty75 → Rz := fun v => f7v_46 F (f7v_47 F kf7vl3 kf7vj29) kf7vl3 kf7vj29 v
theorem f7v_48_eq (F : Nat) (Rf7vl3 : St → Rz) (Rf7vj29 : St → Rz) : ∀ v,aexec VG357v (Af7v F) (bp Try.f7 524265) (ef7vj25 v) (kSeq (kc VG357v Rf7vl3 sp38) (kBlock 4 (kSeq (kc VG357v Rf7vj29 [(9,.plain)]) (kFin VG357v none (Try.f7).results.toList)))) = f7v_48 F (Rf7vl3 ∘ ef7vl3) (Rf7vj29 ∘ ef7vj29) v :=
  seq_cut (by kernel_rfl) (by kernel_rfl) ef7vj25 ef7vj28 _ (fun k => f7v_46 F k (Rf7vl3 ∘ ef7vl3) (Rf7vj29 ∘ ef7vj29)) (f7v_47 F (Rf7vl3 ∘ ef7vl3) (Rf7vj29 ∘ ef7vj29))
    (fun Rf7vj28 => f7v_46_eq F Rf7vj28 Rf7vl3 Rf7vj29) (f7v_47_eq F Rf7vl3 Rf7vj29)
def f7v_49 (F : Nat) (kf7vl3 : Ty75 → Rz) (kf7vj29 : Bool → Rz) : Ty75 → Rz := fun v => f7v_40 F (f7v_48 F kf7vl3 kf7vj29) kf7vl3 kf7vj29 v
theorem f7v_49_eq (F : Nat) (Rf7vl3 : St → Rz) (Rf7vj29 : St → Rz) : ∀ v,aexec VG357v (Af7v F) (bp Try.f7 262132) (ef7vl3 v) (kSeq (kc VG357v Rf7vl3 sp38) (kBlock 4 (kSeq (kc VG357v Rf7vj29 [(9,.plain)]) (kFin VG357v none (Try.f7).results.toList)))) = f7v_49 F (Rf7vl3 ∘ ef7vl3) (Rf7vj29 ∘ ef7vj29) v :=
  seq_cut (by kernel_rfl) (by kernel_rfl) ef7vl3 ef7vj25 _ (fun k => f7v_40 F k (Rf7vl3 ∘ ef7vl3) (Rf7vj29 ∘ ef7vj29)) (f7v_48 F (Rf7vl3 ∘ ef7vl3) (Rf7vj29 ∘ ef7vj29))
    (fun Rf7vj25 => f7v_40_eq F Rf7vj25 Rf7vl3 Rf7vj29) (f7v_48_eq F Rf7vl3 Rf7vj29)
def f7v_50_i : Ty75 → Int × Int × Bool × (List (List Int)) × (List (List Int)) × Int := fun (t2,t3,t9,t14,t16,t20) => (t2,t3,t9,t14,t16,t20)
def f7v_50 (F : Nat) (kf7vj29 : Bool → Rz) : Ty75 → Rz := fun v => loopN (fun k => f7v_49 F k kf7vj29) F (f7v_50_i v)
theorem f7v_50_eq (F : Nat) (Rf7vj29 : St → Rz) : ∀ v,aexec VG357v (Af7v F) (bp Try.f7 131066) (ef7vj24 v) (kBlock 4 (kSeq (kc VG357v Rf7vj29 [(9,.plain)]) (kFin VG357v none (Try.f7).results.toList))) = f7v_50 F (Rf7vj29 ∘ ef7vj29) v :=
  loop_cut (by kernel_rfl) (by kernel_rfl) ef7vj24 ef7vl3 _ f7v_50_i (fun k => f7v_49 F k (Rf7vj29 ∘ ef7vj29))
    (by rintro ⟨t2,t3,t9,t14,t16,t20⟩; kernel_rfl) (fun Rf7vl3 => f7v_49_eq F Rf7vl3 Rf7vj29)
def f7v_51 (F : Nat) (kf7vj29 : Bool → Rz) : Ty75 → Rz := f7v_50 F kf7vj29
theorem f7v_51_eq (F : Nat) (Rf7vj29 : St → Rz) : ∀ v,aexec VG357v (Af7v F) (bp Try.f7 65533) (ef7vj24 v) (kSeq (kc VG357v Rf7vj29 [(9,.plain)]) (kFin VG357v none (Try.f7).results.toList)) = f7v_51 F (Rf7vj29 ∘ ef7vj29) v := fun v =>
  (block_in  (by kernel_rfl) _ _).trans (f7v_50_eq F Rf7vj29 v)
def f7v_52 (F : Nat) (kf7vj29 : Bool → Rz) : Ty74 → Rz := fun v => f7v_39 F (f7v_51 F kf7vj29) kf7vj29 v
theorem f7v_52_eq (F : Nat) (Rf7vj29 : St → Rz) : ∀ v,aexec VG357v (Af7v F) (bp Try.f7 32766) (ef7vj23 v) (kSeq (kc VG357v Rf7vj29 [(9,.plain)]) (kFin VG357v none (Try.f7).results.toList)) = f7v_52 F (Rf7vj29 ∘ ef7vj29) v :=
  seq_cut (by kernel_rfl) (by kernel_rfl) ef7vj23 ef7vj24 _ (fun k => f7v_39 F k (Rf7vj29 ∘ ef7vj29)) (f7v_51 F (Rf7vj29 ∘ ef7vj29))
    (fun Rf7vj24 => f7v_39_eq F Rf7vj24 Rf7vj29) (f7v_51_eq F Rf7vj29)
def f7v_53 (F : Nat) : Bool → Rz := fun t9 => (some ((.bool t9),[]))
theorem f7v_53_eq (F : Nat) : ∀ v,aexec VG357v (Af7v F) (bp Try.f7 32767) (ef7vj29 v) (kFin VG357v none (Try.f7).results.toList) = f7v_53 F v := by
  intro t9; kernel_rfl
def f7v_54 (F : Nat) : Ty74 → Rz := fun v => f7v_52 F (f7v_53 F) v
theorem f7v_54_eq (F : Nat) : ∀ v,aexec VG357v (Af7v F) (bp Try.f7 16383) (ef7vj23 v) (kFin VG357v none (Try.f7).results.toList) = f7v_54 F v :=
  seq_cut (by kernel_rfl) (by kernel_rfl) ef7vj23 ef7vj29 _ (fun k => f7v_52 F k) (f7v_53 F)
    (fun Rf7vj29 => f7v_52_eq F Rf7vj29) (f7v_53_eq F)
def f7v_55 (F : Nat) : Ty72 → Rz := fun v => f7v_38 F (f7v_54 F) v
theorem f7v_55_eq (F : Nat) : ∀ v,aexec VG357v (Af7v F) (bp Try.f7 8191) (ef7vj18 v) (kFin VG357v none (Try.f7).results.toList) = f7v_55 F v :=
  seq_cut (by kernel_rfl) (by kernel_rfl) ef7vj18 ef7vj23 _ (fun k => f7v_38 F k) (f7v_54 F)
    (fun Rf7vj23 => f7v_38_eq F Rf7vj23) (f7v_54_eq F)
def f7v_56 (F : Nat) : Ty70 → Rz := fun v => f7v_26 F (f7v_55 F) v
theorem f7v_56_eq (F : Nat) : ∀ v,aexec VG357v (Af7v F) (bp Try.f7 4095) (ef7vj16 v) (kFin VG357v none (Try.f7).results.toList) = f7v_56 F v :=
  seq_cut (by kernel_rfl) (by kernel_rfl) ef7vj16 ef7vj18 _ (fun k => f7v_26 F k) (f7v_55 F)
    (fun Rf7vj18 => f7v_26_eq F Rf7vj18) (f7v_55_eq F)
def f7v_57 (F : Nat) : Ty68 → Rz := fun v => f7v_23 F (f7v_56 F) v
theorem f7v_57_eq (F : Nat) : ∀ v,aexec VG357v (Af7v F) (bp Try.f7 2047) (ef7vj14 v) (kFin VG357v none (Try.f7).results.toList) = f7v_57 F v :=
  seq_cut (by kernel_rfl) (by kernel_rfl) ef7vj14 ef7vj16 _ (fun k => f7v_23 F k) (f7v_56 F)
    (fun Rf7vj16 => f7v_23_eq F Rf7vj16) (f7v_56_eq F)
def f7v_58 (F : Nat) : Ty67 → Rz := fun v => f7v_20 F (f7v_57 F) v
theorem f7v_58_eq (F : Nat) : ∀ v,aexec VG357v (Af7v F) (bp Try.f7 1023) (ef7vj13 v) (kFin VG357v none (Try.f7).results.toList) = f7v_58 F v :=
  seq_cut (by kernel_rfl) (by kernel_rfl) ef7vj13 ef7vj14 _ (fun k => f7v_20 F k) (f7v_57 F)
    (fun Rf7vj14 => f7v_20_eq F Rf7vj14) (f7v_57_eq F)
def f7v_59 (F : Nat) : Ty66 → Rz := fun v => f7v_19 F (f7v_58 F) v
theorem f7v_59_eq (F : Nat) : ∀ v,aexec VG357v (Af7v F) (bp Try.f7 511) (ef7vj12 v) (kFin VG357v none (Try.f7).results.toList) = f7v_59 F v :=
  seq_cut (by kernel_rfl) (by kernel_rfl) ef7vj12 ef7vj13 _ (fun k => f7v_19 F k) (f7v_58 F)
    (fun Rf7vj13 => f7v_19_eq F Rf7vj13) (f7v_58_eq F)
def f7v_60 (F : Nat) : Ty65 → Rz := fun v => f7v_18 F (f7v_59 F) v
theorem f7v_60_eq (F : Nat) : ∀ v,aexec VG357v (Af7v F) (bp Try.f7 255) (ef7vj11 v) (kFin VG357v none (Try.f7).results.toList) = f7v_60 F v :=
  seq_cut (by kernel_rfl) (by kernel_rfl) ef7vj11 ef7vj12 _ (fun k => f7v_18 F k) (f7v_59 F)
    (fun Rf7vj12 => f7v_18_eq F Rf7vj12) (f7v_59_eq F)
def f7v_61 (F : Nat) : Ty64 → Rz := fun v => f7v_17 F (f7v_60 F) v
theorem f7v_61_eq (F : Nat) : ∀ v,aexec VG357v (Af7v F) (bp Try.f7 127) (ef7vj10 v) (kFin VG357v none (Try.f7).results.toList) = f7v_61 F v :=
  seq_cut (by kernel_rfl) (by kernel_rfl) ef7vj10 ef7vj11 _ (fun k => f7v_17 F k) (f7v_60 F)
    (fun Rf7vj11 => f7v_17_eq F Rf7vj11) (f7v_60_eq F)
def f7v_62 (F : Nat) : Ty63 → Rz := fun v => f7v_16 F (f7v_61 F) v
theorem f7v_62_eq (F : Nat) : ∀ v,aexec VG357v (Af7v F) (bp Try.f7 63) (ef7vj9 v) (kFin VG357v none (Try.f7).results.toList) = f7v_62 F v :=
  seq_cut (by kernel_rfl) (by kernel_rfl) ef7vj9 ef7vj10 _ (fun k => f7v_16 F k) (f7v_61 F)
    (fun Rf7vj10 => f7v_16_eq F Rf7vj10) (f7v_61_eq F)
def f7v_63 (F : Nat) : Ty61 → Rz := fun v => f7v_15 F (f7v_62 F) v
theorem f7v_63_eq (F : Nat) : ∀ v,aexec VG357v (Af7v F) (bp Try.f7 31) (ef7vj5 v) (kFin VG357v none (Try.f7).results.toList) = f7v_63 F v :=
  seq_cut (by kernel_rfl) (by kernel_rfl) ef7vj5 ef7vj9 _ (fun k => f7v_15 F k) (f7v_62 F)
    (fun Rf7vj9 => f7v_15_eq F Rf7vj9) (f7v_62_eq F)
def f7v_64 (F : Nat) : Ty59 → Rz := fun v => f7v_6 F (f7v_63 F) v
theorem f7v_64_eq (F : Nat) : ∀ v,aexec VG357v (Af7v F) (bp Try.f7 15) (ef7vj3 v) (kFin VG357v none (Try.f7).results.toList) = f7v_64 F v :=
  seq_cut (by kernel_rfl) (by kernel_rfl) ef7vj3 ef7vj5 _ (fun k => f7v_6 F k) (f7v_63 F)
    (fun Rf7vj5 => f7v_6_eq F Rf7vj5) (f7v_63_eq F)
def f7v_65 (F : Nat) : Ty58 → Rz := fun v => f7v_3 F (f7v_64 F) v
theorem f7v_65_eq (F : Nat) : ∀ v,aexec VG357v (Af7v F) (bp Try.f7 7) (ef7vj2 v) (kFin VG357v none (Try.f7).results.toList) = f7v_65 F v :=
  seq_cut (by kernel_rfl) (by kernel_rfl) ef7vj2 ef7vj3 _ (fun k => f7v_3 F k) (f7v_64 F)
    (fun Rf7vj3 => f7v_3_eq F Rf7vj3) (f7v_64_eq F)
def f7v_66 (F : Nat) : Ty56 → Rz := fun v => f7v_2 F (f7v_65 F) v
theorem f7v_66_eq (F : Nat) : ∀ v,aexec VG357v (Af7v F) (bp Try.f7 3) (ef7vj1 v) (kFin VG357v none (Try.f7).results.toList) = f7v_66 F v :=
  seq_cut (by kernel_rfl) (by kernel_rfl) ef7vj1 ef7vj2 _ (fun k => f7v_2 F k) (f7v_65 F)
    (fun Rf7vj2 => f7v_2_eq F Rf7vj2) (f7v_65_eq F)
def f7v_67 (F : Nat) : Ty56 → Rz := fun v => f7v_1 F (f7v_66 F) v
theorem f7v_67_eq (F : Nat) : ∀ v,aexec VG357v (Af7v F) (sub (bodyOf Try.f7) []) (ef7v_a v) (kFin VG357v none (Try.f7).results.toList) = f7v_67 F v :=
  seq_cut (by kernel_rfl) (by kernel_rfl) ef7v_a ef7vj1 _ (fun k => f7v_1 F k) (f7v_66 F)
    (fun Rf7vj1 => f7v_1_eq F Rf7vj1) (f7v_66_eq F)
def f7v (F : Nat) : Ty56 → Rz := f7v_67 F
theorem f7v_body (F : Nat) (a0 : Int) (a1 : List (List (List Int))) (a1n : Nat) (a2 : Int) (a3 : Int) : abody VG357v (Af7v F) Try.f7 [(.int .i64 a0),(.vs (.rT [.int .i64,.int .i64,.int .i64,.str,.sl .i64] a1) a1n 5),(.int .i64 a2),(.int .i64 a3)] [] = f7v F (a0,a1,a1n,a2,a3) :=
  (abody_in (c := (sub (bodyOf Try.f7) [])) (by kernel_rfl) (s := ef7v_a (a0,a1,a1n,a2,a3)) (by kernel_rfl)).trans (f7v_67_eq F (a0,a1,a1n,a2,a3))
def r7v : CRun := fun X H => match X,H with
  | [(.int .i64 a0),(.vs (.rT [.int .i64,.int .i64,.int .i64,.str,.sl .i64] a1) a1n 5),(.int .i64 a2),(.int .i64 a3)],[] => some ((decide (0 < a0)) && (decide (a0 < 65)),(.bool true),[])
  | _,_ => none
theorem s7v (a0 : Int) (a1 : List (List (List Int))) (a1n : Nat) (a2 : Int) (a3 : Int) (hp : ((decide (0 < a0)) && (decide (a0 < 65))) = true) (h0 : okV (.int .i64 a0)) (h1 : okV (.vs (.rT [.int .i64,.int .i64,.int .i64,.str,.sl .i64] a1) a1n 5)) (h2 : okV (.int .i64 a2)) (h3 : okV (.int .i64 a3)) : ∃ F,f7v F (a0,a1,a1n,a2,a3) = some ((.bool true),[]) := by
  have e := hp
  rw [dec_and,decide_eq_true_iff] at hp
  obtain ⟨hlen,hint⟩ := Dk.op_int h1
  have hby := Dk.op_bytes h1
  obtain ⟨n,rfl⟩ : ∃ n : Nat,a0 = (n : Int) := ⟨a0.toNat,by omega⟩
  refine ⟨a1n + 65,?_⟩
  simp only [f7v,f7v_1,f7v_2,f7v_3,f7v_4,f7v_5,f7v_6,f7v_7,f7v_14,f7v_15,f7v_16,f7v_17,f7v_18,f7v_19,f7v_20,f7v_21,f7v_22,f7v_23,f7v_24,f7v_25,f7v_26,f7v_27,f7v_37,f7v_38,f7v_39,f7v_51,f7v_52,f7v_53,f7v_54,f7v_55,f7v_56,f7v_57,f7v_58,f7v_59,f7v_60,f7v_61,f7v_62,f7v_63,f7v_64,f7v_65,f7v_66,f7v_67,e,cond_true,Bool.not_true,cond_false]
  by_cases hn : (a1n : Int) > 60
  · have e1 : decide ((a1n : Int) > 60) = true := by rw [decide_eq_true_iff]; exact hn
    rw [e1,cond_true]
  have e1 : decide ((a1n : Int) > 60) = false := by rw [decide_eq_false_iff_not]; exact hn
  rw [e1,cond_false]
  have hrel := Dk.new_rel hp.1 (show (n : Int) < 8000 by omega)
  have h0 : 0 < (Dk.new (n : Int)).n := by show 0 < (n : Int).toNat; omega
  obtain ⟨hR,hN⟩ := hrel.run h0 hint a1n (Nat.le_refl _)
  have hB := (Dk.new_bytes (n : Int)).run hby a1n (Nat.le_refl _)
  have hDn : (Dk.dAt a1 a1n (Dk.new (n : Int))).n = n := (Dk.dAt_n _ _ _).trans (Int.toNat_natCast n)
  refine loopN_from (fun k => ((n : Int),a1,a1n,a2,a3,true,(k : Int),Dk.dAt a1 k (Dk.new (n : Int)))) a1n (by rfl) (fun k hk K => ?_) (fun K => ?_) (a1n + 65) (by omega)
  · obtain ⟨q1,q2⟩ := hrel.run h0 hint k (by omega)
    have hf := q1.fine
    have e2 : (decide (0 ≤ (k : Int)) && decide ((k : Int) < (a1n : Int))) = true := by rw [dec_and,decide_eq_true_iff]; omega
    simp only [f7v_8,f7v_9,f7v_10,f7v_11,f7v_12,f7v_13_i,f7v_13,Int.toNat_natCast,e2,cond_true]
    rw [cond_pos (show (k : Int) < (a1n : Int) by omega),hf]
    simp only [cond_true,i64w (show -9223372036854775808 ≤ (k : Int) + 1 by omega) (show (k : Int) + 1 ≤ 9223372036854775807 by omega)]
    rfl
  simp only [f7v_8,f7v_9,f7v_10,f7v_11,f7v_12,f7v_13_i,f7v_13]
  rw [cond_neg (by omega)]
  simp only [f7v,f7v_1,f7v_2,f7v_3,f7v_4,f7v_5,f7v_6,f7v_7,f7v_14,f7v_15,f7v_16,f7v_17,f7v_18,f7v_19,f7v_20,f7v_21,f7v_22,f7v_23,f7v_24,f7v_25,f7v_26,f7v_27,f7v_37,f7v_38,f7v_39,f7v_51,f7v_52,f7v_53,f7v_54,f7v_55,f7v_56,f7v_57,f7v_58,f7v_59,f7v_60,f7v_61,f7v_62,f7v_63,f7v_64,f7v_65,f7v_66,f7v_67]
  revert hR hN hDn hB
  generalize Dk.dAt a1 a1n (Dk.new (n : Int)) = d
  generalize Dk.rAt a1 a1n (Dk.rnew (n : Int)) = r
  intro hR hN hB hDn
  have s1 := hR.small
  have s2 := hR.len
  have hr1 := (hR.rot a2 a3).2
  have hr2 := (hr1.rot a2 a3).2
  have s3 := hr1.small
  have s4 := hr1.len
  have s5 := hr2.small
  have s6 := hr2.len
  have b1 : decide (d.blk.length = d.n * 64 ∧ d.n < 8000) = true := by rw [decide_eq_true_iff]; exact ⟨s2,s1⟩
  have b2 : decide ((Dk.rot d a2 a3).1.blk.length = (Dk.rot d a2 a3).1.n * 64 ∧ (Dk.rot d a2 a3).1.n < 8000) = true := by rw [decide_eq_true_iff]; exact ⟨s4,s3⟩
  have b3 : decide ((Dk.rot (Dk.rot d a2 a3).1 a2 a3).1.blk.length = (Dk.rot (Dk.rot d a2 a3).1 a2 a3).1.n * 64 ∧ (Dk.rot (Dk.rot d a2 a3).1 a2 a3).1.n < 8000) = true := by rw [decide_eq_true_iff]; exact ⟨s6,s5⟩
  have b4 : decide ((Dk.image d).length < 1073741824) = true := by rw [decide_eq_true_iff,Dk.image_len]; omega
  simp only [b1,b2,b3,b4,cond_true]
  by_cases hz : (Dk.rot d a2 a3).2 = 0
  · obtain ⟨g1,g2,g3,g4⟩ := Dk.rot_good hz
    obtain ⟨q,rfl⟩ : ∃ q : Nat,a2 = (q : Int) := ⟨a2.toNat,by omega⟩
    obtain ⟨f1,f2,f3,f4,f5⟩ := Dk.rot_facts hR hB (q := q) (by omega) g3 g4
    have c1 : (((Dk.image d).length : Int) != (n : Int)) = false := by rw [Dk.image_len,hDn]; simp
    have c2 : (((Dk.image (Dk.rot d q a3).1).length : Int) != (n : Int)) = false := by rw [Dk.image_len,f4,hDn]; simp
    rw [f1,f2,f3]
    simp only [bne_self_eq_false,cond_false,c1,c2,beq_self_eq_true,Bool.not_true]
    rw [cond_neg (show ¬ (q : Int) < 0 by omega),cond_neg (show ¬ (q : Int) ≥ (n : Int) by omega),cond_neg (show ¬ a3 < 0 by omega),show decide (a3 > 511) = false by simp; omega,cond_false]
    have ha : ∀ i,i < n → (Dk.image d).getD i [] = Dk.sec d.blk i := fun i hi => Dk.image_get (by omega)
    have hb : ∀ i,i < n → (Dk.image (Dk.rot d q a3).1).getD i [] = if i = q then (Dk.sec d.blk q).set (Int.tdiv a3 8).toNat (ibits .xor .u8 ((Dk.sec d.blk q).getD (Int.tdiv a3 8).toNat 0) (Dk.bit a3)) else Dk.sec d.blk i := fun i hi => by
      rw [Dk.image_get (by omega),f5 i (by omega)]
    have la := Dk.image_len d
    have lb := Dk.image_len (Dk.rot d q a3).1
    rw [hDn] at la
    rw [f4,hDn] at lb
    have hls : ∀ i,i < n → (Dk.sec d.blk i).length = 64 := fun i hi => Dk.sec_len (by omega)
    have hbq : Dk.Bytes (Dk.sec d.blk q) := by rw [hR.text q (by omega)]; exact (hB q).1
    have e8 : Int.tdiv a3 8 = a3 / 8 := tdiv_nn g3
    have em : 0 ≤ Int.tmod a3 8 := by rw [tmod_nn g3]; omega
    have hm : (Int.tdiv a3 8).toNat < 64 := by rw [e8]; omega
    have hmi : ((Int.tdiv a3 8).toNat : Int) = Int.tdiv a3 8 := by rw [e8]; omega
    have ew : IntKind.i64.wrap (Int.tdiv a3 8) = Int.tdiv a3 8 := i64w (by omega) (by omega)
    obtain ⟨x1,x2,x3⟩ := Dk.bits_of (hbq.getD (Int.tdiv a3 8).toNat) g3
    generalize hX : ibits .xor .u8 ((Dk.sec d.blk q).getD (Int.tdiv a3 8).toNat 0) (Dk.bit a3) = X at x1 x2 x3 hb
    generalize hA : Dk.image d = A at *
    generalize hA' : Dk.image (Dk.rot d q a3).1 = A' at *
    generalize hM : (Int.tdiv a3 8).toNat = m at *
    refine loopN_from (fun k => ((n : Int),(q : Int),a3,true,A,A',(k : Int))) n (by rfl) (fun k hk K => ?_) (fun K => ?_) (a1n + 65) (by omega)
    · have e3 : (decide (0 ≤ (k : Int)) && decide ((k : Int) < (A.length : Int))) = true := by rw [dec_and,decide_eq_true_iff]; omega
      have e4 : (decide (0 ≤ (k : Int)) && decide ((k : Int) < (A'.length : Int))) = true := by rw [dec_and,decide_eq_true_iff]; omega
      simp only [f7v_28,f7v_29,f7v_30,f7v_31,f7v_32,f7v_33,f7v_34,f7v_35,f7v_36_i,f7v_36,Int.toNat_natCast,e3,e4,cond_true,ha k hk,hb k hk,i64w (show -9223372036854775808 ≤ (k : Int) + 1 by omega) (show (k : Int) + 1 ≤ 9223372036854775807 by omega)]
      rw [cond_pos (show (k : Int) < (n : Int) by omega)]
      by_cases hkq : k = q
      · subst hkq
        rw [if_pos rfl]
        have u1 : (Dk.sec d.blk k == (Dk.sec d.blk k).set m X) = false := by
          rw [beq_eq_false_iff_ne]
          intro h
          have := congrArg (fun l => l.getD m 0) h
          simp only [Dk.getD_set] at this
          rw [if_pos ⟨trivial,by rw [hls k hk]; exact hm⟩] at this
          exact x1 this.symm
        rw [u1,beq_self_eq_true,List.length_set,hls k hk]
        rfl
      · rw [if_neg hkq]
        have u2 : ((k : Int) == (q : Int)) = false := by simp; omega
        rw [u2,beq_self_eq_true,hls k hk]
        rfl
    · simp only [f7v_28,f7v_29,f7v_30,f7v_31,f7v_32,f7v_33,f7v_34,f7v_35,f7v_36_i,f7v_36]
      rw [cond_neg (by omega)]
      simp only [f7v,f7v_1,f7v_2,f7v_3,f7v_4,f7v_5,f7v_6,f7v_7,f7v_14,f7v_15,f7v_16,f7v_17,f7v_18,f7v_19,f7v_20,f7v_21,f7v_22,f7v_23,f7v_24,f7v_25,f7v_26,f7v_27,f7v_37,f7v_38,f7v_39,f7v_51,f7v_52,f7v_53,f7v_54,f7v_55,f7v_56,f7v_57,f7v_58,f7v_59,f7v_60,f7v_61,f7v_62,f7v_63,f7v_64,f7v_65,f7v_66,f7v_67]
      refine loopN_from (fun k => ((q : Int),a3,true,A,A',(k : Int))) 64 (by rfl) (fun k hk K => ?_) (fun K => ?_) (a1n + 65) (by omega)
      · have hqn : q < n := by omega
        have e3 : (decide (0 ≤ (q : Int)) && decide ((q : Int) < (A.length : Int))) = true := by rw [dec_and,decide_eq_true_iff]; omega
        have e4 : (decide (0 ≤ (q : Int)) && decide ((q : Int) < (A'.length : Int))) = true := by rw [dec_and,decide_eq_true_iff]; omega
        have e5 : (decide (0 ≤ (k : Int)) && decide ((k : Int) < ((Dk.sec d.blk q).length : Int))) = true := by rw [dec_and,decide_eq_true_iff,hls q hqn]; omega
        have e6 : (decide (0 ≤ (k : Int)) && decide ((k : Int) < (((Dk.sec d.blk q).set m X).length : Int))) = true := by rw [dec_and,decide_eq_true_iff,List.length_set,hls q hqn]; omega
        simp only [f7v_40,f7v_41,f7v_42,f7v_43,f7v_44,f7v_45,f7v_46,f7v_47,f7v_48,f7v_49,f7v_50_i,f7v_50,Int.toNat_natCast,e3,e4,cond_true,ha q hqn,hb q hqn,if_true,e5,e6,ew,i64w (show -9223372036854775808 ≤ (k : Int) + 1 by omega) (show (k : Int) + 1 ≤ 9223372036854775807 by omega)]
        rw [cond_pos (show (k : Int) < 64 by omega)]
        simp only [Dk.getD_set]
        by_cases hkm : m = k
        · subst hkm
          have u3 : ((m : Int) == Int.tdiv a3 8) = true := by rw [beq_iff_eq]; exact hmi
          have u4 : ((m : Int) != Int.tdiv a3 8) = false := by rw [bne,u3]; rfl
          rw [if_pos ⟨rfl,by rw [hls q hqn]; exact hm⟩,x3,u3,u4,cond_true,cond_pos em]
          simp only [bne_self_eq_false,cond_false]
          rfl
        · have u3 : ((k : Int) == Int.tdiv a3 8) = false := by rw [beq_eq_false_iff_ne]; omega
          have u4 : ((k : Int) != Int.tdiv a3 8) = true := by rw [bne,u3]; rfl
          rw [if_neg (fun h => hkm h.1),Dk.self_of (hbq.getD k),u3,u4]
          rfl
      · simp only [f7v_40,f7v_41,f7v_42,f7v_43,f7v_44,f7v_45,f7v_46,f7v_47,f7v_48,f7v_49,f7v_50_i,f7v_50]
        rw [cond_neg (by omega)]
        rfl
  · obtain ⟨r1,r2⟩ := Dk.rot_bad hz
    rw [r1]
    simp only [r1,beq_self_eq_true,cond_true]
    have v1 : ((1 : Int) != 0) = true := rfl
    rw [v1,cond_true]
    by_cases v2 : a2 < 0
    · rw [cond_pos v2]
    · rw [cond_neg v2]
      by_cases v3 : a2 ≥ (n : Int)
      · rw [cond_pos v3]
      · rw [cond_neg v3]
        by_cases v4 : a3 < 0
        · rw [cond_pos v4]
        · rw [cond_neg v4,show decide (a3 > 511) = true by rw [decide_eq_true_iff]; omega]

theorem c7v : CallOk Try.prog G35 7 r7v := callOk_of (V := VG357v) mixed tys eVG357v (f := 7) (fn := Try.f7) Try.func7 (by kernel_rfl) (c := sub (bodyOf Try.f7) []) (by kernel_rfl) (by
  intro X H r H' h hX hH
  unfold r7v at h; split at h <;> try contradiction
  · simp only [Option.some.injEq,Prod.mk.injEq] at h
    obtain ⟨hp,rfl,rfl⟩ := h
    obtain ⟨F,hF⟩ := s7v _ _ _ _ _ hp (hX _ (.head _)) (hX _ (.tail _ (.head _))) (hX _ (.tail _ (.tail _ (.head _)))) (hX _ (.tail _ (.tail _ (.tail _ (.head _)))))
    exact ⟨Af7v F,(f7v_body F _ _ _ _ _).trans hF⟩)
def r7 : CRun := fun X H => match X,H with
  | [(.int .i64 a0),(.vs (.rT [.int .i64,.int .i64,.int .i64,.str,.sl .i64] a1) a1n 5),(.int .i64 a2),(.int .i64 a3)],[] => some (true,.bool true,[])
  | _,_ => none
theorem c7 : CallOk Try.prog G35 7 r7 := c7v.or c7i fun A H r H' h => by
  unfold r7 at h; split at h <;> try contradiction
  rename_i a0 a1 a1n a2 a3
  simp only [Option.some.injEq,Prod.mk.injEq,true_and] at h
  obtain ⟨rfl,rfl⟩ := h
  cases hb : (decide (0 < a0) && decide (a0 < 65)) with
  | true => exact .inl (by simp only [r7v,hb])
  | false => exact .inr (by simp only [r7i,hb,Bool.not_false])
end Go.Am
