/- Part of a proof about the functions of the given program. -/
import Derived.Test.YtcafjaenmbhlnaaAmIsl5
set_option linter.unusedVariables false
set_option linter.unusedSimpArgs false
namespace Go.Am
open Go Go.Proofs
abbrev sp50 : List (Nat × Md) := [(2,.plain),(7,.plain),(8,.plain),(9,.plain),(10,.plain),(11,.plain),(12,.plain)]
abbrev sp51 : List (Nat × Md) := [(2,.plain),(7,.plain),(8,.plain),(9,.plain),(10,.plain),(11,.plain),(12,.plain),(13,.plain)]
abbrev sp52 : List (Nat × Md) := [(2,.plain),(7,.plain),(8,.plain),(9,.plain),(10,.plain),(11,.plain),(15,.plain)]
abbrev sp53 : List (Nat × Md) := [(2,.plain),(7,.plain),(8,.plain),(9,.plain),(10,.plain),(16,.plain)]
abbrev sp54 : List (Nat × Md) := [(2,.plain),(7,.plain),(8,.plain),(9,.plain),(10,.plain),(16,.plain),(17,.plain),(18,.plain)]
abbrev sp55 : List (Nat × Md) := [(7,.plain),(8,.plain),(9,.plain),(20,.plain),(21,.own 22),(22,.plain)]
abbrev sp56 : List (Nat × Md) := [(7,.plain),(8,.plain),(9,.plain),(20,.plain),(21,.plain),(22,.plain),(23,.own 2),(24,.plain)]
abbrev sp57 : List (Nat × Md) := [(0,.plain),(2,.plain),(7,.plain)]
abbrev sp58 : List (Nat × Md) := [(2,.plain),(7,.plain),(8,.plain)]
abbrev sp59 : List (Nat × Md) := [(2,.plain),(7,.plain),(8,.plain),(9,.plain)]
abbrev sp60 : List (Nat × Md) := [(2,.plain),(7,.plain),(8,.plain),(9,.plain),(10,.plain)]
abbrev sp61 : List (Nat × Md) := [(2,.plain),(7,.plain),(8,.plain),(9,.plain),(10,.plain),(11,.plain)]
abbrev sp62 : List (Nat × Md) := [(2,.plain),(7,.plain),(8,.plain),(9,.plain),(10,.plain),(16,.plain),(17,.plain)]
abbrev sp63 : List (Nat × Md) := [(7,.plain),(8,.plain),(9,.plain),(20,.plain)]
abbrev sp64 : List (Nat × Md) := [(7,.plain),(8,.plain),(9,.plain),(20,.plain),(21,.plain)]
abbrev sp65 : List (Nat × Md) := [(7,.plain),(8,.plain),(9,.plain),(20,.plain),(21,.plain),(22,.plain)]
abbrev sp66 : List (Nat × Md) := [(7,.plain),(8,.plain),(9,.plain),(20,.plain),(21,.plain),(22,.plain),(23,.plain)]
abbrev sp67 : List (Nat × Md) := [(7,.plain),(8,.plain),(9,.plain),(20,.plain),(21,.plain),(22,.plain),(23,.plain),(24,.plain)]
abbrev Ty64 := Int × Int × (List (List Int))
abbrev Ty65 := Int × Int × (List (List Int)) × (List (List Int))
abbrev Ty66 := Int × Int × (List (List Int)) × (List (List Int)) × (List Int)
abbrev Ty67 := Int × Int × (List (List Int)) × (List (List Int)) × (List Int) × (List Int)
abbrev Ty68 := Int × Int × Int × (List (List Int)) × (List (List Int)) × (List Int) × (List Int)
abbrev Ty69 := Int × Int × Int × (List (List Int)) × (List (List Int)) × (List Int) × (List Int) × Nat
abbrev Ty70 := Int × Int × Int × Int × (List (List Int)) × (List (List Int)) × (List Int) × (List Int) × Nat
abbrev Ty71 := Int × Int × (List (List Int)) × (List (List Int)) × (List Int) × (List Int) × Nat
abbrev Ty72 := Int × Int × Int × (List (List Int)) × (List (List Int)) × (List Int)
abbrev Ty73 := Int × Int × Int × Int × (List (List Int)) × (List (List Int)) × (List Int)
abbrev Ty74 := Int × Int × Int × Int × Int × (List (List Int)) × (List (List Int)) × (List Int)
abbrev Ty75 := Int × Int × Int × (List (List Int)) × (List (List Int)) × (List (List Int))
abbrev Ty76 := Int × Int × Int × Int × (List (List Int)) × (List (List Int)) × (List (List Int))
abbrev Ty77 := Int × Int × Int × Int × (List (List Int)) × (List (List Int)) × (List (List Int)) × (List Int)
abbrev Ty78 := Int × Int × Int × (List (List Int)) × (List (List Int)) × (List (List Int)) × (List Int)
def lVG227 : List CEnt := [(10,[none,none],r10),(11,[some 3,none],r11),(14,[some 22,some 22],r14),(19,[],r19),(24,[none,some 22],r24),(25,[none,some 22],r25)]
def VG227 : Env := mkEnv T22 G22 lVG227
theorem eVG227 : EOk Try.prog VG227 := eok_mk (by exact ⟨c10,c11,c14,c19,c24,c25,trivial⟩)
def Af7 (F : Nat) : Cuts := { F := F,at_ := fun n => match n with | 9041 => some sp50 | 12020 => some sp51 | 21016 => some sp52 | 26041 => some sp53 | 30026 => some sp54 | 40027 => some sp55 | 44010 => some sp56 | _ => none,join := fun n => match n with | 1172 => some sp39 | 2170 => some sp57 | 3168 => some sp58 | 4166 => some sp59 | 5164 => some sp60 | 7156 => some sp60 | 8154 => some sp61 | 9043 => some sp50 | 10001 => some sp50 | 11035 => some sp50 | 12022 => some sp51 | 18007 => some sp50 | 20108 => some sp61 | 21018 => some sp52 | 25087 => some sp60 | 26043 => some sp53 | 27001 => some sp53 | 28035 => some sp53 | 29030 => some sp62 | 30028 => some sp54 | 37041 => some sp59 | 38039 => some sp63 | 39037 => some sp64 | 40029 => some sp65 | 41001 => some sp65 | 42021 => some sp65 | 43016 => some sp66 | 44012 => some sp67 | 47001 => some sp66 | 48005 => some sp64 | _ => none }
def ef7_a : (List Int) × Int × Int → St := fun (a0,a1,a2) => { tmps := [(0,(.vs (.rI .i64 a0) 0 1)),(1,(.int .i64 a1)),(2,(.int .i64 a2))],heap := [],next := 0,nt := 238,m := 0 }
def ef7j1 : (List Int) × Int × Int → St := fun (t0,t1,t2) => { tmps := [(0,(.vs (.rI .i64 t0) 0 1)),(1,(.int .i64 t1)),(2,(.int .i64 t2))],heap := [],next := 0,nt := 238,m := 0 }
def ef7j2 : (List Int) × Int × Int → St := fun (t0,t2,t7) => { tmps := [(0,(.vs (.rI .i64 t0) 0 1)),(2,(.int .i64 t2)),(7,(.int .i64 t7))],heap := [],next := 0,nt := 238,m := 0 }
def ef7j3 : Ty64 → St := fun (t2,t7,x3) => { tmps := [(2,(.int .i64 t2)),(7,(.int .i64 t7)),(8,(.own 0 0 1))],heap := [(0,(.cells x3.length (.rL .i64 x3) true))],next := 1,nt := 238,m := 0 }
def ef7j4 : Ty65 → St := fun (t2,t7,x3,x4) => { tmps := [(2,(.int .i64 t2)),(7,(.int .i64 t7)),(8,(.own 0 0 1)),(9,(.own 1 0 1))],heap := [(0,(.cells x3.length (.rL .i64 x3) false)),(1,(.cells x4.length (.rL .i64 x4) true))],next := 2,nt := 238,m := 0 }
def ef7j5 : Ty66 → St := fun (t2,t7,x3,x4,x5) => { tmps := [(2,(.int .i64 t2)),(7,(.int .i64 t7)),(8,(.own 0 0 1)),(9,(.own 1 0 1)),(10,(.own 2 0 1))],heap := [(0,(.cells x3.length (.rL .i64 x3) false)),(1,(.cells x4.length (.rL .i64 x4) true)),(2,(.cells x5.length (.rI .i64 x5) true))],next := 3,nt := 238,m := 0 }
def ef7j6 : Ty66 → St := fun (t2,t7,x3,x4,x5) => { tmps := [(2,(.int .i64 t2)),(7,(.int .i64 t7)),(8,(.own 0 0 1)),(9,(.own 1 0 1)),(10,(.own 2 0 1))],heap := [(0,(.cells x3.length (.rL .i64 x3) false)),(1,(.cells x4.length (.rL .i64 x4) true)),(2,(.cells x5.length (.rI .i64 x5) true))],next := 3,nt := 238,m := 0 }
def ef7j7 : Ty67 → St := fun (t2,t7,x3,x4,x5,x6) => { tmps := [(2,(.int .i64 t2)),(7,(.int .i64 t7)),(8,(.own 0 0 1)),(9,(.own 1 0 1)),(10,(.own 2 0 1)),(11,(.own 3 0 1))],heap := [(0,(.cells x3.length (.rL .i64 x3) false)),(1,(.cells x4.length (.rL .i64 x4) true)),(2,(.cells x5.length (.rI .i64 x5) true)),(3,(.cells x6.length (.rI .i64 x6) true))],next := 4,nt := 238,m := 0 }
def ef7j8 : Ty68 → St := fun (t2,t7,t12,x4,x5,x6,x7) => { tmps := [(2,(.int .i64 t2)),(7,(.int .i64 t7)),(8,(.own 0 0 1)),(9,(.own 1 0 1)),(10,(.own 2 0 1)),(11,(.own 3 0 1)),(12,(.int .i64 t12))],heap := [(0,(.cells x4.length (.rL .i64 x4) false)),(1,(.cells x5.length (.rL .i64 x5) true)),(2,(.cells x6.length (.rI .i64 x6) true)),(3,(.cells x7.length (.rI .i64 x7) true))],next := 4,nt := 238,m := 0 }
def ef7l1 : Ty69 → St := fun (t2,t7,t12,x4,x5,x6,x7,x8) => { tmps := [(2,(.int .i64 t2)),(7,(.int .i64 t7)),(8,(.own 0 0 1)),(9,(.own 1 0 1)),(10,(.own 2 0 1)),(11,(.own 3 0 1)),(12,(.int .i64 t12))],heap := [(0,(.cells x4.length (.rL .i64 x4) false)),(1,(.cells x5.length (.rL .i64 x5) true)),(2,(.cells x6.length (.rI .i64 x6) true)),(3,(.cells x8 (.rI .i64 x7) true))],next := 4,nt := 238,m := 0 }
def ef7j9 : Ty69 → St := fun (t2,t7,t12,x4,x5,x6,x7,x8) => { tmps := [(2,(.int .i64 t2)),(7,(.int .i64 t7)),(8,(.own 0 0 1)),(9,(.own 1 0 1)),(10,(.own 2 0 1)),(11,(.own 3 0 1)),(12,(.int .i64 t12))],heap := [(0,(.cells x4.length (.rL .i64 x4) false)),(1,(.cells x5.length (.rL .i64 x5) true)),(2,(.cells x6.length (.rI .i64 x6) true)),(3,(.cells x8 (.rI .i64 x7) true))],next := 4,nt := 238,m := 0 }
def ef7j10 : Ty70 → St := fun (t2,t7,t12,t13,x5,x6,x7,x8,x9) => { tmps := [(2,(.int .i64 t2)),(7,(.int .i64 t7)),(8,(.own 0 0 1)),(9,(.own 1 0 1)),(10,(.own 2 0 1)),(11,(.own 3 0 1)),(12,(.int .i64 t12)),(13,(.int .i64 t13))],heap := [(0,(.cells x5.length (.rL .i64 x5) false)),(1,(.cells x6.length (.rL .i64 x6) true)),(2,(.cells x7.length (.rI .i64 x7) true)),(3,(.cells x9 (.rI .i64 x8) true))],next := 4,nt := 238,m := 0 }
def ef7l2 : Ty70 → St := fun (t2,t7,t12,t13,x5,x6,x7,x8,x9) => { tmps := [(2,(.int .i64 t2)),(7,(.int .i64 t7)),(8,(.own 0 0 1)),(9,(.own 1 0 1)),(10,(.own 2 0 1)),(11,(.own 3 0 1)),(12,(.int .i64 t12)),(13,(.int .i64 t13))],heap := [(0,(.cells x5.length (.rL .i64 x5) false)),(1,(.cells x6.length (.rL .i64 x6) true)),(2,(.cells x7.length (.rI .i64 x7) true)),(3,(.cells x9 (.rI .i64 x8) true))],next := 4,nt := 238,m := 0 }
def ef7j11 : Ty69 → St := fun (t2,t7,t12,x4,x5,x6,x7,x8) => { tmps := [(2,(.int .i64 t2)),(7,(.int .i64 t7)),(8,(.own 0 0 1)),(9,(.own 1 0 1)),(10,(.own 2 0 1)),(11,(.own 3 0 1)),(12,(.int .i64 t12))],heap := [(0,(.cells x4.length (.rL .i64 x4) false)),(1,(.cells x5.length (.rL .i64 x5) true)),(2,(.cells x6.length (.rI .i64 x6) true)),(3,(.cells x8 (.rI .i64 x7) true))],next := 4,nt := 238,m := 0 }
def ef7j12 : Ty69 → St := fun (t2,t7,t12,x4,x5,x6,x7,x8) => { tmps := [(2,(.int .i64 t2)),(7,(.int .i64 t7)),(8,(.own 0 0 1)),(9,(.own 1 0 1)),(10,(.own 2 0 1)),(11,(.own 3 0 1)),(12,(.int .i64 t12))],heap := [(0,(.cells x4.length (.rL .i64 x4) false)),(1,(.cells x5.length (.rL .i64 x5) true)),(2,(.cells x6.length (.rI .i64 x6) true)),(3,(.cells x8 (.rI .i64 x7) true))],next := 4,nt := 238,m := 0 }
def ef7j13 : Ty71 → St := fun (t2,t7,x3,x4,x5,x6,x7) => { tmps := [(2,(.int .i64 t2)),(7,(.int .i64 t7)),(8,(.own 0 0 1)),(9,(.own 1 0 1)),(10,(.own 2 0 1)),(11,(.own 3 0 1))],heap := [(0,(.cells x3.length (.rL .i64 x3) false)),(1,(.cells x4.length (.rL .i64 x4) true)),(2,(.cells x5.length (.rI .i64 x5) true)),(3,(.cells x7 (.rI .i64 x6) true))],next := 4,nt := 238,m := 0 }
def ef7j14 : Ty69 → St := fun (t2,t7,t15,x4,x5,x6,x7,x8) => { tmps := [(2,(.int .i64 t2)),(7,(.int .i64 t7)),(8,(.own 0 0 1)),(9,(.own 1 0 1)),(10,(.own 2 0 1)),(11,(.own 3 0 1)),(15,(.int .i64 t15))],heap := [(0,(.cells x4.length (.rL .i64 x4) false)),(1,(.cells x5.length (.rL .i64 x5) true)),(2,(.cells x6.length (.rI .i64 x6) true)),(3,(.cells x8 (.rI .i64 x7) true))],next := 4,nt := 238,m := 0 }
def ef7l3 : Ty69 → St := fun (t2,t7,t15,x4,x5,x6,x7,x8) => { tmps := [(2,(.int .i64 t2)),(7,(.int .i64 t7)),(8,(.own 0 0 1)),(9,(.own 1 0 1)),(10,(.own 2 0 1)),(11,(.own 3 0 1)),(15,(.int .i64 t15))],heap := [(0,(.cells x4.length (.rL .i64 x4) false)),(1,(.cells x5.length (.rL .i64 x5) true)),(2,(.cells x6.length (.rI .i64 x6) true)),(3,(.cells x8 (.rI .i64 x7) true))],next := 4,nt := 238,m := 0 }
def ef7j15 : Ty66 → St := fun (t2,t7,x3,x4,x5) => { tmps := [(2,(.int .i64 t2)),(7,(.int .i64 t7)),(8,(.own 0 0 1)),(9,(.own 1 0 1)),(10,(.own 2 0 1))],heap := [(0,(.cells x3.length (.rL .i64 x3) false)),(1,(.cells x4.length (.rL .i64 x4) true)),(2,(.cells x5.length (.rI .i64 x5) true))],next := 3,nt := 238,m := 0 }
def ef7j16 : Ty72 → St := fun (t2,t7,t16,x4,x5,x6) => { tmps := [(2,(.int .i64 t2)),(7,(.int .i64 t7)),(8,(.own 0 0 1)),(9,(.own 1 0 1)),(10,(.own 2 0 1)),(16,(.int .i64 t16))],heap := [(0,(.cells x4.length (.rL .i64 x4) false)),(1,(.cells x5.length (.rL .i64 x5) true)),(2,(.cells x6.length (.rI .i64 x6) true))],next := 3,nt := 238,m := 0 }
def ef7l4 : Ty72 → St := fun (t2,t7,t16,x4,x5,x6) => { tmps := [(2,(.int .i64 t2)),(7,(.int .i64 t7)),(8,(.own 0 0 1)),(9,(.own 1 0 1)),(10,(.own 2 0 1)),(16,(.int .i64 t16))],heap := [(0,(.cells x4.length (.rL .i64 x4) false)),(1,(.cells x5.length (.rL .i64 x5) true)),(2,(.cells x6.length (.rI .i64 x6) true))],next := 3,nt := 238,m := 0 }
def ef7j17 : Ty72 → St := fun (t2,t7,t16,x4,x5,x6) => { tmps := [(2,(.int .i64 t2)),(7,(.int .i64 t7)),(8,(.own 0 0 1)),(9,(.own 1 0 1)),(10,(.own 2 0 1)),(16,(.int .i64 t16))],heap := [(0,(.cells x4.length (.rL .i64 x4) false)),(1,(.cells x5.length (.rL .i64 x5) true)),(2,(.cells x6.length (.rI .i64 x6) true))],next := 3,nt := 238,m := 0 }
def ef7j18 : Ty73 → St := fun (t2,t7,t16,t17,x5,x6,x7) => { tmps := [(2,(.int .i64 t2)),(7,(.int .i64 t7)),(8,(.own 0 0 1)),(9,(.own 1 0 1)),(10,(.own 2 0 1)),(16,(.int .i64 t16)),(17,(.int .i64 t17))],heap := [(0,(.cells x5.length (.rL .i64 x5) false)),(1,(.cells x6.length (.rL .i64 x6) true)),(2,(.cells x7.length (.rI .i64 x7) true))],next := 3,nt := 238,m := 0 }
def ef7j19 : Ty74 → St := fun (t2,t7,t16,t17,t18,x6,x7,x8) => { tmps := [(2,(.int .i64 t2)),(7,(.int .i64 t7)),(8,(.own 0 0 1)),(9,(.own 1 0 1)),(10,(.own 2 0 1)),(16,(.int .i64 t16)),(17,(.int .i64 t17)),(18,(.int .i64 t18))],heap := [(0,(.cells x6.length (.rL .i64 x6) false)),(1,(.cells x7.length (.rL .i64 x7) true)),(2,(.cells x8.length (.rI .i64 x8) true))],next := 3,nt := 238,m := 0 }
def ef7l5 : Ty74 → St := fun (t2,t7,t16,t17,t18,x6,x7,x8) => { tmps := [(2,(.int .i64 t2)),(7,(.int .i64 t7)),(8,(.own 0 0 1)),(9,(.own 1 0 1)),(10,(.own 2 0 1)),(16,(.int .i64 t16)),(17,(.int .i64 t17)),(18,(.int .i64 t18))],heap := [(0,(.cells x6.length (.rL .i64 x6) false)),(1,(.cells x7.length (.rL .i64 x7) true)),(2,(.cells x8.length (.rI .i64 x8) true))],next := 3,nt := 238,m := 0 }
def ef7j20 : Ty72 → St := fun (t2,t7,t16,x4,x5,x6) => { tmps := [(2,(.int .i64 t2)),(7,(.int .i64 t7)),(8,(.own 0 0 1)),(9,(.own 1 0 1)),(10,(.own 2 0 1)),(16,(.int .i64 t16))],heap := [(0,(.cells x4.length (.rL .i64 x4) false)),(1,(.cells x5.length (.rL .i64 x5) true)),(2,(.cells x6.length (.rI .i64 x6) true))],next := 3,nt := 238,m := 0 }
def ef7j21 : Ty65 → St := fun (t2,t7,x3,x4) => { tmps := [(2,(.int .i64 t2)),(7,(.int .i64 t7)),(8,(.own 0 0 1)),(9,(.own 1 0 1))],heap := [(0,(.cells x3.length (.rL .i64 x3) false)),(1,(.cells x4.length (.rL .i64 x4) true))],next := 2,nt := 238,m := 0 }
def ef7j22 : Ty65 → St := fun (t7,t20,x3,x4) => { tmps := [(7,(.int .i64 t7)),(8,(.own 0 0 1)),(9,(.own 1 0 1)),(20,(.int .i64 t20))],heap := [(0,(.cells x3.length (.rL .i64 x3) false)),(1,(.cells x4.length (.rL .i64 x4) true))],next := 2,nt := 238,m := 0 }
def ef7j23 : Ty65 → St := fun (t7,t20,x3,x4) => { tmps := [(7,(.int .i64 t7)),(8,(.own 0 0 1)),(9,(.own 1 0 1)),(20,(.int .i64 t20)),(21,.ns)],heap := [(0,(.cells x3.length (.rL .i64 x3) false)),(1,(.cells x4.length (.rL .i64 x4) true))],next := 2,nt := 238,m := 0 }
def ef7j24 : Ty18 → St := fun (t7,t20,t22,x4,x5) => { tmps := [(7,(.int .i64 t7)),(8,(.own 0 0 1)),(9,(.own 1 0 1)),(20,(.int .i64 t20)),(21,.ns),(22,(.int .i64 t22))],heap := [(0,(.cells x4.length (.rL .i64 x4) false)),(1,(.cells x5.length (.rL .i64 x5) true))],next := 2,nt := 238,m := 0 }
def ef7l6 : Ty75 → St := fun (t7,t20,t22,x4,x5,x6) => { tmps := [(7,(.int .i64 t7)),(8,(.own 0 0 1)),(9,(.own 1 0 1)),(20,(.int .i64 t20)),(21,(.own 2 0 1)),(22,(.int .i64 t22))],heap := [(0,(.cells x4.length (.rL .i64 x4) false)),(1,(.cells x5.length (.rL .i64 x5) true)),(2,(.cells x6.length (.rL .i64 x6) true))],next := 3,nt := 238,m := 0 }
def ef7j25 : Ty75 → St := fun (t7,t20,t22,x4,x5,x6) => { tmps := [(7,(.int .i64 t7)),(8,(.own 0 0 1)),(9,(.own 1 0 1)),(20,(.int .i64 t20)),(21,(.own 2 0 1)),(22,(.int .i64 t22))],heap := [(0,(.cells x4.length (.rL .i64 x4) false)),(1,(.cells x5.length (.rL .i64 x5) true)),(2,(.cells x6.length (.rL .i64 x6) true))],next := 3,nt := 238,m := 0 }
def ef7j26 : Ty75 → St := fun (t7,t20,t22,x4,x5,x6) => { tmps := [(7,(.int .i64 t7)),(8,(.own 0 0 1)),(9,(.own 1 0 1)),(20,(.int .i64 t20)),(21,(.own 2 0 1)),(22,(.int .i64 t22)),(23,.ns)],heap := [(0,(.cells x4.length (.rL .i64 x4) false)),(1,(.cells x5.length (.rL .i64 x5) true)),(2,(.cells x6.length (.rL .i64 x6) true))],next := 3,nt := 238,m := 0 }
def ef7j27 : Ty76 → St := fun (t7,t20,t22,t24,x5,x6,x7) => { tmps := [(7,(.int .i64 t7)),(8,(.own 0 0 1)),(9,(.own 1 0 1)),(20,(.int .i64 t20)),(21,(.own 2 0 1)),(22,(.int .i64 t22)),(23,.ns),(24,(.int .i64 t24))],heap := [(0,(.cells x5.length (.rL .i64 x5) false)),(1,(.cells x6.length (.rL .i64 x6) true)),(2,(.cells x7.length (.rL .i64 x7) true))],next := 3,nt := 238,m := 0 }
def ef7l7 : Ty77 → St := fun (t7,t20,t22,t24,x5,x6,x7,x8) => { tmps := [(7,(.int .i64 t7)),(8,(.own 0 0 1)),(9,(.own 1 0 1)),(20,(.int .i64 t20)),(21,(.own 2 0 1)),(22,(.int .i64 t22)),(23,(.own 3 0 1)),(24,(.int .i64 t24))],heap := [(0,(.cells x5.length (.rL .i64 x5) false)),(1,(.cells x6.length (.rL .i64 x6) true)),(2,(.cells x7.length (.rL .i64 x7) true)),(3,(.cells x8.length (.rI .i64 x8) true))],next := 4,nt := 238,m := 0 }
def ef7j28 : Ty78 → St := fun (t7,t20,t22,x4,x5,x6,x7) => { tmps := [(7,(.int .i64 t7)),(8,(.own 0 0 1)),(9,(.own 1 0 1)),(20,(.int .i64 t20)),(21,(.own 2 0 1)),(22,(.int .i64 t22)),(23,(.own 3 0 1))],heap := [(0,(.cells x4.length (.rL .i64 x4) false)),(1,(.cells x5.length (.rL .i64 x5) true)),(2,(.cells x6.length (.rL .i64 x6) true)),(3,(.cells x7.length (.rI .i64 x7) true))],next := 4,nt := 238,m := 0 }
def ef7j29 : Ty75 → St := fun (t7,t20,t22,x4,x5,x6) => { tmps := [(7,(.int .i64 t7)),(8,(.own 0 0 1)),(9,(.own 1 0 1)),(20,(.int .i64 t20)),(21,(.own 2 0 1)),(22,(.int .i64 t22))],heap := [(0,(.cells x4.length (.rL .i64 x4) false)),(1,(.cells x5.length (.rL .i64 x5) true)),(2,(.cells x6.length (.rL .i64 x6) true))],next := 3,nt := 238,m := 0 }
def ef7j30 : Ty20 → St := fun (t7,t20,x3,x4,x5) => { tmps := [(7,(.int .i64 t7)),(8,(.own 0 0 1)),(9,(.own 1 0 1)),(20,(.int .i64 t20)),(21,(.own 2 0 1))],heap := [(0,(.cells x3.length (.rL .i64 x3) false)),(1,(.cells x4.length (.rL .i64 x4) true)),(2,(.cells x5.length (.rL .i64 x5) true))],next := 3,nt := 238,m := 0 }
def f7_1 (F : Nat) (kf7j1 : (List Int) × Int × Int → Rz) : (List Int) × Int × Int → Rz := fun (a0,a1,a2) => (kf7j1 (a0,a1,a2))
theorem f7_1_eq (F : Nat) (Rf7j1 : St → Rz) : ∀ v,aexec VG227 (Af7 F) (bp Try.f7 2) (ef7_a v) (kSeq (kc VG227 Rf7j1 sp39) (kFin VG227 none (Try.f7).results.toList)) = f7_1 F (Rf7j1 ∘ ef7j1) v := by
  rintro ⟨a0,a1,a2⟩; kernel_rfl
def f7_2 (F : Nat) (kf7j2 : (List Int) × Int × Int → Rz) : (List Int) × Int × Int → Rz := fun (t0,t1,t2) => (cond (decide (0 < (14 : Int))) (kf7j2 (t0,t2,(IntKind.i64.wrap ((1 : Int) + (Reg.around t1 (14 : Int)))))) none)
theorem f7_2_eq (F : Nat) (Rf7j2 : St → Rz) : ∀ v,aexec VG227 (Af7 F) (bp Try.f7 6) (ef7j1 v) (kSeq (kc VG227 Rf7j2 sp57) (kFin VG227 none (Try.f7).results.toList)) = f7_2 F (Rf7j2 ∘ ef7j2) v := by
  rintro ⟨t0,t1,t2⟩; kernel_rfl
def f7_3 (F : Nat) (kf7j3 : Ty64 → Rz) : (List Int) × Int × Int → Rz := fun (t0,t2,t7) => (cond ((decide (0 ≤ t7)) && (decide (t7 < 1000))) (kf7j3 (t2,t7,(Isl.some t0 t7))) none)
theorem f7_3_eq (F : Nat) (Rf7j3 : St → Rz) : ∀ v,aexec VG227 (Af7 F) (bp Try.f7 14) (ef7j2 v) (kSeq (kc VG227 Rf7j3 sp58) (kFin VG227 none (Try.f7).results.toList)) = f7_3 F (Rf7j3 ∘ ef7j3) v := by
  rintro ⟨t0,t2,t7⟩; kernel_rfl
def f7_4 (F : Nat) (kf7j4 : Ty65 → Rz) : Ty64 → Rz := fun (t2,t7,x3) => (kf7j4 (t2,t7,x3,(Isl.groups t7 x3)))
theorem f7_4_eq (F : Nat) (Rf7j4 : St → Rz) : ∀ v,aexec VG227 (Af7 F) (bp Try.f7 30) (ef7j3 v) (kSeq (kc VG227 Rf7j4 sp59) (kFin VG227 none (Try.f7).results.toList)) = f7_4 F (Rf7j4 ∘ ef7j4) v := by
  rintro ⟨t2,t7,x3⟩; kernel_rfl
def f7_5 (F : Nat) (kf7j5 : Ty66 → Rz) : Ty65 → Rz := fun (t2,t7,x3,x4) => (kf7j5 (t2,t7,x3,x4,(Isl.of t7 x4)))
theorem f7_5_eq (F : Nat) (Rf7j5 : St → Rz) : ∀ v,aexec VG227 (Af7 F) (bp Try.f7 62) (ef7j4 v) (kSeq (kc VG227 Rf7j5 sp60) (kFin VG227 none (Try.f7).results.toList)) = f7_5 F (Rf7j5 ∘ ef7j5) v := by
  rintro ⟨t2,t7,x3,x4⟩; kernel_rfl
def f7_6 (F : Nat) (kf7j6 : Ty66 → Rz) : Ty66 → Rz := fun (t2,t7,x3,x4,x5) => (cond ((↑x5.length : Int) != t7) (some ((.bool false),[])) (kf7j6 (t2,t7,x3,x4,x5)))
theorem f7_6_eq (F : Nat) (Rf7j6 : St → Rz) : ∀ v,aexec VG227 (Af7 F) (bp Try.f7 126) (ef7j5 v) (kSeq (kc VG227 Rf7j6 sp60) (kFin VG227 none (Try.f7).results.toList)) = f7_6 F (Rf7j6 ∘ ef7j6) v := by
  rintro ⟨t2,t7,x3,x4,x5⟩; kernel_rfl
def f7_7 (F : Nat) (kf7j7 : Ty67 → Rz) : Ty66 → Rz := fun (t2,t7,x3,x4,x5) => (cond (((decide (0 ≤ t7)) && (decide (t7 ≤ t7))) && (decide (t7 < 1073741824))) (kf7j7 (t2,t7,x3,x4,x5,(List.replicate (Int.toNat t7) 0))) none)
theorem f7_7_eq (F : Nat) (Rf7j7 : St → Rz) : ∀ v,aexec VG227 (Af7 F) (bp Try.f7 254) (ef7j6 v) (kSeq (kc VG227 Rf7j7 sp61) (kFin VG227 none (Try.f7).results.toList)) = f7_7 F (Rf7j7 ∘ ef7j7) v := by
  rintro ⟨t2,t7,x3,x4,x5⟩; kernel_rfl
def f7_8 (F : Nat) (kf7j8 : Ty68 → Rz) (kf7j13 : Ty71 → Rz) : Ty67 → Rz := fun (t2,t7,x3,x4,x5,x6) => (kf7j8 (t2,t7,(0 : Int),x3,x4,x5,x6))
theorem f7_8_eq (F : Nat) (Rf7j8 : St → Rz) (Rf7j13 : St → Rz) : ∀ v,aexec VG227 (Af7 F) (bp Try.f7 1020) (ef7j7 v) (kSeq (kc VG227 Rf7j8 sp50) (kSeq (kc VG227 Rf7j13 sp61) (kFin VG227 none (Try.f7).results.toList))) = f7_8 F (Rf7j8 ∘ ef7j8) (Rf7j13 ∘ ef7j13) v := by
  rintro ⟨t2,t7,x3,x4,x5,x6⟩; kernel_rfl
def f7_9 (F : Nat) (kf7j9 : Ty69 → Rz) (kf7l1 : Ty69 → Rz) (kf7j13 : Ty71 → Rz) : Ty69 → Rz := fun (t2,t7,t12,x4,x5,x6,x7,x8) => (cond (decide (t12 < (↑x5.length : Int))) (kf7j9 (t2,t7,t12,x4,x5,x6,x7,x8)) (kf7j13 (t2,t7,x4,x5,x6,x7,x8)))
theorem f7_9_eq (F : Nat) (Rf7j9 : St → Rz) (Rf7l1 : St → Rz) (Rf7j13 : St → Rz) : ∀ v,aexec VG227 (Af7 F) (bp Try.f7 8168) (ef7l1 v) (kSeq (kc VG227 Rf7j9 sp50) (kSeq (kc VG227 Rf7l1 sp50) (kBlock 0 (kSeq (kc VG227 Rf7j13 sp61) (kFin VG227 none (Try.f7).results.toList))))) = f7_9 F (Rf7j9 ∘ ef7j9) (Rf7l1 ∘ ef7l1) (Rf7j13 ∘ ef7j13) v := by
  rintro ⟨t2,t7,t12,x4,x5,x6,x7,x8⟩; kernel_rfl
def f7_10 (F : Nat) (kf7j10 : Ty70 → Rz) (kf7j11 : Ty69 → Rz) (kf7j12 : Ty69 → Rz) (kf7l1 : Ty69 → Rz) (kf7j13 : Ty71 → Rz) : Ty69 → Rz := fun (t2,t7,t12,x4,x5,x6,x7,x8) => (kf7j10 (t2,t7,t12,(0 : Int),x4,x5,x6,x7,x8))
theorem f7_10_eq (F : Nat) (Rf7j10 : St → Rz) (Rf7j11 : St → Rz) (Rf7j12 : St → Rz) (Rf7l1 : St → Rz) (Rf7j13 : St → Rz) : ∀ v,aexec VG227 (Af7 F) (bp Try.f7 130704) (ef7j9 v) (kSeq (kc VG227 Rf7j10 sp51) (kSeq (kc VG227 Rf7j11 sp50) (kBlock 1 (kSeq (kc VG227 Rf7j12 sp50) (kSeq (kc VG227 Rf7l1 sp50) (kBlock 0 (kSeq (kc VG227 Rf7j13 sp61) (kFin VG227 none (Try.f7).results.toList)))))))) = f7_10 F (Rf7j10 ∘ ef7j10) (Rf7j11 ∘ ef7j11) (Rf7j12 ∘ ef7j12) (Rf7l1 ∘ ef7l1) (Rf7j13 ∘ ef7j13) v := by
  rintro ⟨t2,t7,t12,x4,x5,x6,x7,x8⟩; kernel_rfl
def f7_11 (F : Nat) (kf7l2 : Ty70 → Rz) (kf7j11 : Ty69 → Rz) (kf7j12 : Ty69 → Rz) (kf7l1 : Ty69 → Rz) (kf7j13 : Ty71 → Rz) : Ty70 → Rz := fun (t2,t7,t12,t13,x5,x6,x7,x8,x9) => (cond ((decide (0 ≤ t12)) && (decide (t12 < (↑x6.length : Int)))) (cond (decide (t13 < (↑(x6.getD (Int.toNat t12) []).length : Int))) (cond ((decide (0 ≤ t12)) && (decide (t12 < (↑x6.length : Int)))) (cond ((decide (0 ≤ t13)) && (decide (t13 < (↑(x6.getD (Int.toNat t12) []).length : Int)))) (cond (decide (((x6.getD (Int.toNat t12) []).getD (Int.toNat t13) 0) < (0 : Int))) (some ((.bool false),[])) (cond (decide (((x6.getD (Int.toNat t12) []).getD (Int.toNat t13) 0) ≥ t7)) (some ((.bool false),[])) (cond ((decide (0 ≤ ((x6.getD (Int.toNat t12) []).getD (Int.toNat t13) 0))) && (decide (((x6.getD (Int.toNat t12) []).getD (Int.toNat t13) 0) < (↑x7.length : Int)))) (cond ((x7.getD (Int.toNat ((x6.getD (Int.toNat t12) []).getD (Int.toNat t13) 0)) 0) != t12) (some ((.bool false),[])) (cond (decide (t13 > (0 : Int))) (cond ((decide (0 ≤ t12)) && (decide (t12 < (↑x6.length : Int)))) (cond ((decide (0 ≤ (IntKind.i64.wrap (t13 - (1 : Int))))) && (decide ((IntKind.i64.wrap (t13 - (1 : Int))) < (↑(x6.getD (Int.toNat t12) []).length : Int)))) (cond (decide (((x6.getD (Int.toNat t12) []).getD (Int.toNat t13) 0) ≤ ((x6.getD (Int.toNat t12) []).getD (Int.toNat (IntKind.i64.wrap (t13 - (1 : Int)))) 0))) (some ((.bool false),[])) (cond (decide (t12 > (0 : Int))) (cond ((decide (0 ≤ (IntKind.i64.wrap (t12 - (1 : Int))))) && (decide ((IntKind.i64.wrap (t12 - (1 : Int))) < (↑x6.length : Int)))) (cond (decide ((↑(x6.getD (Int.toNat (IntKind.i64.wrap (t12 - (1 : Int)))) []).length : Int) > (0 : Int))) (cond (t13 == (0 : Int)) (cond ((decide (0 ≤ (IntKind.i64.wrap (t12 - (1 : Int))))) && (decide ((IntKind.i64.wrap (t12 - (1 : Int))) < (↑x6.length : Int)))) (cond (decide ((0 : Int) < (↑(x6.getD (Int.toNat (IntKind.i64.wrap (t12 - (1 : Int)))) []).length : Int))) (cond (decide (((x6.getD (Int.toNat t12) []).getD (Int.toNat t13) 0) ≤ ((x6.getD (Int.toNat (IntKind.i64.wrap (t12 - (1 : Int)))) []).getD 0 0))) (some ((.bool false),[])) (cond ((decide (0 ≤ ((x6.getD (Int.toNat t12) []).getD (Int.toNat t13) 0))) && (decide (((x6.getD (Int.toNat t12) []).getD (Int.toNat t13) 0) < (↑x8.length : Int)))) (cond ((decide (0 ≤ ((x6.getD (Int.toNat t12) []).getD (Int.toNat t13) 0))) && (decide (((x6.getD (Int.toNat t12) []).getD (Int.toNat t13) 0) < (↑x8.length : Int)))) (kf7l2 (t2,t7,t12,(IntKind.i64.wrap (t13 + (1 : Int))),x5,x6,x7,(x8.set (Int.toNat ((x6.getD (Int.toNat t12) []).getD (Int.toNat t13) 0)) (IntKind.i64.wrap ((x8.getD (Int.toNat ((x6.getD (Int.toNat t12) []).getD (Int.toNat t13) 0)) 0) + (1 : Int)))),x9)) none) none)) none) none) (cond ((decide (0 ≤ ((x6.getD (Int.toNat t12) []).getD (Int.toNat t13) 0))) && (decide (((x6.getD (Int.toNat t12) []).getD (Int.toNat t13) 0) < (↑x8.length : Int)))) (cond ((decide (0 ≤ ((x6.getD (Int.toNat t12) []).getD (Int.toNat t13) 0))) && (decide (((x6.getD (Int.toNat t12) []).getD (Int.toNat t13) 0) < (↑x8.length : Int)))) (kf7l2 (t2,t7,t12,(IntKind.i64.wrap (t13 + (1 : Int))),x5,x6,x7,(x8.set (Int.toNat ((x6.getD (Int.toNat t12) []).getD (Int.toNat t13) 0)) (IntKind.i64.wrap ((x8.getD (Int.toNat ((x6.getD (Int.toNat t12) []).getD (Int.toNat t13) 0)) 0) + (1 : Int)))),x9)) none) none)) (cond ((decide (0 ≤ ((x6.getD (Int.toNat t12) []).getD (Int.toNat t13) 0))) && (decide (((x6.getD (Int.toNat t12) []).getD (Int.toNat t13) 0) < (↑x8.length : Int)))) (cond ((decide (0 ≤ ((x6.getD (Int.toNat t12) []).getD (Int.toNat t13) 0))) && (decide (((x6.getD (Int.toNat t12) []).getD (Int.toNat t13) 0) < (↑x8.length : Int)))) (kf7l2 (t2,t7,t12,(IntKind.i64.wrap (t13 + (1 : Int))),x5,x6,x7,(x8.set (Int.toNat ((x6.getD (Int.toNat t12) []).getD (Int.toNat t13) 0)) (IntKind.i64.wrap ((x8.getD (Int.toNat ((x6.getD (Int.toNat t12) []).getD (Int.toNat t13) 0)) 0) + (1 : Int)))),x9)) none) none)) none) (cond ((decide (0 ≤ ((x6.getD (Int.toNat t12) []).getD (Int.toNat t13) 0))) && (decide (((x6.getD (Int.toNat t12) []).getD (Int.toNat t13) 0) < (↑x8.length : Int)))) (cond ((decide (0 ≤ ((x6.getD (Int.toNat t12) []).getD (Int.toNat t13) 0))) && (decide (((x6.getD (Int.toNat t12) []).getD (Int.toNat t13) 0) < (↑x8.length : Int)))) (kf7l2 (t2,t7,t12,(IntKind.i64.wrap (t13 + (1 : Int))),x5,x6,x7,(x8.set (Int.toNat ((x6.getD (Int.toNat t12) []).getD (Int.toNat t13) 0)) (IntKind.i64.wrap ((x8.getD (Int.toNat ((x6.getD (Int.toNat t12) []).getD (Int.toNat t13) 0)) 0) + (1 : Int)))),x9)) none) none))) none) none) (cond (decide (t12 > (0 : Int))) (cond ((decide (0 ≤ (IntKind.i64.wrap (t12 - (1 : Int))))) && (decide ((IntKind.i64.wrap (t12 - (1 : Int))) < (↑x6.length : Int)))) (cond (decide ((↑(x6.getD (Int.toNat (IntKind.i64.wrap (t12 - (1 : Int)))) []).length : Int) > (0 : Int))) (cond (t13 == (0 : Int)) (cond ((decide (0 ≤ (IntKind.i64.wrap (t12 - (1 : Int))))) && (decide ((IntKind.i64.wrap (t12 - (1 : Int))) < (↑x6.length : Int)))) (cond (decide ((0 : Int) < (↑(x6.getD (Int.toNat (IntKind.i64.wrap (t12 - (1 : Int)))) []).length : Int))) (cond (decide (((x6.getD (Int.toNat t12) []).getD (Int.toNat t13) 0) ≤ ((x6.getD (Int.toNat (IntKind.i64.wrap (t12 - (1 : Int)))) []).getD 0 0))) (some ((.bool false),[])) (cond ((decide (0 ≤ ((x6.getD (Int.toNat t12) []).getD (Int.toNat t13) 0))) && (decide (((x6.getD (Int.toNat t12) []).getD (Int.toNat t13) 0) < (↑x8.length : Int)))) (cond ((decide (0 ≤ ((x6.getD (Int.toNat t12) []).getD (Int.toNat t13) 0))) && (decide (((x6.getD (Int.toNat t12) []).getD (Int.toNat t13) 0) < (↑x8.length : Int)))) (kf7l2 (t2,t7,t12,(IntKind.i64.wrap (t13 + (1 : Int))),x5,x6,x7,(x8.set (Int.toNat ((x6.getD (Int.toNat t12) []).getD (Int.toNat t13) 0)) (IntKind.i64.wrap ((x8.getD (Int.toNat ((x6.getD (Int.toNat t12) []).getD (Int.toNat t13) 0)) 0) + (1 : Int)))),x9)) none) none)) none) none) (cond ((decide (0 ≤ ((x6.getD (Int.toNat t12) []).getD (Int.toNat t13) 0))) && (decide (((x6.getD (Int.toNat t12) []).getD (Int.toNat t13) 0) < (↑x8.length : Int)))) (cond ((decide (0 ≤ ((x6.getD (Int.toNat t12) []).getD (Int.toNat t13) 0))) && (decide (((x6.getD (Int.toNat t12) []).getD (Int.toNat t13) 0) < (↑x8.length : Int)))) (kf7l2 (t2,t7,t12,(IntKind.i64.wrap (t13 + (1 : Int))),x5,x6,x7,(x8.set (Int.toNat ((x6.getD (Int.toNat t12) []).getD (Int.toNat t13) 0)) (IntKind.i64.wrap ((x8.getD (Int.toNat ((x6.getD (Int.toNat t12) []).getD (Int.toNat t13) 0)) 0) + (1 : Int)))),x9)) none) none)) (cond ((decide (0 ≤ ((x6.getD (Int.toNat t12) []).getD (Int.toNat t13) 0))) && (decide (((x6.getD (Int.toNat t12) []).getD (Int.toNat t13) 0) < (↑x8.length : Int)))) (cond ((decide (0 ≤ ((x6.getD (Int.toNat t12) []).getD (Int.toNat t13) 0))) && (decide (((x6.getD (Int.toNat t12) []).getD (Int.toNat t13) 0) < (↑x8.length : Int)))) (kf7l2 (t2,t7,t12,(IntKind.i64.wrap (t13 + (1 : Int))),x5,x6,x7,(x8.set (Int.toNat ((x6.getD (Int.toNat t12) []).getD (Int.toNat t13) 0)) (IntKind.i64.wrap ((x8.getD (Int.toNat ((x6.getD (Int.toNat t12) []).getD (Int.toNat t13) 0)) 0) + (1 : Int)))),x9)) none) none)) none) (cond ((decide (0 ≤ ((x6.getD (Int.toNat t12) []).getD (Int.toNat t13) 0))) && (decide (((x6.getD (Int.toNat t12) []).getD (Int.toNat t13) 0) < (↑x8.length : Int)))) (cond ((decide (0 ≤ ((x6.getD (Int.toNat t12) []).getD (Int.toNat t13) 0))) && (decide (((x6.getD (Int.toNat t12) []).getD (Int.toNat t13) 0) < (↑x8.length : Int)))) (kf7l2 (t2,t7,t12,(IntKind.i64.wrap (t13 + (1 : Int))),x5,x6,x7,(x8.set (Int.toNat ((x6.getD (Int.toNat t12) []).getD (Int.toNat t13) 0)) (IntKind.i64.wrap ((x8.getD (Int.toNat ((x6.getD (Int.toNat t12) []).getD (Int.toNat t13) 0)) 0) + (1 : Int)))),x9)) none) none)))) none))) none) none) (kf7j11 (t2,t7,t12,x5,x6,x7,x8,x9))) none)
theorem f7_11_eq (F : Nat) (Rf7l2 : St → Rz) (Rf7j11 : St → Rz) (Rf7j12 : St → Rz) (Rf7l1 : St → Rz) (Rf7j13 : St → Rz) : ∀ v,aexec VG227 (Af7 F) (bp Try.f7 522820) (ef7l2 v) (kSeq (kc VG227 Rf7l2 sp51) (kBlock 2 (kSeq (kc VG227 Rf7j11 sp50) (kBlock 1 (kSeq (kc VG227 Rf7j12 sp50) (kSeq (kc VG227 Rf7l1 sp50) (kBlock 0 (kSeq (kc VG227 Rf7j13 sp61) (kFin VG227 none (Try.f7).results.toList))))))))) = f7_11 F (Rf7l2 ∘ ef7l2) (Rf7j11 ∘ ef7j11) (Rf7j12 ∘ ef7j12) (Rf7l1 ∘ ef7l1) (Rf7j13 ∘ ef7j13) v := by
  rintro ⟨t2,t7,t12,t13,x5,x6,x7,x8,x9⟩; kernel_rfl
def f7_12_i : Ty70 → Int × Int × Int × Int × (List (List Int)) × (List (List Int)) × (List Int) × (List Int) × Nat := fun (t2,t7,t12,t13,x5,x6,x7,x8,x9) => (t2,t7,t12,t13,x5,x6,x7,x8,x9)
def f7_12 (F : Nat) (kf7j11 : Ty69 → Rz) (kf7j12 : Ty69 → Rz) (kf7l1 : Ty69 → Rz) (kf7j13 : Ty71 → Rz) : Ty70 → Rz := fun v => loopN (fun k => f7_11 F k kf7j11 kf7j12 kf7l1 kf7j13) F (f7_12_i v)
theorem f7_12_eq (F : Nat) (Rf7j11 : St → Rz) (Rf7j12 : St → Rz) (Rf7l1 : St → Rz) (Rf7j13 : St → Rz) : ∀ v,aexec VG227 (Af7 F) (bp Try.f7 261410) (ef7j10 v) (kBlock 2 (kSeq (kc VG227 Rf7j11 sp50) (kBlock 1 (kSeq (kc VG227 Rf7j12 sp50) (kSeq (kc VG227 Rf7l1 sp50) (kBlock 0 (kSeq (kc VG227 Rf7j13 sp61) (kFin VG227 none (Try.f7).results.toList)))))))) = f7_12 F (Rf7j11 ∘ ef7j11) (Rf7j12 ∘ ef7j12) (Rf7l1 ∘ ef7l1) (Rf7j13 ∘ ef7j13) v :=
  loop_cut (by kernel_rfl) (by kernel_rfl) ef7j10 ef7l2 _ f7_12_i (fun k => f7_11 F k (Rf7j11 ∘ ef7j11) (Rf7j12 ∘ ef7j12) (Rf7l1 ∘ ef7l1) (Rf7j13 ∘ ef7j13))
    (by rintro ⟨t2,t7,t12,t13,x5,x6,x7,x8,x9⟩; kernel_rfl) (fun Rf7l2 => f7_11_eq F Rf7l2 Rf7j11 Rf7j12 Rf7l1 Rf7j13)
def f7_13 (F : Nat) (kf7j11 : Ty69 → Rz) (kf7j12 : Ty69 → Rz) (kf7l1 : Ty69 → Rz) (kf7j13 : Ty71 → Rz) : Ty70 → Rz := f7_12 F kf7j11 kf7j12 kf7l1 kf7j13
theorem f7_13_eq (F : Nat) (Rf7j11 : St → Rz) (Rf7j12 : St → Rz) (Rf7l1 : St → Rz) (Rf7j13 : St → Rz) : ∀ v,aexec VG227 (Af7 F) (bp Try.f7 130705) (ef7j10 v) (kSeq (kc VG227 Rf7j11 sp50) (kBlock 1 (kSeq (kc VG227 Rf7j12 sp50) (kSeq (kc VG227 Rf7l1 sp50) (kBlock 0 (kSeq (kc VG227 Rf7j13 sp61) (kFin VG227 none (Try.f7).results.toList))))))) = f7_13 F (Rf7j11 ∘ ef7j11) (Rf7j12 ∘ ef7j12) (Rf7l1 ∘ ef7l1) (Rf7j13 ∘ ef7j13) v := fun v =>
  (block_in  (by kernel_rfl) _ _).trans (f7_12_eq F Rf7j11 Rf7j12 Rf7l1 Rf7j13 v)
def f7_14 (F : Nat) (kf7j11 : Ty69 → Rz) (kf7j12 : Ty69 → Rz) (kf7l1 : Ty69 → Rz) (kf7j13 : Ty71 → Rz) : Ty69 → Rz := fun v => f7_10 F (f7_13 F kf7j11 kf7j12 kf7l1 kf7j13) kf7j11 kf7j12 kf7l1 kf7j13 v
theorem f7_14_eq (F : Nat) (Rf7j11 : St → Rz) (Rf7j12 : St → Rz) (Rf7l1 : St → Rz) (Rf7j13 : St → Rz) : ∀ v,aexec VG227 (Af7 F) (bp Try.f7 65352) (ef7j9 v) (kSeq (kc VG227 Rf7j11 sp50) (kBlock 1 (kSeq (kc VG227 Rf7j12 sp50) (kSeq (kc VG227 Rf7l1 sp50) (kBlock 0 (kSeq (kc VG227 Rf7j13 sp61) (kFin VG227 none (Try.f7).results.toList))))))) = f7_14 F (Rf7j11 ∘ ef7j11) (Rf7j12 ∘ ef7j12) (Rf7l1 ∘ ef7l1) (Rf7j13 ∘ ef7j13) v :=
  seq_cut (by kernel_rfl) (by kernel_rfl) ef7j9 ef7j10 _ (fun k => f7_10 F k (Rf7j11 ∘ ef7j11) (Rf7j12 ∘ ef7j12) (Rf7l1 ∘ ef7l1) (Rf7j13 ∘ ef7j13)) (f7_13 F (Rf7j11 ∘ ef7j11) (Rf7j12 ∘ ef7j12) (Rf7l1 ∘ ef7l1) (Rf7j13 ∘ ef7j13))
    (fun Rf7j10 => f7_10_eq F Rf7j10 Rf7j11 Rf7j12 Rf7l1 Rf7j13) (f7_13_eq F Rf7j11 Rf7j12 Rf7l1 Rf7j13)
def f7_15 (F : Nat) (kf7j12 : Ty69 → Rz) (kf7l1 : Ty69 → Rz) (kf7j13 : Ty71 → Rz) : Ty69 → Rz := fun (t2,t7,t12,x4,x5,x6,x7,x8) => (cond ((decide (0 ≤ t12)) && (decide (t12 < (↑x5.length : Int)))) (cond ((↑(x5.getD (Int.toNat t12) []).length : Int) == (0 : Int)) (some ((.bool false),[])) (kf7j12 (t2,t7,t12,x4,x5,x6,x7,x8))) none)
theorem f7_15_eq (F : Nat) (Rf7j12 : St → Rz) (Rf7l1 : St → Rz) (Rf7j13 : St → Rz) : ∀ v,aexec VG227 (Af7 F) (bp Try.f7 65353) (ef7j11 v) (kBlock 1 (kSeq (kc VG227 Rf7j12 sp50) (kSeq (kc VG227 Rf7l1 sp50) (kBlock 0 (kSeq (kc VG227 Rf7j13 sp61) (kFin VG227 none (Try.f7).results.toList)))))) = f7_15 F (Rf7j12 ∘ ef7j12) (Rf7l1 ∘ ef7l1) (Rf7j13 ∘ ef7j13) v := by
  rintro ⟨t2,t7,t12,x4,x5,x6,x7,x8⟩; kernel_rfl
def f7_16 (F : Nat) (kf7j12 : Ty69 → Rz) (kf7l1 : Ty69 → Rz) (kf7j13 : Ty71 → Rz) : Ty69 → Rz := fun v => f7_14 F (f7_15 F kf7j12 kf7l1 kf7j13) kf7j12 kf7l1 kf7j13 v
theorem f7_16_eq (F : Nat) (Rf7j12 : St → Rz) (Rf7l1 : St → Rz) (Rf7j13 : St → Rz) : ∀ v,aexec VG227 (Af7 F) (bp Try.f7 32676) (ef7j9 v) (kBlock 1 (kSeq (kc VG227 Rf7j12 sp50) (kSeq (kc VG227 Rf7l1 sp50) (kBlock 0 (kSeq (kc VG227 Rf7j13 sp61) (kFin VG227 none (Try.f7).results.toList)))))) = f7_16 F (Rf7j12 ∘ ef7j12) (Rf7l1 ∘ ef7l1) (Rf7j13 ∘ ef7j13) v :=
  seq_cut (by kernel_rfl) (by kernel_rfl) ef7j9 ef7j11 _ (fun k => f7_14 F k (Rf7j12 ∘ ef7j12) (Rf7l1 ∘ ef7l1) (Rf7j13 ∘ ef7j13)) (f7_15 F (Rf7j12 ∘ ef7j12) (Rf7l1 ∘ ef7l1) (Rf7j13 ∘ ef7j13))
    (fun Rf7j11 => f7_14_eq F Rf7j11 Rf7j12 Rf7l1 Rf7j13) (f7_15_eq F Rf7j12 Rf7l1 Rf7j13)
def f7_17 (F : Nat) (kf7j12 : Ty69 → Rz) (kf7l1 : Ty69 → Rz) (kf7j13 : Ty71 → Rz) : Ty69 → Rz := f7_16 F kf7j12 kf7l1 kf7j13
theorem f7_17_eq (F : Nat) (Rf7j12 : St → Rz) (Rf7l1 : St → Rz) (Rf7j13 : St → Rz) : ∀ v,aexec VG227 (Af7 F) (bp Try.f7 16338) (ef7j9 v) (kSeq (kc VG227 Rf7j12 sp50) (kSeq (kc VG227 Rf7l1 sp50) (kBlock 0 (kSeq (kc VG227 Rf7j13 sp61) (kFin VG227 none (Try.f7).results.toList))))) = f7_17 F (Rf7j12 ∘ ef7j12) (Rf7l1 ∘ ef7l1) (Rf7j13 ∘ ef7j13) v := fun v =>
  (block_in  (by kernel_rfl) _ _).trans (f7_16_eq F Rf7j12 Rf7l1 Rf7j13 v)
def f7_18 (F : Nat) (kf7l1 : Ty69 → Rz) (kf7j13 : Ty71 → Rz) : Ty69 → Rz := fun (t2,t7,t12,x4,x5,x6,x7,x8) => (kf7l1 (t2,t7,(IntKind.i64.wrap (t12 + (1 : Int))),x4,x5,x6,x7,x8))
theorem f7_18_eq (F : Nat) (Rf7l1 : St → Rz) (Rf7j13 : St → Rz) : ∀ v,aexec VG227 (Af7 F) (bp Try.f7 16339) (ef7j12 v) (kSeq (kc VG227 Rf7l1 sp50) (kBlock 0 (kSeq (kc VG227 Rf7j13 sp61) (kFin VG227 none (Try.f7).results.toList)))) = f7_18 F (Rf7l1 ∘ ef7l1) (Rf7j13 ∘ ef7j13) v := by
  rintro ⟨t2,t7,t12,x4,x5,x6,x7,x8⟩; kernel_rfl
def f7_19 (F : Nat) (kf7l1 : Ty69 → Rz) (kf7j13 : Ty71 → Rz) : Ty69 → Rz := fun v => f7_17 F (f7_18 F kf7l1 kf7j13) kf7l1 kf7j13 v
theorem f7_19_eq (F : Nat) (Rf7l1 : St → Rz) (Rf7j13 : St → Rz) : ∀ v,aexec VG227 (Af7 F) (bp Try.f7 8169) (ef7j9 v) (kSeq (kc VG227 Rf7l1 sp50) (kBlock 0 (kSeq (kc VG227 Rf7j13 sp61) (kFin VG227 none (Try.f7).results.toList)))) = f7_19 F (Rf7l1 ∘ ef7l1) (Rf7j13 ∘ ef7j13) v :=
  seq_cut (by kernel_rfl) (by kernel_rfl) ef7j9 ef7j12 _ (fun k => f7_17 F k (Rf7l1 ∘ ef7l1) (Rf7j13 ∘ ef7j13)) (f7_18 F (Rf7l1 ∘ ef7l1) (Rf7j13 ∘ ef7j13))
    (fun Rf7j12 => f7_17_eq F Rf7j12 Rf7l1 Rf7j13) (f7_18_eq F Rf7l1 Rf7j13)
def f7_20 (F : Nat) (kf7l1 : Ty69 → Rz) (kf7j13 : Ty71 → Rz) : Ty69 → Rz := fun v => f7_9 F (f7_19 F kf7l1 kf7j13) kf7l1 kf7j13 v
theorem f7_20_eq (F : Nat) (Rf7l1 : St → Rz) (Rf7j13 : St → Rz) : ∀ v,aexec VG227 (Af7 F) (bp Try.f7 4084) (ef7l1 v) (kSeq (kc VG227 Rf7l1 sp50) (kBlock 0 (kSeq (kc VG227 Rf7j13 sp61) (kFin VG227 none (Try.f7).results.toList)))) = f7_20 F (Rf7l1 ∘ ef7l1) (Rf7j13 ∘ ef7j13) v :=
  seq_cut (by kernel_rfl) (by kernel_rfl) ef7l1 ef7j9 _ (fun k => f7_9 F k (Rf7l1 ∘ ef7l1) (Rf7j13 ∘ ef7j13)) (f7_19 F (Rf7l1 ∘ ef7l1) (Rf7j13 ∘ ef7j13))
    (fun Rf7j9 => f7_9_eq F Rf7j9 Rf7l1 Rf7j13) (f7_19_eq F Rf7l1 Rf7j13)
def f7_21_i : Ty68 → Int × Int × Int × (List (List Int)) × (List (List Int)) × (List Int) × (List Int) × Nat := fun (t2,t7,t12,x4,x5,x6,x7) => (t2,t7,t12,x4,x5,x6,x7,x7.length)
def f7_21 (F : Nat) (kf7j13 : Ty71 → Rz) : Ty68 → Rz := fun v => loopN (fun k => f7_20 F k kf7j13) F (f7_21_i v)
theorem f7_21_eq (F : Nat) (Rf7j13 : St → Rz) : ∀ v,aexec VG227 (Af7 F) (bp Try.f7 2042) (ef7j8 v) (kBlock 0 (kSeq (kc VG227 Rf7j13 sp61) (kFin VG227 none (Try.f7).results.toList))) = f7_21 F (Rf7j13 ∘ ef7j13) v :=
  loop_cut (by kernel_rfl) (by kernel_rfl) ef7j8 ef7l1 _ f7_21_i (fun k => f7_20 F k (Rf7j13 ∘ ef7j13))
    (by rintro ⟨t2,t7,t12,x4,x5,x6,x7⟩; kernel_rfl) (fun Rf7l1 => f7_20_eq F Rf7l1 Rf7j13)
def f7_22 (F : Nat) (kf7j13 : Ty71 → Rz) : Ty68 → Rz := f7_21 F kf7j13
theorem f7_22_eq (F : Nat) (Rf7j13 : St → Rz) : ∀ v,aexec VG227 (Af7 F) (bp Try.f7 1021) (ef7j8 v) (kSeq (kc VG227 Rf7j13 sp61) (kFin VG227 none (Try.f7).results.toList)) = f7_22 F (Rf7j13 ∘ ef7j13) v := fun v =>
  (block_in  (by kernel_rfl) _ _).trans (f7_21_eq F Rf7j13 v)
def f7_23 (F : Nat) (kf7j13 : Ty71 → Rz) : Ty67 → Rz := fun v => f7_8 F (f7_22 F kf7j13) kf7j13 v
theorem f7_23_eq (F : Nat) (Rf7j13 : St → Rz) : ∀ v,aexec VG227 (Af7 F) (bp Try.f7 510) (ef7j7 v) (kSeq (kc VG227 Rf7j13 sp61) (kFin VG227 none (Try.f7).results.toList)) = f7_23 F (Rf7j13 ∘ ef7j13) v :=
  seq_cut (by kernel_rfl) (by kernel_rfl) ef7j7 ef7j8 _ (fun k => f7_8 F k (Rf7j13 ∘ ef7j13)) (f7_22 F (Rf7j13 ∘ ef7j13))
    (fun Rf7j8 => f7_8_eq F Rf7j8 Rf7j13) (f7_22_eq F Rf7j13)
def f7_24 (F : Nat) (kf7j14 : Ty69 → Rz) (kf7j15 : Ty66 → Rz) : Ty71 → Rz := fun (t2,t7,x3,x4,x5,x6,x7) => (kf7j14 (t2,t7,(0 : Int),x3,x4,x5,x6,x7))
theorem f7_24_eq (F : Nat) (Rf7j14 : St → Rz) (Rf7j15 : St → Rz) : ∀ v,aexec VG227 (Af7 F) (bp Try.f7 2044) (ef7j13 v) (kSeq (kc VG227 Rf7j14 sp52) (kSeq (kc VG227 Rf7j15 sp60) (kFin VG227 none (Try.f7).results.toList))) = f7_24 F (Rf7j14 ∘ ef7j14) (Rf7j15 ∘ ef7j15) v := by
  rintro ⟨t2,t7,x3,x4,x5,x6,x7⟩; kernel_rfl
def f7_25 (F : Nat) (kf7l3 : Ty69 → Rz) (kf7j15 : Ty66 → Rz) : Ty69 → Rz := fun (t2,t7,t15,x4,x5,x6,x7,x8) => (cond (decide (t15 < t7)) (cond ((decide (0 ≤ t15)) && (decide (t15 < (↑x7.length : Int)))) (cond ((x7.getD (Int.toNat t15) 0) != (1 : Int)) (some ((.bool false),[])) (kf7l3 (t2,t7,(IntKind.i64.wrap (t15 + (1 : Int))),x4,x5,x6,x7,x8))) none) (kf7j15 (t2,t7,x4,x5,x6)))
theorem f7_25_eq (F : Nat) (Rf7l3 : St → Rz) (Rf7j15 : St → Rz) : ∀ v,aexec VG227 (Af7 F) (bp Try.f7 8180) (ef7l3 v) (kSeq (kc VG227 Rf7l3 sp52) (kBlock 4 (kSeq (kc VG227 Rf7j15 sp60) (kFin VG227 none (Try.f7).results.toList)))) = f7_25 F (Rf7l3 ∘ ef7l3) (Rf7j15 ∘ ef7j15) v := by
  rintro ⟨t2,t7,t15,x4,x5,x6,x7,x8⟩; kernel_rfl
def f7_26_i : Ty69 → Int × Int × Int × (List (List Int)) × (List (List Int)) × (List Int) × (List Int) × Nat := fun (t2,t7,t15,x4,x5,x6,x7,x8) => (t2,t7,t15,x4,x5,x6,x7,x8)
def f7_26 (F : Nat) (kf7j15 : Ty66 → Rz) : Ty69 → Rz := fun v => loopN (fun k => f7_25 F k kf7j15) F (f7_26_i v)
theorem f7_26_eq (F : Nat) (Rf7j15 : St → Rz) : ∀ v,aexec VG227 (Af7 F) (bp Try.f7 4090) (ef7j14 v) (kBlock 4 (kSeq (kc VG227 Rf7j15 sp60) (kFin VG227 none (Try.f7).results.toList))) = f7_26 F (Rf7j15 ∘ ef7j15) v :=
  loop_cut (by kernel_rfl) (by kernel_rfl) ef7j14 ef7l3 _ f7_26_i (fun k => f7_25 F k (Rf7j15 ∘ ef7j15))
    (by rintro ⟨t2,t7,t15,x4,x5,x6,x7,x8⟩; kernel_rfl) (fun Rf7l3 => f7_25_eq F Rf7l3 Rf7j15)
def f7_27 (F : Nat) (kf7j15 : Ty66 → Rz) : Ty69 → Rz := f7_26 F kf7j15
theorem f7_27_eq (F : Nat) (Rf7j15 : St → Rz) : ∀ v,aexec VG227 (Af7 F) (bp Try.f7 2045) (ef7j14 v) (kSeq (kc VG227 Rf7j15 sp60) (kFin VG227 none (Try.f7).results.toList)) = f7_27 F (Rf7j15 ∘ ef7j15) v := fun v =>
  (block_in  (by kernel_rfl) _ _).trans (f7_26_eq F Rf7j15 v)
def f7_28 (F : Nat) (kf7j15 : Ty66 → Rz) : Ty71 → Rz := fun v => f7_24 F (f7_27 F kf7j15) kf7j15 v
theorem f7_28_eq (F : Nat) (Rf7j15 : St → Rz) : ∀ v,aexec VG227 (Af7 F) (bp Try.f7 1022) (ef7j13 v) (kSeq (kc VG227 Rf7j15 sp60) (kFin VG227 none (Try.f7).results.toList)) = f7_28 F (Rf7j15 ∘ ef7j15) v :=
  seq_cut (by kernel_rfl) (by kernel_rfl) ef7j13 ef7j14 _ (fun k => f7_24 F k (Rf7j15 ∘ ef7j15)) (f7_27 F (Rf7j15 ∘ ef7j15))
    (fun Rf7j14 => f7_24_eq F Rf7j14 Rf7j15) (f7_27_eq F Rf7j15)
def f7_29 (F : Nat) (kf7j16 : Ty72 → Rz) (kf7j21 : Ty65 → Rz) : Ty66 → Rz := fun (t2,t7,x3,x4,x5) => (kf7j16 (t2,t7,(0 : Int),x3,x4,x5))
theorem f7_29_eq (F : Nat) (Rf7j16 : St → Rz) (Rf7j21 : St → Rz) : ∀ v,aexec VG227 (Af7 F) (bp Try.f7 4092) (ef7j15 v) (kSeq (kc VG227 Rf7j16 sp53) (kSeq (kc VG227 Rf7j21 sp59) (kFin VG227 none (Try.f7).results.toList))) = f7_29 F (Rf7j16 ∘ ef7j16) (Rf7j21 ∘ ef7j21) v := by
  rintro ⟨t2,t7,x3,x4,x5⟩; kernel_rfl
def f7_30 (F : Nat) (kf7j17 : Ty72 → Rz) (kf7l4 : Ty72 → Rz) (kf7j21 : Ty65 → Rz) : Ty72 → Rz := fun (t2,t7,t16,x4,x5,x6) => (cond (decide (t16 < (↑x4.length : Int))) (kf7j17 (t2,t7,t16,x4,x5,x6)) (kf7j21 (t2,t7,x4,x5)))
theorem f7_30_eq (F : Nat) (Rf7j17 : St → Rz) (Rf7l4 : St → Rz) (Rf7j21 : St → Rz) : ∀ v,aexec VG227 (Af7 F) (bp Try.f7 32744) (ef7l4 v) (kSeq (kc VG227 Rf7j17 sp53) (kSeq (kc VG227 Rf7l4 sp53) (kBlock 6 (kSeq (kc VG227 Rf7j21 sp59) (kFin VG227 none (Try.f7).results.toList))))) = f7_30 F (Rf7j17 ∘ ef7j17) (Rf7l4 ∘ ef7l4) (Rf7j21 ∘ ef7j21) v := by
  rintro ⟨t2,t7,t16,x4,x5,x6⟩; kernel_rfl
def f7_31 (F : Nat) (kf7j18 : Ty73 → Rz) (kf7j20 : Ty72 → Rz) (kf7l4 : Ty72 → Rz) (kf7j21 : Ty65 → Rz) : Ty72 → Rz := fun (t2,t7,t16,x4,x5,x6) => (kf7j18 (t2,t7,t16,(-1 : Int),x4,x5,x6))
theorem f7_31_eq (F : Nat) (Rf7j18 : St → Rz) (Rf7j20 : St → Rz) (Rf7l4 : St → Rz) (Rf7j21 : St → Rz) : ∀ v,aexec VG227 (Af7 F) (bp Try.f7 261960) (ef7j17 v) (kSeq (kc VG227 Rf7j18 sp62) (kBlock 7 (kSeq (kc VG227 Rf7j20 sp53) (kSeq (kc VG227 Rf7l4 sp53) (kBlock 6 (kSeq (kc VG227 Rf7j21 sp59) (kFin VG227 none (Try.f7).results.toList))))))) = f7_31 F (Rf7j18 ∘ ef7j18) (Rf7j20 ∘ ef7j20) (Rf7l4 ∘ ef7l4) (Rf7j21 ∘ ef7j21) v := by
  rintro ⟨t2,t7,t16,x4,x5,x6⟩; kernel_rfl
def f7_32 (F : Nat) (kf7j19 : Ty74 → Rz) (kf7j20 : Ty72 → Rz) (kf7l4 : Ty72 → Rz) (kf7j21 : Ty65 → Rz) : Ty73 → Rz := fun (t2,t7,t16,t17,x5,x6,x7) => (kf7j19 (t2,t7,t16,t17,(0 : Int),x5,x6,x7))
theorem f7_32_eq (F : Nat) (Rf7j19 : St → Rz) (Rf7j20 : St → Rz) (Rf7l4 : St → Rz) (Rf7j21 : St → Rz) : ∀ v,aexec VG227 (Af7 F) (bp Try.f7 523922) (ef7j18 v) (kSeq (kc VG227 Rf7j19 sp54) (kBlock 7 (kSeq (kc VG227 Rf7j20 sp53) (kSeq (kc VG227 Rf7l4 sp53) (kBlock 6 (kSeq (kc VG227 Rf7j21 sp59) (kFin VG227 none (Try.f7).results.toList))))))) = f7_32 F (Rf7j19 ∘ ef7j19) (Rf7j20 ∘ ef7j20) (Rf7l4 ∘ ef7l4) (Rf7j21 ∘ ef7j21) v := by
  rintro ⟨t2,t7,t16,t17,x5,x6,x7⟩; kernel_rfl
def f7_33 (F : Nat) (kf7l5 : Ty74 → Rz) (kf7j20 : Ty72 → Rz) (kf7l4 : Ty72 → Rz) (kf7j21 : Ty65 → Rz) : Ty74 → Rz := fun (t2,t7,t16,t17,t18,x6,x7,x8) => (cond ((decide (0 ≤ t16)) && (decide (t16 < (↑x6.length : Int)))) (cond (decide (t18 < (↑(x6.getD (Int.toNat t16) []).length : Int))) (cond ((decide (0 ≤ t16)) && (decide (t16 < (↑x6.length : Int)))) (cond ((decide (0 ≤ t18)) && (decide (t18 < (↑(x6.getD (Int.toNat t16) []).length : Int)))) (cond (decide (((x6.getD (Int.toNat t16) []).getD (Int.toNat t18) 0) < (0 : Int))) (kf7l5 (t2,t7,t16,t17,(IntKind.i64.wrap (t18 + (1 : Int))),x6,x7,x8)) (cond (decide (((x6.getD (Int.toNat t16) []).getD (Int.toNat t18) 0) ≥ t7)) (kf7l5 (t2,t7,t16,t17,(IntKind.i64.wrap (t18 + (1 : Int))),x6,x7,x8)) (cond (decide (t17 ≥ (0 : Int))) (cond ((decide (0 ≤ ((x6.getD (Int.toNat t16) []).getD (Int.toNat t18) 0))) && (decide (((x6.getD (Int.toNat t16) []).getD (Int.toNat t18) 0) < (↑x8.length : Int)))) (cond ((decide (0 ≤ t17)) && (decide (t17 < (↑x8.length : Int)))) (cond ((x8.getD (Int.toNat ((x6.getD (Int.toNat t16) []).getD (Int.toNat t18) 0)) 0) != (x8.getD (Int.toNat t17) 0)) (some ((.bool false),[])) (kf7l5 (t2,t7,t16,((x6.getD (Int.toNat t16) []).getD (Int.toNat t18) 0),(IntKind.i64.wrap (t18 + (1 : Int))),x6,x7,x8))) none) none) (kf7l5 (t2,t7,t16,((x6.getD (Int.toNat t16) []).getD (Int.toNat t18) 0),(IntKind.i64.wrap (t18 + (1 : Int))),x6,x7,x8))))) none) none) (kf7j20 (t2,t7,t16,x6,x7,x8))) none)
theorem f7_33_eq (F : Nat) (Rf7l5 : St → Rz) (Rf7j20 : St → Rz) (Rf7l4 : St → Rz) (Rf7j21 : St → Rz) : ∀ v,aexec VG227 (Af7 F) (bp Try.f7 2095692) (ef7l5 v) (kSeq (kc VG227 Rf7l5 sp54) (kBlock 8 (kBlock 7 (kSeq (kc VG227 Rf7j20 sp53) (kSeq (kc VG227 Rf7l4 sp53) (kBlock 6 (kSeq (kc VG227 Rf7j21 sp59) (kFin VG227 none (Try.f7).results.toList)))))))) = f7_33 F (Rf7l5 ∘ ef7l5) (Rf7j20 ∘ ef7j20) (Rf7l4 ∘ ef7l4) (Rf7j21 ∘ ef7j21) v := by
  rintro ⟨t2,t7,t16,t17,t18,x6,x7,x8⟩; kernel_rfl
def f7_34_i : Ty74 → Int × Int × Int × Int × Int × (List (List Int)) × (List (List Int)) × (List Int) := fun (t2,t7,t16,t17,t18,x6,x7,x8) => (t2,t7,t16,t17,t18,x6,x7,x8)
def f7_34 (F : Nat) (kf7j20 : Ty72 → Rz) (kf7l4 : Ty72 → Rz) (kf7j21 : Ty65 → Rz) : Ty74 → Rz := fun v => loopN (fun k => f7_33 F k kf7j20 kf7l4 kf7j21) F (f7_34_i v)
theorem f7_34_eq (F : Nat) (Rf7j20 : St → Rz) (Rf7l4 : St → Rz) (Rf7j21 : St → Rz) : ∀ v,aexec VG227 (Af7 F) (bp Try.f7 1047846) (ef7j19 v) (kBlock 8 (kBlock 7 (kSeq (kc VG227 Rf7j20 sp53) (kSeq (kc VG227 Rf7l4 sp53) (kBlock 6 (kSeq (kc VG227 Rf7j21 sp59) (kFin VG227 none (Try.f7).results.toList))))))) = f7_34 F (Rf7j20 ∘ ef7j20) (Rf7l4 ∘ ef7l4) (Rf7j21 ∘ ef7j21) v :=
  loop_cut (by kernel_rfl) (by kernel_rfl) ef7j19 ef7l5 _ f7_34_i (fun k => f7_33 F k (Rf7j20 ∘ ef7j20) (Rf7l4 ∘ ef7l4) (Rf7j21 ∘ ef7j21))
    (by rintro ⟨t2,t7,t16,t17,t18,x6,x7,x8⟩; kernel_rfl) (fun Rf7l5 => f7_33_eq F Rf7l5 Rf7j20 Rf7l4 Rf7j21)
def f7_35 (F : Nat) (kf7j20 : Ty72 → Rz) (kf7l4 : Ty72 → Rz) (kf7j21 : Ty65 → Rz) : Ty74 → Rz := f7_34 F kf7j20 kf7l4 kf7j21
theorem f7_35_eq (F : Nat) (Rf7j20 : St → Rz) (Rf7l4 : St → Rz) (Rf7j21 : St → Rz) : ∀ v,aexec VG227 (Af7 F) (bp Try.f7 523923) (ef7j19 v) (kBlock 7 (kSeq (kc VG227 Rf7j20 sp53) (kSeq (kc VG227 Rf7l4 sp53) (kBlock 6 (kSeq (kc VG227 Rf7j21 sp59) (kFin VG227 none (Try.f7).results.toList)))))) = f7_35 F (Rf7j20 ∘ ef7j20) (Rf7l4 ∘ ef7l4) (Rf7j21 ∘ ef7j21) v := fun v =>
  (block_in  (by kernel_rfl) _ _).trans (f7_34_eq F Rf7j20 Rf7l4 Rf7j21 v)
def f7_36 (F : Nat) (kf7j20 : Ty72 → Rz) (kf7l4 : Ty72 → Rz) (kf7j21 : Ty65 → Rz) : Ty73 → Rz := fun v => f7_32 F (f7_35 F kf7j20 kf7l4 kf7j21) kf7j20 kf7l4 kf7j21 v
theorem f7_36_eq (F : Nat) (Rf7j20 : St → Rz) (Rf7l4 : St → Rz) (Rf7j21 : St → Rz) : ∀ v,aexec VG227 (Af7 F) (bp Try.f7 261961) (ef7j18 v) (kBlock 7 (kSeq (kc VG227 Rf7j20 sp53) (kSeq (kc VG227 Rf7l4 sp53) (kBlock 6 (kSeq (kc VG227 Rf7j21 sp59) (kFin VG227 none (Try.f7).results.toList)))))) = f7_36 F (Rf7j20 ∘ ef7j20) (Rf7l4 ∘ ef7l4) (Rf7j21 ∘ ef7j21) v :=
  seq_cut (by kernel_rfl) (by kernel_rfl) ef7j18 ef7j19 _ (fun k => f7_32 F k (Rf7j20 ∘ ef7j20) (Rf7l4 ∘ ef7l4) (Rf7j21 ∘ ef7j21)) (f7_35 F (Rf7j20 ∘ ef7j20) (Rf7l4 ∘ ef7l4) (Rf7j21 ∘ ef7j21))
    (fun Rf7j19 => f7_32_eq F Rf7j19 Rf7j20 Rf7l4 Rf7j21) (f7_35_eq F Rf7j20 Rf7l4 Rf7j21)
def f7_37 (F : Nat) (kf7j20 : Ty72 → Rz) (kf7l4 : Ty72 → Rz) (kf7j21 : Ty65 → Rz) : Ty72 → Rz := fun v => f7_31 F (f7_36 F kf7j20 kf7l4 kf7j21) kf7j20 kf7l4 kf7j21 v
theorem f7_37_eq (F : Nat) (Rf7j20 : St → Rz) (Rf7l4 : St → Rz) (Rf7j21 : St → Rz) : ∀ v,aexec VG227 (Af7 F) (bp Try.f7 130980) (ef7j17 v) (kBlock 7 (kSeq (kc VG227 Rf7j20 sp53) (kSeq (kc VG227 Rf7l4 sp53) (kBlock 6 (kSeq (kc VG227 Rf7j21 sp59) (kFin VG227 none (Try.f7).results.toList)))))) = f7_37 F (Rf7j20 ∘ ef7j20) (Rf7l4 ∘ ef7l4) (Rf7j21 ∘ ef7j21) v :=
  seq_cut (by kernel_rfl) (by kernel_rfl) ef7j17 ef7j18 _ (fun k => f7_31 F k (Rf7j20 ∘ ef7j20) (Rf7l4 ∘ ef7l4) (Rf7j21 ∘ ef7j21)) (f7_36 F (Rf7j20 ∘ ef7j20) (Rf7l4 ∘ ef7l4) (Rf7j21 ∘ ef7j21))
    (fun Rf7j18 => f7_31_eq F Rf7j18 Rf7j20 Rf7l4 Rf7j21) (f7_36_eq F Rf7j20 Rf7l4 Rf7j21)
def f7_38 (F : Nat) (kf7j20 : Ty72 → Rz) (kf7l4 : Ty72 → Rz) (kf7j21 : Ty65 → Rz) : Ty72 → Rz := f7_37 F kf7j20 kf7l4 kf7j21
theorem f7_38_eq (F : Nat) (Rf7j20 : St → Rz) (Rf7l4 : St → Rz) (Rf7j21 : St → Rz) : ∀ v,aexec VG227 (Af7 F) (bp Try.f7 65490) (ef7j17 v) (kSeq (kc VG227 Rf7j20 sp53) (kSeq (kc VG227 Rf7l4 sp53) (kBlock 6 (kSeq (kc VG227 Rf7j21 sp59) (kFin VG227 none (Try.f7).results.toList))))) = f7_38 F (Rf7j20 ∘ ef7j20) (Rf7l4 ∘ ef7l4) (Rf7j21 ∘ ef7j21) v := fun v =>
  (block_in  (by kernel_rfl) _ _).trans (f7_37_eq F Rf7j20 Rf7l4 Rf7j21 v)
def f7_39 (F : Nat) (kf7l4 : Ty72 → Rz) (kf7j21 : Ty65 → Rz) : Ty72 → Rz := fun (t2,t7,t16,x4,x5,x6) => (kf7l4 (t2,t7,(IntKind.i64.wrap (t16 + (1 : Int))),x4,x5,x6))
theorem f7_39_eq (F : Nat) (Rf7l4 : St → Rz) (Rf7j21 : St → Rz) : ∀ v,aexec VG227 (Af7 F) (bp Try.f7 65491) (ef7j20 v) (kSeq (kc VG227 Rf7l4 sp53) (kBlock 6 (kSeq (kc VG227 Rf7j21 sp59) (kFin VG227 none (Try.f7).results.toList)))) = f7_39 F (Rf7l4 ∘ ef7l4) (Rf7j21 ∘ ef7j21) v := by
  rintro ⟨t2,t7,t16,x4,x5,x6⟩; kernel_rfl
def f7_40 (F : Nat) (kf7l4 : Ty72 → Rz) (kf7j21 : Ty65 → Rz) : Ty72 → Rz := fun v => f7_38 F (f7_39 F kf7l4 kf7j21) kf7l4 kf7j21 v
theorem f7_40_eq (F : Nat) (Rf7l4 : St → Rz) (Rf7j21 : St → Rz) : ∀ v,aexec VG227 (Af7 F) (bp Try.f7 32745) (ef7j17 v) (kSeq (kc VG227 Rf7l4 sp53) (kBlock 6 (kSeq (kc VG227 Rf7j21 sp59) (kFin VG227 none (Try.f7).results.toList)))) = f7_40 F (Rf7l4 ∘ ef7l4) (Rf7j21 ∘ ef7j21) v :=
  seq_cut (by kernel_rfl) (by kernel_rfl) ef7j17 ef7j20 _ (fun k => f7_38 F k (Rf7l4 ∘ ef7l4) (Rf7j21 ∘ ef7j21)) (f7_39 F (Rf7l4 ∘ ef7l4) (Rf7j21 ∘ ef7j21))
    (fun Rf7j20 => f7_38_eq F Rf7j20 Rf7l4 Rf7j21) (f7_39_eq F Rf7l4 Rf7j21)
def f7_41 (F : Nat) (kf7l4 : Ty72 → Rz) (kf7j21 : Ty65 → Rz) : Ty72 → Rz := fun v => f7_30 F (f7_40 F kf7l4 kf7j21) kf7l4 kf7j21 v
theorem f7_41_eq (F : Nat) (Rf7l4 : St → Rz) (Rf7j21 : St → Rz) : ∀ v,aexec VG227 (Af7 F) (bp Try.f7 16372) (ef7l4 v) (kSeq (kc VG227 Rf7l4 sp53) (kBlock 6 (kSeq (kc VG227 Rf7j21 sp59) (kFin VG227 none (Try.f7).results.toList)))) = f7_41 F (Rf7l4 ∘ ef7l4) (Rf7j21 ∘ ef7j21) v :=
  seq_cut (by kernel_rfl) (by kernel_rfl) ef7l4 ef7j17 _ (fun k => f7_30 F k (Rf7l4 ∘ ef7l4) (Rf7j21 ∘ ef7j21)) (f7_40 F (Rf7l4 ∘ ef7l4) (Rf7j21 ∘ ef7j21))
    (fun Rf7j17 => f7_30_eq F Rf7j17 Rf7l4 Rf7j21) (f7_40_eq F Rf7l4 Rf7j21)
def f7_42_i : Ty72 → Int × Int × Int × (List (List Int)) × (List (List Int)) × (List Int) := fun (t2,t7,t16,x4,x5,x6) => (t2,t7,t16,x4,x5,x6)
def f7_42 (F : Nat) (kf7j21 : Ty65 → Rz) : Ty72 → Rz := fun v => loopN (fun k => f7_41 F k kf7j21) F (f7_42_i v)
theorem f7_42_eq (F : Nat) (Rf7j21 : St → Rz) : ∀ v,aexec VG227 (Af7 F) (bp Try.f7 8186) (ef7j16 v) (kBlock 6 (kSeq (kc VG227 Rf7j21 sp59) (kFin VG227 none (Try.f7).results.toList))) = f7_42 F (Rf7j21 ∘ ef7j21) v :=
  loop_cut (by kernel_rfl) (by kernel_rfl) ef7j16 ef7l4 _ f7_42_i (fun k => f7_41 F k (Rf7j21 ∘ ef7j21))
    (by rintro ⟨t2,t7,t16,x4,x5,x6⟩; kernel_rfl) (fun Rf7l4 => f7_41_eq F Rf7l4 Rf7j21)
def f7_43 (F : Nat) (kf7j21 : Ty65 → Rz) : Ty72 → Rz := f7_42 F kf7j21
theorem f7_43_eq (F : Nat) (Rf7j21 : St → Rz) : ∀ v,aexec VG227 (Af7 F) (bp Try.f7 4093) (ef7j16 v) (kSeq (kc VG227 Rf7j21 sp59) (kFin VG227 none (Try.f7).results.toList)) = f7_43 F (Rf7j21 ∘ ef7j21) v := fun v =>
  (block_in  (by kernel_rfl) _ _).trans (f7_42_eq F Rf7j21 v)
def f7_44 (F : Nat) (kf7j21 : Ty65 → Rz) : Ty66 → Rz := fun v => f7_29 F (f7_43 F kf7j21) kf7j21 v
theorem f7_44_eq (F : Nat) (Rf7j21 : St → Rz) : ∀ v,aexec VG227 (Af7 F) (bp Try.f7 2046) (ef7j15 v) (kSeq (kc VG227 Rf7j21 sp59) (kFin VG227 none (Try.f7).results.toList)) = f7_44 F (Rf7j21 ∘ ef7j21) v :=
  seq_cut (by kernel_rfl) (by kernel_rfl) ef7j15 ef7j16 _ (fun k => f7_29 F k (Rf7j21 ∘ ef7j21)) (f7_43 F (Rf7j21 ∘ ef7j21))
    (fun Rf7j16 => f7_29_eq F Rf7j16 Rf7j21) (f7_43_eq F Rf7j21)
def f7_45 (F : Nat) (kf7j22 : Ty65 → Rz) : Ty65 → Rz := fun (t2,t7,x3,x4) => (cond (decide (0 < (IntKind.i64.wrap ((↑x3.length : Int) + (1 : Int))))) (kf7j22 (t7,(Reg.around t2 (IntKind.i64.wrap ((↑x3.length : Int) + (1 : Int)))),x3,x4)) none)
theorem f7_45_eq (F : Nat) (Rf7j22 : St → Rz) : ∀ v,aexec VG227 (Af7 F) (bp Try.f7 4094) (ef7j21 v) (kSeq (kc VG227 Rf7j22 sp63) (kFin VG227 none (Try.f7).results.toList)) = f7_45 F (Rf7j22 ∘ ef7j22) v := by
  rintro ⟨t2,t7,x3,x4⟩; kernel_rfl
def f7_46 (F : Nat) (kf7j23 : Ty65 → Rz) : Ty65 → Rz := fun (t7,t20,x3,x4) => (kf7j23 (t7,t20,x3,x4))
theorem f7_46_eq (F : Nat) (Rf7j23 : St → Rz) : ∀ v,aexec VG227 (Af7 F) (bp Try.f7 8190) (ef7j22 v) (kSeq (kc VG227 Rf7j23 sp64) (kFin VG227 none (Try.f7).results.toList)) = f7_46 F (Rf7j23 ∘ ef7j23) v := by
  rintro ⟨t7,t20,x3,x4⟩; kernel_rfl
def f7_47 (F : Nat) (kf7j24 : Ty18 → Rz) (kf7j30 : Ty20 → Rz) : Ty65 → Rz := fun (t7,t20,x3,x4) => (kf7j24 (t7,t20,(IntKind.i64.wrap ((↑x3.length : Int) - (1 : Int))),x3,x4))
theorem f7_47_eq (F : Nat) (Rf7j24 : St → Rz) (Rf7j30 : St → Rz) : ∀ v,aexec VG227 (Af7 F) (bp Try.f7 32764) (ef7j23 v) (kSeq (kc VG227 Rf7j24 sp65) (kSeq (kc VG227 Rf7j30 sp64) (kFin VG227 none (Try.f7).results.toList))) = f7_47 F (Rf7j24 ∘ ef7j24) (Rf7j30 ∘ ef7j30) v := by
  rintro ⟨t7,t20,x3,x4⟩; kernel_rfl
def f7_48 (F : Nat) (kf7j25 : Ty75 → Rz) (kf7l6 : Ty75 → Rz) (kf7j30 : Ty20 → Rz) : Ty75 → Rz := fun (t7,t20,t22,x4,x5,x6) => (cond (decide (t22 ≥ (0 : Int))) (kf7j25 (t7,t20,t22,x4,x5,x6)) (kf7j30 (t7,t20,x4,x5,x6)))
theorem f7_48_eq (F : Nat) (Rf7j25 : St → Rz) (Rf7l6 : St → Rz) (Rf7j30 : St → Rz) : ∀ v,aexec VG227 (Af7 F) (bp Try.f7 262120) (ef7l6 v) (kSeq (kc VG227 Rf7j25 sp65) (kSeq (kc VG227 Rf7l6 sp55) (kBlock 10 (kSeq (kc VG227 Rf7j30 sp64) (kFin VG227 none (Try.f7).results.toList))))) = f7_48 F (Rf7j25 ∘ ef7j25) (Rf7l6 ∘ ef7l6) (Rf7j30 ∘ ef7j30) v := by
  rintro ⟨t7,t20,t22,x4,x5,x6⟩; kernel_rfl
def f7_49 (F : Nat) (kf7j26 : Ty75 → Rz) (kf7j29 : Ty75 → Rz) (kf7l6 : Ty75 → Rz) (kf7j30 : Ty20 → Rz) : Ty75 → Rz := fun (t7,t20,t22,x4,x5,x6) => (kf7j26 (t7,t20,t22,x4,x5,x6))
theorem f7_49_eq (F : Nat) (Rf7j26 : St → Rz) (Rf7j29 : St → Rz) (Rf7l6 : St → Rz) (Rf7j30 : St → Rz) : ∀ v,aexec VG227 (Af7 F) (bp Try.f7 2096968) (ef7j25 v) (kSeq (kc VG227 Rf7j26 sp66) (kBlock 11 (kSeq (kc VG227 Rf7j29 sp65) (kSeq (kc VG227 Rf7l6 sp55) (kBlock 10 (kSeq (kc VG227 Rf7j30 sp64) (kFin VG227 none (Try.f7).results.toList))))))) = f7_49 F (Rf7j26 ∘ ef7j26) (Rf7j29 ∘ ef7j29) (Rf7l6 ∘ ef7l6) (Rf7j30 ∘ ef7j30) v := by
  rintro ⟨t7,t20,t22,x4,x5,x6⟩; kernel_rfl
def f7_50 (F : Nat) (kf7j27 : Ty76 → Rz) (kf7j28 : Ty78 → Rz) (kf7j29 : Ty75 → Rz) (kf7l6 : Ty75 → Rz) (kf7j30 : Ty20 → Rz) : Ty75 → Rz := fun (t7,t20,t22,x4,x5,x6) => (cond ((decide (0 ≤ t22)) && (decide (t22 < (↑x4.length : Int)))) (kf7j27 (t7,t20,t22,(IntKind.i64.wrap ((↑(x4.getD (Int.toNat t22) []).length : Int) - (1 : Int))),x4,x5,x6)) none)
theorem f7_50_eq (F : Nat) (Rf7j27 : St → Rz) (Rf7j28 : St → Rz) (Rf7j29 : St → Rz) (Rf7l6 : St → Rz) (Rf7j30 : St → Rz) : ∀ v,aexec VG227 (Af7 F) (bp Try.f7 8387876) (ef7j26 v) (kSeq (kc VG227 Rf7j27 sp67) (kSeq (kc VG227 Rf7j28 sp66) (kBlock 11 (kSeq (kc VG227 Rf7j29 sp65) (kSeq (kc VG227 Rf7l6 sp55) (kBlock 10 (kSeq (kc VG227 Rf7j30 sp64) (kFin VG227 none (Try.f7).results.toList)))))))) = f7_50 F (Rf7j27 ∘ ef7j27) (Rf7j28 ∘ ef7j28) (Rf7j29 ∘ ef7j29) (Rf7l6 ∘ ef7l6) (Rf7j30 ∘ ef7j30) v := by
  rintro ⟨t7,t20,t22,x4,x5,x6⟩; kernel_rfl
def f7_51 (F : Nat) (kf7l7 : Ty77 → Rz) (kf7j28 : Ty78 → Rz) (kf7j29 : Ty75 → Rz) (kf7l6 : Ty75 → Rz) (kf7j30 : Ty20 → Rz) : Ty77 → Rz := fun (t7,t20,t22,t24,x5,x6,x7,x8) => (cond (decide (t24 ≥ (0 : Int))) (cond ((decide (0 ≤ t22)) && (decide (t22 < (↑x5.length : Int)))) (cond ((decide (0 ≤ t24)) && (decide (t24 < (↑(x5.getD (Int.toNat t22) []).length : Int)))) (cond (decide ((x8.length + 1) < 1073741824)) (kf7l7 (t7,t20,t22,(IntKind.i64.wrap (t24 - (1 : Int))),x5,x6,x7,(x8 ++ [((x5.getD (Int.toNat t22) []).getD (Int.toNat t24) 0)]))) none) none) none) (kf7j28 (t7,t20,t22,x5,x6,x7,x8)))
theorem f7_51_eq (F : Nat) (Rf7l7 : St → Rz) (Rf7j28 : St → Rz) (Rf7j29 : St → Rz) (Rf7l6 : St → Rz) (Rf7j30 : St → Rz) : ∀ v,aexec VG227 (Af7 F) (bp Try.f7 33551508) (ef7l7 v) (kSeq (kc VG227 Rf7l7 sp56) (kBlock 12 (kSeq (kc VG227 Rf7j28 sp66) (kBlock 11 (kSeq (kc VG227 Rf7j29 sp65) (kSeq (kc VG227 Rf7l6 sp55) (kBlock 10 (kSeq (kc VG227 Rf7j30 sp64) (kFin VG227 none (Try.f7).results.toList))))))))) = f7_51 F (Rf7l7 ∘ ef7l7) (Rf7j28 ∘ ef7j28) (Rf7j29 ∘ ef7j29) (Rf7l6 ∘ ef7l6) (Rf7j30 ∘ ef7j30) v := by
  rintro ⟨t7,t20,t22,t24,x5,x6,x7,x8⟩; kernel_rfl
def f7_52_i : Ty76 → Int × Int × Int × Int × (List (List Int)) × (List (List Int)) × (List (List Int)) × (List Int) := fun (t7,t20,t22,t24,x5,x6,x7) => (t7,t20,t22,t24,x5,x6,x7,[])
def f7_52 (F : Nat) (kf7j28 : Ty78 → Rz) (kf7j29 : Ty75 → Rz) (kf7l6 : Ty75 → Rz) (kf7j30 : Ty20 → Rz) : Ty76 → Rz := fun v => loopN (fun k => f7_51 F k kf7j28 kf7j29 kf7l6 kf7j30) F (f7_52_i v)
theorem f7_52_eq (F : Nat) (Rf7j28 : St → Rz) (Rf7j29 : St → Rz) (Rf7l6 : St → Rz) (Rf7j30 : St → Rz) : ∀ v,aexec VG227 (Af7 F) (bp Try.f7 16775754) (ef7j27 v) (kBlock 12 (kSeq (kc VG227 Rf7j28 sp66) (kBlock 11 (kSeq (kc VG227 Rf7j29 sp65) (kSeq (kc VG227 Rf7l6 sp55) (kBlock 10 (kSeq (kc VG227 Rf7j30 sp64) (kFin VG227 none (Try.f7).results.toList)))))))) = f7_52 F (Rf7j28 ∘ ef7j28) (Rf7j29 ∘ ef7j29) (Rf7l6 ∘ ef7l6) (Rf7j30 ∘ ef7j30) v :=
  loop_cut (by kernel_rfl) (by kernel_rfl) ef7j27 ef7l7 _ f7_52_i (fun k => f7_51 F k (Rf7j28 ∘ ef7j28) (Rf7j29 ∘ ef7j29) (Rf7l6 ∘ ef7l6) (Rf7j30 ∘ ef7j30))
    (by rintro ⟨t7,t20,t22,t24,x5,x6,x7⟩; kernel_rfl) (fun Rf7l7 => f7_51_eq F Rf7l7 Rf7j28 Rf7j29 Rf7l6 Rf7j30)
def f7_53 (F : Nat) (kf7j28 : Ty78 → Rz) (kf7j29 : Ty75 → Rz) (kf7l6 : Ty75 → Rz) (kf7j30 : Ty20 → Rz) : Ty76 → Rz := f7_52 F kf7j28 kf7j29 kf7l6 kf7j30
theorem f7_53_eq (F : Nat) (Rf7j28 : St → Rz) (Rf7j29 : St → Rz) (Rf7l6 : St → Rz) (Rf7j30 : St → Rz) : ∀ v,aexec VG227 (Af7 F) (bp Try.f7 8387877) (ef7j27 v) (kSeq (kc VG227 Rf7j28 sp66) (kBlock 11 (kSeq (kc VG227 Rf7j29 sp65) (kSeq (kc VG227 Rf7l6 sp55) (kBlock 10 (kSeq (kc VG227 Rf7j30 sp64) (kFin VG227 none (Try.f7).results.toList))))))) = f7_53 F (Rf7j28 ∘ ef7j28) (Rf7j29 ∘ ef7j29) (Rf7l6 ∘ ef7l6) (Rf7j30 ∘ ef7j30) v := fun v =>
  (block_in  (by kernel_rfl) _ _).trans (f7_52_eq F Rf7j28 Rf7j29 Rf7l6 Rf7j30 v)
def f7_54 (F : Nat) (kf7j28 : Ty78 → Rz) (kf7j29 : Ty75 → Rz) (kf7l6 : Ty75 → Rz) (kf7j30 : Ty20 → Rz) : Ty75 → Rz := fun v => f7_50 F (f7_53 F kf7j28 kf7j29 kf7l6 kf7j30) kf7j28 kf7j29 kf7l6 kf7j30 v
theorem f7_54_eq (F : Nat) (Rf7j28 : St → Rz) (Rf7j29 : St → Rz) (Rf7l6 : St → Rz) (Rf7j30 : St → Rz) : ∀ v,aexec VG227 (Af7 F) (bp Try.f7 4193938) (ef7j26 v) (kSeq (kc VG227 Rf7j28 sp66) (kBlock 11 (kSeq (kc VG227 Rf7j29 sp65) (kSeq (kc VG227 Rf7l6 sp55) (kBlock 10 (kSeq (kc VG227 Rf7j30 sp64) (kFin VG227 none (Try.f7).results.toList))))))) = f7_54 F (Rf7j28 ∘ ef7j28) (Rf7j29 ∘ ef7j29) (Rf7l6 ∘ ef7l6) (Rf7j30 ∘ ef7j30) v :=
  seq_cut (by kernel_rfl) (by kernel_rfl) ef7j26 ef7j27 _ (fun k => f7_50 F k (Rf7j28 ∘ ef7j28) (Rf7j29 ∘ ef7j29) (Rf7l6 ∘ ef7l6) (Rf7j30 ∘ ef7j30)) (f7_53 F (Rf7j28 ∘ ef7j28) (Rf7j29 ∘ ef7j29) (Rf7l6 ∘ ef7l6) (Rf7j30 ∘ ef7j30))
    (fun Rf7j27 => f7_50_eq F Rf7j27 Rf7j28 Rf7j29 Rf7l6 Rf7j30) (f7_53_eq F Rf7j28 Rf7j29 Rf7l6 Rf7j30)
def f7_55 (F : Nat) (kf7j29 : Ty75 → Rz) (kf7l6 : Ty75 → Rz) (kf7j30 : Ty20 → Rz) : Ty78 → Rz := fun (t7,t20,t22,x4,x5,x6,x7) => (cond (decide ((x6.length + 1) < 1073741824)) (kf7j29 (t7,t20,t22,x4,x5,(x6 ++ [x7]))) none)
theorem f7_55_eq (F : Nat) (Rf7j29 : St → Rz) (Rf7l6 : St → Rz) (Rf7j30 : St → Rz) : ∀ v,aexec VG227 (Af7 F) (bp Try.f7 4193939) (ef7j28 v) (kBlock 11 (kSeq (kc VG227 Rf7j29 sp65) (kSeq (kc VG227 Rf7l6 sp55) (kBlock 10 (kSeq (kc VG227 Rf7j30 sp64) (kFin VG227 none (Try.f7).results.toList)))))) = f7_55 F (Rf7j29 ∘ ef7j29) (Rf7l6 ∘ ef7l6) (Rf7j30 ∘ ef7j30) v := by
  rintro ⟨t7,t20,t22,x4,x5,x6,x7⟩; kernel_rfl
def f7_56 (F : Nat) (kf7j29 : Ty75 → Rz) (kf7l6 : Ty75 → Rz) (kf7j30 : Ty20 → Rz) : Ty75 → Rz := fun v => f7_54 F (f7_55 F kf7j29 kf7l6 kf7j30) kf7j29 kf7l6 kf7j30 v
theorem f7_56_eq (F : Nat) (Rf7j29 : St → Rz) (Rf7l6 : St → Rz) (Rf7j30 : St → Rz) : ∀ v,aexec VG227 (Af7 F) (bp Try.f7 2096969) (ef7j26 v) (kBlock 11 (kSeq (kc VG227 Rf7j29 sp65) (kSeq (kc VG227 Rf7l6 sp55) (kBlock 10 (kSeq (kc VG227 Rf7j30 sp64) (kFin VG227 none (Try.f7).results.toList)))))) = f7_56 F (Rf7j29 ∘ ef7j29) (Rf7l6 ∘ ef7l6) (Rf7j30 ∘ ef7j30) v :=
  seq_cut (by kernel_rfl) (by kernel_rfl) ef7j26 ef7j28 _ (fun k => f7_54 F k (Rf7j29 ∘ ef7j29) (Rf7l6 ∘ ef7l6) (Rf7j30 ∘ ef7j30)) (f7_55 F (Rf7j29 ∘ ef7j29) (Rf7l6 ∘ ef7l6) (Rf7j30 ∘ ef7j30))
    (fun Rf7j28 => f7_54_eq F Rf7j28 Rf7j29 Rf7l6 Rf7j30) (f7_55_eq F Rf7j29 Rf7l6 Rf7j30)
def f7_57 (F : Nat) (kf7j29 : Ty75 → Rz) (kf7l6 : Ty75 → Rz) (kf7j30 : Ty20 → Rz) : Ty75 → Rz := fun v => f7_49 F (f7_56 F kf7j29 kf7l6 kf7j30) kf7j29 kf7l6 kf7j30 v
theorem f7_57_eq (F : Nat) (Rf7j29 : St → Rz) (Rf7l6 : St → Rz) (Rf7j30 : St → Rz) : ∀ v,aexec VG227 (Af7 F) (bp Try.f7 1048484) (ef7j25 v) (kBlock 11 (kSeq (kc VG227 Rf7j29 sp65) (kSeq (kc VG227 Rf7l6 sp55) (kBlock 10 (kSeq (kc VG227 Rf7j30 sp64) (kFin VG227 none (Try.f7).results.toList)))))) = f7_57 F (Rf7j29 ∘ ef7j29) (Rf7l6 ∘ ef7l6) (Rf7j30 ∘ ef7j30) v :=
  seq_cut (by kernel_rfl) (by kernel_rfl) ef7j25 ef7j26 _ (fun k => f7_49 F k (Rf7j29 ∘ ef7j29) (Rf7l6 ∘ ef7l6) (Rf7j30 ∘ ef7j30)) (f7_56 F (Rf7j29 ∘ ef7j29) (Rf7l6 ∘ ef7l6) (Rf7j30 ∘ ef7j30))
    (fun Rf7j26 => f7_49_eq F Rf7j26 Rf7j29 Rf7l6 Rf7j30) (f7_56_eq F Rf7j29 Rf7l6 Rf7j30)
def f7_58 (F : Nat) (kf7j29 : Ty75 → Rz) (kf7l6 : Ty75 → Rz) (kf7j30 : Ty20 → Rz) : Ty75 → Rz := f7_57 F kf7j29 kf7l6 kf7j30
theorem f7_58_eq (F : Nat) (Rf7j29 : St → Rz) (Rf7l6 : St → Rz) (Rf7j30 : St → Rz) : ∀ v,aexec VG227 (Af7 F) (bp Try.f7 524242) (ef7j25 v) (kSeq (kc VG227 Rf7j29 sp65) (kSeq (kc VG227 Rf7l6 sp55) (kBlock 10 (kSeq (kc VG227 Rf7j30 sp64) (kFin VG227 none (Try.f7).results.toList))))) = f7_58 F (Rf7j29 ∘ ef7j29) (Rf7l6 ∘ ef7l6) (Rf7j30 ∘ ef7j30) v := fun v =>
  (block_in  (by kernel_rfl) _ _).trans (f7_57_eq F Rf7j29 Rf7l6 Rf7j30 v)
def f7_59 (F : Nat) (kf7l6 : Ty75 → Rz) (kf7j30 : Ty20 → Rz) : Ty75 → Rz := fun (t7,t20,t22,x4,x5,x6) => (kf7l6 (t7,t20,(IntKind.i64.wrap (t22 - (1 : Int))),x4,x5,x6))
theorem f7_59_eq (F : Nat) (Rf7l6 : St → Rz) (Rf7j30 : St → Rz) : ∀ v,aexec VG227 (Af7 F) (bp Try.f7 524243) (ef7j29 v) (kSeq (kc VG227 Rf7l6 sp55) (kBlock 10 (kSeq (kc VG227 Rf7j30 sp64) (kFin VG227 none (Try.f7).results.toList)))) = f7_59 F (Rf7l6 ∘ ef7l6) (Rf7j30 ∘ ef7j30) v := by
  rintro ⟨t7,t20,t22,x4,x5,x6⟩; kernel_rfl
def f7_60 (F : Nat) (kf7l6 : Ty75 → Rz) (kf7j30 : Ty20 → Rz) : Ty75 → Rz := fun v => f7_58 F (f7_59 F kf7l6 kf7j30) kf7l6 kf7j30 v
theorem f7_60_eq (F : Nat) (Rf7l6 : St → Rz) (Rf7j30 : St → Rz) : ∀ v,aexec VG227 (Af7 F) (bp Try.f7 262121) (ef7j25 v) (kSeq (kc VG227 Rf7l6 sp55) (kBlock 10 (kSeq (kc VG227 Rf7j30 sp64) (kFin VG227 none (Try.f7).results.toList)))) = f7_60 F (Rf7l6 ∘ ef7l6) (Rf7j30 ∘ ef7j30) v :=
  seq_cut (by kernel_rfl) (by kernel_rfl) ef7j25 ef7j29 _ (fun k => f7_58 F k (Rf7l6 ∘ ef7l6) (Rf7j30 ∘ ef7j30)) (f7_59 F (Rf7l6 ∘ ef7l6) (Rf7j30 ∘ ef7j30))
    (fun Rf7j29 => f7_58_eq F Rf7j29 Rf7l6 Rf7j30) (f7_59_eq F Rf7l6 Rf7j30)
def f7_61 (F : Nat) (kf7l6 : Ty75 → Rz) (kf7j30 : Ty20 → Rz) : Ty75 → Rz := fun v => f7_48 F (f7_60 F kf7l6 kf7j30) kf7l6 kf7j30 v
theorem f7_61_eq (F : Nat) (Rf7l6 : St → Rz) (Rf7j30 : St → Rz) : ∀ v,aexec VG227 (Af7 F) (bp Try.f7 131060) (ef7l6 v) (kSeq (kc VG227 Rf7l6 sp55) (kBlock 10 (kSeq (kc VG227 Rf7j30 sp64) (kFin VG227 none (Try.f7).results.toList)))) = f7_61 F (Rf7l6 ∘ ef7l6) (Rf7j30 ∘ ef7j30) v :=
  seq_cut (by kernel_rfl) (by kernel_rfl) ef7l6 ef7j25 _ (fun k => f7_48 F k (Rf7l6 ∘ ef7l6) (Rf7j30 ∘ ef7j30)) (f7_60 F (Rf7l6 ∘ ef7l6) (Rf7j30 ∘ ef7j30))
    (fun Rf7j25 => f7_48_eq F Rf7j25 Rf7l6 Rf7j30) (f7_60_eq F Rf7l6 Rf7j30)
def f7_62_i : Ty18 → Int × Int × Int × (List (List Int)) × (List (List Int)) × (List (List Int)) := fun (t7,t20,t22,x4,x5) => (t7,t20,t22,x4,x5,[])
def f7_62 (F : Nat) (kf7j30 : Ty20 → Rz) : Ty18 → Rz := fun v => loopN (fun k => f7_61 F k kf7j30) F (f7_62_i v)
theorem f7_62_eq (F : Nat) (Rf7j30 : St → Rz) : ∀ v,aexec VG227 (Af7 F) (bp Try.f7 65530) (ef7j24 v) (kBlock 10 (kSeq (kc VG227 Rf7j30 sp64) (kFin VG227 none (Try.f7).results.toList))) = f7_62 F (Rf7j30 ∘ ef7j30) v :=
  loop_cut (by kernel_rfl) (by kernel_rfl) ef7j24 ef7l6 _ f7_62_i (fun k => f7_61 F k (Rf7j30 ∘ ef7j30))
    (by rintro ⟨t7,t20,t22,x4,x5⟩; kernel_rfl) (fun Rf7l6 => f7_61_eq F Rf7l6 Rf7j30)
def f7_63 (F : Nat) (kf7j30 : Ty20 → Rz) : Ty18 → Rz := f7_62 F kf7j30
theorem f7_63_eq (F : Nat) (Rf7j30 : St → Rz) : ∀ v,aexec VG227 (Af7 F) (bp Try.f7 32765) (ef7j24 v) (kSeq (kc VG227 Rf7j30 sp64) (kFin VG227 none (Try.f7).results.toList)) = f7_63 F (Rf7j30 ∘ ef7j30) v := fun v =>
  (block_in  (by kernel_rfl) _ _).trans (f7_62_eq F Rf7j30 v)
def f7_64 (F : Nat) (kf7j30 : Ty20 → Rz) : Ty65 → Rz := fun v => f7_47 F (f7_63 F kf7j30) kf7j30 v
theorem f7_64_eq (F : Nat) (Rf7j30 : St → Rz) : ∀ v,aexec VG227 (Af7 F) (bp Try.f7 16382) (ef7j23 v) (kSeq (kc VG227 Rf7j30 sp64) (kFin VG227 none (Try.f7).results.toList)) = f7_64 F (Rf7j30 ∘ ef7j30) v :=
  seq_cut (by kernel_rfl) (by kernel_rfl) ef7j23 ef7j24 _ (fun k => f7_47 F k (Rf7j30 ∘ ef7j30)) (f7_63 F (Rf7j30 ∘ ef7j30))
    (fun Rf7j24 => f7_47_eq F Rf7j24 Rf7j30) (f7_63_eq F Rf7j30)
def f7_65 (F : Nat) : Ty20 → Rz := fun (t7,t20,x3,x4,x5) => (cond (((decide (0 ≤ t20)) && (decide (t20 ≤ (↑x3.length : Int)))) && (decide ((↑x3.length : Int) ≤ (↑x3.length : Int)))) (cond (decide ((x5.length + (x3.length - (Int.toNat t20))) < 1073741824)) (cond (decide ((Isl.groups t7 (x5 ++ ((x3.drop (Int.toNat t20)).take (x3.length - (Int.toNat t20))))) = x4)) (some ((.bool true),[])) (some ((.bool false),[]))) none) none)
theorem f7_65_eq (F : Nat) : ∀ v,aexec VG227 (Af7 F) (bp Try.f7 16383) (ef7j30 v) (kFin VG227 none (Try.f7).results.toList) = f7_65 F v := by
  rintro ⟨t7,t20,x3,x4,x5⟩; kernel_rfl
def f7_66 (F : Nat) : Ty65 → Rz := fun v => f7_64 F (f7_65 F) v
theorem f7_66_eq (F : Nat) : ∀ v,aexec VG227 (Af7 F) (bp Try.f7 8191) (ef7j23 v) (kFin VG227 none (Try.f7).results.toList) = f7_66 F v :=
  seq_cut (by kernel_rfl) (by kernel_rfl) ef7j23 ef7j30 _ (fun k => f7_64 F k) (f7_65 F)
    (fun Rf7j30 => f7_64_eq F Rf7j30) (f7_65_eq F)
def f7_67 (F : Nat) : Ty65 → Rz := fun v => f7_46 F (f7_66 F) v
theorem f7_67_eq (F : Nat) : ∀ v,aexec VG227 (Af7 F) (bp Try.f7 4095) (ef7j22 v) (kFin VG227 none (Try.f7).results.toList) = f7_67 F v :=
  seq_cut (by kernel_rfl) (by kernel_rfl) ef7j22 ef7j23 _ (fun k => f7_46 F k) (f7_66 F)
    (fun Rf7j23 => f7_46_eq F Rf7j23) (f7_66_eq F)
def f7_68 (F : Nat) : Ty65 → Rz := fun v => f7_45 F (f7_67 F) v
theorem f7_68_eq (F : Nat) : ∀ v,aexec VG227 (Af7 F) (bp Try.f7 2047) (ef7j21 v) (kFin VG227 none (Try.f7).results.toList) = f7_68 F v :=
  seq_cut (by kernel_rfl) (by kernel_rfl) ef7j21 ef7j22 _ (fun k => f7_45 F k) (f7_67 F)
    (fun Rf7j22 => f7_45_eq F Rf7j22) (f7_67_eq F)
def f7_69 (F : Nat) : Ty66 → Rz := fun v => f7_44 F (f7_68 F) v
theorem f7_69_eq (F : Nat) : ∀ v,aexec VG227 (Af7 F) (bp Try.f7 1023) (ef7j15 v) (kFin VG227 none (Try.f7).results.toList) = f7_69 F v :=
  seq_cut (by kernel_rfl) (by kernel_rfl) ef7j15 ef7j21 _ (fun k => f7_44 F k) (f7_68 F)
    (fun Rf7j21 => f7_44_eq F Rf7j21) (f7_68_eq F)
def f7_70 (F : Nat) : Ty71 → Rz := fun v => f7_28 F (f7_69 F) v
theorem f7_70_eq (F : Nat) : ∀ v,aexec VG227 (Af7 F) (bp Try.f7 511) (ef7j13 v) (kFin VG227 none (Try.f7).results.toList) = f7_70 F v :=
  seq_cut (by kernel_rfl) (by kernel_rfl) ef7j13 ef7j15 _ (fun k => f7_28 F k) (f7_69 F)
    (fun Rf7j15 => f7_28_eq F Rf7j15) (f7_69_eq F)
def f7_71 (F : Nat) : Ty67 → Rz := fun v => f7_23 F (f7_70 F) v
theorem f7_71_eq (F : Nat) : ∀ v,aexec VG227 (Af7 F) (bp Try.f7 255) (ef7j7 v) (kFin VG227 none (Try.f7).results.toList) = f7_71 F v :=
  seq_cut (by kernel_rfl) (by kernel_rfl) ef7j7 ef7j13 _ (fun k => f7_23 F k) (f7_70 F)
    (fun Rf7j13 => f7_23_eq F Rf7j13) (f7_70_eq F)
def f7_72 (F : Nat) : Ty66 → Rz := fun v => f7_7 F (f7_71 F) v
theorem f7_72_eq (F : Nat) : ∀ v,aexec VG227 (Af7 F) (bp Try.f7 127) (ef7j6 v) (kFin VG227 none (Try.f7).results.toList) = f7_72 F v :=
  seq_cut (by kernel_rfl) (by kernel_rfl) ef7j6 ef7j7 _ (fun k => f7_7 F k) (f7_71 F)
    (fun Rf7j7 => f7_7_eq F Rf7j7) (f7_71_eq F)
def f7_73 (F : Nat) : Ty66 → Rz := fun v => f7_6 F (f7_72 F) v
theorem f7_73_eq (F : Nat) : ∀ v,aexec VG227 (Af7 F) (bp Try.f7 63) (ef7j5 v) (kFin VG227 none (Try.f7).results.toList) = f7_73 F v :=
  seq_cut (by kernel_rfl) (by kernel_rfl) ef7j5 ef7j6 _ (fun k => f7_6 F k) (f7_72 F)
    (fun Rf7j6 => f7_6_eq F Rf7j6) (f7_72_eq F)
def f7_74 (F : Nat) : Ty65 → Rz := fun v => f7_5 F (f7_73 F) v
theorem f7_74_eq (F : Nat) : ∀ v,aexec VG227 (Af7 F) (bp Try.f7 31) (ef7j4 v) (kFin VG227 none (Try.f7).results.toList) = f7_74 F v :=
  seq_cut (by kernel_rfl) (by kernel_rfl) ef7j4 ef7j5 _ (fun k => f7_5 F k) (f7_73 F)
    (fun Rf7j5 => f7_5_eq F Rf7j5) (f7_73_eq F)
def f7_75 (F : Nat) : Ty64 → Rz := fun v => f7_4 F (f7_74 F) v
theorem f7_75_eq (F : Nat) : ∀ v,aexec VG227 (Af7 F) (bp Try.f7 15) (ef7j3 v) (kFin VG227 none (Try.f7).results.toList) = f7_75 F v :=
  seq_cut (by kernel_rfl) (by kernel_rfl) ef7j3 ef7j4 _ (fun k => f7_4 F k) (f7_74 F)
    (fun Rf7j4 => f7_4_eq F Rf7j4) (f7_74_eq F)
def f7_76 (F : Nat) : (List Int) × Int × Int → Rz := fun v => f7_3 F (f7_75 F) v
theorem f7_76_eq (F : Nat) : ∀ v,aexec VG227 (Af7 F) (bp Try.f7 7) (ef7j2 v) (kFin VG227 none (Try.f7).results.toList) = f7_76 F v :=
  seq_cut (by kernel_rfl) (by kernel_rfl) ef7j2 ef7j3 _ (fun k => f7_3 F k) (f7_75 F)
    (fun Rf7j3 => f7_3_eq F Rf7j3) (f7_75_eq F)
def f7_77 (F : Nat) : (List Int) × Int × Int → Rz := fun v => f7_2 F (f7_76 F) v
theorem f7_77_eq (F : Nat) : ∀ v,aexec VG227 (Af7 F) (bp Try.f7 3) (ef7j1 v) (kFin VG227 none (Try.f7).results.toList) = f7_77 F v :=
  seq_cut (by kernel_rfl) (by kernel_rfl) ef7j1 ef7j2 _ (fun k => f7_2 F k) (f7_76 F)
    (fun Rf7j2 => f7_2_eq F Rf7j2) (f7_76_eq F)
def f7_78 (F : Nat) : (List Int) × Int × Int → Rz := fun v => f7_1 F (f7_77 F) v
theorem f7_78_eq (F : Nat) : ∀ v,aexec VG227 (Af7 F) (sub (bodyOf Try.f7) []) (ef7_a v) (kFin VG227 none (Try.f7).results.toList) = f7_78 F v :=
  seq_cut (by kernel_rfl) (by kernel_rfl) ef7_a ef7j1 _ (fun k => f7_1 F k) (f7_77 F)
    (fun Rf7j1 => f7_1_eq F Rf7j1) (f7_77_eq F)
def f7 (F : Nat) : (List Int) × Int × Int → Rz := f7_78 F
theorem f7_body (F : Nat) (a0 : List Int) (a1 : Int) (a2 : Int) : abody VG227 (Af7 F) Try.f7 [(.vs (.rI .i64 a0) 0 1),(.int .i64 a1),(.int .i64 a2)] [] = f7 F (a0,a1,a2) :=
  (abody_in (c := (sub (bodyOf Try.f7) [])) (by kernel_rfl) (s := ef7_a (a0,a1,a2)) (by kernel_rfl)).trans (f7_78_eq F (a0,a1,a2))
def r7 : CRun := fun X H => match X,H with
  | [(.vs (.rI .i64 a0) 0 1),(.int .i64 a1),(.int .i64 a2)],[] => some (true,(.bool true),[])
  | _,_ => none
theorem s7 (a0 : List Int) (a1 : Int) (a2 : Int) (h0 : okV (.vs (.rI .i64 a0) 0 1)) (h1 : okV (.int .i64 a1)) (h2 : okV (.int .i64 a2)) : ∃ F,f7 F (a0,a1,a2) = some ((.bool true),[]) := by
  have hr := Reg.around_lt (n := a1) (m := 14) (by decide)
  refine ⟨100,?_⟩
  simp only [f7_1,f7_2,f7_3,f7_4,f7_5,f7_6,f7_7,f7_8,f7_21_i,f7_21,f7_22,f7_23,f7_24,f7_25,f7_26_i,f7_26,f7_27,f7_28,f7_29,f7_30,f7_31,f7_32,f7_33,f7_34_i,f7_34,f7_35,f7_36,f7_37,f7_38,f7_39,f7_40,f7_41,f7_42_i,f7_42,f7_43,f7_44,f7_45,f7_46,f7_47,f7_48,f7_49,f7_50,f7_51,f7_52_i,f7_52,f7_53,f7_54,f7_55,f7_56,f7_57,f7_58,f7_59,f7_60,f7_61,f7_62_i,f7_62,f7_63,f7_64,f7_65,f7_66,f7_67,f7_68,f7_69,f7_70,f7_71,f7_72,f7_73,f7_74,f7_75,f7_76,f7_77,f7_78,f7,dec_and]
  rw [cond_pos (by decide),i64w (by omega) (by omega)]
  generalize hk : (1 : Int) + Reg.around a1 14 = t
  have hs := Isl.nums_lt t.toNat
  have g0 := Isl.groups_clss (n := t) (by omega) (by omega) (Isl.some a0 t)
  have l1 := Isl.some_len a0 t
  have l2 := Isl.some_each a0 t
  have l3 := (Isl.groups_bound t (Isl.some a0 t)).1
  have l4 := Isl.groups_flat (n := t) (N := 14) (by omega) (Isl.some a0 t)
  have l6 := (Isl.groups_bound t (Isl.some a0 t)).2
  have l7 := Isl.of_len (n := t) (by omega) (by omega) (Isl.groups t (Isl.some a0 t))
  have hsame : ∀ x ∈ Isl.nums t.toNat,∀ y,Isl.Conn (Isl.nums t.toNat) (Isl.some a0 t) x y → (Isl.of t (Isl.groups t (Isl.some a0 t))).getD x.toNat 0 = (Isl.of t (Isl.groups t (Isl.some a0 t))).getD y.toNat 0 :=
    fun x hx y hc => Isl.of_same (by omega) (by omega) _ hx hc
  have hg := fun g (h : g ∈ Isl.groups t (Isl.some a0 t)) => Isl.group_ok (g := g) (links := Isl.some a0 t) hs (by rw [← g0]; exact h)
  have hidx : ∀ i,i < (Isl.groups t (Isl.some a0 t)).length → ∀ x ∈ (Isl.groups t (Isl.some a0 t)).getD i [],(Isl.of t (Isl.groups t (Isl.some a0 t))).getD x.toNat 0 = (i : Int) := fun i hi x hx => by
    have hm := Isl.mem_nums.1 ((hg _ (Isl.getD_mem' hi)).2.2.1 x hx)
    rw [Isl.of_get (by omega) (by omega) _ hm.1 (by omega)]
    rw [g0] at hi hx ⊢
    exact Isl.idx_clss hs hi hx
  have hheads : ∀ i,i + 1 < (Isl.groups t (Isl.some a0 t)).length → ((Isl.groups t (Isl.some a0 t)).getD i []).getD 0 0 < ((Isl.groups t (Isl.some a0 t)).getD (i + 1) []).getD 0 0 := fun i hi => by
    rw [g0] at hi ⊢
    exact Isl.heads_lt hs hi
  have hnd : (Isl.groups t (Isl.some a0 t)).flatten.Nodup := by rw [g0]; exact Isl.clss_nodup hs
  have hall : ∀ x : Int,0 ≤ x → x < (t.toNat : Int) → x ∈ (Isl.groups t (Isl.some a0 t)).flatten := fun x h0 h1 => by
    have := Isl.mem_nums.2 ⟨h0,h1⟩
    rw [← Isl.clss_flat (links := Isl.some a0 t) hs,Isl.mem_set,← g0] at this
    exact this
  have hturn : ∀ a b,Isl.groups t (((Isl.some a0 t).map List.reverse).reverse ++ (((Isl.some a0 t).drop a).take b)) = Isl.groups t (Isl.some a0 t) := fun a b => by
    rw [g0,Isl.groups_clss (n := t) (by omega) (by omega)]
    exact Isl.clss_turn hs a b
  generalize Isl.of t (Isl.groups t (Isl.some a0 t)) = O at l7 hsame hidx
  rw [cond_pos (by omega),show (((O.length : Nat) : Int) != t) = false by rw [bne_eq_false_iff_eq]; omega,cond_false,cond_pos (by omega),List.length_replicate]
  generalize Isl.groups t (Isl.some a0 t) = G at hg l3 l4 l6 hidx hheads hnd hall hturn
  generalize Isl.some a0 t = links at hsame hg l1 l2 hturn
  have tl : ∀ i,(G.take i).flatten.length ≤ 196 := fun i => by
    have := Isl.flatten_take_le G i; omega
  have inner1 : ∀ i,i < G.length → ∀ k18 k10 k9 k20,loopN (fun k => f7_11 100 k k18 k10 k9 k20) 100 (a2,t,(i : Int),0,links,G,O,Isl.mt t.toNat (G.take i).flatten,t.toNat) = k18 (a2,t,(i : Int),links,G,O,Isl.mt t.toNat (G.take (i + 1)).flatten,t.toNat) := by
    intro i hi k18 k10 k9 k20
    obtain ⟨c1,c2,c3,c4,c5⟩ := hg _ (Isl.getD_mem' hi)
    have hl := Isl.getD_len l6 i
    have hfl := tl i
    rw [Isl.flat_snoc G hi]
    refine loopN_from (fun j => (a2,t,(i : Int),(j : Int),links,G,O,Isl.mt t.toNat ((G.take i).flatten ++ (G.getD i []).take j),t.toNat)) (G.getD i []).length (by simp) (fun j hj k => ?_) (fun k => ?_) _ (by omega)
    · have hx := Isl.mem_nums.1 (c3 _ (Isl.getD_mem hj))
      have ho := hidx i hi _ (Isl.getD_mem hj)
      have hpl : ((G.take i).flatten ++ (G.getD i []).take j).length < 1000000 := by rw [List.length_append,List.length_take]; omega
      have hsn := Isl.mt_snoc hx.1 hx.2 hpl
      rw [List.append_assoc,Reg.take_get _ 0 j hj] at hsn
      have hml := Isl.mt_len t.toNat ((G.take i).flatten ++ (G.getD i []).take j)
      have ew1 : IntKind.i64.wrap ((j : Int) - 1) = (j : Int) - 1 := i64w (by omega) (by omega)
      have ew2 : IntKind.i64.wrap ((i : Int) - 1) = (i : Int) - 1 := i64w (by omega) (by omega)
      have ew3 : IntKind.i64.wrap ((j : Int) + 1) = (j : Int) + 1 := i64w (by omega) (by omega)
      have en1 : Int.toNat ((j : Int) - 1) = j - 1 := by omega
      have en2 : Int.toNat ((i : Int) - 1) = i - 1 := by omega
      simp only [f7_11,dec_and,Int.toNat_natCast,ew1,ew2,ew3,en1,en2,hsn]
      have hT : (bif decide (0 ≤ (G.getD i []).getD j 0 ∧ (G.getD i []).getD j 0 < ((Isl.mt t.toNat ((G.take i).flatten ++ (G.getD i []).take j)).length : Int)) then
          bif decide (0 ≤ (G.getD i []).getD j 0 ∧ (G.getD i []).getD j 0 < ((Isl.mt t.toNat ((G.take i).flatten ++ (G.getD i []).take j)).length : Int)) then
            k (a2,t,(i : Int),(j : Int) + 1,links,G,O,Isl.mt t.toNat ((G.take i).flatten ++ (G.getD i []).take (j + 1)),t.toNat) else none else none) =
          k (a2,t,(i : Int),(j : Int) + 1,links,G,O,Isl.mt t.toNat ((G.take i).flatten ++ (G.getD i []).take (j + 1)),t.toNat) := by
        rw [cond_pos (by omega),cond_pos (by omega)]
      simp only [hT]
      rw [cond_pos (by omega),cond_pos (by omega),cond_pos (by omega),cond_pos (by omega),cond_neg (by omega),cond_neg (by omega),cond_pos (by omega),ho,bne_self_eq_false,cond_false]
      by_cases hj0 : (j : Int) > 0
      · have hlt := c1.get (show j - 1 < j by omega) hj
        rw [cond_pos hj0,cond_pos (by omega),cond_pos (by omega),cond_neg (by omega)]
        by_cases hi0 : (i : Int) > 0
        · obtain ⟨d1,d2,_⟩ := hg _ (Isl.getD_mem' (show i - 1 < G.length by omega))
          rw [cond_pos hi0,cond_pos (by omega),cond_pos (by omega),show ((j : Int) == 0) = false by rw [beq_eq_false_iff_ne]; omega,cond_false]
          rfl
        · rw [cond_neg hi0]; rfl
      · obtain rfl : j = 0 := by omega
        rw [cond_neg hj0]
        by_cases hi0 : (i : Int) > 0
        · obtain ⟨d1,d2,_⟩ := hg _ (Isl.getD_mem' (show i - 1 < G.length by omega))
          have hh := hheads (i - 1) (by omega)
          rw [show i - 1 + 1 = i by omega] at hh
          rw [cond_pos hi0,cond_pos (by omega),cond_pos (by omega),show (((0 : Nat) : Int) == 0) = true from rfl,cond_true,cond_pos (by omega),cond_pos (by omega),cond_neg (by omega)]
          rfl
        · rw [cond_neg hi0]; rfl
    · simp only [f7_11,dec_and,Int.toNat_natCast]
      rw [cond_pos (by omega),cond_neg (by omega),List.take_length]
  rw [Isl.mt_nil]
  refine loopN_from (fun i => (a2,t,(i : Int),links,G,O,Isl.mt t.toNat (G.take i).flatten,t.toNat)) G.length (by rfl) (fun i hi k => ?_) (fun k => ?_) _ (by omega)
  · obtain ⟨c1,c2,c3,c4,c5⟩ := hg _ (Isl.getD_mem' hi)
    simp only [f7_9,f7_10,f7_12_i,f7_12,f7_13,f7_14,f7_15,f7_16,f7_17,f7_18,f7_19,f7_20,dec_and,Int.toNat_natCast]
    rw [cond_pos (by omega)]
    refine (inner1 i hi _ _ _ _).trans ?_
    simp only [f7_9,f7_10,f7_12_i,f7_12,f7_13,f7_14,f7_15,f7_16,f7_17,f7_18,f7_19,f7_20,dec_and,Int.toNat_natCast]
    rw [cond_pos (by omega),show (((G.getD i []).length : Int) == 0) = false by rw [beq_eq_false_iff_ne]; omega,cond_false,i64w (by omega) (by omega)]
    rfl
  simp only [f7_9,f7_10,f7_12_i,f7_12,f7_13,f7_14,f7_15,f7_16,f7_17,f7_18,f7_19,f7_20,dec_and]
  rw [cond_neg (by omega),List.take_length]
  simp only [f7_24,f7_26_i,f7_26,f7_27,f7_28,f7_29,f7_42_i,f7_42,f7_43,f7_44,f7_45,f7_46,f7_47,f7_62_i,f7_62,f7_63,f7_64,f7_65,f7_66,f7_67,f7_68,f7_69,f7_70,dec_and]
  refine loopN_from (fun y => (a2,t,(y : Int),links,G,O,Isl.mt t.toNat G.flatten,t.toNat)) t.toNat (by rfl) (fun y hy k => ?_) (fun k => ?_) _ (by omega)
  · have h1 := Isl.mt_one hnd hall hy
    have hml := Isl.mt_len t.toNat G.flatten
    simp only [f7_25,dec_and,Int.toNat_natCast]
    rw [cond_pos (by omega),cond_pos (by omega),h1,bne_self_eq_false,cond_false,i64w (by omega) (by omega)]
    rfl
  simp only [f7_25,dec_and]
  rw [cond_neg (by omega)]
  simp only [f7_24,f7_26_i,f7_26,f7_27,f7_28,f7_29,f7_42_i,f7_42,f7_43,f7_44,f7_45,f7_46,f7_47,f7_62_i,f7_62,f7_63,f7_64,f7_65,f7_66,f7_67,f7_68,f7_69,f7_70,dec_and]
  have inner3 : ∀ i,i < links.length → ∀ k27 k26 k37,loopN (fun k => f7_33 100 k k27 k26 k37) 100 (a2,t,(i : Int),-1,0,links,G,O) = k27 (a2,t,(i : Int),links,G,O) := by
    intro i hi k27 k26 k37
    have hl := Isl.getD_len l2 i
    have hm := Isl.getD_mem' hi
    refine loopN_ind (fun m s => ∃ last : Int,s = (a2,t,(i : Int),last,(((links.getD i []).length - m : Nat) : Int),links,G,O) ∧ m ≤ (links.getD i []).length ∧ (last = -1 ∨ 0 ≤ last ∧ last < t ∧ last ∈ links.getD i [])) ?_ _ (links.getD i []).length _ (by omega)
      ⟨-1,by rw [Nat.sub_self]; rfl,Nat.le_refl _,.inl rfl⟩
    rintro m s k ⟨last,rfl,hml,hlast⟩ hk2
    simp only [f7_33,dec_and,Int.toNat_natCast]
    cases m with
    | zero =>
      rw [cond_pos (by omega),cond_neg (by omega)]
    | succ m =>
      have hj : (links.getD i []).length - (m + 1) < (links.getD i []).length := by omega
      have hx := Isl.getD_mem hj
      have ew : IntKind.i64.wrap (((links.getD i []).length - (m + 1) : Nat) + 1 : Int) = (((links.getD i []).length - m : Nat) : Int) := by
        rw [i64w (by omega) (by omega)]; omega
      simp only [ew]
      obtain ⟨x,ex⟩ : ∃ x,(links.getD i []).getD ((links.getD i []).length - (m + 1)) 0 = x := ⟨_,rfl⟩
      simp only [ex] at hx ⊢
      rw [cond_pos (by omega),cond_pos (by omega),cond_pos (by omega),cond_pos (by omega)]
      by_cases h0 : x < 0
      · rw [cond_pos h0]; exact hk2 m _ (by omega) ⟨last,rfl,by omega,hlast⟩
      rw [cond_neg h0]
      by_cases h1 : x ≥ t
      · rw [cond_pos h1]; exact hk2 m _ (by omega) ⟨last,rfl,by omega,hlast⟩
      rw [cond_neg h1]
      have nxt := hk2 m _ (by omega) ⟨x,rfl,by omega,.inr ⟨by omega,by omega,hx⟩⟩
      rcases hlast with rfl | ⟨p1,p2,p3⟩
      · rw [cond_neg (by decide)]; exact nxt
      · have he := hsame x (Isl.mem_nums.2 ⟨by omega,by omega⟩) last (.step x last _ .refl hm hx p3 (Isl.mem_nums.2 ⟨p1,by omega⟩))
        rw [cond_pos (by omega),cond_pos (by omega),cond_pos (by omega),he,bne_self_eq_false,cond_false]
        exact nxt
  refine loopN_from (fun i => (a2,t,(i : Int),links,G,O)) links.length (by rfl) (fun i hi k => ?_) (fun k => ?_) _ (by omega)
  · simp only [f7_30,f7_31,f7_32,f7_34_i,f7_34,f7_35,f7_36,f7_37,f7_38,f7_39,f7_40,f7_41,dec_and,Int.toNat_natCast]
    rw [cond_pos (by omega)]
    refine (inner3 i hi _ _ _).trans ?_
    simp only [f7_30,f7_31,f7_32,f7_34_i,f7_34,f7_35,f7_36,f7_37,f7_38,f7_39,f7_40,f7_41,dec_and,Int.toNat_natCast]
    rw [i64w (by omega) (by omega)]
    rfl
  simp only [f7_30,f7_31,f7_32,f7_34_i,f7_34,f7_35,f7_36,f7_37,f7_38,f7_39,f7_40,f7_41,dec_and]
  rw [cond_neg (by omega)]
  simp only [f7_24,f7_26_i,f7_26,f7_27,f7_28,f7_29,f7_42_i,f7_42,f7_43,f7_44,f7_45,f7_46,f7_47,f7_62_i,f7_62,f7_63,f7_64,f7_65,f7_66,f7_67,f7_68,f7_69,f7_70,dec_and]
  have ew : IntKind.i64.wrap ((links.length : Int) + 1) = (links.length : Int) + 1 := i64w (by omega) (by omega)
  have ew2 : IntKind.i64.wrap ((links.length : Int) - 1) = (links.length : Int) - 1 := i64w (by omega) (by omega)
  have hat := Reg.around_lt (n := a2) (m := (links.length : Int) + 1) (by omega)
  simp only [ew,ew2]
  rw [cond_pos (by omega)]
  generalize Reg.around a2 ((links.length : Int) + 1) = a at hat
  have inner4 : ∀ i,i < links.length → ∀ oth k47 k41 k40 k48,loopN (fun k => f7_51 100 k k47 k41 k40 k48) 100 (t,a,(i : Int),((links.getD i []).length : Int) - 1,links,G,oth,[]) = k47 (t,a,(i : Int),links,G,oth,(links.getD i []).reverse) := by
    intro i hi oth k47 k41 k40 k48
    have hl := Isl.getD_len l2 i
    refine loopN_ind (fun m s => s = (t,a,(i : Int),(m : Int) - 1,links,G,oth,((links.getD i []).drop m).reverse) ∧ m ≤ (links.getD i []).length) ?_ _ (links.getD i []).length _ (by omega)
      ⟨by rw [List.drop_length]; rfl,Nat.le_refl _⟩
    rintro m s k ⟨rfl,hml⟩ hk2
    cases m with
    | zero =>
      simp only [f7_51]
      rw [cond_neg (by omega),List.drop_zero]
    | succ m =>
      have hd := Isl.drop_get (show m < (links.getD i []).length by omega)
      have en : Int.toNat (((m + 1 : Nat) : Int) - 1) = m := by omega
      have ew : IntKind.i64.wrap ((((m + 1 : Nat) : Int) - 1) - 1) = (m : Int) - 1 := by rw [i64w (by omega) (by omega)]; omega
      simp only [f7_51,dec_and,Int.toNat_natCast,en,ew]
      rw [cond_pos (by omega),cond_pos (by omega),cond_pos (by omega),cond_pos (by rw [List.length_reverse,List.length_drop]; omega)]
      refine hk2 m _ (by omega) ⟨?_,by omega⟩
      rw [hd,List.reverse_cons]
  refine loopN_ind (fun m s => s = (t,a,(m : Int) - 1,links,G,((links.drop m).map List.reverse).reverse) ∧ m ≤ links.length) ?_ _ links.length _ (by omega)
    ⟨by rw [List.drop_length]; rfl,Nat.le_refl _⟩
  rintro m s k ⟨rfl,hml⟩ hk2
  cases m with
  | zero =>
    simp only [f7_48,f7_49,f7_50,f7_52_i,f7_52,f7_53,f7_54,f7_55,f7_56,f7_57,f7_58,f7_59,f7_60,f7_61,dec_and]
    rw [cond_neg (by omega),List.drop_zero]
    simp only [f7_65,dec_and]
    rw [cond_pos (by omega),cond_pos (by simp; omega),hturn,decide_eq_true rfl]
    rfl
  | succ m =>
    have hd := Isl.drop_get' (show m < links.length by omega)
    have en : Int.toNat (((m + 1 : Nat) : Int) - 1) = m := by omega
    have hmm : (((m + 1 : Nat) : Int) - 1) = (m : Int) := by omega
    have hl := Isl.getD_len l2 m
    have ew3 : IntKind.i64.wrap (((links.getD m []).length : Int) - 1) = ((links.getD m []).length : Int) - 1 := i64w (by omega) (by omega)
    simp only [f7_48,f7_49,f7_50,f7_52_i,f7_52,f7_53,f7_54,f7_55,f7_56,f7_57,f7_58,f7_59,f7_60,f7_61,dec_and,hmm,Int.toNat_natCast,ew3]
    rw [cond_pos (by omega),cond_pos (by omega)]
    refine (inner4 m (by omega) _ _ _ _ _).trans ?_
    simp only [f7_48,f7_49,f7_50,f7_52_i,f7_52,f7_53,f7_54,f7_55,f7_56,f7_57,f7_58,f7_59,f7_60,f7_61,dec_and]
    rw [cond_pos (by simp; omega),i64w (by omega) (by omega)]
    refine hk2 m _ (by omega) ⟨?_,by omega⟩
    rw [hd,List.map_cons,List.reverse_cons]
theorem c7 : CallOk Try.prog G22 7 r7 := callOk_of (V := VG227) mixed tys eVG227 (f := 7) (fn := Try.f7) Try.func7 (by kernel_rfl) (c := sub (bodyOf Try.f7) []) (by kernel_rfl) (by
  intro X H r H' h hX hH
  unfold r7 at h; split at h <;> try contradiction
  · simp only [Option.some.injEq,Prod.mk.injEq] at h
    obtain ⟨hp,rfl,rfl⟩ := h
    obtain ⟨F,hF⟩ := s7 _ _ _ (hX _ (.head _)) (hX _ (.tail _ (.head _))) (hX _ (.tail _ (.tail _ (.head _))))
    exact ⟨Af7 F,(f7_body F _ _ _).trans hF⟩)
end Go.Am
