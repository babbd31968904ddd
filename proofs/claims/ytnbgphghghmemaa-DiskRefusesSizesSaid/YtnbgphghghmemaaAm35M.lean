/- Part of a proof about the functions of the given program. -/
import Derived.Test.YtnbgphghghmemaaAm35F
import Derived.Test.YtnbgphghghmemaaAmDisk7
set_option linter.unusedVariables false
set_option linter.unusedSimpArgs false
namespace Go.Am
open Go Go.Proofs
abbrev sp27 : List (Nat × Md) := [(0,.plain),(1,.plain),(2,.plain)]
abbrev sp28 : List (Nat × Md) := [(0,.plain),(1,.plain),(2,.plain),(7,.plain)]
abbrev sp29 : List (Nat × Md) := [(0,.plain),(1,.plain),(2,.plain),(7,.plain),(22,.plain)]
abbrev sp30 : List (Nat × Md) := [(1,.plain),(2,.plain),(7,.plain),(8,.plain),(9,.plain)]
abbrev sp31 : List (Nat × Md) := [(1,.plain),(2,.plain),(7,.plain)]
abbrev sp32 : List (Nat × Md) := [(1,.plain),(2,.plain),(7,.plain),(10,.plain),(11,.plain)]
abbrev sp33 : List (Nat × Md) := [(1,.plain),(2,.plain),(10,.plain),(50,.plain)]
abbrev sp34 : List (Nat × Md) := [(1,.plain),(2,.plain),(10,.plain)]
abbrev sp35 : List (Nat × Md) := [(1,.plain),(2,.plain),(10,.plain),(12,.plain)]
abbrev sp36 : List (Nat × Md) := [(1,.plain),(2,.plain),(10,.plain),(12,.plain),(58,.plain)]
abbrev sp37 : List (Nat × Md) := [(1,.plain),(2,.plain),(10,.plain),(12,.plain),(14,.plain)]
abbrev sp38 : List (Nat × Md) := [(2,.plain),(10,.plain),(12,.plain),(85,.plain)]
abbrev sp39 : List (Nat × Md) := [(2,.plain),(10,.plain),(12,.plain)]
abbrev sp40 : List (Nat × Md) := [(10,.plain),(12,.plain),(94,.plain)]
abbrev sp41 : List (Nat × Md) := [(10,.plain),(12,.plain)]
abbrev sp42 : List (Nat × Md) := [(10,.plain),(15,.plain)]
abbrev Ty54 := Int × Int × (List Int) × Bool
abbrev Ty55 := Int × Int × (List Int) × Bool × Bool
abbrev Ty56 := Int × (List Int) × Bool × Int × (Dk.D)
abbrev Ty57 := Int × (List Int) × Bool × (Dk.D)
abbrev Ty58 := Int × (List Int) × (Dk.D)
abbrev Ty59 := Int × (List Int) × (List (List Int)) × (Dk.D)
abbrev Ty60 := Int × (List Int) × (List (List Int)) × Bool × (Dk.D)
abbrev Ty61 := Int × (List Int) × (List (List Int)) × Int × (Dk.D)
abbrev Ty62 := (List Int) × (List (List Int)) × Bool × (Dk.D)
abbrev Ty63 := (List Int) × (List (List Int)) × (Dk.D)
abbrev Ty64 := (List (List Int)) × Bool × (Dk.D)
abbrev Ty65 := (List (List Int)) × (Dk.D)
abbrev Ty66 := Nat × Int × (List Int) × Bool

def lVG354v : List CEnt := [(9,[],r9),(14,[none],r14),(15,[none],r15),(16,[none,none],r16),(17,[none,none,none],r17),(18,[none],r18),(19,[none,none,none],r19),(20,[none,none],r20),(21,[some 9,some 9],r21),(22,[none],r22),(23,[none],r23)]
def VG354v : Env := mkEnv T35 G35 lVG354v
theorem eVG354v : EOk Try.prog VG354v := eok_mk (by exact ⟨c9,c14,c15,c16,c17,c18,c19,c20,c21,c22,c23,trivial⟩)
def Af4v (F : Nat) : Cuts := { F := F,at_ := fun _ => none,join := fun n => match n with | 1049 => some sp27 | 2047 => some sp28 | 3005 => some sp29 | 4001 => some sp30 | 5039 => some sp31 | 6037 => some sp32 | 7005 => some sp33 | 8029 => some sp34 | 9027 => some sp35 | 10011 => some sp36 | 11007 => some sp37 | 12005 => some sp38 | 13013 => some sp39 | 14005 => some sp40 | 15005 => some sp41 | 16003 => some sp42 | _ => none }
def ef4v_a : Int × Int × (List Int) → St := fun (a0,a1,a2) => { tmps := [(0,(.int .i64 a0)),(1,(.int .i64 a1)),(2,(.str a2))],heap := [],next := 0,nt := 112,m := 0 }
def ef4vj1 : Int × Int × (List Int) → St := fun (t0,t1,t2) => { tmps := [(0,(.int .i64 t0)),(1,(.int .i64 t1)),(2,(.str t2))],heap := [],next := 0,nt := 112,m := 0 }
def ef4vj2 : Ty54 → St := fun (t0,t1,t2,t7) => { tmps := [(0,(.int .i64 t0)),(1,(.int .i64 t1)),(2,(.str t2)),(7,(.bool t7))],heap := [],next := 0,nt := 112,m := 0 }
def ef4vj3 : Ty55 → St := fun (t0,t1,t2,t7,t22) => { tmps := [(0,(.int .i64 t0)),(1,(.int .i64 t1)),(2,(.str t2)),(7,(.bool t7)),(22,(.bool t22))],heap := [],next := 0,nt := 112,m := 0 }
def ef4vj4 : Ty56 → St := fun (t1,t2,t7,t9,e1) => { tmps := [(1,(.int .i64 t1)),(2,(.str t2)),(7,(.bool t7)),(8,(.ptr 0 0 5 0 0 0 5)),(9,(.int .i64 t9))],heap := [(0,(.cells 5 (.segs (.cons 1 (.one (.own 1 e1.n 64)) (.cons 1 (.one (.mp 2)) (.cons 1 (.one (.mp 3)) (.cons 1 (.one (.bool e1.off)) (.cons 1 (.one (.int .i64 e1.left)) .nil)))))) true)),(1,(.cells e1.blk.length (.rI .u8 e1.blk) true)),(2,(.cells 0 (.rM .i64 0 (.arr .u8 64) e1.pend) true)),(3,(.cells 0 (.rM .i64 0 .bool e1.worn) true))],next := 4,nt := 112,m := 0 }
def ef4vj5 : Int × (List Int) × Bool → St := fun (t1,t2,t7) => { tmps := [(1,(.int .i64 t1)),(2,(.str t2)),(7,(.bool t7))],heap := [],next := 0,nt := 112,m := 0 }
def ef4vj6 : Ty56 → St := fun (t1,t2,t7,t11,e1) => { tmps := [(1,(.int .i64 t1)),(2,(.str t2)),(7,(.bool t7)),(10,(.ptr 0 0 5 0 0 0 5)),(11,(.int .i64 t11))],heap := [(0,(.cells 5 (.segs (.cons 1 (.one (.own 1 e1.n 64)) (.cons 1 (.one (.mp 2)) (.cons 1 (.one (.mp 3)) (.cons 1 (.one (.bool e1.off)) (.cons 1 (.one (.int .i64 e1.left)) .nil)))))) true)),(1,(.cells e1.blk.length (.rI .u8 e1.blk) true)),(2,(.cells 0 (.rM .i64 0 (.arr .u8 64) e1.pend) true)),(3,(.cells 0 (.rM .i64 0 .bool e1.worn) true))],next := 4,nt := 112,m := 0 }
def ef4vj7 : Ty57 → St := fun (t1,t2,t50,e1) => { tmps := [(1,(.int .i64 t1)),(2,(.str t2)),(10,(.ptr 0 0 5 0 0 0 5)),(50,(.bool t50))],heap := [(0,(.cells 5 (.segs (.cons 1 (.one (.own 1 e1.n 64)) (.cons 1 (.one (.mp 2)) (.cons 1 (.one (.mp 3)) (.cons 1 (.one (.bool e1.off)) (.cons 1 (.one (.int .i64 e1.left)) .nil)))))) true)),(1,(.cells e1.blk.length (.rI .u8 e1.blk) true)),(2,(.cells 0 (.rM .i64 0 (.arr .u8 64) e1.pend) true)),(3,(.cells 0 (.rM .i64 0 .bool e1.worn) true))],next := 4,nt := 112,m := 0 }
def ef4vj8 : Ty58 → St := fun (t1,t2,e1) => { tmps := [(1,(.int .i64 t1)),(2,(.str t2)),(10,(.ptr 0 0 5 0 0 0 5))],heap := [(0,(.cells 5 (.segs (.cons 1 (.one (.own 1 e1.n 64)) (.cons 1 (.one (.mp 2)) (.cons 1 (.one (.mp 3)) (.cons 1 (.one (.bool e1.off)) (.cons 1 (.one (.int .i64 e1.left)) .nil)))))) true)),(1,(.cells e1.blk.length (.rI .u8 e1.blk) true)),(2,(.cells 0 (.rM .i64 0 (.arr .u8 64) e1.pend) true)),(3,(.cells 0 (.rM .i64 0 .bool e1.worn) true))],next := 4,nt := 112,m := 0 }
def ef4vj9 : Ty59 → St := fun (t1,t2,t12,e1) => { tmps := [(1,(.int .i64 t1)),(2,(.str t2)),(10,(.ptr 0 0 5 0 0 0 5)),(12,(.vs (.rS t12) 0 1))],heap := [(0,(.cells 5 (.segs (.cons 1 (.one (.own 1 e1.n 64)) (.cons 1 (.one (.mp 2)) (.cons 1 (.one (.mp 3)) (.cons 1 (.one (.bool e1.off)) (.cons 1 (.one (.int .i64 e1.left)) .nil)))))) true)),(1,(.cells e1.blk.length (.rI .u8 e1.blk) true)),(2,(.cells 0 (.rM .i64 0 (.arr .u8 64) e1.pend) true)),(3,(.cells 0 (.rM .i64 0 .bool e1.worn) true))],next := 4,nt := 112,m := 0 }
def ef4vj10 : Ty60 → St := fun (t1,t2,t12,t58,e1) => { tmps := [(1,(.int .i64 t1)),(2,(.str t2)),(10,(.ptr 0 0 5 0 0 0 5)),(12,(.vs (.rS t12) 0 1)),(58,(.bool t58))],heap := [(0,(.cells 5 (.segs (.cons 1 (.one (.own 1 e1.n 64)) (.cons 1 (.one (.mp 2)) (.cons 1 (.one (.mp 3)) (.cons 1 (.one (.bool e1.off)) (.cons 1 (.one (.int .i64 e1.left)) .nil)))))) true)),(1,(.cells e1.blk.length (.rI .u8 e1.blk) true)),(2,(.cells 0 (.rM .i64 0 (.arr .u8 64) e1.pend) true)),(3,(.cells 0 (.rM .i64 0 .bool e1.worn) true))],next := 4,nt := 112,m := 0 }
def ef4vj11 : Ty61 → St := fun (t1,t2,t12,t14,e1) => { tmps := [(1,(.int .i64 t1)),(2,(.str t2)),(10,(.ptr 0 0 5 0 0 0 5)),(12,(.vs (.rS t12) 0 1)),(14,(.int .i64 t14))],heap := [(0,(.cells 5 (.segs (.cons 1 (.one (.own 1 e1.n 64)) (.cons 1 (.one (.mp 2)) (.cons 1 (.one (.mp 3)) (.cons 1 (.one (.bool e1.off)) (.cons 1 (.one (.int .i64 e1.left)) .nil)))))) true)),(1,(.cells e1.blk.length (.rI .u8 e1.blk) true)),(2,(.cells 0 (.rM .i64 0 (.arr .u8 64) e1.pend) true)),(3,(.cells 0 (.rM .i64 0 .bool e1.worn) true))],next := 4,nt := 112,m := 0 }
def ef4vj12 : Ty62 → St := fun (t2,t12,t85,e1) => { tmps := [(2,(.str t2)),(10,(.ptr 0 0 5 0 0 0 5)),(12,(.vs (.rS t12) 0 1)),(85,(.bool t85))],heap := [(0,(.cells 5 (.segs (.cons 1 (.one (.own 1 e1.n 64)) (.cons 1 (.one (.mp 2)) (.cons 1 (.one (.mp 3)) (.cons 1 (.one (.bool e1.off)) (.cons 1 (.one (.int .i64 e1.left)) .nil)))))) true)),(1,(.cells e1.blk.length (.rI .u8 e1.blk) true)),(2,(.cells 0 (.rM .i64 0 (.arr .u8 64) e1.pend) true)),(3,(.cells 0 (.rM .i64 0 .bool e1.worn) true))],next := 4,nt := 112,m := 0 }
def ef4vj13 : Ty63 → St := fun (t2,t12,e1) => { tmps := [(2,(.str t2)),(10,(.ptr 0 0 5 0 0 0 5)),(12,(.vs (.rS t12) 0 1))],heap := [(0,(.cells 5 (.segs (.cons 1 (.one (.own 1 e1.n 64)) (.cons 1 (.one (.mp 2)) (.cons 1 (.one (.mp 3)) (.cons 1 (.one (.bool e1.off)) (.cons 1 (.one (.int .i64 e1.left)) .nil)))))) true)),(1,(.cells e1.blk.length (.rI .u8 e1.blk) true)),(2,(.cells 0 (.rM .i64 0 (.arr .u8 64) e1.pend) true)),(3,(.cells 0 (.rM .i64 0 .bool e1.worn) true))],next := 4,nt := 112,m := 0 }
def ef4vj14 : Ty64 → St := fun (t12,t94,e1) => { tmps := [(10,(.ptr 0 0 5 0 0 0 5)),(12,(.vs (.rS t12) 0 1)),(94,(.bool t94))],heap := [(0,(.cells 5 (.segs (.cons 1 (.one (.own 1 e1.n 64)) (.cons 1 (.one (.mp 2)) (.cons 1 (.one (.mp 3)) (.cons 1 (.one (.bool e1.off)) (.cons 1 (.one (.int .i64 e1.left)) .nil)))))) true)),(1,(.cells e1.blk.length (.rI .u8 e1.blk) true)),(2,(.cells 0 (.rM .i64 0 (.arr .u8 64) e1.pend) true)),(3,(.cells 0 (.rM .i64 0 .bool e1.worn) true))],next := 4,nt := 112,m := 0 }
def ef4vj15 : Ty65 → St := fun (t12,e1) => { tmps := [(10,(.ptr 0 0 5 0 0 0 5)),(12,(.vs (.rS t12) 0 1))],heap := [(0,(.cells 5 (.segs (.cons 1 (.one (.own 1 e1.n 64)) (.cons 1 (.one (.mp 2)) (.cons 1 (.one (.mp 3)) (.cons 1 (.one (.bool e1.off)) (.cons 1 (.one (.int .i64 e1.left)) .nil)))))) true)),(1,(.cells e1.blk.length (.rI .u8 e1.blk) true)),(2,(.cells 0 (.rM .i64 0 (.arr .u8 64) e1.pend) true)),(3,(.cells 0 (.rM .i64 0 .bool e1.worn) true))],next := 4,nt := 112,m := 0 }
def ef4vj16 : Bool × (Dk.D) → St := fun (t15,e1) => { tmps := [(10,(.ptr 0 0 5 0 0 0 5)),(15,(.bool t15))],heap := [(0,(.cells 5 (.segs (.cons 1 (.one (.own 1 e1.n 64)) (.cons 1 (.one (.mp 2)) (.cons 1 (.one (.mp 3)) (.cons 1 (.one (.bool e1.off)) (.cons 1 (.one (.int .i64 e1.left)) .nil)))))) true)),(1,(.cells e1.blk.length (.rI .u8 e1.blk) true)),(2,(.cells 0 (.rM .i64 0 (.arr .u8 64) e1.pend) true)),(3,(.cells 0 (.rM .i64 0 .bool e1.worn) true))],next := 4,nt := 112,m := 0 }
def f4v_1 (F : Nat) (kf4vj1 : Int × Int × (List Int) → Rz) : Int × Int × (List Int) → Rz := fun (a0,a1,a2) => (kf4vj1 (a0,a1,a2))
theorem f4v_1_eq (F : Nat) (Rf4vj1 : St → Rz) : ∀ v,aexec VG354v (Af4v F) (bp Try.f4 2) (ef4v_a v) (kSeq (kc VG354v Rf4vj1 sp27) (kFin VG354v none (Try.f4).results.toList)) = f4v_1 F (Rf4vj1 ∘ ef4vj1) v := by
  rintro ⟨a0,a1,a2⟩; kernel_rfl
def f4v_2 (F : Nat) (kf4vj2 : Ty54 → Rz) : Int × Int × (List Int) → Rz := fun (t0,t1,t2) => (kf4vj2 (t0,t1,t2,true))
theorem f4v_2_eq (F : Nat) (Rf4vj2 : St → Rz) : ∀ v,aexec VG354v (Af4v F) (bp Try.f4 6) (ef4vj1 v) (kSeq (kc VG354v Rf4vj2 sp28) (kFin VG354v none (Try.f4).results.toList)) = f4v_2 F (Rf4vj2 ∘ ef4vj2) v := by
  rintro ⟨t0,t1,t2⟩; kernel_rfl
def f4v_3 (F : Nat) (kf4vj3 : Ty55 → Rz) (kf4vj5 : Int × (List Int) × Bool → Rz) : Ty54 → Rz := fun (t0,t1,t2,t7) => (cond (decide (t0 < (1 : Int))) (kf4vj3 (t0,t1,t2,t7,true)) (kf4vj3 (t0,t1,t2,t7,(decide (t0 > (4096 : Int))))))
theorem f4v_3_eq (F : Nat) (Rf4vj3 : St → Rz) (Rf4vj5 : St → Rz) : ∀ v,aexec VG354v (Af4v F) (bp Try.f4 28) (ef4vj2 v) (kSeq (kc VG354v Rf4vj3 sp29) (kSeq (kc VG354v Rf4vj5 sp31) (kFin VG354v none (Try.f4).results.toList))) = f4v_3 F (Rf4vj3 ∘ ef4vj3) (Rf4vj5 ∘ ef4vj5) v := by
  rintro ⟨t0,t1,t2,t7⟩; kernel_rfl
def f4v_4 (F : Nat) (kf4vj4 : Ty56 → Rz) (kf4vj5 : Int × (List Int) × Bool → Rz) : Ty55 → Rz := fun (t0,t1,t2,t7,t22) => (cond ((decide (0 < t0)) && (decide (t0 < 4097))) (kf4vj4 (t1,t2,t7,0,(Dk.new t0))) none)
theorem f4v_4_eq (F : Nat) (Rf4vj4 : St → Rz) (Rf4vj5 : St → Rz) : ∀ v,aexec VG354v (Af4v F) (bp Try.f4 116) (ef4vj3 v) (kSeq (kc VG354v Rf4vj4 sp30) (kSeq (kc VG354v Rf4vj5 sp31) (kFin VG354v none (Try.f4).results.toList))) = f4v_4 F (Rf4vj4 ∘ ef4vj4) (Rf4vj5 ∘ ef4vj5) v := by
  rintro ⟨t0,t1,t2,t7,t22⟩; kernel_rfl
def f4v_5 (F : Nat) (kf4vj5 : Int × (List Int) × Bool → Rz) : Ty56 → Rz := fun (t1,t2,t7,t9,e1) => (cond t7 (kf4vj5 (t1,t2,false)) (kf4vj5 (t1,t2,false)))
theorem f4v_5_eq (F : Nat) (Rf4vj5 : St → Rz) : ∀ v,aexec VG354v (Af4v F) (bp Try.f4 117) (ef4vj4 v) (kSeq (kc VG354v Rf4vj5 sp31) (kFin VG354v none (Try.f4).results.toList)) = f4v_5 F (Rf4vj5 ∘ ef4vj5) v := by
  rintro ⟨t1,t2,t7,t9,e1⟩; kernel_rfl
def f4v_6 (F : Nat) (kf4vj5 : Int × (List Int) × Bool → Rz) : Ty55 → Rz := fun v => f4v_4 F (f4v_5 F kf4vj5) kf4vj5 v
theorem f4v_6_eq (F : Nat) (Rf4vj5 : St → Rz) : ∀ v,aexec VG354v (Af4v F) (bp Try.f4 58) (ef4vj3 v) (kSeq (kc VG354v Rf4vj5 sp31) (kFin VG354v none (Try.f4).results.toList)) = f4v_6 F (Rf4vj5 ∘ ef4vj5) v :=
  seq_cut (by kernel_rfl) (by kernel_rfl) ef4vj3 ef4vj4 _ (fun k => f4v_4 F k (Rf4vj5 ∘ ef4vj5)) (f4v_5 F (Rf4vj5 ∘ ef4vj5))
    (fun Rf4vj4 => f4v_4_eq F Rf4vj4 Rf4vj5) (f4v_5_eq F Rf4vj5)
def f4v_7 (F : Nat) (kf4vj5 : Int × (List Int) × Bool → Rz) : Ty55 → Rz := fun (t0,t1,t2,t7,t22) => (kf4vj5 (t1,t2,t7))
theorem f4v_7_eq (F : Nat) (Rf4vj5 : St → Rz) : ∀ v,aexec VG354v (Af4v F) (bp Try.f4 59) (ef4vj3 v) (kSeq (kc VG354v Rf4vj5 sp31) (kFin VG354v none (Try.f4).results.toList)) = f4v_7 F (Rf4vj5 ∘ ef4vj5) v := by
  rintro ⟨t0,t1,t2,t7,t22⟩; kernel_rfl
def f4v_8 (F : Nat) (kf4vj5 : Int × (List Int) × Bool → Rz) : Ty55 → Rz := fun v => cond ((fun (t0,t1,t2,t7,t22) => t22) v) (f4v_6 F kf4vj5 v) (f4v_7 F kf4vj5 v)
theorem f4v_8_eq (F : Nat) (Rf4vj5 : St → Rz) : ∀ v,aexec VG354v (Af4v F) (bp Try.f4 29) (ef4vj3 v) (kSeq (kc VG354v Rf4vj5 sp31) (kFin VG354v none (Try.f4).results.toList)) = f4v_8 F (Rf4vj5 ∘ ef4vj5) v :=
  cond_in (o := .tmp 22) (by kernel_rfl) ef4vj3 _ (fun (t0,t1,t2,t7,t22) => t22) (by rintro ⟨t0,t1,t2,t7,t22⟩; kernel_rfl) _ _ (f4v_6_eq F Rf4vj5) (f4v_7_eq F Rf4vj5)
def f4v_9 (F : Nat) (kf4vj5 : Int × (List Int) × Bool → Rz) : Ty54 → Rz := fun v => f4v_3 F (f4v_8 F kf4vj5) kf4vj5 v
theorem f4v_9_eq (F : Nat) (Rf4vj5 : St → Rz) : ∀ v,aexec VG354v (Af4v F) (bp Try.f4 14) (ef4vj2 v) (kSeq (kc VG354v Rf4vj5 sp31) (kFin VG354v none (Try.f4).results.toList)) = f4v_9 F (Rf4vj5 ∘ ef4vj5) v :=
  seq_cut (by kernel_rfl) (by kernel_rfl) ef4vj2 ef4vj3 _ (fun k => f4v_3 F k (Rf4vj5 ∘ ef4vj5)) (f4v_8 F (Rf4vj5 ∘ ef4vj5))
    (fun Rf4vj3 => f4v_3_eq F Rf4vj3 Rf4vj5) (f4v_8_eq F Rf4vj5)
def f4v_10 (F : Nat) (kf4vj6 : Ty56 → Rz) : Int × (List Int) × Bool → Rz := fun (t1,t2,t7) => (cond ((decide (0 < (3 : Int))) && (decide ((3 : Int) < 4097))) (kf4vj6 (t1,t2,t7,0,(Dk.new (3 : Int)))) none)
theorem f4v_10_eq (F : Nat) (Rf4vj6 : St → Rz) : ∀ v,aexec VG354v (Af4v F) (bp Try.f4 30) (ef4vj5 v) (kSeq (kc VG354v Rf4vj6 sp32) (kFin VG354v none (Try.f4).results.toList)) = f4v_10 F (Rf4vj6 ∘ ef4vj6) v := by
  rintro ⟨t1,t2,t7⟩; kernel_rfl
def f4v_11 (F : Nat) (kf4vj7 : Ty57 → Rz) (kf4vj8 : Ty58 → Rz) : Ty56 → Rz := fun (t1,t2,t7,t11,e1) => (cond (t11 != (0 : Int)) (kf4vj7 (t1,t2,true,e1)) (kf4vj7 (t1,t2,(!t7),e1)))
theorem f4v_11_eq (F : Nat) (Rf4vj7 : St → Rz) (Rf4vj8 : St → Rz) : ∀ v,aexec VG354v (Af4v F) (bp Try.f4 124) (ef4vj6 v) (kSeq (kc VG354v Rf4vj7 sp33) (kSeq (kc VG354v Rf4vj8 sp34) (kFin VG354v none (Try.f4).results.toList))) = f4v_11 F (Rf4vj7 ∘ ef4vj7) (Rf4vj8 ∘ ef4vj8) v := by
  rintro ⟨t1,t2,t7,t11,e1⟩; kernel_rfl
def f4v_12 (F : Nat) (kf4vj8 : Ty58 → Rz) : Ty57 → Rz := fun (t1,t2,t50,e1) => (cond t50 (some ((.bool false),[])) (kf4vj8 (t1,t2,e1)))
theorem f4v_12_eq (F : Nat) (Rf4vj8 : St → Rz) : ∀ v,aexec VG354v (Af4v F) (bp Try.f4 125) (ef4vj7 v) (kSeq (kc VG354v Rf4vj8 sp34) (kFin VG354v none (Try.f4).results.toList)) = f4v_12 F (Rf4vj8 ∘ ef4vj8) v := by
  rintro ⟨t1,t2,t50,e1⟩; kernel_rfl
def f4v_13 (F : Nat) (kf4vj8 : Ty58 → Rz) : Ty56 → Rz := fun v => f4v_11 F (f4v_12 F kf4vj8) kf4vj8 v
theorem f4v_13_eq (F : Nat) (Rf4vj8 : St → Rz) : ∀ v,aexec VG354v (Af4v F) (bp Try.f4 62) (ef4vj6 v) (kSeq (kc VG354v Rf4vj8 sp34) (kFin VG354v none (Try.f4).results.toList)) = f4v_13 F (Rf4vj8 ∘ ef4vj8) v :=
  seq_cut (by kernel_rfl) (by kernel_rfl) ef4vj6 ef4vj7 _ (fun k => f4v_11 F k (Rf4vj8 ∘ ef4vj8)) (f4v_12 F (Rf4vj8 ∘ ef4vj8))
    (fun Rf4vj7 => f4v_11_eq F Rf4vj7 Rf4vj8) (f4v_12_eq F Rf4vj8)
def f4v_14 (F : Nat) (kf4vj9 : Ty59 → Rz) : Ty58 → Rz := fun (t1,t2,e1) => (cond (decide (e1.blk.length = e1.n * 64 ∧ e1.n < 8000)) (kf4vj9 (t1,t2,(Dk.image e1),e1)) none)
theorem f4v_14_eq (F : Nat) (Rf4vj9 : St → Rz) : ∀ v,aexec VG354v (Af4v F) (bp Try.f4 126) (ef4vj8 v) (kSeq (kc VG354v Rf4vj9 sp35) (kFin VG354v none (Try.f4).results.toList)) = f4v_14 F (Rf4vj9 ∘ ef4vj9) v := by
  rintro ⟨t1,t2,e1⟩; kernel_rfl
def f4v_15 (F : Nat) (kf4vj10 : Ty60 → Rz) (kf4vj13 : Ty63 → Rz) : Ty59 → Rz := fun (t1,t2,t12,e1) => (cond (decide (t1 < (0 : Int))) (kf4vj10 (t1,t2,t12,true,e1)) (kf4vj10 (t1,t2,t12,(decide (t1 > (2 : Int))),e1)))
theorem f4v_15_eq (F : Nat) (Rf4vj10 : St → Rz) (Rf4vj13 : St → Rz) : ∀ v,aexec VG354v (Af4v F) (bp Try.f4 508) (ef4vj9 v) (kSeq (kc VG354v Rf4vj10 sp36) (kSeq (kc VG354v Rf4vj13 sp39) (kFin VG354v none (Try.f4).results.toList))) = f4v_15 F (Rf4vj10 ∘ ef4vj10) (Rf4vj13 ∘ ef4vj13) v := by
  rintro ⟨t1,t2,t12,e1⟩; kernel_rfl
def f4v_16 (F : Nat) (kf4vj11 : Ty61 → Rz) (kf4vj13 : Ty63 → Rz) : Ty60 → Rz := fun (t1,t2,t12,t58,e1) => (kf4vj11 (t1,t2,t12,(Dk.read e1 t1).2,e1))
theorem f4v_16_eq (F : Nat) (Rf4vj11 : St → Rz) (Rf4vj13 : St → Rz) : ∀ v,aexec VG354v (Af4v F) (bp Try.f4 2036) (ef4vj10 v) (kSeq (kc VG354v Rf4vj11 sp37) (kSeq (kc VG354v Rf4vj13 sp39) (kFin VG354v none (Try.f4).results.toList))) = f4v_16 F (Rf4vj11 ∘ ef4vj11) (Rf4vj13 ∘ ef4vj13) v := by
  rintro ⟨t1,t2,t12,t58,e1⟩; kernel_rfl
def f4v_17 (F : Nat) (kf4vj12 : Ty62 → Rz) (kf4vj13 : Ty63 → Rz) : Ty61 → Rz := fun (t1,t2,t12,t14,e1) => (cond (t14 != (1 : Int)) (kf4vj12 (t2,t12,true,e1)) (cond ((Dk.write e1 t1 (Dk.full (120 : Int))).2 != (1 : Int)) (kf4vj12 (t2,t12,true,(Dk.write e1 t1 (Dk.full (120 : Int))).1)) (cond ((Dk.rot (Dk.write e1 t1 (Dk.full (120 : Int))).1 t1 (0 : Int)).2 != (1 : Int)) (kf4vj12 (t2,t12,true,(Dk.rot (Dk.write e1 t1 (Dk.full (120 : Int))).1 t1 (0 : Int)).1)) (kf4vj12 (t2,t12,((Dk.wear (Dk.rot (Dk.write e1 t1 (Dk.full (120 : Int))).1 t1 (0 : Int)).1 t1).2 != (1 : Int)),(Dk.wear (Dk.rot (Dk.write e1 t1 (Dk.full (120 : Int))).1 t1 (0 : Int)).1 t1).1)))))
theorem f4v_17_eq (F : Nat) (Rf4vj12 : St → Rz) (Rf4vj13 : St → Rz) : ∀ v,aexec VG354v (Af4v F) (bp Try.f4 4074) (ef4vj11 v) (kSeq (kc VG354v Rf4vj12 sp38) (kSeq (kc VG354v Rf4vj13 sp39) (kFin VG354v none (Try.f4).results.toList))) = f4v_17 F (Rf4vj12 ∘ ef4vj12) (Rf4vj13 ∘ ef4vj13) v := by
  rintro ⟨t1,t2,t12,t14,e1⟩; kernel_rfl
def f4v_18 (F : Nat) (kf4vj13 : Ty63 → Rz) : Ty62 → Rz := fun (t2,t12,t85,e1) => (cond t85 (some ((.bool false),[])) (kf4vj13 (t2,t12,e1)))
theorem f4v_18_eq (F : Nat) (Rf4vj13 : St → Rz) : ∀ v,aexec VG354v (Af4v F) (bp Try.f4 4075) (ef4vj12 v) (kSeq (kc VG354v Rf4vj13 sp39) (kFin VG354v none (Try.f4).results.toList)) = f4v_18 F (Rf4vj13 ∘ ef4vj13) v := by
  rintro ⟨t2,t12,t85,e1⟩; kernel_rfl
def f4v_19 (F : Nat) (kf4vj13 : Ty63 → Rz) : Ty61 → Rz := fun v => f4v_17 F (f4v_18 F kf4vj13) kf4vj13 v
theorem f4v_19_eq (F : Nat) (Rf4vj13 : St → Rz) : ∀ v,aexec VG354v (Af4v F) (bp Try.f4 2037) (ef4vj11 v) (kSeq (kc VG354v Rf4vj13 sp39) (kFin VG354v none (Try.f4).results.toList)) = f4v_19 F (Rf4vj13 ∘ ef4vj13) v :=
  seq_cut (by kernel_rfl) (by kernel_rfl) ef4vj11 ef4vj12 _ (fun k => f4v_17 F k (Rf4vj13 ∘ ef4vj13)) (f4v_18 F (Rf4vj13 ∘ ef4vj13))
    (fun Rf4vj12 => f4v_17_eq F Rf4vj12 Rf4vj13) (f4v_18_eq F Rf4vj13)
def f4v_20 (F : Nat) (kf4vj13 : Ty63 → Rz) : Ty60 → Rz := fun v => f4v_16 F (f4v_19 F kf4vj13) kf4vj13 v
theorem f4v_20_eq (F : Nat) (Rf4vj13 : St → Rz) : ∀ v,aexec VG354v (Af4v F) (bp Try.f4 1018) (ef4vj10 v) (kSeq (kc VG354v Rf4vj13 sp39) (kFin VG354v none (Try.f4).results.toList)) = f4v_20 F (Rf4vj13 ∘ ef4vj13) v :=
  seq_cut (by kernel_rfl) (by kernel_rfl) ef4vj10 ef4vj11 _ (fun k => f4v_16 F k (Rf4vj13 ∘ ef4vj13)) (f4v_19 F (Rf4vj13 ∘ ef4vj13))
    (fun Rf4vj11 => f4v_16_eq F Rf4vj11 Rf4vj13) (f4v_19_eq F Rf4vj13)
def f4v_21 (F : Nat) (kf4vj13 : Ty63 → Rz) : Ty60 → Rz := fun (t1,t2,t12,t58,e1) => (kf4vj13 (t2,t12,e1))
theorem f4v_21_eq (F : Nat) (Rf4vj13 : St → Rz) : ∀ v,aexec VG354v (Af4v F) (bp Try.f4 1019) (ef4vj10 v) (kSeq (kc VG354v Rf4vj13 sp39) (kFin VG354v none (Try.f4).results.toList)) = f4v_21 F (Rf4vj13 ∘ ef4vj13) v := by
  rintro ⟨t1,t2,t12,t58,e1⟩; kernel_rfl
def f4v_22 (F : Nat) (kf4vj13 : Ty63 → Rz) : Ty60 → Rz := fun v => cond ((fun (t1,t2,t12,t58,e1) => t58) v) (f4v_20 F kf4vj13 v) (f4v_21 F kf4vj13 v)
theorem f4v_22_eq (F : Nat) (Rf4vj13 : St → Rz) : ∀ v,aexec VG354v (Af4v F) (bp Try.f4 509) (ef4vj10 v) (kSeq (kc VG354v Rf4vj13 sp39) (kFin VG354v none (Try.f4).results.toList)) = f4v_22 F (Rf4vj13 ∘ ef4vj13) v :=
  cond_in (o := .tmp 58) (by kernel_rfl) ef4vj10 _ (fun (t1,t2,t12,t58,e1) => t58) (by rintro ⟨t1,t2,t12,t58,e1⟩; kernel_rfl) _ _ (f4v_20_eq F Rf4vj13) (f4v_21_eq F Rf4vj13)
def f4v_23 (F : Nat) (kf4vj13 : Ty63 → Rz) : Ty59 → Rz := fun v => f4v_15 F (f4v_22 F kf4vj13) kf4vj13 v
theorem f4v_23_eq (F : Nat) (Rf4vj13 : St → Rz) : ∀ v,aexec VG354v (Af4v F) (bp Try.f4 254) (ef4vj9 v) (kSeq (kc VG354v Rf4vj13 sp39) (kFin VG354v none (Try.f4).results.toList)) = f4v_23 F (Rf4vj13 ∘ ef4vj13) v :=
  seq_cut (by kernel_rfl) (by kernel_rfl) ef4vj9 ef4vj10 _ (fun k => f4v_15 F k (Rf4vj13 ∘ ef4vj13)) (f4v_22 F (Rf4vj13 ∘ ef4vj13))
    (fun Rf4vj10 => f4v_15_eq F Rf4vj10 Rf4vj13) (f4v_22_eq F Rf4vj13)
def f4v_24 (F : Nat) (kf4vj14 : Ty64 → Rz) (kf4vj15 : Ty65 → Rz) : Ty63 → Rz := fun (t2,t12,e1) => (cond ((↑t2.length : Int) != (64 : Int)) (kf4vj14 (t12,((Dk.write e1 (0 : Int) t2).2 != (1 : Int)),(Dk.write e1 (0 : Int) t2).1)) (kf4vj14 (t12,false,e1)))
theorem f4v_24_eq (F : Nat) (Rf4vj14 : St → Rz) (Rf4vj15 : St → Rz) : ∀ v,aexec VG354v (Af4v F) (bp Try.f4 1020) (ef4vj13 v) (kSeq (kc VG354v Rf4vj14 sp40) (kSeq (kc VG354v Rf4vj15 sp41) (kFin VG354v none (Try.f4).results.toList))) = f4v_24 F (Rf4vj14 ∘ ef4vj14) (Rf4vj15 ∘ ef4vj15) v := by
  rintro ⟨t2,t12,e1⟩; kernel_rfl
def f4v_25 (F : Nat) (kf4vj15 : Ty65 → Rz) : Ty64 → Rz := fun (t12,t94,e1) => (cond t94 (some ((.bool false),[])) (kf4vj15 (t12,e1)))
theorem f4v_25_eq (F : Nat) (Rf4vj15 : St → Rz) : ∀ v,aexec VG354v (Af4v F) (bp Try.f4 1021) (ef4vj14 v) (kSeq (kc VG354v Rf4vj15 sp41) (kFin VG354v none (Try.f4).results.toList)) = f4v_25 F (Rf4vj15 ∘ ef4vj15) v := by
  rintro ⟨t12,t94,e1⟩; kernel_rfl
def f4v_26 (F : Nat) (kf4vj15 : Ty65 → Rz) : Ty63 → Rz := fun v => f4v_24 F (f4v_25 F kf4vj15) kf4vj15 v
theorem f4v_26_eq (F : Nat) (Rf4vj15 : St → Rz) : ∀ v,aexec VG354v (Af4v F) (bp Try.f4 510) (ef4vj13 v) (kSeq (kc VG354v Rf4vj15 sp41) (kFin VG354v none (Try.f4).results.toList)) = f4v_26 F (Rf4vj15 ∘ ef4vj15) v :=
  seq_cut (by kernel_rfl) (by kernel_rfl) ef4vj13 ef4vj14 _ (fun k => f4v_24 F k (Rf4vj15 ∘ ef4vj15)) (f4v_25 F (Rf4vj15 ∘ ef4vj15))
    (fun Rf4vj14 => f4v_24_eq F Rf4vj14 Rf4vj15) (f4v_25_eq F Rf4vj15)
def f4v_27 (F : Nat) (kf4vj16 : Bool × (Dk.D) → Rz) : Ty65 → Rz := fun (t12,e1) => (cond (decide (e1.blk.length = e1.n * 64 ∧ e1.n < 8000)) (cond (decide (t12.length < 1073741824)) (kf4vj16 ((t12 == (Dk.image e1)),e1)) none) none)
theorem f4v_27_eq (F : Nat) (Rf4vj16 : St → Rz) : ∀ v,aexec VG354v (Af4v F) (bp Try.f4 1022) (ef4vj15 v) (kSeq (kc VG354v Rf4vj16 sp42) (kFin VG354v none (Try.f4).results.toList)) = f4v_27 F (Rf4vj16 ∘ ef4vj16) v := by
  rintro ⟨t12,e1⟩; kernel_rfl
def f4v_28 (F : Nat) : Bool × (Dk.D) → Rz := fun (t15,e1) => (cond t15 (cond (decide (e1.pend.length < 1073741824)) (cond ((↑(Dk.pending e1).length : Int) == (0 : Int)) (cond (decide (e1.worn.length < 1073741824)) (some ((.bool ((↑(Dk.wornl e1).length : Int) == (0 : Int))),[])) none) (some ((.bool false),[]))) none) (some ((.bool false),[])))
theorem f4v_28_eq (F : Nat) : ∀ v,aexec VG354v (Af4v F) (bp Try.f4 1023) (ef4vj16 v) (kFin VG354v none (Try.f4).results.toList) = f4v_28 F v := by
  rintro ⟨t15,e1⟩; kernel_rfl
def f4v_29 (F : Nat) : Ty65 → Rz := fun v => f4v_27 F (f4v_28 F) v
theorem f4v_29_eq (F : Nat) : ∀ v,aexec VG354v (Af4v F) (bp Try.f4 511) (ef4vj15 v) (kFin VG354v none (Try.f4).results.toList) = f4v_29 F v :=
  seq_cut (by kernel_rfl) (by kernel_rfl) ef4vj15 ef4vj16 _ (fun k => f4v_27 F k) (f4v_28 F)
    (fun Rf4vj16 => f4v_27_eq F Rf4vj16) (f4v_28_eq F)
def f4v_30 (F : Nat) : Ty63 → Rz := fun v => f4v_26 F (f4v_29 F) v
theorem f4v_30_eq (F : Nat) : ∀ v,aexec VG354v (Af4v F) (bp Try.f4 255) (ef4vj13 v) (kFin VG354v none (Try.f4).results.toList) = f4v_30 F v :=
  seq_cut (by kernel_rfl) (by kernel_rfl) ef4vj13 ef4vj15 _ (fun k => f4v_26 F k) (f4v_29 F)
    (fun Rf4vj15 => f4v_26_eq F Rf4vj15) (f4v_29_eq F)
def f4v_31 (F : Nat) : Ty59 → Rz := fun v => f4v_23 F (f4v_30 F) v
theorem f4v_31_eq (F : Nat) : ∀ v,aexec VG354v (Af4v F) (bp Try.f4 127) (ef4vj9 v) (kFin VG354v none (Try.f4).results.toList) = f4v_31 F v :=
  seq_cut (by kernel_rfl) (by kernel_rfl) ef4vj9 ef4vj13 _ (fun k => f4v_23 F k) (f4v_30 F)
    (fun Rf4vj13 => f4v_23_eq F Rf4vj13) (f4v_30_eq F)
def f4v_32 (F : Nat) : Ty58 → Rz := fun v => f4v_14 F (f4v_31 F) v
theorem f4v_32_eq (F : Nat) : ∀ v,aexec VG354v (Af4v F) (bp Try.f4 63) (ef4vj8 v) (kFin VG354v none (Try.f4).results.toList) = f4v_32 F v :=
  seq_cut (by kernel_rfl) (by kernel_rfl) ef4vj8 ef4vj9 _ (fun k => f4v_14 F k) (f4v_31 F)
    (fun Rf4vj9 => f4v_14_eq F Rf4vj9) (f4v_31_eq F)
def f4v_33 (F : Nat) : Ty56 → Rz := fun v => f4v_13 F (f4v_32 F) v
theorem f4v_33_eq (F : Nat) : ∀ v,aexec VG354v (Af4v F) (bp Try.f4 31) (ef4vj6 v) (kFin VG354v none (Try.f4).results.toList) = f4v_33 F v :=
  seq_cut (by kernel_rfl) (by kernel_rfl) ef4vj6 ef4vj8 _ (fun k => f4v_13 F k) (f4v_32 F)
    (fun Rf4vj8 => f4v_13_eq F Rf4vj8) (f4v_32_eq F)
def f4v_34 (F : Nat) : Int × (List Int) × Bool → Rz := fun v => f4v_10 F (f4v_33 F) v
theorem f4v_34_eq (F : Nat) : ∀ v,aexec VG354v (Af4v F) (bp Try.f4 15) (ef4vj5 v) (kFin VG354v none (Try.f4).results.toList) = f4v_34 F v :=
  seq_cut (by kernel_rfl) (by kernel_rfl) ef4vj5 ef4vj6 _ (fun k => f4v_10 F k) (f4v_33 F)
    (fun Rf4vj6 => f4v_10_eq F Rf4vj6) (f4v_33_eq F)
def f4v_35 (F : Nat) : Ty54 → Rz := fun v => f4v_9 F (f4v_34 F) v
theorem f4v_35_eq (F : Nat) : ∀ v,aexec VG354v (Af4v F) (bp Try.f4 7) (ef4vj2 v) (kFin VG354v none (Try.f4).results.toList) = f4v_35 F v :=
  seq_cut (by kernel_rfl) (by kernel_rfl) ef4vj2 ef4vj5 _ (fun k => f4v_9 F k) (f4v_34 F)
    (fun Rf4vj5 => f4v_9_eq F Rf4vj5) (f4v_34_eq F)
def f4v_36 (F : Nat) : Int × Int × (List Int) → Rz := fun v => f4v_2 F (f4v_35 F) v
theorem f4v_36_eq (F : Nat) : ∀ v,aexec VG354v (Af4v F) (bp Try.f4 3) (ef4vj1 v) (kFin VG354v none (Try.f4).results.toList) = f4v_36 F v :=
  seq_cut (by kernel_rfl) (by kernel_rfl) ef4vj1 ef4vj2 _ (fun k => f4v_2 F k) (f4v_35 F)
    (fun Rf4vj2 => f4v_2_eq F Rf4vj2) (f4v_35_eq F)
def f4v_37 (F : Nat) : Int × Int × (List Int) → Rz := fun v => f4v_1 F (f4v_36 F) v
theorem f4v_37_eq (F : Nat) : ∀ v,aexec VG354v (Af4v F) (sub (bodyOf Try.f4) []) (ef4v_a v) (kFin VG354v none (Try.f4).results.toList) = f4v_37 F v :=
  seq_cut (by kernel_rfl) (by kernel_rfl) ef4v_a ef4vj1 _ (fun k => f4v_1 F k) (f4v_36 F)
    (fun Rf4vj1 => f4v_1_eq F Rf4vj1) (f4v_36_eq F)
def f4v (F : Nat) : Int × Int × (List Int) → Rz := f4v_37 F
theorem f4v_body (F : Nat) (a0 : Int) (a1 : Int) (a2 : List Int) : abody VG354v (Af4v F) Try.f4 [(.int .i64 a0),(.int .i64 a1),(.str a2)] [] = f4v F (a0,a1,a2) :=
  (abody_in (c := (sub (bodyOf Try.f4) [])) (by kernel_rfl) (s := ef4v_a (a0,a1,a2)) (by kernel_rfl)).trans (f4v_37_eq F (a0,a1,a2))
def r4v : CRun := fun X H => match X,H with
  | [(.int .i64 a0),(.int .i64 a1),(.str a2)],[] => some ((decide (0 < a0)) && (decide (a0 < 4097)),(.bool true),[])
  | _,_ => none
theorem s4v (a0 : Int) (a1 : Int) (a2 : List Int) (hp : ((decide (0 < a0)) && (decide (a0 < 4097))) = true) (h0 : okV (.int .i64 a0)) (h1 : okV (.int .i64 a1)) (h2 : okV (.str a2)) : ∃ F,f4v F (a0,a1,a2) = some ((.bool true),[]) := by
  rw [dec_and,decide_eq_true_iff] at hp
  refine ⟨0,?_⟩
  obtain ⟨d1,d2,d3,d4,d5,d6⟩ := Dk.fine3
  have n3 : (decide ((0 : Int) < 3) && decide ((3 : Int) < 4097)) = true := by decide
  have z1 : ((0 : Int) != 0) = false := rfl
  have z2 : ((1 : Int) != 1) = false := rfl
  have z3 : (((0 : Nat) : Int) == 0) = true := rfl
  simp only [f4v,f4v_1,f4v_2,f4v_3,f4v_4,f4v_5,f4v_6,f4v_7,f4v_8,f4v_9,f4v_10,f4v_11,f4v_12,f4v_13,f4v_14,f4v_15,f4v_16,f4v_17,f4v_18,f4v_19,f4v_20,f4v_21,f4v_22,f4v_23,f4v_24,f4v_25,f4v_26,f4v_27,f4v_28,f4v_29,f4v_30,f4v_31,f4v_32,f4v_33,f4v_34,f4v_35,f4v_36,f4v_37,n3,z1,d1,d2,cond_true,cond_false,Bool.not_true]
  rw [cond_neg (show ¬ a0 < 1 by omega),show decide (a0 > 4096) = false by rw [decide_eq_false_iff_not]; omega]
  simp only [cond_false]
  by_cases hi : a1 < 0 ∨ a1 > 2
  · obtain ⟨b1,b2,b3,b4⟩ := Dk.bad3 hi
    have z4 : ∀ {α : Type} (x y : α),cond (decide (a1 < 0)) x (cond (decide (a1 > 2)) x y) = x := fun x y => by
      by_cases h : a1 < 0
      · rw [cond_pos h]
      · rw [cond_neg h,cond_pos (hi.resolve_left h)]
    simp only [b1,b2,b3,b4,z2,cond_false]
    by_cases hs : (a2.length : Int) = 64
    · have s1 : ((a2.length : Int) != 64) = false := by simpa using hs
      simp only [s1,cond_false,d1,d2,d3,d4,d5,d6,beq_self_eq_true,cond_true,z3]
      cases decide (a1 < 0) <;> cases hq : decide (a1 > 2) <;> rfl
    · have s1 : ((a2.length : Int) != 64) = true := by simpa using hs
      simp only [s1,cond_true,Dk.short3 hs,z2,cond_false,d1,d2,d3,d4,d5,d6,beq_self_eq_true,z3]
      cases decide (a1 < 0) <;> cases hq : decide (a1 > 2) <;> rfl
  · have q1 : decide (a1 < 0) = false := by rw [decide_eq_false_iff_not]; exact fun h => hi (.inl h)
    have q2 : decide (a1 > 2) = false := by rw [decide_eq_false_iff_not]; exact fun h => hi (.inr h)
    rw [q1,q2]
    simp only [cond_false]
    by_cases hs : (a2.length : Int) = 64
    · have s1 : ((a2.length : Int) != 64) = false := by simpa using hs
      simp only [s1,cond_false,d1,d2,d3,d4,d5,d6,beq_self_eq_true,cond_true,z3]
    · have s1 : ((a2.length : Int) != 64) = true := by simpa using hs
      simp only [s1,cond_true,Dk.short3 hs,z2,cond_false,d1,d2,d3,d4,d5,d6,beq_self_eq_true,z3]

theorem c4v : CallOk Try.prog G35 4 r4v := callOk_of (V := VG354v) mixed tys eVG354v (f := 4) (fn := Try.f4) Try.func4 (by kernel_rfl) (c := sub (bodyOf Try.f4) []) (by kernel_rfl) (by
  intro X H r H' h hX hH
  unfold r4v at h; split at h <;> try contradiction
  · simp only [Option.some.injEq,Prod.mk.injEq] at h
    obtain ⟨hp,rfl,rfl⟩ := h
    obtain ⟨F,hF⟩ := s4v _ _ _ hp (hX _ (.head _)) (hX _ (.tail _ (.head _))) (hX _ (.tail _ (.tail _ (.head _))))
    exact ⟨Af4v F,(f4v_body F _ _ _).trans hF⟩)
def lVG354n : List CEnt := [(9,[],r9),(14,[none],r14m),(15,[none],r15),(16,[none,none],r16),(17,[none,none,none],r17),(18,[none],r18),(19,[none,none,none],r19),(20,[none,none],r20),(21,[some 9,some 9],r21),(22,[none],r22),(23,[none],r23)]
def VG354n : Env := mkEnv T35 G35 lVG354n
theorem eVG354n : EOk Try.prog VG354n := eok_mk (by exact ⟨c9,c14m,c15,c16,c17,c18,c19,c20,c21,c22,c23,trivial⟩)
def Af4n (F : Nat) : Cuts := { F := F,at_ := fun _ => none,join := fun n => match n with | 1049 => some sp27 | 2047 => some sp28 | 5039 => some sp31 | 6037 => some sp32 | 7005 => some sp33 | 8029 => some sp34 | 9027 => some sp35 | 10011 => some sp36 | 11007 => some sp37 | 12005 => some sp38 | 13013 => some sp39 | 14005 => some sp40 | 15005 => some sp41 | 16003 => some sp42 | _ => none }
def ef4n_a : Nat × Int × (List Int) → St := fun (a0,a1,a2) => { tmps := [(0,(.int .i64 (Int.negSucc a0))),(1,(.int .i64 a1)),(2,(.str a2))],heap := [],next := 0,nt := 112,m := 0 }
def ef4nj1 : Nat × Int × (List Int) → St := fun (t0,t1,t2) => { tmps := [(0,(.int .i64 (Int.negSucc t0))),(1,(.int .i64 t1)),(2,(.str t2))],heap := [],next := 0,nt := 112,m := 0 }
def ef4nj2 : Ty66 → St := fun (t0,t1,t2,t7) => { tmps := [(0,(.int .i64 (Int.negSucc t0))),(1,(.int .i64 t1)),(2,(.str t2)),(7,(.bool t7))],heap := [],next := 0,nt := 112,m := 0 }
def ef4nj3 : Int × (List Int) × Bool → St := fun (t1,t2,t7) => { tmps := [(1,(.int .i64 t1)),(2,(.str t2)),(7,(.bool t7))],heap := [],next := 0,nt := 112,m := 0 }
def ef4nj4 : Ty56 → St := fun (t1,t2,t7,t11,e1) => { tmps := [(1,(.int .i64 t1)),(2,(.str t2)),(7,(.bool t7)),(10,(.ptr 0 0 5 0 0 0 5)),(11,(.int .i64 t11))],heap := [(0,(.cells 5 (.segs (.cons 1 (.one (.own 1 e1.n 64)) (.cons 1 (.one (.mp 2)) (.cons 1 (.one (.mp 3)) (.cons 1 (.one (.bool e1.off)) (.cons 1 (.one (.int .i64 e1.left)) .nil)))))) true)),(1,(.cells e1.blk.length (.rI .u8 e1.blk) true)),(2,(.cells 0 (.rM .i64 0 (.arr .u8 64) e1.pend) true)),(3,(.cells 0 (.rM .i64 0 .bool e1.worn) true))],next := 4,nt := 112,m := 0 }
def ef4nj5 : Ty57 → St := fun (t1,t2,t50,e1) => { tmps := [(1,(.int .i64 t1)),(2,(.str t2)),(10,(.ptr 0 0 5 0 0 0 5)),(50,(.bool t50))],heap := [(0,(.cells 5 (.segs (.cons 1 (.one (.own 1 e1.n 64)) (.cons 1 (.one (.mp 2)) (.cons 1 (.one (.mp 3)) (.cons 1 (.one (.bool e1.off)) (.cons 1 (.one (.int .i64 e1.left)) .nil)))))) true)),(1,(.cells e1.blk.length (.rI .u8 e1.blk) true)),(2,(.cells 0 (.rM .i64 0 (.arr .u8 64) e1.pend) true)),(3,(.cells 0 (.rM .i64 0 .bool e1.worn) true))],next := 4,nt := 112,m := 0 }
def ef4nj6 : Ty58 → St := fun (t1,t2,e1) => { tmps := [(1,(.int .i64 t1)),(2,(.str t2)),(10,(.ptr 0 0 5 0 0 0 5))],heap := [(0,(.cells 5 (.segs (.cons 1 (.one (.own 1 e1.n 64)) (.cons 1 (.one (.mp 2)) (.cons 1 (.one (.mp 3)) (.cons 1 (.one (.bool e1.off)) (.cons 1 (.one (.int .i64 e1.left)) .nil)))))) true)),(1,(.cells e1.blk.length (.rI .u8 e1.blk) true)),(2,(.cells 0 (.rM .i64 0 (.arr .u8 64) e1.pend) true)),(3,(.cells 0 (.rM .i64 0 .bool e1.worn) true))],next := 4,nt := 112,m := 0 }
def ef4nj7 : Ty59 → St := fun (t1,t2,t12,e1) => { tmps := [(1,(.int .i64 t1)),(2,(.str t2)),(10,(.ptr 0 0 5 0 0 0 5)),(12,(.vs (.rS t12) 0 1))],heap := [(0,(.cells 5 (.segs (.cons 1 (.one (.own 1 e1.n 64)) (.cons 1 (.one (.mp 2)) (.cons 1 (.one (.mp 3)) (.cons 1 (.one (.bool e1.off)) (.cons 1 (.one (.int .i64 e1.left)) .nil)))))) true)),(1,(.cells e1.blk.length (.rI .u8 e1.blk) true)),(2,(.cells 0 (.rM .i64 0 (.arr .u8 64) e1.pend) true)),(3,(.cells 0 (.rM .i64 0 .bool e1.worn) true))],next := 4,nt := 112,m := 0 }
def ef4nj8 : Ty60 → St := fun (t1,t2,t12,t58,e1) => { tmps := [(1,(.int .i64 t1)),(2,(.str t2)),(10,(.ptr 0 0 5 0 0 0 5)),(12,(.vs (.rS t12) 0 1)),(58,(.bool t58))],heap := [(0,(.cells 5 (.segs (.cons 1 (.one (.own 1 e1.n 64)) (.cons 1 (.one (.mp 2)) (.cons 1 (.one (.mp 3)) (.cons 1 (.one (.bool e1.off)) (.cons 1 (.one (.int .i64 e1.left)) .nil)))))) true)),(1,(.cells e1.blk.length (.rI .u8 e1.blk) true)),(2,(.cells 0 (.rM .i64 0 (.arr .u8 64) e1.pend) true)),(3,(.cells 0 (.rM .i64 0 .bool e1.worn) true))],next := 4,nt := 112,m := 0 }
def ef4nj9 : Ty61 → St := fun (t1,t2,t12,t14,e1) => { tmps := [(1,(.int .i64 t1)),(2,(.str t2)),(10,(.ptr 0 0 5 0 0 0 5)),(12,(.vs (.rS t12) 0 1)),(14,(.int .i64 t14))],heap := [(0,(.cells 5 (.segs (.cons 1 (.one (.own 1 e1.n 64)) (.cons 1 (.one (.mp 2)) (.cons 1 (.one (.mp 3)) (.cons 1 (.one (.bool e1.off)) (.cons 1 (.one (.int .i64 e1.left)) .nil)))))) true)),(1,(.cells e1.blk.length (.rI .u8 e1.blk) true)),(2,(.cells 0 (.rM .i64 0 (.arr .u8 64) e1.pend) true)),(3,(.cells 0 (.rM .i64 0 .bool e1.worn) true))],next := 4,nt := 112,m := 0 }
def ef4nj10 : Ty62 → St := fun (t2,t12,t85,e1) => { tmps := [(2,(.str t2)),(10,(.ptr 0 0 5 0 0 0 5)),(12,(.vs (.rS t12) 0 1)),(85,(.bool t85))],heap := [(0,(.cells 5 (.segs (.cons 1 (.one (.own 1 e1.n 64)) (.cons 1 (.one (.mp 2)) (.cons 1 (.one (.mp 3)) (.cons 1 (.one (.bool e1.off)) (.cons 1 (.one (.int .i64 e1.left)) .nil)))))) true)),(1,(.cells e1.blk.length (.rI .u8 e1.blk) true)),(2,(.cells 0 (.rM .i64 0 (.arr .u8 64) e1.pend) true)),(3,(.cells 0 (.rM .i64 0 .bool e1.worn) true))],next := 4,nt := 112,m := 0 }
def ef4nj11 : Ty63 → St := fun (t2,t12,e1) => { tmps := [(2,(.str t2)),(10,(.ptr 0 0 5 0 0 0 5)),(12,(.vs (.rS t12) 0 1))],heap := [(0,(.cells 5 (.segs (.cons 1 (.one (.own 1 e1.n 64)) (.cons 1 (.one (.mp 2)) (.cons 1 (.one (.mp 3)) (.cons 1 (.one (.bool e1.off)) (.cons 1 (.one (.int .i64 e1.left)) .nil)))))) true)),(1,(.cells e1.blk.length (.rI .u8 e1.blk) true)),(2,(.cells 0 (.rM .i64 0 (.arr .u8 64) e1.pend) true)),(3,(.cells 0 (.rM .i64 0 .bool e1.worn) true))],next := 4,nt := 112,m := 0 }
def ef4nj12 : Ty64 → St := fun (t12,t94,e1) => { tmps := [(10,(.ptr 0 0 5 0 0 0 5)),(12,(.vs (.rS t12) 0 1)),(94,(.bool t94))],heap := [(0,(.cells 5 (.segs (.cons 1 (.one (.own 1 e1.n 64)) (.cons 1 (.one (.mp 2)) (.cons 1 (.one (.mp 3)) (.cons 1 (.one (.bool e1.off)) (.cons 1 (.one (.int .i64 e1.left)) .nil)))))) true)),(1,(.cells e1.blk.length (.rI .u8 e1.blk) true)),(2,(.cells 0 (.rM .i64 0 (.arr .u8 64) e1.pend) true)),(3,(.cells 0 (.rM .i64 0 .bool e1.worn) true))],next := 4,nt := 112,m := 0 }
def ef4nj13 : Ty65 → St := fun (t12,e1) => { tmps := [(10,(.ptr 0 0 5 0 0 0 5)),(12,(.vs (.rS t12) 0 1))],heap := [(0,(.cells 5 (.segs (.cons 1 (.one (.own 1 e1.n 64)) (.cons 1 (.one (.mp 2)) (.cons 1 (.one (.mp 3)) (.cons 1 (.one (.bool e1.off)) (.cons 1 (.one (.int .i64 e1.left)) .nil)))))) true)),(1,(.cells e1.blk.length (.rI .u8 e1.blk) true)),(2,(.cells 0 (.rM .i64 0 (.arr .u8 64) e1.pend) true)),(3,(.cells 0 (.rM .i64 0 .bool e1.worn) true))],next := 4,nt := 112,m := 0 }
def ef4nj14 : Bool × (Dk.D) → St := fun (t15,e1) => { tmps := [(10,(.ptr 0 0 5 0 0 0 5)),(15,(.bool t15))],heap := [(0,(.cells 5 (.segs (.cons 1 (.one (.own 1 e1.n 64)) (.cons 1 (.one (.mp 2)) (.cons 1 (.one (.mp 3)) (.cons 1 (.one (.bool e1.off)) (.cons 1 (.one (.int .i64 e1.left)) .nil)))))) true)),(1,(.cells e1.blk.length (.rI .u8 e1.blk) true)),(2,(.cells 0 (.rM .i64 0 (.arr .u8 64) e1.pend) true)),(3,(.cells 0 (.rM .i64 0 .bool e1.worn) true))],next := 4,nt := 112,m := 0 }
def f4n_1 (F : Nat) (kf4nj1 : Nat × Int × (List Int) → Rz) : Nat × Int × (List Int) → Rz := fun (a0,a1,a2) => (kf4nj1 (a0,a1,a2))
theorem f4n_1_eq (F : Nat) (Rf4nj1 : St → Rz) : ∀ v,aexec VG354n (Af4n F) (bp Try.f4 2) (ef4n_a v) (kSeq (kc VG354n Rf4nj1 sp27) (kFin VG354n none (Try.f4).results.toList)) = f4n_1 F (Rf4nj1 ∘ ef4nj1) v := by
  rintro ⟨a0,a1,a2⟩; kernel_rfl
def f4n_2 (F : Nat) (kf4nj2 : Ty66 → Rz) : Nat × Int × (List Int) → Rz := fun (t0,t1,t2) => (kf4nj2 (t0,t1,t2,true))
theorem f4n_2_eq (F : Nat) (Rf4nj2 : St → Rz) : ∀ v,aexec VG354n (Af4n F) (bp Try.f4 6) (ef4nj1 v) (kSeq (kc VG354n Rf4nj2 sp28) (kFin VG354n none (Try.f4).results.toList)) = f4n_2 F (Rf4nj2 ∘ ef4nj2) v := by
  rintro ⟨t0,t1,t2⟩; kernel_rfl
def f4n_3 (F : Nat) (kf4nj3 : Int × (List Int) × Bool → Rz) : Ty66 → Rz := fun (t0,t1,t2,t7) => (cond (decide ((Int.negSucc t0) < (1 : Int))) (cond (!((decide (0 < (Int.negSucc t0))) && (decide ((Int.negSucc t0) < 4097)))) (cond t7 (kf4nj3 (t1,t2,(1 == (1 : Int)))) (kf4nj3 (t1,t2,false))) none) (cond (decide ((Int.negSucc t0) > (4096 : Int))) (cond (!((decide (0 < (Int.negSucc t0))) && (decide ((Int.negSucc t0) < 4097)))) (cond t7 (kf4nj3 (t1,t2,(1 == (1 : Int)))) (kf4nj3 (t1,t2,false))) none) (kf4nj3 (t1,t2,t7))))
theorem f4n_3_eq (F : Nat) (Rf4nj3 : St → Rz) : ∀ v,aexec VG354n (Af4n F) (bp Try.f4 14) (ef4nj2 v) (kSeq (kc VG354n Rf4nj3 sp31) (kFin VG354n none (Try.f4).results.toList)) = f4n_3 F (Rf4nj3 ∘ ef4nj3) v := by
  rintro ⟨t0,t1,t2,t7⟩; kernel_rfl
def f4n_4 (F : Nat) (kf4nj4 : Ty56 → Rz) : Int × (List Int) × Bool → Rz := fun (t1,t2,t7) => (kf4nj4 (t1,t2,t7,0,(Dk.new 3)))
theorem f4n_4_eq (F : Nat) (Rf4nj4 : St → Rz) : ∀ v,aexec VG354n (Af4n F) (bp Try.f4 30) (ef4nj3 v) (kSeq (kc VG354n Rf4nj4 sp32) (kFin VG354n none (Try.f4).results.toList)) = f4n_4 F (Rf4nj4 ∘ ef4nj4) v := by
  rintro ⟨t1,t2,t7⟩; kernel_rfl
def f4n_5 (F : Nat) (kf4nj5 : Ty57 → Rz) (kf4nj6 : Ty58 → Rz) : Ty56 → Rz := fun (t1,t2,t7,t11,e1) => (cond (t11 != (0 : Int)) (kf4nj5 (t1,t2,true,e1)) (kf4nj5 (t1,t2,(!t7),e1)))
theorem f4n_5_eq (F : Nat) (Rf4nj5 : St → Rz) (Rf4nj6 : St → Rz) : ∀ v,aexec VG354n (Af4n F) (bp Try.f4 124) (ef4nj4 v) (kSeq (kc VG354n Rf4nj5 sp33) (kSeq (kc VG354n Rf4nj6 sp34) (kFin VG354n none (Try.f4).results.toList))) = f4n_5 F (Rf4nj5 ∘ ef4nj5) (Rf4nj6 ∘ ef4nj6) v := by
  rintro ⟨t1,t2,t7,t11,e1⟩; kernel_rfl
def f4n_6 (F : Nat) (kf4nj6 : Ty58 → Rz) : Ty57 → Rz := fun (t1,t2,t50,e1) => (cond t50 (some ((.bool false),[])) (kf4nj6 (t1,t2,e1)))
theorem f4n_6_eq (F : Nat) (Rf4nj6 : St → Rz) : ∀ v,aexec VG354n (Af4n F) (bp Try.f4 125) (ef4nj5 v) (kSeq (kc VG354n Rf4nj6 sp34) (kFin VG354n none (Try.f4).results.toList)) = f4n_6 F (Rf4nj6 ∘ ef4nj6) v := by
  rintro ⟨t1,t2,t50,e1⟩; kernel_rfl
def f4n_7 (F : Nat) (kf4nj6 : Ty58 → Rz) : Ty56 → Rz := fun v => f4n_5 F (f4n_6 F kf4nj6) kf4nj6 v
theorem f4n_7_eq (F : Nat) (Rf4nj6 : St → Rz) : ∀ v,aexec VG354n (Af4n F) (bp Try.f4 62) (ef4nj4 v) (kSeq (kc VG354n Rf4nj6 sp34) (kFin VG354n none (Try.f4).results.toList)) = f4n_7 F (Rf4nj6 ∘ ef4nj6) v :=
  seq_cut (by kernel_rfl) (by kernel_rfl) ef4nj4 ef4nj5 _ (fun k => f4n_5 F k (Rf4nj6 ∘ ef4nj6)) (f4n_6 F (Rf4nj6 ∘ ef4nj6))
    (fun Rf4nj5 => f4n_5_eq F Rf4nj5 Rf4nj6) (f4n_6_eq F Rf4nj6)
def f4n_8 (F : Nat) (kf4nj7 : Ty59 → Rz) : Ty58 → Rz := fun (t1,t2,e1) => (cond (decide (e1.blk.length = e1.n * 64 ∧ e1.n < 8000)) (kf4nj7 (t1,t2,(Dk.image e1),e1)) none)
theorem f4n_8_eq (F : Nat) (Rf4nj7 : St → Rz) : ∀ v,aexec VG354n (Af4n F) (bp Try.f4 126) (ef4nj6 v) (kSeq (kc VG354n Rf4nj7 sp35) (kFin VG354n none (Try.f4).results.toList)) = f4n_8 F (Rf4nj7 ∘ ef4nj7) v := by
  rintro ⟨t1,t2,e1⟩; kernel_rfl
def f4n_9 (F : Nat) (kf4nj8 : Ty60 → Rz) (kf4nj11 : Ty63 → Rz) : Ty59 → Rz := fun (t1,t2,t12,e1) => (cond (decide (t1 < (0 : Int))) (kf4nj8 (t1,t2,t12,true,e1)) (kf4nj8 (t1,t2,t12,(decide (t1 > (2 : Int))),e1)))
theorem f4n_9_eq (F : Nat) (Rf4nj8 : St → Rz) (Rf4nj11 : St → Rz) : ∀ v,aexec VG354n (Af4n F) (bp Try.f4 508) (ef4nj7 v) (kSeq (kc VG354n Rf4nj8 sp36) (kSeq (kc VG354n Rf4nj11 sp39) (kFin VG354n none (Try.f4).results.toList))) = f4n_9 F (Rf4nj8 ∘ ef4nj8) (Rf4nj11 ∘ ef4nj11) v := by
  rintro ⟨t1,t2,t12,e1⟩; kernel_rfl
def f4n_10 (F : Nat) (kf4nj9 : Ty61 → Rz) (kf4nj11 : Ty63 → Rz) : Ty60 → Rz := fun (t1,t2,t12,t58,e1) => (kf4nj9 (t1,t2,t12,(Dk.read e1 t1).2,e1))
theorem f4n_10_eq (F : Nat) (Rf4nj9 : St → Rz) (Rf4nj11 : St → Rz) : ∀ v,aexec VG354n (Af4n F) (bp Try.f4 2036) (ef4nj8 v) (kSeq (kc VG354n Rf4nj9 sp37) (kSeq (kc VG354n Rf4nj11 sp39) (kFin VG354n none (Try.f4).results.toList))) = f4n_10 F (Rf4nj9 ∘ ef4nj9) (Rf4nj11 ∘ ef4nj11) v := by
  rintro ⟨t1,t2,t12,t58,e1⟩; kernel_rfl
def f4n_11 (F : Nat) (kf4nj10 : Ty62 → Rz) (kf4nj11 : Ty63 → Rz) : Ty61 → Rz := fun (t1,t2,t12,t14,e1) => (cond (t14 != (1 : Int)) (kf4nj10 (t2,t12,true,e1)) (cond ((Dk.write e1 t1 (Dk.full (120 : Int))).2 != (1 : Int)) (kf4nj10 (t2,t12,true,(Dk.write e1 t1 (Dk.full (120 : Int))).1)) (cond ((Dk.rot (Dk.write e1 t1 (Dk.full (120 : Int))).1 t1 (0 : Int)).2 != (1 : Int)) (kf4nj10 (t2,t12,true,(Dk.rot (Dk.write e1 t1 (Dk.full (120 : Int))).1 t1 (0 : Int)).1)) (kf4nj10 (t2,t12,((Dk.wear (Dk.rot (Dk.write e1 t1 (Dk.full (120 : Int))).1 t1 (0 : Int)).1 t1).2 != (1 : Int)),(Dk.wear (Dk.rot (Dk.write e1 t1 (Dk.full (120 : Int))).1 t1 (0 : Int)).1 t1).1)))))
theorem f4n_11_eq (F : Nat) (Rf4nj10 : St → Rz) (Rf4nj11 : St → Rz) : ∀ v,aexec VG354n (Af4n F) (bp Try.f4 4074) (ef4nj9 v) (kSeq (kc VG354n Rf4nj10 sp38) (kSeq (kc VG354n Rf4nj11 sp39) (kFin VG354n none (Try.f4).results.toList))) = f4n_11 F (Rf4nj10 ∘ ef4nj10) (Rf4nj11 ∘ ef4nj11) v := by
  rintro ⟨t1,t2,t12,t14,e1⟩; kernel_rfl
def f4n_12 (F : Nat) (kf4nj11 : Ty63 → Rz) : Ty62 → Rz := fun (t2,t12,t85,e1) => (cond t85 (some ((.bool false),[])) (kf4nj11 (t2,t12,e1)))
theorem f4n_12_eq (F : Nat) (Rf4nj11 : St → Rz) : ∀ v,aexec VG354n (Af4n F) (bp Try.f4 4075) (ef4nj10 v) (kSeq (kc VG354n Rf4nj11 sp39) (kFin VG354n none (Try.f4).results.toList)) = f4n_12 F (Rf4nj11 ∘ ef4nj11) v := by
  rintro ⟨t2,t12,t85,e1⟩; kernel_rfl
def f4n_13 (F : Nat) (kf4nj11 : Ty63 → Rz) : Ty61 → Rz := fun v => f4n_11 F (f4n_12 F kf4nj11) kf4nj11 v
theorem f4n_13_eq (F : Nat) (Rf4nj11 : St → Rz) : ∀ v,aexec VG354n (Af4n F) (bp Try.f4 2037) (ef4nj9 v) (kSeq (kc VG354n Rf4nj11 sp39) (kFin VG354n none (Try.f4).results.toList)) = f4n_13 F (Rf4nj11 ∘ ef4nj11) v :=
  seq_cut (by kernel_rfl) (by kernel_rfl) ef4nj9 ef4nj10 _ (fun k => f4n_11 F k (Rf4nj11 ∘ ef4nj11)) (f4n_12 F (Rf4nj11 ∘ ef4nj11))
    (fun Rf4nj10 => f4n_11_eq F Rf4nj10 Rf4nj11) (f4n_12_eq F Rf4nj11)
def f4n_14 (F : Nat) (kf4nj11 : Ty63 → Rz) : Ty60 → Rz := fun v => f4n_10 F (f4n_13 F kf4nj11) kf4nj11 v
theorem f4n_14_eq (F : Nat) (Rf4nj11 : St → Rz) : ∀ v,aexec VG354n (Af4n F) (bp Try.f4 1018) (ef4nj8 v) (kSeq (kc VG354n Rf4nj11 sp39) (kFin VG354n none (Try.f4).results.toList)) = f4n_14 F (Rf4nj11 ∘ ef4nj11) v :=
  seq_cut (by kernel_rfl) (by kernel_rfl) ef4nj8 ef4nj9 _ (fun k => f4n_10 F k (Rf4nj11 ∘ ef4nj11)) (f4n_13 F (Rf4nj11 ∘ ef4nj11))
    (fun Rf4nj9 => f4n_10_eq F Rf4nj9 Rf4nj11) (f4n_13_eq F Rf4nj11)
def f4n_15 (F : Nat) (kf4nj11 : Ty63 → Rz) : Ty60 → Rz := fun (t1,t2,t12,t58,e1) => (kf4nj11 (t2,t12,e1))
theorem f4n_15_eq (F : Nat) (Rf4nj11 : St → Rz) : ∀ v,aexec VG354n (Af4n F) (bp Try.f4 1019) (ef4nj8 v) (kSeq (kc VG354n Rf4nj11 sp39) (kFin VG354n none (Try.f4).results.toList)) = f4n_15 F (Rf4nj11 ∘ ef4nj11) v := by
  rintro ⟨t1,t2,t12,t58,e1⟩; kernel_rfl
def f4n_16 (F : Nat) (kf4nj11 : Ty63 → Rz) : Ty60 → Rz := fun v => cond ((fun (t1,t2,t12,t58,e1) => t58) v) (f4n_14 F kf4nj11 v) (f4n_15 F kf4nj11 v)
theorem f4n_16_eq (F : Nat) (Rf4nj11 : St → Rz) : ∀ v,aexec VG354n (Af4n F) (bp Try.f4 509) (ef4nj8 v) (kSeq (kc VG354n Rf4nj11 sp39) (kFin VG354n none (Try.f4).results.toList)) = f4n_16 F (Rf4nj11 ∘ ef4nj11) v :=
  cond_in (o := .tmp 58) (by kernel_rfl) ef4nj8 _ (fun (t1,t2,t12,t58,e1) => t58) (by rintro ⟨t1,t2,t12,t58,e1⟩; kernel_rfl) _ _ (f4n_14_eq F Rf4nj11) (f4n_15_eq F Rf4nj11)
def f4n_17 (F : Nat) (kf4nj11 : Ty63 → Rz) : Ty59 → Rz := fun v => f4n_9 F (f4n_16 F kf4nj11) kf4nj11 v
theorem f4n_17_eq (F : Nat) (Rf4nj11 : St → Rz) : ∀ v,aexec VG354n (Af4n F) (bp Try.f4 254) (ef4nj7 v) (kSeq (kc VG354n Rf4nj11 sp39) (kFin VG354n none (Try.f4).results.toList)) = f4n_17 F (Rf4nj11 ∘ ef4nj11) v :=
  seq_cut (by kernel_rfl) (by kernel_rfl) ef4nj7 ef4nj8 _ (fun k => f4n_9 F k (Rf4nj11 ∘ ef4nj11)) (f4n_16 F (Rf4nj11 ∘ ef4nj11))
    (fun Rf4nj8 => f4n_9_eq F Rf4nj8 Rf4nj11) (f4n_16_eq F Rf4nj11)
def f4n_18 (F : Nat) (kf4nj12 : Ty64 → Rz) (kf4nj13 : Ty65 → Rz) : Ty63 → Rz := fun (t2,t12,e1) => (cond ((↑t2.length : Int) != (64 : Int)) (kf4nj12 (t12,((Dk.write e1 (0 : Int) t2).2 != (1 : Int)),(Dk.write e1 (0 : Int) t2).1)) (kf4nj12 (t12,false,e1)))
theorem f4n_18_eq (F : Nat) (Rf4nj12 : St → Rz) (Rf4nj13 : St → Rz) : ∀ v,aexec VG354n (Af4n F) (bp Try.f4 1020) (ef4nj11 v) (kSeq (kc VG354n Rf4nj12 sp40) (kSeq (kc VG354n Rf4nj13 sp41) (kFin VG354n none (Try.f4).results.toList))) = f4n_18 F (Rf4nj12 ∘ ef4nj12) (Rf4nj13 ∘ ef4nj13) v := by
  rintro ⟨t2,t12,e1⟩; kernel_rfl
def f4n_19 (F : Nat) (kf4nj13 : Ty65 → Rz) : Ty64 → Rz := fun (t12,t94,e1) => (cond t94 (some ((.bool false),[])) (kf4nj13 (t12,e1)))
theorem f4n_19_eq (F : Nat) (Rf4nj13 : St → Rz) : ∀ v,aexec VG354n (Af4n F) (bp Try.f4 1021) (ef4nj12 v) (kSeq (kc VG354n Rf4nj13 sp41) (kFin VG354n none (Try.f4).results.toList)) = f4n_19 F (Rf4nj13 ∘ ef4nj13) v := by
  rintro ⟨t12,t94,e1⟩; kernel_rfl
def f4n_20 (F : Nat) (kf4nj13 : Ty65 → Rz) : Ty63 → Rz := fun v => f4n_18 F (f4n_19 F kf4nj13) kf4nj13 v
theorem f4n_20_eq (F : Nat) (Rf4nj13 : St → Rz) : ∀ v,aexec VG354n (Af4n F) (bp Try.f4 510) (ef4nj11 v) (kSeq (kc VG354n Rf4nj13 sp41) (kFin VG354n none (Try.f4).results.toList)) = f4n_20 F (Rf4nj13 ∘ ef4nj13) v :=
  seq_cut (by kernel_rfl) (by kernel_rfl) ef4nj11 ef4nj12 _ (fun k => f4n_18 F k (Rf4nj13 ∘ ef4nj13)) (f4n_19 F (Rf4nj13 ∘ ef4nj13))
    (fun Rf4nj12 => f4n_18_eq F Rf4nj12 Rf4nj13) (f4n_19_eq F Rf4nj13)
def f4n_21 (F : Nat) (kf4nj14 : Bool × (Dk.D) → Rz) : Ty65 → Rz := fun (t12,e1) => (cond (decide (e1.blk.length = e1.n * 64 ∧ e1.n < 8000)) (cond (decide (t12.length < 1073741824)) (kf4nj14 ((t12 == (Dk.image e1)),e1)) none) none)
theorem f4n_21_eq (F : Nat) (Rf4nj14 : St → Rz) : ∀ v,aexec VG354n (Af4n F) (bp Try.f4 1022) (ef4nj13 v) (kSeq (kc VG354n Rf4nj14 sp42) (kFin VG354n none (Try.f4).results.toList)) = f4n_21 F (Rf4nj14 ∘ ef4nj14) v := by
  rintro ⟨t12,e1⟩; kernel_rfl
def f4n_22 (F : Nat) : Bool × (Dk.D) → Rz := fun (t15,e1) => (cond t15 (cond (decide (e1.pend.length < 1073741824)) (cond ((↑(Dk.pending e1).length : Int) == (0 : Int)) (cond (decide (e1.worn.length < 1073741824)) (some ((.bool ((↑(Dk.wornl e1).length : Int) == (0 : Int))),[])) none) (some ((.bool false),[]))) none) (some ((.bool false),[])))
theorem f4n_22_eq (F : Nat) : ∀ v,aexec VG354n (Af4n F) (bp Try.f4 1023) (ef4nj14 v) (kFin VG354n none (Try.f4).results.toList) = f4n_22 F v := by
  rintro ⟨t15,e1⟩; kernel_rfl
def f4n_23 (F : Nat) : Ty65 → Rz := fun v => f4n_21 F (f4n_22 F) v
theorem f4n_23_eq (F : Nat) : ∀ v,aexec VG354n (Af4n F) (bp Try.f4 511) (ef4nj13 v) (kFin VG354n none (Try.f4).results.toList) = f4n_23 F v :=
  seq_cut (by kernel_rfl) (by kernel_rfl) ef4nj13 ef4nj14 _ (fun k => f4n_21 F k) (f4n_22 F)
    (fun Rf4nj14 => f4n_21_eq F Rf4nj14) (f4n_22_eq F)
def f4n_24 (F : Nat) : Ty63 → Rz := fun v => f4n_20 F (f4n_23 F) v
theorem f4n_24_eq (F : Nat) : ∀ v,aexec VG354n (Af4n F) (bp Try.f4 255) (ef4nj11 v) (kFin VG354n none (Try.f4).results.toList) = f4n_24 F v :=
  seq_cut (by kernel_rfl) (by kernel_rfl) ef4nj11 ef4nj13 _ (fun k => f4n_20 F k) (f4n_23 F)
    (fun Rf4nj13 => f4n_20_eq F Rf4nj13) (f4n_23_eq F)
def f4n_25 (F : Nat) : Ty59 → Rz := fun v => f4n_17 F (f4n_24 F) v
theorem f4n_25_eq (F : Nat) : ∀ v,aexec VG354n (Af4n F) (bp Try.f4 127) (ef4nj7 v) (kFin VG354n none (Try.f4).results.toList) = f4n_25 F v :=
  seq_cut (by kernel_rfl) (by kernel_rfl) ef4nj7 ef4nj11 _ (fun k => f4n_17 F k) (f4n_24 F)
    (fun Rf4nj11 => f4n_17_eq F Rf4nj11) (f4n_24_eq F)
def f4n_26 (F : Nat) : Ty58 → Rz := fun v => f4n_8 F (f4n_25 F) v
theorem f4n_26_eq (F : Nat) : ∀ v,aexec VG354n (Af4n F) (bp Try.f4 63) (ef4nj6 v) (kFin VG354n none (Try.f4).results.toList) = f4n_26 F v :=
  seq_cut (by kernel_rfl) (by kernel_rfl) ef4nj6 ef4nj7 _ (fun k => f4n_8 F k) (f4n_25 F)
    (fun Rf4nj7 => f4n_8_eq F Rf4nj7) (f4n_25_eq F)
def f4n_27 (F : Nat) : Ty56 → Rz := fun v => f4n_7 F (f4n_26 F) v
theorem f4n_27_eq (F : Nat) : ∀ v,aexec VG354n (Af4n F) (bp Try.f4 31) (ef4nj4 v) (kFin VG354n none (Try.f4).results.toList) = f4n_27 F v :=
  seq_cut (by kernel_rfl) (by kernel_rfl) ef4nj4 ef4nj6 _ (fun k => f4n_7 F k) (f4n_26 F)
    (fun Rf4nj6 => f4n_7_eq F Rf4nj6) (f4n_26_eq F)
def f4n_28 (F : Nat) : Int × (List Int) × Bool → Rz := fun v => f4n_4 F (f4n_27 F) v
theorem f4n_28_eq (F : Nat) : ∀ v,aexec VG354n (Af4n F) (bp Try.f4 15) (ef4nj3 v) (kFin VG354n none (Try.f4).results.toList) = f4n_28 F v :=
  seq_cut (by kernel_rfl) (by kernel_rfl) ef4nj3 ef4nj4 _ (fun k => f4n_4 F k) (f4n_27 F)
    (fun Rf4nj4 => f4n_4_eq F Rf4nj4) (f4n_27_eq F)
def f4n_29 (F : Nat) : Ty66 → Rz := fun v => f4n_3 F (f4n_28 F) v
theorem f4n_29_eq (F : Nat) : ∀ v,aexec VG354n (Af4n F) (bp Try.f4 7) (ef4nj2 v) (kFin VG354n none (Try.f4).results.toList) = f4n_29 F v :=
  seq_cut (by kernel_rfl) (by kernel_rfl) ef4nj2 ef4nj3 _ (fun k => f4n_3 F k) (f4n_28 F)
    (fun Rf4nj3 => f4n_3_eq F Rf4nj3) (f4n_28_eq F)
def f4n_30 (F : Nat) : Nat × Int × (List Int) → Rz := fun v => f4n_2 F (f4n_29 F) v
theorem f4n_30_eq (F : Nat) : ∀ v,aexec VG354n (Af4n F) (bp Try.f4 3) (ef4nj1 v) (kFin VG354n none (Try.f4).results.toList) = f4n_30 F v :=
  seq_cut (by kernel_rfl) (by kernel_rfl) ef4nj1 ef4nj2 _ (fun k => f4n_2 F k) (f4n_29 F)
    (fun Rf4nj2 => f4n_2_eq F Rf4nj2) (f4n_29_eq F)
def f4n_31 (F : Nat) : Nat × Int × (List Int) → Rz := fun v => f4n_1 F (f4n_30 F) v
theorem f4n_31_eq (F : Nat) : ∀ v,aexec VG354n (Af4n F) (sub (bodyOf Try.f4) []) (ef4n_a v) (kFin VG354n none (Try.f4).results.toList) = f4n_31 F v :=
  seq_cut (by kernel_rfl) (by kernel_rfl) ef4n_a ef4nj1 _ (fun k => f4n_1 F k) (f4n_30 F)
    (fun Rf4nj1 => f4n_1_eq F Rf4nj1) (f4n_30_eq F)
def f4n (F : Nat) : Nat × Int × (List Int) → Rz := f4n_31 F
theorem f4n_body (F : Nat) (a0 : Nat) (a1 : Int) (a2 : List Int) : abody VG354n (Af4n F) Try.f4 [(.int .i64 (Int.negSucc a0)),(.int .i64 a1),(.str a2)] [] = f4n F (a0,a1,a2) :=
  (abody_in (c := (sub (bodyOf Try.f4) [])) (by kernel_rfl) (s := ef4n_a (a0,a1,a2)) (by kernel_rfl)).trans (f4n_31_eq F (a0,a1,a2))
def r4n : CRun := fun X H => match X,H with
  | [(.int .i64 (Int.negSucc a0)),(.int .i64 a1),(.str a2)],[] => some (true,(.bool true),[])
  | _,_ => none
theorem s4n (a0 : Nat) (a1 : Int) (a2 : List Int) (h0 : okV (.int .i64 (Int.negSucc a0))) (h1 : okV (.int .i64 a1)) (h2 : okV (.str a2)) : ∃ F,f4n F (a0,a1,a2) = some ((.bool true),[]) := by
  refine ⟨0,?_⟩
  obtain ⟨d1,d2,d3,d4,d5,d6⟩ := Dk.fine3
  have n3 : (decide ((0 : Int) < 3) && decide ((3 : Int) < 4097)) = true := by decide
  have z1 : ((0 : Int) != 0) = false := rfl
  have z2 : ((1 : Int) != 1) = false := rfl
  have z3 : (((0 : Nat) : Int) == 0) = true := rfl
  simp only [f4n,f4n_1,f4n_2,f4n_3,f4n_4,f4n_5,f4n_6,f4n_7,f4n_8,f4n_9,f4n_10,f4n_11,f4n_12,f4n_13,f4n_14,f4n_15,f4n_16,f4n_17,f4n_18,f4n_19,f4n_20,f4n_21,f4n_22,f4n_23,f4n_24,f4n_25,f4n_26,f4n_27,f4n_28,f4n_29,f4n_30,f4n_31,n3,z1,d1,d2,cond_true,cond_false,Bool.not_true]
  have y1 : Int.negSucc a0 < 1 := by omega
  have y2 : (!(decide (0 < Int.negSucc a0) && decide (Int.negSucc a0 < 4097))) = true := by rw [dec_and,dec_not,decide_eq_true_iff]; omega
  rw [cond_pos y1,y2]
  simp only [cond_true,beq_self_eq_true,Bool.not_true,cond_false]
  by_cases hi : a1 < 0 ∨ a1 > 2
  · obtain ⟨b1,b2,b3,b4⟩ := Dk.bad3 hi
    have z4 : ∀ {α : Type} (x y : α),cond (decide (a1 < 0)) x (cond (decide (a1 > 2)) x y) = x := fun x y => by
      by_cases h : a1 < 0
      · rw [cond_pos h]
      · rw [cond_neg h,cond_pos (hi.resolve_left h)]
    simp only [b1,b2,b3,b4,z2,cond_false]
    by_cases hs : (a2.length : Int) = 64
    · have s1 : ((a2.length : Int) != 64) = false := by simpa using hs
      simp only [s1,cond_false,d1,d2,d3,d4,d5,d6,beq_self_eq_true,cond_true,z3]
      cases decide (a1 < 0) <;> cases hq : decide (a1 > 2) <;> rfl
    · have s1 : ((a2.length : Int) != 64) = true := by simpa using hs
      simp only [s1,cond_true,Dk.short3 hs,z2,cond_false,d1,d2,d3,d4,d5,d6,beq_self_eq_true,z3]
      cases decide (a1 < 0) <;> cases hq : decide (a1 > 2) <;> rfl
  · have q1 : decide (a1 < 0) = false := by rw [decide_eq_false_iff_not]; exact fun h => hi (.inl h)
    have q2 : decide (a1 > 2) = false := by rw [decide_eq_false_iff_not]; exact fun h => hi (.inr h)
    rw [q1,q2]
    simp only [cond_false]
    by_cases hs : (a2.length : Int) = 64
    · have s1 : ((a2.length : Int) != 64) = false := by simpa using hs
      simp only [s1,cond_false,d1,d2,d3,d4,d5,d6,beq_self_eq_true,cond_true,z3]
    · have s1 : ((a2.length : Int) != 64) = true := by simpa using hs
      simp only [s1,cond_true,Dk.short3 hs,z2,cond_false,d1,d2,d3,d4,d5,d6,beq_self_eq_true,z3]

theorem c4n : CallOk Try.prog G35 4 r4n := callOk_of (V := VG354n) mixed tys eVG354n (f := 4) (fn := Try.f4) Try.func4 (by kernel_rfl) (c := sub (bodyOf Try.f4) []) (by kernel_rfl) (by
  intro X H r H' h hX hH
  unfold r4n at h; split at h <;> try contradiction
  · simp only [Option.some.injEq,Prod.mk.injEq] at h
    obtain ⟨hp,rfl,rfl⟩ := h
    obtain ⟨F,hF⟩ := s4n _ _ _ (hX _ (.head _)) (hX _ (.tail _ (.head _))) (hX _ (.tail _ (.tail _ (.head _))))
    exact ⟨Af4n F,(f4n_body F _ _ _).trans hF⟩)
def lVG354z : List CEnt := [(9,[],r9),(14,[none],r14m),(15,[none],r15),(16,[none,none],r16),(17,[none,none,none],r17),(18,[none],r18),(19,[none,none,none],r19),(20,[none,none],r20),(21,[some 9,some 9],r21),(22,[none],r22),(23,[none],r23)]
def VG354z : Env := mkEnv T35 G35 lVG354z
theorem eVG354z : EOk Try.prog VG354z := eok_mk (by exact ⟨c9,c14m,c15,c16,c17,c18,c19,c20,c21,c22,c23,trivial⟩)
def Af4z (F : Nat) : Cuts := { F := F,at_ := fun _ => none,join := fun n => match n with | 1049 => some sp27 | 2047 => some sp28 | 5039 => some sp31 | 6037 => some sp32 | 7005 => some sp33 | 8029 => some sp34 | 9027 => some sp35 | 10011 => some sp36 | 11007 => some sp37 | 12005 => some sp38 | 13013 => some sp39 | 14005 => some sp40 | 15005 => some sp41 | 16003 => some sp42 | _ => none }
def ef4z_a : Int × (List Int) → St := fun (a1,a2) => { tmps := [(0,(.int .i64 (0 : Int))),(1,(.int .i64 a1)),(2,(.str a2))],heap := [],next := 0,nt := 112,m := 0 }
def ef4zj1 : Int × (List Int) → St := fun (t1,t2) => { tmps := [(0,(.int .i64 (0 : Int))),(1,(.int .i64 t1)),(2,(.str t2))],heap := [],next := 0,nt := 112,m := 0 }
def ef4zj2 : Int × (List Int) × Bool → St := fun (t1,t2,t7) => { tmps := [(0,(.int .i64 (0 : Int))),(1,(.int .i64 t1)),(2,(.str t2)),(7,(.bool t7))],heap := [],next := 0,nt := 112,m := 0 }
def ef4zj3 : Int × (List Int) × Bool → St := fun (t1,t2,t7) => { tmps := [(1,(.int .i64 t1)),(2,(.str t2)),(7,(.bool t7))],heap := [],next := 0,nt := 112,m := 0 }
def ef4zj4 : Ty56 → St := fun (t1,t2,t7,t11,e1) => { tmps := [(1,(.int .i64 t1)),(2,(.str t2)),(7,(.bool t7)),(10,(.ptr 0 0 5 0 0 0 5)),(11,(.int .i64 t11))],heap := [(0,(.cells 5 (.segs (.cons 1 (.one (.own 1 e1.n 64)) (.cons 1 (.one (.mp 2)) (.cons 1 (.one (.mp 3)) (.cons 1 (.one (.bool e1.off)) (.cons 1 (.one (.int .i64 e1.left)) .nil)))))) true)),(1,(.cells e1.blk.length (.rI .u8 e1.blk) true)),(2,(.cells 0 (.rM .i64 0 (.arr .u8 64) e1.pend) true)),(3,(.cells 0 (.rM .i64 0 .bool e1.worn) true))],next := 4,nt := 112,m := 0 }
def ef4zj5 : Ty57 → St := fun (t1,t2,t50,e1) => { tmps := [(1,(.int .i64 t1)),(2,(.str t2)),(10,(.ptr 0 0 5 0 0 0 5)),(50,(.bool t50))],heap := [(0,(.cells 5 (.segs (.cons 1 (.one (.own 1 e1.n 64)) (.cons 1 (.one (.mp 2)) (.cons 1 (.one (.mp 3)) (.cons 1 (.one (.bool e1.off)) (.cons 1 (.one (.int .i64 e1.left)) .nil)))))) true)),(1,(.cells e1.blk.length (.rI .u8 e1.blk) true)),(2,(.cells 0 (.rM .i64 0 (.arr .u8 64) e1.pend) true)),(3,(.cells 0 (.rM .i64 0 .bool e1.worn) true))],next := 4,nt := 112,m := 0 }
def ef4zj6 : Ty58 → St := fun (t1,t2,e1) => { tmps := [(1,(.int .i64 t1)),(2,(.str t2)),(10,(.ptr 0 0 5 0 0 0 5))],heap := [(0,(.cells 5 (.segs (.cons 1 (.one (.own 1 e1.n 64)) (.cons 1 (.one (.mp 2)) (.cons 1 (.one (.mp 3)) (.cons 1 (.one (.bool e1.off)) (.cons 1 (.one (.int .i64 e1.left)) .nil)))))) true)),(1,(.cells e1.blk.length (.rI .u8 e1.blk) true)),(2,(.cells 0 (.rM .i64 0 (.arr .u8 64) e1.pend) true)),(3,(.cells 0 (.rM .i64 0 .bool e1.worn) true))],next := 4,nt := 112,m := 0 }
def ef4zj7 : Ty59 → St := fun (t1,t2,t12,e1) => { tmps := [(1,(.int .i64 t1)),(2,(.str t2)),(10,(.ptr 0 0 5 0 0 0 5)),(12,(.vs (.rS t12) 0 1))],heap := [(0,(.cells 5 (.segs (.cons 1 (.one (.own 1 e1.n 64)) (.cons 1 (.one (.mp 2)) (.cons 1 (.one (.mp 3)) (.cons 1 (.one (.bool e1.off)) (.cons 1 (.one (.int .i64 e1.left)) .nil)))))) true)),(1,(.cells e1.blk.length (.rI .u8 e1.blk) true)),(2,(.cells 0 (.rM .i64 0 (.arr .u8 64) e1.pend) true)),(3,(.cells 0 (.rM .i64 0 .bool e1.worn) true))],next := 4,nt := 112,m := 0 }
def ef4zj8 : Ty60 → St := fun (t1,t2,t12,t58,e1) => { tmps := [(1,(.int .i64 t1)),(2,(.str t2)),(10,(.ptr 0 0 5 0 0 0 5)),(12,(.vs (.rS t12) 0 1)),(58,(.bool t58))],heap := [(0,(.cells 5 (.segs (.cons 1 (.one (.own 1 e1.n 64)) (.cons 1 (.one (.mp 2)) (.cons 1 (.one (.mp 3)) (.cons 1 (.one (.bool e1.off)) (.cons 1 (.one (.int .i64 e1.left)) .nil)))))) true)),(1,(.cells e1.blk.length (.rI .u8 e1.blk) true)),(2,(.cells 0 (.rM .i64 0 (.arr .u8 64) e1.pend) true)),(3,(.cells 0 (.rM .i64 0 .bool e1.worn) true))],next := 4,nt := 112,m := 0 }
def ef4zj9 : Ty61 → St := fun (t1,t2,t12,t14,e1) => { tmps := [(1,(.int .i64 t1)),(2,(.str t2)),(10,(.ptr 0 0 5 0 0 0 5)),(12,(.vs (.rS t12) 0 1)),(14,(.int .i64 t14))],heap := [(0,(.cells 5 (.segs (.cons 1 (.one (.own 1 e1.n 64)) (.cons 1 (.one (.mp 2)) (.cons 1 (.one (.mp 3)) (.cons 1 (.one (.bool e1.off)) (.cons 1 (.one (.int .i64 e1.left)) .nil)))))) true)),(1,(.cells e1.blk.length (.rI .u8 e1.blk) true)),(2,(.cells 0 (.rM .i64 0 (.arr .u8 64) e1.pend) true)),(3,(.cells 0 (.rM .i64 0 .bool e1.worn) true))],next := 4,nt := 112,m := 0 }
def ef4zj10 : Ty62 → St := fun (t2,t12,t85,e1) => { tmps := [(2,(.str t2)),(10,(.ptr 0 0 5 0 0 0 5)),(12,(.vs (.rS t12) 0 1)),(85,(.bool t85))],heap := [(0,(.cells 5 (.segs (.cons 1 (.one (.own 1 e1.n 64)) (.cons 1 (.one (.mp 2)) (.cons 1 (.one (.mp 3)) (.cons 1 (.one (.bool e1.off)) (.cons 1 (.one (.int .i64 e1.left)) .nil)))))) true)),(1,(.cells e1.blk.length (.rI .u8 e1.blk) true)),(2,(.cells 0 (.rM .i64 0 (.arr .u8 64) e1.pend) true)),(3,(.cells 0 (.rM .i64 0 .bool e1.worn) true))],next := 4,nt := 112,m := 0 }
def ef4zj11 : Ty63 → St := fun (t2,t12,e1) => { tmps := [(2,(.str t2)),(10,(.ptr 0 0 5 0 0 0 5)),(12,(.vs (.rS t12) 0 1))],heap := [(0,(.cells 5 (.segs (.cons 1 (.one (.own 1 e1.n 64)) (.cons 1 (.one (.mp 2)) (.cons 1 (.one (.mp 3)) (.cons 1 (.one (.bool e1.off)) (.cons 1 (.one (.int .i64 e1.left)) .nil)))))) true)),(1,(.cells e1.blk.length (.rI .u8 e1.blk) true)),(2,(.cells 0 (.rM .i64 0 (.arr .u8 64) e1.pend) true)),(3,(.cells 0 (.rM .i64 0 .bool e1.worn) true))],next := 4,nt := 112,m := 0 }
def ef4zj12 : Ty64 → St := fun (t12,t94,e1) => { tmps := [(10,(.ptr 0 0 5 0 0 0 5)),(12,(.vs (.rS t12) 0 1)),(94,(.bool t94))],heap := [(0,(.cells 5 (.segs (.cons 1 (.one (.own 1 e1.n 64)) (.cons 1 (.one (.mp 2)) (.cons 1 (.one (.mp 3)) (.cons 1 (.one (.bool e1.off)) (.cons 1 (.one (.int .i64 e1.left)) .nil)))))) true)),(1,(.cells e1.blk.length (.rI .u8 e1.blk) true)),(2,(.cells 0 (.rM .i64 0 (.arr .u8 64) e1.pend) true)),(3,(.cells 0 (.rM .i64 0 .bool e1.worn) true))],next := 4,nt := 112,m := 0 }
def ef4zj13 : Ty65 → St := fun (t12,e1) => { tmps := [(10,(.ptr 0 0 5 0 0 0 5)),(12,(.vs (.rS t12) 0 1))],heap := [(0,(.cells 5 (.segs (.cons 1 (.one (.own 1 e1.n 64)) (.cons 1 (.one (.mp 2)) (.cons 1 (.one (.mp 3)) (.cons 1 (.one (.bool e1.off)) (.cons 1 (.one (.int .i64 e1.left)) .nil)))))) true)),(1,(.cells e1.blk.length (.rI .u8 e1.blk) true)),(2,(.cells 0 (.rM .i64 0 (.arr .u8 64) e1.pend) true)),(3,(.cells 0 (.rM .i64 0 .bool e1.worn) true))],next := 4,nt := 112,m := 0 }
def ef4zj14 : Bool × (Dk.D) → St := fun (t15,e1) => { tmps := [(10,(.ptr 0 0 5 0 0 0 5)),(15,(.bool t15))],heap := [(0,(.cells 5 (.segs (.cons 1 (.one (.own 1 e1.n 64)) (.cons 1 (.one (.mp 2)) (.cons 1 (.one (.mp 3)) (.cons 1 (.one (.bool e1.off)) (.cons 1 (.one (.int .i64 e1.left)) .nil)))))) true)),(1,(.cells e1.blk.length (.rI .u8 e1.blk) true)),(2,(.cells 0 (.rM .i64 0 (.arr .u8 64) e1.pend) true)),(3,(.cells 0 (.rM .i64 0 .bool e1.worn) true))],next := 4,nt := 112,m := 0 }
def f4z_1 (F : Nat) (kf4zj1 : Int × (List Int) → Rz) : Int × (List Int) → Rz := fun (a1,a2) => (kf4zj1 (a1,a2))
theorem f4z_1_eq (F : Nat) (Rf4zj1 : St → Rz) : ∀ v,aexec VG354z (Af4z F) (bp Try.f4 2) (ef4z_a v) (kSeq (kc VG354z Rf4zj1 sp27) (kFin VG354z none (Try.f4).results.toList)) = f4z_1 F (Rf4zj1 ∘ ef4zj1) v := by
  rintro ⟨a1,a2⟩; kernel_rfl
def f4z_2 (F : Nat) (kf4zj2 : Int × (List Int) × Bool → Rz) : Int × (List Int) → Rz := fun (t1,t2) => (kf4zj2 (t1,t2,true))
theorem f4z_2_eq (F : Nat) (Rf4zj2 : St → Rz) : ∀ v,aexec VG354z (Af4z F) (bp Try.f4 6) (ef4zj1 v) (kSeq (kc VG354z Rf4zj2 sp28) (kFin VG354z none (Try.f4).results.toList)) = f4z_2 F (Rf4zj2 ∘ ef4zj2) v := by
  rintro ⟨t1,t2⟩; kernel_rfl
def f4z_3 (F : Nat) (kf4zj3 : Int × (List Int) × Bool → Rz) : Int × (List Int) × Bool → Rz := fun (t1,t2,t7) => (cond (!((decide (0 < (0 : Int))) && (decide ((0 : Int) < 4097)))) (cond t7 (kf4zj3 (t1,t2,(1 == (1 : Int)))) (kf4zj3 (t1,t2,false))) none)
theorem f4z_3_eq (F : Nat) (Rf4zj3 : St → Rz) : ∀ v,aexec VG354z (Af4z F) (bp Try.f4 14) (ef4zj2 v) (kSeq (kc VG354z Rf4zj3 sp31) (kFin VG354z none (Try.f4).results.toList)) = f4z_3 F (Rf4zj3 ∘ ef4zj3) v := by
  rintro ⟨t1,t2,t7⟩; kernel_rfl
def f4z_4 (F : Nat) (kf4zj4 : Ty56 → Rz) : Int × (List Int) × Bool → Rz := fun (t1,t2,t7) => (kf4zj4 (t1,t2,t7,0,(Dk.new 3)))
theorem f4z_4_eq (F : Nat) (Rf4zj4 : St → Rz) : ∀ v,aexec VG354z (Af4z F) (bp Try.f4 30) (ef4zj3 v) (kSeq (kc VG354z Rf4zj4 sp32) (kFin VG354z none (Try.f4).results.toList)) = f4z_4 F (Rf4zj4 ∘ ef4zj4) v := by
  rintro ⟨t1,t2,t7⟩; kernel_rfl
def f4z_5 (F : Nat) (kf4zj5 : Ty57 → Rz) (kf4zj6 : Ty58 → Rz) : Ty56 → Rz := fun (t1,t2,t7,t11,e1) => (cond (t11 != (0 : Int)) (kf4zj5 (t1,t2,true,e1)) (kf4zj5 (t1,t2,(!t7),e1)))
theorem f4z_5_eq (F : Nat) (Rf4zj5 : St → Rz) (Rf4zj6 : St → Rz) : ∀ v,aexec VG354z (Af4z F) (bp Try.f4 124) (ef4zj4 v) (kSeq (kc VG354z Rf4zj5 sp33) (kSeq (kc VG354z Rf4zj6 sp34) (kFin VG354z none (Try.f4).results.toList))) = f4z_5 F (Rf4zj5 ∘ ef4zj5) (Rf4zj6 ∘ ef4zj6) v := by
  rintro ⟨t1,t2,t7,t11,e1⟩; kernel_rfl
def f4z_6 (F : Nat) (kf4zj6 : Ty58 → Rz) : Ty57 → Rz := fun (t1,t2,t50,e1) => (cond t50 (some ((.bool false),[])) (kf4zj6 (t1,t2,e1)))
theorem f4z_6_eq (F : Nat) (Rf4zj6 : St → Rz) : ∀ v,aexec VG354z (Af4z F) (bp Try.f4 125) (ef4zj5 v) (kSeq (kc VG354z Rf4zj6 sp34) (kFin VG354z none (Try.f4).results.toList)) = f4z_6 F (Rf4zj6 ∘ ef4zj6) v := by
  rintro ⟨t1,t2,t50,e1⟩; kernel_rfl
def f4z_7 (F : Nat) (kf4zj6 : Ty58 → Rz) : Ty56 → Rz := fun v => f4z_5 F (f4z_6 F kf4zj6) kf4zj6 v
theorem f4z_7_eq (F : Nat) (Rf4zj6 : St → Rz) : ∀ v,aexec VG354z (Af4z F) (bp Try.f4 62) (ef4zj4 v) (kSeq (kc VG354z Rf4zj6 sp34) (kFin VG354z none (Try.f4).results.toList)) = f4z_7 F (Rf4zj6 ∘ ef4zj6) v :=
  seq_cut (by kernel_rfl) (by kernel_rfl) ef4zj4 ef4zj5 _ (fun k => f4z_5 F k (Rf4zj6 ∘ ef4zj6)) (f4z_6 F (Rf4zj6 ∘ ef4zj6))
    (fun Rf4zj5 => f4z_5_eq F Rf4zj5 Rf4zj6) (f4z_6_eq F Rf4zj6)
def f4z_8 (F : Nat) (kf4zj7 : Ty59 → Rz) : Ty58 → Rz := fun (t1,t2,e1) => (cond (decide (e1.blk.length = e1.n * 64 ∧ e1.n < 8000)) (kf4zj7 (t1,t2,(Dk.image e1),e1)) none)
theorem f4z_8_eq (F : Nat) (Rf4zj7 : St → Rz) : ∀ v,aexec VG354z (Af4z F) (bp Try.f4 126) (ef4zj6 v) (kSeq (kc VG354z Rf4zj7 sp35) (kFin VG354z none (Try.f4).results.toList)) = f4z_8 F (Rf4zj7 ∘ ef4zj7) v := by
  rintro ⟨t1,t2,e1⟩; kernel_rfl
def f4z_9 (F : Nat) (kf4zj8 : Ty60 → Rz) (kf4zj11 : Ty63 → Rz) : Ty59 → Rz := fun (t1,t2,t12,e1) => (cond (decide (t1 < (0 : Int))) (kf4zj8 (t1,t2,t12,true,e1)) (kf4zj8 (t1,t2,t12,(decide (t1 > (2 : Int))),e1)))
theorem f4z_9_eq (F : Nat) (Rf4zj8 : St → Rz) (Rf4zj11 : St → Rz) : ∀ v,aexec VG354z (Af4z F) (bp Try.f4 508) (ef4zj7 v) (kSeq (kc VG354z Rf4zj8 sp36) (kSeq (kc VG354z Rf4zj11 sp39) (kFin VG354z none (Try.f4).results.toList))) = f4z_9 F (Rf4zj8 ∘ ef4zj8) (Rf4zj11 ∘ ef4zj11) v := by
  rintro ⟨t1,t2,t12,e1⟩; kernel_rfl
def f4z_10 (F : Nat) (kf4zj9 : Ty61 → Rz) (kf4zj11 : Ty63 → Rz) : Ty60 → Rz := fun (t1,t2,t12,t58,e1) => (kf4zj9 (t1,t2,t12,(Dk.read e1 t1).2,e1))
theorem f4z_10_eq (F : Nat) (Rf4zj9 : St → Rz) (Rf4zj11 : St → Rz) : ∀ v,aexec VG354z (Af4z F) (bp Try.f4 2036) (ef4zj8 v) (kSeq (kc VG354z Rf4zj9 sp37) (kSeq (kc VG354z Rf4zj11 sp39) (kFin VG354z none (Try.f4).results.toList))) = f4z_10 F (Rf4zj9 ∘ ef4zj9) (Rf4zj11 ∘ ef4zj11) v := by
  rintro ⟨t1,t2,t12,t58,e1⟩; kernel_rfl
def f4z_11 (F : Nat) (kf4zj10 : Ty62 → Rz) (kf4zj11 : Ty63 → Rz) : Ty61 → Rz := fun (t1,t2,t12,t14,e1) => (cond (t14 != (1 : Int)) (kf4zj10 (t2,t12,true,e1)) (cond ((Dk.write e1 t1 (Dk.full (120 : Int))).2 != (1 : Int)) (kf4zj10 (t2,t12,true,(Dk.write e1 t1 (Dk.full (120 : Int))).1)) (cond ((Dk.rot (Dk.write e1 t1 (Dk.full (120 : Int))).1 t1 (0 : Int)).2 != (1 : Int)) (kf4zj10 (t2,t12,true,(Dk.rot (Dk.write e1 t1 (Dk.full (120 : Int))).1 t1 (0 : Int)).1)) (kf4zj10 (t2,t12,((Dk.wear (Dk.rot (Dk.write e1 t1 (Dk.full (120 : Int))).1 t1 (0 : Int)).1 t1).2 != (1 : Int)),(Dk.wear (Dk.rot (Dk.write e1 t1 (Dk.full (120 : Int))).1 t1 (0 : Int)).1 t1).1)))))
theorem f4z_11_eq (F : Nat) (Rf4zj10 : St → Rz) (Rf4zj11 : St → Rz) : ∀ v,aexec VG354z (Af4z F) (bp Try.f4 4074) (ef4zj9 v) (kSeq (kc VG354z Rf4zj10 sp38) (kSeq (kc VG354z Rf4zj11 sp39) (kFin VG354z none (Try.f4).results.toList))) = f4z_11 F (Rf4zj10 ∘ ef4zj10) (Rf4zj11 ∘ ef4zj11) v := by
  rintro ⟨t1,t2,t12,t14,e1⟩; kernel_rfl
def f4z_12 (F : Nat) (kf4zj11 : Ty63 → Rz) : Ty62 → Rz := fun (t2,t12,t85,e1) => (cond t85 (some ((.bool false),[])) (kf4zj11 (t2,t12,e1)))
theorem f4z_12_eq (F : Nat) (Rf4zj11 : St → Rz) : ∀ v,aexec VG354z (Af4z F) (bp Try.f4 4075) (ef4zj10 v) (kSeq (kc VG354z Rf4zj11 sp39) (kFin VG354z none (Try.f4).results.toList)) = f4z_12 F (Rf4zj11 ∘ ef4zj11) v := by
  rintro ⟨t2,t12,t85,e1⟩; kernel_rfl
def f4z_13 (F : Nat) (kf4zj11 : Ty63 → Rz) : Ty61 → Rz := fun v => f4z_11 F (f4z_12 F kf4zj11) kf4zj11 v
theorem f4z_13_eq (F : Nat) (Rf4zj11 : St → Rz) : ∀ v,aexec VG354z (Af4z F) (bp Try.f4 2037) (ef4zj9 v) (kSeq (kc VG354z Rf4zj11 sp39) (kFin VG354z none (Try.f4).results.toList)) = f4z_13 F (Rf4zj11 ∘ ef4zj11) v :=
  seq_cut (by kernel_rfl) (by kernel_rfl) ef4zj9 ef4zj10 _ (fun k => f4z_11 F k (Rf4zj11 ∘ ef4zj11)) (f4z_12 F (Rf4zj11 ∘ ef4zj11))
    (fun Rf4zj10 => f4z_11_eq F Rf4zj10 Rf4zj11) (f4z_12_eq F Rf4zj11)
def f4z_14 (F : Nat) (kf4zj11 : Ty63 → Rz) : Ty60 → Rz := fun v => f4z_10 F (f4z_13 F kf4zj11) kf4zj11 v
theorem f4z_14_eq (F : Nat) (Rf4zj11 : St → Rz) : ∀ v,aexec VG354z (Af4z F) (bp Try.f4 1018) (ef4zj8 v) (kSeq (kc VG354z Rf4zj11 sp39) (kFin VG354z none (Try.f4).results.toList)) = f4z_14 F (Rf4zj11 ∘ ef4zj11) v :=
  seq_cut (by kernel_rfl) (by kernel_rfl) ef4zj8 ef4zj9 _ (fun k => f4z_10 F k (Rf4zj11 ∘ ef4zj11)) (f4z_13 F (Rf4zj11 ∘ ef4zj11))
    (fun Rf4zj9 => f4z_10_eq F Rf4zj9 Rf4zj11) (f4z_13_eq F Rf4zj11)
def f4z_15 (F : Nat) (kf4zj11 : Ty63 → Rz) : Ty60 → Rz := fun (t1,t2,t12,t58,e1) => (kf4zj11 (t2,t12,e1))
theorem f4z_15_eq (F : Nat) (Rf4zj11 : St → Rz) : ∀ v,aexec VG354z (Af4z F) (bp Try.f4 1019) (ef4zj8 v) (kSeq (kc VG354z Rf4zj11 sp39) (kFin VG354z none (Try.f4).results.toList)) = f4z_15 F (Rf4zj11 ∘ ef4zj11) v := by
  rintro ⟨t1,t2,t12,t58,e1⟩; kernel_rfl
def f4z_16 (F : Nat) (kf4zj11 : Ty63 → Rz) : Ty60 → Rz := fun v => cond ((fun (t1,t2,t12,t58,e1) => t58) v) (f4z_14 F kf4zj11 v) (f4z_15 F kf4zj11 v)
theorem f4z_16_eq (F : Nat) (Rf4zj11 : St → Rz) : ∀ v,aexec VG354z (Af4z F) (bp Try.f4 509) (ef4zj8 v) (kSeq (kc VG354z Rf4zj11 sp39) (kFin VG354z none (Try.f4).results.toList)) = f4z_16 F (Rf4zj11 ∘ ef4zj11) v :=
  cond_in (o := .tmp 58) (by kernel_rfl) ef4zj8 _ (fun (t1,t2,t12,t58,e1) => t58) (by rintro ⟨t1,t2,t12,t58,e1⟩; kernel_rfl) _ _ (f4z_14_eq F Rf4zj11) (f4z_15_eq F Rf4zj11)
def f4z_17 (F : Nat) (kf4zj11 : Ty63 → Rz) : Ty59 → Rz := fun v => f4z_9 F (f4z_16 F kf4zj11) kf4zj11 v
theorem f4z_17_eq (F : Nat) (Rf4zj11 : St → Rz) : ∀ v,aexec VG354z (Af4z F) (bp Try.f4 254) (ef4zj7 v) (kSeq (kc VG354z Rf4zj11 sp39) (kFin VG354z none (Try.f4).results.toList)) = f4z_17 F (Rf4zj11 ∘ ef4zj11) v :=
  seq_cut (by kernel_rfl) (by kernel_rfl) ef4zj7 ef4zj8 _ (fun k => f4z_9 F k (Rf4zj11 ∘ ef4zj11)) (f4z_16 F (Rf4zj11 ∘ ef4zj11))
    (fun Rf4zj8 => f4z_9_eq F Rf4zj8 Rf4zj11) (f4z_16_eq F Rf4zj11)
def f4z_18 (F : Nat) (kf4zj12 : Ty64 → Rz) (kf4zj13 : Ty65 → Rz) : Ty63 → Rz := fun (t2,t12,e1) => (cond ((↑t2.length : Int) != (64 : Int)) (kf4zj12 (t12,((Dk.write e1 (0 : Int) t2).2 != (1 : Int)),(Dk.write e1 (0 : Int) t2).1)) (kf4zj12 (t12,false,e1)))
theorem f4z_18_eq (F : Nat) (Rf4zj12 : St → Rz) (Rf4zj13 : St → Rz) : ∀ v,aexec VG354z (Af4z F) (bp Try.f4 1020) (ef4zj11 v) (kSeq (kc VG354z Rf4zj12 sp40) (kSeq (kc VG354z Rf4zj13 sp41) (kFin VG354z none (Try.f4).results.toList))) = f4z_18 F (Rf4zj12 ∘ ef4zj12) (Rf4zj13 ∘ ef4zj13) v := by
  rintro ⟨t2,t12,e1⟩; kernel_rfl
def f4z_19 (F : Nat) (kf4zj13 : Ty65 → Rz) : Ty64 → Rz := fun (t12,t94,e1) => (cond t94 (some ((.bool false),[])) (kf4zj13 (t12,e1)))
theorem f4z_19_eq (F : Nat) (Rf4zj13 : St → Rz) : ∀ v,aexec VG354z (Af4z F) (bp Try.f4 1021) (ef4zj12 v) (kSeq (kc VG354z Rf4zj13 sp41) (kFin VG354z none (Try.f4).results.toList)) = f4z_19 F (Rf4zj13 ∘ ef4zj13) v := by
  rintro ⟨t12,t94,e1⟩; kernel_rfl
def f4z_20 (F : Nat) (kf4zj13 : Ty65 → Rz) : Ty63 → Rz := fun v => f4z_18 F (f4z_19 F kf4zj13) kf4zj13 v
theorem f4z_20_eq (F : Nat) (Rf4zj13 : St → Rz) : ∀ v,aexec VG354z (Af4z F) (bp Try.f4 510) (ef4zj11 v) (kSeq (kc VG354z Rf4zj13 sp41) (kFin VG354z none (Try.f4).results.toList)) = f4z_20 F (Rf4zj13 ∘ ef4zj13) v :=
  seq_cut (by kernel_rfl) (by kernel_rfl) ef4zj11 ef4zj12 _ (fun k => f4z_18 F k (Rf4zj13 ∘ ef4zj13)) (f4z_19 F (Rf4zj13 ∘ ef4zj13))
    (fun Rf4zj12 => f4z_18_eq F Rf4zj12 Rf4zj13) (f4z_19_eq F Rf4zj13)
def f4z_21 (F : Nat) (kf4zj14 : Bool × (Dk.D) → Rz) : Ty65 → Rz := fun (t12,e1) => (cond (decide (e1.blk.length = e1.n * 64 ∧ e1.n < 8000)) (cond (decide (t12.length < 1073741824)) (kf4zj14 ((t12 == (Dk.image e1)),e1)) none) none)
theorem f4z_21_eq (F : Nat) (Rf4zj14 : St → Rz) : ∀ v,aexec VG354z (Af4z F) (bp Try.f4 1022) (ef4zj13 v) (kSeq (kc VG354z Rf4zj14 sp42) (kFin VG354z none (Try.f4).results.toList)) = f4z_21 F (Rf4zj14 ∘ ef4zj14) v := by
  rintro ⟨t12,e1⟩; kernel_rfl
def f4z_22 (F : Nat) : Bool × (Dk.D) → Rz := fun (t15,e1) => (cond t15 (cond (decide (e1.pend.length < 1073741824)) (cond ((↑(Dk.pending e1).length : Int) == (0 : Int)) (cond (decide (e1.worn.length < 1073741824)) (some ((.bool ((↑(Dk.wornl e1).length : Int) == (0 : Int))),[])) none) (some ((.bool false),[]))) none) (some ((.bool false),[])))
theorem f4z_22_eq (F : Nat) : ∀ v,aexec VG354z (Af4z F) (bp Try.f4 1023) (ef4zj14 v) (kFin VG354z none (Try.f4).results.toList) = f4z_22 F v := by
  rintro ⟨t15,e1⟩; kernel_rfl
def f4z_23 (F : Nat) : Ty65 → Rz := fun v => f4z_21 F (f4z_22 F) v
theorem f4z_23_eq (F : Nat) : ∀ v,aexec VG354z (Af4z F) (bp Try.f4 511) (ef4zj13 v) (kFin VG354z none (Try.f4).results.toList) = f4z_23 F v :=
  seq_cut (by kernel_rfl) (by kernel_rfl) ef4zj13 ef4zj14 _ (fun k => f4z_21 F k) (f4z_22 F)
    (fun Rf4zj14 => f4z_21_eq F Rf4zj14) (f4z_22_eq F)
def f4z_24 (F : Nat) : Ty63 → Rz := fun v => f4z_20 F (f4z_23 F) v
theorem f4z_24_eq (F : Nat) : ∀ v,aexec VG354z (Af4z F) (bp Try.f4 255) (ef4zj11 v) (kFin VG354z none (Try.f4).results.toList) = f4z_24 F v :=
  seq_cut (by kernel_rfl) (by kernel_rfl) ef4zj11 ef4zj13 _ (fun k => f4z_20 F k) (f4z_23 F)
    (fun Rf4zj13 => f4z_20_eq F Rf4zj13) (f4z_23_eq F)
def f4z_25 (F : Nat) : Ty59 → Rz := fun v => f4z_17 F (f4z_24 F) v
theorem f4z_25_eq (F : Nat) : ∀ v,aexec VG354z (Af4z F) (bp Try.f4 127) (ef4zj7 v) (kFin VG354z none (Try.f4).results.toList) = f4z_25 F v :=
  seq_cut (by kernel_rfl) (by kernel_rfl) ef4zj7 ef4zj11 _ (fun k => f4z_17 F k) (f4z_24 F)
    (fun Rf4zj11 => f4z_17_eq F Rf4zj11) (f4z_24_eq F)
def f4z_26 (F : Nat) : Ty58 → Rz := fun v => f4z_8 F (f4z_25 F) v
theorem f4z_26_eq (F : Nat) : ∀ v,aexec VG354z (Af4z F) (bp Try.f4 63) (ef4zj6 v) (kFin VG354z none (Try.f4).results.toList) = f4z_26 F v :=
  seq_cut (by kernel_rfl) (by kernel_rfl) ef4zj6 ef4zj7 _ (fun k => f4z_8 F k) (f4z_25 F)
    (fun Rf4zj7 => f4z_8_eq F Rf4zj7) (f4z_25_eq F)
def f4z_27 (F : Nat) : Ty56 → Rz := fun v => f4z_7 F (f4z_26 F) v
theorem f4z_27_eq (F : Nat) : ∀ v,aexec VG354z (Af4z F) (bp Try.f4 31) (ef4zj4 v) (kFin VG354z none (Try.f4).results.toList) = f4z_27 F v :=
  seq_cut (by kernel_rfl) (by kernel_rfl) ef4zj4 ef4zj6 _ (fun k => f4z_7 F k) (f4z_26 F)
    (fun Rf4zj6 => f4z_7_eq F Rf4zj6) (f4z_26_eq F)
def f4z_28 (F : Nat) : Int × (List Int) × Bool → Rz := fun v => f4z_4 F (f4z_27 F) v
theorem f4z_28_eq (F : Nat) : ∀ v,aexec VG354z (Af4z F) (bp Try.f4 15) (ef4zj3 v) (kFin VG354z none (Try.f4).results.toList) = f4z_28 F v :=
  seq_cut (by kernel_rfl) (by kernel_rfl) ef4zj3 ef4zj4 _ (fun k => f4z_4 F k) (f4z_27 F)
    (fun Rf4zj4 => f4z_4_eq F Rf4zj4) (f4z_27_eq F)
def f4z_29 (F : Nat) : Int × (List Int) × Bool → Rz := fun v => f4z_3 F (f4z_28 F) v
theorem f4z_29_eq (F : Nat) : ∀ v,aexec VG354z (Af4z F) (bp Try.f4 7) (ef4zj2 v) (kFin VG354z none (Try.f4).results.toList) = f4z_29 F v :=
  seq_cut (by kernel_rfl) (by kernel_rfl) ef4zj2 ef4zj3 _ (fun k => f4z_3 F k) (f4z_28 F)
    (fun Rf4zj3 => f4z_3_eq F Rf4zj3) (f4z_28_eq F)
def f4z_30 (F : Nat) : Int × (List Int) → Rz := fun v => f4z_2 F (f4z_29 F) v
theorem f4z_30_eq (F : Nat) : ∀ v,aexec VG354z (Af4z F) (bp Try.f4 3) (ef4zj1 v) (kFin VG354z none (Try.f4).results.toList) = f4z_30 F v :=
  seq_cut (by kernel_rfl) (by kernel_rfl) ef4zj1 ef4zj2 _ (fun k => f4z_2 F k) (f4z_29 F)
    (fun Rf4zj2 => f4z_2_eq F Rf4zj2) (f4z_29_eq F)
def f4z_31 (F : Nat) : Int × (List Int) → Rz := fun v => f4z_1 F (f4z_30 F) v
theorem f4z_31_eq (F : Nat) : ∀ v,aexec VG354z (Af4z F) (sub (bodyOf Try.f4) []) (ef4z_a v) (kFin VG354z none (Try.f4).results.toList) = f4z_31 F v :=
  seq_cut (by kernel_rfl) (by kernel_rfl) ef4z_a ef4zj1 _ (fun k => f4z_1 F k) (f4z_30 F)
    (fun Rf4zj1 => f4z_1_eq F Rf4zj1) (f4z_30_eq F)
def f4z (F : Nat) : Int × (List Int) → Rz := f4z_31 F
theorem f4z_body (F : Nat) (a1 : Int) (a2 : List Int) : abody VG354z (Af4z F) Try.f4 [(.int .i64 (0 : Int)),(.int .i64 a1),(.str a2)] [] = f4z F (a1,a2) :=
  (abody_in (c := (sub (bodyOf Try.f4) [])) (by kernel_rfl) (s := ef4z_a (a1,a2)) (by kernel_rfl)).trans (f4z_31_eq F (a1,a2))
def r4z : CRun := fun X H => match X,H with
  | [(.int .i64 (0 : Int)),(.int .i64 a1),(.str a2)],[] => some (true,(.bool true),[])
  | _,_ => none
theorem s4z (a1 : Int) (a2 : List Int) (h0 : okV (.int .i64 (0 : Int))) (h1 : okV (.int .i64 a1)) (h2 : okV (.str a2)) : ∃ F,f4z F (a1,a2) = some ((.bool true),[]) := by
  refine ⟨0,?_⟩
  obtain ⟨d1,d2,d3,d4,d5,d6⟩ := Dk.fine3
  have n3 : (decide ((0 : Int) < 3) && decide ((3 : Int) < 4097)) = true := by decide
  have z1 : ((0 : Int) != 0) = false := rfl
  have z2 : ((1 : Int) != 1) = false := rfl
  have z3 : (((0 : Nat) : Int) == 0) = true := rfl
  simp only [f4z,f4z_1,f4z_2,f4z_3,f4z_4,f4z_5,f4z_6,f4z_7,f4z_8,f4z_9,f4z_10,f4z_11,f4z_12,f4z_13,f4z_14,f4z_15,f4z_16,f4z_17,f4z_18,f4z_19,f4z_20,f4z_21,f4z_22,f4z_23,f4z_24,f4z_25,f4z_26,f4z_27,f4z_28,f4z_29,f4z_30,f4z_31,n3,z1,d1,d2,cond_true,cond_false,Bool.not_true]
  have y2 : (!(decide ((0 : Int) < 0) && decide ((0 : Int) < 4097))) = true := by decide
  rw [y2]
  simp only [cond_true,beq_self_eq_true,Bool.not_true,cond_false]
  by_cases hi : a1 < 0 ∨ a1 > 2
  · obtain ⟨b1,b2,b3,b4⟩ := Dk.bad3 hi
    have z4 : ∀ {α : Type} (x y : α),cond (decide (a1 < 0)) x (cond (decide (a1 > 2)) x y) = x := fun x y => by
      by_cases h : a1 < 0
      · rw [cond_pos h]
      · rw [cond_neg h,cond_pos (hi.resolve_left h)]
    simp only [b1,b2,b3,b4,z2,cond_false]
    by_cases hs : (a2.length : Int) = 64
    · have s1 : ((a2.length : Int) != 64) = false := by simpa using hs
      simp only [s1,cond_false,d1,d2,d3,d4,d5,d6,beq_self_eq_true,cond_true,z3]
      cases decide (a1 < 0) <;> cases hq : decide (a1 > 2) <;> rfl
    · have s1 : ((a2.length : Int) != 64) = true := by simpa using hs
      simp only [s1,cond_true,Dk.short3 hs,z2,cond_false,d1,d2,d3,d4,d5,d6,beq_self_eq_true,z3]
      cases decide (a1 < 0) <;> cases hq : decide (a1 > 2) <;> rfl
  · have q1 : decide (a1 < 0) = false := by rw [decide_eq_false_iff_not]; exact fun h => hi (.inl h)
    have q2 : decide (a1 > 2) = false := by rw [decide_eq_false_iff_not]; exact fun h => hi (.inr h)
    rw [q1,q2]
    simp only [cond_false]
    by_cases hs : (a2.length : Int) = 64
    · have s1 : ((a2.length : Int) != 64) = false := by simpa using hs
      simp only [s1,cond_false,d1,d2,d3,d4,d5,d6,beq_self_eq_true,cond_true,z3]
    · have s1 : ((a2.length : Int) != 64) = true := by simpa using hs
      simp only [s1,cond_true,Dk.short3 hs,z2,cond_false,d1,d2,d3,d4,d5,d6,beq_self_eq_true,z3]

theorem c4z : CallOk Try.prog G35 4 r4z := callOk_of (V := VG354z) mixed tys eVG354z (f := 4) (fn := Try.f4) Try.func4 (by kernel_rfl) (c := sub (bodyOf Try.f4) []) (by kernel_rfl) (by
  intro X H r H' h hX hH
  unfold r4z at h; split at h <;> try contradiction
  · simp only [Option.some.injEq,Prod.mk.injEq] at h
    obtain ⟨hp,rfl,rfl⟩ := h
    obtain ⟨F,hF⟩ := s4z _ _ (hX _ (.head _)) (hX _ (.tail _ (.head _))) (hX _ (.tail _ (.tail _ (.head _))))
    exact ⟨Af4z F,(f4z_body F _ _).trans hF⟩)
def lVG354b : List CEnt := [(9,[],r9),(14,[none],r14m),(15,[none],r15),(16,[none,none],r16),(17,[none,none,none],r17),(18,[none],r18),(19,[none,none,none],r19),(20,[none,none],r20),(21,[some 9,some 9],r21),(22,[none],r22),(23,[none],r23)]
def VG354b : Env := mkEnv T35 G35 lVG354b
theorem eVG354b : EOk Try.prog VG354b := eok_mk (by exact ⟨c9,c14m,c15,c16,c17,c18,c19,c20,c21,c22,c23,trivial⟩)
def Af4b (F : Nat) : Cuts := { F := F,at_ := fun _ => none,join := fun n => match n with | 1049 => some sp27 | 2047 => some sp28 | 5039 => some sp31 | 6037 => some sp32 | 7005 => some sp33 | 8029 => some sp34 | 9027 => some sp35 | 10011 => some sp36 | 11007 => some sp37 | 12005 => some sp38 | 13013 => some sp39 | 14005 => some sp40 | 15005 => some sp41 | 16003 => some sp42 | _ => none }
def ef4b_a : Nat × Int × (List Int) → St := fun (a0,a1,a2) => { tmps := [(0,(.int .i64 (Int.ofNat (a0 + 4)))),(1,(.int .i64 a1)),(2,(.str a2))],heap := [],next := 0,nt := 112,m := 0 }
def ef4bj1 : Nat × Int × (List Int) → St := fun (t0,t1,t2) => { tmps := [(0,(.int .i64 (Int.ofNat (t0 + 4)))),(1,(.int .i64 t1)),(2,(.str t2))],heap := [],next := 0,nt := 112,m := 0 }
def ef4bj2 : Ty66 → St := fun (t0,t1,t2,t7) => { tmps := [(0,(.int .i64 (Int.ofNat (t0 + 4)))),(1,(.int .i64 t1)),(2,(.str t2)),(7,(.bool t7))],heap := [],next := 0,nt := 112,m := 0 }
def ef4bj3 : Int × (List Int) × Bool → St := fun (t1,t2,t7) => { tmps := [(1,(.int .i64 t1)),(2,(.str t2)),(7,(.bool t7))],heap := [],next := 0,nt := 112,m := 0 }
def ef4bj4 : Ty56 → St := fun (t1,t2,t7,t11,e1) => { tmps := [(1,(.int .i64 t1)),(2,(.str t2)),(7,(.bool t7)),(10,(.ptr 0 0 5 0 0 0 5)),(11,(.int .i64 t11))],heap := [(0,(.cells 5 (.segs (.cons 1 (.one (.own 1 e1.n 64)) (.cons 1 (.one (.mp 2)) (.cons 1 (.one (.mp 3)) (.cons 1 (.one (.bool e1.off)) (.cons 1 (.one (.int .i64 e1.left)) .nil)))))) true)),(1,(.cells e1.blk.length (.rI .u8 e1.blk) true)),(2,(.cells 0 (.rM .i64 0 (.arr .u8 64) e1.pend) true)),(3,(.cells 0 (.rM .i64 0 .bool e1.worn) true))],next := 4,nt := 112,m := 0 }
def ef4bj5 : Ty57 → St := fun (t1,t2,t50,e1) => { tmps := [(1,(.int .i64 t1)),(2,(.str t2)),(10,(.ptr 0 0 5 0 0 0 5)),(50,(.bool t50))],heap := [(0,(.cells 5 (.segs (.cons 1 (.one (.own 1 e1.n 64)) (.cons 1 (.one (.mp 2)) (.cons 1 (.one (.mp 3)) (.cons 1 (.one (.bool e1.off)) (.cons 1 (.one (.int .i64 e1.left)) .nil)))))) true)),(1,(.cells e1.blk.length (.rI .u8 e1.blk) true)),(2,(.cells 0 (.rM .i64 0 (.arr .u8 64) e1.pend) true)),(3,(.cells 0 (.rM .i64 0 .bool e1.worn) true))],next := 4,nt := 112,m := 0 }
def ef4bj6 : Ty58 → St := fun (t1,t2,e1) => { tmps := [(1,(.int .i64 t1)),(2,(.str t2)),(10,(.ptr 0 0 5 0 0 0 5))],heap := [(0,(.cells 5 (.segs (.cons 1 (.one (.own 1 e1.n 64)) (.cons 1 (.one (.mp 2)) (.cons 1 (.one (.mp 3)) (.cons 1 (.one (.bool e1.off)) (.cons 1 (.one (.int .i64 e1.left)) .nil)))))) true)),(1,(.cells e1.blk.length (.rI .u8 e1.blk) true)),(2,(.cells 0 (.rM .i64 0 (.arr .u8 64) e1.pend) true)),(3,(.cells 0 (.rM .i64 0 .bool e1.worn) true))],next := 4,nt := 112,m := 0 }
def ef4bj7 : Ty59 → St := fun (t1,t2,t12,e1) => { tmps := [(1,(.int .i64 t1)),(2,(.str t2)),(10,(.ptr 0 0 5 0 0 0 5)),(12,(.vs (.rS t12) 0 1))],heap := [(0,(.cells 5 (.segs (.cons 1 (.one (.own 1 e1.n 64)) (.cons 1 (.one (.mp 2)) (.cons 1 (.one (.mp 3)) (.cons 1 (.one (.bool e1.off)) (.cons 1 (.one (.int .i64 e1.left)) .nil)))))) true)),(1,(.cells e1.blk.length (.rI .u8 e1.blk) true)),(2,(.cells 0 (.rM .i64 0 (.arr .u8 64) e1.pend) true)),(3,(.cells 0 (.rM .i64 0 .bool e1.worn) true))],next := 4,nt := 112,m := 0 }
def ef4bj8 : Ty60 → St := fun (t1,t2,t12,t58,e1) => { tmps := [(1,(.int .i64 t1)),(2,(.str t2)),(10,(.ptr 0 0 5 0 0 0 5)),(12,(.vs (.rS t12) 0 1)),(58,(.bool t58))],heap := [(0,(.cells 5 (.segs (.cons 1 (.one (.own 1 e1.n 64)) (.cons 1 (.one (.mp 2)) (.cons 1 (.one (.mp 3)) (.cons 1 (.one (.bool e1.off)) (.cons 1 (.one (.int .i64 e1.left)) .nil)))))) true)),(1,(.cells e1.blk.length (.rI .u8 e1.blk) true)),(2,(.cells 0 (.rM .i64 0 (.arr .u8 64) e1.pend) true)),(3,(.cells 0 (.rM .i64 0 .bool e1.worn) true))],next := 4,nt := 112,m := 0 }
def ef4bj9 : Ty61 → St := fun (t1,t2,t12,t14,e1) => { tmps := [(1,(.int .i64 t1)),(2,(.str t2)),(10,(.ptr 0 0 5 0 0 0 5)),(12,(.vs (.rS t12) 0 1)),(14,(.int .i64 t14))],heap := [(0,(.cells 5 (.segs (.cons 1 (.one (.own 1 e1.n 64)) (.cons 1 (.one (.mp 2)) (.cons 1 (.one (.mp 3)) (.cons 1 (.one (.bool e1.off)) (.cons 1 (.one (.int .i64 e1.left)) .nil)))))) true)),(1,(.cells e1.blk.length (.rI .u8 e1.blk) true)),(2,(.cells 0 (.rM .i64 0 (.arr .u8 64) e1.pend) true)),(3,(.cells 0 (.rM .i64 0 .bool e1.worn) true))],next := 4,nt := 112,m := 0 }
def ef4bj10 : Ty62 → St := fun (t2,t12,t85,e1) => { tmps := [(2,(.str t2)),(10,(.ptr 0 0 5 0 0 0 5)),(12,(.vs (.rS t12) 0 1)),(85,(.bool t85))],heap := [(0,(.cells 5 (.segs (.cons 1 (.one (.own 1 e1.n 64)) (.cons 1 (.one (.mp 2)) (.cons 1 (.one (.mp 3)) (.cons 1 (.one (.bool e1.off)) (.cons 1 (.one (.int .i64 e1.left)) .nil)))))) true)),(1,(.cells e1.blk.length (.rI .u8 e1.blk) true)),(2,(.cells 0 (.rM .i64 0 (.arr .u8 64) e1.pend) true)),(3,(.cells 0 (.rM .i64 0 .bool e1.worn) true))],next := 4,nt := 112,m := 0 }
def ef4bj11 : Ty63 → St := fun (t2,t12,e1) => { tmps := [(2,(.str t2)),(10,(.ptr 0 0 5 0 0 0 5)),(12,(.vs (.rS t12) 0 1))],heap := [(0,(.cells 5 (.segs (.cons 1 (.one (.own 1 e1.n 64)) (.cons 1 (.one (.mp 2)) (.cons 1 (.one (.mp 3)) (.cons 1 (.one (.bool e1.off)) (.cons 1 (.one (.int .i64 e1.left)) .nil)))))) true)),(1,(.cells e1.blk.length (.rI .u8 e1.blk) true)),(2,(.cells 0 (.rM .i64 0 (.arr .u8 64) e1.pend) true)),(3,(.cells 0 (.rM .i64 0 .bool e1.worn) true))],next := 4,nt := 112,m := 0 }
def ef4bj12 : Ty64 → St := fun (t12,t94,e1) => { tmps := [(10,(.ptr 0 0 5 0 0 0 5)),(12,(.vs (.rS t12) 0 1)),(94,(.bool t94))],heap := [(0,(.cells 5 (.segs (.cons 1 (.one (.own 1 e1.n 64)) (.cons 1 (.one (.mp 2)) (.cons 1 (.one (.mp 3)) (.cons 1 (.one (.bool e1.off)) (.cons 1 (.one (.int .i64 e1.left)) .nil)))))) true)),(1,(.cells e1.blk.length (.rI .u8 e1.blk) true)),(2,(.cells 0 (.rM .i64 0 (.arr .u8 64) e1.pend) true)),(3,(.cells 0 (.rM .i64 0 .bool e1.worn) true))],next := 4,nt := 112,m := 0 }
def ef4bj13 : Ty65 → St := fun (t12,e1) => { tmps := [(10,(.ptr 0 0 5 0 0 0 5)),(12,(.vs (.rS t12) 0 1))],heap := [(0,(.cells 5 (.segs (.cons 1 (.one (.own 1 e1.n 64)) (.cons 1 (.one (.mp 2)) (.cons 1 (.one (.mp 3)) (.cons 1 (.one (.bool e1.off)) (.cons 1 (.one (.int .i64 e1.left)) .nil)))))) true)),(1,(.cells e1.blk.length (.rI .u8 e1.blk) true)),(2,(.cells 0 (.rM .i64 0 (.arr .u8 64) e1.pend) true)),(3,(.cells 0 (.rM .i64 0 .bool e1.worn) true))],next := 4,nt := 112,m := 0 }
def ef4bj14 : Bool × (Dk.D) → St := fun (t15,e1) => { tmps := [(10,(.ptr 0 0 5 0 0 0 5)),(15,(.bool t15))],heap := [(0,(.cells 5 (.segs (.cons 1 (.one (.own 1 e1.n 64)) (.cons 1 (.one (.mp 2)) (.cons 1 (.one (.mp 3)) (.cons 1 (.one (.bool e1.off)) (.cons 1 (.one (.int .i64 e1.left)) .nil)))))) true)),(1,(.cells e1.blk.length (.rI .u8 e1.blk) true)),(2,(.cells 0 (.rM .i64 0 (.arr .u8 64) e1.pend) true)),(3,(.cells 0 (.rM .i64 0 .bool e1.worn) true))],next := 4,nt := 112,m := 0 }
def f4b_1 (F : Nat) (kf4bj1 : Nat × Int × (List Int) → Rz) : Nat × Int × (List Int) → Rz := fun (a0,a1,a2) => (kf4bj1 (a0,a1,a2))
theorem f4b_1_eq (F : Nat) (Rf4bj1 : St → Rz) : ∀ v,aexec VG354b (Af4b F) (bp Try.f4 2) (ef4b_a v) (kSeq (kc VG354b Rf4bj1 sp27) (kFin VG354b none (Try.f4).results.toList)) = f4b_1 F (Rf4bj1 ∘ ef4bj1) v := by
  rintro ⟨a0,a1,a2⟩; kernel_rfl
def f4b_2 (F : Nat) (kf4bj2 : Ty66 → Rz) : Nat × Int × (List Int) → Rz := fun (t0,t1,t2) => (kf4bj2 (t0,t1,t2,true))
theorem f4b_2_eq (F : Nat) (Rf4bj2 : St → Rz) : ∀ v,aexec VG354b (Af4b F) (bp Try.f4 6) (ef4bj1 v) (kSeq (kc VG354b Rf4bj2 sp28) (kFin VG354b none (Try.f4).results.toList)) = f4b_2 F (Rf4bj2 ∘ ef4bj2) v := by
  rintro ⟨t0,t1,t2⟩; kernel_rfl
def f4b_3 (F : Nat) (kf4bj3 : Int × (List Int) × Bool → Rz) : Ty66 → Rz := fun (t0,t1,t2,t7) => (cond (decide ((Int.ofNat (t0 + 4)) < (1 : Int))) (cond (!((decide (0 < (Int.ofNat (t0 + 4)))) && (decide ((Int.ofNat (t0 + 4)) < 4097)))) (cond t7 (kf4bj3 (t1,t2,(1 == (1 : Int)))) (kf4bj3 (t1,t2,false))) none) (cond (decide ((Int.ofNat (t0 + 4)) > (4096 : Int))) (cond (!((decide (0 < (Int.ofNat (t0 + 4)))) && (decide ((Int.ofNat (t0 + 4)) < 4097)))) (cond t7 (kf4bj3 (t1,t2,(1 == (1 : Int)))) (kf4bj3 (t1,t2,false))) none) (kf4bj3 (t1,t2,t7))))
theorem f4b_3_eq (F : Nat) (Rf4bj3 : St → Rz) : ∀ v,aexec VG354b (Af4b F) (bp Try.f4 14) (ef4bj2 v) (kSeq (kc VG354b Rf4bj3 sp31) (kFin VG354b none (Try.f4).results.toList)) = f4b_3 F (Rf4bj3 ∘ ef4bj3) v := by
  rintro ⟨t0,t1,t2,t7⟩; kernel_rfl
def f4b_4 (F : Nat) (kf4bj4 : Ty56 → Rz) : Int × (List Int) × Bool → Rz := fun (t1,t2,t7) => (kf4bj4 (t1,t2,t7,0,(Dk.new 3)))
theorem f4b_4_eq (F : Nat) (Rf4bj4 : St → Rz) : ∀ v,aexec VG354b (Af4b F) (bp Try.f4 30) (ef4bj3 v) (kSeq (kc VG354b Rf4bj4 sp32) (kFin VG354b none (Try.f4).results.toList)) = f4b_4 F (Rf4bj4 ∘ ef4bj4) v := by
  rintro ⟨t1,t2,t7⟩; kernel_rfl
def f4b_5 (F : Nat) (kf4bj5 : Ty57 → Rz) (kf4bj6 : Ty58 → Rz) : Ty56 → Rz := fun (t1,t2,t7,t11,e1) => (cond (t11 != (0 : Int)) (kf4bj5 (t1,t2,true,e1)) (kf4bj5 (t1,t2,(!t7),e1)))
theorem f4b_5_eq (F : Nat) (Rf4bj5 : St → Rz) (Rf4bj6 : St → Rz) : ∀ v,aexec VG354b (Af4b F) (bp Try.f4 124) (ef4bj4 v) (kSeq (kc VG354b Rf4bj5 sp33) (kSeq (kc VG354b Rf4bj6 sp34) (kFin VG354b none (Try.f4).results.toList))) = f4b_5 F (Rf4bj5 ∘ ef4bj5) (Rf4bj6 ∘ ef4bj6) v := by
  rintro ⟨t1,t2,t7,t11,e1⟩; kernel_rfl
def f4b_6 (F : Nat) (kf4bj6 : Ty58 → Rz) : Ty57 → Rz := fun (t1,t2,t50,e1) => (cond t50 (some ((.bool false),[])) (kf4bj6 (t1,t2,e1)))
theorem f4b_6_eq (F : Nat) (Rf4bj6 : St → Rz) : ∀ v,aexec VG354b (Af4b F) (bp Try.f4 125) (ef4bj5 v) (kSeq (kc VG354b Rf4bj6 sp34) (kFin VG354b none (Try.f4).results.toList)) = f4b_6 F (Rf4bj6 ∘ ef4bj6) v := by
  rintro ⟨t1,t2,t50,e1⟩; kernel_rfl
def f4b_7 (F : Nat) (kf4bj6 : Ty58 → Rz) : Ty56 → Rz := fun v => f4b_5 F (f4b_6 F kf4bj6) kf4bj6 v
theorem f4b_7_eq (F : Nat) (Rf4bj6 : St → Rz) : ∀ v,aexec VG354b (Af4b F) (bp Try.f4 62) (ef4bj4 v) (kSeq (kc VG354b Rf4bj6 sp34) (kFin VG354b none (Try.f4).results.toList)) = f4b_7 F (Rf4bj6 ∘ ef4bj6) v :=
  seq_cut (by kernel_rfl) (by kernel_rfl) ef4bj4 ef4bj5 _ (fun k => f4b_5 F k (Rf4bj6 ∘ ef4bj6)) (f4b_6 F (Rf4bj6 ∘ ef4bj6))
    (fun Rf4bj5 => f4b_5_eq F Rf4bj5 Rf4bj6) (f4b_6_eq F Rf4bj6)
def f4b_8 (F : Nat) (kf4bj7 : Ty59 → Rz) : Ty58 → Rz := fun (t1,t2,e1) => (cond (decide (e1.blk.length = e1.n * 64 ∧ e1.n < 8000)) (kf4bj7 (t1,t2,(Dk.image e1),e1)) none)
theorem f4b_8_eq (F : Nat) (Rf4bj7 : St → Rz) : ∀ v,aexec VG354b (Af4b F) (bp Try.f4 126) (ef4bj6 v) (kSeq (kc VG354b Rf4bj7 sp35) (kFin VG354b none (Try.f4).results.toList)) = f4b_8 F (Rf4bj7 ∘ ef4bj7) v := by
  rintro ⟨t1,t2,e1⟩; kernel_rfl
def f4b_9 (F : Nat) (kf4bj8 : Ty60 → Rz) (kf4bj11 : Ty63 → Rz) : Ty59 → Rz := fun (t1,t2,t12,e1) => (cond (decide (t1 < (0 : Int))) (kf4bj8 (t1,t2,t12,true,e1)) (kf4bj8 (t1,t2,t12,(decide (t1 > (2 : Int))),e1)))
theorem f4b_9_eq (F : Nat) (Rf4bj8 : St → Rz) (Rf4bj11 : St → Rz) : ∀ v,aexec VG354b (Af4b F) (bp Try.f4 508) (ef4bj7 v) (kSeq (kc VG354b Rf4bj8 sp36) (kSeq (kc VG354b Rf4bj11 sp39) (kFin VG354b none (Try.f4).results.toList))) = f4b_9 F (Rf4bj8 ∘ ef4bj8) (Rf4bj11 ∘ ef4bj11) v := by
  rintro ⟨t1,t2,t12,e1⟩; kernel_rfl
def f4b_10 (F : Nat) (kf4bj9 : Ty61 → Rz) (kf4bj11 : Ty63 → Rz) : Ty60 → Rz := fun (t1,t2,t12,t58,e1) => (kf4bj9 (t1,t2,t12,(Dk.read e1 t1).2,e1))
theorem f4b_10_eq (F : Nat) (Rf4bj9 : St → Rz) (Rf4bj11 : St → Rz) : ∀ v,aexec VG354b (Af4b F) (bp Try.f4 2036) (ef4bj8 v) (kSeq (kc VG354b Rf4bj9 sp37) (kSeq (kc VG354b Rf4bj11 sp39) (kFin VG354b none (Try.f4).results.toList))) = f4b_10 F (Rf4bj9 ∘ ef4bj9) (Rf4bj11 ∘ ef4bj11) v := by
  rintro ⟨t1,t2,t12,t58,e1⟩; kernel_rfl
def f4b_11 (F : Nat) (kf4bj10 : Ty62 → Rz) (kf4bj11 : Ty63 → Rz) : Ty61 → Rz := fun (t1,t2,t12,t14,e1) => (cond (t14 != (1 : Int)) (kf4bj10 (t2,t12,true,e1)) (cond ((Dk.write e1 t1 (Dk.full (120 : Int))).2 != (1 : Int)) (kf4bj10 (t2,t12,true,(Dk.write e1 t1 (Dk.full (120 : Int))).1)) (cond ((Dk.rot (Dk.write e1 t1 (Dk.full (120 : Int))).1 t1 (0 : Int)).2 != (1 : Int)) (kf4bj10 (t2,t12,true,(Dk.rot (Dk.write e1 t1 (Dk.full (120 : Int))).1 t1 (0 : Int)).1)) (kf4bj10 (t2,t12,((Dk.wear (Dk.rot (Dk.write e1 t1 (Dk.full (120 : Int))).1 t1 (0 : Int)).1 t1).2 != (1 : Int)),(Dk.wear (Dk.rot (Dk.write e1 t1 (Dk.full (120 : Int))).1 t1 (0 : Int)).1 t1).1)))))
theorem f4b_11_eq (F : Nat) (Rf4bj10 : St → Rz) (Rf4bj11 : St → Rz) : ∀ v,aexec VG354b (Af4b F) (bp Try.f4 4074) (ef4bj9 v) (kSeq (kc VG354b Rf4bj10 sp38) (kSeq (kc VG354b Rf4bj11 sp39) (kFin VG354b none (Try.f4).results.toList))) = f4b_11 F (Rf4bj10 ∘ ef4bj10) (Rf4bj11 ∘ ef4bj11) v := by
  rintro ⟨t1,t2,t12,t14,e1⟩; kernel_rfl
def f4b_12 (F : Nat) (kf4bj11 : Ty63 → Rz) : Ty62 → Rz := fun (t2,t12,t85,e1) => (cond t85 (some ((.bool false),[])) (kf4bj11 (t2,t12,e1)))
theorem f4b_12_eq (F : Nat) (Rf4bj11 : St → Rz) : ∀ v,aexec VG354b (Af4b F) (bp Try.f4 4075) (ef4bj10 v) (kSeq (kc VG354b Rf4bj11 sp39) (kFin VG354b none (Try.f4).results.toList)) = f4b_12 F (Rf4bj11 ∘ ef4bj11) v := by
  rintro ⟨t2,t12,t85,e1⟩; kernel_rfl
def f4b_13 (F : Nat) (kf4bj11 : Ty63 → Rz) : Ty61 → Rz := fun v => f4b_11 F (f4b_12 F kf4bj11) kf4bj11 v
theorem f4b_13_eq (F : Nat) (Rf4bj11 : St → Rz) : ∀ v,aexec VG354b (Af4b F) (bp Try.f4 2037) (ef4bj9 v) (kSeq (kc VG354b Rf4bj11 sp39) (kFin VG354b none (Try.f4).results.toList)) = f4b_13 F (Rf4bj11 ∘ ef4bj11) v :=
  seq_cut (by kernel_rfl) (by kernel_rfl) ef4bj9 ef4bj10 _ (fun k => f4b_11 F k (Rf4bj11 ∘ ef4bj11)) (f4b_12 F (Rf4bj11 ∘ ef4bj11))
    (fun Rf4bj10 => f4b_11_eq F Rf4bj10 Rf4bj11) (f4b_12_eq F Rf4bj11)
def f4b_14 (F : Nat) (kf4bj11 : Ty63 → Rz) : Ty60 → Rz := fun v => f4b_10 F (f4b_13 F kf4bj11) kf4bj11 v
theorem f4b_14_eq (F : Nat) (Rf4bj11 : St → Rz) : ∀ v,aexec VG354b (Af4b F) (bp Try.f4 1018) (ef4bj8 v) (kSeq (kc VG354b Rf4bj11 sp39) (kFin VG354b none (Try.f4).results.toList)) = f4b_14 F (Rf4bj11 ∘ ef4bj11) v :=
  seq_cut (by kernel_rfl) (by kernel_rfl) ef4bj8 ef4bj9 _ (fun k => f4b_10 F k (Rf4bj11 ∘ ef4bj11)) (f4b_13 F (Rf4bj11 ∘ ef4bj11))
    (fun Rf4bj9 => f4b_10_eq F Rf4bj9 Rf4bj11) (f4b_13_eq F Rf4bj11)
def f4b_15 (F : Nat) (kf4bj11 : Ty63 → Rz) : Ty60 → Rz := fun (t1,t2,t12,t58,e1) => (kf4bj11 (t2,t12,e1))
theorem f4b_15_eq (F : Nat) (Rf4bj11 : St → Rz) : ∀ v,aexec VG354b (Af4b F) (bp Try.f4 1019) (ef4bj8 v) (kSeq (kc VG354b Rf4bj11 sp39) (kFin VG354b none (Try.f4).results.toList)) = f4b_15 F (Rf4bj11 ∘ ef4bj11) v := by
  rintro ⟨t1,t2,t12,t58,e1⟩; kernel_rfl
def f4b_16 (F : Nat) (kf4bj11 : Ty63 → Rz) : Ty60 → Rz := fun v => cond ((fun (t1,t2,t12,t58,e1) => t58) v) (f4b_14 F kf4bj11 v) (f4b_15 F kf4bj11 v)
theorem f4b_16_eq (F : Nat) (Rf4bj11 : St → Rz) : ∀ v,aexec VG354b (Af4b F) (bp Try.f4 509) (ef4bj8 v) (kSeq (kc VG354b Rf4bj11 sp39) (kFin VG354b none (Try.f4).results.toList)) = f4b_16 F (Rf4bj11 ∘ ef4bj11) v :=
  cond_in (o := .tmp 58) (by kernel_rfl) ef4bj8 _ (fun (t1,t2,t12,t58,e1) => t58) (by rintro ⟨t1,t2,t12,t58,e1⟩; kernel_rfl) _ _ (f4b_14_eq F Rf4bj11) (f4b_15_eq F Rf4bj11)
def f4b_17 (F : Nat) (kf4bj11 : Ty63 → Rz) : Ty59 → Rz := fun v => f4b_9 F (f4b_16 F kf4bj11) kf4bj11 v
theorem f4b_17_eq (F : Nat) (Rf4bj11 : St → Rz) : ∀ v,aexec VG354b (Af4b F) (bp Try.f4 254) (ef4bj7 v) (kSeq (kc VG354b Rf4bj11 sp39) (kFin VG354b none (Try.f4).results.toList)) = f4b_17 F (Rf4bj11 ∘ ef4bj11) v :=
  seq_cut (by kernel_rfl) (by kernel_rfl) ef4bj7 ef4bj8 _ (fun k => f4b_9 F k (Rf4bj11 ∘ ef4bj11)) (f4b_16 F (Rf4bj11 ∘ ef4bj11))
    (fun Rf4bj8 => f4b_9_eq F Rf4bj8 Rf4bj11) (f4b_16_eq F Rf4bj11)
def f4b_18 (F : Nat) (kf4bj12 : Ty64 → Rz) (kf4bj13 : Ty65 → Rz) : Ty63 → Rz := fun (t2,t12,e1) => (cond ((↑t2.length : Int) != (64 : Int)) (kf4bj12 (t12,((Dk.write e1 (0 : Int) t2).2 != (1 : Int)),(Dk.write e1 (0 : Int) t2).1)) (kf4bj12 (t12,false,e1)))
theorem f4b_18_eq (F : Nat) (Rf4bj12 : St → Rz) (Rf4bj13 : St → Rz) : ∀ v,aexec VG354b (Af4b F) (bp Try.f4 1020) (ef4bj11 v) (kSeq (kc VG354b Rf4bj12 sp40) (kSeq (kc VG354b Rf4bj13 sp41) (kFin VG354b none (Try.f4).results.toList))) = f4b_18 F (Rf4bj12 ∘ ef4bj12) (Rf4bj13 ∘ ef4bj13) v := by
  rintro ⟨t2,t12,e1⟩; kernel_rfl
def f4b_19 (F : Nat) (kf4bj13 : Ty65 → Rz) : Ty64 → Rz := fun (t12,t94,e1) => (cond t94 (some ((.bool false),[])) (kf4bj13 (t12,e1)))
theorem f4b_19_eq (F : Nat) (Rf4bj13 : St → Rz) : ∀ v,aexec VG354b (Af4b F) (bp Try.f4 1021) (ef4bj12 v) (kSeq (kc VG354b Rf4bj13 sp41) (kFin VG354b none (Try.f4).results.toList)) = f4b_19 F (Rf4bj13 ∘ ef4bj13) v := by
  rintro ⟨t12,t94,e1⟩; kernel_rfl
def f4b_20 (F : Nat) (kf4bj13 : Ty65 → Rz) : Ty63 → Rz := fun v => f4b_18 F (f4b_19 F kf4bj13) kf4bj13 v
theorem f4b_20_eq (F : Nat) (Rf4bj13 : St → Rz) : ∀ v,aexec VG354b (Af4b F) (bp Try.f4 510) (ef4bj11 v) (kSeq (kc VG354b Rf4bj13 sp41) (kFin VG354b none (Try.f4).results.toList)) = f4b_20 F (Rf4bj13 ∘ ef4bj13) v :=
  seq_cut (by kernel_rfl) (by kernel_rfl) ef4bj11 ef4bj12 _ (fun k => f4b_18 F k (Rf4bj13 ∘ ef4bj13)) (f4b_19 F (Rf4bj13 ∘ ef4bj13))
    (fun Rf4bj12 => f4b_18_eq F Rf4bj12 Rf4bj13) (f4b_19_eq F Rf4bj13)
def f4b_21 (F : Nat) (kf4bj14 : Bool × (Dk.D) → Rz) : Ty65 → Rz := fun (t12,e1) => (cond (decide (e1.blk.length = e1.n * 64 ∧ e1.n < 8000)) (cond (decide (t12.length < 1073741824)) (kf4bj14 ((t12 == (Dk.image e1)),e1)) none) none)
theorem f4b_21_eq (F : Nat) (Rf4bj14 : St → Rz) : ∀ v,aexec VG354b (Af4b F) (bp Try.f4 1022) (ef4bj13 v) (kSeq (kc VG354b Rf4bj14 sp42) (kFin VG354b none (Try.f4).results.toList)) = f4b_21 F (Rf4bj14 ∘ ef4bj14) v := by
  rintro ⟨t12,e1⟩; kernel_rfl
def f4b_22 (F : Nat) : Bool × (Dk.D) → Rz := fun (t15,e1) => (cond t15 (cond (decide (e1.pend.length < 1073741824)) (cond ((↑(Dk.pending e1).length : Int) == (0 : Int)) (cond (decide (e1.worn.length < 1073741824)) (some ((.bool ((↑(Dk.wornl e1).length : Int) == (0 : Int))),[])) none) (some ((.bool false),[]))) none) (some ((.bool false),[])))
theorem f4b_22_eq (F : Nat) : ∀ v,aexec VG354b (Af4b F) (bp Try.f4 1023) (ef4bj14 v) (kFin VG354b none (Try.f4).results.toList) = f4b_22 F v := by
  rintro ⟨t15,e1⟩; kernel_rfl
def f4b_23 (F : Nat) : Ty65 → Rz := fun v => f4b_21 F (f4b_22 F) v
theorem f4b_23_eq (F : Nat) : ∀ v,aexec VG354b (Af4b F) (bp Try.f4 511) (ef4bj13 v) (kFin VG354b none (Try.f4).results.toList) = f4b_23 F v :=
  seq_cut (by kernel_rfl) (by kernel_rfl) ef4bj13 ef4bj14 _ (fun k => f4b_21 F k) (f4b_22 F)
    (fun Rf4bj14 => f4b_21_eq F Rf4bj14) (f4b_22_eq F)
def f4b_24 (F : Nat) : Ty63 → Rz := fun v => f4b_20 F (f4b_23 F) v
theorem f4b_24_eq (F : Nat) : ∀ v,aexec VG354b (Af4b F) (bp Try.f4 255) (ef4bj11 v) (kFin VG354b none (Try.f4).results.toList) = f4b_24 F v :=
  seq_cut (by kernel_rfl) (by kernel_rfl) ef4bj11 ef4bj13 _ (fun k => f4b_20 F k) (f4b_23 F)
    (fun Rf4bj13 => f4b_20_eq F Rf4bj13) (f4b_23_eq F)
def f4b_25 (F : Nat) : Ty59 → Rz := fun v => f4b_17 F (f4b_24 F) v
theorem f4b_25_eq (F : Nat) : ∀ v,aexec VG354b (Af4b F) (bp Try.f4 127) (ef4bj7 v) (kFin VG354b none (Try.f4).results.toList) = f4b_25 F v :=
  seq_cut (by kernel_rfl) (by kernel_rfl) ef4bj7 ef4bj11 _ (fun k => f4b_17 F k) (f4b_24 F)
    (fun Rf4bj11 => f4b_17_eq F Rf4bj11) (f4b_24_eq F)
def f4b_26 (F : Nat) : Ty58 → Rz := fun v => f4b_8 F (f4b_25 F) v
theorem f4b_26_eq (F : Nat) : ∀ v,aexec VG354b (Af4b F) (bp Try.f4 63) (ef4bj6 v) (kFin VG354b none (Try.f4).results.toList) = f4b_26 F v :=
  seq_cut (by kernel_rfl) (by kernel_rfl) ef4bj6 ef4bj7 _ (fun k => f4b_8 F k) (f4b_25 F)
    (fun Rf4bj7 => f4b_8_eq F Rf4bj7) (f4b_25_eq F)
def f4b_27 (F : Nat) : Ty56 → Rz := fun v => f4b_7 F (f4b_26 F) v
theorem f4b_27_eq (F : Nat) : ∀ v,aexec VG354b (Af4b F) (bp Try.f4 31) (ef4bj4 v) (kFin VG354b none (Try.f4).results.toList) = f4b_27 F v :=
  seq_cut (by kernel_rfl) (by kernel_rfl) ef4bj4 ef4bj6 _ (fun k => f4b_7 F k) (f4b_26 F)
    (fun Rf4bj6 => f4b_7_eq F Rf4bj6) (f4b_26_eq F)
def f4b_28 (F : Nat) : Int × (List Int) × Bool → Rz := fun v => f4b_4 F (f4b_27 F) v
theorem f4b_28_eq (F : Nat) : ∀ v,aexec VG354b (Af4b F) (bp Try.f4 15) (ef4bj3 v) (kFin VG354b none (Try.f4).results.toList) = f4b_28 F v :=
  seq_cut (by kernel_rfl) (by kernel_rfl) ef4bj3 ef4bj4 _ (fun k => f4b_4 F k) (f4b_27 F)
    (fun Rf4bj4 => f4b_4_eq F Rf4bj4) (f4b_27_eq F)
def f4b_29 (F : Nat) : Ty66 → Rz := fun v => f4b_3 F (f4b_28 F) v
theorem f4b_29_eq (F : Nat) : ∀ v,aexec VG354b (Af4b F) (bp Try.f4 7) (ef4bj2 v) (kFin VG354b none (Try.f4).results.toList) = f4b_29 F v :=
  seq_cut (by kernel_rfl) (by kernel_rfl) ef4bj2 ef4bj3 _ (fun k => f4b_3 F k) (f4b_28 F)
    (fun Rf4bj3 => f4b_3_eq F Rf4bj3) (f4b_28_eq F)
def f4b_30 (F : Nat) : Nat × Int × (List Int) → Rz := fun v => f4b_2 F (f4b_29 F) v
theorem f4b_30_eq (F : Nat) : ∀ v,aexec VG354b (Af4b F) (bp Try.f4 3) (ef4bj1 v) (kFin VG354b none (Try.f4).results.toList) = f4b_30 F v :=
  seq_cut (by kernel_rfl) (by kernel_rfl) ef4bj1 ef4bj2 _ (fun k => f4b_2 F k) (f4b_29 F)
    (fun Rf4bj2 => f4b_2_eq F Rf4bj2) (f4b_29_eq F)
def f4b_31 (F : Nat) : Nat × Int × (List Int) → Rz := fun v => f4b_1 F (f4b_30 F) v
theorem f4b_31_eq (F : Nat) : ∀ v,aexec VG354b (Af4b F) (sub (bodyOf Try.f4) []) (ef4b_a v) (kFin VG354b none (Try.f4).results.toList) = f4b_31 F v :=
  seq_cut (by kernel_rfl) (by kernel_rfl) ef4b_a ef4bj1 _ (fun k => f4b_1 F k) (f4b_30 F)
    (fun Rf4bj1 => f4b_1_eq F Rf4bj1) (f4b_30_eq F)
def f4b (F : Nat) : Nat × Int × (List Int) → Rz := f4b_31 F
theorem f4b_body (F : Nat) (a0 : Nat) (a1 : Int) (a2 : List Int) : abody VG354b (Af4b F) Try.f4 [(.int .i64 (Int.ofNat (a0 + 4))),(.int .i64 a1),(.str a2)] [] = f4b F (a0,a1,a2) :=
  (abody_in (c := (sub (bodyOf Try.f4) [])) (by kernel_rfl) (s := ef4b_a (a0,a1,a2)) (by kernel_rfl)).trans (f4b_31_eq F (a0,a1,a2))
def r4b : CRun := fun X H => match X,H with
  | [(.int .i64 (Int.ofNat (a0 + 4))),(.int .i64 a1),(.str a2)],[] => some ((decide (4092 < a0)),(.bool true),[])
  | _,_ => none
theorem s4b (a0 : Nat) (a1 : Int) (a2 : List Int) (hp : ((decide (4092 < a0))) = true) (h0 : okV (.int .i64 (Int.ofNat (a0 + 4)))) (h1 : okV (.int .i64 a1)) (h2 : okV (.str a2)) : ∃ F,f4b F (a0,a1,a2) = some ((.bool true),[]) := by
  rw [decide_eq_true_iff] at hp
  refine ⟨0,?_⟩
  obtain ⟨d1,d2,d3,d4,d5,d6⟩ := Dk.fine3
  have n3 : (decide ((0 : Int) < 3) && decide ((3 : Int) < 4097)) = true := by decide
  have z1 : ((0 : Int) != 0) = false := rfl
  have z2 : ((1 : Int) != 1) = false := rfl
  have z3 : (((0 : Nat) : Int) == 0) = true := rfl
  simp only [f4b,f4b_1,f4b_2,f4b_3,f4b_4,f4b_5,f4b_6,f4b_7,f4b_8,f4b_9,f4b_10,f4b_11,f4b_12,f4b_13,f4b_14,f4b_15,f4b_16,f4b_17,f4b_18,f4b_19,f4b_20,f4b_21,f4b_22,f4b_23,f4b_24,f4b_25,f4b_26,f4b_27,f4b_28,f4b_29,f4b_30,f4b_31,n3,z1,d1,d2,cond_true,cond_false,Bool.not_true]
  have y0 : Int.ofNat (a0 + 4) = (a0 : Int) + 4 := rfl
  rw [y0]
  have y1 : ¬ (a0 : Int) + 4 < 1 := by omega
  have y3 : (a0 : Int) + 4 > 4096 := by omega
  have y2 : (!(decide (0 < (a0 : Int) + 4) && decide ((a0 : Int) + 4 < 4097))) = true := by rw [dec_and,dec_not,decide_eq_true_iff]; omega
  rw [cond_neg y1,cond_pos y3,y2]
  simp only [cond_true,beq_self_eq_true,Bool.not_true,cond_false]
  by_cases hi : a1 < 0 ∨ a1 > 2
  · obtain ⟨b1,b2,b3,b4⟩ := Dk.bad3 hi
    have z4 : ∀ {α : Type} (x y : α),cond (decide (a1 < 0)) x (cond (decide (a1 > 2)) x y) = x := fun x y => by
      by_cases h : a1 < 0
      · rw [cond_pos h]
      · rw [cond_neg h,cond_pos (hi.resolve_left h)]
    simp only [b1,b2,b3,b4,z2,cond_false]
    by_cases hs : (a2.length : Int) = 64
    · have s1 : ((a2.length : Int) != 64) = false := by simpa using hs
      simp only [s1,cond_false,d1,d2,d3,d4,d5,d6,beq_self_eq_true,cond_true,z3]
      cases decide (a1 < 0) <;> cases hq : decide (a1 > 2) <;> rfl
    · have s1 : ((a2.length : Int) != 64) = true := by simpa using hs
      simp only [s1,cond_true,Dk.short3 hs,z2,cond_false,d1,d2,d3,d4,d5,d6,beq_self_eq_true,z3]
      cases decide (a1 < 0) <;> cases hq : decide (a1 > 2) <;> rfl
  · have q1 : decide (a1 < 0) = false := by rw [decide_eq_false_iff_not]; exact fun h => hi (.inl h)
    have q2 : decide (a1 > 2) = false := by rw [decide_eq_false_iff_not]; exact fun h => hi (.inr h)
    rw [q1,q2]
    simp only [cond_false]
    by_cases hs : (a2.length : Int) = 64
    · have s1 : ((a2.length : Int) != 64) = false := by simpa using hs
      simp only [s1,cond_false,d1,d2,d3,d4,d5,d6,beq_self_eq_true,cond_true,z3]
    · have s1 : ((a2.length : Int) != 64) = true := by simpa using hs
      simp only [s1,cond_true,Dk.short3 hs,z2,cond_false,d1,d2,d3,d4,d5,d6,beq_self_eq_true,z3]

theorem c4b : CallOk Try.prog G35 4 r4b := callOk_of (V := VG354b) mixed tys eVG354b (f := 4) (fn := Try.f4) Try.func4 (by kernel_rfl) (c := sub (bodyOf Try.f4) []) (by kernel_rfl) (by
  intro X H r H' h hX hH
  unfold r4b at h; split at h <;> try contradiction
  · simp only [Option.some.injEq,Prod.mk.injEq] at h
    obtain ⟨hp,rfl,rfl⟩ := h
    obtain ⟨F,hF⟩ := s4b _ _ _ hp (hX _ (.head _)) (hX _ (.tail _ (.head _))) (hX _ (.tail _ (.tail _ (.head _))))
    exact ⟨Af4b F,(f4b_body F _ _ _).trans hF⟩)
def orR (r1 r2 : CRun) : CRun := fun X H => match r1 X H with
  | some (true,r,H') => some (true,r,H')
  | _ => r2 X H
theorem orR_ok {P : Program} {G : Nat → Option AV} {f : Nat} {r1 r2 : CRun} (h1 : CallOk P G f r1) (h2 : CallOk P G f r2) : CallOk P G f (orR r1 r2) := h1.or h2 fun A H r H' h => by
  unfold orR at h; split at h
  · rename_i e; exact .inl (e.trans h)
  · exact .inr h
def r4 : CRun := fun X H => match X,H with
  | [.int .i64 _,.int .i64 _,.str _],[] => some (true,.bool true,[])
  | _,_ => none
theorem c4 : CallOk Try.prog G35 4 r4 := (orR_ok (orR_ok (orR_ok c4v c4n) c4z) c4b).sub fun A H r H' h => by
  unfold r4 at h; split at h <;> try contradiction
  rename_i a0 a1 a2
  simp only [Option.some.injEq,Prod.mk.injEq,true_and] at h
  obtain ⟨rfl,rfl⟩ := h
  cases hb : (decide (0 < a0) && decide (a0 < 4097)) with
  | true => simp only [orR,r4v,hb]
  | false =>
    rw [dec_and,decide_eq_false_iff_not] at hb
    have ev : orR r4v r4n [.int .i64 a0,.int .i64 a1,.str a2] [] = r4n [.int .i64 a0,.int .i64 a1,.str a2] [] := by
      have : (decide (0 < a0) && decide (a0 < 4097)) = false := by rw [dec_and,decide_eq_false_iff_not]; exact hb
      simp only [orR,r4v,this]
    cases a0 with
    | negSucc n => simp only [orR,r4v,r4n,show (decide (0 < Int.negSucc n) && decide (Int.negSucc n < 4097)) = false by rw [dec_and,decide_eq_false_iff_not]; exact hb]
    | ofNat n =>
      by_cases h0 : n = 0
      · subst h0; rfl
      · obtain ⟨m,hm,rfl⟩ : ∃ m,4092 < m ∧ n = m + 4 := ⟨n - 4,by have : (Int.ofNat n : Int) = (n : Int) := rfl; omega⟩
        have e1 : orR (orR r4v r4n) r4z [.int .i64 (Int.ofNat (m + 4)),.int .i64 a1,.str a2] [] = none := by
          simp only [orR] at ev ⊢
          rw [ev]; rfl
        simp only [orR] at e1 ⊢
        rw [e1]
        simp only [r4b,decide_eq_true hm]
end Go.Am
