/- Part of a proof about the functions of the given program. -/
import Derived.Test.YtnbgphghghmemaaAm35A
set_option linter.unusedVariables false
set_option linter.unusedSimpArgs false
namespace Go.Am
open Go Go.Proofs
abbrev sp0 : List (Nat × Md) := [(0,.plain),(18,.plain),(19,.plain),(20,.plain)]
abbrev sp1 : List (Nat × Md) := [(0,.plain),(1,.plain),(8,.plain),(9,.plain),(10,.plain)]
abbrev Ty5 := (List Int) × Int × Int × (Dk.D)
abbrev Ty6 := Nat × (List Int) × (List (List Int × List Int)) × (List (List Int × List Int)) × Bool × Int × (List Int)
abbrev Ty7 := (List Int) × (List Int) × Int × Int × (Dk.D)

def lVG3525 : List CEnt := [(22,[none],r22),(46,[none,none],r46),(47,[none],r47),(51,[none,none,none],r51)]
def VG3525 : Env := mkEnv T35 G35 lVG3525
theorem eVG3525 : EOk Try.prog VG3525 := eok_mk (by exact ⟨c22,c46,c47,c51,trivial⟩)
def Af25 (F : Nat) : Cuts := { F := F,at_ := fun n => match n with | 8012 => some sp0 | _ => none,join := fun n => match n with | 1040 => some [(0,.plain)] | 4030 => some [(0,.plain)] | 7020 => some [(0,.plain)] | 8014 => some sp0 | 12003 => some [] | _ => none }
def ef25_a : Ty0 → St := fun (a0n,a0b,a0p,a0w,a0o,a0l) => { tmps := [(0,(.ptr 0 0 5 0 0 0 5))],heap := [(0,(.cells 5 (.segs (.cons 1 (.one (.own 1 a0n 64)) (.cons 1 (.one (.mp 2)) (.cons 1 (.one (.mp 3)) (.cons 1 (.one (.bool a0o)) (.cons 1 (.one (.int .i64 a0l)) .nil)))))) true)),(1,(.cells a0b.length (.rI .u8 a0b) true)),(2,(.cells 0 (.rM .i64 0 (.arr .u8 64) a0p) true)),(3,(.cells 0 (.rM .i64 0 .bool a0w) true))],next := 4,nt := 28,m := 4 }
def ef25j1 : (Dk.D) → St := fun e1 => { tmps := [(0,(.ptr 0 0 5 0 0 0 5))],heap := [(0,(.cells 5 (.segs (.cons 1 (.one (.own 1 e1.n 64)) (.cons 1 (.one (.mp 2)) (.cons 1 (.one (.mp 3)) (.cons 1 (.one (.bool e1.off)) (.cons 1 (.one (.int .i64 e1.left)) .nil)))))) true)),(1,(.cells e1.blk.length (.rI .u8 e1.blk) true)),(2,(.cells 0 (.rM .i64 0 (.arr .u8 64) e1.pend) true)),(3,(.cells 0 (.rM .i64 0 .bool e1.worn) true))],next := 4,nt := 28,m := 4 }
def ef25j2 : (Dk.D) → St := fun e1 => { tmps := [(0,(.ptr 0 0 5 0 0 0 5))],heap := [(0,(.cells 5 (.segs (.cons 1 (.one (.own 1 e1.n 64)) (.cons 1 (.one (.mp 2)) (.cons 1 (.one (.mp 3)) (.cons 1 (.one (.bool e1.off)) (.cons 1 (.one (.int .i64 e1.left)) .nil)))))) true)),(1,(.cells e1.blk.length (.rI .u8 e1.blk) true)),(2,(.cells 0 (.rM .i64 0 (.arr .u8 64) e1.pend) true)),(3,(.cells 0 (.rM .i64 0 .bool e1.worn) true))],next := 4,nt := 28,m := 4 }
def ef25j3 : (Dk.D) → St := fun e1 => { tmps := [(0,(.ptr 0 0 5 0 0 0 5))],heap := [(0,(.cells 5 (.segs (.cons 1 (.one (.own 1 e1.n 64)) (.cons 1 (.one (.mp 2)) (.cons 1 (.one (.mp 3)) (.cons 1 (.one (.bool e1.off)) (.cons 1 (.one (.int .i64 e1.left)) .nil)))))) true)),(1,(.cells e1.blk.length (.rI .u8 e1.blk) true)),(2,(.cells 0 (.rM .i64 0 (.arr .u8 64) e1.pend) true)),(3,(.cells 0 (.rM .i64 0 .bool e1.worn) true))],next := 4,nt := 28,m := 4 }
def ef25j4 : Ty5 → St := fun (t18,t19,t20,e1) => { tmps := [(0,(.ptr 0 0 5 0 0 0 5)),(18,(.vs (.rI .i64 t18) 0 1)),(19,(.int .i64 t19)),(20,(.int .i64 t20))],heap := [(0,(.cells 5 (.segs (.cons 1 (.one (.own 1 e1.n 64)) (.cons 1 (.one (.mp 2)) (.cons 1 (.one (.mp 3)) (.cons 1 (.one (.bool e1.off)) (.cons 1 (.one (.int .i64 e1.left)) .nil)))))) true)),(1,(.cells e1.blk.length (.rI .u8 e1.blk) true)),(2,(.cells 0 (.rM .i64 0 (.arr .u8 64) e1.pend) true)),(3,(.cells 0 (.rM .i64 0 .bool e1.worn) true))],next := 4,nt := 28,m := 4 }
def ef25l1 : Ty5 → St := fun (t18,t19,t20,e1) => { tmps := [(0,(.ptr 0 0 5 0 0 0 5)),(18,(.vs (.rI .i64 t18) 0 1)),(19,(.int .i64 t19)),(20,(.int .i64 t20))],heap := [(0,(.cells 5 (.segs (.cons 1 (.one (.own 1 e1.n 64)) (.cons 1 (.one (.mp 2)) (.cons 1 (.one (.mp 3)) (.cons 1 (.one (.bool e1.off)) (.cons 1 (.one (.int .i64 e1.left)) .nil)))))) true)),(1,(.cells e1.blk.length (.rI .u8 e1.blk) true)),(2,(.cells 0 (.rM .i64 0 (.arr .u8 64) e1.pend) true)),(3,(.cells 0 (.rM .i64 0 .bool e1.worn) true))],next := 4,nt := 28,m := 4 }
def ef25j5 : (Dk.D) → St := fun e1 => { tmps := [],heap := [(0,(.cells 5 (.segs (.cons 1 (.one (.own 1 e1.n 64)) (.cons 1 (.one (.mp 2)) (.cons 1 (.one (.mp 3)) (.cons 1 (.one (.bool e1.off)) (.cons 1 (.one (.int .i64 e1.left)) .nil)))))) true)),(1,(.cells e1.blk.length (.rI .u8 e1.blk) true)),(2,(.cells 0 (.rM .i64 0 (.arr .u8 64) e1.pend) true)),(3,(.cells 0 (.rM .i64 0 .bool e1.worn) true))],next := 4,nt := 28,m := 4 }
def f25_1 (F : Nat) (kf25j1 : (Dk.D) → Rz) : Ty0 → Rz := fun (a0n,a0b,a0p,a0w,a0o,a0l) => (kf25j1 (Dk.D.mk a0n a0b a0p a0w a0o a0l))
theorem f25_1_eq (F : Nat) (Rf25j1 : St → Rz) : ∀ v,aexec VG3525 (Af25 F) (bp Try.f25 2) (ef25_a v) (kSeq (kc VG3525 Rf25j1 [(0,.plain)]) (kFin VG3525 none (Try.f25).results.toList)) = f25_1 F (Rf25j1 ∘ ef25j1) v := by
  rintro ⟨a0n,a0b,a0p,a0w,a0o,a0l⟩; kernel_rfl
def f25_2 (F : Nat) (kf25j2 : (Dk.D) → Rz) : (Dk.D) → Rz := fun e1 => (cond ((Dk.check e1 (0 : Int)) != (0 : Int)) (some ((.int .i64 (Dk.check e1 (0 : Int))),[(.cells 5 (.segs (.cons 1 (.one (.own 1 e1.n 64)) (.cons 1 (.one (.mp 2)) (.cons 1 (.one (.mp 3)) (.cons 1 (.one (.bool e1.off)) (.cons 1 (.one (.int .i64 e1.left)) .nil)))))) true),(.cells e1.blk.length (.rI .u8 e1.blk) true),(.cells 0 (.rM .i64 0 (.arr .u8 64) e1.pend) true),(.cells 0 (.rM .i64 0 .bool e1.worn) true)])) (kf25j2 e1))
theorem f25_2_eq (F : Nat) (Rf25j2 : St → Rz) : ∀ v,aexec VG3525 (Af25 F) (bp Try.f25 6) (ef25j1 v) (kSeq (kc VG3525 Rf25j2 [(0,.plain)]) (kFin VG3525 none (Try.f25).results.toList)) = f25_2 F (Rf25j2 ∘ ef25j2) v := by
  intro e1; kernel_rfl
def f25_3 (F : Nat) (kf25j3 : (Dk.D) → Rz) : (Dk.D) → Rz := fun e1 => (cond ((Dk.step e1).2 != (0 : Int)) (some ((.int .i64 (Dk.step e1).2),[(.cells 5 (.segs (.cons 1 (.one (.own 1 (Dk.step e1).1.n 64)) (.cons 1 (.one (.mp 2)) (.cons 1 (.one (.mp 3)) (.cons 1 (.one (.bool (Dk.step e1).1.off)) (.cons 1 (.one (.int .i64 (Dk.step e1).1.left)) .nil)))))) true),(.cells (Dk.step e1).1.blk.length (.rI .u8 (Dk.step e1).1.blk) true),(.cells 0 (.rM .i64 0 (.arr .u8 64) (Dk.step e1).1.pend) true),(.cells 0 (.rM .i64 0 .bool (Dk.step e1).1.worn) true)])) (kf25j3 (Dk.step e1).1))
theorem f25_3_eq (F : Nat) (Rf25j3 : St → Rz) : ∀ v,aexec VG3525 (Af25 F) (bp Try.f25 14) (ef25j2 v) (kSeq (kc VG3525 Rf25j3 [(0,.plain)]) (kFin VG3525 none (Try.f25).results.toList)) = f25_3 F (Rf25j3 ∘ ef25j3) v := by
  intro e1; kernel_rfl
def f25_4 (F : Nat) (kf25j4 : Ty5 → Rz) (kf25j5 : (Dk.D) → Rz) : (Dk.D) → Rz := fun e1 => (cond (decide (e1.pend.length < 1073741824)) (kf25j4 ((Dk.pending e1),(↑(Dk.pending e1).length : Int),(0 : Int),e1)) none)
theorem f25_4_eq (F : Nat) (Rf25j4 : St → Rz) (Rf25j5 : St → Rz) : ∀ v,aexec VG3525 (Af25 F) (bp Try.f25 60) (ef25j3 v) (kSeq (kc VG3525 Rf25j4 sp0) (kSeq (kc VG3525 Rf25j5 []) (kFin VG3525 none (Try.f25).results.toList))) = f25_4 F (Rf25j4 ∘ ef25j4) (Rf25j5 ∘ ef25j5) v := by
  intro e1; kernel_rfl
def f25_5 (F : Nat) (kf25l1 : Ty5 → Rz) (kf25j5 : (Dk.D) → Rz) : Ty5 → Rz := fun (t18,t19,t20,e1) => (cond (decide (t20 < t19)) (cond ((decide (0 ≤ t20)) && (decide (t20 < (↑t18.length : Int)))) (cond ((Dk.inD e1 (t18.getD (Int.toNat t20) 0)) && (decide (e1.blk.length = e1.n * 64))) (kf25l1 (t18,t19,(IntKind.i64.wrap (t20 + (1 : Int))),(Dk.settle e1 (t18.getD (Int.toNat t20) 0) (64 : Int)))) none) none) (kf25j5 e1))
theorem f25_5_eq (F : Nat) (Rf25l1 : St → Rz) (Rf25j5 : St → Rz) : ∀ v,aexec VG3525 (Af25 F) (bp Try.f25 244) (ef25l1 v) (kSeq (kc VG3525 Rf25l1 sp0) (kBlock 0 (kSeq (kc VG3525 Rf25j5 []) (kFin VG3525 none (Try.f25).results.toList)))) = f25_5 F (Rf25l1 ∘ ef25l1) (Rf25j5 ∘ ef25j5) v := by
  rintro ⟨t18,t19,t20,e1⟩; kernel_rfl
def f25_6_i : Ty5 → (List Int) × Int × Int × (Dk.D) := fun (t18,t19,t20,e1) => (t18,t19,t20,e1)
def f25_6 (F : Nat) (kf25j5 : (Dk.D) → Rz) : Ty5 → Rz := fun v => loopN (fun k => f25_5 F k kf25j5) F (f25_6_i v)
theorem f25_6_eq (F : Nat) (Rf25j5 : St → Rz) : ∀ v,aexec VG3525 (Af25 F) (bp Try.f25 122) (ef25j4 v) (kBlock 0 (kSeq (kc VG3525 Rf25j5 []) (kFin VG3525 none (Try.f25).results.toList))) = f25_6 F (Rf25j5 ∘ ef25j5) v :=
  loop_cut (by kernel_rfl) (by kernel_rfl) ef25j4 ef25l1 _ f25_6_i (fun k => f25_5 F k (Rf25j5 ∘ ef25j5))
    (by rintro ⟨t18,t19,t20,e1⟩; kernel_rfl) (fun Rf25l1 => f25_5_eq F Rf25l1 Rf25j5)
def f25_7 (F : Nat) (kf25j5 : (Dk.D) → Rz) : Ty5 → Rz := f25_6 F kf25j5
theorem f25_7_eq (F : Nat) (Rf25j5 : St → Rz) : ∀ v,aexec VG3525 (Af25 F) (bp Try.f25 61) (ef25j4 v) (kSeq (kc VG3525 Rf25j5 []) (kFin VG3525 none (Try.f25).results.toList)) = f25_7 F (Rf25j5 ∘ ef25j5) v := fun v =>
  (block_in  (by kernel_rfl) _ _).trans (f25_6_eq F Rf25j5 v)
def f25_8 (F : Nat) (kf25j5 : (Dk.D) → Rz) : (Dk.D) → Rz := fun v => f25_4 F (f25_7 F kf25j5) kf25j5 v
theorem f25_8_eq (F : Nat) (Rf25j5 : St → Rz) : ∀ v,aexec VG3525 (Af25 F) (bp Try.f25 30) (ef25j3 v) (kSeq (kc VG3525 Rf25j5 []) (kFin VG3525 none (Try.f25).results.toList)) = f25_8 F (Rf25j5 ∘ ef25j5) v :=
  seq_cut (by kernel_rfl) (by kernel_rfl) ef25j3 ef25j4 _ (fun k => f25_4 F k (Rf25j5 ∘ ef25j5)) (f25_7 F (Rf25j5 ∘ ef25j5))
    (fun Rf25j4 => f25_4_eq F Rf25j4 Rf25j5) (f25_7_eq F Rf25j5)
def f25_9 (F : Nat) : (Dk.D) → Rz := fun e1 => (some ((.int .i64 (0 : Int)),[(.cells 5 (.segs (.cons 1 (.one (.own 1 e1.n 64)) (.cons 1 (.one (.mp 2)) (.cons 1 (.one (.mp 3)) (.cons 1 (.one (.bool e1.off)) (.cons 1 (.one (.int .i64 e1.left)) .nil)))))) true),(.cells e1.blk.length (.rI .u8 e1.blk) true),(.cells 0 (.rM .i64 0 (.arr .u8 64) e1.pend) true),(.cells 0 (.rM .i64 0 .bool e1.worn) true)]))
theorem f25_9_eq (F : Nat) : ∀ v,aexec VG3525 (Af25 F) (bp Try.f25 31) (ef25j5 v) (kFin VG3525 none (Try.f25).results.toList) = f25_9 F v := by
  intro e1; kernel_rfl
def f25_10 (F : Nat) : (Dk.D) → Rz := fun v => f25_8 F (f25_9 F) v
theorem f25_10_eq (F : Nat) : ∀ v,aexec VG3525 (Af25 F) (bp Try.f25 15) (ef25j3 v) (kFin VG3525 none (Try.f25).results.toList) = f25_10 F v :=
  seq_cut (by kernel_rfl) (by kernel_rfl) ef25j3 ef25j5 _ (fun k => f25_8 F k) (f25_9 F)
    (fun Rf25j5 => f25_8_eq F Rf25j5) (f25_9_eq F)
def f25_11 (F : Nat) : (Dk.D) → Rz := fun v => f25_3 F (f25_10 F) v
theorem f25_11_eq (F : Nat) : ∀ v,aexec VG3525 (Af25 F) (bp Try.f25 7) (ef25j2 v) (kFin VG3525 none (Try.f25).results.toList) = f25_11 F v :=
  seq_cut (by kernel_rfl) (by kernel_rfl) ef25j2 ef25j3 _ (fun k => f25_3 F k) (f25_10 F)
    (fun Rf25j3 => f25_3_eq F Rf25j3) (f25_10_eq F)
def f25_12 (F : Nat) : (Dk.D) → Rz := fun v => f25_2 F (f25_11 F) v
theorem f25_12_eq (F : Nat) : ∀ v,aexec VG3525 (Af25 F) (bp Try.f25 3) (ef25j1 v) (kFin VG3525 none (Try.f25).results.toList) = f25_12 F v :=
  seq_cut (by kernel_rfl) (by kernel_rfl) ef25j1 ef25j2 _ (fun k => f25_2 F k) (f25_11 F)
    (fun Rf25j2 => f25_2_eq F Rf25j2) (f25_11_eq F)
def f25_13 (F : Nat) : Ty0 → Rz := fun v => f25_1 F (f25_12 F) v
theorem f25_13_eq (F : Nat) : ∀ v,aexec VG3525 (Af25 F) (sub (bodyOf Try.f25) []) (ef25_a v) (kFin VG3525 none (Try.f25).results.toList) = f25_13 F v :=
  seq_cut (by kernel_rfl) (by kernel_rfl) ef25_a ef25j1 _ (fun k => f25_1 F k) (f25_12 F)
    (fun Rf25j1 => f25_1_eq F Rf25j1) (f25_12_eq F)
def f25 (F : Nat) : Ty0 → Rz := f25_13 F
theorem f25_body (F : Nat) (a0n : Nat) (a0b : List Int) (a0p : List (List Int × List Int)) (a0w : List (List Int × List Int)) (a0o : Bool) (a0l : Int) : abody VG3525 (Af25 F) Try.f25 [(.ptr 0 0 5 0 0 0 5)] [(.cells 5 (.segs (.cons 1 (.one (.own 1 a0n 64)) (.cons 1 (.one (.mp 2)) (.cons 1 (.one (.mp 3)) (.cons 1 (.one (.bool a0o)) (.cons 1 (.one (.int .i64 a0l)) .nil)))))) true),(.cells a0b.length (.rI .u8 a0b) true),(.cells 0 (.rM .i64 0 (.arr .u8 64) a0p) true),(.cells 0 (.rM .i64 0 .bool a0w) true)] = f25 F (a0n,a0b,a0p,a0w,a0o,a0l) :=
  (abody_in (c := (sub (bodyOf Try.f25) [])) (by kernel_rfl) (s := ef25_a (a0n,a0b,a0p,a0w,a0o,a0l)) (by kernel_rfl)).trans (f25_13_eq F (a0n,a0b,a0p,a0w,a0o,a0l))
def r25 : CRun := fun X H => match X,H with
  | [(.ptr 0 0 5 0 0 0 5)],[(.cells 5 (.segs (.cons 1 (.one (.own 1 a0n 64)) (.cons 1 (.one (.mp 2)) (.cons 1 (.one (.mp 3)) (.cons 1 (.one (.bool a0o)) (.cons 1 (.one (.int .i64 a0l)) .nil)))))) true),(.cells z1 (.rI .u8 a0b) true),(.cells 0 (.rM .i64 0 (.arr .u8 64) a0p) true),(.cells 0 (.rM .i64 0 .bool a0w) true)] => some ((Dk.fine (Dk.D.mk a0n a0b a0p a0w a0o a0l)),(.int .i64 (Dk.flush (Dk.D.mk a0n a0b a0p a0w a0o a0l)).2),[(.cells 5 (.segs (.cons 1 (.one (.own 1 (Dk.flush (Dk.D.mk a0n a0b a0p a0w a0o a0l)).1.n 64)) (.cons 1 (.one (.mp 2)) (.cons 1 (.one (.mp 3)) (.cons 1 (.one (.bool (Dk.flush (Dk.D.mk a0n a0b a0p a0w a0o a0l)).1.off)) (.cons 1 (.one (.int .i64 (Dk.flush (Dk.D.mk a0n a0b a0p a0w a0o a0l)).1.left)) .nil)))))) true),(.cells (Dk.flush (Dk.D.mk a0n a0b a0p a0w a0o a0l)).1.blk.length (.rI .u8 (Dk.flush (Dk.D.mk a0n a0b a0p a0w a0o a0l)).1.blk) true),(.cells 0 (.rM .i64 0 (.arr .u8 64) (Dk.flush (Dk.D.mk a0n a0b a0p a0w a0o a0l)).1.pend) true),(.cells 0 (.rM .i64 0 .bool (Dk.flush (Dk.D.mk a0n a0b a0p a0w a0o a0l)).1.worn) true)])
  | _,_ => none
theorem s25 (a0n : Nat) (a0b : List Int) (a0p : List (List Int × List Int)) (a0w : List (List Int × List Int)) (a0o : Bool) (a0l : Int) (hp : ((Dk.fine (Dk.D.mk a0n a0b a0p a0w a0o a0l))) = true) (k0 : okB (.cells 5 (.segs (.cons 1 (.one (.own 1 a0n 64)) (.cons 1 (.one (.mp 2)) (.cons 1 (.one (.mp 3)) (.cons 1 (.one (.bool a0o)) (.cons 1 (.one (.int .i64 a0l)) .nil)))))) true)) (k1 : okB (.cells a0b.length (.rI .u8 a0b) true)) (k2 : okB (.cells 0 (.rM .i64 0 (.arr .u8 64) a0p) true)) (k3 : okB (.cells 0 (.rM .i64 0 .bool a0w) true)) : ∃ F,f25 F (a0n,a0b,a0p,a0w,a0o,a0l) = some ((.int .i64 (Dk.flush (Dk.D.mk a0n a0b a0p a0w a0o a0l)).2),[(.cells 5 (.segs (.cons 1 (.one (.own 1 (Dk.flush (Dk.D.mk a0n a0b a0p a0w a0o a0l)).1.n 64)) (.cons 1 (.one (.mp 2)) (.cons 1 (.one (.mp 3)) (.cons 1 (.one (.bool (Dk.flush (Dk.D.mk a0n a0b a0p a0w a0o a0l)).1.off)) (.cons 1 (.one (.int .i64 (Dk.flush (Dk.D.mk a0n a0b a0p a0w a0o a0l)).1.left)) .nil)))))) true),(.cells (Dk.flush (Dk.D.mk a0n a0b a0p a0w a0o a0l)).1.blk.length (.rI .u8 (Dk.flush (Dk.D.mk a0n a0b a0p a0w a0o a0l)).1.blk) true),(.cells 0 (.rM .i64 0 (.arr .u8 64) (Dk.flush (Dk.D.mk a0n a0b a0p a0w a0o a0l)).1.pend) true),(.cells 0 (.rM .i64 0 .bool (Dk.flush (Dk.D.mk a0n a0b a0p a0w a0o a0l)).1.worn) true)]) := by
  obtain ⟨⟨hn,hl,hpl,hwl⟩,hin⟩ := Dk.fine_iff hp
  have hok0 : Dk.Ok (Dk.D.mk a0n a0b a0p a0w a0o a0l) := ⟨hl,Dk.vals64 k2⟩
  revert hin hok0 hp
  generalize hd : Dk.D.mk a0n a0b a0p a0w a0o a0l = d
  intro hp hin0 hok0
  have hpl' : d.pend.length < 8000 := by rw [← hd]; exact hpl
  refine ⟨d.pend.length + 1,?_⟩
  simp only [f25,f25_13,f25_1,f25_12,f25_2,f25_11,f25_3,f25_10,f25_8,f25_4,f25_7,f25_6,f25_6_i,hd]
  by_cases hc : Dk.check d 0 = 0
  · have ec : (Dk.check d 0 != 0) = false := by simp [hc]
    simp only [ec,cond_false]
    by_cases hs : (Dk.step d).2 = 0
    · have es : ((Dk.step d).2 != 0) = false := by simp [hs]
      simp only [es,cond_false]
      obtain ⟨s1,s2,s3,s4⟩ := Dk.step_same d
      have hpe : Dk.pending (Dk.step d).1 = Dk.pending d := by simp only [Dk.pending,s3]
      have hin : ∀ i ∈ Dk.pending (Dk.step d).1,Dk.inD (Dk.step d).1 i = true := fun i hi => by rw [Dk.inD_n s1]; exact hin0 i (by rw [← hpe]; exact hi)
      have hok : Dk.Ok (Dk.step d).1 := ⟨by rw [s2,s1]; exact hok0.len,by rw [s3]; exact hok0.vals⟩
      have hlen := Dk.pending_len (Dk.step d).1
      have ef : Dk.flush d = ((Dk.pending (Dk.step d).1).foldl (fun e i => Dk.settle e i 64) (Dk.step d).1,0) := by
        simp only [Dk.flush,ec,es,cond_false,hpe]
      rw [ef]
      have hpl2 : (Dk.step d).1.pend.length < 8000 := by rw [s3]; exact hpl'
      generalize (Dk.step d).1 = e at hin hok hlen s3 hpl2
      rw [cond_pos (show e.pend.length < 1073741824 by omega),← s3]
      refine loopN_from (fun k => (Dk.pending e,((Dk.pending e).length : Int),(k : Int),Dk.flushK (Dk.pending e) k e)) e.pend.length (by rfl) (fun k hk K => ?_) (fun K => ?_) (e.pend.length + 1) (by omega)
      · have hk' : k < (Dk.pending e).length := by omega
        obtain ⟨q1,q2⟩ := Dk.flushK_ok hok hin k (by omega)
        have e1 : (decide (0 ≤ (k : Int)) && decide ((k : Int) < ((Dk.pending e).length : Int))) = true := by rw [dec_and,decide_eq_true_iff]; omega
        have e2 : (Dk.inD (Dk.flushK (Dk.pending e) k e) ((Dk.pending e).getD k 0) && decide ((Dk.flushK (Dk.pending e) k e).blk.length = (Dk.flushK (Dk.pending e) k e).n * 64)) = true := by
          rw [Dk.inD_n q2,hin _ (Dk.mem_at hk')]; simp [q1.len]
        simp only [f25_5,Int.toNat_natCast,e1,e2,cond_true,i64w (show -9223372036854775808 ≤ (k : Int) + 1 by omega) (by omega)]
        rw [cond_pos (show (k : Int) < ((Dk.pending e).length : Int) by omega),Dk.flushK_succ hk']
        rfl
      · simp only [f25_5]
        rw [cond_neg (show ¬ ((e.pend.length : Nat) : Int) < ((Dk.pending e).length : Int) by omega)]
        have e0 : Dk.flushK (Dk.pending e) e.pend.length e = (Dk.pending e).foldl (fun e i => Dk.settle e i 64) e := by rw [← hlen]; simp [Dk.flushK]
        rw [e0]
        rfl
    · have es : ((Dk.step d).2 != 0) = true := by simp [hs]
      have ef : Dk.flush d = Dk.step d := by simp only [Dk.flush,ec,es,cond_false,cond_true]
      simp only [es,cond_true,ef]
  · have ec : (Dk.check d 0 != 0) = true := by simp [hc]
    have ef : Dk.flush d = (d,Dk.check d 0) := by simp only [Dk.flush,ec,cond_true]
    simp only [ec,cond_true,ef]
    subst hd; rfl

theorem c25 : CallOk Try.prog G35 25 r25 := callOk_of (V := VG3525) mixed tys eVG3525 (f := 25) (fn := Try.f25) Try.func25 (by kernel_rfl) (c := sub (bodyOf Try.f25) []) (by kernel_rfl) (by
  intro X H r H' h hX hH
  unfold r25 at h; split at h <;> try contradiction
  · simp only [Option.some.injEq,Prod.mk.injEq] at h
    obtain ⟨hp,rfl,rfl⟩ := h
    obtain rfl := okB_size (hH _ (.tail _ (.head _))) rfl
    obtain ⟨F,hF⟩ := s25 _ _ _ _ _ _ hp (hH _ (.head _)) (hH _ (.tail _ (.head _))) (hH _ (.tail _ (.tail _ (.head _)))) (hH _ (.tail _ (.tail _ (.tail _ (.head _)))))
    exact ⟨Af25 F,(f25_body F _ _ _ _ _ _).trans hF⟩)
def lVG3526 : List CEnt := [(22,[none],r22),(51,[none,none,none],r51)]
def VG3526 : Env := mkEnv T35 G35 lVG3526
theorem eVG3526 : EOk Try.prog VG3526 := eok_mk (by exact ⟨c22,c51,trivial⟩)
def Af26 (F : Nat) : Cuts := { F := F,at_ := fun n => match n with | 1020 => some sp1 | _ => none,join := fun n => match n with | 1022 => some sp1 | 8001 => some [(0,.plain)] | _ => none }
def ef26_a : Ty6 → St := fun (a0n,a0b,a0p,a0w,a0o,a0l,a1) => { tmps := [(0,(.ptr 0 0 5 0 0 0 5)),(1,(.vs (.rI .i64 a1) 0 1))],heap := [(0,(.cells 5 (.segs (.cons 1 (.one (.own 1 a0n 64)) (.cons 1 (.one (.mp 2)) (.cons 1 (.one (.mp 3)) (.cons 1 (.one (.bool a0o)) (.cons 1 (.one (.int .i64 a0l)) .nil)))))) true)),(1,(.cells a0b.length (.rI .u8 a0b) true)),(2,(.cells 0 (.rM .i64 0 (.arr .u8 64) a0p) true)),(3,(.cells 0 (.rM .i64 0 .bool a0w) true))],next := 4,nt := 34,m := 4 }
def ef26j1 : Ty7 → St := fun (t1,t8,t9,t10,e1) => { tmps := [(0,(.ptr 0 0 5 0 0 0 5)),(1,(.vs (.rI .i64 t1) 0 1)),(8,(.vs (.rI .i64 t8) 0 1)),(9,(.int .i64 t9)),(10,(.int .i64 t10))],heap := [(0,(.cells 5 (.segs (.cons 1 (.one (.own 1 e1.n 64)) (.cons 1 (.one (.mp 2)) (.cons 1 (.one (.mp 3)) (.cons 1 (.one (.bool e1.off)) (.cons 1 (.one (.int .i64 e1.left)) .nil)))))) true)),(1,(.cells e1.blk.length (.rI .u8 e1.blk) true)),(2,(.cells 0 (.rM .i64 0 (.arr .u8 64) e1.pend) true)),(3,(.cells 0 (.rM .i64 0 .bool e1.worn) true))],next := 4,nt := 34,m := 4 }
def ef26l1 : Ty7 → St := fun (t1,t8,t9,t10,e1) => { tmps := [(0,(.ptr 0 0 5 0 0 0 5)),(1,(.vs (.rI .i64 t1) 0 1)),(8,(.vs (.rI .i64 t8) 0 1)),(9,(.int .i64 t9)),(10,(.int .i64 t10))],heap := [(0,(.cells 5 (.segs (.cons 1 (.one (.own 1 e1.n 64)) (.cons 1 (.one (.mp 2)) (.cons 1 (.one (.mp 3)) (.cons 1 (.one (.bool e1.off)) (.cons 1 (.one (.int .i64 e1.left)) .nil)))))) true)),(1,(.cells e1.blk.length (.rI .u8 e1.blk) true)),(2,(.cells 0 (.rM .i64 0 (.arr .u8 64) e1.pend) true)),(3,(.cells 0 (.rM .i64 0 .bool e1.worn) true))],next := 4,nt := 34,m := 4 }
def ef26j2 : (Dk.D) → St := fun e1 => { tmps := [(0,(.ptr 0 0 5 0 0 0 5))],heap := [(0,(.cells 5 (.segs (.cons 1 (.one (.own 1 e1.n 64)) (.cons 1 (.one (.mp 2)) (.cons 1 (.one (.mp 3)) (.cons 1 (.one (.bool e1.off)) (.cons 1 (.one (.int .i64 e1.left)) .nil)))))) true)),(1,(.cells e1.blk.length (.rI .u8 e1.blk) true)),(2,(.cells 0 (.rM .i64 0 (.arr .u8 64) e1.pend) true)),(3,(.cells 0 (.rM .i64 0 .bool e1.worn) true))],next := 4,nt := 34,m := 4 }
def f26_1 (F : Nat) (kf26j1 : Ty7 → Rz) (kf26j2 : (Dk.D) → Rz) : Ty6 → Rz := fun (a0n,a0b,a0p,a0w,a0o,a0l,a1) => (cond (decide ((Dk.D.mk a0n a0b a0p a0w a0o a0l).pend.length < 1073741824)) (kf26j1 (a1,(Dk.pending (Dk.D.mk a0n a0b a0p a0w a0o a0l)),(↑(Dk.pending (Dk.D.mk a0n a0b a0p a0w a0o a0l)).length : Int),(0 : Int),(Dk.D.mk a0n a0b a0p a0w a0o a0l))) none)
theorem f26_1_eq (F : Nat) (Rf26j1 : St → Rz) (Rf26j2 : St → Rz) : ∀ v,aexec VG3526 (Af26 F) (bp Try.f26 4) (ef26_a v) (kSeq (kc VG3526 Rf26j1 sp1) (kSeq (kc VG3526 Rf26j2 [(0,.plain)]) (kFin VG3526 none (Try.f26).results.toList))) = f26_1 F (Rf26j1 ∘ ef26j1) (Rf26j2 ∘ ef26j2) v := by
  rintro ⟨a0n,a0b,a0p,a0w,a0o,a0l,a1⟩; kernel_rfl
def f26_2 (F : Nat) (kf26l1 : Ty7 → Rz) (kf26j2 : (Dk.D) → Rz) : Ty7 → Rz := fun (t1,t8,t9,t10,e1) => (cond (decide (t10 < t9)) (cond ((decide (0 ≤ t10)) && (decide (t10 < (↑t8.length : Int)))) (cond (decide (t10 < (↑t1.length : Int))) (cond ((decide (0 ≤ t10)) && (decide (t10 < (↑t1.length : Int)))) (cond ((Dk.inD e1 (t8.getD (Int.toNat t10) 0)) && (decide (e1.blk.length = e1.n * 64))) (kf26l1 (t1,t8,t9,(IntKind.i64.wrap (t10 + (1 : Int))),(Dk.settle e1 (t8.getD (Int.toNat t10) 0) (t1.getD (Int.toNat t10) 0)))) none) none) (cond ((Dk.inD e1 (t8.getD (Int.toNat t10) 0)) && (decide (e1.blk.length = e1.n * 64))) (kf26l1 (t1,t8,t9,(IntKind.i64.wrap (t10 + (1 : Int))),(Dk.settle e1 (t8.getD (Int.toNat t10) 0) (64 : Int)))) none)) none) (kf26j2 e1))
theorem f26_2_eq (F : Nat) (Rf26l1 : St → Rz) (Rf26j2 : St → Rz) : ∀ v,aexec VG3526 (Af26 F) (bp Try.f26 20) (ef26l1 v) (kSeq (kc VG3526 Rf26l1 sp1) (kBlock 0 (kSeq (kc VG3526 Rf26j2 [(0,.plain)]) (kFin VG3526 none (Try.f26).results.toList)))) = f26_2 F (Rf26l1 ∘ ef26l1) (Rf26j2 ∘ ef26j2) v := by
  rintro ⟨t1,t8,t9,t10,e1⟩; kernel_rfl
def f26_3_i : Ty7 → (List Int) × (List Int) × Int × Int × (Dk.D) := fun (t1,t8,t9,t10,e1) => (t1,t8,t9,t10,e1)
def f26_3 (F : Nat) (kf26j2 : (Dk.D) → Rz) : Ty7 → Rz := fun v => loopN (fun k => f26_2 F k kf26j2) F (f26_3_i v)
theorem f26_3_eq (F : Nat) (Rf26j2 : St → Rz) : ∀ v,aexec VG3526 (Af26 F) (bp Try.f26 10) (ef26j1 v) (kBlock 0 (kSeq (kc VG3526 Rf26j2 [(0,.plain)]) (kFin VG3526 none (Try.f26).results.toList))) = f26_3 F (Rf26j2 ∘ ef26j2) v :=
  loop_cut (by kernel_rfl) (by kernel_rfl) ef26j1 ef26l1 _ f26_3_i (fun k => f26_2 F k (Rf26j2 ∘ ef26j2))
    (by rintro ⟨t1,t8,t9,t10,e1⟩; kernel_rfl) (fun Rf26l1 => f26_2_eq F Rf26l1 Rf26j2)
def f26_4 (F : Nat) (kf26j2 : (Dk.D) → Rz) : Ty7 → Rz := f26_3 F kf26j2
theorem f26_4_eq (F : Nat) (Rf26j2 : St → Rz) : ∀ v,aexec VG3526 (Af26 F) (bp Try.f26 5) (ef26j1 v) (kSeq (kc VG3526 Rf26j2 [(0,.plain)]) (kFin VG3526 none (Try.f26).results.toList)) = f26_4 F (Rf26j2 ∘ ef26j2) v := fun v =>
  (block_in  (by kernel_rfl) _ _).trans (f26_3_eq F Rf26j2 v)
def f26_5 (F : Nat) (kf26j2 : (Dk.D) → Rz) : Ty6 → Rz := fun v => f26_1 F (f26_4 F kf26j2) kf26j2 v
theorem f26_5_eq (F : Nat) (Rf26j2 : St → Rz) : ∀ v,aexec VG3526 (Af26 F) (bp Try.f26 2) (ef26_a v) (kSeq (kc VG3526 Rf26j2 [(0,.plain)]) (kFin VG3526 none (Try.f26).results.toList)) = f26_5 F (Rf26j2 ∘ ef26j2) v :=
  seq_cut (by kernel_rfl) (by kernel_rfl) ef26_a ef26j1 _ (fun k => f26_1 F k (Rf26j2 ∘ ef26j2)) (f26_4 F (Rf26j2 ∘ ef26j2))
    (fun Rf26j1 => f26_1_eq F Rf26j1 Rf26j2) (f26_4_eq F Rf26j2)
def f26_6 (F : Nat) : (Dk.D) → Rz := fun e1 => (some ((.tup .nil),[(.cells 5 (.segs (.cons 1 (.one (.own 1 e1.n 64)) (.cons 1 (.one (.mp 2)) (.cons 1 (.one (.mp 3)) (.cons 1 (.one (.bool false)) (.cons 1 (.one (.int .i64 (-1 : Int))) .nil)))))) true),(.cells e1.blk.length (.rI .u8 e1.blk) true),(.cells 0 (.rM .i64 0 (.arr .u8 64) e1.pend) true),(.cells 0 (.rM .i64 0 .bool e1.worn) true)]))
theorem f26_6_eq (F : Nat) : ∀ v,aexec VG3526 (Af26 F) (bp Try.f26 3) (ef26j2 v) (kFin VG3526 none (Try.f26).results.toList) = f26_6 F v := by
  intro e1; kernel_rfl
def f26_7 (F : Nat) : Ty6 → Rz := fun v => f26_5 F (f26_6 F) v
theorem f26_7_eq (F : Nat) : ∀ v,aexec VG3526 (Af26 F) (sub (bodyOf Try.f26) []) (ef26_a v) (kFin VG3526 none (Try.f26).results.toList) = f26_7 F v :=
  seq_cut (by kernel_rfl) (by kernel_rfl) ef26_a ef26j2 _ (fun k => f26_5 F k) (f26_6 F)
    (fun Rf26j2 => f26_5_eq F Rf26j2) (f26_6_eq F)
def f26 (F : Nat) : Ty6 → Rz := f26_7 F
theorem f26_body (F : Nat) (a0n : Nat) (a0b : List Int) (a0p : List (List Int × List Int)) (a0w : List (List Int × List Int)) (a0o : Bool) (a0l : Int) (a1 : List Int) : abody VG3526 (Af26 F) Try.f26 [(.ptr 0 0 5 0 0 0 5),(.vs (.rI .i64 a1) 0 1)] [(.cells 5 (.segs (.cons 1 (.one (.own 1 a0n 64)) (.cons 1 (.one (.mp 2)) (.cons 1 (.one (.mp 3)) (.cons 1 (.one (.bool a0o)) (.cons 1 (.one (.int .i64 a0l)) .nil)))))) true),(.cells a0b.length (.rI .u8 a0b) true),(.cells 0 (.rM .i64 0 (.arr .u8 64) a0p) true),(.cells 0 (.rM .i64 0 .bool a0w) true)] = f26 F (a0n,a0b,a0p,a0w,a0o,a0l,a1) :=
  (abody_in (c := (sub (bodyOf Try.f26) [])) (by kernel_rfl) (s := ef26_a (a0n,a0b,a0p,a0w,a0o,a0l,a1)) (by kernel_rfl)).trans (f26_7_eq F (a0n,a0b,a0p,a0w,a0o,a0l,a1))
def r26 : CRun := fun X H => match X,H with
  | [(.ptr 0 0 5 0 0 0 5),(.vs (.rI .i64 a1) 0 1)],[(.cells 5 (.segs (.cons 1 (.one (.own 1 a0n 64)) (.cons 1 (.one (.mp 2)) (.cons 1 (.one (.mp 3)) (.cons 1 (.one (.bool a0o)) (.cons 1 (.one (.int .i64 a0l)) .nil)))))) true),(.cells z1 (.rI .u8 a0b) true),(.cells 0 (.rM .i64 0 (.arr .u8 64) a0p) true),(.cells 0 (.rM .i64 0 .bool a0w) true)] => some ((Dk.fine (Dk.D.mk a0n a0b a0p a0w a0o a0l)),(.tup .nil),[(.cells 5 (.segs (.cons 1 (.one (.own 1 (Dk.mount (Dk.D.mk a0n a0b a0p a0w a0o a0l) a1).n 64)) (.cons 1 (.one (.mp 2)) (.cons 1 (.one (.mp 3)) (.cons 1 (.one (.bool (Dk.mount (Dk.D.mk a0n a0b a0p a0w a0o a0l) a1).off)) (.cons 1 (.one (.int .i64 (Dk.mount (Dk.D.mk a0n a0b a0p a0w a0o a0l) a1).left)) .nil)))))) true),(.cells (Dk.mount (Dk.D.mk a0n a0b a0p a0w a0o a0l) a1).blk.length (.rI .u8 (Dk.mount (Dk.D.mk a0n a0b a0p a0w a0o a0l) a1).blk) true),(.cells 0 (.rM .i64 0 (.arr .u8 64) (Dk.mount (Dk.D.mk a0n a0b a0p a0w a0o a0l) a1).pend) true),(.cells 0 (.rM .i64 0 .bool (Dk.mount (Dk.D.mk a0n a0b a0p a0w a0o a0l) a1).worn) true)])
  | _,_ => none
theorem s26 (a0n : Nat) (a0b : List Int) (a0p : List (List Int × List Int)) (a0w : List (List Int × List Int)) (a0o : Bool) (a0l : Int) (a1 : List Int) (hp : ((Dk.fine (Dk.D.mk a0n a0b a0p a0w a0o a0l))) = true) (h1 : okV (.vs (.rI .i64 a1) 0 1)) (k0 : okB (.cells 5 (.segs (.cons 1 (.one (.own 1 a0n 64)) (.cons 1 (.one (.mp 2)) (.cons 1 (.one (.mp 3)) (.cons 1 (.one (.bool a0o)) (.cons 1 (.one (.int .i64 a0l)) .nil)))))) true)) (k1 : okB (.cells a0b.length (.rI .u8 a0b) true)) (k2 : okB (.cells 0 (.rM .i64 0 (.arr .u8 64) a0p) true)) (k3 : okB (.cells 0 (.rM .i64 0 .bool a0w) true)) : ∃ F,f26 F (a0n,a0b,a0p,a0w,a0o,a0l,a1) = some ((.tup .nil),[(.cells 5 (.segs (.cons 1 (.one (.own 1 (Dk.mount (Dk.D.mk a0n a0b a0p a0w a0o a0l) a1).n 64)) (.cons 1 (.one (.mp 2)) (.cons 1 (.one (.mp 3)) (.cons 1 (.one (.bool (Dk.mount (Dk.D.mk a0n a0b a0p a0w a0o a0l) a1).off)) (.cons 1 (.one (.int .i64 (Dk.mount (Dk.D.mk a0n a0b a0p a0w a0o a0l) a1).left)) .nil)))))) true),(.cells (Dk.mount (Dk.D.mk a0n a0b a0p a0w a0o a0l) a1).blk.length (.rI .u8 (Dk.mount (Dk.D.mk a0n a0b a0p a0w a0o a0l) a1).blk) true),(.cells 0 (.rM .i64 0 (.arr .u8 64) (Dk.mount (Dk.D.mk a0n a0b a0p a0w a0o a0l) a1).pend) true),(.cells 0 (.rM .i64 0 .bool (Dk.mount (Dk.D.mk a0n a0b a0p a0w a0o a0l) a1).worn) true)]) := by
  obtain ⟨⟨hn,hl,hpl,hwl⟩,hin⟩ := Dk.fine_iff hp
  have hok : Dk.Ok (Dk.D.mk a0n a0b a0p a0w a0o a0l) := ⟨hl,Dk.vals64 k2⟩
  have hlen := Dk.pending_len (Dk.D.mk a0n a0b a0p a0w a0o a0l)
  revert hin hok hlen hp
  generalize hd : Dk.D.mk a0n a0b a0p a0w a0o a0l = d
  intro hp hin hok hlen
  have hpl' : d.pend.length < 8000 := by rw [← hd]; exact hpl
  refine ⟨d.pend.length + 1,?_⟩
  simp only [f26,f26_7,f26_5,f26_1,f26_4,f26_3,f26_3_i,hd]
  have hpl2 : a0p.length < 8000 := hpl
  rw [cond_pos (show a0p.length < 1073741824 by omega)]
  refine loopN_from (fun k => (a1,Dk.pending d,((Dk.pending d).length : Int),(k : Int),Dk.mountK a1 (Dk.pending d) k d)) d.pend.length (by rfl) (fun k hk K => ?_) (fun K => ?_) (d.pend.length + 1) (by omega)
  · have hk' : k < (Dk.pending d).length := by omega
    obtain ⟨q1,q2⟩ := Dk.mountK_ok (picks := a1) hok hin k (by omega)
    have e1 : (decide (0 ≤ (k : Int)) && decide ((k : Int) < ((Dk.pending d).length : Int))) = true := by rw [dec_and,decide_eq_true_iff]; omega
    have e2 : (Dk.inD (Dk.mountK a1 (Dk.pending d) k d) ((Dk.pending d).getD k 0) && decide ((Dk.mountK a1 (Dk.pending d) k d).blk.length = (Dk.mountK a1 (Dk.pending d) k d).n * 64)) = true := by
      rw [Dk.inD_n q2,hin _ (Dk.mem_at hk')]; simp [q1.len]
    simp only [f26_2,Int.toNat_natCast,e1,e2,cond_true,i64w (show -9223372036854775808 ≤ (k : Int) + 1 by omega) (by omega)]
    rw [cond_pos (show (k : Int) < ((Dk.pending d).length : Int) by omega),Dk.mountK_succ hk']
    by_cases hq : k < a1.length
    · have e3 : (decide (0 ≤ (k : Int)) && decide ((k : Int) < (a1.length : Int))) = true := by rw [dec_and,decide_eq_true_iff]; omega
      rw [cond_pos (show (k : Int) < (a1.length : Int) by omega),e3,Dk.getD_in hq 0 64]
      rfl
    · rw [cond_neg (show ¬ (k : Int) < (a1.length : Int) by omega),Dk.getD_far (by omega) 64]
      rfl
  · simp only [f26_2]
    rw [cond_neg (show ¬ ((d.pend.length : Nat) : Int) < ((Dk.pending d).length : Int) by omega)]
    obtain ⟨q1,q2⟩ := Dk.mountK_ok (picks := a1) hok hin _ (Nat.le_refl _)
    have e0 : Dk.mountK a1 (Dk.pending d) d.pend.length d = Dk.mountAll a1 (Dk.pending d) 0 d := by rw [← hlen]; exact Dk.mountK_all a1 d
    rw [Dk.mountK_all] at q1
    rw [e0]
    simp only [f26_6,Dk.mount,q1.len]

theorem c26 : CallOk Try.prog G35 26 r26 := callOk_of (V := VG3526) mixed tys eVG3526 (f := 26) (fn := Try.f26) Try.func26 (by kernel_rfl) (c := sub (bodyOf Try.f26) []) (by kernel_rfl) (by
  intro X H r H' h hX hH
  unfold r26 at h; split at h <;> try contradiction
  · simp only [Option.some.injEq,Prod.mk.injEq] at h
    obtain ⟨hp,rfl,rfl⟩ := h
    obtain rfl := okB_size (hH _ (.tail _ (.head _))) rfl
    obtain ⟨F,hF⟩ := s26 _ _ _ _ _ _ _ hp (hX _ (.tail _ (.head _))) (hH _ (.head _)) (hH _ (.tail _ (.head _))) (hH _ (.tail _ (.tail _ (.head _)))) (hH _ (.tail _ (.tail _ (.tail _ (.head _)))))
    exact ⟨Af26 F,(f26_body F _ _ _ _ _ _ _).trans hF⟩)
end Go.Am
