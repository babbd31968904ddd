/- Part of a proof about the functions of the given program. -/
import Derived.Test.YtnbgphghghmemaaAmSeat
import Derived.Test.YtnbgphghghmemaaAmDisk
import Derived.Test.YtnbgphghghmemaaAm35Z
set_option linter.unusedVariables false
set_option linter.unusedSimpArgs false
namespace Go.Am
open Go Go.Proofs Go.Shelf
abbrev Ty0 := Nat × (List Int) × (List (List Int × List Int)) × (List (List Int × List Int)) × Bool × Int
abbrev Ty1 := Nat × (List Int) × (List (List Int × List Int)) × (List (List Int × List Int)) × Bool × Int × Int
abbrev Ty2 := (List (List Int × List Int))
abbrev Ty3 := Nat × (List Int) × (List (List Int × List Int)) × (List (List Int × List Int)) × Bool × Int × Int × (List Int)
abbrev Ty4 := Nat × (List Int) × (List (List Int × List Int)) × (List (List Int × List Int)) × Bool × Int × Int × Int
def T35 : Tys := [⟨.other,1,0⟩,⟨.other,1,8⟩,⟨.int .i64,1,8⟩,⟨.int .i64,1,8⟩,⟨.bool,1,1⟩,⟨.int .u8,1,1⟩,⟨.int .u8,1,1⟩,⟨.struct [(2,0),(3,1),(4,2),(6,3)],4,24⟩,⟨.struct [(2,0),(3,1),(4,2),(6,3)],4,24⟩,⟨.str,1,16⟩,⟨.str,1,16⟩,⟨.str,1,16⟩,⟨.int .u64,1,8⟩,⟨.other,0,0⟩,⟨.other,0,0⟩,⟨.ptr 115,1,8⟩,⟨.ptr 118,1,8⟩,⟨.ptr 126,1,8⟩,⟨.other,0,0⟩,⟨.other,0,0⟩,⟨.other,1,16⟩,⟨.int .i32,1,4⟩,⟨.slice 33,1,24⟩,⟨.other,1,8⟩,⟨.ptr 71,1,8⟩,⟨.ptr 57,1,8⟩,⟨.other,1,0⟩,⟨.other,1,8⟩,⟨.int .i64,1,8⟩,⟨.other,1,0⟩,⟨.other,1,8⟩,⟨.slice 3,1,24⟩,⟨.struct [(3,0),(3,1),(3,2),(9,3),(31,4)],5,64⟩,⟨.struct [(3,0),(3,1),(3,2),(9,3),(31,4)],5,64⟩,⟨.other,1,8⟩,⟨.other,1,8⟩,⟨.other,1,8⟩,⟨.other,1,0⟩,⟨.other,1,8⟩,⟨.slice 9,1,24⟩,⟨.other,1,8⟩,⟨.other,1,8⟩,⟨.other,1,8⟩,⟨.other,1,8⟩,⟨.other,1,8⟩,⟨.other,1,8⟩,⟨.other,1,8⟩,⟨.other,1,8⟩,⟨.other,1,8⟩,⟨.other,1,8⟩,⟨.other,1,8⟩,⟨.other,1,8⟩,⟨.other,1,8⟩,⟨.struct [(9,0),(9,1),(4,2),(4,3)],4,40⟩,⟨.struct [(9,0),(9,1),(4,2),(4,3)],4,40⟩,⟨.slice 54,1,24⟩,⟨.struct [(55,0),(4,1),(3,2)],3,40⟩,⟨.struct [(55,0),(4,1),(3,2)],3,40⟩,⟨.other,1,8⟩,⟨.other,1,8⟩,⟨.other,1,8⟩,⟨.other,1,8⟩,⟨.other,1,8⟩,⟨.other,1,8⟩,⟨.other,1,0⟩,⟨.other,1,8⟩,⟨.other,1,8⟩,⟨.slice 74,1,24⟩,⟨.map 3 74,1,8⟩,⟨.map 3 4,1,8⟩,⟨.struct [(67,0),(68,1),(69,2),(4,3),(3,4)],5,56⟩,⟨.struct [(67,0),(68,1),(69,2),(4,3),(3,4)],5,56⟩,⟨.slice 5,1,24⟩,⟨.arr 64 5,64,64⟩,⟨.arr 64 5,64,64⟩,⟨.other,1,0⟩,⟨.other,1,8⟩,⟨.other,1,8⟩,⟨.other,1,8⟩,⟨.other,1,8⟩,⟨.other,1,8⟩,⟨.other,1,8⟩,⟨.other,1,8⟩,⟨.other,1,8⟩,⟨.other,1,8⟩,⟨.other,1,8⟩,⟨.other,1,8⟩,⟨.other,1,8⟩,⟨.other,1,8⟩,⟨.other,1,8⟩,⟨.int .u64,1,8⟩,⟨.other,1,8⟩,⟨.int .i64,1,8⟩,⟨.other,1,0⟩,⟨.other,1,8⟩,⟨.other,1,8⟩,⟨.other,1,8⟩,⟨.other,1,8⟩,⟨.other,1,0⟩,⟨.other,1,8⟩,⟨.other,1,8⟩,⟨.int .u32,1,4⟩,⟨.other,1,8⟩,⟨.int .u64,1,8⟩,⟨.int .u64,1,8⟩,⟨.other,1,8⟩,⟨.other,1,8⟩,⟨.other,1,8⟩,⟨.ptr 3,1,8⟩,⟨.other,1,8⟩,⟨.ptr 104,1,8⟩,⟨.other,1,0⟩,⟨.other,1,8⟩,⟨.other,1,8⟩,⟨.other,0,0⟩,⟨.other,0,0⟩,⟨.arr 0 16,0,0⟩,⟨.other,0,0⟩,⟨.other,0,0⟩,⟨.int .u8,1,1⟩,⟨.int .u8,1,1⟩,⟨.other,1,8⟩,⟨.ptr 5,1,8⟩,⟨.int .i32,1,4⟩,⟨.int .i32,1,4⟩,⟨.other,0,0⟩,⟨.other,0,0⟩,⟨.other,1,8⟩]
def G35 : Nat → Option AV := fun _ => none
theorem mixed : Try.prog.follows .mixedOrders = true := by kernel_rfl
theorem tys : TysOk Try.prog T35 := tysB_ok (by kernel_rfl)

def lVG3531 : List CEnt := []
def VG3531 : Env := mkEnv T35 G35 lVG3531
theorem eVG3531 : EOk Try.prog VG3531 := eok_mk (by exact trivial)
def Af31 (F : Nat) : Cuts := { F := F,at_ := fun _ => none,join := fun _ => none }
def ef31_a : Ty0 → St := fun (a0n,a0b,a0p,a0w,a0o,a0l) => { tmps := [(0,(.ptr 0 0 5 0 0 0 5))],heap := [(0,(.cells 5 (.segs (.cons 1 (.one (.own 1 a0n 64)) (.cons 1 (.one (.mp 2)) (.cons 1 (.one (.mp 3)) (.cons 1 (.one (.bool a0o)) (.cons 1 (.one (.int .i64 a0l)) .nil)))))) true)),(1,(.cells a0b.length (.rI .u8 a0b) true)),(2,(.cells 0 (.rM .i64 0 (.arr .u8 64) a0p) true)),(3,(.cells 0 (.rM .i64 0 .bool a0w) true))],next := 4,nt := 8,m := 4 }
def f31_1 (F : Nat) : Ty0 → Rz := fun (a0n,a0b,a0p,a0w,a0o,a0l) => (some ((.int .i64 (↑a0n : Int)),[(.cells 5 (.segs (.cons 1 (.one (.own 1 a0n 64)) (.cons 1 (.one (.mp 2)) (.cons 1 (.one (.mp 3)) (.cons 1 (.one (.bool a0o)) (.cons 1 (.one (.int .i64 a0l)) .nil)))))) true),(.cells a0b.length (.rI .u8 a0b) true),(.cells 0 (.rM .i64 0 (.arr .u8 64) a0p) true),(.cells 0 (.rM .i64 0 .bool a0w) true)]))
theorem f31_1_eq (F : Nat) : ∀ v,aexec VG3531 (Af31 F) (sub (bodyOf Try.f31) []) (ef31_a v) (kFin VG3531 none (Try.f31).results.toList) = f31_1 F v := by
  rintro ⟨a0n,a0b,a0p,a0w,a0o,a0l⟩; kernel_rfl
def f31 (F : Nat) : Ty0 → Rz := f31_1 F
theorem f31_body (F : Nat) (a0n : Nat) (a0b : List Int) (a0p : List (List Int × List Int)) (a0w : List (List Int × List Int)) (a0o : Bool) (a0l : Int) : abody VG3531 (Af31 F) Try.f31 [(.ptr 0 0 5 0 0 0 5)] [(.cells 5 (.segs (.cons 1 (.one (.own 1 a0n 64)) (.cons 1 (.one (.mp 2)) (.cons 1 (.one (.mp 3)) (.cons 1 (.one (.bool a0o)) (.cons 1 (.one (.int .i64 a0l)) .nil)))))) true),(.cells a0b.length (.rI .u8 a0b) true),(.cells 0 (.rM .i64 0 (.arr .u8 64) a0p) true),(.cells 0 (.rM .i64 0 .bool a0w) true)] = f31 F (a0n,a0b,a0p,a0w,a0o,a0l) :=
  (abody_in (c := (sub (bodyOf Try.f31) [])) (by kernel_rfl) (s := ef31_a (a0n,a0b,a0p,a0w,a0o,a0l)) (by kernel_rfl)).trans (f31_1_eq F (a0n,a0b,a0p,a0w,a0o,a0l))
def r31 : CRun := fun X H => match X,H with
  | [(.ptr 0 0 5 0 0 0 5)],[(.cells 5 (.segs (.cons 1 (.one (.own 1 a0n 64)) (.cons 1 (.one (.mp 2)) (.cons 1 (.one (.mp 3)) (.cons 1 (.one (.bool a0o)) (.cons 1 (.one (.int .i64 a0l)) .nil)))))) true),(.cells z1 (.rI .u8 a0b) true),(.cells 0 (.rM .i64 0 (.arr .u8 64) a0p) true),(.cells 0 (.rM .i64 0 .bool a0w) true)] => some (true,(.int .i64 ((Dk.D.mk a0n a0b a0p a0w a0o a0l).n : Int)),[(.cells 5 (.segs (.cons 1 (.one (.own 1 (Dk.D.mk a0n a0b a0p a0w a0o a0l).n 64)) (.cons 1 (.one (.mp 2)) (.cons 1 (.one (.mp 3)) (.cons 1 (.one (.bool (Dk.D.mk a0n a0b a0p a0w a0o a0l).off)) (.cons 1 (.one (.int .i64 (Dk.D.mk a0n a0b a0p a0w a0o a0l).left)) .nil)))))) true),(.cells (Dk.D.mk a0n a0b a0p a0w a0o a0l).blk.length (.rI .u8 (Dk.D.mk a0n a0b a0p a0w a0o a0l).blk) true),(.cells 0 (.rM .i64 0 (.arr .u8 64) (Dk.D.mk a0n a0b a0p a0w a0o a0l).pend) true),(.cells 0 (.rM .i64 0 .bool (Dk.D.mk a0n a0b a0p a0w a0o a0l).worn) true)])
  | _,_ => none
theorem s31 (a0n : Nat) (a0b : List Int) (a0p : List (List Int × List Int)) (a0w : List (List Int × List Int)) (a0o : Bool) (a0l : Int) (k0 : okB (.cells 5 (.segs (.cons 1 (.one (.own 1 a0n 64)) (.cons 1 (.one (.mp 2)) (.cons 1 (.one (.mp 3)) (.cons 1 (.one (.bool a0o)) (.cons 1 (.one (.int .i64 a0l)) .nil)))))) true)) (k1 : okB (.cells a0b.length (.rI .u8 a0b) true)) (k2 : okB (.cells 0 (.rM .i64 0 (.arr .u8 64) a0p) true)) (k3 : okB (.cells 0 (.rM .i64 0 .bool a0w) true)) : ∃ F,f31 F (a0n,a0b,a0p,a0w,a0o,a0l) = some ((.int .i64 ((Dk.D.mk a0n a0b a0p a0w a0o a0l).n : Int)),[(.cells 5 (.segs (.cons 1 (.one (.own 1 (Dk.D.mk a0n a0b a0p a0w a0o a0l).n 64)) (.cons 1 (.one (.mp 2)) (.cons 1 (.one (.mp 3)) (.cons 1 (.one (.bool (Dk.D.mk a0n a0b a0p a0w a0o a0l).off)) (.cons 1 (.one (.int .i64 (Dk.D.mk a0n a0b a0p a0w a0o a0l).left)) .nil)))))) true),(.cells (Dk.D.mk a0n a0b a0p a0w a0o a0l).blk.length (.rI .u8 (Dk.D.mk a0n a0b a0p a0w a0o a0l).blk) true),(.cells 0 (.rM .i64 0 (.arr .u8 64) (Dk.D.mk a0n a0b a0p a0w a0o a0l).pend) true),(.cells 0 (.rM .i64 0 .bool (Dk.D.mk a0n a0b a0p a0w a0o a0l).worn) true)]) := by exact ⟨0,rfl⟩

theorem c31 : CallOk Try.prog G35 31 r31 := callOk_of (V := VG3531) mixed tys eVG3531 (f := 31) (fn := Try.f31) Try.func31 (by kernel_rfl) (c := sub (bodyOf Try.f31) []) (by kernel_rfl) (by
  intro X H r H' h hX hH
  unfold r31 at h; split at h <;> try contradiction
  · simp only [Option.some.injEq,Prod.mk.injEq] at h
    obtain ⟨hp,rfl,rfl⟩ := h
    obtain rfl := okB_size (hH _ (.tail _ (.head _))) rfl
    obtain ⟨F,hF⟩ := s31 _ _ _ _ _ _ (hH _ (.head _)) (hH _ (.tail _ (.head _))) (hH _ (.tail _ (.tail _ (.head _)))) (hH _ (.tail _ (.tail _ (.tail _ (.head _)))))
    exact ⟨Af31 F,(f31_body F _ _ _ _ _ _).trans hF⟩)
def lVG3527 : List CEnt := []
def VG3527 : Env := mkEnv T35 G35 lVG3527
theorem eVG3527 : EOk Try.prog VG3527 := eok_mk (by exact trivial)
def Af27 (F : Nat) : Cuts := { F := F,at_ := fun _ => none,join := fun _ => none }
def ef27_a : Ty0 → St := fun (a0n,a0b,a0p,a0w,a0o,a0l) => { tmps := [(0,(.ptr 0 0 5 0 0 0 5))],heap := [(0,(.cells 5 (.segs (.cons 1 (.one (.own 1 a0n 64)) (.cons 1 (.one (.mp 2)) (.cons 1 (.one (.mp 3)) (.cons 1 (.one (.bool a0o)) (.cons 1 (.one (.int .i64 a0l)) .nil)))))) true)),(1,(.cells a0b.length (.rI .u8 a0b) true)),(2,(.cells 0 (.rM .i64 0 (.arr .u8 64) a0p) true)),(3,(.cells 0 (.rM .i64 0 .bool a0w) true))],next := 4,nt := 8,m := 4 }
def f27_1 (F : Nat) : Ty0 → Rz := fun (a0n,a0b,a0p,a0w,a0o,a0l) => (some ((.bool (!a0o)),[(.cells 5 (.segs (.cons 1 (.one (.own 1 a0n 64)) (.cons 1 (.one (.mp 2)) (.cons 1 (.one (.mp 3)) (.cons 1 (.one (.bool a0o)) (.cons 1 (.one (.int .i64 a0l)) .nil)))))) true),(.cells a0b.length (.rI .u8 a0b) true),(.cells 0 (.rM .i64 0 (.arr .u8 64) a0p) true),(.cells 0 (.rM .i64 0 .bool a0w) true)]))
theorem f27_1_eq (F : Nat) : ∀ v,aexec VG3527 (Af27 F) (sub (bodyOf Try.f27) []) (ef27_a v) (kFin VG3527 none (Try.f27).results.toList) = f27_1 F v := by
  rintro ⟨a0n,a0b,a0p,a0w,a0o,a0l⟩; kernel_rfl
def f27 (F : Nat) : Ty0 → Rz := f27_1 F
theorem f27_body (F : Nat) (a0n : Nat) (a0b : List Int) (a0p : List (List Int × List Int)) (a0w : List (List Int × List Int)) (a0o : Bool) (a0l : Int) : abody VG3527 (Af27 F) Try.f27 [(.ptr 0 0 5 0 0 0 5)] [(.cells 5 (.segs (.cons 1 (.one (.own 1 a0n 64)) (.cons 1 (.one (.mp 2)) (.cons 1 (.one (.mp 3)) (.cons 1 (.one (.bool a0o)) (.cons 1 (.one (.int .i64 a0l)) .nil)))))) true),(.cells a0b.length (.rI .u8 a0b) true),(.cells 0 (.rM .i64 0 (.arr .u8 64) a0p) true),(.cells 0 (.rM .i64 0 .bool a0w) true)] = f27 F (a0n,a0b,a0p,a0w,a0o,a0l) :=
  (abody_in (c := (sub (bodyOf Try.f27) [])) (by kernel_rfl) (s := ef27_a (a0n,a0b,a0p,a0w,a0o,a0l)) (by kernel_rfl)).trans (f27_1_eq F (a0n,a0b,a0p,a0w,a0o,a0l))
def r27 : CRun := fun X H => match X,H with
  | [(.ptr 0 0 5 0 0 0 5)],[(.cells 5 (.segs (.cons 1 (.one (.own 1 a0n 64)) (.cons 1 (.one (.mp 2)) (.cons 1 (.one (.mp 3)) (.cons 1 (.one (.bool a0o)) (.cons 1 (.one (.int .i64 a0l)) .nil)))))) true),(.cells z1 (.rI .u8 a0b) true),(.cells 0 (.rM .i64 0 (.arr .u8 64) a0p) true),(.cells 0 (.rM .i64 0 .bool a0w) true)] => some (true,(.bool (!(Dk.D.mk a0n a0b a0p a0w a0o a0l).off)),[(.cells 5 (.segs (.cons 1 (.one (.own 1 (Dk.D.mk a0n a0b a0p a0w a0o a0l).n 64)) (.cons 1 (.one (.mp 2)) (.cons 1 (.one (.mp 3)) (.cons 1 (.one (.bool (Dk.D.mk a0n a0b a0p a0w a0o a0l).off)) (.cons 1 (.one (.int .i64 (Dk.D.mk a0n a0b a0p a0w a0o a0l).left)) .nil)))))) true),(.cells (Dk.D.mk a0n a0b a0p a0w a0o a0l).blk.length (.rI .u8 (Dk.D.mk a0n a0b a0p a0w a0o a0l).blk) true),(.cells 0 (.rM .i64 0 (.arr .u8 64) (Dk.D.mk a0n a0b a0p a0w a0o a0l).pend) true),(.cells 0 (.rM .i64 0 .bool (Dk.D.mk a0n a0b a0p a0w a0o a0l).worn) true)])
  | _,_ => none
theorem s27 (a0n : Nat) (a0b : List Int) (a0p : List (List Int × List Int)) (a0w : List (List Int × List Int)) (a0o : Bool) (a0l : Int) (k0 : okB (.cells 5 (.segs (.cons 1 (.one (.own 1 a0n 64)) (.cons 1 (.one (.mp 2)) (.cons 1 (.one (.mp 3)) (.cons 1 (.one (.bool a0o)) (.cons 1 (.one (.int .i64 a0l)) .nil)))))) true)) (k1 : okB (.cells a0b.length (.rI .u8 a0b) true)) (k2 : okB (.cells 0 (.rM .i64 0 (.arr .u8 64) a0p) true)) (k3 : okB (.cells 0 (.rM .i64 0 .bool a0w) true)) : ∃ F,f27 F (a0n,a0b,a0p,a0w,a0o,a0l) = some ((.bool (!(Dk.D.mk a0n a0b a0p a0w a0o a0l).off)),[(.cells 5 (.segs (.cons 1 (.one (.own 1 (Dk.D.mk a0n a0b a0p a0w a0o a0l).n 64)) (.cons 1 (.one (.mp 2)) (.cons 1 (.one (.mp 3)) (.cons 1 (.one (.bool (Dk.D.mk a0n a0b a0p a0w a0o a0l).off)) (.cons 1 (.one (.int .i64 (Dk.D.mk a0n a0b a0p a0w a0o a0l).left)) .nil)))))) true),(.cells (Dk.D.mk a0n a0b a0p a0w a0o a0l).blk.length (.rI .u8 (Dk.D.mk a0n a0b a0p a0w a0o a0l).blk) true),(.cells 0 (.rM .i64 0 (.arr .u8 64) (Dk.D.mk a0n a0b a0p a0w a0o a0l).pend) true),(.cells 0 (.rM .i64 0 .bool (Dk.D.mk a0n a0b a0p a0w a0o a0l).worn) true)]) := by exact ⟨0,rfl⟩

theorem c27 : CallOk Try.prog G35 27 r27 := callOk_of (V := VG3527) mixed tys eVG3527 (f := 27) (fn := Try.f27) Try.func27 (by kernel_rfl) (c := sub (bodyOf Try.f27) []) (by kernel_rfl) (by
  intro X H r H' h hX hH
  unfold r27 at h; split at h <;> try contradiction
  · simp only [Option.some.injEq,Prod.mk.injEq] at h
    obtain ⟨hp,rfl,rfl⟩ := h
    obtain rfl := okB_size (hH _ (.tail _ (.head _))) rfl
    obtain ⟨F,hF⟩ := s27 _ _ _ _ _ _ (hH _ (.head _)) (hH _ (.tail _ (.head _))) (hH _ (.tail _ (.tail _ (.head _)))) (hH _ (.tail _ (.tail _ (.tail _ (.head _)))))
    exact ⟨Af27 F,(f27_body F _ _ _ _ _ _).trans hF⟩)
def lVG3530 : List CEnt := []
def VG3530 : Env := mkEnv T35 G35 lVG3530
theorem eVG3530 : EOk Try.prog VG3530 := eok_mk (by exact trivial)
def Af30 (F : Nat) : Cuts := { F := F,at_ := fun _ => none,join := fun _ => none }
def ef30_a : Ty1 → St := fun (a0n,a0b,a0p,a0w,a0o,a0l,a1) => { tmps := [(0,(.ptr 0 0 5 0 0 0 5)),(1,(.int .i64 a1))],heap := [(0,(.cells 5 (.segs (.cons 1 (.one (.own 1 a0n 64)) (.cons 1 (.one (.mp 2)) (.cons 1 (.one (.mp 3)) (.cons 1 (.one (.bool a0o)) (.cons 1 (.one (.int .i64 a0l)) .nil)))))) true)),(1,(.cells a0b.length (.rI .u8 a0b) true)),(2,(.cells 0 (.rM .i64 0 (.arr .u8 64) a0p) true)),(3,(.cells 0 (.rM .i64 0 .bool a0w) true))],next := 4,nt := 8,m := 4 }
def f30_1 (F : Nat) : Ty1 → Rz := fun (a0n,a0b,a0p,a0w,a0o,a0l,a1) => (some ((.tup .nil),[(.cells 5 (.segs (.cons 1 (.one (.own 1 a0n 64)) (.cons 1 (.one (.mp 2)) (.cons 1 (.one (.mp 3)) (.cons 1 (.one (.bool a0o)) (.cons 1 (.one (.int .i64 a1)) .nil)))))) true),(.cells a0b.length (.rI .u8 a0b) true),(.cells 0 (.rM .i64 0 (.arr .u8 64) a0p) true),(.cells 0 (.rM .i64 0 .bool a0w) true)]))
theorem f30_1_eq (F : Nat) : ∀ v,aexec VG3530 (Af30 F) (sub (bodyOf Try.f30) []) (ef30_a v) (kFin VG3530 none (Try.f30).results.toList) = f30_1 F v := by
  rintro ⟨a0n,a0b,a0p,a0w,a0o,a0l,a1⟩; kernel_rfl
def f30 (F : Nat) : Ty1 → Rz := f30_1 F
theorem f30_body (F : Nat) (a0n : Nat) (a0b : List Int) (a0p : List (List Int × List Int)) (a0w : List (List Int × List Int)) (a0o : Bool) (a0l : Int) (a1 : Int) : abody VG3530 (Af30 F) Try.f30 [(.ptr 0 0 5 0 0 0 5),(.int .i64 a1)] [(.cells 5 (.segs (.cons 1 (.one (.own 1 a0n 64)) (.cons 1 (.one (.mp 2)) (.cons 1 (.one (.mp 3)) (.cons 1 (.one (.bool a0o)) (.cons 1 (.one (.int .i64 a0l)) .nil)))))) true),(.cells a0b.length (.rI .u8 a0b) true),(.cells 0 (.rM .i64 0 (.arr .u8 64) a0p) true),(.cells 0 (.rM .i64 0 .bool a0w) true)] = f30 F (a0n,a0b,a0p,a0w,a0o,a0l,a1) :=
  (abody_in (c := (sub (bodyOf Try.f30) [])) (by kernel_rfl) (s := ef30_a (a0n,a0b,a0p,a0w,a0o,a0l,a1)) (by kernel_rfl)).trans (f30_1_eq F (a0n,a0b,a0p,a0w,a0o,a0l,a1))
def r30 : CRun := fun X H => match X,H with
  | [(.ptr 0 0 5 0 0 0 5),(.int .i64 a1)],[(.cells 5 (.segs (.cons 1 (.one (.own 1 a0n 64)) (.cons 1 (.one (.mp 2)) (.cons 1 (.one (.mp 3)) (.cons 1 (.one (.bool a0o)) (.cons 1 (.one (.int .i64 a0l)) .nil)))))) true),(.cells z1 (.rI .u8 a0b) true),(.cells 0 (.rM .i64 0 (.arr .u8 64) a0p) true),(.cells 0 (.rM .i64 0 .bool a0w) true)] => some (true,(.tup .nil),[(.cells 5 (.segs (.cons 1 (.one (.own 1 (Dk.trip (Dk.D.mk a0n a0b a0p a0w a0o a0l) a1).n 64)) (.cons 1 (.one (.mp 2)) (.cons 1 (.one (.mp 3)) (.cons 1 (.one (.bool (Dk.trip (Dk.D.mk a0n a0b a0p a0w a0o a0l) a1).off)) (.cons 1 (.one (.int .i64 (Dk.trip (Dk.D.mk a0n a0b a0p a0w a0o a0l) a1).left)) .nil)))))) true),(.cells (Dk.trip (Dk.D.mk a0n a0b a0p a0w a0o a0l) a1).blk.length (.rI .u8 (Dk.trip (Dk.D.mk a0n a0b a0p a0w a0o a0l) a1).blk) true),(.cells 0 (.rM .i64 0 (.arr .u8 64) (Dk.trip (Dk.D.mk a0n a0b a0p a0w a0o a0l) a1).pend) true),(.cells 0 (.rM .i64 0 .bool (Dk.trip (Dk.D.mk a0n a0b a0p a0w a0o a0l) a1).worn) true)])
  | _,_ => none
theorem s30 (a0n : Nat) (a0b : List Int) (a0p : List (List Int × List Int)) (a0w : List (List Int × List Int)) (a0o : Bool) (a0l : Int) (a1 : Int) (h1 : okV (.int .i64 a1)) (k0 : okB (.cells 5 (.segs (.cons 1 (.one (.own 1 a0n 64)) (.cons 1 (.one (.mp 2)) (.cons 1 (.one (.mp 3)) (.cons 1 (.one (.bool a0o)) (.cons 1 (.one (.int .i64 a0l)) .nil)))))) true)) (k1 : okB (.cells a0b.length (.rI .u8 a0b) true)) (k2 : okB (.cells 0 (.rM .i64 0 (.arr .u8 64) a0p) true)) (k3 : okB (.cells 0 (.rM .i64 0 .bool a0w) true)) : ∃ F,f30 F (a0n,a0b,a0p,a0w,a0o,a0l,a1) = some ((.tup .nil),[(.cells 5 (.segs (.cons 1 (.one (.own 1 (Dk.trip (Dk.D.mk a0n a0b a0p a0w a0o a0l) a1).n 64)) (.cons 1 (.one (.mp 2)) (.cons 1 (.one (.mp 3)) (.cons 1 (.one (.bool (Dk.trip (Dk.D.mk a0n a0b a0p a0w a0o a0l) a1).off)) (.cons 1 (.one (.int .i64 (Dk.trip (Dk.D.mk a0n a0b a0p a0w a0o a0l) a1).left)) .nil)))))) true),(.cells (Dk.trip (Dk.D.mk a0n a0b a0p a0w a0o a0l) a1).blk.length (.rI .u8 (Dk.trip (Dk.D.mk a0n a0b a0p a0w a0o a0l) a1).blk) true),(.cells 0 (.rM .i64 0 (.arr .u8 64) (Dk.trip (Dk.D.mk a0n a0b a0p a0w a0o a0l) a1).pend) true),(.cells 0 (.rM .i64 0 .bool (Dk.trip (Dk.D.mk a0n a0b a0p a0w a0o a0l) a1).worn) true)]) := by exact ⟨0,rfl⟩

theorem c30 : CallOk Try.prog G35 30 r30 := callOk_of (V := VG3530) mixed tys eVG3530 (f := 30) (fn := Try.f30) Try.func30 (by kernel_rfl) (c := sub (bodyOf Try.f30) []) (by kernel_rfl) (by
  intro X H r H' h hX hH
  unfold r30 at h; split at h <;> try contradiction
  · simp only [Option.some.injEq,Prod.mk.injEq] at h
    obtain ⟨hp,rfl,rfl⟩ := h
    obtain rfl := okB_size (hH _ (.tail _ (.head _))) rfl
    obtain ⟨F,hF⟩ := s30 _ _ _ _ _ _ _ (hX _ (.tail _ (.head _))) (hH _ (.head _)) (hH _ (.tail _ (.head _))) (hH _ (.tail _ (.tail _ (.head _)))) (hH _ (.tail _ (.tail _ (.tail _ (.head _)))))
    exact ⟨Af30 F,(f30_body F _ _ _ _ _ _ _).trans hF⟩)
def lVG3546 : List CEnt := []
def VG3546 : Env := mkEnv T35 G35 lVG3546
theorem eVG3546 : EOk Try.prog VG3546 := eok_mk (by exact trivial)
def Af46 (F : Nat) : Cuts := { F := F,at_ := fun _ => none,join := fun _ => none }
def ef46_a : Ty1 → St := fun (a0n,a0b,a0p,a0w,a0o,a0l,a1) => { tmps := [(0,(.ptr 0 0 5 0 0 0 5)),(1,(.int .i64 a1))],heap := [(0,(.cells 5 (.segs (.cons 1 (.one (.own 1 a0n 64)) (.cons 1 (.one (.mp 2)) (.cons 1 (.one (.mp 3)) (.cons 1 (.one (.bool a0o)) (.cons 1 (.one (.int .i64 a0l)) .nil)))))) true)),(1,(.cells a0b.length (.rI .u8 a0b) true)),(2,(.cells 0 (.rM .i64 0 (.arr .u8 64) a0p) true)),(3,(.cells 0 (.rM .i64 0 .bool a0w) true))],next := 4,nt := 22,m := 4 }
def f46_1 (F : Nat) : Ty1 → Rz := fun (a0n,a0b,a0p,a0w,a0o,a0l,a1) => (cond a0o (some ((.int .i64 (22 : Int)),[(.cells 5 (.segs (.cons 1 (.one (.own 1 a0n 64)) (.cons 1 (.one (.mp 2)) (.cons 1 (.one (.mp 3)) (.cons 1 (.one (.bool a0o)) (.cons 1 (.one (.int .i64 a0l)) .nil)))))) true),(.cells a0b.length (.rI .u8 a0b) true),(.cells 0 (.rM .i64 0 (.arr .u8 64) a0p) true),(.cells 0 (.rM .i64 0 .bool a0w) true)])) (cond (decide (a1 < (0 : Int))) (some ((.int .i64 (1 : Int)),[(.cells 5 (.segs (.cons 1 (.one (.own 1 a0n 64)) (.cons 1 (.one (.mp 2)) (.cons 1 (.one (.mp 3)) (.cons 1 (.one (.bool a0o)) (.cons 1 (.one (.int .i64 a0l)) .nil)))))) true),(.cells a0b.length (.rI .u8 a0b) true),(.cells 0 (.rM .i64 0 (.arr .u8 64) a0p) true),(.cells 0 (.rM .i64 0 .bool a0w) true)])) (cond (decide (a1 ≥ (↑a0n : Int))) (some ((.int .i64 (1 : Int)),[(.cells 5 (.segs (.cons 1 (.one (.own 1 a0n 64)) (.cons 1 (.one (.mp 2)) (.cons 1 (.one (.mp 3)) (.cons 1 (.one (.bool a0o)) (.cons 1 (.one (.int .i64 a0l)) .nil)))))) true),(.cells a0b.length (.rI .u8 a0b) true),(.cells 0 (.rM .i64 0 (.arr .u8 64) a0p) true),(.cells 0 (.rM .i64 0 .bool a0w) true)])) (some ((.int .i64 (0 : Int)),[(.cells 5 (.segs (.cons 1 (.one (.own 1 a0n 64)) (.cons 1 (.one (.mp 2)) (.cons 1 (.one (.mp 3)) (.cons 1 (.one (.bool a0o)) (.cons 1 (.one (.int .i64 a0l)) .nil)))))) true),(.cells a0b.length (.rI .u8 a0b) true),(.cells 0 (.rM .i64 0 (.arr .u8 64) a0p) true),(.cells 0 (.rM .i64 0 .bool a0w) true)])))))
theorem f46_1_eq (F : Nat) : ∀ v,aexec VG3546 (Af46 F) (sub (bodyOf Try.f46) []) (ef46_a v) (kFin VG3546 none (Try.f46).results.toList) = f46_1 F v := by
  rintro ⟨a0n,a0b,a0p,a0w,a0o,a0l,a1⟩; kernel_rfl
def f46 (F : Nat) : Ty1 → Rz := f46_1 F
theorem f46_body (F : Nat) (a0n : Nat) (a0b : List Int) (a0p : List (List Int × List Int)) (a0w : List (List Int × List Int)) (a0o : Bool) (a0l : Int) (a1 : Int) : abody VG3546 (Af46 F) Try.f46 [(.ptr 0 0 5 0 0 0 5),(.int .i64 a1)] [(.cells 5 (.segs (.cons 1 (.one (.own 1 a0n 64)) (.cons 1 (.one (.mp 2)) (.cons 1 (.one (.mp 3)) (.cons 1 (.one (.bool a0o)) (.cons 1 (.one (.int .i64 a0l)) .nil)))))) true),(.cells a0b.length (.rI .u8 a0b) true),(.cells 0 (.rM .i64 0 (.arr .u8 64) a0p) true),(.cells 0 (.rM .i64 0 .bool a0w) true)] = f46 F (a0n,a0b,a0p,a0w,a0o,a0l,a1) :=
  (abody_in (c := (sub (bodyOf Try.f46) [])) (by kernel_rfl) (s := ef46_a (a0n,a0b,a0p,a0w,a0o,a0l,a1)) (by kernel_rfl)).trans (f46_1_eq F (a0n,a0b,a0p,a0w,a0o,a0l,a1))
def r46 : CRun := fun X H => match X,H with
  | [(.ptr 0 0 5 0 0 0 5),(.int .i64 a1)],[(.cells 5 (.segs (.cons 1 (.one (.own 1 a0n 64)) (.cons 1 (.one (.mp 2)) (.cons 1 (.one (.mp 3)) (.cons 1 (.one (.bool a0o)) (.cons 1 (.one (.int .i64 a0l)) .nil)))))) true),(.cells z1 (.rI .u8 a0b) true),(.cells 0 (.rM .i64 0 (.arr .u8 64) a0p) true),(.cells 0 (.rM .i64 0 .bool a0w) true)] => some (true,(.int .i64 (Dk.check (Dk.D.mk a0n a0b a0p a0w a0o a0l) a1)),[(.cells 5 (.segs (.cons 1 (.one (.own 1 (Dk.D.mk a0n a0b a0p a0w a0o a0l).n 64)) (.cons 1 (.one (.mp 2)) (.cons 1 (.one (.mp 3)) (.cons 1 (.one (.bool (Dk.D.mk a0n a0b a0p a0w a0o a0l).off)) (.cons 1 (.one (.int .i64 (Dk.D.mk a0n a0b a0p a0w a0o a0l).left)) .nil)))))) true),(.cells (Dk.D.mk a0n a0b a0p a0w a0o a0l).blk.length (.rI .u8 (Dk.D.mk a0n a0b a0p a0w a0o a0l).blk) true),(.cells 0 (.rM .i64 0 (.arr .u8 64) (Dk.D.mk a0n a0b a0p a0w a0o a0l).pend) true),(.cells 0 (.rM .i64 0 .bool (Dk.D.mk a0n a0b a0p a0w a0o a0l).worn) true)])
  | _,_ => none
theorem s46 (a0n : Nat) (a0b : List Int) (a0p : List (List Int × List Int)) (a0w : List (List Int × List Int)) (a0o : Bool) (a0l : Int) (a1 : Int) (h1 : okV (.int .i64 a1)) (k0 : okB (.cells 5 (.segs (.cons 1 (.one (.own 1 a0n 64)) (.cons 1 (.one (.mp 2)) (.cons 1 (.one (.mp 3)) (.cons 1 (.one (.bool a0o)) (.cons 1 (.one (.int .i64 a0l)) .nil)))))) true)) (k1 : okB (.cells a0b.length (.rI .u8 a0b) true)) (k2 : okB (.cells 0 (.rM .i64 0 (.arr .u8 64) a0p) true)) (k3 : okB (.cells 0 (.rM .i64 0 .bool a0w) true)) : ∃ F,f46 F (a0n,a0b,a0p,a0w,a0o,a0l,a1) = some ((.int .i64 (Dk.check (Dk.D.mk a0n a0b a0p a0w a0o a0l) a1)),[(.cells 5 (.segs (.cons 1 (.one (.own 1 (Dk.D.mk a0n a0b a0p a0w a0o a0l).n 64)) (.cons 1 (.one (.mp 2)) (.cons 1 (.one (.mp 3)) (.cons 1 (.one (.bool (Dk.D.mk a0n a0b a0p a0w a0o a0l).off)) (.cons 1 (.one (.int .i64 (Dk.D.mk a0n a0b a0p a0w a0o a0l).left)) .nil)))))) true),(.cells (Dk.D.mk a0n a0b a0p a0w a0o a0l).blk.length (.rI .u8 (Dk.D.mk a0n a0b a0p a0w a0o a0l).blk) true),(.cells 0 (.rM .i64 0 (.arr .u8 64) (Dk.D.mk a0n a0b a0p a0w a0o a0l).pend) true),(.cells 0 (.rM .i64 0 .bool (Dk.D.mk a0n a0b a0p a0w a0o a0l).worn) true)]) := by
  refine ⟨0,?_⟩
  simp only [f46,f46_1,Dk.check]
  cases a0o
  · cases (decide (a1 < 0))
    · cases (decide (a1 ≥ (a0n : Int))) <;> rfl
    · rfl
  · rfl

theorem c46 : CallOk Try.prog G35 46 r46 := callOk_of (V := VG3546) mixed tys eVG3546 (f := 46) (fn := Try.f46) Try.func46 (by kernel_rfl) (c := sub (bodyOf Try.f46) []) (by kernel_rfl) (by
  intro X H r H' h hX hH
  unfold r46 at h; split at h <;> try contradiction
  · simp only [Option.some.injEq,Prod.mk.injEq] at h
    obtain ⟨hp,rfl,rfl⟩ := h
    obtain rfl := okB_size (hH _ (.tail _ (.head _))) rfl
    obtain ⟨F,hF⟩ := s46 _ _ _ _ _ _ _ (hX _ (.tail _ (.head _))) (hH _ (.head _)) (hH _ (.tail _ (.head _))) (hH _ (.tail _ (.tail _ (.head _)))) (hH _ (.tail _ (.tail _ (.tail _ (.head _)))))
    exact ⟨Af46 F,(f46_body F _ _ _ _ _ _ _).trans hF⟩)
def lVG3547 : List CEnt := []
def VG3547 : Env := mkEnv T35 G35 lVG3547
theorem eVG3547 : EOk Try.prog VG3547 := eok_mk (by exact trivial)
def Af47 (F : Nat) : Cuts := { F := F,at_ := fun _ => none,join := fun _ => none }
def ef47_a : Ty0 → St := fun (a0n,a0b,a0p,a0w,a0o,a0l) => { tmps := [(0,(.ptr 0 0 5 0 0 0 5))],heap := [(0,(.cells 5 (.segs (.cons 1 (.one (.own 1 a0n 64)) (.cons 1 (.one (.mp 2)) (.cons 1 (.one (.mp 3)) (.cons 1 (.one (.bool a0o)) (.cons 1 (.one (.int .i64 a0l)) .nil)))))) true)),(1,(.cells a0b.length (.rI .u8 a0b) true)),(2,(.cells 0 (.rM .i64 0 (.arr .u8 64) a0p) true)),(3,(.cells 0 (.rM .i64 0 .bool a0w) true))],next := 4,nt := 25,m := 4 }
def f47_1 (F : Nat) : Ty0 → Rz := fun (a0n,a0b,a0p,a0w,a0o,a0l) => (cond (a0l == (0 : Int)) (some ((.int .i64 (22 : Int)),[(.cells 5 (.segs (.cons 1 (.one (.own 1 a0n 64)) (.cons 1 (.one (.mp 2)) (.cons 1 (.one (.mp 3)) (.cons 1 (.one (.bool true)) (.cons 1 (.one (.int .i64 a0l)) .nil)))))) true),(.cells a0b.length (.rI .u8 a0b) true),(.cells 0 (.rM .i64 0 (.arr .u8 64) a0p) true),(.cells 0 (.rM .i64 0 .bool a0w) true)])) (cond (decide (a0l > (0 : Int))) (some ((.int .i64 (0 : Int)),[(.cells 5 (.segs (.cons 1 (.one (.own 1 a0n 64)) (.cons 1 (.one (.mp 2)) (.cons 1 (.one (.mp 3)) (.cons 1 (.one (.bool a0o)) (.cons 1 (.one (.int .i64 (IntKind.i64.wrap (a0l - (1 : Int))))) .nil)))))) true),(.cells a0b.length (.rI .u8 a0b) true),(.cells 0 (.rM .i64 0 (.arr .u8 64) a0p) true),(.cells 0 (.rM .i64 0 .bool a0w) true)])) (some ((.int .i64 (0 : Int)),[(.cells 5 (.segs (.cons 1 (.one (.own 1 a0n 64)) (.cons 1 (.one (.mp 2)) (.cons 1 (.one (.mp 3)) (.cons 1 (.one (.bool a0o)) (.cons 1 (.one (.int .i64 a0l)) .nil)))))) true),(.cells a0b.length (.rI .u8 a0b) true),(.cells 0 (.rM .i64 0 (.arr .u8 64) a0p) true),(.cells 0 (.rM .i64 0 .bool a0w) true)]))))
theorem f47_1_eq (F : Nat) : ∀ v,aexec VG3547 (Af47 F) (sub (bodyOf Try.f47) []) (ef47_a v) (kFin VG3547 none (Try.f47).results.toList) = f47_1 F v := by
  rintro ⟨a0n,a0b,a0p,a0w,a0o,a0l⟩; kernel_rfl
def f47 (F : Nat) : Ty0 → Rz := f47_1 F
theorem f47_body (F : Nat) (a0n : Nat) (a0b : List Int) (a0p : List (List Int × List Int)) (a0w : List (List Int × List Int)) (a0o : Bool) (a0l : Int) : abody VG3547 (Af47 F) Try.f47 [(.ptr 0 0 5 0 0 0 5)] [(.cells 5 (.segs (.cons 1 (.one (.own 1 a0n 64)) (.cons 1 (.one (.mp 2)) (.cons 1 (.one (.mp 3)) (.cons 1 (.one (.bool a0o)) (.cons 1 (.one (.int .i64 a0l)) .nil)))))) true),(.cells a0b.length (.rI .u8 a0b) true),(.cells 0 (.rM .i64 0 (.arr .u8 64) a0p) true),(.cells 0 (.rM .i64 0 .bool a0w) true)] = f47 F (a0n,a0b,a0p,a0w,a0o,a0l) :=
  (abody_in (c := (sub (bodyOf Try.f47) [])) (by kernel_rfl) (s := ef47_a (a0n,a0b,a0p,a0w,a0o,a0l)) (by kernel_rfl)).trans (f47_1_eq F (a0n,a0b,a0p,a0w,a0o,a0l))
def r47 : CRun := fun X H => match X,H with
  | [(.ptr 0 0 5 0 0 0 5)],[(.cells 5 (.segs (.cons 1 (.one (.own 1 a0n 64)) (.cons 1 (.one (.mp 2)) (.cons 1 (.one (.mp 3)) (.cons 1 (.one (.bool a0o)) (.cons 1 (.one (.int .i64 a0l)) .nil)))))) true),(.cells z1 (.rI .u8 a0b) true),(.cells 0 (.rM .i64 0 (.arr .u8 64) a0p) true),(.cells 0 (.rM .i64 0 .bool a0w) true)] => some (true,(.int .i64 (Dk.step (Dk.D.mk a0n a0b a0p a0w a0o a0l)).2),[(.cells 5 (.segs (.cons 1 (.one (.own 1 (Dk.step (Dk.D.mk a0n a0b a0p a0w a0o a0l)).1.n 64)) (.cons 1 (.one (.mp 2)) (.cons 1 (.one (.mp 3)) (.cons 1 (.one (.bool (Dk.step (Dk.D.mk a0n a0b a0p a0w a0o a0l)).1.off)) (.cons 1 (.one (.int .i64 (Dk.step (Dk.D.mk a0n a0b a0p a0w a0o a0l)).1.left)) .nil)))))) true),(.cells (Dk.step (Dk.D.mk a0n a0b a0p a0w a0o a0l)).1.blk.length (.rI .u8 (Dk.step (Dk.D.mk a0n a0b a0p a0w a0o a0l)).1.blk) true),(.cells 0 (.rM .i64 0 (.arr .u8 64) (Dk.step (Dk.D.mk a0n a0b a0p a0w a0o a0l)).1.pend) true),(.cells 0 (.rM .i64 0 .bool (Dk.step (Dk.D.mk a0n a0b a0p a0w a0o a0l)).1.worn) true)])
  | _,_ => none
theorem s47 (a0n : Nat) (a0b : List Int) (a0p : List (List Int × List Int)) (a0w : List (List Int × List Int)) (a0o : Bool) (a0l : Int) (k0 : okB (.cells 5 (.segs (.cons 1 (.one (.own 1 a0n 64)) (.cons 1 (.one (.mp 2)) (.cons 1 (.one (.mp 3)) (.cons 1 (.one (.bool a0o)) (.cons 1 (.one (.int .i64 a0l)) .nil)))))) true)) (k1 : okB (.cells a0b.length (.rI .u8 a0b) true)) (k2 : okB (.cells 0 (.rM .i64 0 (.arr .u8 64) a0p) true)) (k3 : okB (.cells 0 (.rM .i64 0 .bool a0w) true)) : ∃ F,f47 F (a0n,a0b,a0p,a0w,a0o,a0l) = some ((.int .i64 (Dk.step (Dk.D.mk a0n a0b a0p a0w a0o a0l)).2),[(.cells 5 (.segs (.cons 1 (.one (.own 1 (Dk.step (Dk.D.mk a0n a0b a0p a0w a0o a0l)).1.n 64)) (.cons 1 (.one (.mp 2)) (.cons 1 (.one (.mp 3)) (.cons 1 (.one (.bool (Dk.step (Dk.D.mk a0n a0b a0p a0w a0o a0l)).1.off)) (.cons 1 (.one (.int .i64 (Dk.step (Dk.D.mk a0n a0b a0p a0w a0o a0l)).1.left)) .nil)))))) true),(.cells (Dk.step (Dk.D.mk a0n a0b a0p a0w a0o a0l)).1.blk.length (.rI .u8 (Dk.step (Dk.D.mk a0n a0b a0p a0w a0o a0l)).1.blk) true),(.cells 0 (.rM .i64 0 (.arr .u8 64) (Dk.step (Dk.D.mk a0n a0b a0p a0w a0o a0l)).1.pend) true),(.cells 0 (.rM .i64 0 .bool (Dk.step (Dk.D.mk a0n a0b a0p a0w a0o a0l)).1.worn) true)]) := by
  refine ⟨0,?_⟩
  simp only [f47,f47_1,Dk.step]
  cases (a0l == 0)
  · cases (decide (a0l > 0)) <;> rfl
  · rfl

theorem c47 : CallOk Try.prog G35 47 r47 := callOk_of (V := VG3547) mixed tys eVG3547 (f := 47) (fn := Try.f47) Try.func47 (by kernel_rfl) (c := sub (bodyOf Try.f47) []) (by kernel_rfl) (by
  intro X H r H' h hX hH
  unfold r47 at h; split at h <;> try contradiction
  · simp only [Option.some.injEq,Prod.mk.injEq] at h
    obtain ⟨hp,rfl,rfl⟩ := h
    obtain rfl := okB_size (hH _ (.tail _ (.head _))) rfl
    obtain ⟨F,hF⟩ := s47 _ _ _ _ _ _ (hH _ (.head _)) (hH _ (.tail _ (.head _))) (hH _ (.tail _ (.tail _ (.head _)))) (hH _ (.tail _ (.tail _ (.tail _ (.head _)))))
    exact ⟨Af47 F,(f47_body F _ _ _ _ _ _).trans hF⟩)
def lVG3549 : List CEnt := []
def VG3549 : Env := mkEnv T35 G35 lVG3549
theorem eVG3549 : EOk Try.prog VG3549 := eok_mk (by exact trivial)
def Af49 (F : Nat) : Cuts := { F := F,at_ := fun _ => none,join := fun _ => none }
def ef49_a : Ty2 → St := fun a0 => { tmps := [(0,(.mp 0))],heap := [(0,(.cells 0 (.rM .i64 0 (.arr .u8 64) a0) true))],next := 1,nt := 4,m := 1 }
def f49_1 (F : Nat) : Ty2 → Rz := fun a0 => (some ((.fn 60 (.cons 0 (.ptr 1 0 1 0 0 0 1) .nil)),[(.cells 0 (.rM .i64 0 (.arr .u8 64) a0) true),(.cells 1 (.one (.mp 0)) true)]))
theorem f49_1_eq (F : Nat) : ∀ v,aexec VG3549 (Af49 F) (sub (bodyOf Try.f49) []) (ef49_a v) (kFin VG3549 none (Try.f49).results.toList) = f49_1 F v := by
  intro a0; kernel_rfl
def f49 (F : Nat) : Ty2 → Rz := f49_1 F
theorem f49_body (F : Nat) (a0 : List (List Int × List Int)) : abody VG3549 (Af49 F) Try.f49 [(.mp 0)] [(.cells 0 (.rM .i64 0 (.arr .u8 64) a0) true)] = f49 F a0 :=
  (abody_in (c := (sub (bodyOf Try.f49) [])) (by kernel_rfl) (s := ef49_a a0) (by kernel_rfl)).trans (f49_1_eq F a0)
def r49 : CRun := fun X H => match X,H with
  | [(.mp 0)],[(.cells 0 (.rM .i64 0 (.arr .u8 64) a0) true)] => some (true,(.fn 60 (.cons 0 (.ptr 1 0 1 0 0 0 1) .nil)),[(.cells 0 (.rM .i64 0 (.arr .u8 64) a0) true),(.cells 1 (.one (.mp 0)) true)])
  | _,_ => none
theorem s49 (a0 : List (List Int × List Int)) (k0 : okB (.cells 0 (.rM .i64 0 (.arr .u8 64) a0) true)) : ∃ F,f49 F a0 = some ((.fn 60 (.cons 0 (.ptr 1 0 1 0 0 0 1) .nil)),[(.cells 0 (.rM .i64 0 (.arr .u8 64) a0) true),(.cells 1 (.one (.mp 0)) true)]) := by exact ⟨0,rfl⟩

theorem c49 : CallOk Try.prog G35 49 r49 := callOk_of (V := VG3549) mixed tys eVG3549 (f := 49) (fn := Try.f49) Try.func49 (by kernel_rfl) (c := sub (bodyOf Try.f49) []) (by kernel_rfl) (by
  intro X H r H' h hX hH
  unfold r49 at h; split at h <;> try contradiction
  · simp only [Option.some.injEq,Prod.mk.injEq] at h
    obtain ⟨hp,rfl,rfl⟩ := h
    obtain ⟨F,hF⟩ := s49 _ (hH _ (.head _))
    exact ⟨Af49 F,(f49_body F _).trans hF⟩)
def lVG3550 : List CEnt := []
def VG3550 : Env := mkEnv T35 G35 lVG3550
theorem eVG3550 : EOk Try.prog VG3550 := eok_mk (by exact trivial)
def Af50 (F : Nat) : Cuts := { F := F,at_ := fun _ => none,join := fun _ => none }
def ef50_a : Ty2 → St := fun a0 => { tmps := [(0,(.mp 0))],heap := [(0,(.cells 0 (.rM .i64 0 .bool a0) true))],next := 1,nt := 4,m := 1 }
def f50_1 (F : Nat) : Ty2 → Rz := fun a0 => (some ((.fn 61 (.cons 0 (.ptr 1 0 1 0 0 0 1) .nil)),[(.cells 0 (.rM .i64 0 .bool a0) true),(.cells 1 (.one (.mp 0)) true)]))
theorem f50_1_eq (F : Nat) : ∀ v,aexec VG3550 (Af50 F) (sub (bodyOf Try.f50) []) (ef50_a v) (kFin VG3550 none (Try.f50).results.toList) = f50_1 F v := by
  intro a0; kernel_rfl
def f50 (F : Nat) : Ty2 → Rz := f50_1 F
theorem f50_body (F : Nat) (a0 : List (List Int × List Int)) : abody VG3550 (Af50 F) Try.f50 [(.mp 0)] [(.cells 0 (.rM .i64 0 .bool a0) true)] = f50 F a0 :=
  (abody_in (c := (sub (bodyOf Try.f50) [])) (by kernel_rfl) (s := ef50_a a0) (by kernel_rfl)).trans (f50_1_eq F a0)
def r50 : CRun := fun X H => match X,H with
  | [(.mp 0)],[(.cells 0 (.rM .i64 0 .bool a0) true)] => some (true,(.fn 61 (.cons 0 (.ptr 1 0 1 0 0 0 1) .nil)),[(.cells 0 (.rM .i64 0 .bool a0) true),(.cells 1 (.one (.mp 0)) true)])
  | _,_ => none
theorem s50 (a0 : List (List Int × List Int)) (k0 : okB (.cells 0 (.rM .i64 0 .bool a0) true)) : ∃ F,f50 F a0 = some ((.fn 61 (.cons 0 (.ptr 1 0 1 0 0 0 1) .nil)),[(.cells 0 (.rM .i64 0 .bool a0) true),(.cells 1 (.one (.mp 0)) true)]) := by exact ⟨0,rfl⟩

theorem c50 : CallOk Try.prog G35 50 r50 := callOk_of (V := VG3550) mixed tys eVG3550 (f := 50) (fn := Try.f50) Try.func50 (by kernel_rfl) (c := sub (bodyOf Try.f50) []) (by kernel_rfl) (by
  intro X H r H' h hX hH
  unfold r50 at h; split at h <;> try contradiction
  · simp only [Option.some.injEq,Prod.mk.injEq] at h
    obtain ⟨hp,rfl,rfl⟩ := h
    obtain ⟨F,hF⟩ := s50 _ (hH _ (.head _))
    exact ⟨Af50 F,(f50_body F _).trans hF⟩)
def r48 : CRun := runSorted [60,61]
theorem c48 : CallOk Try.prog G35 48 r48 := sorted_ok Try.sortedA Try.sortsA (enters_of Try.func59 (by kernel_rfl) rfl) fun f hf => by
  simp only [List.mem_cons,List.not_mem_nil,or_false] at hf
  rcases hf with rfl | rfl
  · exact ⟨enters_of Try.func60 (by kernel_rfl) rfl,Try.keys49_ren,{ Try.keys49 with },rfl,rfl⟩
  · exact ⟨enters_of Try.func61 (by kernel_rfl) rfl,Try.keys50_ren,{ Try.keys50 with },rfl,rfl⟩
def lVG3522 : List CEnt := [(48,[none],r48),(49,[none],r49)]
def VG3522 : Env := mkEnv T35 G35 lVG3522
theorem eVG3522 : EOk Try.prog VG3522 := eok_mk (by exact ⟨c48,c49,trivial⟩)
def Af22 (F : Nat) : Cuts := { F := F,at_ := fun _ => none,join := fun _ => none }
def ef22_a : Ty0 → St := fun (a0n,a0b,a0p,a0w,a0o,a0l) => { tmps := [(0,(.ptr 0 0 5 0 0 0 5))],heap := [(0,(.cells 5 (.segs (.cons 1 (.one (.own 1 a0n 64)) (.cons 1 (.one (.mp 2)) (.cons 1 (.one (.mp 3)) (.cons 1 (.one (.bool a0o)) (.cons 1 (.one (.int .i64 a0l)) .nil)))))) true)),(1,(.cells a0b.length (.rI .u8 a0b) true)),(2,(.cells 0 (.rM .i64 0 (.arr .u8 64) a0p) true)),(3,(.cells 0 (.rM .i64 0 .bool a0w) true))],next := 4,nt := 9,m := 4 }
def f22_1 (F : Nat) : Ty0 → Rz := fun (a0n,a0b,a0p,a0w,a0o,a0l) => (cond (decide (a0p.length < 1073741824)) (some ((.vs (.rI .i64 (sortI (keyInts a0p))) 0 1),[(.cells 5 (.segs (.cons 1 (.one (.own 1 a0n 64)) (.cons 1 (.one (.mp 2)) (.cons 1 (.one (.mp 3)) (.cons 1 (.one (.bool a0o)) (.cons 1 (.one (.int .i64 a0l)) .nil)))))) true),(.cells a0b.length (.rI .u8 a0b) true),(.cells 0 (.rM .i64 0 (.arr .u8 64) a0p) true),(.cells 0 (.rM .i64 0 .bool a0w) true)])) none)
theorem f22_1_eq (F : Nat) : ∀ v,aexec VG3522 (Af22 F) (sub (bodyOf Try.f22) []) (ef22_a v) (kFin VG3522 none (Try.f22).results.toList) = f22_1 F v := by
  rintro ⟨a0n,a0b,a0p,a0w,a0o,a0l⟩; kernel_rfl
def f22 (F : Nat) : Ty0 → Rz := f22_1 F
theorem f22_body (F : Nat) (a0n : Nat) (a0b : List Int) (a0p : List (List Int × List Int)) (a0w : List (List Int × List Int)) (a0o : Bool) (a0l : Int) : abody VG3522 (Af22 F) Try.f22 [(.ptr 0 0 5 0 0 0 5)] [(.cells 5 (.segs (.cons 1 (.one (.own 1 a0n 64)) (.cons 1 (.one (.mp 2)) (.cons 1 (.one (.mp 3)) (.cons 1 (.one (.bool a0o)) (.cons 1 (.one (.int .i64 a0l)) .nil)))))) true),(.cells a0b.length (.rI .u8 a0b) true),(.cells 0 (.rM .i64 0 (.arr .u8 64) a0p) true),(.cells 0 (.rM .i64 0 .bool a0w) true)] = f22 F (a0n,a0b,a0p,a0w,a0o,a0l) :=
  (abody_in (c := (sub (bodyOf Try.f22) [])) (by kernel_rfl) (s := ef22_a (a0n,a0b,a0p,a0w,a0o,a0l)) (by kernel_rfl)).trans (f22_1_eq F (a0n,a0b,a0p,a0w,a0o,a0l))
def r22 : CRun := fun X H => match X,H with
  | [(.ptr 0 0 5 0 0 0 5)],[(.cells 5 (.segs (.cons 1 (.one (.own 1 a0n 64)) (.cons 1 (.one (.mp 2)) (.cons 1 (.one (.mp 3)) (.cons 1 (.one (.bool a0o)) (.cons 1 (.one (.int .i64 a0l)) .nil)))))) true),(.cells z1 (.rI .u8 a0b) true),(.cells 0 (.rM .i64 0 (.arr .u8 64) a0p) true),(.cells 0 (.rM .i64 0 .bool a0w) true)] => some ((decide ((Dk.D.mk a0n a0b a0p a0w a0o a0l).pend.length < 1073741824)),(.vs (.rI .i64 (Dk.pending (Dk.D.mk a0n a0b a0p a0w a0o a0l))) 0 1),[(.cells 5 (.segs (.cons 1 (.one (.own 1 (Dk.D.mk a0n a0b a0p a0w a0o a0l).n 64)) (.cons 1 (.one (.mp 2)) (.cons 1 (.one (.mp 3)) (.cons 1 (.one (.bool (Dk.D.mk a0n a0b a0p a0w a0o a0l).off)) (.cons 1 (.one (.int .i64 (Dk.D.mk a0n a0b a0p a0w a0o a0l).left)) .nil)))))) true),(.cells (Dk.D.mk a0n a0b a0p a0w a0o a0l).blk.length (.rI .u8 (Dk.D.mk a0n a0b a0p a0w a0o a0l).blk) true),(.cells 0 (.rM .i64 0 (.arr .u8 64) (Dk.D.mk a0n a0b a0p a0w a0o a0l).pend) true),(.cells 0 (.rM .i64 0 .bool (Dk.D.mk a0n a0b a0p a0w a0o a0l).worn) true)])
  | _,_ => none
theorem s22 (a0n : Nat) (a0b : List Int) (a0p : List (List Int × List Int)) (a0w : List (List Int × List Int)) (a0o : Bool) (a0l : Int) (hp : ((decide ((Dk.D.mk a0n a0b a0p a0w a0o a0l).pend.length < 1073741824))) = true) (k0 : okB (.cells 5 (.segs (.cons 1 (.one (.own 1 a0n 64)) (.cons 1 (.one (.mp 2)) (.cons 1 (.one (.mp 3)) (.cons 1 (.one (.bool a0o)) (.cons 1 (.one (.int .i64 a0l)) .nil)))))) true)) (k1 : okB (.cells a0b.length (.rI .u8 a0b) true)) (k2 : okB (.cells 0 (.rM .i64 0 (.arr .u8 64) a0p) true)) (k3 : okB (.cells 0 (.rM .i64 0 .bool a0w) true)) : ∃ F,f22 F (a0n,a0b,a0p,a0w,a0o,a0l) = some ((.vs (.rI .i64 (Dk.pending (Dk.D.mk a0n a0b a0p a0w a0o a0l))) 0 1),[(.cells 5 (.segs (.cons 1 (.one (.own 1 (Dk.D.mk a0n a0b a0p a0w a0o a0l).n 64)) (.cons 1 (.one (.mp 2)) (.cons 1 (.one (.mp 3)) (.cons 1 (.one (.bool (Dk.D.mk a0n a0b a0p a0w a0o a0l).off)) (.cons 1 (.one (.int .i64 (Dk.D.mk a0n a0b a0p a0w a0o a0l).left)) .nil)))))) true),(.cells (Dk.D.mk a0n a0b a0p a0w a0o a0l).blk.length (.rI .u8 (Dk.D.mk a0n a0b a0p a0w a0o a0l).blk) true),(.cells 0 (.rM .i64 0 (.arr .u8 64) (Dk.D.mk a0n a0b a0p a0w a0o a0l).pend) true),(.cells 0 (.rM .i64 0 .bool (Dk.D.mk a0n a0b a0p a0w a0o a0l).worn) true)]) := by exact ⟨0,by simp only [f22,f22_1]; rw [hp]; rfl⟩

theorem c22 : CallOk Try.prog G35 22 r22 := callOk_of (V := VG3522) mixed tys eVG3522 (f := 22) (fn := Try.f22) Try.func22 (by kernel_rfl) (c := sub (bodyOf Try.f22) []) (by kernel_rfl) (by
  intro X H r H' h hX hH
  unfold r22 at h; split at h <;> try contradiction
  · simp only [Option.some.injEq,Prod.mk.injEq] at h
    obtain ⟨hp,rfl,rfl⟩ := h
    obtain rfl := okB_size (hH _ (.tail _ (.head _))) rfl
    obtain ⟨F,hF⟩ := s22 _ _ _ _ _ _ hp (hH _ (.head _)) (hH _ (.tail _ (.head _))) (hH _ (.tail _ (.tail _ (.head _)))) (hH _ (.tail _ (.tail _ (.tail _ (.head _)))))
    exact ⟨Af22 F,(f22_body F _ _ _ _ _ _).trans hF⟩)
def lVG3523 : List CEnt := [(48,[none],r48),(50,[none],r50)]
def VG3523 : Env := mkEnv T35 G35 lVG3523
theorem eVG3523 : EOk Try.prog VG3523 := eok_mk (by exact ⟨c48,c50,trivial⟩)
def Af23 (F : Nat) : Cuts := { F := F,at_ := fun _ => none,join := fun _ => none }
def ef23_a : Ty0 → St := fun (a0n,a0b,a0p,a0w,a0o,a0l) => { tmps := [(0,(.ptr 0 0 5 0 0 0 5))],heap := [(0,(.cells 5 (.segs (.cons 1 (.one (.own 1 a0n 64)) (.cons 1 (.one (.mp 2)) (.cons 1 (.one (.mp 3)) (.cons 1 (.one (.bool a0o)) (.cons 1 (.one (.int .i64 a0l)) .nil)))))) true)),(1,(.cells a0b.length (.rI .u8 a0b) true)),(2,(.cells 0 (.rM .i64 0 (.arr .u8 64) a0p) true)),(3,(.cells 0 (.rM .i64 0 .bool a0w) true))],next := 4,nt := 9,m := 4 }
def f23_1 (F : Nat) : Ty0 → Rz := fun (a0n,a0b,a0p,a0w,a0o,a0l) => (cond (decide (a0w.length < 1073741824)) (some ((.vs (.rI .i64 (sortI (keyInts a0w))) 0 1),[(.cells 5 (.segs (.cons 1 (.one (.own 1 a0n 64)) (.cons 1 (.one (.mp 2)) (.cons 1 (.one (.mp 3)) (.cons 1 (.one (.bool a0o)) (.cons 1 (.one (.int .i64 a0l)) .nil)))))) true),(.cells a0b.length (.rI .u8 a0b) true),(.cells 0 (.rM .i64 0 (.arr .u8 64) a0p) true),(.cells 0 (.rM .i64 0 .bool a0w) true)])) none)
theorem f23_1_eq (F : Nat) : ∀ v,aexec VG3523 (Af23 F) (sub (bodyOf Try.f23) []) (ef23_a v) (kFin VG3523 none (Try.f23).results.toList) = f23_1 F v := by
  rintro ⟨a0n,a0b,a0p,a0w,a0o,a0l⟩; kernel_rfl
def f23 (F : Nat) : Ty0 → Rz := f23_1 F
theorem f23_body (F : Nat) (a0n : Nat) (a0b : List Int) (a0p : List (List Int × List Int)) (a0w : List (List Int × List Int)) (a0o : Bool) (a0l : Int) : abody VG3523 (Af23 F) Try.f23 [(.ptr 0 0 5 0 0 0 5)] [(.cells 5 (.segs (.cons 1 (.one (.own 1 a0n 64)) (.cons 1 (.one (.mp 2)) (.cons 1 (.one (.mp 3)) (.cons 1 (.one (.bool a0o)) (.cons 1 (.one (.int .i64 a0l)) .nil)))))) true),(.cells a0b.length (.rI .u8 a0b) true),(.cells 0 (.rM .i64 0 (.arr .u8 64) a0p) true),(.cells 0 (.rM .i64 0 .bool a0w) true)] = f23 F (a0n,a0b,a0p,a0w,a0o,a0l) :=
  (abody_in (c := (sub (bodyOf Try.f23) [])) (by kernel_rfl) (s := ef23_a (a0n,a0b,a0p,a0w,a0o,a0l)) (by kernel_rfl)).trans (f23_1_eq F (a0n,a0b,a0p,a0w,a0o,a0l))
def r23 : CRun := fun X H => match X,H with
  | [(.ptr 0 0 5 0 0 0 5)],[(.cells 5 (.segs (.cons 1 (.one (.own 1 a0n 64)) (.cons 1 (.one (.mp 2)) (.cons 1 (.one (.mp 3)) (.cons 1 (.one (.bool a0o)) (.cons 1 (.one (.int .i64 a0l)) .nil)))))) true),(.cells z1 (.rI .u8 a0b) true),(.cells 0 (.rM .i64 0 (.arr .u8 64) a0p) true),(.cells 0 (.rM .i64 0 .bool a0w) true)] => some ((decide ((Dk.D.mk a0n a0b a0p a0w a0o a0l).worn.length < 1073741824)),(.vs (.rI .i64 (Dk.wornl (Dk.D.mk a0n a0b a0p a0w a0o a0l))) 0 1),[(.cells 5 (.segs (.cons 1 (.one (.own 1 (Dk.D.mk a0n a0b a0p a0w a0o a0l).n 64)) (.cons 1 (.one (.mp 2)) (.cons 1 (.one (.mp 3)) (.cons 1 (.one (.bool (Dk.D.mk a0n a0b a0p a0w a0o a0l).off)) (.cons 1 (.one (.int .i64 (Dk.D.mk a0n a0b a0p a0w a0o a0l).left)) .nil)))))) true),(.cells (Dk.D.mk a0n a0b a0p a0w a0o a0l).blk.length (.rI .u8 (Dk.D.mk a0n a0b a0p a0w a0o a0l).blk) true),(.cells 0 (.rM .i64 0 (.arr .u8 64) (Dk.D.mk a0n a0b a0p a0w a0o a0l).pend) true),(.cells 0 (.rM .i64 0 .bool (Dk.D.mk a0n a0b a0p a0w a0o a0l).worn) true)])
  | _,_ => none
theorem s23 (a0n : Nat) (a0b : List Int) (a0p : List (List Int × List Int)) (a0w : List (List Int × List Int)) (a0o : Bool) (a0l : Int) (hp : ((decide ((Dk.D.mk a0n a0b a0p a0w a0o a0l).worn.length < 1073741824))) = true) (k0 : okB (.cells 5 (.segs (.cons 1 (.one (.own 1 a0n 64)) (.cons 1 (.one (.mp 2)) (.cons 1 (.one (.mp 3)) (.cons 1 (.one (.bool a0o)) (.cons 1 (.one (.int .i64 a0l)) .nil)))))) true)) (k1 : okB (.cells a0b.length (.rI .u8 a0b) true)) (k2 : okB (.cells 0 (.rM .i64 0 (.arr .u8 64) a0p) true)) (k3 : okB (.cells 0 (.rM .i64 0 .bool a0w) true)) : ∃ F,f23 F (a0n,a0b,a0p,a0w,a0o,a0l) = some ((.vs (.rI .i64 (Dk.wornl (Dk.D.mk a0n a0b a0p a0w a0o a0l))) 0 1),[(.cells 5 (.segs (.cons 1 (.one (.own 1 (Dk.D.mk a0n a0b a0p a0w a0o a0l).n 64)) (.cons 1 (.one (.mp 2)) (.cons 1 (.one (.mp 3)) (.cons 1 (.one (.bool (Dk.D.mk a0n a0b a0p a0w a0o a0l).off)) (.cons 1 (.one (.int .i64 (Dk.D.mk a0n a0b a0p a0w a0o a0l).left)) .nil)))))) true),(.cells (Dk.D.mk a0n a0b a0p a0w a0o a0l).blk.length (.rI .u8 (Dk.D.mk a0n a0b a0p a0w a0o a0l).blk) true),(.cells 0 (.rM .i64 0 (.arr .u8 64) (Dk.D.mk a0n a0b a0p a0w a0o a0l).pend) true),(.cells 0 (.rM .i64 0 .bool (Dk.D.mk a0n a0b a0p a0w a0o a0l).worn) true)]) := by exact ⟨0,by simp only [f23,f23_1]; rw [hp]; rfl⟩

theorem c23 : CallOk Try.prog G35 23 r23 := callOk_of (V := VG3523) mixed tys eVG3523 (f := 23) (fn := Try.f23) Try.func23 (by kernel_rfl) (c := sub (bodyOf Try.f23) []) (by kernel_rfl) (by
  intro X H r H' h hX hH
  unfold r23 at h; split at h <;> try contradiction
  · simp only [Option.some.injEq,Prod.mk.injEq] at h
    obtain ⟨hp,rfl,rfl⟩ := h
    obtain rfl := okB_size (hH _ (.tail _ (.head _))) rfl
    obtain ⟨F,hF⟩ := s23 _ _ _ _ _ _ hp (hH _ (.head _)) (hH _ (.tail _ (.head _))) (hH _ (.tail _ (.tail _ (.head _)))) (hH _ (.tail _ (.tail _ (.tail _ (.head _)))))
    exact ⟨Af23 F,(f23_body F _ _ _ _ _ _).trans hF⟩)
def lVG3516 : List CEnt := [(46,[none,none],r46)]
def VG3516 : Env := mkEnv T35 G35 lVG3516
theorem eVG3516 : EOk Try.prog VG3516 := eok_mk (by exact ⟨c46,trivial⟩)
def Af16 (F : Nat) : Cuts := { F := F,at_ := fun _ => none,join := fun _ => none }
def ef16_a : Ty1 → St := fun (a0n,a0b,a0p,a0w,a0o,a0l,a1) => { tmps := [(0,(.ptr 0 0 5 0 0 0 5)),(1,(.int .i64 a1))],heap := [(0,(.cells 5 (.segs (.cons 1 (.one (.own 1 a0n 64)) (.cons 1 (.one (.mp 2)) (.cons 1 (.one (.mp 3)) (.cons 1 (.one (.bool a0o)) (.cons 1 (.one (.int .i64 a0l)) .nil)))))) true)),(1,(.cells a0b.length (.rI .u8 a0b) true)),(2,(.cells 0 (.rM .i64 0 (.arr .u8 64) a0p) true)),(3,(.cells 0 (.rM .i64 0 .bool a0w) true))],next := 4,nt := 35,m := 4 }
def f16_1 (F : Nat) : Ty1 → Rz := fun (a0n,a0b,a0p,a0w,a0o,a0l,a1) => (cond ((Dk.check (Dk.D.mk a0n a0b a0p a0w a0o a0l) a1) != (0 : Int)) (some ((.tup (.cons 0 (.str []) (.cons 0 (.int .i64 (Dk.check (Dk.D.mk a0n a0b a0p a0w a0o a0l) a1)) .nil))),[(.cells 5 (.segs (.cons 1 (.one (.own 1 (Dk.D.mk a0n a0b a0p a0w a0o a0l).n 64)) (.cons 1 (.one (.mp 2)) (.cons 1 (.one (.mp 3)) (.cons 1 (.one (.bool (Dk.D.mk a0n a0b a0p a0w a0o a0l).off)) (.cons 1 (.one (.int .i64 (Dk.D.mk a0n a0b a0p a0w a0o a0l).left)) .nil)))))) true),(.cells (Dk.D.mk a0n a0b a0p a0w a0o a0l).blk.length (.rI .u8 (Dk.D.mk a0n a0b a0p a0w a0o a0l).blk) true),(.cells 0 (.rM .i64 0 (.arr .u8 64) (Dk.D.mk a0n a0b a0p a0w a0o a0l).pend) true),(.cells 0 (.rM .i64 0 .bool (Dk.D.mk a0n a0b a0p a0w a0o a0l).worn) true)])) (cond (mhas (Dk.D.mk a0n a0b a0p a0w a0o a0l).pend [a1]) (some ((.tup (.cons 0 (.str ((mget (mzero (.arr .u8 64)) (Dk.D.mk a0n a0b a0p a0w a0o a0l).pend [a1]).take 64)) (.cons 0 (.int .i64 (0 : Int)) .nil))),[(.cells 5 (.segs (.cons 1 (.one (.own 1 (Dk.D.mk a0n a0b a0p a0w a0o a0l).n 64)) (.cons 1 (.one (.mp 2)) (.cons 1 (.one (.mp 3)) (.cons 1 (.one (.bool (Dk.D.mk a0n a0b a0p a0w a0o a0l).off)) (.cons 1 (.one (.int .i64 (Dk.D.mk a0n a0b a0p a0w a0o a0l).left)) .nil)))))) true),(.cells (Dk.D.mk a0n a0b a0p a0w a0o a0l).blk.length (.rI .u8 (Dk.D.mk a0n a0b a0p a0w a0o a0l).blk) true),(.cells 0 (.rM .i64 0 (.arr .u8 64) (Dk.D.mk a0n a0b a0p a0w a0o a0l).pend) true),(.cells 0 (.rM .i64 0 .bool (Dk.D.mk a0n a0b a0p a0w a0o a0l).worn) true)])) (cond ((decide (0 ≤ a1)) && (decide (a1 < (↑(Dk.D.mk a0n a0b a0p a0w a0o a0l).n : Int)))) (some ((.tup (.cons 0 (.str (((Dk.D.mk a0n a0b a0p a0w a0o a0l).blk.drop (0 + (0 + ((Int.toNat a1) * 64)))).take 64)) (.cons 0 (.int .i64 (0 : Int)) .nil))),[(.cells 5 (.segs (.cons 1 (.one (.own 1 (Dk.D.mk a0n a0b a0p a0w a0o a0l).n 64)) (.cons 1 (.one (.mp 2)) (.cons 1 (.one (.mp 3)) (.cons 1 (.one (.bool (Dk.D.mk a0n a0b a0p a0w a0o a0l).off)) (.cons 1 (.one (.int .i64 (Dk.D.mk a0n a0b a0p a0w a0o a0l).left)) .nil)))))) true),(.cells (Dk.D.mk a0n a0b a0p a0w a0o a0l).blk.length (.rI .u8 (Dk.D.mk a0n a0b a0p a0w a0o a0l).blk) true),(.cells 0 (.rM .i64 0 (.arr .u8 64) (Dk.D.mk a0n a0b a0p a0w a0o a0l).pend) true),(.cells 0 (.rM .i64 0 .bool (Dk.D.mk a0n a0b a0p a0w a0o a0l).worn) true)])) none)))
theorem f16_1_eq (F : Nat) : ∀ v,aexec VG3516 (Af16 F) (sub (bodyOf Try.f16) []) (ef16_a v) (kFin VG3516 none (Try.f16).results.toList) = f16_1 F v := by
  rintro ⟨a0n,a0b,a0p,a0w,a0o,a0l,a1⟩; kernel_rfl
def f16 (F : Nat) : Ty1 → Rz := f16_1 F
theorem f16_body (F : Nat) (a0n : Nat) (a0b : List Int) (a0p : List (List Int × List Int)) (a0w : List (List Int × List Int)) (a0o : Bool) (a0l : Int) (a1 : Int) : abody VG3516 (Af16 F) Try.f16 [(.ptr 0 0 5 0 0 0 5),(.int .i64 a1)] [(.cells 5 (.segs (.cons 1 (.one (.own 1 a0n 64)) (.cons 1 (.one (.mp 2)) (.cons 1 (.one (.mp 3)) (.cons 1 (.one (.bool a0o)) (.cons 1 (.one (.int .i64 a0l)) .nil)))))) true),(.cells a0b.length (.rI .u8 a0b) true),(.cells 0 (.rM .i64 0 (.arr .u8 64) a0p) true),(.cells 0 (.rM .i64 0 .bool a0w) true)] = f16 F (a0n,a0b,a0p,a0w,a0o,a0l,a1) :=
  (abody_in (c := (sub (bodyOf Try.f16) [])) (by kernel_rfl) (s := ef16_a (a0n,a0b,a0p,a0w,a0o,a0l,a1)) (by kernel_rfl)).trans (f16_1_eq F (a0n,a0b,a0p,a0w,a0o,a0l,a1))
def r16 : CRun := fun X H => match X,H with
  | [(.ptr 0 0 5 0 0 0 5),(.int .i64 a1)],[(.cells 5 (.segs (.cons 1 (.one (.own 1 a0n 64)) (.cons 1 (.one (.mp 2)) (.cons 1 (.one (.mp 3)) (.cons 1 (.one (.bool a0o)) (.cons 1 (.one (.int .i64 a0l)) .nil)))))) true),(.cells z1 (.rI .u8 a0b) true),(.cells 0 (.rM .i64 0 (.arr .u8 64) a0p) true),(.cells 0 (.rM .i64 0 .bool a0w) true)] => some (true,(.tup (.cons 0 (.str (Dk.read (Dk.D.mk a0n a0b a0p a0w a0o a0l) a1).1) (.cons 0 (.int .i64 (Dk.read (Dk.D.mk a0n a0b a0p a0w a0o a0l) a1).2) .nil))),[(.cells 5 (.segs (.cons 1 (.one (.own 1 (Dk.D.mk a0n a0b a0p a0w a0o a0l).n 64)) (.cons 1 (.one (.mp 2)) (.cons 1 (.one (.mp 3)) (.cons 1 (.one (.bool (Dk.D.mk a0n a0b a0p a0w a0o a0l).off)) (.cons 1 (.one (.int .i64 (Dk.D.mk a0n a0b a0p a0w a0o a0l).left)) .nil)))))) true),(.cells (Dk.D.mk a0n a0b a0p a0w a0o a0l).blk.length (.rI .u8 (Dk.D.mk a0n a0b a0p a0w a0o a0l).blk) true),(.cells 0 (.rM .i64 0 (.arr .u8 64) (Dk.D.mk a0n a0b a0p a0w a0o a0l).pend) true),(.cells 0 (.rM .i64 0 .bool (Dk.D.mk a0n a0b a0p a0w a0o a0l).worn) true)])
  | _,_ => none
theorem s16 (a0n : Nat) (a0b : List Int) (a0p : List (List Int × List Int)) (a0w : List (List Int × List Int)) (a0o : Bool) (a0l : Int) (a1 : Int) (h1 : okV (.int .i64 a1)) (k0 : okB (.cells 5 (.segs (.cons 1 (.one (.own 1 a0n 64)) (.cons 1 (.one (.mp 2)) (.cons 1 (.one (.mp 3)) (.cons 1 (.one (.bool a0o)) (.cons 1 (.one (.int .i64 a0l)) .nil)))))) true)) (k1 : okB (.cells a0b.length (.rI .u8 a0b) true)) (k2 : okB (.cells 0 (.rM .i64 0 (.arr .u8 64) a0p) true)) (k3 : okB (.cells 0 (.rM .i64 0 .bool a0w) true)) : ∃ F,f16 F (a0n,a0b,a0p,a0w,a0o,a0l,a1) = some ((.tup (.cons 0 (.str (Dk.read (Dk.D.mk a0n a0b a0p a0w a0o a0l) a1).1) (.cons 0 (.int .i64 (Dk.read (Dk.D.mk a0n a0b a0p a0w a0o a0l) a1).2) .nil))),[(.cells 5 (.segs (.cons 1 (.one (.own 1 (Dk.D.mk a0n a0b a0p a0w a0o a0l).n 64)) (.cons 1 (.one (.mp 2)) (.cons 1 (.one (.mp 3)) (.cons 1 (.one (.bool (Dk.D.mk a0n a0b a0p a0w a0o a0l).off)) (.cons 1 (.one (.int .i64 (Dk.D.mk a0n a0b a0p a0w a0o a0l).left)) .nil)))))) true),(.cells (Dk.D.mk a0n a0b a0p a0w a0o a0l).blk.length (.rI .u8 (Dk.D.mk a0n a0b a0p a0w a0o a0l).blk) true),(.cells 0 (.rM .i64 0 (.arr .u8 64) (Dk.D.mk a0n a0b a0p a0w a0o a0l).pend) true),(.cells 0 (.rM .i64 0 .bool (Dk.D.mk a0n a0b a0p a0w a0o a0l).worn) true)]) := by
  refine ⟨0,?_⟩
  simp only [f16,f16_1,Dk.read,Dk.isP,Dk.nxt,Dk.sec,Nat.zero_add,mzero]
  by_cases hc : Dk.check (Dk.D.mk a0n a0b a0p a0w a0o a0l) a1 = 0
  · obtain ⟨h1,h2,h3⟩ := Dk.check_ok hc
    have e : (decide (0 ≤ a1) && decide (a1 < (a0n : Int))) = true := by simp; exact ⟨h2,h3⟩
    rw [hc,e]
    cases mhas a0p [a1] <;> rfl
  · have e : (Dk.check (Dk.D.mk a0n a0b a0p a0w a0o a0l) a1 != 0) = true := by simp [hc]
    rw [e]; rfl

theorem c16 : CallOk Try.prog G35 16 r16 := callOk_of (V := VG3516) mixed tys eVG3516 (f := 16) (fn := Try.f16) Try.func16 (by kernel_rfl) (c := sub (bodyOf Try.f16) []) (by kernel_rfl) (by
  intro X H r H' h hX hH
  unfold r16 at h; split at h <;> try contradiction
  · simp only [Option.some.injEq,Prod.mk.injEq] at h
    obtain ⟨hp,rfl,rfl⟩ := h
    obtain rfl := okB_size (hH _ (.tail _ (.head _))) rfl
    obtain ⟨F,hF⟩ := s16 _ _ _ _ _ _ _ (hX _ (.tail _ (.head _))) (hH _ (.head _)) (hH _ (.tail _ (.head _))) (hH _ (.tail _ (.tail _ (.head _)))) (hH _ (.tail _ (.tail _ (.tail _ (.head _)))))
    exact ⟨Af16 F,(f16_body F _ _ _ _ _ _ _).trans hF⟩)
def lVG3517 : List CEnt := [(46,[none,none],r46),(47,[none],r47)]
def VG3517 : Env := mkEnv T35 G35 lVG3517
theorem eVG3517 : EOk Try.prog VG3517 := eok_mk (by exact ⟨c46,c47,trivial⟩)
def Af17 (F : Nat) : Cuts := { F := F,at_ := fun _ => none,join := fun _ => none }
def ef17_a : Ty3 → St := fun (a0n,a0b,a0p,a0w,a0o,a0l,a1,a2) => { tmps := [(0,(.ptr 0 0 5 0 0 0 5)),(1,(.int .i64 a1)),(2,(.str a2))],heap := [(0,(.cells 5 (.segs (.cons 1 (.one (.own 1 a0n 64)) (.cons 1 (.one (.mp 2)) (.cons 1 (.one (.mp 3)) (.cons 1 (.one (.bool a0o)) (.cons 1 (.one (.int .i64 a0l)) .nil)))))) true)),(1,(.cells a0b.length (.rI .u8 a0b) true)),(2,(.cells 0 (.rM .i64 0 (.arr .u8 64) a0p) true)),(3,(.cells 0 (.rM .i64 0 .bool a0w) true))],next := 4,nt := 32,m := 4 }
def f17_1 (F : Nat) : Ty3 → Rz := fun (a0n,a0b,a0p,a0w,a0o,a0l,a1,a2) => (cond ((Dk.check (Dk.D.mk a0n a0b a0p a0w a0o a0l) a1) != (0 : Int)) (some ((.int .i64 (Dk.check (Dk.D.mk a0n a0b a0p a0w a0o a0l) a1)),[(.cells 5 (.segs (.cons 1 (.one (.own 1 (Dk.D.mk a0n a0b a0p a0w a0o a0l).n 64)) (.cons 1 (.one (.mp 2)) (.cons 1 (.one (.mp 3)) (.cons 1 (.one (.bool (Dk.D.mk a0n a0b a0p a0w a0o a0l).off)) (.cons 1 (.one (.int .i64 (Dk.D.mk a0n a0b a0p a0w a0o a0l).left)) .nil)))))) true),(.cells (Dk.D.mk a0n a0b a0p a0w a0o a0l).blk.length (.rI .u8 (Dk.D.mk a0n a0b a0p a0w a0o a0l).blk) true),(.cells 0 (.rM .i64 0 (.arr .u8 64) (Dk.D.mk a0n a0b a0p a0w a0o a0l).pend) true),(.cells 0 (.rM .i64 0 .bool (Dk.D.mk a0n a0b a0p a0w a0o a0l).worn) true)])) (cond ((↑a2.length : Int) != (64 : Int)) (some ((.int .i64 (1 : Int)),[(.cells 5 (.segs (.cons 1 (.one (.own 1 (Dk.D.mk a0n a0b a0p a0w a0o a0l).n 64)) (.cons 1 (.one (.mp 2)) (.cons 1 (.one (.mp 3)) (.cons 1 (.one (.bool (Dk.D.mk a0n a0b a0p a0w a0o a0l).off)) (.cons 1 (.one (.int .i64 (Dk.D.mk a0n a0b a0p a0w a0o a0l).left)) .nil)))))) true),(.cells (Dk.D.mk a0n a0b a0p a0w a0o a0l).blk.length (.rI .u8 (Dk.D.mk a0n a0b a0p a0w a0o a0l).blk) true),(.cells 0 (.rM .i64 0 (.arr .u8 64) (Dk.D.mk a0n a0b a0p a0w a0o a0l).pend) true),(.cells 0 (.rM .i64 0 .bool (Dk.D.mk a0n a0b a0p a0w a0o a0l).worn) true)])) (cond ((Dk.step (Dk.D.mk a0n a0b a0p a0w a0o a0l)).2 != (0 : Int)) (some ((.int .i64 (Dk.step (Dk.D.mk a0n a0b a0p a0w a0o a0l)).2),[(.cells 5 (.segs (.cons 1 (.one (.own 1 (Dk.step (Dk.D.mk a0n a0b a0p a0w a0o a0l)).1.n 64)) (.cons 1 (.one (.mp 2)) (.cons 1 (.one (.mp 3)) (.cons 1 (.one (.bool (Dk.step (Dk.D.mk a0n a0b a0p a0w a0o a0l)).1.off)) (.cons 1 (.one (.int .i64 (Dk.step (Dk.D.mk a0n a0b a0p a0w a0o a0l)).1.left)) .nil)))))) true),(.cells (Dk.step (Dk.D.mk a0n a0b a0p a0w a0o a0l)).1.blk.length (.rI .u8 (Dk.step (Dk.D.mk a0n a0b a0p a0w a0o a0l)).1.blk) true),(.cells 0 (.rM .i64 0 (.arr .u8 64) (Dk.step (Dk.D.mk a0n a0b a0p a0w a0o a0l)).1.pend) true),(.cells 0 (.rM .i64 0 .bool (Dk.step (Dk.D.mk a0n a0b a0p a0w a0o a0l)).1.worn) true)])) (cond (decide (64 ≤ a2.length)) (some ((.int .i64 (0 : Int)),[(.cells 5 (.segs (.cons 1 (.one (.own 1 (Dk.step (Dk.D.mk a0n a0b a0p a0w a0o a0l)).1.n 64)) (.cons 1 (.one (.mp 2)) (.cons 1 (.one (.mp 3)) (.cons 1 (.one (.bool (Dk.step (Dk.D.mk a0n a0b a0p a0w a0o a0l)).1.off)) (.cons 1 (.one (.int .i64 (Dk.step (Dk.D.mk a0n a0b a0p a0w a0o a0l)).1.left)) .nil)))))) true),(.cells (Dk.step (Dk.D.mk a0n a0b a0p a0w a0o a0l)).1.blk.length (.rI .u8 (Dk.step (Dk.D.mk a0n a0b a0p a0w a0o a0l)).1.blk) true),(.cells 0 (.rM .i64 0 (.arr .u8 64) (mput (Dk.step (Dk.D.mk a0n a0b a0p a0w a0o a0l)).1.pend [a1] (a2.take 64))) true),(.cells 0 (.rM .i64 0 .bool (Dk.step (Dk.D.mk a0n a0b a0p a0w a0o a0l)).1.worn) true)])) none))))
theorem f17_1_eq (F : Nat) : ∀ v,aexec VG3517 (Af17 F) (sub (bodyOf Try.f17) []) (ef17_a v) (kFin VG3517 none (Try.f17).results.toList) = f17_1 F v := by
  rintro ⟨a0n,a0b,a0p,a0w,a0o,a0l,a1,a2⟩; kernel_rfl
def f17 (F : Nat) : Ty3 → Rz := f17_1 F
theorem f17_body (F : Nat) (a0n : Nat) (a0b : List Int) (a0p : List (List Int × List Int)) (a0w : List (List Int × List Int)) (a0o : Bool) (a0l : Int) (a1 : Int) (a2 : List Int) : abody VG3517 (Af17 F) Try.f17 [(.ptr 0 0 5 0 0 0 5),(.int .i64 a1),(.str a2)] [(.cells 5 (.segs (.cons 1 (.one (.own 1 a0n 64)) (.cons 1 (.one (.mp 2)) (.cons 1 (.one (.mp 3)) (.cons 1 (.one (.bool a0o)) (.cons 1 (.one (.int .i64 a0l)) .nil)))))) true),(.cells a0b.length (.rI .u8 a0b) true),(.cells 0 (.rM .i64 0 (.arr .u8 64) a0p) true),(.cells 0 (.rM .i64 0 .bool a0w) true)] = f17 F (a0n,a0b,a0p,a0w,a0o,a0l,a1,a2) :=
  (abody_in (c := (sub (bodyOf Try.f17) [])) (by kernel_rfl) (s := ef17_a (a0n,a0b,a0p,a0w,a0o,a0l,a1,a2)) (by kernel_rfl)).trans (f17_1_eq F (a0n,a0b,a0p,a0w,a0o,a0l,a1,a2))
def r17 : CRun := fun X H => match X,H with
  | [(.ptr 0 0 5 0 0 0 5),(.int .i64 a1),(.str a2)],[(.cells 5 (.segs (.cons 1 (.one (.own 1 a0n 64)) (.cons 1 (.one (.mp 2)) (.cons 1 (.one (.mp 3)) (.cons 1 (.one (.bool a0o)) (.cons 1 (.one (.int .i64 a0l)) .nil)))))) true),(.cells z1 (.rI .u8 a0b) true),(.cells 0 (.rM .i64 0 (.arr .u8 64) a0p) true),(.cells 0 (.rM .i64 0 .bool a0w) true)] => some (true,(.int .i64 (Dk.write (Dk.D.mk a0n a0b a0p a0w a0o a0l) a1 a2).2),[(.cells 5 (.segs (.cons 1 (.one (.own 1 (Dk.write (Dk.D.mk a0n a0b a0p a0w a0o a0l) a1 a2).1.n 64)) (.cons 1 (.one (.mp 2)) (.cons 1 (.one (.mp 3)) (.cons 1 (.one (.bool (Dk.write (Dk.D.mk a0n a0b a0p a0w a0o a0l) a1 a2).1.off)) (.cons 1 (.one (.int .i64 (Dk.write (Dk.D.mk a0n a0b a0p a0w a0o a0l) a1 a2).1.left)) .nil)))))) true),(.cells (Dk.write (Dk.D.mk a0n a0b a0p a0w a0o a0l) a1 a2).1.blk.length (.rI .u8 (Dk.write (Dk.D.mk a0n a0b a0p a0w a0o a0l) a1 a2).1.blk) true),(.cells 0 (.rM .i64 0 (.arr .u8 64) (Dk.write (Dk.D.mk a0n a0b a0p a0w a0o a0l) a1 a2).1.pend) true),(.cells 0 (.rM .i64 0 .bool (Dk.write (Dk.D.mk a0n a0b a0p a0w a0o a0l) a1 a2).1.worn) true)])
  | _,_ => none
theorem s17 (a0n : Nat) (a0b : List Int) (a0p : List (List Int × List Int)) (a0w : List (List Int × List Int)) (a0o : Bool) (a0l : Int) (a1 : Int) (a2 : List Int) (h1 : okV (.int .i64 a1)) (h2 : okV (.str a2)) (k0 : okB (.cells 5 (.segs (.cons 1 (.one (.own 1 a0n 64)) (.cons 1 (.one (.mp 2)) (.cons 1 (.one (.mp 3)) (.cons 1 (.one (.bool a0o)) (.cons 1 (.one (.int .i64 a0l)) .nil)))))) true)) (k1 : okB (.cells a0b.length (.rI .u8 a0b) true)) (k2 : okB (.cells 0 (.rM .i64 0 (.arr .u8 64) a0p) true)) (k3 : okB (.cells 0 (.rM .i64 0 .bool a0w) true)) : ∃ F,f17 F (a0n,a0b,a0p,a0w,a0o,a0l,a1,a2) = some ((.int .i64 (Dk.write (Dk.D.mk a0n a0b a0p a0w a0o a0l) a1 a2).2),[(.cells 5 (.segs (.cons 1 (.one (.own 1 (Dk.write (Dk.D.mk a0n a0b a0p a0w a0o a0l) a1 a2).1.n 64)) (.cons 1 (.one (.mp 2)) (.cons 1 (.one (.mp 3)) (.cons 1 (.one (.bool (Dk.write (Dk.D.mk a0n a0b a0p a0w a0o a0l) a1 a2).1.off)) (.cons 1 (.one (.int .i64 (Dk.write (Dk.D.mk a0n a0b a0p a0w a0o a0l) a1 a2).1.left)) .nil)))))) true),(.cells (Dk.write (Dk.D.mk a0n a0b a0p a0w a0o a0l) a1 a2).1.blk.length (.rI .u8 (Dk.write (Dk.D.mk a0n a0b a0p a0w a0o a0l) a1 a2).1.blk) true),(.cells 0 (.rM .i64 0 (.arr .u8 64) (Dk.write (Dk.D.mk a0n a0b a0p a0w a0o a0l) a1 a2).1.pend) true),(.cells 0 (.rM .i64 0 .bool (Dk.write (Dk.D.mk a0n a0b a0p a0w a0o a0l) a1 a2).1.worn) true)]) := by
  refine ⟨0,?_⟩
  simp only [f17,f17_1,Dk.write]
  cases hc : (Dk.check (Dk.D.mk a0n a0b a0p a0w a0o a0l) a1 != 0)
  · cases hl : ((a2.length : Int) != 64)
    · cases hs : ((Dk.step (Dk.D.mk a0n a0b a0p a0w a0o a0l)).2 != 0)
      · have e : decide (64 ≤ a2.length) = true := by
          rw [decide_eq_true_iff]
          have : (a2.length : Int) = 64 := by simpa using hl
          omega
        rw [e]; rfl
      · rfl
    · rfl
  · rfl

theorem c17 : CallOk Try.prog G35 17 r17 := callOk_of (V := VG3517) mixed tys eVG3517 (f := 17) (fn := Try.f17) Try.func17 (by kernel_rfl) (c := sub (bodyOf Try.f17) []) (by kernel_rfl) (by
  intro X H r H' h hX hH
  unfold r17 at h; split at h <;> try contradiction
  · simp only [Option.some.injEq,Prod.mk.injEq] at h
    obtain ⟨hp,rfl,rfl⟩ := h
    obtain rfl := okB_size (hH _ (.tail _ (.head _))) rfl
    obtain ⟨F,hF⟩ := s17 _ _ _ _ _ _ _ _ (hX _ (.tail _ (.head _))) (hX _ (.tail _ (.tail _ (.head _)))) (hH _ (.head _)) (hH _ (.tail _ (.head _))) (hH _ (.tail _ (.tail _ (.head _)))) (hH _ (.tail _ (.tail _ (.tail _ (.head _)))))
    exact ⟨Af17 F,(f17_body F _ _ _ _ _ _ _ _).trans hF⟩)
def lVG3551 : List CEnt := []
def VG3551 : Env := mkEnv T35 G35 lVG3551
theorem eVG3551 : EOk Try.prog VG3551 := eok_mk (by exact trivial)
def Af51 (F : Nat) : Cuts := { F := F,at_ := fun _ => none,join := fun _ => none }
def ef51_a : Ty4 → St := fun (a0n,a0b,a0p,a0w,a0o,a0l,a1,a2) => { tmps := [(0,(.ptr 0 0 5 0 0 0 5)),(1,(.int .i64 a1)),(2,(.int .i64 a2))],heap := [(0,(.cells 5 (.segs (.cons 1 (.one (.own 1 a0n 64)) (.cons 1 (.one (.mp 2)) (.cons 1 (.one (.mp 3)) (.cons 1 (.one (.bool a0o)) (.cons 1 (.one (.int .i64 a0l)) .nil)))))) true)),(1,(.cells a0b.length (.rI .u8 a0b) true)),(2,(.cells 0 (.rM .i64 0 (.arr .u8 64) a0p) true)),(3,(.cells 0 (.rM .i64 0 .bool a0w) true))],next := 4,nt := 48,m := 4 }
def f51_1 (F : Nat) : Ty4 → Rz := fun (a0n,a0b,a0p,a0w,a0o,a0l,a1,a2) => (cond (!((mget (mzero .bool) a0w [a1]).getD 0 0 == 1)) (cond ((decide (0 ≤ a1)) && (decide (a1 < (↑a0n : Int)))) (cond (!(((mget (mzero (.arr .u8 64)) a0p [a1]) : List Int) == ((a0b.drop ((Int.toNat a1) * 64)).take 64))) (cond ((decide (0 ≤ a1)) && (decide (a1 < (↑a0n : Int)))) (cond ((decide ((0 : Int) ≤ (if (if (64 : Int) < a2 then (64 : Int) else a2) > (0 : Int) then (if (64 : Int) < a2 then (64 : Int) else a2) else (0 : Int)))) && (decide ((if (if (64 : Int) < a2 then (64 : Int) else a2) > (0 : Int) then (if (64 : Int) < a2 then (64 : Int) else a2) else (0 : Int)) ≤ (64 : Int)))) (some ((.tup .nil),[(.cells 5 (.segs (.cons 1 (.one (.own 1 a0n 64)) (.cons 1 (.one (.mp 2)) (.cons 1 (.one (.mp 3)) (.cons 1 (.one (.bool a0o)) (.cons 1 (.one (.int .i64 a0l)) .nil)))))) true),(.cells a0b.length (.rI .u8 (a0b.take (0 + (0 + ((Int.toNat a1) * 64))) ++ (((mget (mzero (.arr .u8 64)) a0p [a1]).take 64).take (min 64 (Int.toNat (if (if (64 : Int) < a2 then (64 : Int) else a2) > (0 : Int) then (if (64 : Int) < a2 then (64 : Int) else a2) else (0 : Int))))) ++ a0b.drop ((0 + (0 + ((Int.toNat a1) * 64))) + (min 64 (Int.toNat (if (if (64 : Int) < a2 then (64 : Int) else a2) > (0 : Int) then (if (64 : Int) < a2 then (64 : Int) else a2) else (0 : Int))))))) true),(.cells 0 (.rM .i64 0 (.arr .u8 64) (mdel a0p [a1])) true),(.cells 0 (.rM .i64 0 .bool a0w) true)])) none) none) (some ((.tup .nil),[(.cells 5 (.segs (.cons 1 (.one (.own 1 a0n 64)) (.cons 1 (.one (.mp 2)) (.cons 1 (.one (.mp 3)) (.cons 1 (.one (.bool a0o)) (.cons 1 (.one (.int .i64 a0l)) .nil)))))) true),(.cells a0b.length (.rI .u8 a0b) true),(.cells 0 (.rM .i64 0 (.arr .u8 64) (mdel a0p [a1])) true),(.cells 0 (.rM .i64 0 .bool a0w) true)]))) none) (some ((.tup .nil),[(.cells 5 (.segs (.cons 1 (.one (.own 1 a0n 64)) (.cons 1 (.one (.mp 2)) (.cons 1 (.one (.mp 3)) (.cons 1 (.one (.bool a0o)) (.cons 1 (.one (.int .i64 a0l)) .nil)))))) true),(.cells a0b.length (.rI .u8 a0b) true),(.cells 0 (.rM .i64 0 (.arr .u8 64) (mdel a0p [a1])) true),(.cells 0 (.rM .i64 0 .bool a0w) true)])))
theorem f51_1_eq (F : Nat) : ∀ v,aexec VG3551 (Af51 F) (sub (bodyOf Try.f51) []) (ef51_a v) (kFin VG3551 none (Try.f51).results.toList) = f51_1 F v := by
  rintro ⟨a0n,a0b,a0p,a0w,a0o,a0l,a1,a2⟩; kernel_rfl
def f51 (F : Nat) : Ty4 → Rz := f51_1 F
theorem f51_body (F : Nat) (a0n : Nat) (a0b : List Int) (a0p : List (List Int × List Int)) (a0w : List (List Int × List Int)) (a0o : Bool) (a0l : Int) (a1 : Int) (a2 : Int) : abody VG3551 (Af51 F) Try.f51 [(.ptr 0 0 5 0 0 0 5),(.int .i64 a1),(.int .i64 a2)] [(.cells 5 (.segs (.cons 1 (.one (.own 1 a0n 64)) (.cons 1 (.one (.mp 2)) (.cons 1 (.one (.mp 3)) (.cons 1 (.one (.bool a0o)) (.cons 1 (.one (.int .i64 a0l)) .nil)))))) true),(.cells a0b.length (.rI .u8 a0b) true),(.cells 0 (.rM .i64 0 (.arr .u8 64) a0p) true),(.cells 0 (.rM .i64 0 .bool a0w) true)] = f51 F (a0n,a0b,a0p,a0w,a0o,a0l,a1,a2) :=
  (abody_in (c := (sub (bodyOf Try.f51) [])) (by kernel_rfl) (s := ef51_a (a0n,a0b,a0p,a0w,a0o,a0l,a1,a2)) (by kernel_rfl)).trans (f51_1_eq F (a0n,a0b,a0p,a0w,a0o,a0l,a1,a2))
def r51 : CRun := fun X H => match X,H with
  | [(.ptr 0 0 5 0 0 0 5),(.int .i64 a1),(.int .i64 a2)],[(.cells 5 (.segs (.cons 1 (.one (.own 1 a0n 64)) (.cons 1 (.one (.mp 2)) (.cons 1 (.one (.mp 3)) (.cons 1 (.one (.bool a0o)) (.cons 1 (.one (.int .i64 a0l)) .nil)))))) true),(.cells z1 (.rI .u8 a0b) true),(.cells 0 (.rM .i64 0 (.arr .u8 64) a0p) true),(.cells 0 (.rM .i64 0 .bool a0w) true)] => some ((Dk.inD (Dk.D.mk a0n a0b a0p a0w a0o a0l) a1) && (decide ((Dk.D.mk a0n a0b a0p a0w a0o a0l).blk.length = (Dk.D.mk a0n a0b a0p a0w a0o a0l).n * 64)),(.tup .nil),[(.cells 5 (.segs (.cons 1 (.one (.own 1 (Dk.settle (Dk.D.mk a0n a0b a0p a0w a0o a0l) a1 a2).n 64)) (.cons 1 (.one (.mp 2)) (.cons 1 (.one (.mp 3)) (.cons 1 (.one (.bool (Dk.settle (Dk.D.mk a0n a0b a0p a0w a0o a0l) a1 a2).off)) (.cons 1 (.one (.int .i64 (Dk.settle (Dk.D.mk a0n a0b a0p a0w a0o a0l) a1 a2).left)) .nil)))))) true),(.cells (Dk.settle (Dk.D.mk a0n a0b a0p a0w a0o a0l) a1 a2).blk.length (.rI .u8 (Dk.settle (Dk.D.mk a0n a0b a0p a0w a0o a0l) a1 a2).blk) true),(.cells 0 (.rM .i64 0 (.arr .u8 64) (Dk.settle (Dk.D.mk a0n a0b a0p a0w a0o a0l) a1 a2).pend) true),(.cells 0 (.rM .i64 0 .bool (Dk.settle (Dk.D.mk a0n a0b a0p a0w a0o a0l) a1 a2).worn) true)])
  | _,_ => none
theorem s51 (a0n : Nat) (a0b : List Int) (a0p : List (List Int × List Int)) (a0w : List (List Int × List Int)) (a0o : Bool) (a0l : Int) (a1 : Int) (a2 : Int) (hp : ((Dk.inD (Dk.D.mk a0n a0b a0p a0w a0o a0l) a1) && (decide ((Dk.D.mk a0n a0b a0p a0w a0o a0l).blk.length = (Dk.D.mk a0n a0b a0p a0w a0o a0l).n * 64))) = true) (h1 : okV (.int .i64 a1)) (h2 : okV (.int .i64 a2)) (k0 : okB (.cells 5 (.segs (.cons 1 (.one (.own 1 a0n 64)) (.cons 1 (.one (.mp 2)) (.cons 1 (.one (.mp 3)) (.cons 1 (.one (.bool a0o)) (.cons 1 (.one (.int .i64 a0l)) .nil)))))) true)) (k1 : okB (.cells a0b.length (.rI .u8 a0b) true)) (k2 : okB (.cells 0 (.rM .i64 0 (.arr .u8 64) a0p) true)) (k3 : okB (.cells 0 (.rM .i64 0 .bool a0w) true)) : ∃ F,f51 F (a0n,a0b,a0p,a0w,a0o,a0l,a1,a2) = some ((.tup .nil),[(.cells 5 (.segs (.cons 1 (.one (.own 1 (Dk.settle (Dk.D.mk a0n a0b a0p a0w a0o a0l) a1 a2).n 64)) (.cons 1 (.one (.mp 2)) (.cons 1 (.one (.mp 3)) (.cons 1 (.one (.bool (Dk.settle (Dk.D.mk a0n a0b a0p a0w a0o a0l) a1 a2).off)) (.cons 1 (.one (.int .i64 (Dk.settle (Dk.D.mk a0n a0b a0p a0w a0o a0l) a1 a2).left)) .nil)))))) true),(.cells (Dk.settle (Dk.D.mk a0n a0b a0p a0w a0o a0l) a1 a2).blk.length (.rI .u8 (Dk.settle (Dk.D.mk a0n a0b a0p a0w a0o a0l) a1 a2).blk) true),(.cells 0 (.rM .i64 0 (.arr .u8 64) (Dk.settle (Dk.D.mk a0n a0b a0p a0w a0o a0l) a1 a2).pend) true),(.cells 0 (.rM .i64 0 .bool (Dk.settle (Dk.D.mk a0n a0b a0p a0w a0o a0l) a1 a2).worn) true)]) := by
  refine ⟨0,?_⟩
  have hin : (decide (0 ≤ a1) && decide (a1 < (a0n : Int))) = true := (Bool.and_eq_true_iff.1 hp).1
  have hl : a0b.length = a0n * 64 := of_decide_eq_true (Bool.and_eq_true_iff.1 hp).2
  have hi := hin
  rw [dec_and,decide_eq_true_iff] at hi
  have hz := Dk.putsec_len (b := a0b) (i := a1.toNat) (m := min 64 (Dk.clamp a2)) (Dk.mget64 (Dk.vals64 k2) [a1]) (by omega) (by omega)
  simp only [f51,f51_1,Dk.settle,Dk.isW,Dk.nxt,Dk.sec,Dk.putsec,Nat.zero_add,mzero]
  rw [hin]
  cases (!((mget [0] a0w [a1]).getD 0 0 == 1))
  · rfl
  · cases (!(mget (List.replicate 64 0) a0p [a1] == List.take 64 (List.drop (a1.toNat * 64) a0b)))
    · rfl
    · have e : (decide (0 ≤ (if (if 64 < a2 then 64 else a2) > 0 then (if 64 < a2 then 64 else a2) else 0)) && decide ((if (if 64 < a2 then 64 else a2) > 0 then (if 64 < a2 then 64 else a2) else 0) ≤ 64)) = true := by
        rw [dec_and,decide_eq_true_iff]; constructor <;> (split <;> (try split) <;> omega)
      simp only [cond_true]
      rw [e]
      simp only [cond_true]
      simp only [Dk.putsec] at hz
      rw [hz]; rfl

theorem c51 : CallOk Try.prog G35 51 r51 := callOk_of (V := VG3551) mixed tys eVG3551 (f := 51) (fn := Try.f51) Try.func51 (by kernel_rfl) (c := sub (bodyOf Try.f51) []) (by kernel_rfl) (by
  intro X H r H' h hX hH
  unfold r51 at h; split at h <;> try contradiction
  · simp only [Option.some.injEq,Prod.mk.injEq] at h
    obtain ⟨hp,rfl,rfl⟩ := h
    obtain rfl := okB_size (hH _ (.tail _ (.head _))) rfl
    obtain ⟨F,hF⟩ := s51 _ _ _ _ _ _ _ _ hp (hX _ (.tail _ (.head _))) (hX _ (.tail _ (.tail _ (.head _)))) (hH _ (.head _)) (hH _ (.tail _ (.head _))) (hH _ (.tail _ (.tail _ (.head _)))) (hH _ (.tail _ (.tail _ (.tail _ (.head _)))))
    exact ⟨Af51 F,(f51_body F _ _ _ _ _ _ _ _).trans hF⟩)
def lVG3519 : List CEnt := []
def VG3519 : Env := mkEnv T35 G35 lVG3519
theorem eVG3519 : EOk Try.prog VG3519 := eok_mk (by exact trivial)
def Af19 (F : Nat) : Cuts := { F := F,at_ := fun _ => none,join := fun _ => none }
def ef19_a : Ty4 → St := fun (a0n,a0b,a0p,a0w,a0o,a0l,a1,a2) => { tmps := [(0,(.ptr 0 0 5 0 0 0 5)),(1,(.int .i64 a1)),(2,(.int .i64 a2))],heap := [(0,(.cells 5 (.segs (.cons 1 (.one (.own 1 a0n 64)) (.cons 1 (.one (.mp 2)) (.cons 1 (.one (.mp 3)) (.cons 1 (.one (.bool a0o)) (.cons 1 (.one (.int .i64 a0l)) .nil)))))) true)),(1,(.cells a0b.length (.rI .u8 a0b) true)),(2,(.cells 0 (.rM .i64 0 (.arr .u8 64) a0p) true)),(3,(.cells 0 (.rM .i64 0 .bool a0w) true))],next := 4,nt := 42,m := 4 }
def f19_1 (F : Nat) : Ty4 → Rz := fun (a0n,a0b,a0p,a0w,a0o,a0l,a1,a2) => (cond (decide (a1 < (0 : Int))) (some ((.int .i64 (1 : Int)),[(.cells 5 (.segs (.cons 1 (.one (.own 1 a0n 64)) (.cons 1 (.one (.mp 2)) (.cons 1 (.one (.mp 3)) (.cons 1 (.one (.bool a0o)) (.cons 1 (.one (.int .i64 a0l)) .nil)))))) true),(.cells a0b.length (.rI .u8 a0b) true),(.cells 0 (.rM .i64 0 (.arr .u8 64) a0p) true),(.cells 0 (.rM .i64 0 .bool a0w) true)])) (cond (decide (a1 ≥ (↑a0n : Int))) (some ((.int .i64 (1 : Int)),[(.cells 5 (.segs (.cons 1 (.one (.own 1 a0n 64)) (.cons 1 (.one (.mp 2)) (.cons 1 (.one (.mp 3)) (.cons 1 (.one (.bool a0o)) (.cons 1 (.one (.int .i64 a0l)) .nil)))))) true),(.cells a0b.length (.rI .u8 a0b) true),(.cells 0 (.rM .i64 0 (.arr .u8 64) a0p) true),(.cells 0 (.rM .i64 0 .bool a0w) true)])) (cond (decide (a2 < (0 : Int))) (some ((.int .i64 (1 : Int)),[(.cells 5 (.segs (.cons 1 (.one (.own 1 a0n 64)) (.cons 1 (.one (.mp 2)) (.cons 1 (.one (.mp 3)) (.cons 1 (.one (.bool a0o)) (.cons 1 (.one (.int .i64 a0l)) .nil)))))) true),(.cells a0b.length (.rI .u8 a0b) true),(.cells 0 (.rM .i64 0 (.arr .u8 64) a0p) true),(.cells 0 (.rM .i64 0 .bool a0w) true)])) (cond (decide (a2 ≥ (512 : Int))) (some ((.int .i64 (1 : Int)),[(.cells 5 (.segs (.cons 1 (.one (.own 1 a0n 64)) (.cons 1 (.one (.mp 2)) (.cons 1 (.one (.mp 3)) (.cons 1 (.one (.bool a0o)) (.cons 1 (.one (.int .i64 a0l)) .nil)))))) true),(.cells a0b.length (.rI .u8 a0b) true),(.cells 0 (.rM .i64 0 (.arr .u8 64) a0p) true),(.cells 0 (.rM .i64 0 .bool a0w) true)])) (cond ((decide (0 ≤ a1)) && (decide (a1 < (↑a0n : Int)))) (cond ((decide (0 ≤ (IntKind.i64.wrap (Int.tdiv a2 (8 : Int))))) && (decide ((IntKind.i64.wrap (Int.tdiv a2 (8 : Int))) < (64 : Int)))) (cond (decide (0 ≤ (Int.tmod a2 (8 : Int)))) (cond ((decide (0 ≤ a1)) && (decide (a1 < (↑a0n : Int)))) (cond ((decide (0 ≤ (IntKind.i64.wrap (Int.tdiv a2 (8 : Int))))) && (decide ((IntKind.i64.wrap (Int.tdiv a2 (8 : Int))) < (64 : Int)))) (some ((.int .i64 (0 : Int)),[(.cells 5 (.segs (.cons 1 (.one (.own 1 a0n 64)) (.cons 1 (.one (.mp 2)) (.cons 1 (.one (.mp 3)) (.cons 1 (.one (.bool a0o)) (.cons 1 (.one (.int .i64 a0l)) .nil)))))) true),(.cells a0b.length (.rI .u8 (a0b.set ((Int.toNat (IntKind.i64.wrap (Int.tdiv a2 (8 : Int)))) + ((Int.toNat a1) * 64)) (ibits .xor .u8 (a0b.getD ((Int.toNat (IntKind.i64.wrap (Int.tdiv a2 (8 : Int)))) + ((Int.toNat a1) * 64)) 0) (IntKind.u8.wrap ((1 : Int) * 2 ^ (min (Int.toNat (Int.tmod a2 (8 : Int))) 8)))))) true),(.cells 0 (.rM .i64 0 (.arr .u8 64) a0p) true),(.cells 0 (.rM .i64 0 .bool a0w) true)])) none) none) none) none) none)))))
theorem f19_1_eq (F : Nat) : ∀ v,aexec VG3519 (Af19 F) (sub (bodyOf Try.f19) []) (ef19_a v) (kFin VG3519 none (Try.f19).results.toList) = f19_1 F v := by
  rintro ⟨a0n,a0b,a0p,a0w,a0o,a0l,a1,a2⟩; kernel_rfl
def f19 (F : Nat) : Ty4 → Rz := f19_1 F
theorem f19_body (F : Nat) (a0n : Nat) (a0b : List Int) (a0p : List (List Int × List Int)) (a0w : List (List Int × List Int)) (a0o : Bool) (a0l : Int) (a1 : Int) (a2 : Int) : abody VG3519 (Af19 F) Try.f19 [(.ptr 0 0 5 0 0 0 5),(.int .i64 a1),(.int .i64 a2)] [(.cells 5 (.segs (.cons 1 (.one (.own 1 a0n 64)) (.cons 1 (.one (.mp 2)) (.cons 1 (.one (.mp 3)) (.cons 1 (.one (.bool a0o)) (.cons 1 (.one (.int .i64 a0l)) .nil)))))) true),(.cells a0b.length (.rI .u8 a0b) true),(.cells 0 (.rM .i64 0 (.arr .u8 64) a0p) true),(.cells 0 (.rM .i64 0 .bool a0w) true)] = f19 F (a0n,a0b,a0p,a0w,a0o,a0l,a1,a2) :=
  (abody_in (c := (sub (bodyOf Try.f19) [])) (by kernel_rfl) (s := ef19_a (a0n,a0b,a0p,a0w,a0o,a0l,a1,a2)) (by kernel_rfl)).trans (f19_1_eq F (a0n,a0b,a0p,a0w,a0o,a0l,a1,a2))
def r19 : CRun := fun X H => match X,H with
  | [(.ptr 0 0 5 0 0 0 5),(.int .i64 a1),(.int .i64 a2)],[(.cells 5 (.segs (.cons 1 (.one (.own 1 a0n 64)) (.cons 1 (.one (.mp 2)) (.cons 1 (.one (.mp 3)) (.cons 1 (.one (.bool a0o)) (.cons 1 (.one (.int .i64 a0l)) .nil)))))) true),(.cells z1 (.rI .u8 a0b) true),(.cells 0 (.rM .i64 0 (.arr .u8 64) a0p) true),(.cells 0 (.rM .i64 0 .bool a0w) true)] => some (true,(.int .i64 (Dk.rot (Dk.D.mk a0n a0b a0p a0w a0o a0l) a1 a2).2),[(.cells 5 (.segs (.cons 1 (.one (.own 1 (Dk.rot (Dk.D.mk a0n a0b a0p a0w a0o a0l) a1 a2).1.n 64)) (.cons 1 (.one (.mp 2)) (.cons 1 (.one (.mp 3)) (.cons 1 (.one (.bool (Dk.rot (Dk.D.mk a0n a0b a0p a0w a0o a0l) a1 a2).1.off)) (.cons 1 (.one (.int .i64 (Dk.rot (Dk.D.mk a0n a0b a0p a0w a0o a0l) a1 a2).1.left)) .nil)))))) true),(.cells (Dk.rot (Dk.D.mk a0n a0b a0p a0w a0o a0l) a1 a2).1.blk.length (.rI .u8 (Dk.rot (Dk.D.mk a0n a0b a0p a0w a0o a0l) a1 a2).1.blk) true),(.cells 0 (.rM .i64 0 (.arr .u8 64) (Dk.rot (Dk.D.mk a0n a0b a0p a0w a0o a0l) a1 a2).1.pend) true),(.cells 0 (.rM .i64 0 .bool (Dk.rot (Dk.D.mk a0n a0b a0p a0w a0o a0l) a1 a2).1.worn) true)])
  | _,_ => none
theorem s19 (a0n : Nat) (a0b : List Int) (a0p : List (List Int × List Int)) (a0w : List (List Int × List Int)) (a0o : Bool) (a0l : Int) (a1 : Int) (a2 : Int) (h1 : okV (.int .i64 a1)) (h2 : okV (.int .i64 a2)) (k0 : okB (.cells 5 (.segs (.cons 1 (.one (.own 1 a0n 64)) (.cons 1 (.one (.mp 2)) (.cons 1 (.one (.mp 3)) (.cons 1 (.one (.bool a0o)) (.cons 1 (.one (.int .i64 a0l)) .nil)))))) true)) (k1 : okB (.cells a0b.length (.rI .u8 a0b) true)) (k2 : okB (.cells 0 (.rM .i64 0 (.arr .u8 64) a0p) true)) (k3 : okB (.cells 0 (.rM .i64 0 .bool a0w) true)) : ∃ F,f19 F (a0n,a0b,a0p,a0w,a0o,a0l,a1,a2) = some ((.int .i64 (Dk.rot (Dk.D.mk a0n a0b a0p a0w a0o a0l) a1 a2).2),[(.cells 5 (.segs (.cons 1 (.one (.own 1 (Dk.rot (Dk.D.mk a0n a0b a0p a0w a0o a0l) a1 a2).1.n 64)) (.cons 1 (.one (.mp 2)) (.cons 1 (.one (.mp 3)) (.cons 1 (.one (.bool (Dk.rot (Dk.D.mk a0n a0b a0p a0w a0o a0l) a1 a2).1.off)) (.cons 1 (.one (.int .i64 (Dk.rot (Dk.D.mk a0n a0b a0p a0w a0o a0l) a1 a2).1.left)) .nil)))))) true),(.cells (Dk.rot (Dk.D.mk a0n a0b a0p a0w a0o a0l) a1 a2).1.blk.length (.rI .u8 (Dk.rot (Dk.D.mk a0n a0b a0p a0w a0o a0l) a1 a2).1.blk) true),(.cells 0 (.rM .i64 0 (.arr .u8 64) (Dk.rot (Dk.D.mk a0n a0b a0p a0w a0o a0l) a1 a2).1.pend) true),(.cells 0 (.rM .i64 0 .bool (Dk.rot (Dk.D.mk a0n a0b a0p a0w a0o a0l) a1 a2).1.worn) true)]) := by
  refine ⟨0,?_⟩
  simp only [f19,f19_1,Dk.rot]
  by_cases h1 : a1 < 0
  · simp only [cond_pos h1]
  · by_cases h2 : a1 ≥ (a0n : Int)
    · simp only [cond_neg h1,cond_pos h2]
    · by_cases h3 : a2 < 0
      · simp only [cond_neg h1,cond_neg h2,cond_pos h3]
      · by_cases h4 : a2 ≥ 512
        · simp only [cond_neg h1,cond_neg h2,cond_neg h3,cond_pos h4]
        · have e8 : Int.tdiv a2 8 = a2 / 8 := tdiv_nn (by omega)
          have ew : IntKind.i64.wrap (Int.tdiv a2 8) = Int.tdiv a2 8 := i64w (by omega) (by omega)
          have em : 0 ≤ Int.tmod a2 8 := by rw [tmod_nn (by omega)]; omega
          have ec : (decide (0 ≤ a1) && decide (a1 < (a0n : Int))) = true := by simp; omega
          have ed : (decide (0 ≤ Int.tdiv a2 8) && decide (Int.tdiv a2 8 < 64)) = true := by rw [dec_and,decide_eq_true_iff]; omega
          simp only [cond_neg h1,cond_neg h2,cond_neg h3,cond_neg h4,ew,ec,ed,cond_pos em,cond_true,Dk.place,Dk.bit,List.length_set]

theorem c19 : CallOk Try.prog G35 19 r19 := callOk_of (V := VG3519) mixed tys eVG3519 (f := 19) (fn := Try.f19) Try.func19 (by kernel_rfl) (c := sub (bodyOf Try.f19) []) (by kernel_rfl) (by
  intro X H r H' h hX hH
  unfold r19 at h; split at h <;> try contradiction
  · simp only [Option.some.injEq,Prod.mk.injEq] at h
    obtain ⟨hp,rfl,rfl⟩ := h
    obtain rfl := okB_size (hH _ (.tail _ (.head _))) rfl
    obtain ⟨F,hF⟩ := s19 _ _ _ _ _ _ _ _ (hX _ (.tail _ (.head _))) (hX _ (.tail _ (.tail _ (.head _)))) (hH _ (.head _)) (hH _ (.tail _ (.head _))) (hH _ (.tail _ (.tail _ (.head _)))) (hH _ (.tail _ (.tail _ (.tail _ (.head _)))))
    exact ⟨Af19 F,(f19_body F _ _ _ _ _ _ _ _).trans hF⟩)
def lVG3520 : List CEnt := []
def VG3520 : Env := mkEnv T35 G35 lVG3520
theorem eVG3520 : EOk Try.prog VG3520 := eok_mk (by exact trivial)
def Af20 (F : Nat) : Cuts := { F := F,at_ := fun _ => none,join := fun _ => none }
def ef20_a : Ty1 → St := fun (a0n,a0b,a0p,a0w,a0o,a0l,a1) => { tmps := [(0,(.ptr 0 0 5 0 0 0 5)),(1,(.int .i64 a1))],heap := [(0,(.cells 5 (.segs (.cons 1 (.one (.own 1 a0n 64)) (.cons 1 (.one (.mp 2)) (.cons 1 (.one (.mp 3)) (.cons 1 (.one (.bool a0o)) (.cons 1 (.one (.int .i64 a0l)) .nil)))))) true)),(1,(.cells a0b.length (.rI .u8 a0b) true)),(2,(.cells 0 (.rM .i64 0 (.arr .u8 64) a0p) true)),(3,(.cells 0 (.rM .i64 0 .bool a0w) true))],next := 4,nt := 21,m := 4 }
def f20_1 (F : Nat) : Ty1 → Rz := fun (a0n,a0b,a0p,a0w,a0o,a0l,a1) => (cond (decide (a1 < (0 : Int))) (some ((.int .i64 (1 : Int)),[(.cells 5 (.segs (.cons 1 (.one (.own 1 a0n 64)) (.cons 1 (.one (.mp 2)) (.cons 1 (.one (.mp 3)) (.cons 1 (.one (.bool a0o)) (.cons 1 (.one (.int .i64 a0l)) .nil)))))) true),(.cells a0b.length (.rI .u8 a0b) true),(.cells 0 (.rM .i64 0 (.arr .u8 64) a0p) true),(.cells 0 (.rM .i64 0 .bool a0w) true)])) (cond (decide (a1 ≥ (↑a0n : Int))) (some ((.int .i64 (1 : Int)),[(.cells 5 (.segs (.cons 1 (.one (.own 1 a0n 64)) (.cons 1 (.one (.mp 2)) (.cons 1 (.one (.mp 3)) (.cons 1 (.one (.bool a0o)) (.cons 1 (.one (.int .i64 a0l)) .nil)))))) true),(.cells a0b.length (.rI .u8 a0b) true),(.cells 0 (.rM .i64 0 (.arr .u8 64) a0p) true),(.cells 0 (.rM .i64 0 .bool a0w) true)])) (some ((.int .i64 (0 : Int)),[(.cells 5 (.segs (.cons 1 (.one (.own 1 a0n 64)) (.cons 1 (.one (.mp 2)) (.cons 1 (.one (.mp 3)) (.cons 1 (.one (.bool a0o)) (.cons 1 (.one (.int .i64 a0l)) .nil)))))) true),(.cells a0b.length (.rI .u8 a0b) true),(.cells 0 (.rM .i64 0 (.arr .u8 64) a0p) true),(.cells 0 (.rM .i64 0 .bool (mput a0w [a1] [(cond true 1 0)])) true)]))))
theorem f20_1_eq (F : Nat) : ∀ v,aexec VG3520 (Af20 F) (sub (bodyOf Try.f20) []) (ef20_a v) (kFin VG3520 none (Try.f20).results.toList) = f20_1 F v := by
  rintro ⟨a0n,a0b,a0p,a0w,a0o,a0l,a1⟩; kernel_rfl
def f20 (F : Nat) : Ty1 → Rz := f20_1 F
theorem f20_body (F : Nat) (a0n : Nat) (a0b : List Int) (a0p : List (List Int × List Int)) (a0w : List (List Int × List Int)) (a0o : Bool) (a0l : Int) (a1 : Int) : abody VG3520 (Af20 F) Try.f20 [(.ptr 0 0 5 0 0 0 5),(.int .i64 a1)] [(.cells 5 (.segs (.cons 1 (.one (.own 1 a0n 64)) (.cons 1 (.one (.mp 2)) (.cons 1 (.one (.mp 3)) (.cons 1 (.one (.bool a0o)) (.cons 1 (.one (.int .i64 a0l)) .nil)))))) true),(.cells a0b.length (.rI .u8 a0b) true),(.cells 0 (.rM .i64 0 (.arr .u8 64) a0p) true),(.cells 0 (.rM .i64 0 .bool a0w) true)] = f20 F (a0n,a0b,a0p,a0w,a0o,a0l,a1) :=
  (abody_in (c := (sub (bodyOf Try.f20) [])) (by kernel_rfl) (s := ef20_a (a0n,a0b,a0p,a0w,a0o,a0l,a1)) (by kernel_rfl)).trans (f20_1_eq F (a0n,a0b,a0p,a0w,a0o,a0l,a1))
def r20 : CRun := fun X H => match X,H with
  | [(.ptr 0 0 5 0 0 0 5),(.int .i64 a1)],[(.cells 5 (.segs (.cons 1 (.one (.own 1 a0n 64)) (.cons 1 (.one (.mp 2)) (.cons 1 (.one (.mp 3)) (.cons 1 (.one (.bool a0o)) (.cons 1 (.one (.int .i64 a0l)) .nil)))))) true),(.cells z1 (.rI .u8 a0b) true),(.cells 0 (.rM .i64 0 (.arr .u8 64) a0p) true),(.cells 0 (.rM .i64 0 .bool a0w) true)] => some (true,(.int .i64 (Dk.wear (Dk.D.mk a0n a0b a0p a0w a0o a0l) a1).2),[(.cells 5 (.segs (.cons 1 (.one (.own 1 (Dk.wear (Dk.D.mk a0n a0b a0p a0w a0o a0l) a1).1.n 64)) (.cons 1 (.one (.mp 2)) (.cons 1 (.one (.mp 3)) (.cons 1 (.one (.bool (Dk.wear (Dk.D.mk a0n a0b a0p a0w a0o a0l) a1).1.off)) (.cons 1 (.one (.int .i64 (Dk.wear (Dk.D.mk a0n a0b a0p a0w a0o a0l) a1).1.left)) .nil)))))) true),(.cells (Dk.wear (Dk.D.mk a0n a0b a0p a0w a0o a0l) a1).1.blk.length (.rI .u8 (Dk.wear (Dk.D.mk a0n a0b a0p a0w a0o a0l) a1).1.blk) true),(.cells 0 (.rM .i64 0 (.arr .u8 64) (Dk.wear (Dk.D.mk a0n a0b a0p a0w a0o a0l) a1).1.pend) true),(.cells 0 (.rM .i64 0 .bool (Dk.wear (Dk.D.mk a0n a0b a0p a0w a0o a0l) a1).1.worn) true)])
  | _,_ => none
theorem s20 (a0n : Nat) (a0b : List Int) (a0p : List (List Int × List Int)) (a0w : List (List Int × List Int)) (a0o : Bool) (a0l : Int) (a1 : Int) (h1 : okV (.int .i64 a1)) (k0 : okB (.cells 5 (.segs (.cons 1 (.one (.own 1 a0n 64)) (.cons 1 (.one (.mp 2)) (.cons 1 (.one (.mp 3)) (.cons 1 (.one (.bool a0o)) (.cons 1 (.one (.int .i64 a0l)) .nil)))))) true)) (k1 : okB (.cells a0b.length (.rI .u8 a0b) true)) (k2 : okB (.cells 0 (.rM .i64 0 (.arr .u8 64) a0p) true)) (k3 : okB (.cells 0 (.rM .i64 0 .bool a0w) true)) : ∃ F,f20 F (a0n,a0b,a0p,a0w,a0o,a0l,a1) = some ((.int .i64 (Dk.wear (Dk.D.mk a0n a0b a0p a0w a0o a0l) a1).2),[(.cells 5 (.segs (.cons 1 (.one (.own 1 (Dk.wear (Dk.D.mk a0n a0b a0p a0w a0o a0l) a1).1.n 64)) (.cons 1 (.one (.mp 2)) (.cons 1 (.one (.mp 3)) (.cons 1 (.one (.bool (Dk.wear (Dk.D.mk a0n a0b a0p a0w a0o a0l) a1).1.off)) (.cons 1 (.one (.int .i64 (Dk.wear (Dk.D.mk a0n a0b a0p a0w a0o a0l) a1).1.left)) .nil)))))) true),(.cells (Dk.wear (Dk.D.mk a0n a0b a0p a0w a0o a0l) a1).1.blk.length (.rI .u8 (Dk.wear (Dk.D.mk a0n a0b a0p a0w a0o a0l) a1).1.blk) true),(.cells 0 (.rM .i64 0 (.arr .u8 64) (Dk.wear (Dk.D.mk a0n a0b a0p a0w a0o a0l) a1).1.pend) true),(.cells 0 (.rM .i64 0 .bool (Dk.wear (Dk.D.mk a0n a0b a0p a0w a0o a0l) a1).1.worn) true)]) := by
  refine ⟨0,?_⟩
  simp only [f20,f20_1,Dk.wear]
  cases (decide (a1 < 0))
  · cases (decide (a1 ≥ (a0n : Int))) <;> rfl
  · rfl

theorem c20 : CallOk Try.prog G35 20 r20 := callOk_of (V := VG3520) mixed tys eVG3520 (f := 20) (fn := Try.f20) Try.func20 (by kernel_rfl) (c := sub (bodyOf Try.f20) []) (by kernel_rfl) (by
  intro X H r H' h hX hH
  unfold r20 at h; split at h <;> try contradiction
  · simp only [Option.some.injEq,Prod.mk.injEq] at h
    obtain ⟨hp,rfl,rfl⟩ := h
    obtain rfl := okB_size (hH _ (.tail _ (.head _))) rfl
    obtain ⟨F,hF⟩ := s20 _ _ _ _ _ _ _ (hX _ (.tail _ (.head _))) (hH _ (.head _)) (hH _ (.tail _ (.head _))) (hH _ (.tail _ (.tail _ (.head _)))) (hH _ (.tail _ (.tail _ (.tail _ (.head _)))))
    exact ⟨Af20 F,(f20_body F _ _ _ _ _ _ _).trans hF⟩)
end Go.Am
