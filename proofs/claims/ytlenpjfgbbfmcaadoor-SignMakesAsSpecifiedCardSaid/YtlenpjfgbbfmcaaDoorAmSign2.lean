/- Part of a proof about the functions of the given program. -/
import Derived.Test.YtlenpjfgbbfmcaaDoorAm03L
import Derived.Test.YtlenpjfgbbfmcaaDoorAm03H
set_option linter.unusedSimpArgs false
set_option linter.unusedVariables false
section
namespace Go.Am
open Go Go.Proofs
abbrev sp62 : List (Nat × Md) := [(4,.plain),(10,.plain),(14,.plain),(16,.plain),(64,.plain),(65,.plain)]
abbrev sp63 : List (Nat × Md) := [(1,.plain),(2,.plain),(3,.plain),(4,.plain),(10,.plain),(11,.plain),(12,.plain)]
abbrev sp64 : List (Nat × Md) := [(1,.plain),(2,.plain),(3,.plain),(4,.plain),(10,.plain),(11,.plain)]
abbrev sp65 : List (Nat × Md) := [(1,.plain),(2,.plain),(4,.plain),(10,.plain),(13,.plain)]
abbrev sp66 : List (Nat × Md) := [(1,.plain),(2,.plain),(4,.plain),(10,.plain),(14,.plain)]
abbrev sp67 : List (Nat × Md) := [(1,.plain),(4,.plain),(10,.plain),(14,.plain),(15,.plain)]
abbrev sp68 : List (Nat × Md) := [(1,.plain),(4,.plain),(10,.plain),(14,.plain),(16,.plain)]
abbrev sp69 : List (Nat × Md) := [(4,.plain),(10,.plain),(16,.plain)]
abbrev Ty48 := Int × Li × Li × Int × Int × Li × Int
abbrev Ty49 := Int × Li × Li × Int × Li × Int
abbrev Ty50 := Int × Li × Int × Li × Li
abbrev Ty51 := Int × Int × Li × Int × Li × Li
noncomputable section
def lVG0218 : List CEnt := [(10,[none],r10),(16,[none,none,none],r16),(21,[none],r21),(36,[some 5],r36),(37,[none,none],r37),(38,[none],r38),(40,[none,none],r40)]
def VG0218 : Env := mkEnv T03 G02 lVG0218
noncomputable abbrev Kf46 := kFin VG0218 none (Tryd.f18).results.toList
theorem eVG0218 : EOk Tryd.prog VG0218 := eok_mk (by exact ⟨c10,c16,c21,c36,c37,c38,c40,trivial⟩)
def Af18 (F : Nat) : Cuts := { F := F,at_ := fun n => match n with | 15016 => some sp62 | _ => none,join := fun n => match n with | 1073 => some sp12 | 5058 => some sp12 | 6056 => some sp63 | 8048 => some sp64 | 9046 => some sp65 | 11038 => some sp65 | 12036 => some sp66 | 13034 => some sp67 | 14032 => some sp68 | 15018 => some sp62 | 21011 => some sp69 | _ => none }
noncomputable abbrev XAf18 (F : Nat) {α : Type} := @aexec α VG0218 (Af18 F)
def ef18_a : Ty1 → St := fun (a0,a1,a2,a3) => ⟨[(0,(.agg 16 (.rI .u8 a0))),(1,.int .i64 a1),(2,.str a2),(3,.str a3)],[],0,90,0⟩
def ef18j1 : Ty30 → St := fun (t1,t2,t3,x4) => ⟨[(1,.int .i64 t1),(2,.str t2),(3,.str t3),(4,.ptr 0 0 16 0 0 0 16)],[(0,(.cells 16 (.rI .u8 x4) true))],1,90,0⟩
def ef18j2 : Ty30 → St := ef18j1
def ef18j3 : Ty48 → St := fun (t1,t2,t3,t11,t12,x6,x7) => ⟨[(1,.int .i64 t1),(2,.str t2),(3,.str t3),(4,.ptr 0 0 16 0 0 0 16),(10,.ptr 1 0 1 0 0 0 1),(11,.int .i64 t11),(12,.int .i64 t12)],[(0,(.cells 16 (.rI .u8 x6) true)),(1,(.cells 1 (.one (.int .i64 x7)) true))],2,90,0⟩
def ef18j4 : Ty49 → St := fun (t1,t2,t3,t11,x5,x6) => ⟨[(1,.int .i64 t1),(2,.str t2),(3,.str t3),(4,.ptr 0 0 16 0 0 0 16),(10,.ptr 1 0 1 0 0 0 1),(11,.int .i64 t11)],[(0,(.cells 16 (.rI .u8 x5) true)),(1,(.cells 1 (.one (.int .i64 x6)) true))],2,90,0⟩
def ef18j5 : Ty14 → St := fun (t1,t2,x3,x4,x5) => ⟨[(1,.int .i64 t1),(2,.str t2),(4,.ptr 0 0 16 0 0 0 16),(10,.ptr 1 0 1 0 0 0 1),(13,.ptr 2 0 1 0 0 0 1)],[(0,(.cells 16 (.rI .u8 x3) true)),(1,(.cells 1 (.one (.int .i64 x4)) true)),(2,(.cells 1 (.one (.own 3 0 1)) true)),(3,(.cells x5.length (.rI .u8 x5) true))],4,90,0⟩
def ef18j6 : Ty14 → St := ef18j5
def ef18j7 : Ty14 → St := fun (t1,t2,x3,x4,x5) => ⟨[(1,.int .i64 t1),(2,.str t2),(4,.ptr 0 0 16 0 0 0 16),(10,.ptr 1 0 1 0 0 0 1),(14,.ptr 2 0 1 0 0 0 1)],[(0,(.cells 16 (.rI .u8 x3) true)),(1,(.cells 1 (.one (.int .i64 x4)) true)),(2,(.cells 1 (.one (.fn 37 (.cons 0 (.ptr 3 0 1 0 0 0 1) .nil))) true)),(3,(.cells 1 (.one (.own 4 0 1)) true)),(4,(.cells x5.length (.rI .u8 x5) true))],5,90,0⟩
def ef18j8 : Ty50 → St := fun (t1,x2,x3,x4,x5) => ⟨[(1,.int .i64 t1),(4,.ptr 0 0 16 0 0 0 16),(10,.ptr 1 0 1 0 0 0 1),(14,.ptr 2 0 1 0 0 0 1),(15,.ptr 3 0 1 0 0 0 1)],[(0,(.cells 16 (.rI .u8 x2) true)),(1,(.cells 1 (.one (.int .i64 x3)) true)),(2,(.cells 1 (.one (.fn 37 (.cons 0 (.ptr 4 0 1 0 0 0 1) .nil))) true)),(3,(.cells 1 (.one (.vs (.rI .i64 x4) 0 1)) true)),(4,(.cells 1 (.one (.own 5 0 1)) true)),(5,(.cells x5.length (.rI .u8 x5) true))],6,90,0⟩
def ef18j9 : Ty50 → St := fun (t1,x2,x3,x4,x5) => ⟨[(1,.int .i64 t1),(4,.ptr 0 0 16 0 0 0 16),(10,.ptr 1 0 1 0 0 0 1),(14,.ptr 2 0 1 0 0 0 1),(16,.ptr 3 0 16 0 0 0 16)],[(0,(.cells 16 (.rI .u8 x2) true)),(1,(.cells 1 (.one (.int .i64 x3)) true)),(2,(.cells 1 (.one (.fn 37 (.cons 0 (.ptr 4 0 1 0 0 0 1) .nil))) true)),(3,(.cells 16 (.rI .u8 x4) true)),(4,(.cells 1 (.one (.own 5 0 1)) true)),(5,(.cells x5.length (.rI .u8 x5) true))],6,90,0⟩
def ef18j10 : Ty51 → St := fun (t64,t65,x3,x4,x5,x6) => ⟨[(4,.ptr 0 0 16 0 0 0 16),(10,.ptr 1 0 1 0 0 0 1),(14,.ptr 2 0 1 0 0 0 1),(16,.ptr 3 0 16 0 0 0 16),(64,.int .i64 t64),(65,.int .i64 t65)],[(0,(.cells 16 (.rI .u8 x3) true)),(1,(.cells 1 (.one (.int .i64 x4)) true)),(2,(.cells 1 (.one (.fn 37 (.cons 0 (.ptr 4 0 1 0 0 0 1) .nil))) true)),(3,(.cells 16 (.rI .u8 x5) true)),(4,(.cells 1 (.one (.own 5 0 1)) true)),(5,(.cells x6.length (.rI .u8 x6) true))],6,90,0⟩
def ef18l1 : Ty51 → St := ef18j10
def ef18j11 : Ty34 → St := fun (x1,x2,x3) => ⟨[(4,.ptr 0 0 16 0 0 0 16),(10,.ptr 1 0 1 0 0 0 1),(16,.ptr 2 0 16 0 0 0 16)],[(0,(.cells 16 (.rI .u8 x1) true)),(1,(.cells 1 (.one (.int .i64 x2)) true)),(2,(.cells 16 (.rI .u8 x3) true))],3,90,0⟩
def f18_1 (F : Nat) (kf18j1 : Ty30 → Rz) : Ty1 → Rz := fun (a0,a1,a2,a3) => (kf18j1 (a1,a2,a3,a0))
theorem f18_1_eq (F : Nat) (Rf18j1 : St → Rz) : ∀ v,XAf18 F (bp Tryd.f18 2) (ef18_a v) (kSeq (kc VG0218 Rf18j1 sp12) Kf46) = f18_1 F (Rf18j1 ∘ ef18j1) v := by
 rintro ⟨a0,a1,a2,a3⟩; kernel_rfl
def f18_2 (F : Nat) (kf18j2 : Ty30 → Rz) : Ty30 → Rz := fun (t1,t2,t3,x4) => (cond (!((decide (0 ≤ t1)) && (decide (t1 ≤ 6)))) (some ((.tup (.cons 0 (.int .i64 0) (.cons 0 (.int .i64 1) .nil))),[])) (cond (decide ((↑t2.length : Int) > (1048576 : Int))) (some ((.tup (.cons 0 (.int .i64 0) (.cons 0 (.int .i64 4) .nil))),[])) (kf18j2 (t1,t2,t3,x4))))
theorem f18_2_eq (F : Nat) (Rf18j2 : St → Rz) : ∀ v,XAf18 F (bp Tryd.f18 6) (ef18j1 v) (kSeq (kc VG0218 Rf18j2 sp12) Kf46) = f18_2 F (Rf18j2 ∘ ef18j2) v := by
 rintro ⟨t1,t2,t3,x4⟩; kernel_rfl
def f18_3 (F : Nat) (kf18j3 : Ty48 → Rz) : Ty30 → Rz := fun (t1,t2,t3,x4) => (kf18j3 (t1,t2,t3,(Wire.getInt t3).2.1,(Wire.getInt t3).2.2,x4,(Wire.getInt t3).1))
theorem f18_3_eq (F : Nat) (Rf18j3 : St → Rz) : ∀ v,XAf18 F (bp Tryd.f18 14) (ef18j2 v) (kSeq (kc VG0218 Rf18j3 sp63) Kf46) = f18_3 F (Rf18j3 ∘ ef18j3) v := by
 rintro ⟨t1,t2,t3,x4⟩; kernel_rfl
def f18_4 (F : Nat) (kf18j4 : Ty49 → Rz) : Ty48 → Rz := fun (t1,t2,t3,t11,t12,x6,x7) => (cond (t12 != (0 : Int)) (some ((.tup (.cons 0 (.int .i64 0) (.cons 0 (.int .i64 t12) .nil))),[])) (kf18j4 (t1,t2,t3,t11,x6,x7)))
theorem f18_4_eq (F : Nat) (Rf18j4 : St → Rz) : ∀ v,XAf18 F (bp Tryd.f18 30) (ef18j3 v) (kSeq (kc VG0218 Rf18j4 sp64) Kf46) = f18_4 F (Rf18j4 ∘ ef18j4) v := by
 rintro ⟨t1,t2,t3,t11,t12,x6,x7⟩; kernel_rfl
def f18_5 (F : Nat) (kf18j5 : Ty14 → Rz) : Ty49 → Rz := fun (t1,t2,t3,t11,x5,x6) => (cond (((decide (0 ≤ t11)) && (decide (t11 ≤ (↑t3.length : Int)))) && (decide ((↑t3.length : Int) ≤ (↑t3.length : Int)))) (kf18j5 (t1,t2,x5,x6,((t3.take t3.length).drop (Int.toNat t11)))) none)
theorem f18_5_eq (F : Nat) (Rf18j5 : St → Rz) : ∀ v,XAf18 F (bp Tryd.f18 62) (ef18j4 v) (kSeq (kc VG0218 Rf18j5 sp65) Kf46) = f18_5 F (Rf18j5 ∘ ef18j5) v := by
 rintro ⟨t1,t2,t3,t11,x5,x6⟩; kernel_rfl
def f18_6 (F : Nat) (kf18j6 : Ty14 → Rz) : Ty14 → Rz := fun (t1,t2,x3,x4,x5) => (cond (decide (x4 < (0 : Int))) (some ((.tup (.cons 0 (.int .i64 0) (.cons 0 (.int .i64 2) .nil))),[])) (cond (decide (0 ≤ t1)) (cond (decide (x4 ≥ (IntKind.i64.wrap ((1 : Int) * 2 ^ (min (Int.toNat t1) 64))))) (some ((.tup (.cons 0 (.int .i64 0) (.cons 0 (.int .i64 2) .nil))),[])) (cond ((↑x5.length : Int) != (IntKind.i64.wrap ((IntKind.i64.wrap ((68 : Int) + t1)) * (16 : Int)))) (some ((.tup (.cons 0 (.int .i64 0) (.cons 0 (.int .i64 2) .nil))),[])) (kf18j6 (t1,t2,x3,x4,x5)))) none))
theorem f18_6_eq (F : Nat) (Rf18j6 : St → Rz) : ∀ v,XAf18 F (bp Tryd.f18 126) (ef18j5 v) (kSeq (kc VG0218 Rf18j6 sp65) Kf46) = f18_6 F (Rf18j6 ∘ ef18j6) v := by
 rintro ⟨t1,t2,x3,x4,x5⟩; kernel_rfl
def f18_7 (F : Nat) (kf18j7 : Ty14 → Rz) : Ty14 → Rz := fun (t1,t2,x3,x4,x5) => (kf18j7 (t1,t2,x3,x4,x5))
theorem f18_7_eq (F : Nat) (Rf18j7 : St → Rz) : ∀ v,XAf18 F (bp Tryd.f18 254) (ef18j6 v) (kSeq (kc VG0218 Rf18j7 sp66) Kf46) = f18_7 F (Rf18j7 ∘ ef18j7) v := by
 rintro ⟨t1,t2,x3,x4,x5⟩; kernel_rfl
def f18_8 (F : Nat) (kf18j8 : Ty50 → Rz) : Ty14 → Rz := fun (t1,t2,x3,x4,x5) => (cond (decide (t2.length < 1073741000)) (kf18j8 (t1,x3,x4,(Sg.digits (Sg.digest x3 x4 t2)),x5)) none)
theorem f18_8_eq (F : Nat) (Rf18j8 : St → Rz) : ∀ v,XAf18 F (bp Tryd.f18 510) (ef18j7 v) (kSeq (kc VG0218 Rf18j8 sp67) Kf46) = f18_8 F (Rf18j8 ∘ ef18j8) v := by
 rintro ⟨t1,t2,x3,x4,x5⟩; kernel_rfl
def f18_9 (F : Nat) (kf18j9 : Ty50 → Rz) : Ty50 → Rz := fun (t1,x2,x3,x4,x5) => (cond ((decide (68 ≤ x4.length)) && ((decide (1088 ≤ x5.length)) && (decide (x5.length < 1073741000)))) (kf18j9 (t1,x2,x3,(Sg.leafV x3 x4 x5),x5)) none)
theorem f18_9_eq (F : Nat) (Rf18j9 : St → Rz) : ∀ v,XAf18 F (bp Tryd.f18 1022) (ef18j8 v) (kSeq (kc VG0218 Rf18j9 sp68) Kf46) = f18_9 F (Rf18j9 ∘ ef18j9) v := by
 rintro ⟨t1,x2,x3,x4,x5⟩; kernel_rfl
def f18_10 (F : Nat) (kf18j10 : Ty51 → Rz) (kf18j11 : Ty34 → Rz) : Ty50 → Rz := fun (t1,x2,x3,x4,x5) => (kf18j10 (t1,(0 : Int),x2,x3,x4,x5))
theorem f18_10_eq (F : Nat) (Rf18j10 : St → Rz) (Rf18j11 : St → Rz) : ∀ v,XAf18 F (bp Tryd.f18 4092) (ef18j9 v) (kSeq (kc VG0218 Rf18j10 sp62) (kSeq (kc VG0218 Rf18j11 sp69) Kf46)) = f18_10 F (Rf18j10 ∘ ef18j10) (Rf18j11 ∘ ef18j11) v := by
 rintro ⟨t1,x2,x3,x4,x5⟩; kernel_rfl
def f18_11 (F : Nat) (kf18l1 : Ty51 → Rz) (kf18j11 : Ty34 → Rz) : Ty51 → Rz := fun (t64,t65,x3,x4,x5,x6) => (cond (decide (t65 < t64)) (cond (decide (0 ≤ t65)) (cond ((ibits .and .i64 (Int.fdiv x4 (2 ^ (min (Int.toNat t65) 64))) (1 : Int)) == (1 : Int)) (cond ((decide (0 ≤ (IntKind.i64.wrap ((68 : Int) + t65)))) && ((decide (((IntKind.i64.wrap ((68 : Int) + t65)) + 1) * 16 ≤ (x6.length : Int))) && (decide (x6.length < 1073741000)))) (kf18l1 (t64,(IntKind.i64.wrap (t65 + (1 : Int))),x3,x4,(Sg.node ((x6.drop (Int.toNat ((IntKind.i64.wrap ((68 : Int) + t65)) * 16))).take 16) x5),x6)) none) (cond ((decide (0 ≤ (IntKind.i64.wrap ((68 : Int) + t65)))) && ((decide (((IntKind.i64.wrap ((68 : Int) + t65)) + 1) * 16 ≤ (x6.length : Int))) && (decide (x6.length < 1073741000)))) (kf18l1 (t64,(IntKind.i64.wrap (t65 + (1 : Int))),x3,x4,(Sg.node x5 ((x6.drop (Int.toNat ((IntKind.i64.wrap ((68 : Int) + t65)) * 16))).take 16)),x6)) none)) none) (kf18j11 (x3,x4,x5)))
theorem f18_11_eq (F : Nat) (Rf18l1 : St → Rz) (Rf18j11 : St → Rz) : ∀ v,XAf18 F (bp Tryd.f18 16372) (ef18l1 v) (kSeq (kc VG0218 Rf18l1 sp62) (kBlock 1 (kSeq (kc VG0218 Rf18j11 sp69) Kf46))) = f18_11 F (Rf18l1 ∘ ef18l1) (Rf18j11 ∘ ef18j11) v := by
 rintro ⟨t64,t65,x3,x4,x5,x6⟩; kernel_rfl
def f18_12_i : Ty51 → Int × Int × Li × Int × Li × Li := fun (t64,t65,x3,x4,x5,x6) => (t64,t65,x3,x4,x5,x6)
def f18_12 (F : Nat) (kf18j11 : Ty34 → Rz) : Ty51 → Rz := fun v => loopN (fun k => f18_11 F k kf18j11) F (f18_12_i v)
theorem f18_12_eq (F : Nat) (Rf18j11 : St → Rz) : ∀ v,XAf18 F (bp Tryd.f18 8186) (ef18j10 v) (kBlock 1 (kSeq (kc VG0218 Rf18j11 sp69) Kf46)) = f18_12 F (Rf18j11 ∘ ef18j11) v :=
 loop_cut (by kernel_rfl) (by kernel_rfl) ef18j10 ef18l1 _ f18_12_i (fun k => f18_11 F k (Rf18j11 ∘ ef18j11))
  (by rintro ⟨t64,t65,x3,x4,x5,x6⟩; kernel_rfl) (fun Rf18l1 => f18_11_eq F Rf18l1 Rf18j11)
def f18_13 (F : Nat) (kf18j11 : Ty34 → Rz) : Ty51 → Rz := f18_12 F kf18j11
theorem f18_13_eq (F : Nat) (Rf18j11 : St → Rz) : ∀ v,XAf18 F (bp Tryd.f18 4093) (ef18j10 v) (kSeq (kc VG0218 Rf18j11 sp69) Kf46) = f18_13 F (Rf18j11 ∘ ef18j11) v := fun v =>
 (block_in  (by kernel_rfl) _ _).trans (f18_12_eq F Rf18j11 v)
def f18_14 (F : Nat) (kf18j11 : Ty34 → Rz) : Ty50 → Rz := fun v => f18_10 F (f18_13 F kf18j11) kf18j11 v
theorem f18_14_eq (F : Nat) (Rf18j11 : St → Rz) : ∀ v,XAf18 F (bp Tryd.f18 2046) (ef18j9 v) (kSeq (kc VG0218 Rf18j11 sp69) Kf46) = f18_14 F (Rf18j11 ∘ ef18j11) v :=
 seq_cut (by kernel_rfl) (by kernel_rfl) ef18j9 ef18j10 _ (fun k => f18_10 F k (Rf18j11 ∘ ef18j11)) (f18_13 F (Rf18j11 ∘ ef18j11))
  (fun Rf18j10 => f18_10_eq F Rf18j10 Rf18j11) (f18_13_eq F Rf18j11)
def f18_15 (F : Nat) : Ty34 → Rz := fun (x1,x2,x3) => (cond (!((x3 : List Int) == x1)) (some ((.tup (.cons 0 (.int .i64 0) (.cons 0 (.int .i64 10) .nil))),[])) (some ((.tup (.cons 0 (.int .i64 x2) (.cons 0 (.int .i64 0) .nil))),[])))
theorem f18_15_eq (F : Nat) : ∀ v,XAf18 F (bp Tryd.f18 2047) (ef18j11 v) Kf46 = f18_15 F v := by
 rintro ⟨x1,x2,x3⟩; kernel_rfl
def f18_16 (F : Nat) : Ty50 → Rz := fun v => f18_14 F (f18_15 F) v
theorem f18_16_eq (F : Nat) : ∀ v,XAf18 F (bp Tryd.f18 1023) (ef18j9 v) Kf46 = f18_16 F v :=
 seq_cut (by kernel_rfl) (by kernel_rfl) ef18j9 ef18j11 _ (fun k => f18_14 F k) (f18_15 F)
  (fun Rf18j11 => f18_14_eq F Rf18j11) (f18_15_eq F)
def f18_17 (F : Nat) : Ty50 → Rz := fun v => f18_9 F (f18_16 F) v
theorem f18_17_eq (F : Nat) : ∀ v,XAf18 F (bp Tryd.f18 511) (ef18j8 v) Kf46 = f18_17 F v :=
 seq_cut (by kernel_rfl) (by kernel_rfl) ef18j8 ef18j9 _ (fun k => f18_9 F k) (f18_16 F)
  (fun Rf18j9 => f18_9_eq F Rf18j9) (f18_16_eq F)
def f18_18 (F : Nat) : Ty14 → Rz := fun v => f18_8 F (f18_17 F) v
theorem f18_18_eq (F : Nat) : ∀ v,XAf18 F (bp Tryd.f18 255) (ef18j7 v) Kf46 = f18_18 F v :=
 seq_cut (by kernel_rfl) (by kernel_rfl) ef18j7 ef18j8 _ (fun k => f18_8 F k) (f18_17 F)
  (fun Rf18j8 => f18_8_eq F Rf18j8) (f18_17_eq F)
def f18_19 (F : Nat) : Ty14 → Rz := fun v => f18_7 F (f18_18 F) v
theorem f18_19_eq (F : Nat) : ∀ v,XAf18 F (bp Tryd.f18 127) (ef18j6 v) Kf46 = f18_19 F v :=
 seq_cut (by kernel_rfl) (by kernel_rfl) ef18j6 ef18j7 _ (fun k => f18_7 F k) (f18_18 F)
  (fun Rf18j7 => f18_7_eq F Rf18j7) (f18_18_eq F)
def f18_20 (F : Nat) : Ty14 → Rz := fun v => f18_6 F (f18_19 F) v
theorem f18_20_eq (F : Nat) : ∀ v,XAf18 F (bp Tryd.f18 63) (ef18j5 v) Kf46 = f18_20 F v :=
 seq_cut (by kernel_rfl) (by kernel_rfl) ef18j5 ef18j6 _ (fun k => f18_6 F k) (f18_19 F)
  (fun Rf18j6 => f18_6_eq F Rf18j6) (f18_19_eq F)
def f18_21 (F : Nat) : Ty49 → Rz := fun v => f18_5 F (f18_20 F) v
theorem f18_21_eq (F : Nat) : ∀ v,XAf18 F (bp Tryd.f18 31) (ef18j4 v) Kf46 = f18_21 F v :=
 seq_cut (by kernel_rfl) (by kernel_rfl) ef18j4 ef18j5 _ (fun k => f18_5 F k) (f18_20 F)
  (fun Rf18j5 => f18_5_eq F Rf18j5) (f18_20_eq F)
def f18_22 (F : Nat) : Ty48 → Rz := fun v => f18_4 F (f18_21 F) v
theorem f18_22_eq (F : Nat) : ∀ v,XAf18 F (bp Tryd.f18 15) (ef18j3 v) Kf46 = f18_22 F v :=
 seq_cut (by kernel_rfl) (by kernel_rfl) ef18j3 ef18j4 _ (fun k => f18_4 F k) (f18_21 F)
  (fun Rf18j4 => f18_4_eq F Rf18j4) (f18_21_eq F)
def f18_23 (F : Nat) : Ty30 → Rz := fun v => f18_3 F (f18_22 F) v
theorem f18_23_eq (F : Nat) : ∀ v,XAf18 F (bp Tryd.f18 7) (ef18j2 v) Kf46 = f18_23 F v :=
 seq_cut (by kernel_rfl) (by kernel_rfl) ef18j2 ef18j3 _ (fun k => f18_3 F k) (f18_22 F)
  (fun Rf18j3 => f18_3_eq F Rf18j3) (f18_22_eq F)
def f18_24 (F : Nat) : Ty30 → Rz := fun v => f18_2 F (f18_23 F) v
theorem f18_24_eq (F : Nat) : ∀ v,XAf18 F (bp Tryd.f18 3) (ef18j1 v) Kf46 = f18_24 F v :=
 seq_cut (by kernel_rfl) (by kernel_rfl) ef18j1 ef18j2 _ (fun k => f18_2 F k) (f18_23 F)
  (fun Rf18j2 => f18_2_eq F Rf18j2) (f18_23_eq F)
def f18_25 (F : Nat) : Ty1 → Rz := fun v => f18_1 F (f18_24 F) v
theorem f18_25_eq (F : Nat) : ∀ v,XAf18 F (sub (bodyOf Tryd.f18) []) (ef18_a v) Kf46 = f18_25 F v :=
 seq_cut (by kernel_rfl) (by kernel_rfl) ef18_a ef18j1 _ (fun k => f18_1 F k) (f18_24 F)
  (fun Rf18j1 => f18_1_eq F Rf18j1) (f18_24_eq F)
def f18 (F : Nat) : Ty1 → Rz := f18_25 F
theorem f18_body (F : Nat) (a0 : List Int) (a1 : Int) (a2 : List Int) (a3 : List Int) : abody VG0218 (Af18 F) Tryd.f18 [(.agg 16 (.rI .u8 a0)),.int .i64 a1,.str a2,.str a3] [] = f18 F (a0,a1,a2,a3) :=
 (abody_in (c := (sub (bodyOf Tryd.f18) [])) (by kernel_rfl) (s := ef18_a (a0,a1,a2,a3)) (by kernel_rfl)).trans (f18_25_eq F (a0,a1,a2,a3))
def r18 : CRun := fun X H => match X,H with
 | [(.agg 16 (.rI .u8 a0)),.int .i64 a1,.str a2,.str a3],[] => some (true,(.tup (.cons 0 (.int .i64 (Sg.verO a0 a1 a2 a3).1) (.cons 0 (.int .i64 (Sg.verO a0 a1 a2 a3).2) .nil))),[])
 | _,_ => none
theorem and_eq {m j : Nat} (hm : m < 64) : ((ibits .and .i64 ((m / 2 ^ j : Nat) : Int) 1) == (1 : Int)) = decide ((m : Int) / 2 ^ j % 2 = 1) := by
 rw [Sg.and1 _ (Nat.lt_of_le_of_lt (Nat.div_le_self _ _) hm),int_beq,ediv2]
theorem s18 (a0 : List Int) (a1 : Int) (a2 : List Int) (a3 : List Int) (h0 : okV (.agg 16 (.rI .u8 a0))) (h1 : okV (.int .i64 a1)) (h2 : okV (.str a2)) (h3 : okV (.str a3)) : ∃ F,f18 F (a0,a1,a2,a3) = some ((.tup (.cons 0 (.int .i64 (Sg.verO a0 a1 a2 a3).1) (.cons 0 (.int .i64 (Sg.verO a0 a1 a2 a3).2) .nil))),[]) := by
 rw [Sg.verO_eq]
 obtain ⟨F,hF⟩ : ∃ F,100 < F := ⟨101,by decide⟩
 have h3' : okS a3 := h3
 have hby : Wire.okBytes a3 := fun x hx => (h3'.2 x hx)
 have hgr := Wire.getInt_rng hby
 refine ⟨F,?_⟩
 simp only [f18_1,f18_2,f18_3,f18_4,f18_5,f18_6,f18_7,f18_8,f18_9,f18_10,f18_12_i,f18_12,f18_13,f18_14,f18_16,f18_17,f18_18,f18_19,f18_20,f18_21,f18_22,f18_23,f18_24,f18_25,f18,int_bne,dec_and,dec_not,ge_iff_le,gt_iff_lt]
 by_cases hh : 0 ≤ a1 ∧ a1 ≤ 6
 case neg =>
  rw [cond_pos hh]
  have e : Sg.verify a0 a1 a2 a3 = (0,1) := by rw [Sg.verify,if_pos hh]
  rw [e]
 rw [cond_neg (fun h => h hh)]
 obtain ⟨n,rfl⟩ := Int.eq_ofNat_of_zero_le hh.1
 have hn : n ≤ 6 := by omega
 have hpow := pow_le64 hn
 rw [pow_small hn]
 by_cases hm : 1048576 < (a2.length : Int)
 ·rw [cond_pos hm]
  have e : Sg.verify a0 (n : Int) a2 a3 = (0,4) := by rw [Sg.verify,if_neg (by omega),if_pos (by omega)]
  rw [e]
 rw [cond_neg hm]
 by_cases hE : (Wire.getInt a3).2.2 ≠ 0
 ·rw [cond_pos hE]
  have e : Sg.verify a0 (n : Int) a2 a3 = (0,(Wire.getInt a3).2.2) := by rw [Sg.verify,if_neg (by omega),if_neg (by omega),if_pos hE]
  rw [e]
 rw [cond_neg hE]
 have h5 : 0 ≤ (Wire.getInt a3).2.1 := hgr.2.1
 have h6 : (Wire.getInt a3).2.1 ≤ (a3.length : Int) := hgr.1
 rw [cond_pos (by omega),List.take_length]
 generalize hix : (Wire.getInt a3).1 = ix
 generalize hb : a3.drop (Int.toNat (Wire.getInt a3).2.1) = b
 have ev : Sg.verify a0 (n : Int) a2 a3 = if ix < 0 ∨ 2 ^ n ≤ ix ∨ (b.length : Int) ≠ (68 + (n : Int)) * 16 then (0,2) else if Sg.climb ix b (Sg.leafV ix (Sg.digits (Sg.digest a0 ix a2)) b) n ≠ a0 then (0,10) else (ix,0) := by
  rw [Sg.verify,if_neg (by omega),if_neg (by omega),if_neg hE,hix,hb,Int.toNat_natCast]
 rw [ev]
 by_cases hi : ix < 0
 ·rw [cond_pos hi,if_pos (.inl hi)]
 rw [cond_neg hi,cond_pos hh.1]
 by_cases hi2 : 2 ^ n ≤ ix
 ·rw [cond_pos hi2,if_pos (.inr (.inl hi2))]
 rw [cond_neg hi2,i64w (x := 68 + (n : Int)) (by omega) (by omega),i64w (x := (68 + (n : Int)) * 16) (by omega) (by omega)]
 by_cases hlen : (b.length : Int) ≠ (68 + (n : Int)) * 16
 ·rw [cond_pos hlen,if_pos (.inr (.inr hlen))]
 rw [cond_neg hlen,if_neg (by omega),cond_pos (by omega)]
 have hdl := Sg.digits_len (Sg.digest a0 ix a2)
 rw [cond_pos (by omega)]
 have hlv : (Sg.leafV ix (Sg.digits (Sg.digest a0 ix a2)) b).length = 16 := Sg.leafOf_len _
 generalize Sg.leafV ix (Sg.digits (Sg.digest a0 ix a2)) b = v0 at hlv
 obtain ⟨i2,rfl⟩ := Int.eq_ofNat_of_zero_le (show 0 ≤ ix by omega)
 refine loopN_from (fun i => ((n : Int),(i : Int),a0,(i2 : Int),Sg.climb (i2 : Int) b v0 i,b)) n (by rfl) (fun i hi' k => ?_) (fun k => ?_) _ (by omega)
 ·simp only [f18_11,dec_and]
  rw [cond_pos (by omega),cond_pos (by omega),shr2 (by omega),and_eq (by omega),i64w (x := 68 + (i : Int)) (by omega) (by omega),i64w (x := (i : Int) + 1) (by omega) (by omega)]
  have e1 : Int.toNat ((68 + (i : Int)) * 16) = (68 + i) * 16 := by omega
  rw [e1]
  by_cases hbit : (i2 : Int) / 2 ^ i % 2 = 1
  ·rw [cond_pos hbit,cond_pos (by omega)]
   have e2 : Sg.climb (i2 : Int) b v0 (i + 1) = Sg.node (Sg.val b (68 + i)) (Sg.climb (i2 : Int) b v0 i) := by rw [Sg.climb,if_pos hbit]
   rw [e2]; rfl
  ·rw [cond_neg hbit,cond_pos (by omega)]
   have e2 : Sg.climb (i2 : Int) b v0 (i + 1) = Sg.node (Sg.climb (i2 : Int) b v0 i) (Sg.val b (68 + i)) := by rw [Sg.climb,if_neg hbit]
   rw [e2]; rfl
 ·simp only [f18_11,dec_and]
  rw [cond_neg (by omega)]
  simp only [f18_15,lst_beq,dec_not]
  by_cases hv : Sg.climb (i2 : Int) b v0 n = a0
  ·rw [cond_neg (fun h => h hv),if_neg (fun h => h hv)]
  ·rw [cond_pos hv,if_pos hv]
theorem c18 : CallOk Tryd.prog G02 18 r18 := callOk_of (V := VG0218) mixed tys eVG0218 (f := 18) (fn := Tryd.f18) Tryd.func18 (by kernel_rfl) (c := sub (bodyOf Tryd.f18) []) (by kernel_rfl) (by
 intro X H r H' h hX hH
 unfold r18 at h; split at h <;> try contradiction
 ·simp only [Option.some.injEq,Prod.mk.injEq] at h
  obtain ⟨hp,rfl,rfl⟩ := h
  obtain ⟨F,hF⟩ := s18 _ _ _ _ (hX _ (.head _)) (hX _ (.tail _ (.head _))) (hX _ (.tail _ (.tail _ (.head _)))) (hX _ (.tail _ (.tail _ (.tail _ (.head _)))))
  exact ⟨Af18 F,(f18_body F _ _ _ _).trans hF⟩)
end
end Go.Am
end
section
namespace Go.Am
open Go Go.Proofs
abbrev sp70 : List (Nat × Md) := [(0,.plain),(1,.plain),(4,.plain),(5,.plain),(6,.plain)]
abbrev sp71 : List (Nat × Md) := [(0,.plain),(1,.plain),(4,.plain),(5,.plain)]
abbrev sp72 : List (Nat × Md) := [(1,.plain),(3,.own 2),(4,.plain),(5,.plain)]
abbrev sp73 : List (Nat × Md) := [(1,.plain),(3,.own 2),(4,.plain),(5,.plain),(7,.plain),(8,.plain)]
abbrev sp74 : List (Nat × Md) := [(1,.plain),(3,.plain),(4,.plain),(5,.plain)]
abbrev sp75 : List (Nat × Md) := [(1,.plain),(3,.plain),(4,.plain),(5,.plain),(6,.plain)]
abbrev sp76 : List (Nat × Md) := [(1,.plain),(3,.plain),(4,.plain),(5,.plain),(7,.plain)]
abbrev sp77 : List (Nat × Md) := [(1,.plain),(3,.plain),(4,.plain),(5,.plain),(7,.plain),(8,.plain)]
abbrev Ty52 := Int × Int × Li × Nat
abbrev Ty53 := Li × Int × Li × Int × Li
abbrev Ty54 := Int × Int × Int × Li × Li
abbrev Ty55 := Int × Int × Int × Li × Li × Li
def lVG0220 : List CEnt := []
def VG0220 : Env := mkEnv T03 G02 lVG0220
noncomputable abbrev Kf47 := kFin VG0220 none (Tryd.f20).results.toList
theorem eVG0220 : EOk Tryd.prog VG0220 := eok_mk (by exact trivial)
def Af20 (F : Nat) : Cuts := { F := F,at_ := fun n => match n with | 3010 => some sp19 | _ => none,join := fun n => match n with | 1020 => some [(0,.plain)] | 2018 => some [(0,.plain),(3,.plain)] | 3012 => some sp19 | 6003 => some [(3,.plain)] | _ => none }
noncomputable abbrev XAf20 (F : Nat) {α : Type} := @aexec α VG0220 (Af20 F)
def ef20_a : Int → St := fun a0 => ⟨[(0,.int .u8 a0)],[],0,16,0⟩
def ef20j1 : Int → St := fun t0 => ⟨[(0,.int .u8 t0)],[],0,16,0⟩
def ef20j2 : Int × Li → St := fun (t0,x2) => ⟨[(0,.int .u8 t0),(3,.own 0 0 1)],[(0,(.cells x2.length (.rI .u8 x2) true))],1,16,0⟩
def ef20j3 : Int × Int × Li → St := fun (t0,t4,x3) => ⟨[(0,.int .u8 t0),(3,.own 0 0 1),(4,.int .i64 t4)],[(0,(.cells x3.length (.rI .u8 x3) true))],1,16,0⟩
def ef20l1 : Ty52 → St := fun (t0,t4,x3,x4) => ⟨[(0,.int .u8 t0),(3,.own 0 0 1),(4,.int .i64 t4)],[(0,(.cells x4 (.rI .u8 x3) true))],1,16,0⟩
def ef20j4 : Li × Nat → St := fun (x1,x2) => ⟨[(3,.own 0 0 1)],[(0,(.cells x2 (.rI .u8 x1) true))],1,16,0⟩
def f20_1 (F : Nat) (kf20j1 : Int → Rz) : Int → Rz := fun a0 => (kf20j1 a0)
theorem f20_1_eq (F : Nat) (Rf20j1 : St → Rz) : ∀ v,XAf20 F (bp Tryd.f20 2) (ef20_a v) (kSeq (kc VG0220 Rf20j1 [(0,.plain)]) Kf47) = f20_1 F (Rf20j1 ∘ ef20j1) v := by
 intro a0; kernel_rfl
def f20_2 (F : Nat) (kf20j2 : Int × Li → Rz) : Int → Rz := fun t0 => (kf20j2 (t0,(List.replicate 32 0)))
theorem f20_2_eq (F : Nat) (Rf20j2 : St → Rz) : ∀ v,XAf20 F (bp Tryd.f20 6) (ef20j1 v) (kSeq (kc VG0220 Rf20j2 [(0,.plain),(3,.plain)]) Kf47) = f20_2 F (Rf20j2 ∘ ef20j2) v := by
 intro t0; kernel_rfl
def f20_3 (F : Nat) (kf20j3 : Int × Int × Li → Rz) (kf20j4 : Li × Nat → Rz) : Int × Li → Rz := fun (t0,x2) => (kf20j3 (t0,(0 : Int),x2))
theorem f20_3_eq (F : Nat) (Rf20j3 : St → Rz) (Rf20j4 : St → Rz) : ∀ v,XAf20 F (bp Tryd.f20 28) (ef20j2 v) (kSeq (kc VG0220 Rf20j3 sp19) (kSeq (kc VG0220 Rf20j4 [(3,.plain)]) Kf47)) = f20_3 F (Rf20j3 ∘ ef20j3) (Rf20j4 ∘ ef20j4) v := by
 rintro ⟨t0,x2⟩; kernel_rfl
def f20_4 (F : Nat) (kf20l1 : Ty52 → Rz) (kf20j4 : Li × Nat → Rz) : Ty52 → Rz := fun (t0,t4,x3,x4) => (cond (decide (t4 < (32 : Int))) (cond ((decide (0 ≤ t4)) && (decide (t4 < (↑x3.length : Int)))) (kf20l1 (t0,(IntKind.i64.wrap (t4 + (1 : Int))),(x3.set (Int.toNat t4) t0),x4)) none) (kf20j4 (x3,x4)))
theorem f20_4_eq (F : Nat) (Rf20l1 : St → Rz) (Rf20j4 : St → Rz) : ∀ v,XAf20 F (bp Tryd.f20 116) (ef20l1 v) (kSeq (kc VG0220 Rf20l1 sp19) (kBlock 0 (kSeq (kc VG0220 Rf20j4 [(3,.plain)]) Kf47))) = f20_4 F (Rf20l1 ∘ ef20l1) (Rf20j4 ∘ ef20j4) v := by
 rintro ⟨t0,t4,x3,x4⟩; kernel_rfl
def f20_5_i : Int × Int × Li → Int × Int × Li × Nat := fun (t0,t4,x3) => (t0,t4,x3,x3.length)
def f20_5 (F : Nat) (kf20j4 : Li × Nat → Rz) : Int × Int × Li → Rz := fun v => loopN (fun k => f20_4 F k kf20j4) F (f20_5_i v)
theorem f20_5_eq (F : Nat) (Rf20j4 : St → Rz) : ∀ v,XAf20 F (bp Tryd.f20 58) (ef20j3 v) (kBlock 0 (kSeq (kc VG0220 Rf20j4 [(3,.plain)]) Kf47)) = f20_5 F (Rf20j4 ∘ ef20j4) v :=
 loop_cut (by kernel_rfl) (by kernel_rfl) ef20j3 ef20l1 _ f20_5_i (fun k => f20_4 F k (Rf20j4 ∘ ef20j4))
  (by rintro ⟨t0,t4,x3⟩; kernel_rfl) (fun Rf20l1 => f20_4_eq F Rf20l1 Rf20j4)
def f20_6 (F : Nat) (kf20j4 : Li × Nat → Rz) : Int × Int × Li → Rz := f20_5 F kf20j4
theorem f20_6_eq (F : Nat) (Rf20j4 : St → Rz) : ∀ v,XAf20 F (bp Tryd.f20 29) (ef20j3 v) (kSeq (kc VG0220 Rf20j4 [(3,.plain)]) Kf47) = f20_6 F (Rf20j4 ∘ ef20j4) v := fun v =>
 (block_in  (by kernel_rfl) _ _).trans (f20_5_eq F Rf20j4 v)
def f20_7 (F : Nat) (kf20j4 : Li × Nat → Rz) : Int × Li → Rz := fun v => f20_3 F (f20_6 F kf20j4) kf20j4 v
theorem f20_7_eq (F : Nat) (Rf20j4 : St → Rz) : ∀ v,XAf20 F (bp Tryd.f20 14) (ef20j2 v) (kSeq (kc VG0220 Rf20j4 [(3,.plain)]) Kf47) = f20_7 F (Rf20j4 ∘ ef20j4) v :=
 seq_cut (by kernel_rfl) (by kernel_rfl) ef20j2 ef20j3 _ (fun k => f20_3 F k (Rf20j4 ∘ ef20j4)) (f20_6 F (Rf20j4 ∘ ef20j4))
  (fun Rf20j3 => f20_3_eq F Rf20j3 Rf20j4) (f20_6_eq F Rf20j4)
def f20_8 (F : Nat) : Li × Nat → Rz := fun (x1,x2) => (some ((.str x1),[]))
theorem f20_8_eq (F : Nat) : ∀ v,XAf20 F (bp Tryd.f20 15) (ef20j4 v) Kf47 = f20_8 F v := by
 rintro ⟨x1,x2⟩; kernel_rfl
def f20_9 (F : Nat) : Int × Li → Rz := fun v => f20_7 F (f20_8 F) v
theorem f20_9_eq (F : Nat) : ∀ v,XAf20 F (bp Tryd.f20 7) (ef20j2 v) Kf47 = f20_9 F v :=
 seq_cut (by kernel_rfl) (by kernel_rfl) ef20j2 ef20j4 _ (fun k => f20_7 F k) (f20_8 F)
  (fun Rf20j4 => f20_7_eq F Rf20j4) (f20_8_eq F)
def f20_10 (F : Nat) : Int → Rz := fun v => f20_2 F (f20_9 F) v
theorem f20_10_eq (F : Nat) : ∀ v,XAf20 F (bp Tryd.f20 3) (ef20j1 v) Kf47 = f20_10 F v :=
 seq_cut (by kernel_rfl) (by kernel_rfl) ef20j1 ef20j2 _ (fun k => f20_2 F k) (f20_9 F)
  (fun Rf20j2 => f20_2_eq F Rf20j2) (f20_9_eq F)
def f20_11 (F : Nat) : Int → Rz := fun v => f20_1 F (f20_10 F) v
theorem f20_11_eq (F : Nat) : ∀ v,XAf20 F (sub (bodyOf Tryd.f20) []) (ef20_a v) Kf47 = f20_11 F v :=
 seq_cut (by kernel_rfl) (by kernel_rfl) ef20_a ef20j1 _ (fun k => f20_1 F k) (f20_10 F)
  (fun Rf20j1 => f20_1_eq F Rf20j1) (f20_10_eq F)
def f20 (F : Nat) : Int → Rz := f20_11 F
theorem f20_body (F : Nat) (a0 : Int) : abody VG0220 (Af20 F) Tryd.f20 [(.int .u8 a0)] [] = f20 F a0 :=
 (abody_in (c := (sub (bodyOf Tryd.f20) [])) (by kernel_rfl) (s := ef20_a a0) (by kernel_rfl)).trans (f20_11_eq F a0)
def r20 : CRun := fun X H => match X,H with
 | [(.int .u8 a0)],[] => some (true,(.str (List.replicate 32 a0)),[])
 | _,_ => none
theorem s20 (a0 : Int) (h0 : okV (.int .u8 a0)) : ∃ F,f20 F a0 = some ((.str (List.replicate 32 a0)),[]) := by
 obtain ⟨F,hF⟩ : ∃ F,100 < F := ⟨101,by decide⟩
 refine ⟨F,?_⟩
 simp only [f20_1,f20_2,f20_3,f20_5_i,f20_5,f20_6,f20_7,f20_8,f20_9,f20_10,f20_11,f20]
 refine loopN_from (fun i => (a0,(i : Int),(List.range i).map (fun _ => a0) ++ List.replicate (32 - i) 0,(List.replicate 32 (0 : Int)).length)) 32 (by rfl) (fun i hi k => ?_) (fun k => ?_) _ (by omega)
 ·simp only [f20_4,dec_and]
  have hl : ((List.range i).map (fun _ => a0) ++ List.replicate (32 - i) (0 : Int)).length = 32 := by simp; omega
  rw [cond_pos (by omega),cond_pos (by omega),Int.toNat_natCast,fill_set (fun _ => a0) 0 32 i hi rfl,i64w (by omega) (by omega)]
  rfl
 ·simp only [f20_4]
  rw [cond_neg (by omega)]
  rfl
theorem c20 : CallOk Tryd.prog G02 20 r20 := callOk_of (V := VG0220) mixed tys eVG0220 (f := 20) (fn := Tryd.f20) Tryd.func20 (by kernel_rfl) (c := sub (bodyOf Tryd.f20) []) (by kernel_rfl) (by
 intro X H r H' h hX hH
 unfold r20 at h; split at h <;> try contradiction
 ·simp only [Option.some.injEq,Prod.mk.injEq] at h
  obtain ⟨hp,rfl,rfl⟩ := h
  obtain ⟨F,hF⟩ := s20 _ (hX _ (.head _))
  exact ⟨Af20 F,(f20_body F _).trans hF⟩)
def lVG0223 : List CEnt := []
def VG0223 : Env := mkEnv T03 G02 lVG0223
noncomputable abbrev Kf48 := kFin VG0223 none (Tryd.f23).results.toList
theorem eVG0223 : EOk Tryd.prog VG0223 := eok_mk (by exact trivial)
def Af23 (F : Nat) : Cuts := { F := F,at_ := fun _ => none,join := fun _ => none }
def ef23_a : Li × Int → St := fun (a0,a1) => ⟨[(0,.str a0),(1,.int .i64 a1)],[],0,16,0⟩
def f23_1 (F : Nat) : Li × Int → Rz := fun (a0,a1) => (cond ((↑a0.length : Int) == (32 : Int)) (cond (decide (a1 ≥ (0 : Int))) (some ((.bool (decide (a1 ≤ (6 : Int)))),[])) (some ((.bool false),[]))) (some ((.bool false),[])))
theorem f23_1_eq (F : Nat) : ∀ v,aexec VG0223 (Af23 F) (sub (bodyOf Tryd.f23) []) (ef23_a v) Kf48 = f23_1 F v := by
 rintro ⟨a0,a1⟩; kernel_rfl
def f23 (F : Nat) : Li × Int → Rz := f23_1 F
theorem f23_body (F : Nat) (a0 : List Int) (a1 : Int) : abody VG0223 (Af23 F) Tryd.f23 [(.str a0),.int .i64 a1] [] = f23 F (a0,a1) :=
 (abody_in (c := (sub (bodyOf Tryd.f23) [])) (by kernel_rfl) (s := ef23_a (a0,a1)) (by kernel_rfl)).trans (f23_1_eq F (a0,a1))
def r23 : CRun := fun X H => match X,H with
 | [(.str a0),.int .i64 a1],[] => some (true,(.bool ((decide (a0.length = 32)) && ((decide (0 ≤ a1)) && (decide (a1 ≤ 6))))),[])
 | _,_ => none
theorem s23 (a0 : List Int) (a1 : Int) (h0 : okV (.str a0)) (h1 : okV (.int .i64 a1)) : ∃ F,f23 F (a0,a1) = some ((.bool ((decide (a0.length = 32)) && ((decide (0 ≤ a1)) && (decide (a1 ≤ 6))))),[]) := by
 refine ⟨0,?_⟩
 simp only [f23,f23_1,ge_iff_le,int_beq]
 by_cases hl : a0.length = 32
 ·rw [cond_pos (by omega)]
  by_cases h : 0 ≤ a1
  ·rw [cond_pos h]; simp [h,hl]
  ·rw [cond_neg h]; simp [h]
 ·rw [cond_neg (by omega)]; simp [hl]
theorem c23 : CallOk Tryd.prog G02 23 r23 := callOk_of (V := VG0223) mixed tys eVG0223 (f := 23) (fn := Tryd.f23) Tryd.func23 (by kernel_rfl) (c := sub (bodyOf Tryd.f23) []) (by kernel_rfl) (by
 intro X H r H' h hX hH
 unfold r23 at h; split at h <;> try contradiction
 ·simp only [Option.some.injEq,Prod.mk.injEq] at h
  obtain ⟨hp,rfl,rfl⟩ := h
  obtain ⟨F,hF⟩ := s23 _ _ (hX _ (.head _)) (hX _ (.tail _ (.head _)))
  exact ⟨Af23 F,(f23_body F _ _).trans hF⟩)
def lVG0242 : List CEnt := []
def VG0242 : Env := mkEnv T03 G02 lVG0242
noncomputable abbrev Kf49 := kFin VG0242 none (Tryd.f42).results.toList
theorem eVG0242 : EOk Tryd.prog VG0242 := eok_mk (by exact trivial)
def Af42 (F : Nat) : Cuts := { F := F,at_ := fun n => match n with | 3010 => some sp33 | _ => none,join := fun n => match n with | 1020 => some [(0,.plain),(2,.plain)] | 2018 => some sp2 | 3012 => some sp33 | 6003 => some [(2,.plain),(3,.plain)] | _ => none }
noncomputable abbrev XAf42 (F : Nat) {α : Type} := @aexec α VG0242 (Af42 F)
def ef42_a : Li → St := fun a0 => ⟨[(0,.str a0)],[],0,15,0⟩
def ef42j1 : Li × Li → St := fun (t0,x2) => ⟨[(0,.str t0),(2,.ptr 0 0 16 0 0 0 16)],[(0,(.cells 16 (.rI .u8 x2) true))],1,15,0⟩
def ef42j2 : Ty0 → St := fun (t0,x2,x3) => ⟨[(0,.str t0),(2,.ptr 0 0 16 0 0 0 16),(3,.ptr 1 0 16 0 0 0 16)],[(0,(.cells 16 (.rI .u8 x2) true)),(1,(.cells 16 (.rI .u8 x3) true))],2,15,0⟩
def ef42j3 : Ty1 → St := fun (t0,t4,x3,x4) => ⟨[(0,.str t0),(2,.ptr 0 0 16 0 0 0 16),(3,.ptr 1 0 16 0 0 0 16),(4,.int .i64 t4)],[(0,(.cells 16 (.rI .u8 x3) true)),(1,(.cells 16 (.rI .u8 x4) true))],2,15,0⟩
def ef42l1 : Ty1 → St := ef42j3
def ef42j4 : Li × Li → St := fun (x1,x2) => ⟨[(2,.ptr 0 0 16 0 0 0 16),(3,.ptr 1 0 16 0 0 0 16)],[(0,(.cells 16 (.rI .u8 x1) true)),(1,(.cells 16 (.rI .u8 x2) true))],2,15,0⟩
def f42_1 (F : Nat) (kf42j1 : Li × Li → Rz) : Li → Rz := fun a0 => (kf42j1 (a0,(List.replicate 16 0)))
theorem f42_1_eq (F : Nat) (Rf42j1 : St → Rz) : ∀ v,XAf42 F (bp Tryd.f42 2) (ef42_a v) (kSeq (kc VG0242 Rf42j1 [(0,.plain),(2,.plain)]) Kf49) = f42_1 F (Rf42j1 ∘ ef42j1) v := by
 intro a0; kernel_rfl
def f42_2 (F : Nat) (kf42j2 : Ty0 → Rz) : Li × Li → Rz := fun (t0,x2) => (kf42j2 (t0,x2,(List.replicate 16 0)))
theorem f42_2_eq (F : Nat) (Rf42j2 : St → Rz) : ∀ v,XAf42 F (bp Tryd.f42 6) (ef42j1 v) (kSeq (kc VG0242 Rf42j2 sp2) Kf49) = f42_2 F (Rf42j2 ∘ ef42j2) v := by
 rintro ⟨t0,x2⟩; kernel_rfl
def f42_3 (F : Nat) (kf42j3 : Ty1 → Rz) (kf42j4 : Li × Li → Rz) : Ty0 → Rz := fun (t0,x2,x3) => (kf42j3 (t0,(0 : Int),x2,x3))
theorem f42_3_eq (F : Nat) (Rf42j3 : St → Rz) (Rf42j4 : St → Rz) : ∀ v,XAf42 F (bp Tryd.f42 28) (ef42j2 v) (kSeq (kc VG0242 Rf42j3 sp33) (kSeq (kc VG0242 Rf42j4 [(2,.plain),(3,.plain)]) Kf49)) = f42_3 F (Rf42j3 ∘ ef42j3) (Rf42j4 ∘ ef42j4) v := by
 rintro ⟨t0,x2,x3⟩; kernel_rfl
def f42_4 (F : Nat) (kf42l1 : Ty1 → Rz) (kf42j4 : Li × Li → Rz) : Ty1 → Rz := fun (t0,t4,x3,x4) => (cond (decide (t4 < (16 : Int))) (cond ((decide (0 ≤ t4)) && (decide (t4 < (↑t0.length : Int)))) (cond ((decide (0 ≤ t4)) && (decide (t4 < (16 : Int)))) (kf42l1 (t0,(IntKind.i64.wrap (t4 + (1 : Int))),x3,(x4.set (Int.toNat t4) (t0.getD (Int.toNat t4) 0)))) none) none) (kf42j4 (x3,x4)))
theorem f42_4_eq (F : Nat) (Rf42l1 : St → Rz) (Rf42j4 : St → Rz) : ∀ v,XAf42 F (bp Tryd.f42 116) (ef42l1 v) (kSeq (kc VG0242 Rf42l1 sp33) (kBlock 0 (kSeq (kc VG0242 Rf42j4 [(2,.plain),(3,.plain)]) Kf49))) = f42_4 F (Rf42l1 ∘ ef42l1) (Rf42j4 ∘ ef42j4) v := by
 rintro ⟨t0,t4,x3,x4⟩; kernel_rfl
def f42_5_i : Ty1 → Li × Int × Li × Li := fun (t0,t4,x3,x4) => (t0,t4,x3,x4)
def f42_5 (F : Nat) (kf42j4 : Li × Li → Rz) : Ty1 → Rz := fun v => loopN (fun k => f42_4 F k kf42j4) F (f42_5_i v)
theorem f42_5_eq (F : Nat) (Rf42j4 : St → Rz) : ∀ v,XAf42 F (bp Tryd.f42 58) (ef42j3 v) (kBlock 0 (kSeq (kc VG0242 Rf42j4 [(2,.plain),(3,.plain)]) Kf49)) = f42_5 F (Rf42j4 ∘ ef42j4) v :=
 loop_cut (by kernel_rfl) (by kernel_rfl) ef42j3 ef42l1 _ f42_5_i (fun k => f42_4 F k (Rf42j4 ∘ ef42j4))
  (by rintro ⟨t0,t4,x3,x4⟩; kernel_rfl) (fun Rf42l1 => f42_4_eq F Rf42l1 Rf42j4)
def f42_6 (F : Nat) (kf42j4 : Li × Li → Rz) : Ty1 → Rz := f42_5 F kf42j4
theorem f42_6_eq (F : Nat) (Rf42j4 : St → Rz) : ∀ v,XAf42 F (bp Tryd.f42 29) (ef42j3 v) (kSeq (kc VG0242 Rf42j4 [(2,.plain),(3,.plain)]) Kf49) = f42_6 F (Rf42j4 ∘ ef42j4) v := fun v =>
 (block_in  (by kernel_rfl) _ _).trans (f42_5_eq F Rf42j4 v)
def f42_7 (F : Nat) (kf42j4 : Li × Li → Rz) : Ty0 → Rz := fun v => f42_3 F (f42_6 F kf42j4) kf42j4 v
theorem f42_7_eq (F : Nat) (Rf42j4 : St → Rz) : ∀ v,XAf42 F (bp Tryd.f42 14) (ef42j2 v) (kSeq (kc VG0242 Rf42j4 [(2,.plain),(3,.plain)]) Kf49) = f42_7 F (Rf42j4 ∘ ef42j4) v :=
 seq_cut (by kernel_rfl) (by kernel_rfl) ef42j2 ef42j3 _ (fun k => f42_3 F k (Rf42j4 ∘ ef42j4)) (f42_6 F (Rf42j4 ∘ ef42j4))
  (fun Rf42j3 => f42_3_eq F Rf42j3 Rf42j4) (f42_6_eq F Rf42j4)
def f42_8 (F : Nat) : Li × Li → Rz := fun (x1,x2) => (some ((.agg 16 (.rI .u8 x2)),[]))
theorem f42_8_eq (F : Nat) : ∀ v,XAf42 F (bp Tryd.f42 15) (ef42j4 v) Kf49 = f42_8 F v := by
 rintro ⟨x1,x2⟩; kernel_rfl
def f42_9 (F : Nat) : Ty0 → Rz := fun v => f42_7 F (f42_8 F) v
theorem f42_9_eq (F : Nat) : ∀ v,XAf42 F (bp Tryd.f42 7) (ef42j2 v) Kf49 = f42_9 F v :=
 seq_cut (by kernel_rfl) (by kernel_rfl) ef42j2 ef42j4 _ (fun k => f42_7 F k) (f42_8 F)
  (fun Rf42j4 => f42_7_eq F Rf42j4) (f42_8_eq F)
def f42_10 (F : Nat) : Li × Li → Rz := fun v => f42_2 F (f42_9 F) v
theorem f42_10_eq (F : Nat) : ∀ v,XAf42 F (bp Tryd.f42 3) (ef42j1 v) Kf49 = f42_10 F v :=
 seq_cut (by kernel_rfl) (by kernel_rfl) ef42j1 ef42j2 _ (fun k => f42_2 F k) (f42_9 F)
  (fun Rf42j2 => f42_2_eq F Rf42j2) (f42_9_eq F)
def f42_11 (F : Nat) : Li → Rz := fun v => f42_1 F (f42_10 F) v
theorem f42_11_eq (F : Nat) : ∀ v,XAf42 F (sub (bodyOf Tryd.f42) []) (ef42_a v) Kf49 = f42_11 F v :=
 seq_cut (by kernel_rfl) (by kernel_rfl) ef42_a ef42j1 _ (fun k => f42_1 F k) (f42_10 F)
  (fun Rf42j1 => f42_1_eq F Rf42j1) (f42_10_eq F)
def f42 (F : Nat) : Li → Rz := f42_11 F
theorem f42_body (F : Nat) (a0 : List Int) : abody VG0242 (Af42 F) Tryd.f42 [(.str a0)] [] = f42 F a0 :=
 (abody_in (c := (sub (bodyOf Tryd.f42) [])) (by kernel_rfl) (s := ef42_a a0) (by kernel_rfl)).trans (f42_11_eq F a0)
def r42 : CRun := fun X H => match X,H with
 | [(.str a0)],[] => some ((decide (16 ≤ a0.length)),(.agg 16 (.rI .u8 (a0.take 16))),[])
 | _,_ => none
theorem s42 (a0 : List Int) (hp : ((decide (16 ≤ a0.length))) = true) (h0 : okV (.str a0)) : ∃ F,f42 F a0 = some ((.agg 16 (.rI .u8 (a0.take 16))),[]) := by
 have hp' := of_decide_eq_true hp
 obtain ⟨F,hF⟩ : ∃ F,100 < F := ⟨101,by decide⟩
 refine ⟨F,?_⟩
 simp only [f42_1,f42_2,f42_3,f42_5_i,f42_5,f42_6,f42_7,f42_8,f42_9,f42_10,f42_11,f42]
 refine loopN_from (fun i => (a0,(i : Int),List.replicate 16 0,(List.range i).map (fun i => a0.getD i 0) ++ List.replicate (16 - i) 0)) 16 (by rfl) (fun i hi k => ?_) (fun k => ?_) _ (by omega)
 ·simp only [f42_4,dec_and]
  rw [cond_pos (by omega),cond_pos (by omega),cond_pos (by omega),Int.toNat_natCast,fill_set (fun i => a0.getD i 0) 0 16 i hi rfl,i64w (by omega) (by omega)]
  rfl
 ·simp only [f42_4]
  rw [cond_neg (by omega)]
  have e : (List.range 16).map (fun i => a0.getD i 0) ++ List.replicate (16 - 16) (0 : Int) = a0.take 16 := by
   refine list_eq 0 (by simp; omega) fun i hi => ?_
   have hi' : i < 16 := by simpa using hi
   simp only [Nat.sub_self,List.replicate_zero,List.append_nil,List.getD_eq_getElem?_getD,List.getElem?_map,List.getElem?_range hi',Option.map_some,Option.getD_some,List.getElem?_take_of_lt hi']
  rw [e]
  rfl
theorem c42 : CallOk Tryd.prog G02 42 r42 := callOk_of (V := VG0242) mixed tys eVG0242 (f := 42) (fn := Tryd.f42) Tryd.func42 (by kernel_rfl) (c := sub (bodyOf Tryd.f42) []) (by kernel_rfl) (by
 intro X H r H' h hX hH
 unfold r42 at h; split at h <;> try contradiction
 ·simp only [Option.some.injEq,Prod.mk.injEq] at h
  obtain ⟨hp,rfl,rfl⟩ := h
  obtain ⟨F,hF⟩ := s42 _ hp (hX _ (.head _))
  exact ⟨Af42 F,(f42_body F _).trans hF⟩)
def lVG0250 : List CEnt := [(63,[some 3],r63)]
def VG0250 : Env := mkEnv T03 G02 lVG0250
noncomputable abbrev Kf50 := kFin VG0250 none (Tryd.f50).results.toList
theorem eVG0250 : EOk Tryd.prog VG0250 := eok_mk (by exact ⟨c63,trivial⟩)
def Af50 (F : Nat) : Cuts := { F := F,at_ := fun _ => none,join := fun _ => none }
def ef50_a : Li → St := fun a0 => ⟨[(0,(.vs (.rI .i64 a0) 0 1))],[],0,6,0⟩
def f50_1 (F : Nat) : Li → Rz := fun a0 => (cond (decide ((Wire.ints a0).length < 1073741000)) (some ((.str (Wire.ints a0)),[])) none)
theorem f50_1_eq (F : Nat) : ∀ v,aexec VG0250 (Af50 F) (sub (bodyOf Tryd.f50) []) (ef50_a v) Kf50 = f50_1 F v := by
 intro a0; kernel_rfl
def f50 (F : Nat) : Li → Rz := f50_1 F
theorem f50_body (F : Nat) (a0 : List Int) : abody VG0250 (Af50 F) Tryd.f50 [(.vs (.rI .i64 a0) 0 1)] [] = f50 F a0 :=
 (abody_in (c := (sub (bodyOf Tryd.f50) [])) (by kernel_rfl) (s := ef50_a a0) (by kernel_rfl)).trans (f50_1_eq F a0)
def r50 : CRun := fun X H => match X,H with
 | [(.vs (.rI .i64 a0) 0 1)],[] => some ((decide ((Wire.ints a0).length < 1073741000)),(.str (Wire.ints a0)),[])
 | _,_ => none
theorem s50 (a0 : List Int) (hp : ((decide ((Wire.ints a0).length < 1073741000))) = true) (h0 : okV (.vs (.rI .i64 a0) 0 1)) : ∃ F,f50 F a0 = some ((.str (Wire.ints a0)),[]) := by
 refine ⟨0,?_⟩
 simp only [f50,f50_1]
 rw [hp,cond_true]
theorem c50 : CallOk Tryd.prog G02 50 r50 := callOk_of (V := VG0250) mixed tys eVG0250 (f := 50) (fn := Tryd.f50) Tryd.func50 (by kernel_rfl) (c := sub (bodyOf Tryd.f50) []) (by kernel_rfl) (by
 intro X H r H' h hX hH
 unfold r50 at h; split at h <;> try contradiction
 ·simp only [Option.some.injEq,Prod.mk.injEq] at h
  obtain ⟨hp,rfl,rfl⟩ := h
  obtain ⟨F,hF⟩ := s50 _ hp (hX _ (.head _))
  exact ⟨Af50 F,(f50_body F _).trans hF⟩)
def lVG0332 : List CEnt := [(31,[none],r31),(35,[none,some 9],r35),(50,[some 3],r50)]
def VG0332 : Env := mkEnv T03 G03 lVG0332
noncomputable abbrev Kf51 := kFin VG0332 none (Tryd.f32).results.toList
theorem eVG0332 : EOk Tryd.prog VG0332 := eok_mk (by exact ⟨c31.more gsub,c35,c50.more gsub,trivial⟩)
def Af32 (F : Nat) : Cuts := { F := F,at_ := fun n => match n with | 2010 => some sp53 | _ => none,join := fun n => match n with | 1018 => some sp54 | 2012 => some sp53 | 5003 => some [(9,.plain),(10,.plain)] | _ => none }
noncomputable abbrev XAf32 (F : Nat) {α : Type} := @aexec α VG0332 (Af32 F)
def ef32_a : Ty38 → St := fun (a0,a1,a2,a3,a4) => ⟨[(0,.int .i64 a0),(1,.int .i64 a1),(2,.int .i64 a2),(3,.int .i64 a3),(4,(.agg 16 (.rI .u8 a4)))],[],0,28,0⟩
def ef32j1 : Ty39 → St := fun (t0,t1,t2,t3,x5,x6) => ⟨[(0,.int .i64 t0),(1,.int .i64 t1),(2,.int .i64 t2),(3,.int .i64 t3),(9,.ptr 0 0 16 0 0 0 16),(10,.ptr 1 0 16 0 0 0 16)],[(0,(.cells 16 (.rI .u8 x5) true)),(1,(.cells 16 (.rI .u8 x6) true))],2,28,0⟩
def ef32j2 : Ty39 → St := fun (t0,t1,t3,t11,x5,x6) => ⟨[(0,.int .i64 t0),(1,.int .i64 t1),(3,.int .i64 t3),(9,.ptr 0 0 16 0 0 0 16),(10,.ptr 1 0 16 0 0 0 16),(11,.int .i64 t11)],[(0,(.cells 16 (.rI .u8 x5) true)),(1,(.cells 16 (.rI .u8 x6) true))],2,28,0⟩
def ef32l1 : Ty39 → St := ef32j2
def ef32j3 : Li × Li → St := fun (x1,x2) => ⟨[(9,.ptr 0 0 16 0 0 0 16),(10,.ptr 1 0 16 0 0 0 16)],[(0,(.cells 16 (.rI .u8 x1) true)),(1,(.cells 16 (.rI .u8 x2) true))],2,28,0⟩
def f32_1 (F : Nat) (kf32j1 : Ty39 → Rz) : Ty38 → Rz := fun (a0,a1,a2,a3,a4) => (kf32j1 (a0,a1,a2,a3,a4,(List.replicate 16 0)))
theorem f32_1_eq (F : Nat) (Rf32j1 : St → Rz) : ∀ v,XAf32 F (bp Tryd.f32 2) (ef32_a v) (kSeq (kc VG0332 Rf32j1 sp54) Kf51) = f32_1 F (Rf32j1 ∘ ef32j1) v := by
 rintro ⟨a0,a1,a2,a3,a4⟩; kernel_rfl
def f32_2 (F : Nat) (kf32j2 : Ty39 → Rz) (kf32j3 : Li × Li → Rz) : Ty39 → Rz := fun (t0,t1,t2,t3,x5,x6) => (kf32j2 (t0,t1,t3,t2,x5,x6))
theorem f32_2_eq (F : Nat) (Rf32j2 : St → Rz) (Rf32j3 : St → Rz) : ∀ v,XAf32 F (bp Tryd.f32 12) (ef32j1 v) (kSeq (kc VG0332 Rf32j2 sp53) (kSeq (kc VG0332 Rf32j3 [(9,.plain),(10,.plain)]) Kf51)) = f32_2 F (Rf32j2 ∘ ef32j2) (Rf32j3 ∘ ef32j3) v := by
 rintro ⟨t0,t1,t2,t3,x5,x6⟩; kernel_rfl
def f32_3 (F : Nat) (kf32l1 : Ty39 → Rz) (kf32j3 : Li × Li → Rz) : Ty39 → Rz := fun (t0,t1,t3,t11,x5,x6) => (cond (decide (t11 < t3)) (cond (decide ((Wire.ints [t0,t1,t11]).length < 1073741000)) (cond (decide ((Sha.input (9 : Int) [(Wire.ints [t0,t1,t11]),x5]).length < 1073741000)) (kf32l1 (t0,t1,t3,(IntKind.i64.wrap (t11 + (1 : Int))),(Sha.of (9 : Int) [(Wire.ints [t0,t1,t11]),x5]),x6)) none) none) (kf32j3 (x5,x6)))
theorem f32_3_eq (F : Nat) (Rf32l1 : St → Rz) (Rf32j3 : St → Rz) : ∀ v,XAf32 F (bp Tryd.f32 52) (ef32l1 v) (kSeq (kc VG0332 Rf32l1 sp53) (kBlock 0 (kSeq (kc VG0332 Rf32j3 [(9,.plain),(10,.plain)]) Kf51))) = f32_3 F (Rf32l1 ∘ ef32l1) (Rf32j3 ∘ ef32j3) v := by
 rintro ⟨t0,t1,t3,t11,x5,x6⟩; kernel_rfl
def f32_4_i : Ty39 → Int × Int × Int × Int × Li × Li := fun (t0,t1,t3,t11,x5,x6) => (t0,t1,t3,t11,x5,x6)
def f32_4 (F : Nat) (kf32j3 : Li × Li → Rz) : Ty39 → Rz := fun v => loopN (fun k => f32_3 F k kf32j3) F (f32_4_i v)
theorem f32_4_eq (F : Nat) (Rf32j3 : St → Rz) : ∀ v,XAf32 F (bp Tryd.f32 26) (ef32j2 v) (kBlock 0 (kSeq (kc VG0332 Rf32j3 [(9,.plain),(10,.plain)]) Kf51)) = f32_4 F (Rf32j3 ∘ ef32j3) v :=
 loop_cut (by kernel_rfl) (by kernel_rfl) ef32j2 ef32l1 _ f32_4_i (fun k => f32_3 F k (Rf32j3 ∘ ef32j3))
  (by rintro ⟨t0,t1,t3,t11,x5,x6⟩; kernel_rfl) (fun Rf32l1 => f32_3_eq F Rf32l1 Rf32j3)
def f32_5 (F : Nat) (kf32j3 : Li × Li → Rz) : Ty39 → Rz := f32_4 F kf32j3
theorem f32_5_eq (F : Nat) (Rf32j3 : St → Rz) : ∀ v,XAf32 F (bp Tryd.f32 13) (ef32j2 v) (kSeq (kc VG0332 Rf32j3 [(9,.plain),(10,.plain)]) Kf51) = f32_5 F (Rf32j3 ∘ ef32j3) v := fun v =>
 (block_in  (by kernel_rfl) _ _).trans (f32_4_eq F Rf32j3 v)
def f32_6 (F : Nat) (kf32j3 : Li × Li → Rz) : Ty39 → Rz := fun v => f32_2 F (f32_5 F kf32j3) kf32j3 v
theorem f32_6_eq (F : Nat) (Rf32j3 : St → Rz) : ∀ v,XAf32 F (bp Tryd.f32 6) (ef32j1 v) (kSeq (kc VG0332 Rf32j3 [(9,.plain),(10,.plain)]) Kf51) = f32_6 F (Rf32j3 ∘ ef32j3) v :=
 seq_cut (by kernel_rfl) (by kernel_rfl) ef32j1 ef32j2 _ (fun k => f32_2 F k (Rf32j3 ∘ ef32j3)) (f32_5 F (Rf32j3 ∘ ef32j3))
  (fun Rf32j2 => f32_2_eq F Rf32j2 Rf32j3) (f32_5_eq F Rf32j3)
def f32_7 (F : Nat) : Li × Li → Rz := fun (x1,x2) => (some ((.agg 16 (.rI .u8 x1)),[]))
theorem f32_7_eq (F : Nat) : ∀ v,XAf32 F (bp Tryd.f32 7) (ef32j3 v) Kf51 = f32_7 F v := by
 rintro ⟨x1,x2⟩; kernel_rfl
def f32_8 (F : Nat) : Ty39 → Rz := fun v => f32_6 F (f32_7 F) v
theorem f32_8_eq (F : Nat) : ∀ v,XAf32 F (bp Tryd.f32 3) (ef32j1 v) Kf51 = f32_8 F v :=
 seq_cut (by kernel_rfl) (by kernel_rfl) ef32j1 ef32j3 _ (fun k => f32_6 F k) (f32_7 F)
  (fun Rf32j3 => f32_6_eq F Rf32j3) (f32_7_eq F)
def f32_9 (F : Nat) : Ty38 → Rz := fun v => f32_1 F (f32_8 F) v
theorem f32_9_eq (F : Nat) : ∀ v,XAf32 F (sub (bodyOf Tryd.f32) []) (ef32_a v) Kf51 = f32_9 F v :=
 seq_cut (by kernel_rfl) (by kernel_rfl) ef32_a ef32j1 _ (fun k => f32_1 F k) (f32_8 F)
  (fun Rf32j1 => f32_1_eq F Rf32j1) (f32_8_eq F)
def f32 (F : Nat) : Ty38 → Rz := f32_9 F
theorem f32_body (F : Nat) (a0 : Int) (a1 : Int) (a2 : Int) (a3 : Int) (a4 : List Int) : abody VG0332 (Af32 F) Tryd.f32 [(.int .i64 a0),.int .i64 a1,.int .i64 a2,.int .i64 a3,(.agg 16 (.rI .u8 a4))] [] = f32 F (a0,a1,a2,a3,a4) :=
 (abody_in (c := (sub (bodyOf Tryd.f32) [])) (by kernel_rfl) (s := ef32_a (a0,a1,a2,a3,a4)) (by kernel_rfl)).trans (f32_9_eq F (a0,a1,a2,a3,a4))
def r32 : CRun := fun X H => match X,H with
 | [(.int .i64 a0),.int .i64 a1,.int .i64 a2,.int .i64 a3,(.agg 16 (.rI .u8 a4))],[] => some ((decide (a3 ≤ 3)),(.agg 16 (.rI .u8 (Sg.adv a0 a1 a2 (Int.toNat (a3 - a2)) a4))),[])
 | _,_ => none
theorem s32 (a0 : Int) (a1 : Int) (a2 : Int) (a3 : Int) (a4 : List Int) (hp : ((decide (a3 ≤ 3))) = true) (h0 : okV (.int .i64 a0)) (h1 : okV (.int .i64 a1)) (h2 : okV (.int .i64 a2)) (h3 : okV (.int .i64 a3)) (h4 : okV (.agg 16 (.rI .u8 a4))) : ∃ F,f32 F (a0,a1,a2,a3,a4) = some ((.agg 16 (.rI .u8 (Sg.adv a0 a1 a2 (Int.toNat (a3 - a2)) a4))),[]) := by
 have hp' := of_decide_eq_true hp
 have hl := (okR_rI h4).1
 have h2' : -9223372036854775808 ≤ a2 ∧ a2 ≤ 9223372036854775807 := h2
 obtain ⟨F,hF⟩ : ∃ F,(Int.toNat (a3 - a2)) < F := ⟨(Int.toNat (a3 - a2)) + 1,by omega⟩
 refine ⟨F,?_⟩
 simp only [f32_1,f32_2,f32_4_i,f32_4,f32_5,f32_6,f32_8,f32_9,f32]
 refine loopN_from (fun i => (a0,a1,a3,a2 + (i : Int),Sg.adv a0 a1 a2 i a4,List.replicate 16 0)) (Int.toNat (a3 - a2)) (by simp only [Int.natCast_zero,Int.add_zero]; rfl) (fun i hi k => ?_) (fun k => ?_) _ (by omega)
 ·have hv := Sg.adv_len a0 a1 i a2 a4 hl
  simp only [f32_3]
  have hi1 := Sg.ints_le [a0,a1,a2 + (i : Int)]
  simp only [List.length_cons,List.length_nil] at hi1
  have hi2 := Sg.input_le2 9 (Wire.ints [a0,a1,a2 + (i : Int)]) (Sg.adv a0 a1 a2 i a4)
  rw [cond_pos (by omega),cond_pos (by omega),cond_pos (by omega),i64w (x := a2 + (i : Int) + 1) (by omega) (by omega)]
  rw [adv_snoc]
  have e : a2 + (i : Int) + 1 = a2 + ((i + 1 : Nat) : Int) := by omega
  rw [e]; rfl
 ·simp only [f32_3]
  rw [cond_neg (by omega)]
  rfl
theorem c32 : CallOk Tryd.prog G03 32 r32 := callOk_of (V := VG0332) mixed tys eVG0332 (f := 32) (fn := Tryd.f32) Tryd.func32 (by kernel_rfl) (c := sub (bodyOf Tryd.f32) []) (by kernel_rfl) (by
 intro X H r H' h hX hH
 unfold r32 at h; split at h <;> try contradiction
 ·simp only [Option.some.injEq,Prod.mk.injEq] at h
  obtain ⟨hp,rfl,rfl⟩ := h
  obtain ⟨F,hF⟩ := s32 _ _ _ _ _ hp (hX _ (.head _)) (hX _ (.tail _ (.head _))) (hX _ (.tail _ (.tail _ (.head _)))) (hX _ (.tail _ (.tail _ (.tail _ (.head _))))) (hX _ (.tail _ (.tail _ (.tail _ (.tail _ (.head _))))))
  exact ⟨Af32 F,(f32_body F _ _ _ _ _).trans hF⟩)
def lVG0333 : List CEnt := [(42,[none],r42),(50,[some 3],r50),(51,[none,none],r51)]
def VG0333 : Env := mkEnv T03 G03 lVG0333
noncomputable abbrev Kf52 := kFin VG0333 none (Tryd.f33).results.toList
theorem eVG0333 : EOk Tryd.prog VG0333 := eok_mk (by exact ⟨c42.more gsub,c50.more gsub,c51,trivial⟩)
def Af33 (F : Nat) : Cuts := { F := F,at_ := fun _ => none,join := fun _ => none }
def ef33_a : Li × Int × Int → St := fun (a0,a1,a2) => ⟨[(0,.str a0),(1,.int .i64 a1),(2,.int .i64 a2)],[],0,15,0⟩
def f33_1 (F : Nat) : Li × Int × Int → Rz := fun (a0,a1,a2) => (cond (decide ((Wire.ints [a1,a2]).length < 1073741000)) (cond (decide ((5 + (Wire.ints [a1,a2]).length) < 4611686018427387904)) (cond ((decide (a0.length < 1073740000)) && (decide (([99,104,97,105,110] ++ (Wire.ints [a1,a2])).length < 1073740000))) (cond (decide (16 ≤ (Sha.mac a0 ([99,104,97,105,110] ++ (Wire.ints [a1,a2]))).length)) (some ((.agg 16 (.rI .u8 ((Sha.mac a0 ([99,104,97,105,110] ++ (Wire.ints [a1,a2]))).take 16))),[])) none) none) none) none)
theorem f33_1_eq (F : Nat) : ∀ v,aexec VG0333 (Af33 F) (sub (bodyOf Tryd.f33) []) (ef33_a v) Kf52 = f33_1 F v := by
 rintro ⟨a0,a1,a2⟩; kernel_rfl
def f33 (F : Nat) : Li × Int × Int → Rz := f33_1 F
theorem f33_body (F : Nat) (a0 : List Int) (a1 : Int) (a2 : Int) : abody VG0333 (Af33 F) Tryd.f33 [(.str a0),.int .i64 a1,.int .i64 a2] [] = f33 F (a0,a1,a2) :=
 (abody_in (c := (sub (bodyOf Tryd.f33) [])) (by kernel_rfl) (s := ef33_a (a0,a1,a2)) (by kernel_rfl)).trans (f33_1_eq F (a0,a1,a2))
def r33 : CRun := fun X H => match X,H with
 | [(.str a0),.int .i64 a1,.int .i64 a2],[] => some ((decide (a0.length < 1073730000)),(.agg 16 (.rI .u8 (Sg.start a0 a1 a2))),[])
 | _,_ => none
theorem s33 (a0 : List Int) (a1 : Int) (a2 : Int) (hp : ((decide (a0.length < 1073730000))) = true) (h0 : okV (.str a0)) (h1 : okV (.int .i64 a1)) (h2 : okV (.int .i64 a2)) : ∃ F,f33 F (a0,a1,a2) = some ((.agg 16 (.rI .u8 (Sg.start a0 a1 a2))),[]) := by
 have hp' := of_decide_eq_true hp
 have hi1 := Sg.ints_le [a1,a2]
 simp only [List.length_cons,List.length_nil] at hi1
 have hm := Sg.mac_len a0 ([99,104,97,105,110] ++ Wire.ints [a1,a2])
 refine ⟨0,?_⟩
 simp only [f33,f33_1,dec_and]
 rw [cond_pos (by omega),cond_pos (by omega),cond_pos ⟨by omega,by rw [List.length_append]; simp only [List.length_cons,List.length_nil]; omega⟩,cond_pos (by omega)]
 rfl
theorem c33 : CallOk Tryd.prog G03 33 r33 := callOk_of (V := VG0333) mixed tys eVG0333 (f := 33) (fn := Tryd.f33) Tryd.func33 (by kernel_rfl) (c := sub (bodyOf Tryd.f33) []) (by kernel_rfl) (by
 intro X H r H' h hX hH
 unfold r33 at h; split at h <;> try contradiction
 ·simp only [Option.some.injEq,Prod.mk.injEq] at h
  obtain ⟨hp,rfl,rfl⟩ := h
  obtain ⟨F,hF⟩ := s33 _ _ _ hp (hX _ (.head _)) (hX _ (.tail _ (.head _))) (hX _ (.tail _ (.tail _ (.head _))))
  exact ⟨Af33 F,(f33_body F _ _ _).trans hF⟩)
def lVG0343 : List CEnt := [(31,[none],r31),(35,[none,some 9],r35)]
def VG0343 : Env := mkEnv T03 G03 lVG0343
noncomputable abbrev Kf53 := kFin VG0343 none (Tryd.f43).results.toList
theorem eVG0343 : EOk Tryd.prog VG0343 := eok_mk (by exact ⟨c31.more gsub,c35,trivial⟩)
def Af43 (F : Nat) : Cuts := { F := F,at_ := fun _ => none,join := fun _ => none }
def ef43_a : Li × Li → St := fun (a0,a1) => ⟨[(0,(.agg 16 (.rI .u8 a0))),(1,(.agg 16 (.rI .u8 a1)))],[],0,11,0⟩
def f43_1 (F : Nat) : Li × Li → Rz := fun (a0,a1) => (cond (decide ((Sha.input (2 : Int) [a0,a1]).length < 1073741000)) (some ((.agg 16 (.rI .u8 (Sha.of (2 : Int) [a0,a1]))),[])) none)
theorem f43_1_eq (F : Nat) : ∀ v,aexec VG0343 (Af43 F) (sub (bodyOf Tryd.f43) []) (ef43_a v) Kf53 = f43_1 F v := by
 rintro ⟨a0,a1⟩; kernel_rfl
def f43 (F : Nat) : Li × Li → Rz := f43_1 F
theorem f43_body (F : Nat) (a0 : List Int) (a1 : List Int) : abody VG0343 (Af43 F) Tryd.f43 [(.agg 16 (.rI .u8 a0)),(.agg 16 (.rI .u8 a1))] [] = f43 F (a0,a1) :=
 (abody_in (c := (sub (bodyOf Tryd.f43) [])) (by kernel_rfl) (s := ef43_a (a0,a1)) (by kernel_rfl)).trans (f43_1_eq F (a0,a1))
def r43 : CRun := fun X H => match X,H with
 | [(.agg 16 (.rI .u8 a0)),(.agg 16 (.rI .u8 a1))],[] => some (true,(.agg 16 (.rI .u8 (Sg.node a0 a1))),[])
 | _,_ => none
theorem s43 (a0 : List Int) (a1 : List Int) (h0 : okV (.agg 16 (.rI .u8 a0))) (h1 : okV (.agg 16 (.rI .u8 a1))) : ∃ F,f43 F (a0,a1) = some ((.agg 16 (.rI .u8 (Sg.node a0 a1))),[]) := by
 have h0' := (okR_rI h0).1
 have h1' := (okR_rI h1).1
 have := Sg.input_le2 2 a0 a1
 refine ⟨0,?_⟩
 simp only [f43,f43_1]
 rw [cond_pos (by omega)]
 rfl
theorem c43 : CallOk Tryd.prog G03 43 r43 := callOk_of (V := VG0343) mixed tys eVG0343 (f := 43) (fn := Tryd.f43) Tryd.func43 (by kernel_rfl) (c := sub (bodyOf Tryd.f43) []) (by kernel_rfl) (by
 intro X H r H' h hX hH
 unfold r43 at h; split at h <;> try contradiction
 ·simp only [Option.some.injEq,Prod.mk.injEq] at h
  obtain ⟨hp,rfl,rfl⟩ := h
  obtain ⟨F,hF⟩ := s43 _ _ (hX _ (.head _)) (hX _ (.tail _ (.head _)))
  exact ⟨Af43 F,(f43_body F _ _).trans hF⟩)
def lVG0346 : List CEnt := [(31,[none],r31),(32,[none,none,none,none,none],r32),(33,[none,none,none],r33),(35,[none,some 9],r35)]
def VG0346 : Env := mkEnv T03 G03 lVG0346
noncomputable abbrev Kf54 := kFin VG0346 none (Tryd.f46).results.toList
theorem eVG0346 : EOk Tryd.prog VG0346 := eok_mk (by exact ⟨c31.more gsub,c32,c33,c35,trivial⟩)
def Af46 (F : Nat) : Cuts := { F := F,at_ := fun n => match n with | 3010 => some sp70 | _ => none,join := fun n => match n with | 1022 => some sp22 | 2020 => some sp71 | 3012 => some sp70 | 6005 => some [(4,.plain),(5,.plain)] | _ => none }
noncomputable abbrev XAf46 (F : Nat) {α : Type} := @aexec α VG0346 (Af46 F)
def ef46_a : Li × Int → St := fun (a0,a1) => ⟨[(0,.str a0),(1,.int .i64 a1)],[],0,29,0⟩
def ef46j1 : Ty34 → St := fun (t0,t1,x3) => ⟨[(0,.str t0),(1,.int .i64 t1),(4,.ptr 0 0 16 0 0 0 16)],[(0,(.cells 16 (.rI .u8 x3) true))],1,29,0⟩
def ef46j2 : Ty1 → St := fun (t0,t1,t5,x4) => ⟨[(0,.str t0),(1,.int .i64 t1),(4,.ptr 0 0 16 0 0 0 16),(5,.str t5)],[(0,(.cells 16 (.rI .u8 x4) true))],1,29,0⟩
def ef46j3 : Ty53 → St := fun (t0,t1,t5,t6,x5) => ⟨[(0,.str t0),(1,.int .i64 t1),(4,.ptr 0 0 16 0 0 0 16),(5,.str t5),(6,.int .i64 t6)],[(0,(.cells 16 (.rI .u8 x5) true))],1,29,0⟩
def ef46l1 : Ty53 → St := ef46j3
def ef46j4 : Li × Li → St := fun (t5,x2) => ⟨[(4,.ptr 0 0 16 0 0 0 16),(5,.str t5)],[(0,(.cells 16 (.rI .u8 x2) true))],1,29,0⟩
def f46_1 (F : Nat) (kf46j1 : Ty34 → Rz) : Li × Int → Rz := fun (a0,a1) => (kf46j1 (a0,a1,(List.replicate 16 0)))
theorem f46_1_eq (F : Nat) (Rf46j1 : St → Rz) : ∀ v,XAf46 F (bp Tryd.f46 2) (ef46_a v) (kSeq (kc VG0346 Rf46j1 sp22) Kf54) = f46_1 F (Rf46j1 ∘ ef46j1) v := by
 rintro ⟨a0,a1⟩; kernel_rfl
def f46_2 (F : Nat) (kf46j2 : Ty1 → Rz) : Ty34 → Rz := fun (t0,t1,x3) => (kf46j2 (t0,t1,[],x3))
theorem f46_2_eq (F : Nat) (Rf46j2 : St → Rz) : ∀ v,XAf46 F (bp Tryd.f46 6) (ef46j1 v) (kSeq (kc VG0346 Rf46j2 sp71) Kf54) = f46_2 F (Rf46j2 ∘ ef46j2) v := by
 rintro ⟨t0,t1,x3⟩; kernel_rfl
def f46_3 (F : Nat) (kf46j3 : Ty53 → Rz) (kf46j4 : Li × Li → Rz) : Ty1 → Rz := fun (t0,t1,t5,x4) => (kf46j3 (t0,t1,t5,(0 : Int),x4))
theorem f46_3_eq (F : Nat) (Rf46j3 : St → Rz) (Rf46j4 : St → Rz) : ∀ v,XAf46 F (bp Tryd.f46 28) (ef46j2 v) (kSeq (kc VG0346 Rf46j3 sp70) (kSeq (kc VG0346 Rf46j4 [(4,.plain),(5,.plain)]) Kf54)) = f46_3 F (Rf46j3 ∘ ef46j3) (Rf46j4 ∘ ef46j4) v := by
 rintro ⟨t0,t1,t5,x4⟩; kernel_rfl
def f46_4 (F : Nat) (kf46l1 : Ty53 → Rz) (kf46j4 : Li × Li → Rz) : Ty53 → Rz := fun (t0,t1,t5,t6,x5) => (cond (decide (t6 < (68 : Int))) (cond (decide (t0.length < 1073730000)) (cond (decide ((3 : Int) ≤ 3)) (cond (decide ((t5.length + (Sg.adv t1 t6 (0 : Int) (Int.toNat ((3 : Int) - (0 : Int))) (Sg.start t0 t1 t6)).length) < 4611686018427387904)) (kf46l1 (t0,t1,(t5 ++ (Sg.adv t1 t6 (0 : Int) (Int.toNat ((3 : Int) - (0 : Int))) (Sg.start t0 t1 t6))),(IntKind.i64.wrap (t6 + (1 : Int))),x5)) none) none) none) (kf46j4 (t5,x5)))
theorem f46_4_eq (F : Nat) (Rf46l1 : St → Rz) (Rf46j4 : St → Rz) : ∀ v,XAf46 F (bp Tryd.f46 116) (ef46l1 v) (kSeq (kc VG0346 Rf46l1 sp70) (kBlock 0 (kSeq (kc VG0346 Rf46j4 [(4,.plain),(5,.plain)]) Kf54))) = f46_4 F (Rf46l1 ∘ ef46l1) (Rf46j4 ∘ ef46j4) v := by
 rintro ⟨t0,t1,t5,t6,x5⟩; kernel_rfl
def f46_5_i : Ty53 → Li × Int × Li × Int × Li := fun (t0,t1,t5,t6,x5) => (t0,t1,t5,t6,x5)
def f46_5 (F : Nat) (kf46j4 : Li × Li → Rz) : Ty53 → Rz := fun v => loopN (fun k => f46_4 F k kf46j4) F (f46_5_i v)
theorem f46_5_eq (F : Nat) (Rf46j4 : St → Rz) : ∀ v,XAf46 F (bp Tryd.f46 58) (ef46j3 v) (kBlock 0 (kSeq (kc VG0346 Rf46j4 [(4,.plain),(5,.plain)]) Kf54)) = f46_5 F (Rf46j4 ∘ ef46j4) v :=
 loop_cut (by kernel_rfl) (by kernel_rfl) ef46j3 ef46l1 _ f46_5_i (fun k => f46_4 F k (Rf46j4 ∘ ef46j4))
  (by rintro ⟨t0,t1,t5,t6,x5⟩; kernel_rfl) (fun Rf46l1 => f46_4_eq F Rf46l1 Rf46j4)
def f46_6 (F : Nat) (kf46j4 : Li × Li → Rz) : Ty53 → Rz := f46_5 F kf46j4
theorem f46_6_eq (F : Nat) (Rf46j4 : St → Rz) : ∀ v,XAf46 F (bp Tryd.f46 29) (ef46j3 v) (kSeq (kc VG0346 Rf46j4 [(4,.plain),(5,.plain)]) Kf54) = f46_6 F (Rf46j4 ∘ ef46j4) v := fun v =>
 (block_in  (by kernel_rfl) _ _).trans (f46_5_eq F Rf46j4 v)
def f46_7 (F : Nat) (kf46j4 : Li × Li → Rz) : Ty1 → Rz := fun v => f46_3 F (f46_6 F kf46j4) kf46j4 v
theorem f46_7_eq (F : Nat) (Rf46j4 : St → Rz) : ∀ v,XAf46 F (bp Tryd.f46 14) (ef46j2 v) (kSeq (kc VG0346 Rf46j4 [(4,.plain),(5,.plain)]) Kf54) = f46_7 F (Rf46j4 ∘ ef46j4) v :=
 seq_cut (by kernel_rfl) (by kernel_rfl) ef46j2 ef46j3 _ (fun k => f46_3 F k (Rf46j4 ∘ ef46j4)) (f46_6 F (Rf46j4 ∘ ef46j4))
  (fun Rf46j3 => f46_3_eq F Rf46j3 Rf46j4) (f46_6_eq F Rf46j4)
def f46_8 (F : Nat) : Li × Li → Rz := fun (t5,x2) => (cond (decide ((Sha.input (3 : Int) [t5]).length < 1073741000)) (cond (decide ((Sha.input (1 : Int) [(Sha.of (3 : Int) [t5])]).length < 1073741000)) (some ((.agg 16 (.rI .u8 (Sha.of (1 : Int) [(Sha.of (3 : Int) [t5])]))),[])) none) none)
theorem f46_8_eq (F : Nat) : ∀ v,XAf46 F (bp Tryd.f46 15) (ef46j4 v) Kf54 = f46_8 F v := by
 rintro ⟨t5,x2⟩; kernel_rfl
def f46_9 (F : Nat) : Ty1 → Rz := fun v => f46_7 F (f46_8 F) v
theorem f46_9_eq (F : Nat) : ∀ v,XAf46 F (bp Tryd.f46 7) (ef46j2 v) Kf54 = f46_9 F v :=
 seq_cut (by kernel_rfl) (by kernel_rfl) ef46j2 ef46j4 _ (fun k => f46_7 F k) (f46_8 F)
  (fun Rf46j4 => f46_7_eq F Rf46j4) (f46_8_eq F)
def f46_10 (F : Nat) : Ty34 → Rz := fun v => f46_2 F (f46_9 F) v
theorem f46_10_eq (F : Nat) : ∀ v,XAf46 F (bp Tryd.f46 3) (ef46j1 v) Kf54 = f46_10 F v :=
 seq_cut (by kernel_rfl) (by kernel_rfl) ef46j1 ef46j2 _ (fun k => f46_2 F k) (f46_9 F)
  (fun Rf46j2 => f46_2_eq F Rf46j2) (f46_9_eq F)
def f46_11 (F : Nat) : Li × Int → Rz := fun v => f46_1 F (f46_10 F) v
theorem f46_11_eq (F : Nat) : ∀ v,XAf46 F (sub (bodyOf Tryd.f46) []) (ef46_a v) Kf54 = f46_11 F v :=
 seq_cut (by kernel_rfl) (by kernel_rfl) ef46_a ef46j1 _ (fun k => f46_1 F k) (f46_10 F)
  (fun Rf46j1 => f46_1_eq F Rf46j1) (f46_10_eq F)
def f46 (F : Nat) : Li × Int → Rz := f46_11 F
theorem f46_body (F : Nat) (a0 : List Int) (a1 : Int) : abody VG0346 (Af46 F) Tryd.f46 [(.str a0),.int .i64 a1] [] = f46 F (a0,a1) :=
 (abody_in (c := (sub (bodyOf Tryd.f46) [])) (by kernel_rfl) (s := ef46_a (a0,a1)) (by kernel_rfl)).trans (f46_11_eq F (a0,a1))
def r46 : CRun := fun X H => match X,H with
 | [(.str a0),.int .i64 a1],[] => some ((decide (a0.length < 1073730000)),(.agg 16 (.rI .u8 (Sg.leaf a0 a1))),[])
 | _,_ => none
theorem s46 (a0 : List Int) (a1 : Int) (hp : ((decide (a0.length < 1073730000))) = true) (h0 : okV (.str a0)) (h1 : okV (.int .i64 a1)) : ∃ F,f46 F (a0,a1) = some ((.agg 16 (.rI .u8 (Sg.leaf a0 a1))),[]) := by
 have hp' := of_decide_eq_true hp
 obtain ⟨F,hF⟩ : ∃ F,100 < F := ⟨101,by decide⟩
 refine ⟨F,?_⟩
 simp only [f46_1,f46_2,f46_3,f46_5_i,f46_5,f46_6,f46_7,f46_9,f46_10,f46_11,f46]
 have hlen : ∀ n : Nat,((List.range n).flatMap (Sg.top a0 a1)).length = 16 * n := fun n => Sg.flat_len _ n fun i _ => Sg.top_len a0 a1 i
 refine loopN_from (fun i => (a0,a1,(List.range i).flatMap (Sg.top a0 a1),(i : Int),List.replicate 16 0)) 68 (by rfl) (fun i hi k => ?_) (fun k => ?_) _ (by omega)
 ·have h1 := hlen i
  have h2 := Sg.top_len a0 a1 i
  have e : Sg.adv a1 (i : Int) 0 (Int.toNat ((3 : Int) - (0 : Int))) (Sg.start a0 a1 (i : Int)) = Sg.top a0 a1 i := rfl
  simp only [f46_4]
  rw [e,cond_pos (by omega),cond_pos (by omega),cond_pos (by omega),cond_pos (by omega),i64w (by omega) (by omega),← Sg.flat_succ]
  rfl
 ·have h1 := hlen 68
  simp only [f46_4]
  rw [cond_neg (by omega)]
  simp only [f46_8]
  have h3 := Sg.input_le1 3 ((List.range 68).flatMap (Sg.top a0 a1))
  have h4 := Sg.input_le1 1 (Sha.of 3 [(List.range 68).flatMap (Sg.top a0 a1)])
  have h2 := Sg.of_len 3 [(List.range 68).flatMap (Sg.top a0 a1)]
  rw [cond_pos (by omega),cond_pos (by omega)]
  rfl
theorem c46 : CallOk Tryd.prog G03 46 r46 := callOk_of (V := VG0346) mixed tys eVG0346 (f := 46) (fn := Tryd.f46) Tryd.func46 (by kernel_rfl) (c := sub (bodyOf Tryd.f46) []) (by kernel_rfl) (by
 intro X H r H' h hX hH
 unfold r46 at h; split at h <;> try contradiction
 ·simp only [Option.some.injEq,Prod.mk.injEq] at h
  obtain ⟨hp,rfl,rfl⟩ := h
  obtain ⟨F,hF⟩ := s46 _ _ hp (hX _ (.head _)) (hX _ (.tail _ (.head _)))
  exact ⟨Af46 F,(f46_body F _ _).trans hF⟩)
def lVG0211 : List CEnt := []
def VG0211 : Env := mkEnv T03 G02 lVG0211
theorem eVG0211 : EOk Tryd.prog VG0211 := eok_mk (by exact trivial)
def Af11 (F : Nat) : Cuts := { F := F,at_ := fun n => match n with | 4029 => some sp72 | 9012 => some sp73 | _ => none,join := fun n => match n with | 1041 => some [(1,.plain)] | 2039 => some [(1,.plain),(3,.plain)] | 3037 => some sp26 | 4031 => some sp74 | 5001 => some sp74 | 6023 => some sp74 | 7018 => some sp75 | 8016 => some sp76 | 9014 => some sp77 | 13003 => some [(3,.plain),(4,.plain)] | _ => none,fin := (some [(2,.view 3)]) }
noncomputable abbrev XAf11 (F : Nat) {α : Type} := @aexec α VG0211 (Af11 F)
def ef11_a : Li → St := fun a0 => ⟨[(0,(.agg 16 (.rI .u8 a0)))],[],0,59,0⟩
def ef11j1 : Li → St := fun x1 => ⟨[(1,.ptr 0 0 16 0 0 0 16)],[(0,(.cells 16 (.rI .u8 x1) true))],1,59,0⟩
def ef11j2 : Li → St := fun x1 => ⟨[(1,.ptr 0 0 16 0 0 0 16),(3,.ns)],[(0,(.cells 16 (.rI .u8 x1) true))],1,59,0⟩
def ef11j3 : Int × Li → St := fun (t4,x2) => ⟨[(1,.ptr 0 0 16 0 0 0 16),(3,.ns),(4,.int .i64 t4)],[(0,(.cells 16 (.rI .u8 x2) true))],1,59,0⟩
def ef11j4 : Int × Int × Li → St := fun (t4,t5,x3) => ⟨[(1,.ptr 0 0 16 0 0 0 16),(3,.ns),(4,.int .i64 t4),(5,.int .i64 t5)],[(0,(.cells 16 (.rI .u8 x3) true))],1,59,0⟩
def ef11l1 : Ty20 → St := fun (t4,t5,x3,x4) => ⟨[(1,.ptr 0 0 16 0 0 0 16),(3,.own 1 0 1),(4,.int .i64 t4),(5,.int .i64 t5)],[(0,(.cells 16 (.rI .u8 x3) true)),(1,(.cells x4.length (.rI .i64 x4) true))],2,59,0⟩
def ef11j5 : Ty20 → St := ef11l1
def ef11j6 : Ty54 → St := fun (t4,t5,t6,x4,x5) => ⟨[(1,.ptr 0 0 16 0 0 0 16),(3,.own 1 0 1),(4,.int .i64 t4),(5,.int .i64 t5),(6,.int .i64 t6)],[(0,(.cells 16 (.rI .u8 x4) true)),(1,(.cells x5.length (.rI .i64 x5) true))],2,59,0⟩
def ef11j7 : Ty40 → St := fun (t4,t5,x3,x4,x5) => ⟨[(1,.ptr 0 0 16 0 0 0 16),(3,.own 1 0 1),(4,.int .i64 t4),(5,.int .i64 t5),(7,.own 2 0 1)],[(0,(.cells 16 (.rI .u8 x3) true)),(1,(.cells x4.length (.rI .i64 x4) true)),(2,(.cells x5.length (.rI .i64 x5) true))],3,59,0⟩
def ef11j8 : Ty55 → St := fun (t4,t5,t8,x4,x5,x6) => ⟨[(1,.ptr 0 0 16 0 0 0 16),(3,.own 1 0 1),(4,.int .i64 t4),(5,.int .i64 t5),(7,.own 2 0 1),(8,.int .i64 t8)],[(0,(.cells 16 (.rI .u8 x4) true)),(1,(.cells x5.length (.rI .i64 x5) true)),(2,(.cells x6.length (.rI .i64 x6) true))],3,59,0⟩
def ef11l2 : Ty55 → St := ef11j8
def ef11j9 : Ty20 → St := ef11l1
def ef11j10 : Int × Li → St := fun (t4,x2) => ⟨[(3,.own 0 0 1),(4,.int .i64 t4)],[(0,(.cells x2.length (.rI .i64 x2) true))],1,59,0⟩
def f11_1 (F : Nat) (kf11j1 : Li → Rz) : Li → Rz := fun a0 => (kf11j1 a0)
theorem f11_1_eq (F : Nat) (Rf11j1 : St → Rz) : ∀ v,XAf11 F (bp Tryd.f11 2) (ef11_a v) (kSeq (kc VG0211 Rf11j1 [(1,.plain)]) (kFin VG0211 (some [(2,.view 3)]) (Tryd.f11).results.toList)) = f11_1 F (Rf11j1 ∘ ef11j1) v := by
 intro a0; kernel_rfl
def f11_2 (F : Nat) (kf11j2 : Li → Rz) : Li → Rz := fun x1 => (kf11j2 x1)
theorem f11_2_eq (F : Nat) (Rf11j2 : St → Rz) : ∀ v,XAf11 F (bp Tryd.f11 6) (ef11j1 v) (kSeq (kc VG0211 Rf11j2 [(1,.plain),(3,.plain)]) (kFin VG0211 (some [(2,.view 3)]) (Tryd.f11).results.toList)) = f11_2 F (Rf11j2 ∘ ef11j2) v := by
 intro x1; kernel_rfl
def f11_3 (F : Nat) (kf11j3 : Int × Li → Rz) : Li → Rz := fun x1 => (kf11j3 ((0 : Int),x1))
theorem f11_3_eq (F : Nat) (Rf11j3 : St → Rz) : ∀ v,XAf11 F (bp Tryd.f11 14) (ef11j2 v) (kSeq (kc VG0211 Rf11j3 sp26) (kFin VG0211 (some [(2,.view 3)]) (Tryd.f11).results.toList)) = f11_3 F (Rf11j3 ∘ ef11j3) v := by
 intro x1; kernel_rfl
def f11_4 (F : Nat) (kf11j4 : Int × Int × Li → Rz) (kf11j10 : Int × Li → Rz) : Int × Li → Rz := fun (t4,x2) => (kf11j4 (t4,(0 : Int),x2))
theorem f11_4_eq (F : Nat) (Rf11j4 : St → Rz) (Rf11j10 : St → Rz) : ∀ v,XAf11 F (bp Tryd.f11 60) (ef11j3 v) (kSeq (kc VG0211 Rf11j4 sp74) (kSeq (kc VG0211 Rf11j10 [(3,.plain),(4,.plain)]) (kFin VG0211 (some [(2,.view 3)]) (Tryd.f11).results.toList))) = f11_4 F (Rf11j4 ∘ ef11j4) (Rf11j10 ∘ ef11j10) v := by
 rintro ⟨t4,x2⟩; kernel_rfl
def f11_5 (F : Nat) (kf11j5 : Ty20 → Rz) (kf11l1 : Ty20 → Rz) (kf11j10 : Int × Li → Rz) : Ty20 → Rz := fun (t4,t5,x3,x4) => (cond (decide (t5 < (16 : Int))) (kf11j5 (t4,t5,x3,x4)) (kf11j10 (t4,x4)))
theorem f11_5_eq (F : Nat) (Rf11j5 : St → Rz) (Rf11l1 : St → Rz) (Rf11j10 : St → Rz) : ∀ v,XAf11 F (bp Tryd.f11 488) (ef11l1 v) (kSeq (kc VG0211 Rf11j5 sp74) (kSeq (kc VG0211 Rf11l1 sp72) (kBlock 0 (kSeq (kc VG0211 Rf11j10 [(3,.plain),(4,.plain)]) (kFin VG0211 (some [(2,.view 3)]) (Tryd.f11).results.toList))))) = f11_5 F (Rf11j5 ∘ ef11j5) (Rf11l1 ∘ ef11l1) (Rf11j10 ∘ ef11j10) v := by
 rintro ⟨t4,t5,x3,x4⟩; kernel_rfl
def f11_6 (F : Nat) (kf11j6 : Ty54 → Rz) (kf11j9 : Ty20 → Rz) (kf11l1 : Ty20 → Rz) (kf11j10 : Int × Li → Rz) : Ty20 → Rz := fun (t4,t5,x3,x4) => (cond ((decide (0 ≤ t5)) && (decide (t5 < (16 : Int)))) (kf11j6 (t4,t5,(IntKind.i64.wrap (x3.getD (Int.toNat t5) 0)),x3,x4)) none)
theorem f11_6_eq (F : Nat) (Rf11j6 : St → Rz) (Rf11j9 : St → Rz) (Rf11l1 : St → Rz) (Rf11j10 : St → Rz) : ∀ v,XAf11 F (bp Tryd.f11 3912) (ef11j5 v) (kSeq (kc VG0211 Rf11j6 sp75) (kBlock 1 (kSeq (kc VG0211 Rf11j9 sp74) (kSeq (kc VG0211 Rf11l1 sp72) (kBlock 0 (kSeq (kc VG0211 Rf11j10 [(3,.plain),(4,.plain)]) (kFin VG0211 (some [(2,.view 3)]) (Tryd.f11).results.toList))))))) = f11_6 F (Rf11j6 ∘ ef11j6) (Rf11j9 ∘ ef11j9) (Rf11l1 ∘ ef11l1) (Rf11j10 ∘ ef11j10) v := by
 rintro ⟨t4,t5,x3,x4⟩; kernel_rfl
def f11_7 (F : Nat) (kf11j7 : Ty40 → Rz) (kf11j9 : Ty20 → Rz) (kf11l1 : Ty20 → Rz) (kf11j10 : Int × Li → Rz) : Ty54 → Rz := fun (t4,t5,t6,x4,x5) => (kf11j7 (t4,t5,x4,x5,[(IntKind.i64.wrap (Int.tdiv t6 (64 : Int))),(Int.tmod (IntKind.i64.wrap (Int.tdiv t6 (16 : Int))) (4 : Int)),(Int.tmod (IntKind.i64.wrap (Int.tdiv t6 (4 : Int))) (4 : Int)),(Int.tmod t6 (4 : Int))]))
theorem f11_7_eq (F : Nat) (Rf11j7 : St → Rz) (Rf11j9 : St → Rz) (Rf11l1 : St → Rz) (Rf11j10 : St → Rz) : ∀ v,XAf11 F (bp Tryd.f11 7826) (ef11j6 v) (kSeq (kc VG0211 Rf11j7 sp76) (kBlock 1 (kSeq (kc VG0211 Rf11j9 sp74) (kSeq (kc VG0211 Rf11l1 sp72) (kBlock 0 (kSeq (kc VG0211 Rf11j10 [(3,.plain),(4,.plain)]) (kFin VG0211 (some [(2,.view 3)]) (Tryd.f11).results.toList))))))) = f11_7 F (Rf11j7 ∘ ef11j7) (Rf11j9 ∘ ef11j9) (Rf11l1 ∘ ef11l1) (Rf11j10 ∘ ef11j10) v := by
 rintro ⟨t4,t5,t6,x4,x5⟩; kernel_rfl
def f11_8 (F : Nat) (kf11j8 : Ty55 → Rz) (kf11j9 : Ty20 → Rz) (kf11l1 : Ty20 → Rz) (kf11j10 : Int × Li → Rz) : Ty40 → Rz := fun (t4,t5,x3,x4,x5) => (kf11j8 (t4,t5,(0 : Int),x3,x4,x5))
theorem f11_8_eq (F : Nat) (Rf11j8 : St → Rz) (Rf11j9 : St → Rz) (Rf11l1 : St → Rz) (Rf11j10 : St → Rz) : ∀ v,XAf11 F (bp Tryd.f11 15654) (ef11j7 v) (kSeq (kc VG0211 Rf11j8 sp77) (kBlock 1 (kSeq (kc VG0211 Rf11j9 sp74) (kSeq (kc VG0211 Rf11l1 sp72) (kBlock 0 (kSeq (kc VG0211 Rf11j10 [(3,.plain),(4,.plain)]) (kFin VG0211 (some [(2,.view 3)]) (Tryd.f11).results.toList))))))) = f11_8 F (Rf11j8 ∘ ef11j8) (Rf11j9 ∘ ef11j9) (Rf11l1 ∘ ef11l1) (Rf11j10 ∘ ef11j10) v := by
 rintro ⟨t4,t5,x3,x4,x5⟩; kernel_rfl
def f11_9 (F : Nat) (kf11l2 : Ty55 → Rz) (kf11j9 : Ty20 → Rz) (kf11l1 : Ty20 → Rz) (kf11j10 : Int × Li → Rz) : Ty55 → Rz := fun (t4,t5,t8,x4,x5,x6) => (cond (decide (t8 < (4 : Int))) (cond ((decide (0 ≤ t8)) && (decide (t8 < (↑x6.length : Int)))) (cond (decide ((x5.length + 1) < 1073741824)) (cond ((decide (0 ≤ t8)) && (decide (t8 < (↑x6.length : Int)))) (kf11l2 ((IntKind.i64.wrap ((IntKind.i64.wrap (t4 + (3 : Int))) - (x6.getD (Int.toNat t8) 0))),t5,(IntKind.i64.wrap (t8 + (1 : Int))),x4,(x5 ++ [(x6.getD (Int.toNat t8) 0)]),x6)) none) none) none) (kf11j9 (t4,t5,x4,x5)))
theorem f11_9_eq (F : Nat) (Rf11l2 : St → Rz) (Rf11j9 : St → Rz) (Rf11l1 : St → Rz) (Rf11j10 : St → Rz) : ∀ v,XAf11 F (bp Tryd.f11 62620) (ef11l2 v) (kSeq (kc VG0211 Rf11l2 sp73) (kBlock 2 (kBlock 1 (kSeq (kc VG0211 Rf11j9 sp74) (kSeq (kc VG0211 Rf11l1 sp72) (kBlock 0 (kSeq (kc VG0211 Rf11j10 [(3,.plain),(4,.plain)]) (kFin VG0211 (some [(2,.view 3)]) (Tryd.f11).results.toList)))))))) = f11_9 F (Rf11l2 ∘ ef11l2) (Rf11j9 ∘ ef11j9) (Rf11l1 ∘ ef11l1) (Rf11j10 ∘ ef11j10) v := by
 rintro ⟨t4,t5,t8,x4,x5,x6⟩; kernel_rfl
def f11_10_i : Ty55 → Int × Int × Int × Li × Li × Li := fun (t4,t5,t8,x4,x5,x6) => (t4,t5,t8,x4,x5,x6)
def f11_10 (F : Nat) (kf11j9 : Ty20 → Rz) (kf11l1 : Ty20 → Rz) (kf11j10 : Int × Li → Rz) : Ty55 → Rz := fun v => loopN (fun k => f11_9 F k kf11j9 kf11l1 kf11j10) F (f11_10_i v)
theorem f11_10_eq (F : Nat) (Rf11j9 : St → Rz) (Rf11l1 : St → Rz) (Rf11j10 : St → Rz) : ∀ v,XAf11 F (bp Tryd.f11 31310) (ef11j8 v) (kBlock 2 (kBlock 1 (kSeq (kc VG0211 Rf11j9 sp74) (kSeq (kc VG0211 Rf11l1 sp72) (kBlock 0 (kSeq (kc VG0211 Rf11j10 [(3,.plain),(4,.plain)]) (kFin VG0211 (some [(2,.view 3)]) (Tryd.f11).results.toList))))))) = f11_10 F (Rf11j9 ∘ ef11j9) (Rf11l1 ∘ ef11l1) (Rf11j10 ∘ ef11j10) v :=
 loop_cut (by kernel_rfl) (by kernel_rfl) ef11j8 ef11l2 _ f11_10_i (fun k => f11_9 F k (Rf11j9 ∘ ef11j9) (Rf11l1 ∘ ef11l1) (Rf11j10 ∘ ef11j10))
  (by rintro ⟨t4,t5,t8,x4,x5,x6⟩; kernel_rfl) (fun Rf11l2 => f11_9_eq F Rf11l2 Rf11j9 Rf11l1 Rf11j10)
def f11_11 (F : Nat) (kf11j9 : Ty20 → Rz) (kf11l1 : Ty20 → Rz) (kf11j10 : Int × Li → Rz) : Ty55 → Rz := f11_10 F kf11j9 kf11l1 kf11j10
theorem f11_11_eq (F : Nat) (Rf11j9 : St → Rz) (Rf11l1 : St → Rz) (Rf11j10 : St → Rz) : ∀ v,XAf11 F (bp Tryd.f11 15655) (ef11j8 v) (kBlock 1 (kSeq (kc VG0211 Rf11j9 sp74) (kSeq (kc VG0211 Rf11l1 sp72) (kBlock 0 (kSeq (kc VG0211 Rf11j10 [(3,.plain),(4,.plain)]) (kFin VG0211 (some [(2,.view 3)]) (Tryd.f11).results.toList)))))) = f11_11 F (Rf11j9 ∘ ef11j9) (Rf11l1 ∘ ef11l1) (Rf11j10 ∘ ef11j10) v := fun v =>
 (block_in  (by kernel_rfl) _ _).trans (f11_10_eq F Rf11j9 Rf11l1 Rf11j10 v)
def f11_12 (F : Nat) (kf11j9 : Ty20 → Rz) (kf11l1 : Ty20 → Rz) (kf11j10 : Int × Li → Rz) : Ty40 → Rz := fun v => f11_8 F (f11_11 F kf11j9 kf11l1 kf11j10) kf11j9 kf11l1 kf11j10 v
theorem f11_12_eq (F : Nat) (Rf11j9 : St → Rz) (Rf11l1 : St → Rz) (Rf11j10 : St → Rz) : ∀ v,XAf11 F (bp Tryd.f11 7827) (ef11j7 v) (kBlock 1 (kSeq (kc VG0211 Rf11j9 sp74) (kSeq (kc VG0211 Rf11l1 sp72) (kBlock 0 (kSeq (kc VG0211 Rf11j10 [(3,.plain),(4,.plain)]) (kFin VG0211 (some [(2,.view 3)]) (Tryd.f11).results.toList)))))) = f11_12 F (Rf11j9 ∘ ef11j9) (Rf11l1 ∘ ef11l1) (Rf11j10 ∘ ef11j10) v :=
 seq_cut (by kernel_rfl) (by kernel_rfl) ef11j7 ef11j8 _ (fun k => f11_8 F k (Rf11j9 ∘ ef11j9) (Rf11l1 ∘ ef11l1) (Rf11j10 ∘ ef11j10)) (f11_11 F (Rf11j9 ∘ ef11j9) (Rf11l1 ∘ ef11l1) (Rf11j10 ∘ ef11j10))
  (fun Rf11j8 => f11_8_eq F Rf11j8 Rf11j9 Rf11l1 Rf11j10) (f11_11_eq F Rf11j9 Rf11l1 Rf11j10)
def f11_13 (F : Nat) (kf11j9 : Ty20 → Rz) (kf11l1 : Ty20 → Rz) (kf11j10 : Int × Li → Rz) : Ty54 → Rz := fun v => f11_7 F (f11_12 F kf11j9 kf11l1 kf11j10) kf11j9 kf11l1 kf11j10 v
theorem f11_13_eq (F : Nat) (Rf11j9 : St → Rz) (Rf11l1 : St → Rz) (Rf11j10 : St → Rz) : ∀ v,XAf11 F (bp Tryd.f11 3913) (ef11j6 v) (kBlock 1 (kSeq (kc VG0211 Rf11j9 sp74) (kSeq (kc VG0211 Rf11l1 sp72) (kBlock 0 (kSeq (kc VG0211 Rf11j10 [(3,.plain),(4,.plain)]) (kFin VG0211 (some [(2,.view 3)]) (Tryd.f11).results.toList)))))) = f11_13 F (Rf11j9 ∘ ef11j9) (Rf11l1 ∘ ef11l1) (Rf11j10 ∘ ef11j10) v :=
 seq_cut (by kernel_rfl) (by kernel_rfl) ef11j6 ef11j7 _ (fun k => f11_7 F k (Rf11j9 ∘ ef11j9) (Rf11l1 ∘ ef11l1) (Rf11j10 ∘ ef11j10)) (f11_12 F (Rf11j9 ∘ ef11j9) (Rf11l1 ∘ ef11l1) (Rf11j10 ∘ ef11j10))
  (fun Rf11j7 => f11_7_eq F Rf11j7 Rf11j9 Rf11l1 Rf11j10) (f11_12_eq F Rf11j9 Rf11l1 Rf11j10)
def f11_14 (F : Nat) (kf11j9 : Ty20 → Rz) (kf11l1 : Ty20 → Rz) (kf11j10 : Int × Li → Rz) : Ty20 → Rz := fun v => f11_6 F (f11_13 F kf11j9 kf11l1 kf11j10) kf11j9 kf11l1 kf11j10 v
theorem f11_14_eq (F : Nat) (Rf11j9 : St → Rz) (Rf11l1 : St → Rz) (Rf11j10 : St → Rz) : ∀ v,XAf11 F (bp Tryd.f11 1956) (ef11j5 v) (kBlock 1 (kSeq (kc VG0211 Rf11j9 sp74) (kSeq (kc VG0211 Rf11l1 sp72) (kBlock 0 (kSeq (kc VG0211 Rf11j10 [(3,.plain),(4,.plain)]) (kFin VG0211 (some [(2,.view 3)]) (Tryd.f11).results.toList)))))) = f11_14 F (Rf11j9 ∘ ef11j9) (Rf11l1 ∘ ef11l1) (Rf11j10 ∘ ef11j10) v :=
 seq_cut (by kernel_rfl) (by kernel_rfl) ef11j5 ef11j6 _ (fun k => f11_6 F k (Rf11j9 ∘ ef11j9) (Rf11l1 ∘ ef11l1) (Rf11j10 ∘ ef11j10)) (f11_13 F (Rf11j9 ∘ ef11j9) (Rf11l1 ∘ ef11l1) (Rf11j10 ∘ ef11j10))
  (fun Rf11j6 => f11_6_eq F Rf11j6 Rf11j9 Rf11l1 Rf11j10) (f11_13_eq F Rf11j9 Rf11l1 Rf11j10)
def f11_15 (F : Nat) (kf11j9 : Ty20 → Rz) (kf11l1 : Ty20 → Rz) (kf11j10 : Int × Li → Rz) : Ty20 → Rz := f11_14 F kf11j9 kf11l1 kf11j10
theorem f11_15_eq (F : Nat) (Rf11j9 : St → Rz) (Rf11l1 : St → Rz) (Rf11j10 : St → Rz) : ∀ v,XAf11 F (bp Tryd.f11 978) (ef11j5 v) (kSeq (kc VG0211 Rf11j9 sp74) (kSeq (kc VG0211 Rf11l1 sp72) (kBlock 0 (kSeq (kc VG0211 Rf11j10 [(3,.plain),(4,.plain)]) (kFin VG0211 (some [(2,.view 3)]) (Tryd.f11).results.toList))))) = f11_15 F (Rf11j9 ∘ ef11j9) (Rf11l1 ∘ ef11l1) (Rf11j10 ∘ ef11j10) v := fun v =>
 (block_in  (by kernel_rfl) _ _).trans (f11_14_eq F Rf11j9 Rf11l1 Rf11j10 v)
def f11_16 (F : Nat) (kf11l1 : Ty20 → Rz) (kf11j10 : Int × Li → Rz) : Ty20 → Rz := fun (t4,t5,x3,x4) => (kf11l1 (t4,(IntKind.i64.wrap (t5 + (1 : Int))),x3,x4))
theorem f11_16_eq (F : Nat) (Rf11l1 : St → Rz) (Rf11j10 : St → Rz) : ∀ v,XAf11 F (bp Tryd.f11 979) (ef11j9 v) (kSeq (kc VG0211 Rf11l1 sp72) (kBlock 0 (kSeq (kc VG0211 Rf11j10 [(3,.plain),(4,.plain)]) (kFin VG0211 (some [(2,.view 3)]) (Tryd.f11).results.toList)))) = f11_16 F (Rf11l1 ∘ ef11l1) (Rf11j10 ∘ ef11j10) v := by
 rintro ⟨t4,t5,x3,x4⟩; kernel_rfl
def f11_17 (F : Nat) (kf11l1 : Ty20 → Rz) (kf11j10 : Int × Li → Rz) : Ty20 → Rz := fun v => f11_15 F (f11_16 F kf11l1 kf11j10) kf11l1 kf11j10 v
theorem f11_17_eq (F : Nat) (Rf11l1 : St → Rz) (Rf11j10 : St → Rz) : ∀ v,XAf11 F (bp Tryd.f11 489) (ef11j5 v) (kSeq (kc VG0211 Rf11l1 sp72) (kBlock 0 (kSeq (kc VG0211 Rf11j10 [(3,.plain),(4,.plain)]) (kFin VG0211 (some [(2,.view 3)]) (Tryd.f11).results.toList)))) = f11_17 F (Rf11l1 ∘ ef11l1) (Rf11j10 ∘ ef11j10) v :=
 seq_cut (by kernel_rfl) (by kernel_rfl) ef11j5 ef11j9 _ (fun k => f11_15 F k (Rf11l1 ∘ ef11l1) (Rf11j10 ∘ ef11j10)) (f11_16 F (Rf11l1 ∘ ef11l1) (Rf11j10 ∘ ef11j10))
  (fun Rf11j9 => f11_15_eq F Rf11j9 Rf11l1 Rf11j10) (f11_16_eq F Rf11l1 Rf11j10)
def f11_18 (F : Nat) (kf11l1 : Ty20 → Rz) (kf11j10 : Int × Li → Rz) : Ty20 → Rz := fun v => f11_5 F (f11_17 F kf11l1 kf11j10) kf11l1 kf11j10 v
theorem f11_18_eq (F : Nat) (Rf11l1 : St → Rz) (Rf11j10 : St → Rz) : ∀ v,XAf11 F (bp Tryd.f11 244) (ef11l1 v) (kSeq (kc VG0211 Rf11l1 sp72) (kBlock 0 (kSeq (kc VG0211 Rf11j10 [(3,.plain),(4,.plain)]) (kFin VG0211 (some [(2,.view 3)]) (Tryd.f11).results.toList)))) = f11_18 F (Rf11l1 ∘ ef11l1) (Rf11j10 ∘ ef11j10) v :=
 seq_cut (by kernel_rfl) (by kernel_rfl) ef11l1 ef11j5 _ (fun k => f11_5 F k (Rf11l1 ∘ ef11l1) (Rf11j10 ∘ ef11j10)) (f11_17 F (Rf11l1 ∘ ef11l1) (Rf11j10 ∘ ef11j10))
  (fun Rf11j5 => f11_5_eq F Rf11j5 Rf11l1 Rf11j10) (f11_17_eq F Rf11l1 Rf11j10)
def f11_19_i : Int × Int × Li → Int × Int × Li × Li := fun (t4,t5,x3) => (t4,t5,x3,[])
def f11_19 (F : Nat) (kf11j10 : Int × Li → Rz) : Int × Int × Li → Rz := fun v => loopN (fun k => f11_18 F k kf11j10) F (f11_19_i v)
theorem f11_19_eq (F : Nat) (Rf11j10 : St → Rz) : ∀ v,XAf11 F (bp Tryd.f11 122) (ef11j4 v) (kBlock 0 (kSeq (kc VG0211 Rf11j10 [(3,.plain),(4,.plain)]) (kFin VG0211 (some [(2,.view 3)]) (Tryd.f11).results.toList))) = f11_19 F (Rf11j10 ∘ ef11j10) v :=
 loop_cut (by kernel_rfl) (by kernel_rfl) ef11j4 ef11l1 _ f11_19_i (fun k => f11_18 F k (Rf11j10 ∘ ef11j10))
  (by rintro ⟨t4,t5,x3⟩; kernel_rfl) (fun Rf11l1 => f11_18_eq F Rf11l1 Rf11j10)
def f11_20 (F : Nat) (kf11j10 : Int × Li → Rz) : Int × Int × Li → Rz := f11_19 F kf11j10
theorem f11_20_eq (F : Nat) (Rf11j10 : St → Rz) : ∀ v,XAf11 F (bp Tryd.f11 61) (ef11j4 v) (kSeq (kc VG0211 Rf11j10 [(3,.plain),(4,.plain)]) (kFin VG0211 (some [(2,.view 3)]) (Tryd.f11).results.toList)) = f11_20 F (Rf11j10 ∘ ef11j10) v := fun v =>
 (block_in  (by kernel_rfl) _ _).trans (f11_19_eq F Rf11j10 v)
def f11_21 (F : Nat) (kf11j10 : Int × Li → Rz) : Int × Li → Rz := fun v => f11_4 F (f11_20 F kf11j10) kf11j10 v
theorem f11_21_eq (F : Nat) (Rf11j10 : St → Rz) : ∀ v,XAf11 F (bp Tryd.f11 30) (ef11j3 v) (kSeq (kc VG0211 Rf11j10 [(3,.plain),(4,.plain)]) (kFin VG0211 (some [(2,.view 3)]) (Tryd.f11).results.toList)) = f11_21 F (Rf11j10 ∘ ef11j10) v :=
 seq_cut (by kernel_rfl) (by kernel_rfl) ef11j3 ef11j4 _ (fun k => f11_4 F k (Rf11j10 ∘ ef11j10)) (f11_20 F (Rf11j10 ∘ ef11j10))
  (fun Rf11j4 => f11_4_eq F Rf11j4 Rf11j10) (f11_20_eq F Rf11j10)
def f11_22 (F : Nat) : Int × Li → Rz := fun (t4,x2) => (cond (decide ((x2.length + 4) < 1073741824)) (some ((.vs (.rI .i64 (x2 ++ [(IntKind.i64.wrap (Int.tdiv t4 (64 : Int))),(Int.tmod (IntKind.i64.wrap (Int.tdiv t4 (16 : Int))) (4 : Int)),(Int.tmod (IntKind.i64.wrap (Int.tdiv t4 (4 : Int))) (4 : Int)),(Int.tmod t4 (4 : Int))])) 0 1),[])) none)
theorem f11_22_eq (F : Nat) : ∀ v,XAf11 F (bp Tryd.f11 31) (ef11j10 v) (kFin VG0211 (some [(2,.view 3)]) (Tryd.f11).results.toList) = f11_22 F v := by
 rintro ⟨t4,x2⟩; kernel_rfl
def f11_23 (F : Nat) : Int × Li → Rz := fun v => f11_21 F (f11_22 F) v
theorem f11_23_eq (F : Nat) : ∀ v,XAf11 F (bp Tryd.f11 15) (ef11j3 v) (kFin VG0211 (some [(2,.view 3)]) (Tryd.f11).results.toList) = f11_23 F v :=
 seq_cut (by kernel_rfl) (by kernel_rfl) ef11j3 ef11j10 _ (fun k => f11_21 F k) (f11_22 F)
  (fun Rf11j10 => f11_21_eq F Rf11j10) (f11_22_eq F)
def f11_24 (F : Nat) : Li → Rz := fun v => f11_3 F (f11_23 F) v
theorem f11_24_eq (F : Nat) : ∀ v,XAf11 F (bp Tryd.f11 7) (ef11j2 v) (kFin VG0211 (some [(2,.view 3)]) (Tryd.f11).results.toList) = f11_24 F v :=
 seq_cut (by kernel_rfl) (by kernel_rfl) ef11j2 ef11j3 _ (fun k => f11_3 F k) (f11_23 F)
  (fun Rf11j3 => f11_3_eq F Rf11j3) (f11_23_eq F)
def f11_25 (F : Nat) : Li → Rz := fun v => f11_2 F (f11_24 F) v
theorem f11_25_eq (F : Nat) : ∀ v,XAf11 F (bp Tryd.f11 3) (ef11j1 v) (kFin VG0211 (some [(2,.view 3)]) (Tryd.f11).results.toList) = f11_25 F v :=
 seq_cut (by kernel_rfl) (by kernel_rfl) ef11j1 ef11j2 _ (fun k => f11_2 F k) (f11_24 F)
  (fun Rf11j2 => f11_2_eq F Rf11j2) (f11_24_eq F)
def f11_26 (F : Nat) : Li → Rz := fun v => f11_1 F (f11_25 F) v
theorem f11_26_eq (F : Nat) : ∀ v,XAf11 F (sub (bodyOf Tryd.f11) []) (ef11_a v) (kFin VG0211 (some [(2,.view 3)]) (Tryd.f11).results.toList) = f11_26 F v :=
 seq_cut (by kernel_rfl) (by kernel_rfl) ef11_a ef11j1 _ (fun k => f11_1 F k) (f11_25 F)
  (fun Rf11j1 => f11_1_eq F Rf11j1) (f11_25_eq F)
def f11 (F : Nat) : Li → Rz := f11_26 F
theorem f11_body (F : Nat) (a0 : List Int) : abody VG0211 (Af11 F) Tryd.f11 [(.agg 16 (.rI .u8 a0))] [] = f11 F a0 :=
 (abody_in (c := (sub (bodyOf Tryd.f11) [])) (by kernel_rfl) (s := ef11_a a0) (by kernel_rfl)).trans (f11_26_eq F a0)
def r11 : CRun := fun X H => match X,H with
 | [(.agg 16 (.rI .u8 a0))],[] => some (true,(.vs (.rI .i64 (Sg.digits a0)) 0 1),[])
 | _,_ => none
theorem s11 (a0 : List Int) (h0 : okV (.agg 16 (.rI .u8 a0))) : ∃ F,f11 F a0 = some ((.vs (.rI .i64 (Sg.digits a0)) 0 1),[]) := by
 obtain ⟨hl,hb⟩ := okR_rI h0
 have hget : ∀ i : Nat,0 ≤ a0.getD i 0 ∧ a0.getD i 0 ≤ 255 := Wire.byte_getD (Wire.okB_of hb)
 obtain ⟨F,hF⟩ : ∃ F,100 < F := ⟨101,by decide⟩
 refine ⟨F,?_⟩
 simp only [f11_1,f11_2,f11_3,f11_4,f11_19_i,f11_19,f11_20,f11_21,f11_23,f11_24,f11_25,f11_26,f11]
 refine loopN_from (fun i => (Sg.sumN a0 (4 * i),(i : Int),a0,(List.range (4 * i)).map (Sg.dg a0))) 16 (by rfl) (fun i hi k => ?_) (fun k => ?_) _ (by omega)
 ·have hbi := hget i
  simp only [f11_5,f11_6,f11_7,f11_8,f11_10_i,f11_10,f11_11,f11_12,f11_13,f11_14,f11_15,f11_16,f11_17,f11_18,dec_and]
  rw [cond_pos (by omega),cond_pos (by omega),Int.toNat_natCast,i64w (x := a0.getD i 0) (by omega) (by omega)]
  have e0 : ∀ j,j < 4 → Sg.dg a0 (4 * i + j) = a0.getD i 0 / 4 ^ (3 - j) % 4 := fun j hj => by
   rw [Sg.dg,show (4 * i + j) / 4 = i by omega,show (4 * i + j) % 4 = j by omega]
  have eL : [IntKind.i64.wrap (Int.tdiv (a0.getD i 0) (64 : Int)),Int.tmod (IntKind.i64.wrap (Int.tdiv (a0.getD i 0) (16 : Int))) (4 : Int),Int.tmod (IntKind.i64.wrap (Int.tdiv (a0.getD i 0) (4 : Int))) (4 : Int),Int.tmod (a0.getD i 0) (4 : Int)] = [Sg.dg a0 (4 * i + 0),Sg.dg a0 (4 * i + 1),Sg.dg a0 (4 * i + 2),Sg.dg a0 (4 * i + 3)] := by
   rw [e0 0 (by omega),e0 1 (by omega),e0 2 (by omega),e0 3 (by omega)]
   generalize a0.getD i 0 = b at hbi
   rw [tdiv_nn hbi.1,tdiv_nn hbi.1,tdiv_nn hbi.1,tmod_nn hbi.1,i64w (x := b / 64) (by omega) (by omega),i64w (x := b / 16) (by omega) (by omega),i64w (x := b / 4) (by omega) (by omega),tmod_nn (by omega),tmod_nn (by omega)]
   have p3 : (4 : Int) ^ (3 - 0) = 64 := rfl
   have p2 : (4 : Int) ^ (3 - 1) = 16 := rfl
   have p1 : (4 : Int) ^ (3 - 2) = 4 := rfl
   have p0 : (4 : Int) ^ (3 - 3) = 1 := rfl
   rw [p3,p2,p1,p0,Int.ediv_one,show b / 64 % 4 = b / 64 by omega]
  rw [eL]
  refine loopN_from (fun j => (Sg.sumN a0 (4 * i + j),(i : Int),(j : Int),a0,(List.range (4 * i + j)).map (Sg.dg a0),[Sg.dg a0 (4 * i + 0),Sg.dg a0 (4 * i + 1),Sg.dg a0 (4 * i + 2),Sg.dg a0 (4 * i + 3)])) 4 (by rfl) (fun j hj k' => ?_) (fun k' => ?_) _ (by omega)
  ·have hs := Sg.sumN_rng a0 (4 * i + j)
   have hd := Sg.dg_rng a0 (4 * i + j)
   simp only [f11_9,dec_and]
   have eg : [Sg.dg a0 (4 * i + 0),Sg.dg a0 (4 * i + 1),Sg.dg a0 (4 * i + 2),Sg.dg a0 (4 * i + 3)].getD (Int.toNat (j : Int)) 0 = Sg.dg a0 (4 * i + j) := by
    rw [Int.toNat_natCast]
    match j,hj with
    | 0,_ => rfl
    | 1,_ => rfl
    | 2,_ => rfl
    | 3,_ => rfl
   rw [eg,cond_pos (by omega),cond_pos ⟨by omega,by simp only [List.length_cons,List.length_nil]; omega⟩,cond_pos (by simp; omega),cond_pos ⟨by omega,by simp only [List.length_cons,List.length_nil]; omega⟩]
   rw [i64w (x := Sg.sumN a0 (4 * i + j) + 3) (by omega) (by omega),i64w (x := Sg.sumN a0 (4 * i + j) + 3 - Sg.dg a0 (4 * i + j)) (by omega) (by omega),i64w (x := (j : Int) + 1) (by omega) (by omega)]
   have e1 : Sg.sumN a0 (4 * i + (j + 1)) = Sg.sumN a0 (4 * i + j) + 3 - Sg.dg a0 (4 * i + j) := by rw [← Nat.add_assoc,Sg.sumN]; omega
   have e2 : (List.range (4 * i + (j + 1))).map (Sg.dg a0) = (List.range (4 * i + j)).map (Sg.dg a0) ++ [Sg.dg a0 (4 * i + j)] := by rw [← Nat.add_assoc,List.range_succ,List.map_append]; rfl
   rw [e1,e2]; rfl
  ·simp only [f11_9,dec_and]
   rw [cond_neg (by omega)]
   simp only [f11_16]
   rw [i64w (by omega) (by omega)]
   rfl
 ·have hs := Sg.sumN_rng a0 64
  simp only [f11_5,f11_6,f11_7,f11_8,f11_10_i,f11_10,f11_11,f11_12,f11_13,f11_14,f11_15,f11_16,f11_17,f11_18,dec_and]
  rw [cond_neg (by omega)]
  simp only [f11_22]
  rw [cond_pos (by simp)]
  have e1 : Sg.sumN a0 (4 * 16) = Sg.sumN a0 64 := rfl
  have e2 : (List.range (4 * 16)).map (Sg.dg a0) = (List.range 64).map (Sg.dg a0) := rfl
  rw [e1,e2,Sg.digits]
  generalize Sg.sumN a0 64 = s at hs
  rw [tdiv_nn hs.1,tdiv_nn hs.1,tdiv_nn hs.1,tmod_nn hs.1,i64w (x := s / 64) (by omega) (by omega),i64w (x := s / 16) (by omega) (by omega),i64w (x := s / 4) (by omega) (by omega),tmod_nn (by omega),tmod_nn (by omega),show s / 64 % 4 = s / 64 by omega]
theorem c11 : CallOk Tryd.prog G02 11 r11 := callOk_of (V := VG0211) mixed tys eVG0211 (f := 11) (fn := Tryd.f11) Tryd.func11 (by kernel_rfl) (c := sub (bodyOf Tryd.f11) []) (by kernel_rfl) (by
 intro X H r H' h hX hH
 unfold r11 at h; split at h <;> try contradiction
 ·simp only [Option.some.injEq,Prod.mk.injEq] at h
  obtain ⟨hp,rfl,rfl⟩ := h
  obtain ⟨F,hF⟩ := s11 _ (hX _ (.head _))
  exact ⟨Af11 F,(f11_body F _).trans hF⟩)
def lVG0317 : List CEnt := [(30,[none],r30),(31,[none],r31),(35,[none,some 9],r35)]
def VG0317 : Env := mkEnv T03 G03 lVG0317
noncomputable abbrev Kf55 := kFin VG0317 none (Tryd.f17).results.toList
theorem eVG0317 : EOk Tryd.prog VG0317 := eok_mk (by exact ⟨c30.more gsub,c31.more gsub,c35,trivial⟩)
def Af17 (F : Nat) : Cuts := { F := F,at_ := fun _ => none,join := fun _ => none }
def ef17_a : Ty34 → St := fun (a0,a1,a2) => ⟨[(0,(.agg 16 (.rI .u8 a0))),(1,.int .i64 a1),(2,.str a2)],[],0,15,0⟩
def f17_1 (F : Nat) : Ty34 → Rz := fun (a0,a1,a2) => (cond (decide ((Sha.input (4 : Int) [a0,(Wire.int a1),a2]).length < 1073741000)) (some ((.agg 16 (.rI .u8 (Sha.of (4 : Int) [a0,(Wire.int a1),a2]))),[])) none)
theorem f17_1_eq (F : Nat) : ∀ v,aexec VG0317 (Af17 F) (sub (bodyOf Tryd.f17) []) (ef17_a v) Kf55 = f17_1 F v := by
 rintro ⟨a0,a1,a2⟩; kernel_rfl
def f17 (F : Nat) : Ty34 → Rz := f17_1 F
theorem f17_body (F : Nat) (a0 : List Int) (a1 : Int) (a2 : List Int) : abody VG0317 (Af17 F) Tryd.f17 [(.agg 16 (.rI .u8 a0)),.int .i64 a1,.str a2] [] = f17 F (a0,a1,a2) :=
 (abody_in (c := (sub (bodyOf Tryd.f17) [])) (by kernel_rfl) (s := ef17_a (a0,a1,a2)) (by kernel_rfl)).trans (f17_1_eq F (a0,a1,a2))
def r17 : CRun := fun X H => match X,H with
 | [(.agg 16 (.rI .u8 a0)),.int .i64 a1,.str a2],[] => some ((decide (a2.length < 1073730000)),(.agg 16 (.rI .u8 (Sg.digest a0 a1 a2))),[])
 | _,_ => none
theorem s17 (a0 : List Int) (a1 : Int) (a2 : List Int) (hp : ((decide (a2.length < 1073730000))) = true) (h0 : okV (.agg 16 (.rI .u8 a0))) (h1 : okV (.int .i64 a1)) (h2 : okV (.str a2)) : ∃ F,f17 F (a0,a1,a2) = some ((.agg 16 (.rI .u8 (Sg.digest a0 a1 a2))),[]) := by
 have hp' := of_decide_eq_true hp
 have h0' := (okR_rI h0).1
 have := Sg.input_le3 4 a0 (Wire.int a1) a2
 have := Sg.int_le a1
 refine ⟨0,?_⟩
 simp only [f17,f17_1]
 rw [cond_pos (by omega)]
 rfl
theorem c17 : CallOk Tryd.prog G03 17 r17 := callOk_of (V := VG0317) mixed tys eVG0317 (f := 17) (fn := Tryd.f17) Tryd.func17 (by kernel_rfl) (c := sub (bodyOf Tryd.f17) []) (by kernel_rfl) (by
 intro X H r H' h hX hH
 unfold r17 at h; split at h <;> try contradiction
 ·simp only [Option.some.injEq,Prod.mk.injEq] at h
  obtain ⟨hp,rfl,rfl⟩ := h
  obtain ⟨F,hF⟩ := s17 _ _ _ hp (hX _ (.head _)) (hX _ (.tail _ (.head _))) (hX _ (.tail _ (.tail _ (.head _))))
  exact ⟨Af17 F,(f17_body F _ _ _).trans hF⟩)
end Go.Am
end
section
namespace Go.Am
open Go Go.Proofs
end Go.Am
end
section
/- What is signed is accepted; the digits of different digests cross. -/
namespace Go.Am
open Go
namespace Sg
theorem adv_add (i c : Int) : ∀ (a b : Nat) (t : Int) (v : List Int), adv i c t (a + b) v = adv i c (t + a) b (adv i c t a v)
 | 0, b, t, v => by simp [adv]
 | a + 1, b, t, v => by
  rw [show a + 1 + b = (a + b) + 1 by omega, adv, adv_add i c a b (t + 1) _, adv]
  congr 1; omega
theorem val_flat (f : Nat → List Int) : ∀ (n c : Nat) (Y : List Int), c < n → (∀ i, i < n → (f i).length = 16) → val ((List.range n).flatMap f ++ Y) c = f c
 | 0, c, Y, hc, _ => by omega
 | n + 1, c, Y, hc, hf => by
  rw [flat_succ, List.append_assoc]
  by_cases h : c < n
  ·exact val_flat f n c _ h fun i hi => hf i (by omega)
  ·have e : c = n := by omega
   subst e
   have hl := flat_len f c fun i hi => hf i (by omega)
   have h16 := hf c (by omega)
   rw [val, List.drop_append, List.drop_of_length_le (by omega), hl, show c * 16 - 16 * c = 0 by omega, List.drop_zero, List.nil_append, List.take_append_of_le_length (by omega), take16 h16]
theorem val_skip (X Y : List Int) (n l : Nat) (hX : X.length = 16 * n) : val (X ++ Y) (n + l) = val Y l := by
 rw [val, val, List.drop_append, List.drop_of_length_le (by omega), hX, List.nil_append, show (n + l) * 16 - 16 * n = l * 16 by omega]
theorem chainV_part {s ds b : List Int} {i : Int} {c : Nat} (hd : 0 ≤ ds.getD c 0 ∧ ds.getD c 0 ≤ 3) (hv : val b c = part s i ds c) : chainV i ds b c = top s i c := by
 rw [chainV, hv, part, top]
 have h := adv_add i c (ds.getD c 0).toNat (3 - ds.getD c 0).toNat 0 (start s i c)
 rw [show (ds.getD c 0).toNat + (3 - ds.getD c 0).toNat = 3 by omega, show (0 : Int) + ((ds.getD c 0).toNat : Int) = ds.getD c 0 by omega] at h
 exact h.symm
theorem flat_congr {f g : Nat → List Int} : ∀ n : Nat, (∀ i, i < n → f i = g i) → (List.range n).flatMap f = (List.range n).flatMap g
 | 0, _ => rfl
 | n + 1, h => by rw [flat_succ, flat_succ, flat_congr n (fun i hi => h i (by omega)), h n (by omega)]
theorem climb_path {s b : List Int} {i : Int} (hi : 0 ≤ i) {v : List Int} (hv : v = nd s 0 i) : ∀ l : Nat, (∀ j, j < l → val b (68 + j) = nd s j (sib i j)) → climb i b v l = nd s l (i / 2 ^ l)
 | 0, _ => by rw [climb, hv, Int.pow_zero, Int.ediv_one]
 | l + 1, h => by
  rw [climb, climb_path hi hv l (fun j hj => h j (by omega)), h l (by omega), sib, nd]
  have e : i / 2 ^ (l + 1) = i / 2 ^ l / 2 := by rw [Int.ediv_ediv_of_nonneg (Int.pow_nonneg (by decide)), Int.pow_succ]
  rw [e]
  by_cases hb : i / 2 ^ l % 2 = 1
  ·rw [if_pos hb, if_pos hb, show 2 * (i / 2 ^ l / 2) = i / 2 ^ l - 1 by omega, show i / 2 ^ l - 1 + 1 = i / 2 ^ l by omega]
  ·rw [if_neg hb, if_neg hb, show 2 * (i / 2 ^ l / 2) = i / 2 ^ l by omega]
theorem sign_ok {s : List Int} {h i : Int} {m : List Int} (hs : s.length = 32) (hh : 0 ≤ h ∧ h ≤ 6) (hi : 0 ≤ i ∧ i < 2 ^ h.toNat) (hm : m.length ≤ 1048576) :
  sign s h i m = (Wire.int i ++ (body s i (digits (digest (nd s h.toNat 0) i m)) ++ path s i h.toNat), 0) := by
 rw [sign, if_neg (by omega), if_neg (by omega), if_neg (by omega), List.append_assoc]
theorem body_len (s : List Int) (i : Int) (ds : List Int) : (body s i ds).length = 1088 := by rw [body, flat_len _ 68 fun c _ => part_len s i ds c]
theorem path_len (s : List Int) (i : Int) (h : Nat) : (path s i h).length = 16 * h := flat_len _ h fun c _ => nd_len s c _
theorem pow6 {h : Int} (hh : 0 ≤ h ∧ h ≤ 6) : (2 : Int) ^ h.toNat ≤ 64 := by
 obtain ⟨n, rfl⟩ := Int.eq_ofNat_of_zero_le hh.1
 rw [Int.toNat_natCast]
 match n, hh with
 | 0, _ => decide
 | 1, _ => decide
 | 2, _ => decide
 | 3, _ => decide
 | 4, _ => decide
 | 5, _ => decide
 | 6, _ => decide
 | n + 7, hh => omega
theorem small_has {i : Int} (h : 0 ≤ i) (h2 : i < 64) : IntKind.i64.has i := by
 obtain ⟨n, rfl⟩ := Int.eq_ofNat_of_zero_le h
 exact Wire.nat_has (by omega)
theorem verify_at {p : List Int} {h i : Int} {m R : List Int} (hh : 0 ≤ h ∧ h ≤ 6) (hi : 0 ≤ i ∧ i < 2 ^ h.toNat) (hm : m.length ≤ 1048576) :
  verify p h m (Wire.int i ++ R) = if (R.length : Int) ≠ (68 + h) * 16 then (0, 2) else if climb i R (leafV i (digits (digest p i m)) R) h.toNat ≠ p then (0, 10) else (i, 0) := by
 have h64 := pow6 hh
 have hg := Wire.getInt_int (small_has hi.1 (by omega)) R
 have hd : (Wire.int i ++ R).drop (Int.toNat ((Wire.int i).length : Int)) = R := by rw [Int.toNat_natCast, List.drop_left]
 rw [verify, if_neg (by omega), if_neg (by omega), hg]
 simp only [hd]
 rw [if_neg (by simp)]
 by_cases hR : (R.length : Int) ≠ (68 + h) * 16
 ·rw [if_pos (.inr (.inr hR)), if_pos hR]
 ·rw [if_neg (by omega), if_neg hR]
theorem leafV_body {s : List Int} {i : Int} {ds Y : List Int} (hd : ∀ c, 0 ≤ ds.getD c 0 ∧ ds.getD c 0 ≤ 3) : leafV i ds (body s i ds ++ Y) = nd s 0 i := by
 have e0 : ∀ c, c < 68 → chainV i ds (body s i ds ++ Y) c = top s i c := fun c hc =>
  chainV_part (hd c) (val_flat (part s i ds) 68 c Y hc fun j _ => part_len s i ds j)
 rw [leafV, nd, leaf, flat_congr 68 e0]
theorem climb_sign {s : List Int} {i : Int} {ds : List Int} {n : Nat} (hi : 0 ≤ i ∧ i < 2 ^ n) (hd : ∀ c, 0 ≤ ds.getD c 0 ∧ ds.getD c 0 ≤ 3) : climb i (body s i ds ++ path s i n) (leafV i ds (body s i ds ++ path s i n)) n = nd s n 0 := by
 have e1 : leafV i ds (body s i ds ++ path s i n) = nd s 0 i := leafV_body hd
 rw [climb_path hi.1 e1 n fun j hj => ?_, Int.ediv_eq_zero_of_lt hi.1 hi.2]
 rw [val_skip _ _ 68 j (body_len s i ds)]
 have := val_flat (fun l => nd s l (sib i l)) n j [] hj fun l _ => nd_len s l _
 rw [List.append_nil] at this
 exact this
theorem verify_sign {s : List Int} {h i : Int} {m : List Int} (hs : s.length = 32) (hh : 0 ≤ h ∧ h ≤ 6) (hi : 0 ≤ i ∧ i < 2 ^ h.toNat) (hm : m.length ≤ 1048576) :
  verify (nd s h.toNat 0) h m (sign s h i m).1 = (i, 0) := by
 rw [sign_ok hs hh hi hm]
 simp only
 rw [verify_at hh hi hm, if_neg, if_neg]
 ·exact fun h' => h' (climb_sign hi (digits_get _))
 ·rw [List.length_append, body_len, path_len]; omega
end Sg
end Go.Am
end