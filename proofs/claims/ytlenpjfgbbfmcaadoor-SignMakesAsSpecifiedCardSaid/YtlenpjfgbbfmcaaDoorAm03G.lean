/- Part of a proof about the functions of the given program. -/
import Derived.Test.YtlenpjfgbbfmcaaDoorAm03E
set_option linter.unusedSimpArgs false
set_option linter.unusedVariables false
section
namespace Go.Am
open Go Go.Proofs
abbrev sp40 : List (Nat × Md) := [(2,.plain),(3,.plain),(4,.plain),(5,.plain)]
abbrev sp41 : List (Nat × Md) := [(2,.plain),(3,.plain),(4,.plain),(5,.plain),(6,.plain),(7,.plain),(8,.plain),(9,.plain),(10,.plain),(11,.plain),(12,.plain),(13,.plain),(14,.plain),(15,.plain)]
abbrev sp42 : List (Nat × Md) := [(2,.plain),(3,.plain),(18,.plain),(19,.plain)]
abbrev sp43 : List (Nat × Md) := [(2,.plain),(3,.plain),(4,.plain)]
abbrev sp44 : List (Nat × Md) := [(2,.plain),(3,.plain),(4,.plain),(5,.plain),(6,.plain)]
abbrev sp45 : List (Nat × Md) := [(2,.plain),(3,.plain),(4,.plain),(5,.plain),(6,.plain),(7,.plain),(8,.plain),(9,.plain),(10,.plain),(11,.plain),(12,.plain),(13,.plain),(14,.plain)]
abbrev sp46 : List (Nat × Md) := [(2,.plain),(3,.plain),(4,.plain),(5,.plain),(7,.plain),(8,.plain),(9,.plain),(10,.plain),(11,.plain),(12,.plain),(13,.plain),(14,.plain)]
abbrev sp47 : List (Nat × Md) := [(2,.plain),(3,.plain),(18,.plain)]
abbrev sp48 : List (Nat × Md) := [(1,.plain),(5,.plain),(6,.own 5),(7,.plain)]
abbrev sp49 : List (Nat × Md) := [(1,.plain),(5,.plain),(6,.plain),(7,.plain)]
abbrev Ty30 := Int × Li × Li × Li
abbrev Ty31 := Int × Int × Int × Int × Int × Int × Int × Int × Int × Li × Li × Li × Li
abbrev Ty32 := Int × Int × Int × Int × Int × Int × Int × Int × Int × Int × Li × Li × Li × Li
abbrev Ty33 := Int × Int × Int × Int × Int × Int × Int × Int × Int × Li × Li × Li
abbrev Ty34 := Li × Int × Li
abbrev Ty35 := Int × Li × Int × Li
def lVG0366 : List CEnt := [(69,[some 5],r69),(70,[some 5],r70),(71,[none,none],r71)]
def VG0366 : Env := mkEnv T03 G03 lVG0366
noncomputable abbrev Kf25 := kFin VG0366 none (Tryd.f66).results.toList
theorem eVG0366 : EOk Tryd.prog VG0366 := eok_mk (by exact ⟨c69.more gsub,c70.more gsub,c71.more gsub,trivial⟩)
def Af66 (F : Nat) : Cuts := { F := F,at_ := fun n => match n with | 4047 => some sp40 | 9028 => some sp41 | 24010 => some sp42 | _ => none,join := fun n => match n with | 1076 => some [(0,.plain),(2,.plain)] | 2074 => some sp2 | 3072 => some sp43 | 4049 => some sp40 | 5001 => some sp40 | 6041 => some sp40 | 7036 => some sp44 | 8034 => some sp45 | 9030 => some sp41 | 21001 => some sp46 | 22020 => some [(2,.plain),(3,.plain)] | 23018 => some sp47 | 24012 => some sp42 | 27003 => some [(2,.plain),(18,.plain)] | _ => none }
noncomputable abbrev XAf66 (F : Nat) {α : Type} := @aexec α VG0366 (Af66 F)
def ef66_a : Li → St := fun a0 => ⟨[(0,(.vs (.rI .u8 a0) 0 1))],[],0,164,0⟩
def ef66j1 : Li × Li → St := fun (t0,x2) => ⟨[(0,(.vs (.rI .u8 t0) 0 1)),(2,.ptr 0 0 32 0 0 0 32)],[(0,(.cells 32 (.rI .u8 x2) true))],1,164,0⟩
def ef66j2 : Ty0 → St := fun (t0,x2,x3) => ⟨[(0,(.vs (.rI .u8 t0) 0 1)),(2,.ptr 0 0 32 0 0 0 32),(3,.ptr 1 0 8 0 0 0 8)],[(0,(.cells 32 (.rI .u8 x2) true)),(1,(.cells 8 (.rI .u32 x3) true))],2,164,0⟩
def ef66j3 : Ty0 → St := fun (x1,x2,x3) => ⟨[(2,.ptr 0 0 32 0 0 0 32),(3,.ptr 1 0 8 0 0 0 8),(4,.own 2 0 1)],[(0,(.cells 32 (.rI .u8 x1) true)),(1,(.cells 8 (.rI .u32 x2) true)),(2,(.cells x3.length (.rI .u8 x3) true))],3,164,0⟩
def ef66j4 : Ty30 → St := fun (t5,x2,x3,x4) => ⟨[(2,.ptr 0 0 32 0 0 0 32),(3,.ptr 1 0 8 0 0 0 8),(4,.own 2 0 1),(5,.int .i64 t5)],[(0,(.cells 32 (.rI .u8 x2) true)),(1,(.cells 8 (.rI .u32 x3) true)),(2,(.cells x4.length (.rI .u8 x4) true))],3,164,0⟩
def ef66l1 : Ty30 → St := ef66j4
def ef66j5 : Ty30 → St := ef66j4
def ef66j6 : Ty9 → St := fun (t5,x2,x3,x4,x5) => ⟨[(2,.ptr 0 0 32 0 0 0 32),(3,.ptr 1 0 8 0 0 0 8),(4,.own 2 0 1),(5,.int .i64 t5),(6,.ptr 3 0 64 0 0 0 64)],[(0,(.cells 32 (.rI .u8 x2) true)),(1,(.cells 8 (.rI .u32 x3) true)),(2,(.cells x4.length (.rI .u8 x4) true)),(3,(.cells 64 (.rI .u32 x5) true))],4,164,0⟩
def ef66j7 : Ty31 → St := fun (t5,t7,t8,t9,t10,t11,t12,t13,t14,x10,x11,x12,x13) => ⟨[(2,.ptr 0 0 32 0 0 0 32),(3,.ptr 1 0 8 0 0 0 8),(4,.own 2 0 1),(5,.int .i64 t5),(6,.ptr 3 0 64 0 0 0 64),(7,.int .u32 t7),(8,.int .u32 t8),(9,.int .u32 t9),(10,.int .u32 t10),(11,.int .u32 t11),(12,.int .u32 t12),(13,.int .u32 t13),(14,.int .u32 t14)],[(0,(.cells 32 (.rI .u8 x10) true)),(1,(.cells 8 (.rI .u32 x11) true)),(2,(.cells x12.length (.rI .u8 x12) true)),(3,(.cells 64 (.rI .u32 x13) true))],4,164,0⟩
def ef66j8 : Ty32 → St := fun (t5,t7,t8,t9,t10,t11,t12,t13,t14,t15,x11,x12,x13,x14) => ⟨[(2,.ptr 0 0 32 0 0 0 32),(3,.ptr 1 0 8 0 0 0 8),(4,.own 2 0 1),(5,.int .i64 t5),(6,.ptr 3 0 64 0 0 0 64),(7,.int .u32 t7),(8,.int .u32 t8),(9,.int .u32 t9),(10,.int .u32 t10),(11,.int .u32 t11),(12,.int .u32 t12),(13,.int .u32 t13),(14,.int .u32 t14),(15,.int .i64 t15)],[(0,(.cells 32 (.rI .u8 x11) true)),(1,(.cells 8 (.rI .u32 x12) true)),(2,(.cells x13.length (.rI .u8 x13) true)),(3,(.cells 64 (.rI .u32 x14) true))],4,164,0⟩
def ef66l2 : Ty32 → St := ef66j8
def ef66j9 : Ty33 → St := fun (t5,t7,t8,t9,t10,t11,t12,t13,t14,x10,x11,x12) => ⟨[(2,.ptr 0 0 32 0 0 0 32),(3,.ptr 1 0 8 0 0 0 8),(4,.own 2 0 1),(5,.int .i64 t5),(7,.int .u32 t7),(8,.int .u32 t8),(9,.int .u32 t9),(10,.int .u32 t10),(11,.int .u32 t11),(12,.int .u32 t12),(13,.int .u32 t13),(14,.int .u32 t14)],[(0,(.cells 32 (.rI .u8 x10) true)),(1,(.cells 8 (.rI .u32 x11) true)),(2,(.cells x12.length (.rI .u8 x12) true))],3,164,0⟩
def ef66j10 : Ty30 → St := ef66j4
def ef66j11 : Li × Li → St := fun (x1,x2) => ⟨[(2,.ptr 0 0 32 0 0 0 32),(3,.ptr 1 0 8 0 0 0 8)],[(0,(.cells 32 (.rI .u8 x1) true)),(1,(.cells 8 (.rI .u32 x2) true))],2,164,0⟩
def ef66j12 : Ty0 → St := fun (x1,x2,x3) => ⟨[(2,.ptr 0 0 32 0 0 0 32),(3,.ptr 1 0 8 0 0 0 8),(18,.ptr 2 0 32 0 0 0 32)],[(0,(.cells 32 (.rI .u8 x1) true)),(1,(.cells 8 (.rI .u32 x2) true)),(2,(.cells 32 (.rI .u8 x3) true))],3,164,0⟩
def ef66j13 : Ty30 → St := fun (t19,x2,x3,x4) => ⟨[(2,.ptr 0 0 32 0 0 0 32),(3,.ptr 1 0 8 0 0 0 8),(18,.ptr 2 0 32 0 0 0 32),(19,.int .i64 t19)],[(0,(.cells 32 (.rI .u8 x2) true)),(1,(.cells 8 (.rI .u32 x3) true)),(2,(.cells 32 (.rI .u8 x4) true))],3,164,0⟩
def ef66l3 : Ty30 → St := ef66j13
def ef66j14 : Li × Li → St := fun (x1,x2) => ⟨[(2,.ptr 0 0 32 0 0 0 32),(18,.ptr 1 0 32 0 0 0 32)],[(0,(.cells 32 (.rI .u8 x1) true)),(1,(.cells 32 (.rI .u8 x2) true))],2,164,0⟩
def f66_1 (F : Nat) (kf66j1 : Li × Li → Rz) : Li → Rz := fun a0 => (kf66j1 (a0,(List.replicate 32 0)))
theorem f66_1_eq (F : Nat) (Rf66j1 : St → Rz) : ∀ v,XAf66 F (bp Tryd.f66 2) (ef66_a v) (kSeq (kc VG0366 Rf66j1 [(0,.plain),(2,.plain)]) Kf25) = f66_1 F (Rf66j1 ∘ ef66j1) v := by
 intro a0; kernel_rfl
def f66_2 (F : Nat) (kf66j2 : Ty0 → Rz) : Li × Li → Rz := fun (t0,x2) => (kf66j2 (t0,x2,[(1779033703 : Int),(3144134277 : Int),(1013904242 : Int),(2773480762 : Int),(1359893119 : Int),(2600822924 : Int),(528734635 : Int),(1541459225 : Int)]))
theorem f66_2_eq (F : Nat) (Rf66j2 : St → Rz) : ∀ v,XAf66 F (bp Tryd.f66 6) (ef66j1 v) (kSeq (kc VG0366 Rf66j2 sp2) Kf25) = f66_2 F (Rf66j2 ∘ ef66j2) v := by
 rintro ⟨t0,x2⟩; kernel_rfl
def f66_3 (F : Nat) (kf66j3 : Ty0 → Rz) : Ty0 → Rz := fun (t0,x2,x3) => (cond (decide (t0.length < 1073741000)) (kf66j3 (x2,x3,(Sha.padded t0))) none)
theorem f66_3_eq (F : Nat) (Rf66j3 : St → Rz) : ∀ v,XAf66 F (bp Tryd.f66 14) (ef66j2 v) (kSeq (kc VG0366 Rf66j3 sp43) Kf25) = f66_3 F (Rf66j3 ∘ ef66j3) v := by
 rintro ⟨t0,x2,x3⟩; kernel_rfl
def f66_4 (F : Nat) (kf66j4 : Ty30 → Rz) (kf66j11 : Li × Li → Rz) : Ty0 → Rz := fun (x1,x2,x3) => (kf66j4 ((0 : Int),x1,x2,x3))
theorem f66_4_eq (F : Nat) (Rf66j4 : St → Rz) (Rf66j11 : St → Rz) : ∀ v,XAf66 F (bp Tryd.f66 60) (ef66j3 v) (kSeq (kc VG0366 Rf66j4 sp40) (kSeq (kc VG0366 Rf66j11 [(2,.plain),(3,.plain)]) Kf25)) = f66_4 F (Rf66j4 ∘ ef66j4) (Rf66j11 ∘ ef66j11) v := by
 rintro ⟨x1,x2,x3⟩; kernel_rfl
def f66_5 (F : Nat) (kf66j5 : Ty30 → Rz) (kf66l1 : Ty30 → Rz) (kf66j11 : Li × Li → Rz) : Ty30 → Rz := fun (t5,x2,x3,x4) => (cond (decide (t5 < (↑x4.length : Int))) (kf66j5 (t5,x2,x3,x4)) (kf66j11 (x2,x3)))
theorem f66_5_eq (F : Nat) (Rf66j5 : St → Rz) (Rf66l1 : St → Rz) (Rf66j11 : St → Rz) : ∀ v,XAf66 F (bp Tryd.f66 488) (ef66l1 v) (kSeq (kc VG0366 Rf66j5 sp40) (kSeq (kc VG0366 Rf66l1 sp40) (kBlock 0 (kSeq (kc VG0366 Rf66j11 [(2,.plain),(3,.plain)]) Kf25)))) = f66_5 F (Rf66j5 ∘ ef66j5) (Rf66l1 ∘ ef66l1) (Rf66j11 ∘ ef66j11) v := by
 rintro ⟨t5,x2,x3,x4⟩; kernel_rfl
def f66_6 (F : Nat) (kf66j6 : Ty9 → Rz) (kf66j10 : Ty30 → Rz) (kf66l1 : Ty30 → Rz) (kf66j11 : Li × Li → Rz) : Ty30 → Rz := fun (t5,x2,x3,x4) => (cond (((decide (0 ≤ t5)) && (decide (t5 ≤ (IntKind.i64.wrap (t5 + (64 : Int)))))) && (decide ((IntKind.i64.wrap (t5 + (64 : Int))) ≤ (↑x4.length : Int)))) (cond (decide (64 ≤ ((x4.drop (Int.toNat t5)).take ((Int.toNat (IntKind.i64.wrap (t5 + (64 : Int)))) - (Int.toNat t5))).length)) (kf66j6 (t5,x2,x3,x4,(Sha.sched ((x4.drop (Int.toNat t5)).take ((Int.toNat (IntKind.i64.wrap (t5 + (64 : Int)))) - (Int.toNat t5))) 64))) none) none)
theorem f66_6_eq (F : Nat) (Rf66j6 : St → Rz) (Rf66j10 : St → Rz) (Rf66l1 : St → Rz) (Rf66j11 : St → Rz) : ∀ v,XAf66 F (bp Tryd.f66 3912) (ef66j5 v) (kSeq (kc VG0366 Rf66j6 sp44) (kBlock 1 (kSeq (kc VG0366 Rf66j10 sp40) (kSeq (kc VG0366 Rf66l1 sp40) (kBlock 0 (kSeq (kc VG0366 Rf66j11 [(2,.plain),(3,.plain)]) Kf25)))))) = f66_6 F (Rf66j6 ∘ ef66j6) (Rf66j10 ∘ ef66j10) (Rf66l1 ∘ ef66l1) (Rf66j11 ∘ ef66j11) v := by
 rintro ⟨t5,x2,x3,x4⟩; kernel_rfl
def f66_7 (F : Nat) (kf66j7 : Ty31 → Rz) (kf66j10 : Ty30 → Rz) (kf66l1 : Ty30 → Rz) (kf66j11 : Li × Li → Rz) : Ty9 → Rz := fun (t5,x2,x3,x4,x5) => (kf66j7 (t5,(x3.getD 0 0),(x3.getD 1 0),(x3.getD 2 0),(x3.getD 3 0),(x3.getD 4 0),(x3.getD 5 0),(x3.getD 6 0),(x3.getD 7 0),x2,x3,x4,x5))
theorem f66_7_eq (F : Nat) (Rf66j7 : St → Rz) (Rf66j10 : St → Rz) (Rf66l1 : St → Rz) (Rf66j11 : St → Rz) : ∀ v,XAf66 F (bp Tryd.f66 7826) (ef66j6 v) (kSeq (kc VG0366 Rf66j7 sp45) (kBlock 1 (kSeq (kc VG0366 Rf66j10 sp40) (kSeq (kc VG0366 Rf66l1 sp40) (kBlock 0 (kSeq (kc VG0366 Rf66j11 [(2,.plain),(3,.plain)]) Kf25)))))) = f66_7 F (Rf66j7 ∘ ef66j7) (Rf66j10 ∘ ef66j10) (Rf66l1 ∘ ef66l1) (Rf66j11 ∘ ef66j11) v := by
 rintro ⟨t5,x2,x3,x4,x5⟩; kernel_rfl
def f66_8 (F : Nat) (kf66j8 : Ty32 → Rz) (kf66j9 : Ty33 → Rz) (kf66j10 : Ty30 → Rz) (kf66l1 : Ty30 → Rz) (kf66j11 : Li × Li → Rz) : Ty31 → Rz := fun (t5,t7,t8,t9,t10,t11,t12,t13,t14,x10,x11,x12,x13) => (kf66j8 (t5,t7,t8,t9,t10,t11,t12,t13,t14,(0 : Int),x10,x11,x12,x13))
theorem f66_8_eq (F : Nat) (Rf66j8 : St → Rz) (Rf66j9 : St → Rz) (Rf66j10 : St → Rz) (Rf66l1 : St → Rz) (Rf66j11 : St → Rz) : ∀ v,XAf66 F (bp Tryd.f66 31308) (ef66j7 v) (kSeq (kc VG0366 Rf66j8 sp41) (kSeq (kc VG0366 Rf66j9 sp46) (kBlock 1 (kSeq (kc VG0366 Rf66j10 sp40) (kSeq (kc VG0366 Rf66l1 sp40) (kBlock 0 (kSeq (kc VG0366 Rf66j11 [(2,.plain),(3,.plain)]) Kf25))))))) = f66_8 F (Rf66j8 ∘ ef66j8) (Rf66j9 ∘ ef66j9) (Rf66j10 ∘ ef66j10) (Rf66l1 ∘ ef66l1) (Rf66j11 ∘ ef66j11) v := by
 rintro ⟨t5,t7,t8,t9,t10,t11,t12,t13,t14,x10,x11,x12,x13⟩; kernel_rfl
def f66_9 (F : Nat) (kf66l2 : Ty32 → Rz) (kf66j9 : Ty33 → Rz) (kf66j10 : Ty30 → Rz) (kf66l1 : Ty30 → Rz) (kf66j11 : Li × Li → Rz) : Ty32 → Rz := fun (t5,t7,t8,t9,t10,t11,t12,t13,t14,t15,x11,x12,x13,x14) => (cond (decide (t15 < (64 : Int))) (cond ((decide (0 ≤ (6 : Int))) && (decide ((6 : Int) ≤ 32))) (cond ((decide (0 ≤ (11 : Int))) && (decide ((11 : Int) ≤ 32))) (cond ((decide (0 ≤ (25 : Int))) && (decide ((25 : Int) ≤ 32))) (cond ((decide (0 ≤ t15)) && (decide (t15 < (64 : Int)))) (cond ((decide (0 ≤ t15)) && (decide (t15 < (64 : Int)))) (cond ((decide (0 ≤ (2 : Int))) && (decide ((2 : Int) ≤ 32))) (cond ((decide (0 ≤ (13 : Int))) && (decide ((13 : Int) ≤ 32))) (cond ((decide (0 ≤ (22 : Int))) && (decide ((22 : Int) ≤ 32))) (kf66l2 (t5,(IntKind.u32.wrap ((IntKind.u32.wrap ((IntKind.u32.wrap ((IntKind.u32.wrap ((IntKind.u32.wrap (t14 + (ibits .xor .u32 (ibits .xor .u32 (Sha.rotr t11 (Int.toNat (6 : Int))) (Sha.rotr t11 (Int.toNat (11 : Int)))) (Sha.rotr t11 (Int.toNat (25 : Int)))))) + (ibits .xor .u32 (ibits .and .u32 t11 t12) (ibits .and .u32 (ibits .xor .u32 t11 (4294967295 : Int)) t13)))) + (Sha.K.getD (Int.toNat t15) 0))) + (x14.getD (Int.toNat t15) 0))) + (IntKind.u32.wrap ((ibits .xor .u32 (ibits .xor .u32 (Sha.rotr t7 (Int.toNat (2 : Int))) (Sha.rotr t7 (Int.toNat (13 : Int)))) (Sha.rotr t7 (Int.toNat (22 : Int)))) + (ibits .xor .u32 (ibits .xor .u32 (ibits .and .u32 t7 t8) (ibits .and .u32 t7 t9)) (ibits .and .u32 t8 t9)))))),t7,t8,t9,(IntKind.u32.wrap (t10 + (IntKind.u32.wrap ((IntKind.u32.wrap ((IntKind.u32.wrap ((IntKind.u32.wrap (t14 + (ibits .xor .u32 (ibits .xor .u32 (Sha.rotr t11 (Int.toNat (6 : Int))) (Sha.rotr t11 (Int.toNat (11 : Int)))) (Sha.rotr t11 (Int.toNat (25 : Int)))))) + (ibits .xor .u32 (ibits .and .u32 t11 t12) (ibits .and .u32 (ibits .xor .u32 t11 (4294967295 : Int)) t13)))) + (Sha.K.getD (Int.toNat t15) 0))) + (x14.getD (Int.toNat t15) 0))))),t11,t12,t13,(IntKind.i64.wrap (t15 + (1 : Int))),x11,x12,x13,x14)) none) none) none) none) none) none) none) none) (kf66j9 (t5,t7,t8,t9,t10,t11,t12,t13,t14,x11,x12,x13)))
theorem f66_9_eq (F : Nat) (Rf66l2 : St → Rz) (Rf66j9 : St → Rz) (Rf66j10 : St → Rz) (Rf66l1 : St → Rz) (Rf66j11 : St → Rz) : ∀ v,XAf66 F (bp Tryd.f66 125236) (ef66l2 v) (kSeq (kc VG0366 Rf66l2 sp41) (kBlock 2 (kSeq (kc VG0366 Rf66j9 sp46) (kBlock 1 (kSeq (kc VG0366 Rf66j10 sp40) (kSeq (kc VG0366 Rf66l1 sp40) (kBlock 0 (kSeq (kc VG0366 Rf66j11 [(2,.plain),(3,.plain)]) Kf25)))))))) = f66_9 F (Rf66l2 ∘ ef66l2) (Rf66j9 ∘ ef66j9) (Rf66j10 ∘ ef66j10) (Rf66l1 ∘ ef66l1) (Rf66j11 ∘ ef66j11) v := by
 rintro ⟨t5,t7,t8,t9,t10,t11,t12,t13,t14,t15,x11,x12,x13,x14⟩; kernel_rfl
def f66_10_i : Ty32 → Int × Int × Int × Int × Int × Int × Int × Int × Int × Int × Li × Li × Li × Li := fun (t5,t7,t8,t9,t10,t11,t12,t13,t14,t15,x11,x12,x13,x14) => (t5,t7,t8,t9,t10,t11,t12,t13,t14,t15,x11,x12,x13,x14)
def f66_10 (F : Nat) (kf66j9 : Ty33 → Rz) (kf66j10 : Ty30 → Rz) (kf66l1 : Ty30 → Rz) (kf66j11 : Li × Li → Rz) : Ty32 → Rz := fun v => loopN (fun k => f66_9 F k kf66j9 kf66j10 kf66l1 kf66j11) F (f66_10_i v)
theorem f66_10_eq (F : Nat) (Rf66j9 : St → Rz) (Rf66j10 : St → Rz) (Rf66l1 : St → Rz) (Rf66j11 : St → Rz) : ∀ v,XAf66 F (bp Tryd.f66 62618) (ef66j8 v) (kBlock 2 (kSeq (kc VG0366 Rf66j9 sp46) (kBlock 1 (kSeq (kc VG0366 Rf66j10 sp40) (kSeq (kc VG0366 Rf66l1 sp40) (kBlock 0 (kSeq (kc VG0366 Rf66j11 [(2,.plain),(3,.plain)]) Kf25))))))) = f66_10 F (Rf66j9 ∘ ef66j9) (Rf66j10 ∘ ef66j10) (Rf66l1 ∘ ef66l1) (Rf66j11 ∘ ef66j11) v :=
 loop_cut (by kernel_rfl) (by kernel_rfl) ef66j8 ef66l2 _ f66_10_i (fun k => f66_9 F k (Rf66j9 ∘ ef66j9) (Rf66j10 ∘ ef66j10) (Rf66l1 ∘ ef66l1) (Rf66j11 ∘ ef66j11))
  (by rintro ⟨t5,t7,t8,t9,t10,t11,t12,t13,t14,t15,x11,x12,x13,x14⟩; kernel_rfl) (fun Rf66l2 => f66_9_eq F Rf66l2 Rf66j9 Rf66j10 Rf66l1 Rf66j11)
def f66_11 (F : Nat) (kf66j9 : Ty33 → Rz) (kf66j10 : Ty30 → Rz) (kf66l1 : Ty30 → Rz) (kf66j11 : Li × Li → Rz) : Ty32 → Rz := f66_10 F kf66j9 kf66j10 kf66l1 kf66j11
theorem f66_11_eq (F : Nat) (Rf66j9 : St → Rz) (Rf66j10 : St → Rz) (Rf66l1 : St → Rz) (Rf66j11 : St → Rz) : ∀ v,XAf66 F (bp Tryd.f66 31309) (ef66j8 v) (kSeq (kc VG0366 Rf66j9 sp46) (kBlock 1 (kSeq (kc VG0366 Rf66j10 sp40) (kSeq (kc VG0366 Rf66l1 sp40) (kBlock 0 (kSeq (kc VG0366 Rf66j11 [(2,.plain),(3,.plain)]) Kf25)))))) = f66_11 F (Rf66j9 ∘ ef66j9) (Rf66j10 ∘ ef66j10) (Rf66l1 ∘ ef66l1) (Rf66j11 ∘ ef66j11) v := fun v =>
 (block_in  (by kernel_rfl) _ _).trans (f66_10_eq F Rf66j9 Rf66j10 Rf66l1 Rf66j11 v)
def f66_12 (F : Nat) (kf66j9 : Ty33 → Rz) (kf66j10 : Ty30 → Rz) (kf66l1 : Ty30 → Rz) (kf66j11 : Li × Li → Rz) : Ty31 → Rz := fun v => f66_8 F (f66_11 F kf66j9 kf66j10 kf66l1 kf66j11) kf66j9 kf66j10 kf66l1 kf66j11 v
theorem f66_12_eq (F : Nat) (Rf66j9 : St → Rz) (Rf66j10 : St → Rz) (Rf66l1 : St → Rz) (Rf66j11 : St → Rz) : ∀ v,XAf66 F (bp Tryd.f66 15654) (ef66j7 v) (kSeq (kc VG0366 Rf66j9 sp46) (kBlock 1 (kSeq (kc VG0366 Rf66j10 sp40) (kSeq (kc VG0366 Rf66l1 sp40) (kBlock 0 (kSeq (kc VG0366 Rf66j11 [(2,.plain),(3,.plain)]) Kf25)))))) = f66_12 F (Rf66j9 ∘ ef66j9) (Rf66j10 ∘ ef66j10) (Rf66l1 ∘ ef66l1) (Rf66j11 ∘ ef66j11) v :=
 seq_cut (by kernel_rfl) (by kernel_rfl) ef66j7 ef66j8 _ (fun k => f66_8 F k (Rf66j9 ∘ ef66j9) (Rf66j10 ∘ ef66j10) (Rf66l1 ∘ ef66l1) (Rf66j11 ∘ ef66j11)) (f66_11 F (Rf66j9 ∘ ef66j9) (Rf66j10 ∘ ef66j10) (Rf66l1 ∘ ef66l1) (Rf66j11 ∘ ef66j11))
  (fun Rf66j8 => f66_8_eq F Rf66j8 Rf66j9 Rf66j10 Rf66l1 Rf66j11) (f66_11_eq F Rf66j9 Rf66j10 Rf66l1 Rf66j11)
def f66_13 (F : Nat) (kf66j10 : Ty30 → Rz) (kf66l1 : Ty30 → Rz) (kf66j11 : Li × Li → Rz) : Ty33 → Rz := fun (t5,t7,t8,t9,t10,t11,t12,t13,t14,x10,x11,x12) => (kf66j10 (t5,x10,[(IntKind.u32.wrap ((x11.getD 0 0) + t7)),(IntKind.u32.wrap ((x11.getD 1 0) + t8)),(IntKind.u32.wrap ((x11.getD 2 0) + t9)),(IntKind.u32.wrap ((x11.getD 3 0) + t10)),(IntKind.u32.wrap ((x11.getD 4 0) + t11)),(IntKind.u32.wrap ((x11.getD 5 0) + t12)),(IntKind.u32.wrap ((x11.getD 6 0) + t13)),(IntKind.u32.wrap ((x11.getD 7 0) + t14))],x12))
theorem f66_13_eq (F : Nat) (Rf66j10 : St → Rz) (Rf66l1 : St → Rz) (Rf66j11 : St → Rz) : ∀ v,XAf66 F (bp Tryd.f66 15655) (ef66j9 v) (kBlock 1 (kSeq (kc VG0366 Rf66j10 sp40) (kSeq (kc VG0366 Rf66l1 sp40) (kBlock 0 (kSeq (kc VG0366 Rf66j11 [(2,.plain),(3,.plain)]) Kf25))))) = f66_13 F (Rf66j10 ∘ ef66j10) (Rf66l1 ∘ ef66l1) (Rf66j11 ∘ ef66j11) v := by
 rintro ⟨t5,t7,t8,t9,t10,t11,t12,t13,t14,x10,x11,x12⟩; kernel_rfl
def f66_14 (F : Nat) (kf66j10 : Ty30 → Rz) (kf66l1 : Ty30 → Rz) (kf66j11 : Li × Li → Rz) : Ty31 → Rz := fun v => f66_12 F (f66_13 F kf66j10 kf66l1 kf66j11) kf66j10 kf66l1 kf66j11 v
theorem f66_14_eq (F : Nat) (Rf66j10 : St → Rz) (Rf66l1 : St → Rz) (Rf66j11 : St → Rz) : ∀ v,XAf66 F (bp Tryd.f66 7827) (ef66j7 v) (kBlock 1 (kSeq (kc VG0366 Rf66j10 sp40) (kSeq (kc VG0366 Rf66l1 sp40) (kBlock 0 (kSeq (kc VG0366 Rf66j11 [(2,.plain),(3,.plain)]) Kf25))))) = f66_14 F (Rf66j10 ∘ ef66j10) (Rf66l1 ∘ ef66l1) (Rf66j11 ∘ ef66j11) v :=
 seq_cut (by kernel_rfl) (by kernel_rfl) ef66j7 ef66j9 _ (fun k => f66_12 F k (Rf66j10 ∘ ef66j10) (Rf66l1 ∘ ef66l1) (Rf66j11 ∘ ef66j11)) (f66_13 F (Rf66j10 ∘ ef66j10) (Rf66l1 ∘ ef66l1) (Rf66j11 ∘ ef66j11))
  (fun Rf66j9 => f66_12_eq F Rf66j9 Rf66j10 Rf66l1 Rf66j11) (f66_13_eq F Rf66j10 Rf66l1 Rf66j11)
def f66_15 (F : Nat) (kf66j10 : Ty30 → Rz) (kf66l1 : Ty30 → Rz) (kf66j11 : Li × Li → Rz) : Ty9 → Rz := fun v => f66_7 F (f66_14 F kf66j10 kf66l1 kf66j11) kf66j10 kf66l1 kf66j11 v
theorem f66_15_eq (F : Nat) (Rf66j10 : St → Rz) (Rf66l1 : St → Rz) (Rf66j11 : St → Rz) : ∀ v,XAf66 F (bp Tryd.f66 3913) (ef66j6 v) (kBlock 1 (kSeq (kc VG0366 Rf66j10 sp40) (kSeq (kc VG0366 Rf66l1 sp40) (kBlock 0 (kSeq (kc VG0366 Rf66j11 [(2,.plain),(3,.plain)]) Kf25))))) = f66_15 F (Rf66j10 ∘ ef66j10) (Rf66l1 ∘ ef66l1) (Rf66j11 ∘ ef66j11) v :=
 seq_cut (by kernel_rfl) (by kernel_rfl) ef66j6 ef66j7 _ (fun k => f66_7 F k (Rf66j10 ∘ ef66j10) (Rf66l1 ∘ ef66l1) (Rf66j11 ∘ ef66j11)) (f66_14 F (Rf66j10 ∘ ef66j10) (Rf66l1 ∘ ef66l1) (Rf66j11 ∘ ef66j11))
  (fun Rf66j7 => f66_7_eq F Rf66j7 Rf66j10 Rf66l1 Rf66j11) (f66_14_eq F Rf66j10 Rf66l1 Rf66j11)
def f66_16 (F : Nat) (kf66j10 : Ty30 → Rz) (kf66l1 : Ty30 → Rz) (kf66j11 : Li × Li → Rz) : Ty30 → Rz := fun v => f66_6 F (f66_15 F kf66j10 kf66l1 kf66j11) kf66j10 kf66l1 kf66j11 v
theorem f66_16_eq (F : Nat) (Rf66j10 : St → Rz) (Rf66l1 : St → Rz) (Rf66j11 : St → Rz) : ∀ v,XAf66 F (bp Tryd.f66 1956) (ef66j5 v) (kBlock 1 (kSeq (kc VG0366 Rf66j10 sp40) (kSeq (kc VG0366 Rf66l1 sp40) (kBlock 0 (kSeq (kc VG0366 Rf66j11 [(2,.plain),(3,.plain)]) Kf25))))) = f66_16 F (Rf66j10 ∘ ef66j10) (Rf66l1 ∘ ef66l1) (Rf66j11 ∘ ef66j11) v :=
 seq_cut (by kernel_rfl) (by kernel_rfl) ef66j5 ef66j6 _ (fun k => f66_6 F k (Rf66j10 ∘ ef66j10) (Rf66l1 ∘ ef66l1) (Rf66j11 ∘ ef66j11)) (f66_15 F (Rf66j10 ∘ ef66j10) (Rf66l1 ∘ ef66l1) (Rf66j11 ∘ ef66j11))
  (fun Rf66j6 => f66_6_eq F Rf66j6 Rf66j10 Rf66l1 Rf66j11) (f66_15_eq F Rf66j10 Rf66l1 Rf66j11)
def f66_17 (F : Nat) (kf66j10 : Ty30 → Rz) (kf66l1 : Ty30 → Rz) (kf66j11 : Li × Li → Rz) : Ty30 → Rz := f66_16 F kf66j10 kf66l1 kf66j11
theorem f66_17_eq (F : Nat) (Rf66j10 : St → Rz) (Rf66l1 : St → Rz) (Rf66j11 : St → Rz) : ∀ v,XAf66 F (bp Tryd.f66 978) (ef66j5 v) (kSeq (kc VG0366 Rf66j10 sp40) (kSeq (kc VG0366 Rf66l1 sp40) (kBlock 0 (kSeq (kc VG0366 Rf66j11 [(2,.plain),(3,.plain)]) Kf25)))) = f66_17 F (Rf66j10 ∘ ef66j10) (Rf66l1 ∘ ef66l1) (Rf66j11 ∘ ef66j11) v := fun v =>
 (block_in  (by kernel_rfl) _ _).trans (f66_16_eq F Rf66j10 Rf66l1 Rf66j11 v)
def f66_18 (F : Nat) (kf66l1 : Ty30 → Rz) (kf66j11 : Li × Li → Rz) : Ty30 → Rz := fun (t5,x2,x3,x4) => (kf66l1 ((IntKind.i64.wrap (t5 + (64 : Int))),x2,x3,x4))
theorem f66_18_eq (F : Nat) (Rf66l1 : St → Rz) (Rf66j11 : St → Rz) : ∀ v,XAf66 F (bp Tryd.f66 979) (ef66j10 v) (kSeq (kc VG0366 Rf66l1 sp40) (kBlock 0 (kSeq (kc VG0366 Rf66j11 [(2,.plain),(3,.plain)]) Kf25))) = f66_18 F (Rf66l1 ∘ ef66l1) (Rf66j11 ∘ ef66j11) v := by
 rintro ⟨t5,x2,x3,x4⟩; kernel_rfl
def f66_19 (F : Nat) (kf66l1 : Ty30 → Rz) (kf66j11 : Li × Li → Rz) : Ty30 → Rz := fun v => f66_17 F (f66_18 F kf66l1 kf66j11) kf66l1 kf66j11 v
theorem f66_19_eq (F : Nat) (Rf66l1 : St → Rz) (Rf66j11 : St → Rz) : ∀ v,XAf66 F (bp Tryd.f66 489) (ef66j5 v) (kSeq (kc VG0366 Rf66l1 sp40) (kBlock 0 (kSeq (kc VG0366 Rf66j11 [(2,.plain),(3,.plain)]) Kf25))) = f66_19 F (Rf66l1 ∘ ef66l1) (Rf66j11 ∘ ef66j11) v :=
 seq_cut (by kernel_rfl) (by kernel_rfl) ef66j5 ef66j10 _ (fun k => f66_17 F k (Rf66l1 ∘ ef66l1) (Rf66j11 ∘ ef66j11)) (f66_18 F (Rf66l1 ∘ ef66l1) (Rf66j11 ∘ ef66j11))
  (fun Rf66j10 => f66_17_eq F Rf66j10 Rf66l1 Rf66j11) (f66_18_eq F Rf66l1 Rf66j11)
def f66_20 (F : Nat) (kf66l1 : Ty30 → Rz) (kf66j11 : Li × Li → Rz) : Ty30 → Rz := fun v => f66_5 F (f66_19 F kf66l1 kf66j11) kf66l1 kf66j11 v
theorem f66_20_eq (F : Nat) (Rf66l1 : St → Rz) (Rf66j11 : St → Rz) : ∀ v,XAf66 F (bp Tryd.f66 244) (ef66l1 v) (kSeq (kc VG0366 Rf66l1 sp40) (kBlock 0 (kSeq (kc VG0366 Rf66j11 [(2,.plain),(3,.plain)]) Kf25))) = f66_20 F (Rf66l1 ∘ ef66l1) (Rf66j11 ∘ ef66j11) v :=
 seq_cut (by kernel_rfl) (by kernel_rfl) ef66l1 ef66j5 _ (fun k => f66_5 F k (Rf66l1 ∘ ef66l1) (Rf66j11 ∘ ef66j11)) (f66_19 F (Rf66l1 ∘ ef66l1) (Rf66j11 ∘ ef66j11))
  (fun Rf66j5 => f66_5_eq F Rf66j5 Rf66l1 Rf66j11) (f66_19_eq F Rf66l1 Rf66j11)
def f66_21_i : Ty30 → Int × Li × Li × Li := fun (t5,x2,x3,x4) => (t5,x2,x3,x4)
def f66_21 (F : Nat) (kf66j11 : Li × Li → Rz) : Ty30 → Rz := fun v => loopN (fun k => f66_20 F k kf66j11) F (f66_21_i v)
theorem f66_21_eq (F : Nat) (Rf66j11 : St → Rz) : ∀ v,XAf66 F (bp Tryd.f66 122) (ef66j4 v) (kBlock 0 (kSeq (kc VG0366 Rf66j11 [(2,.plain),(3,.plain)]) Kf25)) = f66_21 F (Rf66j11 ∘ ef66j11) v :=
 loop_cut (by kernel_rfl) (by kernel_rfl) ef66j4 ef66l1 _ f66_21_i (fun k => f66_20 F k (Rf66j11 ∘ ef66j11))
  (by rintro ⟨t5,x2,x3,x4⟩; kernel_rfl) (fun Rf66l1 => f66_20_eq F Rf66l1 Rf66j11)
def f66_22 (F : Nat) (kf66j11 : Li × Li → Rz) : Ty30 → Rz := f66_21 F kf66j11
theorem f66_22_eq (F : Nat) (Rf66j11 : St → Rz) : ∀ v,XAf66 F (bp Tryd.f66 61) (ef66j4 v) (kSeq (kc VG0366 Rf66j11 [(2,.plain),(3,.plain)]) Kf25) = f66_22 F (Rf66j11 ∘ ef66j11) v := fun v =>
 (block_in  (by kernel_rfl) _ _).trans (f66_21_eq F Rf66j11 v)
def f66_23 (F : Nat) (kf66j11 : Li × Li → Rz) : Ty0 → Rz := fun v => f66_4 F (f66_22 F kf66j11) kf66j11 v
theorem f66_23_eq (F : Nat) (Rf66j11 : St → Rz) : ∀ v,XAf66 F (bp Tryd.f66 30) (ef66j3 v) (kSeq (kc VG0366 Rf66j11 [(2,.plain),(3,.plain)]) Kf25) = f66_23 F (Rf66j11 ∘ ef66j11) v :=
 seq_cut (by kernel_rfl) (by kernel_rfl) ef66j3 ef66j4 _ (fun k => f66_4 F k (Rf66j11 ∘ ef66j11)) (f66_22 F (Rf66j11 ∘ ef66j11))
  (fun Rf66j4 => f66_4_eq F Rf66j4 Rf66j11) (f66_22_eq F Rf66j11)
def f66_24 (F : Nat) (kf66j12 : Ty0 → Rz) : Li × Li → Rz := fun (x1,x2) => (kf66j12 (x1,x2,(List.replicate 32 0)))
theorem f66_24_eq (F : Nat) (Rf66j12 : St → Rz) : ∀ v,XAf66 F (bp Tryd.f66 62) (ef66j11 v) (kSeq (kc VG0366 Rf66j12 sp47) Kf25) = f66_24 F (Rf66j12 ∘ ef66j12) v := by
 rintro ⟨x1,x2⟩; kernel_rfl
def f66_25 (F : Nat) (kf66j13 : Ty30 → Rz) (kf66j14 : Li × Li → Rz) : Ty0 → Rz := fun (x1,x2,x3) => (kf66j13 ((0 : Int),x1,x2,x3))
theorem f66_25_eq (F : Nat) (Rf66j13 : St → Rz) (Rf66j14 : St → Rz) : ∀ v,XAf66 F (bp Tryd.f66 252) (ef66j12 v) (kSeq (kc VG0366 Rf66j13 sp42) (kSeq (kc VG0366 Rf66j14 [(2,.plain),(18,.plain)]) Kf25)) = f66_25 F (Rf66j13 ∘ ef66j13) (Rf66j14 ∘ ef66j14) v := by
 rintro ⟨x1,x2,x3⟩; kernel_rfl
def f66_26 (F : Nat) (kf66l3 : Ty30 → Rz) (kf66j14 : Li × Li → Rz) : Ty30 → Rz := fun (t19,x2,x3,x4) => (cond (decide (t19 < (32 : Int))) (cond ((decide (0 ≤ (IntKind.i64.wrap (Int.tdiv t19 (4 : Int))))) && (decide ((IntKind.i64.wrap (Int.tdiv t19 (4 : Int))) < (8 : Int)))) (cond (decide (0 ≤ (IntKind.i64.wrap ((24 : Int) - (IntKind.i64.wrap ((8 : Int) * (Int.tmod t19 (4 : Int)))))))) (cond ((decide (0 ≤ t19)) && (decide (t19 < (32 : Int)))) (kf66l3 ((IntKind.i64.wrap (t19 + (1 : Int))),x2,x3,(x4.set (Int.toNat t19) (IntKind.u8.wrap (Int.fdiv (x3.getD (Int.toNat (IntKind.i64.wrap (Int.tdiv t19 (4 : Int)))) 0) (2 ^ (min (Int.toNat (IntKind.i64.wrap ((24 : Int) - (IntKind.i64.wrap ((8 : Int) * (Int.tmod t19 (4 : Int))))))) 32))))))) none) none) none) (kf66j14 (x2,x4)))
theorem f66_26_eq (F : Nat) (Rf66l3 : St → Rz) (Rf66j14 : St → Rz) : ∀ v,XAf66 F (bp Tryd.f66 1012) (ef66l3 v) (kSeq (kc VG0366 Rf66l3 sp42) (kBlock 4 (kSeq (kc VG0366 Rf66j14 [(2,.plain),(18,.plain)]) Kf25))) = f66_26 F (Rf66l3 ∘ ef66l3) (Rf66j14 ∘ ef66j14) v := by
 rintro ⟨t19,x2,x3,x4⟩; kernel_rfl
def f66_27_i : Ty30 → Int × Li × Li × Li := fun (t19,x2,x3,x4) => (t19,x2,x3,x4)
def f66_27 (F : Nat) (kf66j14 : Li × Li → Rz) : Ty30 → Rz := fun v => loopN (fun k => f66_26 F k kf66j14) F (f66_27_i v)
theorem f66_27_eq (F : Nat) (Rf66j14 : St → Rz) : ∀ v,XAf66 F (bp Tryd.f66 506) (ef66j13 v) (kBlock 4 (kSeq (kc VG0366 Rf66j14 [(2,.plain),(18,.plain)]) Kf25)) = f66_27 F (Rf66j14 ∘ ef66j14) v :=
 loop_cut (by kernel_rfl) (by kernel_rfl) ef66j13 ef66l3 _ f66_27_i (fun k => f66_26 F k (Rf66j14 ∘ ef66j14))
  (by rintro ⟨t19,x2,x3,x4⟩; kernel_rfl) (fun Rf66l3 => f66_26_eq F Rf66l3 Rf66j14)
def f66_28 (F : Nat) (kf66j14 : Li × Li → Rz) : Ty30 → Rz := f66_27 F kf66j14
theorem f66_28_eq (F : Nat) (Rf66j14 : St → Rz) : ∀ v,XAf66 F (bp Tryd.f66 253) (ef66j13 v) (kSeq (kc VG0366 Rf66j14 [(2,.plain),(18,.plain)]) Kf25) = f66_28 F (Rf66j14 ∘ ef66j14) v := fun v =>
 (block_in  (by kernel_rfl) _ _).trans (f66_27_eq F Rf66j14 v)
def f66_29 (F : Nat) (kf66j14 : Li × Li → Rz) : Ty0 → Rz := fun v => f66_25 F (f66_28 F kf66j14) kf66j14 v
theorem f66_29_eq (F : Nat) (Rf66j14 : St → Rz) : ∀ v,XAf66 F (bp Tryd.f66 126) (ef66j12 v) (kSeq (kc VG0366 Rf66j14 [(2,.plain),(18,.plain)]) Kf25) = f66_29 F (Rf66j14 ∘ ef66j14) v :=
 seq_cut (by kernel_rfl) (by kernel_rfl) ef66j12 ef66j13 _ (fun k => f66_25 F k (Rf66j14 ∘ ef66j14)) (f66_28 F (Rf66j14 ∘ ef66j14))
  (fun Rf66j13 => f66_25_eq F Rf66j13 Rf66j14) (f66_28_eq F Rf66j14)
def f66_30 (F : Nat) : Li × Li → Rz := fun (x1,x2) => (some ((.agg 32 (.rI .u8 x2)),[]))
theorem f66_30_eq (F : Nat) : ∀ v,XAf66 F (bp Tryd.f66 127) (ef66j14 v) Kf25 = f66_30 F v := by
 rintro ⟨x1,x2⟩; kernel_rfl
def f66_31 (F : Nat) : Ty0 → Rz := fun v => f66_29 F (f66_30 F) v
theorem f66_31_eq (F : Nat) : ∀ v,XAf66 F (bp Tryd.f66 63) (ef66j12 v) Kf25 = f66_31 F v :=
 seq_cut (by kernel_rfl) (by kernel_rfl) ef66j12 ef66j14 _ (fun k => f66_29 F k) (f66_30 F)
  (fun Rf66j14 => f66_29_eq F Rf66j14) (f66_30_eq F)
def f66_32 (F : Nat) : Li × Li → Rz := fun v => f66_24 F (f66_31 F) v
theorem f66_32_eq (F : Nat) : ∀ v,XAf66 F (bp Tryd.f66 31) (ef66j11 v) Kf25 = f66_32 F v :=
 seq_cut (by kernel_rfl) (by kernel_rfl) ef66j11 ef66j12 _ (fun k => f66_24 F k) (f66_31 F)
  (fun Rf66j12 => f66_24_eq F Rf66j12) (f66_31_eq F)
def f66_33 (F : Nat) : Ty0 → Rz := fun v => f66_23 F (f66_32 F) v
theorem f66_33_eq (F : Nat) : ∀ v,XAf66 F (bp Tryd.f66 15) (ef66j3 v) Kf25 = f66_33 F v :=
 seq_cut (by kernel_rfl) (by kernel_rfl) ef66j3 ef66j11 _ (fun k => f66_23 F k) (f66_32 F)
  (fun Rf66j11 => f66_23_eq F Rf66j11) (f66_32_eq F)
def f66_34 (F : Nat) : Ty0 → Rz := fun v => f66_3 F (f66_33 F) v
theorem f66_34_eq (F : Nat) : ∀ v,XAf66 F (bp Tryd.f66 7) (ef66j2 v) Kf25 = f66_34 F v :=
 seq_cut (by kernel_rfl) (by kernel_rfl) ef66j2 ef66j3 _ (fun k => f66_3 F k) (f66_33 F)
  (fun Rf66j3 => f66_3_eq F Rf66j3) (f66_33_eq F)
def f66_35 (F : Nat) : Li × Li → Rz := fun v => f66_2 F (f66_34 F) v
theorem f66_35_eq (F : Nat) : ∀ v,XAf66 F (bp Tryd.f66 3) (ef66j1 v) Kf25 = f66_35 F v :=
 seq_cut (by kernel_rfl) (by kernel_rfl) ef66j1 ef66j2 _ (fun k => f66_2 F k) (f66_34 F)
  (fun Rf66j2 => f66_2_eq F Rf66j2) (f66_34_eq F)
def f66_36 (F : Nat) : Li → Rz := fun v => f66_1 F (f66_35 F) v
theorem f66_36_eq (F : Nat) : ∀ v,XAf66 F (sub (bodyOf Tryd.f66) []) (ef66_a v) Kf25 = f66_36 F v :=
 seq_cut (by kernel_rfl) (by kernel_rfl) ef66_a ef66j1 _ (fun k => f66_1 F k) (f66_35 F)
  (fun Rf66j1 => f66_1_eq F Rf66j1) (f66_35_eq F)
def f66 (F : Nat) : Li → Rz := f66_36 F
theorem f66_body (F : Nat) (a0 : List Int) : abody VG0366 (Af66 F) Tryd.f66 [(.vs (.rI .u8 a0) 0 1)] [] = f66 F a0 :=
 (abody_in (c := (sub (bodyOf Tryd.f66) [])) (by kernel_rfl) (s := ef66_a a0) (by kernel_rfl)).trans (f66_36_eq F a0)
def r66 : CRun := fun X H => match X,H with
 | [(.vs (.rI .u8 a0) 0 1)],[] => some ((decide (a0.length < 1073741000)),(.agg 32 (.rI .u8 (Sha.hash a0))),[])
 | _,_ => none
theorem pad_len (n : Int) : ((n + (Sha.pad n).length) % 64 = 0) := by
 simp only [Sha.pad,Sha.be8,List.length_cons,List.length_append,List.length_replicate,List.length_map,List.length_range]; omega
theorem pad_le (n : Int) : (Sha.pad n).length ≤ 73 := by
 simp only [Sha.pad,Sha.be8,List.length_cons,List.length_append,List.length_replicate,List.length_map,List.length_range]; omega
theorem hash_padded (a0 : List Int) (hl : a0.length < 4611686018427387904) : Sha.hash a0 = Sha.out (Sha.addS Sha.begin (Sha.padded a0)).1 := by
 have e : (Sha.addS Sha.begin a0).2.2 = (a0.length : Int) := by
  show (Sha.addS (Sha.iv,List.replicate 64 0,0) a0).2.2 = _
  rw [Sha.addS_n _ _ _ _ (by omega) (by omega),u64w (by omega) (by omega)]; omega
 unfold Sha.hash Sha.fin Sha.padded
 rw [e,Sha.addS_append]
theorem addS_block (m : List Int) (i : Nat) (h : 64 * (i + 1) ≤ m.length) : (Sha.addS Sha.begin (m.take (64 * (i + 1)))).1 = Sha.comp (Sha.addS Sha.begin (m.take (64 * i))).1 ((m.drop (64 * i)).take 64) := by
 have e1 : m.take (64 * (i + 1)) = m.take (64 * i) ++ (m.drop (64 * i)).take 64 := by rw [show 64 * (i + 1) = 64 * i + 64 by omega,List.take_add]
 have hc : ((m.drop (64 * i)).take 64).length = 64 := by rw [List.length_take,List.length_drop]; omega
 rw [e1,Sha.addS_append]
 have hn : (Sha.addS Sha.begin (m.take (64 * i))).2.2 % 64 = 0 ∧ 0 ≤ (Sha.addS Sha.begin (m.take (64 * i))).2.2 ∧ (Sha.addS Sha.begin (m.take (64 * i))).2.2 ≤ 18446744073709551615 := by
  have : (Sha.addS Sha.begin (m.take (64 * i))).2.2 = _ := Sha.addS_n (m.take (64 * i)) Sha.iv (List.replicate 64 0) 0 (by omega) (by omega)
  rw [this,u64mod,List.length_take]; omega
 have hb : (Sha.addS Sha.begin (m.take (64 * i))).2.1.length = 64 := (Sha.addS_lens _ _ rfl).2
 generalize Sha.addS Sha.begin (m.take (64 * i)) = s at *
 obtain ⟨st,bl,n⟩ := s
 simp only at hn hb
 have := Sha.addS_chunk ((m.drop (64 * i)).take 64) st bl n hb hn.2.1 hn.2.2 (by omega)
 rw [this,if_pos (by omega)]
 simp only
 rw [show (n % 64).toNat = 0 by omega,List.take_zero,List.nil_append,hc,List.drop_of_length_le (l := bl) (by omega),List.append_nil]
theorem s66 (a0 : List Int) (hp : ((decide (a0.length < 1073741000))) = true) (h0 : okV (.vs (.rI .u8 a0) 0 1)) : ∃ F,f66 F a0 = some ((.agg 32 (.rI .u8 (Sha.hash a0))),[]) := by
 have hl : a0.length < 1073741000 := of_decide_eq_true hp
 rw [hash_padded a0 (by omega)]
 have hm64 : (Sha.padded a0).length % 64 = 0 := by have := pad_len (a0.length : Int); simp only [Sha.padded,List.length_append]; omega
 have hmle : (Sha.padded a0).length ≤ a0.length + 73 := by have := pad_le (a0.length : Int); simp only [Sha.padded,List.length_append]; omega
 refine ⟨(Sha.padded a0).length + 65,?_⟩
 simp only [f66,f66_36,f66_1,f66_35,f66_2,f66_34,f66_3,f66_33,f66_23,f66_4,f66_22,f66_21,f66_21_i]
 rw [hp,cond_true]
 generalize Sha.padded a0 = m at *
 generalize hF : m.length + 65 = F
 refine loopN_from (fun i => (((64 * i : Nat) : Int),List.replicate 32 0,(Sha.addS Sha.begin (m.take (64 * i))).1,m)) (m.length / 64) (by rfl) (fun i hi k => ?_) (fun k => ?_) F (by omega)
 ·simp only [f66_5,f66_20,f66_16,f66_19,f66_17,f66_18,f66_6,f66_15]
  rw [dec_and,dec_and,i64w (x := ((64 * i : Nat) : Int) + 64) (by omega) (by omega),cond_pos (by omega),cond_pos (by omega)]
  rw [show (((64 * i : Nat) : Int) + 64).toNat - (((64 * i : Nat) : Int)).toNat = 64 by omega,Int.toNat_natCast,cond_pos (by rw [List.length_take,List.length_drop]; omega)]
  have hb := addS_block m i (by omega)
  have h8 : (Sha.addS Sha.begin (m.take (64 * i))).1.length = 8 := (Sha.addS_lens _ _ rfl).1
  rw [hb]
  generalize (Sha.addS Sha.begin (m.take (64 * i))).1 = st at *
  generalize (m.drop (64 * i)).take 64 = c at *
  simp only [f66_7,f66_14,f66_12,f66_8,f66_11,f66_10,f66_10_i]
  refine loopN_from (fun t => (((64 * i : Nat) : Int),(Sha.rnds (Sha.sched c 64) (st.take 4,st.drop 4) t).1.getD 0 0,(Sha.rnds (Sha.sched c 64) (st.take 4,st.drop 4) t).1.getD 1 0,(Sha.rnds (Sha.sched c 64) (st.take 4,st.drop 4) t).1.getD 2 0,(Sha.rnds (Sha.sched c 64) (st.take 4,st.drop 4) t).1.getD 3 0,
   (Sha.rnds (Sha.sched c 64) (st.take 4,st.drop 4) t).2.getD 0 0,(Sha.rnds (Sha.sched c 64) (st.take 4,st.drop 4) t).2.getD 1 0,(Sha.rnds (Sha.sched c 64) (st.take 4,st.drop 4) t).2.getD 2 0,(Sha.rnds (Sha.sched c 64) (st.take 4,st.drop 4) t).2.getD 3 0,(t : Int),List.replicate 32 0,st,m,Sha.sched c 64)) 64 ?_ (fun t ht k' => ?_) (fun k' => ?_) F (by omega)
  ·obtain ⟨b0,b1,b2,b3,b4,b5,b6,b7,rfl⟩ := len8 h8
   rfl
  ·simp only [f66_9,dec_and]
   rw [i64w (x := (t : Int) + 1) (by omega) (by omega)]
   repeat rw [cond_pos (by omega)]
   rw [Int.toNat_natCast,Sha.ibits_xor_comm .u32 _ 4294967295]
   rfl
  ·simp only [f66_9]
   rw [cond_neg (by omega)]
   have e : ((64 * i : Nat) : Int) + 64 = ((64 * (i + 1) : Nat) : Int) := by omega
   simp only [f66_13,f66_18]
   rw [i64w (x := ((64 * i : Nat) : Int) + 64) (by omega) (by omega),e]
   rfl
 ·simp only [f66_5,f66_20]
  rw [cond_neg (by omega),List.take_of_length_le (show m.length ≤ 64 * (m.length / 64) by omega)]
  generalize (Sha.addS Sha.begin m).1 = R1
  simp only [f66_32,f66_24,f66_31,f66_29,f66_25,f66_28,f66_27,f66_27_i]
  refine loopN_from (fun i => ((i : Int),List.replicate 32 0,R1,(List.range i).map (fun i => IntKind.u8.wrap ((R1.getD (i / 4) 0).fdiv (2 ^ (24 - 8 * (i % 4))))) ++ List.replicate (32 - i) 0)) 32 (by rfl) (fun i hi k'' => ?_) (fun k'' => ?_) F (by omega)
  ·simp only [f66_26,dec_and]
   rw [tdiv_nn (by omega),tmod_nn (by omega),i64w (x := (i : Int) / 4) (by omega) (by omega),i64w (x := 8 * ((i : Int) % 4)) (by omega) (by omega),i64w (x := 24 - 8 * ((i : Int) % 4)) (by omega) (by omega),i64w (x := (i : Int) + 1) (by omega) (by omega),
    cond_pos (by omega),cond_pos (by omega),cond_pos (by omega),cond_pos (by omega)]
   rw [show min (24 - 8 * ((i : Int) % 4)).toNat 32 = 24 - 8 * (i % 4) by omega,show ((i : Int) / 4).toNat = i / 4 by omega,Int.toNat_natCast,fill_set _ 0 32 i hi rfl]
   rfl
  ·simp only [f66_26]
   rw [cond_neg (by omega),Nat.sub_self,List.replicate_zero,List.append_nil]
   rfl
theorem c66 : CallOk Tryd.prog G03 66 r66 := callOk_of (V := VG0366) mixed tys eVG0366 (f := 66) (fn := Tryd.f66) Tryd.func66 (by kernel_rfl) (c := sub (bodyOf Tryd.f66) []) (by kernel_rfl) (by
 intro X H r H' h hX hH
 unfold r66 at h; split at h <;> try contradiction
 ·simp only [Option.some.injEq,Prod.mk.injEq] at h
  obtain ⟨hp,rfl,rfl⟩ := h
  obtain ⟨F,hF⟩ := s66 _ hp (hX _ (.head _))
  exact ⟨Af66 F,(f66_body F _).trans hF⟩)
def lVG0364 : List CEnt := [(65,[none],r65),(66,[some 5],r66)]
def VG0364 : Env := mkEnv T03 G03 lVG0364
noncomputable abbrev Kf26 := kFin VG0364 none (Tryd.f64).results.toList
theorem eVG0364 : EOk Tryd.prog VG0364 := eok_mk (by exact ⟨c65.more gsub,c66,trivial⟩)
def Af64 (F : Nat) : Cuts := { F := F,at_ := fun n => match n with | 6018 => some sp48 | _ => none,join := fun n => match n with | 1036 => some [(0,.plain),(1,.plain)] | 2034 => some sp32 | 4028 => some [(1,.plain),(5,.plain)] | 5026 => some sp39 | 6020 => some sp49 | 12003 => some [(6,.plain)] | _ => none }
noncomputable abbrev XAf64 (F : Nat) {α : Type} := @aexec α VG0364 (Af64 F)
def ef64_a : Li × Int → St := fun (a0,a1) => ⟨[(0,.str a0),(1,.int .u8 a1)],[],0,35,0⟩
def ef64j1 : Li × Int → St := fun (t0,t1) => ⟨[(0,.str t0),(1,.int .u8 t1)],[],0,35,0⟩
def ef64j2 : Ty34 → St := fun (t0,t1,t5) => ⟨[(0,.str t0),(1,.int .u8 t1),(5,.str t5)],[],0,35,0⟩
def ef64j3 : Int × Li → St := fun (t1,t5) => ⟨[(1,.int .u8 t1),(5,.str t5)],[],0,35,0⟩
def ef64j4 : Int × Li → St := fun (t1,t5) => ⟨[(1,.int .u8 t1),(5,.str t5),(6,.ns)],[],0,35,0⟩
def ef64j5 : Int × Li × Int → St := fun (t1,t5,t7) => ⟨[(1,.int .u8 t1),(5,.str t5),(6,.ns),(7,.int .i64 t7)],[],0,35,0⟩
def ef64l1 : Ty35 → St := fun (t1,t5,t7,x4) => ⟨[(1,.int .u8 t1),(5,.str t5),(6,.own 0 0 1),(7,.int .i64 t7)],[(0,(.cells x4.length (.rI .u8 x4) true))],1,35,0⟩
def ef64j6 : Li → St := fun x1 => ⟨[(6,.own 0 0 1)],[(0,(.cells x1.length (.rI .u8 x1) true))],1,35,0⟩
def f64_1 (F : Nat) (kf64j1 : Li × Int → Rz) : Li × Int → Rz := fun (a0,a1) => (kf64j1 (a0,a1))
theorem f64_1_eq (F : Nat) (Rf64j1 : St → Rz) : ∀ v,XAf64 F (bp Tryd.f64 2) (ef64_a v) (kSeq (kc VG0364 Rf64j1 [(0,.plain),(1,.plain)]) Kf26) = f64_1 F (Rf64j1 ∘ ef64j1) v := by
 rintro ⟨a0,a1⟩; kernel_rfl
def f64_2 (F : Nat) (kf64j2 : Ty34 → Rz) : Li × Int → Rz := fun (t0,t1) => (kf64j2 (t0,t1,t0))
theorem f64_2_eq (F : Nat) (Rf64j2 : St → Rz) : ∀ v,XAf64 F (bp Tryd.f64 6) (ef64j1 v) (kSeq (kc VG0364 Rf64j2 sp32) Kf26) = f64_2 F (Rf64j2 ∘ ef64j2) v := by
 rintro ⟨t0,t1⟩; kernel_rfl
def f64_3 (F : Nat) (kf64j3 : Int × Li → Rz) : Ty34 → Rz := fun (t0,t1,t5) => (cond (decide ((↑t0.length : Int) > (64 : Int))) (cond (decide (t0.length < 1073741000)) (kf64j3 (t1,(Sha.hash t0))) none) (kf64j3 (t1,t5)))
theorem f64_3_eq (F : Nat) (Rf64j3 : St → Rz) : ∀ v,XAf64 F (bp Tryd.f64 14) (ef64j2 v) (kSeq (kc VG0364 Rf64j3 [(1,.plain),(5,.plain)]) Kf26) = f64_3 F (Rf64j3 ∘ ef64j3) v := by
 rintro ⟨t0,t1,t5⟩; kernel_rfl
def f64_4 (F : Nat) (kf64j4 : Int × Li → Rz) : Int × Li → Rz := fun (t1,t5) => (kf64j4 (t1,t5))
theorem f64_4_eq (F : Nat) (Rf64j4 : St → Rz) : ∀ v,XAf64 F (bp Tryd.f64 30) (ef64j3 v) (kSeq (kc VG0364 Rf64j4 sp39) Kf26) = f64_4 F (Rf64j4 ∘ ef64j4) v := by
 rintro ⟨t1,t5⟩; kernel_rfl
def f64_5 (F : Nat) (kf64j5 : Int × Li × Int → Rz) (kf64j6 : Li → Rz) : Int × Li → Rz := fun (t1,t5) => (kf64j5 (t1,t5,(0 : Int)))
theorem f64_5_eq (F : Nat) (Rf64j5 : St → Rz) (Rf64j6 : St → Rz) : ∀ v,XAf64 F (bp Tryd.f64 124) (ef64j4 v) (kSeq (kc VG0364 Rf64j5 sp49) (kSeq (kc VG0364 Rf64j6 [(6,.plain)]) Kf26)) = f64_5 F (Rf64j5 ∘ ef64j5) (Rf64j6 ∘ ef64j6) v := by
 rintro ⟨t1,t5⟩; kernel_rfl
def f64_6 (F : Nat) (kf64l1 : Ty35 → Rz) (kf64j6 : Li → Rz) : Ty35 → Rz := fun (t1,t5,t7,x4) => (cond (decide (t7 < (64 : Int))) (cond (decide (t7 < (↑t5.length : Int))) (cond ((decide (0 ≤ t7)) && (decide (t7 < (↑t5.length : Int)))) (cond (decide ((x4.length + 1) < 1073741824)) (kf64l1 (t1,t5,(IntKind.i64.wrap (t7 + (1 : Int))),(x4 ++ [(ibits .xor .u8 (t5.getD (Int.toNat t7) 0) t1)]))) none) none) (cond (decide ((x4.length + 1) < 1073741824)) (kf64l1 (t1,t5,(IntKind.i64.wrap (t7 + (1 : Int))),(x4 ++ [(ibits .xor .u8 (0 : Int) t1)]))) none)) (kf64j6 x4))
theorem f64_6_eq (F : Nat) (Rf64l1 : St → Rz) (Rf64j6 : St → Rz) : ∀ v,XAf64 F (bp Tryd.f64 500) (ef64l1 v) (kSeq (kc VG0364 Rf64l1 sp48) (kBlock 0 (kSeq (kc VG0364 Rf64j6 [(6,.plain)]) Kf26))) = f64_6 F (Rf64l1 ∘ ef64l1) (Rf64j6 ∘ ef64j6) v := by
 rintro ⟨t1,t5,t7,x4⟩; kernel_rfl
def f64_7_i : Int × Li × Int → Int × Li × Int × Li := fun (t1,t5,t7) => (t1,t5,t7,[])
def f64_7 (F : Nat) (kf64j6 : Li → Rz) : Int × Li × Int → Rz := fun v => loopN (fun k => f64_6 F k kf64j6) F (f64_7_i v)
theorem f64_7_eq (F : Nat) (Rf64j6 : St → Rz) : ∀ v,XAf64 F (bp Tryd.f64 250) (ef64j5 v) (kBlock 0 (kSeq (kc VG0364 Rf64j6 [(6,.plain)]) Kf26)) = f64_7 F (Rf64j6 ∘ ef64j6) v :=
 loop_cut (by kernel_rfl) (by kernel_rfl) ef64j5 ef64l1 _ f64_7_i (fun k => f64_6 F k (Rf64j6 ∘ ef64j6))
  (by rintro ⟨t1,t5,t7⟩; kernel_rfl) (fun Rf64l1 => f64_6_eq F Rf64l1 Rf64j6)
def f64_8 (F : Nat) (kf64j6 : Li → Rz) : Int × Li × Int → Rz := f64_7 F kf64j6
theorem f64_8_eq (F : Nat) (Rf64j6 : St → Rz) : ∀ v,XAf64 F (bp Tryd.f64 125) (ef64j5 v) (kSeq (kc VG0364 Rf64j6 [(6,.plain)]) Kf26) = f64_8 F (Rf64j6 ∘ ef64j6) v := fun v =>
 (block_in  (by kernel_rfl) _ _).trans (f64_7_eq F Rf64j6 v)
def f64_9 (F : Nat) (kf64j6 : Li → Rz) : Int × Li → Rz := fun v => f64_5 F (f64_8 F kf64j6) kf64j6 v
theorem f64_9_eq (F : Nat) (Rf64j6 : St → Rz) : ∀ v,XAf64 F (bp Tryd.f64 62) (ef64j4 v) (kSeq (kc VG0364 Rf64j6 [(6,.plain)]) Kf26) = f64_9 F (Rf64j6 ∘ ef64j6) v :=
 seq_cut (by kernel_rfl) (by kernel_rfl) ef64j4 ef64j5 _ (fun k => f64_5 F k (Rf64j6 ∘ ef64j6)) (f64_8 F (Rf64j6 ∘ ef64j6))
  (fun Rf64j5 => f64_5_eq F Rf64j5 Rf64j6) (f64_8_eq F Rf64j6)
def f64_10 (F : Nat) : Li → Rz := fun x1 => (some ((.own 0 0 1),[(.cells x1.length (.rI .u8 x1) true)]))
theorem f64_10_eq (F : Nat) : ∀ v,XAf64 F (bp Tryd.f64 63) (ef64j6 v) Kf26 = f64_10 F v := by
 intro x1; kernel_rfl
def f64_11 (F : Nat) : Int × Li → Rz := fun v => f64_9 F (f64_10 F) v
theorem f64_11_eq (F : Nat) : ∀ v,XAf64 F (bp Tryd.f64 31) (ef64j4 v) Kf26 = f64_11 F v :=
 seq_cut (by kernel_rfl) (by kernel_rfl) ef64j4 ef64j6 _ (fun k => f64_9 F k) (f64_10 F)
  (fun Rf64j6 => f64_9_eq F Rf64j6) (f64_10_eq F)
def f64_12 (F : Nat) : Int × Li → Rz := fun v => f64_4 F (f64_11 F) v
theorem f64_12_eq (F : Nat) : ∀ v,XAf64 F (bp Tryd.f64 15) (ef64j3 v) Kf26 = f64_12 F v :=
 seq_cut (by kernel_rfl) (by kernel_rfl) ef64j3 ef64j4 _ (fun k => f64_4 F k) (f64_11 F)
  (fun Rf64j4 => f64_4_eq F Rf64j4) (f64_11_eq F)
def f64_13 (F : Nat) : Ty34 → Rz := fun v => f64_3 F (f64_12 F) v
theorem f64_13_eq (F : Nat) : ∀ v,XAf64 F (bp Tryd.f64 7) (ef64j2 v) Kf26 = f64_13 F v :=
 seq_cut (by kernel_rfl) (by kernel_rfl) ef64j2 ef64j3 _ (fun k => f64_3 F k) (f64_12 F)
  (fun Rf64j3 => f64_3_eq F Rf64j3) (f64_12_eq F)
def f64_14 (F : Nat) : Li × Int → Rz := fun v => f64_2 F (f64_13 F) v
theorem f64_14_eq (F : Nat) : ∀ v,XAf64 F (bp Tryd.f64 3) (ef64j1 v) Kf26 = f64_14 F v :=
 seq_cut (by kernel_rfl) (by kernel_rfl) ef64j1 ef64j2 _ (fun k => f64_2 F k) (f64_13 F)
  (fun Rf64j2 => f64_2_eq F Rf64j2) (f64_13_eq F)
def f64_15 (F : Nat) : Li × Int → Rz := fun v => f64_1 F (f64_14 F) v
theorem f64_15_eq (F : Nat) : ∀ v,XAf64 F (sub (bodyOf Tryd.f64) []) (ef64_a v) Kf26 = f64_15 F v :=
 seq_cut (by kernel_rfl) (by kernel_rfl) ef64_a ef64j1 _ (fun k => f64_1 F k) (f64_14 F)
  (fun Rf64j1 => f64_1_eq F Rf64j1) (f64_14_eq F)
def f64 (F : Nat) : Li × Int → Rz := f64_15 F
theorem f64_body (F : Nat) (a0 : List Int) (a1 : Int) : abody VG0364 (Af64 F) Tryd.f64 [(.str a0),.int .u8 a1] [] = f64 F (a0,a1) :=
 (abody_in (c := (sub (bodyOf Tryd.f64) [])) (by kernel_rfl) (s := ef64_a (a0,a1)) (by kernel_rfl)).trans (f64_15_eq F (a0,a1))
def r64 : CRun := fun X H => match X,H with
 | [(.str a0),.int .u8 a1],[] => some ((decide (a0.length < 1073741000)),.own 0 0 1,[(.cells (Sha.xpad (Sha.key64 a0) a1).length (.rI .u8 (Sha.xpad (Sha.key64 a0) a1)) true)])
 | _,_ => none
theorem s64 (a0 : List Int) (a1 : Int) (hp : ((decide (a0.length < 1073741000))) = true) (h0 : okV (.str a0)) (h1 : okV (.int .u8 a1)) : ∃ F,f64 F (a0,a1) = some ((.own 0 0 1),[(.cells (Sha.xpad (Sha.key64 a0) a1).length (.rI .u8 (Sha.xpad (Sha.key64 a0) a1)) true)]) := by
 have hl : a0.length < 1073741000 := of_decide_eq_true hp
 refine ⟨65,?_⟩
 simp only [f64,f64_15,f64_1,f64_14,f64_2,f64_13,f64_3]
 have key : f64_12 65 (a1,Sha.key64 a0) = some ((.own 0 0 1),[(.cells (Sha.xpad (Sha.key64 a0) a1).length (.rI .u8 (Sha.xpad (Sha.key64 a0) a1)) true)]) := by
  simp only [f64_12,f64_4,f64_11,f64_9,f64_5,f64_8,f64_7,f64_7_i]
  generalize Sha.key64 a0 = x
  refine loopN_from (fun i => (a1,x,(i : Int),(List.range i).map fun i => ibits .xor .u8 (x.getD i 0) a1)) 64 (by rfl) (fun i hi k => ?_) (fun k => ?_) 65 (by omega)
  ·simp only [f64_6,dec_and,List.length_map,List.length_range]
   rw [i64w (x := (i : Int) + 1) (by omega) (by omega),cond_pos (by omega),Int.toNat_natCast]
   by_cases hx : i < x.length
   ·rw [cond_pos (by omega),cond_pos (by omega),cond_pos (by omega),List.range_succ,List.map_append]; rfl
   ·rw [cond_neg (by omega),cond_pos (by omega),List.range_succ,List.map_append]
    have : x.getD i 0 = 0 := by rw [List.getD_eq_getElem?_getD,List.getElem?_eq_none (by omega)]; rfl
    simp only [List.map_cons,List.map_nil,this]; rfl
  ·simp only [f64_6]
   rw [cond_neg (by omega)]
   rfl
 by_cases h64 : a0.length > 64
 ·rw [cond_pos (show ((a0.length : Int) > 64) by omega),hp,cond_true]
  have : Sha.key64 a0 = Sha.hash a0 := by unfold Sha.key64; rw [if_pos h64]
  rw [← this]; exact key
 ·rw [cond_neg (show ¬ ((a0.length : Int) > 64) by omega)]
  have : Sha.key64 a0 = a0 := by unfold Sha.key64; rw [if_neg h64]
  rw [this] at key ⊢; exact key
theorem c64 : CallOk Tryd.prog G03 64 r64 := callOk_of (V := VG0364) mixed tys eVG0364 (f := 64) (fn := Tryd.f64) Tryd.func64 (by kernel_rfl) (c := sub (bodyOf Tryd.f64) []) (by kernel_rfl) (by
 intro X H r H' h hX hH
 unfold r64 at h; split at h <;> try contradiction
 ·simp only [Option.some.injEq,Prod.mk.injEq] at h
  obtain ⟨hp,rfl,rfl⟩ := h
  obtain ⟨F,hF⟩ := s64 _ _ hp (hX _ (.head _)) (hX _ (.tail _ (.head _)))
  exact ⟨Af64 F,(f64_body F _ _).trans hF⟩)
def lVG0351 : List CEnt := [(64,[none,none],r64),(65,[none],r65),(66,[some 5],r66)]
def VG0351 : Env := mkEnv T03 G03 lVG0351
noncomputable abbrev Kf27 := kFin VG0351 none (Tryd.f51).results.toList
theorem eVG0351 : EOk Tryd.prog VG0351 := eok_mk (by exact ⟨c64,c65.more gsub,c66,trivial⟩)
def Af51 (F : Nat) : Cuts := { F := F,at_ := fun _ => none,join := fun _ => none }
def ef51_a : Li × Li → St := fun (a0,a1) => ⟨[(0,.str a0),(1,.str a1)],[],0,22,0⟩
def f51_1 (F : Nat) : Li × Li → Rz := fun (a0,a1) => (cond (decide (a0.length < 1073741000)) (cond (decide (((Sha.xpad (Sha.key64 a0) (54 : Int)).length + a1.length) < 1073741824)) (cond (decide (a0.length < 1073741000)) (cond (decide (((Sha.xpad (Sha.key64 a0) (54 : Int)) ++ a1).length < 1073741000)) (cond (decide (((Sha.xpad (Sha.key64 a0) (92 : Int)).length + (Sha.hash ((Sha.xpad (Sha.key64 a0) (54 : Int)) ++ a1)).length) < 1073741824)) (cond (decide (((Sha.xpad (Sha.key64 a0) (92 : Int)) ++ (Sha.hash ((Sha.xpad (Sha.key64 a0) (54 : Int)) ++ a1))).length < 1073741000)) (some ((.str (Sha.hash ((Sha.xpad (Sha.key64 a0) (92 : Int)) ++ (Sha.hash ((Sha.xpad (Sha.key64 a0) (54 : Int)) ++ a1))))),[])) none) none) none) none) none) none)
theorem f51_1_eq (F : Nat) : ∀ v,aexec VG0351 (Af51 F) (sub (bodyOf Tryd.f51) []) (ef51_a v) Kf27 = f51_1 F v := by
 rintro ⟨a0,a1⟩; kernel_rfl
def f51 (F : Nat) : Li × Li → Rz := f51_1 F
theorem f51_body (F : Nat) (a0 : List Int) (a1 : List Int) : abody VG0351 (Af51 F) Tryd.f51 [(.str a0),.str a1] [] = f51 F (a0,a1) :=
 (abody_in (c := (sub (bodyOf Tryd.f51) [])) (by kernel_rfl) (s := ef51_a (a0,a1)) (by kernel_rfl)).trans (f51_1_eq F (a0,a1))
def r51 : CRun := fun X H => match X,H with
 | [(.str a0),.str a1],[] => some (((decide (a0.length < 1073740000)) && (decide (a1.length < 1073740000))),(.str (Sha.mac a0 a1)),[])
 | _,_ => none
theorem s51 (a0 : List Int) (a1 : List Int) (hp : (((decide (a0.length < 1073740000)) && (decide (a1.length < 1073740000)))) = true) (h0 : okV (.str a0)) (h1 : okV (.str a1)) : ∃ F,f51 F (a0,a1) = some ((.str (Sha.mac a0 a1)),[]) := by
 rw [dec_and,decide_eq_true_eq] at hp
 have hx : ∀ k w,(Sha.xpad k w).length = 64 := fun k w => by simp [Sha.xpad]
 refine ⟨0,?_⟩
 simp only [f51,f51_1,List.length_append,hx,Sha.hash_len]
 rw [cond_pos (by omega),cond_pos (by omega),cond_pos (by omega),cond_pos (by omega),cond_pos (by omega),cond_pos (by omega)]
 rfl
theorem c51 : CallOk Tryd.prog G03 51 r51 := callOk_of (V := VG0351) mixed tys eVG0351 (f := 51) (fn := Tryd.f51) Tryd.func51 (by kernel_rfl) (c := sub (bodyOf Tryd.f51) []) (by kernel_rfl) (by
 intro X H r H' h hX hH
 unfold r51 at h; split at h <;> try contradiction
 ·simp only [Option.some.injEq,Prod.mk.injEq] at h
  obtain ⟨hp,rfl,rfl⟩ := h
  obtain ⟨F,hF⟩ := s51 _ _ hp (hX _ (.head _)) (hX _ (.tail _ (.head _)))
  exact ⟨Af51 F,(f51_body F _ _).trans hF⟩)
def lVG0356 : List CEnt := [(66,[some 5],r66)]
def VG0356 : Env := mkEnv T03 G03 lVG0356
noncomputable abbrev Kf28 := kFin VG0356 none (Tryd.f56).results.toList
theorem eVG0356 : EOk Tryd.prog VG0356 := eok_mk (by exact ⟨c66,trivial⟩)
def Af56 (F : Nat) : Cuts := { F := F,at_ := fun n => match n with | 4010 => some sp40 | _ => none,join := fun n => match n with | 1022 => some [(0,.plain),(2,.plain)] | 2020 => some [(2,.plain),(3,.plain)] | 3018 => some sp43 | 4012 => some sp40 | 7003 => some [(2,.plain),(4,.plain)] | _ => none }
noncomputable abbrev XAf56 (F : Nat) {α : Type} := @aexec α VG0356 (Af56 F)
def ef56_a : Li → St := fun a0 => ⟨[(0,(.vs (.rI .u8 a0) 0 1))],[],0,19,0⟩
def ef56j1 : Li × Li → St := fun (t0,x2) => ⟨[(0,(.vs (.rI .u8 t0) 0 1)),(2,.ptr 0 0 16 0 0 0 16)],[(0,(.cells 16 (.rI .u8 x2) true))],1,19,0⟩
def ef56j2 : Li × Li → St := fun (x1,x2) => ⟨[(2,.ptr 0 0 16 0 0 0 16),(3,.ptr 1 0 32 0 0 0 32)],[(0,(.cells 16 (.rI .u8 x1) true)),(1,(.cells 32 (.rI .u8 x2) true))],2,19,0⟩
def ef56j3 : Ty0 → St := fun (x1,x2,x3) => ⟨[(2,.ptr 0 0 16 0 0 0 16),(3,.ptr 1 0 32 0 0 0 32),(4,.ptr 2 0 16 0 0 0 16)],[(0,(.cells 16 (.rI .u8 x1) true)),(1,(.cells 32 (.rI .u8 x2) true)),(2,(.cells 16 (.rI .u8 x3) true))],3,19,0⟩
def ef56j4 : Ty30 → St := fun (t5,x2,x3,x4) => ⟨[(2,.ptr 0 0 16 0 0 0 16),(3,.ptr 1 0 32 0 0 0 32),(4,.ptr 2 0 16 0 0 0 16),(5,.int .i64 t5)],[(0,(.cells 16 (.rI .u8 x2) true)),(1,(.cells 32 (.rI .u8 x3) true)),(2,(.cells 16 (.rI .u8 x4) true))],3,19,0⟩
def ef56l1 : Ty30 → St := ef56j4
def ef56j5 : Li × Li → St := fun (x1,x2) => ⟨[(2,.ptr 0 0 16 0 0 0 16),(4,.ptr 1 0 16 0 0 0 16)],[(0,(.cells 16 (.rI .u8 x1) true)),(1,(.cells 16 (.rI .u8 x2) true))],2,19,0⟩
def f56_1 (F : Nat) (kf56j1 : Li × Li → Rz) : Li → Rz := fun a0 => (kf56j1 (a0,(List.replicate 16 0)))
theorem f56_1_eq (F : Nat) (Rf56j1 : St → Rz) : ∀ v,XAf56 F (bp Tryd.f56 2) (ef56_a v) (kSeq (kc VG0356 Rf56j1 [(0,.plain),(2,.plain)]) Kf28) = f56_1 F (Rf56j1 ∘ ef56j1) v := by
 intro a0; kernel_rfl
def f56_2 (F : Nat) (kf56j2 : Li × Li → Rz) : Li × Li → Rz := fun (t0,x2) => (cond (decide (t0.length < 1073741000)) (kf56j2 (x2,(Sha.hash t0))) none)
theorem f56_2_eq (F : Nat) (Rf56j2 : St → Rz) : ∀ v,XAf56 F (bp Tryd.f56 6) (ef56j1 v) (kSeq (kc VG0356 Rf56j2 [(2,.plain),(3,.plain)]) Kf28) = f56_2 F (Rf56j2 ∘ ef56j2) v := by
 rintro ⟨t0,x2⟩; kernel_rfl
def f56_3 (F : Nat) (kf56j3 : Ty0 → Rz) : Li × Li → Rz := fun (x1,x2) => (kf56j3 (x1,x2,(List.replicate 16 0)))
theorem f56_3_eq (F : Nat) (Rf56j3 : St → Rz) : ∀ v,XAf56 F (bp Tryd.f56 14) (ef56j2 v) (kSeq (kc VG0356 Rf56j3 sp43) Kf28) = f56_3 F (Rf56j3 ∘ ef56j3) v := by
 rintro ⟨x1,x2⟩; kernel_rfl
def f56_4 (F : Nat) (kf56j4 : Ty30 → Rz) (kf56j5 : Li × Li → Rz) : Ty0 → Rz := fun (x1,x2,x3) => (kf56j4 ((0 : Int),x1,x2,x3))
theorem f56_4_eq (F : Nat) (Rf56j4 : St → Rz) (Rf56j5 : St → Rz) : ∀ v,XAf56 F (bp Tryd.f56 60) (ef56j3 v) (kSeq (kc VG0356 Rf56j4 sp40) (kSeq (kc VG0356 Rf56j5 [(2,.plain),(4,.plain)]) Kf28)) = f56_4 F (Rf56j4 ∘ ef56j4) (Rf56j5 ∘ ef56j5) v := by
 rintro ⟨x1,x2,x3⟩; kernel_rfl
def f56_5 (F : Nat) (kf56l1 : Ty30 → Rz) (kf56j5 : Li × Li → Rz) : Ty30 → Rz := fun (t5,x2,x3,x4) => (cond (decide (t5 < (16 : Int))) (cond ((decide (0 ≤ t5)) && (decide (t5 < (32 : Int)))) (cond ((decide (0 ≤ t5)) && (decide (t5 < (16 : Int)))) (kf56l1 ((IntKind.i64.wrap (t5 + (1 : Int))),x2,x3,(x4.set (Int.toNat t5) (x3.getD (Int.toNat t5) 0)))) none) none) (kf56j5 (x2,x4)))
theorem f56_5_eq (F : Nat) (Rf56l1 : St → Rz) (Rf56j5 : St → Rz) : ∀ v,XAf56 F (bp Tryd.f56 244) (ef56l1 v) (kSeq (kc VG0356 Rf56l1 sp40) (kBlock 0 (kSeq (kc VG0356 Rf56j5 [(2,.plain),(4,.plain)]) Kf28))) = f56_5 F (Rf56l1 ∘ ef56l1) (Rf56j5 ∘ ef56j5) v := by
 rintro ⟨t5,x2,x3,x4⟩; kernel_rfl
def f56_6_i : Ty30 → Int × Li × Li × Li := fun (t5,x2,x3,x4) => (t5,x2,x3,x4)
def f56_6 (F : Nat) (kf56j5 : Li × Li → Rz) : Ty30 → Rz := fun v => loopN (fun k => f56_5 F k kf56j5) F (f56_6_i v)
theorem f56_6_eq (F : Nat) (Rf56j5 : St → Rz) : ∀ v,XAf56 F (bp Tryd.f56 122) (ef56j4 v) (kBlock 0 (kSeq (kc VG0356 Rf56j5 [(2,.plain),(4,.plain)]) Kf28)) = f56_6 F (Rf56j5 ∘ ef56j5) v :=
 loop_cut (by kernel_rfl) (by kernel_rfl) ef56j4 ef56l1 _ f56_6_i (fun k => f56_5 F k (Rf56j5 ∘ ef56j5))
  (by rintro ⟨t5,x2,x3,x4⟩; kernel_rfl) (fun Rf56l1 => f56_5_eq F Rf56l1 Rf56j5)
def f56_7 (F : Nat) (kf56j5 : Li × Li → Rz) : Ty30 → Rz := f56_6 F kf56j5
theorem f56_7_eq (F : Nat) (Rf56j5 : St → Rz) : ∀ v,XAf56 F (bp Tryd.f56 61) (ef56j4 v) (kSeq (kc VG0356 Rf56j5 [(2,.plain),(4,.plain)]) Kf28) = f56_7 F (Rf56j5 ∘ ef56j5) v := fun v =>
 (block_in  (by kernel_rfl) _ _).trans (f56_6_eq F Rf56j5 v)
def f56_8 (F : Nat) (kf56j5 : Li × Li → Rz) : Ty0 → Rz := fun v => f56_4 F (f56_7 F kf56j5) kf56j5 v
theorem f56_8_eq (F : Nat) (Rf56j5 : St → Rz) : ∀ v,XAf56 F (bp Tryd.f56 30) (ef56j3 v) (kSeq (kc VG0356 Rf56j5 [(2,.plain),(4,.plain)]) Kf28) = f56_8 F (Rf56j5 ∘ ef56j5) v :=
 seq_cut (by kernel_rfl) (by kernel_rfl) ef56j3 ef56j4 _ (fun k => f56_4 F k (Rf56j5 ∘ ef56j5)) (f56_7 F (Rf56j5 ∘ ef56j5))
  (fun Rf56j4 => f56_4_eq F Rf56j4 Rf56j5) (f56_7_eq F Rf56j5)
def f56_9 (F : Nat) : Li × Li → Rz := fun (x1,x2) => (some ((.agg 16 (.rI .u8 x2)),[]))
theorem f56_9_eq (F : Nat) : ∀ v,XAf56 F (bp Tryd.f56 31) (ef56j5 v) Kf28 = f56_9 F v := by
 rintro ⟨x1,x2⟩; kernel_rfl
def f56_10 (F : Nat) : Ty0 → Rz := fun v => f56_8 F (f56_9 F) v
theorem f56_10_eq (F : Nat) : ∀ v,XAf56 F (bp Tryd.f56 15) (ef56j3 v) Kf28 = f56_10 F v :=
 seq_cut (by kernel_rfl) (by kernel_rfl) ef56j3 ef56j5 _ (fun k => f56_8 F k) (f56_9 F)
  (fun Rf56j5 => f56_8_eq F Rf56j5) (f56_9_eq F)
def f56_11 (F : Nat) : Li × Li → Rz := fun v => f56_3 F (f56_10 F) v
theorem f56_11_eq (F : Nat) : ∀ v,XAf56 F (bp Tryd.f56 7) (ef56j2 v) Kf28 = f56_11 F v :=
 seq_cut (by kernel_rfl) (by kernel_rfl) ef56j2 ef56j3 _ (fun k => f56_3 F k) (f56_10 F)
  (fun Rf56j3 => f56_3_eq F Rf56j3) (f56_10_eq F)
def f56_12 (F : Nat) : Li × Li → Rz := fun v => f56_2 F (f56_11 F) v
theorem f56_12_eq (F : Nat) : ∀ v,XAf56 F (bp Tryd.f56 3) (ef56j1 v) Kf28 = f56_12 F v :=
 seq_cut (by kernel_rfl) (by kernel_rfl) ef56j1 ef56j2 _ (fun k => f56_2 F k) (f56_11 F)
  (fun Rf56j2 => f56_2_eq F Rf56j2) (f56_11_eq F)
def f56_13 (F : Nat) : Li → Rz := fun v => f56_1 F (f56_12 F) v
theorem f56_13_eq (F : Nat) : ∀ v,XAf56 F (sub (bodyOf Tryd.f56) []) (ef56_a v) Kf28 = f56_13 F v :=
 seq_cut (by kernel_rfl) (by kernel_rfl) ef56_a ef56j1 _ (fun k => f56_1 F k) (f56_12 F)
  (fun Rf56j1 => f56_1_eq F Rf56j1) (f56_12_eq F)
def f56 (F : Nat) : Li → Rz := f56_13 F
theorem f56_body (F : Nat) (a0 : List Int) : abody VG0356 (Af56 F) Tryd.f56 [(.vs (.rI .u8 a0) 0 1)] [] = f56 F a0 :=
 (abody_in (c := (sub (bodyOf Tryd.f56) [])) (by kernel_rfl) (s := ef56_a a0) (by kernel_rfl)).trans (f56_13_eq F a0)
def r56 : CRun := fun X H => match X,H with
 | [(.vs (.rI .u8 a0) 0 1)],[] => some ((decide (a0.length < 1073741000)),(.agg 16 (.rI .u8 ((Sha.hash a0).take 16))),[])
 | _,_ => none
theorem s56 (a0 : List Int) (hp : ((decide (a0.length < 1073741000))) = true) (h0 : okV (.vs (.rI .u8 a0) 0 1)) : ∃ F,f56 F a0 = some ((.agg 16 (.rI .u8 ((Sha.hash a0).take 16))),[]) := by
 refine ⟨65,?_⟩
 have h32 := Sha.hash_len a0
 simp only [f56,f56_13,f56_1,f56_12,f56_2,f56_11,f56_3,f56_10,f56_8,f56_4,f56_7,f56_6,f56_6_i]
 rw [hp,cond_true]
 generalize Sha.hash a0 = x at *
 refine loopN_from (fun i => ((i : Int),List.replicate 16 0,x,(List.range i).map (fun i => x.getD i 0) ++ List.replicate (16 - i) 0)) 16 (by rfl) (fun i hi k => ?_) (fun k => ?_) 65 (by omega)
 ·simp only [f56_5,dec_and]
  rw [i64w (x := (i : Int) + 1) (by omega) (by omega),cond_pos (by omega),cond_pos (by omega),cond_pos (by omega),Int.toNat_natCast,fill_set _ 0 16 i hi rfl]
  rfl
 ·simp only [f56_5]
  rw [cond_neg (by omega),Nat.sub_self,List.replicate_zero,List.append_nil]
  have : (List.range 16).map (fun i => x.getD i 0) = x.take 16 := by
   refine List.ext_getElem (by simp; omega) fun i h1 h2 => ?_
   simp only [List.length_map,List.length_range] at h1
   rw [List.getElem_map,List.getElem_range,List.getElem_take,List.getD_eq_getElem?_getD,List.getElem?_eq_getElem (by omega)]; rfl
  rw [this]; rfl
theorem c56 : CallOk Tryd.prog G03 56 r56 := callOk_of (V := VG0356) mixed tys eVG0356 (f := 56) (fn := Tryd.f56) Tryd.func56 (by kernel_rfl) (c := sub (bodyOf Tryd.f56) []) (by kernel_rfl) (by
 intro X H r H' h hX hH
 unfold r56 at h; split at h <;> try contradiction
 ·simp only [Option.some.injEq,Prod.mk.injEq] at h
  obtain ⟨hp,rfl,rfl⟩ := h
  obtain ⟨F,hF⟩ := s56 _ hp (hX _ (.head _))
  exact ⟨Af56 F,(f56_body F _).trans hF⟩)
def lVG0335 : List CEnt := [(56,[some 5],r56),(57,[none,some 9],r57)]
def VG0335 : Env := mkEnv T03 G03 lVG0335
noncomputable abbrev Kf29 := kFin VG0335 none (Tryd.f35).results.toList
theorem eVG0335 : EOk Tryd.prog VG0335 := eok_mk (by exact ⟨c56,c57.more gsub,trivial⟩)
def Af35 (F : Nat) : Cuts := { F := F,at_ := fun _ => none,join := fun _ => none }
def ef35_a : Int × (List Li) → St := fun (a0,a1) => ⟨[(0,.int .i64 a0),(1,(.vs (.rS a1) 0 1))],[],0,9,0⟩
def f35_1 (F : Nat) : Int × (List Li) → Rz := fun (a0,a1) => (cond (decide ((Sha.input a0 a1).length < 1073741000)) (cond (decide ((Sha.input a0 a1).length < 1073741000)) (some ((.agg 16 (.rI .u8 ((Sha.hash (Sha.input a0 a1)).take 16))),[])) none) none)
theorem f35_1_eq (F : Nat) : ∀ v,aexec VG0335 (Af35 F) (sub (bodyOf Tryd.f35) []) (ef35_a v) Kf29 = f35_1 F v := by
 rintro ⟨a0,a1⟩; kernel_rfl
def f35 (F : Nat) : Int × (List Li) → Rz := f35_1 F
theorem f35_body (F : Nat) (a0 : Int) (a1 : List Li) : abody VG0335 (Af35 F) Tryd.f35 [(.int .i64 a0),(.vs (.rS a1) 0 1)] [] = f35 F (a0,a1) :=
 (abody_in (c := (sub (bodyOf Tryd.f35) [])) (by kernel_rfl) (s := ef35_a (a0,a1)) (by kernel_rfl)).trans (f35_1_eq F (a0,a1))
def r35 : CRun := fun X H => match X,H with
 | [(.int .i64 a0),(.vs (.rS a1) 0 1)],[] => some ((decide ((Sha.input a0 a1).length < 1073741000)),(.agg 16 (.rI .u8 (Sha.of a0 a1))),[])
 | _,_ => none
theorem s35 (a0 : Int) (a1 : List Li) (hp : ((decide ((Sha.input a0 a1).length < 1073741000))) = true) (h0 : okV (.int .i64 a0)) (h1 : okV (.vs (.rS a1) 0 1)) : ∃ F,f35 F (a0,a1) = some ((.agg 16 (.rI .u8 (Sha.of a0 a1))),[]) := by
 refine ⟨0,?_⟩
 simp only [f35,f35_1]
 rw [hp,cond_true]
 rfl
theorem c35 : CallOk Tryd.prog G03 35 r35 := callOk_of (V := VG0335) mixed tys eVG0335 (f := 35) (fn := Tryd.f35) Tryd.func35 (by kernel_rfl) (c := sub (bodyOf Tryd.f35) []) (by kernel_rfl) (by
 intro X H r H' h hX hH
 unfold r35 at h; split at h <;> try contradiction
 ·simp only [Option.some.injEq,Prod.mk.injEq] at h
  obtain ⟨hp,rfl,rfl⟩ := h
  obtain ⟨F,hF⟩ := s35 _ _ hp (hX _ (.head _)) (hX _ (.tail _ (.head _)))
  exact ⟨Af35 F,(f35_body F _ _).trans hF⟩)
end Go.Am
end
section
namespace Go.Am
open Go Go.Proofs
def lVG0263 : List CEnt := [(30,[none],r30)]
def VG0263 : Env := mkEnv T03 G02 lVG0263
noncomputable abbrev Kf30 := kFin VG0263 none (Tryd.f63).results.toList
theorem eVG0263 : EOk Tryd.prog VG0263 := eok_mk (by exact ⟨c30,trivial⟩)
def Af63 (F : Nat) : Cuts := { F := F,at_ := fun n => match n with | 3010 => some sp19 | _ => none,join := fun n => match n with | 1020 => some [(0,.plain)] | 2018 => some [(0,.plain),(3,.plain)] | 3012 => some sp19 | 6003 => some [(3,.plain)] | _ => none }
noncomputable abbrev XAf63 (F : Nat) {α : Type} := @aexec α VG0263 (Af63 F)
def ef63_a : Li → St := fun a0 => ⟨[(0,(.vs (.rI .i64 a0) 0 1))],[],0,22,0⟩
def ef63j1 : Li → St := fun t0 => ⟨[(0,(.vs (.rI .i64 t0) 0 1))],[],0,22,0⟩
def ef63j2 : Li × Li → St := fun (t0,x2) => ⟨[(0,(.vs (.rI .i64 t0) 0 1)),(3,.own 0 0 1)],[(0,(.cells x2.length (.rI .u8 x2) true))],1,22,0⟩
def ef63j3 : Ty34 → St := fun (t0,t4,x3) => ⟨[(0,(.vs (.rI .i64 t0) 0 1)),(3,.own 0 0 1),(4,.int .i64 t4)],[(0,(.cells x3.length (.rI .u8 x3) true))],1,22,0⟩
def ef63l1 : Ty34 → St := ef63j3
def ef63j4 : Li → St := fun x1 => ⟨[(3,.own 0 0 1)],[(0,(.cells x1.length (.rI .u8 x1) true))],1,22,0⟩
def f63_1 (F : Nat) (kf63j1 : Li → Rz) : Li → Rz := fun a0 => (kf63j1 a0)
theorem f63_1_eq (F : Nat) (Rf63j1 : St → Rz) : ∀ v,XAf63 F (bp Tryd.f63 2) (ef63_a v) (kSeq (kc VG0263 Rf63j1 [(0,.plain)]) Kf30) = f63_1 F (Rf63j1 ∘ ef63j1) v := by
 intro a0; kernel_rfl
def f63_2 (F : Nat) (kf63j2 : Li × Li → Rz) : Li → Rz := fun t0 => (kf63j2 (t0,(Wire.int (↑t0.length : Int))))
theorem f63_2_eq (F : Nat) (Rf63j2 : St → Rz) : ∀ v,XAf63 F (bp Tryd.f63 6) (ef63j1 v) (kSeq (kc VG0263 Rf63j2 [(0,.plain),(3,.plain)]) Kf30) = f63_2 F (Rf63j2 ∘ ef63j2) v := by
 intro t0; kernel_rfl
def f63_3 (F : Nat) (kf63j3 : Ty34 → Rz) (kf63j4 : Li → Rz) : Li × Li → Rz := fun (t0,x2) => (kf63j3 (t0,(0 : Int),x2))
theorem f63_3_eq (F : Nat) (Rf63j3 : St → Rz) (Rf63j4 : St → Rz) : ∀ v,XAf63 F (bp Tryd.f63 28) (ef63j2 v) (kSeq (kc VG0263 Rf63j3 sp19) (kSeq (kc VG0263 Rf63j4 [(3,.plain)]) Kf30)) = f63_3 F (Rf63j3 ∘ ef63j3) (Rf63j4 ∘ ef63j4) v := by
 rintro ⟨t0,x2⟩; kernel_rfl
def f63_4 (F : Nat) (kf63l1 : Ty34 → Rz) (kf63j4 : Li → Rz) : Ty34 → Rz := fun (t0,t4,x3) => (cond (decide (t4 < (↑t0.length : Int))) (cond ((decide (0 ≤ t4)) && (decide (t4 < (↑t0.length : Int)))) (cond (decide ((x3.length + (Wire.int (t0.getD (Int.toNat t4) 0)).length) < 1073741824)) (kf63l1 (t0,(IntKind.i64.wrap (t4 + (1 : Int))),(x3 ++ (Wire.int (t0.getD (Int.toNat t4) 0))))) none) none) (kf63j4 x3))
theorem f63_4_eq (F : Nat) (Rf63l1 : St → Rz) (Rf63j4 : St → Rz) : ∀ v,XAf63 F (bp Tryd.f63 116) (ef63l1 v) (kSeq (kc VG0263 Rf63l1 sp19) (kBlock 0 (kSeq (kc VG0263 Rf63j4 [(3,.plain)]) Kf30))) = f63_4 F (Rf63l1 ∘ ef63l1) (Rf63j4 ∘ ef63j4) v := by
 rintro ⟨t0,t4,x3⟩; kernel_rfl
def f63_5_i : Ty34 → Li × Int × Li := fun (t0,t4,x3) => (t0,t4,x3)
def f63_5 (F : Nat) (kf63j4 : Li → Rz) : Ty34 → Rz := fun v => loopN (fun k => f63_4 F k kf63j4) F (f63_5_i v)
theorem f63_5_eq (F : Nat) (Rf63j4 : St → Rz) : ∀ v,XAf63 F (bp Tryd.f63 58) (ef63j3 v) (kBlock 0 (kSeq (kc VG0263 Rf63j4 [(3,.plain)]) Kf30)) = f63_5 F (Rf63j4 ∘ ef63j4) v :=
 loop_cut (by kernel_rfl) (by kernel_rfl) ef63j3 ef63l1 _ f63_5_i (fun k => f63_4 F k (Rf63j4 ∘ ef63j4))
  (by rintro ⟨t0,t4,x3⟩; kernel_rfl) (fun Rf63l1 => f63_4_eq F Rf63l1 Rf63j4)
def f63_6 (F : Nat) (kf63j4 : Li → Rz) : Ty34 → Rz := f63_5 F kf63j4
theorem f63_6_eq (F : Nat) (Rf63j4 : St → Rz) : ∀ v,XAf63 F (bp Tryd.f63 29) (ef63j3 v) (kSeq (kc VG0263 Rf63j4 [(3,.plain)]) Kf30) = f63_6 F (Rf63j4 ∘ ef63j4) v := fun v =>
 (block_in  (by kernel_rfl) _ _).trans (f63_5_eq F Rf63j4 v)
def f63_7 (F : Nat) (kf63j4 : Li → Rz) : Li × Li → Rz := fun v => f63_3 F (f63_6 F kf63j4) kf63j4 v
theorem f63_7_eq (F : Nat) (Rf63j4 : St → Rz) : ∀ v,XAf63 F (bp Tryd.f63 14) (ef63j2 v) (kSeq (kc VG0263 Rf63j4 [(3,.plain)]) Kf30) = f63_7 F (Rf63j4 ∘ ef63j4) v :=
 seq_cut (by kernel_rfl) (by kernel_rfl) ef63j2 ef63j3 _ (fun k => f63_3 F k (Rf63j4 ∘ ef63j4)) (f63_6 F (Rf63j4 ∘ ef63j4))
  (fun Rf63j3 => f63_3_eq F Rf63j3 Rf63j4) (f63_6_eq F Rf63j4)
def f63_8 (F : Nat) : Li → Rz := fun x1 => (some ((.own 0 0 1),[(.cells x1.length (.rI .u8 x1) true)]))
theorem f63_8_eq (F : Nat) : ∀ v,XAf63 F (bp Tryd.f63 15) (ef63j4 v) Kf30 = f63_8 F v := by
 intro x1; kernel_rfl
def f63_9 (F : Nat) : Li × Li → Rz := fun v => f63_7 F (f63_8 F) v
theorem f63_9_eq (F : Nat) : ∀ v,XAf63 F (bp Tryd.f63 7) (ef63j2 v) Kf30 = f63_9 F v :=
 seq_cut (by kernel_rfl) (by kernel_rfl) ef63j2 ef63j4 _ (fun k => f63_7 F k) (f63_8 F)
  (fun Rf63j4 => f63_7_eq F Rf63j4) (f63_8_eq F)
def f63_10 (F : Nat) : Li → Rz := fun v => f63_2 F (f63_9 F) v
theorem f63_10_eq (F : Nat) : ∀ v,XAf63 F (bp Tryd.f63 3) (ef63j1 v) Kf30 = f63_10 F v :=
 seq_cut (by kernel_rfl) (by kernel_rfl) ef63j1 ef63j2 _ (fun k => f63_2 F k) (f63_9 F)
  (fun Rf63j2 => f63_2_eq F Rf63j2) (f63_9_eq F)
def f63_11 (F : Nat) : Li → Rz := fun v => f63_1 F (f63_10 F) v
theorem f63_11_eq (F : Nat) : ∀ v,XAf63 F (sub (bodyOf Tryd.f63) []) (ef63_a v) Kf30 = f63_11 F v :=
 seq_cut (by kernel_rfl) (by kernel_rfl) ef63_a ef63j1 _ (fun k => f63_1 F k) (f63_10 F)
  (fun Rf63j1 => f63_1_eq F Rf63j1) (f63_10_eq F)
def f63 (F : Nat) : Li → Rz := f63_11 F
theorem f63_body (F : Nat) (a0 : List Int) : abody VG0263 (Af63 F) Tryd.f63 [(.vs (.rI .i64 a0) 0 1)] [] = f63 F a0 :=
 (abody_in (c := (sub (bodyOf Tryd.f63) [])) (by kernel_rfl) (s := ef63_a a0) (by kernel_rfl)).trans (f63_11_eq F a0)
def r63 : CRun := fun X H => match X,H with
 | [(.vs (.rI .i64 a0) 0 1)],[] => some ((decide ((Wire.ints a0).length < 1073741000)),.own 0 0 1,[(.cells (Wire.ints a0).length (.rI .u8 (Wire.ints a0)) true)])
 | _,_ => none
theorem s63 (a0 : List Int) (hp : ((decide ((Wire.ints a0).length < 1073741000))) = true) (h0 : okV (.vs (.rI .i64 a0) 0 1)) : ∃ F,f63 F a0 = some ((.own 0 0 1),[(.cells (Wire.ints a0).length (.rI .u8 (Wire.ints a0)) true)]) := by
 have hl : (Wire.ints a0).length < 1073741000 := of_decide_eq_true hp
 have hl0 := h0.2
 refine ⟨a0.length + 1,?_⟩
 simp only [f63,f63_11,f63_1,f63_10,f63_2,f63_9,f63_7,f63_3,f63_6,f63_5,f63_5_i]
 refine loopN_from (fun i => (a0,(i : Int),Wire.int (a0.length : Int) ++ (a0.take i).flatMap Wire.int)) a0.length (by simp) (fun i hi k => ?_) (fun k => ?_) _ (by omega)
 ·have e1 := flatMap_take 0 Wire.int a0 i hi
  have e2 := flatMap_le Wire.int a0 (i + 1)
  rw [e1,List.length_append] at e2
  simp only [Wire.ints,List.length_append] at hl
  simp only [f63_4,dec_and,List.length_append]
  rw [Int.toNat_natCast,cond_pos (by omega),cond_pos (by omega),cond_pos (by omega),i64w (x := (i : Int) + 1) (by omega) (by omega),List.append_assoc,← e1]
  rfl
 ·simp only [f63_4]
  rw [cond_neg (by omega),List.take_length]
  rfl
theorem c63 : CallOk Tryd.prog G02 63 r63 := callOk_of (V := VG0263) mixed tys eVG0263 (f := 63) (fn := Tryd.f63) Tryd.func63 (by kernel_rfl) (c := sub (bodyOf Tryd.f63) []) (by kernel_rfl) (by
 intro X H r H' h hX hH
 unfold r63 at h; split at h <;> try contradiction
 ·simp only [Option.some.injEq,Prod.mk.injEq] at h
  obtain ⟨hp,rfl,rfl⟩ := h
  obtain ⟨F,hF⟩ := s63 _ hp (hX _ (.head _))
  exact ⟨Af63 F,(f63_body F _).trans hF⟩)
end Go.Am
end