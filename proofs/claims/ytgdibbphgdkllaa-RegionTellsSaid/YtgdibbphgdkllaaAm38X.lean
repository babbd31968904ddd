/- Part of a proof about the functions of the given program. -/
import Derived.Test.YtgdibbphgdkllaaAm38V
import Derived.Test.YtgdibbphgdkllaaProg
import Derived.Test.YtgdibbphgdkllaaAm38W
set_option linter.unusedSimpArgs false
set_option linter.unusedVariables false
section
/- The numbers at which the kit's contracts of maps.Keys, slices.Sorted and slices.Sort hold in this program (printed by laykeys.py). -/
namespace Go.Proofs
open Go.RowKit Go.Maps Go.Sort Go.Shelf
def Try.sortA_ren : Go.Shelf.Ren := ⟨fun | 5 => 50 | 8 => 62 | 7 => 61 | 19 => 79 | 20 => 80 | 10 => 70 | 11 => 71 | 12 => 72 | 13 => 73 | 14 => 74 | 15 => 75 | 16 => 76 | 17 => 77 | 18 => 78 | 30 => 84 | 31 => 85 | 32 => 86 | 33 => 87 | 34 => 88 | 35 => 89 | 40 => 92 | n => n, fun | 23 => 22 | 25 => 3 | 3 => 3 | 32 => 79 | 22 => 22 | 0 => 0 | 44 => 100 | 46 => 102 | 4 => 4 | 36 => 94 | 35 => 93 | 41 => 82 | 5 => 5 | 9 => 9 | 53 => 103 | 57 => 107 | 63 => 110 | 64 => 111 | n => n, fun | n => n⟩
theorem Try.sortA : Go.Proofs.SlLaysM.n5 Try.prog Try.sortA_ren := {
  mixed := by kernel_rfl,
  f5 := ⟨Try.f50.name, by decide, Try.func50.trans (congrArg some (by kernel_rfl))⟩,
  f7 := ⟨Try.f61.name, by decide, Try.func61.trans (congrArg some (by kernel_rfl))⟩,
  f8 := Try.func62.trans (congrArg some (by kernel_rfl)),
  f10 := ⟨Try.f70.name, by decide, Try.func70.trans (congrArg some (by kernel_rfl))⟩,
  f11 := ⟨Try.f71.name, by decide, Try.func71.trans (congrArg some (by kernel_rfl))⟩,
  f12 := ⟨Try.f72.name, by decide, Try.func72.trans (congrArg some (by kernel_rfl))⟩,
  f13 := ⟨Try.f73.name, by decide, Try.func73.trans (congrArg some (by kernel_rfl))⟩,
  f14 := ⟨Try.f74.name, by decide, Try.func74.trans (congrArg some (by kernel_rfl))⟩,
  f15 := ⟨Try.f75.name, by decide, Try.func75.trans (congrArg some (by kernel_rfl))⟩,
  f16 := ⟨Try.f76.name, by decide, Try.func76.trans (congrArg some (by kernel_rfl))⟩,
  f17 := ⟨Try.f77.name, by decide, Try.func77.trans (congrArg some (by kernel_rfl))⟩,
  f18 := ⟨Try.f78.name, by decide, Try.func78.trans (congrArg some (by kernel_rfl))⟩,
  f19 := Try.func79.trans (congrArg some (by kernel_rfl)),
  f20 := Try.func80.trans (congrArg some (by kernel_rfl)),
  f30 := ⟨Try.f84.name, by decide, Try.func84.trans (congrArg some (by kernel_rfl))⟩,
  f31 := Try.func85.trans (congrArg some (by kernel_rfl)),
  f32 := Try.func86.trans (congrArg some (by kernel_rfl)),
  f33 := ⟨Try.f87.name, by decide, Try.func87.trans (congrArg some (by kernel_rfl))⟩,
  f34 := ⟨Try.f88.name, by decide, Try.func88.trans (congrArg some (by kernel_rfl))⟩,
  f35 := ⟨Try.f89.name, by decide, Try.func89.trans (congrArg some (by kernel_rfl))⟩,
  f40 := ⟨Try.f92.name, by decide, Try.func92.trans (congrArg some (by kernel_rfl))⟩,
  t0 := Try.underlying0,
  a0 := Try.isAgg0,
  z0 := Try.sizeOf0,
  v0 := Try.zeroValue0,
  t3 := Try.underlying3,
  a3 := Try.isAgg3,
  z3 := Try.sizeOf3,
  v3 := Try.zeroValue3,
  t4 := Try.underlying4,
  a4 := Try.isAgg4,
  z4 := Try.sizeOf4,
  v4 := Try.zeroValue4,
  t5 := Try.underlying5,
  a5 := Try.isAgg5,
  z5 := Try.sizeOf5,
  v5 := Try.zeroValue5,
  t9 := Try.underlying9,
  a9 := Try.isAgg9,
  z9 := Try.sizeOf9,
  v9 := Try.zeroValue9,
  t22 := Try.underlying22,
  a22 := Try.isAgg22,
  z22 := Try.sizeOf22,
  v22 := Try.zeroValue22,
  t23 := Try.underlying22,
  a23 := Try.isAgg22,
  z23 := Try.sizeOf22,
  v23 := Try.zeroValue22,
  t25 := Try.underlying3,
  a25 := Try.isAgg3,
  z25 := Try.sizeOf3,
  v25 := Try.zeroValue3,
  t32 := Try.underlying79,
  a32 := Try.isAgg79,
  z32 := Try.sizeOf79,
  v32 := Try.zeroValue79,
  t35 := Try.underlying93,
  a35 := Try.isAgg93,
  z35 := Try.sizeOf93,
  v35 := Try.zeroValue93,
  t36 := Try.underlying94,
  a36 := Try.isAgg94,
  z36 := Try.sizeOf94,
  v36 := Try.zeroValue94,
  t41 := Try.underlying82,
  a41 := Try.isAgg82,
  z41 := Try.sizeOf82,
  v41 := Try.zeroValue82,
  t44 := Try.underlying100,
  a44 := Try.isAgg100,
  z44 := Try.sizeOf100,
  v44 := Try.zeroValue100,
  t46 := Try.underlying102,
  a46 := Try.isAgg102,
  z46 := Try.sizeOf102,
  v46 := Try.zeroValue102,
  t53 := Try.underlying103,
  a53 := Try.isAgg103,
  z53 := Try.sizeOf103,
  v53 := Try.zeroValue103,
  t57 := Try.underlying107,
  a57 := Try.isAgg107,
  z57 := Try.sizeOf107,
  v57 := Try.zeroValue107,
  t63 := Try.underlying110,
  a63 := Try.isAgg110,
  z63 := Try.sizeOf110,
  v63 := Try.zeroValue110,
  t64 := Try.underlying111,
  a64 := Try.isAgg111,
  z64 := Try.sizeOf111,
  v64 := Try.zeroValue111 }
end Go.Proofs
end
section
namespace Go.Am
open Go Go.Proofs
abbrev sp60 : List (Nat × Md) := [(0,.plain),(3,.plain),(4,.plain),(5,.plain)]
abbrev sp61 : List (Nat × Md) := [(0,.plain),(3,.plain),(25,.plain)]
abbrev sp62 : List (Nat × Md) := [(0,.plain),(3,.plain),(4,.plain)]
abbrev sp63 : List (Nat × Md) := [(1,.plain),(5,.own 2),(8,.plain),(9,.plain),(10,.plain)]
abbrev sp64 : List (Nat × Md) := [(1,.plain),(5,.plain),(8,.plain),(9,.plain),(10,.plain)]
abbrev sp65 : List (Nat × Md) := [(0,.plain),(1,.plain),(5,.own 3),(6,.plain)]
abbrev sp66 : List (Nat × Md) := [(0,.plain),(1,.plain),(5,.own 3),(6,.plain),(7,.plain),(8,.plain)]
abbrev sp67 : List (Nat × Md) := [(0,.plain),(1,.plain),(5,.own 3)]
abbrev sp68 : List (Nat × Md) := [(0,.plain),(1,.plain),(5,.own 3),(6,.plain),(7,.plain)]
abbrev Ty87 := Int × Nat × Nat × Nat × (List Int)
abbrev Ty88 := Int × Nat × Nat × Nat × Int × (List Int)
abbrev Ty89 := Int × Nat × Nat × Nat × Int × (List Int) × Nat
abbrev Ty90 := (List Int) × (List Int) × Int × Int × (List Int)
abbrev Ty91 := (List Int) × (List Int) × Int × (List Int)
abbrev Ty92 := (List Int) × (List Int) × Int × Int × Int × (List Int)
def r50 : CRun := runSort
theorem c50 : CallOk Try.prog G38 50 r50 := sort_ok Try.sortA
def lVG3851 : List CEnt := []
def VG3851 : Env := mkEnv T38 G38 lVG3851
theorem eVG3851 : EOk Try.prog VG3851 := eok_mk (by exact trivial)
def Af51 (F : Nat) : Cuts := { F := F,at_ := fun n => match n with | 4041 => some [(0,.plain),(3,.plain)] | 9016 => some sp60 | _ => none,join := fun n => match n with | 1057 => some [(0,.plain)] | 3049 => some [(0,.plain)] | 4043 => some [(0,.plain),(3,.plain)] | 5001 => some [(0,.plain),(3,.plain)] | 6035 => some [(0,.plain),(3,.plain)] | 7030 => some sp61 | 8026 => some sp62 | 9018 => some sp60 | 14005 => some [(0,.plain),(3,.plain)] | 16003 => some [(0,.plain)] | _ => none,fin := (some [(2,(.view 3))]) }
def ef51_a : (List Int) → St := fun a0 => { tmps := [(0,(.own 0 0 1))],heap := [(0,(.cells a0.length (.rI .i64 a0) true))],next := 1,nt := 61,m := 1 }
def ef51j1 : (List Int) → St := fun x1 => { tmps := [(0,(.own 0 0 1))],heap := [(0,(.cells x1.length (.rI .i64 x1) true))],next := 1,nt := 61,m := 1 }
def ef51j2 : (List Int) → St := fun x1 => { tmps := [(0,(.own 0 0 1))],heap := [(0,(.cells x1.length (.rI .i64 x1) true))],next := 1,nt := 61,m := 1 }
def ef51j3 : Int × (List Int) → St := fun (t3,x2) => { tmps := [(0,(.own 0 0 1)),(3,(.int .i64 t3))],heap := [(0,(.cells x2.length (.rI .i64 x2) true))],next := 1,nt := 61,m := 1 }
def ef51l1 : Int × (List Int) → St := fun (t3,x2) => { tmps := [(0,(.own 0 0 1)),(3,(.int .i64 t3))],heap := [(0,(.cells x2.length (.rI .i64 x2) true))],next := 1,nt := 61,m := 1 }
def ef51j4 : Int × (List Int) → St := fun (t3,x2) => { tmps := [(0,(.own 0 0 1)),(3,(.int .i64 t3))],heap := [(0,(.cells x2.length (.rI .i64 x2) true))],next := 1,nt := 61,m := 1 }
def ef51j5 : Int × Bool × (List Int) → St := fun (t3,t25,x3) => { tmps := [(0,(.own 0 0 1)),(3,(.int .i64 t3)),(25,(.bool t25))],heap := [(0,(.cells x3.length (.rI .i64 x3) true))],next := 1,nt := 61,m := 1 }
def ef51j6 : Ty87 → St := fun (t3,x2,x3,x4,x5) => { tmps := [(0,(.own 0 0 1)),(3,(.int .i64 t3)),(4,(.sl 0 0 x2 x3 x4 1))],heap := [(0,(.cells x5.length (.rI .i64 x5) true))],next := 1,nt := 61,m := 1 }
def ef51j7 : Ty88 → St := fun (t3,x2,x3,x4,t5,x6) => { tmps := [(0,(.own 0 0 1)),(3,(.int .i64 t3)),(4,(.sl 0 0 x2 x3 x4 1)),(5,(.int .i64 t5))],heap := [(0,(.cells x6.length (.rI .i64 x6) true))],next := 1,nt := 61,m := 1 }
def ef51l2 : Ty89 → St := fun (t3,x2,x3,x4,t5,x6,x7) => { tmps := [(0,(.own 0 0 1)),(3,(.int .i64 t3)),(4,(.sl 0 0 x2 x3 x4 1)),(5,(.int .i64 t5))],heap := [(0,(.cells x7 (.rI .i64 x6) true))],next := 1,nt := 61,m := 1 }
def ef51j8 : Int × (List Int) × Nat → St := fun (t3,x2,x3) => { tmps := [(0,(.own 0 0 1)),(3,(.int .i64 t3))],heap := [(0,(.cells x3 (.rI .i64 x2) true))],next := 1,nt := 61,m := 1 }
def ef51j9 : Int × (List Int) → St := fun (t3,x2) => { tmps := [(0,(.own 0 0 1)),(3,(.int .i64 t3))],heap := [(0,(.cells x2.length (.rI .i64 x2) true))],next := 1,nt := 61,m := 1 }
def ef51j10 : (List Int) → St := fun x1 => { tmps := [(0,(.own 0 0 1))],heap := [(0,(.cells x1.length (.rI .i64 x1) true))],next := 1,nt := 61,m := 1 }
def f51_1 (F : Nat) (kf51j1 : (List Int) → Rz) : (List Int) → Rz := fun a0 => (kf51j1 a0)
theorem f51_1_eq (F : Nat) (Rf51j1 : St → Rz) : ∀ v,aexec VG3851 (Af51 F) (bp Try.f51 2) (ef51_a v) (kSeq (kc VG3851 Rf51j1 [(0,.plain)]) (kFin VG3851 (some [(2,(.view 3))]) (Try.f51).results.toList)) = f51_1 F (Rf51j1 ∘ ef51j1) v := by
  intro a0; kernel_rfl
def f51_2 (F : Nat) (kf51j2 : (List Int) → Rz) : (List Int) → Rz := fun x1 => (cond (decide ((↑x1.length : Int) < (2 : Int))) (some ((.vs (.rI .i64 x1) 0 1),[(.cells x1.length (.rI .i64 x1) false)])) (kf51j2 x1))
theorem f51_2_eq (F : Nat) (Rf51j2 : St → Rz) : ∀ v,aexec VG3851 (Af51 F) (bp Try.f51 6) (ef51j1 v) (kSeq (kc VG3851 Rf51j2 [(0,.plain)]) (kFin VG3851 (some [(2,(.view 3))]) (Try.f51).results.toList)) = f51_2 F (Rf51j2 ∘ ef51j2) v := by
  intro x1; kernel_rfl
def f51_3 (F : Nat) (kf51j3 : Int × (List Int) → Rz) (kf51j10 : (List Int) → Rz) : (List Int) → Rz := fun x1 => (kf51j3 ((1 : Int),x1))
theorem f51_3_eq (F : Nat) (Rf51j3 : St → Rz) (Rf51j10 : St → Rz) : ∀ v,aexec VG3851 (Af51 F) (bp Try.f51 28) (ef51j2 v) (kSeq (kc VG3851 Rf51j3 [(0,.plain),(3,.plain)]) (kSeq (kc VG3851 Rf51j10 [(0,.plain)]) (kFin VG3851 (some [(2,(.view 3))]) (Try.f51).results.toList))) = f51_3 F (Rf51j3 ∘ ef51j3) (Rf51j10 ∘ ef51j10) v := by
  intro x1; kernel_rfl
def f51_4 (F : Nat) (kf51j4 : Int × (List Int) → Rz) (kf51l1 : Int × (List Int) → Rz) (kf51j10 : (List Int) → Rz) : Int × (List Int) → Rz := fun (t3,x2) => (cond (decide (t3 < (↑x2.length : Int))) (kf51j4 (t3,x2)) (kf51j10 x2))
theorem f51_4_eq (F : Nat) (Rf51j4 : St → Rz) (Rf51l1 : St → Rz) (Rf51j10 : St → Rz) : ∀ v,aexec VG3851 (Af51 F) (bp Try.f51 232) (ef51l1 v) (kSeq (kc VG3851 Rf51j4 [(0,.plain),(3,.plain)]) (kSeq (kc VG3851 Rf51l1 [(0,.plain),(3,.plain)]) (kBlock 0 (kSeq (kc VG3851 Rf51j10 [(0,.plain)]) (kFin VG3851 (some [(2,(.view 3))]) (Try.f51).results.toList))))) = f51_4 F (Rf51j4 ∘ ef51j4) (Rf51l1 ∘ ef51l1) (Rf51j10 ∘ ef51j10) v := by
  rintro ⟨t3,x2⟩; kernel_rfl
def f51_5 (F : Nat) (kf51j5 : Int × Bool × (List Int) → Rz) (kf51j9 : Int × (List Int) → Rz) (kf51l1 : Int × (List Int) → Rz) (kf51j10 : (List Int) → Rz) : Int × (List Int) → Rz := fun (t3,x2) => (cond ((decide (0 ≤ t3)) && (decide (t3 < (↑x2.length : Int)))) (cond ((decide (0 ≤ (IntKind.i64.wrap (t3 - (1 : Int))))) && (decide ((IntKind.i64.wrap (t3 - (1 : Int))) < (↑x2.length : Int)))) (kf51j5 (t3,((x2.getD (Int.toNat t3) 0) == (x2.getD (Int.toNat (IntKind.i64.wrap (t3 - (1 : Int)))) 0)),x2)) none) none)
theorem f51_5_eq (F : Nat) (Rf51j5 : St → Rz) (Rf51j9 : St → Rz) (Rf51l1 : St → Rz) (Rf51j10 : St → Rz) : ∀ v,aexec VG3851 (Af51 F) (bp Try.f51 1864) (ef51j4 v) (kSeq (kc VG3851 Rf51j5 sp61) (kBlock 1 (kSeq (kc VG3851 Rf51j9 [(0,.plain),(3,.plain)]) (kSeq (kc VG3851 Rf51l1 [(0,.plain),(3,.plain)]) (kBlock 0 (kSeq (kc VG3851 Rf51j10 [(0,.plain)]) (kFin VG3851 (some [(2,(.view 3))]) (Try.f51).results.toList))))))) = f51_5 F (Rf51j5 ∘ ef51j5) (Rf51j9 ∘ ef51j9) (Rf51l1 ∘ ef51l1) (Rf51j10 ∘ ef51j10) v := by
  rintro ⟨t3,x2⟩; kernel_rfl
def f51_6 (F : Nat) (kf51j6 : Ty87 → Rz) (kf51j9 : Int × (List Int) → Rz) (kf51l1 : Int × (List Int) → Rz) (kf51j10 : (List Int) → Rz) : Int × Bool × (List Int) → Rz := fun (t3,t25,x3) => (cond (((decide (0 ≤ t3)) && (decide (t3 ≤ (↑x3.length : Int)))) && (decide ((↑x3.length : Int) ≤ (↑x3.length : Int)))) (kf51j6 (t3,x3.length,(Int.toNat t3),(x3.length - (Int.toNat t3)),x3)) none)
theorem f51_6_eq (F : Nat) (Rf51j6 : St → Rz) (Rf51j9 : St → Rz) (Rf51l1 : St → Rz) (Rf51j10 : St → Rz) : ∀ v,aexec VG3851 (Af51 F) (bp Try.f51 7460) (ef51j5 v) (kSeq (kc VG3851 Rf51j6 sp62) (kBlock 1 (kSeq (kc VG3851 Rf51j9 [(0,.plain),(3,.plain)]) (kSeq (kc VG3851 Rf51l1 [(0,.plain),(3,.plain)]) (kBlock 0 (kSeq (kc VG3851 Rf51j10 [(0,.plain)]) (kFin VG3851 (some [(2,(.view 3))]) (Try.f51).results.toList))))))) = f51_6 F (Rf51j6 ∘ ef51j6) (Rf51j9 ∘ ef51j9) (Rf51l1 ∘ ef51l1) (Rf51j10 ∘ ef51j10) v := by
  rintro ⟨t3,t25,x3⟩; kernel_rfl
def f51_7 (F : Nat) (kf51j7 : Ty88 → Rz) (kf51j8 : Int × (List Int) × Nat → Rz) (kf51j9 : Int × (List Int) → Rz) (kf51l1 : Int × (List Int) → Rz) (kf51j10 : (List Int) → Rz) : Ty87 → Rz := fun (t3,x2,x3,x4,x5) => (kf51j7 (t3,x2,x3,x4,(1 : Int),x5))
theorem f51_7_eq (F : Nat) (Rf51j7 : St → Rz) (Rf51j8 : St → Rz) (Rf51j9 : St → Rz) (Rf51l1 : St → Rz) (Rf51j10 : St → Rz) : ∀ v,aexec VG3851 (Af51 F) (bp Try.f51 29844) (ef51j6 v) (kSeq (kc VG3851 Rf51j7 sp60) (kSeq (kc VG3851 Rf51j8 [(0,.plain),(3,.plain)]) (kBlock 1 (kSeq (kc VG3851 Rf51j9 [(0,.plain),(3,.plain)]) (kSeq (kc VG3851 Rf51l1 [(0,.plain),(3,.plain)]) (kBlock 0 (kSeq (kc VG3851 Rf51j10 [(0,.plain)]) (kFin VG3851 (some [(2,(.view 3))]) (Try.f51).results.toList)))))))) = f51_7 F (Rf51j7 ∘ ef51j7) (Rf51j8 ∘ ef51j8) (Rf51j9 ∘ ef51j9) (Rf51l1 ∘ ef51l1) (Rf51j10 ∘ ef51j10) v := by
  rintro ⟨t3,x2,x3,x4,x5⟩; kernel_rfl
def f51_8 (F : Nat) (kf51l2 : Ty89 → Rz) (kf51j8 : Int × (List Int) × Nat → Rz) (kf51j9 : Int × (List Int) → Rz) (kf51l1 : Int × (List Int) → Rz) (kf51j10 : (List Int) → Rz) : Ty89 → Rz := fun (t3,x2,x3,x4,t5,x6,x7) => (cond (decide (t5 < (↑x4 : Int))) (cond ((decide (0 ≤ t5)) && (decide (t5 < (↑x4 : Int)))) (cond ((decide (0 ≤ (IntKind.i64.wrap (t5 - (1 : Int))))) && (decide ((IntKind.i64.wrap (t5 - (1 : Int))) < (↑x4 : Int)))) (cond ((x6.getD ((Int.toNat t5) + x3) 0) != (x6.getD ((Int.toNat (IntKind.i64.wrap (t5 - (1 : Int)))) + x3) 0)) (cond ((decide (0 ≤ t5)) && (decide (t5 < (↑x4 : Int)))) (cond ((decide (0 ≤ t3)) && (decide (t3 < (↑x6.length : Int)))) (kf51l2 ((IntKind.i64.wrap (t3 + (1 : Int))),x2,x3,x4,(IntKind.i64.wrap (t5 + (1 : Int))),(x6.set (Int.toNat t3) (x6.getD ((Int.toNat t5) + x3) 0)),x7)) none) none) (kf51l2 (t3,x2,x3,x4,(IntKind.i64.wrap (t5 + (1 : Int))),x6,x7))) none) none) (kf51j8 (t3,x6,x7)))
theorem f51_8_eq (F : Nat) (Rf51l2 : St → Rz) (Rf51j8 : St → Rz) (Rf51j9 : St → Rz) (Rf51l1 : St → Rz) (Rf51j10 : St → Rz) : ∀ v,aexec VG3851 (Af51 F) (bp Try.f51 119380) (ef51l2 v) (kSeq (kc VG3851 Rf51l2 sp60) (kBlock 2 (kSeq (kc VG3851 Rf51j8 [(0,.plain),(3,.plain)]) (kBlock 1 (kSeq (kc VG3851 Rf51j9 [(0,.plain),(3,.plain)]) (kSeq (kc VG3851 Rf51l1 [(0,.plain),(3,.plain)]) (kBlock 0 (kSeq (kc VG3851 Rf51j10 [(0,.plain)]) (kFin VG3851 (some [(2,(.view 3))]) (Try.f51).results.toList))))))))) = f51_8 F (Rf51l2 ∘ ef51l2) (Rf51j8 ∘ ef51j8) (Rf51j9 ∘ ef51j9) (Rf51l1 ∘ ef51l1) (Rf51j10 ∘ ef51j10) v := by
  rintro ⟨t3,x2,x3,x4,t5,x6,x7⟩; kernel_rfl
def f51_9_i : Ty88 → Int × Nat × Nat × Nat × Int × (List Int) × Nat := fun (t3,x2,x3,x4,t5,x6) => (t3,x2,x3,x4,t5,x6,x6.length)
def f51_9 (F : Nat) (kf51j8 : Int × (List Int) × Nat → Rz) (kf51j9 : Int × (List Int) → Rz) (kf51l1 : Int × (List Int) → Rz) (kf51j10 : (List Int) → Rz) : Ty88 → Rz := fun v => loopN (fun k => f51_8 F k kf51j8 kf51j9 kf51l1 kf51j10) F (f51_9_i v)
theorem f51_9_eq (F : Nat) (Rf51j8 : St → Rz) (Rf51j9 : St → Rz) (Rf51l1 : St → Rz) (Rf51j10 : St → Rz) : ∀ v,aexec VG3851 (Af51 F) (bp Try.f51 59690) (ef51j7 v) (kBlock 2 (kSeq (kc VG3851 Rf51j8 [(0,.plain),(3,.plain)]) (kBlock 1 (kSeq (kc VG3851 Rf51j9 [(0,.plain),(3,.plain)]) (kSeq (kc VG3851 Rf51l1 [(0,.plain),(3,.plain)]) (kBlock 0 (kSeq (kc VG3851 Rf51j10 [(0,.plain)]) (kFin VG3851 (some [(2,(.view 3))]) (Try.f51).results.toList)))))))) = f51_9 F (Rf51j8 ∘ ef51j8) (Rf51j9 ∘ ef51j9) (Rf51l1 ∘ ef51l1) (Rf51j10 ∘ ef51j10) v :=
  loop_cut (by kernel_rfl) (by kernel_rfl) ef51j7 ef51l2 _ f51_9_i (fun k => f51_8 F k (Rf51j8 ∘ ef51j8) (Rf51j9 ∘ ef51j9) (Rf51l1 ∘ ef51l1) (Rf51j10 ∘ ef51j10))
    (by rintro ⟨t3,x2,x3,x4,t5,x6⟩; kernel_rfl) (fun Rf51l2 => f51_8_eq F Rf51l2 Rf51j8 Rf51j9 Rf51l1 Rf51j10)
def f51_10 (F : Nat) (kf51j8 : Int × (List Int) × Nat → Rz) (kf51j9 : Int × (List Int) → Rz) (kf51l1 : Int × (List Int) → Rz) (kf51j10 : (List Int) → Rz) : Ty88 → Rz := f51_9 F kf51j8 kf51j9 kf51l1 kf51j10
theorem f51_10_eq (F : Nat) (Rf51j8 : St → Rz) (Rf51j9 : St → Rz) (Rf51l1 : St → Rz) (Rf51j10 : St → Rz) : ∀ v,aexec VG3851 (Af51 F) (bp Try.f51 29845) (ef51j7 v) (kSeq (kc VG3851 Rf51j8 [(0,.plain),(3,.plain)]) (kBlock 1 (kSeq (kc VG3851 Rf51j9 [(0,.plain),(3,.plain)]) (kSeq (kc VG3851 Rf51l1 [(0,.plain),(3,.plain)]) (kBlock 0 (kSeq (kc VG3851 Rf51j10 [(0,.plain)]) (kFin VG3851 (some [(2,(.view 3))]) (Try.f51).results.toList))))))) = f51_10 F (Rf51j8 ∘ ef51j8) (Rf51j9 ∘ ef51j9) (Rf51l1 ∘ ef51l1) (Rf51j10 ∘ ef51j10) v := fun v =>
  (block_in  (by kernel_rfl) _ _).trans (f51_9_eq F Rf51j8 Rf51j9 Rf51l1 Rf51j10 v)
def f51_11 (F : Nat) (kf51j8 : Int × (List Int) × Nat → Rz) (kf51j9 : Int × (List Int) → Rz) (kf51l1 : Int × (List Int) → Rz) (kf51j10 : (List Int) → Rz) : Ty87 → Rz := fun v => f51_7 F (f51_10 F kf51j8 kf51j9 kf51l1 kf51j10) kf51j8 kf51j9 kf51l1 kf51j10 v
theorem f51_11_eq (F : Nat) (Rf51j8 : St → Rz) (Rf51j9 : St → Rz) (Rf51l1 : St → Rz) (Rf51j10 : St → Rz) : ∀ v,aexec VG3851 (Af51 F) (bp Try.f51 14922) (ef51j6 v) (kSeq (kc VG3851 Rf51j8 [(0,.plain),(3,.plain)]) (kBlock 1 (kSeq (kc VG3851 Rf51j9 [(0,.plain),(3,.plain)]) (kSeq (kc VG3851 Rf51l1 [(0,.plain),(3,.plain)]) (kBlock 0 (kSeq (kc VG3851 Rf51j10 [(0,.plain)]) (kFin VG3851 (some [(2,(.view 3))]) (Try.f51).results.toList))))))) = f51_11 F (Rf51j8 ∘ ef51j8) (Rf51j9 ∘ ef51j9) (Rf51l1 ∘ ef51l1) (Rf51j10 ∘ ef51j10) v :=
  seq_cut (by kernel_rfl) (by kernel_rfl) ef51j6 ef51j7 _ (fun k => f51_7 F k (Rf51j8 ∘ ef51j8) (Rf51j9 ∘ ef51j9) (Rf51l1 ∘ ef51l1) (Rf51j10 ∘ ef51j10)) (f51_10 F (Rf51j8 ∘ ef51j8) (Rf51j9 ∘ ef51j9) (Rf51l1 ∘ ef51l1) (Rf51j10 ∘ ef51j10))
    (fun Rf51j7 => f51_7_eq F Rf51j7 Rf51j8 Rf51j9 Rf51l1 Rf51j10) (f51_10_eq F Rf51j8 Rf51j9 Rf51l1 Rf51j10)
def f51_12 (F : Nat) (kf51j9 : Int × (List Int) → Rz) (kf51l1 : Int × (List Int) → Rz) (kf51j10 : (List Int) → Rz) : Int × (List Int) × Nat → Rz := fun (t3,x2,x3) => (cond (((decide (0 ≤ t3)) && (decide (t3 ≤ (↑x2.length : Int)))) && (decide ((↑x2.length : Int) ≤ (↑x2.length : Int)))) (cond ((decide ((0 : Int) ≤ t3)) && (decide (t3 ≤ (↑(x2.take (Int.toNat t3) ++ ((List.replicate (x2.length - (Int.toNat t3)) 0).take (min (x2.length - (Int.toNat t3)) (x2.length - (Int.toNat t3)))) ++ x2.drop ((Int.toNat t3) + (min (x2.length - (Int.toNat t3)) (x2.length - (Int.toNat t3))))).length : Int)))) (some ((.vs (.rI .i64 ((x2.take (Int.toNat t3) ++ ((List.replicate (x2.length - (Int.toNat t3)) 0).take (min (x2.length - (Int.toNat t3)) (x2.length - (Int.toNat t3)))) ++ x2.drop ((Int.toNat t3) + (min (x2.length - (Int.toNat t3)) (x2.length - (Int.toNat t3))))).take (Int.toNat t3))) 0 1),[(.cells x3 (.rI .i64 (x2.take (Int.toNat t3) ++ ((List.replicate (x2.length - (Int.toNat t3)) 0).take (min (x2.length - (Int.toNat t3)) (x2.length - (Int.toNat t3)))) ++ x2.drop ((Int.toNat t3) + (min (x2.length - (Int.toNat t3)) (x2.length - (Int.toNat t3)))))) false)])) none) none)
theorem f51_12_eq (F : Nat) (Rf51j9 : St → Rz) (Rf51l1 : St → Rz) (Rf51j10 : St → Rz) : ∀ v,aexec VG3851 (Af51 F) (bp Try.f51 14923) (ef51j8 v) (kBlock 1 (kSeq (kc VG3851 Rf51j9 [(0,.plain),(3,.plain)]) (kSeq (kc VG3851 Rf51l1 [(0,.plain),(3,.plain)]) (kBlock 0 (kSeq (kc VG3851 Rf51j10 [(0,.plain)]) (kFin VG3851 (some [(2,(.view 3))]) (Try.f51).results.toList)))))) = f51_12 F (Rf51j9 ∘ ef51j9) (Rf51l1 ∘ ef51l1) (Rf51j10 ∘ ef51j10) v := by
  rintro ⟨t3,x2,x3⟩; kernel_rfl
def f51_13 (F : Nat) (kf51j9 : Int × (List Int) → Rz) (kf51l1 : Int × (List Int) → Rz) (kf51j10 : (List Int) → Rz) : Ty87 → Rz := fun v => f51_11 F (f51_12 F kf51j9 kf51l1 kf51j10) kf51j9 kf51l1 kf51j10 v
theorem f51_13_eq (F : Nat) (Rf51j9 : St → Rz) (Rf51l1 : St → Rz) (Rf51j10 : St → Rz) : ∀ v,aexec VG3851 (Af51 F) (bp Try.f51 7461) (ef51j6 v) (kBlock 1 (kSeq (kc VG3851 Rf51j9 [(0,.plain),(3,.plain)]) (kSeq (kc VG3851 Rf51l1 [(0,.plain),(3,.plain)]) (kBlock 0 (kSeq (kc VG3851 Rf51j10 [(0,.plain)]) (kFin VG3851 (some [(2,(.view 3))]) (Try.f51).results.toList)))))) = f51_13 F (Rf51j9 ∘ ef51j9) (Rf51l1 ∘ ef51l1) (Rf51j10 ∘ ef51j10) v :=
  seq_cut (by kernel_rfl) (by kernel_rfl) ef51j6 ef51j8 _ (fun k => f51_11 F k (Rf51j9 ∘ ef51j9) (Rf51l1 ∘ ef51l1) (Rf51j10 ∘ ef51j10)) (f51_12 F (Rf51j9 ∘ ef51j9) (Rf51l1 ∘ ef51l1) (Rf51j10 ∘ ef51j10))
    (fun Rf51j8 => f51_11_eq F Rf51j8 Rf51j9 Rf51l1 Rf51j10) (f51_12_eq F Rf51j9 Rf51l1 Rf51j10)
def f51_14 (F : Nat) (kf51j9 : Int × (List Int) → Rz) (kf51l1 : Int × (List Int) → Rz) (kf51j10 : (List Int) → Rz) : Int × Bool × (List Int) → Rz := fun v => f51_6 F (f51_13 F kf51j9 kf51l1 kf51j10) kf51j9 kf51l1 kf51j10 v
theorem f51_14_eq (F : Nat) (Rf51j9 : St → Rz) (Rf51l1 : St → Rz) (Rf51j10 : St → Rz) : ∀ v,aexec VG3851 (Af51 F) (bp Try.f51 3730) (ef51j5 v) (kBlock 1 (kSeq (kc VG3851 Rf51j9 [(0,.plain),(3,.plain)]) (kSeq (kc VG3851 Rf51l1 [(0,.plain),(3,.plain)]) (kBlock 0 (kSeq (kc VG3851 Rf51j10 [(0,.plain)]) (kFin VG3851 (some [(2,(.view 3))]) (Try.f51).results.toList)))))) = f51_14 F (Rf51j9 ∘ ef51j9) (Rf51l1 ∘ ef51l1) (Rf51j10 ∘ ef51j10) v :=
  seq_cut (by kernel_rfl) (by kernel_rfl) ef51j5 ef51j6 _ (fun k => f51_6 F k (Rf51j9 ∘ ef51j9) (Rf51l1 ∘ ef51l1) (Rf51j10 ∘ ef51j10)) (f51_13 F (Rf51j9 ∘ ef51j9) (Rf51l1 ∘ ef51l1) (Rf51j10 ∘ ef51j10))
    (fun Rf51j6 => f51_6_eq F Rf51j6 Rf51j9 Rf51l1 Rf51j10) (f51_13_eq F Rf51j9 Rf51l1 Rf51j10)
def f51_15 (F : Nat) (kf51j9 : Int × (List Int) → Rz) (kf51l1 : Int × (List Int) → Rz) (kf51j10 : (List Int) → Rz) : Int × Bool × (List Int) → Rz := fun (t3,t25,x3) => (kf51j9 (t3,x3))
theorem f51_15_eq (F : Nat) (Rf51j9 : St → Rz) (Rf51l1 : St → Rz) (Rf51j10 : St → Rz) : ∀ v,aexec VG3851 (Af51 F) (bp Try.f51 3731) (ef51j5 v) (kBlock 1 (kSeq (kc VG3851 Rf51j9 [(0,.plain),(3,.plain)]) (kSeq (kc VG3851 Rf51l1 [(0,.plain),(3,.plain)]) (kBlock 0 (kSeq (kc VG3851 Rf51j10 [(0,.plain)]) (kFin VG3851 (some [(2,(.view 3))]) (Try.f51).results.toList)))))) = f51_15 F (Rf51j9 ∘ ef51j9) (Rf51l1 ∘ ef51l1) (Rf51j10 ∘ ef51j10) v := by
  rintro ⟨t3,t25,x3⟩; kernel_rfl
def f51_16 (F : Nat) (kf51j9 : Int × (List Int) → Rz) (kf51l1 : Int × (List Int) → Rz) (kf51j10 : (List Int) → Rz) : Int × Bool × (List Int) → Rz := fun v => cond ((fun (t3,t25,x3) => t25) v) (f51_14 F kf51j9 kf51l1 kf51j10 v) (f51_15 F kf51j9 kf51l1 kf51j10 v)
theorem f51_16_eq (F : Nat) (Rf51j9 : St → Rz) (Rf51l1 : St → Rz) (Rf51j10 : St → Rz) : ∀ v,aexec VG3851 (Af51 F) (bp Try.f51 1865) (ef51j5 v) (kBlock 1 (kSeq (kc VG3851 Rf51j9 [(0,.plain),(3,.plain)]) (kSeq (kc VG3851 Rf51l1 [(0,.plain),(3,.plain)]) (kBlock 0 (kSeq (kc VG3851 Rf51j10 [(0,.plain)]) (kFin VG3851 (some [(2,(.view 3))]) (Try.f51).results.toList)))))) = f51_16 F (Rf51j9 ∘ ef51j9) (Rf51l1 ∘ ef51l1) (Rf51j10 ∘ ef51j10) v :=
  cond_in (o := .tmp 25) (by kernel_rfl) ef51j5 _ (fun (t3,t25,x3) => t25) (by rintro ⟨t3,t25,x3⟩; kernel_rfl) _ _ (f51_14_eq F Rf51j9 Rf51l1 Rf51j10) (f51_15_eq F Rf51j9 Rf51l1 Rf51j10)
def f51_17 (F : Nat) (kf51j9 : Int × (List Int) → Rz) (kf51l1 : Int × (List Int) → Rz) (kf51j10 : (List Int) → Rz) : Int × (List Int) → Rz := fun v => f51_5 F (f51_16 F kf51j9 kf51l1 kf51j10) kf51j9 kf51l1 kf51j10 v
theorem f51_17_eq (F : Nat) (Rf51j9 : St → Rz) (Rf51l1 : St → Rz) (Rf51j10 : St → Rz) : ∀ v,aexec VG3851 (Af51 F) (bp Try.f51 932) (ef51j4 v) (kBlock 1 (kSeq (kc VG3851 Rf51j9 [(0,.plain),(3,.plain)]) (kSeq (kc VG3851 Rf51l1 [(0,.plain),(3,.plain)]) (kBlock 0 (kSeq (kc VG3851 Rf51j10 [(0,.plain)]) (kFin VG3851 (some [(2,(.view 3))]) (Try.f51).results.toList)))))) = f51_17 F (Rf51j9 ∘ ef51j9) (Rf51l1 ∘ ef51l1) (Rf51j10 ∘ ef51j10) v :=
  seq_cut (by kernel_rfl) (by kernel_rfl) ef51j4 ef51j5 _ (fun k => f51_5 F k (Rf51j9 ∘ ef51j9) (Rf51l1 ∘ ef51l1) (Rf51j10 ∘ ef51j10)) (f51_16 F (Rf51j9 ∘ ef51j9) (Rf51l1 ∘ ef51l1) (Rf51j10 ∘ ef51j10))
    (fun Rf51j5 => f51_5_eq F Rf51j5 Rf51j9 Rf51l1 Rf51j10) (f51_16_eq F Rf51j9 Rf51l1 Rf51j10)
def f51_18 (F : Nat) (kf51j9 : Int × (List Int) → Rz) (kf51l1 : Int × (List Int) → Rz) (kf51j10 : (List Int) → Rz) : Int × (List Int) → Rz := f51_17 F kf51j9 kf51l1 kf51j10
theorem f51_18_eq (F : Nat) (Rf51j9 : St → Rz) (Rf51l1 : St → Rz) (Rf51j10 : St → Rz) : ∀ v,aexec VG3851 (Af51 F) (bp Try.f51 466) (ef51j4 v) (kSeq (kc VG3851 Rf51j9 [(0,.plain),(3,.plain)]) (kSeq (kc VG3851 Rf51l1 [(0,.plain),(3,.plain)]) (kBlock 0 (kSeq (kc VG3851 Rf51j10 [(0,.plain)]) (kFin VG3851 (some [(2,(.view 3))]) (Try.f51).results.toList))))) = f51_18 F (Rf51j9 ∘ ef51j9) (Rf51l1 ∘ ef51l1) (Rf51j10 ∘ ef51j10) v := fun v =>
  (block_in  (by kernel_rfl) _ _).trans (f51_17_eq F Rf51j9 Rf51l1 Rf51j10 v)
def f51_19 (F : Nat) (kf51l1 : Int × (List Int) → Rz) (kf51j10 : (List Int) → Rz) : Int × (List Int) → Rz := fun (t3,x2) => (kf51l1 ((IntKind.i64.wrap (t3 + (1 : Int))),x2))
theorem f51_19_eq (F : Nat) (Rf51l1 : St → Rz) (Rf51j10 : St → Rz) : ∀ v,aexec VG3851 (Af51 F) (bp Try.f51 467) (ef51j9 v) (kSeq (kc VG3851 Rf51l1 [(0,.plain),(3,.plain)]) (kBlock 0 (kSeq (kc VG3851 Rf51j10 [(0,.plain)]) (kFin VG3851 (some [(2,(.view 3))]) (Try.f51).results.toList)))) = f51_19 F (Rf51l1 ∘ ef51l1) (Rf51j10 ∘ ef51j10) v := by
  rintro ⟨t3,x2⟩; kernel_rfl
def f51_20 (F : Nat) (kf51l1 : Int × (List Int) → Rz) (kf51j10 : (List Int) → Rz) : Int × (List Int) → Rz := fun v => f51_18 F (f51_19 F kf51l1 kf51j10) kf51l1 kf51j10 v
theorem f51_20_eq (F : Nat) (Rf51l1 : St → Rz) (Rf51j10 : St → Rz) : ∀ v,aexec VG3851 (Af51 F) (bp Try.f51 233) (ef51j4 v) (kSeq (kc VG3851 Rf51l1 [(0,.plain),(3,.plain)]) (kBlock 0 (kSeq (kc VG3851 Rf51j10 [(0,.plain)]) (kFin VG3851 (some [(2,(.view 3))]) (Try.f51).results.toList)))) = f51_20 F (Rf51l1 ∘ ef51l1) (Rf51j10 ∘ ef51j10) v :=
  seq_cut (by kernel_rfl) (by kernel_rfl) ef51j4 ef51j9 _ (fun k => f51_18 F k (Rf51l1 ∘ ef51l1) (Rf51j10 ∘ ef51j10)) (f51_19 F (Rf51l1 ∘ ef51l1) (Rf51j10 ∘ ef51j10))
    (fun Rf51j9 => f51_18_eq F Rf51j9 Rf51l1 Rf51j10) (f51_19_eq F Rf51l1 Rf51j10)
def f51_21 (F : Nat) (kf51l1 : Int × (List Int) → Rz) (kf51j10 : (List Int) → Rz) : Int × (List Int) → Rz := fun v => f51_4 F (f51_20 F kf51l1 kf51j10) kf51l1 kf51j10 v
theorem f51_21_eq (F : Nat) (Rf51l1 : St → Rz) (Rf51j10 : St → Rz) : ∀ v,aexec VG3851 (Af51 F) (bp Try.f51 116) (ef51l1 v) (kSeq (kc VG3851 Rf51l1 [(0,.plain),(3,.plain)]) (kBlock 0 (kSeq (kc VG3851 Rf51j10 [(0,.plain)]) (kFin VG3851 (some [(2,(.view 3))]) (Try.f51).results.toList)))) = f51_21 F (Rf51l1 ∘ ef51l1) (Rf51j10 ∘ ef51j10) v :=
  seq_cut (by kernel_rfl) (by kernel_rfl) ef51l1 ef51j4 _ (fun k => f51_4 F k (Rf51l1 ∘ ef51l1) (Rf51j10 ∘ ef51j10)) (f51_20 F (Rf51l1 ∘ ef51l1) (Rf51j10 ∘ ef51j10))
    (fun Rf51j4 => f51_4_eq F Rf51j4 Rf51l1 Rf51j10) (f51_20_eq F Rf51l1 Rf51j10)
def f51_22_i : Int × (List Int) → Int × (List Int) := fun (t3,x2) => (t3,x2)
def f51_22 (F : Nat) (kf51j10 : (List Int) → Rz) : Int × (List Int) → Rz := fun v => loopN (fun k => f51_21 F k kf51j10) F (f51_22_i v)
theorem f51_22_eq (F : Nat) (Rf51j10 : St → Rz) : ∀ v,aexec VG3851 (Af51 F) (bp Try.f51 58) (ef51j3 v) (kBlock 0 (kSeq (kc VG3851 Rf51j10 [(0,.plain)]) (kFin VG3851 (some [(2,(.view 3))]) (Try.f51).results.toList))) = f51_22 F (Rf51j10 ∘ ef51j10) v :=
  loop_cut (by kernel_rfl) (by kernel_rfl) ef51j3 ef51l1 _ f51_22_i (fun k => f51_21 F k (Rf51j10 ∘ ef51j10))
    (by rintro ⟨t3,x2⟩; kernel_rfl) (fun Rf51l1 => f51_21_eq F Rf51l1 Rf51j10)
def f51_23 (F : Nat) (kf51j10 : (List Int) → Rz) : Int × (List Int) → Rz := f51_22 F kf51j10
theorem f51_23_eq (F : Nat) (Rf51j10 : St → Rz) : ∀ v,aexec VG3851 (Af51 F) (bp Try.f51 29) (ef51j3 v) (kSeq (kc VG3851 Rf51j10 [(0,.plain)]) (kFin VG3851 (some [(2,(.view 3))]) (Try.f51).results.toList)) = f51_23 F (Rf51j10 ∘ ef51j10) v := fun v =>
  (block_in  (by kernel_rfl) _ _).trans (f51_22_eq F Rf51j10 v)
def f51_24 (F : Nat) (kf51j10 : (List Int) → Rz) : (List Int) → Rz := fun v => f51_3 F (f51_23 F kf51j10) kf51j10 v
theorem f51_24_eq (F : Nat) (Rf51j10 : St → Rz) : ∀ v,aexec VG3851 (Af51 F) (bp Try.f51 14) (ef51j2 v) (kSeq (kc VG3851 Rf51j10 [(0,.plain)]) (kFin VG3851 (some [(2,(.view 3))]) (Try.f51).results.toList)) = f51_24 F (Rf51j10 ∘ ef51j10) v :=
  seq_cut (by kernel_rfl) (by kernel_rfl) ef51j2 ef51j3 _ (fun k => f51_3 F k (Rf51j10 ∘ ef51j10)) (f51_23 F (Rf51j10 ∘ ef51j10))
    (fun Rf51j3 => f51_3_eq F Rf51j3 Rf51j10) (f51_23_eq F Rf51j10)
def f51_25 (F : Nat) : (List Int) → Rz := fun x1 => (some ((.vs (.rI .i64 x1) 0 1),[(.cells x1.length (.rI .i64 x1) false)]))
theorem f51_25_eq (F : Nat) : ∀ v,aexec VG3851 (Af51 F) (bp Try.f51 15) (ef51j10 v) (kFin VG3851 (some [(2,(.view 3))]) (Try.f51).results.toList) = f51_25 F v := by
  intro x1; kernel_rfl
def f51_26 (F : Nat) : (List Int) → Rz := fun v => f51_24 F (f51_25 F) v
theorem f51_26_eq (F : Nat) : ∀ v,aexec VG3851 (Af51 F) (bp Try.f51 7) (ef51j2 v) (kFin VG3851 (some [(2,(.view 3))]) (Try.f51).results.toList) = f51_26 F v :=
  seq_cut (by kernel_rfl) (by kernel_rfl) ef51j2 ef51j10 _ (fun k => f51_24 F k) (f51_25 F)
    (fun Rf51j10 => f51_24_eq F Rf51j10) (f51_25_eq F)
def f51_27 (F : Nat) : (List Int) → Rz := fun v => f51_2 F (f51_26 F) v
theorem f51_27_eq (F : Nat) : ∀ v,aexec VG3851 (Af51 F) (bp Try.f51 3) (ef51j1 v) (kFin VG3851 (some [(2,(.view 3))]) (Try.f51).results.toList) = f51_27 F v :=
  seq_cut (by kernel_rfl) (by kernel_rfl) ef51j1 ef51j2 _ (fun k => f51_2 F k) (f51_26 F)
    (fun Rf51j2 => f51_2_eq F Rf51j2) (f51_26_eq F)
def f51_28 (F : Nat) : (List Int) → Rz := fun v => f51_1 F (f51_27 F) v
theorem f51_28_eq (F : Nat) : ∀ v,aexec VG3851 (Af51 F) (sub (bodyOf Try.f51) []) (ef51_a v) (kFin VG3851 (some [(2,(.view 3))]) (Try.f51).results.toList) = f51_28 F v :=
  seq_cut (by kernel_rfl) (by kernel_rfl) ef51_a ef51j1 _ (fun k => f51_1 F k) (f51_27 F)
    (fun Rf51j1 => f51_1_eq F Rf51j1) (f51_27_eq F)
def f51 (F : Nat) : (List Int) → Rz := f51_28 F
theorem f51_body (F : Nat) (a0 : List Int) : abody VG3851 (Af51 F) Try.f51 [(.own 0 0 1)] [(.cells a0.length (.rI .i64 a0) true)] = f51 F a0 :=
  (abody_in (c := (sub (bodyOf Try.f51) [])) (by kernel_rfl) (s := ef51_a a0) (by kernel_rfl)).trans (f51_28_eq F a0)
def r51 : CRun := fun X H => match X,H with
  | [(.own 0 0 1)],[(.cells z0 (.rI .i64 a0) true)] => some ((decide (a0.length < 1073741824)),(.vs (.rI .i64 (Reg.compact a0)) 0 1),[(.cells a0.length (.rI .i64 (Reg.compactZ a0)) false)])
  | _,_ => none
theorem s51 (a0 : List Int) (hp : ((decide (a0.length < 1073741824))) = true) (k0 : okB (.cells a0.length (.rI .i64 a0) true)) : ∃ F,f51 F a0 = some ((.vs (.rI .i64 (Reg.compact a0)) 0 1),[(.cells a0.length (.rI .i64 (Reg.compactZ a0)) false)]) := by
  simp only [decide_eq_true_eq] at hp
  obtain ⟨F,hF⟩ : ∃ F,F = a0.length + 1 := ⟨_,rfl⟩
  refine ⟨F,?_⟩
  simp only [f51,f51_28,f51_1,f51_27,f51_2]
  by_cases h2 : a0.length < 2
  · rw [cond_pos (by omega)]
    have hc : Reg.compact a0 = a0 := by
      match a0,h2 with
      | [],_ => rfl
      | [_],_ => rfl
    rw [Reg.compactZ_self hc,hc]
  rw [cond_neg (by omega)]
  simp only [f51_26,f51_24,f51_3,f51_23,f51_22,f51_22_i]
  refine loopN_ind (fun m s => ∃ k : Nat,s = ((k : Int),a0) ∧ m = a0.length - k ∧ 1 ≤ k ∧ k ≤ a0.length ∧ Reg.compact (a0.take k) = a0.take k) ?_ _ (a0.length - 1) _ (by omega) ⟨1,rfl,rfl,Nat.le_refl _,by omega,by
    match a0,h2 with
    | [],h2 => exact absurd (by simp) h2
    | _ :: _,_ => rfl⟩
  rintro m s K ⟨k,rfl,hm,hk1,hkl,hck⟩ hk
  simp only [f51_21,f51_4,f51_20,f51_18,f51_17,f51_5,f51_16,dec_and]
  by_cases hkL : k < a0.length
  · rw [cond_pos (by omega),cond_pos (by omega),i64w (by omega) (by omega),cond_pos (by omega),show (k : Int) - 1 = ((k - 1 : Nat) : Int) by omega]
    simp only [Int.toNat_natCast]
    have hstep := Reg.compact_take (a := a0) (i := k) (by omega) hkL
    by_cases he : a0.getD k 0 = a0.getD (k - 1) 0
    · have hb : (a0.getD k 0 == a0.getD (k - 1) 0) = true := by rw [he]; simp
      rw [hb,cond_true]
      simp only [f51_14,f51_6,f51_13,f51_11,f51_7,f51_10,f51_9,f51_9_i,dec_and,Int.toNat_natCast]
      rw [cond_pos (by omega)]
      rw [if_pos he,List.append_nil,hck] at hstep
      refine loopN_ind (fun m s => ∃ (q t : Nat) (x : List Int),s = ((t : Int),a0.length,k,a0.length - k,(q : Int),x,a0.length) ∧ m = a0.length - k - q ∧ 1 ≤ q ∧ q ≤ a0.length - k ∧ x.length = a0.length ∧ t + 1 ≤ k + q ∧
        t = (Reg.compact (a0.take (k + q))).length ∧ x.take t = Reg.compact (a0.take (k + q)) ∧ ∀ j,k + q ≤ j + 1 → x.getD j 0 = a0.getD j 0) ?_ _ (a0.length - k - 1) _ (by omega)
        ⟨1,k,a0,rfl,rfl,Nat.le_refl _,by omega,rfl,by omega,by rw [hstep,List.length_take]; omega,hstep.symm,fun _ _ => rfl⟩
      rintro m s K2 ⟨q,t,x,rfl,hm,hq1,hql,hxl,htq,htc,hxt,hxj⟩ hk2
      simp only [f51_8,f51_12,dec_and,int_bne]
      by_cases hqL : q < a0.length - k
      · rw [cond_pos (by omega),cond_pos (by omega),i64w (by omega) (by omega),cond_pos (by omega),show (q : Int) - 1 = ((q - 1 : Nat) : Int) by omega]
        simp only [Int.toNat_natCast]
        simp only [hxj (q + k) (by omega),hxj (q - 1 + k) (by omega)]
        have hst := Reg.compact_take (a := a0) (i := k + q) (by omega) (by omega)
        rw [show k + q - 1 = q - 1 + k by omega,show k + q = q + k by omega] at hst
        by_cases hn : a0.getD (q + k) 0 = a0.getD (q - 1 + k) 0
        · rw [cond_neg (fun h => h hn),i64w (by omega) (by omega)]
          rw [if_pos hn,List.append_nil] at hst
          refine hk2 (m - 1) _ (by omega) ⟨q + 1,t,x,rfl,by omega,by omega,by omega,hxl,by omega,?_,?_,fun j hj => hxj j (by omega)⟩
          · rw [show k + (q + 1) = q + k + 1 by omega,hst,show q + k = k + q by omega]; exact htc
          · rw [show k + (q + 1) = q + k + 1 by omega,hst,show q + k = k + q by omega]; exact hxt
        · rw [cond_pos hn,cond_pos (by omega),cond_pos (by omega),i64w (by omega) (by omega),i64w (by omega) (by omega)]
          rw [if_neg hn] at hst
          have hx2 : (x.set t (a0.getD (q + k) 0)).take (t + 1) = Reg.compact (a0.take (k + (q + 1))) := by
            rw [show k + (q + 1) = q + k + 1 by omega,hst,show q + k = k + q by omega,← hxt,Reg.take_snoc (by rw [List.length_set]; omega),List.take_set_of_le (Nat.le_refl _)]
            congr 2
            rw [List.getD_eq_getElem?_getD,List.getElem?_set_self (by omega)]; rfl
          refine hk2 (m - 1) _ (by omega) ⟨q + 1,t + 1,x.set t (a0.getD (q + k) 0),rfl,by omega,by omega,by omega,by rw [List.length_set]; exact hxl,by omega,?_,hx2,fun j hj => ?_⟩
          · rw [← hx2,List.length_take,List.length_set]; omega
          · rw [List.getD_eq_getElem?_getD,List.getElem?_set_ne (by omega),← List.getD_eq_getElem?_getD]
            exact hxj j (by omega)
      · have hqe : k + q = a0.length := by omega
        rw [hqe,List.take_length] at htc hxt
        rw [cond_neg (by omega)]
        have hz := Reg.compactZ_of hxl htc hxt
        simp only [Int.toNat_natCast,hz]
        rw [cond_pos (by omega),cond_pos (by rw [Reg.compactZ_len]; omega),Reg.compactZ_take htc]
    · have hb : (a0.getD k 0 == a0.getD (k - 1) 0) = false := by rw [Bool.eq_false_iff]; intro h; exact he (by simpa using h)
      rw [hb,cond_false]
      simp only [f51_15,f51_19]
      rw [i64w (by omega) (by omega)]
      rw [if_neg he,hck,← Reg.take_snoc hkL] at hstep
      exact hk (m - 1) _ (by omega) ⟨k + 1,rfl,by omega,by omega,by omega,hstep⟩
  · have hc : Reg.compact a0 = a0 := by
      have e : k = a0.length := by omega
      rw [e,List.take_length] at hck; exact hck
    rw [cond_neg (by omega)]
    simp only [f51_25]
    rw [Reg.compactZ_self hc,hc]
theorem c51 : CallOk Try.prog G38 51 r51 := callOk_of (V := VG3851) mixed tys eVG3851 (f := 51) (fn := Try.f51) Try.func51 (by kernel_rfl) (c := sub (bodyOf Try.f51) []) (by kernel_rfl) (by
  intro X H r H' h hX hH
  unfold r51 at h; split at h <;> try contradiction
  · simp only [Option.some.injEq,Prod.mk.injEq] at h
    obtain ⟨hp,rfl,rfl⟩ := h
    obtain rfl := okB_size (hH _ (.head _)) rfl
    obtain ⟨F,hF⟩ := s51 _ hp (hH _ (.head _))
    exact ⟨Af51 F,(f51_body F _).trans hF⟩)
def lVG3832 : List CEnt := [(50,[none],r50),(51,[none],r51)]
def VG3832 : Env := mkEnv T38 G38 lVG3832
theorem eVG3832 : EOk Try.prog VG3832 := eok_mk (by exact ⟨c50,c51,trivial⟩)
def Af32 (F : Nat) : Cuts := { F := F,at_ := fun n => match n with | 3016 => some sp63 | _ => none,join := fun n => match n with | 1028 => some [(0,.plain),(1,.plain)] | 2026 => some sp10 | 3018 => some sp64 | 8005 => some [(5,.plain)] | _ => none }
def ef32_a : (List Int) × (List Int) → St := fun (a0,a1) => { tmps := [(0,(.vs (.rI .i64 a0) 0 1)),(1,(.vs (.rI .i64 a1) 0 1))],heap := [],next := 0,nt := 41,m := 0 }
def ef32j1 : (List Int) × (List Int) → St := fun (t0,t1) => { tmps := [(0,(.vs (.rI .i64 t0) 0 1)),(1,(.vs (.rI .i64 t1) 0 1))],heap := [],next := 0,nt := 41,m := 0 }
def ef32j2 : (List Int) × (List Int) → St := fun (t0,t1) => { tmps := [(0,(.vs (.rI .i64 t0) 0 1)),(1,(.vs (.rI .i64 t1) 0 1)),(5,.ns)],heap := [],next := 0,nt := 41,m := 0 }
def ef32j3 : Ty15 → St := fun (t1,t8,t9,t10) => { tmps := [(1,(.vs (.rI .i64 t1) 0 1)),(5,.ns),(8,(.vs (.rI .i64 t8) 0 1)),(9,(.int .i64 t9)),(10,(.int .i64 t10))],heap := [],next := 0,nt := 41,m := 0 }
def ef32l1 : Ty90 → St := fun (t1,t8,t9,t10,x5) => { tmps := [(1,(.vs (.rI .i64 t1) 0 1)),(5,(.own 0 0 1)),(8,(.vs (.rI .i64 t8) 0 1)),(9,(.int .i64 t9)),(10,(.int .i64 t10))],heap := [(0,(.cells x5.length (.rI .i64 x5) true))],next := 1,nt := 41,m := 0 }
def ef32j4 : (List Int) → St := fun x1 => { tmps := [(5,(.own 0 0 1))],heap := [(0,(.cells x1.length (.rI .i64 x1) true))],next := 1,nt := 41,m := 0 }
def f32_1 (F : Nat) (kf32j1 : (List Int) × (List Int) → Rz) : (List Int) × (List Int) → Rz := fun (a0,a1) => (kf32j1 (a0,a1))
theorem f32_1_eq (F : Nat) (Rf32j1 : St → Rz) : ∀ v,aexec VG3832 (Af32 F) (bp Try.f32 2) (ef32_a v) (kSeq (kc VG3832 Rf32j1 [(0,.plain),(1,.plain)]) (kFin VG3832 none (Try.f32).results.toList)) = f32_1 F (Rf32j1 ∘ ef32j1) v := by
  rintro ⟨a0,a1⟩; kernel_rfl
def f32_2 (F : Nat) (kf32j2 : (List Int) × (List Int) → Rz) : (List Int) × (List Int) → Rz := fun (t0,t1) => (kf32j2 (t0,t1))
theorem f32_2_eq (F : Nat) (Rf32j2 : St → Rz) : ∀ v,aexec VG3832 (Af32 F) (bp Try.f32 6) (ef32j1 v) (kSeq (kc VG3832 Rf32j2 sp10) (kFin VG3832 none (Try.f32).results.toList)) = f32_2 F (Rf32j2 ∘ ef32j2) v := by
  rintro ⟨t0,t1⟩; kernel_rfl
def f32_3 (F : Nat) (kf32j3 : Ty15 → Rz) (kf32j4 : (List Int) → Rz) : (List Int) × (List Int) → Rz := fun (t0,t1) => (kf32j3 (t1,t0,(↑t0.length : Int),(0 : Int)))
theorem f32_3_eq (F : Nat) (Rf32j3 : St → Rz) (Rf32j4 : St → Rz) : ∀ v,aexec VG3832 (Af32 F) (bp Try.f32 28) (ef32j2 v) (kSeq (kc VG3832 Rf32j3 sp64) (kSeq (kc VG3832 Rf32j4 [(5,.plain)]) (kFin VG3832 none (Try.f32).results.toList))) = f32_3 F (Rf32j3 ∘ ef32j3) (Rf32j4 ∘ ef32j4) v := by
  rintro ⟨t0,t1⟩; kernel_rfl
def f32_4 (F : Nat) (kf32l1 : Ty90 → Rz) (kf32j4 : (List Int) → Rz) : Ty90 → Rz := fun (t1,t8,t9,t10,x5) => (cond (decide (t10 < t9)) (cond ((decide (0 ≤ t10)) && (decide (t10 < (↑t8.length : Int)))) (cond (decide ((t8.getD (Int.toNat t10) 0) ≥ (0 : Int))) (cond (decide ((t8.getD (Int.toNat t10) 0) < (↑t1.length : Int))) (cond ((decide (0 ≤ (t8.getD (Int.toNat t10) 0))) && (decide ((t8.getD (Int.toNat t10) 0) < (↑t1.length : Int)))) (cond (decide ((t1.getD (Int.toNat (t8.getD (Int.toNat t10) 0)) 0) ≥ (0 : Int))) (cond ((decide (0 ≤ (t8.getD (Int.toNat t10) 0))) && (decide ((t8.getD (Int.toNat t10) 0) < (↑t1.length : Int)))) (cond (decide ((x5.length + 1) < 1073741824)) (kf32l1 (t1,t8,t9,(IntKind.i64.wrap (t10 + (1 : Int))),(x5 ++ [(t1.getD (Int.toNat (t8.getD (Int.toNat t10) 0)) 0)]))) none) none) (kf32l1 (t1,t8,t9,(IntKind.i64.wrap (t10 + (1 : Int))),x5))) none) (kf32l1 (t1,t8,t9,(IntKind.i64.wrap (t10 + (1 : Int))),x5))) (kf32l1 (t1,t8,t9,(IntKind.i64.wrap (t10 + (1 : Int))),x5))) none) (kf32j4 x5))
theorem f32_4_eq (F : Nat) (Rf32l1 : St → Rz) (Rf32j4 : St → Rz) : ∀ v,aexec VG3832 (Af32 F) (bp Try.f32 116) (ef32l1 v) (kSeq (kc VG3832 Rf32l1 sp63) (kBlock 0 (kSeq (kc VG3832 Rf32j4 [(5,.plain)]) (kFin VG3832 none (Try.f32).results.toList)))) = f32_4 F (Rf32l1 ∘ ef32l1) (Rf32j4 ∘ ef32j4) v := by
  rintro ⟨t1,t8,t9,t10,x5⟩; kernel_rfl
def f32_5_i : Ty15 → (List Int) × (List Int) × Int × Int × (List Int) := fun (t1,t8,t9,t10) => (t1,t8,t9,t10,[])
def f32_5 (F : Nat) (kf32j4 : (List Int) → Rz) : Ty15 → Rz := fun v => loopN (fun k => f32_4 F k kf32j4) F (f32_5_i v)
theorem f32_5_eq (F : Nat) (Rf32j4 : St → Rz) : ∀ v,aexec VG3832 (Af32 F) (bp Try.f32 58) (ef32j3 v) (kBlock 0 (kSeq (kc VG3832 Rf32j4 [(5,.plain)]) (kFin VG3832 none (Try.f32).results.toList))) = f32_5 F (Rf32j4 ∘ ef32j4) v :=
  loop_cut (by kernel_rfl) (by kernel_rfl) ef32j3 ef32l1 _ f32_5_i (fun k => f32_4 F k (Rf32j4 ∘ ef32j4))
    (by rintro ⟨t1,t8,t9,t10⟩; kernel_rfl) (fun Rf32l1 => f32_4_eq F Rf32l1 Rf32j4)
def f32_6 (F : Nat) (kf32j4 : (List Int) → Rz) : Ty15 → Rz := f32_5 F kf32j4
theorem f32_6_eq (F : Nat) (Rf32j4 : St → Rz) : ∀ v,aexec VG3832 (Af32 F) (bp Try.f32 29) (ef32j3 v) (kSeq (kc VG3832 Rf32j4 [(5,.plain)]) (kFin VG3832 none (Try.f32).results.toList)) = f32_6 F (Rf32j4 ∘ ef32j4) v := fun v =>
  (block_in  (by kernel_rfl) _ _).trans (f32_5_eq F Rf32j4 v)
def f32_7 (F : Nat) (kf32j4 : (List Int) → Rz) : (List Int) × (List Int) → Rz := fun v => f32_3 F (f32_6 F kf32j4) kf32j4 v
theorem f32_7_eq (F : Nat) (Rf32j4 : St → Rz) : ∀ v,aexec VG3832 (Af32 F) (bp Try.f32 14) (ef32j2 v) (kSeq (kc VG3832 Rf32j4 [(5,.plain)]) (kFin VG3832 none (Try.f32).results.toList)) = f32_7 F (Rf32j4 ∘ ef32j4) v :=
  seq_cut (by kernel_rfl) (by kernel_rfl) ef32j2 ef32j3 _ (fun k => f32_3 F k (Rf32j4 ∘ ef32j4)) (f32_6 F (Rf32j4 ∘ ef32j4))
    (fun Rf32j3 => f32_3_eq F Rf32j3 Rf32j4) (f32_6_eq F Rf32j4)
def f32_8 (F : Nat) : (List Int) → Rz := fun x1 => (cond (decide (x1.length < 1073741824)) (cond (decide ((sortI x1).length < 1073741824)) (some ((.vs (.rI .i64 (Reg.compact (sortI x1))) 0 1),[])) none) none)
theorem f32_8_eq (F : Nat) : ∀ v,aexec VG3832 (Af32 F) (bp Try.f32 15) (ef32j4 v) (kFin VG3832 none (Try.f32).results.toList) = f32_8 F v := by
  intro x1; kernel_rfl
def f32_9 (F : Nat) : (List Int) × (List Int) → Rz := fun v => f32_7 F (f32_8 F) v
theorem f32_9_eq (F : Nat) : ∀ v,aexec VG3832 (Af32 F) (bp Try.f32 7) (ef32j2 v) (kFin VG3832 none (Try.f32).results.toList) = f32_9 F v :=
  seq_cut (by kernel_rfl) (by kernel_rfl) ef32j2 ef32j4 _ (fun k => f32_7 F k) (f32_8 F)
    (fun Rf32j4 => f32_7_eq F Rf32j4) (f32_8_eq F)
def f32_10 (F : Nat) : (List Int) × (List Int) → Rz := fun v => f32_2 F (f32_9 F) v
theorem f32_10_eq (F : Nat) : ∀ v,aexec VG3832 (Af32 F) (bp Try.f32 3) (ef32j1 v) (kFin VG3832 none (Try.f32).results.toList) = f32_10 F v :=
  seq_cut (by kernel_rfl) (by kernel_rfl) ef32j1 ef32j2 _ (fun k => f32_2 F k) (f32_9 F)
    (fun Rf32j2 => f32_2_eq F Rf32j2) (f32_9_eq F)
def f32_11 (F : Nat) : (List Int) × (List Int) → Rz := fun v => f32_1 F (f32_10 F) v
theorem f32_11_eq (F : Nat) : ∀ v,aexec VG3832 (Af32 F) (sub (bodyOf Try.f32) []) (ef32_a v) (kFin VG3832 none (Try.f32).results.toList) = f32_11 F v :=
  seq_cut (by kernel_rfl) (by kernel_rfl) ef32_a ef32j1 _ (fun k => f32_1 F k) (f32_10 F)
    (fun Rf32j1 => f32_1_eq F Rf32j1) (f32_10_eq F)
def f32 (F : Nat) : (List Int) × (List Int) → Rz := f32_11 F
theorem f32_body (F : Nat) (a0 : List Int) (a1 : List Int) : abody VG3832 (Af32 F) Try.f32 [(.vs (.rI .i64 a0) 0 1),(.vs (.rI .i64 a1) 0 1)] [] = f32 F (a0,a1) :=
  (abody_in (c := (sub (bodyOf Try.f32) [])) (by kernel_rfl) (s := ef32_a (a0,a1)) (by kernel_rfl)).trans (f32_11_eq F (a0,a1))
def r32 : CRun := fun X H => match X,H with
  | [(.vs (.rI .i64 a0) 0 1),(.vs (.rI .i64 a1) 0 1)],[] => some ((decide (a0.length < 1073741000)),(.vs (.rI .i64 (Reg.need a0 a1)) 0 1),[])
  | _,_ => none
theorem s32 (a0 : List Int) (a1 : List Int) (hp : ((decide (a0.length < 1073741000))) = true) (h0 : okV (.vs (.rI .i64 a0) 0 1)) (h1 : okV (.vs (.rI .i64 a1) 0 1)) : ∃ F,f32 F (a0,a1) = some ((.vs (.rI .i64 (Reg.need a0 a1)) 0 1),[]) := by
  simp only [decide_eq_true_eq] at hp
  refine ⟨a0.length + 1,?_⟩
  simp only [f32,f32_11,f32_1,f32_10,f32_2,f32_9,f32_7,f32_3,f32_6,f32_5,f32_5_i]
  refine loopN_from (fun i => (a1,a0,(a0.length : Int),(i : Int),Reg.owned (a0.take i) a1)) a0.length (by rfl) (fun i hi k => ?_) (fun k => ?_) _ (by omega)
  · have hle := Reg.owned_le (a0.take i) a1
    rw [List.length_take] at hle
    simp only [f32_4,dec_and,Int.toNat_natCast,Reg.owned_succ a1 hi]
    rw [cond_pos (by omega),cond_pos (by omega),i64w (by omega) (by omega)]
    by_cases g0 : (a0.getD i 0) ≥ 0
    · rw [cond_pos g0]
      by_cases g1 : (a0.getD i 0) < (a1.length : Int)
      · rw [cond_pos g1,cond_pos ⟨g0,g1⟩]
        by_cases g2 : a1.getD (a0.getD i 0).toNat 0 ≥ 0
        · rw [cond_pos g2,cond_pos ⟨g0,g1⟩,cond_pos (by omega),if_pos ⟨g0,g1,g2⟩]; rfl
        · rw [cond_neg g2,if_neg (fun h => g2 h.2.2),List.append_nil]; rfl
      · rw [cond_neg g1,if_neg (fun h => g1 h.2.1),List.append_nil]; rfl
    · rw [cond_neg g0,if_neg (fun h => g0 h.1),List.append_nil]; rfl
  · have hle := Reg.owned_le a0 a1
    simp only [f32_4,f32_8,List.take_length]
    rw [cond_neg (by omega),cond_pos (by omega),cond_pos (by rw [sortI_len]; omega)]
    rfl
theorem c32 : CallOk Try.prog G38 32 r32 := callOk_of (V := VG3832) mixed tys eVG3832 (f := 32) (fn := Try.f32) Try.func32 (by kernel_rfl) (c := sub (bodyOf Try.f32) []) (by kernel_rfl) (by
  intro X H r H' h hX hH
  unfold r32 at h; split at h <;> try contradiction
  · simp only [Option.some.injEq,Prod.mk.injEq] at h
    obtain ⟨hp,rfl,rfl⟩ := h
    obtain ⟨F,hF⟩ := s32 _ _ hp (hX _ (.head _)) (hX _ (.tail _ (.head _)))
    exact ⟨Af32 F,(f32_body F _ _).trans hF⟩)
def lVG3833 : List CEnt := []
def VG3833 : Env := mkEnv T38 G38 lVG3833
theorem eVG3833 : EOk Try.prog VG3833 := eok_mk (by exact trivial)
def Af33 (F : Nat) : Cuts := { F := F,at_ := fun n => match n with | 3039 => some sp65 | 8008 => some sp66 | _ => none,join := fun n => match n with | 1049 => some [(0,.plain),(1,.plain)] | 2047 => some sp67 | 3041 => some sp65 | 4001 => some sp65 | 5033 => some sp65 | 6024 => some sp65 | 7022 => some sp68 | 8020 => some sp66 | 10009 => some sp66 | 13003 => some [(5,.own 3)] | _ => none,fin := (some [(4,(.own 3))]) }
def ef33_a : (List Int) × (List Int) → St := fun (a0,a1) => { tmps := [(0,(.vs (.rI .i64 a0) 0 1)),(1,(.vs (.rI .i64 a1) 0 1))],heap := [],next := 0,nt := 95,m := 0 }
def ef33j1 : (List Int) × (List Int) → St := fun (t0,t1) => { tmps := [(0,(.vs (.rI .i64 t0) 0 1)),(1,(.vs (.rI .i64 t1) 0 1))],heap := [],next := 0,nt := 95,m := 0 }
def ef33j2 : Ty79 → St := fun (t0,t1,x3) => { tmps := [(0,(.vs (.rI .i64 t0) 0 1)),(1,(.vs (.rI .i64 t1) 0 1)),(5,(.own 0 0 1))],heap := [(0,(.cells x3.length (.rI .i64 x3) true))],next := 1,nt := 95,m := 0 }
def ef33j3 : Ty91 → St := fun (t0,t1,t6,x4) => { tmps := [(0,(.vs (.rI .i64 t0) 0 1)),(1,(.vs (.rI .i64 t1) 0 1)),(5,(.own 0 0 1)),(6,(.int .i64 t6))],heap := [(0,(.cells x4.length (.rI .i64 x4) true))],next := 1,nt := 95,m := 0 }
def ef33l1 : Ty91 → St := fun (t0,t1,t6,x4) => { tmps := [(0,(.vs (.rI .i64 t0) 0 1)),(1,(.vs (.rI .i64 t1) 0 1)),(5,(.own 0 0 1)),(6,(.int .i64 t6))],heap := [(0,(.cells x4.length (.rI .i64 x4) true))],next := 1,nt := 95,m := 0 }
def ef33j4 : Ty91 → St := fun (t0,t1,t6,x4) => { tmps := [(0,(.vs (.rI .i64 t0) 0 1)),(1,(.vs (.rI .i64 t1) 0 1)),(5,(.own 0 0 1)),(6,(.int .i64 t6))],heap := [(0,(.cells x4.length (.rI .i64 x4) true))],next := 1,nt := 95,m := 0 }
def ef33j5 : Ty91 → St := fun (t0,t1,t6,x4) => { tmps := [(0,(.vs (.rI .i64 t0) 0 1)),(1,(.vs (.rI .i64 t1) 0 1)),(5,(.own 0 0 1)),(6,(.int .i64 t6))],heap := [(0,(.cells x4.length (.rI .i64 x4) true))],next := 1,nt := 95,m := 0 }
def ef33j6 : Ty90 → St := fun (t0,t1,t6,t7,x5) => { tmps := [(0,(.vs (.rI .i64 t0) 0 1)),(1,(.vs (.rI .i64 t1) 0 1)),(5,(.own 0 0 1)),(6,(.int .i64 t6)),(7,(.int .i64 t7))],heap := [(0,(.cells x5.length (.rI .i64 x5) true))],next := 1,nt := 95,m := 0 }
def ef33j7 : Ty92 → St := fun (t0,t1,t6,t7,t8,x6) => { tmps := [(0,(.vs (.rI .i64 t0) 0 1)),(1,(.vs (.rI .i64 t1) 0 1)),(5,(.own 0 0 1)),(6,(.int .i64 t6)),(7,(.int .i64 t7)),(8,(.int .i64 t8))],heap := [(0,(.cells x6.length (.rI .i64 x6) true))],next := 1,nt := 95,m := 0 }
def ef33l2 : Ty92 → St := fun (t0,t1,t6,t7,t8,x6) => { tmps := [(0,(.vs (.rI .i64 t0) 0 1)),(1,(.vs (.rI .i64 t1) 0 1)),(5,(.own 0 0 1)),(6,(.int .i64 t6)),(7,(.int .i64 t7)),(8,(.int .i64 t8))],heap := [(0,(.cells x6.length (.rI .i64 x6) true))],next := 1,nt := 95,m := 0 }
def ef33j8 : Ty92 → St := fun (t0,t1,t6,t7,t8,x6) => { tmps := [(0,(.vs (.rI .i64 t0) 0 1)),(1,(.vs (.rI .i64 t1) 0 1)),(5,(.own 0 0 1)),(6,(.int .i64 t6)),(7,(.int .i64 t7)),(8,(.int .i64 t8))],heap := [(0,(.cells x6.length (.rI .i64 x6) true))],next := 1,nt := 95,m := 0 }
def ef33j9 : Ty91 → St := fun (t0,t1,t6,x4) => { tmps := [(0,(.vs (.rI .i64 t0) 0 1)),(1,(.vs (.rI .i64 t1) 0 1)),(5,(.own 0 0 1)),(6,(.int .i64 t6))],heap := [(0,(.cells x4.length (.rI .i64 x4) true))],next := 1,nt := 95,m := 0 }
def ef33j10 : (List Int) → St := fun x1 => { tmps := [(5,(.own 0 0 1))],heap := [(0,(.cells x1.length (.rI .i64 x1) true))],next := 1,nt := 95,m := 0 }
def f33_1 (F : Nat) (kf33j1 : (List Int) × (List Int) → Rz) : (List Int) × (List Int) → Rz := fun (a0,a1) => (kf33j1 (a0,a1))
theorem f33_1_eq (F : Nat) (Rf33j1 : St → Rz) : ∀ v,aexec VG3833 (Af33 F) (bp Try.f33 2) (ef33_a v) (kSeq (kc VG3833 Rf33j1 [(0,.plain),(1,.plain)]) (kFin VG3833 (some [(4,(.own 3))]) (Try.f33).results.toList)) = f33_1 F (Rf33j1 ∘ ef33j1) v := by
  rintro ⟨a0,a1⟩; kernel_rfl
def f33_2 (F : Nat) (kf33j2 : Ty79 → Rz) : (List Int) × (List Int) → Rz := fun (t0,t1) => (kf33j2 (t0,t1,[]))
theorem f33_2_eq (F : Nat) (Rf33j2 : St → Rz) : ∀ v,aexec VG3833 (Af33 F) (bp Try.f33 6) (ef33j1 v) (kSeq (kc VG3833 Rf33j2 sp67) (kFin VG3833 (some [(4,(.own 3))]) (Try.f33).results.toList)) = f33_2 F (Rf33j2 ∘ ef33j2) v := by
  rintro ⟨t0,t1⟩; kernel_rfl
def f33_3 (F : Nat) (kf33j3 : Ty91 → Rz) (kf33j10 : (List Int) → Rz) : Ty79 → Rz := fun (t0,t1,x3) => (kf33j3 (t0,t1,(0 : Int),x3))
theorem f33_3_eq (F : Nat) (Rf33j3 : St → Rz) (Rf33j10 : St → Rz) : ∀ v,aexec VG3833 (Af33 F) (bp Try.f33 28) (ef33j2 v) (kSeq (kc VG3833 Rf33j3 sp65) (kSeq (kc VG3833 Rf33j10 [(5,.own 3)]) (kFin VG3833 (some [(4,(.own 3))]) (Try.f33).results.toList))) = f33_3 F (Rf33j3 ∘ ef33j3) (Rf33j10 ∘ ef33j10) v := by
  rintro ⟨t0,t1,x3⟩; kernel_rfl
def f33_4 (F : Nat) (kf33j4 : Ty91 → Rz) (kf33l1 : Ty91 → Rz) (kf33j10 : (List Int) → Rz) : Ty91 → Rz := fun (t0,t1,t6,x4) => (cond (decide (t6 < (↑t0.length : Int))) (kf33j4 (t0,t1,t6,x4)) (kf33j10 x4))
theorem f33_4_eq (F : Nat) (Rf33j4 : St → Rz) (Rf33l1 : St → Rz) (Rf33j10 : St → Rz) : ∀ v,aexec VG3833 (Af33 F) (bp Try.f33 232) (ef33l1 v) (kSeq (kc VG3833 Rf33j4 sp65) (kSeq (kc VG3833 Rf33l1 sp65) (kBlock 0 (kSeq (kc VG3833 Rf33j10 [(5,.own 3)]) (kFin VG3833 (some [(4,(.own 3))]) (Try.f33).results.toList))))) = f33_4 F (Rf33j4 ∘ ef33j4) (Rf33l1 ∘ ef33l1) (Rf33j10 ∘ ef33j10) v := by
  rintro ⟨t0,t1,t6,x4⟩; kernel_rfl
def f33_5 (F : Nat) (kf33j5 : Ty91 → Rz) (kf33j9 : Ty91 → Rz) (kf33l1 : Ty91 → Rz) (kf33j10 : (List Int) → Rz) : Ty91 → Rz := fun (t0,t1,t6,x4) => (cond ((decide (0 ≤ t6)) && (decide (t6 < (↑t0.length : Int)))) (cond (decide ((t0.getD (Int.toNat t6) 0) < (0 : Int))) (kf33j9 (t0,t1,t6,x4)) (cond ((decide (0 ≤ t6)) && (decide (t6 < (↑t0.length : Int)))) (cond (decide ((t0.getD (Int.toNat t6) 0) ≥ (↑t1.length : Int))) (kf33j9 (t0,t1,t6,x4)) (cond ((decide (0 ≤ t6)) && (decide (t6 < (↑t0.length : Int)))) (cond ((decide (0 ≤ (t0.getD (Int.toNat t6) 0))) && (decide ((t0.getD (Int.toNat t6) 0) < (↑t1.length : Int)))) (cond (decide ((t1.getD (Int.toNat (t0.getD (Int.toNat t6) 0)) 0) < (0 : Int))) (kf33j9 (t0,t1,t6,x4)) (kf33j5 (t0,t1,t6,x4))) none) none)) none)) none)
theorem f33_5_eq (F : Nat) (Rf33j5 : St → Rz) (Rf33j9 : St → Rz) (Rf33l1 : St → Rz) (Rf33j10 : St → Rz) : ∀ v,aexec VG3833 (Af33 F) (bp Try.f33 1864) (ef33j4 v) (kSeq (kc VG3833 Rf33j5 sp65) (kBlock 1 (kSeq (kc VG3833 Rf33j9 sp65) (kSeq (kc VG3833 Rf33l1 sp65) (kBlock 0 (kSeq (kc VG3833 Rf33j10 [(5,.own 3)]) (kFin VG3833 (some [(4,(.own 3))]) (Try.f33).results.toList))))))) = f33_5 F (Rf33j5 ∘ ef33j5) (Rf33j9 ∘ ef33j9) (Rf33l1 ∘ ef33l1) (Rf33j10 ∘ ef33j10) v := by
  rintro ⟨t0,t1,t6,x4⟩; kernel_rfl
def f33_6 (F : Nat) (kf33j6 : Ty90 → Rz) (kf33j9 : Ty91 → Rz) (kf33l1 : Ty91 → Rz) (kf33j10 : (List Int) → Rz) : Ty91 → Rz := fun (t0,t1,t6,x4) => (cond ((decide (0 ≤ t6)) && (decide (t6 < (↑t0.length : Int)))) (cond ((decide (0 ≤ (t0.getD (Int.toNat t6) 0))) && (decide ((t0.getD (Int.toNat t6) 0) < (↑t1.length : Int)))) (kf33j6 (t0,t1,t6,(t1.getD (Int.toNat (t0.getD (Int.toNat t6) 0)) 0),x4)) none) none)
theorem f33_6_eq (F : Nat) (Rf33j6 : St → Rz) (Rf33j9 : St → Rz) (Rf33l1 : St → Rz) (Rf33j10 : St → Rz) : ∀ v,aexec VG3833 (Af33 F) (bp Try.f33 3730) (ef33j5 v) (kSeq (kc VG3833 Rf33j6 sp68) (kBlock 1 (kSeq (kc VG3833 Rf33j9 sp65) (kSeq (kc VG3833 Rf33l1 sp65) (kBlock 0 (kSeq (kc VG3833 Rf33j10 [(5,.own 3)]) (kFin VG3833 (some [(4,(.own 3))]) (Try.f33).results.toList))))))) = f33_6 F (Rf33j6 ∘ ef33j6) (Rf33j9 ∘ ef33j9) (Rf33l1 ∘ ef33l1) (Rf33j10 ∘ ef33j10) v := by
  rintro ⟨t0,t1,t6,x4⟩; kernel_rfl
def f33_7 (F : Nat) (kf33j7 : Ty92 → Rz) (kf33j9 : Ty91 → Rz) (kf33l1 : Ty91 → Rz) (kf33j10 : (List Int) → Rz) : Ty90 → Rz := fun (t0,t1,t6,t7,x5) => (kf33j7 (t0,t1,t6,t7,(0 : Int),x5))
theorem f33_7_eq (F : Nat) (Rf33j7 : St → Rz) (Rf33j9 : St → Rz) (Rf33l1 : St → Rz) (Rf33j10 : St → Rz) : ∀ v,aexec VG3833 (Af33 F) (bp Try.f33 7462) (ef33j6 v) (kSeq (kc VG3833 Rf33j7 sp66) (kBlock 1 (kSeq (kc VG3833 Rf33j9 sp65) (kSeq (kc VG3833 Rf33l1 sp65) (kBlock 0 (kSeq (kc VG3833 Rf33j10 [(5,.own 3)]) (kFin VG3833 (some [(4,(.own 3))]) (Try.f33).results.toList))))))) = f33_7 F (Rf33j7 ∘ ef33j7) (Rf33j9 ∘ ef33j9) (Rf33l1 ∘ ef33l1) (Rf33j10 ∘ ef33j10) v := by
  rintro ⟨t0,t1,t6,t7,x5⟩; kernel_rfl
def f33_8 (F : Nat) (kf33l2 : Ty92 → Rz) (kf33j8 : Ty92 → Rz) (kf33j9 : Ty91 → Rz) (kf33l1 : Ty91 → Rz) (kf33j10 : (List Int) → Rz) : Ty92 → Rz := fun (t0,t1,t6,t7,t8,x6) => (cond (decide (t8 < (↑x6.length : Int))) (cond ((decide (0 ≤ (if (IntKind.i64.wrap ((↑x6.length : Int) - (1 : Int))) < t8 then (IntKind.i64.wrap ((↑x6.length : Int) - (1 : Int))) else t8))) && (decide ((if (IntKind.i64.wrap ((↑x6.length : Int) - (1 : Int))) < t8 then (IntKind.i64.wrap ((↑x6.length : Int) - (1 : Int))) else t8) < (↑x6.length : Int)))) (cond (decide ((x6.getD (Int.toNat (if (IntKind.i64.wrap ((↑x6.length : Int) - (1 : Int))) < t8 then (IntKind.i64.wrap ((↑x6.length : Int) - (1 : Int))) else t8)) 0) < t7)) (kf33l2 (t0,t1,t6,t7,(IntKind.i64.wrap (t8 + (1 : Int))),x6)) (kf33j8 (t0,t1,t6,t7,t8,x6))) none) (kf33j8 (t0,t1,t6,t7,t8,x6)))
theorem f33_8_eq (F : Nat) (Rf33l2 : St → Rz) (Rf33j8 : St → Rz) (Rf33j9 : St → Rz) (Rf33l1 : St → Rz) (Rf33j10 : St → Rz) : ∀ v,aexec VG3833 (Af33 F) (bp Try.f33 59704) (ef33l2 v) (kSeq (kc VG3833 Rf33l2 sp66) (kBlock 2 (kSeq (kc VG3833 Rf33j8 sp66) (kBlock 1 (kSeq (kc VG3833 Rf33j9 sp65) (kSeq (kc VG3833 Rf33l1 sp65) (kBlock 0 (kSeq (kc VG3833 Rf33j10 [(5,.own 3)]) (kFin VG3833 (some [(4,(.own 3))]) (Try.f33).results.toList))))))))) = f33_8 F (Rf33l2 ∘ ef33l2) (Rf33j8 ∘ ef33j8) (Rf33j9 ∘ ef33j9) (Rf33l1 ∘ ef33l1) (Rf33j10 ∘ ef33j10) v := by
  rintro ⟨t0,t1,t6,t7,t8,x6⟩; kernel_rfl
def f33_9_i : Ty92 → (List Int) × (List Int) × Int × Int × Int × (List Int) := fun (t0,t1,t6,t7,t8,x6) => (t0,t1,t6,t7,t8,x6)
def f33_9 (F : Nat) (kf33j8 : Ty92 → Rz) (kf33j9 : Ty91 → Rz) (kf33l1 : Ty91 → Rz) (kf33j10 : (List Int) → Rz) : Ty92 → Rz := fun v => loopN (fun k => f33_8 F k kf33j8 kf33j9 kf33l1 kf33j10) F (f33_9_i v)
theorem f33_9_eq (F : Nat) (Rf33j8 : St → Rz) (Rf33j9 : St → Rz) (Rf33l1 : St → Rz) (Rf33j10 : St → Rz) : ∀ v,aexec VG3833 (Af33 F) (bp Try.f33 29852) (ef33j7 v) (kBlock 2 (kSeq (kc VG3833 Rf33j8 sp66) (kBlock 1 (kSeq (kc VG3833 Rf33j9 sp65) (kSeq (kc VG3833 Rf33l1 sp65) (kBlock 0 (kSeq (kc VG3833 Rf33j10 [(5,.own 3)]) (kFin VG3833 (some [(4,(.own 3))]) (Try.f33).results.toList)))))))) = f33_9 F (Rf33j8 ∘ ef33j8) (Rf33j9 ∘ ef33j9) (Rf33l1 ∘ ef33l1) (Rf33j10 ∘ ef33j10) v :=
  loop_cut (by kernel_rfl) (by kernel_rfl) ef33j7 ef33l2 _ f33_9_i (fun k => f33_8 F k (Rf33j8 ∘ ef33j8) (Rf33j9 ∘ ef33j9) (Rf33l1 ∘ ef33l1) (Rf33j10 ∘ ef33j10))
    (by rintro ⟨t0,t1,t6,t7,t8,x6⟩; kernel_rfl) (fun Rf33l2 => f33_8_eq F Rf33l2 Rf33j8 Rf33j9 Rf33l1 Rf33j10)
def f33_10 (F : Nat) (kf33j8 : Ty92 → Rz) (kf33j9 : Ty91 → Rz) (kf33l1 : Ty91 → Rz) (kf33j10 : (List Int) → Rz) : Ty92 → Rz := f33_9 F kf33j8 kf33j9 kf33l1 kf33j10
theorem f33_10_eq (F : Nat) (Rf33j8 : St → Rz) (Rf33j9 : St → Rz) (Rf33l1 : St → Rz) (Rf33j10 : St → Rz) : ∀ v,aexec VG3833 (Af33 F) (bp Try.f33 14926) (ef33j7 v) (kSeq (kc VG3833 Rf33j8 sp66) (kBlock 1 (kSeq (kc VG3833 Rf33j9 sp65) (kSeq (kc VG3833 Rf33l1 sp65) (kBlock 0 (kSeq (kc VG3833 Rf33j10 [(5,.own 3)]) (kFin VG3833 (some [(4,(.own 3))]) (Try.f33).results.toList))))))) = f33_10 F (Rf33j8 ∘ ef33j8) (Rf33j9 ∘ ef33j9) (Rf33l1 ∘ ef33l1) (Rf33j10 ∘ ef33j10) v := fun v =>
  (block_in  (by kernel_rfl) _ _).trans (f33_9_eq F Rf33j8 Rf33j9 Rf33l1 Rf33j10 v)
def f33_11 (F : Nat) (kf33j9 : Ty91 → Rz) (kf33l1 : Ty91 → Rz) (kf33j10 : (List Int) → Rz) : Ty92 → Rz := fun (t0,t1,t6,t7,t8,x6) => (cond (decide (t8 < (↑x6.length : Int))) (cond ((decide (0 ≤ (if (IntKind.i64.wrap ((↑x6.length : Int) - (1 : Int))) < t8 then (IntKind.i64.wrap ((↑x6.length : Int) - (1 : Int))) else t8))) && (decide ((if (IntKind.i64.wrap ((↑x6.length : Int) - (1 : Int))) < t8 then (IntKind.i64.wrap ((↑x6.length : Int) - (1 : Int))) else t8) < (↑x6.length : Int)))) (cond ((x6.getD (Int.toNat (if (IntKind.i64.wrap ((↑x6.length : Int) - (1 : Int))) < t8 then (IntKind.i64.wrap ((↑x6.length : Int) - (1 : Int))) else t8)) 0) == t7) (kf33j9 (t0,t1,t6,x6)) (cond ((decide ((0 : Int) ≤ t8)) && (decide (t8 ≤ (↑x6.length : Int)))) (cond (decide ((0 + (Int.toNat t8)) < 1073741824)) (cond (decide ((([] ++ (x6.take (Int.toNat t8))).length + 1) < 1073741824)) (cond (((decide (0 ≤ t8)) && (decide (t8 ≤ (↑x6.length : Int)))) && (decide ((↑x6.length : Int) ≤ (↑x6.length : Int)))) (cond (decide (((([] ++ (x6.take (Int.toNat t8))) ++ [t7]).length + (x6.length - (Int.toNat t8))) < 1073741824)) (kf33j9 (t0,t1,t6,((([] ++ (x6.take (Int.toNat t8))) ++ [t7]) ++ ((x6.drop (Int.toNat t8)).take (x6.length - (Int.toNat t8)))))) none) none) none) none) none)) none) (cond ((decide ((0 : Int) ≤ t8)) && (decide (t8 ≤ (↑x6.length : Int)))) (cond (decide ((0 + (Int.toNat t8)) < 1073741824)) (cond (decide ((([] ++ (x6.take (Int.toNat t8))).length + 1) < 1073741824)) (cond (((decide (0 ≤ t8)) && (decide (t8 ≤ (↑x6.length : Int)))) && (decide ((↑x6.length : Int) ≤ (↑x6.length : Int)))) (cond (decide (((([] ++ (x6.take (Int.toNat t8))) ++ [t7]).length + (x6.length - (Int.toNat t8))) < 1073741824)) (kf33j9 (t0,t1,t6,((([] ++ (x6.take (Int.toNat t8))) ++ [t7]) ++ ((x6.drop (Int.toNat t8)).take (x6.length - (Int.toNat t8)))))) none) none) none) none) none))
theorem f33_11_eq (F : Nat) (Rf33j9 : St → Rz) (Rf33l1 : St → Rz) (Rf33j10 : St → Rz) : ∀ v,aexec VG3833 (Af33 F) (bp Try.f33 14927) (ef33j8 v) (kBlock 1 (kSeq (kc VG3833 Rf33j9 sp65) (kSeq (kc VG3833 Rf33l1 sp65) (kBlock 0 (kSeq (kc VG3833 Rf33j10 [(5,.own 3)]) (kFin VG3833 (some [(4,(.own 3))]) (Try.f33).results.toList)))))) = f33_11 F (Rf33j9 ∘ ef33j9) (Rf33l1 ∘ ef33l1) (Rf33j10 ∘ ef33j10) v := by
  rintro ⟨t0,t1,t6,t7,t8,x6⟩; kernel_rfl
def f33_12 (F : Nat) (kf33j9 : Ty91 → Rz) (kf33l1 : Ty91 → Rz) (kf33j10 : (List Int) → Rz) : Ty92 → Rz := fun v => f33_10 F (f33_11 F kf33j9 kf33l1 kf33j10) kf33j9 kf33l1 kf33j10 v
theorem f33_12_eq (F : Nat) (Rf33j9 : St → Rz) (Rf33l1 : St → Rz) (Rf33j10 : St → Rz) : ∀ v,aexec VG3833 (Af33 F) (bp Try.f33 7463) (ef33j7 v) (kBlock 1 (kSeq (kc VG3833 Rf33j9 sp65) (kSeq (kc VG3833 Rf33l1 sp65) (kBlock 0 (kSeq (kc VG3833 Rf33j10 [(5,.own 3)]) (kFin VG3833 (some [(4,(.own 3))]) (Try.f33).results.toList)))))) = f33_12 F (Rf33j9 ∘ ef33j9) (Rf33l1 ∘ ef33l1) (Rf33j10 ∘ ef33j10) v :=
  seq_cut (by kernel_rfl) (by kernel_rfl) ef33j7 ef33j8 _ (fun k => f33_10 F k (Rf33j9 ∘ ef33j9) (Rf33l1 ∘ ef33l1) (Rf33j10 ∘ ef33j10)) (f33_11 F (Rf33j9 ∘ ef33j9) (Rf33l1 ∘ ef33l1) (Rf33j10 ∘ ef33j10))
    (fun Rf33j8 => f33_10_eq F Rf33j8 Rf33j9 Rf33l1 Rf33j10) (f33_11_eq F Rf33j9 Rf33l1 Rf33j10)
def f33_13 (F : Nat) (kf33j9 : Ty91 → Rz) (kf33l1 : Ty91 → Rz) (kf33j10 : (List Int) → Rz) : Ty90 → Rz := fun v => f33_7 F (f33_12 F kf33j9 kf33l1 kf33j10) kf33j9 kf33l1 kf33j10 v
theorem f33_13_eq (F : Nat) (Rf33j9 : St → Rz) (Rf33l1 : St → Rz) (Rf33j10 : St → Rz) : ∀ v,aexec VG3833 (Af33 F) (bp Try.f33 3731) (ef33j6 v) (kBlock 1 (kSeq (kc VG3833 Rf33j9 sp65) (kSeq (kc VG3833 Rf33l1 sp65) (kBlock 0 (kSeq (kc VG3833 Rf33j10 [(5,.own 3)]) (kFin VG3833 (some [(4,(.own 3))]) (Try.f33).results.toList)))))) = f33_13 F (Rf33j9 ∘ ef33j9) (Rf33l1 ∘ ef33l1) (Rf33j10 ∘ ef33j10) v :=
  seq_cut (by kernel_rfl) (by kernel_rfl) ef33j6 ef33j7 _ (fun k => f33_7 F k (Rf33j9 ∘ ef33j9) (Rf33l1 ∘ ef33l1) (Rf33j10 ∘ ef33j10)) (f33_12 F (Rf33j9 ∘ ef33j9) (Rf33l1 ∘ ef33l1) (Rf33j10 ∘ ef33j10))
    (fun Rf33j7 => f33_7_eq F Rf33j7 Rf33j9 Rf33l1 Rf33j10) (f33_12_eq F Rf33j9 Rf33l1 Rf33j10)
def f33_14 (F : Nat) (kf33j9 : Ty91 → Rz) (kf33l1 : Ty91 → Rz) (kf33j10 : (List Int) → Rz) : Ty91 → Rz := fun v => f33_6 F (f33_13 F kf33j9 kf33l1 kf33j10) kf33j9 kf33l1 kf33j10 v
theorem f33_14_eq (F : Nat) (Rf33j9 : St → Rz) (Rf33l1 : St → Rz) (Rf33j10 : St → Rz) : ∀ v,aexec VG3833 (Af33 F) (bp Try.f33 1865) (ef33j5 v) (kBlock 1 (kSeq (kc VG3833 Rf33j9 sp65) (kSeq (kc VG3833 Rf33l1 sp65) (kBlock 0 (kSeq (kc VG3833 Rf33j10 [(5,.own 3)]) (kFin VG3833 (some [(4,(.own 3))]) (Try.f33).results.toList)))))) = f33_14 F (Rf33j9 ∘ ef33j9) (Rf33l1 ∘ ef33l1) (Rf33j10 ∘ ef33j10) v :=
  seq_cut (by kernel_rfl) (by kernel_rfl) ef33j5 ef33j6 _ (fun k => f33_6 F k (Rf33j9 ∘ ef33j9) (Rf33l1 ∘ ef33l1) (Rf33j10 ∘ ef33j10)) (f33_13 F (Rf33j9 ∘ ef33j9) (Rf33l1 ∘ ef33l1) (Rf33j10 ∘ ef33j10))
    (fun Rf33j6 => f33_6_eq F Rf33j6 Rf33j9 Rf33l1 Rf33j10) (f33_13_eq F Rf33j9 Rf33l1 Rf33j10)
def f33_15 (F : Nat) (kf33j9 : Ty91 → Rz) (kf33l1 : Ty91 → Rz) (kf33j10 : (List Int) → Rz) : Ty91 → Rz := fun v => f33_5 F (f33_14 F kf33j9 kf33l1 kf33j10) kf33j9 kf33l1 kf33j10 v
theorem f33_15_eq (F : Nat) (Rf33j9 : St → Rz) (Rf33l1 : St → Rz) (Rf33j10 : St → Rz) : ∀ v,aexec VG3833 (Af33 F) (bp Try.f33 932) (ef33j4 v) (kBlock 1 (kSeq (kc VG3833 Rf33j9 sp65) (kSeq (kc VG3833 Rf33l1 sp65) (kBlock 0 (kSeq (kc VG3833 Rf33j10 [(5,.own 3)]) (kFin VG3833 (some [(4,(.own 3))]) (Try.f33).results.toList)))))) = f33_15 F (Rf33j9 ∘ ef33j9) (Rf33l1 ∘ ef33l1) (Rf33j10 ∘ ef33j10) v :=
  seq_cut (by kernel_rfl) (by kernel_rfl) ef33j4 ef33j5 _ (fun k => f33_5 F k (Rf33j9 ∘ ef33j9) (Rf33l1 ∘ ef33l1) (Rf33j10 ∘ ef33j10)) (f33_14 F (Rf33j9 ∘ ef33j9) (Rf33l1 ∘ ef33l1) (Rf33j10 ∘ ef33j10))
    (fun Rf33j5 => f33_5_eq F Rf33j5 Rf33j9 Rf33l1 Rf33j10) (f33_14_eq F Rf33j9 Rf33l1 Rf33j10)
def f33_16 (F : Nat) (kf33j9 : Ty91 → Rz) (kf33l1 : Ty91 → Rz) (kf33j10 : (List Int) → Rz) : Ty91 → Rz := f33_15 F kf33j9 kf33l1 kf33j10
theorem f33_16_eq (F : Nat) (Rf33j9 : St → Rz) (Rf33l1 : St → Rz) (Rf33j10 : St → Rz) : ∀ v,aexec VG3833 (Af33 F) (bp Try.f33 466) (ef33j4 v) (kSeq (kc VG3833 Rf33j9 sp65) (kSeq (kc VG3833 Rf33l1 sp65) (kBlock 0 (kSeq (kc VG3833 Rf33j10 [(5,.own 3)]) (kFin VG3833 (some [(4,(.own 3))]) (Try.f33).results.toList))))) = f33_16 F (Rf33j9 ∘ ef33j9) (Rf33l1 ∘ ef33l1) (Rf33j10 ∘ ef33j10) v := fun v =>
  (block_in  (by kernel_rfl) _ _).trans (f33_15_eq F Rf33j9 Rf33l1 Rf33j10 v)
def f33_17 (F : Nat) (kf33l1 : Ty91 → Rz) (kf33j10 : (List Int) → Rz) : Ty91 → Rz := fun (t0,t1,t6,x4) => (kf33l1 (t0,t1,(IntKind.i64.wrap (t6 + (1 : Int))),x4))
theorem f33_17_eq (F : Nat) (Rf33l1 : St → Rz) (Rf33j10 : St → Rz) : ∀ v,aexec VG3833 (Af33 F) (bp Try.f33 467) (ef33j9 v) (kSeq (kc VG3833 Rf33l1 sp65) (kBlock 0 (kSeq (kc VG3833 Rf33j10 [(5,.own 3)]) (kFin VG3833 (some [(4,(.own 3))]) (Try.f33).results.toList)))) = f33_17 F (Rf33l1 ∘ ef33l1) (Rf33j10 ∘ ef33j10) v := by
  rintro ⟨t0,t1,t6,x4⟩; kernel_rfl
def f33_18 (F : Nat) (kf33l1 : Ty91 → Rz) (kf33j10 : (List Int) → Rz) : Ty91 → Rz := fun v => f33_16 F (f33_17 F kf33l1 kf33j10) kf33l1 kf33j10 v
theorem f33_18_eq (F : Nat) (Rf33l1 : St → Rz) (Rf33j10 : St → Rz) : ∀ v,aexec VG3833 (Af33 F) (bp Try.f33 233) (ef33j4 v) (kSeq (kc VG3833 Rf33l1 sp65) (kBlock 0 (kSeq (kc VG3833 Rf33j10 [(5,.own 3)]) (kFin VG3833 (some [(4,(.own 3))]) (Try.f33).results.toList)))) = f33_18 F (Rf33l1 ∘ ef33l1) (Rf33j10 ∘ ef33j10) v :=
  seq_cut (by kernel_rfl) (by kernel_rfl) ef33j4 ef33j9 _ (fun k => f33_16 F k (Rf33l1 ∘ ef33l1) (Rf33j10 ∘ ef33j10)) (f33_17 F (Rf33l1 ∘ ef33l1) (Rf33j10 ∘ ef33j10))
    (fun Rf33j9 => f33_16_eq F Rf33j9 Rf33l1 Rf33j10) (f33_17_eq F Rf33l1 Rf33j10)
def f33_19 (F : Nat) (kf33l1 : Ty91 → Rz) (kf33j10 : (List Int) → Rz) : Ty91 → Rz := fun v => f33_4 F (f33_18 F kf33l1 kf33j10) kf33l1 kf33j10 v
theorem f33_19_eq (F : Nat) (Rf33l1 : St → Rz) (Rf33j10 : St → Rz) : ∀ v,aexec VG3833 (Af33 F) (bp Try.f33 116) (ef33l1 v) (kSeq (kc VG3833 Rf33l1 sp65) (kBlock 0 (kSeq (kc VG3833 Rf33j10 [(5,.own 3)]) (kFin VG3833 (some [(4,(.own 3))]) (Try.f33).results.toList)))) = f33_19 F (Rf33l1 ∘ ef33l1) (Rf33j10 ∘ ef33j10) v :=
  seq_cut (by kernel_rfl) (by kernel_rfl) ef33l1 ef33j4 _ (fun k => f33_4 F k (Rf33l1 ∘ ef33l1) (Rf33j10 ∘ ef33j10)) (f33_18 F (Rf33l1 ∘ ef33l1) (Rf33j10 ∘ ef33j10))
    (fun Rf33j4 => f33_4_eq F Rf33j4 Rf33l1 Rf33j10) (f33_18_eq F Rf33l1 Rf33j10)
def f33_20_i : Ty91 → (List Int) × (List Int) × Int × (List Int) := fun (t0,t1,t6,x4) => (t0,t1,t6,x4)
def f33_20 (F : Nat) (kf33j10 : (List Int) → Rz) : Ty91 → Rz := fun v => loopN (fun k => f33_19 F k kf33j10) F (f33_20_i v)
theorem f33_20_eq (F : Nat) (Rf33j10 : St → Rz) : ∀ v,aexec VG3833 (Af33 F) (bp Try.f33 58) (ef33j3 v) (kBlock 0 (kSeq (kc VG3833 Rf33j10 [(5,.own 3)]) (kFin VG3833 (some [(4,(.own 3))]) (Try.f33).results.toList))) = f33_20 F (Rf33j10 ∘ ef33j10) v :=
  loop_cut (by kernel_rfl) (by kernel_rfl) ef33j3 ef33l1 _ f33_20_i (fun k => f33_19 F k (Rf33j10 ∘ ef33j10))
    (by rintro ⟨t0,t1,t6,x4⟩; kernel_rfl) (fun Rf33l1 => f33_19_eq F Rf33l1 Rf33j10)
def f33_21 (F : Nat) (kf33j10 : (List Int) → Rz) : Ty91 → Rz := f33_20 F kf33j10
theorem f33_21_eq (F : Nat) (Rf33j10 : St → Rz) : ∀ v,aexec VG3833 (Af33 F) (bp Try.f33 29) (ef33j3 v) (kSeq (kc VG3833 Rf33j10 [(5,.own 3)]) (kFin VG3833 (some [(4,(.own 3))]) (Try.f33).results.toList)) = f33_21 F (Rf33j10 ∘ ef33j10) v := fun v =>
  (block_in  (by kernel_rfl) _ _).trans (f33_20_eq F Rf33j10 v)
def f33_22 (F : Nat) (kf33j10 : (List Int) → Rz) : Ty79 → Rz := fun v => f33_3 F (f33_21 F kf33j10) kf33j10 v
theorem f33_22_eq (F : Nat) (Rf33j10 : St → Rz) : ∀ v,aexec VG3833 (Af33 F) (bp Try.f33 14) (ef33j2 v) (kSeq (kc VG3833 Rf33j10 [(5,.own 3)]) (kFin VG3833 (some [(4,(.own 3))]) (Try.f33).results.toList)) = f33_22 F (Rf33j10 ∘ ef33j10) v :=
  seq_cut (by kernel_rfl) (by kernel_rfl) ef33j2 ef33j3 _ (fun k => f33_3 F k (Rf33j10 ∘ ef33j10)) (f33_21 F (Rf33j10 ∘ ef33j10))
    (fun Rf33j3 => f33_3_eq F Rf33j3 Rf33j10) (f33_21_eq F Rf33j10)
def f33_23 (F : Nat) : (List Int) → Rz := fun x1 => (some ((.own 0 0 1),[(.cells x1.length (.rI .i64 x1) true)]))
theorem f33_23_eq (F : Nat) : ∀ v,aexec VG3833 (Af33 F) (bp Try.f33 15) (ef33j10 v) (kFin VG3833 (some [(4,(.own 3))]) (Try.f33).results.toList) = f33_23 F v := by
  intro x1; kernel_rfl
def f33_24 (F : Nat) : Ty79 → Rz := fun v => f33_22 F (f33_23 F) v
theorem f33_24_eq (F : Nat) : ∀ v,aexec VG3833 (Af33 F) (bp Try.f33 7) (ef33j2 v) (kFin VG3833 (some [(4,(.own 3))]) (Try.f33).results.toList) = f33_24 F v :=
  seq_cut (by kernel_rfl) (by kernel_rfl) ef33j2 ef33j10 _ (fun k => f33_22 F k) (f33_23 F)
    (fun Rf33j10 => f33_22_eq F Rf33j10) (f33_23_eq F)
def f33_25 (F : Nat) : (List Int) × (List Int) → Rz := fun v => f33_2 F (f33_24 F) v
theorem f33_25_eq (F : Nat) : ∀ v,aexec VG3833 (Af33 F) (bp Try.f33 3) (ef33j1 v) (kFin VG3833 (some [(4,(.own 3))]) (Try.f33).results.toList) = f33_25 F v :=
  seq_cut (by kernel_rfl) (by kernel_rfl) ef33j1 ef33j2 _ (fun k => f33_2 F k) (f33_24 F)
    (fun Rf33j2 => f33_2_eq F Rf33j2) (f33_24_eq F)
def f33_26 (F : Nat) : (List Int) × (List Int) → Rz := fun v => f33_1 F (f33_25 F) v
theorem f33_26_eq (F : Nat) : ∀ v,aexec VG3833 (Af33 F) (sub (bodyOf Try.f33) []) (ef33_a v) (kFin VG3833 (some [(4,(.own 3))]) (Try.f33).results.toList) = f33_26 F v :=
  seq_cut (by kernel_rfl) (by kernel_rfl) ef33_a ef33j1 _ (fun k => f33_1 F k) (f33_25 F)
    (fun Rf33j1 => f33_1_eq F Rf33j1) (f33_25_eq F)
def f33 (F : Nat) : (List Int) × (List Int) → Rz := f33_26 F
theorem f33_body (F : Nat) (a0 : List Int) (a1 : List Int) : abody VG3833 (Af33 F) Try.f33 [(.vs (.rI .i64 a0) 0 1),(.vs (.rI .i64 a1) 0 1)] [] = f33 F (a0,a1) :=
  (abody_in (c := (sub (bodyOf Try.f33) [])) (by kernel_rfl) (s := ef33_a (a0,a1)) (by kernel_rfl)).trans (f33_26_eq F (a0,a1))
def r33 : CRun := fun X H => match X,H with
  | [(.vs (.rI .i64 a0) 0 1),(.vs (.rI .i64 a1) 0 1)],[] => some ((decide (a0.length < 1073741000)),(.own 0 0 1),[(.cells (Reg.need a0 a1).length (.rI .i64 (Reg.need a0 a1)) true)])
  | _,_ => none
theorem s33 (a0 : List Int) (a1 : List Int) (hp : ((decide (a0.length < 1073741000))) = true) (h0 : okV (.vs (.rI .i64 a0) 0 1)) (h1 : okV (.vs (.rI .i64 a1) 0 1)) : ∃ F,f33 F (a0,a1) = some ((.own 0 0 1),[(.cells (Reg.need a0 a1).length (.rI .i64 (Reg.need a0 a1)) true)]) := by
  simp only [decide_eq_true_eq] at hp
  obtain ⟨F,hF⟩ : ∃ F,F = a0.length + 2 := ⟨_,rfl⟩
  refine ⟨F,?_⟩
  simp only [f33,f33_26,f33_1,f33_25,f33_2,f33_24,f33_22,f33_3,f33_21,f33_20,f33_20_i]
  refine loopN_from (fun i => (a0,a1,(i : Int),Reg.need (a0.take i) a1)) a0.length (by simp [Reg.need,Reg.owned,sortI,Reg.compact]) (fun i hi k => ?_) (fun k => ?_) _ (by omega)
  · simp only [f33_19,f33_4]
    rw [cond_pos (by omega)]
    simp only [f33_18,f33_16,f33_15,f33_5,f33_14,dec_and,Int.toNat_natCast]
    have hskip := Reg.need_skip (o := a1) hi
    have hthere := fun q => Reg.need_there (o := a1) (k := q) hi
    have hnew := fun q => Reg.need_new (o := a1) (k := q) hi
    have hlen := Reg.need_len (a0.take i) a1
    rw [List.length_take] at hlen
    rw [cond_pos (by omega)]
    by_cases g0 : (a0.getD i 0) < 0
    · rw [cond_pos g0]
      simp only [f33_17]
      rw [i64w (by omega) (by omega),← hskip (fun h => by omega)]; rfl
    rw [cond_neg g0,cond_pos (by omega)]
    by_cases g1 : (a0.getD i 0) ≥ (a1.length : Int)
    · rw [cond_pos g1]
      simp only [f33_17]
      rw [i64w (by omega) (by omega),← hskip (fun h => by omega)]; rfl
    rw [cond_neg g1,cond_pos (by omega),cond_pos (by omega)]
    by_cases g2 : a1.getD (a0.getD i 0).toNat 0 < 0
    · rw [cond_pos g2]
      simp only [f33_17]
      rw [i64w (by omega) (by omega),← hskip (fun h => by omega)]; rfl
    rw [cond_neg g2]
    simp only [f33_6,dec_and,Int.toNat_natCast]
    rw [cond_pos (by omega),cond_pos (by omega)]
    have hq : (a0.getD i 0) ≥ 0 ∧ (a0.getD i 0) < (a1.length : Int) ∧ a1.getD (a0.getD i 0).toNat 0 ≥ 0 := ⟨by omega,by omega,by omega⟩
    replace hthere := fun q => hthere q hq
    replace hnew := fun q => hnew q hq
    generalize Reg.need (List.take (i + 1) a0) a1 = L' at *
    generalize Reg.need (List.take i a0) a1 = L at *
    generalize a1.getD (a0.getD i 0).toNat 0 = x at *
    simp only [f33_13,f33_7,f33_12,f33_10,f33_9,f33_9_i]
    refine loopN_ind (fun m s => ∃ q : Nat,s = (a0,a1,(i : Int),x,(q : Int),L) ∧ m = L.length - q ∧ q ≤ L.length ∧ ∀ j,j < q → L.getD j 0 < x) ?_ _ L.length _ (by omega) ⟨0,rfl,by omega,by omega,fun j hj => by omega⟩
    rintro m s K ⟨q,rfl,hm,hql,hlt⟩ hk
    simp only [f33_8,f33_11,dec_and,int_beq,Int.toNat_natCast]
    by_cases hqL : q < L.length
    · have hmn : (if IntKind.i64.wrap ((L.length : Int) - 1) < (q : Int) then IntKind.i64.wrap ((L.length : Int) - 1) else (q : Int)) = (q : Int) := by
        rw [i64w (by omega) (by omega),if_neg (by omega)]
      rw [hmn,cond_pos (by omega),cond_pos (by omega)]
      simp only [Int.toNat_natCast]
      by_cases hx : L.getD q 0 < x
      · rw [cond_pos hx,i64w (by omega) (by omega)]
        refine hk (m - 1) _ (by omega) ⟨q + 1,rfl,by omega,by omega,fun j hj => ?_⟩
        by_cases hj' : j < q
        · exact hlt j hj'
        · rw [show j = q by omega]; exact hx
      · rw [cond_neg hx,cond_pos (by omega),cond_pos (by omega)]
        by_cases he : L.getD q 0 = x
        · rw [cond_pos he]
          simp only [f33_17]
          rw [i64w (by omega) (by omega),hthere q hqL he]; rfl
        · rw [cond_neg he,cond_pos (by omega),cond_pos (by omega),cond_pos (by simp; omega),cond_pos (by omega),cond_pos (by simp; omega)]
          simp only [f33_17]
          rw [i64w (by omega) (by omega),hnew q hql hlt (fun _ => by omega),List.nil_append,List.take_of_length_le (l := L.drop q) (by rw [List.length_drop]; omega)]; rfl
    · rw [cond_neg (by omega),cond_neg (by omega),cond_pos (by omega),cond_pos (by omega),cond_pos (by simp; omega),cond_pos (by omega),cond_pos (by simp; omega)]
      simp only [f33_17]
      rw [i64w (by omega) (by omega),hnew q hql hlt (fun h => absurd h hqL),List.nil_append,List.take_of_length_le (l := L.drop q) (by rw [List.length_drop]; omega)]; rfl
  · simp only [f33_19,f33_4,f33_23,List.take_length]
    rw [cond_neg (by omega)]
theorem c33 : CallOk Try.prog G38 33 r33 := callOk_of (V := VG3833) mixed tys eVG3833 (f := 33) (fn := Try.f33) Try.func33 (by kernel_rfl) (c := sub (bodyOf Try.f33) []) (by kernel_rfl) (by
  intro X H r H' h hX hH
  unfold r33 at h; split at h <;> try contradiction
  · simp only [Option.some.injEq,Prod.mk.injEq] at h
    obtain ⟨hp,rfl,rfl⟩ := h
    obtain ⟨F,hF⟩ := s33 _ _ hp (hX _ (.head _)) (hX _ (.tail _ (.head _)))
    exact ⟨Af33 F,(f33_body F _ _).trans hF⟩)
end Go.Am
end