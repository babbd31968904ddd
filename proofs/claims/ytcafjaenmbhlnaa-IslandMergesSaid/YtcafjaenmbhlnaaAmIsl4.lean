/- Part of a proof about the functions of the given program. -/
import Derived.Test.YtcafjaenmbhlnaaAm22A
import Derived.Test.YtcafjaenmbhlnaaAm22C
import Derived.Test.YtcafjaenmbhlnaaAm22F
import Derived.Test.YtcafjaenmbhlnaaAm22E
set_option linter.unusedSimpArgs false
set_option linter.unusedVariables false
section
namespace Go.Am
open Go Go.Proofs
abbrev sp36 : List (Nat × Md) := [(0,.plain),(1,.plain),(7,.view 2),(8,.plain)]
abbrev sp37 : List (Nat × Md) := [(0,.plain),(1,.plain),(7,.view 2),(8,.plain),(9,.plain),(10,.plain)]
abbrev sp38 : List (Nat × Md) := [(0,.plain),(1,.plain),(7,.view 2),(8,.plain),(9,.plain),(10,.plain),(11,.plain)]
abbrev sp39 : List (Nat × Md) := [(0,.plain),(1,.plain),(2,.plain)]
abbrev sp40 : List (Nat × Md) := [(0,.plain),(1,.plain),(7,.plain)]
abbrev sp41 : List (Nat × Md) := [(0,.plain),(1,.plain),(7,.plain),(8,.plain),(9,.plain)]
abbrev sp42 : List (Nat × Md) := [(0,.plain),(1,.plain),(7,.plain),(8,.plain),(9,.plain),(10,.plain)]
abbrev sp43 : List (Nat × Md) := [(0,.plain),(1,.plain),(7,.plain),(8,.plain),(9,.plain),(10,.plain),(11,.plain)]
abbrev sp44 : List (Nat × Md) := [(0,.plain),(1,.plain),(5,.own 22),(6,.view 2),(7,.plain)]
abbrev sp45 : List (Nat × Md) := [(0,.plain),(1,.plain),(5,.plain),(6,.view 2),(7,.plain),(8,.plain),(9,.plain)]
abbrev sp46 : List (Nat × Md) := [(0,.plain),(1,.plain),(5,.plain),(6,.plain),(7,.plain),(8,.plain),(9,.plain)]
abbrev sp47 : List (Nat × Md) := [(0,.plain),(3,.view 2),(4,.plain)]
abbrev sp48 : List (Nat × Md) := [(0,.plain),(1,.plain),(5,.own 2),(6,.plain)]
abbrev Ty47 := (List Int) × (List (List Int)) × Int
abbrev Ty48 := (List Int) × (List (List Int)) × (List Int)
abbrev Ty49 := (List Int) × (List (List Int)) × Int × (List Int)
abbrev Ty50 := (List Int) × (List (List Int)) × (List Int) × Int
abbrev Ty51 := (List Int) × (List (List Int)) × (List Int) × Int × Int
abbrev Ty52 := (List Int) × (List (List Int)) × (List Int) × Int × Int × Int
abbrev Ty53 := (List Int) × (List (List Int)) × (List Int) × Int × Int × Int × Int
abbrev Ty54 := (List Int) × (List (List Int)) × (List Int) × Int × (List (List Int))
abbrev Ty55 := (List Int) × (List (List Int)) × (List Int) × Int × (List Int) × (List (List Int))
abbrev Ty56 := (List Int) × (List (List Int)) × (List Int) × Int × (List Int) × Int × (List (List Int))
abbrev Ty61 := (List (List Int)) × (List (List Int)) × Int × (List Int)
abbrev Ty62 := (List (List Int)) × (List (List Int)) × (List Int)
def lVG2255 : List CEnt := [(50,[some 3,none],r50),(56,[some 3,none],r56),(67,[some 3,some 3],r67)]
def VG2255 : Env := mkEnv T22 G22 lVG2255
theorem eVG2255 : EOk Try.prog VG2255 := eok_mk (by exact ⟨c50,c56,c67,trivial⟩)
def Af55 (F : Nat) : Cuts := { F := F,at_ := fun n => match n with | 3050 => some sp36 | 7027 => some sp37 | 10014 => some sp38 | _ => none,join := fun n => match n with | 1060 => some sp39 | 2058 => some sp40 | 3052 => some sp9 | 4001 => some sp9 | 5044 => some sp9 | 6039 => some sp41 | 7029 => some sp42 | 8001 => some sp42 | 9021 => some sp42 | 10016 => some sp43 | 14007 => some sp41 | 16003 => some [(7,.plain)] | _ => none,fin := (some [(6,(.view 3))]) }
def ef55_a : Ty47 → St := fun (a0,a1,a2) => { tmps := [(0,(.vs (.rI .i64 a0) 0 1)),(1,(.vs (.rL .i64 a1) 0 1)),(2,(.int .i64 a2))],heap := [],next := 0,nt := 69,m := 0 }
def ef55j1 : Ty47 → St := fun (t0,t1,t2) => { tmps := [(0,(.vs (.rI .i64 t0) 0 1)),(1,(.vs (.rL .i64 t1) 0 1)),(2,(.int .i64 t2))],heap := [],next := 0,nt := 69,m := 0 }
def ef55j2 : Ty48 → St := fun (t0,t1,x3) => { tmps := [(0,(.vs (.rI .i64 t0) 0 1)),(1,(.vs (.rL .i64 t1) 0 1)),(7,(.own 0 0 1))],heap := [(0,(.cells x3.length (.rI .i64 x3) true))],next := 1,nt := 69,m := 0 }
def ef55j3 : Ty49 → St := fun (t0,t1,t8,x4) => { tmps := [(0,(.vs (.rI .i64 t0) 0 1)),(1,(.vs (.rL .i64 t1) 0 1)),(7,(.own 0 0 1)),(8,(.int .i64 t8))],heap := [(0,(.cells x4.length (.rI .i64 x4) true))],next := 1,nt := 69,m := 0 }
def ef55l1 : Ty50 → St := fun (t0,t1,t7,t8) => { tmps := [(0,(.vs (.rI .i64 t0) 0 1)),(1,(.vs (.rL .i64 t1) 0 1)),(7,(.vs (.rI .i64 t7) 0 1)),(8,(.int .i64 t8))],heap := [],next := 0,nt := 69,m := 0 }
def ef55j4 : Ty50 → St := fun (t0,t1,t7,t8) => { tmps := [(0,(.vs (.rI .i64 t0) 0 1)),(1,(.vs (.rL .i64 t1) 0 1)),(7,(.vs (.rI .i64 t7) 0 1)),(8,(.int .i64 t8))],heap := [],next := 0,nt := 69,m := 0 }
def ef55j5 : Ty51 → St := fun (t0,t1,t7,t8,t9) => { tmps := [(0,(.vs (.rI .i64 t0) 0 1)),(1,(.vs (.rL .i64 t1) 0 1)),(7,(.vs (.rI .i64 t7) 0 1)),(8,(.int .i64 t8)),(9,(.int .i64 t9))],heap := [],next := 0,nt := 69,m := 0 }
def ef55j6 : Ty52 → St := fun (t0,t1,t7,t8,t9,t10) => { tmps := [(0,(.vs (.rI .i64 t0) 0 1)),(1,(.vs (.rL .i64 t1) 0 1)),(7,(.vs (.rI .i64 t7) 0 1)),(8,(.int .i64 t8)),(9,(.int .i64 t9)),(10,(.int .i64 t10))],heap := [],next := 0,nt := 69,m := 0 }
def ef55l2 : Ty52 → St := fun (t0,t1,t7,t8,t9,t10) => { tmps := [(0,(.vs (.rI .i64 t0) 0 1)),(1,(.vs (.rL .i64 t1) 0 1)),(7,(.vs (.rI .i64 t7) 0 1)),(8,(.int .i64 t8)),(9,(.int .i64 t9)),(10,(.int .i64 t10))],heap := [],next := 0,nt := 69,m := 0 }
def ef55j7 : Ty52 → St := fun (t0,t1,t7,t8,t9,t10) => { tmps := [(0,(.vs (.rI .i64 t0) 0 1)),(1,(.vs (.rL .i64 t1) 0 1)),(7,(.vs (.rI .i64 t7) 0 1)),(8,(.int .i64 t8)),(9,(.int .i64 t9)),(10,(.int .i64 t10))],heap := [],next := 0,nt := 69,m := 0 }
def ef55j8 : Ty53 → St := fun (t0,t1,t7,t8,t9,t10,t11) => { tmps := [(0,(.vs (.rI .i64 t0) 0 1)),(1,(.vs (.rL .i64 t1) 0 1)),(7,(.vs (.rI .i64 t7) 0 1)),(8,(.int .i64 t8)),(9,(.int .i64 t9)),(10,(.int .i64 t10)),(11,(.int .i64 t11))],heap := [],next := 0,nt := 69,m := 0 }
def ef55l3 : Ty53 → St := fun (t0,t1,t7,t8,t9,t10,t11) => { tmps := [(0,(.vs (.rI .i64 t0) 0 1)),(1,(.vs (.rL .i64 t1) 0 1)),(7,(.vs (.rI .i64 t7) 0 1)),(8,(.int .i64 t8)),(9,(.int .i64 t9)),(10,(.int .i64 t10)),(11,(.int .i64 t11))],heap := [],next := 0,nt := 69,m := 0 }
def ef55j9 : Ty52 → St := fun (t0,t1,t7,t8,t9,t10) => { tmps := [(0,(.vs (.rI .i64 t0) 0 1)),(1,(.vs (.rL .i64 t1) 0 1)),(7,(.vs (.rI .i64 t7) 0 1)),(8,(.int .i64 t8)),(9,(.int .i64 t9)),(10,(.int .i64 t10))],heap := [],next := 0,nt := 69,m := 0 }
def ef55j10 : Ty51 → St := fun (t0,t1,t7,t8,t9) => { tmps := [(0,(.vs (.rI .i64 t0) 0 1)),(1,(.vs (.rL .i64 t1) 0 1)),(7,(.vs (.rI .i64 t7) 0 1)),(8,(.int .i64 t8)),(9,(.int .i64 t9))],heap := [],next := 0,nt := 69,m := 0 }
def ef55j11 : Ty50 → St := fun (t0,t1,t7,t8) => { tmps := [(0,(.vs (.rI .i64 t0) 0 1)),(1,(.vs (.rL .i64 t1) 0 1)),(7,(.vs (.rI .i64 t7) 0 1)),(8,(.int .i64 t8))],heap := [],next := 0,nt := 69,m := 0 }
def ef55j12 : (List Int) → St := fun t7 => { tmps := [(7,(.vs (.rI .i64 t7) 0 1))],heap := [],next := 0,nt := 69,m := 0 }
def f55_1 (F : Nat) (kf55j1 : Ty47 → Rz) : Ty47 → Rz := fun (a0,a1,a2) => (kf55j1 (a0,a1,a2))
theorem f55_1_eq (F : Nat) (Rf55j1 : St → Rz) : ∀ v,aexec VG2255 (Af55 F) (bp Try.f55 2) (ef55_a v) (kSeq (kc VG2255 Rf55j1 sp39) (kFin VG2255 (some [(6,(.view 3))]) (Try.f55).results.toList)) = f55_1 F (Rf55j1 ∘ ef55j1) v := by
  rintro ⟨a0,a1,a2⟩; kernel_rfl
def f55_2 (F : Nat) (kf55j2 : Ty48 → Rz) : Ty47 → Rz := fun (t0,t1,t2) => (kf55j2 (t0,t1,[t2]))
theorem f55_2_eq (F : Nat) (Rf55j2 : St → Rz) : ∀ v,aexec VG2255 (Af55 F) (bp Try.f55 6) (ef55j1 v) (kSeq (kc VG2255 Rf55j2 sp40) (kFin VG2255 (some [(6,(.view 3))]) (Try.f55).results.toList)) = f55_2 F (Rf55j2 ∘ ef55j2) v := by
  rintro ⟨t0,t1,t2⟩; kernel_rfl
def f55_3 (F : Nat) (kf55j3 : Ty49 → Rz) (kf55j12 : (List Int) → Rz) : Ty48 → Rz := fun (t0,t1,x3) => (kf55j3 (t0,t1,(0 : Int),x3))
theorem f55_3_eq (F : Nat) (Rf55j3 : St → Rz) (Rf55j12 : St → Rz) : ∀ v,aexec VG2255 (Af55 F) (bp Try.f55 28) (ef55j2 v) (kSeq (kc VG2255 Rf55j3 sp9) (kSeq (kc VG2255 Rf55j12 [(7,.plain)]) (kFin VG2255 (some [(6,(.view 3))]) (Try.f55).results.toList))) = f55_3 F (Rf55j3 ∘ ef55j3) (Rf55j12 ∘ ef55j12) v := by
  rintro ⟨t0,t1,x3⟩; kernel_rfl
def f55_4 (F : Nat) (kf55j4 : Ty50 → Rz) (kf55l1 : Ty50 → Rz) (kf55j12 : (List Int) → Rz) : Ty50 → Rz := fun (t0,t1,t7,t8) => (cond (decide (t8 < (↑t0.length : Int))) (kf55j4 (t0,t1,t7,t8)) (kf55j12 t7))
theorem f55_4_eq (F : Nat) (Rf55j4 : St → Rz) (Rf55l1 : St → Rz) (Rf55j12 : St → Rz) : ∀ v,aexec VG2255 (Af55 F) (bp Try.f55 232) (ef55l1 v) (kSeq (kc VG2255 Rf55j4 sp9) (kSeq (kc VG2255 Rf55l1 sp36) (kBlock 0 (kSeq (kc VG2255 Rf55j12 [(7,.plain)]) (kFin VG2255 (some [(6,(.view 3))]) (Try.f55).results.toList))))) = f55_4 F (Rf55j4 ∘ ef55j4) (Rf55l1 ∘ ef55l1) (Rf55j12 ∘ ef55j12) v := by
  rintro ⟨t0,t1,t7,t8⟩; kernel_rfl
def f55_5 (F : Nat) (kf55j5 : Ty51 → Rz) (kf55j11 : Ty50 → Rz) (kf55l1 : Ty50 → Rz) (kf55j12 : (List Int) → Rz) : Ty50 → Rz := fun (t0,t1,t7,t8) => (kf55j5 (t0,t1,t7,t8,(↑t7.length : Int)))
theorem f55_5_eq (F : Nat) (Rf55j5 : St → Rz) (Rf55j11 : St → Rz) (Rf55l1 : St → Rz) (Rf55j12 : St → Rz) : ∀ v,aexec VG2255 (Af55 F) (bp Try.f55 1864) (ef55j4 v) (kSeq (kc VG2255 Rf55j5 sp41) (kBlock 1 (kSeq (kc VG2255 Rf55j11 sp9) (kSeq (kc VG2255 Rf55l1 sp36) (kBlock 0 (kSeq (kc VG2255 Rf55j12 [(7,.plain)]) (kFin VG2255 (some [(6,(.view 3))]) (Try.f55).results.toList))))))) = f55_5 F (Rf55j5 ∘ ef55j5) (Rf55j11 ∘ ef55j11) (Rf55l1 ∘ ef55l1) (Rf55j12 ∘ ef55j12) v := by
  rintro ⟨t0,t1,t7,t8⟩; kernel_rfl
def f55_6 (F : Nat) (kf55j6 : Ty52 → Rz) (kf55j10 : Ty51 → Rz) (kf55j11 : Ty50 → Rz) (kf55l1 : Ty50 → Rz) (kf55j12 : (List Int) → Rz) : Ty51 → Rz := fun (t0,t1,t7,t8,t9) => (kf55j6 (t0,t1,t7,t8,t9,(0 : Int)))
theorem f55_6_eq (F : Nat) (Rf55j6 : St → Rz) (Rf55j10 : St → Rz) (Rf55j11 : St → Rz) (Rf55l1 : St → Rz) (Rf55j12 : St → Rz) : ∀ v,aexec VG2255 (Af55 F) (bp Try.f55 7460) (ef55j5 v) (kSeq (kc VG2255 Rf55j6 sp42) (kSeq (kc VG2255 Rf55j10 sp41) (kBlock 1 (kSeq (kc VG2255 Rf55j11 sp9) (kSeq (kc VG2255 Rf55l1 sp36) (kBlock 0 (kSeq (kc VG2255 Rf55j12 [(7,.plain)]) (kFin VG2255 (some [(6,(.view 3))]) (Try.f55).results.toList)))))))) = f55_6 F (Rf55j6 ∘ ef55j6) (Rf55j10 ∘ ef55j10) (Rf55j11 ∘ ef55j11) (Rf55l1 ∘ ef55l1) (Rf55j12 ∘ ef55j12) v := by
  rintro ⟨t0,t1,t7,t8,t9⟩; kernel_rfl
def f55_7 (F : Nat) (kf55j7 : Ty52 → Rz) (kf55l2 : Ty52 → Rz) (kf55j10 : Ty51 → Rz) (kf55j11 : Ty50 → Rz) (kf55l1 : Ty50 → Rz) (kf55j12 : (List Int) → Rz) : Ty52 → Rz := fun (t0,t1,t7,t8,t9,t10) => (cond (decide (t10 < (↑t1.length : Int))) (kf55j7 (t0,t1,t7,t8,t9,t10)) (kf55j10 (t0,t1,t7,t8,t9)))
theorem f55_7_eq (F : Nat) (Rf55j7 : St → Rz) (Rf55l2 : St → Rz) (Rf55j10 : St → Rz) (Rf55j11 : St → Rz) (Rf55l1 : St → Rz) (Rf55j12 : St → Rz) : ∀ v,aexec VG2255 (Af55 F) (bp Try.f55 59688) (ef55l2 v) (kSeq (kc VG2255 Rf55j7 sp42) (kSeq (kc VG2255 Rf55l2 sp37) (kBlock 2 (kSeq (kc VG2255 Rf55j10 sp41) (kBlock 1 (kSeq (kc VG2255 Rf55j11 sp9) (kSeq (kc VG2255 Rf55l1 sp36) (kBlock 0 (kSeq (kc VG2255 Rf55j12 [(7,.plain)]) (kFin VG2255 (some [(6,(.view 3))]) (Try.f55).results.toList)))))))))) = f55_7 F (Rf55j7 ∘ ef55j7) (Rf55l2 ∘ ef55l2) (Rf55j10 ∘ ef55j10) (Rf55j11 ∘ ef55j11) (Rf55l1 ∘ ef55l1) (Rf55j12 ∘ ef55j12) v := by
  rintro ⟨t0,t1,t7,t8,t9,t10⟩; kernel_rfl
def f55_8 (F : Nat) (kf55j8 : Ty53 → Rz) (kf55j9 : Ty52 → Rz) (kf55l2 : Ty52 → Rz) (kf55j10 : Ty51 → Rz) (kf55j11 : Ty50 → Rz) (kf55l1 : Ty50 → Rz) (kf55j12 : (List Int) → Rz) : Ty52 → Rz := fun (t0,t1,t7,t8,t9,t10) => (kf55j8 (t0,t1,t7,t8,t9,t10,(0 : Int)))
theorem f55_8_eq (F : Nat) (Rf55j8 : St → Rz) (Rf55j9 : St → Rz) (Rf55l2 : St → Rz) (Rf55j10 : St → Rz) (Rf55j11 : St → Rz) (Rf55l1 : St → Rz) (Rf55j12 : St → Rz) : ∀ v,aexec VG2255 (Af55 F) (bp Try.f55 477512) (ef55j7 v) (kSeq (kc VG2255 Rf55j8 sp43) (kBlock 3 (kSeq (kc VG2255 Rf55j9 sp42) (kSeq (kc VG2255 Rf55l2 sp37) (kBlock 2 (kSeq (kc VG2255 Rf55j10 sp41) (kBlock 1 (kSeq (kc VG2255 Rf55j11 sp9) (kSeq (kc VG2255 Rf55l1 sp36) (kBlock 0 (kSeq (kc VG2255 Rf55j12 [(7,.plain)]) (kFin VG2255 (some [(6,(.view 3))]) (Try.f55).results.toList)))))))))))) = f55_8 F (Rf55j8 ∘ ef55j8) (Rf55j9 ∘ ef55j9) (Rf55l2 ∘ ef55l2) (Rf55j10 ∘ ef55j10) (Rf55j11 ∘ ef55j11) (Rf55l1 ∘ ef55l1) (Rf55j12 ∘ ef55j12) v := by
  rintro ⟨t0,t1,t7,t8,t9,t10⟩; kernel_rfl
def f55_9 (F : Nat) (kf55l3 : Ty53 → Rz) (kf55j9 : Ty52 → Rz) (kf55l2 : Ty52 → Rz) (kf55j10 : Ty51 → Rz) (kf55j11 : Ty50 → Rz) (kf55l1 : Ty50 → Rz) (kf55j12 : (List Int) → Rz) : Ty53 → Rz := fun (t0,t1,t7,t8,t9,t10,t11) => (cond ((decide (0 ≤ t10)) && (decide (t10 < (↑t1.length : Int)))) (cond (decide (t11 < (↑(t1.getD (Int.toNat t10) []).length : Int))) (cond ((decide (0 ≤ t10)) && (decide (t10 < (↑t1.length : Int)))) (cond (Isl.meets t7 (t1.getD (Int.toNat t10) [])) (cond ((decide (0 ≤ t10)) && (decide (t10 < (↑t1.length : Int)))) (cond ((decide (0 ≤ t11)) && (decide (t11 < (↑(t1.getD (Int.toNat t10) []).length : Int)))) (cond (t0.any (fun y => y == ((t1.getD (Int.toNat t10) []).getD (Int.toNat t11) 0))) (cond ((decide (0 ≤ t10)) && (decide (t10 < (↑t1.length : Int)))) (cond ((decide (0 ≤ t11)) && (decide (t11 < (↑(t1.getD (Int.toNat t10) []).length : Int)))) (cond (decide (t7.length < 1073741000)) (kf55l3 (t0,t1,(Isl.ins t7 ((t1.getD (Int.toNat t10) []).getD (Int.toNat t11) 0)),t8,t9,t10,(IntKind.i64.wrap (t11 + (1 : Int))))) none) none) none) (kf55l3 (t0,t1,t7,t8,t9,t10,(IntKind.i64.wrap (t11 + (1 : Int)))))) none) none) (kf55j9 (t0,t1,t7,t8,t9,t10))) none) (kf55j9 (t0,t1,t7,t8,t9,t10))) none)
theorem f55_9_eq (F : Nat) (Rf55l3 : St → Rz) (Rf55j9 : St → Rz) (Rf55l2 : St → Rz) (Rf55j10 : St → Rz) (Rf55j11 : St → Rz) (Rf55l1 : St → Rz) (Rf55j12 : St → Rz) : ∀ v,aexec VG2255 (Af55 F) (bp Try.f55 1910052) (ef55l3 v) (kSeq (kc VG2255 Rf55l3 sp38) (kBlock 4 (kBlock 3 (kSeq (kc VG2255 Rf55j9 sp42) (kSeq (kc VG2255 Rf55l2 sp37) (kBlock 2 (kSeq (kc VG2255 Rf55j10 sp41) (kBlock 1 (kSeq (kc VG2255 Rf55j11 sp9) (kSeq (kc VG2255 Rf55l1 sp36) (kBlock 0 (kSeq (kc VG2255 Rf55j12 [(7,.plain)]) (kFin VG2255 (some [(6,(.view 3))]) (Try.f55).results.toList))))))))))))) = f55_9 F (Rf55l3 ∘ ef55l3) (Rf55j9 ∘ ef55j9) (Rf55l2 ∘ ef55l2) (Rf55j10 ∘ ef55j10) (Rf55j11 ∘ ef55j11) (Rf55l1 ∘ ef55l1) (Rf55j12 ∘ ef55j12) v := by
  rintro ⟨t0,t1,t7,t8,t9,t10,t11⟩; kernel_rfl
def f55_10_i : Ty53 → (List Int) × (List (List Int)) × (List Int) × Int × Int × Int × Int := fun (t0,t1,t7,t8,t9,t10,t11) => (t0,t1,t7,t8,t9,t10,t11)
def f55_10 (F : Nat) (kf55j9 : Ty52 → Rz) (kf55l2 : Ty52 → Rz) (kf55j10 : Ty51 → Rz) (kf55j11 : Ty50 → Rz) (kf55l1 : Ty50 → Rz) (kf55j12 : (List Int) → Rz) : Ty53 → Rz := fun v => loopN (fun k => f55_9 F k kf55j9 kf55l2 kf55j10 kf55j11 kf55l1 kf55j12) F (f55_10_i v)
theorem f55_10_eq (F : Nat) (Rf55j9 : St → Rz) (Rf55l2 : St → Rz) (Rf55j10 : St → Rz) (Rf55j11 : St → Rz) (Rf55l1 : St → Rz) (Rf55j12 : St → Rz) : ∀ v,aexec VG2255 (Af55 F) (bp Try.f55 955026) (ef55j8 v) (kBlock 4 (kBlock 3 (kSeq (kc VG2255 Rf55j9 sp42) (kSeq (kc VG2255 Rf55l2 sp37) (kBlock 2 (kSeq (kc VG2255 Rf55j10 sp41) (kBlock 1 (kSeq (kc VG2255 Rf55j11 sp9) (kSeq (kc VG2255 Rf55l1 sp36) (kBlock 0 (kSeq (kc VG2255 Rf55j12 [(7,.plain)]) (kFin VG2255 (some [(6,(.view 3))]) (Try.f55).results.toList)))))))))))) = f55_10 F (Rf55j9 ∘ ef55j9) (Rf55l2 ∘ ef55l2) (Rf55j10 ∘ ef55j10) (Rf55j11 ∘ ef55j11) (Rf55l1 ∘ ef55l1) (Rf55j12 ∘ ef55j12) v :=
  loop_cut (by kernel_rfl) (by kernel_rfl) ef55j8 ef55l3 _ f55_10_i (fun k => f55_9 F k (Rf55j9 ∘ ef55j9) (Rf55l2 ∘ ef55l2) (Rf55j10 ∘ ef55j10) (Rf55j11 ∘ ef55j11) (Rf55l1 ∘ ef55l1) (Rf55j12 ∘ ef55j12))
    (by rintro ⟨t0,t1,t7,t8,t9,t10,t11⟩; kernel_rfl) (fun Rf55l3 => f55_9_eq F Rf55l3 Rf55j9 Rf55l2 Rf55j10 Rf55j11 Rf55l1 Rf55j12)
def f55_11 (F : Nat) (kf55j9 : Ty52 → Rz) (kf55l2 : Ty52 → Rz) (kf55j10 : Ty51 → Rz) (kf55j11 : Ty50 → Rz) (kf55l1 : Ty50 → Rz) (kf55j12 : (List Int) → Rz) : Ty53 → Rz := f55_10 F kf55j9 kf55l2 kf55j10 kf55j11 kf55l1 kf55j12
theorem f55_11_eq (F : Nat) (Rf55j9 : St → Rz) (Rf55l2 : St → Rz) (Rf55j10 : St → Rz) (Rf55j11 : St → Rz) (Rf55l1 : St → Rz) (Rf55j12 : St → Rz) : ∀ v,aexec VG2255 (Af55 F) (bp Try.f55 477513) (ef55j8 v) (kBlock 3 (kSeq (kc VG2255 Rf55j9 sp42) (kSeq (kc VG2255 Rf55l2 sp37) (kBlock 2 (kSeq (kc VG2255 Rf55j10 sp41) (kBlock 1 (kSeq (kc VG2255 Rf55j11 sp9) (kSeq (kc VG2255 Rf55l1 sp36) (kBlock 0 (kSeq (kc VG2255 Rf55j12 [(7,.plain)]) (kFin VG2255 (some [(6,(.view 3))]) (Try.f55).results.toList))))))))))) = f55_11 F (Rf55j9 ∘ ef55j9) (Rf55l2 ∘ ef55l2) (Rf55j10 ∘ ef55j10) (Rf55j11 ∘ ef55j11) (Rf55l1 ∘ ef55l1) (Rf55j12 ∘ ef55j12) v := fun v =>
  (block_in  (by kernel_rfl) _ _).trans (f55_10_eq F Rf55j9 Rf55l2 Rf55j10 Rf55j11 Rf55l1 Rf55j12 v)
def f55_12 (F : Nat) (kf55j9 : Ty52 → Rz) (kf55l2 : Ty52 → Rz) (kf55j10 : Ty51 → Rz) (kf55j11 : Ty50 → Rz) (kf55l1 : Ty50 → Rz) (kf55j12 : (List Int) → Rz) : Ty52 → Rz := fun v => f55_8 F (f55_11 F kf55j9 kf55l2 kf55j10 kf55j11 kf55l1 kf55j12) kf55j9 kf55l2 kf55j10 kf55j11 kf55l1 kf55j12 v
theorem f55_12_eq (F : Nat) (Rf55j9 : St → Rz) (Rf55l2 : St → Rz) (Rf55j10 : St → Rz) (Rf55j11 : St → Rz) (Rf55l1 : St → Rz) (Rf55j12 : St → Rz) : ∀ v,aexec VG2255 (Af55 F) (bp Try.f55 238756) (ef55j7 v) (kBlock 3 (kSeq (kc VG2255 Rf55j9 sp42) (kSeq (kc VG2255 Rf55l2 sp37) (kBlock 2 (kSeq (kc VG2255 Rf55j10 sp41) (kBlock 1 (kSeq (kc VG2255 Rf55j11 sp9) (kSeq (kc VG2255 Rf55l1 sp36) (kBlock 0 (kSeq (kc VG2255 Rf55j12 [(7,.plain)]) (kFin VG2255 (some [(6,(.view 3))]) (Try.f55).results.toList))))))))))) = f55_12 F (Rf55j9 ∘ ef55j9) (Rf55l2 ∘ ef55l2) (Rf55j10 ∘ ef55j10) (Rf55j11 ∘ ef55j11) (Rf55l1 ∘ ef55l1) (Rf55j12 ∘ ef55j12) v :=
  seq_cut (by kernel_rfl) (by kernel_rfl) ef55j7 ef55j8 _ (fun k => f55_8 F k (Rf55j9 ∘ ef55j9) (Rf55l2 ∘ ef55l2) (Rf55j10 ∘ ef55j10) (Rf55j11 ∘ ef55j11) (Rf55l1 ∘ ef55l1) (Rf55j12 ∘ ef55j12)) (f55_11 F (Rf55j9 ∘ ef55j9) (Rf55l2 ∘ ef55l2) (Rf55j10 ∘ ef55j10) (Rf55j11 ∘ ef55j11) (Rf55l1 ∘ ef55l1) (Rf55j12 ∘ ef55j12))
    (fun Rf55j8 => f55_8_eq F Rf55j8 Rf55j9 Rf55l2 Rf55j10 Rf55j11 Rf55l1 Rf55j12) (f55_11_eq F Rf55j9 Rf55l2 Rf55j10 Rf55j11 Rf55l1 Rf55j12)
def f55_13 (F : Nat) (kf55j9 : Ty52 → Rz) (kf55l2 : Ty52 → Rz) (kf55j10 : Ty51 → Rz) (kf55j11 : Ty50 → Rz) (kf55l1 : Ty50 → Rz) (kf55j12 : (List Int) → Rz) : Ty52 → Rz := f55_12 F kf55j9 kf55l2 kf55j10 kf55j11 kf55l1 kf55j12
theorem f55_13_eq (F : Nat) (Rf55j9 : St → Rz) (Rf55l2 : St → Rz) (Rf55j10 : St → Rz) (Rf55j11 : St → Rz) (Rf55l1 : St → Rz) (Rf55j12 : St → Rz) : ∀ v,aexec VG2255 (Af55 F) (bp Try.f55 119378) (ef55j7 v) (kSeq (kc VG2255 Rf55j9 sp42) (kSeq (kc VG2255 Rf55l2 sp37) (kBlock 2 (kSeq (kc VG2255 Rf55j10 sp41) (kBlock 1 (kSeq (kc VG2255 Rf55j11 sp9) (kSeq (kc VG2255 Rf55l1 sp36) (kBlock 0 (kSeq (kc VG2255 Rf55j12 [(7,.plain)]) (kFin VG2255 (some [(6,(.view 3))]) (Try.f55).results.toList)))))))))) = f55_13 F (Rf55j9 ∘ ef55j9) (Rf55l2 ∘ ef55l2) (Rf55j10 ∘ ef55j10) (Rf55j11 ∘ ef55j11) (Rf55l1 ∘ ef55l1) (Rf55j12 ∘ ef55j12) v := fun v =>
  (block_in  (by kernel_rfl) _ _).trans (f55_12_eq F Rf55j9 Rf55l2 Rf55j10 Rf55j11 Rf55l1 Rf55j12 v)
def f55_14 (F : Nat) (kf55l2 : Ty52 → Rz) (kf55j10 : Ty51 → Rz) (kf55j11 : Ty50 → Rz) (kf55l1 : Ty50 → Rz) (kf55j12 : (List Int) → Rz) : Ty52 → Rz := fun (t0,t1,t7,t8,t9,t10) => (kf55l2 (t0,t1,t7,t8,t9,(IntKind.i64.wrap (t10 + (1 : Int)))))
theorem f55_14_eq (F : Nat) (Rf55l2 : St → Rz) (Rf55j10 : St → Rz) (Rf55j11 : St → Rz) (Rf55l1 : St → Rz) (Rf55j12 : St → Rz) : ∀ v,aexec VG2255 (Af55 F) (bp Try.f55 119379) (ef55j9 v) (kSeq (kc VG2255 Rf55l2 sp37) (kBlock 2 (kSeq (kc VG2255 Rf55j10 sp41) (kBlock 1 (kSeq (kc VG2255 Rf55j11 sp9) (kSeq (kc VG2255 Rf55l1 sp36) (kBlock 0 (kSeq (kc VG2255 Rf55j12 [(7,.plain)]) (kFin VG2255 (some [(6,(.view 3))]) (Try.f55).results.toList))))))))) = f55_14 F (Rf55l2 ∘ ef55l2) (Rf55j10 ∘ ef55j10) (Rf55j11 ∘ ef55j11) (Rf55l1 ∘ ef55l1) (Rf55j12 ∘ ef55j12) v := by
  rintro ⟨t0,t1,t7,t8,t9,t10⟩; kernel_rfl
def f55_15 (F : Nat) (kf55l2 : Ty52 → Rz) (kf55j10 : Ty51 → Rz) (kf55j11 : Ty50 → Rz) (kf55l1 : Ty50 → Rz) (kf55j12 : (List Int) → Rz) : Ty52 → Rz := fun v => f55_13 F (f55_14 F kf55l2 kf55j10 kf55j11 kf55l1 kf55j12) kf55l2 kf55j10 kf55j11 kf55l1 kf55j12 v
theorem f55_15_eq (F : Nat) (Rf55l2 : St → Rz) (Rf55j10 : St → Rz) (Rf55j11 : St → Rz) (Rf55l1 : St → Rz) (Rf55j12 : St → Rz) : ∀ v,aexec VG2255 (Af55 F) (bp Try.f55 59689) (ef55j7 v) (kSeq (kc VG2255 Rf55l2 sp37) (kBlock 2 (kSeq (kc VG2255 Rf55j10 sp41) (kBlock 1 (kSeq (kc VG2255 Rf55j11 sp9) (kSeq (kc VG2255 Rf55l1 sp36) (kBlock 0 (kSeq (kc VG2255 Rf55j12 [(7,.plain)]) (kFin VG2255 (some [(6,(.view 3))]) (Try.f55).results.toList))))))))) = f55_15 F (Rf55l2 ∘ ef55l2) (Rf55j10 ∘ ef55j10) (Rf55j11 ∘ ef55j11) (Rf55l1 ∘ ef55l1) (Rf55j12 ∘ ef55j12) v :=
  seq_cut (by kernel_rfl) (by kernel_rfl) ef55j7 ef55j9 _ (fun k => f55_13 F k (Rf55l2 ∘ ef55l2) (Rf55j10 ∘ ef55j10) (Rf55j11 ∘ ef55j11) (Rf55l1 ∘ ef55l1) (Rf55j12 ∘ ef55j12)) (f55_14 F (Rf55l2 ∘ ef55l2) (Rf55j10 ∘ ef55j10) (Rf55j11 ∘ ef55j11) (Rf55l1 ∘ ef55l1) (Rf55j12 ∘ ef55j12))
    (fun Rf55j9 => f55_13_eq F Rf55j9 Rf55l2 Rf55j10 Rf55j11 Rf55l1 Rf55j12) (f55_14_eq F Rf55l2 Rf55j10 Rf55j11 Rf55l1 Rf55j12)
def f55_16 (F : Nat) (kf55l2 : Ty52 → Rz) (kf55j10 : Ty51 → Rz) (kf55j11 : Ty50 → Rz) (kf55l1 : Ty50 → Rz) (kf55j12 : (List Int) → Rz) : Ty52 → Rz := fun v => f55_7 F (f55_15 F kf55l2 kf55j10 kf55j11 kf55l1 kf55j12) kf55l2 kf55j10 kf55j11 kf55l1 kf55j12 v
theorem f55_16_eq (F : Nat) (Rf55l2 : St → Rz) (Rf55j10 : St → Rz) (Rf55j11 : St → Rz) (Rf55l1 : St → Rz) (Rf55j12 : St → Rz) : ∀ v,aexec VG2255 (Af55 F) (bp Try.f55 29844) (ef55l2 v) (kSeq (kc VG2255 Rf55l2 sp37) (kBlock 2 (kSeq (kc VG2255 Rf55j10 sp41) (kBlock 1 (kSeq (kc VG2255 Rf55j11 sp9) (kSeq (kc VG2255 Rf55l1 sp36) (kBlock 0 (kSeq (kc VG2255 Rf55j12 [(7,.plain)]) (kFin VG2255 (some [(6,(.view 3))]) (Try.f55).results.toList))))))))) = f55_16 F (Rf55l2 ∘ ef55l2) (Rf55j10 ∘ ef55j10) (Rf55j11 ∘ ef55j11) (Rf55l1 ∘ ef55l1) (Rf55j12 ∘ ef55j12) v :=
  seq_cut (by kernel_rfl) (by kernel_rfl) ef55l2 ef55j7 _ (fun k => f55_7 F k (Rf55l2 ∘ ef55l2) (Rf55j10 ∘ ef55j10) (Rf55j11 ∘ ef55j11) (Rf55l1 ∘ ef55l1) (Rf55j12 ∘ ef55j12)) (f55_15 F (Rf55l2 ∘ ef55l2) (Rf55j10 ∘ ef55j10) (Rf55j11 ∘ ef55j11) (Rf55l1 ∘ ef55l1) (Rf55j12 ∘ ef55j12))
    (fun Rf55j7 => f55_7_eq F Rf55j7 Rf55l2 Rf55j10 Rf55j11 Rf55l1 Rf55j12) (f55_15_eq F Rf55l2 Rf55j10 Rf55j11 Rf55l1 Rf55j12)
def f55_17_i : Ty52 → (List Int) × (List (List Int)) × (List Int) × Int × Int × Int := fun (t0,t1,t7,t8,t9,t10) => (t0,t1,t7,t8,t9,t10)
def f55_17 (F : Nat) (kf55j10 : Ty51 → Rz) (kf55j11 : Ty50 → Rz) (kf55l1 : Ty50 → Rz) (kf55j12 : (List Int) → Rz) : Ty52 → Rz := fun v => loopN (fun k => f55_16 F k kf55j10 kf55j11 kf55l1 kf55j12) F (f55_17_i v)
theorem f55_17_eq (F : Nat) (Rf55j10 : St → Rz) (Rf55j11 : St → Rz) (Rf55l1 : St → Rz) (Rf55j12 : St → Rz) : ∀ v,aexec VG2255 (Af55 F) (bp Try.f55 14922) (ef55j6 v) (kBlock 2 (kSeq (kc VG2255 Rf55j10 sp41) (kBlock 1 (kSeq (kc VG2255 Rf55j11 sp9) (kSeq (kc VG2255 Rf55l1 sp36) (kBlock 0 (kSeq (kc VG2255 Rf55j12 [(7,.plain)]) (kFin VG2255 (some [(6,(.view 3))]) (Try.f55).results.toList)))))))) = f55_17 F (Rf55j10 ∘ ef55j10) (Rf55j11 ∘ ef55j11) (Rf55l1 ∘ ef55l1) (Rf55j12 ∘ ef55j12) v :=
  loop_cut (by kernel_rfl) (by kernel_rfl) ef55j6 ef55l2 _ f55_17_i (fun k => f55_16 F k (Rf55j10 ∘ ef55j10) (Rf55j11 ∘ ef55j11) (Rf55l1 ∘ ef55l1) (Rf55j12 ∘ ef55j12))
    (by rintro ⟨t0,t1,t7,t8,t9,t10⟩; kernel_rfl) (fun Rf55l2 => f55_16_eq F Rf55l2 Rf55j10 Rf55j11 Rf55l1 Rf55j12)
def f55_18 (F : Nat) (kf55j10 : Ty51 → Rz) (kf55j11 : Ty50 → Rz) (kf55l1 : Ty50 → Rz) (kf55j12 : (List Int) → Rz) : Ty52 → Rz := f55_17 F kf55j10 kf55j11 kf55l1 kf55j12
theorem f55_18_eq (F : Nat) (Rf55j10 : St → Rz) (Rf55j11 : St → Rz) (Rf55l1 : St → Rz) (Rf55j12 : St → Rz) : ∀ v,aexec VG2255 (Af55 F) (bp Try.f55 7461) (ef55j6 v) (kSeq (kc VG2255 Rf55j10 sp41) (kBlock 1 (kSeq (kc VG2255 Rf55j11 sp9) (kSeq (kc VG2255 Rf55l1 sp36) (kBlock 0 (kSeq (kc VG2255 Rf55j12 [(7,.plain)]) (kFin VG2255 (some [(6,(.view 3))]) (Try.f55).results.toList))))))) = f55_18 F (Rf55j10 ∘ ef55j10) (Rf55j11 ∘ ef55j11) (Rf55l1 ∘ ef55l1) (Rf55j12 ∘ ef55j12) v := fun v =>
  (block_in  (by kernel_rfl) _ _).trans (f55_17_eq F Rf55j10 Rf55j11 Rf55l1 Rf55j12 v)
def f55_19 (F : Nat) (kf55j10 : Ty51 → Rz) (kf55j11 : Ty50 → Rz) (kf55l1 : Ty50 → Rz) (kf55j12 : (List Int) → Rz) : Ty51 → Rz := fun v => f55_6 F (f55_18 F kf55j10 kf55j11 kf55l1 kf55j12) kf55j10 kf55j11 kf55l1 kf55j12 v
theorem f55_19_eq (F : Nat) (Rf55j10 : St → Rz) (Rf55j11 : St → Rz) (Rf55l1 : St → Rz) (Rf55j12 : St → Rz) : ∀ v,aexec VG2255 (Af55 F) (bp Try.f55 3730) (ef55j5 v) (kSeq (kc VG2255 Rf55j10 sp41) (kBlock 1 (kSeq (kc VG2255 Rf55j11 sp9) (kSeq (kc VG2255 Rf55l1 sp36) (kBlock 0 (kSeq (kc VG2255 Rf55j12 [(7,.plain)]) (kFin VG2255 (some [(6,(.view 3))]) (Try.f55).results.toList))))))) = f55_19 F (Rf55j10 ∘ ef55j10) (Rf55j11 ∘ ef55j11) (Rf55l1 ∘ ef55l1) (Rf55j12 ∘ ef55j12) v :=
  seq_cut (by kernel_rfl) (by kernel_rfl) ef55j5 ef55j6 _ (fun k => f55_6 F k (Rf55j10 ∘ ef55j10) (Rf55j11 ∘ ef55j11) (Rf55l1 ∘ ef55l1) (Rf55j12 ∘ ef55j12)) (f55_18 F (Rf55j10 ∘ ef55j10) (Rf55j11 ∘ ef55j11) (Rf55l1 ∘ ef55l1) (Rf55j12 ∘ ef55j12))
    (fun Rf55j6 => f55_6_eq F Rf55j6 Rf55j10 Rf55j11 Rf55l1 Rf55j12) (f55_18_eq F Rf55j10 Rf55j11 Rf55l1 Rf55j12)
def f55_20 (F : Nat) (kf55j11 : Ty50 → Rz) (kf55l1 : Ty50 → Rz) (kf55j12 : (List Int) → Rz) : Ty51 → Rz := fun (t0,t1,t7,t8,t9) => (cond ((↑t7.length : Int) == t9) (some ((.vs (.rI .i64 t7) 0 1),[])) (kf55j11 (t0,t1,t7,t8)))
theorem f55_20_eq (F : Nat) (Rf55j11 : St → Rz) (Rf55l1 : St → Rz) (Rf55j12 : St → Rz) : ∀ v,aexec VG2255 (Af55 F) (bp Try.f55 3731) (ef55j10 v) (kBlock 1 (kSeq (kc VG2255 Rf55j11 sp9) (kSeq (kc VG2255 Rf55l1 sp36) (kBlock 0 (kSeq (kc VG2255 Rf55j12 [(7,.plain)]) (kFin VG2255 (some [(6,(.view 3))]) (Try.f55).results.toList)))))) = f55_20 F (Rf55j11 ∘ ef55j11) (Rf55l1 ∘ ef55l1) (Rf55j12 ∘ ef55j12) v := by
  rintro ⟨t0,t1,t7,t8,t9⟩; kernel_rfl
def f55_21 (F : Nat) (kf55j11 : Ty50 → Rz) (kf55l1 : Ty50 → Rz) (kf55j12 : (List Int) → Rz) : Ty51 → Rz := fun v => f55_19 F (f55_20 F kf55j11 kf55l1 kf55j12) kf55j11 kf55l1 kf55j12 v
theorem f55_21_eq (F : Nat) (Rf55j11 : St → Rz) (Rf55l1 : St → Rz) (Rf55j12 : St → Rz) : ∀ v,aexec VG2255 (Af55 F) (bp Try.f55 1865) (ef55j5 v) (kBlock 1 (kSeq (kc VG2255 Rf55j11 sp9) (kSeq (kc VG2255 Rf55l1 sp36) (kBlock 0 (kSeq (kc VG2255 Rf55j12 [(7,.plain)]) (kFin VG2255 (some [(6,(.view 3))]) (Try.f55).results.toList)))))) = f55_21 F (Rf55j11 ∘ ef55j11) (Rf55l1 ∘ ef55l1) (Rf55j12 ∘ ef55j12) v :=
  seq_cut (by kernel_rfl) (by kernel_rfl) ef55j5 ef55j10 _ (fun k => f55_19 F k (Rf55j11 ∘ ef55j11) (Rf55l1 ∘ ef55l1) (Rf55j12 ∘ ef55j12)) (f55_20 F (Rf55j11 ∘ ef55j11) (Rf55l1 ∘ ef55l1) (Rf55j12 ∘ ef55j12))
    (fun Rf55j10 => f55_19_eq F Rf55j10 Rf55j11 Rf55l1 Rf55j12) (f55_20_eq F Rf55j11 Rf55l1 Rf55j12)
def f55_22 (F : Nat) (kf55j11 : Ty50 → Rz) (kf55l1 : Ty50 → Rz) (kf55j12 : (List Int) → Rz) : Ty50 → Rz := fun v => f55_5 F (f55_21 F kf55j11 kf55l1 kf55j12) kf55j11 kf55l1 kf55j12 v
theorem f55_22_eq (F : Nat) (Rf55j11 : St → Rz) (Rf55l1 : St → Rz) (Rf55j12 : St → Rz) : ∀ v,aexec VG2255 (Af55 F) (bp Try.f55 932) (ef55j4 v) (kBlock 1 (kSeq (kc VG2255 Rf55j11 sp9) (kSeq (kc VG2255 Rf55l1 sp36) (kBlock 0 (kSeq (kc VG2255 Rf55j12 [(7,.plain)]) (kFin VG2255 (some [(6,(.view 3))]) (Try.f55).results.toList)))))) = f55_22 F (Rf55j11 ∘ ef55j11) (Rf55l1 ∘ ef55l1) (Rf55j12 ∘ ef55j12) v :=
  seq_cut (by kernel_rfl) (by kernel_rfl) ef55j4 ef55j5 _ (fun k => f55_5 F k (Rf55j11 ∘ ef55j11) (Rf55l1 ∘ ef55l1) (Rf55j12 ∘ ef55j12)) (f55_21 F (Rf55j11 ∘ ef55j11) (Rf55l1 ∘ ef55l1) (Rf55j12 ∘ ef55j12))
    (fun Rf55j5 => f55_5_eq F Rf55j5 Rf55j11 Rf55l1 Rf55j12) (f55_21_eq F Rf55j11 Rf55l1 Rf55j12)
def f55_23 (F : Nat) (kf55j11 : Ty50 → Rz) (kf55l1 : Ty50 → Rz) (kf55j12 : (List Int) → Rz) : Ty50 → Rz := f55_22 F kf55j11 kf55l1 kf55j12
theorem f55_23_eq (F : Nat) (Rf55j11 : St → Rz) (Rf55l1 : St → Rz) (Rf55j12 : St → Rz) : ∀ v,aexec VG2255 (Af55 F) (bp Try.f55 466) (ef55j4 v) (kSeq (kc VG2255 Rf55j11 sp9) (kSeq (kc VG2255 Rf55l1 sp36) (kBlock 0 (kSeq (kc VG2255 Rf55j12 [(7,.plain)]) (kFin VG2255 (some [(6,(.view 3))]) (Try.f55).results.toList))))) = f55_23 F (Rf55j11 ∘ ef55j11) (Rf55l1 ∘ ef55l1) (Rf55j12 ∘ ef55j12) v := fun v =>
  (block_in  (by kernel_rfl) _ _).trans (f55_22_eq F Rf55j11 Rf55l1 Rf55j12 v)
def f55_24 (F : Nat) (kf55l1 : Ty50 → Rz) (kf55j12 : (List Int) → Rz) : Ty50 → Rz := fun (t0,t1,t7,t8) => (kf55l1 (t0,t1,t7,(IntKind.i64.wrap (t8 + (1 : Int)))))
theorem f55_24_eq (F : Nat) (Rf55l1 : St → Rz) (Rf55j12 : St → Rz) : ∀ v,aexec VG2255 (Af55 F) (bp Try.f55 467) (ef55j11 v) (kSeq (kc VG2255 Rf55l1 sp36) (kBlock 0 (kSeq (kc VG2255 Rf55j12 [(7,.plain)]) (kFin VG2255 (some [(6,(.view 3))]) (Try.f55).results.toList)))) = f55_24 F (Rf55l1 ∘ ef55l1) (Rf55j12 ∘ ef55j12) v := by
  rintro ⟨t0,t1,t7,t8⟩; kernel_rfl
def f55_25 (F : Nat) (kf55l1 : Ty50 → Rz) (kf55j12 : (List Int) → Rz) : Ty50 → Rz := fun v => f55_23 F (f55_24 F kf55l1 kf55j12) kf55l1 kf55j12 v
theorem f55_25_eq (F : Nat) (Rf55l1 : St → Rz) (Rf55j12 : St → Rz) : ∀ v,aexec VG2255 (Af55 F) (bp Try.f55 233) (ef55j4 v) (kSeq (kc VG2255 Rf55l1 sp36) (kBlock 0 (kSeq (kc VG2255 Rf55j12 [(7,.plain)]) (kFin VG2255 (some [(6,(.view 3))]) (Try.f55).results.toList)))) = f55_25 F (Rf55l1 ∘ ef55l1) (Rf55j12 ∘ ef55j12) v :=
  seq_cut (by kernel_rfl) (by kernel_rfl) ef55j4 ef55j11 _ (fun k => f55_23 F k (Rf55l1 ∘ ef55l1) (Rf55j12 ∘ ef55j12)) (f55_24 F (Rf55l1 ∘ ef55l1) (Rf55j12 ∘ ef55j12))
    (fun Rf55j11 => f55_23_eq F Rf55j11 Rf55l1 Rf55j12) (f55_24_eq F Rf55l1 Rf55j12)
def f55_26 (F : Nat) (kf55l1 : Ty50 → Rz) (kf55j12 : (List Int) → Rz) : Ty50 → Rz := fun v => f55_4 F (f55_25 F kf55l1 kf55j12) kf55l1 kf55j12 v
theorem f55_26_eq (F : Nat) (Rf55l1 : St → Rz) (Rf55j12 : St → Rz) : ∀ v,aexec VG2255 (Af55 F) (bp Try.f55 116) (ef55l1 v) (kSeq (kc VG2255 Rf55l1 sp36) (kBlock 0 (kSeq (kc VG2255 Rf55j12 [(7,.plain)]) (kFin VG2255 (some [(6,(.view 3))]) (Try.f55).results.toList)))) = f55_26 F (Rf55l1 ∘ ef55l1) (Rf55j12 ∘ ef55j12) v :=
  seq_cut (by kernel_rfl) (by kernel_rfl) ef55l1 ef55j4 _ (fun k => f55_4 F k (Rf55l1 ∘ ef55l1) (Rf55j12 ∘ ef55j12)) (f55_25 F (Rf55l1 ∘ ef55l1) (Rf55j12 ∘ ef55j12))
    (fun Rf55j4 => f55_4_eq F Rf55j4 Rf55l1 Rf55j12) (f55_25_eq F Rf55l1 Rf55j12)
def f55_27_i : Ty49 → (List Int) × (List (List Int)) × (List Int) × Int := fun (t0,t1,t8,x4) => (t0,t1,x4,t8)
def f55_27 (F : Nat) (kf55j12 : (List Int) → Rz) : Ty49 → Rz := fun v => loopN (fun k => f55_26 F k kf55j12) F (f55_27_i v)
theorem f55_27_eq (F : Nat) (Rf55j12 : St → Rz) : ∀ v,aexec VG2255 (Af55 F) (bp Try.f55 58) (ef55j3 v) (kBlock 0 (kSeq (kc VG2255 Rf55j12 [(7,.plain)]) (kFin VG2255 (some [(6,(.view 3))]) (Try.f55).results.toList))) = f55_27 F (Rf55j12 ∘ ef55j12) v :=
  loop_cut (by kernel_rfl) (by kernel_rfl) ef55j3 ef55l1 _ f55_27_i (fun k => f55_26 F k (Rf55j12 ∘ ef55j12))
    (by rintro ⟨t0,t1,t8,x4⟩; kernel_rfl) (fun Rf55l1 => f55_26_eq F Rf55l1 Rf55j12)
def f55_28 (F : Nat) (kf55j12 : (List Int) → Rz) : Ty49 → Rz := f55_27 F kf55j12
theorem f55_28_eq (F : Nat) (Rf55j12 : St → Rz) : ∀ v,aexec VG2255 (Af55 F) (bp Try.f55 29) (ef55j3 v) (kSeq (kc VG2255 Rf55j12 [(7,.plain)]) (kFin VG2255 (some [(6,(.view 3))]) (Try.f55).results.toList)) = f55_28 F (Rf55j12 ∘ ef55j12) v := fun v =>
  (block_in  (by kernel_rfl) _ _).trans (f55_27_eq F Rf55j12 v)
def f55_29 (F : Nat) (kf55j12 : (List Int) → Rz) : Ty48 → Rz := fun v => f55_3 F (f55_28 F kf55j12) kf55j12 v
theorem f55_29_eq (F : Nat) (Rf55j12 : St → Rz) : ∀ v,aexec VG2255 (Af55 F) (bp Try.f55 14) (ef55j2 v) (kSeq (kc VG2255 Rf55j12 [(7,.plain)]) (kFin VG2255 (some [(6,(.view 3))]) (Try.f55).results.toList)) = f55_29 F (Rf55j12 ∘ ef55j12) v :=
  seq_cut (by kernel_rfl) (by kernel_rfl) ef55j2 ef55j3 _ (fun k => f55_3 F k (Rf55j12 ∘ ef55j12)) (f55_28 F (Rf55j12 ∘ ef55j12))
    (fun Rf55j3 => f55_3_eq F Rf55j3 Rf55j12) (f55_28_eq F Rf55j12)
def f55_30 (F : Nat) : (List Int) → Rz := fun t7 => (some ((.vs (.rI .i64 t7) 0 1),[]))
theorem f55_30_eq (F : Nat) : ∀ v,aexec VG2255 (Af55 F) (bp Try.f55 15) (ef55j12 v) (kFin VG2255 (some [(6,(.view 3))]) (Try.f55).results.toList) = f55_30 F v := by
  intro t7; kernel_rfl
def f55_31 (F : Nat) : Ty48 → Rz := fun v => f55_29 F (f55_30 F) v
theorem f55_31_eq (F : Nat) : ∀ v,aexec VG2255 (Af55 F) (bp Try.f55 7) (ef55j2 v) (kFin VG2255 (some [(6,(.view 3))]) (Try.f55).results.toList) = f55_31 F v :=
  seq_cut (by kernel_rfl) (by kernel_rfl) ef55j2 ef55j12 _ (fun k => f55_29 F k) (f55_30 F)
    (fun Rf55j12 => f55_29_eq F Rf55j12) (f55_30_eq F)
def f55_32 (F : Nat) : Ty47 → Rz := fun v => f55_2 F (f55_31 F) v
theorem f55_32_eq (F : Nat) : ∀ v,aexec VG2255 (Af55 F) (bp Try.f55 3) (ef55j1 v) (kFin VG2255 (some [(6,(.view 3))]) (Try.f55).results.toList) = f55_32 F v :=
  seq_cut (by kernel_rfl) (by kernel_rfl) ef55j1 ef55j2 _ (fun k => f55_2 F k) (f55_31 F)
    (fun Rf55j2 => f55_2_eq F Rf55j2) (f55_31_eq F)
def f55_33 (F : Nat) : Ty47 → Rz := fun v => f55_1 F (f55_32 F) v
theorem f55_33_eq (F : Nat) : ∀ v,aexec VG2255 (Af55 F) (sub (bodyOf Try.f55) []) (ef55_a v) (kFin VG2255 (some [(6,(.view 3))]) (Try.f55).results.toList) = f55_33 F v :=
  seq_cut (by kernel_rfl) (by kernel_rfl) ef55_a ef55j1 _ (fun k => f55_1 F k) (f55_32 F)
    (fun Rf55j1 => f55_1_eq F Rf55j1) (f55_32_eq F)
def f55 (F : Nat) : Ty47 → Rz := f55_33 F
theorem f55_body (F : Nat) (a0 : List Int) (a1 : List (List Int)) (a2 : Int) : abody VG2255 (Af55 F) Try.f55 [(.vs (.rI .i64 a0) 0 1),(.vs (.rL .i64 a1) 0 1),(.int .i64 a2)] [] = f55 F (a0,a1,a2) :=
  (abody_in (c := (sub (bodyOf Try.f55) [])) (by kernel_rfl) (s := ef55_a (a0,a1,a2)) (by kernel_rfl)).trans (f55_33_eq F (a0,a1,a2))
def r55 : CRun := fun X H => match X,H with
  | [(.vs (.rI .i64 a0) 0 1),(.vs (.rL .i64 a1) 0 1),(.int .i64 a2)],[] => some (((decide (a0.length < 1073740000)) && (Isl.inc a0)),(.vs (.rI .i64 (Isl.cls a0 a1 a2)) 0 1),[])
  | _,_ => none
theorem s55 (a0 : List Int) (a1 : List (List Int)) (a2 : Int) (hp : (((decide (a0.length < 1073740000)) && (Isl.inc a0))) = true) (h0 : okV (.vs (.rI .i64 a0) 0 1)) (h1 : okV (.vs (.rL .i64 a1) 0 1)) (h2 : okV (.int .i64 a2)) : ∃ F,f55 F (a0,a1,a2) = some ((.vs (.rI .i64 (Isl.cls a0 a1 a2)) 0 1),[]) := by
  simp only [Bool.and_eq_true,decide_eq_true_eq] at hp
  have hl1 := h1.2
  obtain ⟨F,hF⟩ : ∃ F,F = 4611686018427387914 := ⟨_,rfl⟩
  refine ⟨F,?_⟩
  simp only [f55_1,f55_2,f55_3,f55_27_i,f55_27,f55_28,f55_29,f55_30,f55_31,f55_32,f55_33,f55]
  refine loopN_ind (fun m s => ∃ o,s = (a0,a1,o,((a0.length - m : Nat) : Int)) ∧ m ≤ a0.length ∧ Isl.Lt o ∧ (∀ y ∈ o,Isl.Conn a0 a1 a2 y) ∧ Isl.clsN a0 a1 m o = Isl.cls a0 a1 a2) ?_ _ a0.length _ (by omega) ⟨[a2],by simp,Nat.le_refl _,List.pairwise_singleton _ _,fun y hy => by rw [List.mem_singleton.1 hy]; exact .refl,rfl⟩
  rintro m s k ⟨o,rfl,hm,ho,hc,hcls⟩ hk
  simp only [f55_4,f55_5,f55_6,f55_17_i,f55_17,f55_18,f55_19,f55_20,f55_21,f55_22,f55_23,f55_24,f55_25,f55_26]
  cases m with
  | zero =>
    rw [cond_neg (by omega)]
    simp only [f55_30]
    rw [← hcls]; rfl
  | succ m =>
    rw [cond_pos (by omega)]
    refine loopN_from (fun i => (a0,a1,(a1.take i).foldl (fun o l => Isl.step1 a0 l o) o,((a0.length - (m + 1) : Nat) : Int),(o.length : Int),(i : Int))) a1.length (by rfl) (fun i hi k2 => ?_) (fun k2 => ?_) _ (by omega)
    · have hg := (Isl.round_part (s := a0) (links := a1) (x := a2) (a1.take i) (fun l hl => List.mem_of_mem_take hl) ho hc).1
      have e : (a1.take (i + 1)).foldl (fun o l => Isl.step1 a0 l o) o = Isl.step1 a0 (a1.getD i []) ((a1.take i).foldl (fun o l => Isl.step1 a0 l o) o) := foldl_take _ _ _ [] i hi
      rw [e]
      generalize (a1.take i).foldl (fun o l => Isl.step1 a0 l o) o = oi at hg
      have hmem : a1.getD i [] ∈ a1 := by rw [List.getD_eq_getElem?_getD,List.getElem?_eq_getElem hi]; exact List.getElem_mem hi
      have hll := (h1.1 _ hmem).2
      simp only [f55_7,f55_8,f55_10_i,f55_10,f55_11,f55_12,f55_13,f55_14,f55_15,f55_16]
      rw [cond_pos (by omega)]
      generalize hl : a1.getD i [] = l at hmem hll
      refine loopN_ind (fun q s => ∃ o',s = (a0,a1,o',((a0.length - (m + 1) : Nat) : Int),(o.length : Int),(i : Int),((l.length - q : Nat) : Int)) ∧ q ≤ l.length ∧ Isl.Lt o' ∧ (∀ y ∈ o',Isl.Conn a0 a1 a2 y) ∧ (l.drop (l.length - q)).foldl (Isl.stepF a0 l) o' = Isl.step1 a0 l oi) ?_ _ l.length _ (by omega) ⟨oi,by simp,Nat.le_refl _,hg.lt,hg.conn,by rw [Nat.sub_self]; rfl⟩
      rintro q s k3 ⟨o',rfl,hq,g1,g2,hst⟩ hk3
      simp only [f55_9,dec_and,Int.toNat_natCast,hl]
      rw [cond_pos (by omega)]
      cases q with
      | zero =>
        rw [cond_neg (by omega)]
        rw [Nat.sub_zero,List.drop_length] at hst
        simp only [f55_7,f55_8,f55_10_i,f55_10,f55_11,f55_12,f55_13,f55_14,f55_15,f55_16]
        rw [← hst,i64w (by omega) (by omega)]
        rfl
      | succ q =>
        rw [cond_pos (by omega),cond_pos (by omega)]
        cases hmt : Isl.meets o' l with
        | false =>
          simp only [cond_false,f55_7,f55_8,f55_10_i,f55_10,f55_11,f55_12,f55_13,f55_14,f55_15,f55_16]
          rw [Isl.stepF_stop hmt] at hst
          rw [← hst,i64w (by omega) (by omega)]
          rfl
        | true =>
          simp only [cond_true]
          rw [cond_pos (by omega),cond_pos (by omega)]
          have hd := Isl.drop_get (l := l) (i := l.length - (q + 1)) (by omega)
          rw [show l.length - (q + 1) + 1 = l.length - q by omega] at hd
          rw [hd,List.foldl_cons] at hst
          have hb := Isl.good_len g1 g2
          have hj : ((l.length - (q + 1) : Nat) : Int) + 1 = ((l.length - q : Nat) : Int) := by omega
          cases hh : a0.any (fun y => y == l.getD (l.length - (q + 1)) 0) with
          | true =>
            simp only [cond_true]
            rw [cond_pos (by omega),cond_pos (by omega),cond_pos (by omega),i64w (by omega) (by omega),hj]
            obtain ⟨i1,i2⟩ := Isl.stepF_ok hmem (Isl.getD_mem (l := l) (j := l.length - (q + 1)) (by omega)) g1 g2 hmt hh
            refine hk3 q _ (by omega) ⟨_,rfl,by omega,i1,i2,?_⟩
            rw [← hst,Isl.stepF,if_pos ⟨hmt,hh⟩]
          | false =>
            simp only [cond_false]
            rw [i64w (by omega) (by omega),hj]
            refine hk3 q _ (by omega) ⟨o',rfl,by omega,g1,g2,?_⟩
            rw [← hst,Isl.stepF,if_neg (by rw [hh]; simp)]
    · have hg := (Isl.round_ok (s := a0) (links := a1) (x := a2) ho hc).1
      simp only [f55_7,f55_8,f55_10_i,f55_10,f55_11,f55_12,f55_13,f55_14,f55_15,f55_16,f55_4,f55_5,f55_6,f55_17_i,f55_17,f55_18,f55_19,f55_20,f55_21,f55_22,f55_23,f55_24,f55_25,f55_26,int_beq]
      rw [cond_neg (by omega),List.take_length]
      have hr : a1.foldl (fun o l => Isl.step1 a0 l o) o = Isl.round a0 a1 o := rfl
      rw [hr]
      rw [Isl.clsN] at hcls
      by_cases he : (Isl.round a0 a1 o).length = o.length
      · rw [cond_pos (by omega)]
        rw [if_pos he] at hcls
        rw [hcls]
      · rw [cond_neg (by omega),i64w (by omega) (by omega),show ((a0.length - (m + 1) : Nat) : Int) + 1 = ((a0.length - m : Nat) : Int) by omega]
        rw [if_neg he] at hcls
        exact hk m _ (by omega) ⟨_,rfl,by omega,hg.lt,hg.conn,hcls⟩
theorem c55 : CallOk Try.prog G22 55 r55 := callOk_of (V := VG2255) mixed tys eVG2255 (f := 55) (fn := Try.f55) Try.func55 (by kernel_rfl) (c := sub (bodyOf Try.f55) []) (by kernel_rfl) (by
  intro X H r H' h hX hH
  unfold r55 at h; split at h <;> try contradiction
  · simp only [Option.some.injEq,Prod.mk.injEq] at h
    obtain ⟨hp,rfl,rfl⟩ := h
    obtain ⟨F,hF⟩ := s55 _ _ _ hp (hX _ (.head _)) (hX _ (.tail _ (.head _))) (hX _ (.tail _ (.tail _ (.head _))))
    exact ⟨Af55 F,(f55_body F _ _ _).trans hF⟩)
def lVG2236 : List CEnt := [(50,[some 3,none],r50),(55,[some 3,some 22,none],r55),(56,[some 3,none],r56)]
def VG2236 : Env := mkEnv T22 G22 lVG2236
theorem eVG2236 : EOk Try.prog VG2236 := eok_mk (by exact ⟨c50,c55,c56,trivial⟩)
def Af36 (F : Nat) : Cuts := { F := F,at_ := fun n => match n with | 4033 => some sp44 | 9010 => some sp45 | _ => none,join := fun n => match n with | 1045 => some [(0,.plain),(1,.plain)] | 2043 => some sp2 | 3041 => some sp3 | 4035 => some sp4 | 5001 => some sp44 | 6027 => some sp4 | 7018 => some sp4 | 8016 => some sp5 | 9012 => some sp46 | 12001 => some sp5 | 13003 => some [(5,.plain)] | _ => none,fin := (some [(4,(.own 22))]) }
def ef36_a : Ty25 → St := fun (a0,a1) => { tmps := [(0,(.vs (.rI .i64 a0) 0 1)),(1,(.vs (.rL .i64 a1) 0 1))],heap := [],next := 0,nt := 46,m := 0 }
def ef36j1 : Ty25 → St := fun (t0,t1) => { tmps := [(0,(.vs (.rI .i64 t0) 0 1)),(1,(.vs (.rL .i64 t1) 0 1))],heap := [],next := 0,nt := 46,m := 0 }
def ef36j2 : Ty25 → St := fun (t0,t1) => { tmps := [(0,(.vs (.rI .i64 t0) 0 1)),(1,(.vs (.rL .i64 t1) 0 1)),(5,.ns)],heap := [],next := 0,nt := 46,m := 0 }
def ef36j3 : Ty25 → St := fun (t0,t1) => { tmps := [(0,(.vs (.rI .i64 t0) 0 1)),(1,(.vs (.rL .i64 t1) 0 1)),(5,.ns),(6,.ns)],heap := [],next := 0,nt := 46,m := 0 }
def ef36j4 : Ty47 → St := fun (t0,t1,t7) => { tmps := [(0,(.vs (.rI .i64 t0) 0 1)),(1,(.vs (.rL .i64 t1) 0 1)),(5,.ns),(6,.ns),(7,(.int .i64 t7))],heap := [],next := 0,nt := 46,m := 0 }
def ef36l1 : Ty54 → St := fun (t0,t1,t6,t7,x5) => { tmps := [(0,(.vs (.rI .i64 t0) 0 1)),(1,(.vs (.rL .i64 t1) 0 1)),(5,(.own 0 0 1)),(6,(.vs (.rI .i64 t6) 0 1)),(7,(.int .i64 t7))],heap := [(0,(.cells x5.length (.rL .i64 x5) true))],next := 1,nt := 46,m := 0 }
def ef36j5 : Ty54 → St := fun (t0,t1,t6,t7,x5) => { tmps := [(0,(.vs (.rI .i64 t0) 0 1)),(1,(.vs (.rL .i64 t1) 0 1)),(5,(.own 0 0 1)),(6,(.vs (.rI .i64 t6) 0 1)),(7,(.int .i64 t7))],heap := [(0,(.cells x5.length (.rL .i64 x5) true))],next := 1,nt := 46,m := 0 }
def ef36j6 : Ty54 → St := fun (t0,t1,t6,t7,x5) => { tmps := [(0,(.vs (.rI .i64 t0) 0 1)),(1,(.vs (.rL .i64 t1) 0 1)),(5,(.own 0 0 1)),(6,(.vs (.rI .i64 t6) 0 1)),(7,(.int .i64 t7))],heap := [(0,(.cells x5.length (.rL .i64 x5) true))],next := 1,nt := 46,m := 0 }
def ef36j7 : Ty55 → St := fun (t0,t1,t6,t7,t8,x6) => { tmps := [(0,(.vs (.rI .i64 t0) 0 1)),(1,(.vs (.rL .i64 t1) 0 1)),(5,(.own 0 0 1)),(6,(.vs (.rI .i64 t6) 0 1)),(7,(.int .i64 t7)),(8,(.vs (.rI .i64 t8) 0 1))],heap := [(0,(.cells x6.length (.rL .i64 x6) true))],next := 1,nt := 46,m := 0 }
def ef36j8 : Ty56 → St := fun (t0,t1,t6,t7,t8,t9,x7) => { tmps := [(0,(.vs (.rI .i64 t0) 0 1)),(1,(.vs (.rL .i64 t1) 0 1)),(5,(.own 0 0 1)),(6,(.vs (.rI .i64 t6) 0 1)),(7,(.int .i64 t7)),(8,(.vs (.rI .i64 t8) 0 1)),(9,(.int .i64 t9))],heap := [(0,(.cells x7.length (.rL .i64 x7) true))],next := 1,nt := 46,m := 0 }
def ef36l2 : Ty56 → St := fun (t0,t1,t6,t7,t8,t9,x7) => { tmps := [(0,(.vs (.rI .i64 t0) 0 1)),(1,(.vs (.rL .i64 t1) 0 1)),(5,(.own 0 0 1)),(6,(.vs (.rI .i64 t6) 0 1)),(7,(.int .i64 t7)),(8,(.vs (.rI .i64 t8) 0 1)),(9,(.int .i64 t9))],heap := [(0,(.cells x7.length (.rL .i64 x7) true))],next := 1,nt := 46,m := 0 }
def ef36j9 : Ty55 → St := fun (t0,t1,t6,t7,t8,x6) => { tmps := [(0,(.vs (.rI .i64 t0) 0 1)),(1,(.vs (.rL .i64 t1) 0 1)),(5,(.own 0 0 1)),(6,(.vs (.rI .i64 t6) 0 1)),(7,(.int .i64 t7)),(8,(.vs (.rI .i64 t8) 0 1))],heap := [(0,(.cells x6.length (.rL .i64 x6) true))],next := 1,nt := 46,m := 0 }
def ef36j10 : Ty54 → St := fun (t0,t1,t6,t7,x5) => { tmps := [(0,(.vs (.rI .i64 t0) 0 1)),(1,(.vs (.rL .i64 t1) 0 1)),(5,(.own 0 0 1)),(6,(.vs (.rI .i64 t6) 0 1)),(7,(.int .i64 t7))],heap := [(0,(.cells x5.length (.rL .i64 x5) true))],next := 1,nt := 46,m := 0 }
def ef36j11 : (List (List Int)) → St := fun x1 => { tmps := [(5,(.own 0 0 1))],heap := [(0,(.cells x1.length (.rL .i64 x1) true))],next := 1,nt := 46,m := 0 }
def f36_1 (F : Nat) (kf36j1 : Ty25 → Rz) : Ty25 → Rz := fun (a0,a1) => (kf36j1 (a0,a1))
theorem f36_1_eq (F : Nat) (Rf36j1 : St → Rz) : ∀ v,aexec VG2236 (Af36 F) (bp Try.f36 2) (ef36_a v) (kSeq (kc VG2236 Rf36j1 [(0,.plain),(1,.plain)]) (kFin VG2236 (some [(4,(.own 22))]) (Try.f36).results.toList)) = f36_1 F (Rf36j1 ∘ ef36j1) v := by
  rintro ⟨a0,a1⟩; kernel_rfl
def f36_2 (F : Nat) (kf36j2 : Ty25 → Rz) : Ty25 → Rz := fun (t0,t1) => (kf36j2 (t0,t1))
theorem f36_2_eq (F : Nat) (Rf36j2 : St → Rz) : ∀ v,aexec VG2236 (Af36 F) (bp Try.f36 6) (ef36j1 v) (kSeq (kc VG2236 Rf36j2 sp2) (kFin VG2236 (some [(4,(.own 22))]) (Try.f36).results.toList)) = f36_2 F (Rf36j2 ∘ ef36j2) v := by
  rintro ⟨t0,t1⟩; kernel_rfl
def f36_3 (F : Nat) (kf36j3 : Ty25 → Rz) : Ty25 → Rz := fun (t0,t1) => (kf36j3 (t0,t1))
theorem f36_3_eq (F : Nat) (Rf36j3 : St → Rz) : ∀ v,aexec VG2236 (Af36 F) (bp Try.f36 14) (ef36j2 v) (kSeq (kc VG2236 Rf36j3 sp3) (kFin VG2236 (some [(4,(.own 22))]) (Try.f36).results.toList)) = f36_3 F (Rf36j3 ∘ ef36j3) v := by
  rintro ⟨t0,t1⟩; kernel_rfl
def f36_4 (F : Nat) (kf36j4 : Ty47 → Rz) (kf36j11 : (List (List Int)) → Rz) : Ty25 → Rz := fun (t0,t1) => (kf36j4 (t0,t1,(0 : Int)))
theorem f36_4_eq (F : Nat) (Rf36j4 : St → Rz) (Rf36j11 : St → Rz) : ∀ v,aexec VG2236 (Af36 F) (bp Try.f36 60) (ef36j3 v) (kSeq (kc VG2236 Rf36j4 sp4) (kSeq (kc VG2236 Rf36j11 [(5,.plain)]) (kFin VG2236 (some [(4,(.own 22))]) (Try.f36).results.toList))) = f36_4 F (Rf36j4 ∘ ef36j4) (Rf36j11 ∘ ef36j11) v := by
  rintro ⟨t0,t1⟩; kernel_rfl
def f36_5 (F : Nat) (kf36j5 : Ty54 → Rz) (kf36l1 : Ty54 → Rz) (kf36j11 : (List (List Int)) → Rz) : Ty54 → Rz := fun (t0,t1,t6,t7,x5) => (cond (decide (t7 < (↑t0.length : Int))) (kf36j5 (t0,t1,t6,t7,x5)) (kf36j11 x5))
theorem f36_5_eq (F : Nat) (Rf36j5 : St → Rz) (Rf36l1 : St → Rz) (Rf36j11 : St → Rz) : ∀ v,aexec VG2236 (Af36 F) (bp Try.f36 488) (ef36l1 v) (kSeq (kc VG2236 Rf36j5 sp4) (kSeq (kc VG2236 Rf36l1 sp44) (kBlock 0 (kSeq (kc VG2236 Rf36j11 [(5,.plain)]) (kFin VG2236 (some [(4,(.own 22))]) (Try.f36).results.toList))))) = f36_5 F (Rf36j5 ∘ ef36j5) (Rf36l1 ∘ ef36l1) (Rf36j11 ∘ ef36j11) v := by
  rintro ⟨t0,t1,t6,t7,x5⟩; kernel_rfl
def f36_6 (F : Nat) (kf36j6 : Ty54 → Rz) (kf36j10 : Ty54 → Rz) (kf36l1 : Ty54 → Rz) (kf36j11 : (List (List Int)) → Rz) : Ty54 → Rz := fun (t0,t1,t6,t7,x5) => (cond ((decide (0 ≤ t7)) && (decide (t7 < (↑t0.length : Int)))) (cond (t6.any (fun y => y == (t0.getD (Int.toNat t7) 0))) (kf36j10 (t0,t1,t6,t7,x5)) (kf36j6 (t0,t1,t6,t7,x5))) none)
theorem f36_6_eq (F : Nat) (Rf36j6 : St → Rz) (Rf36j10 : St → Rz) (Rf36l1 : St → Rz) (Rf36j11 : St → Rz) : ∀ v,aexec VG2236 (Af36 F) (bp Try.f36 3912) (ef36j5 v) (kSeq (kc VG2236 Rf36j6 sp4) (kBlock 1 (kSeq (kc VG2236 Rf36j10 sp44) (kSeq (kc VG2236 Rf36l1 sp44) (kBlock 0 (kSeq (kc VG2236 Rf36j11 [(5,.plain)]) (kFin VG2236 (some [(4,(.own 22))]) (Try.f36).results.toList))))))) = f36_6 F (Rf36j6 ∘ ef36j6) (Rf36j10 ∘ ef36j10) (Rf36l1 ∘ ef36l1) (Rf36j11 ∘ ef36j11) v := by
  rintro ⟨t0,t1,t6,t7,x5⟩; kernel_rfl
def f36_7 (F : Nat) (kf36j7 : Ty55 → Rz) (kf36j10 : Ty54 → Rz) (kf36l1 : Ty54 → Rz) (kf36j11 : (List (List Int)) → Rz) : Ty54 → Rz := fun (t0,t1,t6,t7,x5) => (cond ((decide (0 ≤ t7)) && (decide (t7 < (↑t0.length : Int)))) (cond ((decide (t0.length < 1073740000)) && (Isl.inc t0)) (kf36j7 (t0,t1,t6,t7,(Isl.cls t0 t1 (t0.getD (Int.toNat t7) 0)),x5)) none) none)
theorem f36_7_eq (F : Nat) (Rf36j7 : St → Rz) (Rf36j10 : St → Rz) (Rf36l1 : St → Rz) (Rf36j11 : St → Rz) : ∀ v,aexec VG2236 (Af36 F) (bp Try.f36 7826) (ef36j6 v) (kSeq (kc VG2236 Rf36j7 sp5) (kBlock 1 (kSeq (kc VG2236 Rf36j10 sp44) (kSeq (kc VG2236 Rf36l1 sp44) (kBlock 0 (kSeq (kc VG2236 Rf36j11 [(5,.plain)]) (kFin VG2236 (some [(4,(.own 22))]) (Try.f36).results.toList))))))) = f36_7 F (Rf36j7 ∘ ef36j7) (Rf36j10 ∘ ef36j10) (Rf36l1 ∘ ef36l1) (Rf36j11 ∘ ef36j11) v := by
  rintro ⟨t0,t1,t6,t7,x5⟩; kernel_rfl
def f36_8 (F : Nat) (kf36j8 : Ty56 → Rz) (kf36j9 : Ty55 → Rz) (kf36j10 : Ty54 → Rz) (kf36l1 : Ty54 → Rz) (kf36j11 : (List (List Int)) → Rz) : Ty55 → Rz := fun (t0,t1,t6,t7,t8,x6) => (kf36j8 (t0,t1,t6,t7,t8,(0 : Int),x6))
theorem f36_8_eq (F : Nat) (Rf36j8 : St → Rz) (Rf36j9 : St → Rz) (Rf36j10 : St → Rz) (Rf36l1 : St → Rz) (Rf36j11 : St → Rz) : ∀ v,aexec VG2236 (Af36 F) (bp Try.f36 31308) (ef36j7 v) (kSeq (kc VG2236 Rf36j8 sp46) (kSeq (kc VG2236 Rf36j9 sp5) (kBlock 1 (kSeq (kc VG2236 Rf36j10 sp44) (kSeq (kc VG2236 Rf36l1 sp44) (kBlock 0 (kSeq (kc VG2236 Rf36j11 [(5,.plain)]) (kFin VG2236 (some [(4,(.own 22))]) (Try.f36).results.toList)))))))) = f36_8 F (Rf36j8 ∘ ef36j8) (Rf36j9 ∘ ef36j9) (Rf36j10 ∘ ef36j10) (Rf36l1 ∘ ef36l1) (Rf36j11 ∘ ef36j11) v := by
  rintro ⟨t0,t1,t6,t7,t8,x6⟩; kernel_rfl
def f36_9 (F : Nat) (kf36l2 : Ty56 → Rz) (kf36j9 : Ty55 → Rz) (kf36j10 : Ty54 → Rz) (kf36l1 : Ty54 → Rz) (kf36j11 : (List (List Int)) → Rz) : Ty56 → Rz := fun (t0,t1,t6,t7,t8,t9,x7) => (cond (decide (t9 < (↑t8.length : Int))) (cond ((decide (0 ≤ t9)) && (decide (t9 < (↑t8.length : Int)))) (cond (decide (t6.length < 1073741000)) (kf36l2 (t0,t1,(Isl.ins t6 (t8.getD (Int.toNat t9) 0)),t7,t8,(IntKind.i64.wrap (t9 + (1 : Int))),x7)) none) none) (kf36j9 (t0,t1,t6,t7,t8,x7)))
theorem f36_9_eq (F : Nat) (Rf36l2 : St → Rz) (Rf36j9 : St → Rz) (Rf36j10 : St → Rz) (Rf36l1 : St → Rz) (Rf36j11 : St → Rz) : ∀ v,aexec VG2236 (Af36 F) (bp Try.f36 125236) (ef36l2 v) (kSeq (kc VG2236 Rf36l2 sp45) (kBlock 2 (kSeq (kc VG2236 Rf36j9 sp5) (kBlock 1 (kSeq (kc VG2236 Rf36j10 sp44) (kSeq (kc VG2236 Rf36l1 sp44) (kBlock 0 (kSeq (kc VG2236 Rf36j11 [(5,.plain)]) (kFin VG2236 (some [(4,(.own 22))]) (Try.f36).results.toList))))))))) = f36_9 F (Rf36l2 ∘ ef36l2) (Rf36j9 ∘ ef36j9) (Rf36j10 ∘ ef36j10) (Rf36l1 ∘ ef36l1) (Rf36j11 ∘ ef36j11) v := by
  rintro ⟨t0,t1,t6,t7,t8,t9,x7⟩; kernel_rfl
def f36_10_i : Ty56 → (List Int) × (List (List Int)) × (List Int) × Int × (List Int) × Int × (List (List Int)) := fun (t0,t1,t6,t7,t8,t9,x7) => (t0,t1,t6,t7,t8,t9,x7)
def f36_10 (F : Nat) (kf36j9 : Ty55 → Rz) (kf36j10 : Ty54 → Rz) (kf36l1 : Ty54 → Rz) (kf36j11 : (List (List Int)) → Rz) : Ty56 → Rz := fun v => loopN (fun k => f36_9 F k kf36j9 kf36j10 kf36l1 kf36j11) F (f36_10_i v)
theorem f36_10_eq (F : Nat) (Rf36j9 : St → Rz) (Rf36j10 : St → Rz) (Rf36l1 : St → Rz) (Rf36j11 : St → Rz) : ∀ v,aexec VG2236 (Af36 F) (bp Try.f36 62618) (ef36j8 v) (kBlock 2 (kSeq (kc VG2236 Rf36j9 sp5) (kBlock 1 (kSeq (kc VG2236 Rf36j10 sp44) (kSeq (kc VG2236 Rf36l1 sp44) (kBlock 0 (kSeq (kc VG2236 Rf36j11 [(5,.plain)]) (kFin VG2236 (some [(4,(.own 22))]) (Try.f36).results.toList)))))))) = f36_10 F (Rf36j9 ∘ ef36j9) (Rf36j10 ∘ ef36j10) (Rf36l1 ∘ ef36l1) (Rf36j11 ∘ ef36j11) v :=
  loop_cut (by kernel_rfl) (by kernel_rfl) ef36j8 ef36l2 _ f36_10_i (fun k => f36_9 F k (Rf36j9 ∘ ef36j9) (Rf36j10 ∘ ef36j10) (Rf36l1 ∘ ef36l1) (Rf36j11 ∘ ef36j11))
    (by rintro ⟨t0,t1,t6,t7,t8,t9,x7⟩; kernel_rfl) (fun Rf36l2 => f36_9_eq F Rf36l2 Rf36j9 Rf36j10 Rf36l1 Rf36j11)
def f36_11 (F : Nat) (kf36j9 : Ty55 → Rz) (kf36j10 : Ty54 → Rz) (kf36l1 : Ty54 → Rz) (kf36j11 : (List (List Int)) → Rz) : Ty56 → Rz := f36_10 F kf36j9 kf36j10 kf36l1 kf36j11
theorem f36_11_eq (F : Nat) (Rf36j9 : St → Rz) (Rf36j10 : St → Rz) (Rf36l1 : St → Rz) (Rf36j11 : St → Rz) : ∀ v,aexec VG2236 (Af36 F) (bp Try.f36 31309) (ef36j8 v) (kSeq (kc VG2236 Rf36j9 sp5) (kBlock 1 (kSeq (kc VG2236 Rf36j10 sp44) (kSeq (kc VG2236 Rf36l1 sp44) (kBlock 0 (kSeq (kc VG2236 Rf36j11 [(5,.plain)]) (kFin VG2236 (some [(4,(.own 22))]) (Try.f36).results.toList))))))) = f36_11 F (Rf36j9 ∘ ef36j9) (Rf36j10 ∘ ef36j10) (Rf36l1 ∘ ef36l1) (Rf36j11 ∘ ef36j11) v := fun v =>
  (block_in  (by kernel_rfl) _ _).trans (f36_10_eq F Rf36j9 Rf36j10 Rf36l1 Rf36j11 v)
def f36_12 (F : Nat) (kf36j9 : Ty55 → Rz) (kf36j10 : Ty54 → Rz) (kf36l1 : Ty54 → Rz) (kf36j11 : (List (List Int)) → Rz) : Ty55 → Rz := fun v => f36_8 F (f36_11 F kf36j9 kf36j10 kf36l1 kf36j11) kf36j9 kf36j10 kf36l1 kf36j11 v
theorem f36_12_eq (F : Nat) (Rf36j9 : St → Rz) (Rf36j10 : St → Rz) (Rf36l1 : St → Rz) (Rf36j11 : St → Rz) : ∀ v,aexec VG2236 (Af36 F) (bp Try.f36 15654) (ef36j7 v) (kSeq (kc VG2236 Rf36j9 sp5) (kBlock 1 (kSeq (kc VG2236 Rf36j10 sp44) (kSeq (kc VG2236 Rf36l1 sp44) (kBlock 0 (kSeq (kc VG2236 Rf36j11 [(5,.plain)]) (kFin VG2236 (some [(4,(.own 22))]) (Try.f36).results.toList))))))) = f36_12 F (Rf36j9 ∘ ef36j9) (Rf36j10 ∘ ef36j10) (Rf36l1 ∘ ef36l1) (Rf36j11 ∘ ef36j11) v :=
  seq_cut (by kernel_rfl) (by kernel_rfl) ef36j7 ef36j8 _ (fun k => f36_8 F k (Rf36j9 ∘ ef36j9) (Rf36j10 ∘ ef36j10) (Rf36l1 ∘ ef36l1) (Rf36j11 ∘ ef36j11)) (f36_11 F (Rf36j9 ∘ ef36j9) (Rf36j10 ∘ ef36j10) (Rf36l1 ∘ ef36l1) (Rf36j11 ∘ ef36j11))
    (fun Rf36j8 => f36_8_eq F Rf36j8 Rf36j9 Rf36j10 Rf36l1 Rf36j11) (f36_11_eq F Rf36j9 Rf36j10 Rf36l1 Rf36j11)
def f36_13 (F : Nat) (kf36j10 : Ty54 → Rz) (kf36l1 : Ty54 → Rz) (kf36j11 : (List (List Int)) → Rz) : Ty55 → Rz := fun (t0,t1,t6,t7,t8,x6) => (cond (decide ((x6.length + 1) < 1073741824)) (kf36j10 (t0,t1,t6,t7,(x6 ++ [t8]))) none)
theorem f36_13_eq (F : Nat) (Rf36j10 : St → Rz) (Rf36l1 : St → Rz) (Rf36j11 : St → Rz) : ∀ v,aexec VG2236 (Af36 F) (bp Try.f36 15655) (ef36j9 v) (kBlock 1 (kSeq (kc VG2236 Rf36j10 sp44) (kSeq (kc VG2236 Rf36l1 sp44) (kBlock 0 (kSeq (kc VG2236 Rf36j11 [(5,.plain)]) (kFin VG2236 (some [(4,(.own 22))]) (Try.f36).results.toList)))))) = f36_13 F (Rf36j10 ∘ ef36j10) (Rf36l1 ∘ ef36l1) (Rf36j11 ∘ ef36j11) v := by
  rintro ⟨t0,t1,t6,t7,t8,x6⟩; kernel_rfl
def f36_14 (F : Nat) (kf36j10 : Ty54 → Rz) (kf36l1 : Ty54 → Rz) (kf36j11 : (List (List Int)) → Rz) : Ty55 → Rz := fun v => f36_12 F (f36_13 F kf36j10 kf36l1 kf36j11) kf36j10 kf36l1 kf36j11 v
theorem f36_14_eq (F : Nat) (Rf36j10 : St → Rz) (Rf36l1 : St → Rz) (Rf36j11 : St → Rz) : ∀ v,aexec VG2236 (Af36 F) (bp Try.f36 7827) (ef36j7 v) (kBlock 1 (kSeq (kc VG2236 Rf36j10 sp44) (kSeq (kc VG2236 Rf36l1 sp44) (kBlock 0 (kSeq (kc VG2236 Rf36j11 [(5,.plain)]) (kFin VG2236 (some [(4,(.own 22))]) (Try.f36).results.toList)))))) = f36_14 F (Rf36j10 ∘ ef36j10) (Rf36l1 ∘ ef36l1) (Rf36j11 ∘ ef36j11) v :=
  seq_cut (by kernel_rfl) (by kernel_rfl) ef36j7 ef36j9 _ (fun k => f36_12 F k (Rf36j10 ∘ ef36j10) (Rf36l1 ∘ ef36l1) (Rf36j11 ∘ ef36j11)) (f36_13 F (Rf36j10 ∘ ef36j10) (Rf36l1 ∘ ef36l1) (Rf36j11 ∘ ef36j11))
    (fun Rf36j9 => f36_12_eq F Rf36j9 Rf36j10 Rf36l1 Rf36j11) (f36_13_eq F Rf36j10 Rf36l1 Rf36j11)
def f36_15 (F : Nat) (kf36j10 : Ty54 → Rz) (kf36l1 : Ty54 → Rz) (kf36j11 : (List (List Int)) → Rz) : Ty54 → Rz := fun v => f36_7 F (f36_14 F kf36j10 kf36l1 kf36j11) kf36j10 kf36l1 kf36j11 v
theorem f36_15_eq (F : Nat) (Rf36j10 : St → Rz) (Rf36l1 : St → Rz) (Rf36j11 : St → Rz) : ∀ v,aexec VG2236 (Af36 F) (bp Try.f36 3913) (ef36j6 v) (kBlock 1 (kSeq (kc VG2236 Rf36j10 sp44) (kSeq (kc VG2236 Rf36l1 sp44) (kBlock 0 (kSeq (kc VG2236 Rf36j11 [(5,.plain)]) (kFin VG2236 (some [(4,(.own 22))]) (Try.f36).results.toList)))))) = f36_15 F (Rf36j10 ∘ ef36j10) (Rf36l1 ∘ ef36l1) (Rf36j11 ∘ ef36j11) v :=
  seq_cut (by kernel_rfl) (by kernel_rfl) ef36j6 ef36j7 _ (fun k => f36_7 F k (Rf36j10 ∘ ef36j10) (Rf36l1 ∘ ef36l1) (Rf36j11 ∘ ef36j11)) (f36_14 F (Rf36j10 ∘ ef36j10) (Rf36l1 ∘ ef36l1) (Rf36j11 ∘ ef36j11))
    (fun Rf36j7 => f36_7_eq F Rf36j7 Rf36j10 Rf36l1 Rf36j11) (f36_14_eq F Rf36j10 Rf36l1 Rf36j11)
def f36_16 (F : Nat) (kf36j10 : Ty54 → Rz) (kf36l1 : Ty54 → Rz) (kf36j11 : (List (List Int)) → Rz) : Ty54 → Rz := fun v => f36_6 F (f36_15 F kf36j10 kf36l1 kf36j11) kf36j10 kf36l1 kf36j11 v
theorem f36_16_eq (F : Nat) (Rf36j10 : St → Rz) (Rf36l1 : St → Rz) (Rf36j11 : St → Rz) : ∀ v,aexec VG2236 (Af36 F) (bp Try.f36 1956) (ef36j5 v) (kBlock 1 (kSeq (kc VG2236 Rf36j10 sp44) (kSeq (kc VG2236 Rf36l1 sp44) (kBlock 0 (kSeq (kc VG2236 Rf36j11 [(5,.plain)]) (kFin VG2236 (some [(4,(.own 22))]) (Try.f36).results.toList)))))) = f36_16 F (Rf36j10 ∘ ef36j10) (Rf36l1 ∘ ef36l1) (Rf36j11 ∘ ef36j11) v :=
  seq_cut (by kernel_rfl) (by kernel_rfl) ef36j5 ef36j6 _ (fun k => f36_6 F k (Rf36j10 ∘ ef36j10) (Rf36l1 ∘ ef36l1) (Rf36j11 ∘ ef36j11)) (f36_15 F (Rf36j10 ∘ ef36j10) (Rf36l1 ∘ ef36l1) (Rf36j11 ∘ ef36j11))
    (fun Rf36j6 => f36_6_eq F Rf36j6 Rf36j10 Rf36l1 Rf36j11) (f36_15_eq F Rf36j10 Rf36l1 Rf36j11)
def f36_17 (F : Nat) (kf36j10 : Ty54 → Rz) (kf36l1 : Ty54 → Rz) (kf36j11 : (List (List Int)) → Rz) : Ty54 → Rz := f36_16 F kf36j10 kf36l1 kf36j11
theorem f36_17_eq (F : Nat) (Rf36j10 : St → Rz) (Rf36l1 : St → Rz) (Rf36j11 : St → Rz) : ∀ v,aexec VG2236 (Af36 F) (bp Try.f36 978) (ef36j5 v) (kSeq (kc VG2236 Rf36j10 sp44) (kSeq (kc VG2236 Rf36l1 sp44) (kBlock 0 (kSeq (kc VG2236 Rf36j11 [(5,.plain)]) (kFin VG2236 (some [(4,(.own 22))]) (Try.f36).results.toList))))) = f36_17 F (Rf36j10 ∘ ef36j10) (Rf36l1 ∘ ef36l1) (Rf36j11 ∘ ef36j11) v := fun v =>
  (block_in  (by kernel_rfl) _ _).trans (f36_16_eq F Rf36j10 Rf36l1 Rf36j11 v)
def f36_18 (F : Nat) (kf36l1 : Ty54 → Rz) (kf36j11 : (List (List Int)) → Rz) : Ty54 → Rz := fun (t0,t1,t6,t7,x5) => (kf36l1 (t0,t1,t6,(IntKind.i64.wrap (t7 + (1 : Int))),x5))
theorem f36_18_eq (F : Nat) (Rf36l1 : St → Rz) (Rf36j11 : St → Rz) : ∀ v,aexec VG2236 (Af36 F) (bp Try.f36 979) (ef36j10 v) (kSeq (kc VG2236 Rf36l1 sp44) (kBlock 0 (kSeq (kc VG2236 Rf36j11 [(5,.plain)]) (kFin VG2236 (some [(4,(.own 22))]) (Try.f36).results.toList)))) = f36_18 F (Rf36l1 ∘ ef36l1) (Rf36j11 ∘ ef36j11) v := by
  rintro ⟨t0,t1,t6,t7,x5⟩; kernel_rfl
def f36_19 (F : Nat) (kf36l1 : Ty54 → Rz) (kf36j11 : (List (List Int)) → Rz) : Ty54 → Rz := fun v => f36_17 F (f36_18 F kf36l1 kf36j11) kf36l1 kf36j11 v
theorem f36_19_eq (F : Nat) (Rf36l1 : St → Rz) (Rf36j11 : St → Rz) : ∀ v,aexec VG2236 (Af36 F) (bp Try.f36 489) (ef36j5 v) (kSeq (kc VG2236 Rf36l1 sp44) (kBlock 0 (kSeq (kc VG2236 Rf36j11 [(5,.plain)]) (kFin VG2236 (some [(4,(.own 22))]) (Try.f36).results.toList)))) = f36_19 F (Rf36l1 ∘ ef36l1) (Rf36j11 ∘ ef36j11) v :=
  seq_cut (by kernel_rfl) (by kernel_rfl) ef36j5 ef36j10 _ (fun k => f36_17 F k (Rf36l1 ∘ ef36l1) (Rf36j11 ∘ ef36j11)) (f36_18 F (Rf36l1 ∘ ef36l1) (Rf36j11 ∘ ef36j11))
    (fun Rf36j10 => f36_17_eq F Rf36j10 Rf36l1 Rf36j11) (f36_18_eq F Rf36l1 Rf36j11)
def f36_20 (F : Nat) (kf36l1 : Ty54 → Rz) (kf36j11 : (List (List Int)) → Rz) : Ty54 → Rz := fun v => f36_5 F (f36_19 F kf36l1 kf36j11) kf36l1 kf36j11 v
theorem f36_20_eq (F : Nat) (Rf36l1 : St → Rz) (Rf36j11 : St → Rz) : ∀ v,aexec VG2236 (Af36 F) (bp Try.f36 244) (ef36l1 v) (kSeq (kc VG2236 Rf36l1 sp44) (kBlock 0 (kSeq (kc VG2236 Rf36j11 [(5,.plain)]) (kFin VG2236 (some [(4,(.own 22))]) (Try.f36).results.toList)))) = f36_20 F (Rf36l1 ∘ ef36l1) (Rf36j11 ∘ ef36j11) v :=
  seq_cut (by kernel_rfl) (by kernel_rfl) ef36l1 ef36j5 _ (fun k => f36_5 F k (Rf36l1 ∘ ef36l1) (Rf36j11 ∘ ef36j11)) (f36_19 F (Rf36l1 ∘ ef36l1) (Rf36j11 ∘ ef36j11))
    (fun Rf36j5 => f36_5_eq F Rf36j5 Rf36l1 Rf36j11) (f36_19_eq F Rf36l1 Rf36j11)
def f36_21_i : Ty47 → (List Int) × (List (List Int)) × (List Int) × Int × (List (List Int)) := fun (t0,t1,t7) => (t0,t1,[],t7,[])
def f36_21 (F : Nat) (kf36j11 : (List (List Int)) → Rz) : Ty47 → Rz := fun v => loopN (fun k => f36_20 F k kf36j11) F (f36_21_i v)
theorem f36_21_eq (F : Nat) (Rf36j11 : St → Rz) : ∀ v,aexec VG2236 (Af36 F) (bp Try.f36 122) (ef36j4 v) (kBlock 0 (kSeq (kc VG2236 Rf36j11 [(5,.plain)]) (kFin VG2236 (some [(4,(.own 22))]) (Try.f36).results.toList))) = f36_21 F (Rf36j11 ∘ ef36j11) v :=
  loop_cut (by kernel_rfl) (by kernel_rfl) ef36j4 ef36l1 _ f36_21_i (fun k => f36_20 F k (Rf36j11 ∘ ef36j11))
    (by rintro ⟨t0,t1,t7⟩; kernel_rfl) (fun Rf36l1 => f36_20_eq F Rf36l1 Rf36j11)
def f36_22 (F : Nat) (kf36j11 : (List (List Int)) → Rz) : Ty47 → Rz := f36_21 F kf36j11
theorem f36_22_eq (F : Nat) (Rf36j11 : St → Rz) : ∀ v,aexec VG2236 (Af36 F) (bp Try.f36 61) (ef36j4 v) (kSeq (kc VG2236 Rf36j11 [(5,.plain)]) (kFin VG2236 (some [(4,(.own 22))]) (Try.f36).results.toList)) = f36_22 F (Rf36j11 ∘ ef36j11) v := fun v =>
  (block_in  (by kernel_rfl) _ _).trans (f36_21_eq F Rf36j11 v)
def f36_23 (F : Nat) (kf36j11 : (List (List Int)) → Rz) : Ty25 → Rz := fun v => f36_4 F (f36_22 F kf36j11) kf36j11 v
theorem f36_23_eq (F : Nat) (Rf36j11 : St → Rz) : ∀ v,aexec VG2236 (Af36 F) (bp Try.f36 30) (ef36j3 v) (kSeq (kc VG2236 Rf36j11 [(5,.plain)]) (kFin VG2236 (some [(4,(.own 22))]) (Try.f36).results.toList)) = f36_23 F (Rf36j11 ∘ ef36j11) v :=
  seq_cut (by kernel_rfl) (by kernel_rfl) ef36j3 ef36j4 _ (fun k => f36_4 F k (Rf36j11 ∘ ef36j11)) (f36_22 F (Rf36j11 ∘ ef36j11))
    (fun Rf36j4 => f36_4_eq F Rf36j4 Rf36j11) (f36_22_eq F Rf36j11)
def f36_24 (F : Nat) : (List (List Int)) → Rz := fun x1 => (some ((.own 0 0 1),[(.cells x1.length (.rL .i64 x1) true)]))
theorem f36_24_eq (F : Nat) : ∀ v,aexec VG2236 (Af36 F) (bp Try.f36 31) (ef36j11 v) (kFin VG2236 (some [(4,(.own 22))]) (Try.f36).results.toList) = f36_24 F v := by
  intro x1; kernel_rfl
def f36_25 (F : Nat) : Ty25 → Rz := fun v => f36_23 F (f36_24 F) v
theorem f36_25_eq (F : Nat) : ∀ v,aexec VG2236 (Af36 F) (bp Try.f36 15) (ef36j3 v) (kFin VG2236 (some [(4,(.own 22))]) (Try.f36).results.toList) = f36_25 F v :=
  seq_cut (by kernel_rfl) (by kernel_rfl) ef36j3 ef36j11 _ (fun k => f36_23 F k) (f36_24 F)
    (fun Rf36j11 => f36_23_eq F Rf36j11) (f36_24_eq F)
def f36_26 (F : Nat) : Ty25 → Rz := fun v => f36_3 F (f36_25 F) v
theorem f36_26_eq (F : Nat) : ∀ v,aexec VG2236 (Af36 F) (bp Try.f36 7) (ef36j2 v) (kFin VG2236 (some [(4,(.own 22))]) (Try.f36).results.toList) = f36_26 F v :=
  seq_cut (by kernel_rfl) (by kernel_rfl) ef36j2 ef36j3 _ (fun k => f36_3 F k) (f36_25 F)
    (fun Rf36j3 => f36_3_eq F Rf36j3) (f36_25_eq F)
def f36_27 (F : Nat) : Ty25 → Rz := fun v => f36_2 F (f36_26 F) v
theorem f36_27_eq (F : Nat) : ∀ v,aexec VG2236 (Af36 F) (bp Try.f36 3) (ef36j1 v) (kFin VG2236 (some [(4,(.own 22))]) (Try.f36).results.toList) = f36_27 F v :=
  seq_cut (by kernel_rfl) (by kernel_rfl) ef36j1 ef36j2 _ (fun k => f36_2 F k) (f36_26 F)
    (fun Rf36j2 => f36_2_eq F Rf36j2) (f36_26_eq F)
def f36_28 (F : Nat) : Ty25 → Rz := fun v => f36_1 F (f36_27 F) v
theorem f36_28_eq (F : Nat) : ∀ v,aexec VG2236 (Af36 F) (sub (bodyOf Try.f36) []) (ef36_a v) (kFin VG2236 (some [(4,(.own 22))]) (Try.f36).results.toList) = f36_28 F v :=
  seq_cut (by kernel_rfl) (by kernel_rfl) ef36_a ef36j1 _ (fun k => f36_1 F k) (f36_27 F)
    (fun Rf36j1 => f36_1_eq F Rf36j1) (f36_27_eq F)
def f36 (F : Nat) : Ty25 → Rz := f36_28 F
theorem f36_body (F : Nat) (a0 : List Int) (a1 : List (List Int)) : abody VG2236 (Af36 F) Try.f36 [(.vs (.rI .i64 a0) 0 1),(.vs (.rL .i64 a1) 0 1)] [] = f36 F (a0,a1) :=
  (abody_in (c := (sub (bodyOf Try.f36) [])) (by kernel_rfl) (s := ef36_a (a0,a1)) (by kernel_rfl)).trans (f36_28_eq F (a0,a1))
def r36 : CRun := fun X H => match X,H with
  | [(.vs (.rI .i64 a0) 0 1),(.vs (.rL .i64 a1) 0 1)],[] => some (((decide (a0.length < 1073740000)) && (Isl.inc a0)),(.own 0 0 1),[(.cells (Isl.clss a0 a1).length (.rL .i64 (Isl.clss a0 a1)) true)])
  | _,_ => none
theorem s36 (a0 : List Int) (a1 : List (List Int)) (hp : (((decide (a0.length < 1073740000)) && (Isl.inc a0))) = true) (h0 : okV (.vs (.rI .i64 a0) 0 1)) (h1 : okV (.vs (.rL .i64 a1) 0 1)) : ∃ F,f36 F (a0,a1) = some ((.own 0 0 1),[(.cells (Isl.clss a0 a1).length (.rL .i64 (Isl.clss a0 a1)) true)]) := by
  simp only [Bool.and_eq_true,decide_eq_true_eq] at hp
  have hs := Isl.inc_iff.1 hp.2
  obtain ⟨F,hF⟩ : ∃ F,F = 1073741824 := ⟨_,rfl⟩
  refine ⟨F,?_⟩
  simp only [f36_1,f36_2,f36_3,f36_4,f36_21_i,f36_21,f36_22,f36_23,f36_24,f36_25,f36_26,f36_27,f36_28,f36]
  have hbd : ∀ i,i ≤ a0.length → (∀ y ∈ ((a0.take i).foldl (Isl.clssF a0 a1) ([],[])).2,y ∈ a0) ∧ Isl.Lt ((a0.take i).foldl (Isl.clssF a0 a1) ([],[])).2 ∧ ((a0.take i).foldl (Isl.clssF a0 a1) ([],[])).1.length ≤ i := by
    intro i
    induction i with
    | zero => intro _; exact ⟨fun y h => by simp at h,.nil,by simp⟩
    | succ i ih =>
      intro hi
      obtain ⟨i1,i2,i3⟩ := ih (by omega)
      rw [foldl_take _ _ _ 0 i (by omega)]
      generalize (a0.take i).foldl (Isl.clssF a0 a1) ([],[]) = st at i1 i2 i3
      unfold Isl.clssF
      split
      · exact ⟨i1,i2,by omega⟩
      · refine ⟨fun y hy => ?_,Isl.foldl_ins_lt _ i2,by simp; exact i3⟩
        rcases (Isl.mem_foldl_ins _).1 hy with hy | hy
        · exact i1 y hy
        · have hx := Isl.getD_mem (l := a0) (j := i) (by omega)
          exact (((Isl.cls_ok hx).2 y).1 hy).mem hx
  refine loopN_from (fun i => (a0,a1,((a0.take i).foldl (Isl.clssF a0 a1) ([],[])).2,(i : Int),((a0.take i).foldl (Isl.clssF a0 a1) ([],[])).1)) a0.length (by rfl) (fun i hi k => ?_) (fun k => ?_) _ (by omega)
  · obtain ⟨b1,b2,b3⟩ := hbd i (by omega)
    have e := foldl_take (Isl.clssF a0 a1) ([],[]) a0 0 i hi
    rw [e]
    generalize (a0.take i).foldl (Isl.clssF a0 a1) ([],[]) = st at b1 b2 b3
    obtain ⟨out,done⟩ := st
    simp only at b1 b2 b3
    have hx := Isl.getD_mem (l := a0) (j := i) hi
    simp only [f36_5,f36_6,f36_7,f36_8,f36_10_i,f36_10,f36_11,f36_12,f36_13,f36_14,f36_15,f36_16,f36_17,f36_18,f36_19,f36_20,dec_and,Int.toNat_natCast]
    rw [cond_pos (by omega),cond_pos (by omega)]
    generalize hx' : a0.getD i 0 = x at hx
    unfold Isl.clssF
    cases hd : done.any (fun y => y == x) with
    | true =>
      simp only [cond_true,if_true]
      rw [i64w (by omega) (by omega)]
      rfl
    | false =>
      simp only [cond_false,Bool.false_eq_true,if_false,hp.2,Bool.and_true]
      rw [cond_pos (by omega),cond_pos hp.1]
      obtain ⟨c1,c2⟩ := Isl.cls_ok (links := a1) hx
      generalize Isl.cls a0 a1 x = c at c1 c2
      have hc : ∀ y ∈ c,y ∈ a0 := fun y hy => ((c2 y).1 hy).mem hx
      have hcl := Isl.nodup_len c1.nodup hc
      refine loopN_from (fun j => (a0,a1,(c.take j).foldl Isl.ins done,(i : Int),c,(j : Int),out)) c.length (by rfl) (fun j hj k2 => ?_) (fun k2 => ?_) _ (by omega)
      · have hl : ((c.take j).foldl Isl.ins done).length ≤ a0.length := Isl.nodup_len (Isl.foldl_ins_lt _ b2).nodup fun y hy => by
          rcases (Isl.mem_foldl_ins _).1 hy with hy | hy
          · exact b1 y hy
          · exact hc y (List.mem_of_mem_take hy)
        simp only [f36_9,dec_and,Int.toNat_natCast]
        rw [cond_pos (by omega),cond_pos (by omega),cond_pos (by omega),i64w (by omega) (by omega),foldl_take _ _ _ 0 j hj]
        rfl
      · simp only [f36_9,f36_5,f36_6,f36_7,f36_8,f36_10_i,f36_10,f36_11,f36_12,f36_13,f36_14,f36_15,f36_16,f36_17,f36_18,f36_19,f36_20]
        rw [cond_neg (by omega),cond_pos (by omega),i64w (by omega) (by omega),List.take_length]
        rfl
  · simp only [f36_5,f36_6,f36_7,f36_8,f36_10_i,f36_10,f36_11,f36_12,f36_13,f36_14,f36_15,f36_16,f36_17,f36_18,f36_19,f36_20,f36_24]
    rw [cond_neg (by omega),List.take_length]
    rfl
theorem c36 : CallOk Try.prog G22 36 r36 := callOk_of (V := VG2236) mixed tys eVG2236 (f := 36) (fn := Try.f36) Try.func36 (by kernel_rfl) (c := sub (bodyOf Try.f36) []) (by kernel_rfl) (by
  intro X H r H' h hX hH
  unfold r36 at h; split at h <;> try contradiction
  · simp only [Option.some.injEq,Prod.mk.injEq] at h
    obtain ⟨hp,rfl,rfl⟩ := h
    obtain ⟨F,hF⟩ := s36 _ _ hp (hX _ (.head _)) (hX _ (.tail _ (.head _)))
    exact ⟨Af36 F,(f36_body F _ _).trans hF⟩)
def lVG2241 : List CEnt := [(56,[some 3,none],r56)]
def VG2241 : Env := mkEnv T22 G22 lVG2241
theorem eVG2241 : EOk Try.prog VG2241 := eok_mk (by exact ⟨c56,trivial⟩)
def Af41 (F : Nat) : Cuts := { F := F,at_ := fun n => match n with | 3010 => some sp47 | _ => none,join := fun n => match n with | 1020 => some [(0,.plain)] | 2018 => some [(0,.plain),(3,.plain)] | 3012 => some sp7 | 6003 => some [(3,.plain)] | _ => none,fin := (some [(2,(.view 3))]) }
def ef41_a : (List Int) → St := fun a0 => { tmps := [(0,(.vs (.rI .i64 a0) 0 1))],heap := [],next := 0,nt := 18,m := 0 }
def ef41j1 : (List Int) → St := fun t0 => { tmps := [(0,(.vs (.rI .i64 t0) 0 1))],heap := [],next := 0,nt := 18,m := 0 }
def ef41j2 : (List Int) → St := fun t0 => { tmps := [(0,(.vs (.rI .i64 t0) 0 1)),(3,.ns)],heap := [],next := 0,nt := 18,m := 0 }
def ef41j3 : (List Int) × Int → St := fun (t0,t4) => { tmps := [(0,(.vs (.rI .i64 t0) 0 1)),(3,.ns),(4,(.int .i64 t4))],heap := [],next := 0,nt := 18,m := 0 }
def ef41l1 : Ty5 → St := fun (t0,t3,t4) => { tmps := [(0,(.vs (.rI .i64 t0) 0 1)),(3,(.vs (.rI .i64 t3) 0 1)),(4,(.int .i64 t4))],heap := [],next := 0,nt := 18,m := 0 }
def ef41j4 : (List Int) → St := fun t3 => { tmps := [(3,(.vs (.rI .i64 t3) 0 1))],heap := [],next := 0,nt := 18,m := 0 }
def f41_1 (F : Nat) (kf41j1 : (List Int) → Rz) : (List Int) → Rz := fun a0 => (kf41j1 a0)
theorem f41_1_eq (F : Nat) (Rf41j1 : St → Rz) : ∀ v,aexec VG2241 (Af41 F) (bp Try.f41 2) (ef41_a v) (kSeq (kc VG2241 Rf41j1 [(0,.plain)]) (kFin VG2241 (some [(2,(.view 3))]) (Try.f41).results.toList)) = f41_1 F (Rf41j1 ∘ ef41j1) v := by
  intro a0; kernel_rfl
def f41_2 (F : Nat) (kf41j2 : (List Int) → Rz) : (List Int) → Rz := fun t0 => (kf41j2 t0)
theorem f41_2_eq (F : Nat) (Rf41j2 : St → Rz) : ∀ v,aexec VG2241 (Af41 F) (bp Try.f41 6) (ef41j1 v) (kSeq (kc VG2241 Rf41j2 [(0,.plain),(3,.plain)]) (kFin VG2241 (some [(2,(.view 3))]) (Try.f41).results.toList)) = f41_2 F (Rf41j2 ∘ ef41j2) v := by
  intro t0; kernel_rfl
def f41_3 (F : Nat) (kf41j3 : (List Int) × Int → Rz) (kf41j4 : (List Int) → Rz) : (List Int) → Rz := fun t0 => (kf41j3 (t0,(0 : Int)))
theorem f41_3_eq (F : Nat) (Rf41j3 : St → Rz) (Rf41j4 : St → Rz) : ∀ v,aexec VG2241 (Af41 F) (bp Try.f41 28) (ef41j2 v) (kSeq (kc VG2241 Rf41j3 sp7) (kSeq (kc VG2241 Rf41j4 [(3,.plain)]) (kFin VG2241 (some [(2,(.view 3))]) (Try.f41).results.toList))) = f41_3 F (Rf41j3 ∘ ef41j3) (Rf41j4 ∘ ef41j4) v := by
  intro t0; kernel_rfl
def f41_4 (F : Nat) (kf41l1 : Ty5 → Rz) (kf41j4 : (List Int) → Rz) : Ty5 → Rz := fun (t0,t3,t4) => (cond (decide (t4 < (↑t0.length : Int))) (cond ((decide (0 ≤ t4)) && (decide (t4 < (↑t0.length : Int)))) (cond (decide (t3.length < 1073741000)) (kf41l1 (t0,(Isl.ins t3 (t0.getD (Int.toNat t4) 0)),(IntKind.i64.wrap (t4 + (1 : Int))))) none) none) (kf41j4 t3))
theorem f41_4_eq (F : Nat) (Rf41l1 : St → Rz) (Rf41j4 : St → Rz) : ∀ v,aexec VG2241 (Af41 F) (bp Try.f41 116) (ef41l1 v) (kSeq (kc VG2241 Rf41l1 sp47) (kBlock 0 (kSeq (kc VG2241 Rf41j4 [(3,.plain)]) (kFin VG2241 (some [(2,(.view 3))]) (Try.f41).results.toList)))) = f41_4 F (Rf41l1 ∘ ef41l1) (Rf41j4 ∘ ef41j4) v := by
  rintro ⟨t0,t3,t4⟩; kernel_rfl
def f41_5_i : (List Int) × Int → (List Int) × (List Int) × Int := fun (t0,t4) => (t0,[],t4)
def f41_5 (F : Nat) (kf41j4 : (List Int) → Rz) : (List Int) × Int → Rz := fun v => loopN (fun k => f41_4 F k kf41j4) F (f41_5_i v)
theorem f41_5_eq (F : Nat) (Rf41j4 : St → Rz) : ∀ v,aexec VG2241 (Af41 F) (bp Try.f41 58) (ef41j3 v) (kBlock 0 (kSeq (kc VG2241 Rf41j4 [(3,.plain)]) (kFin VG2241 (some [(2,(.view 3))]) (Try.f41).results.toList))) = f41_5 F (Rf41j4 ∘ ef41j4) v :=
  loop_cut (by kernel_rfl) (by kernel_rfl) ef41j3 ef41l1 _ f41_5_i (fun k => f41_4 F k (Rf41j4 ∘ ef41j4))
    (by rintro ⟨t0,t4⟩; kernel_rfl) (fun Rf41l1 => f41_4_eq F Rf41l1 Rf41j4)
def f41_6 (F : Nat) (kf41j4 : (List Int) → Rz) : (List Int) × Int → Rz := f41_5 F kf41j4
theorem f41_6_eq (F : Nat) (Rf41j4 : St → Rz) : ∀ v,aexec VG2241 (Af41 F) (bp Try.f41 29) (ef41j3 v) (kSeq (kc VG2241 Rf41j4 [(3,.plain)]) (kFin VG2241 (some [(2,(.view 3))]) (Try.f41).results.toList)) = f41_6 F (Rf41j4 ∘ ef41j4) v := fun v =>
  (block_in  (by kernel_rfl) _ _).trans (f41_5_eq F Rf41j4 v)
def f41_7 (F : Nat) (kf41j4 : (List Int) → Rz) : (List Int) → Rz := fun v => f41_3 F (f41_6 F kf41j4) kf41j4 v
theorem f41_7_eq (F : Nat) (Rf41j4 : St → Rz) : ∀ v,aexec VG2241 (Af41 F) (bp Try.f41 14) (ef41j2 v) (kSeq (kc VG2241 Rf41j4 [(3,.plain)]) (kFin VG2241 (some [(2,(.view 3))]) (Try.f41).results.toList)) = f41_7 F (Rf41j4 ∘ ef41j4) v :=
  seq_cut (by kernel_rfl) (by kernel_rfl) ef41j2 ef41j3 _ (fun k => f41_3 F k (Rf41j4 ∘ ef41j4)) (f41_6 F (Rf41j4 ∘ ef41j4))
    (fun Rf41j3 => f41_3_eq F Rf41j3 Rf41j4) (f41_6_eq F Rf41j4)
def f41_8 (F : Nat) : (List Int) → Rz := fun t3 => (some ((.vs (.rI .i64 t3) 0 1),[]))
theorem f41_8_eq (F : Nat) : ∀ v,aexec VG2241 (Af41 F) (bp Try.f41 15) (ef41j4 v) (kFin VG2241 (some [(2,(.view 3))]) (Try.f41).results.toList) = f41_8 F v := by
  intro t3; kernel_rfl
def f41_9 (F : Nat) : (List Int) → Rz := fun v => f41_7 F (f41_8 F) v
theorem f41_9_eq (F : Nat) : ∀ v,aexec VG2241 (Af41 F) (bp Try.f41 7) (ef41j2 v) (kFin VG2241 (some [(2,(.view 3))]) (Try.f41).results.toList) = f41_9 F v :=
  seq_cut (by kernel_rfl) (by kernel_rfl) ef41j2 ef41j4 _ (fun k => f41_7 F k) (f41_8 F)
    (fun Rf41j4 => f41_7_eq F Rf41j4) (f41_8_eq F)
def f41_10 (F : Nat) : (List Int) → Rz := fun v => f41_2 F (f41_9 F) v
theorem f41_10_eq (F : Nat) : ∀ v,aexec VG2241 (Af41 F) (bp Try.f41 3) (ef41j1 v) (kFin VG2241 (some [(2,(.view 3))]) (Try.f41).results.toList) = f41_10 F v :=
  seq_cut (by kernel_rfl) (by kernel_rfl) ef41j1 ef41j2 _ (fun k => f41_2 F k) (f41_9 F)
    (fun Rf41j2 => f41_2_eq F Rf41j2) (f41_9_eq F)
def f41_11 (F : Nat) : (List Int) → Rz := fun v => f41_1 F (f41_10 F) v
theorem f41_11_eq (F : Nat) : ∀ v,aexec VG2241 (Af41 F) (sub (bodyOf Try.f41) []) (ef41_a v) (kFin VG2241 (some [(2,(.view 3))]) (Try.f41).results.toList) = f41_11 F v :=
  seq_cut (by kernel_rfl) (by kernel_rfl) ef41_a ef41j1 _ (fun k => f41_1 F k) (f41_10 F)
    (fun Rf41j1 => f41_1_eq F Rf41j1) (f41_10_eq F)
def f41 (F : Nat) : (List Int) → Rz := f41_11 F
theorem f41_body (F : Nat) (a0 : List Int) : abody VG2241 (Af41 F) Try.f41 [(.vs (.rI .i64 a0) 0 1)] [] = f41 F a0 :=
  (abody_in (c := (sub (bodyOf Try.f41) [])) (by kernel_rfl) (s := ef41_a a0) (by kernel_rfl)).trans (f41_11_eq F a0)
def r41 : CRun := fun X H => match X,H with
  | [(.vs (.rI .i64 a0) 0 1)],[] => some ((decide (a0.length < 1073740000)),(.vs (.rI .i64 (Isl.set a0)) 0 1),[])
  | _,_ => none
theorem s41 (a0 : List Int) (hp : ((decide (a0.length < 1073740000))) = true) (h0 : okV (.vs (.rI .i64 a0) 0 1)) : ∃ F,f41 F a0 = some ((.vs (.rI .i64 (Isl.set a0)) 0 1),[]) := by
  simp only [decide_eq_true_eq] at hp
  refine ⟨a0.length + 1,?_⟩
  simp only [f41_1,f41_2,f41_3,f41_5_i,f41_5,f41_6,f41_7,f41_8,f41_9,f41_10,f41_11,f41]
  refine loopN_from (fun i => (a0,(a0.take i).foldl Isl.ins [],(i : Int))) a0.length (by rfl) (fun i hi k => ?_) (fun k => ?_) _ (by omega)
  · have hl : ((a0.take i).foldl Isl.ins []).length ≤ i := by
      have := Isl.set_len (a0.take i)
      rw [List.length_take] at this
      unfold Isl.set at this; omega
    simp only [f41_4,dec_and,Int.toNat_natCast]
    rw [cond_pos (by omega),cond_pos (by omega),cond_pos (by omega),i64w (by omega) (by omega),foldl_take _ _ _ 0 i hi]
    rfl
  · simp only [f41_4,f41_1,f41_2,f41_3,f41_5_i,f41_5,f41_6,f41_7,f41_8,f41_9,f41_10,f41_11,f41]
    rw [cond_neg (by omega),List.take_length]
    rfl
theorem c41 : CallOk Try.prog G22 41 r41 := callOk_of (V := VG2241) mixed tys eVG2241 (f := 41) (fn := Try.f41) Try.func41 (by kernel_rfl) (c := sub (bodyOf Try.f41) []) (by kernel_rfl) (by
  intro X H r H' h hX hH
  unfold r41 at h; split at h <;> try contradiction
  · simp only [Option.some.injEq,Prod.mk.injEq] at h
    obtain ⟨hp,rfl,rfl⟩ := h
    obtain ⟨F,hF⟩ := s41 _ hp (hX _ (.head _))
    exact ⟨Af41 F,(f41_body F _).trans hF⟩)
def lVG2212 : List CEnt := [(20,[none],r20),(36,[some 3,some 22],r36)]
def VG2212 : Env := mkEnv T22 G22 lVG2212
theorem eVG2212 : EOk Try.prog VG2212 := eok_mk (by exact ⟨c20,c36,trivial⟩)
def Af12 (F : Nat) : Cuts := { F := F,at_ := fun _ => none,join := fun _ => none,fin := (some [(4,(.own 22))]) }
def ef12_a : Int × (List (List Int)) → St := fun (a0,a1) => { tmps := [(0,(.int .i64 a0)),(1,(.vs (.rL .i64 a1) 0 1))],heap := [],next := 0,nt := 15,m := 0 }
def f12_1 (F : Nat) : Int × (List (List Int)) → Rz := fun (a0,a1) => (cond (decide (a0 < (1 : Int))) (some ((.own 0 0 1),[(.cells 0 (.rL .i64 []) true)])) (cond (decide (a0 > (4096 : Int))) (some ((.own 0 0 1),[(.cells 0 (.rL .i64 []) true)])) (cond ((decide (0 ≤ a0)) && (decide (Int.toNat a0 < 1073741000))) (cond ((decide ((Isl.nums (Int.toNat a0)).length < 1073740000)) && (Isl.inc (Isl.nums (Int.toNat a0)))) (some ((.own 0 0 1),[(.cells (Isl.clss (Isl.nums (Int.toNat a0)) a1).length (.rL .i64 (Isl.clss (Isl.nums (Int.toNat a0)) a1)) true)])) none) none)))
theorem f12_1_eq (F : Nat) : ∀ v,aexec VG2212 (Af12 F) (sub (bodyOf Try.f12) []) (ef12_a v) (kFin VG2212 (some [(4,(.own 22))]) (Try.f12).results.toList) = f12_1 F v := by
  rintro ⟨a0,a1⟩; kernel_rfl
def f12 (F : Nat) : Int × (List (List Int)) → Rz := f12_1 F
theorem f12_body (F : Nat) (a0 : Int) (a1 : List (List Int)) : abody VG2212 (Af12 F) Try.f12 [(.int .i64 a0),(.vs (.rL .i64 a1) 0 1)] [] = f12 F (a0,a1) :=
  (abody_in (c := (sub (bodyOf Try.f12) [])) (by kernel_rfl) (s := ef12_a (a0,a1)) (by kernel_rfl)).trans (f12_1_eq F (a0,a1))
def r12 : CRun := fun X H => match X,H with
  | [(.int .i64 a0),(.vs (.rL .i64 a1) 0 1)],[] => some (true,(.own 0 0 1),[(.cells (Isl.groups a0 a1).length (.rL .i64 (Isl.groups a0 a1)) true)])
  | _,_ => none
theorem s12 (a0 : Int) (a1 : List (List Int)) (h0 : okV (.int .i64 a0)) (h1 : okV (.vs (.rL .i64 a1) 0 1)) : ∃ F,f12 F (a0,a1) = some ((.own 0 0 1),[(.cells (Isl.groups a0 a1).length (.rL .i64 (Isl.groups a0 a1)) true)]) := by
  refine ⟨0,?_⟩
  simp only [f12,f12_1,dec_and,Isl.groups]
  by_cases h : a0 < 1
  · rw [cond_pos h,if_pos (.inl h)]; rfl
  · rw [cond_neg h]
    by_cases h' : a0 > 4096
    · rw [cond_pos h',if_pos (.inr h')]; rfl
    · rw [cond_neg h',cond_pos (by omega),Isl.inc_iff.2 (Isl.nums_lt _),Isl.nums_len,decide_eq_true (by omega),if_neg (by omega)]; rfl
theorem c12 : CallOk Try.prog G22 12 r12 := callOk_of (V := VG2212) mixed tys eVG2212 (f := 12) (fn := Try.f12) Try.func12 (by kernel_rfl) (c := sub (bodyOf Try.f12) []) (by kernel_rfl) (by
  intro X H r H' h hX hH
  unfold r12 at h; split at h <;> try contradiction
  · simp only [Option.some.injEq,Prod.mk.injEq] at h
    obtain ⟨hp,rfl,rfl⟩ := h
    obtain ⟨F,hF⟩ := s12 _ _ (hX _ (.head _)) (hX _ (.tail _ (.head _)))
    exact ⟨Af12 F,(f12_body F _ _).trans hF⟩)
def lVG2216 : List CEnt := [(36,[some 3,some 22],r36),(41,[some 3],r41)]
def VG2216 : Env := mkEnv T22 G22 lVG2216
theorem eVG2216 : EOk Try.prog VG2216 := eok_mk (by exact ⟨c36,c41,trivial⟩)
def Af16 (F : Nat) : Cuts := { F := F,at_ := fun n => match n with | 3010 => some sp48 | _ => none,join := fun n => match n with | 1020 => some [(0,.plain),(1,.plain)] | 2018 => some sp2 | 3012 => some sp3 | 6003 => some sp2 | _ => none,fin := (some [(4,(.own 22))]) }
def ef16_a : Ty6 → St := fun (a0,a1) => { tmps := [(0,(.vs (.rL .i64 a0) 0 1)),(1,(.vs (.rL .i64 a1) 0 1))],heap := [],next := 0,nt := 27,m := 0 }
def ef16j1 : Ty6 → St := fun (t0,t1) => { tmps := [(0,(.vs (.rL .i64 t0) 0 1)),(1,(.vs (.rL .i64 t1) 0 1))],heap := [],next := 0,nt := 27,m := 0 }
def ef16j2 : Ty6 → St := fun (t0,t1) => { tmps := [(0,(.vs (.rL .i64 t0) 0 1)),(1,(.vs (.rL .i64 t1) 0 1)),(5,.ns)],heap := [],next := 0,nt := 27,m := 0 }
def ef16j3 : Ty7 → St := fun (t0,t1,t6) => { tmps := [(0,(.vs (.rL .i64 t0) 0 1)),(1,(.vs (.rL .i64 t1) 0 1)),(5,.ns),(6,(.int .i64 t6))],heap := [],next := 0,nt := 27,m := 0 }
def ef16l1 : Ty61 → St := fun (t0,t1,t6,x4) => { tmps := [(0,(.vs (.rL .i64 t0) 0 1)),(1,(.vs (.rL .i64 t1) 0 1)),(5,(.own 0 0 1)),(6,(.int .i64 t6))],heap := [(0,(.cells x4.length (.rI .i64 x4) true))],next := 1,nt := 27,m := 0 }
def ef16j4 : Ty62 → St := fun (t0,t1,x3) => { tmps := [(0,(.vs (.rL .i64 t0) 0 1)),(1,(.vs (.rL .i64 t1) 0 1)),(5,(.own 0 0 1))],heap := [(0,(.cells x3.length (.rI .i64 x3) true))],next := 1,nt := 27,m := 0 }
def f16_1 (F : Nat) (kf16j1 : Ty6 → Rz) : Ty6 → Rz := fun (a0,a1) => (kf16j1 (a0,a1))
theorem f16_1_eq (F : Nat) (Rf16j1 : St → Rz) : ∀ v,aexec VG2216 (Af16 F) (bp Try.f16 2) (ef16_a v) (kSeq (kc VG2216 Rf16j1 [(0,.plain),(1,.plain)]) (kFin VG2216 (some [(4,(.own 22))]) (Try.f16).results.toList)) = f16_1 F (Rf16j1 ∘ ef16j1) v := by
  rintro ⟨a0,a1⟩; kernel_rfl
def f16_2 (F : Nat) (kf16j2 : Ty6 → Rz) : Ty6 → Rz := fun (t0,t1) => (kf16j2 (t0,t1))
theorem f16_2_eq (F : Nat) (Rf16j2 : St → Rz) : ∀ v,aexec VG2216 (Af16 F) (bp Try.f16 6) (ef16j1 v) (kSeq (kc VG2216 Rf16j2 sp2) (kFin VG2216 (some [(4,(.own 22))]) (Try.f16).results.toList)) = f16_2 F (Rf16j2 ∘ ef16j2) v := by
  rintro ⟨t0,t1⟩; kernel_rfl
def f16_3 (F : Nat) (kf16j3 : Ty7 → Rz) (kf16j4 : Ty62 → Rz) : Ty6 → Rz := fun (t0,t1) => (kf16j3 (t0,t1,(0 : Int)))
theorem f16_3_eq (F : Nat) (Rf16j3 : St → Rz) (Rf16j4 : St → Rz) : ∀ v,aexec VG2216 (Af16 F) (bp Try.f16 28) (ef16j2 v) (kSeq (kc VG2216 Rf16j3 sp3) (kSeq (kc VG2216 Rf16j4 sp2) (kFin VG2216 (some [(4,(.own 22))]) (Try.f16).results.toList))) = f16_3 F (Rf16j3 ∘ ef16j3) (Rf16j4 ∘ ef16j4) v := by
  rintro ⟨t0,t1⟩; kernel_rfl
def f16_4 (F : Nat) (kf16l1 : Ty61 → Rz) (kf16j4 : Ty62 → Rz) : Ty61 → Rz := fun (t0,t1,t6,x4) => (cond (decide (t6 < (↑t0.length : Int))) (cond ((decide (0 ≤ t6)) && (decide (t6 < (↑t0.length : Int)))) (cond (decide ((x4.length + (t0.getD (Int.toNat t6) []).length) < 1073741824)) (kf16l1 (t0,t1,(IntKind.i64.wrap (t6 + (1 : Int))),(x4 ++ (t0.getD (Int.toNat t6) [])))) none) none) (kf16j4 (t0,t1,x4)))
theorem f16_4_eq (F : Nat) (Rf16l1 : St → Rz) (Rf16j4 : St → Rz) : ∀ v,aexec VG2216 (Af16 F) (bp Try.f16 116) (ef16l1 v) (kSeq (kc VG2216 Rf16l1 sp48) (kBlock 0 (kSeq (kc VG2216 Rf16j4 sp2) (kFin VG2216 (some [(4,(.own 22))]) (Try.f16).results.toList)))) = f16_4 F (Rf16l1 ∘ ef16l1) (Rf16j4 ∘ ef16j4) v := by
  rintro ⟨t0,t1,t6,x4⟩; kernel_rfl
def f16_5_i : Ty7 → (List (List Int)) × (List (List Int)) × Int × (List Int) := fun (t0,t1,t6) => (t0,t1,t6,[])
def f16_5 (F : Nat) (kf16j4 : Ty62 → Rz) : Ty7 → Rz := fun v => loopN (fun k => f16_4 F k kf16j4) F (f16_5_i v)
theorem f16_5_eq (F : Nat) (Rf16j4 : St → Rz) : ∀ v,aexec VG2216 (Af16 F) (bp Try.f16 58) (ef16j3 v) (kBlock 0 (kSeq (kc VG2216 Rf16j4 sp2) (kFin VG2216 (some [(4,(.own 22))]) (Try.f16).results.toList))) = f16_5 F (Rf16j4 ∘ ef16j4) v :=
  loop_cut (by kernel_rfl) (by kernel_rfl) ef16j3 ef16l1 _ f16_5_i (fun k => f16_4 F k (Rf16j4 ∘ ef16j4))
    (by rintro ⟨t0,t1,t6⟩; kernel_rfl) (fun Rf16l1 => f16_4_eq F Rf16l1 Rf16j4)
def f16_6 (F : Nat) (kf16j4 : Ty62 → Rz) : Ty7 → Rz := f16_5 F kf16j4
theorem f16_6_eq (F : Nat) (Rf16j4 : St → Rz) : ∀ v,aexec VG2216 (Af16 F) (bp Try.f16 29) (ef16j3 v) (kSeq (kc VG2216 Rf16j4 sp2) (kFin VG2216 (some [(4,(.own 22))]) (Try.f16).results.toList)) = f16_6 F (Rf16j4 ∘ ef16j4) v := fun v =>
  (block_in  (by kernel_rfl) _ _).trans (f16_5_eq F Rf16j4 v)
def f16_7 (F : Nat) (kf16j4 : Ty62 → Rz) : Ty6 → Rz := fun v => f16_3 F (f16_6 F kf16j4) kf16j4 v
theorem f16_7_eq (F : Nat) (Rf16j4 : St → Rz) : ∀ v,aexec VG2216 (Af16 F) (bp Try.f16 14) (ef16j2 v) (kSeq (kc VG2216 Rf16j4 sp2) (kFin VG2216 (some [(4,(.own 22))]) (Try.f16).results.toList)) = f16_7 F (Rf16j4 ∘ ef16j4) v :=
  seq_cut (by kernel_rfl) (by kernel_rfl) ef16j2 ef16j3 _ (fun k => f16_3 F k (Rf16j4 ∘ ef16j4)) (f16_6 F (Rf16j4 ∘ ef16j4))
    (fun Rf16j3 => f16_3_eq F Rf16j3 Rf16j4) (f16_6_eq F Rf16j4)
def f16_8 (F : Nat) : Ty62 → Rz := fun (t0,t1,x3) => (cond (decide (x3.length < 1073740000)) (cond (decide ((0 + t0.length) < 1073741824)) (cond (decide ((([] ++ t0).length + t1.length) < 1073741824)) (cond ((decide ((Isl.set x3).length < 1073740000)) && (Isl.inc (Isl.set x3))) (some ((.own 0 0 1),[(.cells (Isl.clss (Isl.set x3) (([] ++ t0) ++ t1)).length (.rL .i64 (Isl.clss (Isl.set x3) (([] ++ t0) ++ t1))) true)])) none) none) none) none)
theorem f16_8_eq (F : Nat) : ∀ v,aexec VG2216 (Af16 F) (bp Try.f16 15) (ef16j4 v) (kFin VG2216 (some [(4,(.own 22))]) (Try.f16).results.toList) = f16_8 F v := by
  rintro ⟨t0,t1,x3⟩; kernel_rfl
def f16_9 (F : Nat) : Ty6 → Rz := fun v => f16_7 F (f16_8 F) v
theorem f16_9_eq (F : Nat) : ∀ v,aexec VG2216 (Af16 F) (bp Try.f16 7) (ef16j2 v) (kFin VG2216 (some [(4,(.own 22))]) (Try.f16).results.toList) = f16_9 F v :=
  seq_cut (by kernel_rfl) (by kernel_rfl) ef16j2 ef16j4 _ (fun k => f16_7 F k) (f16_8 F)
    (fun Rf16j4 => f16_7_eq F Rf16j4) (f16_8_eq F)
def f16_10 (F : Nat) : Ty6 → Rz := fun v => f16_2 F (f16_9 F) v
theorem f16_10_eq (F : Nat) : ∀ v,aexec VG2216 (Af16 F) (bp Try.f16 3) (ef16j1 v) (kFin VG2216 (some [(4,(.own 22))]) (Try.f16).results.toList) = f16_10 F v :=
  seq_cut (by kernel_rfl) (by kernel_rfl) ef16j1 ef16j2 _ (fun k => f16_2 F k) (f16_9 F)
    (fun Rf16j2 => f16_2_eq F Rf16j2) (f16_9_eq F)
def f16_11 (F : Nat) : Ty6 → Rz := fun v => f16_1 F (f16_10 F) v
theorem f16_11_eq (F : Nat) : ∀ v,aexec VG2216 (Af16 F) (sub (bodyOf Try.f16) []) (ef16_a v) (kFin VG2216 (some [(4,(.own 22))]) (Try.f16).results.toList) = f16_11 F v :=
  seq_cut (by kernel_rfl) (by kernel_rfl) ef16_a ef16j1 _ (fun k => f16_1 F k) (f16_10 F)
    (fun Rf16j1 => f16_1_eq F Rf16j1) (f16_10_eq F)
def f16 (F : Nat) : Ty6 → Rz := f16_11 F
theorem f16_body (F : Nat) (a0 : List (List Int)) (a1 : List (List Int)) : abody VG2216 (Af16 F) Try.f16 [(.vs (.rL .i64 a0) 0 1),(.vs (.rL .i64 a1) 0 1)] [] = f16 F (a0,a1) :=
  (abody_in (c := (sub (bodyOf Try.f16) [])) (by kernel_rfl) (s := ef16_a (a0,a1)) (by kernel_rfl)).trans (f16_11_eq F (a0,a1))
def r16 : CRun := fun X H => match X,H with
  | [(.vs (.rL .i64 a0) 0 1),(.vs (.rL .i64 a1) 0 1)],[] => some (((decide (a0.flatten.length < 1073740000)) && (decide (a0.length + a1.length < 1073741000))),(.own 0 0 1),[(.cells (Isl.merge a0 a1).length (.rL .i64 (Isl.merge a0 a1)) true)])
  | _,_ => none
theorem s16 (a0 : List (List Int)) (a1 : List (List Int)) (hp : (((decide (a0.flatten.length < 1073740000)) && (decide (a0.length + a1.length < 1073741000)))) = true) (h0 : okV (.vs (.rL .i64 a0) 0 1)) (h1 : okV (.vs (.rL .i64 a1) 0 1)) : ∃ F,f16 F (a0,a1) = some ((.own 0 0 1),[(.cells (Isl.merge a0 a1).length (.rL .i64 (Isl.merge a0 a1)) true)]) := by
  simp only [Bool.and_eq_true,decide_eq_true_eq] at hp
  obtain ⟨p0,p1⟩ := hp
  have hl := h0.2
  refine ⟨a0.length + 1,?_⟩
  simp only [f16_1,f16_2,f16_3,f16_5_i,f16_5,f16_6,f16_7,f16_8,f16_9,f16_10,f16_11,f16]
  refine loopN_from (fun i => (a0,a1,(i : Int),(a0.take i).flatten)) a0.length (by rfl) (fun i hi k => ?_) (fun k => ?_) _ (by omega)
  · have e : (a0.take (i + 1)).flatten = (a0.take i).flatten ++ a0.getD i [] := by rw [← Reg.take_get a0 [] i hi]; simp
    have hle := Isl.flatten_take_le a0 (i + 1)
    rw [e,List.length_append] at hle
    simp only [f16_4,dec_and,Int.toNat_natCast]
    rw [cond_pos (by omega),cond_pos (by omega),cond_pos (by omega),i64w (by omega) (by omega),e]
    rfl
  · simp only [f16_4,f16_1,f16_2,f16_3,f16_5_i,f16_5,f16_6,f16_7,f16_8,f16_9,f16_10,f16_11,f16,List.nil_append,Nat.zero_add]
    have := Isl.set_len a0.flatten
    rw [cond_neg (by omega),List.take_length,cond_pos (by omega),cond_pos (by omega),cond_pos (by omega),Isl.inc_iff.2 (Isl.set_lt _),decide_eq_true (by omega)]
    rfl
theorem c16 : CallOk Try.prog G22 16 r16 := callOk_of (V := VG2216) mixed tys eVG2216 (f := 16) (fn := Try.f16) Try.func16 (by kernel_rfl) (c := sub (bodyOf Try.f16) []) (by kernel_rfl) (by
  intro X H r H' h hX hH
  unfold r16 at h; split at h <;> try contradiction
  · simp only [Option.some.injEq,Prod.mk.injEq] at h
    obtain ⟨hp,rfl,rfl⟩ := h
    obtain ⟨F,hF⟩ := s16 _ _ hp (hX _ (.head _)) (hX _ (.tail _ (.head _)))
    exact ⟨Af16 F,(f16_body F _ _).trans hF⟩)
def lVG2218 : List CEnt := [(36,[some 3,some 22],r36),(41,[some 3],r41)]
def VG2218 : Env := mkEnv T22 G22 lVG2218
theorem eVG2218 : EOk Try.prog VG2218 := eok_mk (by exact ⟨c36,c41,trivial⟩)
def Af18 (F : Nat) : Cuts := { F := F,at_ := fun _ => none,join := fun _ => none,fin := (some [(4,(.own 22))]) }
def ef18_a : Ty25 → St := fun (a0,a1) => { tmps := [(0,(.vs (.rI .i64 a0) 0 1)),(1,(.vs (.rL .i64 a1) 0 1))],heap := [],next := 0,nt := 9,m := 0 }
def f18_1 (F : Nat) : Ty25 → Rz := fun (a0,a1) => (cond (decide (a0.length < 1073740000)) (cond ((decide ((Isl.set a0).length < 1073740000)) && (Isl.inc (Isl.set a0))) (some ((.own 0 0 1),[(.cells (Isl.clss (Isl.set a0) a1).length (.rL .i64 (Isl.clss (Isl.set a0) a1)) true)])) none) none)
theorem f18_1_eq (F : Nat) : ∀ v,aexec VG2218 (Af18 F) (sub (bodyOf Try.f18) []) (ef18_a v) (kFin VG2218 (some [(4,(.own 22))]) (Try.f18).results.toList) = f18_1 F v := by
  rintro ⟨a0,a1⟩; kernel_rfl
def f18 (F : Nat) : Ty25 → Rz := f18_1 F
theorem f18_body (F : Nat) (a0 : List Int) (a1 : List (List Int)) : abody VG2218 (Af18 F) Try.f18 [(.vs (.rI .i64 a0) 0 1),(.vs (.rL .i64 a1) 0 1)] [] = f18 F (a0,a1) :=
  (abody_in (c := (sub (bodyOf Try.f18) [])) (by kernel_rfl) (s := ef18_a (a0,a1)) (by kernel_rfl)).trans (f18_1_eq F (a0,a1))
def r18 : CRun := fun X H => match X,H with
  | [(.vs (.rI .i64 a0) 0 1),(.vs (.rL .i64 a1) 0 1)],[] => some ((decide (a0.length < 1073740000)),(.own 0 0 1),[(.cells (Isl.split a0 a1).length (.rL .i64 (Isl.split a0 a1)) true)])
  | _,_ => none
theorem s18 (a0 : List Int) (a1 : List (List Int)) (hp : ((decide (a0.length < 1073740000))) = true) (h0 : okV (.vs (.rI .i64 a0) 0 1)) (h1 : okV (.vs (.rL .i64 a1) 0 1)) : ∃ F,f18 F (a0,a1) = some ((.own 0 0 1),[(.cells (Isl.split a0 a1).length (.rL .i64 (Isl.split a0 a1)) true)]) := by
  simp only [decide_eq_true_eq] at hp
  refine ⟨0,?_⟩
  simp only [f18,f18_1,Isl.split]
  have := Isl.set_len a0
  rw [cond_pos (by omega),Isl.inc_iff.2 (Isl.set_lt _),decide_eq_true (by omega)]
  rfl
theorem c18 : CallOk Try.prog G22 18 r18 := callOk_of (V := VG2218) mixed tys eVG2218 (f := 18) (fn := Try.f18) Try.func18 (by kernel_rfl) (c := sub (bodyOf Try.f18) []) (by kernel_rfl) (by
  intro X H r H' h hX hH
  unfold r18 at h; split at h <;> try contradiction
  · simp only [Option.some.injEq,Prod.mk.injEq] at h
    obtain ⟨hp,rfl,rfl⟩ := h
    obtain ⟨F,hF⟩ := s18 _ _ hp (hX _ (.head _)) (hX _ (.tail _ (.head _)))
    exact ⟨Af18 F,(f18_body F _ _).trans hF⟩)
end Go.Am
end
section
namespace Go.Am
open Go Go.Proofs
def lVG2219 : List CEnt := [(14,[some 22,some 22],r14),(15,[some 22,some 22],r15),(17,[some 3,some 22],r17),(21,[some 3,some 3],r21),(22,[some 3,some 22],r22),(24,[none,some 22],r24)]
def VG2219 : Env := mkEnv T22 G22 lVG2219
theorem eVG2219 : EOk Try.prog VG2219 := eok_mk (by exact ⟨c14,c15,c17,c21,c22,c24,trivial⟩)
def Af19 (F : Nat) : Cuts := { F := F,at_ := fun _ => none,join := fun _ => none }
def ef19_a : Unit → St := fun _ => { tmps := [],heap := [],next := 0,nt := 43,m := 0 }
def f19_1 (F : Nat) : Unit → Rz := fun _ => (cond (decide ((Isl.groups (6 : Int) [[(1 : Int),(3 : Int)],[(3 : Int),(4 : Int)],[(9 : Int),(5 : Int)]]) = [[(0 : Int)],[(1 : Int),(3 : Int),(4 : Int)],[(2 : Int)],[(5 : Int)]])) (cond ((decide ((Isl.groups (6 : Int) [[(1 : Int),(3 : Int)],[(3 : Int),(4 : Int)],[(9 : Int),(5 : Int)]]).flatten.length < 1073740000)) && (decide ((Isl.groups (6 : Int) [[(1 : Int),(3 : Int)],[(3 : Int),(4 : Int)],[(9 : Int),(5 : Int)]]).length + [[(0 : Int),(2 : Int),(5 : Int)]].length < 1073741000))) (cond (decide ((Isl.merge (Isl.groups (6 : Int) [[(1 : Int),(3 : Int)],[(3 : Int),(4 : Int)],[(9 : Int),(5 : Int)]]) [[(0 : Int),(2 : Int),(5 : Int)]]) = [[(0 : Int),(2 : Int),(5 : Int)],[(1 : Int),(3 : Int),(4 : Int)]])) (cond (decide ([(1 : Int),(3 : Int),(4 : Int)].length < 1073740000)) (cond (decide ((Isl.split [(1 : Int),(3 : Int),(4 : Int)] [[(3 : Int),(4 : Int)]]) = [[(1 : Int)],[(3 : Int),(4 : Int)]])) (cond (decide ([(1 : Int),(3 : Int),(4 : Int)].length < 1073740000)) (some ((.bool (decide ((Isl.cut [(1 : Int),(3 : Int),(4 : Int)] [[(1 : Int),(3 : Int)],[(3 : Int),(4 : Int)]]) = [(3 : Int)]))),[])) none) (some ((.bool false),[]))) none) (some ((.bool false),[]))) none) (some ((.bool false),[])))
theorem f19_1_eq (F : Nat) : ∀ v,aexec VG2219 (Af19 F) (sub (bodyOf Try.f19) []) (ef19_a v) (kFin VG2219 none (Try.f19).results.toList) = f19_1 F v := by
  intro _; kernel_rfl
def f19 (F : Nat) : Unit → Rz := f19_1 F
theorem f19_body (F : Nat)  : abody VG2219 (Af19 F) Try.f19 [] [] = f19 F () :=
  (abody_in (c := (sub (bodyOf Try.f19) [])) (by kernel_rfl) (s := ef19_a ()) (by kernel_rfl)).trans (f19_1_eq F ())
def r19 : CRun := fun X H => match X,H with
  | [],[] => some (true,(.bool true),[])
  | _,_ => none
theorem s19  : ∃ F,f19 F () = some ((.bool true),[]) := ⟨60,by kernel_rfl⟩
theorem c19 : CallOk Try.prog G22 19 r19 := callOk_of (V := VG2219) mixed tys eVG2219 (f := 19) (fn := Try.f19) Try.func19 (by kernel_rfl) (c := sub (bodyOf Try.f19) []) (by kernel_rfl) (by
  intro X H r H' h hX hH
  unfold r19 at h; split at h <;> try contradiction
  · simp only [Option.some.injEq,Prod.mk.injEq] at h
    obtain ⟨hp,rfl,rfl⟩ := h
    obtain ⟨F,hF⟩ := s19
    exact ⟨Af19 F,(f19_body F).trans hF⟩)
end Go.Am
end
section
/- Package island: laws of classes. -/
namespace Go.Am.Isl
open Go Go.Am
variable {s : List Int} {links : List (List Int)}
theorem flatten_le {k : Nat} : ∀ {l : List (List Int)}, (∀ g ∈ l, g.length ≤ k) → l.flatten.length ≤ l.length * k
  | [], _ => by simp
  | g :: l, h => by
    have h1 := h g (List.mem_cons_self ..)
    have h2 := flatten_le (l := l) fun x hx => h x (List.mem_cons_of_mem _ hx)
    simp only [List.flatten_cons, List.length_append, List.length_cons]
    rw [Nat.add_mul, Nat.one_mul]; omega
theorem clss_bound (hs : Lt s) (links : List (List Int)) : (clss s links).length ≤ s.length ∧ ∀ g ∈ clss s links, g.length ≤ s.length := by
  rw [clss_eq hs]
  refine ⟨?_, fun g hg => ?_⟩
  · rw [List.length_map]; exact List.length_filter_le _ _
  · obtain ⟨x, _, rfl⟩ := List.mem_map.1 hg
    exact List.length_filter_le _ _
theorem groups_bound (n : Int) (links : List (List Int)) : (groups n links).length ≤ n.toNat ∧ ∀ g ∈ groups n links, g.length ≤ n.toNat := by
  unfold groups
  split
  · simp
  · have := clss_bound (nums_lt n.toNat) links
    rw [nums_len] at this
    exact this
theorem few_each {l : List (List Int)} : ∀ g ∈ few l, g.length ≤ 8 := fun g hg => by
  obtain ⟨x, _, rfl⟩ := List.mem_map.1 hg
  rw [List.length_take]; omega
theorem getD_len {l : List (List Int)} {k : Nat} (hb : ∀ g ∈ l, g.length ≤ k) (i : Nat) : (l.getD i []).length ≤ k := by
  rw [List.getD_eq_getElem?_getD]
  cases h : l[i]? with
  | none => simp
  | some x => exact hb x (List.mem_of_getElem? h)
theorem groups_flat {n : Int} {N : Nat} (hn : n.toNat ≤ N) (links : List (List Int)) : (groups n links).flatten.length ≤ N * N := by
  obtain ⟨h1, h2⟩ := groups_bound n links
  exact Nat.le_trans (flatten_le h2) (Nat.mul_le_mul (by omega) hn)
theorem few_flat (l : List (List Int)) : (few l).flatten.length ≤ 64 := by
  have := flatten_le (few_each (l := l))
  have := few_len l
  omega
end Go.Am.Isl
end