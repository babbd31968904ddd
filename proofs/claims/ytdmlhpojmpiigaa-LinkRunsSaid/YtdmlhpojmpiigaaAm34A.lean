/- Part of a proof about the functions of the given program. -/
import Derived.Test.YtdmlhpojmpiigaaAmLink
import Derived.Test.YtdmlhpojmpiigaaProg
set_option linter.unusedVariables false
set_option linter.unusedSimpArgs false
namespace Go.Am
open Go Go.Proofs
abbrev sp0 : List (Nat × Md) := [(3,.plain),(4,.plain),(5,.plain)]
abbrev sp1 : List (Nat × Md) := [(3,.plain),(4,.plain),(6,.plain),(7,.plain)]
abbrev sp2 : List (Nat × Md) := [(0,.plain),(3,.plain),(4,.plain)]
abbrev sp3 : List (Nat × Md) := [(3,.plain),(4,.plain),(5,.plain),(6,.plain)]
abbrev sp4 : List (Nat × Md) := [(0,.plain),(3,.plain),(4,.own 5)]
abbrev sp5 : List (Nat × Md) := [(0,.plain),(4,.plain),(6,.plain),(7,.plain)]
abbrev sp6 : List (Nat × Md) := [(0,.plain),(4,.plain),(5,.plain)]
abbrev sp7 : List (Nat × Md) := [(0,.plain),(4,.plain),(5,.plain),(6,.plain)]
abbrev sp8 : List (Nat × Md) := [(3,.plain),(9,.plain),(10,.plain),(11,.plain)]
abbrev sp9 : List (Nat × Md) := [(0,.plain),(1,.plain),(5,.plain)]
abbrev Ty0 := Int × Int × Int × (List Int)
abbrev Ty1 := Int × Int × (List Int) × (List Int)
abbrev Ty2 := (List Int) × Int × Int × (List Int)
abbrev Ty3 := (List Int) × Int × (List Int)
abbrev Ty4 := (List Int) × (List Int) × Int
def T34 : Tys := [⟨.other,1,0⟩,⟨.other,1,8⟩,⟨.int .i64,1,8⟩,⟨.int .i64,1,8⟩,⟨.bool,1,1⟩,⟨.int .u8,1,1⟩,⟨.int .u8,1,1⟩,⟨.struct [(2,0),(3,1),(4,2),(6,3)],4,24⟩,⟨.struct [(2,0),(3,1),(4,2),(6,3)],4,24⟩,⟨.str,1,16⟩,⟨.str,1,16⟩,⟨.str,1,16⟩,⟨.int .u64,1,8⟩,⟨.other,0,0⟩,⟨.other,0,0⟩,⟨.ptr 96,1,8⟩,⟨.ptr 99,1,8⟩,⟨.ptr 108,1,8⟩,⟨.other,0,0⟩,⟨.other,0,0⟩,⟨.other,1,16⟩,⟨.int .i32,1,4⟩,⟨.int .u64,1,8⟩,⟨.slice 3,1,24⟩,⟨.slice 35,1,24⟩,⟨.other,1,8⟩,⟨.ptr 31,1,8⟩,⟨.other,1,8⟩,⟨.slice 33,1,24⟩,⟨.slice 78,1,24⟩,⟨.struct [(3,0),(22,1),(28,2),(3,3),(3,4),(29,5),(4,6),(3,7)],8,96⟩,⟨.struct [(3,0),(22,1),(28,2),(3,3),(3,4),(29,5),(4,6),(3,7)],8,96⟩,⟨.slice 26,1,24⟩,⟨.slice 5,1,24⟩,⟨.int .i64,1,8⟩,⟨.ptr 65,1,8⟩,⟨.other,1,8⟩,⟨.other,1,8⟩,⟨.other,1,8⟩,⟨.other,1,8⟩,⟨.other,1,8⟩,⟨.other,1,8⟩,⟨.struct [(3,0),(3,1),(33,2)],3,40⟩,⟨.struct [(3,0),(3,1),(33,2)],3,40⟩,⟨.other,1,0⟩,⟨.other,1,8⟩,⟨.other,1,8⟩,⟨.other,1,8⟩,⟨.other,1,8⟩,⟨.other,1,0⟩,⟨.other,1,8⟩,⟨.other,1,8⟩,⟨.other,1,8⟩,⟨.other,1,0⟩,⟨.other,1,8⟩,⟨.other,1,8⟩,⟨.slice 22,1,24⟩,⟨.other,1,8⟩,⟨.slice 28,1,24⟩,⟨.other,1,8⟩,⟨.other,1,8⟩,⟨.other,1,8⟩,⟨.other,1,8⟩,⟨.map 3 33,1,8⟩,⟨.struct [(3,0),(22,1),(28,2),(3,3),(3,4),(63,5),(4,6),(3,7)],8,80⟩,⟨.struct [(3,0),(22,1),(28,2),(3,3),(3,4),(63,5),(4,6),(3,7)],8,80⟩,⟨.other,1,8⟩,⟨.struct [(3,0),(3,1),(33,2)],3,40⟩,⟨.struct [(3,0),(3,1),(33,2)],3,40⟩,⟨.other,1,8⟩,⟨.other,1,0⟩,⟨.other,1,8⟩,⟨.other,1,8⟩,⟨.other,1,0⟩,⟨.other,1,0⟩,⟨.other,1,8⟩,⟨.other,1,8⟩,⟨.struct [(3,0),(33,1)],2,32⟩,⟨.struct [(3,0),(33,1)],2,32⟩,⟨.arr 8 5,8,8⟩,⟨.other,1,8⟩,⟨.other,1,8⟩,⟨.other,1,8⟩,⟨.other,1,8⟩,⟨.other,1,0⟩,⟨.other,1,8⟩,⟨.other,1,0⟩,⟨.other,1,8⟩,⟨.other,1,0⟩,⟨.other,1,8⟩,⟨.other,1,8⟩,⟨.other,1,8⟩,⟨.other,1,8⟩,⟨.int .u64,1,8⟩,⟨.other,1,8⟩,⟨.other,0,0⟩,⟨.other,0,0⟩,⟨.arr 0 16,0,0⟩,⟨.other,0,0⟩,⟨.other,0,0⟩,⟨.int .u32,1,4⟩,⟨.int .u8,1,1⟩,⟨.int .u8,1,1⟩,⟨.other,1,8⟩,⟨.ptr 5,1,8⟩,⟨.int .i32,1,4⟩,⟨.int .i32,1,4⟩,⟨.other,0,0⟩,⟨.other,0,0⟩,⟨.other,1,8⟩]
def G34 : Nat → Option AV := fun _ => none
theorem mixed : Try.prog.follows .mixedOrders = true := by kernel_rfl
theorem tys : TysOk Try.prog T34 := tysB_ok (by kernel_rfl)

def lVG3443 : List CEnt := []
def VG3443 : Env := mkEnv T34 G34 lVG3443
theorem eVG3443 : EOk Try.prog VG3443 := eok_mk (by exact trivial)
def Af43 (F : Nat) : Cuts := { F := F,at_ := fun n => match n with | 5014 => some sp0 | 10010 => some sp1 | _ => none,join := fun n => match n with | 1050 => some [(0,.plain)] | 2047 => some sp2 | 4041 => some [(3,.plain),(4,.plain)] | 5037 => some sp0 | 5039 => some sp0 | 8020 => some sp0 | 9018 => some sp3 | 10012 => some sp1 | 13003 => some [(6,.plain)] | _ => none }
def ef43_a : Int → St := fun a0 => { tmps := [(0,(.int .i64 a0))],heap := [],next := 0,nt := 47,m := 0 }
def ef43j1 : Int → St := fun t0 => { tmps := [(0,(.int .i64 t0))],heap := [],next := 0,nt := 47,m := 0 }
def ef43j2 : Int × Int × Int → St := fun (t0,t3,t4) => { tmps := [(0,(.int .i64 t0)),(3,(.int .u64 t3)),(4,(.int .u8 t4))],heap := [],next := 0,nt := 47,m := 0 }
def ef43j3 : Int × Int → St := fun (t3,t4) => { tmps := [(3,(.int .u64 t3)),(4,(.int .u8 t4))],heap := [],next := 0,nt := 47,m := 0 }
def ef43j4 : Int × Int × Int → St := fun (t3,t4,t5) => { tmps := [(3,(.int .u64 t3)),(4,(.int .u8 t4)),(5,(.int .i64 t5))],heap := [],next := 0,nt := 47,m := 0 }
def ef43j5 : Int × Int × Int → St := fun (t3,t4,t5) => { tmps := [(3,(.int .u64 t3)),(4,(.int .u8 t4)),(5,(.int .i64 t5))],heap := [],next := 0,nt := 47,m := 0 }
def ef43l1 : Int × Int × Int → St := fun (t3,t4,t5) => { tmps := [(3,(.int .u64 t3)),(4,(.int .u8 t4)),(5,(.int .i64 t5))],heap := [],next := 0,nt := 47,m := 0 }
def ef43j6 : Int × Int × Int → St := fun (t3,t4,t5) => { tmps := [(3,(.int .u64 t3)),(4,(.int .u8 t4)),(5,(.int .i64 t5))],heap := [],next := 0,nt := 47,m := 0 }
def ef43j7 : Ty0 → St := fun (t3,t4,t5,x4) => { tmps := [(3,(.int .u64 t3)),(4,(.int .u8 t4)),(5,(.int .i64 t5)),(6,(.own 0 0 1))],heap := [(0,(.cells x4.length (.rI .u8 x4) true))],next := 1,nt := 47,m := 0 }
def ef43j8 : Ty0 → St := fun (t3,t4,t7,x4) => { tmps := [(3,(.int .u64 t3)),(4,(.int .u8 t4)),(6,(.own 0 0 1)),(7,(.int .i64 t7))],heap := [(0,(.cells x4.length (.rI .u8 x4) true))],next := 1,nt := 47,m := 0 }
def ef43l2 : Ty0 → St := fun (t3,t4,t7,x4) => { tmps := [(3,(.int .u64 t3)),(4,(.int .u8 t4)),(6,(.own 0 0 1)),(7,(.int .i64 t7))],heap := [(0,(.cells x4.length (.rI .u8 x4) true))],next := 1,nt := 47,m := 0 }
def ef43j9 : (List Int) → St := fun x1 => { tmps := [(6,(.own 0 0 1))],heap := [(0,(.cells x1.length (.rI .u8 x1) true))],next := 1,nt := 47,m := 0 }
def f43_1 (F : Nat) (kf43j1 : Int → Rz) : Int → Rz := fun a0 => (kf43j1 a0)
theorem f43_1_eq (F : Nat) (Rf43j1 : St → Rz) : ∀ v,aexec VG3443 (Af43 F) (bp Try.f43 2) (ef43_a v) (kSeq (kc VG3443 Rf43j1 [(0,.plain)]) (kFin VG3443 none (Try.f43).results.toList)) = f43_1 F (Rf43j1 ∘ ef43j1) v := by
  intro a0; kernel_rfl
def f43_2 (F : Nat) (kf43j2 : Int × Int × Int → Rz) : Int → Rz := fun t0 => (kf43j2 (t0,(IntKind.u64.wrap t0),(0 : Int)))
theorem f43_2_eq (F : Nat) (Rf43j2 : St → Rz) : ∀ v,aexec VG3443 (Af43 F) (bp Try.f43 12) (ef43j1 v) (kSeq (kc VG3443 Rf43j2 sp2) (kFin VG3443 none (Try.f43).results.toList)) = f43_2 F (Rf43j2 ∘ ef43j2) v := by
  intro t0; kernel_rfl
def f43_3 (F : Nat) (kf43j3 : Int × Int → Rz) : Int × Int × Int → Rz := fun (t0,t3,t4) => (cond (decide (t0 < (0 : Int))) (kf43j3 ((ibits .xor .u64 (18446744073709551615 : Int) t3),(255 : Int))) (kf43j3 (t3,t4)))
theorem f43_3_eq (F : Nat) (Rf43j3 : St → Rz) : ∀ v,aexec VG3443 (Af43 F) (bp Try.f43 26) (ef43j2 v) (kSeq (kc VG3443 Rf43j3 [(3,.plain),(4,.plain)]) (kFin VG3443 none (Try.f43).results.toList)) = f43_3 F (Rf43j3 ∘ ef43j3) v := by
  rintro ⟨t0,t3,t4⟩; kernel_rfl
def f43_4 (F : Nat) (kf43j4 : Int × Int × Int → Rz) : Int × Int → Rz := fun (t3,t4) => (kf43j4 (t3,t4,(8 : Int)))
theorem f43_4_eq (F : Nat) (Rf43j4 : St → Rz) : ∀ v,aexec VG3443 (Af43 F) (bp Try.f43 54) (ef43j3 v) (kSeq (kc VG3443 Rf43j4 sp0) (kFin VG3443 none (Try.f43).results.toList)) = f43_4 F (Rf43j4 ∘ ef43j4) v := by
  rintro ⟨t3,t4⟩; kernel_rfl
def f43_5 (F : Nat) (kf43j5 : Int × Int × Int → Rz) : Int × Int × Int → Rz := fun (t3,t4,t5) => (kf43j5 (t3,t4,t5))
theorem f43_5_eq (F : Nat) (Rf43j5 : St → Rz) : ∀ v,aexec VG3443 (Af43 F) (bp Try.f43 110) (ef43j4 v) (kSeq (kc VG3443 Rf43j5 sp0) (kFin VG3443 none (Try.f43).results.toList)) = f43_5 F (Rf43j5 ∘ ef43j5) v := by
  rintro ⟨t3,t4,t5⟩; kernel_rfl
def f43_6 (F : Nat) (kf43l1 : Int × Int × Int → Rz) (kf43j6 : Int × Int × Int → Rz) : Int × Int × Int → Rz := fun (t3,t4,t5) => (cond (decide (t5 > (0 : Int))) (cond (decide (0 ≤ (IntKind.i64.wrap ((8 : Int) * (IntKind.i64.wrap (t5 - (1 : Int))))))) (cond (decide ((Int.fdiv t3 (2 ^ (min (Int.toNat (IntKind.i64.wrap ((8 : Int) * (IntKind.i64.wrap (t5 - (1 : Int)))))) 64))) > (0 : Int))) (kf43j6 (t3,t4,t5)) (kf43l1 (t3,t4,(IntKind.i64.wrap (t5 - (1 : Int)))))) none) (kf43j6 (t3,t4,t5)))
theorem f43_6_eq (F : Nat) (Rf43l1 : St → Rz) (Rf43j6 : St → Rz) : ∀ v,aexec VG3443 (Af43 F) (bp Try.f43 888) (ef43l1 v) (kSeq (kc VG3443 Rf43l1 sp0) (kBlock 0 (kSeq (kc VG3443 Rf43j6 sp0) (kFin VG3443 none (Try.f43).results.toList)))) = f43_6 F (Rf43l1 ∘ ef43l1) (Rf43j6 ∘ ef43j6) v := by
  rintro ⟨t3,t4,t5⟩; kernel_rfl
def f43_7_i : Int × Int × Int → Int × Int × Int := fun (t3,t4,t5) => (t3,t4,t5)
def f43_7 (F : Nat) (kf43j6 : Int × Int × Int → Rz) : Int × Int × Int → Rz := fun v => loopN (fun k => f43_6 F k kf43j6) F (f43_7_i v)
theorem f43_7_eq (F : Nat) (Rf43j6 : St → Rz) : ∀ v,aexec VG3443 (Af43 F) (bp Try.f43 444) (ef43j5 v) (kBlock 0 (kSeq (kc VG3443 Rf43j6 sp0) (kFin VG3443 none (Try.f43).results.toList))) = f43_7 F (Rf43j6 ∘ ef43j6) v :=
  loop_cut (by kernel_rfl) (by kernel_rfl) ef43j5 ef43l1 _ f43_7_i (fun k => f43_6 F k (Rf43j6 ∘ ef43j6))
    (by rintro ⟨t3,t4,t5⟩; kernel_rfl) (fun Rf43l1 => f43_6_eq F Rf43l1 Rf43j6)
def f43_8 (F : Nat) (kf43j6 : Int × Int × Int → Rz) : Int × Int × Int → Rz := f43_7 F kf43j6
theorem f43_8_eq (F : Nat) (Rf43j6 : St → Rz) : ∀ v,aexec VG3443 (Af43 F) (bp Try.f43 222) (ef43j5 v) (kSeq (kc VG3443 Rf43j6 sp0) (kFin VG3443 none (Try.f43).results.toList)) = f43_8 F (Rf43j6 ∘ ef43j6) v := fun v =>
  (block_in  (by kernel_rfl) _ _).trans (f43_7_eq F Rf43j6 v)
def f43_9 (F : Nat) (kf43j7 : Ty0 → Rz) : Int × Int × Int → Rz := fun (t3,t4,t5) => (kf43j7 (t3,t4,t5,[(ibits .xor .u8 (IntKind.u8.wrap (IntKind.i64.wrap ((128 : Int) + t5))) t4)]))
theorem f43_9_eq (F : Nat) (Rf43j7 : St → Rz) : ∀ v,aexec VG3443 (Af43 F) (bp Try.f43 446) (ef43j6 v) (kSeq (kc VG3443 Rf43j7 sp3) (kFin VG3443 none (Try.f43).results.toList)) = f43_9 F (Rf43j7 ∘ ef43j7) v := by
  rintro ⟨t3,t4,t5⟩; kernel_rfl
def f43_10 (F : Nat) (kf43j8 : Ty0 → Rz) (kf43j9 : (List Int) → Rz) : Ty0 → Rz := fun (t3,t4,t5,x4) => (kf43j8 (t3,t4,(IntKind.i64.wrap (t5 - (1 : Int))),x4))
theorem f43_10_eq (F : Nat) (Rf43j8 : St → Rz) (Rf43j9 : St → Rz) : ∀ v,aexec VG3443 (Af43 F) (bp Try.f43 1788) (ef43j7 v) (kSeq (kc VG3443 Rf43j8 sp1) (kSeq (kc VG3443 Rf43j9 [(6,.plain)]) (kFin VG3443 none (Try.f43).results.toList))) = f43_10 F (Rf43j8 ∘ ef43j8) (Rf43j9 ∘ ef43j9) v := by
  rintro ⟨t3,t4,t5,x4⟩; kernel_rfl
def f43_11 (F : Nat) (kf43l2 : Ty0 → Rz) (kf43j9 : (List Int) → Rz) : Ty0 → Rz := fun (t3,t4,t7,x4) => (cond (decide (t7 ≥ (0 : Int))) (cond (decide (0 ≤ (IntKind.i64.wrap ((8 : Int) * t7)))) (cond (decide ((x4.length + 1) < 1073741824)) (kf43l2 (t3,t4,(IntKind.i64.wrap (t7 - (1 : Int))),(x4 ++ [(ibits .xor .u8 (IntKind.u8.wrap (Int.fdiv t3 (2 ^ (min (Int.toNat (IntKind.i64.wrap ((8 : Int) * t7))) 64)))) t4)]))) none) none) (kf43j9 x4))
theorem f43_11_eq (F : Nat) (Rf43l2 : St → Rz) (Rf43j9 : St → Rz) : ∀ v,aexec VG3443 (Af43 F) (bp Try.f43 7156) (ef43l2 v) (kSeq (kc VG3443 Rf43l2 sp1) (kBlock 2 (kSeq (kc VG3443 Rf43j9 [(6,.plain)]) (kFin VG3443 none (Try.f43).results.toList)))) = f43_11 F (Rf43l2 ∘ ef43l2) (Rf43j9 ∘ ef43j9) v := by
  rintro ⟨t3,t4,t7,x4⟩; kernel_rfl
def f43_12_i : Ty0 → Int × Int × Int × (List Int) := fun (t3,t4,t7,x4) => (t3,t4,t7,x4)
def f43_12 (F : Nat) (kf43j9 : (List Int) → Rz) : Ty0 → Rz := fun v => loopN (fun k => f43_11 F k kf43j9) F (f43_12_i v)
theorem f43_12_eq (F : Nat) (Rf43j9 : St → Rz) : ∀ v,aexec VG3443 (Af43 F) (bp Try.f43 3578) (ef43j8 v) (kBlock 2 (kSeq (kc VG3443 Rf43j9 [(6,.plain)]) (kFin VG3443 none (Try.f43).results.toList))) = f43_12 F (Rf43j9 ∘ ef43j9) v :=
  loop_cut (by kernel_rfl) (by kernel_rfl) ef43j8 ef43l2 _ f43_12_i (fun k => f43_11 F k (Rf43j9 ∘ ef43j9))
    (by rintro ⟨t3,t4,t7,x4⟩; kernel_rfl) (fun Rf43l2 => f43_11_eq F Rf43l2 Rf43j9)
def f43_13 (F : Nat) (kf43j9 : (List Int) → Rz) : Ty0 → Rz := f43_12 F kf43j9
theorem f43_13_eq (F : Nat) (Rf43j9 : St → Rz) : ∀ v,aexec VG3443 (Af43 F) (bp Try.f43 1789) (ef43j8 v) (kSeq (kc VG3443 Rf43j9 [(6,.plain)]) (kFin VG3443 none (Try.f43).results.toList)) = f43_13 F (Rf43j9 ∘ ef43j9) v := fun v =>
  (block_in  (by kernel_rfl) _ _).trans (f43_12_eq F Rf43j9 v)
def f43_14 (F : Nat) (kf43j9 : (List Int) → Rz) : Ty0 → Rz := fun v => f43_10 F (f43_13 F kf43j9) kf43j9 v
theorem f43_14_eq (F : Nat) (Rf43j9 : St → Rz) : ∀ v,aexec VG3443 (Af43 F) (bp Try.f43 894) (ef43j7 v) (kSeq (kc VG3443 Rf43j9 [(6,.plain)]) (kFin VG3443 none (Try.f43).results.toList)) = f43_14 F (Rf43j9 ∘ ef43j9) v :=
  seq_cut (by kernel_rfl) (by kernel_rfl) ef43j7 ef43j8 _ (fun k => f43_10 F k (Rf43j9 ∘ ef43j9)) (f43_13 F (Rf43j9 ∘ ef43j9))
    (fun Rf43j8 => f43_10_eq F Rf43j8 Rf43j9) (f43_13_eq F Rf43j9)
def f43_15 (F : Nat) : (List Int) → Rz := fun x1 => (some ((.own 0 0 1),[(.cells x1.length (.rI .u8 x1) true)]))
theorem f43_15_eq (F : Nat) : ∀ v,aexec VG3443 (Af43 F) (bp Try.f43 895) (ef43j9 v) (kFin VG3443 none (Try.f43).results.toList) = f43_15 F v := by
  intro x1; kernel_rfl
def f43_16 (F : Nat) : Ty0 → Rz := fun v => f43_14 F (f43_15 F) v
theorem f43_16_eq (F : Nat) : ∀ v,aexec VG3443 (Af43 F) (bp Try.f43 447) (ef43j7 v) (kFin VG3443 none (Try.f43).results.toList) = f43_16 F v :=
  seq_cut (by kernel_rfl) (by kernel_rfl) ef43j7 ef43j9 _ (fun k => f43_14 F k) (f43_15 F)
    (fun Rf43j9 => f43_14_eq F Rf43j9) (f43_15_eq F)
def f43_17 (F : Nat) : Int × Int × Int → Rz := fun v => f43_9 F (f43_16 F) v
theorem f43_17_eq (F : Nat) : ∀ v,aexec VG3443 (Af43 F) (bp Try.f43 223) (ef43j6 v) (kFin VG3443 none (Try.f43).results.toList) = f43_17 F v :=
  seq_cut (by kernel_rfl) (by kernel_rfl) ef43j6 ef43j7 _ (fun k => f43_9 F k) (f43_16 F)
    (fun Rf43j7 => f43_9_eq F Rf43j7) (f43_16_eq F)
def f43_18 (F : Nat) : Int × Int × Int → Rz := fun v => f43_8 F (f43_17 F) v
theorem f43_18_eq (F : Nat) : ∀ v,aexec VG3443 (Af43 F) (bp Try.f43 111) (ef43j5 v) (kFin VG3443 none (Try.f43).results.toList) = f43_18 F v :=
  seq_cut (by kernel_rfl) (by kernel_rfl) ef43j5 ef43j6 _ (fun k => f43_8 F k) (f43_17 F)
    (fun Rf43j6 => f43_8_eq F Rf43j6) (f43_17_eq F)
def f43_19 (F : Nat) : Int × Int × Int → Rz := fun v => f43_5 F (f43_18 F) v
theorem f43_19_eq (F : Nat) : ∀ v,aexec VG3443 (Af43 F) (bp Try.f43 55) (ef43j4 v) (kFin VG3443 none (Try.f43).results.toList) = f43_19 F v :=
  seq_cut (by kernel_rfl) (by kernel_rfl) ef43j4 ef43j5 _ (fun k => f43_5 F k) (f43_18 F)
    (fun Rf43j5 => f43_5_eq F Rf43j5) (f43_18_eq F)
def f43_20 (F : Nat) : Int × Int → Rz := fun v => f43_4 F (f43_19 F) v
theorem f43_20_eq (F : Nat) : ∀ v,aexec VG3443 (Af43 F) (bp Try.f43 27) (ef43j3 v) (kFin VG3443 none (Try.f43).results.toList) = f43_20 F v :=
  seq_cut (by kernel_rfl) (by kernel_rfl) ef43j3 ef43j4 _ (fun k => f43_4 F k) (f43_19 F)
    (fun Rf43j4 => f43_4_eq F Rf43j4) (f43_19_eq F)
def f43_21 (F : Nat) : Int × Int × Int → Rz := fun v => f43_3 F (f43_20 F) v
theorem f43_21_eq (F : Nat) : ∀ v,aexec VG3443 (Af43 F) (bp Try.f43 13) (ef43j2 v) (kFin VG3443 none (Try.f43).results.toList) = f43_21 F v :=
  seq_cut (by kernel_rfl) (by kernel_rfl) ef43j2 ef43j3 _ (fun k => f43_3 F k) (f43_20 F)
    (fun Rf43j3 => f43_3_eq F Rf43j3) (f43_20_eq F)
def f43_22 (F : Nat) : Int → Rz := fun v => f43_2 F (f43_21 F) v
theorem f43_22_eq (F : Nat) : ∀ v,aexec VG3443 (Af43 F) (bp Try.f43 6) (ef43j1 v) (kFin VG3443 none (Try.f43).results.toList) = f43_22 F v :=
  seq_cut (by kernel_rfl) (by kernel_rfl) ef43j1 ef43j2 _ (fun k => f43_2 F k) (f43_21 F)
    (fun Rf43j2 => f43_2_eq F Rf43j2) (f43_21_eq F)
def f43_23 (F : Nat) : Int → Rz := f43_22 F
theorem f43_23_eq (F : Nat) : ∀ v,aexec VG3443 (Af43 F) (bp Try.f43 3) (ef43j1 v) (kFin VG3443 none (Try.f43).results.toList) = f43_23 F v := fun v =>
  (scope_in  (by kernel_rfl) _ _).trans (f43_22_eq F v)
def f43_24 (F : Nat) : Int → Rz := fun v => f43_1 F (f43_23 F) v
theorem f43_24_eq (F : Nat) : ∀ v,aexec VG3443 (Af43 F) (sub (bodyOf Try.f43) []) (ef43_a v) (kFin VG3443 none (Try.f43).results.toList) = f43_24 F v :=
  seq_cut (by kernel_rfl) (by kernel_rfl) ef43_a ef43j1 _ (fun k => f43_1 F k) (f43_23 F)
    (fun Rf43j1 => f43_1_eq F Rf43j1) (f43_23_eq F)
def f43 (F : Nat) : Int → Rz := f43_24 F
theorem f43_body (F : Nat) (a0 : Int) : abody VG3443 (Af43 F) Try.f43 [(.int .i64 a0)] [] = f43 F a0 :=
  (abody_in (c := (sub (bodyOf Try.f43) [])) (by kernel_rfl) (s := ef43_a a0) (by kernel_rfl)).trans (f43_24_eq F a0)
def r43 : CRun := fun X H => match X,H with
  | [(.int .i64 a0)],[] => some (true,(.own 0 0 1),[(.cells (Wire.int a0).length (.rI .u8 (Wire.int a0)) true)])
  | _,_ => none
theorem s43 (a0 : Int) (h0 : okV (.int .i64 a0)) : ∃ F,f43 F a0 = some ((.own 0 0 1),[(.cells (Wire.int a0).length (.rI .u8 (Wire.int a0)) true)]) := by
  have hm := Wire.mag_lt h0
  have h0' : -9223372036854775808 ≤ a0 ∧ a0 ≤ 9223372036854775807 := h0
  have hk8 := Wire.nb_le (Wire.mag a0)
  refine ⟨10,?_⟩
  simp only [f43,f43_24,f43_1,f43_23,f43_22,f43_2,f43_21,f43_3]
  have key : ∀ fl : Int,fl = (if a0 < 0 then 255 else 0) → f43_20 10 ((Wire.mag a0 : Nat),fl) = some ((.own 0 0 1),[(.cells (Wire.int a0).length (.rI .u8 (Wire.int a0)) true)]) := by
    intro fl hfl
    simp only [f43_20,f43_4,f43_19,f43_5,f43_18,f43_8,f43_7,f43_7_i]
    generalize hM : Wire.mag a0 = m at *
    refine loopN_from (fun i => ((m : Int),fl,(8 : Int) - i)) (8 - Wire.nb m) (by rfl) (fun i hi k => ?_) (fun k => ?_) 10 (by omega)
    · simp only [f43_6]
      rw [i64w (x := 8 - (i : Int) - 1) (by omega) (by omega),i64w (x := 8 * (8 - (i : Int) - 1)) (by omega) (by omega),cond_pos (by omega),cond_pos (by omega),
        show min (8 * (8 - (i : Int) - 1)).toNat 64 = 8 * (7 - i) by omega,shr_nat,pow256,(Wire.nb_shift (show m < 18446744073709551616 by omega)).mpr (show Wire.nb m ≤ 7 - i by omega),cond_neg (by decide)]
      rw [show (8 : Int) - (i : Int) - 1 = 8 - ((i + 1 : Nat) : Int) by omega]
    · have hkk : (8 : Int) - ((8 - Wire.nb m : Nat) : Int) = (Wire.nb m : Int) := by omega
      rw [hkk]
      generalize hK : Wire.nb m = kk at *
      have e1 : f43_6 10 k (f43_17 10) ((m : Int),fl,(kk : Int)) = f43_17 10 ((m : Int),fl,(kk : Int)) := by
        simp only [f43_6]
        by_cases hz : kk = 0
        · rw [cond_neg (by omega)]
        · rw [i64w (x := (kk : Int) - 1) (by omega) (by omega),i64w (x := 8 * ((kk : Int) - 1)) (by omega) (by omega),cond_pos (by omega),cond_pos (by omega),
            show min (8 * ((kk : Int) - 1)).toNat 64 = 8 * (kk - 1) by omega,shr_nat,pow256]
          have : ¬ (m / 256 ^ (kk - 1) = 0) := by
            rw [Wire.nb_shift (show m < 18446744073709551616 by omega),hK]; omega
          generalize m / 256 ^ (kk - 1) = q at *
          rw [cond_pos (by omega)]
      rw [e1]
      simp only [f43_17,f43_9,f43_16,f43_14,f43_10,f43_13,f43_12,f43_12_i]
      have hd : ∀ i,ibits .xor .u8 (IntKind.u8.wrap ((m / 256 ^ i : Nat) : Int)) fl = Wire.dig a0 i := by
        intro i
        unfold Wire.dig
        rw [hM,u8mod,hfl]
        split
        · rw [xor8_255 _ (by omega) (by omega)]; omega
        · rw [xor8_0 _ (by omega) (by omega)]; omega
      have hh : ibits .xor .u8 (IntKind.u8.wrap (IntKind.i64.wrap (128 + (kk : Int)))) fl = Wire.head a0 := by
        unfold Wire.head
        rw [hM,hK,i64w (by omega) (by omega),u8w (by omega) (by omega),hfl]
        split
        · rw [xor8_255 _ (by omega) (by omega)]; omega
        · rw [xor8_0 _ (by omega) (by omega)]
      rw [hh,i64w (x := (kk : Int) - 1) (by omega) (by omega)]
      refine loopN_from (fun j => ((m : Int),fl,(kk : Int) - 1 - j,Wire.head a0 :: (List.range j).map fun j => Wire.dig a0 (kk - 1 - j))) kk (by simp) (fun j hj k' => ?_) (fun k' => ?_) 10 (by omega)
      · simp only [f43_11,List.length_cons,List.length_map,List.length_range]
        rw [i64w (x := 8 * ((kk : Int) - 1 - j)) (by omega) (by omega),i64w (x := (kk : Int) - 1 - (j : Int) - 1) (by omega) (by omega),cond_pos (by omega),cond_pos (by omega),cond_pos (by omega),
          show min (8 * ((kk : Int) - 1 - j)).toNat 64 = 8 * (kk - 1 - j) by omega,shr_nat,pow256,hd,List.range_succ,List.map_append]
        rw [show (kk : Int) - 1 - (j : Int) - 1 = (kk : Int) - 1 - ((j + 1 : Nat) : Int) by omega]
        rfl
      · simp only [f43_11]
        rw [cond_neg (by omega)]
        simp only [f43_15]
        have : Wire.int a0 = Wire.head a0 :: (List.range kk).map fun j => Wire.dig a0 (kk - 1 - j) := by unfold Wire.int; rw [hM,hK]
        rw [this]
  by_cases hn : a0 < 0
  · rw [cond_pos hn]
    have : ibits .xor .u64 (18446744073709551615 : Int) (IntKind.u64.wrap a0) = ((Wire.mag a0 : Nat) : Int) := by
      rw [not64 _ (by rw [u64mod]; omega) (by rw [u64mod]; omega),u64mod]
      unfold Wire.mag; rw [if_pos hn]; omega
    rw [this]
    exact key 255 (by rw [if_pos hn])
  · rw [cond_neg hn]
    have : IntKind.u64.wrap a0 = ((Wire.mag a0 : Nat) : Int) := by
      rw [u64w (by omega) (by omega)]; unfold Wire.mag; rw [if_neg hn]; omega
    rw [this]
    exact key 0 (by rw [if_neg hn])

theorem c43 : CallOk Try.prog G34 43 r43 := callOk_of (V := VG3443) mixed tys eVG3443 (f := 43) (fn := Try.f43) Try.func43 (by kernel_rfl) (c := sub (bodyOf Try.f43) []) (by kernel_rfl) (by
  intro X H r H' h hX hH
  unfold r43 at h; split at h <;> try contradiction
  · simp only [Option.some.injEq,Prod.mk.injEq] at h
    obtain ⟨hp,rfl,rfl⟩ := h
    obtain ⟨F,hF⟩ := s43 _ (hX _ (.head _))
    exact ⟨Af43 F,(f43_body F _).trans hF⟩)
def lVG3445 : List CEnt := []
def VG3445 : Env := mkEnv T34 G34 lVG3445
theorem eVG3445 : EOk Try.prog VG3445 := eok_mk (by exact trivial)
def Af45 (F : Nat) : Cuts := { F := F,at_ := fun n => match n with | 5010 => some sp4 | 14018 => some sp5 | _ => none,join := fun n => match n with | 1059 => some [(0,.plain)] | 2057 => some [(0,.plain),(3,.plain)] | 4051 => some [(0,.plain),(3,.plain)] | 5049 => some sp2 | 8036 => some [(0,.plain),(4,.plain)] | 9034 => some sp6 | 10032 => some sp7 | 13026 => some sp7 | 14020 => some sp5 | 20003 => some [(6,.plain)] | _ => none }
def ef45_a : Int → St := fun a0 => { tmps := [(0,(.int .i64 a0))],heap := [],next := 0,nt := 59,m := 0 }
def ef45j1 : Int → St := fun t0 => { tmps := [(0,(.int .i64 t0))],heap := [],next := 0,nt := 59,m := 0 }
def ef45j2 : Int × Int → St := fun (t0,t3) => { tmps := [(0,(.int .i64 t0)),(3,(.int .i64 t3))],heap := [],next := 0,nt := 59,m := 0 }
def ef45j3 : Int × Int → St := fun (t0,t3) => { tmps := [(0,(.int .i64 t0)),(3,(.int .i64 t3))],heap := [],next := 0,nt := 59,m := 0 }
def ef45j4 : Int × Int → St := fun (t0,t3) => { tmps := [(0,(.int .i64 t0)),(3,(.int .i64 t3)),(4,.ns)],heap := [],next := 0,nt := 59,m := 0 }
def ef45l1 : Int × Int × (List Int) → St := fun (t0,t3,x3) => { tmps := [(0,(.int .i64 t0)),(3,(.int .i64 t3)),(4,(.own 0 0 1))],heap := [(0,(.cells x3.length (.rI .u8 x3) true))],next := 1,nt := 59,m := 0 }
def ef45j5 : Int × (List Int) → St := fun (t0,x2) => { tmps := [(0,(.int .i64 t0)),(4,(.own 0 0 1))],heap := [(0,(.cells x2.length (.rI .u8 x2) true))],next := 1,nt := 59,m := 0 }
def ef45j6 : Int × Int × (List Int) → St := fun (t0,t5,x3) => { tmps := [(0,(.int .i64 t0)),(4,(.own 0 0 1)),(5,(.int .i64 t5))],heap := [(0,(.cells x3.length (.rI .u8 x3) true))],next := 1,nt := 59,m := 0 }
def ef45j7 : Int × Int × (List Int) → St := fun (t0,t5,x3) => { tmps := [(0,(.int .i64 t0)),(4,(.own 0 0 1)),(5,(.int .i64 t5)),(6,.ns)],heap := [(0,(.cells x3.length (.rI .u8 x3) true))],next := 1,nt := 59,m := 0 }
def ef45j8 : Ty1 → St := fun (t0,t5,x3,x4) => { tmps := [(0,(.int .i64 t0)),(4,(.own 0 0 1)),(5,(.int .i64 t5)),(6,(.own 1 0 1))],heap := [(0,(.cells x3.length (.rI .u8 x3) true)),(1,(.cells x4.length (.rI .u8 x4) true))],next := 2,nt := 59,m := 0 }
def ef45j9 : Ty1 → St := fun (t0,t7,x3,x4) => { tmps := [(0,(.int .i64 t0)),(4,(.own 0 0 1)),(6,(.own 1 0 1)),(7,(.int .i64 t7))],heap := [(0,(.cells x3.length (.rI .u8 x3) true)),(1,(.cells x4.length (.rI .u8 x4) true))],next := 2,nt := 59,m := 0 }
def ef45l2 : Ty1 → St := fun (t0,t7,x3,x4) => { tmps := [(0,(.int .i64 t0)),(4,(.own 0 0 1)),(6,(.own 1 0 1)),(7,(.int .i64 t7))],heap := [(0,(.cells x3.length (.rI .u8 x3) true)),(1,(.cells x4.length (.rI .u8 x4) true))],next := 2,nt := 59,m := 0 }
def ef45j10 : (List Int) → St := fun x1 => { tmps := [(6,(.own 0 0 1))],heap := [(0,(.cells x1.length (.rI .u8 x1) true))],next := 1,nt := 59,m := 0 }
def f45_1 (F : Nat) (kf45j1 : Int → Rz) : Int → Rz := fun a0 => (kf45j1 a0)
theorem f45_1_eq (F : Nat) (Rf45j1 : St → Rz) : ∀ v,aexec VG3445 (Af45 F) (bp Try.f45 2) (ef45_a v) (kSeq (kc VG3445 Rf45j1 [(0,.plain)]) (kFin VG3445 none (Try.f45).results.toList)) = f45_1 F (Rf45j1 ∘ ef45j1) v := by
  intro a0; kernel_rfl
def f45_2 (F : Nat) (kf45j2 : Int × Int → Rz) : Int → Rz := fun t0 => (kf45j2 (t0,t0))
theorem f45_2_eq (F : Nat) (Rf45j2 : St → Rz) : ∀ v,aexec VG3445 (Af45 F) (bp Try.f45 6) (ef45j1 v) (kSeq (kc VG3445 Rf45j2 [(0,.plain),(3,.plain)]) (kFin VG3445 none (Try.f45).results.toList)) = f45_2 F (Rf45j2 ∘ ef45j2) v := by
  intro t0; kernel_rfl
def f45_3 (F : Nat) (kf45j3 : Int × Int → Rz) : Int × Int → Rz := fun (t0,t3) => (cond (decide (t0 < (0 : Int))) (kf45j3 (t0,(IntKind.i64.wrap ((-1 : Int) - t0)))) (kf45j3 (t0,t3)))
theorem f45_3_eq (F : Nat) (Rf45j3 : St → Rz) : ∀ v,aexec VG3445 (Af45 F) (bp Try.f45 14) (ef45j2 v) (kSeq (kc VG3445 Rf45j3 [(0,.plain),(3,.plain)]) (kFin VG3445 none (Try.f45).results.toList)) = f45_3 F (Rf45j3 ∘ ef45j3) v := by
  rintro ⟨t0,t3⟩; kernel_rfl
def f45_4 (F : Nat) (kf45j4 : Int × Int → Rz) : Int × Int → Rz := fun (t0,t3) => (kf45j4 (t0,t3))
theorem f45_4_eq (F : Nat) (Rf45j4 : St → Rz) : ∀ v,aexec VG3445 (Af45 F) (bp Try.f45 30) (ef45j3 v) (kSeq (kc VG3445 Rf45j4 sp2) (kFin VG3445 none (Try.f45).results.toList)) = f45_4 F (Rf45j4 ∘ ef45j4) v := by
  rintro ⟨t0,t3⟩; kernel_rfl
def f45_5 (F : Nat) (kf45l1 : Int × Int × (List Int) → Rz) (kf45j5 : Int × (List Int) → Rz) : Int × Int × (List Int) → Rz := fun (t0,t3,x3) => (cond (decide (t3 > (0 : Int))) (cond (decide ((x3.length + 1) < 1073741824)) (kf45l1 (t0,(IntKind.i64.wrap (Int.tdiv t3 (256 : Int))),(x3 ++ [(IntKind.u8.wrap (Int.tmod t3 (256 : Int)))]))) none) (kf45j5 (t0,x3)))
theorem f45_5_eq (F : Nat) (Rf45l1 : St → Rz) (Rf45j5 : St → Rz) : ∀ v,aexec VG3445 (Af45 F) (bp Try.f45 248) (ef45l1 v) (kSeq (kc VG3445 Rf45l1 sp4) (kBlock 0 (kSeq (kc VG3445 Rf45j5 [(0,.plain),(4,.plain)]) (kFin VG3445 none (Try.f45).results.toList)))) = f45_5 F (Rf45l1 ∘ ef45l1) (Rf45j5 ∘ ef45j5) v := by
  rintro ⟨t0,t3,x3⟩; kernel_rfl
def f45_6_i : Int × Int → Int × Int × (List Int) := fun (t0,t3) => (t0,t3,[])
def f45_6 (F : Nat) (kf45j5 : Int × (List Int) → Rz) : Int × Int → Rz := fun v => loopN (fun k => f45_5 F k kf45j5) F (f45_6_i v)
theorem f45_6_eq (F : Nat) (Rf45j5 : St → Rz) : ∀ v,aexec VG3445 (Af45 F) (bp Try.f45 124) (ef45j4 v) (kBlock 0 (kSeq (kc VG3445 Rf45j5 [(0,.plain),(4,.plain)]) (kFin VG3445 none (Try.f45).results.toList))) = f45_6 F (Rf45j5 ∘ ef45j5) v :=
  loop_cut (by kernel_rfl) (by kernel_rfl) ef45j4 ef45l1 _ f45_6_i (fun k => f45_5 F k (Rf45j5 ∘ ef45j5))
    (by rintro ⟨t0,t3⟩; kernel_rfl) (fun Rf45l1 => f45_5_eq F Rf45l1 Rf45j5)
def f45_7 (F : Nat) (kf45j5 : Int × (List Int) → Rz) : Int × Int → Rz := f45_6 F kf45j5
theorem f45_7_eq (F : Nat) (Rf45j5 : St → Rz) : ∀ v,aexec VG3445 (Af45 F) (bp Try.f45 62) (ef45j4 v) (kSeq (kc VG3445 Rf45j5 [(0,.plain),(4,.plain)]) (kFin VG3445 none (Try.f45).results.toList)) = f45_7 F (Rf45j5 ∘ ef45j5) v := fun v =>
  (block_in  (by kernel_rfl) _ _).trans (f45_6_eq F Rf45j5 v)
def f45_8 (F : Nat) (kf45j6 : Int × Int × (List Int) → Rz) : Int × (List Int) → Rz := fun (t0,x2) => (kf45j6 (t0,(↑x2.length : Int),x2))
theorem f45_8_eq (F : Nat) (Rf45j6 : St → Rz) : ∀ v,aexec VG3445 (Af45 F) (bp Try.f45 126) (ef45j5 v) (kSeq (kc VG3445 Rf45j6 sp6) (kFin VG3445 none (Try.f45).results.toList)) = f45_8 F (Rf45j6 ∘ ef45j6) v := by
  rintro ⟨t0,x2⟩; kernel_rfl
def f45_9 (F : Nat) (kf45j7 : Int × Int × (List Int) → Rz) : Int × Int × (List Int) → Rz := fun (t0,t5,x3) => (kf45j7 (t0,t5,x3))
theorem f45_9_eq (F : Nat) (Rf45j7 : St → Rz) : ∀ v,aexec VG3445 (Af45 F) (bp Try.f45 254) (ef45j6 v) (kSeq (kc VG3445 Rf45j7 sp7) (kFin VG3445 none (Try.f45).results.toList)) = f45_9 F (Rf45j7 ∘ ef45j7) v := by
  rintro ⟨t0,t5,x3⟩; kernel_rfl
def f45_10 (F : Nat) (kf45j8 : Ty1 → Rz) : Int × Int × (List Int) → Rz := fun (t0,t5,x3) => (cond (decide (t0 ≥ (0 : Int))) (kf45j8 (t0,t5,x3,[(IntKind.u8.wrap (IntKind.i64.wrap ((128 : Int) + t5)))])) (kf45j8 (t0,t5,x3,[(IntKind.u8.wrap (IntKind.i64.wrap ((127 : Int) - t5)))])))
theorem f45_10_eq (F : Nat) (Rf45j8 : St → Rz) : ∀ v,aexec VG3445 (Af45 F) (bp Try.f45 510) (ef45j7 v) (kSeq (kc VG3445 Rf45j8 sp7) (kFin VG3445 none (Try.f45).results.toList)) = f45_10 F (Rf45j8 ∘ ef45j8) v := by
  rintro ⟨t0,t5,x3⟩; kernel_rfl
def f45_11 (F : Nat) (kf45j9 : Ty1 → Rz) (kf45j10 : (List Int) → Rz) : Ty1 → Rz := fun (t0,t5,x3,x4) => (kf45j9 (t0,(IntKind.i64.wrap (t5 - (1 : Int))),x3,x4))
theorem f45_11_eq (F : Nat) (Rf45j9 : St → Rz) (Rf45j10 : St → Rz) : ∀ v,aexec VG3445 (Af45 F) (bp Try.f45 2044) (ef45j8 v) (kSeq (kc VG3445 Rf45j9 sp5) (kSeq (kc VG3445 Rf45j10 [(6,.plain)]) (kFin VG3445 none (Try.f45).results.toList))) = f45_11 F (Rf45j9 ∘ ef45j9) (Rf45j10 ∘ ef45j10) v := by
  rintro ⟨t0,t5,x3,x4⟩; kernel_rfl
def f45_12 (F : Nat) (kf45l2 : Ty1 → Rz) (kf45j10 : (List Int) → Rz) : Ty1 → Rz := fun (t0,t7,x3,x4) => (cond (decide (t7 ≥ (0 : Int))) (cond ((decide (0 ≤ t7)) && (decide (t7 < (↑x3.length : Int)))) (cond (decide (t0 < (0 : Int))) (cond (decide ((x4.length + 1) < 1073741824)) (kf45l2 (t0,(IntKind.i64.wrap (t7 - (1 : Int))),x3,(x4 ++ [(IntKind.u8.wrap ((255 : Int) - (x3.getD (Int.toNat t7) 0)))]))) none) (cond (decide ((x4.length + 1) < 1073741824)) (kf45l2 (t0,(IntKind.i64.wrap (t7 - (1 : Int))),x3,(x4 ++ [(x3.getD (Int.toNat t7) 0)]))) none)) none) (kf45j10 x4))
theorem f45_12_eq (F : Nat) (Rf45l2 : St → Rz) (Rf45j10 : St → Rz) : ∀ v,aexec VG3445 (Af45 F) (bp Try.f45 8180) (ef45l2 v) (kSeq (kc VG3445 Rf45l2 sp5) (kBlock 2 (kSeq (kc VG3445 Rf45j10 [(6,.plain)]) (kFin VG3445 none (Try.f45).results.toList)))) = f45_12 F (Rf45l2 ∘ ef45l2) (Rf45j10 ∘ ef45j10) v := by
  rintro ⟨t0,t7,x3,x4⟩; kernel_rfl
def f45_13_i : Ty1 → Int × Int × (List Int) × (List Int) := fun (t0,t7,x3,x4) => (t0,t7,x3,x4)
def f45_13 (F : Nat) (kf45j10 : (List Int) → Rz) : Ty1 → Rz := fun v => loopN (fun k => f45_12 F k kf45j10) F (f45_13_i v)
theorem f45_13_eq (F : Nat) (Rf45j10 : St → Rz) : ∀ v,aexec VG3445 (Af45 F) (bp Try.f45 4090) (ef45j9 v) (kBlock 2 (kSeq (kc VG3445 Rf45j10 [(6,.plain)]) (kFin VG3445 none (Try.f45).results.toList))) = f45_13 F (Rf45j10 ∘ ef45j10) v :=
  loop_cut (by kernel_rfl) (by kernel_rfl) ef45j9 ef45l2 _ f45_13_i (fun k => f45_12 F k (Rf45j10 ∘ ef45j10))
    (by rintro ⟨t0,t7,x3,x4⟩; kernel_rfl) (fun Rf45l2 => f45_12_eq F Rf45l2 Rf45j10)
def f45_14 (F : Nat) (kf45j10 : (List Int) → Rz) : Ty1 → Rz := f45_13 F kf45j10
theorem f45_14_eq (F : Nat) (Rf45j10 : St → Rz) : ∀ v,aexec VG3445 (Af45 F) (bp Try.f45 2045) (ef45j9 v) (kSeq (kc VG3445 Rf45j10 [(6,.plain)]) (kFin VG3445 none (Try.f45).results.toList)) = f45_14 F (Rf45j10 ∘ ef45j10) v := fun v =>
  (block_in  (by kernel_rfl) _ _).trans (f45_13_eq F Rf45j10 v)
def f45_15 (F : Nat) (kf45j10 : (List Int) → Rz) : Ty1 → Rz := fun v => f45_11 F (f45_14 F kf45j10) kf45j10 v
theorem f45_15_eq (F : Nat) (Rf45j10 : St → Rz) : ∀ v,aexec VG3445 (Af45 F) (bp Try.f45 1022) (ef45j8 v) (kSeq (kc VG3445 Rf45j10 [(6,.plain)]) (kFin VG3445 none (Try.f45).results.toList)) = f45_15 F (Rf45j10 ∘ ef45j10) v :=
  seq_cut (by kernel_rfl) (by kernel_rfl) ef45j8 ef45j9 _ (fun k => f45_11 F k (Rf45j10 ∘ ef45j10)) (f45_14 F (Rf45j10 ∘ ef45j10))
    (fun Rf45j9 => f45_11_eq F Rf45j9 Rf45j10) (f45_14_eq F Rf45j10)
def f45_16 (F : Nat) : (List Int) → Rz := fun x1 => (some ((.own 0 0 1),[(.cells x1.length (.rI .u8 x1) true)]))
theorem f45_16_eq (F : Nat) : ∀ v,aexec VG3445 (Af45 F) (bp Try.f45 1023) (ef45j10 v) (kFin VG3445 none (Try.f45).results.toList) = f45_16 F v := by
  intro x1; kernel_rfl
def f45_17 (F : Nat) : Ty1 → Rz := fun v => f45_15 F (f45_16 F) v
theorem f45_17_eq (F : Nat) : ∀ v,aexec VG3445 (Af45 F) (bp Try.f45 511) (ef45j8 v) (kFin VG3445 none (Try.f45).results.toList) = f45_17 F v :=
  seq_cut (by kernel_rfl) (by kernel_rfl) ef45j8 ef45j10 _ (fun k => f45_15 F k) (f45_16 F)
    (fun Rf45j10 => f45_15_eq F Rf45j10) (f45_16_eq F)
def f45_18 (F : Nat) : Int × Int × (List Int) → Rz := fun v => f45_10 F (f45_17 F) v
theorem f45_18_eq (F : Nat) : ∀ v,aexec VG3445 (Af45 F) (bp Try.f45 255) (ef45j7 v) (kFin VG3445 none (Try.f45).results.toList) = f45_18 F v :=
  seq_cut (by kernel_rfl) (by kernel_rfl) ef45j7 ef45j8 _ (fun k => f45_10 F k) (f45_17 F)
    (fun Rf45j8 => f45_10_eq F Rf45j8) (f45_17_eq F)
def f45_19 (F : Nat) : Int × Int × (List Int) → Rz := fun v => f45_9 F (f45_18 F) v
theorem f45_19_eq (F : Nat) : ∀ v,aexec VG3445 (Af45 F) (bp Try.f45 127) (ef45j6 v) (kFin VG3445 none (Try.f45).results.toList) = f45_19 F v :=
  seq_cut (by kernel_rfl) (by kernel_rfl) ef45j6 ef45j7 _ (fun k => f45_9 F k) (f45_18 F)
    (fun Rf45j7 => f45_9_eq F Rf45j7) (f45_18_eq F)
def f45_20 (F : Nat) : Int × (List Int) → Rz := fun v => f45_8 F (f45_19 F) v
theorem f45_20_eq (F : Nat) : ∀ v,aexec VG3445 (Af45 F) (bp Try.f45 63) (ef45j5 v) (kFin VG3445 none (Try.f45).results.toList) = f45_20 F v :=
  seq_cut (by kernel_rfl) (by kernel_rfl) ef45j5 ef45j6 _ (fun k => f45_8 F k) (f45_19 F)
    (fun Rf45j6 => f45_8_eq F Rf45j6) (f45_19_eq F)
def f45_21 (F : Nat) : Int × Int → Rz := fun v => f45_7 F (f45_20 F) v
theorem f45_21_eq (F : Nat) : ∀ v,aexec VG3445 (Af45 F) (bp Try.f45 31) (ef45j4 v) (kFin VG3445 none (Try.f45).results.toList) = f45_21 F v :=
  seq_cut (by kernel_rfl) (by kernel_rfl) ef45j4 ef45j5 _ (fun k => f45_7 F k) (f45_20 F)
    (fun Rf45j5 => f45_7_eq F Rf45j5) (f45_20_eq F)
def f45_22 (F : Nat) : Int × Int → Rz := fun v => f45_4 F (f45_21 F) v
theorem f45_22_eq (F : Nat) : ∀ v,aexec VG3445 (Af45 F) (bp Try.f45 15) (ef45j3 v) (kFin VG3445 none (Try.f45).results.toList) = f45_22 F v :=
  seq_cut (by kernel_rfl) (by kernel_rfl) ef45j3 ef45j4 _ (fun k => f45_4 F k) (f45_21 F)
    (fun Rf45j4 => f45_4_eq F Rf45j4) (f45_21_eq F)
def f45_23 (F : Nat) : Int × Int → Rz := fun v => f45_3 F (f45_22 F) v
theorem f45_23_eq (F : Nat) : ∀ v,aexec VG3445 (Af45 F) (bp Try.f45 7) (ef45j2 v) (kFin VG3445 none (Try.f45).results.toList) = f45_23 F v :=
  seq_cut (by kernel_rfl) (by kernel_rfl) ef45j2 ef45j3 _ (fun k => f45_3 F k) (f45_22 F)
    (fun Rf45j3 => f45_3_eq F Rf45j3) (f45_22_eq F)
def f45_24 (F : Nat) : Int → Rz := fun v => f45_2 F (f45_23 F) v
theorem f45_24_eq (F : Nat) : ∀ v,aexec VG3445 (Af45 F) (bp Try.f45 3) (ef45j1 v) (kFin VG3445 none (Try.f45).results.toList) = f45_24 F v :=
  seq_cut (by kernel_rfl) (by kernel_rfl) ef45j1 ef45j2 _ (fun k => f45_2 F k) (f45_23 F)
    (fun Rf45j2 => f45_2_eq F Rf45j2) (f45_23_eq F)
def f45_25 (F : Nat) : Int → Rz := fun v => f45_1 F (f45_24 F) v
theorem f45_25_eq (F : Nat) : ∀ v,aexec VG3445 (Af45 F) (sub (bodyOf Try.f45) []) (ef45_a v) (kFin VG3445 none (Try.f45).results.toList) = f45_25 F v :=
  seq_cut (by kernel_rfl) (by kernel_rfl) ef45_a ef45j1 _ (fun k => f45_1 F k) (f45_24 F)
    (fun Rf45j1 => f45_1_eq F Rf45j1) (f45_24_eq F)
def f45 (F : Nat) : Int → Rz := f45_25 F
theorem f45_body (F : Nat) (a0 : Int) : abody VG3445 (Af45 F) Try.f45 [(.int .i64 a0)] [] = f45 F a0 :=
  (abody_in (c := (sub (bodyOf Try.f45) [])) (by kernel_rfl) (s := ef45_a a0) (by kernel_rfl)).trans (f45_25_eq F a0)
def r45 : CRun := fun X H => match X,H with
  | [(.int .i64 a0)],[] => some (true,(.own 0 0 1),[(.cells (Wire.int a0).length (.rI .u8 (Wire.int a0)) true)])
  | _,_ => none
theorem s45 (a0 : Int) (h0 : okV (.int .i64 a0)) : ∃ F,f45 F a0 = some ((.own 0 0 1),[(.cells (Wire.int a0).length (.rI .u8 (Wire.int a0)) true)]) := by
  have hm := Wire.mag_lt h0
  have h0' : -9223372036854775808 ≤ a0 ∧ a0 ≤ 9223372036854775807 := h0
  have hk8 := Wire.nb_le (Wire.mag a0)
  refine ⟨10,?_⟩
  simp only [f45,f45_25,f45_1,f45_24,f45_2,f45_23,f45_3]
  have key : f45_22 10 (a0,((Wire.mag a0 : Nat) : Int)) = some ((.own 0 0 1),[(.cells (Wire.int a0).length (.rI .u8 (Wire.int a0)) true)]) := by
    simp only [f45_22,f45_4,f45_21,f45_7,f45_6,f45_6_i]
    generalize hM : Wire.mag a0 = m at *
    refine loopN_from (fun j => (a0,((m / 256 ^ j : Nat) : Int),(List.range j).map fun i => ((m / 256 ^ i % 256 : Nat) : Int))) (Wire.nb m) (by simp) (fun j hj k => ?_) (fun k => ?_) 10 (by omega)
    · have hne : ¬ (m / 256 ^ j = 0) := by rw [Wire.nb_shift (show m < 18446744073709551616 by omega)]; omega
      have hle : m / 256 ^ j ≤ m := Nat.div_le_self _ _
      simp only [f45_5,List.length_map,List.length_range]
      have e : m / 256 ^ (j + 1) = m / 256 ^ j / 256 := by rw [Nat.pow_succ,Nat.div_div_eq_div_mul]
      rw [List.range_succ,List.map_append,e]
      simp only [List.map_cons,List.map_nil]
      generalize m / 256 ^ j = q at *
      rw [tdiv_nn (by omega),tmod_nn (by omega),i64w (by omega) (by omega),u8w (by omega) (by omega),cond_pos (by omega),cond_pos (by omega)]
      simp
    · have hz : m / 256 ^ Wire.nb m = 0 := (Wire.nb_shift (show m < 18446744073709551616 by omega)).mpr (Nat.le_refl _)
      simp only [f45_5]
      rw [hz,cond_neg (by decide)]
      simp only [f45_20,f45_8,f45_19,f45_9,f45_18,f45_10,List.length_map,List.length_range]
      generalize hK : Wire.nb m = kk at *
      have fin : f45_17 10 (a0,(kk : Int),(List.range kk).map (fun i => ((m / 256 ^ i % 256 : Nat) : Int)),[Wire.head a0]) = some ((.own 0 0 1),[(.cells (Wire.int a0).length (.rI .u8 (Wire.int a0)) true)]) := by
        simp only [f45_17,f45_15,f45_16,f45_11,f45_14,f45_13,f45_13_i]
        rw [i64w (x := (kk : Int) - 1) (by omega) (by omega)]
        refine loopN_from (fun j => (a0,(kk : Int) - 1 - j,(List.range kk).map (fun i => ((m / 256 ^ i % 256 : Nat) : Int)),Wire.head a0 :: (List.range j).map fun j => Wire.dig a0 (kk - 1 - j))) kk (by simp) (fun j hj k' => ?_) (fun k' => ?_) 10 (by omega)
        · simp only [f45_12,dec_and,List.length_cons,List.length_map,List.length_range]
          rw [i64w (x := (kk : Int) - 1 - (j : Int) - 1) (by omega) (by omega),cond_pos (by omega),cond_pos (by omega),show ((kk : Int) - 1 - j).toNat = kk - 1 - j by omega]
          have hg : ((List.range kk).map (fun i => ((m / 256 ^ i % 256 : Nat) : Int))).getD (kk - 1 - j) 0 = ((m / 256 ^ (kk - 1 - j) % 256 : Nat) : Int) := by
            rw [List.getD_eq_getElem?_getD,List.getElem?_map,List.getElem?_range (by omega)]; rfl
          have hd : Wire.dig a0 (kk - 1 - j) = if a0 < 0 then 255 - ((m / 256 ^ (kk - 1 - j) % 256 : Nat) : Int) else ((m / 256 ^ (kk - 1 - j) % 256 : Nat) : Int) := by unfold Wire.dig; rw [hM]
          rw [hg,List.range_succ,List.map_append]
          simp only [List.map_cons,List.map_nil,hd]
          rw [show (kk : Int) - 1 - (j : Int) - 1 = (kk : Int) - 1 - ((j + 1 : Nat) : Int) by omega]
          have hq : m / 256 ^ (kk - 1 - j) % 256 < 256 := Nat.mod_lt _ (by decide)
          generalize m / 256 ^ (kk - 1 - j) % 256 = q at *
          by_cases hn : a0 < 0
          · rw [cond_pos hn,cond_pos (by omega),if_pos hn,u8w (by omega) (by omega)]; rfl
          · rw [cond_neg hn,cond_pos (by omega),if_neg hn]; rfl
        · simp only [f45_12]
          rw [cond_neg (by omega)]
          have : Wire.int a0 = Wire.head a0 :: (List.range kk).map fun j => Wire.dig a0 (kk - 1 - j) := by unfold Wire.int; rw [hM,hK]
          rw [this]; rfl
      by_cases hn : a0 ≥ 0
      · rw [cond_pos hn]
        have : IntKind.u8.wrap (IntKind.i64.wrap (128 + (kk : Int))) = Wire.head a0 := by
          unfold Wire.head; rw [hM,hK,if_neg (by omega),i64w (by omega) (by omega),u8w (by omega) (by omega)]
        rw [this]; exact fin
      · rw [cond_neg hn]
        have : IntKind.u8.wrap (IntKind.i64.wrap (127 - (kk : Int))) = Wire.head a0 := by
          unfold Wire.head; rw [hM,hK,if_pos (by omega),i64w (by omega) (by omega),u8w (by omega) (by omega)]
        rw [this]; exact fin
  by_cases hn : a0 < 0
  · rw [cond_pos hn]
    have : IntKind.i64.wrap (-1 - a0) = ((Wire.mag a0 : Nat) : Int) := by
      rw [i64w (by omega) (by omega)]; unfold Wire.mag; rw [if_pos hn]; omega
    rw [this]; exact key
  · rw [cond_neg hn]
    have : a0 = ((Wire.mag a0 : Nat) : Int) := by unfold Wire.mag; rw [if_neg hn]; omega
    rw [← this] at key; exact key

theorem c45 : CallOk Try.prog G34 45 r45 := callOk_of (V := VG3445) mixed tys eVG3445 (f := 45) (fn := Try.f45) Try.func45 (by kernel_rfl) (c := sub (bodyOf Try.f45) []) (by kernel_rfl) (by
  intro X H r H' h hX hH
  unfold r45 at h; split at h <;> try contradiction
  · simp only [Option.some.injEq,Prod.mk.injEq] at h
    obtain ⟨hp,rfl,rfl⟩ := h
    obtain ⟨F,hF⟩ := s45 _ (hX _ (.head _))
    exact ⟨Af45 F,(f45_body F _).trans hF⟩)
def lVG3427 : List CEnt := [(43,[none],r43)]
def VG3427 : Env := mkEnv T34 G34 lVG3427
theorem eVG3427 : EOk Try.prog VG3427 := eok_mk (by exact ⟨c43,trivial⟩)
def Af27 (F : Nat) : Cuts := { F := F,at_ := fun _ => none,join := fun _ => none }
def ef27_a : (List Int) → St := fun a0 => { tmps := [(0,(.str a0))],heap := [],next := 0,nt := 8,m := 0 }
def f27_1 (F : Nat) : (List Int) → Rz := fun a0 => (cond (decide (((Wire.int (↑a0.length : Int)).length + a0.length) < 1073741824)) (some ((.own 0 0 1),[(.cells ((Wire.int (↑a0.length : Int)) ++ a0).length (.rI .u8 ((Wire.int (↑a0.length : Int)) ++ a0)) true)])) none)
theorem f27_1_eq (F : Nat) : ∀ v,aexec VG3427 (Af27 F) (sub (bodyOf Try.f27) []) (ef27_a v) (kFin VG3427 none (Try.f27).results.toList) = f27_1 F v := by
  intro a0; kernel_rfl
def f27 (F : Nat) : (List Int) → Rz := f27_1 F
theorem f27_body (F : Nat) (a0 : List Int) : abody VG3427 (Af27 F) Try.f27 [(.str a0)] [] = f27 F a0 :=
  (abody_in (c := (sub (bodyOf Try.f27) [])) (by kernel_rfl) (s := ef27_a a0) (by kernel_rfl)).trans (f27_1_eq F a0)
def r27 : CRun := fun X H => match X,H with
  | [(.str a0)],[] => some ((decide (a0.length < 1073741000)),(.own 0 0 1),[(.cells (Wire.bytes a0).length (.rI .u8 (Wire.bytes a0)) true)])
  | _,_ => none
theorem s27 (a0 : List Int) (hp : ((decide (a0.length < 1073741000))) = true) (h0 : okV (.str a0)) : ∃ F,f27 F a0 = some ((.own 0 0 1),[(.cells (Wire.bytes a0).length (.rI .u8 (Wire.bytes a0)) true)]) := by
  have hl : a0.length < 1073741000 := of_decide_eq_true hp
  have := Wire.nb_le (Wire.mag (a0.length : Int))
  refine ⟨0,?_⟩
  simp only [f27,f27_1]
  rw [cond_pos (by rw [Wire.int_len]; omega)]
  rfl

theorem c27 : CallOk Try.prog G34 27 r27 := callOk_of (V := VG3427) mixed tys eVG3427 (f := 27) (fn := Try.f27) Try.func27 (by kernel_rfl) (c := sub (bodyOf Try.f27) []) (by kernel_rfl) (by
  intro X H r H' h hX hH
  unfold r27 at h; split at h <;> try contradiction
  · simp only [Option.some.injEq,Prod.mk.injEq] at h
    obtain ⟨hp,rfl,rfl⟩ := h
    obtain ⟨F,hF⟩ := s27 _ hp (hX _ (.head _))
    exact ⟨Af27 F,(f27_body F _).trans hF⟩)
def lVG3435 : List CEnt := [(45,[none],r45)]
def VG3435 : Env := mkEnv T34 G34 lVG3435
theorem eVG3435 : EOk Try.prog VG3435 := eok_mk (by exact ⟨c45,trivial⟩)
def Af35 (F : Nat) : Cuts := { F := F,at_ := fun _ => none,join := fun _ => none }
def ef35_a : (List Int) → St := fun a0 => { tmps := [(0,(.str a0))],heap := [],next := 0,nt := 9,m := 0 }
def f35_1 (F : Nat) : (List Int) → Rz := fun a0 => (cond (decide (((Wire.int (↑a0.length : Int)).length + a0.length) < 1073741824)) (some ((.own 0 0 1),[(.cells ((Wire.int (↑a0.length : Int)) ++ a0).length (.rI .u8 ((Wire.int (↑a0.length : Int)) ++ a0)) true)])) none)
theorem f35_1_eq (F : Nat) : ∀ v,aexec VG3435 (Af35 F) (sub (bodyOf Try.f35) []) (ef35_a v) (kFin VG3435 none (Try.f35).results.toList) = f35_1 F v := by
  intro a0; kernel_rfl
def f35 (F : Nat) : (List Int) → Rz := f35_1 F
theorem f35_body (F : Nat) (a0 : List Int) : abody VG3435 (Af35 F) Try.f35 [(.str a0)] [] = f35 F a0 :=
  (abody_in (c := (sub (bodyOf Try.f35) [])) (by kernel_rfl) (s := ef35_a a0) (by kernel_rfl)).trans (f35_1_eq F a0)
def r35 : CRun := fun X H => match X,H with
  | [(.str a0)],[] => some ((decide (a0.length < 1073741000)),(.own 0 0 1),[(.cells (Wire.bytes a0).length (.rI .u8 (Wire.bytes a0)) true)])
  | _,_ => none
theorem s35 (a0 : List Int) (hp : ((decide (a0.length < 1073741000))) = true) (h0 : okV (.str a0)) : ∃ F,f35 F a0 = some ((.own 0 0 1),[(.cells (Wire.bytes a0).length (.rI .u8 (Wire.bytes a0)) true)]) := by
  have hl : a0.length < 1073741000 := of_decide_eq_true hp
  have := Wire.nb_le (Wire.mag (a0.length : Int))
  refine ⟨0,?_⟩
  simp only [f35,f35_1]
  rw [cond_pos (by rw [Wire.int_len]; omega)]
  rfl

theorem c35 : CallOk Try.prog G34 35 r35 := callOk_of (V := VG3435) mixed tys eVG3435 (f := 35) (fn := Try.f35) Try.func35 (by kernel_rfl) (c := sub (bodyOf Try.f35) []) (by kernel_rfl) (by
  intro X H r H' h hX hH
  unfold r35 at h; split at h <;> try contradiction
  · simp only [Option.some.injEq,Prod.mk.injEq] at h
    obtain ⟨hp,rfl,rfl⟩ := h
    obtain ⟨F,hF⟩ := s35 _ hp (hX _ (.head _))
    exact ⟨Af35 F,(f35_body F _).trans hF⟩)
def lVG3426 : List CEnt := [(43,[none],r43)]
def VG3426 : Env := mkEnv T34 G34 lVG3426
theorem eVG3426 : EOk Try.prog VG3426 := eok_mk (by exact ⟨c43,trivial⟩)
def Af26 (F : Nat) : Cuts := { F := F,at_ := fun n => match n with | 3012 => some sp8 | _ => none,join := fun n => match n with | 1022 => some [(0,.plain)] | 2020 => some [(0,.plain),(3,.plain)] | 3014 => some sp8 | 7003 => some [(3,.plain)] | _ => none }
def ef26_a : (List Int) → St := fun a0 => { tmps := [(0,(.vs (.rI .i64 a0) 0 1))],heap := [],next := 0,nt := 21,m := 0 }
def ef26j1 : (List Int) → St := fun t0 => { tmps := [(0,(.vs (.rI .i64 t0) 0 1))],heap := [],next := 0,nt := 21,m := 0 }
def ef26j2 : (List Int) × (List Int) → St := fun (t0,x2) => { tmps := [(0,(.vs (.rI .i64 t0) 0 1)),(3,(.own 0 0 1))],heap := [(0,(.cells x2.length (.rI .u8 x2) true))],next := 1,nt := 21,m := 0 }
def ef26j3 : Ty2 → St := fun (t9,t10,t11,x4) => { tmps := [(3,(.own 0 0 1)),(9,(.vs (.rI .i64 t9) 0 1)),(10,(.int .i64 t10)),(11,(.int .i64 t11))],heap := [(0,(.cells x4.length (.rI .u8 x4) true))],next := 1,nt := 21,m := 0 }
def ef26l1 : Ty2 → St := fun (t9,t10,t11,x4) => { tmps := [(3,(.own 0 0 1)),(9,(.vs (.rI .i64 t9) 0 1)),(10,(.int .i64 t10)),(11,(.int .i64 t11))],heap := [(0,(.cells x4.length (.rI .u8 x4) true))],next := 1,nt := 21,m := 0 }
def ef26j4 : (List Int) → St := fun x1 => { tmps := [(3,(.own 0 0 1))],heap := [(0,(.cells x1.length (.rI .u8 x1) true))],next := 1,nt := 21,m := 0 }
def f26_1 (F : Nat) (kf26j1 : (List Int) → Rz) : (List Int) → Rz := fun a0 => (kf26j1 a0)
theorem f26_1_eq (F : Nat) (Rf26j1 : St → Rz) : ∀ v,aexec VG3426 (Af26 F) (bp Try.f26 2) (ef26_a v) (kSeq (kc VG3426 Rf26j1 [(0,.plain)]) (kFin VG3426 none (Try.f26).results.toList)) = f26_1 F (Rf26j1 ∘ ef26j1) v := by
  intro a0; kernel_rfl
def f26_2 (F : Nat) (kf26j2 : (List Int) × (List Int) → Rz) : (List Int) → Rz := fun t0 => (kf26j2 (t0,(Wire.int (↑t0.length : Int))))
theorem f26_2_eq (F : Nat) (Rf26j2 : St → Rz) : ∀ v,aexec VG3426 (Af26 F) (bp Try.f26 6) (ef26j1 v) (kSeq (kc VG3426 Rf26j2 [(0,.plain),(3,.plain)]) (kFin VG3426 none (Try.f26).results.toList)) = f26_2 F (Rf26j2 ∘ ef26j2) v := by
  intro t0; kernel_rfl
def f26_3 (F : Nat) (kf26j3 : Ty2 → Rz) (kf26j4 : (List Int) → Rz) : (List Int) × (List Int) → Rz := fun (t0,x2) => (kf26j3 (t0,(↑t0.length : Int),(0 : Int),x2))
theorem f26_3_eq (F : Nat) (Rf26j3 : St → Rz) (Rf26j4 : St → Rz) : ∀ v,aexec VG3426 (Af26 F) (bp Try.f26 28) (ef26j2 v) (kSeq (kc VG3426 Rf26j3 sp8) (kSeq (kc VG3426 Rf26j4 [(3,.plain)]) (kFin VG3426 none (Try.f26).results.toList))) = f26_3 F (Rf26j3 ∘ ef26j3) (Rf26j4 ∘ ef26j4) v := by
  rintro ⟨t0,x2⟩; kernel_rfl
def f26_4 (F : Nat) (kf26l1 : Ty2 → Rz) (kf26j4 : (List Int) → Rz) : Ty2 → Rz := fun (t9,t10,t11,x4) => (cond (decide (t11 < t10)) (cond ((decide (0 ≤ t11)) && (decide (t11 < (↑t9.length : Int)))) (cond (decide ((x4.length + (Wire.int (t9.getD (Int.toNat t11) 0)).length) < 1073741824)) (kf26l1 (t9,t10,(IntKind.i64.wrap (t11 + (1 : Int))),(x4 ++ (Wire.int (t9.getD (Int.toNat t11) 0))))) none) none) (kf26j4 x4))
theorem f26_4_eq (F : Nat) (Rf26l1 : St → Rz) (Rf26j4 : St → Rz) : ∀ v,aexec VG3426 (Af26 F) (bp Try.f26 116) (ef26l1 v) (kSeq (kc VG3426 Rf26l1 sp8) (kBlock 0 (kSeq (kc VG3426 Rf26j4 [(3,.plain)]) (kFin VG3426 none (Try.f26).results.toList)))) = f26_4 F (Rf26l1 ∘ ef26l1) (Rf26j4 ∘ ef26j4) v := by
  rintro ⟨t9,t10,t11,x4⟩; kernel_rfl
def f26_5_i : Ty2 → (List Int) × Int × Int × (List Int) := fun (t9,t10,t11,x4) => (t9,t10,t11,x4)
def f26_5 (F : Nat) (kf26j4 : (List Int) → Rz) : Ty2 → Rz := fun v => loopN (fun k => f26_4 F k kf26j4) F (f26_5_i v)
theorem f26_5_eq (F : Nat) (Rf26j4 : St → Rz) : ∀ v,aexec VG3426 (Af26 F) (bp Try.f26 58) (ef26j3 v) (kBlock 0 (kSeq (kc VG3426 Rf26j4 [(3,.plain)]) (kFin VG3426 none (Try.f26).results.toList))) = f26_5 F (Rf26j4 ∘ ef26j4) v :=
  loop_cut (by kernel_rfl) (by kernel_rfl) ef26j3 ef26l1 _ f26_5_i (fun k => f26_4 F k (Rf26j4 ∘ ef26j4))
    (by rintro ⟨t9,t10,t11,x4⟩; kernel_rfl) (fun Rf26l1 => f26_4_eq F Rf26l1 Rf26j4)
def f26_6 (F : Nat) (kf26j4 : (List Int) → Rz) : Ty2 → Rz := f26_5 F kf26j4
theorem f26_6_eq (F : Nat) (Rf26j4 : St → Rz) : ∀ v,aexec VG3426 (Af26 F) (bp Try.f26 29) (ef26j3 v) (kSeq (kc VG3426 Rf26j4 [(3,.plain)]) (kFin VG3426 none (Try.f26).results.toList)) = f26_6 F (Rf26j4 ∘ ef26j4) v := fun v =>
  (block_in  (by kernel_rfl) _ _).trans (f26_5_eq F Rf26j4 v)
def f26_7 (F : Nat) (kf26j4 : (List Int) → Rz) : (List Int) × (List Int) → Rz := fun v => f26_3 F (f26_6 F kf26j4) kf26j4 v
theorem f26_7_eq (F : Nat) (Rf26j4 : St → Rz) : ∀ v,aexec VG3426 (Af26 F) (bp Try.f26 14) (ef26j2 v) (kSeq (kc VG3426 Rf26j4 [(3,.plain)]) (kFin VG3426 none (Try.f26).results.toList)) = f26_7 F (Rf26j4 ∘ ef26j4) v :=
  seq_cut (by kernel_rfl) (by kernel_rfl) ef26j2 ef26j3 _ (fun k => f26_3 F k (Rf26j4 ∘ ef26j4)) (f26_6 F (Rf26j4 ∘ ef26j4))
    (fun Rf26j3 => f26_3_eq F Rf26j3 Rf26j4) (f26_6_eq F Rf26j4)
def f26_8 (F : Nat) : (List Int) → Rz := fun x1 => (some ((.own 0 0 1),[(.cells x1.length (.rI .u8 x1) true)]))
theorem f26_8_eq (F : Nat) : ∀ v,aexec VG3426 (Af26 F) (bp Try.f26 15) (ef26j4 v) (kFin VG3426 none (Try.f26).results.toList) = f26_8 F v := by
  intro x1; kernel_rfl
def f26_9 (F : Nat) : (List Int) × (List Int) → Rz := fun v => f26_7 F (f26_8 F) v
theorem f26_9_eq (F : Nat) : ∀ v,aexec VG3426 (Af26 F) (bp Try.f26 7) (ef26j2 v) (kFin VG3426 none (Try.f26).results.toList) = f26_9 F v :=
  seq_cut (by kernel_rfl) (by kernel_rfl) ef26j2 ef26j4 _ (fun k => f26_7 F k) (f26_8 F)
    (fun Rf26j4 => f26_7_eq F Rf26j4) (f26_8_eq F)
def f26_10 (F : Nat) : (List Int) → Rz := fun v => f26_2 F (f26_9 F) v
theorem f26_10_eq (F : Nat) : ∀ v,aexec VG3426 (Af26 F) (bp Try.f26 3) (ef26j1 v) (kFin VG3426 none (Try.f26).results.toList) = f26_10 F v :=
  seq_cut (by kernel_rfl) (by kernel_rfl) ef26j1 ef26j2 _ (fun k => f26_2 F k) (f26_9 F)
    (fun Rf26j2 => f26_2_eq F Rf26j2) (f26_9_eq F)
def f26_11 (F : Nat) : (List Int) → Rz := fun v => f26_1 F (f26_10 F) v
theorem f26_11_eq (F : Nat) : ∀ v,aexec VG3426 (Af26 F) (sub (bodyOf Try.f26) []) (ef26_a v) (kFin VG3426 none (Try.f26).results.toList) = f26_11 F v :=
  seq_cut (by kernel_rfl) (by kernel_rfl) ef26_a ef26j1 _ (fun k => f26_1 F k) (f26_10 F)
    (fun Rf26j1 => f26_1_eq F Rf26j1) (f26_10_eq F)
def f26 (F : Nat) : (List Int) → Rz := f26_11 F
theorem f26_body (F : Nat) (a0 : List Int) : abody VG3426 (Af26 F) Try.f26 [(.vs (.rI .i64 a0) 0 1)] [] = f26 F a0 :=
  (abody_in (c := (sub (bodyOf Try.f26) [])) (by kernel_rfl) (s := ef26_a a0) (by kernel_rfl)).trans (f26_11_eq F a0)
def r26 : CRun := fun X H => match X,H with
  | [(.vs (.rI .i64 a0) 0 1)],[] => some ((decide ((Wire.ints a0).length < 1073741000)),(.own 0 0 1),[(.cells (Wire.ints a0).length (.rI .u8 (Wire.ints a0)) true)])
  | _,_ => none
theorem s26 (a0 : List Int) (hp : ((decide ((Wire.ints a0).length < 1073741000))) = true) (h0 : okV (.vs (.rI .i64 a0) 0 1)) : ∃ F,f26 F a0 = some ((.own 0 0 1),[(.cells (Wire.ints a0).length (.rI .u8 (Wire.ints a0)) true)]) := by
  have hl : (Wire.ints a0).length < 1073741000 := of_decide_eq_true hp
  have hl0 := h0.2
  refine ⟨a0.length + 1,?_⟩
  simp only [f26,f26_11,f26_1,f26_10,f26_2,f26_9,f26_7,f26_3,f26_6,f26_5,f26_5_i]
  refine loopN_from (fun i => (a0,(a0.length : Int),(i : Int),Wire.int (a0.length : Int) ++ (a0.take i).flatMap Wire.int)) a0.length (by simp) (fun i hi k => ?_) (fun k => ?_) _ (by omega)
  · have e1 := flatMap_take 0 Wire.int a0 i hi
    have e2 := flatMap_le Wire.int a0 (i + 1)
    rw [e1,List.length_append] at e2
    simp only [Wire.ints,List.length_append] at hl
    simp only [f26_4,dec_and,List.length_append]
    rw [Int.toNat_natCast,cond_pos (by omega),cond_pos (by omega),cond_pos (by omega),i64w (x := (i : Int) + 1) (by omega) (by omega),List.append_assoc,← e1]
    rfl
  · simp only [f26_4]
    rw [cond_neg (by omega),List.take_length]
    rfl


theorem c26 : CallOk Try.prog G34 26 r26 := callOk_of (V := VG3426) mixed tys eVG3426 (f := 26) (fn := Try.f26) Try.func26 (by kernel_rfl) (c := sub (bodyOf Try.f26) []) (by kernel_rfl) (by
  intro X H r H' h hX hH
  unfold r26 at h; split at h <;> try contradiction
  · simp only [Option.some.injEq,Prod.mk.injEq] at h
    obtain ⟨hp,rfl,rfl⟩ := h
    obtain ⟨F,hF⟩ := s26 _ hp (hX _ (.head _))
    exact ⟨Af26 F,(f26_body F _).trans hF⟩)
def lVG3434 : List CEnt := [(45,[none],r45)]
def VG3434 : Env := mkEnv T34 G34 lVG3434
theorem eVG3434 : EOk Try.prog VG3434 := eok_mk (by exact ⟨c45,trivial⟩)
def Af34 (F : Nat) : Cuts := { F := F,at_ := fun n => match n with | 3010 => some sp2 | _ => none,join := fun n => match n with | 1020 => some [(0,.plain)] | 2018 => some [(0,.plain),(3,.plain)] | 3012 => some sp2 | 6003 => some [(3,.plain)] | _ => none }
def ef34_a : (List Int) → St := fun a0 => { tmps := [(0,(.vs (.rI .i64 a0) 0 1))],heap := [],next := 0,nt := 22,m := 0 }
def ef34j1 : (List Int) → St := fun t0 => { tmps := [(0,(.vs (.rI .i64 t0) 0 1))],heap := [],next := 0,nt := 22,m := 0 }
def ef34j2 : (List Int) × (List Int) → St := fun (t0,x2) => { tmps := [(0,(.vs (.rI .i64 t0) 0 1)),(3,(.own 0 0 1))],heap := [(0,(.cells x2.length (.rI .u8 x2) true))],next := 1,nt := 22,m := 0 }
def ef34j3 : Ty3 → St := fun (t0,t4,x3) => { tmps := [(0,(.vs (.rI .i64 t0) 0 1)),(3,(.own 0 0 1)),(4,(.int .i64 t4))],heap := [(0,(.cells x3.length (.rI .u8 x3) true))],next := 1,nt := 22,m := 0 }
def ef34l1 : Ty3 → St := fun (t0,t4,x3) => { tmps := [(0,(.vs (.rI .i64 t0) 0 1)),(3,(.own 0 0 1)),(4,(.int .i64 t4))],heap := [(0,(.cells x3.length (.rI .u8 x3) true))],next := 1,nt := 22,m := 0 }
def ef34j4 : (List Int) → St := fun x1 => { tmps := [(3,(.own 0 0 1))],heap := [(0,(.cells x1.length (.rI .u8 x1) true))],next := 1,nt := 22,m := 0 }
def f34_1 (F : Nat) (kf34j1 : (List Int) → Rz) : (List Int) → Rz := fun a0 => (kf34j1 a0)
theorem f34_1_eq (F : Nat) (Rf34j1 : St → Rz) : ∀ v,aexec VG3434 (Af34 F) (bp Try.f34 2) (ef34_a v) (kSeq (kc VG3434 Rf34j1 [(0,.plain)]) (kFin VG3434 none (Try.f34).results.toList)) = f34_1 F (Rf34j1 ∘ ef34j1) v := by
  intro a0; kernel_rfl
def f34_2 (F : Nat) (kf34j2 : (List Int) × (List Int) → Rz) : (List Int) → Rz := fun t0 => (kf34j2 (t0,(Wire.int (↑t0.length : Int))))
theorem f34_2_eq (F : Nat) (Rf34j2 : St → Rz) : ∀ v,aexec VG3434 (Af34 F) (bp Try.f34 6) (ef34j1 v) (kSeq (kc VG3434 Rf34j2 [(0,.plain),(3,.plain)]) (kFin VG3434 none (Try.f34).results.toList)) = f34_2 F (Rf34j2 ∘ ef34j2) v := by
  intro t0; kernel_rfl
def f34_3 (F : Nat) (kf34j3 : Ty3 → Rz) (kf34j4 : (List Int) → Rz) : (List Int) × (List Int) → Rz := fun (t0,x2) => (kf34j3 (t0,(0 : Int),x2))
theorem f34_3_eq (F : Nat) (Rf34j3 : St → Rz) (Rf34j4 : St → Rz) : ∀ v,aexec VG3434 (Af34 F) (bp Try.f34 28) (ef34j2 v) (kSeq (kc VG3434 Rf34j3 sp2) (kSeq (kc VG3434 Rf34j4 [(3,.plain)]) (kFin VG3434 none (Try.f34).results.toList))) = f34_3 F (Rf34j3 ∘ ef34j3) (Rf34j4 ∘ ef34j4) v := by
  rintro ⟨t0,x2⟩; kernel_rfl
def f34_4 (F : Nat) (kf34l1 : Ty3 → Rz) (kf34j4 : (List Int) → Rz) : Ty3 → Rz := fun (t0,t4,x3) => (cond (decide (t4 < (↑t0.length : Int))) (cond ((decide (0 ≤ t4)) && (decide (t4 < (↑t0.length : Int)))) (cond (decide ((x3.length + (Wire.int (t0.getD (Int.toNat t4) 0)).length) < 1073741824)) (kf34l1 (t0,(IntKind.i64.wrap (t4 + (1 : Int))),(x3 ++ (Wire.int (t0.getD (Int.toNat t4) 0))))) none) none) (kf34j4 x3))
theorem f34_4_eq (F : Nat) (Rf34l1 : St → Rz) (Rf34j4 : St → Rz) : ∀ v,aexec VG3434 (Af34 F) (bp Try.f34 116) (ef34l1 v) (kSeq (kc VG3434 Rf34l1 sp2) (kBlock 0 (kSeq (kc VG3434 Rf34j4 [(3,.plain)]) (kFin VG3434 none (Try.f34).results.toList)))) = f34_4 F (Rf34l1 ∘ ef34l1) (Rf34j4 ∘ ef34j4) v := by
  rintro ⟨t0,t4,x3⟩; kernel_rfl
def f34_5_i : Ty3 → (List Int) × Int × (List Int) := fun (t0,t4,x3) => (t0,t4,x3)
def f34_5 (F : Nat) (kf34j4 : (List Int) → Rz) : Ty3 → Rz := fun v => loopN (fun k => f34_4 F k kf34j4) F (f34_5_i v)
theorem f34_5_eq (F : Nat) (Rf34j4 : St → Rz) : ∀ v,aexec VG3434 (Af34 F) (bp Try.f34 58) (ef34j3 v) (kBlock 0 (kSeq (kc VG3434 Rf34j4 [(3,.plain)]) (kFin VG3434 none (Try.f34).results.toList))) = f34_5 F (Rf34j4 ∘ ef34j4) v :=
  loop_cut (by kernel_rfl) (by kernel_rfl) ef34j3 ef34l1 _ f34_5_i (fun k => f34_4 F k (Rf34j4 ∘ ef34j4))
    (by rintro ⟨t0,t4,x3⟩; kernel_rfl) (fun Rf34l1 => f34_4_eq F Rf34l1 Rf34j4)
def f34_6 (F : Nat) (kf34j4 : (List Int) → Rz) : Ty3 → Rz := f34_5 F kf34j4
theorem f34_6_eq (F : Nat) (Rf34j4 : St → Rz) : ∀ v,aexec VG3434 (Af34 F) (bp Try.f34 29) (ef34j3 v) (kSeq (kc VG3434 Rf34j4 [(3,.plain)]) (kFin VG3434 none (Try.f34).results.toList)) = f34_6 F (Rf34j4 ∘ ef34j4) v := fun v =>
  (block_in  (by kernel_rfl) _ _).trans (f34_5_eq F Rf34j4 v)
def f34_7 (F : Nat) (kf34j4 : (List Int) → Rz) : (List Int) × (List Int) → Rz := fun v => f34_3 F (f34_6 F kf34j4) kf34j4 v
theorem f34_7_eq (F : Nat) (Rf34j4 : St → Rz) : ∀ v,aexec VG3434 (Af34 F) (bp Try.f34 14) (ef34j2 v) (kSeq (kc VG3434 Rf34j4 [(3,.plain)]) (kFin VG3434 none (Try.f34).results.toList)) = f34_7 F (Rf34j4 ∘ ef34j4) v :=
  seq_cut (by kernel_rfl) (by kernel_rfl) ef34j2 ef34j3 _ (fun k => f34_3 F k (Rf34j4 ∘ ef34j4)) (f34_6 F (Rf34j4 ∘ ef34j4))
    (fun Rf34j3 => f34_3_eq F Rf34j3 Rf34j4) (f34_6_eq F Rf34j4)
def f34_8 (F : Nat) : (List Int) → Rz := fun x1 => (some ((.own 0 0 1),[(.cells x1.length (.rI .u8 x1) true)]))
theorem f34_8_eq (F : Nat) : ∀ v,aexec VG3434 (Af34 F) (bp Try.f34 15) (ef34j4 v) (kFin VG3434 none (Try.f34).results.toList) = f34_8 F v := by
  intro x1; kernel_rfl
def f34_9 (F : Nat) : (List Int) × (List Int) → Rz := fun v => f34_7 F (f34_8 F) v
theorem f34_9_eq (F : Nat) : ∀ v,aexec VG3434 (Af34 F) (bp Try.f34 7) (ef34j2 v) (kFin VG3434 none (Try.f34).results.toList) = f34_9 F v :=
  seq_cut (by kernel_rfl) (by kernel_rfl) ef34j2 ef34j4 _ (fun k => f34_7 F k) (f34_8 F)
    (fun Rf34j4 => f34_7_eq F Rf34j4) (f34_8_eq F)
def f34_10 (F : Nat) : (List Int) → Rz := fun v => f34_2 F (f34_9 F) v
theorem f34_10_eq (F : Nat) : ∀ v,aexec VG3434 (Af34 F) (bp Try.f34 3) (ef34j1 v) (kFin VG3434 none (Try.f34).results.toList) = f34_10 F v :=
  seq_cut (by kernel_rfl) (by kernel_rfl) ef34j1 ef34j2 _ (fun k => f34_2 F k) (f34_9 F)
    (fun Rf34j2 => f34_2_eq F Rf34j2) (f34_9_eq F)
def f34_11 (F : Nat) : (List Int) → Rz := fun v => f34_1 F (f34_10 F) v
theorem f34_11_eq (F : Nat) : ∀ v,aexec VG3434 (Af34 F) (sub (bodyOf Try.f34) []) (ef34_a v) (kFin VG3434 none (Try.f34).results.toList) = f34_11 F v :=
  seq_cut (by kernel_rfl) (by kernel_rfl) ef34_a ef34j1 _ (fun k => f34_1 F k) (f34_10 F)
    (fun Rf34j1 => f34_1_eq F Rf34j1) (f34_10_eq F)
def f34 (F : Nat) : (List Int) → Rz := f34_11 F
theorem f34_body (F : Nat) (a0 : List Int) : abody VG3434 (Af34 F) Try.f34 [(.vs (.rI .i64 a0) 0 1)] [] = f34 F a0 :=
  (abody_in (c := (sub (bodyOf Try.f34) [])) (by kernel_rfl) (s := ef34_a a0) (by kernel_rfl)).trans (f34_11_eq F a0)
def r34 : CRun := fun X H => match X,H with
  | [(.vs (.rI .i64 a0) 0 1)],[] => some ((decide ((Wire.ints a0).length < 1073741000)),(.own 0 0 1),[(.cells (Wire.ints a0).length (.rI .u8 (Wire.ints a0)) true)])
  | _,_ => none
theorem s34 (a0 : List Int) (hp : ((decide ((Wire.ints a0).length < 1073741000))) = true) (h0 : okV (.vs (.rI .i64 a0) 0 1)) : ∃ F,f34 F a0 = some ((.own 0 0 1),[(.cells (Wire.ints a0).length (.rI .u8 (Wire.ints a0)) true)]) := by
  have hl : (Wire.ints a0).length < 1073741000 := of_decide_eq_true hp
  have hl0 := h0.2
  refine ⟨a0.length + 1,?_⟩
  simp only [f34,f34_11,f34_1,f34_10,f34_2,f34_9,f34_7,f34_3,f34_6,f34_5,f34_5_i]
  refine loopN_from (fun i => (a0,(i : Int),Wire.int (a0.length : Int) ++ (a0.take i).flatMap Wire.int)) a0.length (by simp) (fun i hi k => ?_) (fun k => ?_) _ (by omega)
  · have e1 := flatMap_take 0 Wire.int a0 i hi
    have e2 := flatMap_le Wire.int a0 (i + 1)
    rw [e1,List.length_append] at e2
    simp only [Wire.ints,List.length_append] at hl
    simp only [f34_4,dec_and,List.length_append]
    rw [Int.toNat_natCast,cond_pos (by omega),cond_pos (by omega),cond_pos (by omega),i64w (x := (i : Int) + 1) (by omega) (by omega),List.append_assoc,← e1]
    rfl
  · simp only [f34_4]
    rw [cond_neg (by omega),List.take_length]
    rfl


theorem c34 : CallOk Try.prog G34 34 r34 := callOk_of (V := VG3434) mixed tys eVG3434 (f := 34) (fn := Try.f34) Try.func34 (by kernel_rfl) (c := sub (bodyOf Try.f34) []) (by kernel_rfl) (by
  intro X H r H' h hX hH
  unfold r34 at h; split at h <;> try contradiction
  · simp only [Option.some.injEq,Prod.mk.injEq] at h
    obtain ⟨hp,rfl,rfl⟩ := h
    obtain ⟨F,hF⟩ := s34 _ hp (hX _ (.head _))
    exact ⟨Af34 F,(f34_body F _).trans hF⟩)
def lVG3429 : List CEnt := []
def VG3429 : Env := mkEnv T34 G34 lVG3429
theorem eVG3429 : EOk Try.prog VG3429 := eok_mk (by exact trivial)
def Af29 (F : Nat) : Cuts := { F := F,at_ := fun n => match n with | 4016 => some sp9 | _ => none,join := fun n => match n with | 1032 => some [(0,.plain),(1,.plain)] | 3024 => some [(0,.plain),(1,.plain)] | 4018 => some sp9 | 8003 => some [] | _ => none }
def ef29_a : (List Int) × (List Int) → St := fun (a0,a1) => { tmps := [(0,(.vs (.rI .u8 a0) 0 1)),(1,(.vs (.rI .u8 a1) 0 1))],heap := [],next := 0,nt := 26,m := 0 }
def ef29j1 : (List Int) × (List Int) → St := fun (t0,t1) => { tmps := [(0,(.vs (.rI .u8 t0) 0 1)),(1,(.vs (.rI .u8 t1) 0 1))],heap := [],next := 0,nt := 26,m := 0 }
def ef29j2 : (List Int) × (List Int) → St := fun (t0,t1) => { tmps := [(0,(.vs (.rI .u8 t0) 0 1)),(1,(.vs (.rI .u8 t1) 0 1))],heap := [],next := 0,nt := 26,m := 0 }
def ef29j3 : Ty4 → St := fun (t0,t1,t5) => { tmps := [(0,(.vs (.rI .u8 t0) 0 1)),(1,(.vs (.rI .u8 t1) 0 1)),(5,(.int .i64 t5))],heap := [],next := 0,nt := 26,m := 0 }
def ef29l1 : Ty4 → St := fun (t0,t1,t5) => { tmps := [(0,(.vs (.rI .u8 t0) 0 1)),(1,(.vs (.rI .u8 t1) 0 1)),(5,(.int .i64 t5))],heap := [],next := 0,nt := 26,m := 0 }
def ef29j4 : Unit → St := fun _ => { tmps := [],heap := [],next := 0,nt := 26,m := 0 }
def f29_1 (F : Nat) (kf29j1 : (List Int) × (List Int) → Rz) : (List Int) × (List Int) → Rz := fun (a0,a1) => (kf29j1 (a0,a1))
theorem f29_1_eq (F : Nat) (Rf29j1 : St → Rz) : ∀ v,aexec VG3429 (Af29 F) (bp Try.f29 2) (ef29_a v) (kSeq (kc VG3429 Rf29j1 [(0,.plain),(1,.plain)]) (kFin VG3429 none (Try.f29).results.toList)) = f29_1 F (Rf29j1 ∘ ef29j1) v := by
  rintro ⟨a0,a1⟩; kernel_rfl
def f29_2 (F : Nat) (kf29j2 : (List Int) × (List Int) → Rz) : (List Int) × (List Int) → Rz := fun (t0,t1) => (cond ((↑t0.length : Int) != (↑t1.length : Int)) (some ((.bool false),[])) (kf29j2 (t0,t1)))
theorem f29_2_eq (F : Nat) (Rf29j2 : St → Rz) : ∀ v,aexec VG3429 (Af29 F) (bp Try.f29 6) (ef29j1 v) (kSeq (kc VG3429 Rf29j2 [(0,.plain),(1,.plain)]) (kFin VG3429 none (Try.f29).results.toList)) = f29_2 F (Rf29j2 ∘ ef29j2) v := by
  rintro ⟨t0,t1⟩; kernel_rfl
def f29_3 (F : Nat) (kf29j3 : Ty4 → Rz) (kf29j4 : Unit → Rz) : (List Int) × (List Int) → Rz := fun (t0,t1) => (kf29j3 (t0,t1,(0 : Int)))
theorem f29_3_eq (F : Nat) (Rf29j3 : St → Rz) (Rf29j4 : St → Rz) : ∀ v,aexec VG3429 (Af29 F) (bp Try.f29 28) (ef29j2 v) (kSeq (kc VG3429 Rf29j3 sp9) (kSeq (kc VG3429 Rf29j4 []) (kFin VG3429 none (Try.f29).results.toList))) = f29_3 F (Rf29j3 ∘ ef29j3) (Rf29j4 ∘ ef29j4) v := by
  rintro ⟨t0,t1⟩; kernel_rfl
def f29_4 (F : Nat) (kf29l1 : Ty4 → Rz) (kf29j4 : Unit → Rz) : Ty4 → Rz := fun (t0,t1,t5) => (cond (decide (t5 < (↑t0.length : Int))) (cond ((decide (0 ≤ t5)) && (decide (t5 < (↑t0.length : Int)))) (cond ((decide (0 ≤ t5)) && (decide (t5 < (↑t1.length : Int)))) (cond ((t0.getD (Int.toNat t5) 0) != (t1.getD (Int.toNat t5) 0)) (some ((.bool false),[])) (kf29l1 (t0,t1,(IntKind.i64.wrap (t5 + (1 : Int)))))) none) none) (kf29j4 ()))
theorem f29_4_eq (F : Nat) (Rf29l1 : St → Rz) (Rf29j4 : St → Rz) : ∀ v,aexec VG3429 (Af29 F) (bp Try.f29 116) (ef29l1 v) (kSeq (kc VG3429 Rf29l1 sp9) (kBlock 0 (kSeq (kc VG3429 Rf29j4 []) (kFin VG3429 none (Try.f29).results.toList)))) = f29_4 F (Rf29l1 ∘ ef29l1) (Rf29j4 ∘ ef29j4) v := by
  rintro ⟨t0,t1,t5⟩; kernel_rfl
def f29_5_i : Ty4 → (List Int) × (List Int) × Int := fun (t0,t1,t5) => (t0,t1,t5)
def f29_5 (F : Nat) (kf29j4 : Unit → Rz) : Ty4 → Rz := fun v => loopN (fun k => f29_4 F k kf29j4) F (f29_5_i v)
theorem f29_5_eq (F : Nat) (Rf29j4 : St → Rz) : ∀ v,aexec VG3429 (Af29 F) (bp Try.f29 58) (ef29j3 v) (kBlock 0 (kSeq (kc VG3429 Rf29j4 []) (kFin VG3429 none (Try.f29).results.toList))) = f29_5 F (Rf29j4 ∘ ef29j4) v :=
  loop_cut (by kernel_rfl) (by kernel_rfl) ef29j3 ef29l1 _ f29_5_i (fun k => f29_4 F k (Rf29j4 ∘ ef29j4))
    (by rintro ⟨t0,t1,t5⟩; kernel_rfl) (fun Rf29l1 => f29_4_eq F Rf29l1 Rf29j4)
def f29_6 (F : Nat) (kf29j4 : Unit → Rz) : Ty4 → Rz := f29_5 F kf29j4
theorem f29_6_eq (F : Nat) (Rf29j4 : St → Rz) : ∀ v,aexec VG3429 (Af29 F) (bp Try.f29 29) (ef29j3 v) (kSeq (kc VG3429 Rf29j4 []) (kFin VG3429 none (Try.f29).results.toList)) = f29_6 F (Rf29j4 ∘ ef29j4) v := fun v =>
  (block_in  (by kernel_rfl) _ _).trans (f29_5_eq F Rf29j4 v)
def f29_7 (F : Nat) (kf29j4 : Unit → Rz) : (List Int) × (List Int) → Rz := fun v => f29_3 F (f29_6 F kf29j4) kf29j4 v
theorem f29_7_eq (F : Nat) (Rf29j4 : St → Rz) : ∀ v,aexec VG3429 (Af29 F) (bp Try.f29 14) (ef29j2 v) (kSeq (kc VG3429 Rf29j4 []) (kFin VG3429 none (Try.f29).results.toList)) = f29_7 F (Rf29j4 ∘ ef29j4) v :=
  seq_cut (by kernel_rfl) (by kernel_rfl) ef29j2 ef29j3 _ (fun k => f29_3 F k (Rf29j4 ∘ ef29j4)) (f29_6 F (Rf29j4 ∘ ef29j4))
    (fun Rf29j3 => f29_3_eq F Rf29j3 Rf29j4) (f29_6_eq F Rf29j4)
def f29_8 (F : Nat) : Unit → Rz := fun _ => (some ((.bool true),[]))
theorem f29_8_eq (F : Nat) : ∀ v,aexec VG3429 (Af29 F) (bp Try.f29 15) (ef29j4 v) (kFin VG3429 none (Try.f29).results.toList) = f29_8 F v := by
  intro _; kernel_rfl
def f29_9 (F : Nat) : (List Int) × (List Int) → Rz := fun v => f29_7 F (f29_8 F) v
theorem f29_9_eq (F : Nat) : ∀ v,aexec VG3429 (Af29 F) (bp Try.f29 7) (ef29j2 v) (kFin VG3429 none (Try.f29).results.toList) = f29_9 F v :=
  seq_cut (by kernel_rfl) (by kernel_rfl) ef29j2 ef29j4 _ (fun k => f29_7 F k) (f29_8 F)
    (fun Rf29j4 => f29_7_eq F Rf29j4) (f29_8_eq F)
def f29_10 (F : Nat) : (List Int) × (List Int) → Rz := fun v => f29_2 F (f29_9 F) v
theorem f29_10_eq (F : Nat) : ∀ v,aexec VG3429 (Af29 F) (bp Try.f29 3) (ef29j1 v) (kFin VG3429 none (Try.f29).results.toList) = f29_10 F v :=
  seq_cut (by kernel_rfl) (by kernel_rfl) ef29j1 ef29j2 _ (fun k => f29_2 F k) (f29_9 F)
    (fun Rf29j2 => f29_2_eq F Rf29j2) (f29_9_eq F)
def f29_11 (F : Nat) : (List Int) × (List Int) → Rz := fun v => f29_1 F (f29_10 F) v
theorem f29_11_eq (F : Nat) : ∀ v,aexec VG3429 (Af29 F) (sub (bodyOf Try.f29) []) (ef29_a v) (kFin VG3429 none (Try.f29).results.toList) = f29_11 F v :=
  seq_cut (by kernel_rfl) (by kernel_rfl) ef29_a ef29j1 _ (fun k => f29_1 F k) (f29_10 F)
    (fun Rf29j1 => f29_1_eq F Rf29j1) (f29_10_eq F)
def f29 (F : Nat) : (List Int) × (List Int) → Rz := f29_11 F
theorem f29_body (F : Nat) (a0 : List Int) (a1 : List Int) : abody VG3429 (Af29 F) Try.f29 [(.vs (.rI .u8 a0) 0 1),(.vs (.rI .u8 a1) 0 1)] [] = f29 F (a0,a1) :=
  (abody_in (c := (sub (bodyOf Try.f29) [])) (by kernel_rfl) (s := ef29_a (a0,a1)) (by kernel_rfl)).trans (f29_11_eq F (a0,a1))
def r29 : CRun := fun X H => match X,H with
  | [(.vs (.rI .u8 a0) 0 1),(.vs (.rI .u8 a1) 0 1)],[] => some (true,(.bool (decide (a0 = a1))),[])
  | _,_ => none
theorem s29 (a0 : List Int) (a1 : List Int) (h0 : okV (.vs (.rI .u8 a0) 0 1)) (h1 : okV (.vs (.rI .u8 a1) 0 1)) : ∃ F,f29 F (a0,a1) = some ((.bool (decide (a0 = a1))),[]) := by
  have hl0 := h0.2
  have hl1 := h1.2
  refine ⟨a0.length + 1,?_⟩
  simp only [f29,f29_11,f29_1,f29_10,f29_2,int_bne]
  by_cases hl : a0.length = a1.length
  · rw [cond_neg (by omega)]
    simp only [f29_9,f29_7,f29_3,f29_6,f29_5,f29_5_i]
    refine loopN_ind (fun m s => s.1 = a0 ∧ s.2.1 = a1 ∧ s.2.2 = ((a0.length - m : Nat) : Int) ∧ m ≤ a0.length ∧ ∀ i,i < a0.length - m → a0.getD i 0 = a1.getD i 0) ?_ _ a0.length _ (by omega) ⟨rfl,rfl,by simp,Nat.le_refl _,fun i hi => by omega⟩
    rintro m ⟨t0,t1,t5⟩ k ⟨e1,e2,e3,hm,hi⟩ hk
    simp only at e1 e2 e3 hi
    subst e1; subst e2; subst e3
    simp only [f29_4,dec_and,int_bne,lst_beq,dec_not]
    cases m with
    | zero =>
      rw [cond_neg (by omega),decide_eq_true (list_eq 0 hl fun i h => hi i (by omega))]
      rfl
    | succ m =>
      rw [Int.toNat_natCast,cond_pos (by omega),cond_pos (by omega),cond_pos (by omega)]
      by_cases he : t0.getD (t0.length - (m + 1)) 0 = t1.getD (t0.length - (m + 1)) 0
      · rw [cond_neg (fun h => h he),i64w (by omega) (by omega)]
        refine hk m _ (by omega) ⟨rfl,rfl,by simp only []; omega,by omega,fun i hi' => ?_⟩
        by_cases hh : i < t0.length - (m + 1)
        · exact hi i hh
        · rw [show i = t0.length - (m + 1) by omega]; exact he
      · rw [cond_pos he,decide_eq_false (fun e => he (by rw [e]))]
  · rw [cond_pos (by omega),decide_eq_false (fun e => hl (by rw [e]))]


theorem c29 : CallOk Try.prog G34 29 r29 := callOk_of (V := VG3429) mixed tys eVG3429 (f := 29) (fn := Try.f29) Try.func29 (by kernel_rfl) (c := sub (bodyOf Try.f29) []) (by kernel_rfl) (by
  intro X H r H' h hX hH
  unfold r29 at h; split at h <;> try contradiction
  · simp only [Option.some.injEq,Prod.mk.injEq] at h
    obtain ⟨hp,rfl,rfl⟩ := h
    obtain ⟨F,hF⟩ := s29 _ _ (hX _ (.head _)) (hX _ (.tail _ (.head _)))
    exact ⟨Af29 F,(f29_body F _ _).trans hF⟩)
end Go.Am
