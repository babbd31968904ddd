/- Part of a proof about the functions of the given program. -/
import Derived.Test.YtlenpjfgbbfmcaaDoorAmWire3
import Derived.Test.YtlenpjfgbbfmcaaDoorProg
set_option linter.unusedVariables false
set_option linter.unusedSimpArgs false
namespace Go.Am
open Go Go.Proofs
abbrev sp0 : List (Nat × Md) := [(0,.plain),(2,.plain),(3,.plain),(11,.plain)]
abbrev sp1 : List (Nat × Md) := [(0,.plain),(2,.plain),(3,.plain),(4,.plain),(11,.plain),(22,.plain),(23,.plain),(24,.plain)]
abbrev sp2 : List (Nat × Md) := [(0,.plain),(2,.plain),(3,.plain)]
abbrev sp3 : List (Nat × Md) := [(0,.plain),(2,.plain),(3,.plain),(11,.plain),(12,.plain)]
abbrev sp4 : List (Nat × Md) := [(0,.plain),(2,.plain),(3,.plain),(4,.plain),(11,.plain)]
abbrev sp5 : List (Nat × Md) := [(0,.plain),(2,.plain),(3,.plain),(4,.plain),(11,.plain),(15,.plain)]
abbrev Ty0 := (List Int) × (List Int) × (List Int)
abbrev Ty1 := (List Int) × Int × (List Int) × (List Int)
abbrev Ty2 := (List Int) × Int × Bool × (List Int) × (List Int)
abbrev Ty3 := (List Int) × Int × Int × (List Int) × (List Int)
abbrev Ty4 := (List Int) × Int × Int × Bool × (List Int) × (List Int)
abbrev Ty5 := (List Int) × Int × Int × (List Int) × Int × Int × (List Int) × (List Int)
def T03 : Tys := [⟨.other,1,0⟩,⟨.func,1,8⟩,⟨.int .i64,1,8⟩,⟨.int .i64,1,8⟩,⟨.bool,1,1⟩,⟨.int .u8,1,1⟩,⟨.int .u8,1,1⟩,⟨.struct [(2,0),(3,1),(4,2),(6,3)],4,24⟩,⟨.struct [(2,0),(3,1),(4,2),(6,3)],4,24⟩,⟨.str,1,16⟩,⟨.str,1,16⟩,⟨.str,1,16⟩,⟨.int .u64,1,8⟩,⟨.other,0,0⟩,⟨.other,0,0⟩,⟨.ptr 110,1,8⟩,⟨.ptr 113,1,8⟩,⟨.ptr 121,1,8⟩,⟨.other,0,0⟩,⟨.other,0,0⟩,⟨.other,1,16⟩,⟨.int .i32,1,4⟩,⟨.arr 16 5,16,16⟩,⟨.arr 16 5,16,16⟩,⟨.func,1,8⟩,⟨.slice 3,1,24⟩,⟨.func,1,8⟩,⟨.func,1,8⟩,⟨.arr 2 3,2,16⟩,⟨.int .i64,1,8⟩,⟨.other,1,0⟩,⟨.func,1,8⟩,⟨.other,1,0⟩,⟨.func,1,8⟩,⟨.func,1,8⟩,⟨.func,1,8⟩,⟨.other,1,0⟩,⟨.func,1,8⟩,⟨.func,1,8⟩,⟨.func,1,8⟩,⟨.func,1,8⟩,⟨.func,1,8⟩,⟨.func,1,8⟩,⟨.arr 68 3,68,544⟩,⟨.func,1,8⟩,⟨.func,1,8⟩,⟨.func,1,8⟩,⟨.func,1,8⟩,⟨.slice 23,1,24⟩,⟨.slice 48,1,24⟩,⟨.func,1,8⟩,⟨.ptr 54,1,8⟩,⟨.slice 5,1,24⟩,⟨.struct [(51,0),(52,1)],2,32⟩,⟨.struct [(51,0),(52,1)],2,32⟩,⟨.other,1,16⟩,⟨.other,1,16⟩,⟨.other,1,0⟩,⟨.func,1,8⟩,⟨.func,1,8⟩,⟨.func,1,8⟩,⟨.func,1,8⟩,⟨.func,1,8⟩,⟨.func,1,8⟩,⟨.func,1,8⟩,⟨.func,1,8⟩,⟨.slice 9,1,24⟩,⟨.other,1,0⟩,⟨.func,1,8⟩,⟨.func,1,8⟩,⟨.func,1,8⟩,⟨.func,1,8⟩,⟨.func,1,8⟩,⟨.map 28 23,1,8⟩,⟨.other,1,0⟩,⟨.func,1,8⟩,⟨.int .u64,1,8⟩,⟨.func,1,8⟩,⟨.func,1,8⟩,⟨.ptr 5,1,8⟩,⟨.func,1,8⟩,⟨.int .u32,1,4⟩,⟨.arr 8 81,8,32⟩,⟨.arr 64 5,64,64⟩,⟨.struct [(82,0),(83,8),(76,72)],73,104⟩,⟨.struct [(82,0),(83,8),(76,72)],73,104⟩,⟨.func,1,8⟩,⟨.func,1,8⟩,⟨.func,1,8⟩,⟨.arr 32 5,32,32⟩,⟨.func,1,8⟩,⟨.func,1,8⟩,⟨.func,1,8⟩,⟨.int .u64,1,8⟩,⟨.func,1,8⟩,⟨.other,1,8⟩,⟨.func,1,8⟩,⟨.func,1,8⟩,⟨.func,1,8⟩,⟨.func,1,8⟩,⟨.func,1,8⟩,⟨.func,1,8⟩,⟨.func,1,8⟩,⟨.arr 64 81,64,256⟩,⟨.func,1,8⟩,⟨.func,1,8⟩,⟨.arr 4 81,4,16⟩,⟨.slice 81,1,24⟩,⟨.func,1,8⟩,⟨.other,0,0⟩,⟨.other,0,0⟩,⟨.arr 0 16,0,0⟩,⟨.other,0,0⟩,⟨.other,0,0⟩,⟨.func,1,8⟩,⟨.int .u8,1,1⟩,⟨.int .u8,1,1⟩,⟨.func,1,8⟩,⟨.int .i32,1,4⟩,⟨.int .i32,1,4⟩,⟨.other,0,0⟩,⟨.other,0,0⟩]
def G02 : Nat → Option AV := fun g => match g with | 1 => some (.rI .u32 Sha.K) | _ => none
def G03 : Nat → Option AV := fun g => match g with | 0 => some (.rI .u32 Sha.K) | 1 => some (.rI .u32 Sha.K) | _ => none
theorem gsub : ∀ g r,G02 g = some r → G03 g = some r := by
  intro g r h; unfold G02 at h; split at h
  · exact h
  · contradiction
theorem mixed : Tryd.prog.follows .mixedOrders = true := by kernel_rfl
theorem tys : TysOk Tryd.prog T03 := tysB_ok (by kernel_rfl)
def lVG0274 : List CEnt := []
def VG0274 : Env := mkEnv T03 G02 lVG0274
theorem eVG0274 : EOk Tryd.prog VG0274 := eok_mk (by exact trivial)
def Af74 (F : Nat) : Cuts := { F := F,at_ := fun _ => none,join := fun _ => none }
def ef74_a : Int × Int → St := fun (a0,a1) => { tmps := [(0,(.int .u32 a0)),(1,(.int .i64 a1))],heap := [],next := 0,nt := 17,m := 0 }
def f74_1 (F : Nat) : Int × Int → Rz := fun (a0,a1) => (cond (decide (0 ≤ (ibits .and .u64 (IntKind.u64.wrap a1) (31 : Int)))) (cond (decide (0 ≤ (IntKind.u64.wrap ((32 : Int) - (ibits .and .u64 (IntKind.u64.wrap a1) (31 : Int)))))) (some ((.int .u32 (ibits .or .u32 (IntKind.u32.wrap (a0 * 2 ^ (min (Int.toNat (ibits .and .u64 (IntKind.u64.wrap a1) (31 : Int))) 32))) (Int.fdiv a0 (2 ^ (min (Int.toNat (IntKind.u64.wrap ((32 : Int) - (ibits .and .u64 (IntKind.u64.wrap a1) (31 : Int))))) 32))))),[])) none) none)
theorem f74_1_eq (F : Nat) : ∀ v,aexec VG0274 (Af74 F) (sub (bodyOf Tryd.f74) []) (ef74_a v) (kFin VG0274 none (Tryd.f74).results.toList) = f74_1 F v := by
  rintro ⟨a0,a1⟩; kernel_rfl
def f74 (F : Nat) : Int × Int → Rz := f74_1 F
theorem f74_body (F : Nat) (a0 : Int) (a1 : Int) : abody VG0274 (Af74 F) Tryd.f74 [(.int .u32 a0),(.int .i64 a1)] [] = f74 F (a0,a1) :=
  (abody_in (c := (sub (bodyOf Tryd.f74) [])) (by kernel_rfl) (s := ef74_a (a0,a1)) (by kernel_rfl)).trans (f74_1_eq F (a0,a1))
def r74 : CRun := fun X H => match X,H with
  | [(.int .u32 a0),(.int .i64 a1)],[] => some (true,(.int .u32 (Sha.rotl a0 a1)),[])
  | _,_ => none
theorem u64_nonneg (x : Int) : 0 ≤ IntKind.u64.wrap x := by rw [u64mod]; omega
theorem and64_nonneg (x y : Int) : 0 ≤ ibits .and .u64 x y := u64_nonneg _
theorem s74 (a0 : Int) (a1 : Int) (h0 : okV (.int .u32 a0)) (h1 : okV (.int .i64 a1)) : ∃ F,f74 F (a0,a1) = some ((.int .u32 (Sha.rotl a0 a1)),[]) := by
  refine ⟨0,?_⟩
  simp only [f74,f74_1]
  rw [cond_pos (and64_nonneg _ _),cond_pos (u64_nonneg _)]
  rfl
theorem c74 : CallOk Tryd.prog G02 74 r74 := callOk_of (V := VG0274) mixed tys eVG0274 (f := 74) (fn := Tryd.f74) Tryd.func74 (by kernel_rfl) (c := sub (bodyOf Tryd.f74) []) (by kernel_rfl) (by
  intro X H r H' h hX hH
  unfold r74 at h; split at h <;> try contradiction
  · simp only [Option.some.injEq,Prod.mk.injEq] at h
    obtain ⟨hp,rfl,rfl⟩ := h
    obtain ⟨F,hF⟩ := s74 _ _ (hX _ (.head _)) (hX _ (.tail _ (.head _)))
    exact ⟨Af74 F,(f74_body F _ _).trans hF⟩)
def lVG0273 : List CEnt := [(74,[none,none],r74)]
def VG0273 : Env := mkEnv T03 G02 lVG0273
theorem eVG0273 : EOk Tryd.prog VG0273 := eok_mk (by exact ⟨c74,trivial⟩)
def Af73 (F : Nat) : Cuts := { F := F,at_ := fun _ => none,join := fun _ => none }
def ef73_a : Int × Int × Int × Int → St := fun (a0,a1,a2,a3) => { tmps := [(0,(.int .u32 a0)),(1,(.int .i64 a1)),(2,(.int .i64 a2)),(3,(.int .i64 a3))],heap := [],next := 0,nt := 23,m := 0 }
def f73_1 (F : Nat) : Int × Int × Int × Int → Rz := fun (a0,a1,a2,a3) => (some ((.int .u32 (ibits .xor .u32 (ibits .xor .u32 (Sha.rotl a0 (IntKind.i64.wrap (0 - a1))) (Sha.rotl a0 (IntKind.i64.wrap (0 - a2)))) (Sha.rotl a0 (IntKind.i64.wrap (0 - a3))))),[]))
theorem f73_1_eq (F : Nat) : ∀ v,aexec VG0273 (Af73 F) (sub (bodyOf Tryd.f73) []) (ef73_a v) (kFin VG0273 none (Tryd.f73).results.toList) = f73_1 F v := by
  rintro ⟨a0,a1,a2,a3⟩; kernel_rfl
def f73 (F : Nat) : Int × Int × Int × Int → Rz := f73_1 F
theorem f73_body (F : Nat) (a0 : Int) (a1 : Int) (a2 : Int) (a3 : Int) : abody VG0273 (Af73 F) Tryd.f73 [(.int .u32 a0),(.int .i64 a1),(.int .i64 a2),(.int .i64 a3)] [] = f73 F (a0,a1,a2,a3) :=
  (abody_in (c := (sub (bodyOf Tryd.f73) [])) (by kernel_rfl) (s := ef73_a (a0,a1,a2,a3)) (by kernel_rfl)).trans (f73_1_eq F (a0,a1,a2,a3))
def r73 : CRun := fun X H => match X,H with
  | [(.int .u32 a0),(.int .i64 a1),(.int .i64 a2),(.int .i64 a3)],[] => some (true,(.int .u32 (Sha.mix a0 a1 a2 a3)),[])
  | _,_ => none
theorem s73 (a0 : Int) (a1 : Int) (a2 : Int) (a3 : Int) (h0 : okV (.int .u32 a0)) (h1 : okV (.int .i64 a1)) (h2 : okV (.int .i64 a2)) (h3 : okV (.int .i64 a3)) : ∃ F,f73 F (a0,a1,a2,a3) = some ((.int .u32 (Sha.mix a0 a1 a2 a3)),[]) :=
  ⟨0,rfl⟩
theorem c73 : CallOk Tryd.prog G02 73 r73 := callOk_of (V := VG0273) mixed tys eVG0273 (f := 73) (fn := Tryd.f73) Tryd.func73 (by kernel_rfl) (c := sub (bodyOf Tryd.f73) []) (by kernel_rfl) (by
  intro X H r H' h hX hH
  unfold r73 at h; split at h <;> try contradiction
  · simp only [Option.some.injEq,Prod.mk.injEq] at h
    obtain ⟨hp,rfl,rfl⟩ := h
    obtain ⟨F,hF⟩ := s73 _ _ _ _ (hX _ (.head _)) (hX _ (.tail _ (.head _))) (hX _ (.tail _ (.tail _ (.head _)))) (hX _ (.tail _ (.tail _ (.tail _ (.head _)))))
    exact ⟨Af73 F,(f73_body F _ _ _ _).trans hF⟩)
def lVG0272 : List CEnt := [(74,[none,none],r74)]
def VG0272 : Env := mkEnv T03 G02 lVG0272
theorem eVG0272 : EOk Tryd.prog VG0272 := eok_mk (by exact ⟨c74,trivial⟩)
def Af72 (F : Nat) : Cuts := { F := F,at_ := fun n => match n with | 3041 => some sp0 | 7012 => some sp1 | _ => none,join := fun n => match n with | 1051 => some [(0,.plain),(2,.plain)] | 2049 => some sp2 | 3043 => some sp0 | 4035 => some sp0 | 4039 => some sp3 | 5030 => some sp4 | 6020 => some sp5 | 7014 => some sp1 | 11007 => some sp4 | 15001 => some sp0 | 16003 => some [(2,.plain),(3,.plain)] | _ => none }
def ef72_a : (List Int) → St := fun a0 => { tmps := [(0,(.vs (.rI .u8 a0) 0 1))],heap := [],next := 0,nt := 79,m := 0 }
def ef72j1 : (List Int) × (List Int) → St := fun (t0,x2) => { tmps := [(0,(.vs (.rI .u8 t0) 0 1)),(2,(.ptr 0 0 64 0 0 0 64))],heap := [(0,(.cells 64 (.rI .u32 x2) true))],next := 1,nt := 79,m := 0 }
def ef72j2 : Ty0 → St := fun (t0,x2,x3) => { tmps := [(0,(.vs (.rI .u8 t0) 0 1)),(2,(.ptr 0 0 64 0 0 0 64)),(3,(.ptr 1 0 64 0 0 0 64))],heap := [(0,(.cells 64 (.rI .u32 x2) true)),(1,(.cells 64 (.rI .u32 x3) true))],next := 2,nt := 79,m := 0 }
def ef72j3 : Ty1 → St := fun (t0,t11,x3,x4) => { tmps := [(0,(.vs (.rI .u8 t0) 0 1)),(2,(.ptr 0 0 64 0 0 0 64)),(3,(.ptr 1 0 64 0 0 0 64)),(11,(.int .i64 t11))],heap := [(0,(.cells 64 (.rI .u32 x3) true)),(1,(.cells 64 (.rI .u32 x4) true))],next := 2,nt := 79,m := 0 }
def ef72l1 : Ty1 → St := fun (t0,t11,x3,x4) => { tmps := [(0,(.vs (.rI .u8 t0) 0 1)),(2,(.ptr 0 0 64 0 0 0 64)),(3,(.ptr 1 0 64 0 0 0 64)),(11,(.int .i64 t11))],heap := [(0,(.cells 64 (.rI .u32 x3) true)),(1,(.cells 64 (.rI .u32 x4) true))],next := 2,nt := 79,m := 0 }
def ef72j4 : Ty2 → St := fun (t0,t11,t12,x4,x5) => { tmps := [(0,(.vs (.rI .u8 t0) 0 1)),(2,(.ptr 0 0 64 0 0 0 64)),(3,(.ptr 1 0 64 0 0 0 64)),(11,(.int .i64 t11)),(12,(.bool t12))],heap := [(0,(.cells 64 (.rI .u32 x4) true)),(1,(.cells 64 (.rI .u32 x5) true))],next := 2,nt := 79,m := 0 }
def ef72j5 : Ty1 → St := fun (t0,t11,x3,x4) => { tmps := [(0,(.vs (.rI .u8 t0) 0 1)),(2,(.ptr 0 0 64 0 0 0 64)),(3,(.ptr 1 0 64 0 0 0 64)),(11,(.int .i64 t11))],heap := [(0,(.cells 64 (.rI .u32 x3) true)),(1,(.cells 64 (.rI .u32 x4) true))],next := 2,nt := 79,m := 0 }
def ef72j6 : Ty3 → St := fun (t0,t4,t11,x4,x5) => { tmps := [(0,(.vs (.rI .u8 t0) 0 1)),(2,(.ptr 0 0 64 0 0 0 64)),(3,(.ptr 1 0 64 0 0 0 64)),(4,(.int .i64 t4)),(11,(.int .i64 t11))],heap := [(0,(.cells 64 (.rI .u32 x4) true)),(1,(.cells 64 (.rI .u32 x5) true))],next := 2,nt := 79,m := 0 }
def ef72j7 : Ty4 → St := fun (t0,t4,t11,t15,x5,x6) => { tmps := [(0,(.vs (.rI .u8 t0) 0 1)),(2,(.ptr 0 0 64 0 0 0 64)),(3,(.ptr 1 0 64 0 0 0 64)),(4,(.int .i64 t4)),(11,(.int .i64 t11)),(15,(.bool t15))],heap := [(0,(.cells 64 (.rI .u32 x5) true)),(1,(.cells 64 (.rI .u32 x6) true))],next := 2,nt := 79,m := 0 }
def ef72j8 : Ty5 → St := fun (t0,t4,t11,t22,t23,t24,x7,x8) => { tmps := [(0,(.vs (.rI .u8 t0) 0 1)),(2,(.ptr 0 0 64 0 0 0 64)),(3,(.ptr 1 0 64 0 0 0 64)),(4,(.int .i64 t4)),(11,(.int .i64 t11)),(22,(.vs (.rI .u8 t22) 0 1)),(23,(.int .i64 t23)),(24,(.int .i64 t24))],heap := [(0,(.cells 64 (.rI .u32 x7) true)),(1,(.cells 64 (.rI .u32 x8) true))],next := 2,nt := 79,m := 0 }
def ef72l2 : Ty5 → St := fun (t0,t4,t11,t22,t23,t24,x7,x8) => { tmps := [(0,(.vs (.rI .u8 t0) 0 1)),(2,(.ptr 0 0 64 0 0 0 64)),(3,(.ptr 1 0 64 0 0 0 64)),(4,(.int .i64 t4)),(11,(.int .i64 t11)),(22,(.vs (.rI .u8 t22) 0 1)),(23,(.int .i64 t23)),(24,(.int .i64 t24))],heap := [(0,(.cells 64 (.rI .u32 x7) true)),(1,(.cells 64 (.rI .u32 x8) true))],next := 2,nt := 79,m := 0 }
def ef72j9 : Ty3 → St := fun (t0,t4,t11,x4,x5) => { tmps := [(0,(.vs (.rI .u8 t0) 0 1)),(2,(.ptr 0 0 64 0 0 0 64)),(3,(.ptr 1 0 64 0 0 0 64)),(4,(.int .i64 t4)),(11,(.int .i64 t11))],heap := [(0,(.cells 64 (.rI .u32 x4) true)),(1,(.cells 64 (.rI .u32 x5) true))],next := 2,nt := 79,m := 0 }
def ef72j10 : Ty1 → St := fun (t0,t11,x3,x4) => { tmps := [(0,(.vs (.rI .u8 t0) 0 1)),(2,(.ptr 0 0 64 0 0 0 64)),(3,(.ptr 1 0 64 0 0 0 64)),(11,(.int .i64 t11))],heap := [(0,(.cells 64 (.rI .u32 x3) true)),(1,(.cells 64 (.rI .u32 x4) true))],next := 2,nt := 79,m := 0 }
def ef72j11 : (List Int) × (List Int) → St := fun (x1,x2) => { tmps := [(2,(.ptr 0 0 64 0 0 0 64)),(3,(.ptr 1 0 64 0 0 0 64))],heap := [(0,(.cells 64 (.rI .u32 x1) true)),(1,(.cells 64 (.rI .u32 x2) true))],next := 2,nt := 79,m := 0 }
def f72_1 (F : Nat) (kf72j1 : (List Int) × (List Int) → Rz) : (List Int) → Rz := fun a0 => (kf72j1 (a0,(List.replicate 64 0)))
theorem f72_1_eq (F : Nat) (Rf72j1 : St → Rz) : ∀ v,aexec VG0272 (Af72 F) (bp Tryd.f72 2) (ef72_a v) (kSeq (kc VG0272 Rf72j1 [(0,.plain),(2,.plain)]) (kFin VG0272 none (Tryd.f72).results.toList)) = f72_1 F (Rf72j1 ∘ ef72j1) v := by
  intro a0; kernel_rfl
def f72_2 (F : Nat) (kf72j2 : Ty0 → Rz) : (List Int) × (List Int) → Rz := fun (t0,x2) => (kf72j2 (t0,x2,(List.replicate 64 0)))
theorem f72_2_eq (F : Nat) (Rf72j2 : St → Rz) : ∀ v,aexec VG0272 (Af72 F) (bp Tryd.f72 6) (ef72j1 v) (kSeq (kc VG0272 Rf72j2 sp2) (kFin VG0272 none (Tryd.f72).results.toList)) = f72_2 F (Rf72j2 ∘ ef72j2) v := by
  rintro ⟨t0,x2⟩; kernel_rfl
def f72_3 (F : Nat) (kf72j3 : Ty1 → Rz) (kf72j11 : (List Int) × (List Int) → Rz) : Ty0 → Rz := fun (t0,x2,x3) => (kf72j3 (t0,(0 : Int),x2,x3))
theorem f72_3_eq (F : Nat) (Rf72j3 : St → Rz) (Rf72j11 : St → Rz) : ∀ v,aexec VG0272 (Af72 F) (bp Tryd.f72 28) (ef72j2 v) (kSeq (kc VG0272 Rf72j3 sp0) (kSeq (kc VG0272 Rf72j11 [(2,.plain),(3,.plain)]) (kFin VG0272 none (Tryd.f72).results.toList))) = f72_3 F (Rf72j3 ∘ ef72j3) (Rf72j11 ∘ ef72j11) v := by
  rintro ⟨t0,x2,x3⟩; kernel_rfl
def f72_4 (F : Nat) (kf72j4 : Ty2 → Rz) (kf72l1 : Ty1 → Rz) (kf72j11 : (List Int) × (List Int) → Rz) : Ty1 → Rz := fun (t0,t11,x3,x4) => (kf72j4 (t0,t11,(decide (t11 < (64 : Int))),x3,x4))
theorem f72_4_eq (F : Nat) (Rf72j4 : St → Rz) (Rf72l1 : St → Rz) (Rf72j11 : St → Rz) : ∀ v,aexec VG0272 (Af72 F) (bp Tryd.f72 232) (ef72l1 v) (kSeq (kc VG0272 Rf72j4 sp3) (kSeq (kc VG0272 Rf72l1 sp0) (kBlock 0 (kSeq (kc VG0272 Rf72j11 [(2,.plain),(3,.plain)]) (kFin VG0272 none (Tryd.f72).results.toList))))) = f72_4 F (Rf72j4 ∘ ef72j4) (Rf72l1 ∘ ef72l1) (Rf72j11 ∘ ef72j11) v := by
  rintro ⟨t0,t11,x3,x4⟩; kernel_rfl
def f72_5 (F : Nat) (kf72j5 : Ty1 → Rz) (kf72l1 : Ty1 → Rz) (kf72j11 : (List Int) × (List Int) → Rz) : Ty2 → Rz := fun (t0,t11,t12,x4,x5) => (cond t12 (kf72j5 (t0,t11,x4,x5)) (kf72j11 (x4,x5)))
theorem f72_5_eq (F : Nat) (Rf72j5 : St → Rz) (Rf72l1 : St → Rz) (Rf72j11 : St → Rz) : ∀ v,aexec VG0272 (Af72 F) (bp Tryd.f72 466) (ef72j4 v) (kSeq (kc VG0272 Rf72j5 sp0) (kSeq (kc VG0272 Rf72l1 sp0) (kBlock 0 (kSeq (kc VG0272 Rf72j11 [(2,.plain),(3,.plain)]) (kFin VG0272 none (Tryd.f72).results.toList))))) = f72_5 F (Rf72j5 ∘ ef72j5) (Rf72l1 ∘ ef72l1) (Rf72j11 ∘ ef72j11) v := by
  rintro ⟨t0,t11,t12,x4,x5⟩; kernel_rfl
def f72_6 (F : Nat) (kf72j6 : Ty3 → Rz) (kf72j10 : Ty1 → Rz) (kf72l1 : Ty1 → Rz) (kf72j11 : (List Int) × (List Int) → Rz) : Ty1 → Rz := fun (t0,t11,x3,x4) => (kf72j6 (t0,t11,t11,x3,x4))
theorem f72_6_eq (F : Nat) (Rf72j6 : St → Rz) (Rf72j10 : St → Rz) (Rf72l1 : St → Rz) (Rf72j11 : St → Rz) : ∀ v,aexec VG0272 (Af72 F) (bp Tryd.f72 3736) (ef72j5 v) (kSeq (kc VG0272 Rf72j6 sp4) (kBlock 1 (kSeq (kc VG0272 Rf72j10 sp0) (kSeq (kc VG0272 Rf72l1 sp0) (kBlock 0 (kSeq (kc VG0272 Rf72j11 [(2,.plain),(3,.plain)]) (kFin VG0272 none (Tryd.f72).results.toList))))))) = f72_6 F (Rf72j6 ∘ ef72j6) (Rf72j10 ∘ ef72j10) (Rf72l1 ∘ ef72l1) (Rf72j11 ∘ ef72j11) v := by
  rintro ⟨t0,t11,x3,x4⟩; kernel_rfl
def f72_7 (F : Nat) (kf72j7 : Ty4 → Rz) (kf72j9 : Ty3 → Rz) (kf72j10 : Ty1 → Rz) (kf72l1 : Ty1 → Rz) (kf72j11 : (List Int) × (List Int) → Rz) : Ty3 → Rz := fun (t0,t4,t11,x4,x5) => (kf72j7 (t0,t4,t11,(decide (t4 < (16 : Int))),x4,x5))
theorem f72_7_eq (F : Nat) (Rf72j7 : St → Rz) (Rf72j9 : St → Rz) (Rf72j10 : St → Rz) (Rf72l1 : St → Rz) (Rf72j11 : St → Rz) : ∀ v,aexec VG0272 (Af72 F) (bp Tryd.f72 14948) (ef72j6 v) (kSeq (kc VG0272 Rf72j7 sp5) (kSeq (kc VG0272 Rf72j9 sp4) (kBlock 1 (kSeq (kc VG0272 Rf72j10 sp0) (kSeq (kc VG0272 Rf72l1 sp0) (kBlock 0 (kSeq (kc VG0272 Rf72j11 [(2,.plain),(3,.plain)]) (kFin VG0272 none (Tryd.f72).results.toList)))))))) = f72_7 F (Rf72j7 ∘ ef72j7) (Rf72j9 ∘ ef72j9) (Rf72j10 ∘ ef72j10) (Rf72l1 ∘ ef72l1) (Rf72j11 ∘ ef72j11) v := by
  rintro ⟨t0,t4,t11,x4,x5⟩; kernel_rfl
def f72_8 (F : Nat) (kf72j8 : Ty5 → Rz) (kf72j9 : Ty3 → Rz) (kf72j10 : Ty1 → Rz) (kf72l1 : Ty1 → Rz) (kf72j11 : (List Int) × (List Int) → Rz) : Ty4 → Rz := fun (t0,t4,t11,t15,x5,x6) => (cond (((decide (0 ≤ (IntKind.i64.wrap ((4 : Int) * t4)))) && (decide ((IntKind.i64.wrap ((4 : Int) * t4)) ≤ (IntKind.i64.wrap ((IntKind.i64.wrap ((4 : Int) * t4)) + (4 : Int)))))) && (decide ((IntKind.i64.wrap ((IntKind.i64.wrap ((4 : Int) * t4)) + (4 : Int))) ≤ (↑t0.length : Int)))) (kf72j8 (t0,t4,t11,((t0.drop (Int.toNat (IntKind.i64.wrap ((4 : Int) * t4)))).take ((Int.toNat (IntKind.i64.wrap ((IntKind.i64.wrap ((4 : Int) * t4)) + (4 : Int)))) - (Int.toNat (IntKind.i64.wrap ((4 : Int) * t4))))),(↑((t0.drop (Int.toNat (IntKind.i64.wrap ((4 : Int) * t4)))).take ((Int.toNat (IntKind.i64.wrap ((IntKind.i64.wrap ((4 : Int) * t4)) + (4 : Int)))) - (Int.toNat (IntKind.i64.wrap ((4 : Int) * t4))))).length : Int),(0 : Int),x5,x6)) none)
theorem f72_8_eq (F : Nat) (Rf72j8 : St → Rz) (Rf72j9 : St → Rz) (Rf72j10 : St → Rz) (Rf72l1 : St → Rz) (Rf72j11 : St → Rz) : ∀ v,aexec VG0272 (Af72 F) (bp Tryd.f72 119592) (ef72j7 v) (kSeq (kc VG0272 Rf72j8 sp1) (kSeq (fun s => aexec VG0272 (Af72 F) (bp Tryd.f72 59797) s (kSeq (kc VG0272 Rf72j9 sp4) (kBlock 1 (kSeq (kc VG0272 Rf72j10 sp0) (kSeq (kc VG0272 Rf72l1 sp0) (kBlock 0 (kSeq (kc VG0272 Rf72j11 [(2,.plain),(3,.plain)]) (kFin VG0272 none (Tryd.f72).results.toList)))))))) (kSeq (kc VG0272 Rf72j9 sp4) (kBlock 1 (kSeq (kc VG0272 Rf72j10 sp0) (kSeq (kc VG0272 Rf72l1 sp0) (kBlock 0 (kSeq (kc VG0272 Rf72j11 [(2,.plain),(3,.plain)]) (kFin VG0272 none (Tryd.f72).results.toList))))))))) = f72_8 F (Rf72j8 ∘ ef72j8) (Rf72j9 ∘ ef72j9) (Rf72j10 ∘ ef72j10) (Rf72l1 ∘ ef72l1) (Rf72j11 ∘ ef72j11) v := by
  rintro ⟨t0,t4,t11,t15,x5,x6⟩; kernel_rfl
def f72_9 (F : Nat) (kf72l2 : Ty5 → Rz) (kf72j9 : Ty3 → Rz) (kf72j10 : Ty1 → Rz) (kf72l1 : Ty1 → Rz) (kf72j11 : (List Int) × (List Int) → Rz) : Ty5 → Rz := fun (t0,t4,t11,t22,t23,t24,x7,x8) => (cond (decide (t24 < t23)) (cond ((decide (0 ≤ t24)) && (decide (t24 < (↑t22.length : Int)))) (cond ((decide (0 ≤ t4)) && (decide (t4 < (64 : Int)))) (cond ((decide (0 ≤ t4)) && (decide (t4 < (64 : Int)))) (kf72l2 (t0,t4,t11,t22,t23,(IntKind.i64.wrap (t24 + (1 : Int))),x7,(x8.set (Int.toNat t4) (ibits .or .u32 (IntKind.u32.wrap ((x8.getD (Int.toNat t4) 0) * 2 ^ 8)) (IntKind.u32.wrap (t22.getD (Int.toNat t24) 0)))))) none) none) none) (kf72j10 (t0,t11,x7,x8)))
theorem f72_9_eq (F : Nat) (Rf72l2 : St → Rz) (Rf72j9 : St → Rz) (Rf72j10 : St → Rz) (Rf72l1 : St → Rz) (Rf72j11 : St → Rz) : ∀ v,aexec VG0272 (Af72 F) (bp Tryd.f72 478372) (ef72l2 v) (kSeq (kc VG0272 Rf72l2 sp1) (kBlock 2 (kSeq (fun s => aexec VG0272 (Af72 F) (bp Tryd.f72 59797) s (kSeq (kc VG0272 Rf72j9 sp4) (kBlock 1 (kSeq (kc VG0272 Rf72j10 sp0) (kSeq (kc VG0272 Rf72l1 sp0) (kBlock 0 (kSeq (kc VG0272 Rf72j11 [(2,.plain),(3,.plain)]) (kFin VG0272 none (Tryd.f72).results.toList)))))))) (kSeq (kc VG0272 Rf72j9 sp4) (kBlock 1 (kSeq (kc VG0272 Rf72j10 sp0) (kSeq (kc VG0272 Rf72l1 sp0) (kBlock 0 (kSeq (kc VG0272 Rf72j11 [(2,.plain),(3,.plain)]) (kFin VG0272 none (Tryd.f72).results.toList)))))))))) = f72_9 F (Rf72l2 ∘ ef72l2) (Rf72j9 ∘ ef72j9) (Rf72j10 ∘ ef72j10) (Rf72l1 ∘ ef72l1) (Rf72j11 ∘ ef72j11) v := by
  rintro ⟨t0,t4,t11,t22,t23,t24,x7,x8⟩; kernel_rfl
def f72_10_i : Ty5 → (List Int) × Int × Int × (List Int) × Int × Int × (List Int) × (List Int) := fun (t0,t4,t11,t22,t23,t24,x7,x8) => (t0,t4,t11,t22,t23,t24,x7,x8)
def f72_10 (F : Nat) (kf72j9 : Ty3 → Rz) (kf72j10 : Ty1 → Rz) (kf72l1 : Ty1 → Rz) (kf72j11 : (List Int) × (List Int) → Rz) : Ty5 → Rz := fun v => loopN (fun k => f72_9 F k kf72j9 kf72j10 kf72l1 kf72j11) F (f72_10_i v)
theorem f72_10_eq (F : Nat) (Rf72j9 : St → Rz) (Rf72j10 : St → Rz) (Rf72l1 : St → Rz) (Rf72j11 : St → Rz) : ∀ v,aexec VG0272 (Af72 F) (bp Tryd.f72 239186) (ef72j8 v) (kBlock 2 (kSeq (fun s => aexec VG0272 (Af72 F) (bp Tryd.f72 59797) s (kSeq (kc VG0272 Rf72j9 sp4) (kBlock 1 (kSeq (kc VG0272 Rf72j10 sp0) (kSeq (kc VG0272 Rf72l1 sp0) (kBlock 0 (kSeq (kc VG0272 Rf72j11 [(2,.plain),(3,.plain)]) (kFin VG0272 none (Tryd.f72).results.toList)))))))) (kSeq (kc VG0272 Rf72j9 sp4) (kBlock 1 (kSeq (kc VG0272 Rf72j10 sp0) (kSeq (kc VG0272 Rf72l1 sp0) (kBlock 0 (kSeq (kc VG0272 Rf72j11 [(2,.plain),(3,.plain)]) (kFin VG0272 none (Tryd.f72).results.toList))))))))) = f72_10 F (Rf72j9 ∘ ef72j9) (Rf72j10 ∘ ef72j10) (Rf72l1 ∘ ef72l1) (Rf72j11 ∘ ef72j11) v :=
  loop_cut (by kernel_rfl) (by kernel_rfl) ef72j8 ef72l2 _ f72_10_i (fun k => f72_9 F k (Rf72j9 ∘ ef72j9) (Rf72j10 ∘ ef72j10) (Rf72l1 ∘ ef72l1) (Rf72j11 ∘ ef72j11))
    (by rintro ⟨t0,t4,t11,t22,t23,t24,x7,x8⟩; kernel_rfl) (fun Rf72l2 => f72_9_eq F Rf72l2 Rf72j9 Rf72j10 Rf72l1 Rf72j11)
def f72_11 (F : Nat) (kf72j9 : Ty3 → Rz) (kf72j10 : Ty1 → Rz) (kf72l1 : Ty1 → Rz) (kf72j11 : (List Int) × (List Int) → Rz) : Ty5 → Rz := f72_10 F kf72j9 kf72j10 kf72l1 kf72j11
theorem f72_11_eq (F : Nat) (Rf72j9 : St → Rz) (Rf72j10 : St → Rz) (Rf72l1 : St → Rz) (Rf72j11 : St → Rz) : ∀ v,aexec VG0272 (Af72 F) (bp Tryd.f72 119593) (ef72j8 v) (kSeq (fun s => aexec VG0272 (Af72 F) (bp Tryd.f72 59797) s (kSeq (kc VG0272 Rf72j9 sp4) (kBlock 1 (kSeq (kc VG0272 Rf72j10 sp0) (kSeq (kc VG0272 Rf72l1 sp0) (kBlock 0 (kSeq (kc VG0272 Rf72j11 [(2,.plain),(3,.plain)]) (kFin VG0272 none (Tryd.f72).results.toList)))))))) (kSeq (kc VG0272 Rf72j9 sp4) (kBlock 1 (kSeq (kc VG0272 Rf72j10 sp0) (kSeq (kc VG0272 Rf72l1 sp0) (kBlock 0 (kSeq (kc VG0272 Rf72j11 [(2,.plain),(3,.plain)]) (kFin VG0272 none (Tryd.f72).results.toList)))))))) = f72_11 F (Rf72j9 ∘ ef72j9) (Rf72j10 ∘ ef72j10) (Rf72l1 ∘ ef72l1) (Rf72j11 ∘ ef72j11) v := fun v =>
  (block_in  (by kernel_rfl) _ _).trans (f72_10_eq F Rf72j9 Rf72j10 Rf72l1 Rf72j11 v)
def f72_12 (F : Nat) (kf72j9 : Ty3 → Rz) (kf72j10 : Ty1 → Rz) (kf72l1 : Ty1 → Rz) (kf72j11 : (List Int) × (List Int) → Rz) : Ty4 → Rz := fun v => f72_8 F (f72_11 F kf72j9 kf72j10 kf72l1 kf72j11) kf72j9 kf72j10 kf72l1 kf72j11 v
theorem f72_12_eq (F : Nat) (Rf72j9 : St → Rz) (Rf72j10 : St → Rz) (Rf72l1 : St → Rz) (Rf72j11 : St → Rz) : ∀ v,aexec VG0272 (Af72 F) (bp Tryd.f72 59796) (ef72j7 v) (kSeq (fun s => aexec VG0272 (Af72 F) (bp Tryd.f72 59797) s (kSeq (kc VG0272 Rf72j9 sp4) (kBlock 1 (kSeq (kc VG0272 Rf72j10 sp0) (kSeq (kc VG0272 Rf72l1 sp0) (kBlock 0 (kSeq (kc VG0272 Rf72j11 [(2,.plain),(3,.plain)]) (kFin VG0272 none (Tryd.f72).results.toList)))))))) (kSeq (kc VG0272 Rf72j9 sp4) (kBlock 1 (kSeq (kc VG0272 Rf72j10 sp0) (kSeq (kc VG0272 Rf72l1 sp0) (kBlock 0 (kSeq (kc VG0272 Rf72j11 [(2,.plain),(3,.plain)]) (kFin VG0272 none (Tryd.f72).results.toList)))))))) = f72_12 F (Rf72j9 ∘ ef72j9) (Rf72j10 ∘ ef72j10) (Rf72l1 ∘ ef72l1) (Rf72j11 ∘ ef72j11) v :=
  seq_cut (by kernel_rfl) (by kernel_rfl) ef72j7 ef72j8 _ (fun k => f72_8 F k (Rf72j9 ∘ ef72j9) (Rf72j10 ∘ ef72j10) (Rf72l1 ∘ ef72l1) (Rf72j11 ∘ ef72j11)) (f72_11 F (Rf72j9 ∘ ef72j9) (Rf72j10 ∘ ef72j10) (Rf72l1 ∘ ef72l1) (Rf72j11 ∘ ef72j11))
    (fun Rf72j8 => f72_8_eq F Rf72j8 Rf72j9 Rf72j10 Rf72l1 Rf72j11) (f72_11_eq F Rf72j9 Rf72j10 Rf72l1 Rf72j11)
def f72_13 (F : Nat) (kf72j9 : Ty3 → Rz) (kf72j10 : Ty1 → Rz) (kf72l1 : Ty1 → Rz) (kf72j11 : (List Int) × (List Int) → Rz) : Ty4 → Rz := f72_12 F kf72j9 kf72j10 kf72l1 kf72j11
theorem f72_13_eq (F : Nat) (Rf72j9 : St → Rz) (Rf72j10 : St → Rz) (Rf72l1 : St → Rz) (Rf72j11 : St → Rz) : ∀ v,aexec VG0272 (Af72 F) (bp Tryd.f72 29898) (ef72j7 v) (kSeq (kc VG0272 Rf72j9 sp4) (kBlock 1 (kSeq (kc VG0272 Rf72j10 sp0) (kSeq (kc VG0272 Rf72l1 sp0) (kBlock 0 (kSeq (kc VG0272 Rf72j11 [(2,.plain),(3,.plain)]) (kFin VG0272 none (Tryd.f72).results.toList))))))) = f72_13 F (Rf72j9 ∘ ef72j9) (Rf72j10 ∘ ef72j10) (Rf72l1 ∘ ef72l1) (Rf72j11 ∘ ef72j11) v := fun v =>
  (seq_in  (by kernel_rfl) (by kernel_rfl) _ _).trans (f72_12_eq F Rf72j9 Rf72j10 Rf72l1 Rf72j11 v)
def f72_14 (F : Nat) (kf72j9 : Ty3 → Rz) (kf72j10 : Ty1 → Rz) (kf72l1 : Ty1 → Rz) (kf72j11 : (List Int) × (List Int) → Rz) : Ty4 → Rz := fun (t0,t4,t11,t15,x5,x6) => (kf72j9 (t0,t4,t11,x5,x6))
theorem f72_14_eq (F : Nat) (Rf72j9 : St → Rz) (Rf72j10 : St → Rz) (Rf72l1 : St → Rz) (Rf72j11 : St → Rz) : ∀ v,aexec VG0272 (Af72 F) (bp Tryd.f72 29899) (ef72j7 v) (kSeq (kc VG0272 Rf72j9 sp4) (kBlock 1 (kSeq (kc VG0272 Rf72j10 sp0) (kSeq (kc VG0272 Rf72l1 sp0) (kBlock 0 (kSeq (kc VG0272 Rf72j11 [(2,.plain),(3,.plain)]) (kFin VG0272 none (Tryd.f72).results.toList))))))) = f72_14 F (Rf72j9 ∘ ef72j9) (Rf72j10 ∘ ef72j10) (Rf72l1 ∘ ef72l1) (Rf72j11 ∘ ef72j11) v := by
  rintro ⟨t0,t4,t11,t15,x5,x6⟩; kernel_rfl
def f72_15 (F : Nat) (kf72j9 : Ty3 → Rz) (kf72j10 : Ty1 → Rz) (kf72l1 : Ty1 → Rz) (kf72j11 : (List Int) × (List Int) → Rz) : Ty4 → Rz := fun v => cond ((fun (t0,t4,t11,t15,x5,x6) => t15) v) (f72_13 F kf72j9 kf72j10 kf72l1 kf72j11 v) (f72_14 F kf72j9 kf72j10 kf72l1 kf72j11 v)
theorem f72_15_eq (F : Nat) (Rf72j9 : St → Rz) (Rf72j10 : St → Rz) (Rf72l1 : St → Rz) (Rf72j11 : St → Rz) : ∀ v,aexec VG0272 (Af72 F) (bp Tryd.f72 14949) (ef72j7 v) (kSeq (kc VG0272 Rf72j9 sp4) (kBlock 1 (kSeq (kc VG0272 Rf72j10 sp0) (kSeq (kc VG0272 Rf72l1 sp0) (kBlock 0 (kSeq (kc VG0272 Rf72j11 [(2,.plain),(3,.plain)]) (kFin VG0272 none (Tryd.f72).results.toList))))))) = f72_15 F (Rf72j9 ∘ ef72j9) (Rf72j10 ∘ ef72j10) (Rf72l1 ∘ ef72l1) (Rf72j11 ∘ ef72j11) v :=
  cond_in (o := .tmp 15) (by kernel_rfl) ef72j7 _ (fun (t0,t4,t11,t15,x5,x6) => t15) (by rintro ⟨t0,t4,t11,t15,x5,x6⟩; kernel_rfl) _ _ (f72_13_eq F Rf72j9 Rf72j10 Rf72l1 Rf72j11) (f72_14_eq F Rf72j9 Rf72j10 Rf72l1 Rf72j11)
def f72_16 (F : Nat) (kf72j9 : Ty3 → Rz) (kf72j10 : Ty1 → Rz) (kf72l1 : Ty1 → Rz) (kf72j11 : (List Int) × (List Int) → Rz) : Ty3 → Rz := fun v => f72_7 F (f72_15 F kf72j9 kf72j10 kf72l1 kf72j11) kf72j9 kf72j10 kf72l1 kf72j11 v
theorem f72_16_eq (F : Nat) (Rf72j9 : St → Rz) (Rf72j10 : St → Rz) (Rf72l1 : St → Rz) (Rf72j11 : St → Rz) : ∀ v,aexec VG0272 (Af72 F) (bp Tryd.f72 7474) (ef72j6 v) (kSeq (kc VG0272 Rf72j9 sp4) (kBlock 1 (kSeq (kc VG0272 Rf72j10 sp0) (kSeq (kc VG0272 Rf72l1 sp0) (kBlock 0 (kSeq (kc VG0272 Rf72j11 [(2,.plain),(3,.plain)]) (kFin VG0272 none (Tryd.f72).results.toList))))))) = f72_16 F (Rf72j9 ∘ ef72j9) (Rf72j10 ∘ ef72j10) (Rf72l1 ∘ ef72l1) (Rf72j11 ∘ ef72j11) v :=
  seq_cut (by kernel_rfl) (by kernel_rfl) ef72j6 ef72j7 _ (fun k => f72_7 F k (Rf72j9 ∘ ef72j9) (Rf72j10 ∘ ef72j10) (Rf72l1 ∘ ef72l1) (Rf72j11 ∘ ef72j11)) (f72_15 F (Rf72j9 ∘ ef72j9) (Rf72j10 ∘ ef72j10) (Rf72l1 ∘ ef72l1) (Rf72j11 ∘ ef72j11))
    (fun Rf72j7 => f72_7_eq F Rf72j7 Rf72j9 Rf72j10 Rf72l1 Rf72j11) (f72_15_eq F Rf72j9 Rf72j10 Rf72l1 Rf72j11)
def f72_17 (F : Nat) (kf72j10 : Ty1 → Rz) (kf72l1 : Ty1 → Rz) (kf72j11 : (List Int) × (List Int) → Rz) : Ty3 → Rz := fun (t0,t4,t11,x4,x5) => (cond ((decide (0 ≤ (IntKind.i64.wrap (t4 - (15 : Int))))) && (decide ((IntKind.i64.wrap (t4 - (15 : Int))) < (64 : Int)))) (cond ((decide (0 ≤ (IntKind.i64.wrap (t4 - (2 : Int))))) && (decide ((IntKind.i64.wrap (t4 - (2 : Int))) < (64 : Int)))) (cond ((decide (0 ≤ (IntKind.i64.wrap (t4 - (16 : Int))))) && (decide ((IntKind.i64.wrap (t4 - (16 : Int))) < (64 : Int)))) (cond ((decide (0 ≤ (IntKind.i64.wrap (t4 - (7 : Int))))) && (decide ((IntKind.i64.wrap (t4 - (7 : Int))) < (64 : Int)))) (cond ((decide (0 ≤ t4)) && (decide (t4 < (64 : Int)))) (kf72j10 (t0,t11,x4,(x5.set (Int.toNat t4) (IntKind.u32.wrap ((IntKind.u32.wrap ((IntKind.u32.wrap ((x5.getD (Int.toNat (IntKind.i64.wrap (t4 - (16 : Int)))) 0) + (ibits .xor .u32 (ibits .xor .u32 (Sha.rotl (x5.getD (Int.toNat (IntKind.i64.wrap (t4 - (15 : Int)))) 0) (-7 : Int)) (Sha.rotl (x5.getD (Int.toNat (IntKind.i64.wrap (t4 - (15 : Int)))) 0) (-18 : Int))) (Int.fdiv (x5.getD (Int.toNat (IntKind.i64.wrap (t4 - (15 : Int)))) 0) (2 ^ 3))))) + (x5.getD (Int.toNat (IntKind.i64.wrap (t4 - (7 : Int)))) 0))) + (ibits .xor .u32 (ibits .xor .u32 (Sha.rotl (x5.getD (Int.toNat (IntKind.i64.wrap (t4 - (2 : Int)))) 0) (-17 : Int)) (Sha.rotl (x5.getD (Int.toNat (IntKind.i64.wrap (t4 - (2 : Int)))) 0) (-19 : Int))) (Int.fdiv (x5.getD (Int.toNat (IntKind.i64.wrap (t4 - (2 : Int)))) 0) (2 ^ 10)))))))) none) none) none) none) none)
theorem f72_17_eq (F : Nat) (Rf72j10 : St → Rz) (Rf72l1 : St → Rz) (Rf72j11 : St → Rz) : ∀ v,aexec VG0272 (Af72 F) (bp Tryd.f72 7475) (ef72j9 v) (kBlock 1 (kSeq (kc VG0272 Rf72j10 sp0) (kSeq (kc VG0272 Rf72l1 sp0) (kBlock 0 (kSeq (kc VG0272 Rf72j11 [(2,.plain),(3,.plain)]) (kFin VG0272 none (Tryd.f72).results.toList)))))) = f72_17 F (Rf72j10 ∘ ef72j10) (Rf72l1 ∘ ef72l1) (Rf72j11 ∘ ef72j11) v := by
  rintro ⟨t0,t4,t11,x4,x5⟩; kernel_rfl
def f72_18 (F : Nat) (kf72j10 : Ty1 → Rz) (kf72l1 : Ty1 → Rz) (kf72j11 : (List Int) × (List Int) → Rz) : Ty3 → Rz := fun v => f72_16 F (f72_17 F kf72j10 kf72l1 kf72j11) kf72j10 kf72l1 kf72j11 v
theorem f72_18_eq (F : Nat) (Rf72j10 : St → Rz) (Rf72l1 : St → Rz) (Rf72j11 : St → Rz) : ∀ v,aexec VG0272 (Af72 F) (bp Tryd.f72 3737) (ef72j6 v) (kBlock 1 (kSeq (kc VG0272 Rf72j10 sp0) (kSeq (kc VG0272 Rf72l1 sp0) (kBlock 0 (kSeq (kc VG0272 Rf72j11 [(2,.plain),(3,.plain)]) (kFin VG0272 none (Tryd.f72).results.toList)))))) = f72_18 F (Rf72j10 ∘ ef72j10) (Rf72l1 ∘ ef72l1) (Rf72j11 ∘ ef72j11) v :=
  seq_cut (by kernel_rfl) (by kernel_rfl) ef72j6 ef72j9 _ (fun k => f72_16 F k (Rf72j10 ∘ ef72j10) (Rf72l1 ∘ ef72l1) (Rf72j11 ∘ ef72j11)) (f72_17 F (Rf72j10 ∘ ef72j10) (Rf72l1 ∘ ef72l1) (Rf72j11 ∘ ef72j11))
    (fun Rf72j9 => f72_16_eq F Rf72j9 Rf72j10 Rf72l1 Rf72j11) (f72_17_eq F Rf72j10 Rf72l1 Rf72j11)
def f72_19 (F : Nat) (kf72j10 : Ty1 → Rz) (kf72l1 : Ty1 → Rz) (kf72j11 : (List Int) × (List Int) → Rz) : Ty1 → Rz := fun v => f72_6 F (f72_18 F kf72j10 kf72l1 kf72j11) kf72j10 kf72l1 kf72j11 v
theorem f72_19_eq (F : Nat) (Rf72j10 : St → Rz) (Rf72l1 : St → Rz) (Rf72j11 : St → Rz) : ∀ v,aexec VG0272 (Af72 F) (bp Tryd.f72 1868) (ef72j5 v) (kBlock 1 (kSeq (kc VG0272 Rf72j10 sp0) (kSeq (kc VG0272 Rf72l1 sp0) (kBlock 0 (kSeq (kc VG0272 Rf72j11 [(2,.plain),(3,.plain)]) (kFin VG0272 none (Tryd.f72).results.toList)))))) = f72_19 F (Rf72j10 ∘ ef72j10) (Rf72l1 ∘ ef72l1) (Rf72j11 ∘ ef72j11) v :=
  seq_cut (by kernel_rfl) (by kernel_rfl) ef72j5 ef72j6 _ (fun k => f72_6 F k (Rf72j10 ∘ ef72j10) (Rf72l1 ∘ ef72l1) (Rf72j11 ∘ ef72j11)) (f72_18 F (Rf72j10 ∘ ef72j10) (Rf72l1 ∘ ef72l1) (Rf72j11 ∘ ef72j11))
    (fun Rf72j6 => f72_6_eq F Rf72j6 Rf72j10 Rf72l1 Rf72j11) (f72_18_eq F Rf72j10 Rf72l1 Rf72j11)
def f72_20 (F : Nat) (kf72j10 : Ty1 → Rz) (kf72l1 : Ty1 → Rz) (kf72j11 : (List Int) × (List Int) → Rz) : Ty1 → Rz := f72_19 F kf72j10 kf72l1 kf72j11
theorem f72_20_eq (F : Nat) (Rf72j10 : St → Rz) (Rf72l1 : St → Rz) (Rf72j11 : St → Rz) : ∀ v,aexec VG0272 (Af72 F) (bp Tryd.f72 934) (ef72j5 v) (kSeq (kc VG0272 Rf72j10 sp0) (kSeq (kc VG0272 Rf72l1 sp0) (kBlock 0 (kSeq (kc VG0272 Rf72j11 [(2,.plain),(3,.plain)]) (kFin VG0272 none (Tryd.f72).results.toList))))) = f72_20 F (Rf72j10 ∘ ef72j10) (Rf72l1 ∘ ef72l1) (Rf72j11 ∘ ef72j11) v := fun v =>
  (block_in  (by kernel_rfl) _ _).trans (f72_19_eq F Rf72j10 Rf72l1 Rf72j11 v)
def f72_21 (F : Nat) (kf72l1 : Ty1 → Rz) (kf72j11 : (List Int) × (List Int) → Rz) : Ty1 → Rz := fun (t0,t11,x3,x4) => (kf72l1 (t0,(IntKind.i64.wrap (t11 + (1 : Int))),x3,x4))
theorem f72_21_eq (F : Nat) (Rf72l1 : St → Rz) (Rf72j11 : St → Rz) : ∀ v,aexec VG0272 (Af72 F) (bp Tryd.f72 935) (ef72j10 v) (kSeq (kc VG0272 Rf72l1 sp0) (kBlock 0 (kSeq (kc VG0272 Rf72j11 [(2,.plain),(3,.plain)]) (kFin VG0272 none (Tryd.f72).results.toList)))) = f72_21 F (Rf72l1 ∘ ef72l1) (Rf72j11 ∘ ef72j11) v := by
  rintro ⟨t0,t11,x3,x4⟩; kernel_rfl
def f72_22 (F : Nat) (kf72l1 : Ty1 → Rz) (kf72j11 : (List Int) × (List Int) → Rz) : Ty1 → Rz := fun v => f72_20 F (f72_21 F kf72l1 kf72j11) kf72l1 kf72j11 v
theorem f72_22_eq (F : Nat) (Rf72l1 : St → Rz) (Rf72j11 : St → Rz) : ∀ v,aexec VG0272 (Af72 F) (bp Tryd.f72 467) (ef72j5 v) (kSeq (kc VG0272 Rf72l1 sp0) (kBlock 0 (kSeq (kc VG0272 Rf72j11 [(2,.plain),(3,.plain)]) (kFin VG0272 none (Tryd.f72).results.toList)))) = f72_22 F (Rf72l1 ∘ ef72l1) (Rf72j11 ∘ ef72j11) v :=
  seq_cut (by kernel_rfl) (by kernel_rfl) ef72j5 ef72j10 _ (fun k => f72_20 F k (Rf72l1 ∘ ef72l1) (Rf72j11 ∘ ef72j11)) (f72_21 F (Rf72l1 ∘ ef72l1) (Rf72j11 ∘ ef72j11))
    (fun Rf72j10 => f72_20_eq F Rf72j10 Rf72l1 Rf72j11) (f72_21_eq F Rf72l1 Rf72j11)
def f72_23 (F : Nat) (kf72l1 : Ty1 → Rz) (kf72j11 : (List Int) × (List Int) → Rz) : Ty2 → Rz := fun v => f72_5 F (f72_22 F kf72l1 kf72j11) kf72l1 kf72j11 v
theorem f72_23_eq (F : Nat) (Rf72l1 : St → Rz) (Rf72j11 : St → Rz) : ∀ v,aexec VG0272 (Af72 F) (bp Tryd.f72 233) (ef72j4 v) (kSeq (kc VG0272 Rf72l1 sp0) (kBlock 0 (kSeq (kc VG0272 Rf72j11 [(2,.plain),(3,.plain)]) (kFin VG0272 none (Tryd.f72).results.toList)))) = f72_23 F (Rf72l1 ∘ ef72l1) (Rf72j11 ∘ ef72j11) v :=
  seq_cut (by kernel_rfl) (by kernel_rfl) ef72j4 ef72j5 _ (fun k => f72_5 F k (Rf72l1 ∘ ef72l1) (Rf72j11 ∘ ef72j11)) (f72_22 F (Rf72l1 ∘ ef72l1) (Rf72j11 ∘ ef72j11))
    (fun Rf72j5 => f72_5_eq F Rf72j5 Rf72l1 Rf72j11) (f72_22_eq F Rf72l1 Rf72j11)
def f72_24 (F : Nat) (kf72l1 : Ty1 → Rz) (kf72j11 : (List Int) × (List Int) → Rz) : Ty1 → Rz := fun v => f72_4 F (f72_23 F kf72l1 kf72j11) kf72l1 kf72j11 v
theorem f72_24_eq (F : Nat) (Rf72l1 : St → Rz) (Rf72j11 : St → Rz) : ∀ v,aexec VG0272 (Af72 F) (bp Tryd.f72 116) (ef72l1 v) (kSeq (kc VG0272 Rf72l1 sp0) (kBlock 0 (kSeq (kc VG0272 Rf72j11 [(2,.plain),(3,.plain)]) (kFin VG0272 none (Tryd.f72).results.toList)))) = f72_24 F (Rf72l1 ∘ ef72l1) (Rf72j11 ∘ ef72j11) v :=
  seq_cut (by kernel_rfl) (by kernel_rfl) ef72l1 ef72j4 _ (fun k => f72_4 F k (Rf72l1 ∘ ef72l1) (Rf72j11 ∘ ef72j11)) (f72_23 F (Rf72l1 ∘ ef72l1) (Rf72j11 ∘ ef72j11))
    (fun Rf72j4 => f72_4_eq F Rf72j4 Rf72l1 Rf72j11) (f72_23_eq F Rf72l1 Rf72j11)
def f72_25_i : Ty1 → (List Int) × Int × (List Int) × (List Int) := fun (t0,t11,x3,x4) => (t0,t11,x3,x4)
def f72_25 (F : Nat) (kf72j11 : (List Int) × (List Int) → Rz) : Ty1 → Rz := fun v => loopN (fun k => f72_24 F k kf72j11) F (f72_25_i v)
theorem f72_25_eq (F : Nat) (Rf72j11 : St → Rz) : ∀ v,aexec VG0272 (Af72 F) (bp Tryd.f72 58) (ef72j3 v) (kBlock 0 (kSeq (kc VG0272 Rf72j11 [(2,.plain),(3,.plain)]) (kFin VG0272 none (Tryd.f72).results.toList))) = f72_25 F (Rf72j11 ∘ ef72j11) v :=
  loop_cut (by kernel_rfl) (by kernel_rfl) ef72j3 ef72l1 _ f72_25_i (fun k => f72_24 F k (Rf72j11 ∘ ef72j11))
    (by rintro ⟨t0,t11,x3,x4⟩; kernel_rfl) (fun Rf72l1 => f72_24_eq F Rf72l1 Rf72j11)
def f72_26 (F : Nat) (kf72j11 : (List Int) × (List Int) → Rz) : Ty1 → Rz := f72_25 F kf72j11
theorem f72_26_eq (F : Nat) (Rf72j11 : St → Rz) : ∀ v,aexec VG0272 (Af72 F) (bp Tryd.f72 29) (ef72j3 v) (kSeq (kc VG0272 Rf72j11 [(2,.plain),(3,.plain)]) (kFin VG0272 none (Tryd.f72).results.toList)) = f72_26 F (Rf72j11 ∘ ef72j11) v := fun v =>
  (block_in  (by kernel_rfl) _ _).trans (f72_25_eq F Rf72j11 v)
def f72_27 (F : Nat) (kf72j11 : (List Int) × (List Int) → Rz) : Ty0 → Rz := fun v => f72_3 F (f72_26 F kf72j11) kf72j11 v
theorem f72_27_eq (F : Nat) (Rf72j11 : St → Rz) : ∀ v,aexec VG0272 (Af72 F) (bp Tryd.f72 14) (ef72j2 v) (kSeq (kc VG0272 Rf72j11 [(2,.plain),(3,.plain)]) (kFin VG0272 none (Tryd.f72).results.toList)) = f72_27 F (Rf72j11 ∘ ef72j11) v :=
  seq_cut (by kernel_rfl) (by kernel_rfl) ef72j2 ef72j3 _ (fun k => f72_3 F k (Rf72j11 ∘ ef72j11)) (f72_26 F (Rf72j11 ∘ ef72j11))
    (fun Rf72j3 => f72_3_eq F Rf72j3 Rf72j11) (f72_26_eq F Rf72j11)
def f72_28 (F : Nat) : (List Int) × (List Int) → Rz := fun (x1,x2) => (some ((.agg 64 (.rI .u32 x2)),[]))
theorem f72_28_eq (F : Nat) : ∀ v,aexec VG0272 (Af72 F) (bp Tryd.f72 15) (ef72j11 v) (kFin VG0272 none (Tryd.f72).results.toList) = f72_28 F v := by
  rintro ⟨x1,x2⟩; kernel_rfl
def f72_29 (F : Nat) : Ty0 → Rz := fun v => f72_27 F (f72_28 F) v
theorem f72_29_eq (F : Nat) : ∀ v,aexec VG0272 (Af72 F) (bp Tryd.f72 7) (ef72j2 v) (kFin VG0272 none (Tryd.f72).results.toList) = f72_29 F v :=
  seq_cut (by kernel_rfl) (by kernel_rfl) ef72j2 ef72j11 _ (fun k => f72_27 F k) (f72_28 F)
    (fun Rf72j11 => f72_27_eq F Rf72j11) (f72_28_eq F)
def f72_30 (F : Nat) : (List Int) × (List Int) → Rz := fun v => f72_2 F (f72_29 F) v
theorem f72_30_eq (F : Nat) : ∀ v,aexec VG0272 (Af72 F) (bp Tryd.f72 3) (ef72j1 v) (kFin VG0272 none (Tryd.f72).results.toList) = f72_30 F v :=
  seq_cut (by kernel_rfl) (by kernel_rfl) ef72j1 ef72j2 _ (fun k => f72_2 F k) (f72_29 F)
    (fun Rf72j2 => f72_2_eq F Rf72j2) (f72_29_eq F)
def f72_31 (F : Nat) : (List Int) → Rz := fun v => f72_1 F (f72_30 F) v
theorem f72_31_eq (F : Nat) : ∀ v,aexec VG0272 (Af72 F) (sub (bodyOf Tryd.f72) []) (ef72_a v) (kFin VG0272 none (Tryd.f72).results.toList) = f72_31 F v :=
  seq_cut (by kernel_rfl) (by kernel_rfl) ef72_a ef72j1 _ (fun k => f72_1 F k) (f72_30 F)
    (fun Rf72j1 => f72_1_eq F Rf72j1) (f72_30_eq F)
def f72 (F : Nat) : (List Int) → Rz := f72_31 F
theorem f72_body (F : Nat) (a0 : List Int) : abody VG0272 (Af72 F) Tryd.f72 [(.vs (.rI .u8 a0) 0 1)] [] = f72 F a0 :=
  (abody_in (c := (sub (bodyOf Tryd.f72) [])) (by kernel_rfl) (s := ef72_a a0) (by kernel_rfl)).trans (f72_31_eq F a0)
def r72 : CRun := fun X H => match X,H with
  | [(.vs (.rI .u8 a0) 0 1)],[] => some ((decide (a0.length = 64)),(.agg 64 (.rI .u32 (Sha.sched a0 64))),[])
  | _,_ => none
theorem sched_len (b : List Int) : ∀ t,(Sha.sched b t).length = t
  | 0 => rfl
  | t + 1 => by simp [Sha.sched,sched_len b t]
theorem sched_get (b : List Int) (t i : Nat) (z : List Int) (h : i < t) : (Sha.sched b t ++ z).getD i 0 = (Sha.sched b t).getD i 0 := by
  simp [List.getD_eq_getElem?_getD,List.getElem?_append,sched_len,h]
theorem sched_set (b : List Int) (t : Nat) (v : Int) (h : t < 64) (hv : Sha.sched b (t + 1) = Sha.sched b t ++ [v]) : (Sha.sched b t ++ List.replicate (64 - t) 0).set t v = Sha.sched b (t + 1) ++ List.replicate (64 - (t + 1)) 0 := by
  rw [hv,show 64 - t = (64 - (t + 1)) + 1 by omega,List.replicate_succ,List.set_append_right _ _ (by rw [sched_len]; exact Nat.le_refl _),sched_len,Nat.sub_self]
  simp
theorem or_bytes (a b : Int) (ha : 0 ≤ a) (ha2 : a < 16777216) (hb : 0 ≤ b) (hb2 : b ≤ 255) : ibits .or .u32 (IntKind.u32.wrap (a * 2 ^ 8)) (IntKind.u32.wrap b) = a * 256 + b := by
  obtain ⟨x,rfl⟩ := Int.eq_ofNat_of_zero_le ha
  obtain ⟨y,rfl⟩ := Int.eq_ofNat_of_zero_le hb
  rw [u32w (by omega) (by omega),u32w (by omega) (by omega)]
  simp only [ibits,BitVec.toNat_or,BitVec.toNat_ofInt]
  have e1 : ((x : Int) * 2 ^ 8 % ((2 ^ IntKind.u32.bits : Nat) : Int)).toNat = x <<< 8 := by
    rw [Nat.shiftLeft_eq]; simp only [IntKind.bits]; omega
  have e2 : ((y : Int) % ((2 ^ IntKind.u32.bits : Nat) : Int)).toNat = y := by simp only [IntKind.bits]; omega
  rw [e1,e2,← Nat.shiftLeft_add_eq_or_of_lt (show y < 2 ^ 8 by omega),Nat.shiftLeft_eq,u32w (by omega) (by omega)]
  omega
theorem s72 (a0 : List Int) (hp : ((decide (a0.length = 64))) = true) (h0 : okV (.vs (.rI .u8 a0) 0 1)) : ∃ F,f72 F a0 = some ((.agg 64 (.rI .u32 (Sha.sched a0 64))),[]) := by
  have hl : a0.length = 64 := of_decide_eq_true hp
  have hb : ∀ i,0 ≤ a0.getD i 0 ∧ a0.getD i 0 ≤ 255 := fun i => by
    by_cases hi : i < a0.length
    · rw [List.getD_eq_getElem?_getD,List.getElem?_eq_getElem hi]
      exact has_u8 (h0.1 _ (List.getElem_mem hi))
    · rw [List.getD_eq_getElem?_getD,List.getElem?_eq_none (by omega)]; simp
  refine ⟨65,?_⟩
  simp only [f72,f72_31,f72_1,f72_30,f72_2,f72_29,f72_27,f72_3,f72_26,f72_25,f72_25_i]
  refine loopN_from (fun i => (a0,(i : Int),List.replicate 64 0,Sha.sched a0 i ++ List.replicate (64 - i) 0)) 64 (by rfl) (fun i hi k => ?_) (fun k => ?_) 65 (by omega)
  · simp only [f72_24,f72_4,f72_23,f72_5,f72_22,f72_20,f72_21,f72_19,f72_6,f72_18,f72_16,f72_17,f72_7,f72_15]
    rw [cond_pos (show (i : Int) < 64 by omega)]
    by_cases h16 : i < 16
    · rw [cond_pos (show (i : Int) < 16 by omega)]
      simp only [f72_13,f72_12,f72_8,f72_11,f72_10,f72_10_i]
      rw [i64w (x := 4 * (i : Int)) (by omega) (by omega),i64w (x := 4 * (i : Int) + 4) (by omega) (by omega),dec_and,dec_and,cond_pos (by omega)]
      have hL : List.take ((4 * (i : Int) + 4).toNat - (4 * (i : Int)).toNat) (List.drop (4 * (i : Int)).toNat a0) = [a0.getD (4 * i) 0,a0.getD (4 * i + 1) 0,a0.getD (4 * i + 2) 0,a0.getD (4 * i + 3) 0] := by
        rw [show (4 * (i : Int) + 4).toNat - (4 * (i : Int)).toNat = 4 by omega,show (4 * (i : Int)).toNat = 4 * i by omega]
        apply List.ext_getElem
        · simp; omega
        · intro j h1 h2
          simp only [List.length_cons,List.length_nil] at h2
          rw [List.getElem_take,List.getElem_drop]
          have hj : j = 0 ∨ j = 1 ∨ j = 2 ∨ j = 3 := by omega
          rcases hj with rfl | rfl | rfl | rfl <;> simp [List.getD_eq_getElem?_getD,List.getElem?_eq_getElem (show 4 * i < a0.length by omega),List.getElem?_eq_getElem (show 4 * i + 1 < a0.length by omega),List.getElem?_eq_getElem (show 4 * i + 2 < a0.length by omega),List.getElem?_eq_getElem (show 4 * i + 3 < a0.length by omega)]
      rw [hL]
      have b0 := hb (4 * i)
      have b1 := hb (4 * i + 1)
      have b2 := hb (4 * i + 2)
      have b3 := hb (4 * i + 3)
      have hnext : Sha.sched a0 (i + 1) = Sha.sched a0 i ++ [Sha.word (a0.getD (4 * i) 0) (a0.getD (4 * i + 1) 0) (a0.getD (4 * i + 2) 0) (a0.getD (4 * i + 3) 0)] := by simp [Sha.sched,h16]
      generalize a0.getD (4 * i) 0 = c0 at *
      generalize a0.getD (4 * i + 1) 0 = c1 at *
      generalize a0.getD (4 * i + 2) 0 = c2 at *
      generalize a0.getD (4 * i + 3) 0 = c3 at *
      have hset : ∀ v : Int,((Sha.sched a0 i ++ List.replicate (64 - i) 0).set i v).getD i 0 = v := fun v => by
        rw [List.getD_eq_getElem?_getD,List.getElem?_set_self (by simp [sched_len]; omega)]; rfl
      have hset0 : Sha.sched a0 i ++ List.replicate (64 - i) 0 = (Sha.sched a0 i ++ List.replicate (64 - i) 0).set i 0 := by
        rw [show 64 - i = (64 - (i + 1)) + 1 by omega,List.replicate_succ,List.set_append_right _ _ (by rw [sched_len]; exact Nat.le_refl _),sched_len,Nat.sub_self]; rfl
      refine loopN_from (fun j => (a0,(i : Int),(i : Int),[c0,c1,c2,c3],4,(j : Int),List.replicate 64 0,(Sha.sched a0 i ++ List.replicate (64 - i) 0).set i (match j with | 0 => 0 | 1 => c0 | 2 => c0 * 256 + c1 | 3 => (c0 * 256 + c1) * 256 + c2 | _ => ((c0 * 256 + c1) * 256 + c2) * 256 + c3))) 4 (by simp only []; rw [← hset0]; rfl) (fun j hj k' => ?_) (fun k' => ?_) 65 (by omega)
      · simp only [f72_9]
        rw [i64w (x := (j : Int) + 1) (by omega) (by omega),dec_and,dec_and,cond_pos (show (j : Int) < 4 by omega),cond_pos (by simp only [List.length_cons,List.length_nil]; omega),cond_pos (by omega),cond_pos (by omega)]
        simp only [Int.toNat_natCast,hset,List.set_set]
        have hj' : j = 0 ∨ j = 1 ∨ j = 2 ∨ j = 3 := by omega
        rcases hj' with rfl | rfl | rfl | rfl
        · simp only [List.getD_cons_zero]; rw [or_bytes 0 c0 (by omega) (by omega) b0.1 b0.2]; simp
        · simp only [List.getD_cons_succ,List.getD_cons_zero]; rw [or_bytes c0 c1 (by omega) (by omega) b1.1 b1.2]; rfl
        · simp only [List.getD_cons_succ,List.getD_cons_zero]; rw [or_bytes _ c2 (by omega) (by omega) b2.1 b2.2]; rfl
        · simp only [List.getD_cons_succ,List.getD_cons_zero]; rw [or_bytes _ c3 (by omega) (by omega) b3.1 b3.2]; rfl
      · simp only [f72_9,f72_21]
        rw [cond_neg (by omega),i64w (x := (i : Int) + 1) (by omega) (by omega),sched_set a0 i _ (by omega) (by rw [hnext]; simp only [Sha.word]; rw [show ((c0 * 256 + c1) * 256 + c2) * 256 + c3 = c0 * 16777216 + c1 * 65536 + c2 * 256 + c3 by omega])]
        rfl
    · rw [cond_neg (show ¬ (i : Int) < 16 by omega)]
      simp only [f72_14,f72_17]
      rw [i64w (x := (i : Int) - 15) (by omega) (by omega),i64w (x := (i : Int) - 2) (by omega) (by omega),i64w (x := (i : Int) - 16) (by omega) (by omega),i64w (x := (i : Int) - 7) (by omega) (by omega)]
      simp only [dec_and]
      rw [cond_pos (by omega),cond_pos (by omega),cond_pos (by omega),cond_pos (by omega),cond_pos (by omega)]
      simp only [f72_21,show ((i : Int) - 15).toNat = i - 15 by omega,show ((i : Int) - 2).toNat = i - 2 by omega,show ((i : Int) - 16).toNat = i - 16 by omega,show ((i : Int) - 7).toNat = i - 7 by omega,Int.toNat_natCast]
      rw [i64w (x := (i : Int) + 1) (by omega) (by omega),sched_get a0 i (i - 15) _ (by omega),sched_get a0 i (i - 2) _ (by omega),sched_get a0 i (i - 16) _ (by omega),sched_get a0 i (i - 7) _ (by omega)]
      rw [show (-7 : Int) = -((7 : Nat) : Int) from rfl,show (-18 : Int) = -((18 : Nat) : Int) from rfl,show (-17 : Int) = -((17 : Nat) : Int) from rfl,show (-19 : Int) = -((19 : Nat) : Int) from rfl]
      rw [Sha.rotl_neg _ 7 (by omega) (by omega),Sha.rotl_neg _ 18 (by omega) (by omega),Sha.rotl_neg _ 17 (by omega) (by omega),Sha.rotl_neg _ 19 (by omega) (by omega)]
      rw [sched_set a0 i _ (by omega) (by simp only [Sha.sched,if_neg h16]; rfl)]
      rfl
  · simp only [f72_24,f72_4,f72_23,f72_5,f72_28]
    rw [cond_neg (by omega),Nat.sub_self,List.replicate_zero,List.append_nil]
theorem c72 : CallOk Tryd.prog G02 72 r72 := callOk_of (V := VG0272) mixed tys eVG0272 (f := 72) (fn := Tryd.f72) Tryd.func72 (by kernel_rfl) (c := sub (bodyOf Tryd.f72) []) (by kernel_rfl) (by
  intro X H r H' h hX hH
  unfold r72 at h; split at h <;> try contradiction
  · simp only [Option.some.injEq,Prod.mk.injEq] at h
    obtain ⟨hp,rfl,rfl⟩ := h
    obtain ⟨F,hF⟩ := s72 _ hp (hX _ (.head _))
    exact ⟨Af72 F,(f72_body F _).trans hF⟩)
end Go.Am
