/- Part of a proof about the functions of the given program. -/
import Derived.Test.YtlenpjfgbbfmcaaDoorAmWire3
import Derived.Test.YtlenpjfgbbfmcaaDoorProg
set_option linter.unusedSimpArgs false
set_option linter.unusedVariables false
section
namespace Go.Am
open Go Go.Proofs
abbrev sp0 : List (Nat × Md) := [(0,.plain),(2,.plain),(3,.plain),(11,.plain)]
abbrev sp1 : List (Nat × Md) := [(0,.plain),(2,.plain),(3,.plain),(4,.plain),(11,.plain),(22,.plain),(23,.plain),(24,.plain)]
abbrev sp2 : List (Nat × Md) := [(0,.plain),(2,.plain),(3,.plain)]
abbrev sp3 : List (Nat × Md) := [(0,.plain),(2,.plain),(3,.plain),(11,.plain),(12,.plain)]
abbrev sp4 : List (Nat × Md) := [(0,.plain),(2,.plain),(3,.plain),(4,.plain),(11,.plain)]
abbrev sp5 : List (Nat × Md) := [(0,.plain),(2,.plain),(3,.plain),(4,.plain),(11,.plain),(15,.plain)]
abbrev Ty0 := Li × Li × Li
abbrev Ty1 := Li × Int × Li × Li
abbrev Ty2 := Li × Int × Bool × Li × Li
abbrev Ty3 := Li × Int × Int × Li × Li
abbrev Ty4 := Li × Int × Int × Bool × Li × Li
abbrev Ty5 := Li × Int × Int × Li × Int × Int × Li × Li
def T03 : Tys := [⟨.other,1,0⟩,⟨.func,1,8⟩,⟨.int .i64,1,8⟩,⟨.int .i64,1,8⟩,⟨.bool,1,1⟩,⟨.int .u8,1,1⟩,⟨.int .u8,1,1⟩,⟨.struct [(2,0),(3,1),(4,2),(6,3)],4,24⟩,⟨.struct [(2,0),(3,1),(4,2),(6,3)],4,24⟩,⟨.str,1,16⟩,⟨.str,1,16⟩,⟨.str,1,16⟩,⟨.int .u64,1,8⟩,⟨.other,0,0⟩,⟨.other,0,0⟩,⟨.ptr 110,1,8⟩,⟨.ptr 113,1,8⟩,⟨.ptr 121,1,8⟩,⟨.other,0,0⟩,⟨.other,0,0⟩,⟨.other,1,16⟩,⟨.int .i32,1,4⟩,⟨.arr 16 5,16,16⟩,⟨.arr 16 5,16,16⟩,⟨.func,1,8⟩,⟨.slice 3,1,24⟩,⟨.func,1,8⟩,⟨.func,1,8⟩,⟨.arr 2 3,2,16⟩,⟨.int .i64,1,8⟩,⟨.other,1,0⟩,⟨.func,1,8⟩,⟨.other,1,0⟩,⟨.func,1,8⟩,⟨.func,1,8⟩,⟨.func,1,8⟩,⟨.other,1,0⟩,⟨.func,1,8⟩,⟨.func,1,8⟩,⟨.func,1,8⟩,⟨.func,1,8⟩,⟨.func,1,8⟩,⟨.func,1,8⟩,⟨.arr 68 3,68,544⟩,⟨.func,1,8⟩,⟨.func,1,8⟩,⟨.func,1,8⟩,⟨.func,1,8⟩,⟨.slice 23,1,24⟩,⟨.slice 48,1,24⟩,⟨.func,1,8⟩,⟨.ptr 54,1,8⟩,⟨.slice 5,1,24⟩,⟨.struct [(51,0),(52,1)],2,32⟩,⟨.struct [(51,0),(52,1)],2,32⟩,⟨.other,1,16⟩,⟨.other,1,16⟩,⟨.other,1,0⟩,⟨.func,1,8⟩,⟨.func,1,8⟩,⟨.func,1,8⟩,⟨.func,1,8⟩,⟨.func,1,8⟩,⟨.func,1,8⟩,⟨.func,1,8⟩,⟨.func,1,8⟩,⟨.slice 9,1,24⟩,⟨.other,1,0⟩,⟨.func,1,8⟩,⟨.func,1,8⟩,⟨.func,1,8⟩,⟨.func,1,8⟩,⟨.func,1,8⟩,⟨.map 28 23,1,8⟩,⟨.other,1,0⟩,⟨.func,1,8⟩,⟨.int .u64,1,8⟩,⟨.func,1,8⟩,⟨.func,1,8⟩,⟨.ptr 5,1,8⟩,⟨.func,1,8⟩,⟨.int .u32,1,4⟩,⟨.arr 8 81,8,32⟩,⟨.arr 64 5,64,64⟩,⟨.struct [(82,0),(83,8),(76,72)],73,104⟩,⟨.struct [(82,0),(83,8),(76,72)],73,104⟩,⟨.func,1,8⟩,⟨.func,1,8⟩,⟨.func,1,8⟩,⟨.arr 32 5,32,32⟩,⟨.func,1,8⟩,⟨.func,1,8⟩,⟨.func,1,8⟩,⟨.int .u64,1,8⟩,⟨.func,1,8⟩,⟨.other,1,8⟩,⟨.func,1,8⟩,⟨.func,1,8⟩,⟨.func,1,8⟩,⟨.func,1,8⟩,⟨.func,1,8⟩,⟨.func,1,8⟩,⟨.func,1,8⟩,⟨.arr 64 81,64,256⟩,⟨.func,1,8⟩,⟨.func,1,8⟩,⟨.arr 4 81,4,16⟩,⟨.slice 81,1,24⟩,⟨.func,1,8⟩,⟨.other,0,0⟩,⟨.other,0,0⟩,⟨.arr 0 16,0,0⟩,⟨.other,0,0⟩,⟨.other,0,0⟩,⟨.func,1,8⟩,⟨.int .u8,1,1⟩,⟨.int .u8,1,1⟩,⟨.func,1,8⟩,⟨.int .i32,1,4⟩,⟨.int .i32,1,4⟩,⟨.other,0,0⟩,⟨.other,0,0⟩]
def G02 : Nat → Option AV := fun g => match g with | 1 => some (.rI .u32 Sha.K) | _ => none
def G03 : Nat → Option AV := fun g => match g with | 0 => some (.rI .u32 Sha.K) | 1 => some (.rI .u32 Sha.K) | _ => none
theorem gsub : ∀ g r,G02 g = some r → G03 g = some r := by
 intro g r h; unfold G02 at h; split at h
 ·exact h
 ·contradiction
theorem mixed : Tryd.prog.follows .mixedOrders = true := by kernel_rfl
theorem tys : TysOk Tryd.prog T03 := tysB_ok (by kernel_rfl)
def lVG0274 : List CEnt := []
def VG0274 : Env := mkEnv T03 G02 lVG0274
noncomputable abbrev Kf1 := kFin VG0274 none (Tryd.f74).results.toList
theorem eVG0274 : EOk Tryd.prog VG0274 := eok_mk (by exact trivial)
def Af74 (F : Nat) : Cuts := { F := F,at_ := fun _ => none,join := fun _ => none }
def ef74_a : Int × Int → St := fun (a0,a1) => ⟨[(0,.int .u32 a0),(1,.int .i64 a1)],[],0,17,0⟩
def f74_1 (F : Nat) : Int × Int → Rz := fun (a0,a1) => (cond (decide (0 ≤ (ibits .and .u64 (IntKind.u64.wrap a1) (31 : Int)))) (cond (decide (0 ≤ (IntKind.u64.wrap ((32 : Int) - (ibits .and .u64 (IntKind.u64.wrap a1) (31 : Int)))))) (some ((.int .u32 (ibits .or .u32 (IntKind.u32.wrap (a0 * 2 ^ (min (Int.toNat (ibits .and .u64 (IntKind.u64.wrap a1) (31 : Int))) 32))) (Int.fdiv a0 (2 ^ (min (Int.toNat (IntKind.u64.wrap ((32 : Int) - (ibits .and .u64 (IntKind.u64.wrap a1) (31 : Int))))) 32))))),[])) none) none)
theorem f74_1_eq (F : Nat) : ∀ v,aexec VG0274 (Af74 F) (sub (bodyOf Tryd.f74) []) (ef74_a v) Kf1 = f74_1 F v := by
 rintro ⟨a0,a1⟩; kernel_rfl
def f74 (F : Nat) : Int × Int → Rz := f74_1 F
theorem f74_body (F : Nat) (a0 : Int) (a1 : Int) : abody VG0274 (Af74 F) Tryd.f74 [(.int .u32 a0),.int .i64 a1] [] = f74 F (a0,a1) :=
 (abody_in (c := (sub (bodyOf Tryd.f74) [])) (by kernel_rfl) (s := ef74_a (a0,a1)) (by kernel_rfl)).trans (f74_1_eq F (a0,a1))
def r74 : CRun := fun X H => match X,H with
 | [(.int .u32 a0),.int .i64 a1],[] => some (true,(.int .u32 (Sha.rotl a0 a1)),[])
 | _,_ => none
theorem u64_nonneg (x : Int) : 0 ≤ IntKind.u64.wrap x := by rw [u64mod]; omega
theorem and64_nonneg (x y : Int) : 0 ≤ ibits .and .u64 x y := u64_nonneg _
theorem s74 (a0 : Int) (a1 : Int) (h0 : okV (.int .u32 a0)) (h1 : okV (.int .i64 a1)) : ∃ F,f74 F (a0,a1) = some ((.int .u32 (Sha.rotl a0 a1)),[]) := by
 refine ⟨0,?_⟩
 simp only [f74,f74_1]
 rw [cond_pos (and64_nonneg _ _),cond_pos (u64_nonneg _)]
 rfl
theorem c74 : CallOk Tryd.prog G02 74 r74 := callOk_of (V := VG0274) mixed tys eVG0274 (f := 74) (fn := Tryd.f74) Tryd.func74 (by kernel_rfl) (c := sub (bodyOf Tryd.f74) []) (by kernel_rfl) (by
 intro X H r H' h hX hH
 unfold r74 at h; split at h <;> try contradiction
 ·simp only [Option.some.injEq,Prod.mk.injEq] at h
  obtain ⟨hp,rfl,rfl⟩ := h
  obtain ⟨F,hF⟩ := s74 _ _ (hX _ (.head _)) (hX _ (.tail _ (.head _)))
  exact ⟨Af74 F,(f74_body F _ _).trans hF⟩)
def lVG0273 : List CEnt := [(74,[none,none],r74)]
def VG0273 : Env := mkEnv T03 G02 lVG0273
noncomputable abbrev Kf2 := kFin VG0273 none (Tryd.f73).results.toList
theorem eVG0273 : EOk Tryd.prog VG0273 := eok_mk (by exact ⟨c74,trivial⟩)
def Af73 (F : Nat) : Cuts := { F := F,at_ := fun _ => none,join := fun _ => none }
def ef73_a : Int × Int × Int × Int → St := fun (a0,a1,a2,a3) => ⟨[(0,.int .u32 a0),(1,.int .i64 a1),(2,.int .i64 a2),(3,.int .i64 a3)],[],0,23,0⟩
def f73_1 (F : Nat) : Int × Int × Int × Int → Rz := fun (a0,a1,a2,a3) => (some ((.int .u32 (ibits .xor .u32 (ibits .xor .u32 (Sha.rotl a0 (IntKind.i64.wrap (0 - a1))) (Sha.rotl a0 (IntKind.i64.wrap (0 - a2)))) (Sha.rotl a0 (IntKind.i64.wrap (0 - a3))))),[]))
theorem f73_1_eq (F : Nat) : ∀ v,aexec VG0273 (Af73 F) (sub (bodyOf Tryd.f73) []) (ef73_a v) Kf2 = f73_1 F v := by
 rintro ⟨a0,a1,a2,a3⟩; kernel_rfl
def f73 (F : Nat) : Int × Int × Int × Int → Rz := f73_1 F
theorem f73_body (F : Nat) (a0 : Int) (a1 : Int) (a2 : Int) (a3 : Int) : abody VG0273 (Af73 F) Tryd.f73 [(.int .u32 a0),.int .i64 a1,.int .i64 a2,.int .i64 a3] [] = f73 F (a0,a1,a2,a3) :=
 (abody_in (c := (sub (bodyOf Tryd.f73) [])) (by kernel_rfl) (s := ef73_a (a0,a1,a2,a3)) (by kernel_rfl)).trans (f73_1_eq F (a0,a1,a2,a3))
def r73 : CRun := fun X H => match X,H with
 | [(.int .u32 a0),.int .i64 a1,.int .i64 a2,.int .i64 a3],[] => some (true,(.int .u32 (Sha.mix a0 a1 a2 a3)),[])
 | _,_ => none
theorem s73 (a0 : Int) (a1 : Int) (a2 : Int) (a3 : Int) (h0 : okV (.int .u32 a0)) (h1 : okV (.int .i64 a1)) (h2 : okV (.int .i64 a2)) (h3 : okV (.int .i64 a3)) : ∃ F,f73 F (a0,a1,a2,a3) = some ((.int .u32 (Sha.mix a0 a1 a2 a3)),[]) :=
 ⟨0,rfl⟩
theorem c73 : CallOk Tryd.prog G02 73 r73 := callOk_of (V := VG0273) mixed tys eVG0273 (f := 73) (fn := Tryd.f73) Tryd.func73 (by kernel_rfl) (c := sub (bodyOf Tryd.f73) []) (by kernel_rfl) (by
 intro X H r H' h hX hH
 unfold r73 at h; split at h <;> try contradiction
 ·simp only [Option.some.injEq,Prod.mk.injEq] at h
  obtain ⟨hp,rfl,rfl⟩ := h
  obtain ⟨F,hF⟩ := s73 _ _ _ _ (hX _ (.head _)) (hX _ (.tail _ (.head _))) (hX _ (.tail _ (.tail _ (.head _)))) (hX _ (.tail _ (.tail _ (.tail _ (.head _)))))
  exact ⟨Af73 F,(f73_body F _ _ _ _).trans hF⟩)
def lVG0272 : List CEnt := [(74,[none,none],r74)]
def VG0272 : Env := mkEnv T03 G02 lVG0272
noncomputable abbrev Kf3 := kFin VG0272 none (Tryd.f72).results.toList
theorem eVG0272 : EOk Tryd.prog VG0272 := eok_mk (by exact ⟨c74,trivial⟩)
def Af72 (F : Nat) : Cuts := { F := F,at_ := fun n => match n with | 3041 => some sp0 | 7012 => some sp1 | _ => none,join := fun n => match n with | 1051 => some [(0,.plain),(2,.plain)] | 2049 => some sp2 | 3043 => some sp0 | 4035 => some sp0 | 4039 => some sp3 | 5030 => some sp4 | 6020 => some sp5 | 7014 => some sp1 | 11007 => some sp4 | 15001 => some sp0 | 16003 => some [(2,.plain),(3,.plain)] | _ => none }
noncomputable abbrev XAf72 (F : Nat) {α : Type} := @aexec α VG0272 (Af72 F)
def ef72_a : Li → St := fun a0 => ⟨[(0,(.vs (.rI .u8 a0) 0 1))],[],0,79,0⟩
def ef72j1 : Li × Li → St := fun (t0,x2) => ⟨[(0,(.vs (.rI .u8 t0) 0 1)),(2,.ptr 0 0 64 0 0 0 64)],[(0,(.cells 64 (.rI .u32 x2) true))],1,79,0⟩
def ef72j2 : Ty0 → St := fun (t0,x2,x3) => ⟨[(0,(.vs (.rI .u8 t0) 0 1)),(2,.ptr 0 0 64 0 0 0 64),(3,.ptr 1 0 64 0 0 0 64)],[(0,(.cells 64 (.rI .u32 x2) true)),(1,(.cells 64 (.rI .u32 x3) true))],2,79,0⟩
def ef72j3 : Ty1 → St := fun (t0,t11,x3,x4) => ⟨[(0,(.vs (.rI .u8 t0) 0 1)),(2,.ptr 0 0 64 0 0 0 64),(3,.ptr 1 0 64 0 0 0 64),(11,.int .i64 t11)],[(0,(.cells 64 (.rI .u32 x3) true)),(1,(.cells 64 (.rI .u32 x4) true))],2,79,0⟩
def ef72l1 : Ty1 → St := ef72j3
def ef72j4 : Ty2 → St := fun (t0,t11,t12,x4,x5) => ⟨[(0,(.vs (.rI .u8 t0) 0 1)),(2,.ptr 0 0 64 0 0 0 64),(3,.ptr 1 0 64 0 0 0 64),(11,.int .i64 t11),(12,.bool t12)],[(0,(.cells 64 (.rI .u32 x4) true)),(1,(.cells 64 (.rI .u32 x5) true))],2,79,0⟩
def ef72j5 : Ty1 → St := ef72j3
def ef72j6 : Ty3 → St := fun (t0,t4,t11,x4,x5) => ⟨[(0,(.vs (.rI .u8 t0) 0 1)),(2,.ptr 0 0 64 0 0 0 64),(3,.ptr 1 0 64 0 0 0 64),(4,.int .i64 t4),(11,.int .i64 t11)],[(0,(.cells 64 (.rI .u32 x4) true)),(1,(.cells 64 (.rI .u32 x5) true))],2,79,0⟩
def ef72j7 : Ty4 → St := fun (t0,t4,t11,t15,x5,x6) => ⟨[(0,(.vs (.rI .u8 t0) 0 1)),(2,.ptr 0 0 64 0 0 0 64),(3,.ptr 1 0 64 0 0 0 64),(4,.int .i64 t4),(11,.int .i64 t11),(15,.bool t15)],[(0,(.cells 64 (.rI .u32 x5) true)),(1,(.cells 64 (.rI .u32 x6) true))],2,79,0⟩
def ef72j8 : Ty5 → St := fun (t0,t4,t11,t22,t23,t24,x7,x8) => ⟨[(0,(.vs (.rI .u8 t0) 0 1)),(2,.ptr 0 0 64 0 0 0 64),(3,.ptr 1 0 64 0 0 0 64),(4,.int .i64 t4),(11,.int .i64 t11),(22,(.vs (.rI .u8 t22) 0 1)),(23,.int .i64 t23),(24,.int .i64 t24)],[(0,(.cells 64 (.rI .u32 x7) true)),(1,(.cells 64 (.rI .u32 x8) true))],2,79,0⟩
def ef72l2 : Ty5 → St := ef72j8
def ef72j9 : Ty3 → St := ef72j6
def ef72j10 : Ty1 → St := ef72j3
def ef72j11 : Li × Li → St := fun (x1,x2) => ⟨[(2,.ptr 0 0 64 0 0 0 64),(3,.ptr 1 0 64 0 0 0 64)],[(0,(.cells 64 (.rI .u32 x1) true)),(1,(.cells 64 (.rI .u32 x2) true))],2,79,0⟩
def f72_1 (F : Nat) (kf72j1 : Li × Li → Rz) : Li → Rz := fun a0 => (kf72j1 (a0,(List.replicate 64 0)))
theorem f72_1_eq (F : Nat) (Rf72j1 : St → Rz) : ∀ v,XAf72 F (bp Tryd.f72 2) (ef72_a v) (kSeq (kc VG0272 Rf72j1 [(0,.plain),(2,.plain)]) Kf3) = f72_1 F (Rf72j1 ∘ ef72j1) v := by
 intro a0; kernel_rfl
def f72_2 (F : Nat) (kf72j2 : Ty0 → Rz) : Li × Li → Rz := fun (t0,x2) => (kf72j2 (t0,x2,(List.replicate 64 0)))
theorem f72_2_eq (F : Nat) (Rf72j2 : St → Rz) : ∀ v,XAf72 F (bp Tryd.f72 6) (ef72j1 v) (kSeq (kc VG0272 Rf72j2 sp2) Kf3) = f72_2 F (Rf72j2 ∘ ef72j2) v := by
 rintro ⟨t0,x2⟩; kernel_rfl
def f72_3 (F : Nat) (kf72j3 : Ty1 → Rz) (kf72j11 : Li × Li → Rz) : Ty0 → Rz := fun (t0,x2,x3) => (kf72j3 (t0,(0 : Int),x2,x3))
theorem f72_3_eq (F : Nat) (Rf72j3 : St → Rz) (Rf72j11 : St → Rz) : ∀ v,XAf72 F (bp Tryd.f72 28) (ef72j2 v) (kSeq (kc VG0272 Rf72j3 sp0) (kSeq (kc VG0272 Rf72j11 [(2,.plain),(3,.plain)]) Kf3)) = f72_3 F (Rf72j3 ∘ ef72j3) (Rf72j11 ∘ ef72j11) v := by
 rintro ⟨t0,x2,x3⟩; kernel_rfl
def f72_4 (F : Nat) (kf72j4 : Ty2 → Rz) (kf72l1 : Ty1 → Rz) (kf72j11 : Li × Li → Rz) : Ty1 → Rz := fun (t0,t11,x3,x4) => (kf72j4 (t0,t11,(decide (t11 < (64 : Int))),x3,x4))
theorem f72_4_eq (F : Nat) (Rf72j4 : St → Rz) (Rf72l1 : St → Rz) (Rf72j11 : St → Rz) : ∀ v,XAf72 F (bp Tryd.f72 232) (ef72l1 v) (kSeq (kc VG0272 Rf72j4 sp3) (kSeq (kc VG0272 Rf72l1 sp0) (kBlock 0 (kSeq (kc VG0272 Rf72j11 [(2,.plain),(3,.plain)]) Kf3)))) = f72_4 F (Rf72j4 ∘ ef72j4) (Rf72l1 ∘ ef72l1) (Rf72j11 ∘ ef72j11) v := by
 rintro ⟨t0,t11,x3,x4⟩; kernel_rfl
def f72_5 (F : Nat) (kf72j5 : Ty1 → Rz) (kf72l1 : Ty1 → Rz) (kf72j11 : Li × Li → Rz) : Ty2 → Rz := fun (t0,t11,t12,x4,x5) => (cond t12 (kf72j5 (t0,t11,x4,x5)) (kf72j11 (x4,x5)))
theorem f72_5_eq (F : Nat) (Rf72j5 : St → Rz) (Rf72l1 : St → Rz) (Rf72j11 : St → Rz) : ∀ v,XAf72 F (bp Tryd.f72 466) (ef72j4 v) (kSeq (kc VG0272 Rf72j5 sp0) (kSeq (kc VG0272 Rf72l1 sp0) (kBlock 0 (kSeq (kc VG0272 Rf72j11 [(2,.plain),(3,.plain)]) Kf3)))) = f72_5 F (Rf72j5 ∘ ef72j5) (Rf72l1 ∘ ef72l1) (Rf72j11 ∘ ef72j11) v := by
 rintro ⟨t0,t11,t12,x4,x5⟩; kernel_rfl
def f72_6 (F : Nat) (kf72j6 : Ty3 → Rz) (kf72j10 : Ty1 → Rz) (kf72l1 : Ty1 → Rz) (kf72j11 : Li × Li → Rz) : Ty1 → Rz := fun (t0,t11,x3,x4) => (kf72j6 (t0,t11,t11,x3,x4))
theorem f72_6_eq (F : Nat) (Rf72j6 : St → Rz) (Rf72j10 : St → Rz) (Rf72l1 : St → Rz) (Rf72j11 : St → Rz) : ∀ v,XAf72 F (bp Tryd.f72 3736) (ef72j5 v) (kSeq (kc VG0272 Rf72j6 sp4) (kBlock 1 (kSeq (kc VG0272 Rf72j10 sp0) (kSeq (kc VG0272 Rf72l1 sp0) (kBlock 0 (kSeq (kc VG0272 Rf72j11 [(2,.plain),(3,.plain)]) Kf3)))))) = f72_6 F (Rf72j6 ∘ ef72j6) (Rf72j10 ∘ ef72j10) (Rf72l1 ∘ ef72l1) (Rf72j11 ∘ ef72j11) v := by
 rintro ⟨t0,t11,x3,x4⟩; kernel_rfl
def f72_7 (F : Nat) (kf72j7 : Ty4 → Rz) (kf72j9 : Ty3 → Rz) (kf72j10 : Ty1 → Rz) (kf72l1 : Ty1 → Rz) (kf72j11 : Li × Li → Rz) : Ty3 → Rz := fun (t0,t4,t11,x4,x5) => (kf72j7 (t0,t4,t11,(decide (t4 < (16 : Int))),x4,x5))
theorem f72_7_eq (F : Nat) (Rf72j7 : St → Rz) (Rf72j9 : St → Rz) (Rf72j10 : St → Rz) (Rf72l1 : St → Rz) (Rf72j11 : St → Rz) : ∀ v,XAf72 F (bp Tryd.f72 14948) (ef72j6 v) (kSeq (kc VG0272 Rf72j7 sp5) (kSeq (kc VG0272 Rf72j9 sp4) (kBlock 1 (kSeq (kc VG0272 Rf72j10 sp0) (kSeq (kc VG0272 Rf72l1 sp0) (kBlock 0 (kSeq (kc VG0272 Rf72j11 [(2,.plain),(3,.plain)]) Kf3))))))) = f72_7 F (Rf72j7 ∘ ef72j7) (Rf72j9 ∘ ef72j9) (Rf72j10 ∘ ef72j10) (Rf72l1 ∘ ef72l1) (Rf72j11 ∘ ef72j11) v := by
 rintro ⟨t0,t4,t11,x4,x5⟩; kernel_rfl
def f72_8 (F : Nat) (kf72j8 : Ty5 → Rz) (kf72j9 : Ty3 → Rz) (kf72j10 : Ty1 → Rz) (kf72l1 : Ty1 → Rz) (kf72j11 : Li × Li → Rz) : Ty4 → Rz := fun (t0,t4,t11,t15,x5,x6) => (cond (((decide (0 ≤ (IntKind.i64.wrap ((4 : Int) * t4)))) && (decide ((IntKind.i64.wrap ((4 : Int) * t4)) ≤ (IntKind.i64.wrap ((IntKind.i64.wrap ((4 : Int) * t4)) + (4 : Int)))))) && (decide ((IntKind.i64.wrap ((IntKind.i64.wrap ((4 : Int) * t4)) + (4 : Int))) ≤ (↑t0.length : Int)))) (kf72j8 (t0,t4,t11,((t0.drop (Int.toNat (IntKind.i64.wrap ((4 : Int) * t4)))).take ((Int.toNat (IntKind.i64.wrap ((IntKind.i64.wrap ((4 : Int) * t4)) + (4 : Int)))) - (Int.toNat (IntKind.i64.wrap ((4 : Int) * t4))))),(↑((t0.drop (Int.toNat (IntKind.i64.wrap ((4 : Int) * t4)))).take ((Int.toNat (IntKind.i64.wrap ((IntKind.i64.wrap ((4 : Int) * t4)) + (4 : Int)))) - (Int.toNat (IntKind.i64.wrap ((4 : Int) * t4))))).length : Int),(0 : Int),x5,x6)) none)
theorem f72_8_eq (F : Nat) (Rf72j8 : St → Rz) (Rf72j9 : St → Rz) (Rf72j10 : St → Rz) (Rf72l1 : St → Rz) (Rf72j11 : St → Rz) : ∀ v,XAf72 F (bp Tryd.f72 119592) (ef72j7 v) (kSeq (kc VG0272 Rf72j8 sp1) (kSeq (fun s => XAf72 F (bp Tryd.f72 59797) s (kSeq (kc VG0272 Rf72j9 sp4) (kBlock 1 (kSeq (kc VG0272 Rf72j10 sp0) (kSeq (kc VG0272 Rf72l1 sp0) (kBlock 0 (kSeq (kc VG0272 Rf72j11 [(2,.plain),(3,.plain)]) Kf3))))))) (kSeq (kc VG0272 Rf72j9 sp4) (kBlock 1 (kSeq (kc VG0272 Rf72j10 sp0) (kSeq (kc VG0272 Rf72l1 sp0) (kBlock 0 (kSeq (kc VG0272 Rf72j11 [(2,.plain),(3,.plain)]) Kf3)))))))) = f72_8 F (Rf72j8 ∘ ef72j8) (Rf72j9 ∘ ef72j9) (Rf72j10 ∘ ef72j10) (Rf72l1 ∘ ef72l1) (Rf72j11 ∘ ef72j11) v := by
 rintro ⟨t0,t4,t11,t15,x5,x6⟩; kernel_rfl
def f72_9 (F : Nat) (kf72l2 : Ty5 → Rz) (kf72j9 : Ty3 → Rz) (kf72j10 : Ty1 → Rz) (kf72l1 : Ty1 → Rz) (kf72j11 : Li × Li → Rz) : Ty5 → Rz := fun (t0,t4,t11,t22,t23,t24,x7,x8) => (cond (decide (t24 < t23)) (cond ((decide (0 ≤ t24)) && (decide (t24 < (↑t22.length : Int)))) (cond ((decide (0 ≤ t4)) && (decide (t4 < (64 : Int)))) (cond ((decide (0 ≤ t4)) && (decide (t4 < (64 : Int)))) (kf72l2 (t0,t4,t11,t22,t23,(IntKind.i64.wrap (t24 + (1 : Int))),x7,(x8.set (Int.toNat t4) (ibits .or .u32 (IntKind.u32.wrap ((x8.getD (Int.toNat t4) 0) * 2 ^ 8)) (IntKind.u32.wrap (t22.getD (Int.toNat t24) 0)))))) none) none) none) (kf72j10 (t0,t11,x7,x8)))
theorem f72_9_eq (F : Nat) (Rf72l2 : St → Rz) (Rf72j9 : St → Rz) (Rf72j10 : St → Rz) (Rf72l1 : St → Rz) (Rf72j11 : St → Rz) : ∀ v,XAf72 F (bp Tryd.f72 478372) (ef72l2 v) (kSeq (kc VG0272 Rf72l2 sp1) (kBlock 2 (kSeq (fun s => XAf72 F (bp Tryd.f72 59797) s (kSeq (kc VG0272 Rf72j9 sp4) (kBlock 1 (kSeq (kc VG0272 Rf72j10 sp0) (kSeq (kc VG0272 Rf72l1 sp0) (kBlock 0 (kSeq (kc VG0272 Rf72j11 [(2,.plain),(3,.plain)]) Kf3))))))) (kSeq (kc VG0272 Rf72j9 sp4) (kBlock 1 (kSeq (kc VG0272 Rf72j10 sp0) (kSeq (kc VG0272 Rf72l1 sp0) (kBlock 0 (kSeq (kc VG0272 Rf72j11 [(2,.plain),(3,.plain)]) Kf3))))))))) = f72_9 F (Rf72l2 ∘ ef72l2) (Rf72j9 ∘ ef72j9) (Rf72j10 ∘ ef72j10) (Rf72l1 ∘ ef72l1) (Rf72j11 ∘ ef72j11) v := by
 rintro ⟨t0,t4,t11,t22,t23,t24,x7,x8⟩; kernel_rfl
def f72_10_i : Ty5 → Li × Int × Int × Li × Int × Int × Li × Li := fun (t0,t4,t11,t22,t23,t24,x7,x8) => (t0,t4,t11,t22,t23,t24,x7,x8)
def f72_10 (F : Nat) (kf72j9 : Ty3 → Rz) (kf72j10 : Ty1 → Rz) (kf72l1 : Ty1 → Rz) (kf72j11 : Li × Li → Rz) : Ty5 → Rz := fun v => loopN (fun k => f72_9 F k kf72j9 kf72j10 kf72l1 kf72j11) F (f72_10_i v)
theorem f72_10_eq (F : Nat) (Rf72j9 : St → Rz) (Rf72j10 : St → Rz) (Rf72l1 : St → Rz) (Rf72j11 : St → Rz) : ∀ v,XAf72 F (bp Tryd.f72 239186) (ef72j8 v) (kBlock 2 (kSeq (fun s => XAf72 F (bp Tryd.f72 59797) s (kSeq (kc VG0272 Rf72j9 sp4) (kBlock 1 (kSeq (kc VG0272 Rf72j10 sp0) (kSeq (kc VG0272 Rf72l1 sp0) (kBlock 0 (kSeq (kc VG0272 Rf72j11 [(2,.plain),(3,.plain)]) Kf3))))))) (kSeq (kc VG0272 Rf72j9 sp4) (kBlock 1 (kSeq (kc VG0272 Rf72j10 sp0) (kSeq (kc VG0272 Rf72l1 sp0) (kBlock 0 (kSeq (kc VG0272 Rf72j11 [(2,.plain),(3,.plain)]) Kf3)))))))) = f72_10 F (Rf72j9 ∘ ef72j9) (Rf72j10 ∘ ef72j10) (Rf72l1 ∘ ef72l1) (Rf72j11 ∘ ef72j11) v :=
 loop_cut (by kernel_rfl) (by kernel_rfl) ef72j8 ef72l2 _ f72_10_i (fun k => f72_9 F k (Rf72j9 ∘ ef72j9) (Rf72j10 ∘ ef72j10) (Rf72l1 ∘ ef72l1) (Rf72j11 ∘ ef72j11))
  (by rintro ⟨t0,t4,t11,t22,t23,t24,x7,x8⟩; kernel_rfl) (fun Rf72l2 => f72_9_eq F Rf72l2 Rf72j9 Rf72j10 Rf72l1 Rf72j11)
def f72_11 (F : Nat) (kf72j9 : Ty3 → Rz) (kf72j10 : Ty1 → Rz) (kf72l1 : Ty1 → Rz) (kf72j11 : Li × Li → Rz) : Ty5 → Rz := f72_10 F kf72j9 kf72j10 kf72l1 kf72j11
theorem f72_11_eq (F : Nat) (Rf72j9 : St → Rz) (Rf72j10 : St → Rz) (Rf72l1 : St → Rz) (Rf72j11 : St → Rz) : ∀ v,XAf72 F (bp Tryd.f72 119593) (ef72j8 v) (kSeq (fun s => XAf72 F (bp Tryd.f72 59797) s (kSeq (kc VG0272 Rf72j9 sp4) (kBlock 1 (kSeq (kc VG0272 Rf72j10 sp0) (kSeq (kc VG0272 Rf72l1 sp0) (kBlock 0 (kSeq (kc VG0272 Rf72j11 [(2,.plain),(3,.plain)]) Kf3))))))) (kSeq (kc VG0272 Rf72j9 sp4) (kBlock 1 (kSeq (kc VG0272 Rf72j10 sp0) (kSeq (kc VG0272 Rf72l1 sp0) (kBlock 0 (kSeq (kc VG0272 Rf72j11 [(2,.plain),(3,.plain)]) Kf3))))))) = f72_11 F (Rf72j9 ∘ ef72j9) (Rf72j10 ∘ ef72j10) (Rf72l1 ∘ ef72l1) (Rf72j11 ∘ ef72j11) v := fun v =>
 (block_in  (by kernel_rfl) _ _).trans (f72_10_eq F Rf72j9 Rf72j10 Rf72l1 Rf72j11 v)
def f72_12 (F : Nat) (kf72j9 : Ty3 → Rz) (kf72j10 : Ty1 → Rz) (kf72l1 : Ty1 → Rz) (kf72j11 : Li × Li → Rz) : Ty4 → Rz := fun v => f72_8 F (f72_11 F kf72j9 kf72j10 kf72l1 kf72j11) kf72j9 kf72j10 kf72l1 kf72j11 v
theorem f72_12_eq (F : Nat) (Rf72j9 : St → Rz) (Rf72j10 : St → Rz) (Rf72l1 : St → Rz) (Rf72j11 : St → Rz) : ∀ v,XAf72 F (bp Tryd.f72 59796) (ef72j7 v) (kSeq (fun s => XAf72 F (bp Tryd.f72 59797) s (kSeq (kc VG0272 Rf72j9 sp4) (kBlock 1 (kSeq (kc VG0272 Rf72j10 sp0) (kSeq (kc VG0272 Rf72l1 sp0) (kBlock 0 (kSeq (kc VG0272 Rf72j11 [(2,.plain),(3,.plain)]) Kf3))))))) (kSeq (kc VG0272 Rf72j9 sp4) (kBlock 1 (kSeq (kc VG0272 Rf72j10 sp0) (kSeq (kc VG0272 Rf72l1 sp0) (kBlock 0 (kSeq (kc VG0272 Rf72j11 [(2,.plain),(3,.plain)]) Kf3))))))) = f72_12 F (Rf72j9 ∘ ef72j9) (Rf72j10 ∘ ef72j10) (Rf72l1 ∘ ef72l1) (Rf72j11 ∘ ef72j11) v :=
 seq_cut (by kernel_rfl) (by kernel_rfl) ef72j7 ef72j8 _ (fun k => f72_8 F k (Rf72j9 ∘ ef72j9) (Rf72j10 ∘ ef72j10) (Rf72l1 ∘ ef72l1) (Rf72j11 ∘ ef72j11)) (f72_11 F (Rf72j9 ∘ ef72j9) (Rf72j10 ∘ ef72j10) (Rf72l1 ∘ ef72l1) (Rf72j11 ∘ ef72j11))
  (fun Rf72j8 => f72_8_eq F Rf72j8 Rf72j9 Rf72j10 Rf72l1 Rf72j11) (f72_11_eq F Rf72j9 Rf72j10 Rf72l1 Rf72j11)
def f72_13 (F : Nat) (kf72j9 : Ty3 → Rz) (kf72j10 : Ty1 → Rz) (kf72l1 : Ty1 → Rz) (kf72j11 : Li × Li → Rz) : Ty4 → Rz := f72_12 F kf72j9 kf72j10 kf72l1 kf72j11
theorem f72_13_eq (F : Nat) (Rf72j9 : St → Rz) (Rf72j10 : St → Rz) (Rf72l1 : St → Rz) (Rf72j11 : St → Rz) : ∀ v,XAf72 F (bp Tryd.f72 29898) (ef72j7 v) (kSeq (kc VG0272 Rf72j9 sp4) (kBlock 1 (kSeq (kc VG0272 Rf72j10 sp0) (kSeq (kc VG0272 Rf72l1 sp0) (kBlock 0 (kSeq (kc VG0272 Rf72j11 [(2,.plain),(3,.plain)]) Kf3)))))) = f72_13 F (Rf72j9 ∘ ef72j9) (Rf72j10 ∘ ef72j10) (Rf72l1 ∘ ef72l1) (Rf72j11 ∘ ef72j11) v := fun v =>
 (seq_in  (by kernel_rfl) (by kernel_rfl) _ _).trans (f72_12_eq F Rf72j9 Rf72j10 Rf72l1 Rf72j11 v)
def f72_14 (F : Nat) (kf72j9 : Ty3 → Rz) (kf72j10 : Ty1 → Rz) (kf72l1 : Ty1 → Rz) (kf72j11 : Li × Li → Rz) : Ty4 → Rz := fun (t0,t4,t11,t15,x5,x6) => (kf72j9 (t0,t4,t11,x5,x6))
theorem f72_14_eq (F : Nat) (Rf72j9 : St → Rz) (Rf72j10 : St → Rz) (Rf72l1 : St → Rz) (Rf72j11 : St → Rz) : ∀ v,XAf72 F (bp Tryd.f72 29899) (ef72j7 v) (kSeq (kc VG0272 Rf72j9 sp4) (kBlock 1 (kSeq (kc VG0272 Rf72j10 sp0) (kSeq (kc VG0272 Rf72l1 sp0) (kBlock 0 (kSeq (kc VG0272 Rf72j11 [(2,.plain),(3,.plain)]) Kf3)))))) = f72_14 F (Rf72j9 ∘ ef72j9) (Rf72j10 ∘ ef72j10) (Rf72l1 ∘ ef72l1) (Rf72j11 ∘ ef72j11) v := by
 rintro ⟨t0,t4,t11,t15,x5,x6⟩; kernel_rfl
def f72_15 (F : Nat) (kf72j9 : Ty3 → Rz) (kf72j10 : Ty1 → Rz) (kf72l1 : Ty1 → Rz) (kf72j11 : Li × Li → Rz) : Ty4 → Rz := fun v => cond ((fun (t0,t4,t11,t15,x5,x6) => t15) v) (f72_13 F kf72j9 kf72j10 kf72l1 kf72j11 v) (f72_14 F kf72j9 kf72j10 kf72l1 kf72j11 v)
theorem f72_15_eq (F : Nat) (Rf72j9 : St → Rz) (Rf72j10 : St → Rz) (Rf72l1 : St → Rz) (Rf72j11 : St → Rz) : ∀ v,XAf72 F (bp Tryd.f72 14949) (ef72j7 v) (kSeq (kc VG0272 Rf72j9 sp4) (kBlock 1 (kSeq (kc VG0272 Rf72j10 sp0) (kSeq (kc VG0272 Rf72l1 sp0) (kBlock 0 (kSeq (kc VG0272 Rf72j11 [(2,.plain),(3,.plain)]) Kf3)))))) = f72_15 F (Rf72j9 ∘ ef72j9) (Rf72j10 ∘ ef72j10) (Rf72l1 ∘ ef72l1) (Rf72j11 ∘ ef72j11) v :=
 cond_in (o := .tmp 15) (by kernel_rfl) ef72j7 _ (fun (t0,t4,t11,t15,x5,x6) => t15) (by rintro ⟨t0,t4,t11,t15,x5,x6⟩; kernel_rfl) _ _ (f72_13_eq F Rf72j9 Rf72j10 Rf72l1 Rf72j11) (f72_14_eq F Rf72j9 Rf72j10 Rf72l1 Rf72j11)
def f72_16 (F : Nat) (kf72j9 : Ty3 → Rz) (kf72j10 : Ty1 → Rz) (kf72l1 : Ty1 → Rz) (kf72j11 : Li × Li → Rz) : Ty3 → Rz := fun v => f72_7 F (f72_15 F kf72j9 kf72j10 kf72l1 kf72j11) kf72j9 kf72j10 kf72l1 kf72j11 v
theorem f72_16_eq (F : Nat) (Rf72j9 : St → Rz) (Rf72j10 : St → Rz) (Rf72l1 : St → Rz) (Rf72j11 : St → Rz) : ∀ v,XAf72 F (bp Tryd.f72 7474) (ef72j6 v) (kSeq (kc VG0272 Rf72j9 sp4) (kBlock 1 (kSeq (kc VG0272 Rf72j10 sp0) (kSeq (kc VG0272 Rf72l1 sp0) (kBlock 0 (kSeq (kc VG0272 Rf72j11 [(2,.plain),(3,.plain)]) Kf3)))))) = f72_16 F (Rf72j9 ∘ ef72j9) (Rf72j10 ∘ ef72j10) (Rf72l1 ∘ ef72l1) (Rf72j11 ∘ ef72j11) v :=
 seq_cut (by kernel_rfl) (by kernel_rfl) ef72j6 ef72j7 _ (fun k => f72_7 F k (Rf72j9 ∘ ef72j9) (Rf72j10 ∘ ef72j10) (Rf72l1 ∘ ef72l1) (Rf72j11 ∘ ef72j11)) (f72_15 F (Rf72j9 ∘ ef72j9) (Rf72j10 ∘ ef72j10) (Rf72l1 ∘ ef72l1) (Rf72j11 ∘ ef72j11))
  (fun Rf72j7 => f72_7_eq F Rf72j7 Rf72j9 Rf72j10 Rf72l1 Rf72j11) (f72_15_eq F Rf72j9 Rf72j10 Rf72l1 Rf72j11)
def f72_17 (F : Nat) (kf72j10 : Ty1 → Rz) (kf72l1 : Ty1 → Rz) (kf72j11 : Li × Li → Rz) : Ty3 → Rz := fun (t0,t4,t11,x4,x5) => (cond ((decide (0 ≤ (IntKind.i64.wrap (t4 - (15 : Int))))) && (decide ((IntKind.i64.wrap (t4 - (15 : Int))) < (64 : Int)))) (cond ((decide (0 ≤ (IntKind.i64.wrap (t4 - (2 : Int))))) && (decide ((IntKind.i64.wrap (t4 - (2 : Int))) < (64 : Int)))) (cond ((decide (0 ≤ (IntKind.i64.wrap (t4 - (16 : Int))))) && (decide ((IntKind.i64.wrap (t4 - (16 : Int))) < (64 : Int)))) (cond ((decide (0 ≤ (IntKind.i64.wrap (t4 - (7 : Int))))) && (decide ((IntKind.i64.wrap (t4 - (7 : Int))) < (64 : Int)))) (cond ((decide (0 ≤ t4)) && (decide (t4 < (64 : Int)))) (kf72j10 (t0,t11,x4,(x5.set (Int.toNat t4) (IntKind.u32.wrap ((IntKind.u32.wrap ((IntKind.u32.wrap ((x5.getD (Int.toNat (IntKind.i64.wrap (t4 - (16 : Int)))) 0) + (ibits .xor .u32 (ibits .xor .u32 (Sha.rotl (x5.getD (Int.toNat (IntKind.i64.wrap (t4 - (15 : Int)))) 0) (-7 : Int)) (Sha.rotl (x5.getD (Int.toNat (IntKind.i64.wrap (t4 - (15 : Int)))) 0) (-18 : Int))) (Int.fdiv (x5.getD (Int.toNat (IntKind.i64.wrap (t4 - (15 : Int)))) 0) (2 ^ 3))))) + (x5.getD (Int.toNat (IntKind.i64.wrap (t4 - (7 : Int)))) 0))) + (ibits .xor .u32 (ibits .xor .u32 (Sha.rotl (x5.getD (Int.toNat (IntKind.i64.wrap (t4 - (2 : Int)))) 0) (-17 : Int)) (Sha.rotl (x5.getD (Int.toNat (IntKind.i64.wrap (t4 - (2 : Int)))) 0) (-19 : Int))) (Int.fdiv (x5.getD (Int.toNat (IntKind.i64.wrap (t4 - (2 : Int)))) 0) (2 ^ 10)))))))) none) none) none) none) none)
theorem f72_17_eq (F : Nat) (Rf72j10 : St → Rz) (Rf72l1 : St → Rz) (Rf72j11 : St → Rz) : ∀ v,XAf72 F (bp Tryd.f72 7475) (ef72j9 v) (kBlock 1 (kSeq (kc VG0272 Rf72j10 sp0) (kSeq (kc VG0272 Rf72l1 sp0) (kBlock 0 (kSeq (kc VG0272 Rf72j11 [(2,.plain),(3,.plain)]) Kf3))))) = f72_17 F (Rf72j10 ∘ ef72j10) (Rf72l1 ∘ ef72l1) (Rf72j11 ∘ ef72j11) v := by
 rintro ⟨t0,t4,t11,x4,x5⟩; kernel_rfl
def f72_18 (F : Nat) (kf72j10 : Ty1 → Rz) (kf72l1 : Ty1 → Rz) (kf72j11 : Li × Li → Rz) : Ty3 → Rz := fun v => f72_16 F (f72_17 F kf72j10 kf72l1 kf72j11) kf72j10 kf72l1 kf72j11 v
theorem f72_18_eq (F : Nat) (Rf72j10 : St → Rz) (Rf72l1 : St → Rz) (Rf72j11 : St → Rz) : ∀ v,XAf72 F (bp Tryd.f72 3737) (ef72j6 v) (kBlock 1 (kSeq (kc VG0272 Rf72j10 sp0) (kSeq (kc VG0272 Rf72l1 sp0) (kBlock 0 (kSeq (kc VG0272 Rf72j11 [(2,.plain),(3,.plain)]) Kf3))))) = f72_18 F (Rf72j10 ∘ ef72j10) (Rf72l1 ∘ ef72l1) (Rf72j11 ∘ ef72j11) v :=
 seq_cut (by kernel_rfl) (by kernel_rfl) ef72j6 ef72j9 _ (fun k => f72_16 F k (Rf72j10 ∘ ef72j10) (Rf72l1 ∘ ef72l1) (Rf72j11 ∘ ef72j11)) (f72_17 F (Rf72j10 ∘ ef72j10) (Rf72l1 ∘ ef72l1) (Rf72j11 ∘ ef72j11))
  (fun Rf72j9 => f72_16_eq F Rf72j9 Rf72j10 Rf72l1 Rf72j11) (f72_17_eq F Rf72j10 Rf72l1 Rf72j11)
def f72_19 (F : Nat) (kf72j10 : Ty1 → Rz) (kf72l1 : Ty1 → Rz) (kf72j11 : Li × Li → Rz) : Ty1 → Rz := fun v => f72_6 F (f72_18 F kf72j10 kf72l1 kf72j11) kf72j10 kf72l1 kf72j11 v
theorem f72_19_eq (F : Nat) (Rf72j10 : St → Rz) (Rf72l1 : St → Rz) (Rf72j11 : St → Rz) : ∀ v,XAf72 F (bp Tryd.f72 1868) (ef72j5 v) (kBlock 1 (kSeq (kc VG0272 Rf72j10 sp0) (kSeq (kc VG0272 Rf72l1 sp0) (kBlock 0 (kSeq (kc VG0272 Rf72j11 [(2,.plain),(3,.plain)]) Kf3))))) = f72_19 F (Rf72j10 ∘ ef72j10) (Rf72l1 ∘ ef72l1) (Rf72j11 ∘ ef72j11) v :=
 seq_cut (by kernel_rfl) (by kernel_rfl) ef72j5 ef72j6 _ (fun k => f72_6 F k (Rf72j10 ∘ ef72j10) (Rf72l1 ∘ ef72l1) (Rf72j11 ∘ ef72j11)) (f72_18 F (Rf72j10 ∘ ef72j10) (Rf72l1 ∘ ef72l1) (Rf72j11 ∘ ef72j11))
  (fun Rf72j6 => f72_6_eq F Rf72j6 Rf72j10 Rf72l1 Rf72j11) (f72_18_eq F Rf72j10 Rf72l1 Rf72j11)
def f72_20 (F : Nat) (kf72j10 : Ty1 → Rz) (kf72l1 : Ty1 → Rz) (kf72j11 : Li × Li → Rz) : Ty1 → Rz := f72_19 F kf72j10 kf72l1 kf72j11
theorem f72_20_eq (F : Nat) (Rf72j10 : St → Rz) (Rf72l1 : St → Rz) (Rf72j11 : St → Rz) : ∀ v,XAf72 F (bp Tryd.f72 934) (ef72j5 v) (kSeq (kc VG0272 Rf72j10 sp0) (kSeq (kc VG0272 Rf72l1 sp0) (kBlock 0 (kSeq (kc VG0272 Rf72j11 [(2,.plain),(3,.plain)]) Kf3)))) = f72_20 F (Rf72j10 ∘ ef72j10) (Rf72l1 ∘ ef72l1) (Rf72j11 ∘ ef72j11) v := fun v =>
 (block_in  (by kernel_rfl) _ _).trans (f72_19_eq F Rf72j10 Rf72l1 Rf72j11 v)
def f72_21 (F : Nat) (kf72l1 : Ty1 → Rz) (kf72j11 : Li × Li → Rz) : Ty1 → Rz := fun (t0,t11,x3,x4) => (kf72l1 (t0,(IntKind.i64.wrap (t11 + (1 : Int))),x3,x4))
theorem f72_21_eq (F : Nat) (Rf72l1 : St → Rz) (Rf72j11 : St → Rz) : ∀ v,XAf72 F (bp Tryd.f72 935) (ef72j10 v) (kSeq (kc VG0272 Rf72l1 sp0) (kBlock 0 (kSeq (kc VG0272 Rf72j11 [(2,.plain),(3,.plain)]) Kf3))) = f72_21 F (Rf72l1 ∘ ef72l1) (Rf72j11 ∘ ef72j11) v := by
 rintro ⟨t0,t11,x3,x4⟩; kernel_rfl
def f72_22 (F : Nat) (kf72l1 : Ty1 → Rz) (kf72j11 : Li × Li → Rz) : Ty1 → Rz := fun v => f72_20 F (f72_21 F kf72l1 kf72j11) kf72l1 kf72j11 v
theorem f72_22_eq (F : Nat) (Rf72l1 : St → Rz) (Rf72j11 : St → Rz) : ∀ v,XAf72 F (bp Tryd.f72 467) (ef72j5 v) (kSeq (kc VG0272 Rf72l1 sp0) (kBlock 0 (kSeq (kc VG0272 Rf72j11 [(2,.plain),(3,.plain)]) Kf3))) = f72_22 F (Rf72l1 ∘ ef72l1) (Rf72j11 ∘ ef72j11) v :=
 seq_cut (by kernel_rfl) (by kernel_rfl) ef72j5 ef72j10 _ (fun k => f72_20 F k (Rf72l1 ∘ ef72l1) (Rf72j11 ∘ ef72j11)) (f72_21 F (Rf72l1 ∘ ef72l1) (Rf72j11 ∘ ef72j11))
  (fun Rf72j10 => f72_20_eq F Rf72j10 Rf72l1 Rf72j11) (f72_21_eq F Rf72l1 Rf72j11)
def f72_23 (F : Nat) (kf72l1 : Ty1 → Rz) (kf72j11 : Li × Li → Rz) : Ty2 → Rz := fun v => f72_5 F (f72_22 F kf72l1 kf72j11) kf72l1 kf72j11 v
theorem f72_23_eq (F : Nat) (Rf72l1 : St → Rz) (Rf72j11 : St → Rz) : ∀ v,XAf72 F (bp Tryd.f72 233) (ef72j4 v) (kSeq (kc VG0272 Rf72l1 sp0) (kBlock 0 (kSeq (kc VG0272 Rf72j11 [(2,.plain),(3,.plain)]) Kf3))) = f72_23 F (Rf72l1 ∘ ef72l1) (Rf72j11 ∘ ef72j11) v :=
 seq_cut (by kernel_rfl) (by kernel_rfl) ef72j4 ef72j5 _ (fun k => f72_5 F k (Rf72l1 ∘ ef72l1) (Rf72j11 ∘ ef72j11)) (f72_22 F (Rf72l1 ∘ ef72l1) (Rf72j11 ∘ ef72j11))
  (fun Rf72j5 => f72_5_eq F Rf72j5 Rf72l1 Rf72j11) (f72_22_eq F Rf72l1 Rf72j11)
def f72_24 (F : Nat) (kf72l1 : Ty1 → Rz) (kf72j11 : Li × Li → Rz) : Ty1 → Rz := fun v => f72_4 F (f72_23 F kf72l1 kf72j11) kf72l1 kf72j11 v
theorem f72_24_eq (F : Nat) (Rf72l1 : St → Rz) (Rf72j11 : St → Rz) : ∀ v,XAf72 F (bp Tryd.f72 116) (ef72l1 v) (kSeq (kc VG0272 Rf72l1 sp0) (kBlock 0 (kSeq (kc VG0272 Rf72j11 [(2,.plain),(3,.plain)]) Kf3))) = f72_24 F (Rf72l1 ∘ ef72l1) (Rf72j11 ∘ ef72j11) v :=
 seq_cut (by kernel_rfl) (by kernel_rfl) ef72l1 ef72j4 _ (fun k => f72_4 F k (Rf72l1 ∘ ef72l1) (Rf72j11 ∘ ef72j11)) (f72_23 F (Rf72l1 ∘ ef72l1) (Rf72j11 ∘ ef72j11))
  (fun Rf72j4 => f72_4_eq F Rf72j4 Rf72l1 Rf72j11) (f72_23_eq F Rf72l1 Rf72j11)
def f72_25_i : Ty1 → Li × Int × Li × Li := fun (t0,t11,x3,x4) => (t0,t11,x3,x4)
def f72_25 (F : Nat) (kf72j11 : Li × Li → Rz) : Ty1 → Rz := fun v => loopN (fun k => f72_24 F k kf72j11) F (f72_25_i v)
theorem f72_25_eq (F : Nat) (Rf72j11 : St → Rz) : ∀ v,XAf72 F (bp Tryd.f72 58) (ef72j3 v) (kBlock 0 (kSeq (kc VG0272 Rf72j11 [(2,.plain),(3,.plain)]) Kf3)) = f72_25 F (Rf72j11 ∘ ef72j11) v :=
 loop_cut (by kernel_rfl) (by kernel_rfl) ef72j3 ef72l1 _ f72_25_i (fun k => f72_24 F k (Rf72j11 ∘ ef72j11))
  (by rintro ⟨t0,t11,x3,x4⟩; kernel_rfl) (fun Rf72l1 => f72_24_eq F Rf72l1 Rf72j11)
def f72_26 (F : Nat) (kf72j11 : Li × Li → Rz) : Ty1 → Rz := f72_25 F kf72j11
theorem f72_26_eq (F : Nat) (Rf72j11 : St → Rz) : ∀ v,XAf72 F (bp Tryd.f72 29) (ef72j3 v) (kSeq (kc VG0272 Rf72j11 [(2,.plain),(3,.plain)]) Kf3) = f72_26 F (Rf72j11 ∘ ef72j11) v := fun v =>
 (block_in  (by kernel_rfl) _ _).trans (f72_25_eq F Rf72j11 v)
def f72_27 (F : Nat) (kf72j11 : Li × Li → Rz) : Ty0 → Rz := fun v => f72_3 F (f72_26 F kf72j11) kf72j11 v
theorem f72_27_eq (F : Nat) (Rf72j11 : St → Rz) : ∀ v,XAf72 F (bp Tryd.f72 14) (ef72j2 v) (kSeq (kc VG0272 Rf72j11 [(2,.plain),(3,.plain)]) Kf3) = f72_27 F (Rf72j11 ∘ ef72j11) v :=
 seq_cut (by kernel_rfl) (by kernel_rfl) ef72j2 ef72j3 _ (fun k => f72_3 F k (Rf72j11 ∘ ef72j11)) (f72_26 F (Rf72j11 ∘ ef72j11))
  (fun Rf72j3 => f72_3_eq F Rf72j3 Rf72j11) (f72_26_eq F Rf72j11)
def f72_28 (F : Nat) : Li × Li → Rz := fun (x1,x2) => (some ((.agg 64 (.rI .u32 x2)),[]))
theorem f72_28_eq (F : Nat) : ∀ v,XAf72 F (bp Tryd.f72 15) (ef72j11 v) Kf3 = f72_28 F v := by
 rintro ⟨x1,x2⟩; kernel_rfl
def f72_29 (F : Nat) : Ty0 → Rz := fun v => f72_27 F (f72_28 F) v
theorem f72_29_eq (F : Nat) : ∀ v,XAf72 F (bp Tryd.f72 7) (ef72j2 v) Kf3 = f72_29 F v :=
 seq_cut (by kernel_rfl) (by kernel_rfl) ef72j2 ef72j11 _ (fun k => f72_27 F k) (f72_28 F)
  (fun Rf72j11 => f72_27_eq F Rf72j11) (f72_28_eq F)
def f72_30 (F : Nat) : Li × Li → Rz := fun v => f72_2 F (f72_29 F) v
theorem f72_30_eq (F : Nat) : ∀ v,XAf72 F (bp Tryd.f72 3) (ef72j1 v) Kf3 = f72_30 F v :=
 seq_cut (by kernel_rfl) (by kernel_rfl) ef72j1 ef72j2 _ (fun k => f72_2 F k) (f72_29 F)
  (fun Rf72j2 => f72_2_eq F Rf72j2) (f72_29_eq F)
def f72_31 (F : Nat) : Li → Rz := fun v => f72_1 F (f72_30 F) v
theorem f72_31_eq (F : Nat) : ∀ v,XAf72 F (sub (bodyOf Tryd.f72) []) (ef72_a v) Kf3 = f72_31 F v :=
 seq_cut (by kernel_rfl) (by kernel_rfl) ef72_a ef72j1 _ (fun k => f72_1 F k) (f72_30 F)
  (fun Rf72j1 => f72_1_eq F Rf72j1) (f72_30_eq F)
def f72 (F : Nat) : Li → Rz := f72_31 F
theorem f72_body (F : Nat) (a0 : List Int) : abody VG0272 (Af72 F) Tryd.f72 [(.vs (.rI .u8 a0) 0 1)] [] = f72 F a0 :=
 (abody_in (c := (sub (bodyOf Tryd.f72) [])) (by kernel_rfl) (s := ef72_a a0) (by kernel_rfl)).trans (f72_31_eq F a0)
def r72 : CRun := fun X H => match X,H with
 | [(.vs (.rI .u8 a0) 0 1)],[] => some ((decide (a0.length = 64)),(.agg 64 (.rI .u32 (Sha.sched a0 64))),[])
 | _,_ => none
theorem sched_len (b : List Int) : ∀ t,(Sha.sched b t).length = t
 | 0 => rfl
 | t + 1 => by simp [Sha.sched,sched_len b t]
theorem sched_get (b : List Int) (t i : Nat) (z : List Int) (h : i < t) : (Sha.sched b t ++ z).getD i 0 = (Sha.sched b t).getD i 0 := by
 simp [List.getD_eq_getElem?_getD,List.getElem?_append,sched_len,h]
theorem sched_set (b : List Int) (t : Nat) (v : Int) (h : t < 64) (hv : Sha.sched b (t + 1) = Sha.sched b t ++ [v]) : (Sha.sched b t ++ List.replicate (64 - t) 0).set t v = Sha.sched b (t + 1) ++ List.replicate (64 - (t + 1)) 0 := by
 rw [hv,show 64 - t = (64 - (t + 1)) + 1 by omega,List.replicate_succ,List.set_append_right _ _ (by rw [sched_len]; exact Nat.le_refl _),sched_len,Nat.sub_self]
 simp
theorem or_bytes (a b : Int) (ha : 0 ≤ a) (ha2 : a < 16777216) (hb : 0 ≤ b) (hb2 : b ≤ 255) : ibits .or .u32 (IntKind.u32.wrap (a * 2 ^ 8)) (IntKind.u32.wrap b) = a * 256 + b := by
 obtain ⟨x,rfl⟩ := Int.eq_ofNat_of_zero_le ha
 obtain ⟨y,rfl⟩ := Int.eq_ofNat_of_zero_le hb
 rw [u32w (by omega) (by omega),u32w (by omega) (by omega)]
 simp only [ibits,BitVec.toNat_or,BitVec.toNat_ofInt]
 have e1 : ((x : Int) * 2 ^ 8 % ((2 ^ IntKind.u32.bits : Nat) : Int)).toNat = x <<< 8 := by
  rw [Nat.shiftLeft_eq]; simp only [IntKind.bits]; omega
 have e2 : ((y : Int) % ((2 ^ IntKind.u32.bits : Nat) : Int)).toNat = y := by simp only [IntKind.bits]; omega
 rw [e1,e2,← Nat.shiftLeft_add_eq_or_of_lt (show y < 2 ^ 8 by omega),Nat.shiftLeft_eq,u32w (by omega) (by omega)]
 omega
theorem s72 (a0 : List Int) (hp : ((decide (a0.length = 64))) = true) (h0 : okV (.vs (.rI .u8 a0) 0 1)) : ∃ F,f72 F a0 = some ((.agg 64 (.rI .u32 (Sha.sched a0 64))),[]) := by
 have hl : a0.length = 64 := of_decide_eq_true hp
 have hb : ∀ i,0 ≤ a0.getD i 0 ∧ a0.getD i 0 ≤ 255 := fun i => by
  by_cases hi : i < a0.length
  ·rw [List.getD_eq_getElem?_getD,List.getElem?_eq_getElem hi]
   exact has_u8 (h0.1 _ (List.getElem_mem hi))
  ·rw [List.getD_eq_getElem?_getD,List.getElem?_eq_none (by omega)]; simp
 refine ⟨65,?_⟩
 simp only [f72,f72_31,f72_1,f72_30,f72_2,f72_29,f72_27,f72_3,f72_26,f72_25,f72_25_i]
 refine loopN_from (fun i => (a0,(i : Int),List.replicate 64 0,Sha.sched a0 i ++ List.replicate (64 - i) 0)) 64 (by rfl) (fun i hi k => ?_) (fun k => ?_) 65 (by omega)
 ·simp only [f72_24,f72_4,f72_23,f72_5,f72_22,f72_20,f72_21,f72_19,f72_6,f72_18,f72_16,f72_17,f72_7,f72_15]
  rw [cond_pos (show (i : Int) < 64 by omega)]
  by_cases h16 : i < 16
  ·rw [cond_pos (show (i : Int) < 16 by omega)]
   simp only [f72_13,f72_12,f72_8,f72_11,f72_10,f72_10_i]
   rw [i64w (x := 4 * (i : Int)) (by omega) (by omega),i64w (x := 4 * (i : Int) + 4) (by omega) (by omega),dec_and,dec_and,cond_pos (by omega)]
   have hL : List.take ((4 * (i : Int) + 4).toNat - (4 * (i : Int)).toNat) (List.drop (4 * (i : Int)).toNat a0) = [a0.getD (4 * i) 0,a0.getD (4 * i + 1) 0,a0.getD (4 * i + 2) 0,a0.getD (4 * i + 3) 0] := by
    rw [show (4 * (i : Int) + 4).toNat - (4 * (i : Int)).toNat = 4 by omega,show (4 * (i : Int)).toNat = 4 * i by omega]
    apply List.ext_getElem
    ·simp; omega
    ·intro j h1 h2
     simp only [List.length_cons,List.length_nil] at h2
     rw [List.getElem_take,List.getElem_drop]
     have hj : j = 0 ∨ j = 1 ∨ j = 2 ∨ j = 3 := by omega
     rcases hj with rfl | rfl | rfl | rfl <;> simp [List.getD_eq_getElem?_getD,List.getElem?_eq_getElem (show 4 * i < a0.length by omega),List.getElem?_eq_getElem (show 4 * i + 1 < a0.length by omega),List.getElem?_eq_getElem (show 4 * i + 2 < a0.length by omega),List.getElem?_eq_getElem (show 4 * i + 3 < a0.length by omega)]
   rw [hL]
   have b0 := hb (4 * i)
   have b1 := hb (4 * i + 1)
   have b2 := hb (4 * i + 2)
   have b3 := hb (4 * i + 3)
   have hnext : Sha.sched a0 (i + 1) = Sha.sched a0 i ++ [Sha.word (a0.getD (4 * i) 0) (a0.getD (4 * i + 1) 0) (a0.getD (4 * i + 2) 0) (a0.getD (4 * i + 3) 0)] := by simp [Sha.sched,h16]
   generalize a0.getD (4 * i) 0 = c0 at *
   generalize a0.getD (4 * i + 1) 0 = c1 at *
   generalize a0.getD (4 * i + 2) 0 = c2 at *
   generalize a0.getD (4 * i + 3) 0 = c3 at *
   have hset : ∀ v : Int,((Sha.sched a0 i ++ List.replicate (64 - i) 0).set i v).getD i 0 = v := fun v => by
    rw [List.getD_eq_getElem?_getD,List.getElem?_set_self (by simp [sched_len]; omega)]; rfl
   have hset0 : Sha.sched a0 i ++ List.replicate (64 - i) 0 = (Sha.sched a0 i ++ List.replicate (64 - i) 0).set i 0 := by
    rw [show 64 - i = (64 - (i + 1)) + 1 by omega,List.replicate_succ,List.set_append_right _ _ (by rw [sched_len]; exact Nat.le_refl _),sched_len,Nat.sub_self]; rfl
   refine loopN_from (fun j => (a0,(i : Int),(i : Int),[c0,c1,c2,c3],4,(j : Int),List.replicate 64 0,(Sha.sched a0 i ++ List.replicate (64 - i) 0).set i (match j with | 0 => 0 | 1 => c0 | 2 => c0 * 256 + c1 | 3 => (c0 * 256 + c1) * 256 + c2 | _ => ((c0 * 256 + c1) * 256 + c2) * 256 + c3))) 4 (by simp only []; rw [← hset0]; rfl) (fun j hj k' => ?_) (fun k' => ?_) 65 (by omega)
   ·simp only [f72_9]
    rw [i64w (x := (j : Int) + 1) (by omega) (by omega),dec_and,dec_and,cond_pos (show (j : Int) < 4 by omega),cond_pos (by simp only [List.length_cons,List.length_nil]; omega),cond_pos (by omega),cond_pos (by omega)]
    simp only [Int.toNat_natCast,hset,List.set_set]
    have hj' : j = 0 ∨ j = 1 ∨ j = 2 ∨ j = 3 := by omega
    rcases hj' with rfl | rfl | rfl | rfl
    ·simp only [List.getD_cons_zero]; rw [or_bytes 0 c0 (by omega) (by omega) b0.1 b0.2]; simp
    ·simp only [List.getD_cons_succ,List.getD_cons_zero]; rw [or_bytes c0 c1 (by omega) (by omega) b1.1 b1.2]; rfl
    ·simp only [List.getD_cons_succ,List.getD_cons_zero]; rw [or_bytes _ c2 (by omega) (by omega) b2.1 b2.2]; rfl
    ·simp only [List.getD_cons_succ,List.getD_cons_zero]; rw [or_bytes _ c3 (by omega) (by omega) b3.1 b3.2]; rfl
   ·simp only [f72_9,f72_21]
    rw [cond_neg (by omega),i64w (x := (i : Int) + 1) (by omega) (by omega),sched_set a0 i _ (by omega) (by rw [hnext]; simp only [Sha.word]; rw [show ((c0 * 256 + c1) * 256 + c2) * 256 + c3 = c0 * 16777216 + c1 * 65536 + c2 * 256 + c3 by omega])]
    rfl
  ·rw [cond_neg (show ¬ (i : Int) < 16 by omega)]
   simp only [f72_14,f72_17]
   rw [i64w (x := (i : Int) - 15) (by omega) (by omega),i64w (x := (i : Int) - 2) (by omega) (by omega),i64w (x := (i : Int) - 16) (by omega) (by omega),i64w (x := (i : Int) - 7) (by omega) (by omega)]
   simp only [dec_and]
   rw [cond_pos (by omega),cond_pos (by omega),cond_pos (by omega),cond_pos (by omega),cond_pos (by omega)]
   simp only [f72_21,show ((i : Int) - 15).toNat = i - 15 by omega,show ((i : Int) - 2).toNat = i - 2 by omega,show ((i : Int) - 16).toNat = i - 16 by omega,show ((i : Int) - 7).toNat = i - 7 by omega,Int.toNat_natCast]
   rw [i64w (x := (i : Int) + 1) (by omega) (by omega),sched_get a0 i (i - 15) _ (by omega),sched_get a0 i (i - 2) _ (by omega),sched_get a0 i (i - 16) _ (by omega),sched_get a0 i (i - 7) _ (by omega)]
   rw [show (-7 : Int) = -((7 : Nat) : Int) from rfl,show (-18 : Int) = -((18 : Nat) : Int) from rfl,show (-17 : Int) = -((17 : Nat) : Int) from rfl,show (-19 : Int) = -((19 : Nat) : Int) from rfl]
   rw [Sha.rotl_neg _ 7 (by omega) (by omega),Sha.rotl_neg _ 18 (by omega) (by omega),Sha.rotl_neg _ 17 (by omega) (by omega),Sha.rotl_neg _ 19 (by omega) (by omega)]
   rw [sched_set a0 i _ (by omega) (by simp only [Sha.sched,if_neg h16]; rfl)]
   rfl
 ·simp only [f72_24,f72_4,f72_23,f72_5,f72_28]
  rw [cond_neg (by omega),Nat.sub_self,List.replicate_zero,List.append_nil]
theorem c72 : CallOk Tryd.prog G02 72 r72 := callOk_of (V := VG0272) mixed tys eVG0272 (f := 72) (fn := Tryd.f72) Tryd.func72 (by kernel_rfl) (c := sub (bodyOf Tryd.f72) []) (by kernel_rfl) (by
 intro X H r H' h hX hH
 unfold r72 at h; split at h <;> try contradiction
 ·simp only [Option.some.injEq,Prod.mk.injEq] at h
  obtain ⟨hp,rfl,rfl⟩ := h
  obtain ⟨F,hF⟩ := s72 _ hp (hX _ (.head _))
  exact ⟨Af72 F,(f72_body F _).trans hF⟩)
end Go.Am
end
section
namespace Go.Am
open Go Go.Proofs
abbrev sp6 : List (Nat × Md) := [(2,.plain),(4,.plain),(5,.plain),(6,.plain),(7,.plain),(21,.plain),(22,.plain)]
abbrev sp7 : List (Nat × Md) := [(2,.plain),(4,.plain),(6,.plain),(7,.plain),(94,.plain)]
abbrev sp8 : List (Nat × Md) := [(1,.plain),(2,.plain),(4,.plain)]
abbrev sp9 : List (Nat × Md) := [(2,.plain),(4,.plain),(5,.plain)]
abbrev sp10 : List (Nat × Md) := [(2,.plain),(4,.plain),(5,.plain),(6,.plain),(7,.plain)]
abbrev sp11 : List (Nat × Md) := [(2,.plain),(4,.plain),(6,.plain),(7,.plain)]
abbrev sp12 : List (Nat × Md) := [(1,.plain),(2,.plain),(3,.plain),(4,.plain)]
abbrev sp13 : List (Nat × Md) := [(1,.plain),(2,.plain),(3,.plain),(4,.plain),(23,.plain)]
abbrev sp14 : List (Nat × Md) := [(1,.plain),(2,.plain),(6,.plain),(40,.plain)]
abbrev sp15 : List (Nat × Md) := [(1,.plain),(2,.plain),(3,.plain)]
abbrev sp16 : List (Nat × Md) := [(1,.plain),(2,.plain),(6,.plain)]
abbrev Ty6 := Li × Li × Li × Li × Li
abbrev Ty7 := Li × Int × Li × Li × Li × Li × Li
abbrev Ty8 := Li × Li × Li × Li
abbrev Ty9 := Int × Li × Li × Li × Li
abbrev Ty10 := Li × Li × Int × Li
abbrev Ty11 := Li × Li × Li × Int × Li × Li × Int
abbrev Ty12 := Li × Li × Int × Li × Li × Int
abbrev Ty13 := Li × Li × Int
abbrev Ty14 := Int × Li × Li × Int × Li
abbrev Ty15 := Int × Li × Li × Int × Li × Li
abbrev Ty16 := Int × Int × Li × Li × Int × Li × Li
abbrev Ty17 := Li × Li × Int × Li × Li
def lVG0267 : List CEnt := [(72,[some 5],r72),(73,[none,none,none,none],r73)]
def VG0267 : Env := mkEnv T03 G02 lVG0267
noncomputable abbrev Kf4 := kFin VG0267 none (Tryd.f67).results.toList
theorem eVG0267 : EOk Tryd.prog VG0267 := eok_mk (by exact ⟨c72,c73,trivial⟩)
def Af67 (F : Nat) : Cuts := { F := F,at_ := fun n => match n with | 4018 => some sp6 | 12014 => some sp7 | _ => none,join := fun n => match n with | 1049 => some sp8 | 2047 => some sp9 | 3045 => some sp10 | 4020 => some sp6 | 11022 => some sp11 | 12016 => some sp7 | 17003 => some [(2,.plain),(4,.plain)] | _ => none }
noncomputable abbrev XAf67 (F : Nat) {α : Type} := @aexec α VG0267 (Af67 F)
def ef67_a : Li × Li → St := fun (a0,a1) => ⟨[(0,(.agg 8 (.rI .u32 a0))),(1,(.vs (.rI .u8 a1) 0 1))],[],0,116,0⟩
def ef67j1 : Ty0 → St := fun (t1,x2,x3) => ⟨[(1,(.vs (.rI .u8 t1) 0 1)),(2,.ptr 0 0 8 0 0 0 8),(4,.ptr 1 0 8 0 0 0 8)],[(0,(.cells 8 (.rI .u32 x2) true)),(1,(.cells 8 (.rI .u32 x3) true))],2,116,0⟩
def ef67j2 : Ty0 → St := fun (x1,x2,x3) => ⟨[(2,.ptr 0 0 8 0 0 0 8),(4,.ptr 1 0 8 0 0 0 8),(5,.ptr 2 0 64 0 0 0 64)],[(0,(.cells 8 (.rI .u32 x1) true)),(1,(.cells 8 (.rI .u32 x2) true)),(2,(.cells 64 (.rI .u32 x3) true))],3,116,0⟩
def ef67j3 : Ty6 → St := fun (x1,x2,x3,x4,x5) => ⟨[(2,.ptr 0 0 8 0 0 0 8),(4,.ptr 1 0 8 0 0 0 8),(5,.ptr 2 0 64 0 0 0 64),(6,.ptr 3 0 4 0 0 0 4),(7,.ptr 4 0 4 0 0 0 4)],[(0,(.cells 8 (.rI .u32 x1) true)),(1,(.cells 8 (.rI .u32 x2) true)),(2,(.cells 64 (.rI .u32 x3) true)),(3,(.cells 4 (.rI .u32 x4) true)),(4,(.cells 4 (.rI .u32 x5) true))],5,116,0⟩
def ef67j4 : Ty7 → St := fun (t21,t22,x3,x4,x5,x6,x7) => ⟨[(2,.ptr 0 0 8 0 0 0 8),(4,.ptr 1 0 8 0 0 0 8),(5,.ptr 2 0 64 0 0 0 64),(6,.ptr 3 0 4 0 0 0 4),(7,.ptr 4 0 4 0 0 0 4),(21,(.agg 64 (.rI .u32 t21))),(22,.int .i64 t22)],[(0,(.cells 8 (.rI .u32 x3) true)),(1,(.cells 8 (.rI .u32 x4) true)),(2,(.cells 64 (.rI .u32 x5) true)),(3,(.cells 4 (.rI .u32 x6) true)),(4,(.cells 4 (.rI .u32 x7) true))],5,116,0⟩
def ef67l1 : Ty7 → St := ef67j4
def ef67j5 : Ty8 → St := fun (x1,x2,x3,x4) => ⟨[(2,.ptr 0 0 8 0 0 0 8),(4,.ptr 1 0 8 0 0 0 8),(6,.ptr 2 0 4 0 0 0 4),(7,.ptr 3 0 4 0 0 0 4)],[(0,(.cells 8 (.rI .u32 x1) true)),(1,(.cells 8 (.rI .u32 x2) true)),(2,(.cells 4 (.rI .u32 x3) true)),(3,(.cells 4 (.rI .u32 x4) true))],4,116,0⟩
def ef67j6 : Ty9 → St := fun (t94,x2,x3,x4,x5) => ⟨[(2,.ptr 0 0 8 0 0 0 8),(4,.ptr 1 0 8 0 0 0 8),(6,.ptr 2 0 4 0 0 0 4),(7,.ptr 3 0 4 0 0 0 4),(94,.int .i64 t94)],[(0,(.cells 8 (.rI .u32 x2) true)),(1,(.cells 8 (.rI .u32 x3) true)),(2,(.cells 4 (.rI .u32 x4) true)),(3,(.cells 4 (.rI .u32 x5) true))],4,116,0⟩
def ef67l2 : Ty9 → St := ef67j6
def ef67j7 : Li × Li → St := fun (x1,x2) => ⟨[(2,.ptr 0 0 8 0 0 0 8),(4,.ptr 1 0 8 0 0 0 8)],[(0,(.cells 8 (.rI .u32 x1) true)),(1,(.cells 8 (.rI .u32 x2) true))],2,116,0⟩
def f67_1 (F : Nat) (kf67j1 : Ty0 → Rz) : Li × Li → Rz := fun (a0,a1) => (kf67j1 (a1,a0,[0,0,0,0,0,0,0,0]))
theorem f67_1_eq (F : Nat) (Rf67j1 : St → Rz) : ∀ v,XAf67 F (bp Tryd.f67 2) (ef67_a v) (kSeq (kc VG0267 Rf67j1 sp8) Kf4) = f67_1 F (Rf67j1 ∘ ef67j1) v := by
 rintro ⟨a0,a1⟩; kernel_rfl
def f67_2 (F : Nat) (kf67j2 : Ty0 → Rz) : Ty0 → Rz := fun (t1,x2,x3) => (cond (decide (t1.length = 64)) (kf67j2 (x2,x3,(Sha.sched t1 64))) none)
theorem f67_2_eq (F : Nat) (Rf67j2 : St → Rz) : ∀ v,XAf67 F (bp Tryd.f67 6) (ef67j1 v) (kSeq (kc VG0267 Rf67j2 sp9) Kf4) = f67_2 F (Rf67j2 ∘ ef67j2) v := by
 rintro ⟨t1,x2,x3⟩; kernel_rfl
def f67_3 (F : Nat) (kf67j3 : Ty6 → Rz) : Ty0 → Rz := fun (x1,x2,x3) => (kf67j3 (x1,x2,x3,(x1.take 4),((x1.drop 4).take 4)))
theorem f67_3_eq (F : Nat) (Rf67j3 : St → Rz) : ∀ v,XAf67 F (bp Tryd.f67 14) (ef67j2 v) (kSeq (kc VG0267 Rf67j3 sp10) Kf4) = f67_3 F (Rf67j3 ∘ ef67j3) v := by
 rintro ⟨x1,x2,x3⟩; kernel_rfl
def f67_4 (F : Nat) (kf67j4 : Ty7 → Rz) (kf67j5 : Ty8 → Rz) : Ty6 → Rz := fun (x1,x2,x3,x4,x5) => (kf67j4 (Sha.K,(0 : Int),x1,x2,x3,x4,x5))
theorem f67_4_eq (F : Nat) (Rf67j4 : St → Rz) (Rf67j5 : St → Rz) : ∀ v,XAf67 F (bp Tryd.f67 60) (ef67j3 v) (kSeq (kc VG0267 Rf67j4 sp6) (kSeq (kc VG0267 Rf67j5 sp11) Kf4)) = f67_4 F (Rf67j4 ∘ ef67j4) (Rf67j5 ∘ ef67j5) v := by
 rintro ⟨x1,x2,x3,x4,x5⟩; kernel_rfl
def f67_5 (F : Nat) (kf67l1 : Ty7 → Rz) (kf67j5 : Ty8 → Rz) : Ty7 → Rz := fun (t21,t22,x3,x4,x5,x6,x7) => (cond (decide (t22 < (64 : Int))) (cond ((decide (0 ≤ t22)) && (decide (t22 < (64 : Int)))) (cond ((decide (0 ≤ t22)) && (decide (t22 < (64 : Int)))) (kf67l1 (t21,(IntKind.i64.wrap (t22 + (1 : Int))),x3,x4,x5,[(IntKind.u32.wrap ((IntKind.u32.wrap ((IntKind.u32.wrap ((IntKind.u32.wrap ((IntKind.u32.wrap ((x7.getD 3 0) + (Sha.mix (x7.getD 0 0) (6 : Int) (11 : Int) (25 : Int)))) + (ibits .xor .u32 (ibits .and .u32 (x7.getD 0 0) (x7.getD 1 0)) (ibits .and .u32 (ibits .xor .u32 (4294967295 : Int) (x7.getD 0 0)) (x7.getD 2 0))))) + (t21.getD (Int.toNat t22) 0))) + (x5.getD (Int.toNat t22) 0))) + (IntKind.u32.wrap ((Sha.mix (x6.getD 0 0) (2 : Int) (13 : Int) (22 : Int)) + (ibits .xor .u32 (ibits .xor .u32 (ibits .and .u32 (x6.getD 0 0) (x6.getD 1 0)) (ibits .and .u32 (x6.getD 0 0) (x6.getD 2 0))) (ibits .and .u32 (x6.getD 1 0) (x6.getD 2 0))))))),(x6.getD 0 0),(x6.getD 1 0),(x6.getD 2 0)],[(IntKind.u32.wrap ((x6.getD 3 0) + (IntKind.u32.wrap ((IntKind.u32.wrap ((IntKind.u32.wrap ((IntKind.u32.wrap ((x7.getD 3 0) + (Sha.mix (x7.getD 0 0) (6 : Int) (11 : Int) (25 : Int)))) + (ibits .xor .u32 (ibits .and .u32 (x7.getD 0 0) (x7.getD 1 0)) (ibits .and .u32 (ibits .xor .u32 (4294967295 : Int) (x7.getD 0 0)) (x7.getD 2 0))))) + (t21.getD (Int.toNat t22) 0))) + (x5.getD (Int.toNat t22) 0))))),(x7.getD 0 0),(x7.getD 1 0),(x7.getD 2 0)])) none) none) (kf67j5 (x3,x4,x6,x7)))
theorem f67_5_eq (F : Nat) (Rf67l1 : St → Rz) (Rf67j5 : St → Rz) : ∀ v,XAf67 F (bp Tryd.f67 244) (ef67l1 v) (kSeq (kc VG0267 Rf67l1 sp6) (kBlock 0 (kSeq (kc VG0267 Rf67j5 sp11) Kf4))) = f67_5 F (Rf67l1 ∘ ef67l1) (Rf67j5 ∘ ef67j5) v := by
 rintro ⟨t21,t22,x3,x4,x5,x6,x7⟩; kernel_rfl
def f67_6_i : Ty7 → Li × Int × Li × Li × Li × Li × Li := fun (t21,t22,x3,x4,x5,x6,x7) => (t21,t22,x3,x4,x5,x6,x7)
def f67_6 (F : Nat) (kf67j5 : Ty8 → Rz) : Ty7 → Rz := fun v => loopN (fun k => f67_5 F k kf67j5) F (f67_6_i v)
theorem f67_6_eq (F : Nat) (Rf67j5 : St → Rz) : ∀ v,XAf67 F (bp Tryd.f67 122) (ef67j4 v) (kBlock 0 (kSeq (kc VG0267 Rf67j5 sp11) Kf4)) = f67_6 F (Rf67j5 ∘ ef67j5) v :=
 loop_cut (by kernel_rfl) (by kernel_rfl) ef67j4 ef67l1 _ f67_6_i (fun k => f67_5 F k (Rf67j5 ∘ ef67j5))
  (by rintro ⟨t21,t22,x3,x4,x5,x6,x7⟩; kernel_rfl) (fun Rf67l1 => f67_5_eq F Rf67l1 Rf67j5)
def f67_7 (F : Nat) (kf67j5 : Ty8 → Rz) : Ty7 → Rz := f67_6 F kf67j5
theorem f67_7_eq (F : Nat) (Rf67j5 : St → Rz) : ∀ v,XAf67 F (bp Tryd.f67 61) (ef67j4 v) (kSeq (kc VG0267 Rf67j5 sp11) Kf4) = f67_7 F (Rf67j5 ∘ ef67j5) v := fun v =>
 (block_in  (by kernel_rfl) _ _).trans (f67_6_eq F Rf67j5 v)
def f67_8 (F : Nat) (kf67j5 : Ty8 → Rz) : Ty6 → Rz := fun v => f67_4 F (f67_7 F kf67j5) kf67j5 v
theorem f67_8_eq (F : Nat) (Rf67j5 : St → Rz) : ∀ v,XAf67 F (bp Tryd.f67 30) (ef67j3 v) (kSeq (kc VG0267 Rf67j5 sp11) Kf4) = f67_8 F (Rf67j5 ∘ ef67j5) v :=
 seq_cut (by kernel_rfl) (by kernel_rfl) ef67j3 ef67j4 _ (fun k => f67_4 F k (Rf67j5 ∘ ef67j5)) (f67_7 F (Rf67j5 ∘ ef67j5))
  (fun Rf67j4 => f67_4_eq F Rf67j4 Rf67j5) (f67_7_eq F Rf67j5)
def f67_9 (F : Nat) (kf67j6 : Ty9 → Rz) (kf67j7 : Li × Li → Rz) : Ty8 → Rz := fun (x1,x2,x3,x4) => (kf67j6 ((0 : Int),x1,x2,x3,x4))
theorem f67_9_eq (F : Nat) (Rf67j6 : St → Rz) (Rf67j7 : St → Rz) : ∀ v,XAf67 F (bp Tryd.f67 124) (ef67j5 v) (kSeq (kc VG0267 Rf67j6 sp7) (kSeq (kc VG0267 Rf67j7 [(2,.plain),(4,.plain)]) Kf4)) = f67_9 F (Rf67j6 ∘ ef67j6) (Rf67j7 ∘ ef67j7) v := by
 rintro ⟨x1,x2,x3,x4⟩; kernel_rfl
def f67_10 (F : Nat) (kf67l2 : Ty9 → Rz) (kf67j7 : Li × Li → Rz) : Ty9 → Rz := fun (t94,x2,x3,x4,x5) => (cond (decide (t94 < (4 : Int))) (cond ((decide (0 ≤ t94)) && (decide (t94 < (8 : Int)))) (cond ((decide (0 ≤ t94)) && (decide (t94 < (4 : Int)))) (cond ((decide (0 ≤ t94)) && (decide (t94 < (8 : Int)))) (cond ((decide (0 ≤ (IntKind.i64.wrap (t94 + (4 : Int))))) && (decide ((IntKind.i64.wrap (t94 + (4 : Int))) < (8 : Int)))) (cond ((decide (0 ≤ t94)) && (decide (t94 < (4 : Int)))) (cond ((decide (0 ≤ (IntKind.i64.wrap (t94 + (4 : Int))))) && (decide ((IntKind.i64.wrap (t94 + (4 : Int))) < (8 : Int)))) (kf67l2 ((IntKind.i64.wrap (t94 + (1 : Int))),((x2.set (Int.toNat t94) (IntKind.u32.wrap ((x2.getD (Int.toNat t94) 0) + (x4.getD (Int.toNat t94) 0)))).set (Int.toNat (IntKind.i64.wrap (t94 + (4 : Int)))) (IntKind.u32.wrap (((x2.set (Int.toNat t94) (IntKind.u32.wrap ((x2.getD (Int.toNat t94) 0) + (x4.getD (Int.toNat t94) 0)))).getD (Int.toNat (IntKind.i64.wrap (t94 + (4 : Int)))) 0) + (x5.getD (Int.toNat t94) 0)))),x3,x4,x5)) none) none) none) none) none) none) (kf67j7 (x2,x3)))
theorem f67_10_eq (F : Nat) (Rf67l2 : St → Rz) (Rf67j7 : St → Rz) : ∀ v,XAf67 F (bp Tryd.f67 500) (ef67l2 v) (kSeq (kc VG0267 Rf67l2 sp7) (kBlock 2 (kSeq (kc VG0267 Rf67j7 [(2,.plain),(4,.plain)]) Kf4))) = f67_10 F (Rf67l2 ∘ ef67l2) (Rf67j7 ∘ ef67j7) v := by
 rintro ⟨t94,x2,x3,x4,x5⟩; kernel_rfl
def f67_11_i : Ty9 → Int × Li × Li × Li × Li := fun (t94,x2,x3,x4,x5) => (t94,x2,x3,x4,x5)
def f67_11 (F : Nat) (kf67j7 : Li × Li → Rz) : Ty9 → Rz := fun v => loopN (fun k => f67_10 F k kf67j7) F (f67_11_i v)
theorem f67_11_eq (F : Nat) (Rf67j7 : St → Rz) : ∀ v,XAf67 F (bp Tryd.f67 250) (ef67j6 v) (kBlock 2 (kSeq (kc VG0267 Rf67j7 [(2,.plain),(4,.plain)]) Kf4)) = f67_11 F (Rf67j7 ∘ ef67j7) v :=
 loop_cut (by kernel_rfl) (by kernel_rfl) ef67j6 ef67l2 _ f67_11_i (fun k => f67_10 F k (Rf67j7 ∘ ef67j7))
  (by rintro ⟨t94,x2,x3,x4,x5⟩; kernel_rfl) (fun Rf67l2 => f67_10_eq F Rf67l2 Rf67j7)
def f67_12 (F : Nat) (kf67j7 : Li × Li → Rz) : Ty9 → Rz := f67_11 F kf67j7
theorem f67_12_eq (F : Nat) (Rf67j7 : St → Rz) : ∀ v,XAf67 F (bp Tryd.f67 125) (ef67j6 v) (kSeq (kc VG0267 Rf67j7 [(2,.plain),(4,.plain)]) Kf4) = f67_12 F (Rf67j7 ∘ ef67j7) v := fun v =>
 (block_in  (by kernel_rfl) _ _).trans (f67_11_eq F Rf67j7 v)
def f67_13 (F : Nat) (kf67j7 : Li × Li → Rz) : Ty8 → Rz := fun v => f67_9 F (f67_12 F kf67j7) kf67j7 v
theorem f67_13_eq (F : Nat) (Rf67j7 : St → Rz) : ∀ v,XAf67 F (bp Tryd.f67 62) (ef67j5 v) (kSeq (kc VG0267 Rf67j7 [(2,.plain),(4,.plain)]) Kf4) = f67_13 F (Rf67j7 ∘ ef67j7) v :=
 seq_cut (by kernel_rfl) (by kernel_rfl) ef67j5 ef67j6 _ (fun k => f67_9 F k (Rf67j7 ∘ ef67j7)) (f67_12 F (Rf67j7 ∘ ef67j7))
  (fun Rf67j6 => f67_9_eq F Rf67j6 Rf67j7) (f67_12_eq F Rf67j7)
def f67_14 (F : Nat) : Li × Li → Rz := fun (x1,x2) => (some ((.agg 8 (.rI .u32 x1)),[]))
theorem f67_14_eq (F : Nat) : ∀ v,XAf67 F (bp Tryd.f67 63) (ef67j7 v) Kf4 = f67_14 F v := by
 rintro ⟨x1,x2⟩; kernel_rfl
def f67_15 (F : Nat) : Ty8 → Rz := fun v => f67_13 F (f67_14 F) v
theorem f67_15_eq (F : Nat) : ∀ v,XAf67 F (bp Tryd.f67 31) (ef67j5 v) Kf4 = f67_15 F v :=
 seq_cut (by kernel_rfl) (by kernel_rfl) ef67j5 ef67j7 _ (fun k => f67_13 F k) (f67_14 F)
  (fun Rf67j7 => f67_13_eq F Rf67j7) (f67_14_eq F)
def f67_16 (F : Nat) : Ty6 → Rz := fun v => f67_8 F (f67_15 F) v
theorem f67_16_eq (F : Nat) : ∀ v,XAf67 F (bp Tryd.f67 15) (ef67j3 v) Kf4 = f67_16 F v :=
 seq_cut (by kernel_rfl) (by kernel_rfl) ef67j3 ef67j5 _ (fun k => f67_8 F k) (f67_15 F)
  (fun Rf67j5 => f67_8_eq F Rf67j5) (f67_15_eq F)
def f67_17 (F : Nat) : Ty0 → Rz := fun v => f67_3 F (f67_16 F) v
theorem f67_17_eq (F : Nat) : ∀ v,XAf67 F (bp Tryd.f67 7) (ef67j2 v) Kf4 = f67_17 F v :=
 seq_cut (by kernel_rfl) (by kernel_rfl) ef67j2 ef67j3 _ (fun k => f67_3 F k) (f67_16 F)
  (fun Rf67j3 => f67_3_eq F Rf67j3) (f67_16_eq F)
def f67_18 (F : Nat) : Ty0 → Rz := fun v => f67_2 F (f67_17 F) v
theorem f67_18_eq (F : Nat) : ∀ v,XAf67 F (bp Tryd.f67 3) (ef67j1 v) Kf4 = f67_18 F v :=
 seq_cut (by kernel_rfl) (by kernel_rfl) ef67j1 ef67j2 _ (fun k => f67_2 F k) (f67_17 F)
  (fun Rf67j2 => f67_2_eq F Rf67j2) (f67_17_eq F)
def f67_19 (F : Nat) : Li × Li → Rz := fun v => f67_1 F (f67_18 F) v
theorem f67_19_eq (F : Nat) : ∀ v,XAf67 F (sub (bodyOf Tryd.f67) []) (ef67_a v) Kf4 = f67_19 F v :=
 seq_cut (by kernel_rfl) (by kernel_rfl) ef67_a ef67j1 _ (fun k => f67_1 F k) (f67_18 F)
  (fun Rf67j1 => f67_1_eq F Rf67j1) (f67_18_eq F)
def f67 (F : Nat) : Li × Li → Rz := f67_19 F
theorem f67_body (F : Nat) (a0 : List Int) (a1 : List Int) : abody VG0267 (Af67 F) Tryd.f67 [(.agg 8 (.rI .u32 a0)),(.vs (.rI .u8 a1) 0 1)] [] = f67 F (a0,a1) :=
 (abody_in (c := (sub (bodyOf Tryd.f67) [])) (by kernel_rfl) (s := ef67_a (a0,a1)) (by kernel_rfl)).trans (f67_19_eq F (a0,a1))
def r67 : CRun := fun X H => match X,H with
 | [(.agg 8 (.rI .u32 a0)),(.vs (.rI .u8 a1) 0 1)],[] => some ((decide (a1.length = 64)),(.agg 8 (.rI .u32 (Sha.comp a0 a1))),[])
 | _,_ => none
theorem mix_S3 (x : Int) (i j k : Nat) (hi : i < 32 ∧ 0 < i) (hj : j < 32 ∧ 0 < j) (hk : k < 32 ∧ 0 < k) : Sha.mix x i j k = Sha.S3 x i j k := by
 unfold Sha.mix Sha.S3
 rw [i64w (by omega) (by omega),i64w (by omega) (by omega),i64w (by omega) (by omega),show (0 - (i : Int)) = -(i : Int) by omega,show (0 - (j : Int)) = -(j : Int) by omega,show (0 - (k : Int)) = -(k : Int) by omega,
  Sha.rotl_neg _ i hi.1 hi.2,Sha.rotl_neg _ j hj.1 hj.2,Sha.rotl_neg _ k hk.1 hk.2]
theorem mixE (x : Int) : Sha.mix x 6 11 25 = Sha.S3 x 6 11 25 := mix_S3 x 6 11 25 (by decide) (by decide) (by decide)
theorem mixA (x : Int) : Sha.mix x 2 13 22 = Sha.S3 x 2 13 22 := mix_S3 x 2 13 22 (by decide) (by decide) (by decide)
theorem len8 {l : List Int} (h : l.length = 8) : ∃ a b c d e f g i,l = [a,b,c,d,e,f,g,i] := by
 match l,h with
 | [a,b,c,d,e,f,g,i],_ => exact ⟨a,b,c,d,e,f,g,i,rfl⟩
theorem s67 (a0 : List Int) (a1 : List Int) (hp : ((decide (a1.length = 64))) = true) (h0 : okV (.agg 8 (.rI .u32 a0))) (h1 : okV (.vs (.rI .u8 a1) 0 1)) : ∃ F,f67 F (a0,a1) = some ((.agg 8 (.rI .u32 (Sha.comp a0 a1))),[]) := by
 refine ⟨65,?_⟩
 simp only [f67,f67_19,f67_1,f67_18,f67_2,f67_17,f67_3,f67_16,f67_8,f67_15,f67_4,f67_7,f67_6,f67_6_i]
 rw [hp]
 simp only [cond_true]
 rw [List.take_of_length_le (show (List.drop 4 a0).length ≤ 4 by rw [List.length_drop,(okR_rI h0).1]; omega)]
 refine loopN_from (fun i => (Sha.K,(i : Int),a0,[0,0,0,0,0,0,0,0],Sha.sched a1 64,(Sha.rnds (Sha.sched a1 64) (a0.take 4,a0.drop 4) i).1,(Sha.rnds (Sha.sched a1 64) (a0.take 4,a0.drop 4) i).2)) 64 (by rfl) (fun i hi k => ?_) (fun k => ?_) 65 (by omega)
 ·simp only [f67_5,dec_and]
  rw [cond_pos (by omega),cond_pos (by omega),cond_pos (by omega),i64w (x := (i : Int) + 1) (by omega) (by omega),mixE,mixA]
  rfl
 ·simp only [f67_5]
  rw [cond_neg (by omega)]
  simp only [f67_15,f67_13,f67_9,f67_12,f67_11,f67_11_i]
  unfold Sha.comp
  generalize Sha.rnds (Sha.sched a1 64) (a0.take 4,a0.drop 4) 64 = t
  obtain ⟨v,e⟩ := t
  obtain ⟨b0,b1,b2,b3,b4,b5,b6,b7,rfl⟩ := len8 (okR_rI h0).1
  refine loopN_from (fun j => ((j : Int),(match j with
   | 0 => [b0,b1,b2,b3,b4,b5,b6,b7]
   | 1 => [Sha.add b0 (v.getD 0 0),b1,b2,b3,Sha.add b4 (e.getD 0 0),b5,b6,b7]
   | 2 => [Sha.add b0 (v.getD 0 0),Sha.add b1 (v.getD 1 0),b2,b3,Sha.add b4 (e.getD 0 0),Sha.add b5 (e.getD 1 0),b6,b7]
   | 3 => [Sha.add b0 (v.getD 0 0),Sha.add b1 (v.getD 1 0),Sha.add b2 (v.getD 2 0),b3,Sha.add b4 (e.getD 0 0),Sha.add b5 (e.getD 1 0),Sha.add b6 (e.getD 2 0),b7]
   | _ => [Sha.add b0 (v.getD 0 0),Sha.add b1 (v.getD 1 0),Sha.add b2 (v.getD 2 0),Sha.add b3 (v.getD 3 0),Sha.add b4 (e.getD 0 0),Sha.add b5 (e.getD 1 0),Sha.add b6 (e.getD 2 0),Sha.add b7 (e.getD 3 0)]),[0,0,0,0,0,0,0,0],v,e)) 4 (by rfl) (fun j hj k' => ?_) (fun k' => ?_) 65 (by omega)
  ·simp only [f67_10,dec_and]
   have hj' : j = 0 ∨ j = 1 ∨ j = 2 ∨ j = 3 := by omega
   rcases hj' with rfl | rfl | rfl | rfl <;> rfl
  ·simp only [f67_10]
   rw [cond_neg (by omega)]
   rfl
theorem c67 : CallOk Tryd.prog G02 67 r67 := callOk_of (V := VG0267) mixed tys eVG0267 (f := 67) (fn := Tryd.f67) Tryd.func67 (by kernel_rfl) (c := sub (bodyOf Tryd.f67) []) (by kernel_rfl) (by
 intro X H r H' h hX hH
 unfold r67 at h; split at h <;> try contradiction
 ·simp only [Option.some.injEq,Prod.mk.injEq] at h
  obtain ⟨hp,rfl,rfl⟩ := h
  obtain ⟨F,hF⟩ := s67 _ _ hp (hX _ (.head _)) (hX _ (.tail _ (.head _)))
  exact ⟨Af67 F,(f67_body F _ _).trans hF⟩)
def lVG0252 : List CEnt := []
def VG0252 : Env := mkEnv T03 G02 lVG0252
noncomputable abbrev Kf5 := kFin VG0252 none (Tryd.f52).results.toList
theorem eVG0252 : EOk Tryd.prog VG0252 := eok_mk (by exact trivial)
def Af52 (F : Nat) : Cuts := { F := F,at_ := fun _ => none,join := fun _ => none }
def ef52_a : Unit → St := fun _ => ⟨[],[],0,3,0⟩
def f52_1 (F : Nat) : Unit → Rz := fun _ => (some ((.agg 73 (.segs (.cons 8 (.rI .u32 [(1779033703 : Int),(3144134277 : Int),(1013904242 : Int),(2773480762 : Int),(1359893119 : Int),(2600822924 : Int),(528734635 : Int),(1541459225 : Int)]) (.cons 64 (.rI .u8 (List.replicate 64 0)) (.cons 1 (.one (.int .u64 0)) .nil))))),[]))
theorem f52_1_eq (F : Nat) : ∀ v,aexec VG0252 (Af52 F) (sub (bodyOf Tryd.f52) []) (ef52_a v) Kf5 = f52_1 F v := by
 intro _; kernel_rfl
def f52 (F : Nat) : Unit → Rz := f52_1 F
theorem f52_body (F : Nat)  : abody VG0252 (Af52 F) Tryd.f52 [] [] = f52 F () :=
 (abody_in (c := (sub (bodyOf Tryd.f52) [])) (by kernel_rfl) (s := ef52_a ()) (by kernel_rfl)).trans (f52_1_eq F ())
def r52 : CRun := fun X H => match X,H with
 | [],[] => some (true,(.agg 73 (.segs (.cons 8 (.rI .u32 Sha.iv) (.cons 64 (.rI .u8 (List.replicate 64 0)) (.cons 1 (.one (.int .u64 0)) .nil))))),[])
 | _,_ => none
theorem s52 : ∃ F,f52 F () = some ((.agg 73 (.segs (.cons 8 (.rI .u32 Sha.iv) (.cons 64 (.rI .u8 (List.replicate 64 0)) (.cons 1 (.one (.int .u64 0)) .nil))))),[]) := ⟨0,rfl⟩
theorem c52 : CallOk Tryd.prog G02 52 r52 := callOk_of (V := VG0252) mixed tys eVG0252 (f := 52) (fn := Tryd.f52) Tryd.func52 (by kernel_rfl) (c := sub (bodyOf Tryd.f52) []) (by kernel_rfl) (by
 intro X H r H' h hX hH
 unfold r52 at h; split at h <;> try contradiction
 ·simp only [Option.some.injEq,Prod.mk.injEq] at h
  obtain ⟨hp,rfl,rfl⟩ := h
  obtain ⟨F,hF⟩ := s52
  exact ⟨Af52 F,(f52_body F).trans hF⟩)
def lVG0253 : List CEnt := [(67,[none,some 5],r67)]
def VG0253 : Env := mkEnv T03 G02 lVG0253
noncomputable abbrev Kf6 := kFin VG0253 none (Tryd.f53).results.toList
theorem eVG0253 : EOk Tryd.prog VG0253 := eok_mk (by exact ⟨c67,trivial⟩)
def Af53 (F : Nat) : Cuts := { F := F,at_ := fun n => match n with | 1020 => some sp8 | _ => none,join := fun n => match n with | 1026 => some sp8 | 8003 => some [(2,.plain),(4,.plain)] | _ => none }
noncomputable abbrev XAf53 (F : Nat) {α : Type} := @aexec α VG0253 (Af53 F)
def ef53_a : Ty10 → St := fun (a0_0,a0_1,a0_2,a1) => ⟨[(0,(.agg 73 (.segs (.cons 8 (.rI .u32 a0_0) (.cons 64 (.rI .u8 a0_1) (.cons 1 (.one (.int .u64 a0_2)) .nil)))))),(1,.str a1)],[],0,38,0⟩
def ef53j1 : Ty11 → St := fun (t1,x2,x3,x4,x5,x6,x7) => ⟨[(1,.str t1),(2,.ptr 0 0 73 0 0 0 73),(4,.ptr 1 0 73 0 0 0 73)],[(0,(.cells 73 (.segs (.cons 8 (.rI .u32 x2) (.cons 64 (.rI .u8 x3) (.cons 1 (.one (.int .u64 x4)) .nil)))) true)),(1,(.cells 73 (.segs (.cons 8 (.rI .u32 x5) (.cons 64 (.rI .u8 x6) (.cons 1 (.one (.int .u64 x7)) .nil)))) true))],2,38,0⟩
def ef53l1 : Ty11 → St := ef53j1
def ef53j2 : Ty12 → St := fun (x1,x2,x3,x4,x5,x6) => ⟨[(2,.ptr 0 0 73 0 0 0 73),(4,.ptr 1 0 73 0 0 0 73)],[(0,(.cells 73 (.segs (.cons 8 (.rI .u32 x1) (.cons 64 (.rI .u8 x2) (.cons 1 (.one (.int .u64 x3)) .nil)))) true)),(1,(.cells 73 (.segs (.cons 8 (.rI .u32 x4) (.cons 64 (.rI .u8 x5) (.cons 1 (.one (.int .u64 x6)) .nil)))) true))],2,38,0⟩
def f53_1 (F : Nat) (kf53j1 : Ty11 → Rz) : Ty10 → Rz := fun (a0_0,a0_1,a0_2,a1) => (kf53j1 (a1,a0_0,a0_1,a0_2,[0,0,0,0,0,0,0,0],(List.replicate 64 0),(0 : Int)))
theorem f53_1_eq (F : Nat) (Rf53j1 : St → Rz) : ∀ v,XAf53 F (bp Tryd.f53 2) (ef53_a v) (kSeq (kc VG0253 Rf53j1 sp8) Kf6) = f53_1 F (Rf53j1 ∘ ef53j1) v := by
 rintro ⟨a0_0,a0_1,a0_2,a1⟩; kernel_rfl
def f53_2 (F : Nat) (kf53l1 : Ty11 → Rz) (kf53j2 : Ty12 → Rz) : Ty11 → Rz := fun (t1,x2,x3,x4,x5,x6,x7) => (cond (!((t1 : List Int) == ([] : List Int))) (cond (((decide (0 ≤ (IntKind.i64.wrap (Int.tmod x4 (64 : Int))))) && (decide ((IntKind.i64.wrap (Int.tmod x4 (64 : Int))) ≤ (64 : Int)))) && true) (cond (((decide (0 ≤ (↑(min t1.length (64 - (Int.toNat (IntKind.i64.wrap (Int.tmod x4 (64 : Int)))))) : Int))) && (decide ((↑(min t1.length (64 - (Int.toNat (IntKind.i64.wrap (Int.tmod x4 (64 : Int)))))) : Int) ≤ (↑t1.length : Int)))) && (decide ((↑t1.length : Int) ≤ (↑t1.length : Int)))) (cond ((IntKind.i64.wrap ((IntKind.i64.wrap (Int.tmod x4 (64 : Int))) + (↑(min t1.length (64 - (Int.toNat (IntKind.i64.wrap (Int.tmod x4 (64 : Int)))))) : Int))) == (64 : Int)) (cond (decide (((x3.take (Int.toNat (IntKind.i64.wrap (Int.tmod x4 (64 : Int)))) ++ (t1.take (min t1.length (64 - (Int.toNat (IntKind.i64.wrap (Int.tmod x4 (64 : Int))))))) ++ x3.drop ((Int.toNat (IntKind.i64.wrap (Int.tmod x4 (64 : Int)))) + (min t1.length (64 - (Int.toNat (IntKind.i64.wrap (Int.tmod x4 (64 : Int)))))))).take 64).length = 64)) (kf53l1 (((t1.take t1.length).drop (Int.toNat (↑(min t1.length (64 - (Int.toNat (IntKind.i64.wrap (Int.tmod x4 (64 : Int)))))) : Int))),(Sha.comp x2 ((x3.take (Int.toNat (IntKind.i64.wrap (Int.tmod x4 (64 : Int)))) ++ (t1.take (min t1.length (64 - (Int.toNat (IntKind.i64.wrap (Int.tmod x4 (64 : Int))))))) ++ x3.drop ((Int.toNat (IntKind.i64.wrap (Int.tmod x4 (64 : Int)))) + (min t1.length (64 - (Int.toNat (IntKind.i64.wrap (Int.tmod x4 (64 : Int)))))))).take 64)),(x3.take (Int.toNat (IntKind.i64.wrap (Int.tmod x4 (64 : Int)))) ++ (t1.take (min t1.length (64 - (Int.toNat (IntKind.i64.wrap (Int.tmod x4 (64 : Int))))))) ++ x3.drop ((Int.toNat (IntKind.i64.wrap (Int.tmod x4 (64 : Int)))) + (min t1.length (64 - (Int.toNat (IntKind.i64.wrap (Int.tmod x4 (64 : Int)))))))),(IntKind.u64.wrap (x4 + (IntKind.u64.wrap (↑(min t1.length (64 - (Int.toNat (IntKind.i64.wrap (Int.tmod x4 (64 : Int)))))) : Int)))),x5,x6,x7)) none) (kf53l1 (((t1.take t1.length).drop (Int.toNat (↑(min t1.length (64 - (Int.toNat (IntKind.i64.wrap (Int.tmod x4 (64 : Int)))))) : Int))),x2,(x3.take (Int.toNat (IntKind.i64.wrap (Int.tmod x4 (64 : Int)))) ++ (t1.take (min t1.length (64 - (Int.toNat (IntKind.i64.wrap (Int.tmod x4 (64 : Int))))))) ++ x3.drop ((Int.toNat (IntKind.i64.wrap (Int.tmod x4 (64 : Int)))) + (min t1.length (64 - (Int.toNat (IntKind.i64.wrap (Int.tmod x4 (64 : Int)))))))),(IntKind.u64.wrap (x4 + (IntKind.u64.wrap (↑(min t1.length (64 - (Int.toNat (IntKind.i64.wrap (Int.tmod x4 (64 : Int)))))) : Int)))),x5,x6,x7))) none) none) (kf53j2 (x2,x3,x4,x5,x6,x7)))
theorem f53_2_eq (F : Nat) (Rf53l1 : St → Rz) (Rf53j2 : St → Rz) : ∀ v,XAf53 F (bp Tryd.f53 24) (ef53l1 v) (kSeq (kc VG0253 Rf53l1 sp8) (kBlock 0 (kSeq (kc VG0253 Rf53j2 [(2,.plain),(4,.plain)]) Kf6))) = f53_2 F (Rf53l1 ∘ ef53l1) (Rf53j2 ∘ ef53j2) v := by
 rintro ⟨t1,x2,x3,x4,x5,x6,x7⟩; kernel_rfl
def f53_3_i : Ty11 → Li × Li × Li × Int × Li × Li × Int := fun (t1,x2,x3,x4,x5,x6,x7) => (t1,x2,x3,x4,x5,x6,x7)
def f53_3 (F : Nat) (kf53j2 : Ty12 → Rz) : Ty11 → Rz := fun v => loopN (fun k => f53_2 F k kf53j2) F (f53_3_i v)
theorem f53_3_eq (F : Nat) (Rf53j2 : St → Rz) : ∀ v,XAf53 F (bp Tryd.f53 12) (ef53j1 v) (kBlock 0 (kSeq (kc VG0253 Rf53j2 [(2,.plain),(4,.plain)]) Kf6)) = f53_3 F (Rf53j2 ∘ ef53j2) v :=
 loop_cut (by kernel_rfl) (by kernel_rfl) ef53j1 ef53l1 _ f53_3_i (fun k => f53_2 F k (Rf53j2 ∘ ef53j2))
  (by rintro ⟨t1,x2,x3,x4,x5,x6,x7⟩; kernel_rfl) (fun Rf53l1 => f53_2_eq F Rf53l1 Rf53j2)
def f53_4 (F : Nat) (kf53j2 : Ty12 → Rz) : Ty11 → Rz := f53_3 F kf53j2
theorem f53_4_eq (F : Nat) (Rf53j2 : St → Rz) : ∀ v,XAf53 F (bp Tryd.f53 6) (ef53j1 v) (kSeq (kc VG0253 Rf53j2 [(2,.plain),(4,.plain)]) Kf6) = f53_4 F (Rf53j2 ∘ ef53j2) v := fun v =>
 (block_in  (by kernel_rfl) _ _).trans (f53_3_eq F Rf53j2 v)
def f53_5 (F : Nat) : Ty12 → Rz := fun (x1,x2,x3,x4,x5,x6) => (some ((.agg 73 (.segs (.cons 8 (.rI .u32 x1) (.cons 64 (.rI .u8 x2) (.cons 1 (.one (.int .u64 x3)) .nil))))),[]))
theorem f53_5_eq (F : Nat) : ∀ v,XAf53 F (bp Tryd.f53 7) (ef53j2 v) Kf6 = f53_5 F v := by
 rintro ⟨x1,x2,x3,x4,x5,x6⟩; kernel_rfl
def f53_6 (F : Nat) : Ty11 → Rz := fun v => f53_4 F (f53_5 F) v
theorem f53_6_eq (F : Nat) : ∀ v,XAf53 F (bp Tryd.f53 3) (ef53j1 v) Kf6 = f53_6 F v :=
 seq_cut (by kernel_rfl) (by kernel_rfl) ef53j1 ef53j2 _ (fun k => f53_4 F k) (f53_5 F)
  (fun Rf53j2 => f53_4_eq F Rf53j2) (f53_5_eq F)
def f53_7 (F : Nat) : Ty10 → Rz := fun v => f53_1 F (f53_6 F) v
theorem f53_7_eq (F : Nat) : ∀ v,XAf53 F (sub (bodyOf Tryd.f53) []) (ef53_a v) Kf6 = f53_7 F v :=
 seq_cut (by kernel_rfl) (by kernel_rfl) ef53_a ef53j1 _ (fun k => f53_1 F k) (f53_6 F)
  (fun Rf53j1 => f53_1_eq F Rf53j1) (f53_6_eq F)
def f53 (F : Nat) : Ty10 → Rz := f53_7 F
theorem f53_body (F : Nat) (a0_0 : List Int) (a0_1 : List Int) (a0_2 : Int) (a1 : List Int) : abody VG0253 (Af53 F) Tryd.f53 [(.agg 73 (.segs (.cons 8 (.rI .u32 a0_0) (.cons 64 (.rI .u8 a0_1) (.cons 1 (.one (.int .u64 a0_2)) .nil))))),.str a1] [] = f53 F (a0_0,a0_1,a0_2,a1) :=
 (abody_in (c := (sub (bodyOf Tryd.f53) [])) (by kernel_rfl) (s := ef53_a (a0_0,a0_1,a0_2,a1)) (by kernel_rfl)).trans (f53_7_eq F (a0_0,a0_1,a0_2,a1))
def r53 : CRun := fun X H => match X,H with
 | [(.agg 73 (.segs (.cons 8 (.rI .u32 a0_0) (.cons 64 (.rI .u8 a0_1) (.cons 1 (.one (.int .u64 a0_2)) .nil))))),.str a1],[] => some (true,(.agg 73 (.segs (.cons 8 (.rI .u32 (Sha.addS (a0_0,a0_1,a0_2) a1).1) (.cons 64 (.rI .u8 (Sha.addS (a0_0,a0_1,a0_2) a1).2.1) (.cons 1 (.one (.int .u64 (Sha.addS (a0_0,a0_1,a0_2) a1).2.2)) .nil))))),[])
 | _,_ => none
theorem ok_str {a b : List Int} {n : Int} (h : okV (.agg 73 (.segs (.cons 8 (.rI .u32 a) (.cons 64 (.rI .u8 b) (.cons 1 (.one (.int .u64 n)) .nil)))))) : a.length = 8 ∧ b.length = 64 ∧ 0 ≤ n ∧ n ≤ 18446744073709551615 := by
 obtain ⟨h1,_,h3⟩ := h
 simp only [AV.wf,AVs.wfS,AV.size,true_and,and_true] at h1
 have := h3 72 (by omega)
 exact ⟨h1.1,h1.2.1,this⟩
theorem s53 (a0_0 : List Int) (a0_1 : List Int) (a0_2 : Int) (a1 : List Int) (h0 : okV (.agg 73 (.segs (.cons 8 (.rI .u32 a0_0) (.cons 64 (.rI .u8 a0_1) (.cons 1 (.one (.int .u64 a0_2)) .nil)))))) (h1 : okV (.str a1)) : ∃ F,f53 F (a0_0,a0_1,a0_2,a1) = some ((.agg 73 (.segs (.cons 8 (.rI .u32 (Sha.addS (a0_0,a0_1,a0_2) a1).1) (.cons 64 (.rI .u8 (Sha.addS (a0_0,a0_1,a0_2) a1).2.1) (.cons 1 (.one (.int .u64 (Sha.addS (a0_0,a0_1,a0_2) a1).2.2)) .nil))))),[]) := by
 obtain ⟨_,hb,hn0,hn1⟩ := ok_str h0
 refine ⟨a1.length + 1,?_⟩
 simp only [f53,f53_7,f53_1,f53_6,f53_4,f53_3,f53_3_i]
 generalize hR : Sha.addS (a0_0,a0_1,a0_2) a1 = R
 refine loopN_ind (fun m s => s.1.length = m ∧ m < 4611686018427387904 ∧ s.2.2.1.length = 64 ∧ 0 ≤ s.2.2.2.1 ∧ s.2.2.2.1 ≤ 18446744073709551615 ∧ Sha.addS (s.2.1,s.2.2.1,s.2.2.2.1) s.1 = R) ?_ _ a1.length _ (by omega) ⟨rfl,h1.1,hb,hn0,hn1,hR⟩
 rintro m ⟨t1,x2,x3,x4,x5,x6,x7⟩ k ⟨g1,gm,g2,g3,g4,g5⟩ hk
 simp only at g1 g2 g3 g4 g5 hk
 simp only [f53_2]
 by_cases ht : t1 = []
 ·subst ht
  rw [Sha.addS_nil] at g5
  subst g5
  rfl
 ·have hne : (!(t1 == [])) = true := by simp [ht]
  have hpos : 0 < t1.length := List.length_pos_iff.mpr ht
  rw [hne]
  simp only [cond_true]
  have hat : IntKind.i64.wrap (Int.tmod x4 (64 : Int)) = ((x4 % 64).toNat : Int) := by
   rw [Int.tmod_eq_emod_of_nonneg g3,i64w (by omega) (by omega)]; omega
  simp only [hat,Int.toNat_natCast,Bool.and_true,dec_and,int_beq]
  generalize hA : (x4 % 64).toNat = A
  generalize hK : min t1.length (64 - A) = k0
  rw [cond_pos (by omega),cond_pos (by omega),i64w (x := (A : Int) + (k0 : Int)) (by omega) (by omega),List.take_of_length_le (Nat.le_refl t1.length)]
  have hch := Sha.addS_chunk (t1.take k0) x2 x3 x4 g2 g3 g4 (by rw [List.length_take]; omega)
  have hlen : (t1.take k0).length = k0 := by rw [List.length_take]; omega
  rw [hA,hlen] at hch
  have hsplit : Sha.addS (x2,x3,x4) t1 = Sha.addS (Sha.addS (x2,x3,x4) (t1.take k0)) (t1.drop k0) := by
   rw [← Sha.addS_append,List.take_append_drop]
  rw [hch] at hsplit
  have hw : IntKind.u64.wrap (x4 + IntKind.u64.wrap (k0 : Int)) = IntKind.u64.wrap (x4 + (k0 : Int)) := by simp only [u64mod]; omega
  have hx3 : (x3.take A ++ t1.take k0 ++ x3.drop (A + k0)).length = 64 := by simp [g2]; omega
  by_cases h64 : A + k0 = 64
  ·rw [cond_pos (show ((A : Int) + (k0 : Int) = 64) by omega),List.take_of_length_le (l := (x3.take A ++ t1.take k0 ++ x3.drop (A + k0))) (by rw [hx3]; exact Nat.le_refl _),cond_pos hx3]
   rw [if_pos h64] at hsplit
   refine hk (m - k0) _ (by omega) ⟨by simp only []; rw [List.length_drop]; omega,by omega,hx3,?_,?_,?_⟩
   ·simp only [u64mod]; omega
   ·simp only [u64mod]; omega
   ·simp only []; rw [hw,← hsplit]; exact g5
  ·rw [cond_neg (show ¬ ((A : Int) + (k0 : Int) = 64) by omega)]
   rw [if_neg h64] at hsplit
   refine hk (m - k0) _ (by omega) ⟨by simp only []; rw [List.length_drop]; omega,by omega,hx3,?_,?_,?_⟩
   ·simp only [u64mod]; omega
   ·simp only [u64mod]; omega
   ·simp only []; rw [hw,← hsplit]; exact g5
theorem c53 : CallOk Tryd.prog G02 53 r53 := callOk_of (V := VG0253) mixed tys eVG0253 (f := 53) (fn := Tryd.f53) Tryd.func53 (by kernel_rfl) (c := sub (bodyOf Tryd.f53) []) (by kernel_rfl) (by
 intro X H r H' h hX hH
 unfold r53 at h; split at h <;> try contradiction
 ·simp only [Option.some.injEq,Prod.mk.injEq] at h
  obtain ⟨hp,rfl,rfl⟩ := h
  obtain ⟨F,hF⟩ := s53 _ _ _ _ (hX _ (.head _)) (hX _ (.tail _ (.head _)))
  exact ⟨Af53 F,(f53_body F _ _ _ _).trans hF⟩)
def lVG0255 : List CEnt := [(53,[none,none],r53)]
def VG0255 : Env := mkEnv T03 G02 lVG0255
noncomputable abbrev Kf7 := kFin VG0255 none (Tryd.f55).results.toList
theorem eVG0255 : EOk Tryd.prog VG0255 := eok_mk (by exact ⟨c53,trivial⟩)
def Af55 (F : Nat) : Cuts := { F := F,at_ := fun n => match n with | 3008 => some sp12 | 6012 => some sp13 | 13012 => some sp14 | _ => none,join := fun n => match n with | 1056 => some [(1,.plain),(2,.plain)] | 2054 => some sp15 | 3052 => some sp12 | 5041 => some sp12 | 6014 => some sp13 | 10024 => some sp8 | 11022 => some [(1,.plain),(2,.plain)] | 12020 => some sp16 | 13014 => some sp14 | 17003 => some [(2,.plain),(6,.plain)] | _ => none }
noncomputable abbrev XAf55 (F : Nat) {α : Type} := @aexec α VG0255 (Af55 F)
def ef55_a : Ty13 → St := fun (a0_0,a0_1,a0_2) => ⟨[(0,(.agg 73 (.segs (.cons 8 (.rI .u32 a0_0) (.cons 64 (.rI .u8 a0_1) (.cons 1 (.one (.int .u64 a0_2)) .nil))))))],[],0,58,0⟩
def ef55j1 : Ty10 → St := fun (x1,x2,x3,x4) => ⟨[(1,.ptr 0 0 73 0 0 0 73),(2,.ptr 1 0 32 0 0 0 32)],[(0,(.cells 73 (.segs (.cons 8 (.rI .u32 x1) (.cons 64 (.rI .u8 x2) (.cons 1 (.one (.int .u64 x3)) .nil)))) true)),(1,(.cells 32 (.rI .u8 x4) true))],2,58,0⟩
def ef55j2 : Ty14 → St := fun (t3,x2,x3,x4,x5) => ⟨[(1,.ptr 0 0 73 0 0 0 73),(2,.ptr 1 0 32 0 0 0 32),(3,.int .u64 t3)],[(0,(.cells 73 (.segs (.cons 8 (.rI .u32 x2) (.cons 64 (.rI .u8 x3) (.cons 1 (.one (.int .u64 x4)) .nil)))) true)),(1,(.cells 32 (.rI .u8 x5) true))],2,58,0⟩
def ef55j3 : Ty15 → St := fun (t3,x2,x3,x4,x5,x6) => ⟨[(1,.ptr 0 0 73 0 0 0 73),(2,.ptr 1 0 32 0 0 0 32),(3,.int .u64 t3),(4,.own 2 0 1)],[(0,(.cells 73 (.segs (.cons 8 (.rI .u32 x2) (.cons 64 (.rI .u8 x3) (.cons 1 (.one (.int .u64 x4)) .nil)))) true)),(1,(.cells 32 (.rI .u8 x5) true)),(2,(.cells x6.length (.rI .u8 x6) true))],3,58,0⟩
def ef55l1 : Ty15 → St := ef55j3
def ef55j4 : Ty15 → St := ef55j3
def ef55j5 : Ty16 → St := fun (t3,t23,x3,x4,x5,x6,x7) => ⟨[(1,.ptr 0 0 73 0 0 0 73),(2,.ptr 1 0 32 0 0 0 32),(3,.int .u64 t3),(4,.own 2 0 1),(23,.int .i64 t23)],[(0,(.cells 73 (.segs (.cons 8 (.rI .u32 x3) (.cons 64 (.rI .u8 x4) (.cons 1 (.one (.int .u64 x5)) .nil)))) true)),(1,(.cells 32 (.rI .u8 x6) true)),(2,(.cells x7.length (.rI .u8 x7) true))],3,58,0⟩
def ef55l2 : Ty16 → St := ef55j5
def ef55j6 : Ty17 → St := fun (x1,x2,x3,x4,x5) => ⟨[(1,.ptr 0 0 73 0 0 0 73),(2,.ptr 1 0 32 0 0 0 32),(4,.own 2 0 1)],[(0,(.cells 73 (.segs (.cons 8 (.rI .u32 x1) (.cons 64 (.rI .u8 x2) (.cons 1 (.one (.int .u64 x3)) .nil)))) true)),(1,(.cells 32 (.rI .u8 x4) true)),(2,(.cells x5.length (.rI .u8 x5) true))],3,58,0⟩
def ef55j7 : Ty10 → St := ef55j1
def ef55j8 : Ty17 → St := fun (x1,x2,x3,x4,x5) => ⟨[(1,.ptr 0 0 73 0 0 0 73),(2,.ptr 1 0 32 0 0 0 32),(6,.ptr 2 0 32 0 0 0 32)],[(0,(.cells 73 (.segs (.cons 8 (.rI .u32 x1) (.cons 64 (.rI .u8 x2) (.cons 1 (.one (.int .u64 x3)) .nil)))) true)),(1,(.cells 32 (.rI .u8 x4) true)),(2,(.cells 32 (.rI .u8 x5) true))],3,58,0⟩
def ef55j9 : Ty15 → St := fun (t40,x2,x3,x4,x5,x6) => ⟨[(1,.ptr 0 0 73 0 0 0 73),(2,.ptr 1 0 32 0 0 0 32),(6,.ptr 2 0 32 0 0 0 32),(40,.int .i64 t40)],[(0,(.cells 73 (.segs (.cons 8 (.rI .u32 x2) (.cons 64 (.rI .u8 x3) (.cons 1 (.one (.int .u64 x4)) .nil)))) true)),(1,(.cells 32 (.rI .u8 x5) true)),(2,(.cells 32 (.rI .u8 x6) true))],3,58,0⟩
def ef55l3 : Ty15 → St := ef55j9
def ef55j10 : Li × Li → St := fun (x1,x2) => ⟨[(2,.ptr 0 0 32 0 0 0 32),(6,.ptr 1 0 32 0 0 0 32)],[(0,(.cells 32 (.rI .u8 x1) true)),(1,(.cells 32 (.rI .u8 x2) true))],2,58,0⟩
def f55_1 (F : Nat) (kf55j1 : Ty10 → Rz) : Ty13 → Rz := fun (a0_0,a0_1,a0_2) => (kf55j1 (a0_0,a0_1,a0_2,(List.replicate 32 0)))
theorem f55_1_eq (F : Nat) (Rf55j1 : St → Rz) : ∀ v,XAf55 F (bp Tryd.f55 2) (ef55_a v) (kSeq (kc VG0255 Rf55j1 [(1,.plain),(2,.plain)]) Kf7) = f55_1 F (Rf55j1 ∘ ef55j1) v := by
 rintro ⟨a0_0,a0_1,a0_2⟩; kernel_rfl
def f55_2 (F : Nat) (kf55j2 : Ty14 → Rz) : Ty10 → Rz := fun (x1,x2,x3,x4) => (kf55j2 ((IntKind.u64.wrap ((8 : Int) * x3)),x1,x2,x3,x4))
theorem f55_2_eq (F : Nat) (Rf55j2 : St → Rz) : ∀ v,XAf55 F (bp Tryd.f55 6) (ef55j1 v) (kSeq (kc VG0255 Rf55j2 sp15) Kf7) = f55_2 F (Rf55j2 ∘ ef55j2) v := by
 rintro ⟨x1,x2,x3,x4⟩; kernel_rfl
def f55_3 (F : Nat) (kf55j3 : Ty15 → Rz) : Ty14 → Rz := fun (t3,x2,x3,x4,x5) => (kf55j3 (t3,x2,x3,x4,x5,[(128 : Int)]))
theorem f55_3_eq (F : Nat) (Rf55j3 : St → Rz) : ∀ v,XAf55 F (bp Tryd.f55 14) (ef55j2 v) (kSeq (kc VG0255 Rf55j3 sp12) Kf7) = f55_3 F (Rf55j3 ∘ ef55j3) v := by
 rintro ⟨t3,x2,x3,x4,x5⟩; kernel_rfl
def f55_4 (F : Nat) (kf55l1 : Ty15 → Rz) (kf55j4 : Ty15 → Rz) : Ty15 → Rz := fun (t3,x2,x3,x4,x5,x6) => (cond ((Int.tmod (IntKind.i64.wrap ((IntKind.i64.wrap x4) + (↑x6.length : Int))) (64 : Int)) != (56 : Int)) (cond (decide ((x6.length + 1) < 1073741824)) (kf55l1 (t3,x2,x3,x4,x5,(x6 ++ [(0 : Int)]))) none) (kf55j4 (t3,x2,x3,x4,x5,x6)))
theorem f55_4_eq (F : Nat) (Rf55l1 : St → Rz) (Rf55j4 : St → Rz) : ∀ v,XAf55 F (bp Tryd.f55 120) (ef55l1 v) (kSeq (kc VG0255 Rf55l1 sp12) (kBlock 0 (kSeq (kc VG0255 Rf55j4 sp12) Kf7))) = f55_4 F (Rf55l1 ∘ ef55l1) (Rf55j4 ∘ ef55j4) v := by
 rintro ⟨t3,x2,x3,x4,x5,x6⟩; kernel_rfl
def f55_5_i : Ty15 → Int × Li × Li × Int × Li × Li := fun (t3,x2,x3,x4,x5,x6) => (t3,x2,x3,x4,x5,x6)
def f55_5 (F : Nat) (kf55j4 : Ty15 → Rz) : Ty15 → Rz := fun v => loopN (fun k => f55_4 F k kf55j4) F (f55_5_i v)
theorem f55_5_eq (F : Nat) (Rf55j4 : St → Rz) : ∀ v,XAf55 F (bp Tryd.f55 60) (ef55j3 v) (kBlock 0 (kSeq (kc VG0255 Rf55j4 sp12) Kf7)) = f55_5 F (Rf55j4 ∘ ef55j4) v :=
 loop_cut (by kernel_rfl) (by kernel_rfl) ef55j3 ef55l1 _ f55_5_i (fun k => f55_4 F k (Rf55j4 ∘ ef55j4))
  (by rintro ⟨t3,x2,x3,x4,x5,x6⟩; kernel_rfl) (fun Rf55l1 => f55_4_eq F Rf55l1 Rf55j4)
def f55_6 (F : Nat) (kf55j4 : Ty15 → Rz) : Ty15 → Rz := f55_5 F kf55j4
theorem f55_6_eq (F : Nat) (Rf55j4 : St → Rz) : ∀ v,XAf55 F (bp Tryd.f55 30) (ef55j3 v) (kSeq (kc VG0255 Rf55j4 sp12) Kf7) = f55_6 F (Rf55j4 ∘ ef55j4) v := fun v =>
 (block_in  (by kernel_rfl) _ _).trans (f55_5_eq F Rf55j4 v)
def f55_7 (F : Nat) (kf55j5 : Ty16 → Rz) (kf55j6 : Ty17 → Rz) : Ty15 → Rz := fun (t3,x2,x3,x4,x5,x6) => (kf55j5 (t3,(0 : Int),x2,x3,x4,x5,x6))
theorem f55_7_eq (F : Nat) (Rf55j5 : St → Rz) (Rf55j6 : St → Rz) : ∀ v,XAf55 F (bp Tryd.f55 124) (ef55j4 v) (kSeq (kc VG0255 Rf55j5 sp13) (kSeq (kc VG0255 Rf55j6 sp8) Kf7)) = f55_7 F (Rf55j5 ∘ ef55j5) (Rf55j6 ∘ ef55j6) v := by
 rintro ⟨t3,x2,x3,x4,x5,x6⟩; kernel_rfl
def f55_8 (F : Nat) (kf55l2 : Ty16 → Rz) (kf55j6 : Ty17 → Rz) : Ty16 → Rz := fun (t3,t23,x3,x4,x5,x6,x7) => (cond (decide (t23 < (8 : Int))) (cond (decide (0 ≤ (IntKind.i64.wrap ((56 : Int) - (IntKind.i64.wrap ((8 : Int) * t23)))))) (cond (decide ((x7.length + 1) < 1073741824)) (kf55l2 (t3,(IntKind.i64.wrap (t23 + (1 : Int))),x3,x4,x5,x6,(x7 ++ [(IntKind.u8.wrap (Int.fdiv t3 (2 ^ (min (Int.toNat (IntKind.i64.wrap ((56 : Int) - (IntKind.i64.wrap ((8 : Int) * t23))))) 64))))]))) none) none) (kf55j6 (x3,x4,x5,x6,x7)))
theorem f55_8_eq (F : Nat) (Rf55l2 : St → Rz) (Rf55j6 : St → Rz) : ∀ v,XAf55 F (bp Tryd.f55 500) (ef55l2 v) (kSeq (kc VG0255 Rf55l2 sp13) (kBlock 2 (kSeq (kc VG0255 Rf55j6 sp8) Kf7))) = f55_8 F (Rf55l2 ∘ ef55l2) (Rf55j6 ∘ ef55j6) v := by
 rintro ⟨t3,t23,x3,x4,x5,x6,x7⟩; kernel_rfl
def f55_9_i : Ty16 → Int × Int × Li × Li × Int × Li × Li := fun (t3,t23,x3,x4,x5,x6,x7) => (t3,t23,x3,x4,x5,x6,x7)
def f55_9 (F : Nat) (kf55j6 : Ty17 → Rz) : Ty16 → Rz := fun v => loopN (fun k => f55_8 F k kf55j6) F (f55_9_i v)
theorem f55_9_eq (F : Nat) (Rf55j6 : St → Rz) : ∀ v,XAf55 F (bp Tryd.f55 250) (ef55j5 v) (kBlock 2 (kSeq (kc VG0255 Rf55j6 sp8) Kf7)) = f55_9 F (Rf55j6 ∘ ef55j6) v :=
 loop_cut (by kernel_rfl) (by kernel_rfl) ef55j5 ef55l2 _ f55_9_i (fun k => f55_8 F k (Rf55j6 ∘ ef55j6))
  (by rintro ⟨t3,t23,x3,x4,x5,x6,x7⟩; kernel_rfl) (fun Rf55l2 => f55_8_eq F Rf55l2 Rf55j6)
def f55_10 (F : Nat) (kf55j6 : Ty17 → Rz) : Ty16 → Rz := f55_9 F kf55j6
theorem f55_10_eq (F : Nat) (Rf55j6 : St → Rz) : ∀ v,XAf55 F (bp Tryd.f55 125) (ef55j5 v) (kSeq (kc VG0255 Rf55j6 sp8) Kf7) = f55_10 F (Rf55j6 ∘ ef55j6) v := fun v =>
 (block_in  (by kernel_rfl) _ _).trans (f55_9_eq F Rf55j6 v)
def f55_11 (F : Nat) (kf55j6 : Ty17 → Rz) : Ty15 → Rz := fun v => f55_7 F (f55_10 F kf55j6) kf55j6 v
theorem f55_11_eq (F : Nat) (Rf55j6 : St → Rz) : ∀ v,XAf55 F (bp Tryd.f55 62) (ef55j4 v) (kSeq (kc VG0255 Rf55j6 sp8) Kf7) = f55_11 F (Rf55j6 ∘ ef55j6) v :=
 seq_cut (by kernel_rfl) (by kernel_rfl) ef55j4 ef55j5 _ (fun k => f55_7 F k (Rf55j6 ∘ ef55j6)) (f55_10 F (Rf55j6 ∘ ef55j6))
  (fun Rf55j5 => f55_7_eq F Rf55j5 Rf55j6) (f55_10_eq F Rf55j6)
def f55_12 (F : Nat) (kf55j7 : Ty10 → Rz) : Ty17 → Rz := fun (x1,x2,x3,x4,x5) => (kf55j7 ((Sha.addS (x1,x2,x3) x5).1,(Sha.addS (x1,x2,x3) x5).2.1,(Sha.addS (x1,x2,x3) x5).2.2,x4))
theorem f55_12_eq (F : Nat) (Rf55j7 : St → Rz) : ∀ v,XAf55 F (bp Tryd.f55 126) (ef55j6 v) (kSeq (kc VG0255 Rf55j7 [(1,.plain),(2,.plain)]) Kf7) = f55_12 F (Rf55j7 ∘ ef55j7) v := by
 rintro ⟨x1,x2,x3,x4,x5⟩; kernel_rfl
def f55_13 (F : Nat) (kf55j8 : Ty17 → Rz) : Ty10 → Rz := fun (x1,x2,x3,x4) => (kf55j8 (x1,x2,x3,x4,(List.replicate 32 0)))
theorem f55_13_eq (F : Nat) (Rf55j8 : St → Rz) : ∀ v,XAf55 F (bp Tryd.f55 254) (ef55j7 v) (kSeq (kc VG0255 Rf55j8 sp16) Kf7) = f55_13 F (Rf55j8 ∘ ef55j8) v := by
 rintro ⟨x1,x2,x3,x4⟩; kernel_rfl
def f55_14 (F : Nat) (kf55j9 : Ty15 → Rz) (kf55j10 : Li × Li → Rz) : Ty17 → Rz := fun (x1,x2,x3,x4,x5) => (kf55j9 ((0 : Int),x1,x2,x3,x4,x5))
theorem f55_14_eq (F : Nat) (Rf55j9 : St → Rz) (Rf55j10 : St → Rz) : ∀ v,XAf55 F (bp Tryd.f55 1020) (ef55j8 v) (kSeq (kc VG0255 Rf55j9 sp14) (kSeq (kc VG0255 Rf55j10 [(2,.plain),(6,.plain)]) Kf7)) = f55_14 F (Rf55j9 ∘ ef55j9) (Rf55j10 ∘ ef55j10) v := by
 rintro ⟨x1,x2,x3,x4,x5⟩; kernel_rfl
def f55_15 (F : Nat) (kf55l3 : Ty15 → Rz) (kf55j10 : Li × Li → Rz) : Ty15 → Rz := fun (t40,x2,x3,x4,x5,x6) => (cond (decide (t40 < (32 : Int))) (cond ((decide (0 ≤ (IntKind.i64.wrap (Int.tdiv t40 (4 : Int))))) && (decide ((IntKind.i64.wrap (Int.tdiv t40 (4 : Int))) < (8 : Int)))) (cond (decide (0 ≤ (IntKind.i64.wrap ((24 : Int) - (IntKind.i64.wrap ((8 : Int) * (Int.tmod t40 (4 : Int)))))))) (cond ((decide (0 ≤ t40)) && (decide (t40 < (32 : Int)))) (kf55l3 ((IntKind.i64.wrap (t40 + (1 : Int))),x2,x3,x4,x5,(x6.set (Int.toNat t40) (IntKind.u8.wrap (Int.fdiv (x2.getD (Int.toNat (IntKind.i64.wrap (Int.tdiv t40 (4 : Int)))) 0) (2 ^ (min (Int.toNat (IntKind.i64.wrap ((24 : Int) - (IntKind.i64.wrap ((8 : Int) * (Int.tmod t40 (4 : Int))))))) 32))))))) none) none) none) (kf55j10 (x5,x6)))
theorem f55_15_eq (F : Nat) (Rf55l3 : St → Rz) (Rf55j10 : St → Rz) : ∀ v,XAf55 F (bp Tryd.f55 4084) (ef55l3 v) (kSeq (kc VG0255 Rf55l3 sp14) (kBlock 4 (kSeq (kc VG0255 Rf55j10 [(2,.plain),(6,.plain)]) Kf7))) = f55_15 F (Rf55l3 ∘ ef55l3) (Rf55j10 ∘ ef55j10) v := by
 rintro ⟨t40,x2,x3,x4,x5,x6⟩; kernel_rfl
def f55_16_i : Ty15 → Int × Li × Li × Int × Li × Li := fun (t40,x2,x3,x4,x5,x6) => (t40,x2,x3,x4,x5,x6)
def f55_16 (F : Nat) (kf55j10 : Li × Li → Rz) : Ty15 → Rz := fun v => loopN (fun k => f55_15 F k kf55j10) F (f55_16_i v)
theorem f55_16_eq (F : Nat) (Rf55j10 : St → Rz) : ∀ v,XAf55 F (bp Tryd.f55 2042) (ef55j9 v) (kBlock 4 (kSeq (kc VG0255 Rf55j10 [(2,.plain),(6,.plain)]) Kf7)) = f55_16 F (Rf55j10 ∘ ef55j10) v :=
 loop_cut (by kernel_rfl) (by kernel_rfl) ef55j9 ef55l3 _ f55_16_i (fun k => f55_15 F k (Rf55j10 ∘ ef55j10))
  (by rintro ⟨t40,x2,x3,x4,x5,x6⟩; kernel_rfl) (fun Rf55l3 => f55_15_eq F Rf55l3 Rf55j10)
def f55_17 (F : Nat) (kf55j10 : Li × Li → Rz) : Ty15 → Rz := f55_16 F kf55j10
theorem f55_17_eq (F : Nat) (Rf55j10 : St → Rz) : ∀ v,XAf55 F (bp Tryd.f55 1021) (ef55j9 v) (kSeq (kc VG0255 Rf55j10 [(2,.plain),(6,.plain)]) Kf7) = f55_17 F (Rf55j10 ∘ ef55j10) v := fun v =>
 (block_in  (by kernel_rfl) _ _).trans (f55_16_eq F Rf55j10 v)
def f55_18 (F : Nat) (kf55j10 : Li × Li → Rz) : Ty17 → Rz := fun v => f55_14 F (f55_17 F kf55j10) kf55j10 v
theorem f55_18_eq (F : Nat) (Rf55j10 : St → Rz) : ∀ v,XAf55 F (bp Tryd.f55 510) (ef55j8 v) (kSeq (kc VG0255 Rf55j10 [(2,.plain),(6,.plain)]) Kf7) = f55_18 F (Rf55j10 ∘ ef55j10) v :=
 seq_cut (by kernel_rfl) (by kernel_rfl) ef55j8 ef55j9 _ (fun k => f55_14 F k (Rf55j10 ∘ ef55j10)) (f55_17 F (Rf55j10 ∘ ef55j10))
  (fun Rf55j9 => f55_14_eq F Rf55j9 Rf55j10) (f55_17_eq F Rf55j10)
def f55_19 (F : Nat) : Li × Li → Rz := fun (x1,x2) => (some ((.agg 32 (.rI .u8 x2)),[]))
theorem f55_19_eq (F : Nat) : ∀ v,XAf55 F (bp Tryd.f55 511) (ef55j10 v) Kf7 = f55_19 F v := by
 rintro ⟨x1,x2⟩; kernel_rfl
def f55_20 (F : Nat) : Ty17 → Rz := fun v => f55_18 F (f55_19 F) v
theorem f55_20_eq (F : Nat) : ∀ v,XAf55 F (bp Tryd.f55 255) (ef55j8 v) Kf7 = f55_20 F v :=
 seq_cut (by kernel_rfl) (by kernel_rfl) ef55j8 ef55j10 _ (fun k => f55_18 F k) (f55_19 F)
  (fun Rf55j10 => f55_18_eq F Rf55j10) (f55_19_eq F)
def f55_21 (F : Nat) : Ty10 → Rz := fun v => f55_13 F (f55_20 F) v
theorem f55_21_eq (F : Nat) : ∀ v,XAf55 F (bp Tryd.f55 127) (ef55j7 v) Kf7 = f55_21 F v :=
 seq_cut (by kernel_rfl) (by kernel_rfl) ef55j7 ef55j8 _ (fun k => f55_13 F k) (f55_20 F)
  (fun Rf55j8 => f55_13_eq F Rf55j8) (f55_20_eq F)
def f55_22 (F : Nat) : Ty17 → Rz := fun v => f55_12 F (f55_21 F) v
theorem f55_22_eq (F : Nat) : ∀ v,XAf55 F (bp Tryd.f55 63) (ef55j6 v) Kf7 = f55_22 F v :=
 seq_cut (by kernel_rfl) (by kernel_rfl) ef55j6 ef55j7 _ (fun k => f55_12 F k) (f55_21 F)
  (fun Rf55j7 => f55_12_eq F Rf55j7) (f55_21_eq F)
def f55_23 (F : Nat) : Ty15 → Rz := fun v => f55_11 F (f55_22 F) v
theorem f55_23_eq (F : Nat) : ∀ v,XAf55 F (bp Tryd.f55 31) (ef55j4 v) Kf7 = f55_23 F v :=
 seq_cut (by kernel_rfl) (by kernel_rfl) ef55j4 ef55j6 _ (fun k => f55_11 F k) (f55_22 F)
  (fun Rf55j6 => f55_11_eq F Rf55j6) (f55_22_eq F)
def f55_24 (F : Nat) : Ty15 → Rz := fun v => f55_6 F (f55_23 F) v
theorem f55_24_eq (F : Nat) : ∀ v,XAf55 F (bp Tryd.f55 15) (ef55j3 v) Kf7 = f55_24 F v :=
 seq_cut (by kernel_rfl) (by kernel_rfl) ef55j3 ef55j4 _ (fun k => f55_6 F k) (f55_23 F)
  (fun Rf55j4 => f55_6_eq F Rf55j4) (f55_23_eq F)
def f55_25 (F : Nat) : Ty14 → Rz := fun v => f55_3 F (f55_24 F) v
theorem f55_25_eq (F : Nat) : ∀ v,XAf55 F (bp Tryd.f55 7) (ef55j2 v) Kf7 = f55_25 F v :=
 seq_cut (by kernel_rfl) (by kernel_rfl) ef55j2 ef55j3 _ (fun k => f55_3 F k) (f55_24 F)
  (fun Rf55j3 => f55_3_eq F Rf55j3) (f55_24_eq F)
def f55_26 (F : Nat) : Ty10 → Rz := fun v => f55_2 F (f55_25 F) v
theorem f55_26_eq (F : Nat) : ∀ v,XAf55 F (bp Tryd.f55 3) (ef55j1 v) Kf7 = f55_26 F v :=
 seq_cut (by kernel_rfl) (by kernel_rfl) ef55j1 ef55j2 _ (fun k => f55_2 F k) (f55_25 F)
  (fun Rf55j2 => f55_2_eq F Rf55j2) (f55_25_eq F)
def f55_27 (F : Nat) : Ty13 → Rz := fun v => f55_1 F (f55_26 F) v
theorem f55_27_eq (F : Nat) : ∀ v,XAf55 F (sub (bodyOf Tryd.f55) []) (ef55_a v) Kf7 = f55_27 F v :=
 seq_cut (by kernel_rfl) (by kernel_rfl) ef55_a ef55j1 _ (fun k => f55_1 F k) (f55_26 F)
  (fun Rf55j1 => f55_1_eq F Rf55j1) (f55_26_eq F)
def f55 (F : Nat) : Ty13 → Rz := f55_27 F
theorem f55_body (F : Nat) (a0_0 : List Int) (a0_1 : List Int) (a0_2 : Int) : abody VG0255 (Af55 F) Tryd.f55 [(.agg 73 (.segs (.cons 8 (.rI .u32 a0_0) (.cons 64 (.rI .u8 a0_1) (.cons 1 (.one (.int .u64 a0_2)) .nil)))))] [] = f55 F (a0_0,a0_1,a0_2) :=
 (abody_in (c := (sub (bodyOf Tryd.f55) [])) (by kernel_rfl) (s := ef55_a (a0_0,a0_1,a0_2)) (by kernel_rfl)).trans (f55_27_eq F (a0_0,a0_1,a0_2))
def r55 : CRun := fun X H => match X,H with
 | [(.agg 73 (.segs (.cons 8 (.rI .u32 a0_0) (.cons 64 (.rI .u8 a0_1) (.cons 1 (.one (.int .u64 a0_2)) .nil)))))],[] => some ((decide (a0_2 ≤ 9223372036854775000)),(.agg 32 (.rI .u8 (Sha.fin (a0_0,a0_1,a0_2)))),[])
 | _,_ => none
theorem s55 (a0_0 : List Int) (a0_1 : List Int) (a0_2 : Int) (hp : ((decide (a0_2 ≤ 9223372036854775000))) = true) (h0 : okV (.agg 73 (.segs (.cons 8 (.rI .u32 a0_0) (.cons 64 (.rI .u8 a0_1) (.cons 1 (.one (.int .u64 a0_2)) .nil)))))) : ∃ F,f55 F (a0_0,a0_1,a0_2) = some ((.agg 32 (.rI .u8 (Sha.fin (a0_0,a0_1,a0_2)))),[]) := by
 obtain ⟨h8,hb,hn0,hn1⟩ := ok_str h0
 have hn : a0_2 ≤ 9223372036854775000 := of_decide_eq_true hp
 refine ⟨65,?_⟩
 simp only [f55,f55_27,f55_1,f55_26,f55_2,f55_25,f55_3,f55_24,f55_6,f55_5,f55_5_i]
 refine loopN_from (fun i => (IntKind.u64.wrap (8 * a0_2),a0_0,a0_1,a0_2,List.replicate 32 0,128 :: List.replicate i 0)) ((55 - a0_2) % 64).toNat (by rfl) (fun i hi k => ?_) (fun k => ?_) 65 (by omega)
 ·simp only [f55_4,List.length_cons,List.length_replicate,int_bne]
  rw [i64w (x := a0_2) (by omega) (by omega),i64w (x := a0_2 + ((i + 1 : Nat) : Int)) (by omega) (by omega),tmod_nn (by omega),cond_pos (by omega),cond_pos (by omega)]
  rw [show List.replicate (i + 1) (0 : Int) = List.replicate i 0 ++ [0] from List.replicate_succ']; rfl
 ·simp only [f55_4,List.length_cons,List.length_replicate,int_bne]
  rw [i64w (x := a0_2) (by omega) (by omega),i64w (x := a0_2 + ((((55 - a0_2) % 64).toNat + 1 : Nat) : Int)) (by omega) (by omega),tmod_nn (by omega),cond_neg (by omega)]
  generalize hP : (128 : Int) :: List.replicate ((55 - a0_2) % 64).toNat 0 = P
  have hPl : P.length ≤ 64 := by rw [← hP]; simp; omega
  generalize hM : IntKind.u64.wrap (8 * a0_2) = M
  simp only [f55_23,f55_11,f55_7,f55_10,f55_9,f55_9_i]
  refine loopN_from (fun j => (M,(j : Int),a0_0,a0_1,a0_2,List.replicate 32 0,P ++ (List.range j).map fun i => IntKind.u8.wrap (M.fdiv (2 ^ (56 - 8 * i))))) 8 (by simp) (fun j hj k' => ?_) (fun k' => ?_) 65 (by omega)
  ·simp only [f55_8,List.length_append,List.length_map,List.length_range]
   rw [i64w (x := 8 * (j : Int)) (by omega) (by omega),i64w (x := 56 - 8 * (j : Int)) (by omega) (by omega),i64w (x := (j : Int) + 1) (by omega) (by omega),cond_pos (by omega),cond_pos (by omega),cond_pos (by omega)]
   rw [show min (56 - 8 * (j : Int)).toNat 64 = 56 - 8 * j by omega,List.range_succ,List.map_append,List.append_assoc]
   rfl
  ·simp only [f55_8]
   rw [cond_neg (by omega)]
   simp only [f55_22,f55_12,f55_21,f55_13,f55_20,f55_18,f55_14,f55_17,f55_16,f55_16_i]
   have hpad : P ++ (List.range 8).map (fun i => IntKind.u8.wrap (M.fdiv (2 ^ (56 - 8 * i)))) = Sha.pad a0_2 := by rw [← hP,← hM]; rfl
   rw [hpad]
   show loopN _ _ _ = some (AV.agg 32 (AV.rI IntKind.u8 (Sha.out (Sha.addS (a0_0,a0_1,a0_2) (Sha.pad a0_2)).1)),[])
   generalize Sha.addS (a0_0,a0_1,a0_2) (Sha.pad a0_2) = R
   obtain ⟨R1,R2,R3⟩ := R
   refine loopN_from (fun i => ((i : Int),R1,R2,R3,List.replicate 32 0,(List.range i).map (fun i => IntKind.u8.wrap ((R1.getD (i / 4) 0).fdiv (2 ^ (24 - 8 * (i % 4))))) ++ List.replicate (32 - i) 0)) 32 (by rfl) (fun i hi k'' => ?_) (fun k'' => ?_) 65 (by omega)
   ·simp only [f55_15,dec_and]
    rw [tdiv_nn (by omega),tmod_nn (by omega),i64w (x := (i : Int) / 4) (by omega) (by omega),i64w (x := 8 * ((i : Int) % 4)) (by omega) (by omega),i64w (x := 24 - 8 * ((i : Int) % 4)) (by omega) (by omega),i64w (x := (i : Int) + 1) (by omega) (by omega),
     cond_pos (by omega),cond_pos (by omega),cond_pos (by omega),cond_pos (by omega)]
    rw [show min (24 - 8 * ((i : Int) % 4)).toNat 32 = 24 - 8 * (i % 4) by omega,show ((i : Int) / 4).toNat = i / 4 by omega,Int.toNat_natCast,fill_set _ 0 32 i hi rfl]
    rfl
   ·simp only [f55_15]
    rw [cond_neg (by omega),Nat.sub_self,List.replicate_zero,List.append_nil]
    rfl
theorem c55 : CallOk Tryd.prog G02 55 r55 := callOk_of (V := VG0255) mixed tys eVG0255 (f := 55) (fn := Tryd.f55) Tryd.func55 (by kernel_rfl) (c := sub (bodyOf Tryd.f55) []) (by kernel_rfl) (by
 intro X H r H' h hX hH
 unfold r55 at h; split at h <;> try contradiction
 ·simp only [Option.some.injEq,Prod.mk.injEq] at h
  obtain ⟨hp,rfl,rfl⟩ := h
  obtain ⟨F,hF⟩ := s55 _ _ _ hp (hX _ (.head _))
  exact ⟨Af55 F,(f55_body F _ _ _).trans hF⟩)
def lVG0261 : List CEnt := [(52,[],r52),(53,[none,none],r53),(55,[none],r55)]
def VG0261 : Env := mkEnv T03 G02 lVG0261
noncomputable abbrev Kf8 := kFin VG0261 none (Tryd.f61).results.toList
theorem eVG0261 : EOk Tryd.prog VG0261 := eok_mk (by exact ⟨c52,c53,c55,trivial⟩)
def Af61 (F : Nat) : Cuts := { F := F,at_ := fun _ => none,join := fun _ => none }
def ef61_a : Li → St := fun a0 => ⟨[(0,(.vs (.rI .u8 a0) 0 1))],[],0,8,0⟩
def f61_1 (F : Nat) : Li → Rz := fun a0 => (cond (decide ((Sha.addS (Sha.iv,(List.replicate 64 0),(0 : Int)) a0).2.2 ≤ 9223372036854775000)) (some ((.agg 32 (.rI .u8 (Sha.fin ((Sha.addS (Sha.iv,(List.replicate 64 0),(0 : Int)) a0).1,(Sha.addS (Sha.iv,(List.replicate 64 0),(0 : Int)) a0).2.1,(Sha.addS (Sha.iv,(List.replicate 64 0),(0 : Int)) a0).2.2)))),[])) none)
theorem f61_1_eq (F : Nat) : ∀ v,aexec VG0261 (Af61 F) (sub (bodyOf Tryd.f61) []) (ef61_a v) Kf8 = f61_1 F v := by
 intro a0; kernel_rfl
def f61 (F : Nat) : Li → Rz := f61_1 F
theorem f61_body (F : Nat) (a0 : List Int) : abody VG0261 (Af61 F) Tryd.f61 [(.vs (.rI .u8 a0) 0 1)] [] = f61 F a0 :=
 (abody_in (c := (sub (bodyOf Tryd.f61) [])) (by kernel_rfl) (s := ef61_a a0) (by kernel_rfl)).trans (f61_1_eq F a0)
def r61 : CRun := fun X H => match X,H with
 | [(.vs (.rI .u8 a0) 0 1)],[] => some (true,(.agg 32 (.rI .u8 (Sha.hash a0))),[])
 | _,_ => none
theorem s61 (a0 : List Int) (h0 : okV (.vs (.rI .u8 a0) 0 1)) : ∃ F,f61 F a0 = some ((.agg 32 (.rI .u8 (Sha.hash a0))),[]) := by
 refine ⟨0,?_⟩
 have := h0.2
 simp only [f61,f61_1]
 rw [Sha.addS_n _ _ _ _ (by omega) (by omega),cond_pos (by rw [u64mod]; omega),← Sha.addS_n _ Sha.iv (List.replicate 64 0) _ (by omega) (by omega)]
 rfl
theorem c61 : CallOk Tryd.prog G02 61 r61 := callOk_of (V := VG0261) mixed tys eVG0261 (f := 61) (fn := Tryd.f61) Tryd.func61 (by kernel_rfl) (c := sub (bodyOf Tryd.f61) []) (by kernel_rfl) (by
 intro X H r H' h hX hH
 unfold r61 at h; split at h <;> try contradiction
 ·simp only [Option.some.injEq,Prod.mk.injEq] at h
  obtain ⟨hp,rfl,rfl⟩ := h
  obtain ⟨F,hF⟩ := s61 _ (hX _ (.head _))
  exact ⟨Af61 F,(f61_body F _).trans hF⟩)
end Go.Am
end