/- Part of a proof about the functions of the given program. -/
import Derived.Test.YtlenpjfgbbfmcaaDoorAm03D
set_option linter.unusedVariables false
set_option linter.unusedSimpArgs false
namespace Go.Am
open Go Go.Proofs
abbrev sp33 : List (Nat × Md) := [(0,.plain),(2,.plain),(3,.plain),(4,.plain)]
abbrev sp34 : List (Nat × Md) := [(2,.plain),(3,.plain),(5,.plain)]
abbrev sp35 : List (Nat × Md) := [(0,.plain),(3,.plain),(4,.own 5)]
abbrev sp36 : List (Nat × Md) := [(0,.plain),(4,.plain),(6,.plain),(7,.plain)]
abbrev sp37 : List (Nat × Md) := [(0,.plain),(4,.plain),(5,.plain)]
abbrev sp38 : List (Nat × Md) := [(0,.plain),(4,.plain),(5,.plain),(6,.plain)]
abbrev sp39 : List (Nat × Md) := [(1,.plain),(5,.plain),(6,.plain)]
abbrev Ty28 := (List Li) × Li
abbrev Ty29 := (List Li) × Int × Li
def lVG0271 : List CEnt := []
def VG0271 : Env := mkEnv T03 G02 lVG0271
noncomputable abbrev Kf19 := kFin VG0271 none (Tryd.f71).results.toList
theorem eVG0271 : EOk Tryd.prog VG0271 := eok_mk (by exact trivial)
def Af71 (F : Nat) : Cuts := { F := F,at_ := fun _ => none,join := fun _ => none }
def ef71_a : Int × Int → St := fun (a0,a1) => ⟨[(0,.int .u32 a0),(1,.int .i64 a1)],[],0,13,0⟩
def f71_1 (F : Nat) : Int × Int → Rz := fun (a0,a1) => (cond (decide (0 ≤ a1)) (cond (decide (0 ≤ (IntKind.i64.wrap ((32 : Int) - a1)))) (some ((.int .u32 (ibits .or .u32 (Int.fdiv a0 (2 ^ (min (Int.toNat a1) 32))) (IntKind.u32.wrap (a0 * 2 ^ (min (Int.toNat (IntKind.i64.wrap ((32 : Int) - a1))) 32))))),[])) none) none)
theorem f71_1_eq (F : Nat) : ∀ v,aexec VG0271 (Af71 F) (sub (bodyOf Tryd.f71) []) (ef71_a v) Kf19 = f71_1 F v := by
 rintro ⟨a0,a1⟩; kernel_rfl
def f71 (F : Nat) : Int × Int → Rz := f71_1 F
theorem f71_body (F : Nat) (a0 : Int) (a1 : Int) : abody VG0271 (Af71 F) Tryd.f71 [(.int .u32 a0),.int .i64 a1] [] = f71 F (a0,a1) :=
 (abody_in (c := (sub (bodyOf Tryd.f71) [])) (by kernel_rfl) (s := ef71_a (a0,a1)) (by kernel_rfl)).trans (f71_1_eq F (a0,a1))
def r71 : CRun := fun X H => match X,H with
 | [(.int .u32 a0),.int .i64 a1],[] => some (((decide (0 ≤ a1)) && (decide (a1 ≤ 32))),(.int .u32 (Sha.rotr a0 (Int.toNat a1))),[])
 | _,_ => none
theorem s71 (a0 : Int) (a1 : Int) (hp : (((decide (0 ≤ a1)) && (decide (a1 ≤ 32)))) = true) (h0 : okV (.int .u32 a0)) (h1 : okV (.int .i64 a1)) : ∃ F,f71 F (a0,a1) = some ((.int .u32 (Sha.rotr a0 (Int.toNat a1))),[]) := by
 rw [dec_and,decide_eq_true_eq] at hp
 refine ⟨0,?_⟩
 simp only [f71,f71_1]
 rw [i64w (by omega) (by omega),cond_pos (by omega),cond_pos (by omega),show min a1.toNat 32 = a1.toNat by omega,show min (32 - a1).toNat 32 = 32 - a1.toNat by omega]
 rfl
theorem c71 : CallOk Tryd.prog G02 71 r71 := callOk_of (V := VG0271) mixed tys eVG0271 (f := 71) (fn := Tryd.f71) Tryd.func71 (by kernel_rfl) (c := sub (bodyOf Tryd.f71) []) (by kernel_rfl) (by
 intro X H r H' h hX hH
 unfold r71 at h; split at h <;> try contradiction
 ·simp only [Option.some.injEq,Prod.mk.injEq] at h
  obtain ⟨hp,rfl,rfl⟩ := h
  obtain ⟨F,hF⟩ := s71 _ _ hp (hX _ (.head _)) (hX _ (.tail _ (.head _)))
  exact ⟨Af71 F,(f71_body F _ _).trans hF⟩)
def lVG0270 : List CEnt := [(71,[none,none],r71)]
def VG0270 : Env := mkEnv T03 G02 lVG0270
noncomputable abbrev Kf20 := kFin VG0270 none (Tryd.f70).results.toList
theorem eVG0270 : EOk Tryd.prog VG0270 := eok_mk (by exact ⟨c71,trivial⟩)
def Af70 (F : Nat) : Cuts := { F := F,at_ := fun n => match n with | 3010 => some sp33 | 7014 => some sp34 | _ => none,join := fun n => match n with | 1039 => some [(0,.plain),(2,.plain)] | 2037 => some sp2 | 3012 => some sp33 | 6022 => some [(2,.plain),(3,.plain)] | 7016 => some sp34 | 12003 => some [(2,.plain),(3,.plain)] | _ => none }
noncomputable abbrev XAf70 (F : Nat) {α : Type} := @aexec α VG0270 (Af70 F)
def ef70_a : Li → St := fun a0 => ⟨[(0,(.vs (.rI .u8 a0) 0 1))],[],0,101,0⟩
def ef70j1 : Li × Li → St := fun (t0,x2) => ⟨[(0,(.vs (.rI .u8 t0) 0 1)),(2,.ptr 0 0 64 0 0 0 64)],[(0,(.cells 64 (.rI .u32 x2) true))],1,101,0⟩
def ef70j2 : Ty0 → St := fun (t0,x2,x3) => ⟨[(0,(.vs (.rI .u8 t0) 0 1)),(2,.ptr 0 0 64 0 0 0 64),(3,.ptr 1 0 64 0 0 0 64)],[(0,(.cells 64 (.rI .u32 x2) true)),(1,(.cells 64 (.rI .u32 x3) true))],2,101,0⟩
def ef70j3 : Ty1 → St := fun (t0,t4,x3,x4) => ⟨[(0,(.vs (.rI .u8 t0) 0 1)),(2,.ptr 0 0 64 0 0 0 64),(3,.ptr 1 0 64 0 0 0 64),(4,.int .i64 t4)],[(0,(.cells 64 (.rI .u32 x3) true)),(1,(.cells 64 (.rI .u32 x4) true))],2,101,0⟩
def ef70l1 : Ty1 → St := ef70j3
def ef70j4 : Li × Li → St := fun (x1,x2) => ⟨[(2,.ptr 0 0 64 0 0 0 64),(3,.ptr 1 0 64 0 0 0 64)],[(0,(.cells 64 (.rI .u32 x1) true)),(1,(.cells 64 (.rI .u32 x2) true))],2,101,0⟩
def ef70j5 : Ty19 → St := fun (t5,x2,x3) => ⟨[(2,.ptr 0 0 64 0 0 0 64),(3,.ptr 1 0 64 0 0 0 64),(5,.int .i64 t5)],[(0,(.cells 64 (.rI .u32 x2) true)),(1,(.cells 64 (.rI .u32 x3) true))],2,101,0⟩
def ef70l2 : Ty19 → St := ef70j5
def ef70j6 : Li × Li → St := ef70j4
def f70_1 (F : Nat) (kf70j1 : Li × Li → Rz) : Li → Rz := fun a0 => (kf70j1 (a0,(List.replicate 64 0)))
theorem f70_1_eq (F : Nat) (Rf70j1 : St → Rz) : ∀ v,XAf70 F (bp Tryd.f70 2) (ef70_a v) (kSeq (kc VG0270 Rf70j1 [(0,.plain),(2,.plain)]) Kf20) = f70_1 F (Rf70j1 ∘ ef70j1) v := by
 intro a0; kernel_rfl
def f70_2 (F : Nat) (kf70j2 : Ty0 → Rz) : Li × Li → Rz := fun (t0,x2) => (kf70j2 (t0,x2,(List.replicate 64 0)))
theorem f70_2_eq (F : Nat) (Rf70j2 : St → Rz) : ∀ v,XAf70 F (bp Tryd.f70 6) (ef70j1 v) (kSeq (kc VG0270 Rf70j2 sp2) Kf20) = f70_2 F (Rf70j2 ∘ ef70j2) v := by
 rintro ⟨t0,x2⟩; kernel_rfl
def f70_3 (F : Nat) (kf70j3 : Ty1 → Rz) (kf70j4 : Li × Li → Rz) : Ty0 → Rz := fun (t0,x2,x3) => (kf70j3 (t0,(0 : Int),x2,x3))
theorem f70_3_eq (F : Nat) (Rf70j3 : St → Rz) (Rf70j4 : St → Rz) : ∀ v,XAf70 F (bp Tryd.f70 28) (ef70j2 v) (kSeq (kc VG0270 Rf70j3 sp33) (kSeq (kc VG0270 Rf70j4 [(2,.plain),(3,.plain)]) Kf20)) = f70_3 F (Rf70j3 ∘ ef70j3) (Rf70j4 ∘ ef70j4) v := by
 rintro ⟨t0,x2,x3⟩; kernel_rfl
def f70_4 (F : Nat) (kf70l1 : Ty1 → Rz) (kf70j4 : Li × Li → Rz) : Ty1 → Rz := fun (t0,t4,x3,x4) => (cond (decide (t4 < (16 : Int))) (cond ((decide (0 ≤ (IntKind.i64.wrap ((4 : Int) * t4)))) && (decide ((IntKind.i64.wrap ((4 : Int) * t4)) < (↑t0.length : Int)))) (cond ((decide (0 ≤ (IntKind.i64.wrap ((IntKind.i64.wrap ((4 : Int) * t4)) + (1 : Int))))) && (decide ((IntKind.i64.wrap ((IntKind.i64.wrap ((4 : Int) * t4)) + (1 : Int))) < (↑t0.length : Int)))) (cond ((decide (0 ≤ (IntKind.i64.wrap ((IntKind.i64.wrap ((4 : Int) * t4)) + (2 : Int))))) && (decide ((IntKind.i64.wrap ((IntKind.i64.wrap ((4 : Int) * t4)) + (2 : Int))) < (↑t0.length : Int)))) (cond ((decide (0 ≤ (IntKind.i64.wrap ((IntKind.i64.wrap ((4 : Int) * t4)) + (3 : Int))))) && (decide ((IntKind.i64.wrap ((IntKind.i64.wrap ((4 : Int) * t4)) + (3 : Int))) < (↑t0.length : Int)))) (cond ((decide (0 ≤ t4)) && (decide (t4 < (64 : Int)))) (kf70l1 (t0,(IntKind.i64.wrap (t4 + (1 : Int))),x3,(x4.set (Int.toNat t4) (ibits .or .u32 (ibits .or .u32 (ibits .or .u32 (IntKind.u32.wrap ((IntKind.u32.wrap (t0.getD (Int.toNat (IntKind.i64.wrap ((4 : Int) * t4))) 0)) * 2 ^ 24)) (IntKind.u32.wrap ((IntKind.u32.wrap (t0.getD (Int.toNat (IntKind.i64.wrap ((IntKind.i64.wrap ((4 : Int) * t4)) + (1 : Int)))) 0)) * 2 ^ 16))) (IntKind.u32.wrap ((IntKind.u32.wrap (t0.getD (Int.toNat (IntKind.i64.wrap ((IntKind.i64.wrap ((4 : Int) * t4)) + (2 : Int)))) 0)) * 2 ^ 8))) (IntKind.u32.wrap (t0.getD (Int.toNat (IntKind.i64.wrap ((IntKind.i64.wrap ((4 : Int) * t4)) + (3 : Int)))) 0)))))) none) none) none) none) none) (kf70j4 (x3,x4)))
theorem f70_4_eq (F : Nat) (Rf70l1 : St → Rz) (Rf70j4 : St → Rz) : ∀ v,XAf70 F (bp Tryd.f70 116) (ef70l1 v) (kSeq (kc VG0270 Rf70l1 sp33) (kBlock 0 (kSeq (kc VG0270 Rf70j4 [(2,.plain),(3,.plain)]) Kf20))) = f70_4 F (Rf70l1 ∘ ef70l1) (Rf70j4 ∘ ef70j4) v := by
 rintro ⟨t0,t4,x3,x4⟩; kernel_rfl
def f70_5_i : Ty1 → Li × Int × Li × Li := fun (t0,t4,x3,x4) => (t0,t4,x3,x4)
def f70_5 (F : Nat) (kf70j4 : Li × Li → Rz) : Ty1 → Rz := fun v => loopN (fun k => f70_4 F k kf70j4) F (f70_5_i v)
theorem f70_5_eq (F : Nat) (Rf70j4 : St → Rz) : ∀ v,XAf70 F (bp Tryd.f70 58) (ef70j3 v) (kBlock 0 (kSeq (kc VG0270 Rf70j4 [(2,.plain),(3,.plain)]) Kf20)) = f70_5 F (Rf70j4 ∘ ef70j4) v :=
 loop_cut (by kernel_rfl) (by kernel_rfl) ef70j3 ef70l1 _ f70_5_i (fun k => f70_4 F k (Rf70j4 ∘ ef70j4))
  (by rintro ⟨t0,t4,x3,x4⟩; kernel_rfl) (fun Rf70l1 => f70_4_eq F Rf70l1 Rf70j4)
def f70_6 (F : Nat) (kf70j4 : Li × Li → Rz) : Ty1 → Rz := f70_5 F kf70j4
theorem f70_6_eq (F : Nat) (Rf70j4 : St → Rz) : ∀ v,XAf70 F (bp Tryd.f70 29) (ef70j3 v) (kSeq (kc VG0270 Rf70j4 [(2,.plain),(3,.plain)]) Kf20) = f70_6 F (Rf70j4 ∘ ef70j4) v := fun v =>
 (block_in  (by kernel_rfl) _ _).trans (f70_5_eq F Rf70j4 v)
def f70_7 (F : Nat) (kf70j4 : Li × Li → Rz) : Ty0 → Rz := fun v => f70_3 F (f70_6 F kf70j4) kf70j4 v
theorem f70_7_eq (F : Nat) (Rf70j4 : St → Rz) : ∀ v,XAf70 F (bp Tryd.f70 14) (ef70j2 v) (kSeq (kc VG0270 Rf70j4 [(2,.plain),(3,.plain)]) Kf20) = f70_7 F (Rf70j4 ∘ ef70j4) v :=
 seq_cut (by kernel_rfl) (by kernel_rfl) ef70j2 ef70j3 _ (fun k => f70_3 F k (Rf70j4 ∘ ef70j4)) (f70_6 F (Rf70j4 ∘ ef70j4))
  (fun Rf70j3 => f70_3_eq F Rf70j3 Rf70j4) (f70_6_eq F Rf70j4)
def f70_8 (F : Nat) (kf70j5 : Ty19 → Rz) (kf70j6 : Li × Li → Rz) : Li × Li → Rz := fun (x1,x2) => (kf70j5 ((16 : Int),x1,x2))
theorem f70_8_eq (F : Nat) (Rf70j5 : St → Rz) (Rf70j6 : St → Rz) : ∀ v,XAf70 F (bp Tryd.f70 60) (ef70j4 v) (kSeq (kc VG0270 Rf70j5 sp34) (kSeq (kc VG0270 Rf70j6 [(2,.plain),(3,.plain)]) Kf20)) = f70_8 F (Rf70j5 ∘ ef70j5) (Rf70j6 ∘ ef70j6) v := by
 rintro ⟨x1,x2⟩; kernel_rfl
def f70_9 (F : Nat) (kf70l2 : Ty19 → Rz) (kf70j6 : Li × Li → Rz) : Ty19 → Rz := fun (t5,x2,x3) => (cond (decide (t5 < (64 : Int))) (cond ((decide (0 ≤ (IntKind.i64.wrap (t5 - (15 : Int))))) && (decide ((IntKind.i64.wrap (t5 - (15 : Int))) < (64 : Int)))) (cond ((decide (0 ≤ (7 : Int))) && (decide ((7 : Int) ≤ 32))) (cond ((decide (0 ≤ (IntKind.i64.wrap (t5 - (15 : Int))))) && (decide ((IntKind.i64.wrap (t5 - (15 : Int))) < (64 : Int)))) (cond ((decide (0 ≤ (18 : Int))) && (decide ((18 : Int) ≤ 32))) (cond ((decide (0 ≤ (IntKind.i64.wrap (t5 - (15 : Int))))) && (decide ((IntKind.i64.wrap (t5 - (15 : Int))) < (64 : Int)))) (cond ((decide (0 ≤ (IntKind.i64.wrap (t5 - (2 : Int))))) && (decide ((IntKind.i64.wrap (t5 - (2 : Int))) < (64 : Int)))) (cond ((decide (0 ≤ (17 : Int))) && (decide ((17 : Int) ≤ 32))) (cond ((decide (0 ≤ (IntKind.i64.wrap (t5 - (2 : Int))))) && (decide ((IntKind.i64.wrap (t5 - (2 : Int))) < (64 : Int)))) (cond ((decide (0 ≤ (19 : Int))) && (decide ((19 : Int) ≤ 32))) (cond ((decide (0 ≤ (IntKind.i64.wrap (t5 - (2 : Int))))) && (decide ((IntKind.i64.wrap (t5 - (2 : Int))) < (64 : Int)))) (cond ((decide (0 ≤ (IntKind.i64.wrap (t5 - (16 : Int))))) && (decide ((IntKind.i64.wrap (t5 - (16 : Int))) < (64 : Int)))) (cond ((decide (0 ≤ (IntKind.i64.wrap (t5 - (7 : Int))))) && (decide ((IntKind.i64.wrap (t5 - (7 : Int))) < (64 : Int)))) (cond ((decide (0 ≤ t5)) && (decide (t5 < (64 : Int)))) (kf70l2 ((IntKind.i64.wrap (t5 + (1 : Int))),x2,(x3.set (Int.toNat t5) (IntKind.u32.wrap ((IntKind.u32.wrap ((IntKind.u32.wrap ((x3.getD (Int.toNat (IntKind.i64.wrap (t5 - (16 : Int)))) 0) + (ibits .xor .u32 (ibits .xor .u32 (Sha.rotr (x3.getD (Int.toNat (IntKind.i64.wrap (t5 - (15 : Int)))) 0) (Int.toNat (7 : Int))) (Sha.rotr (x3.getD (Int.toNat (IntKind.i64.wrap (t5 - (15 : Int)))) 0) (Int.toNat (18 : Int)))) (Int.fdiv (x3.getD (Int.toNat (IntKind.i64.wrap (t5 - (15 : Int)))) 0) (2 ^ 3))))) + (x3.getD (Int.toNat (IntKind.i64.wrap (t5 - (7 : Int)))) 0))) + (ibits .xor .u32 (ibits .xor .u32 (Sha.rotr (x3.getD (Int.toNat (IntKind.i64.wrap (t5 - (2 : Int)))) 0) (Int.toNat (17 : Int))) (Sha.rotr (x3.getD (Int.toNat (IntKind.i64.wrap (t5 - (2 : Int)))) 0) (Int.toNat (19 : Int)))) (Int.fdiv (x3.getD (Int.toNat (IntKind.i64.wrap (t5 - (2 : Int)))) 0) (2 ^ 10)))))))) none) none) none) none) none) none) none) none) none) none) none) none) none) (kf70j6 (x2,x3)))
theorem f70_9_eq (F : Nat) (Rf70l2 : St → Rz) (Rf70j6 : St → Rz) : ∀ v,XAf70 F (bp Tryd.f70 244) (ef70l2 v) (kSeq (kc VG0270 Rf70l2 sp34) (kBlock 2 (kSeq (kc VG0270 Rf70j6 [(2,.plain),(3,.plain)]) Kf20))) = f70_9 F (Rf70l2 ∘ ef70l2) (Rf70j6 ∘ ef70j6) v := by
 rintro ⟨t5,x2,x3⟩; kernel_rfl
def f70_10_i : Ty19 → Int × Li × Li := fun (t5,x2,x3) => (t5,x2,x3)
def f70_10 (F : Nat) (kf70j6 : Li × Li → Rz) : Ty19 → Rz := fun v => loopN (fun k => f70_9 F k kf70j6) F (f70_10_i v)
theorem f70_10_eq (F : Nat) (Rf70j6 : St → Rz) : ∀ v,XAf70 F (bp Tryd.f70 122) (ef70j5 v) (kBlock 2 (kSeq (kc VG0270 Rf70j6 [(2,.plain),(3,.plain)]) Kf20)) = f70_10 F (Rf70j6 ∘ ef70j6) v :=
 loop_cut (by kernel_rfl) (by kernel_rfl) ef70j5 ef70l2 _ f70_10_i (fun k => f70_9 F k (Rf70j6 ∘ ef70j6))
  (by rintro ⟨t5,x2,x3⟩; kernel_rfl) (fun Rf70l2 => f70_9_eq F Rf70l2 Rf70j6)
def f70_11 (F : Nat) (kf70j6 : Li × Li → Rz) : Ty19 → Rz := f70_10 F kf70j6
theorem f70_11_eq (F : Nat) (Rf70j6 : St → Rz) : ∀ v,XAf70 F (bp Tryd.f70 61) (ef70j5 v) (kSeq (kc VG0270 Rf70j6 [(2,.plain),(3,.plain)]) Kf20) = f70_11 F (Rf70j6 ∘ ef70j6) v := fun v =>
 (block_in  (by kernel_rfl) _ _).trans (f70_10_eq F Rf70j6 v)
def f70_12 (F : Nat) (kf70j6 : Li × Li → Rz) : Li × Li → Rz := fun v => f70_8 F (f70_11 F kf70j6) kf70j6 v
theorem f70_12_eq (F : Nat) (Rf70j6 : St → Rz) : ∀ v,XAf70 F (bp Tryd.f70 30) (ef70j4 v) (kSeq (kc VG0270 Rf70j6 [(2,.plain),(3,.plain)]) Kf20) = f70_12 F (Rf70j6 ∘ ef70j6) v :=
 seq_cut (by kernel_rfl) (by kernel_rfl) ef70j4 ef70j5 _ (fun k => f70_8 F k (Rf70j6 ∘ ef70j6)) (f70_11 F (Rf70j6 ∘ ef70j6))
  (fun Rf70j5 => f70_8_eq F Rf70j5 Rf70j6) (f70_11_eq F Rf70j6)
def f70_13 (F : Nat) : Li × Li → Rz := fun (x1,x2) => (some ((.agg 64 (.rI .u32 x2)),[]))
theorem f70_13_eq (F : Nat) : ∀ v,XAf70 F (bp Tryd.f70 31) (ef70j6 v) Kf20 = f70_13 F v := by
 rintro ⟨x1,x2⟩; kernel_rfl
def f70_14 (F : Nat) : Li × Li → Rz := fun v => f70_12 F (f70_13 F) v
theorem f70_14_eq (F : Nat) : ∀ v,XAf70 F (bp Tryd.f70 15) (ef70j4 v) Kf20 = f70_14 F v :=
 seq_cut (by kernel_rfl) (by kernel_rfl) ef70j4 ef70j6 _ (fun k => f70_12 F k) (f70_13 F)
  (fun Rf70j6 => f70_12_eq F Rf70j6) (f70_13_eq F)
def f70_15 (F : Nat) : Ty0 → Rz := fun v => f70_7 F (f70_14 F) v
theorem f70_15_eq (F : Nat) : ∀ v,XAf70 F (bp Tryd.f70 7) (ef70j2 v) Kf20 = f70_15 F v :=
 seq_cut (by kernel_rfl) (by kernel_rfl) ef70j2 ef70j4 _ (fun k => f70_7 F k) (f70_14 F)
  (fun Rf70j4 => f70_7_eq F Rf70j4) (f70_14_eq F)
def f70_16 (F : Nat) : Li × Li → Rz := fun v => f70_2 F (f70_15 F) v
theorem f70_16_eq (F : Nat) : ∀ v,XAf70 F (bp Tryd.f70 3) (ef70j1 v) Kf20 = f70_16 F v :=
 seq_cut (by kernel_rfl) (by kernel_rfl) ef70j1 ef70j2 _ (fun k => f70_2 F k) (f70_15 F)
  (fun Rf70j2 => f70_2_eq F Rf70j2) (f70_15_eq F)
def f70_17 (F : Nat) : Li → Rz := fun v => f70_1 F (f70_16 F) v
theorem f70_17_eq (F : Nat) : ∀ v,XAf70 F (sub (bodyOf Tryd.f70) []) (ef70_a v) Kf20 = f70_17 F v :=
 seq_cut (by kernel_rfl) (by kernel_rfl) ef70_a ef70j1 _ (fun k => f70_1 F k) (f70_16 F)
  (fun Rf70j1 => f70_1_eq F Rf70j1) (f70_16_eq F)
def f70 (F : Nat) : Li → Rz := f70_17 F
theorem f70_body (F : Nat) (a0 : List Int) : abody VG0270 (Af70 F) Tryd.f70 [(.vs (.rI .u8 a0) 0 1)] [] = f70 F a0 :=
 (abody_in (c := (sub (bodyOf Tryd.f70) [])) (by kernel_rfl) (s := ef70_a a0) (by kernel_rfl)).trans (f70_17_eq F a0)
def r70 : CRun := fun X H => match X,H with
 | [(.vs (.rI .u8 a0) 0 1)],[] => some ((decide (64 ≤ a0.length)),(.agg 64 (.rI .u32 (Sha.sched a0 64))),[])
 | _,_ => none
theorem byte_get {l : List Int} (h : ∀ x ∈ l,0 ≤ x ∧ x ≤ 255) (i : Nat) : 0 ≤ l.getD i 0 ∧ l.getD i 0 ≤ 255 := by
 by_cases hi : i < l.length
 ·rw [List.getD_eq_getElem?_getD,List.getElem?_eq_getElem hi]; exact h _ (List.getElem_mem hi)
 ·rw [List.getD_eq_getElem?_getD,List.getElem?_eq_none (by omega)]; simp
theorem or_add (i a b : Nat) (h : b < 2 ^ i) (h2 : a * 2 ^ i + b < 4294967296) : ibits .or .u32 ((a * 2 ^ i : Nat) : Int) (b : Int) = ((a * 2 ^ i + b : Nat) : Int) := by
 show IntKind.u32.wrap (((BitVec.ofInt 32 ((a * 2 ^ i : Nat) : Int)) ||| (BitVec.ofInt 32 (b : Int))).toNat : Int) = _
 rw [BitVec.toNat_or,BitVec.toNat_ofInt,BitVec.toNat_ofInt]
 generalize hx : a * 2 ^ i = x at *
 have e1 : ((x : Int) % ((2 ^ 32 : Nat) : Int)).toNat = x := by omega
 have e2 : ((b : Int) % ((2 ^ 32 : Nat) : Int)).toNat = b := by omega
 rw [e1,e2,← hx,← Nat.shiftLeft_eq,← Nat.shiftLeft_add_eq_or_of_lt h,Nat.shiftLeft_eq,hx,u32w (by omega) (by omega)]
theorem or4 (a b c d : Int) (ha : 0 ≤ a ∧ a ≤ 255) (hb : 0 ≤ b ∧ b ≤ 255) (hc : 0 ≤ c ∧ c ≤ 255) (hd : 0 ≤ d ∧ d ≤ 255) :
  ibits .or .u32 (ibits .or .u32 (ibits .or .u32 (IntKind.u32.wrap ((IntKind.u32.wrap a) * 2 ^ 24)) (IntKind.u32.wrap ((IntKind.u32.wrap b) * 2 ^ 16))) (IntKind.u32.wrap ((IntKind.u32.wrap c) * 2 ^ 8))) (IntKind.u32.wrap d) = Sha.word a b c d := by
 obtain ⟨a,rfl⟩ := Int.eq_ofNat_of_zero_le ha.1
 obtain ⟨b,rfl⟩ := Int.eq_ofNat_of_zero_le hb.1
 obtain ⟨c,rfl⟩ := Int.eq_ofNat_of_zero_le hc.1
 obtain ⟨d,rfl⟩ := Int.eq_ofNat_of_zero_le hd.1
 rw [u32w (x := (a : Int)) (by omega) (by omega),u32w (x := (b : Int)) (by omega) (by omega),u32w (x := (c : Int)) (by omega) (by omega),u32w (x := (d : Int)) (by omega) (by omega),
  u32w (x := (a : Int) * 2 ^ 24) (by omega) (by omega),u32w (x := (b : Int) * 2 ^ 16) (by omega) (by omega),u32w (x := (c : Int) * 2 ^ 8) (by omega) (by omega)]
 have e1 : ibits .or .u32 ((a : Int) * 2 ^ 24) ((b : Int) * 2 ^ 16) = (((a * 256 + b) * 2 ^ 16 : Nat) : Int) := by
  have := or_add 24 a (b * 2 ^ 16) (by omega) (by omega)
  rw [show ((a : Int) * 2 ^ 24) = ((a * 2 ^ 24 : Nat) : Int) by omega,show ((b : Int) * 2 ^ 16) = ((b * 2 ^ 16 : Nat) : Int) by omega,this]; omega
 have e2 : ibits .or .u32 (((a * 256 + b) * 2 ^ 16 : Nat) : Int) ((c : Int) * 2 ^ 8) = ((((a * 256 + b) * 256 + c) * 2 ^ 8 : Nat) : Int) := by
  have := or_add 16 (a * 256 + b) (c * 2 ^ 8) (by omega) (by omega)
  rw [show ((c : Int) * 2 ^ 8) = ((c * 2 ^ 8 : Nat) : Int) by omega,this]; omega
 rw [e1,e2,or_add 8 _ d (by omega) (by omega)]
 unfold Sha.word; omega
theorem s70 (a0 : List Int) (hp : ((decide (64 ≤ a0.length))) = true) (h0 : okV (.vs (.rI .u8 a0) 0 1)) : ∃ F,f70 F a0 = some ((.agg 64 (.rI .u32 (Sha.sched a0 64))),[]) := by
 have hl : 64 ≤ a0.length := of_decide_eq_true hp
 have hl2 := h0.2
 have hb : ∀ i,0 ≤ a0.getD i 0 ∧ a0.getD i 0 ≤ 255 := byte_get (fun x hx => has_u8 (h0.1 x hx))
 refine ⟨65,?_⟩
 simp only [f70,f70_17,f70_1,f70_16,f70_2,f70_15,f70_7,f70_3,f70_6,f70_5,f70_5_i]
 refine loopN_from (fun i => (a0,(i : Int),List.replicate 64 0,Sha.sched a0 i ++ List.replicate (64 - i) 0)) 16 (by rfl) (fun i hi k => ?_) (fun k => ?_) 65 (by omega)
 ·simp only [f70_4,dec_and]
  rw [i64w (x := 4 * (i : Int)) (by omega) (by omega),i64w (x := 4 * (i : Int) + 1) (by omega) (by omega),i64w (x := 4 * (i : Int) + 2) (by omega) (by omega),i64w (x := 4 * (i : Int) + 3) (by omega) (by omega),i64w (x := (i : Int) + 1) (by omega) (by omega),
   cond_pos (by omega),cond_pos (by omega),cond_pos (by omega),cond_pos (by omega),cond_pos (by omega),cond_pos (by omega)]
  rw [show (4 * (i : Int)).toNat = 4 * i by omega,show (4 * (i : Int) + 1).toNat = 4 * i + 1 by omega,show (4 * (i : Int) + 2).toNat = 4 * i + 2 by omega,show (4 * (i : Int) + 3).toNat = 4 * i + 3 by omega,Int.toNat_natCast,
   or4 _ _ _ _ (hb _) (hb _) (hb _) (hb _),sched_set a0 i _ (by omega) (by simp only [Sha.sched,if_pos hi])]
  rfl
 ·simp only [f70_4]
  rw [cond_neg (by omega)]
  simp only [f70_14,f70_12,f70_8,f70_11,f70_10,f70_10_i]
  refine loopN_from (fun i => (((i + 16 : Nat) : Int),List.replicate 64 0,Sha.sched a0 (i + 16) ++ List.replicate (64 - (i + 16)) 0)) 48 (by rfl) (fun i hi k' => ?_) (fun k' => ?_) 65 (by omega)
  ·simp only [f70_9,dec_and]
   generalize hj : i + 16 = j
   have h16 : ¬ j < 16 := by omega
   rw [i64w (x := (j : Int) - 15) (by omega) (by omega),i64w (x := (j : Int) - 2) (by omega) (by omega),i64w (x := (j : Int) - 16) (by omega) (by omega),i64w (x := (j : Int) - 7) (by omega) (by omega),i64w (x := (j : Int) + 1) (by omega) (by omega)]
   repeat rw [cond_pos (by omega)]
   rw [show ((j : Int) - 15).toNat = j - 15 by omega,show ((j : Int) - 2).toNat = j - 2 by omega,show ((j : Int) - 16).toNat = j - 16 by omega,show ((j : Int) - 7).toNat = j - 7 by omega,Int.toNat_natCast]
   rw [sched_get a0 j (j - 15) _ (by omega),sched_get a0 j (j - 2) _ (by omega),sched_get a0 j (j - 16) _ (by omega),sched_get a0 j (j - 7) _ (by omega)]
   rw [sched_set a0 j _ (by omega) (by simp only [Sha.sched,if_neg h16]; rfl),show i + 1 + 16 = j + 1 by omega]
   rfl
  ·simp only [f70_9]
   rw [cond_neg (by omega)]
   simp only [f70_13]
   rw [Nat.sub_self,List.replicate_zero,List.append_nil]
theorem c70 : CallOk Tryd.prog G02 70 r70 := callOk_of (V := VG0270) mixed tys eVG0270 (f := 70) (fn := Tryd.f70) Tryd.func70 (by kernel_rfl) (c := sub (bodyOf Tryd.f70) []) (by kernel_rfl) (by
 intro X H r H' h hX hH
 unfold r70 at h; split at h <;> try contradiction
 ·simp only [Option.some.injEq,Prod.mk.injEq] at h
  obtain ⟨hp,rfl,rfl⟩ := h
  obtain ⟨F,hF⟩ := s70 _ hp (hX _ (.head _))
  exact ⟨Af70 F,(f70_body F _).trans hF⟩)
def lVG0269 : List CEnt := []
def VG0269 : Env := mkEnv T03 G02 lVG0269
noncomputable abbrev Kf21 := kFin VG0269 none (Tryd.f69).results.toList
theorem eVG0269 : EOk Tryd.prog VG0269 := eok_mk (by exact trivial)
def Af69 (F : Nat) : Cuts := { F := F,at_ := fun n => match n with | 3008 => some [(0,.plain),(3,.plain)] | 7010 => some sp17 | _ => none,join := fun n => match n with | 1035 => some [(0,.plain)] | 2033 => some [(0,.plain),(3,.plain)] | 3031 => some [(0,.plain),(3,.plain)] | 5020 => some [(0,.plain),(3,.plain)] | 6018 => some [(3,.plain),(4,.plain)] | 7012 => some sp17 | 10003 => some [(3,.plain)] | _ => none }
noncomputable abbrev XAf69 (F : Nat) {α : Type} := @aexec α VG0269 (Af69 F)
def ef69_a : Li → St := fun a0 => ⟨[(0,(.vs (.rI .u8 a0) 0 1))],[],0,37,0⟩
def ef69j1 : Li → St := fun t0 => ⟨[(0,(.vs (.rI .u8 t0) 0 1))],[],0,37,0⟩
def ef69j2 : Li × Li → St := fun (t0,x2) => ⟨[(0,(.vs (.rI .u8 t0) 0 1)),(3,.own 0 0 1)],[(0,(.cells x2.length (.rI .u8 x2) true))],1,37,0⟩
def ef69j3 : Li × Li → St := ef69j2
def ef69l1 : Li × Li → St := ef69j2
def ef69j4 : Li × Li → St := ef69j2
def ef69j5 : Int × Li → St := fun (t4,x2) => ⟨[(3,.own 0 0 1),(4,.int .u64 t4)],[(0,(.cells x2.length (.rI .u8 x2) true))],1,37,0⟩
def ef69j6 : Int × Int × Li → St := fun (t4,t5,x3) => ⟨[(3,.own 0 0 1),(4,.int .u64 t4),(5,.int .i64 t5)],[(0,(.cells x3.length (.rI .u8 x3) true))],1,37,0⟩
def ef69l2 : Int × Int × Li → St := ef69j6
def ef69j7 : Li → St := fun x1 => ⟨[(3,.own 0 0 1)],[(0,(.cells x1.length (.rI .u8 x1) true))],1,37,0⟩
def f69_1 (F : Nat) (kf69j1 : Li → Rz) : Li → Rz := fun a0 => (kf69j1 a0)
theorem f69_1_eq (F : Nat) (Rf69j1 : St → Rz) : ∀ v,XAf69 F (bp Tryd.f69 2) (ef69_a v) (kSeq (kc VG0269 Rf69j1 [(0,.plain)]) Kf21) = f69_1 F (Rf69j1 ∘ ef69j1) v := by
 intro a0; kernel_rfl
def f69_2 (F : Nat) (kf69j2 : Li × Li → Rz) : Li → Rz := fun t0 => (cond (decide ((0 + t0.length) < 1073741824)) (kf69j2 (t0,([] ++ t0))) none)
theorem f69_2_eq (F : Nat) (Rf69j2 : St → Rz) : ∀ v,XAf69 F (bp Tryd.f69 6) (ef69j1 v) (kSeq (kc VG0269 Rf69j2 [(0,.plain),(3,.plain)]) Kf21) = f69_2 F (Rf69j2 ∘ ef69j2) v := by
 intro t0; kernel_rfl
def f69_3 (F : Nat) (kf69j3 : Li × Li → Rz) : Li × Li → Rz := fun (t0,x2) => (cond (decide ((x2.length + 1) < 1073741824)) (kf69j3 (t0,(x2 ++ [(128 : Int)]))) none)
theorem f69_3_eq (F : Nat) (Rf69j3 : St → Rz) : ∀ v,XAf69 F (bp Tryd.f69 14) (ef69j2 v) (kSeq (kc VG0269 Rf69j3 [(0,.plain),(3,.plain)]) Kf21) = f69_3 F (Rf69j3 ∘ ef69j3) v := by
 rintro ⟨t0,x2⟩; kernel_rfl
def f69_4 (F : Nat) (kf69l1 : Li × Li → Rz) (kf69j4 : Li × Li → Rz) : Li × Li → Rz := fun (t0,x2) => (cond ((Int.tmod (↑x2.length : Int) (64 : Int)) != (56 : Int)) (cond (decide ((x2.length + 1) < 1073741824)) (kf69l1 (t0,(x2 ++ [(0 : Int)]))) none) (kf69j4 (t0,x2)))
theorem f69_4_eq (F : Nat) (Rf69l1 : St → Rz) (Rf69j4 : St → Rz) : ∀ v,XAf69 F (bp Tryd.f69 120) (ef69l1 v) (kSeq (kc VG0269 Rf69l1 [(0,.plain),(3,.plain)]) (kBlock 0 (kSeq (kc VG0269 Rf69j4 [(0,.plain),(3,.plain)]) Kf21))) = f69_4 F (Rf69l1 ∘ ef69l1) (Rf69j4 ∘ ef69j4) v := by
 rintro ⟨t0,x2⟩; kernel_rfl
def f69_5_i : Li × Li → Li × Li := fun (t0,x2) => (t0,x2)
def f69_5 (F : Nat) (kf69j4 : Li × Li → Rz) : Li × Li → Rz := fun v => loopN (fun k => f69_4 F k kf69j4) F (f69_5_i v)
theorem f69_5_eq (F : Nat) (Rf69j4 : St → Rz) : ∀ v,XAf69 F (bp Tryd.f69 60) (ef69j3 v) (kBlock 0 (kSeq (kc VG0269 Rf69j4 [(0,.plain),(3,.plain)]) Kf21)) = f69_5 F (Rf69j4 ∘ ef69j4) v :=
 loop_cut (by kernel_rfl) (by kernel_rfl) ef69j3 ef69l1 _ f69_5_i (fun k => f69_4 F k (Rf69j4 ∘ ef69j4))
  (by rintro ⟨t0,x2⟩; kernel_rfl) (fun Rf69l1 => f69_4_eq F Rf69l1 Rf69j4)
def f69_6 (F : Nat) (kf69j4 : Li × Li → Rz) : Li × Li → Rz := f69_5 F kf69j4
theorem f69_6_eq (F : Nat) (Rf69j4 : St → Rz) : ∀ v,XAf69 F (bp Tryd.f69 30) (ef69j3 v) (kSeq (kc VG0269 Rf69j4 [(0,.plain),(3,.plain)]) Kf21) = f69_6 F (Rf69j4 ∘ ef69j4) v := fun v =>
 (block_in  (by kernel_rfl) _ _).trans (f69_5_eq F Rf69j4 v)
def f69_7 (F : Nat) (kf69j5 : Int × Li → Rz) : Li × Li → Rz := fun (t0,x2) => (kf69j5 ((IntKind.u64.wrap ((8 : Int) * (IntKind.u64.wrap (↑t0.length : Int)))),x2))
theorem f69_7_eq (F : Nat) (Rf69j5 : St → Rz) : ∀ v,XAf69 F (bp Tryd.f69 62) (ef69j4 v) (kSeq (kc VG0269 Rf69j5 [(3,.plain),(4,.plain)]) Kf21) = f69_7 F (Rf69j5 ∘ ef69j5) v := by
 rintro ⟨t0,x2⟩; kernel_rfl
def f69_8 (F : Nat) (kf69j6 : Int × Int × Li → Rz) (kf69j7 : Li → Rz) : Int × Li → Rz := fun (t4,x2) => (kf69j6 (t4,(0 : Int),x2))
theorem f69_8_eq (F : Nat) (Rf69j6 : St → Rz) (Rf69j7 : St → Rz) : ∀ v,XAf69 F (bp Tryd.f69 252) (ef69j5 v) (kSeq (kc VG0269 Rf69j6 sp17) (kSeq (kc VG0269 Rf69j7 [(3,.plain)]) Kf21)) = f69_8 F (Rf69j6 ∘ ef69j6) (Rf69j7 ∘ ef69j7) v := by
 rintro ⟨t4,x2⟩; kernel_rfl
def f69_9 (F : Nat) (kf69l2 : Int × Int × Li → Rz) (kf69j7 : Li → Rz) : Int × Int × Li → Rz := fun (t4,t5,x3) => (cond (decide (t5 < (8 : Int))) (cond (decide (0 ≤ (IntKind.i64.wrap ((56 : Int) - (IntKind.i64.wrap ((8 : Int) * t5)))))) (cond (decide ((x3.length + 1) < 1073741824)) (kf69l2 (t4,(IntKind.i64.wrap (t5 + (1 : Int))),(x3 ++ [(IntKind.u8.wrap (Int.fdiv t4 (2 ^ (min (Int.toNat (IntKind.i64.wrap ((56 : Int) - (IntKind.i64.wrap ((8 : Int) * t5))))) 64))))]))) none) none) (kf69j7 x3))
theorem f69_9_eq (F : Nat) (Rf69l2 : St → Rz) (Rf69j7 : St → Rz) : ∀ v,XAf69 F (bp Tryd.f69 1012) (ef69l2 v) (kSeq (kc VG0269 Rf69l2 sp17) (kBlock 2 (kSeq (kc VG0269 Rf69j7 [(3,.plain)]) Kf21))) = f69_9 F (Rf69l2 ∘ ef69l2) (Rf69j7 ∘ ef69j7) v := by
 rintro ⟨t4,t5,x3⟩; kernel_rfl
def f69_10_i : Int × Int × Li → Int × Int × Li := fun (t4,t5,x3) => (t4,t5,x3)
def f69_10 (F : Nat) (kf69j7 : Li → Rz) : Int × Int × Li → Rz := fun v => loopN (fun k => f69_9 F k kf69j7) F (f69_10_i v)
theorem f69_10_eq (F : Nat) (Rf69j7 : St → Rz) : ∀ v,XAf69 F (bp Tryd.f69 506) (ef69j6 v) (kBlock 2 (kSeq (kc VG0269 Rf69j7 [(3,.plain)]) Kf21)) = f69_10 F (Rf69j7 ∘ ef69j7) v :=
 loop_cut (by kernel_rfl) (by kernel_rfl) ef69j6 ef69l2 _ f69_10_i (fun k => f69_9 F k (Rf69j7 ∘ ef69j7))
  (by rintro ⟨t4,t5,x3⟩; kernel_rfl) (fun Rf69l2 => f69_9_eq F Rf69l2 Rf69j7)
def f69_11 (F : Nat) (kf69j7 : Li → Rz) : Int × Int × Li → Rz := f69_10 F kf69j7
theorem f69_11_eq (F : Nat) (Rf69j7 : St → Rz) : ∀ v,XAf69 F (bp Tryd.f69 253) (ef69j6 v) (kSeq (kc VG0269 Rf69j7 [(3,.plain)]) Kf21) = f69_11 F (Rf69j7 ∘ ef69j7) v := fun v =>
 (block_in  (by kernel_rfl) _ _).trans (f69_10_eq F Rf69j7 v)
def f69_12 (F : Nat) (kf69j7 : Li → Rz) : Int × Li → Rz := fun v => f69_8 F (f69_11 F kf69j7) kf69j7 v
theorem f69_12_eq (F : Nat) (Rf69j7 : St → Rz) : ∀ v,XAf69 F (bp Tryd.f69 126) (ef69j5 v) (kSeq (kc VG0269 Rf69j7 [(3,.plain)]) Kf21) = f69_12 F (Rf69j7 ∘ ef69j7) v :=
 seq_cut (by kernel_rfl) (by kernel_rfl) ef69j5 ef69j6 _ (fun k => f69_8 F k (Rf69j7 ∘ ef69j7)) (f69_11 F (Rf69j7 ∘ ef69j7))
  (fun Rf69j6 => f69_8_eq F Rf69j6 Rf69j7) (f69_11_eq F Rf69j7)
def f69_13 (F : Nat) : Li → Rz := fun x1 => (some ((.own 0 0 1),[(.cells x1.length (.rI .u8 x1) true)]))
theorem f69_13_eq (F : Nat) : ∀ v,XAf69 F (bp Tryd.f69 127) (ef69j7 v) Kf21 = f69_13 F v := by
 intro x1; kernel_rfl
def f69_14 (F : Nat) : Int × Li → Rz := fun v => f69_12 F (f69_13 F) v
theorem f69_14_eq (F : Nat) : ∀ v,XAf69 F (bp Tryd.f69 63) (ef69j5 v) Kf21 = f69_14 F v :=
 seq_cut (by kernel_rfl) (by kernel_rfl) ef69j5 ef69j7 _ (fun k => f69_12 F k) (f69_13 F)
  (fun Rf69j7 => f69_12_eq F Rf69j7) (f69_13_eq F)
def f69_15 (F : Nat) : Li × Li → Rz := fun v => f69_7 F (f69_14 F) v
theorem f69_15_eq (F : Nat) : ∀ v,XAf69 F (bp Tryd.f69 31) (ef69j4 v) Kf21 = f69_15 F v :=
 seq_cut (by kernel_rfl) (by kernel_rfl) ef69j4 ef69j5 _ (fun k => f69_7 F k) (f69_14 F)
  (fun Rf69j5 => f69_7_eq F Rf69j5) (f69_14_eq F)
def f69_16 (F : Nat) : Li × Li → Rz := fun v => f69_6 F (f69_15 F) v
theorem f69_16_eq (F : Nat) : ∀ v,XAf69 F (bp Tryd.f69 15) (ef69j3 v) Kf21 = f69_16 F v :=
 seq_cut (by kernel_rfl) (by kernel_rfl) ef69j3 ef69j4 _ (fun k => f69_6 F k) (f69_15 F)
  (fun Rf69j4 => f69_6_eq F Rf69j4) (f69_15_eq F)
def f69_17 (F : Nat) : Li × Li → Rz := fun v => f69_3 F (f69_16 F) v
theorem f69_17_eq (F : Nat) : ∀ v,XAf69 F (bp Tryd.f69 7) (ef69j2 v) Kf21 = f69_17 F v :=
 seq_cut (by kernel_rfl) (by kernel_rfl) ef69j2 ef69j3 _ (fun k => f69_3 F k) (f69_16 F)
  (fun Rf69j3 => f69_3_eq F Rf69j3) (f69_16_eq F)
def f69_18 (F : Nat) : Li → Rz := fun v => f69_2 F (f69_17 F) v
theorem f69_18_eq (F : Nat) : ∀ v,XAf69 F (bp Tryd.f69 3) (ef69j1 v) Kf21 = f69_18 F v :=
 seq_cut (by kernel_rfl) (by kernel_rfl) ef69j1 ef69j2 _ (fun k => f69_2 F k) (f69_17 F)
  (fun Rf69j2 => f69_2_eq F Rf69j2) (f69_17_eq F)
def f69_19 (F : Nat) : Li → Rz := fun v => f69_1 F (f69_18 F) v
theorem f69_19_eq (F : Nat) : ∀ v,XAf69 F (sub (bodyOf Tryd.f69) []) (ef69_a v) Kf21 = f69_19 F v :=
 seq_cut (by kernel_rfl) (by kernel_rfl) ef69_a ef69j1 _ (fun k => f69_1 F k) (f69_18 F)
  (fun Rf69j1 => f69_1_eq F Rf69j1) (f69_18_eq F)
def f69 (F : Nat) : Li → Rz := f69_19 F
theorem f69_body (F : Nat) (a0 : List Int) : abody VG0269 (Af69 F) Tryd.f69 [(.vs (.rI .u8 a0) 0 1)] [] = f69 F a0 :=
 (abody_in (c := (sub (bodyOf Tryd.f69) [])) (by kernel_rfl) (s := ef69_a a0) (by kernel_rfl)).trans (f69_19_eq F a0)
def r69 : CRun := fun X H => match X,H with
 | [(.vs (.rI .u8 a0) 0 1)],[] => some ((decide (a0.length < 1073741000)),.own 0 0 1,[(.cells (Sha.padded a0).length (.rI .u8 (Sha.padded a0)) true)])
 | _,_ => none
theorem s69 (a0 : List Int) (hp : ((decide (a0.length < 1073741000))) = true) (h0 : okV (.vs (.rI .u8 a0) 0 1)) : ∃ F,f69 F a0 = some ((.own 0 0 1),[(.cells (Sha.padded a0).length (.rI .u8 (Sha.padded a0)) true)]) := by
 have hl : a0.length < 1073741000 := of_decide_eq_true hp
 refine ⟨65,?_⟩
 simp only [f69,f69_19,f69_1,f69_18,f69_2,f69_17,f69_3,f69_16,f69_6,f69_5,f69_5_i,List.nil_append]
 rw [cond_pos (by omega),cond_pos (by omega)]
 generalize hN : a0.length = N at *
 refine loopN_from (fun i => (a0,a0 ++ 128 :: List.replicate i 0)) ((55 - (N : Int)) % 64).toNat (by rfl) (fun i hi k => ?_) (fun k => ?_) 65 (by omega)
 ·simp only [f69_4,List.length_append,List.length_cons,List.length_replicate,int_bne,hN]
  rw [tmod_nn (by omega),cond_pos (by omega),cond_pos (by omega)]
  rw [show List.replicate (i + 1) (0 : Int) = List.replicate i 0 ++ [0] from List.replicate_succ',List.append_assoc]; rfl
 ·simp only [f69_4,List.length_append,List.length_cons,List.length_replicate,int_bne,hN]
  rw [tmod_nn (by omega),cond_neg (by omega)]
  generalize hP : a0 ++ (128 : Int) :: List.replicate ((55 - (N : Int)) % 64).toNat 0 = P
  have hPl : P.length ≤ N + 64 := by rw [← hP,← hN]; simp; omega
  simp only [f69_15,f69_7,f69_14,f69_12,f69_8,f69_11,f69_10,f69_10_i,hN]
  rw [u64w (x := (N : Int)) (by omega) (by omega)]
  generalize hM : IntKind.u64.wrap (8 * (N : Int)) = M
  refine loopN_from (fun j => (M,(j : Int),P ++ (List.range j).map fun i => IntKind.u8.wrap (M.fdiv (2 ^ (56 - 8 * i))))) 8 (by simp) (fun j hj k' => ?_) (fun k' => ?_) 65 (by omega)
  ·simp only [f69_9,List.length_append,List.length_map,List.length_range]
   rw [i64w (x := 8 * (j : Int)) (by omega) (by omega),i64w (x := 56 - 8 * (j : Int)) (by omega) (by omega),i64w (x := (j : Int) + 1) (by omega) (by omega),cond_pos (by omega),cond_pos (by omega),cond_pos (by omega)]
   rw [show min (56 - 8 * (j : Int)).toNat 64 = 56 - 8 * j by omega,List.range_succ,List.map_append,List.append_assoc]
   rfl
  ·simp only [f69_9]
   rw [cond_neg (by omega)]
   simp only [f69_13]
   have hpad : P ++ (List.range 8).map (fun i => IntKind.u8.wrap (M.fdiv (2 ^ (56 - 8 * i)))) = Sha.padded a0 := by
    rw [← hP,← hM,List.append_assoc]; unfold Sha.padded; rw [hN]; rfl
   rw [hpad]
theorem c69 : CallOk Tryd.prog G02 69 r69 := callOk_of (V := VG0269) mixed tys eVG0269 (f := 69) (fn := Tryd.f69) Tryd.func69 (by kernel_rfl) (c := sub (bodyOf Tryd.f69) []) (by kernel_rfl) (by
 intro X H r H' h hX hH
 unfold r69 at h; split at h <;> try contradiction
 ·simp only [Option.some.injEq,Prod.mk.injEq] at h
  obtain ⟨hp,rfl,rfl⟩ := h
  obtain ⟨F,hF⟩ := s69 _ hp (hX _ (.head _))
  exact ⟨Af69 F,(f69_body F _).trans hF⟩)
def lVG0230 : List CEnt := []
def VG0230 : Env := mkEnv T03 G02 lVG0230
noncomputable abbrev Kf22 := kFin VG0230 none (Tryd.f30).results.toList
theorem eVG0230 : EOk Tryd.prog VG0230 := eok_mk (by exact trivial)
def Af30 (F : Nat) : Cuts := { F := F,at_ := fun n => match n with | 5010 => some sp35 | 14018 => some sp36 | _ => none,join := fun n => match n with | 1059 => some [(0,.plain)] | 2057 => some [(0,.plain),(3,.plain)] | 4051 => some [(0,.plain),(3,.plain)] | 5049 => some sp19 | 8036 => some [(0,.plain),(4,.plain)] | 9034 => some sp37 | 10032 => some sp38 | 13026 => some sp38 | 14020 => some sp36 | 20003 => some [(6,.plain)] | _ => none }
noncomputable abbrev XAf30 (F : Nat) {α : Type} := @aexec α VG0230 (Af30 F)
def ef30_a : Int → St := fun a0 => ⟨[(0,.int .i64 a0)],[],0,59,0⟩
def ef30j1 : Int → St := fun t0 => ⟨[(0,.int .i64 t0)],[],0,59,0⟩
def ef30j2 : Int × Int → St := fun (t0,t3) => ⟨[(0,.int .i64 t0),(3,.int .i64 t3)],[],0,59,0⟩
def ef30j3 : Int × Int → St := ef30j2
def ef30j4 : Int × Int → St := fun (t0,t3) => ⟨[(0,.int .i64 t0),(3,.int .i64 t3),(4,.ns)],[],0,59,0⟩
def ef30l1 : Int × Int × Li → St := fun (t0,t3,x3) => ⟨[(0,.int .i64 t0),(3,.int .i64 t3),(4,.own 0 0 1)],[(0,(.cells x3.length (.rI .u8 x3) true))],1,59,0⟩
def ef30j5 : Int × Li → St := fun (t0,x2) => ⟨[(0,.int .i64 t0),(4,.own 0 0 1)],[(0,(.cells x2.length (.rI .u8 x2) true))],1,59,0⟩
def ef30j6 : Int × Int × Li → St := fun (t0,t5,x3) => ⟨[(0,.int .i64 t0),(4,.own 0 0 1),(5,.int .i64 t5)],[(0,(.cells x3.length (.rI .u8 x3) true))],1,59,0⟩
def ef30j7 : Int × Int × Li → St := fun (t0,t5,x3) => ⟨[(0,.int .i64 t0),(4,.own 0 0 1),(5,.int .i64 t5),(6,.ns)],[(0,(.cells x3.length (.rI .u8 x3) true))],1,59,0⟩
def ef30j8 : Ty20 → St := fun (t0,t5,x3,x4) => ⟨[(0,.int .i64 t0),(4,.own 0 0 1),(5,.int .i64 t5),(6,.own 1 0 1)],[(0,(.cells x3.length (.rI .u8 x3) true)),(1,(.cells x4.length (.rI .u8 x4) true))],2,59,0⟩
def ef30j9 : Ty20 → St := fun (t0,t7,x3,x4) => ⟨[(0,.int .i64 t0),(4,.own 0 0 1),(6,.own 1 0 1),(7,.int .i64 t7)],[(0,(.cells x3.length (.rI .u8 x3) true)),(1,(.cells x4.length (.rI .u8 x4) true))],2,59,0⟩
def ef30l2 : Ty20 → St := ef30j9
def ef30j10 : Li → St := fun x1 => ⟨[(6,.own 0 0 1)],[(0,(.cells x1.length (.rI .u8 x1) true))],1,59,0⟩
def f30_1 (F : Nat) (kf30j1 : Int → Rz) : Int → Rz := fun a0 => (kf30j1 a0)
theorem f30_1_eq (F : Nat) (Rf30j1 : St → Rz) : ∀ v,XAf30 F (bp Tryd.f30 2) (ef30_a v) (kSeq (kc VG0230 Rf30j1 [(0,.plain)]) Kf22) = f30_1 F (Rf30j1 ∘ ef30j1) v := by
 intro a0; kernel_rfl
def f30_2 (F : Nat) (kf30j2 : Int × Int → Rz) : Int → Rz := fun t0 => (kf30j2 (t0,t0))
theorem f30_2_eq (F : Nat) (Rf30j2 : St → Rz) : ∀ v,XAf30 F (bp Tryd.f30 6) (ef30j1 v) (kSeq (kc VG0230 Rf30j2 [(0,.plain),(3,.plain)]) Kf22) = f30_2 F (Rf30j2 ∘ ef30j2) v := by
 intro t0; kernel_rfl
def f30_3 (F : Nat) (kf30j3 : Int × Int → Rz) : Int × Int → Rz := fun (t0,t3) => (cond (decide (t0 < (0 : Int))) (kf30j3 (t0,(IntKind.i64.wrap ((-1 : Int) - t0)))) (kf30j3 (t0,t3)))
theorem f30_3_eq (F : Nat) (Rf30j3 : St → Rz) : ∀ v,XAf30 F (bp Tryd.f30 14) (ef30j2 v) (kSeq (kc VG0230 Rf30j3 [(0,.plain),(3,.plain)]) Kf22) = f30_3 F (Rf30j3 ∘ ef30j3) v := by
 rintro ⟨t0,t3⟩; kernel_rfl
def f30_4 (F : Nat) (kf30j4 : Int × Int → Rz) : Int × Int → Rz := fun (t0,t3) => (kf30j4 (t0,t3))
theorem f30_4_eq (F : Nat) (Rf30j4 : St → Rz) : ∀ v,XAf30 F (bp Tryd.f30 30) (ef30j3 v) (kSeq (kc VG0230 Rf30j4 sp19) Kf22) = f30_4 F (Rf30j4 ∘ ef30j4) v := by
 rintro ⟨t0,t3⟩; kernel_rfl
def f30_5 (F : Nat) (kf30l1 : Int × Int × Li → Rz) (kf30j5 : Int × Li → Rz) : Int × Int × Li → Rz := fun (t0,t3,x3) => (cond (decide (t3 > (0 : Int))) (cond (decide ((x3.length + 1) < 1073741824)) (kf30l1 (t0,(IntKind.i64.wrap (Int.tdiv t3 (256 : Int))),(x3 ++ [(IntKind.u8.wrap (Int.tmod t3 (256 : Int)))]))) none) (kf30j5 (t0,x3)))
theorem f30_5_eq (F : Nat) (Rf30l1 : St → Rz) (Rf30j5 : St → Rz) : ∀ v,XAf30 F (bp Tryd.f30 248) (ef30l1 v) (kSeq (kc VG0230 Rf30l1 sp35) (kBlock 0 (kSeq (kc VG0230 Rf30j5 [(0,.plain),(4,.plain)]) Kf22))) = f30_5 F (Rf30l1 ∘ ef30l1) (Rf30j5 ∘ ef30j5) v := by
 rintro ⟨t0,t3,x3⟩; kernel_rfl
def f30_6_i : Int × Int → Int × Int × Li := fun (t0,t3) => (t0,t3,[])
def f30_6 (F : Nat) (kf30j5 : Int × Li → Rz) : Int × Int → Rz := fun v => loopN (fun k => f30_5 F k kf30j5) F (f30_6_i v)
theorem f30_6_eq (F : Nat) (Rf30j5 : St → Rz) : ∀ v,XAf30 F (bp Tryd.f30 124) (ef30j4 v) (kBlock 0 (kSeq (kc VG0230 Rf30j5 [(0,.plain),(4,.plain)]) Kf22)) = f30_6 F (Rf30j5 ∘ ef30j5) v :=
 loop_cut (by kernel_rfl) (by kernel_rfl) ef30j4 ef30l1 _ f30_6_i (fun k => f30_5 F k (Rf30j5 ∘ ef30j5))
  (by rintro ⟨t0,t3⟩; kernel_rfl) (fun Rf30l1 => f30_5_eq F Rf30l1 Rf30j5)
def f30_7 (F : Nat) (kf30j5 : Int × Li → Rz) : Int × Int → Rz := f30_6 F kf30j5
theorem f30_7_eq (F : Nat) (Rf30j5 : St → Rz) : ∀ v,XAf30 F (bp Tryd.f30 62) (ef30j4 v) (kSeq (kc VG0230 Rf30j5 [(0,.plain),(4,.plain)]) Kf22) = f30_7 F (Rf30j5 ∘ ef30j5) v := fun v =>
 (block_in  (by kernel_rfl) _ _).trans (f30_6_eq F Rf30j5 v)
def f30_8 (F : Nat) (kf30j6 : Int × Int × Li → Rz) : Int × Li → Rz := fun (t0,x2) => (kf30j6 (t0,(↑x2.length : Int),x2))
theorem f30_8_eq (F : Nat) (Rf30j6 : St → Rz) : ∀ v,XAf30 F (bp Tryd.f30 126) (ef30j5 v) (kSeq (kc VG0230 Rf30j6 sp37) Kf22) = f30_8 F (Rf30j6 ∘ ef30j6) v := by
 rintro ⟨t0,x2⟩; kernel_rfl
def f30_9 (F : Nat) (kf30j7 : Int × Int × Li → Rz) : Int × Int × Li → Rz := fun (t0,t5,x3) => (kf30j7 (t0,t5,x3))
theorem f30_9_eq (F : Nat) (Rf30j7 : St → Rz) : ∀ v,XAf30 F (bp Tryd.f30 254) (ef30j6 v) (kSeq (kc VG0230 Rf30j7 sp38) Kf22) = f30_9 F (Rf30j7 ∘ ef30j7) v := by
 rintro ⟨t0,t5,x3⟩; kernel_rfl
def f30_10 (F : Nat) (kf30j8 : Ty20 → Rz) : Int × Int × Li → Rz := fun (t0,t5,x3) => (cond (decide (t0 ≥ (0 : Int))) (kf30j8 (t0,t5,x3,[(IntKind.u8.wrap (IntKind.i64.wrap ((128 : Int) + t5)))])) (kf30j8 (t0,t5,x3,[(IntKind.u8.wrap (IntKind.i64.wrap ((127 : Int) - t5)))])))
theorem f30_10_eq (F : Nat) (Rf30j8 : St → Rz) : ∀ v,XAf30 F (bp Tryd.f30 510) (ef30j7 v) (kSeq (kc VG0230 Rf30j8 sp38) Kf22) = f30_10 F (Rf30j8 ∘ ef30j8) v := by
 rintro ⟨t0,t5,x3⟩; kernel_rfl
def f30_11 (F : Nat) (kf30j9 : Ty20 → Rz) (kf30j10 : Li → Rz) : Ty20 → Rz := fun (t0,t5,x3,x4) => (kf30j9 (t0,(IntKind.i64.wrap (t5 - (1 : Int))),x3,x4))
theorem f30_11_eq (F : Nat) (Rf30j9 : St → Rz) (Rf30j10 : St → Rz) : ∀ v,XAf30 F (bp Tryd.f30 2044) (ef30j8 v) (kSeq (kc VG0230 Rf30j9 sp36) (kSeq (kc VG0230 Rf30j10 [(6,.plain)]) Kf22)) = f30_11 F (Rf30j9 ∘ ef30j9) (Rf30j10 ∘ ef30j10) v := by
 rintro ⟨t0,t5,x3,x4⟩; kernel_rfl
def f30_12 (F : Nat) (kf30l2 : Ty20 → Rz) (kf30j10 : Li → Rz) : Ty20 → Rz := fun (t0,t7,x3,x4) => (cond (decide (t7 ≥ (0 : Int))) (cond ((decide (0 ≤ t7)) && (decide (t7 < (↑x3.length : Int)))) (cond (decide (t0 < (0 : Int))) (cond (decide ((x4.length + 1) < 1073741824)) (kf30l2 (t0,(IntKind.i64.wrap (t7 - (1 : Int))),x3,(x4 ++ [(IntKind.u8.wrap ((255 : Int) - (x3.getD (Int.toNat t7) 0)))]))) none) (cond (decide ((x4.length + 1) < 1073741824)) (kf30l2 (t0,(IntKind.i64.wrap (t7 - (1 : Int))),x3,(x4 ++ [(x3.getD (Int.toNat t7) 0)]))) none)) none) (kf30j10 x4))
theorem f30_12_eq (F : Nat) (Rf30l2 : St → Rz) (Rf30j10 : St → Rz) : ∀ v,XAf30 F (bp Tryd.f30 8180) (ef30l2 v) (kSeq (kc VG0230 Rf30l2 sp36) (kBlock 2 (kSeq (kc VG0230 Rf30j10 [(6,.plain)]) Kf22))) = f30_12 F (Rf30l2 ∘ ef30l2) (Rf30j10 ∘ ef30j10) v := by
 rintro ⟨t0,t7,x3,x4⟩; kernel_rfl
def f30_13_i : Ty20 → Int × Int × Li × Li := fun (t0,t7,x3,x4) => (t0,t7,x3,x4)
def f30_13 (F : Nat) (kf30j10 : Li → Rz) : Ty20 → Rz := fun v => loopN (fun k => f30_12 F k kf30j10) F (f30_13_i v)
theorem f30_13_eq (F : Nat) (Rf30j10 : St → Rz) : ∀ v,XAf30 F (bp Tryd.f30 4090) (ef30j9 v) (kBlock 2 (kSeq (kc VG0230 Rf30j10 [(6,.plain)]) Kf22)) = f30_13 F (Rf30j10 ∘ ef30j10) v :=
 loop_cut (by kernel_rfl) (by kernel_rfl) ef30j9 ef30l2 _ f30_13_i (fun k => f30_12 F k (Rf30j10 ∘ ef30j10))
  (by rintro ⟨t0,t7,x3,x4⟩; kernel_rfl) (fun Rf30l2 => f30_12_eq F Rf30l2 Rf30j10)
def f30_14 (F : Nat) (kf30j10 : Li → Rz) : Ty20 → Rz := f30_13 F kf30j10
theorem f30_14_eq (F : Nat) (Rf30j10 : St → Rz) : ∀ v,XAf30 F (bp Tryd.f30 2045) (ef30j9 v) (kSeq (kc VG0230 Rf30j10 [(6,.plain)]) Kf22) = f30_14 F (Rf30j10 ∘ ef30j10) v := fun v =>
 (block_in  (by kernel_rfl) _ _).trans (f30_13_eq F Rf30j10 v)
def f30_15 (F : Nat) (kf30j10 : Li → Rz) : Ty20 → Rz := fun v => f30_11 F (f30_14 F kf30j10) kf30j10 v
theorem f30_15_eq (F : Nat) (Rf30j10 : St → Rz) : ∀ v,XAf30 F (bp Tryd.f30 1022) (ef30j8 v) (kSeq (kc VG0230 Rf30j10 [(6,.plain)]) Kf22) = f30_15 F (Rf30j10 ∘ ef30j10) v :=
 seq_cut (by kernel_rfl) (by kernel_rfl) ef30j8 ef30j9 _ (fun k => f30_11 F k (Rf30j10 ∘ ef30j10)) (f30_14 F (Rf30j10 ∘ ef30j10))
  (fun Rf30j9 => f30_11_eq F Rf30j9 Rf30j10) (f30_14_eq F Rf30j10)
def f30_16 (F : Nat) : Li → Rz := fun x1 => (some ((.own 0 0 1),[(.cells x1.length (.rI .u8 x1) true)]))
theorem f30_16_eq (F : Nat) : ∀ v,XAf30 F (bp Tryd.f30 1023) (ef30j10 v) Kf22 = f30_16 F v := by
 intro x1; kernel_rfl
def f30_17 (F : Nat) : Ty20 → Rz := fun v => f30_15 F (f30_16 F) v
theorem f30_17_eq (F : Nat) : ∀ v,XAf30 F (bp Tryd.f30 511) (ef30j8 v) Kf22 = f30_17 F v :=
 seq_cut (by kernel_rfl) (by kernel_rfl) ef30j8 ef30j10 _ (fun k => f30_15 F k) (f30_16 F)
  (fun Rf30j10 => f30_15_eq F Rf30j10) (f30_16_eq F)
def f30_18 (F : Nat) : Int × Int × Li → Rz := fun v => f30_10 F (f30_17 F) v
theorem f30_18_eq (F : Nat) : ∀ v,XAf30 F (bp Tryd.f30 255) (ef30j7 v) Kf22 = f30_18 F v :=
 seq_cut (by kernel_rfl) (by kernel_rfl) ef30j7 ef30j8 _ (fun k => f30_10 F k) (f30_17 F)
  (fun Rf30j8 => f30_10_eq F Rf30j8) (f30_17_eq F)
def f30_19 (F : Nat) : Int × Int × Li → Rz := fun v => f30_9 F (f30_18 F) v
theorem f30_19_eq (F : Nat) : ∀ v,XAf30 F (bp Tryd.f30 127) (ef30j6 v) Kf22 = f30_19 F v :=
 seq_cut (by kernel_rfl) (by kernel_rfl) ef30j6 ef30j7 _ (fun k => f30_9 F k) (f30_18 F)
  (fun Rf30j7 => f30_9_eq F Rf30j7) (f30_18_eq F)
def f30_20 (F : Nat) : Int × Li → Rz := fun v => f30_8 F (f30_19 F) v
theorem f30_20_eq (F : Nat) : ∀ v,XAf30 F (bp Tryd.f30 63) (ef30j5 v) Kf22 = f30_20 F v :=
 seq_cut (by kernel_rfl) (by kernel_rfl) ef30j5 ef30j6 _ (fun k => f30_8 F k) (f30_19 F)
  (fun Rf30j6 => f30_8_eq F Rf30j6) (f30_19_eq F)
def f30_21 (F : Nat) : Int × Int → Rz := fun v => f30_7 F (f30_20 F) v
theorem f30_21_eq (F : Nat) : ∀ v,XAf30 F (bp Tryd.f30 31) (ef30j4 v) Kf22 = f30_21 F v :=
 seq_cut (by kernel_rfl) (by kernel_rfl) ef30j4 ef30j5 _ (fun k => f30_7 F k) (f30_20 F)
  (fun Rf30j5 => f30_7_eq F Rf30j5) (f30_20_eq F)
def f30_22 (F : Nat) : Int × Int → Rz := fun v => f30_4 F (f30_21 F) v
theorem f30_22_eq (F : Nat) : ∀ v,XAf30 F (bp Tryd.f30 15) (ef30j3 v) Kf22 = f30_22 F v :=
 seq_cut (by kernel_rfl) (by kernel_rfl) ef30j3 ef30j4 _ (fun k => f30_4 F k) (f30_21 F)
  (fun Rf30j4 => f30_4_eq F Rf30j4) (f30_21_eq F)
def f30_23 (F : Nat) : Int × Int → Rz := fun v => f30_3 F (f30_22 F) v
theorem f30_23_eq (F : Nat) : ∀ v,XAf30 F (bp Tryd.f30 7) (ef30j2 v) Kf22 = f30_23 F v :=
 seq_cut (by kernel_rfl) (by kernel_rfl) ef30j2 ef30j3 _ (fun k => f30_3 F k) (f30_22 F)
  (fun Rf30j3 => f30_3_eq F Rf30j3) (f30_22_eq F)
def f30_24 (F : Nat) : Int → Rz := fun v => f30_2 F (f30_23 F) v
theorem f30_24_eq (F : Nat) : ∀ v,XAf30 F (bp Tryd.f30 3) (ef30j1 v) Kf22 = f30_24 F v :=
 seq_cut (by kernel_rfl) (by kernel_rfl) ef30j1 ef30j2 _ (fun k => f30_2 F k) (f30_23 F)
  (fun Rf30j2 => f30_2_eq F Rf30j2) (f30_23_eq F)
def f30_25 (F : Nat) : Int → Rz := fun v => f30_1 F (f30_24 F) v
theorem f30_25_eq (F : Nat) : ∀ v,XAf30 F (sub (bodyOf Tryd.f30) []) (ef30_a v) Kf22 = f30_25 F v :=
 seq_cut (by kernel_rfl) (by kernel_rfl) ef30_a ef30j1 _ (fun k => f30_1 F k) (f30_24 F)
  (fun Rf30j1 => f30_1_eq F Rf30j1) (f30_24_eq F)
def f30 (F : Nat) : Int → Rz := f30_25 F
theorem f30_body (F : Nat) (a0 : Int) : abody VG0230 (Af30 F) Tryd.f30 [(.int .i64 a0)] [] = f30 F a0 :=
 (abody_in (c := (sub (bodyOf Tryd.f30) [])) (by kernel_rfl) (s := ef30_a a0) (by kernel_rfl)).trans (f30_25_eq F a0)
def r30 : CRun := fun X H => match X,H with
 | [(.int .i64 a0)],[] => some (true,.own 0 0 1,[(.cells (Wire.int a0).length (.rI .u8 (Wire.int a0)) true)])
 | _,_ => none
theorem s30 (a0 : Int) (h0 : okV (.int .i64 a0)) : ∃ F,f30 F a0 = some ((.own 0 0 1),[(.cells (Wire.int a0).length (.rI .u8 (Wire.int a0)) true)]) := by
 have hm := Wire.mag_lt h0
 have h0' : -9223372036854775808 ≤ a0 ∧ a0 ≤ 9223372036854775807 := h0
 have hk8 := Wire.nb_le (Wire.mag a0)
 refine ⟨10,?_⟩
 simp only [f30,f30_25,f30_1,f30_24,f30_2,f30_23,f30_3]
 have key : f30_22 10 (a0,((Wire.mag a0 : Nat) : Int)) = some ((.own 0 0 1),[(.cells (Wire.int a0).length (.rI .u8 (Wire.int a0)) true)]) := by
  simp only [f30_22,f30_4,f30_21,f30_7,f30_6,f30_6_i]
  generalize hM : Wire.mag a0 = m at *
  refine loopN_from (fun j => (a0,((m / 256 ^ j : Nat) : Int),(List.range j).map fun i => ((m / 256 ^ i % 256 : Nat) : Int))) (Wire.nb m) (by simp) (fun j hj k => ?_) (fun k => ?_) 10 (by omega)
  ·have hne : ¬ (m / 256 ^ j = 0) := by rw [Wire.nb_shift (show m < 18446744073709551616 by omega)]; omega
   have hle : m / 256 ^ j ≤ m := Nat.div_le_self _ _
   simp only [f30_5,List.length_map,List.length_range]
   have e : m / 256 ^ (j + 1) = m / 256 ^ j / 256 := by rw [Nat.pow_succ,Nat.div_div_eq_div_mul]
   rw [List.range_succ,List.map_append,e]
   simp only [List.map_cons,List.map_nil]
   generalize m / 256 ^ j = q at *
   rw [tdiv_nn (by omega),tmod_nn (by omega),i64w (by omega) (by omega),u8w (by omega) (by omega),cond_pos (by omega),cond_pos (by omega)]
   simp
  ·have hz : m / 256 ^ Wire.nb m = 0 := (Wire.nb_shift (show m < 18446744073709551616 by omega)).mpr (Nat.le_refl _)
   simp only [f30_5]
   rw [hz,cond_neg (by decide)]
   simp only [f30_20,f30_8,f30_19,f30_9,f30_18,f30_10,List.length_map,List.length_range]
   generalize hK : Wire.nb m = kk at *
   have fin : f30_17 10 (a0,(kk : Int),(List.range kk).map (fun i => ((m / 256 ^ i % 256 : Nat) : Int)),[Wire.head a0]) = some ((.own 0 0 1),[(.cells (Wire.int a0).length (.rI .u8 (Wire.int a0)) true)]) := by
    simp only [f30_17,f30_15,f30_16,f30_11,f30_14,f30_13,f30_13_i]
    rw [i64w (x := (kk : Int) - 1) (by omega) (by omega)]
    refine loopN_from (fun j => (a0,(kk : Int) - 1 - j,(List.range kk).map (fun i => ((m / 256 ^ i % 256 : Nat) : Int)),Wire.head a0 :: (List.range j).map fun j => Wire.dig a0 (kk - 1 - j))) kk (by simp) (fun j hj k' => ?_) (fun k' => ?_) 10 (by omega)
    ·simp only [f30_12,dec_and,List.length_cons,List.length_map,List.length_range]
     rw [i64w (x := (kk : Int) - 1 - (j : Int) - 1) (by omega) (by omega),cond_pos (by omega),cond_pos (by omega),show ((kk : Int) - 1 - j).toNat = kk - 1 - j by omega]
     have hg : ((List.range kk).map (fun i => ((m / 256 ^ i % 256 : Nat) : Int))).getD (kk - 1 - j) 0 = ((m / 256 ^ (kk - 1 - j) % 256 : Nat) : Int) := by
      rw [List.getD_eq_getElem?_getD,List.getElem?_map,List.getElem?_range (by omega)]; rfl
     have hd : Wire.dig a0 (kk - 1 - j) = if a0 < 0 then 255 - ((m / 256 ^ (kk - 1 - j) % 256 : Nat) : Int) else ((m / 256 ^ (kk - 1 - j) % 256 : Nat) : Int) := by unfold Wire.dig; rw [hM]
     rw [hg,List.range_succ,List.map_append]
     simp only [List.map_cons,List.map_nil,hd]
     rw [show (kk : Int) - 1 - (j : Int) - 1 = (kk : Int) - 1 - ((j + 1 : Nat) : Int) by omega]
     have hq : m / 256 ^ (kk - 1 - j) % 256 < 256 := Nat.mod_lt _ (by decide)
     generalize m / 256 ^ (kk - 1 - j) % 256 = q at *
     by_cases hn : a0 < 0
     ·rw [cond_pos hn,cond_pos (by omega),if_pos hn,u8w (by omega) (by omega)]; rfl
     ·rw [cond_neg hn,cond_pos (by omega),if_neg hn]; rfl
    ·simp only [f30_12]
     rw [cond_neg (by omega)]
     have : Wire.int a0 = Wire.head a0 :: (List.range kk).map fun j => Wire.dig a0 (kk - 1 - j) := by unfold Wire.int; rw [hM,hK]
     rw [this]; rfl
   by_cases hn : a0 ≥ 0
   ·rw [cond_pos hn]
    have : IntKind.u8.wrap (IntKind.i64.wrap (128 + (kk : Int))) = Wire.head a0 := by
     unfold Wire.head; rw [hM,hK,if_neg (by omega),i64w (by omega) (by omega),u8w (by omega) (by omega)]
    rw [this]; exact fin
   ·rw [cond_neg hn]
    have : IntKind.u8.wrap (IntKind.i64.wrap (127 - (kk : Int))) = Wire.head a0 := by
     unfold Wire.head; rw [hM,hK,if_pos (by omega),i64w (by omega) (by omega),u8w (by omega) (by omega)]
    rw [this]; exact fin
 by_cases hn : a0 < 0
 ·rw [cond_pos hn]
  have : IntKind.i64.wrap (-1 - a0) = ((Wire.mag a0 : Nat) : Int) := by
   rw [i64w (by omega) (by omega)]; unfold Wire.mag; rw [if_pos hn]; omega
  rw [this]; exact key
 ·rw [cond_neg hn]
  have : a0 = ((Wire.mag a0 : Nat) : Int) := by unfold Wire.mag; rw [if_neg hn]; omega
  rw [← this] at key; exact key
theorem c30 : CallOk Tryd.prog G02 30 r30 := callOk_of (V := VG0230) mixed tys eVG0230 (f := 30) (fn := Tryd.f30) Tryd.func30 (by kernel_rfl) (c := sub (bodyOf Tryd.f30) []) (by kernel_rfl) (by
 intro X H r H' h hX hH
 unfold r30 at h; split at h <;> try contradiction
 ·simp only [Option.some.injEq,Prod.mk.injEq] at h
  obtain ⟨hp,rfl,rfl⟩ := h
  obtain ⟨F,hF⟩ := s30 _ (hX _ (.head _))
  exact ⟨Af30 F,(f30_body F _).trans hF⟩)
def lVG0268 : List CEnt := [(30,[none],r30)]
def VG0268 : Env := mkEnv T03 G02 lVG0268
noncomputable abbrev Kf23 := kFin VG0268 none (Tryd.f68).results.toList
theorem eVG0268 : EOk Tryd.prog VG0268 := eok_mk (by exact ⟨c30,trivial⟩)
def Af68 (F : Nat) : Cuts := { F := F,at_ := fun _ => none,join := fun _ => none }
def ef68_a : Li → St := fun a0 => ⟨[(0,.str a0)],[],0,9,0⟩
def f68_1 (F : Nat) : Li → Rz := fun a0 => (cond (decide (((Wire.int (↑a0.length : Int)).length + a0.length) < 1073741824)) (some ((.own 0 0 1),[(.cells ((Wire.int (↑a0.length : Int)) ++ a0).length (.rI .u8 ((Wire.int (↑a0.length : Int)) ++ a0)) true)])) none)
theorem f68_1_eq (F : Nat) : ∀ v,aexec VG0268 (Af68 F) (sub (bodyOf Tryd.f68) []) (ef68_a v) Kf23 = f68_1 F v := by
 intro a0; kernel_rfl
def f68 (F : Nat) : Li → Rz := f68_1 F
theorem f68_body (F : Nat) (a0 : List Int) : abody VG0268 (Af68 F) Tryd.f68 [(.str a0)] [] = f68 F a0 :=
 (abody_in (c := (sub (bodyOf Tryd.f68) [])) (by kernel_rfl) (s := ef68_a a0) (by kernel_rfl)).trans (f68_1_eq F a0)
def r68 : CRun := fun X H => match X,H with
 | [(.str a0)],[] => some ((decide (a0.length < 1073741000)),.own 0 0 1,[(.cells (Wire.bytes a0).length (.rI .u8 (Wire.bytes a0)) true)])
 | _,_ => none
theorem s68 (a0 : List Int) (hp : ((decide (a0.length < 1073741000))) = true) (h0 : okV (.str a0)) : ∃ F,f68 F a0 = some ((.own 0 0 1),[(.cells (Wire.bytes a0).length (.rI .u8 (Wire.bytes a0)) true)]) := by
 have hl : a0.length < 1073741000 := of_decide_eq_true hp
 have := Wire.nb_le (Wire.mag (a0.length : Int))
 refine ⟨0,?_⟩
 simp only [f68,f68_1]
 rw [cond_pos (by rw [Wire.int_len]; omega)]
 rfl
theorem c68 : CallOk Tryd.prog G02 68 r68 := callOk_of (V := VG0268) mixed tys eVG0268 (f := 68) (fn := Tryd.f68) Tryd.func68 (by kernel_rfl) (c := sub (bodyOf Tryd.f68) []) (by kernel_rfl) (by
 intro X H r H' h hX hH
 unfold r68 at h; split at h <;> try contradiction
 ·simp only [Option.some.injEq,Prod.mk.injEq] at h
  obtain ⟨hp,rfl,rfl⟩ := h
  obtain ⟨F,hF⟩ := s68 _ hp (hX _ (.head _))
  exact ⟨Af68 F,(f68_body F _).trans hF⟩)
def lVG0257 : List CEnt := [(68,[none],r68)]
def VG0257 : Env := mkEnv T03 G02 lVG0257
noncomputable abbrev Kf24 := kFin VG0257 none (Tryd.f57).results.toList
theorem eVG0257 : EOk Tryd.prog VG0257 := eok_mk (by exact ⟨c68,trivial⟩)
def Af57 (F : Nat) : Cuts := { F := F,at_ := fun n => match n with | 3010 => some sp39 | _ => none,join := fun n => match n with | 1020 => some [(0,.plain),(1,.plain)] | 2018 => some [(1,.plain),(5,.plain)] | 3012 => some sp39 | 6003 => some [(5,.plain)] | _ => none }
noncomputable abbrev XAf57 (F : Nat) {α : Type} := @aexec α VG0257 (Af57 F)
def ef57_a : Int × (List Li) → St := fun (a0,a1) => ⟨[(0,.int .i64 a0),(1,(.vs (.rS a1) 0 1))],[],0,24,0⟩
def ef57j1 : Int × (List Li) → St := fun (t0,t1) => ⟨[(0,.int .i64 t0),(1,(.vs (.rS t1) 0 1))],[],0,24,0⟩
def ef57j2 : Ty28 → St := fun (t1,x2) => ⟨[(1,(.vs (.rS t1) 0 1)),(5,.own 0 0 1)],[(0,(.cells x2.length (.rI .u8 x2) true))],1,24,0⟩
def ef57j3 : Ty29 → St := fun (t1,t6,x3) => ⟨[(1,(.vs (.rS t1) 0 1)),(5,.own 0 0 1),(6,.int .i64 t6)],[(0,(.cells x3.length (.rI .u8 x3) true))],1,24,0⟩
def ef57l1 : Ty29 → St := ef57j3
def ef57j4 : Li → St := fun x1 => ⟨[(5,.own 0 0 1)],[(0,(.cells x1.length (.rI .u8 x1) true))],1,24,0⟩
def f57_1 (F : Nat) (kf57j1 : Int × (List Li) → Rz) : Int × (List Li) → Rz := fun (a0,a1) => (kf57j1 (a0,a1))
theorem f57_1_eq (F : Nat) (Rf57j1 : St → Rz) : ∀ v,XAf57 F (bp Tryd.f57 2) (ef57_a v) (kSeq (kc VG0257 Rf57j1 [(0,.plain),(1,.plain)]) Kf24) = f57_1 F (Rf57j1 ∘ ef57j1) v := by
 rintro ⟨a0,a1⟩; kernel_rfl
def f57_2 (F : Nat) (kf57j2 : Ty28 → Rz) : Int × (List Li) → Rz := fun (t0,t1) => (kf57j2 (t1,[(IntKind.u8.wrap t0)]))
theorem f57_2_eq (F : Nat) (Rf57j2 : St → Rz) : ∀ v,XAf57 F (bp Tryd.f57 6) (ef57j1 v) (kSeq (kc VG0257 Rf57j2 [(1,.plain),(5,.plain)]) Kf24) = f57_2 F (Rf57j2 ∘ ef57j2) v := by
 rintro ⟨t0,t1⟩; kernel_rfl
def f57_3 (F : Nat) (kf57j3 : Ty29 → Rz) (kf57j4 : Li → Rz) : Ty28 → Rz := fun (t1,x2) => (kf57j3 (t1,(0 : Int),x2))
theorem f57_3_eq (F : Nat) (Rf57j3 : St → Rz) (Rf57j4 : St → Rz) : ∀ v,XAf57 F (bp Tryd.f57 28) (ef57j2 v) (kSeq (kc VG0257 Rf57j3 sp39) (kSeq (kc VG0257 Rf57j4 [(5,.plain)]) Kf24)) = f57_3 F (Rf57j3 ∘ ef57j3) (Rf57j4 ∘ ef57j4) v := by
 rintro ⟨t1,x2⟩; kernel_rfl
def f57_4 (F : Nat) (kf57l1 : Ty29 → Rz) (kf57j4 : Li → Rz) : Ty29 → Rz := fun (t1,t6,x3) => (cond (decide (t6 < (↑t1.length : Int))) (cond ((decide (0 ≤ t6)) && (decide (t6 < (↑t1.length : Int)))) (cond (decide ((t1.getD (Int.toNat t6) []).length < 1073741000)) (cond (decide ((x3.length + (Wire.bytes (t1.getD (Int.toNat t6) [])).length) < 1073741824)) (kf57l1 (t1,(IntKind.i64.wrap (t6 + (1 : Int))),(x3 ++ (Wire.bytes (t1.getD (Int.toNat t6) []))))) none) none) none) (kf57j4 x3))
theorem f57_4_eq (F : Nat) (Rf57l1 : St → Rz) (Rf57j4 : St → Rz) : ∀ v,XAf57 F (bp Tryd.f57 116) (ef57l1 v) (kSeq (kc VG0257 Rf57l1 sp39) (kBlock 0 (kSeq (kc VG0257 Rf57j4 [(5,.plain)]) Kf24))) = f57_4 F (Rf57l1 ∘ ef57l1) (Rf57j4 ∘ ef57j4) v := by
 rintro ⟨t1,t6,x3⟩; kernel_rfl
def f57_5_i : Ty29 → (List Li) × Int × Li := fun (t1,t6,x3) => (t1,t6,x3)
def f57_5 (F : Nat) (kf57j4 : Li → Rz) : Ty29 → Rz := fun v => loopN (fun k => f57_4 F k kf57j4) F (f57_5_i v)
theorem f57_5_eq (F : Nat) (Rf57j4 : St → Rz) : ∀ v,XAf57 F (bp Tryd.f57 58) (ef57j3 v) (kBlock 0 (kSeq (kc VG0257 Rf57j4 [(5,.plain)]) Kf24)) = f57_5 F (Rf57j4 ∘ ef57j4) v :=
 loop_cut (by kernel_rfl) (by kernel_rfl) ef57j3 ef57l1 _ f57_5_i (fun k => f57_4 F k (Rf57j4 ∘ ef57j4))
  (by rintro ⟨t1,t6,x3⟩; kernel_rfl) (fun Rf57l1 => f57_4_eq F Rf57l1 Rf57j4)
def f57_6 (F : Nat) (kf57j4 : Li → Rz) : Ty29 → Rz := f57_5 F kf57j4
theorem f57_6_eq (F : Nat) (Rf57j4 : St → Rz) : ∀ v,XAf57 F (bp Tryd.f57 29) (ef57j3 v) (kSeq (kc VG0257 Rf57j4 [(5,.plain)]) Kf24) = f57_6 F (Rf57j4 ∘ ef57j4) v := fun v =>
 (block_in  (by kernel_rfl) _ _).trans (f57_5_eq F Rf57j4 v)
def f57_7 (F : Nat) (kf57j4 : Li → Rz) : Ty28 → Rz := fun v => f57_3 F (f57_6 F kf57j4) kf57j4 v
theorem f57_7_eq (F : Nat) (Rf57j4 : St → Rz) : ∀ v,XAf57 F (bp Tryd.f57 14) (ef57j2 v) (kSeq (kc VG0257 Rf57j4 [(5,.plain)]) Kf24) = f57_7 F (Rf57j4 ∘ ef57j4) v :=
 seq_cut (by kernel_rfl) (by kernel_rfl) ef57j2 ef57j3 _ (fun k => f57_3 F k (Rf57j4 ∘ ef57j4)) (f57_6 F (Rf57j4 ∘ ef57j4))
  (fun Rf57j3 => f57_3_eq F Rf57j3 Rf57j4) (f57_6_eq F Rf57j4)
def f57_8 (F : Nat) : Li → Rz := fun x1 => (some ((.own 0 0 1),[(.cells x1.length (.rI .u8 x1) true)]))
theorem f57_8_eq (F : Nat) : ∀ v,XAf57 F (bp Tryd.f57 15) (ef57j4 v) Kf24 = f57_8 F v := by
 intro x1; kernel_rfl
def f57_9 (F : Nat) : Ty28 → Rz := fun v => f57_7 F (f57_8 F) v
theorem f57_9_eq (F : Nat) : ∀ v,XAf57 F (bp Tryd.f57 7) (ef57j2 v) Kf24 = f57_9 F v :=
 seq_cut (by kernel_rfl) (by kernel_rfl) ef57j2 ef57j4 _ (fun k => f57_7 F k) (f57_8 F)
  (fun Rf57j4 => f57_7_eq F Rf57j4) (f57_8_eq F)
def f57_10 (F : Nat) : Int × (List Li) → Rz := fun v => f57_2 F (f57_9 F) v
theorem f57_10_eq (F : Nat) : ∀ v,XAf57 F (bp Tryd.f57 3) (ef57j1 v) Kf24 = f57_10 F v :=
 seq_cut (by kernel_rfl) (by kernel_rfl) ef57j1 ef57j2 _ (fun k => f57_2 F k) (f57_9 F)
  (fun Rf57j2 => f57_2_eq F Rf57j2) (f57_9_eq F)
def f57_11 (F : Nat) : Int × (List Li) → Rz := fun v => f57_1 F (f57_10 F) v
theorem f57_11_eq (F : Nat) : ∀ v,XAf57 F (sub (bodyOf Tryd.f57) []) (ef57_a v) Kf24 = f57_11 F v :=
 seq_cut (by kernel_rfl) (by kernel_rfl) ef57_a ef57j1 _ (fun k => f57_1 F k) (f57_10 F)
  (fun Rf57j1 => f57_1_eq F Rf57j1) (f57_10_eq F)
def f57 (F : Nat) : Int × (List Li) → Rz := f57_11 F
theorem f57_body (F : Nat) (a0 : Int) (a1 : List Li) : abody VG0257 (Af57 F) Tryd.f57 [(.int .i64 a0),(.vs (.rS a1) 0 1)] [] = f57 F (a0,a1) :=
 (abody_in (c := (sub (bodyOf Tryd.f57) [])) (by kernel_rfl) (s := ef57_a (a0,a1)) (by kernel_rfl)).trans (f57_11_eq F (a0,a1))
def r57 : CRun := fun X H => match X,H with
 | [(.int .i64 a0),(.vs (.rS a1) 0 1)],[] => some ((decide ((Sha.input a0 a1).length < 1073741000)),.own 0 0 1,[(.cells (Sha.input a0 a1).length (.rI .u8 (Sha.input a0 a1)) true)])
 | _,_ => none
theorem input_le (tag : Int) (l : List Li) (i : Nat) : (Sha.input tag (l.take i)).length ≤ (Sha.input tag l).length := by
 have : Sha.input tag l = Sha.input tag (l.take i) ++ (l.drop i).flatMap Wire.bytes := by
  simp only [Sha.input]; rw [List.cons_append,← List.flatMap_append,List.take_append_drop]
 rw [this,List.length_append]; omega
theorem s57 (a0 : Int) (a1 : List Li) (hp : ((decide ((Sha.input a0 a1).length < 1073741000))) = true) (h0 : okV (.int .i64 a0)) (h1 : okV (.vs (.rS a1) 0 1)) : ∃ F,f57 F (a0,a1) = some ((.own 0 0 1),[(.cells (Sha.input a0 a1).length (.rI .u8 (Sha.input a0 a1)) true)]) := by
 have hl : (Sha.input a0 a1).length < 1073741000 := of_decide_eq_true hp
 have hl1 := h1.2
 refine ⟨a1.length + 1,?_⟩
 simp only [f57,f57_11,f57_1,f57_10,f57_2,f57_9,f57_7,f57_3,f57_6,f57_5,f57_5_i]
 refine loopN_from (fun i => (a1,(i : Int),Sha.input a0 (a1.take i))) a1.length (by rfl) (fun i hi k => ?_) (fun k => ?_) _ (by omega)
 ·have e1 := input_take a0 a1 i hi
  have e2 := input_le a0 a1 (i + 1)
  rw [e1,List.length_append] at e2
  have e3 : (a1.getD i []).length ≤ (Wire.bytes (a1.getD i [])).length := by simp [Wire.bytes]
  simp only [f57_4,dec_and]
  rw [Int.toNat_natCast,cond_pos (by omega),cond_pos (by omega),cond_pos (by omega),cond_pos (by omega),i64w (x := (i : Int) + 1) (by omega) (by omega),← e1]
  rfl
 ·simp only [f57_4]
  rw [cond_neg (by omega),List.take_length]
  rfl
theorem c57 : CallOk Tryd.prog G02 57 r57 := callOk_of (V := VG0257) mixed tys eVG0257 (f := 57) (fn := Tryd.f57) Tryd.func57 (by kernel_rfl) (c := sub (bodyOf Tryd.f57) []) (by kernel_rfl) (by
 intro X H r H' h hX hH
 unfold r57 at h; split at h <;> try contradiction
 ·simp only [Option.some.injEq,Prod.mk.injEq] at h
  obtain ⟨hp,rfl,rfl⟩ := h
  obtain ⟨F,hF⟩ := s57 _ _ hp (hX _ (.head _)) (hX _ (.tail _ (.head _)))
  exact ⟨Af57 F,(f57_body F _ _).trans hF⟩)
end Go.Am
