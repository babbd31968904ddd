/- Part of a proof about the functions of the given program. -/
import Derived.Test.YtlenpjfgbbfmcaaDoorAm03B
set_option linter.unusedSimpArgs false
set_option linter.unusedVariables false
section
namespace Go.Am
open Go Go.Proofs
abbrev sp17 : List (Nat × Md) := [(3,.plain),(4,.plain),(5,.plain)]
abbrev sp18 : List (Nat × Md) := [(3,.plain),(4,.plain),(6,.plain),(7,.plain)]
abbrev sp19 : List (Nat × Md) := [(0,.plain),(3,.plain),(4,.plain)]
abbrev sp20 : List (Nat × Md) := [(3,.plain),(4,.plain),(5,.plain),(6,.plain)]
abbrev sp21 : List (Nat × Md) := [(0,.plain),(4,.plain),(9,.plain)]
abbrev sp22 : List (Nat × Md) := [(0,.plain),(1,.plain),(4,.plain)]
abbrev sp23 : List (Nat × Md) := [(4,.plain),(5,.plain),(15,.plain),(16,.plain),(17,.plain)]
abbrev sp24 : List (Nat × Md) := [(1,.plain),(4,.plain),(5,.plain)]
abbrev sp25 : List (Nat × Md) := [(1,.plain),(3,.own 5),(4,.plain)]
abbrev sp26 : List (Nat × Md) := [(1,.plain),(3,.plain),(4,.plain)]
abbrev Ty18 := Int × Int × Int × Li
abbrev Ty19 := Int × Li × Li
abbrev Ty20 := Int × Int × Li × Li
abbrev Ty21 := Int × (List Li) × Li
abbrev Ty22 := (List Li) × Li × Li × Li × Int
abbrev Ty23 := (List Li) × Int × Int × Li × Li × Li × Int
abbrev Ty24 := Li × Li × Li × Int
def lVG0226 : List CEnt := []
def VG0226 : Env := mkEnv T03 G02 lVG0226
noncomputable abbrev Kf9 := kFin VG0226 none (Tryd.f26).results.toList
theorem eVG0226 : EOk Tryd.prog VG0226 := eok_mk (by exact trivial)
def Af26 (F : Nat) : Cuts := { F := F,at_ := fun n => match n with | 5014 => some sp17 | 10010 => some sp18 | _ => none,join := fun n => match n with | 1050 => some [(0,.plain)] | 2047 => some sp19 | 4041 => some [(3,.plain),(4,.plain)] | 5037 => some sp17 | 5039 => some sp17 | 8020 => some sp17 | 9018 => some sp20 | 10012 => some sp18 | 13003 => some [(6,.plain)] | _ => none }
noncomputable abbrev XAf26 (F : Nat) {α : Type} := @aexec α VG0226 (Af26 F)
def ef26_a : Int → St := fun a0 => ⟨[(0,.int .i64 a0)],[],0,47,0⟩
def ef26j1 : Int → St := fun t0 => ⟨[(0,.int .i64 t0)],[],0,47,0⟩
def ef26j2 : Int × Int × Int → St := fun (t0,t3,t4) => ⟨[(0,.int .i64 t0),(3,.int .u64 t3),(4,.int .u8 t4)],[],0,47,0⟩
def ef26j3 : Int × Int → St := fun (t3,t4) => ⟨[(3,.int .u64 t3),(4,.int .u8 t4)],[],0,47,0⟩
def ef26j4 : Int × Int × Int → St := fun (t3,t4,t5) => ⟨[(3,.int .u64 t3),(4,.int .u8 t4),(5,.int .i64 t5)],[],0,47,0⟩
def ef26j5 : Int × Int × Int → St := ef26j4
def ef26l1 : Int × Int × Int → St := ef26j4
def ef26j6 : Int × Int × Int → St := ef26j4
def ef26j7 : Ty18 → St := fun (t3,t4,t5,x4) => ⟨[(3,.int .u64 t3),(4,.int .u8 t4),(5,.int .i64 t5),(6,.own 0 0 1)],[(0,(.cells x4.length (.rI .u8 x4) true))],1,47,0⟩
def ef26j8 : Ty18 → St := fun (t3,t4,t7,x4) => ⟨[(3,.int .u64 t3),(4,.int .u8 t4),(6,.own 0 0 1),(7,.int .i64 t7)],[(0,(.cells x4.length (.rI .u8 x4) true))],1,47,0⟩
def ef26l2 : Ty18 → St := ef26j8
def ef26j9 : Li → St := fun x1 => ⟨[(6,.own 0 0 1)],[(0,(.cells x1.length (.rI .u8 x1) true))],1,47,0⟩
def f26_1 (F : Nat) (kf26j1 : Int → Rz) : Int → Rz := fun a0 => (kf26j1 a0)
theorem f26_1_eq (F : Nat) (Rf26j1 : St → Rz) : ∀ v,XAf26 F (bp Tryd.f26 2) (ef26_a v) (kSeq (kc VG0226 Rf26j1 [(0,.plain)]) Kf9) = f26_1 F (Rf26j1 ∘ ef26j1) v := by
 intro a0; kernel_rfl
def f26_2 (F : Nat) (kf26j2 : Int × Int × Int → Rz) : Int → Rz := fun t0 => (kf26j2 (t0,(IntKind.u64.wrap t0),(0 : Int)))
theorem f26_2_eq (F : Nat) (Rf26j2 : St → Rz) : ∀ v,XAf26 F (bp Tryd.f26 12) (ef26j1 v) (kSeq (kc VG0226 Rf26j2 sp19) Kf9) = f26_2 F (Rf26j2 ∘ ef26j2) v := by
 intro t0; kernel_rfl
def f26_3 (F : Nat) (kf26j3 : Int × Int → Rz) : Int × Int × Int → Rz := fun (t0,t3,t4) => (cond (decide (t0 < (0 : Int))) (kf26j3 ((ibits .xor .u64 (18446744073709551615 : Int) t3),(255 : Int))) (kf26j3 (t3,t4)))
theorem f26_3_eq (F : Nat) (Rf26j3 : St → Rz) : ∀ v,XAf26 F (bp Tryd.f26 26) (ef26j2 v) (kSeq (kc VG0226 Rf26j3 [(3,.plain),(4,.plain)]) Kf9) = f26_3 F (Rf26j3 ∘ ef26j3) v := by
 rintro ⟨t0,t3,t4⟩; kernel_rfl
def f26_4 (F : Nat) (kf26j4 : Int × Int × Int → Rz) : Int × Int → Rz := fun (t3,t4) => (kf26j4 (t3,t4,(8 : Int)))
theorem f26_4_eq (F : Nat) (Rf26j4 : St → Rz) : ∀ v,XAf26 F (bp Tryd.f26 54) (ef26j3 v) (kSeq (kc VG0226 Rf26j4 sp17) Kf9) = f26_4 F (Rf26j4 ∘ ef26j4) v := by
 rintro ⟨t3,t4⟩; kernel_rfl
def f26_5 (F : Nat) (kf26j5 : Int × Int × Int → Rz) : Int × Int × Int → Rz := fun (t3,t4,t5) => (kf26j5 (t3,t4,t5))
theorem f26_5_eq (F : Nat) (Rf26j5 : St → Rz) : ∀ v,XAf26 F (bp Tryd.f26 110) (ef26j4 v) (kSeq (kc VG0226 Rf26j5 sp17) Kf9) = f26_5 F (Rf26j5 ∘ ef26j5) v := by
 rintro ⟨t3,t4,t5⟩; kernel_rfl
def f26_6 (F : Nat) (kf26l1 : Int × Int × Int → Rz) (kf26j6 : Int × Int × Int → Rz) : Int × Int × Int → Rz := fun (t3,t4,t5) => (cond (decide (t5 > (0 : Int))) (cond (decide (0 ≤ (IntKind.i64.wrap ((8 : Int) * (IntKind.i64.wrap (t5 - (1 : Int))))))) (cond (decide ((Int.fdiv t3 (2 ^ (min (Int.toNat (IntKind.i64.wrap ((8 : Int) * (IntKind.i64.wrap (t5 - (1 : Int)))))) 64))) > (0 : Int))) (kf26j6 (t3,t4,t5)) (kf26l1 (t3,t4,(IntKind.i64.wrap (t5 - (1 : Int)))))) none) (kf26j6 (t3,t4,t5)))
theorem f26_6_eq (F : Nat) (Rf26l1 : St → Rz) (Rf26j6 : St → Rz) : ∀ v,XAf26 F (bp Tryd.f26 888) (ef26l1 v) (kSeq (kc VG0226 Rf26l1 sp17) (kBlock 0 (kSeq (kc VG0226 Rf26j6 sp17) Kf9))) = f26_6 F (Rf26l1 ∘ ef26l1) (Rf26j6 ∘ ef26j6) v := by
 rintro ⟨t3,t4,t5⟩; kernel_rfl
def f26_7_i : Int × Int × Int → Int × Int × Int := fun (t3,t4,t5) => (t3,t4,t5)
def f26_7 (F : Nat) (kf26j6 : Int × Int × Int → Rz) : Int × Int × Int → Rz := fun v => loopN (fun k => f26_6 F k kf26j6) F (f26_7_i v)
theorem f26_7_eq (F : Nat) (Rf26j6 : St → Rz) : ∀ v,XAf26 F (bp Tryd.f26 444) (ef26j5 v) (kBlock 0 (kSeq (kc VG0226 Rf26j6 sp17) Kf9)) = f26_7 F (Rf26j6 ∘ ef26j6) v :=
 loop_cut (by kernel_rfl) (by kernel_rfl) ef26j5 ef26l1 _ f26_7_i (fun k => f26_6 F k (Rf26j6 ∘ ef26j6))
  (by rintro ⟨t3,t4,t5⟩; kernel_rfl) (fun Rf26l1 => f26_6_eq F Rf26l1 Rf26j6)
def f26_8 (F : Nat) (kf26j6 : Int × Int × Int → Rz) : Int × Int × Int → Rz := f26_7 F kf26j6
theorem f26_8_eq (F : Nat) (Rf26j6 : St → Rz) : ∀ v,XAf26 F (bp Tryd.f26 222) (ef26j5 v) (kSeq (kc VG0226 Rf26j6 sp17) Kf9) = f26_8 F (Rf26j6 ∘ ef26j6) v := fun v =>
 (block_in  (by kernel_rfl) _ _).trans (f26_7_eq F Rf26j6 v)
def f26_9 (F : Nat) (kf26j7 : Ty18 → Rz) : Int × Int × Int → Rz := fun (t3,t4,t5) => (kf26j7 (t3,t4,t5,[(ibits .xor .u8 (IntKind.u8.wrap (IntKind.i64.wrap ((128 : Int) + t5))) t4)]))
theorem f26_9_eq (F : Nat) (Rf26j7 : St → Rz) : ∀ v,XAf26 F (bp Tryd.f26 446) (ef26j6 v) (kSeq (kc VG0226 Rf26j7 sp20) Kf9) = f26_9 F (Rf26j7 ∘ ef26j7) v := by
 rintro ⟨t3,t4,t5⟩; kernel_rfl
def f26_10 (F : Nat) (kf26j8 : Ty18 → Rz) (kf26j9 : Li → Rz) : Ty18 → Rz := fun (t3,t4,t5,x4) => (kf26j8 (t3,t4,(IntKind.i64.wrap (t5 - (1 : Int))),x4))
theorem f26_10_eq (F : Nat) (Rf26j8 : St → Rz) (Rf26j9 : St → Rz) : ∀ v,XAf26 F (bp Tryd.f26 1788) (ef26j7 v) (kSeq (kc VG0226 Rf26j8 sp18) (kSeq (kc VG0226 Rf26j9 [(6,.plain)]) Kf9)) = f26_10 F (Rf26j8 ∘ ef26j8) (Rf26j9 ∘ ef26j9) v := by
 rintro ⟨t3,t4,t5,x4⟩; kernel_rfl
def f26_11 (F : Nat) (kf26l2 : Ty18 → Rz) (kf26j9 : Li → Rz) : Ty18 → Rz := fun (t3,t4,t7,x4) => (cond (decide (t7 ≥ (0 : Int))) (cond (decide (0 ≤ (IntKind.i64.wrap ((8 : Int) * t7)))) (cond (decide ((x4.length + 1) < 1073741824)) (kf26l2 (t3,t4,(IntKind.i64.wrap (t7 - (1 : Int))),(x4 ++ [(ibits .xor .u8 (IntKind.u8.wrap (Int.fdiv t3 (2 ^ (min (Int.toNat (IntKind.i64.wrap ((8 : Int) * t7))) 64)))) t4)]))) none) none) (kf26j9 x4))
theorem f26_11_eq (F : Nat) (Rf26l2 : St → Rz) (Rf26j9 : St → Rz) : ∀ v,XAf26 F (bp Tryd.f26 7156) (ef26l2 v) (kSeq (kc VG0226 Rf26l2 sp18) (kBlock 2 (kSeq (kc VG0226 Rf26j9 [(6,.plain)]) Kf9))) = f26_11 F (Rf26l2 ∘ ef26l2) (Rf26j9 ∘ ef26j9) v := by
 rintro ⟨t3,t4,t7,x4⟩; kernel_rfl
def f26_12_i : Ty18 → Int × Int × Int × Li := fun (t3,t4,t7,x4) => (t3,t4,t7,x4)
def f26_12 (F : Nat) (kf26j9 : Li → Rz) : Ty18 → Rz := fun v => loopN (fun k => f26_11 F k kf26j9) F (f26_12_i v)
theorem f26_12_eq (F : Nat) (Rf26j9 : St → Rz) : ∀ v,XAf26 F (bp Tryd.f26 3578) (ef26j8 v) (kBlock 2 (kSeq (kc VG0226 Rf26j9 [(6,.plain)]) Kf9)) = f26_12 F (Rf26j9 ∘ ef26j9) v :=
 loop_cut (by kernel_rfl) (by kernel_rfl) ef26j8 ef26l2 _ f26_12_i (fun k => f26_11 F k (Rf26j9 ∘ ef26j9))
  (by rintro ⟨t3,t4,t7,x4⟩; kernel_rfl) (fun Rf26l2 => f26_11_eq F Rf26l2 Rf26j9)
def f26_13 (F : Nat) (kf26j9 : Li → Rz) : Ty18 → Rz := f26_12 F kf26j9
theorem f26_13_eq (F : Nat) (Rf26j9 : St → Rz) : ∀ v,XAf26 F (bp Tryd.f26 1789) (ef26j8 v) (kSeq (kc VG0226 Rf26j9 [(6,.plain)]) Kf9) = f26_13 F (Rf26j9 ∘ ef26j9) v := fun v =>
 (block_in  (by kernel_rfl) _ _).trans (f26_12_eq F Rf26j9 v)
def f26_14 (F : Nat) (kf26j9 : Li → Rz) : Ty18 → Rz := fun v => f26_10 F (f26_13 F kf26j9) kf26j9 v
theorem f26_14_eq (F : Nat) (Rf26j9 : St → Rz) : ∀ v,XAf26 F (bp Tryd.f26 894) (ef26j7 v) (kSeq (kc VG0226 Rf26j9 [(6,.plain)]) Kf9) = f26_14 F (Rf26j9 ∘ ef26j9) v :=
 seq_cut (by kernel_rfl) (by kernel_rfl) ef26j7 ef26j8 _ (fun k => f26_10 F k (Rf26j9 ∘ ef26j9)) (f26_13 F (Rf26j9 ∘ ef26j9))
  (fun Rf26j8 => f26_10_eq F Rf26j8 Rf26j9) (f26_13_eq F Rf26j9)
def f26_15 (F : Nat) : Li → Rz := fun x1 => (some ((.own 0 0 1),[(.cells x1.length (.rI .u8 x1) true)]))
theorem f26_15_eq (F : Nat) : ∀ v,XAf26 F (bp Tryd.f26 895) (ef26j9 v) Kf9 = f26_15 F v := by
 intro x1; kernel_rfl
def f26_16 (F : Nat) : Ty18 → Rz := fun v => f26_14 F (f26_15 F) v
theorem f26_16_eq (F : Nat) : ∀ v,XAf26 F (bp Tryd.f26 447) (ef26j7 v) Kf9 = f26_16 F v :=
 seq_cut (by kernel_rfl) (by kernel_rfl) ef26j7 ef26j9 _ (fun k => f26_14 F k) (f26_15 F)
  (fun Rf26j9 => f26_14_eq F Rf26j9) (f26_15_eq F)
def f26_17 (F : Nat) : Int × Int × Int → Rz := fun v => f26_9 F (f26_16 F) v
theorem f26_17_eq (F : Nat) : ∀ v,XAf26 F (bp Tryd.f26 223) (ef26j6 v) Kf9 = f26_17 F v :=
 seq_cut (by kernel_rfl) (by kernel_rfl) ef26j6 ef26j7 _ (fun k => f26_9 F k) (f26_16 F)
  (fun Rf26j7 => f26_9_eq F Rf26j7) (f26_16_eq F)
def f26_18 (F : Nat) : Int × Int × Int → Rz := fun v => f26_8 F (f26_17 F) v
theorem f26_18_eq (F : Nat) : ∀ v,XAf26 F (bp Tryd.f26 111) (ef26j5 v) Kf9 = f26_18 F v :=
 seq_cut (by kernel_rfl) (by kernel_rfl) ef26j5 ef26j6 _ (fun k => f26_8 F k) (f26_17 F)
  (fun Rf26j6 => f26_8_eq F Rf26j6) (f26_17_eq F)
def f26_19 (F : Nat) : Int × Int × Int → Rz := fun v => f26_5 F (f26_18 F) v
theorem f26_19_eq (F : Nat) : ∀ v,XAf26 F (bp Tryd.f26 55) (ef26j4 v) Kf9 = f26_19 F v :=
 seq_cut (by kernel_rfl) (by kernel_rfl) ef26j4 ef26j5 _ (fun k => f26_5 F k) (f26_18 F)
  (fun Rf26j5 => f26_5_eq F Rf26j5) (f26_18_eq F)
def f26_20 (F : Nat) : Int × Int → Rz := fun v => f26_4 F (f26_19 F) v
theorem f26_20_eq (F : Nat) : ∀ v,XAf26 F (bp Tryd.f26 27) (ef26j3 v) Kf9 = f26_20 F v :=
 seq_cut (by kernel_rfl) (by kernel_rfl) ef26j3 ef26j4 _ (fun k => f26_4 F k) (f26_19 F)
  (fun Rf26j4 => f26_4_eq F Rf26j4) (f26_19_eq F)
def f26_21 (F : Nat) : Int × Int × Int → Rz := fun v => f26_3 F (f26_20 F) v
theorem f26_21_eq (F : Nat) : ∀ v,XAf26 F (bp Tryd.f26 13) (ef26j2 v) Kf9 = f26_21 F v :=
 seq_cut (by kernel_rfl) (by kernel_rfl) ef26j2 ef26j3 _ (fun k => f26_3 F k) (f26_20 F)
  (fun Rf26j3 => f26_3_eq F Rf26j3) (f26_20_eq F)
def f26_22 (F : Nat) : Int → Rz := fun v => f26_2 F (f26_21 F) v
theorem f26_22_eq (F : Nat) : ∀ v,XAf26 F (bp Tryd.f26 6) (ef26j1 v) Kf9 = f26_22 F v :=
 seq_cut (by kernel_rfl) (by kernel_rfl) ef26j1 ef26j2 _ (fun k => f26_2 F k) (f26_21 F)
  (fun Rf26j2 => f26_2_eq F Rf26j2) (f26_21_eq F)
def f26_23 (F : Nat) : Int → Rz := f26_22 F
theorem f26_23_eq (F : Nat) : ∀ v,XAf26 F (bp Tryd.f26 3) (ef26j1 v) Kf9 = f26_23 F v := fun v =>
 (scope_in  (by kernel_rfl) _ _).trans (f26_22_eq F v)
def f26_24 (F : Nat) : Int → Rz := fun v => f26_1 F (f26_23 F) v
theorem f26_24_eq (F : Nat) : ∀ v,XAf26 F (sub (bodyOf Tryd.f26) []) (ef26_a v) Kf9 = f26_24 F v :=
 seq_cut (by kernel_rfl) (by kernel_rfl) ef26_a ef26j1 _ (fun k => f26_1 F k) (f26_23 F)
  (fun Rf26j1 => f26_1_eq F Rf26j1) (f26_23_eq F)
def f26 (F : Nat) : Int → Rz := f26_24 F
theorem f26_body (F : Nat) (a0 : Int) : abody VG0226 (Af26 F) Tryd.f26 [(.int .i64 a0)] [] = f26 F a0 :=
 (abody_in (c := (sub (bodyOf Tryd.f26) [])) (by kernel_rfl) (s := ef26_a a0) (by kernel_rfl)).trans (f26_24_eq F a0)
def r26 : CRun := fun X H => match X,H with
 | [(.int .i64 a0)],[] => some (true,.own 0 0 1,[(.cells (Wire.int a0).length (.rI .u8 (Wire.int a0)) true)])
 | _,_ => none
theorem s26 (a0 : Int) (h0 : okV (.int .i64 a0)) : ∃ F,f26 F a0 = some ((.own 0 0 1),[(.cells (Wire.int a0).length (.rI .u8 (Wire.int a0)) true)]) := by
 have hm := Wire.mag_lt h0
 have h0' : -9223372036854775808 ≤ a0 ∧ a0 ≤ 9223372036854775807 := h0
 have hk8 := Wire.nb_le (Wire.mag a0)
 refine ⟨10,?_⟩
 simp only [f26,f26_24,f26_1,f26_23,f26_22,f26_2,f26_21,f26_3]
 have key : ∀ fl : Int,fl = (if a0 < 0 then 255 else 0) → f26_20 10 ((Wire.mag a0 : Nat),fl) = some ((.own 0 0 1),[(.cells (Wire.int a0).length (.rI .u8 (Wire.int a0)) true)]) := by
  intro fl hfl
  simp only [f26_20,f26_4,f26_19,f26_5,f26_18,f26_8,f26_7,f26_7_i]
  generalize hM : Wire.mag a0 = m at *
  refine loopN_from (fun i => ((m : Int),fl,(8 : Int) - i)) (8 - Wire.nb m) (by rfl) (fun i hi k => ?_) (fun k => ?_) 10 (by omega)
  ·simp only [f26_6]
   rw [i64w (x := 8 - (i : Int) - 1) (by omega) (by omega),i64w (x := 8 * (8 - (i : Int) - 1)) (by omega) (by omega),cond_pos (by omega),cond_pos (by omega),
    show min (8 * (8 - (i : Int) - 1)).toNat 64 = 8 * (7 - i) by omega,shr_nat,pow256,(Wire.nb_shift (show m < 18446744073709551616 by omega)).mpr (show Wire.nb m ≤ 7 - i by omega),cond_neg (by decide)]
   rw [show (8 : Int) - (i : Int) - 1 = 8 - ((i + 1 : Nat) : Int) by omega]
  ·have hkk : (8 : Int) - ((8 - Wire.nb m : Nat) : Int) = (Wire.nb m : Int) := by omega
   rw [hkk]
   generalize hK : Wire.nb m = kk at *
   have e1 : f26_6 10 k (f26_17 10) ((m : Int),fl,(kk : Int)) = f26_17 10 ((m : Int),fl,(kk : Int)) := by
    simp only [f26_6]
    by_cases hz : kk = 0
    ·rw [cond_neg (by omega)]
    ·rw [i64w (x := (kk : Int) - 1) (by omega) (by omega),i64w (x := 8 * ((kk : Int) - 1)) (by omega) (by omega),cond_pos (by omega),cond_pos (by omega),
      show min (8 * ((kk : Int) - 1)).toNat 64 = 8 * (kk - 1) by omega,shr_nat,pow256]
     have : ¬ (m / 256 ^ (kk - 1) = 0) := by
      rw [Wire.nb_shift (show m < 18446744073709551616 by omega),hK]; omega
     generalize m / 256 ^ (kk - 1) = q at *
     rw [cond_pos (by omega)]
   rw [e1]
   simp only [f26_17,f26_9,f26_16,f26_14,f26_10,f26_13,f26_12,f26_12_i]
   have hd : ∀ i,ibits .xor .u8 (IntKind.u8.wrap ((m / 256 ^ i : Nat) : Int)) fl = Wire.dig a0 i := by
    intro i
    unfold Wire.dig
    rw [hM,u8mod,hfl]
    split
    ·rw [xor8_255 _ (by omega) (by omega)]; omega
    ·rw [xor8_0 _ (by omega) (by omega)]; omega
   have hh : ibits .xor .u8 (IntKind.u8.wrap (IntKind.i64.wrap (128 + (kk : Int)))) fl = Wire.head a0 := by
    unfold Wire.head
    rw [hM,hK,i64w (by omega) (by omega),u8w (by omega) (by omega),hfl]
    split
    ·rw [xor8_255 _ (by omega) (by omega)]; omega
    ·rw [xor8_0 _ (by omega) (by omega)]
   rw [hh,i64w (x := (kk : Int) - 1) (by omega) (by omega)]
   refine loopN_from (fun j => ((m : Int),fl,(kk : Int) - 1 - j,Wire.head a0 :: (List.range j).map fun j => Wire.dig a0 (kk - 1 - j))) kk (by simp) (fun j hj k' => ?_) (fun k' => ?_) 10 (by omega)
   ·simp only [f26_11,List.length_cons,List.length_map,List.length_range]
    rw [i64w (x := 8 * ((kk : Int) - 1 - j)) (by omega) (by omega),i64w (x := (kk : Int) - 1 - (j : Int) - 1) (by omega) (by omega),cond_pos (by omega),cond_pos (by omega),cond_pos (by omega),
     show min (8 * ((kk : Int) - 1 - j)).toNat 64 = 8 * (kk - 1 - j) by omega,shr_nat,pow256,hd,List.range_succ,List.map_append]
    rw [show (kk : Int) - 1 - (j : Int) - 1 = (kk : Int) - 1 - ((j + 1 : Nat) : Int) by omega]
    rfl
   ·simp only [f26_11]
    rw [cond_neg (by omega)]
    simp only [f26_15]
    have : Wire.int a0 = Wire.head a0 :: (List.range kk).map fun j => Wire.dig a0 (kk - 1 - j) := by unfold Wire.int; rw [hM,hK]
    rw [this]
 by_cases hn : a0 < 0
 ·rw [cond_pos hn]
  have : ibits .xor .u64 (18446744073709551615 : Int) (IntKind.u64.wrap a0) = ((Wire.mag a0 : Nat) : Int) := by
   rw [not64 _ (by rw [u64mod]; omega) (by rw [u64mod]; omega),u64mod]
   unfold Wire.mag; rw [if_pos hn]; omega
  rw [this]
  exact key 255 (by rw [if_pos hn])
 ·rw [cond_neg hn]
  have : IntKind.u64.wrap a0 = ((Wire.mag a0 : Nat) : Int) := by
   rw [u64w (by omega) (by omega)]; unfold Wire.mag; rw [if_neg hn]; omega
  rw [this]
  exact key 0 (by rw [if_neg hn])
theorem c26 : CallOk Tryd.prog G02 26 r26 := callOk_of (V := VG0226) mixed tys eVG0226 (f := 26) (fn := Tryd.f26) Tryd.func26 (by kernel_rfl) (c := sub (bodyOf Tryd.f26) []) (by kernel_rfl) (by
 intro X H r H' h hX hH
 unfold r26 at h; split at h <;> try contradiction
 ·simp only [Option.some.injEq,Prod.mk.injEq] at h
  obtain ⟨hp,rfl,rfl⟩ := h
  obtain ⟨F,hF⟩ := s26 _ (hX _ (.head _))
  exact ⟨Af26 F,(f26_body F _).trans hF⟩)
def lVG0254 : List CEnt := [(26,[none],r26)]
def VG0254 : Env := mkEnv T03 G02 lVG0254
noncomputable abbrev Kf10 := kFin VG0254 none (Tryd.f54).results.toList
theorem eVG0254 : EOk Tryd.prog VG0254 := eok_mk (by exact ⟨c26,trivial⟩)
def Af54 (F : Nat) : Cuts := { F := F,at_ := fun _ => none,join := fun _ => none }
def ef54_a : Li → St := fun a0 => ⟨[(0,.str a0)],[],0,8,0⟩
def f54_1 (F : Nat) : Li → Rz := fun a0 => (cond (decide (((Wire.int (↑a0.length : Int)).length + a0.length) < 1073741824)) (some ((.own 0 0 1),[(.cells ((Wire.int (↑a0.length : Int)) ++ a0).length (.rI .u8 ((Wire.int (↑a0.length : Int)) ++ a0)) true)])) none)
theorem f54_1_eq (F : Nat) : ∀ v,aexec VG0254 (Af54 F) (sub (bodyOf Tryd.f54) []) (ef54_a v) Kf10 = f54_1 F v := by
 intro a0; kernel_rfl
def f54 (F : Nat) : Li → Rz := f54_1 F
theorem f54_body (F : Nat) (a0 : List Int) : abody VG0254 (Af54 F) Tryd.f54 [(.str a0)] [] = f54 F a0 :=
 (abody_in (c := (sub (bodyOf Tryd.f54) [])) (by kernel_rfl) (s := ef54_a a0) (by kernel_rfl)).trans (f54_1_eq F a0)
def r54 : CRun := fun X H => match X,H with
 | [(.str a0)],[] => some ((decide (a0.length < 1073741800)),.own 0 0 1,[(.cells (Wire.bytes a0).length (.rI .u8 (Wire.bytes a0)) true)])
 | _,_ => none
theorem s54 (a0 : List Int) (hp : ((decide (a0.length < 1073741800))) = true) (h0 : okV (.str a0)) : ∃ F,f54 F a0 = some ((.own 0 0 1),[(.cells (Wire.bytes a0).length (.rI .u8 (Wire.bytes a0)) true)]) := by
 have hl : a0.length < 1073741800 := of_decide_eq_true hp
 have := Wire.nb_le (Wire.mag (a0.length : Int))
 refine ⟨0,?_⟩
 simp only [f54,f54_1]
 rw [cond_pos (by rw [Wire.int_len]; omega)]
 rfl
theorem c54 : CallOk Tryd.prog G02 54 r54 := callOk_of (V := VG0254) mixed tys eVG0254 (f := 54) (fn := Tryd.f54) Tryd.func54 (by kernel_rfl) (c := sub (bodyOf Tryd.f54) []) (by kernel_rfl) (by
 intro X H r H' h hX hH
 unfold r54 at h; split at h <;> try contradiction
 ·simp only [Option.some.injEq,Prod.mk.injEq] at h
  obtain ⟨hp,rfl,rfl⟩ := h
  obtain ⟨F,hF⟩ := s54 _ hp (hX _ (.head _))
  exact ⟨Af54 F,(f54_body F _).trans hF⟩)
def lVG0262 : List CEnt := []
def VG0262 : Env := mkEnv T03 G02 lVG0262
noncomputable abbrev Kf11 := kFin VG0262 none (Tryd.f62).results.toList
theorem eVG0262 : EOk Tryd.prog VG0262 := eok_mk (by exact trivial)
def Af62 (F : Nat) : Cuts := { F := F,at_ := fun n => match n with | 4012 => some sp21 | _ => none,join := fun n => match n with | 1024 => some [(0,.plain),(1,.plain)] | 2022 => some sp22 | 3020 => some [(0,.plain),(4,.plain)] | 4014 => some sp21 | 8003 => some [(4,.plain)] | _ => none }
noncomputable abbrev XAf62 (F : Nat) {α : Type} := @aexec α VG0262 (Af62 F)
def ef62_a : Int × Li → St := fun (a0,a1) => ⟨[(0,.int .u8 a0),(1,.ptr 0 0 1 0 0 0 1)],[(0,(.cells 1 (.one (.str a1)) true))],1,21,1⟩
def ef62j1 : Int × Li → St := fun (t0,x2) => ⟨[(0,.int .u8 t0),(1,.ptr 0 0 1 0 0 0 1)],[(0,(.cells 1 (.one (.str x2)) true))],1,21,1⟩
def ef62j2 : Ty19 → St := fun (t0,x2,x3) => ⟨[(0,.int .u8 t0),(1,.ptr 0 0 1 0 0 0 1),(4,.ptr 1 0 64 0 0 0 64)],[(0,(.cells 1 (.one (.str x2)) true)),(1,(.cells 64 (.rI .u8 x3) true))],2,21,1⟩
def ef62j3 : Ty19 → St := fun (t0,x2,x3) => ⟨[(0,.int .u8 t0),(4,.ptr 1 0 64 0 0 0 64)],[(0,(.cells 1 (.one (.str x2)) true)),(1,(.cells 64 (.rI .u8 x3) true))],2,21,1⟩
def ef62j4 : Ty20 → St := fun (t0,t9,x3,x4) => ⟨[(0,.int .u8 t0),(4,.ptr 1 0 64 0 0 0 64),(9,.int .i64 t9)],[(0,(.cells 1 (.one (.str x3)) true)),(1,(.cells 64 (.rI .u8 x4) true))],2,21,1⟩
def ef62l1 : Ty20 → St := ef62j4
def ef62j5 : Li × Li → St := fun (x1,x2) => ⟨[(4,.ptr 1 0 64 0 0 0 64)],[(0,(.cells 1 (.one (.str x1)) true)),(1,(.cells 64 (.rI .u8 x2) true))],2,21,1⟩
def f62_1 (F : Nat) (kf62j1 : Int × Li → Rz) : Int × Li → Rz := fun (a0,a1) => (kf62j1 (a0,a1))
theorem f62_1_eq (F : Nat) (Rf62j1 : St → Rz) : ∀ v,XAf62 F (bp Tryd.f62 2) (ef62_a v) (kSeq (kc VG0262 Rf62j1 [(0,.plain),(1,.plain)]) Kf11) = f62_1 F (Rf62j1 ∘ ef62j1) v := by
 rintro ⟨a0,a1⟩; kernel_rfl
def f62_2 (F : Nat) (kf62j2 : Ty19 → Rz) : Int × Li → Rz := fun (t0,x2) => (kf62j2 (t0,x2,(List.replicate 64 0)))
theorem f62_2_eq (F : Nat) (Rf62j2 : St → Rz) : ∀ v,XAf62 F (bp Tryd.f62 6) (ef62j1 v) (kSeq (kc VG0262 Rf62j2 sp22) Kf11) = f62_2 F (Rf62j2 ∘ ef62j2) v := by
 rintro ⟨t0,x2⟩; kernel_rfl
def f62_3 (F : Nat) (kf62j3 : Ty19 → Rz) : Ty19 → Rz := fun (t0,x2,x3) => (kf62j3 (t0,x2,(x3.take 0 ++ (x2.take (min x2.length 64)) ++ x3.drop (0 + (min x2.length 64)))))
theorem f62_3_eq (F : Nat) (Rf62j3 : St → Rz) : ∀ v,XAf62 F (bp Tryd.f62 14) (ef62j2 v) (kSeq (kc VG0262 Rf62j3 [(0,.plain),(4,.plain)]) Kf11) = f62_3 F (Rf62j3 ∘ ef62j3) v := by
 rintro ⟨t0,x2,x3⟩; kernel_rfl
def f62_4 (F : Nat) (kf62j4 : Ty20 → Rz) (kf62j5 : Li × Li → Rz) : Ty19 → Rz := fun (t0,x2,x3) => (kf62j4 (t0,(0 : Int),x2,x3))
theorem f62_4_eq (F : Nat) (Rf62j4 : St → Rz) (Rf62j5 : St → Rz) : ∀ v,XAf62 F (bp Tryd.f62 60) (ef62j3 v) (kSeq (kc VG0262 Rf62j4 sp21) (kSeq (kc VG0262 Rf62j5 [(4,.plain)]) Kf11)) = f62_4 F (Rf62j4 ∘ ef62j4) (Rf62j5 ∘ ef62j5) v := by
 rintro ⟨t0,x2,x3⟩; kernel_rfl
def f62_5 (F : Nat) (kf62l1 : Ty20 → Rz) (kf62j5 : Li × Li → Rz) : Ty20 → Rz := fun (t0,t9,x3,x4) => (cond (decide (t9 < (64 : Int))) (cond ((decide (0 ≤ t9)) && (decide (t9 < (64 : Int)))) (cond ((decide (0 ≤ t9)) && (decide (t9 < (64 : Int)))) (kf62l1 (t0,(IntKind.i64.wrap (t9 + (1 : Int))),x3,(x4.set (Int.toNat t9) (ibits .xor .u8 (x4.getD (Int.toNat t9) 0) t0)))) none) none) (kf62j5 (x3,x4)))
theorem f62_5_eq (F : Nat) (Rf62l1 : St → Rz) (Rf62j5 : St → Rz) : ∀ v,XAf62 F (bp Tryd.f62 244) (ef62l1 v) (kSeq (kc VG0262 Rf62l1 sp21) (kBlock 0 (kSeq (kc VG0262 Rf62j5 [(4,.plain)]) Kf11))) = f62_5 F (Rf62l1 ∘ ef62l1) (Rf62j5 ∘ ef62j5) v := by
 rintro ⟨t0,t9,x3,x4⟩; kernel_rfl
def f62_6_i : Ty20 → Int × Int × Li × Li := fun (t0,t9,x3,x4) => (t0,t9,x3,x4)
def f62_6 (F : Nat) (kf62j5 : Li × Li → Rz) : Ty20 → Rz := fun v => loopN (fun k => f62_5 F k kf62j5) F (f62_6_i v)
theorem f62_6_eq (F : Nat) (Rf62j5 : St → Rz) : ∀ v,XAf62 F (bp Tryd.f62 122) (ef62j4 v) (kBlock 0 (kSeq (kc VG0262 Rf62j5 [(4,.plain)]) Kf11)) = f62_6 F (Rf62j5 ∘ ef62j5) v :=
 loop_cut (by kernel_rfl) (by kernel_rfl) ef62j4 ef62l1 _ f62_6_i (fun k => f62_5 F k (Rf62j5 ∘ ef62j5))
  (by rintro ⟨t0,t9,x3,x4⟩; kernel_rfl) (fun Rf62l1 => f62_5_eq F Rf62l1 Rf62j5)
def f62_7 (F : Nat) (kf62j5 : Li × Li → Rz) : Ty20 → Rz := f62_6 F kf62j5
theorem f62_7_eq (F : Nat) (Rf62j5 : St → Rz) : ∀ v,XAf62 F (bp Tryd.f62 61) (ef62j4 v) (kSeq (kc VG0262 Rf62j5 [(4,.plain)]) Kf11) = f62_7 F (Rf62j5 ∘ ef62j5) v := fun v =>
 (block_in  (by kernel_rfl) _ _).trans (f62_6_eq F Rf62j5 v)
def f62_8 (F : Nat) (kf62j5 : Li × Li → Rz) : Ty19 → Rz := fun v => f62_4 F (f62_7 F kf62j5) kf62j5 v
theorem f62_8_eq (F : Nat) (Rf62j5 : St → Rz) : ∀ v,XAf62 F (bp Tryd.f62 30) (ef62j3 v) (kSeq (kc VG0262 Rf62j5 [(4,.plain)]) Kf11) = f62_8 F (Rf62j5 ∘ ef62j5) v :=
 seq_cut (by kernel_rfl) (by kernel_rfl) ef62j3 ef62j4 _ (fun k => f62_4 F k (Rf62j5 ∘ ef62j5)) (f62_7 F (Rf62j5 ∘ ef62j5))
  (fun Rf62j4 => f62_4_eq F Rf62j4 Rf62j5) (f62_7_eq F Rf62j5)
def f62_9 (F : Nat) : Li × Li → Rz := fun (x1,x2) => (some ((.str (x2.take 64)),[(.cells 1 (.one (.str x1)) true)]))
theorem f62_9_eq (F : Nat) : ∀ v,XAf62 F (bp Tryd.f62 31) (ef62j5 v) Kf11 = f62_9 F v := by
 rintro ⟨x1,x2⟩; kernel_rfl
def f62_10 (F : Nat) : Ty19 → Rz := fun v => f62_8 F (f62_9 F) v
theorem f62_10_eq (F : Nat) : ∀ v,XAf62 F (bp Tryd.f62 15) (ef62j3 v) Kf11 = f62_10 F v :=
 seq_cut (by kernel_rfl) (by kernel_rfl) ef62j3 ef62j5 _ (fun k => f62_8 F k) (f62_9 F)
  (fun Rf62j5 => f62_8_eq F Rf62j5) (f62_9_eq F)
def f62_11 (F : Nat) : Ty19 → Rz := fun v => f62_3 F (f62_10 F) v
theorem f62_11_eq (F : Nat) : ∀ v,XAf62 F (bp Tryd.f62 7) (ef62j2 v) Kf11 = f62_11 F v :=
 seq_cut (by kernel_rfl) (by kernel_rfl) ef62j2 ef62j3 _ (fun k => f62_3 F k) (f62_10 F)
  (fun Rf62j3 => f62_3_eq F Rf62j3) (f62_10_eq F)
def f62_12 (F : Nat) : Int × Li → Rz := fun v => f62_2 F (f62_11 F) v
theorem f62_12_eq (F : Nat) : ∀ v,XAf62 F (bp Tryd.f62 3) (ef62j1 v) Kf11 = f62_12 F v :=
 seq_cut (by kernel_rfl) (by kernel_rfl) ef62j1 ef62j2 _ (fun k => f62_2 F k) (f62_11 F)
  (fun Rf62j2 => f62_2_eq F Rf62j2) (f62_11_eq F)
def f62_13 (F : Nat) : Int × Li → Rz := fun v => f62_1 F (f62_12 F) v
theorem f62_13_eq (F : Nat) : ∀ v,XAf62 F (sub (bodyOf Tryd.f62) []) (ef62_a v) Kf11 = f62_13 F v :=
 seq_cut (by kernel_rfl) (by kernel_rfl) ef62_a ef62j1 _ (fun k => f62_1 F k) (f62_12 F)
  (fun Rf62j1 => f62_1_eq F Rf62j1) (f62_12_eq F)
def f62 (F : Nat) : Int × Li → Rz := f62_13 F
theorem f62_body (F : Nat) (a0 : Int) (a1 : List Int) : abody VG0262 (Af62 F) Tryd.f62 [(.int .u8 a0),.ptr 0 0 1 0 0 0 1] [(.cells 1 (.one (.str a1)) true)] = f62 F (a0,a1) :=
 (abody_in (c := (sub (bodyOf Tryd.f62) [])) (by kernel_rfl) (s := ef62_a (a0,a1)) (by kernel_rfl)).trans (f62_13_eq F (a0,a1))
def r62 : CRun := fun X H => match X,H with
 | [(.int .u8 a0),.ptr 0 0 1 0 0 0 1],[(.cells 1 (.one (.str a1)) true)] => some (true,(.str (Sha.xpad a1 a0)),[(.cells 1 (.one (.str a1)) true)])
 | _,_ => none
theorem s62 (a0 : Int) (a1 : List Int) (h0 : okV (.int .u8 a0)) (k0 : okB (.cells 1 (.one (.str a1)) true)) : ∃ F,f62 F (a0,a1) = some ((.str (Sha.xpad a1 a0)),[(.cells 1 (.one (.str a1)) true)]) := by
 refine ⟨65,?_⟩
 simp only [f62,f62_13,f62_1,f62_12,f62_2,f62_11,f62_3,f62_10,f62_8,f62_4,f62_7,f62_6,f62_6_i]
 simp only [List.take_zero,List.nil_append,Nat.zero_add]
 have hx : ∀ i,i < 64 → (a1.take (min a1.length 64) ++ (List.replicate 64 (0 : Int)).drop (min a1.length 64)).getD i 0 = a1.getD i 0 := by
  intro i hi
  simp only [List.getD_eq_getElem?_getD,List.getElem?_append,List.getElem?_take,List.length_take,List.getElem?_drop,List.getElem?_replicate]
  by_cases h : i < a1.length
  ·rw [if_pos (by omega),if_pos (by omega)]
  ·rw [if_neg (by omega),if_pos (by omega),List.getElem?_eq_none (by omega)]; rfl
 have hlen : (a1.take (min a1.length 64) ++ (List.replicate 64 (0 : Int)).drop (min a1.length 64)).length = 64 := by simp; omega
 generalize a1.take (min a1.length 64) ++ (List.replicate 64 (0 : Int)).drop (min a1.length 64) = x at hx hlen
 refine loopN_from (fun i => (a0,(i : Int),a1,((List.range i).map fun i => ibits .xor .u8 (a1.getD i 0) a0) ++ x.drop i)) 64 (by rfl) (fun i hi k => ?_) (fun k => ?_) 65 (by omega)
 ·simp only [f62_5,dec_and]
  rw [cond_pos (by omega),cond_pos (by omega),cond_pos (by omega),i64w (x := (i : Int) + 1) (by omega) (by omega),Int.toNat_natCast]
  have hd : x.drop i = a1.getD i 0 :: x.drop (i + 1) := by
   rw [← hx i hi,List.drop_eq_getElem_cons (show i < x.length by omega),List.getD_eq_getElem?_getD,List.getElem?_eq_getElem (by omega)]; rfl
  have hg : (((List.range i).map fun i => ibits .xor .u8 (a1.getD i 0) a0) ++ x.drop i).getD i 0 = a1.getD i 0 := by
   rw [hd,List.getD_eq_getElem?_getD,List.getElem?_append_right (by simp)]; simp
  rw [hg,hd,List.set_append_right _ _ (by simp),List.range_succ,List.map_append]
  simp
 ·simp only [f62_5]
  rw [cond_neg (by omega)]
  simp only [f62_9]
  rw [List.drop_of_length_le (by omega),List.append_nil,List.take_of_length_le (by simp)]
  rfl
theorem c62 : CallOk Tryd.prog G02 62 r62 := callOk_of (V := VG0262) mixed tys eVG0262 (f := 62) (fn := Tryd.f62) Tryd.func62 (by kernel_rfl) (c := sub (bodyOf Tryd.f62) []) (by kernel_rfl) (by
 intro X H r H' h hX hH
 unfold r62 at h; split at h <;> try contradiction
 ·simp only [Option.some.injEq,Prod.mk.injEq] at h
  obtain ⟨hp,rfl,rfl⟩ := h
  obtain ⟨F,hF⟩ := s62 _ _ (hX _ (.head _)) (hH _ (.head _))
  exact ⟨Af62 F,(f62_body F _ _).trans hF⟩)
def lVG0249 : List CEnt := [(52,[],r52),(53,[none,none],r53),(55,[none],r55),(61,[some 5],r61),(62,[none,none],r62)]
def VG0249 : Env := mkEnv T03 G02 lVG0249
noncomputable abbrev Kf12 := kFin VG0249 none (Tryd.f49).results.toList
theorem eVG0249 : EOk Tryd.prog VG0249 := eok_mk (by exact ⟨c52,c53,c55,c61,c62,trivial⟩)
def Af49 (F : Nat) : Cuts := { F := F,at_ := fun _ => none,join := fun _ => none }
def ef49_a : Li × Li → St := fun (a0,a1) => ⟨[(0,.str a0),(1,.str a1)],[],0,35,0⟩
def f49_1 (F : Nat) : Li × Li → Rz := fun (a0,a1) => (cond (decide ((↑a0.length : Int) > (64 : Int))) (cond (decide ((Sha.addS ((Sha.addS (Sha.iv,(List.replicate 64 0),(0 : Int)) (Sha.xpad ((Sha.hash a0).take 32) (54 : Int))).1,(Sha.addS (Sha.iv,(List.replicate 64 0),(0 : Int)) (Sha.xpad ((Sha.hash a0).take 32) (54 : Int))).2.1,(Sha.addS (Sha.iv,(List.replicate 64 0),(0 : Int)) (Sha.xpad ((Sha.hash a0).take 32) (54 : Int))).2.2) a1).2.2 ≤ 9223372036854775000)) (cond (decide ((Sha.addS ((Sha.addS (Sha.iv,(List.replicate 64 0),(0 : Int)) (Sha.xpad ((Sha.hash a0).take 32) (92 : Int))).1,(Sha.addS (Sha.iv,(List.replicate 64 0),(0 : Int)) (Sha.xpad ((Sha.hash a0).take 32) (92 : Int))).2.1,(Sha.addS (Sha.iv,(List.replicate 64 0),(0 : Int)) (Sha.xpad ((Sha.hash a0).take 32) (92 : Int))).2.2) ((Sha.fin ((Sha.addS ((Sha.addS (Sha.iv,(List.replicate 64 0),(0 : Int)) (Sha.xpad ((Sha.hash a0).take 32) (54 : Int))).1,(Sha.addS (Sha.iv,(List.replicate 64 0),(0 : Int)) (Sha.xpad ((Sha.hash a0).take 32) (54 : Int))).2.1,(Sha.addS (Sha.iv,(List.replicate 64 0),(0 : Int)) (Sha.xpad ((Sha.hash a0).take 32) (54 : Int))).2.2) a1).1,(Sha.addS ((Sha.addS (Sha.iv,(List.replicate 64 0),(0 : Int)) (Sha.xpad ((Sha.hash a0).take 32) (54 : Int))).1,(Sha.addS (Sha.iv,(List.replicate 64 0),(0 : Int)) (Sha.xpad ((Sha.hash a0).take 32) (54 : Int))).2.1,(Sha.addS (Sha.iv,(List.replicate 64 0),(0 : Int)) (Sha.xpad ((Sha.hash a0).take 32) (54 : Int))).2.2) a1).2.1,(Sha.addS ((Sha.addS (Sha.iv,(List.replicate 64 0),(0 : Int)) (Sha.xpad ((Sha.hash a0).take 32) (54 : Int))).1,(Sha.addS (Sha.iv,(List.replicate 64 0),(0 : Int)) (Sha.xpad ((Sha.hash a0).take 32) (54 : Int))).2.1,(Sha.addS (Sha.iv,(List.replicate 64 0),(0 : Int)) (Sha.xpad ((Sha.hash a0).take 32) (54 : Int))).2.2) a1).2.2)).take 32)).2.2 ≤ 9223372036854775000)) (some ((.str ((Sha.fin ((Sha.addS ((Sha.addS (Sha.iv,(List.replicate 64 0),(0 : Int)) (Sha.xpad ((Sha.hash a0).take 32) (92 : Int))).1,(Sha.addS (Sha.iv,(List.replicate 64 0),(0 : Int)) (Sha.xpad ((Sha.hash a0).take 32) (92 : Int))).2.1,(Sha.addS (Sha.iv,(List.replicate 64 0),(0 : Int)) (Sha.xpad ((Sha.hash a0).take 32) (92 : Int))).2.2) ((Sha.fin ((Sha.addS ((Sha.addS (Sha.iv,(List.replicate 64 0),(0 : Int)) (Sha.xpad ((Sha.hash a0).take 32) (54 : Int))).1,(Sha.addS (Sha.iv,(List.replicate 64 0),(0 : Int)) (Sha.xpad ((Sha.hash a0).take 32) (54 : Int))).2.1,(Sha.addS (Sha.iv,(List.replicate 64 0),(0 : Int)) (Sha.xpad ((Sha.hash a0).take 32) (54 : Int))).2.2) a1).1,(Sha.addS ((Sha.addS (Sha.iv,(List.replicate 64 0),(0 : Int)) (Sha.xpad ((Sha.hash a0).take 32) (54 : Int))).1,(Sha.addS (Sha.iv,(List.replicate 64 0),(0 : Int)) (Sha.xpad ((Sha.hash a0).take 32) (54 : Int))).2.1,(Sha.addS (Sha.iv,(List.replicate 64 0),(0 : Int)) (Sha.xpad ((Sha.hash a0).take 32) (54 : Int))).2.2) a1).2.1,(Sha.addS ((Sha.addS (Sha.iv,(List.replicate 64 0),(0 : Int)) (Sha.xpad ((Sha.hash a0).take 32) (54 : Int))).1,(Sha.addS (Sha.iv,(List.replicate 64 0),(0 : Int)) (Sha.xpad ((Sha.hash a0).take 32) (54 : Int))).2.1,(Sha.addS (Sha.iv,(List.replicate 64 0),(0 : Int)) (Sha.xpad ((Sha.hash a0).take 32) (54 : Int))).2.2) a1).2.2)).take 32)).1,(Sha.addS ((Sha.addS (Sha.iv,(List.replicate 64 0),(0 : Int)) (Sha.xpad ((Sha.hash a0).take 32) (92 : Int))).1,(Sha.addS (Sha.iv,(List.replicate 64 0),(0 : Int)) (Sha.xpad ((Sha.hash a0).take 32) (92 : Int))).2.1,(Sha.addS (Sha.iv,(List.replicate 64 0),(0 : Int)) (Sha.xpad ((Sha.hash a0).take 32) (92 : Int))).2.2) ((Sha.fin ((Sha.addS ((Sha.addS (Sha.iv,(List.replicate 64 0),(0 : Int)) (Sha.xpad ((Sha.hash a0).take 32) (54 : Int))).1,(Sha.addS (Sha.iv,(List.replicate 64 0),(0 : Int)) (Sha.xpad ((Sha.hash a0).take 32) (54 : Int))).2.1,(Sha.addS (Sha.iv,(List.replicate 64 0),(0 : Int)) (Sha.xpad ((Sha.hash a0).take 32) (54 : Int))).2.2) a1).1,(Sha.addS ((Sha.addS (Sha.iv,(List.replicate 64 0),(0 : Int)) (Sha.xpad ((Sha.hash a0).take 32) (54 : Int))).1,(Sha.addS (Sha.iv,(List.replicate 64 0),(0 : Int)) (Sha.xpad ((Sha.hash a0).take 32) (54 : Int))).2.1,(Sha.addS (Sha.iv,(List.replicate 64 0),(0 : Int)) (Sha.xpad ((Sha.hash a0).take 32) (54 : Int))).2.2) a1).2.1,(Sha.addS ((Sha.addS (Sha.iv,(List.replicate 64 0),(0 : Int)) (Sha.xpad ((Sha.hash a0).take 32) (54 : Int))).1,(Sha.addS (Sha.iv,(List.replicate 64 0),(0 : Int)) (Sha.xpad ((Sha.hash a0).take 32) (54 : Int))).2.1,(Sha.addS (Sha.iv,(List.replicate 64 0),(0 : Int)) (Sha.xpad ((Sha.hash a0).take 32) (54 : Int))).2.2) a1).2.2)).take 32)).2.1,(Sha.addS ((Sha.addS (Sha.iv,(List.replicate 64 0),(0 : Int)) (Sha.xpad ((Sha.hash a0).take 32) (92 : Int))).1,(Sha.addS (Sha.iv,(List.replicate 64 0),(0 : Int)) (Sha.xpad ((Sha.hash a0).take 32) (92 : Int))).2.1,(Sha.addS (Sha.iv,(List.replicate 64 0),(0 : Int)) (Sha.xpad ((Sha.hash a0).take 32) (92 : Int))).2.2) ((Sha.fin ((Sha.addS ((Sha.addS (Sha.iv,(List.replicate 64 0),(0 : Int)) (Sha.xpad ((Sha.hash a0).take 32) (54 : Int))).1,(Sha.addS (Sha.iv,(List.replicate 64 0),(0 : Int)) (Sha.xpad ((Sha.hash a0).take 32) (54 : Int))).2.1,(Sha.addS (Sha.iv,(List.replicate 64 0),(0 : Int)) (Sha.xpad ((Sha.hash a0).take 32) (54 : Int))).2.2) a1).1,(Sha.addS ((Sha.addS (Sha.iv,(List.replicate 64 0),(0 : Int)) (Sha.xpad ((Sha.hash a0).take 32) (54 : Int))).1,(Sha.addS (Sha.iv,(List.replicate 64 0),(0 : Int)) (Sha.xpad ((Sha.hash a0).take 32) (54 : Int))).2.1,(Sha.addS (Sha.iv,(List.replicate 64 0),(0 : Int)) (Sha.xpad ((Sha.hash a0).take 32) (54 : Int))).2.2) a1).2.1,(Sha.addS ((Sha.addS (Sha.iv,(List.replicate 64 0),(0 : Int)) (Sha.xpad ((Sha.hash a0).take 32) (54 : Int))).1,(Sha.addS (Sha.iv,(List.replicate 64 0),(0 : Int)) (Sha.xpad ((Sha.hash a0).take 32) (54 : Int))).2.1,(Sha.addS (Sha.iv,(List.replicate 64 0),(0 : Int)) (Sha.xpad ((Sha.hash a0).take 32) (54 : Int))).2.2) a1).2.2)).take 32)).2.2)).take 32)),[])) none) none) (cond (decide ((Sha.addS ((Sha.addS (Sha.iv,(List.replicate 64 0),(0 : Int)) (Sha.xpad a0 (54 : Int))).1,(Sha.addS (Sha.iv,(List.replicate 64 0),(0 : Int)) (Sha.xpad a0 (54 : Int))).2.1,(Sha.addS (Sha.iv,(List.replicate 64 0),(0 : Int)) (Sha.xpad a0 (54 : Int))).2.2) a1).2.2 ≤ 9223372036854775000)) (cond (decide ((Sha.addS ((Sha.addS (Sha.iv,(List.replicate 64 0),(0 : Int)) (Sha.xpad a0 (92 : Int))).1,(Sha.addS (Sha.iv,(List.replicate 64 0),(0 : Int)) (Sha.xpad a0 (92 : Int))).2.1,(Sha.addS (Sha.iv,(List.replicate 64 0),(0 : Int)) (Sha.xpad a0 (92 : Int))).2.2) ((Sha.fin ((Sha.addS ((Sha.addS (Sha.iv,(List.replicate 64 0),(0 : Int)) (Sha.xpad a0 (54 : Int))).1,(Sha.addS (Sha.iv,(List.replicate 64 0),(0 : Int)) (Sha.xpad a0 (54 : Int))).2.1,(Sha.addS (Sha.iv,(List.replicate 64 0),(0 : Int)) (Sha.xpad a0 (54 : Int))).2.2) a1).1,(Sha.addS ((Sha.addS (Sha.iv,(List.replicate 64 0),(0 : Int)) (Sha.xpad a0 (54 : Int))).1,(Sha.addS (Sha.iv,(List.replicate 64 0),(0 : Int)) (Sha.xpad a0 (54 : Int))).2.1,(Sha.addS (Sha.iv,(List.replicate 64 0),(0 : Int)) (Sha.xpad a0 (54 : Int))).2.2) a1).2.1,(Sha.addS ((Sha.addS (Sha.iv,(List.replicate 64 0),(0 : Int)) (Sha.xpad a0 (54 : Int))).1,(Sha.addS (Sha.iv,(List.replicate 64 0),(0 : Int)) (Sha.xpad a0 (54 : Int))).2.1,(Sha.addS (Sha.iv,(List.replicate 64 0),(0 : Int)) (Sha.xpad a0 (54 : Int))).2.2) a1).2.2)).take 32)).2.2 ≤ 9223372036854775000)) (some ((.str ((Sha.fin ((Sha.addS ((Sha.addS (Sha.iv,(List.replicate 64 0),(0 : Int)) (Sha.xpad a0 (92 : Int))).1,(Sha.addS (Sha.iv,(List.replicate 64 0),(0 : Int)) (Sha.xpad a0 (92 : Int))).2.1,(Sha.addS (Sha.iv,(List.replicate 64 0),(0 : Int)) (Sha.xpad a0 (92 : Int))).2.2) ((Sha.fin ((Sha.addS ((Sha.addS (Sha.iv,(List.replicate 64 0),(0 : Int)) (Sha.xpad a0 (54 : Int))).1,(Sha.addS (Sha.iv,(List.replicate 64 0),(0 : Int)) (Sha.xpad a0 (54 : Int))).2.1,(Sha.addS (Sha.iv,(List.replicate 64 0),(0 : Int)) (Sha.xpad a0 (54 : Int))).2.2) a1).1,(Sha.addS ((Sha.addS (Sha.iv,(List.replicate 64 0),(0 : Int)) (Sha.xpad a0 (54 : Int))).1,(Sha.addS (Sha.iv,(List.replicate 64 0),(0 : Int)) (Sha.xpad a0 (54 : Int))).2.1,(Sha.addS (Sha.iv,(List.replicate 64 0),(0 : Int)) (Sha.xpad a0 (54 : Int))).2.2) a1).2.1,(Sha.addS ((Sha.addS (Sha.iv,(List.replicate 64 0),(0 : Int)) (Sha.xpad a0 (54 : Int))).1,(Sha.addS (Sha.iv,(List.replicate 64 0),(0 : Int)) (Sha.xpad a0 (54 : Int))).2.1,(Sha.addS (Sha.iv,(List.replicate 64 0),(0 : Int)) (Sha.xpad a0 (54 : Int))).2.2) a1).2.2)).take 32)).1,(Sha.addS ((Sha.addS (Sha.iv,(List.replicate 64 0),(0 : Int)) (Sha.xpad a0 (92 : Int))).1,(Sha.addS (Sha.iv,(List.replicate 64 0),(0 : Int)) (Sha.xpad a0 (92 : Int))).2.1,(Sha.addS (Sha.iv,(List.replicate 64 0),(0 : Int)) (Sha.xpad a0 (92 : Int))).2.2) ((Sha.fin ((Sha.addS ((Sha.addS (Sha.iv,(List.replicate 64 0),(0 : Int)) (Sha.xpad a0 (54 : Int))).1,(Sha.addS (Sha.iv,(List.replicate 64 0),(0 : Int)) (Sha.xpad a0 (54 : Int))).2.1,(Sha.addS (Sha.iv,(List.replicate 64 0),(0 : Int)) (Sha.xpad a0 (54 : Int))).2.2) a1).1,(Sha.addS ((Sha.addS (Sha.iv,(List.replicate 64 0),(0 : Int)) (Sha.xpad a0 (54 : Int))).1,(Sha.addS (Sha.iv,(List.replicate 64 0),(0 : Int)) (Sha.xpad a0 (54 : Int))).2.1,(Sha.addS (Sha.iv,(List.replicate 64 0),(0 : Int)) (Sha.xpad a0 (54 : Int))).2.2) a1).2.1,(Sha.addS ((Sha.addS (Sha.iv,(List.replicate 64 0),(0 : Int)) (Sha.xpad a0 (54 : Int))).1,(Sha.addS (Sha.iv,(List.replicate 64 0),(0 : Int)) (Sha.xpad a0 (54 : Int))).2.1,(Sha.addS (Sha.iv,(List.replicate 64 0),(0 : Int)) (Sha.xpad a0 (54 : Int))).2.2) a1).2.2)).take 32)).2.1,(Sha.addS ((Sha.addS (Sha.iv,(List.replicate 64 0),(0 : Int)) (Sha.xpad a0 (92 : Int))).1,(Sha.addS (Sha.iv,(List.replicate 64 0),(0 : Int)) (Sha.xpad a0 (92 : Int))).2.1,(Sha.addS (Sha.iv,(List.replicate 64 0),(0 : Int)) (Sha.xpad a0 (92 : Int))).2.2) ((Sha.fin ((Sha.addS ((Sha.addS (Sha.iv,(List.replicate 64 0),(0 : Int)) (Sha.xpad a0 (54 : Int))).1,(Sha.addS (Sha.iv,(List.replicate 64 0),(0 : Int)) (Sha.xpad a0 (54 : Int))).2.1,(Sha.addS (Sha.iv,(List.replicate 64 0),(0 : Int)) (Sha.xpad a0 (54 : Int))).2.2) a1).1,(Sha.addS ((Sha.addS (Sha.iv,(List.replicate 64 0),(0 : Int)) (Sha.xpad a0 (54 : Int))).1,(Sha.addS (Sha.iv,(List.replicate 64 0),(0 : Int)) (Sha.xpad a0 (54 : Int))).2.1,(Sha.addS (Sha.iv,(List.replicate 64 0),(0 : Int)) (Sha.xpad a0 (54 : Int))).2.2) a1).2.1,(Sha.addS ((Sha.addS (Sha.iv,(List.replicate 64 0),(0 : Int)) (Sha.xpad a0 (54 : Int))).1,(Sha.addS (Sha.iv,(List.replicate 64 0),(0 : Int)) (Sha.xpad a0 (54 : Int))).2.1,(Sha.addS (Sha.iv,(List.replicate 64 0),(0 : Int)) (Sha.xpad a0 (54 : Int))).2.2) a1).2.2)).take 32)).2.2)).take 32)),[])) none) none))
theorem f49_1_eq (F : Nat) : ∀ v,aexec VG0249 (Af49 F) (sub (bodyOf Tryd.f49) []) (ef49_a v) Kf12 = f49_1 F v := by
 rintro ⟨a0,a1⟩; kernel_rfl
def f49 (F : Nat) : Li × Li → Rz := f49_1 F
theorem f49_body (F : Nat) (a0 : List Int) (a1 : List Int) : abody VG0249 (Af49 F) Tryd.f49 [(.str a0),.str a1] [] = f49 F (a0,a1) :=
 (abody_in (c := (sub (bodyOf Tryd.f49) [])) (by kernel_rfl) (s := ef49_a (a0,a1)) (by kernel_rfl)).trans (f49_1_eq F (a0,a1))
def r49 : CRun := fun X H => match X,H with
 | [(.str a0),.str a1],[] => some (true,(.str (Sha.mac a0 a1)),[])
 | _,_ => none
theorem mac_half (st bl : List Int) (n : Int) (t : List Int) (h0 : 0 ≤ n) (h1 : n ≤ 9000000000000000000) (ht : t.length < 4611686018427387904) (hn : n + t.length ≤ 9223372036854775000) : (decide ((Sha.addS (st,bl,n) t).2.2 ≤ 9223372036854775000)) = true := by
 rw [Sha.addS_n _ _ _ _ h0 (by omega),u64w (by omega) (by omega)]; exact decide_eq_true hn
theorem s49 (a0 : List Int) (a1 : List Int) (h0 : okV (.str a0)) (h1 : okV (.str a1)) : ∃ F,f49 F (a0,a1) = some ((.str (Sha.mac a0 a1)),[]) := by
 have hl1 := h1.1
 have hxl : ∀ k w,(Sha.xpad k w).length = 64 := fun k w => by simp [Sha.xpad]
 have hsmall : ∀ (x t : List Int),x.length = 64 → t.length < 4611686018427387904 → (decide ((Sha.addS ((Sha.addS (Sha.iv,(List.replicate 64 0),(0 : Int)) x).1,(Sha.addS (Sha.iv,(List.replicate 64 0),(0 : Int)) x).2.1,(Sha.addS (Sha.iv,(List.replicate 64 0),(0 : Int)) x).2.2) t).2.2 ≤ 9223372036854775000)) = true := by
  intro x t hx ht
  refine mac_half _ _ _ _ ?_ ?_ ht ?_ <;> rw [Sha.addS_n _ _ _ _ (by omega) (by omega),u64w (by omega) (by omega)] <;> omega
 refine ⟨0,?_⟩
 simp only [f49,f49_1]
 by_cases h : a0.length > 64
 ·rw [cond_pos (show ((a0.length : Int) > 64) by omega),hsmall _ _ (hxl _ _) hl1,cond_true,hsmall _ _ (hxl _ _) (by rw [List.length_take]; exact Nat.lt_of_le_of_lt (Nat.min_le_left _ _) (by decide)),cond_true]
  have e : ∀ x,(Sha.fin x).take 32 = Sha.fin x := fun x => List.take_of_length_le (Nat.le_of_eq (Sha.out_len _))
  simp only [Sha.mac,if_pos h,Sha.hash,Sha.begin,Sha.addS_append,e]
 ·rw [cond_neg (show ¬ ((a0.length : Int) > 64) by omega),hsmall _ _ (hxl _ _) hl1,cond_true,hsmall _ _ (hxl _ _) (by rw [List.length_take]; exact Nat.lt_of_le_of_lt (Nat.min_le_left _ _) (by decide)),cond_true]
  have e : ∀ x,(Sha.fin x).take 32 = Sha.fin x := fun x => List.take_of_length_le (Nat.le_of_eq (Sha.out_len _))
  simp only [Sha.mac,if_neg h,Sha.hash,Sha.begin,Sha.addS_append,e]
theorem c49 : CallOk Tryd.prog G02 49 r49 := callOk_of (V := VG0249) mixed tys eVG0249 (f := 49) (fn := Tryd.f49) Tryd.func49 (by kernel_rfl) (c := sub (bodyOf Tryd.f49) []) (by kernel_rfl) (by
 intro X H r H' h hX hH
 unfold r49 at h; split at h <;> try contradiction
 ·simp only [Option.some.injEq,Prod.mk.injEq] at h
  obtain ⟨hp,rfl,rfl⟩ := h
  obtain ⟨F,hF⟩ := s49 _ _ (hX _ (.head _)) (hX _ (.tail _ (.head _)))
  exact ⟨Af49 F,(f49_body F _ _).trans hF⟩)
def lVG0234 : List CEnt := [(52,[],r52),(53,[none,none],r53),(54,[none],r54),(55,[none],r55)]
def VG0234 : Env := mkEnv T03 G02 lVG0234
noncomputable abbrev Kf13 := kFin VG0234 none (Tryd.f34).results.toList
theorem eVG0234 : EOk Tryd.prog VG0234 := eok_mk (by exact ⟨c52,c53,c54,c55,trivial⟩)
def Af34 (F : Nat) : Cuts := { F := F,at_ := fun n => match n with | 3012 => some sp23 | _ => none,join := fun n => match n with | 1024 => some sp22 | 2022 => some sp24 | 3014 => some sp23 | 7005 => some [(4,.plain),(5,.plain)] | _ => none }
noncomputable abbrev XAf34 (F : Nat) {α : Type} := @aexec α VG0234 (Af34 F)
def ef34_a : Int × (List Li) → St := fun (a0,a1) => ⟨[(0,.int .i64 a0),(1,(.vs (.rS a1) 0 1))],[],0,32,0⟩
def ef34j1 : Ty21 → St := fun (t0,t1,x3) => ⟨[(0,.int .i64 t0),(1,(.vs (.rS t1) 0 1)),(4,.ptr 0 0 16 0 0 0 16)],[(0,(.cells 16 (.rI .u8 x3) true))],1,32,0⟩
def ef34j2 : Ty22 → St := fun (t1,x2,x3,x4,x5) => ⟨[(1,(.vs (.rS t1) 0 1)),(4,.ptr 0 0 16 0 0 0 16),(5,.ptr 1 0 73 0 0 0 73)],[(0,(.cells 16 (.rI .u8 x2) true)),(1,(.cells 73 (.segs (.cons 8 (.rI .u32 x3) (.cons 64 (.rI .u8 x4) (.cons 1 (.one (.int .u64 x5)) .nil)))) true))],2,32,0⟩
def ef34j3 : Ty23 → St := fun (t15,t16,t17,x4,x5,x6,x7) => ⟨[(4,.ptr 0 0 16 0 0 0 16),(5,.ptr 1 0 73 0 0 0 73),(15,(.vs (.rS t15) 0 1)),(16,.int .i64 t16),(17,.int .i64 t17)],[(0,(.cells 16 (.rI .u8 x4) true)),(1,(.cells 73 (.segs (.cons 8 (.rI .u32 x5) (.cons 64 (.rI .u8 x6) (.cons 1 (.one (.int .u64 x7)) .nil)))) true))],2,32,0⟩
def ef34l1 : Ty23 → St := ef34j3
def ef34j4 : Ty24 → St := fun (x1,x2,x3,x4) => ⟨[(4,.ptr 0 0 16 0 0 0 16),(5,.ptr 1 0 73 0 0 0 73)],[(0,(.cells 16 (.rI .u8 x1) true)),(1,(.cells 73 (.segs (.cons 8 (.rI .u32 x2) (.cons 64 (.rI .u8 x3) (.cons 1 (.one (.int .u64 x4)) .nil)))) true))],2,32,0⟩
def f34_1 (F : Nat) (kf34j1 : Ty21 → Rz) : Int × (List Li) → Rz := fun (a0,a1) => (kf34j1 (a0,a1,(List.replicate 16 0)))
theorem f34_1_eq (F : Nat) (Rf34j1 : St → Rz) : ∀ v,XAf34 F (bp Tryd.f34 2) (ef34_a v) (kSeq (kc VG0234 Rf34j1 sp22) Kf13) = f34_1 F (Rf34j1 ∘ ef34j1) v := by
 rintro ⟨a0,a1⟩; kernel_rfl
def f34_2 (F : Nat) (kf34j2 : Ty22 → Rz) : Ty21 → Rz := fun (t0,t1,x3) => (kf34j2 (t1,x3,(Sha.addS (Sha.iv,(List.replicate 64 0),(0 : Int)) [(IntKind.u8.wrap t0)]).1,(Sha.addS (Sha.iv,(List.replicate 64 0),(0 : Int)) [(IntKind.u8.wrap t0)]).2.1,(Sha.addS (Sha.iv,(List.replicate 64 0),(0 : Int)) [(IntKind.u8.wrap t0)]).2.2))
theorem f34_2_eq (F : Nat) (Rf34j2 : St → Rz) : ∀ v,XAf34 F (bp Tryd.f34 6) (ef34j1 v) (kSeq (kc VG0234 Rf34j2 sp24) Kf13) = f34_2 F (Rf34j2 ∘ ef34j2) v := by
 rintro ⟨t0,t1,x3⟩; kernel_rfl
def f34_3 (F : Nat) (kf34j3 : Ty23 → Rz) (kf34j4 : Ty24 → Rz) : Ty22 → Rz := fun (t1,x2,x3,x4,x5) => (kf34j3 (t1,(↑t1.length : Int),(0 : Int),x2,x3,x4,x5))
theorem f34_3_eq (F : Nat) (Rf34j3 : St → Rz) (Rf34j4 : St → Rz) : ∀ v,XAf34 F (bp Tryd.f34 28) (ef34j2 v) (kSeq (kc VG0234 Rf34j3 sp23) (kSeq (kc VG0234 Rf34j4 [(4,.plain),(5,.plain)]) Kf13)) = f34_3 F (Rf34j3 ∘ ef34j3) (Rf34j4 ∘ ef34j4) v := by
 rintro ⟨t1,x2,x3,x4,x5⟩; kernel_rfl
def f34_4 (F : Nat) (kf34l1 : Ty23 → Rz) (kf34j4 : Ty24 → Rz) : Ty23 → Rz := fun (t15,t16,t17,x4,x5,x6,x7) => (cond (decide (t17 < t16)) (cond ((decide (0 ≤ t17)) && (decide (t17 < (↑t15.length : Int)))) (cond (decide ((t15.getD (Int.toNat t17) []).length < 1073741800)) (kf34l1 (t15,t16,(IntKind.i64.wrap (t17 + (1 : Int))),x4,(Sha.addS (x5,x6,x7) (Wire.bytes (t15.getD (Int.toNat t17) []))).1,(Sha.addS (x5,x6,x7) (Wire.bytes (t15.getD (Int.toNat t17) []))).2.1,(Sha.addS (x5,x6,x7) (Wire.bytes (t15.getD (Int.toNat t17) []))).2.2)) none) none) (kf34j4 (x4,x5,x6,x7)))
theorem f34_4_eq (F : Nat) (Rf34l1 : St → Rz) (Rf34j4 : St → Rz) : ∀ v,XAf34 F (bp Tryd.f34 116) (ef34l1 v) (kSeq (kc VG0234 Rf34l1 sp23) (kBlock 0 (kSeq (kc VG0234 Rf34j4 [(4,.plain),(5,.plain)]) Kf13))) = f34_4 F (Rf34l1 ∘ ef34l1) (Rf34j4 ∘ ef34j4) v := by
 rintro ⟨t15,t16,t17,x4,x5,x6,x7⟩; kernel_rfl
def f34_5_i : Ty23 → (List Li) × Int × Int × Li × Li × Li × Int := fun (t15,t16,t17,x4,x5,x6,x7) => (t15,t16,t17,x4,x5,x6,x7)
def f34_5 (F : Nat) (kf34j4 : Ty24 → Rz) : Ty23 → Rz := fun v => loopN (fun k => f34_4 F k kf34j4) F (f34_5_i v)
theorem f34_5_eq (F : Nat) (Rf34j4 : St → Rz) : ∀ v,XAf34 F (bp Tryd.f34 58) (ef34j3 v) (kBlock 0 (kSeq (kc VG0234 Rf34j4 [(4,.plain),(5,.plain)]) Kf13)) = f34_5 F (Rf34j4 ∘ ef34j4) v :=
 loop_cut (by kernel_rfl) (by kernel_rfl) ef34j3 ef34l1 _ f34_5_i (fun k => f34_4 F k (Rf34j4 ∘ ef34j4))
  (by rintro ⟨t15,t16,t17,x4,x5,x6,x7⟩; kernel_rfl) (fun Rf34l1 => f34_4_eq F Rf34l1 Rf34j4)
def f34_6 (F : Nat) (kf34j4 : Ty24 → Rz) : Ty23 → Rz := f34_5 F kf34j4
theorem f34_6_eq (F : Nat) (Rf34j4 : St → Rz) : ∀ v,XAf34 F (bp Tryd.f34 29) (ef34j3 v) (kSeq (kc VG0234 Rf34j4 [(4,.plain),(5,.plain)]) Kf13) = f34_6 F (Rf34j4 ∘ ef34j4) v := fun v =>
 (block_in  (by kernel_rfl) _ _).trans (f34_5_eq F Rf34j4 v)
def f34_7 (F : Nat) (kf34j4 : Ty24 → Rz) : Ty22 → Rz := fun v => f34_3 F (f34_6 F kf34j4) kf34j4 v
theorem f34_7_eq (F : Nat) (Rf34j4 : St → Rz) : ∀ v,XAf34 F (bp Tryd.f34 14) (ef34j2 v) (kSeq (kc VG0234 Rf34j4 [(4,.plain),(5,.plain)]) Kf13) = f34_7 F (Rf34j4 ∘ ef34j4) v :=
 seq_cut (by kernel_rfl) (by kernel_rfl) ef34j2 ef34j3 _ (fun k => f34_3 F k (Rf34j4 ∘ ef34j4)) (f34_6 F (Rf34j4 ∘ ef34j4))
  (fun Rf34j3 => f34_3_eq F Rf34j3 Rf34j4) (f34_6_eq F Rf34j4)
def f34_8 (F : Nat) : Ty24 → Rz := fun (x1,x2,x3,x4) => (cond (decide (x4 ≤ 9223372036854775000)) (some ((.agg 16 (.rI .u8 ((Sha.fin (x2,x3,x4)).take 16))),[])) none)
theorem f34_8_eq (F : Nat) : ∀ v,XAf34 F (bp Tryd.f34 15) (ef34j4 v) Kf13 = f34_8 F v := by
 rintro ⟨x1,x2,x3,x4⟩; kernel_rfl
def f34_9 (F : Nat) : Ty22 → Rz := fun v => f34_7 F (f34_8 F) v
theorem f34_9_eq (F : Nat) : ∀ v,XAf34 F (bp Tryd.f34 7) (ef34j2 v) Kf13 = f34_9 F v :=
 seq_cut (by kernel_rfl) (by kernel_rfl) ef34j2 ef34j4 _ (fun k => f34_7 F k) (f34_8 F)
  (fun Rf34j4 => f34_7_eq F Rf34j4) (f34_8_eq F)
def f34_10 (F : Nat) : Ty21 → Rz := fun v => f34_2 F (f34_9 F) v
theorem f34_10_eq (F : Nat) : ∀ v,XAf34 F (bp Tryd.f34 3) (ef34j1 v) Kf13 = f34_10 F v :=
 seq_cut (by kernel_rfl) (by kernel_rfl) ef34j1 ef34j2 _ (fun k => f34_2 F k) (f34_9 F)
  (fun Rf34j2 => f34_2_eq F Rf34j2) (f34_9_eq F)
def f34_11 (F : Nat) : Int × (List Li) → Rz := fun v => f34_1 F (f34_10 F) v
theorem f34_11_eq (F : Nat) : ∀ v,XAf34 F (sub (bodyOf Tryd.f34) []) (ef34_a v) Kf13 = f34_11 F v :=
 seq_cut (by kernel_rfl) (by kernel_rfl) ef34_a ef34j1 _ (fun k => f34_1 F k) (f34_10 F)
  (fun Rf34j1 => f34_1_eq F Rf34j1) (f34_10_eq F)
def f34 (F : Nat) : Int × (List Li) → Rz := f34_11 F
theorem f34_body (F : Nat) (a0 : Int) (a1 : List Li) : abody VG0234 (Af34 F) Tryd.f34 [(.int .i64 a0),(.vs (.rS a1) 0 1)] [] = f34 F (a0,a1) :=
 (abody_in (c := (sub (bodyOf Tryd.f34) [])) (by kernel_rfl) (s := ef34_a (a0,a1)) (by kernel_rfl)).trans (f34_11_eq F (a0,a1))
def r34 : CRun := fun X H => match X,H with
 | [(.int .i64 a0),(.vs (.rS a1) 0 1)],[] => some ((Sha.few a1),(.agg 16 (.rI .u8 (Sha.of a0 a1))),[])
 | _,_ => none
theorem few_ok {l : List Li} (h : Sha.few l = true) : l.length < 1073741824 ∧ ∀ i,(l.getD i []).length < 1073741800 := by
 simp only [Sha.few,Bool.and_eq_true,decide_eq_true_eq,List.all_eq_true] at h
 refine ⟨h.1,fun i => ?_⟩
 by_cases hi : i < l.length
 ·rw [List.getD_eq_getElem?_getD,List.getElem?_eq_getElem hi]; exact h.2 _ (List.getElem_mem hi)
 ·rw [List.getD_eq_getElem?_getD,List.getElem?_eq_none (by omega)]; simp
theorem bytes_len (t : List Int) : (Wire.bytes t).length ≤ t.length + 9 := by
 have := Wire.nb_le (Wire.mag (t.length : Int))
 simp only [Wire.bytes,List.length_append,Wire.int_len]; omega
theorem input_take (tag : Int) (l : List Li) (i : Nat) (h : i < l.length) : Sha.input tag (l.take (i + 1)) = Sha.input tag (l.take i) ++ Wire.bytes (l.getD i []) := by
 simp only [Sha.input]
 rw [List.take_add_one,List.getElem?_eq_getElem h,List.getD_eq_getElem?_getD,List.getElem?_eq_getElem h,List.flatMap_append,List.cons_append]
 simp only [Option.toList_some,List.flatMap_cons,List.flatMap_nil,List.append_nil,Option.getD_some]
theorem input_len (tag : Int) (l : List Li) (hl : ∀ i,(l.getD i []).length < 1073741800) : ∀ i,i ≤ l.length → (Sha.input tag (l.take i)).length ≤ 1 + i * 1073741824
 | 0,_ => by simp [Sha.input]
 | i + 1,h => by
  rw [input_take tag l i (by omega),List.length_append]
  have := input_len tag l hl i (by omega)
  have h2 := bytes_len (l.getD i [])
  have h3 := hl i
  omega
theorem s34 (a0 : Int) (a1 : List Li) (hp : ((Sha.few a1)) = true) (h0 : okV (.int .i64 a0)) (h1 : okV (.vs (.rS a1) 0 1)) : ∃ F,f34 F (a0,a1) = some ((.agg 16 (.rI .u8 (Sha.of a0 a1))),[]) := by
 obtain ⟨g1,g2⟩ := few_ok hp
 refine ⟨a1.length + 1,?_⟩
 simp only [f34,f34_11,f34_1,f34_10,f34_2,f34_9,f34_7,f34_3,f34_6,f34_5,f34_5_i]
 have hin : ∀ i,i ≤ a1.length → (Sha.addS Sha.begin (Sha.input a0 (a1.take i))).2.2 ≤ 9223372036854775000 := by
  intro i hi
  have := input_len a0 a1 g2 i hi
  have e : Sha.begin = (Sha.iv,List.replicate 64 0,0) := rfl
  rw [e,Sha.addS_n _ _ _ _ (by omega) (by omega),u64w (by omega) (by omega)]
  omega
 refine loopN_from (fun i => (a1,(a1.length : Int),(i : Int),List.replicate 16 0,(Sha.addS Sha.begin (Sha.input a0 (a1.take i))).1,(Sha.addS Sha.begin (Sha.input a0 (a1.take i))).2.1,(Sha.addS Sha.begin (Sha.input a0 (a1.take i))).2.2)) a1.length (by rfl) (fun i hi k => ?_) (fun k => ?_) _ (by omega)
 ·simp only [f34_4,dec_and]
  rw [cond_pos (by omega),cond_pos (by omega),Int.toNat_natCast,cond_pos (g2 i),i64w (x := (i : Int) + 1) (by omega) (by omega),input_take a0 a1 i hi,Sha.addS_append]
  rfl
 ·simp only [f34_4]
  rw [cond_neg (by omega)]
  simp only [f34_8]
  rw [cond_pos (hin _ (Nat.le_refl _)),List.take_length]
  rfl
theorem c34 : CallOk Tryd.prog G02 34 r34 := callOk_of (V := VG0234) mixed tys eVG0234 (f := 34) (fn := Tryd.f34) Tryd.func34 (by kernel_rfl) (c := sub (bodyOf Tryd.f34) []) (by kernel_rfl) (by
 intro X H r H' h hX hH
 unfold r34 at h; split at h <;> try contradiction
 ·simp only [Option.some.injEq,Prod.mk.injEq] at h
  obtain ⟨hp,rfl,rfl⟩ := h
  obtain ⟨F,hF⟩ := s34 _ _ hp (hX _ (.head _)) (hX _ (.tail _ (.head _)))
  exact ⟨Af34 F,(f34_body F _ _).trans hF⟩)
def lVG0265 : List CEnt := []
def VG0265 : Env := mkEnv T03 G02 lVG0265
noncomputable abbrev Kf14 := kFin VG0265 none (Tryd.f65).results.toList
theorem eVG0265 : EOk Tryd.prog VG0265 := eok_mk (by exact trivial)
def Af65 (F : Nat) : Cuts := { F := F,at_ := fun n => match n with | 3010 => some sp25 | _ => none,join := fun n => match n with | 1020 => some [(1,.plain)] | 2018 => some [(1,.plain),(3,.plain)] | 3012 => some sp26 | 6003 => some [(3,.plain)] | _ => none }
noncomputable abbrev XAf65 (F : Nat) {α : Type} := @aexec α VG0265 (Af65 F)
def ef65_a : Li → St := fun a0 => ⟨[(0,(.agg 32 (.rI .u8 a0)))],[],0,17,0⟩
def ef65j1 : Li → St := fun x1 => ⟨[(1,.ptr 0 0 32 0 0 0 32)],[(0,(.cells 32 (.rI .u8 x1) true))],1,17,0⟩
def ef65j2 : Li → St := fun x1 => ⟨[(1,.ptr 0 0 32 0 0 0 32),(3,.ns)],[(0,(.cells 32 (.rI .u8 x1) true))],1,17,0⟩
def ef65j3 : Int × Li → St := fun (t4,x2) => ⟨[(1,.ptr 0 0 32 0 0 0 32),(3,.ns),(4,.int .i64 t4)],[(0,(.cells 32 (.rI .u8 x2) true))],1,17,0⟩
def ef65l1 : Ty19 → St := fun (t4,x2,x3) => ⟨[(1,.ptr 0 0 32 0 0 0 32),(3,.own 1 0 1),(4,.int .i64 t4)],[(0,(.cells 32 (.rI .u8 x2) true)),(1,(.cells x3.length (.rI .u8 x3) true))],2,17,0⟩
def ef65j4 : Li → St := fun x1 => ⟨[(3,.own 0 0 1)],[(0,(.cells x1.length (.rI .u8 x1) true))],1,17,0⟩
def f65_1 (F : Nat) (kf65j1 : Li → Rz) : Li → Rz := fun a0 => (kf65j1 a0)
theorem f65_1_eq (F : Nat) (Rf65j1 : St → Rz) : ∀ v,XAf65 F (bp Tryd.f65 2) (ef65_a v) (kSeq (kc VG0265 Rf65j1 [(1,.plain)]) Kf14) = f65_1 F (Rf65j1 ∘ ef65j1) v := by
 intro a0; kernel_rfl
def f65_2 (F : Nat) (kf65j2 : Li → Rz) : Li → Rz := fun x1 => (kf65j2 x1)
theorem f65_2_eq (F : Nat) (Rf65j2 : St → Rz) : ∀ v,XAf65 F (bp Tryd.f65 6) (ef65j1 v) (kSeq (kc VG0265 Rf65j2 [(1,.plain),(3,.plain)]) Kf14) = f65_2 F (Rf65j2 ∘ ef65j2) v := by
 intro x1; kernel_rfl
def f65_3 (F : Nat) (kf65j3 : Int × Li → Rz) (kf65j4 : Li → Rz) : Li → Rz := fun x1 => (kf65j3 ((0 : Int),x1))
theorem f65_3_eq (F : Nat) (Rf65j3 : St → Rz) (Rf65j4 : St → Rz) : ∀ v,XAf65 F (bp Tryd.f65 28) (ef65j2 v) (kSeq (kc VG0265 Rf65j3 sp26) (kSeq (kc VG0265 Rf65j4 [(3,.plain)]) Kf14)) = f65_3 F (Rf65j3 ∘ ef65j3) (Rf65j4 ∘ ef65j4) v := by
 intro x1; kernel_rfl
def f65_4 (F : Nat) (kf65l1 : Ty19 → Rz) (kf65j4 : Li → Rz) : Ty19 → Rz := fun (t4,x2,x3) => (cond (decide (t4 < (32 : Int))) (cond ((decide (0 ≤ t4)) && (decide (t4 < (32 : Int)))) (cond (decide ((x3.length + 1) < 1073741824)) (kf65l1 ((IntKind.i64.wrap (t4 + (1 : Int))),x2,(x3 ++ [(x2.getD (Int.toNat t4) 0)]))) none) none) (kf65j4 x3))
theorem f65_4_eq (F : Nat) (Rf65l1 : St → Rz) (Rf65j4 : St → Rz) : ∀ v,XAf65 F (bp Tryd.f65 116) (ef65l1 v) (kSeq (kc VG0265 Rf65l1 sp25) (kBlock 0 (kSeq (kc VG0265 Rf65j4 [(3,.plain)]) Kf14))) = f65_4 F (Rf65l1 ∘ ef65l1) (Rf65j4 ∘ ef65j4) v := by
 rintro ⟨t4,x2,x3⟩; kernel_rfl
def f65_5_i : Int × Li → Int × Li × Li := fun (t4,x2) => (t4,x2,[])
def f65_5 (F : Nat) (kf65j4 : Li → Rz) : Int × Li → Rz := fun v => loopN (fun k => f65_4 F k kf65j4) F (f65_5_i v)
theorem f65_5_eq (F : Nat) (Rf65j4 : St → Rz) : ∀ v,XAf65 F (bp Tryd.f65 58) (ef65j3 v) (kBlock 0 (kSeq (kc VG0265 Rf65j4 [(3,.plain)]) Kf14)) = f65_5 F (Rf65j4 ∘ ef65j4) v :=
 loop_cut (by kernel_rfl) (by kernel_rfl) ef65j3 ef65l1 _ f65_5_i (fun k => f65_4 F k (Rf65j4 ∘ ef65j4))
  (by rintro ⟨t4,x2⟩; kernel_rfl) (fun Rf65l1 => f65_4_eq F Rf65l1 Rf65j4)
def f65_6 (F : Nat) (kf65j4 : Li → Rz) : Int × Li → Rz := f65_5 F kf65j4
theorem f65_6_eq (F : Nat) (Rf65j4 : St → Rz) : ∀ v,XAf65 F (bp Tryd.f65 29) (ef65j3 v) (kSeq (kc VG0265 Rf65j4 [(3,.plain)]) Kf14) = f65_6 F (Rf65j4 ∘ ef65j4) v := fun v =>
 (block_in  (by kernel_rfl) _ _).trans (f65_5_eq F Rf65j4 v)
def f65_7 (F : Nat) (kf65j4 : Li → Rz) : Li → Rz := fun v => f65_3 F (f65_6 F kf65j4) kf65j4 v
theorem f65_7_eq (F : Nat) (Rf65j4 : St → Rz) : ∀ v,XAf65 F (bp Tryd.f65 14) (ef65j2 v) (kSeq (kc VG0265 Rf65j4 [(3,.plain)]) Kf14) = f65_7 F (Rf65j4 ∘ ef65j4) v :=
 seq_cut (by kernel_rfl) (by kernel_rfl) ef65j2 ef65j3 _ (fun k => f65_3 F k (Rf65j4 ∘ ef65j4)) (f65_6 F (Rf65j4 ∘ ef65j4))
  (fun Rf65j3 => f65_3_eq F Rf65j3 Rf65j4) (f65_6_eq F Rf65j4)
def f65_8 (F : Nat) : Li → Rz := fun x1 => (some ((.str x1),[]))
theorem f65_8_eq (F : Nat) : ∀ v,XAf65 F (bp Tryd.f65 15) (ef65j4 v) Kf14 = f65_8 F v := by
 intro x1; kernel_rfl
def f65_9 (F : Nat) : Li → Rz := fun v => f65_7 F (f65_8 F) v
theorem f65_9_eq (F : Nat) : ∀ v,XAf65 F (bp Tryd.f65 7) (ef65j2 v) Kf14 = f65_9 F v :=
 seq_cut (by kernel_rfl) (by kernel_rfl) ef65j2 ef65j4 _ (fun k => f65_7 F k) (f65_8 F)
  (fun Rf65j4 => f65_7_eq F Rf65j4) (f65_8_eq F)
def f65_10 (F : Nat) : Li → Rz := fun v => f65_2 F (f65_9 F) v
theorem f65_10_eq (F : Nat) : ∀ v,XAf65 F (bp Tryd.f65 3) (ef65j1 v) Kf14 = f65_10 F v :=
 seq_cut (by kernel_rfl) (by kernel_rfl) ef65j1 ef65j2 _ (fun k => f65_2 F k) (f65_9 F)
  (fun Rf65j2 => f65_2_eq F Rf65j2) (f65_9_eq F)
def f65_11 (F : Nat) : Li → Rz := fun v => f65_1 F (f65_10 F) v
theorem f65_11_eq (F : Nat) : ∀ v,XAf65 F (sub (bodyOf Tryd.f65) []) (ef65_a v) Kf14 = f65_11 F v :=
 seq_cut (by kernel_rfl) (by kernel_rfl) ef65_a ef65j1 _ (fun k => f65_1 F k) (f65_10 F)
  (fun Rf65j1 => f65_1_eq F Rf65j1) (f65_10_eq F)
def f65 (F : Nat) : Li → Rz := f65_11 F
theorem f65_body (F : Nat) (a0 : List Int) : abody VG0265 (Af65 F) Tryd.f65 [(.agg 32 (.rI .u8 a0))] [] = f65 F a0 :=
 (abody_in (c := (sub (bodyOf Tryd.f65) [])) (by kernel_rfl) (s := ef65_a a0) (by kernel_rfl)).trans (f65_11_eq F a0)
def r65 : CRun := fun X H => match X,H with
 | [(.agg 32 (.rI .u8 a0))],[] => some (true,.str a0,[])
 | _,_ => none
theorem s65 (a0 : List Int) (h0 : okV (.agg 32 (.rI .u8 a0))) : ∃ F,f65 F a0 = some ((.str a0),[]) := by
 have hl := (okR_rI h0).1
 refine ⟨33,?_⟩
 simp only [f65,f65_11,f65_1,f65_10,f65_2,f65_9,f65_7,f65_3,f65_6,f65_5,f65_5_i]
 refine loopN_from (fun i => ((i : Int),a0,a0.take i)) 32 (by rfl) (fun i hi k => ?_) (fun k => ?_) _ (by omega)
 ·simp only [f65_4,dec_and,List.length_take]
  rw [cond_pos (by omega),cond_pos (by omega),cond_pos (by omega),i64w (x := (i : Int) + 1) (by omega) (by omega),Int.toNat_natCast,List.take_add_one,List.getElem?_eq_getElem (by omega),List.getD_eq_getElem?_getD,List.getElem?_eq_getElem (by omega)]
  rfl
 ·simp only [f65_4]
  rw [cond_neg (by omega),List.take_of_length_le (by omega)]
  rfl
theorem c65 : CallOk Tryd.prog G02 65 r65 := callOk_of (V := VG0265) mixed tys eVG0265 (f := 65) (fn := Tryd.f65) Tryd.func65 (by kernel_rfl) (c := sub (bodyOf Tryd.f65) []) (by kernel_rfl) (by
 intro X H r H' h hX hH
 unfold r65 at h; split at h <;> try contradiction
 ·simp only [Option.some.injEq,Prod.mk.injEq] at h
  obtain ⟨hp,rfl,rfl⟩ := h
  obtain ⟨F,hF⟩ := s65 _ (hX _ (.head _))
  exact ⟨Af65 F,(f65_body F _).trans hF⟩)
def lVG0231 : List CEnt := []
def VG0231 : Env := mkEnv T03 G02 lVG0231
noncomputable abbrev Kf15 := kFin VG0231 none (Tryd.f31).results.toList
theorem eVG0231 : EOk Tryd.prog VG0231 := eok_mk (by exact trivial)
def Af31 (F : Nat) : Cuts := { F := F,at_ := fun n => match n with | 3010 => some sp25 | _ => none,join := fun n => match n with | 1020 => some [(1,.plain)] | 2018 => some [(1,.plain),(3,.plain)] | 3012 => some sp26 | 6003 => some [(3,.plain)] | _ => none }
noncomputable abbrev XAf31 (F : Nat) {α : Type} := @aexec α VG0231 (Af31 F)
def ef31_a : Li → St := fun a0 => ⟨[(0,(.agg 16 (.rI .u8 a0)))],[],0,17,0⟩
def ef31j1 : Li → St := fun x1 => ⟨[(1,.ptr 0 0 16 0 0 0 16)],[(0,(.cells 16 (.rI .u8 x1) true))],1,17,0⟩
def ef31j2 : Li → St := fun x1 => ⟨[(1,.ptr 0 0 16 0 0 0 16),(3,.ns)],[(0,(.cells 16 (.rI .u8 x1) true))],1,17,0⟩
def ef31j3 : Int × Li → St := fun (t4,x2) => ⟨[(1,.ptr 0 0 16 0 0 0 16),(3,.ns),(4,.int .i64 t4)],[(0,(.cells 16 (.rI .u8 x2) true))],1,17,0⟩
def ef31l1 : Ty19 → St := fun (t4,x2,x3) => ⟨[(1,.ptr 0 0 16 0 0 0 16),(3,.own 1 0 1),(4,.int .i64 t4)],[(0,(.cells 16 (.rI .u8 x2) true)),(1,(.cells x3.length (.rI .u8 x3) true))],2,17,0⟩
def ef31j4 : Li → St := ef65j4
def f31_1 (F : Nat) (kf31j1 : Li → Rz) : Li → Rz := fun a0 => (kf31j1 a0)
theorem f31_1_eq (F : Nat) (Rf31j1 : St → Rz) : ∀ v,XAf31 F (bp Tryd.f31 2) (ef31_a v) (kSeq (kc VG0231 Rf31j1 [(1,.plain)]) Kf15) = f31_1 F (Rf31j1 ∘ ef31j1) v := by
 intro a0; kernel_rfl
def f31_2 (F : Nat) (kf31j2 : Li → Rz) : Li → Rz := fun x1 => (kf31j2 x1)
theorem f31_2_eq (F : Nat) (Rf31j2 : St → Rz) : ∀ v,XAf31 F (bp Tryd.f31 6) (ef31j1 v) (kSeq (kc VG0231 Rf31j2 [(1,.plain),(3,.plain)]) Kf15) = f31_2 F (Rf31j2 ∘ ef31j2) v := by
 intro x1; kernel_rfl
def f31_3 (F : Nat) (kf31j3 : Int × Li → Rz) (kf31j4 : Li → Rz) : Li → Rz := fun x1 => (kf31j3 ((0 : Int),x1))
theorem f31_3_eq (F : Nat) (Rf31j3 : St → Rz) (Rf31j4 : St → Rz) : ∀ v,XAf31 F (bp Tryd.f31 28) (ef31j2 v) (kSeq (kc VG0231 Rf31j3 sp26) (kSeq (kc VG0231 Rf31j4 [(3,.plain)]) Kf15)) = f31_3 F (Rf31j3 ∘ ef31j3) (Rf31j4 ∘ ef31j4) v := by
 intro x1; kernel_rfl
def f31_4 (F : Nat) (kf31l1 : Ty19 → Rz) (kf31j4 : Li → Rz) : Ty19 → Rz := fun (t4,x2,x3) => (cond (decide (t4 < (16 : Int))) (cond ((decide (0 ≤ t4)) && (decide (t4 < (16 : Int)))) (cond (decide ((x3.length + 1) < 1073741824)) (kf31l1 ((IntKind.i64.wrap (t4 + (1 : Int))),x2,(x3 ++ [(x2.getD (Int.toNat t4) 0)]))) none) none) (kf31j4 x3))
theorem f31_4_eq (F : Nat) (Rf31l1 : St → Rz) (Rf31j4 : St → Rz) : ∀ v,XAf31 F (bp Tryd.f31 116) (ef31l1 v) (kSeq (kc VG0231 Rf31l1 sp25) (kBlock 0 (kSeq (kc VG0231 Rf31j4 [(3,.plain)]) Kf15))) = f31_4 F (Rf31l1 ∘ ef31l1) (Rf31j4 ∘ ef31j4) v := by
 rintro ⟨t4,x2,x3⟩; kernel_rfl
def f31_5_i : Int × Li → Int × Li × Li := fun (t4,x2) => (t4,x2,[])
def f31_5 (F : Nat) (kf31j4 : Li → Rz) : Int × Li → Rz := fun v => loopN (fun k => f31_4 F k kf31j4) F (f31_5_i v)
theorem f31_5_eq (F : Nat) (Rf31j4 : St → Rz) : ∀ v,XAf31 F (bp Tryd.f31 58) (ef31j3 v) (kBlock 0 (kSeq (kc VG0231 Rf31j4 [(3,.plain)]) Kf15)) = f31_5 F (Rf31j4 ∘ ef31j4) v :=
 loop_cut (by kernel_rfl) (by kernel_rfl) ef31j3 ef31l1 _ f31_5_i (fun k => f31_4 F k (Rf31j4 ∘ ef31j4))
  (by rintro ⟨t4,x2⟩; kernel_rfl) (fun Rf31l1 => f31_4_eq F Rf31l1 Rf31j4)
def f31_6 (F : Nat) (kf31j4 : Li → Rz) : Int × Li → Rz := f31_5 F kf31j4
theorem f31_6_eq (F : Nat) (Rf31j4 : St → Rz) : ∀ v,XAf31 F (bp Tryd.f31 29) (ef31j3 v) (kSeq (kc VG0231 Rf31j4 [(3,.plain)]) Kf15) = f31_6 F (Rf31j4 ∘ ef31j4) v := fun v =>
 (block_in  (by kernel_rfl) _ _).trans (f31_5_eq F Rf31j4 v)
def f31_7 (F : Nat) (kf31j4 : Li → Rz) : Li → Rz := fun v => f31_3 F (f31_6 F kf31j4) kf31j4 v
theorem f31_7_eq (F : Nat) (Rf31j4 : St → Rz) : ∀ v,XAf31 F (bp Tryd.f31 14) (ef31j2 v) (kSeq (kc VG0231 Rf31j4 [(3,.plain)]) Kf15) = f31_7 F (Rf31j4 ∘ ef31j4) v :=
 seq_cut (by kernel_rfl) (by kernel_rfl) ef31j2 ef31j3 _ (fun k => f31_3 F k (Rf31j4 ∘ ef31j4)) (f31_6 F (Rf31j4 ∘ ef31j4))
  (fun Rf31j3 => f31_3_eq F Rf31j3 Rf31j4) (f31_6_eq F Rf31j4)
def f31_8 (F : Nat) : Li → Rz := fun x1 => (some ((.str x1),[]))
theorem f31_8_eq (F : Nat) : ∀ v,XAf31 F (bp Tryd.f31 15) (ef31j4 v) Kf15 = f31_8 F v := by
 intro x1; kernel_rfl
def f31_9 (F : Nat) : Li → Rz := fun v => f31_7 F (f31_8 F) v
theorem f31_9_eq (F : Nat) : ∀ v,XAf31 F (bp Tryd.f31 7) (ef31j2 v) Kf15 = f31_9 F v :=
 seq_cut (by kernel_rfl) (by kernel_rfl) ef31j2 ef31j4 _ (fun k => f31_7 F k) (f31_8 F)
  (fun Rf31j4 => f31_7_eq F Rf31j4) (f31_8_eq F)
def f31_10 (F : Nat) : Li → Rz := fun v => f31_2 F (f31_9 F) v
theorem f31_10_eq (F : Nat) : ∀ v,XAf31 F (bp Tryd.f31 3) (ef31j1 v) Kf15 = f31_10 F v :=
 seq_cut (by kernel_rfl) (by kernel_rfl) ef31j1 ef31j2 _ (fun k => f31_2 F k) (f31_9 F)
  (fun Rf31j2 => f31_2_eq F Rf31j2) (f31_9_eq F)
def f31_11 (F : Nat) : Li → Rz := fun v => f31_1 F (f31_10 F) v
theorem f31_11_eq (F : Nat) : ∀ v,XAf31 F (sub (bodyOf Tryd.f31) []) (ef31_a v) Kf15 = f31_11 F v :=
 seq_cut (by kernel_rfl) (by kernel_rfl) ef31_a ef31j1 _ (fun k => f31_1 F k) (f31_10 F)
  (fun Rf31j1 => f31_1_eq F Rf31j1) (f31_10_eq F)
def f31 (F : Nat) : Li → Rz := f31_11 F
theorem f31_body (F : Nat) (a0 : List Int) : abody VG0231 (Af31 F) Tryd.f31 [(.agg 16 (.rI .u8 a0))] [] = f31 F a0 :=
 (abody_in (c := (sub (bodyOf Tryd.f31) [])) (by kernel_rfl) (s := ef31_a a0) (by kernel_rfl)).trans (f31_11_eq F a0)
def r31 : CRun := fun X H => match X,H with
 | [(.agg 16 (.rI .u8 a0))],[] => some (true,.str a0,[])
 | _,_ => none
theorem s31 (a0 : List Int) (h0 : okV (.agg 16 (.rI .u8 a0))) : ∃ F,f31 F a0 = some ((.str a0),[]) := by
 have hl := (okR_rI h0).1
 refine ⟨33,?_⟩
 simp only [f31,f31_11,f31_1,f31_10,f31_2,f31_9,f31_7,f31_3,f31_6,f31_5,f31_5_i]
 refine loopN_from (fun i => ((i : Int),a0,a0.take i)) 16 (by rfl) (fun i hi k => ?_) (fun k => ?_) _ (by omega)
 ·simp only [f31_4,dec_and,List.length_take]
  rw [cond_pos (by omega),cond_pos (by omega),cond_pos (by omega),i64w (x := (i : Int) + 1) (by omega) (by omega),Int.toNat_natCast,List.take_add_one,List.getElem?_eq_getElem (by omega),List.getD_eq_getElem?_getD,List.getElem?_eq_getElem (by omega)]
  rfl
 ·simp only [f31_4]
  rw [cond_neg (by omega),List.take_of_length_le (by omega)]
  rfl
theorem c31 : CallOk Tryd.prog G02 31 r31 := callOk_of (V := VG0231) mixed tys eVG0231 (f := 31) (fn := Tryd.f31) Tryd.func31 (by kernel_rfl) (c := sub (bodyOf Tryd.f31) []) (by kernel_rfl) (by
 intro X H r H' h hX hH
 unfold r31 at h; split at h <;> try contradiction
 ·simp only [Option.some.injEq,Prod.mk.injEq] at h
  obtain ⟨hp,rfl,rfl⟩ := h
  obtain ⟨F,hF⟩ := s31 _ (hX _ (.head _))
  exact ⟨Af31 F,(f31_body F _).trans hF⟩)
end Go.Am
end
section
namespace Go.Am
open Go Go.Proofs
abbrev sp27 : List (Nat × Md) := [(3,.plain),(9,.plain),(10,.plain),(11,.plain)]
abbrev sp28 : List (Nat × Md) := [(5,.plain),(6,.plain),(7,.plain),(46,.plain),(47,.plain),(48,.plain)]
abbrev sp29 : List (Nat × Md) := [(0,.plain),(5,.plain),(6,.plain)]
abbrev sp30 : List (Nat × Md) := [(0,.plain),(5,.plain),(6,.plain),(7,.plain)]
abbrev sp31 : List (Nat × Md) := [(5,.plain),(6,.plain),(7,.plain)]
abbrev sp32 : List (Nat × Md) := [(0,.plain),(1,.plain),(5,.plain)]
abbrev Ty25 := Li × Int × Int × Li
abbrev Ty26 := Li × Int × Int × Int
abbrev Ty27 := Int × Int × Int × Li × Int × Int
def lVG0260 : List CEnt := [(26,[none],r26)]
def VG0260 : Env := mkEnv T03 G02 lVG0260
noncomputable abbrev Kf16 := kFin VG0260 none (Tryd.f60).results.toList
theorem eVG0260 : EOk Tryd.prog VG0260 := eok_mk (by exact ⟨c26,trivial⟩)
def Af60 (F : Nat) : Cuts := { F := F,at_ := fun n => match n with | 3012 => some sp27 | _ => none,join := fun n => match n with | 1022 => some [(0,.plain)] | 2020 => some [(0,.plain),(3,.plain)] | 3014 => some sp27 | 7003 => some [(3,.plain)] | _ => none }
noncomputable abbrev XAf60 (F : Nat) {α : Type} := @aexec α VG0260 (Af60 F)
def ef60_a : Li → St := fun a0 => ⟨[(0,(.vs (.rI .i64 a0) 0 1))],[],0,21,0⟩
def ef60j1 : Li → St := fun t0 => ⟨[(0,(.vs (.rI .i64 t0) 0 1))],[],0,21,0⟩
def ef60j2 : Li × Li → St := fun (t0,x2) => ⟨[(0,(.vs (.rI .i64 t0) 0 1)),(3,.own 0 0 1)],[(0,(.cells x2.length (.rI .u8 x2) true))],1,21,0⟩
def ef60j3 : Ty25 → St := fun (t9,t10,t11,x4) => ⟨[(3,.own 0 0 1),(9,(.vs (.rI .i64 t9) 0 1)),(10,.int .i64 t10),(11,.int .i64 t11)],[(0,(.cells x4.length (.rI .u8 x4) true))],1,21,0⟩
def ef60l1 : Ty25 → St := ef60j3
def ef60j4 : Li → St := fun x1 => ⟨[(3,.own 0 0 1)],[(0,(.cells x1.length (.rI .u8 x1) true))],1,21,0⟩
def f60_1 (F : Nat) (kf60j1 : Li → Rz) : Li → Rz := fun a0 => (kf60j1 a0)
theorem f60_1_eq (F : Nat) (Rf60j1 : St → Rz) : ∀ v,XAf60 F (bp Tryd.f60 2) (ef60_a v) (kSeq (kc VG0260 Rf60j1 [(0,.plain)]) Kf16) = f60_1 F (Rf60j1 ∘ ef60j1) v := by
 intro a0; kernel_rfl
def f60_2 (F : Nat) (kf60j2 : Li × Li → Rz) : Li → Rz := fun t0 => (kf60j2 (t0,(Wire.int (↑t0.length : Int))))
theorem f60_2_eq (F : Nat) (Rf60j2 : St → Rz) : ∀ v,XAf60 F (bp Tryd.f60 6) (ef60j1 v) (kSeq (kc VG0260 Rf60j2 [(0,.plain),(3,.plain)]) Kf16) = f60_2 F (Rf60j2 ∘ ef60j2) v := by
 intro t0; kernel_rfl
def f60_3 (F : Nat) (kf60j3 : Ty25 → Rz) (kf60j4 : Li → Rz) : Li × Li → Rz := fun (t0,x2) => (kf60j3 (t0,(↑t0.length : Int),(0 : Int),x2))
theorem f60_3_eq (F : Nat) (Rf60j3 : St → Rz) (Rf60j4 : St → Rz) : ∀ v,XAf60 F (bp Tryd.f60 28) (ef60j2 v) (kSeq (kc VG0260 Rf60j3 sp27) (kSeq (kc VG0260 Rf60j4 [(3,.plain)]) Kf16)) = f60_3 F (Rf60j3 ∘ ef60j3) (Rf60j4 ∘ ef60j4) v := by
 rintro ⟨t0,x2⟩; kernel_rfl
def f60_4 (F : Nat) (kf60l1 : Ty25 → Rz) (kf60j4 : Li → Rz) : Ty25 → Rz := fun (t9,t10,t11,x4) => (cond (decide (t11 < t10)) (cond ((decide (0 ≤ t11)) && (decide (t11 < (↑t9.length : Int)))) (cond (decide ((x4.length + (Wire.int (t9.getD (Int.toNat t11) 0)).length) < 1073741824)) (kf60l1 (t9,t10,(IntKind.i64.wrap (t11 + (1 : Int))),(x4 ++ (Wire.int (t9.getD (Int.toNat t11) 0))))) none) none) (kf60j4 x4))
theorem f60_4_eq (F : Nat) (Rf60l1 : St → Rz) (Rf60j4 : St → Rz) : ∀ v,XAf60 F (bp Tryd.f60 116) (ef60l1 v) (kSeq (kc VG0260 Rf60l1 sp27) (kBlock 0 (kSeq (kc VG0260 Rf60j4 [(3,.plain)]) Kf16))) = f60_4 F (Rf60l1 ∘ ef60l1) (Rf60j4 ∘ ef60j4) v := by
 rintro ⟨t9,t10,t11,x4⟩; kernel_rfl
def f60_5_i : Ty25 → Li × Int × Int × Li := fun (t9,t10,t11,x4) => (t9,t10,t11,x4)
def f60_5 (F : Nat) (kf60j4 : Li → Rz) : Ty25 → Rz := fun v => loopN (fun k => f60_4 F k kf60j4) F (f60_5_i v)
theorem f60_5_eq (F : Nat) (Rf60j4 : St → Rz) : ∀ v,XAf60 F (bp Tryd.f60 58) (ef60j3 v) (kBlock 0 (kSeq (kc VG0260 Rf60j4 [(3,.plain)]) Kf16)) = f60_5 F (Rf60j4 ∘ ef60j4) v :=
 loop_cut (by kernel_rfl) (by kernel_rfl) ef60j3 ef60l1 _ f60_5_i (fun k => f60_4 F k (Rf60j4 ∘ ef60j4))
  (by rintro ⟨t9,t10,t11,x4⟩; kernel_rfl) (fun Rf60l1 => f60_4_eq F Rf60l1 Rf60j4)
def f60_6 (F : Nat) (kf60j4 : Li → Rz) : Ty25 → Rz := f60_5 F kf60j4
theorem f60_6_eq (F : Nat) (Rf60j4 : St → Rz) : ∀ v,XAf60 F (bp Tryd.f60 29) (ef60j3 v) (kSeq (kc VG0260 Rf60j4 [(3,.plain)]) Kf16) = f60_6 F (Rf60j4 ∘ ef60j4) v := fun v =>
 (block_in  (by kernel_rfl) _ _).trans (f60_5_eq F Rf60j4 v)
def f60_7 (F : Nat) (kf60j4 : Li → Rz) : Li × Li → Rz := fun v => f60_3 F (f60_6 F kf60j4) kf60j4 v
theorem f60_7_eq (F : Nat) (Rf60j4 : St → Rz) : ∀ v,XAf60 F (bp Tryd.f60 14) (ef60j2 v) (kSeq (kc VG0260 Rf60j4 [(3,.plain)]) Kf16) = f60_7 F (Rf60j4 ∘ ef60j4) v :=
 seq_cut (by kernel_rfl) (by kernel_rfl) ef60j2 ef60j3 _ (fun k => f60_3 F k (Rf60j4 ∘ ef60j4)) (f60_6 F (Rf60j4 ∘ ef60j4))
  (fun Rf60j3 => f60_3_eq F Rf60j3 Rf60j4) (f60_6_eq F Rf60j4)
def f60_8 (F : Nat) : Li → Rz := fun x1 => (some ((.own 0 0 1),[(.cells x1.length (.rI .u8 x1) true)]))
theorem f60_8_eq (F : Nat) : ∀ v,XAf60 F (bp Tryd.f60 15) (ef60j4 v) Kf16 = f60_8 F v := by
 intro x1; kernel_rfl
def f60_9 (F : Nat) : Li × Li → Rz := fun v => f60_7 F (f60_8 F) v
theorem f60_9_eq (F : Nat) : ∀ v,XAf60 F (bp Tryd.f60 7) (ef60j2 v) Kf16 = f60_9 F v :=
 seq_cut (by kernel_rfl) (by kernel_rfl) ef60j2 ef60j4 _ (fun k => f60_7 F k) (f60_8 F)
  (fun Rf60j4 => f60_7_eq F Rf60j4) (f60_8_eq F)
def f60_10 (F : Nat) : Li → Rz := fun v => f60_2 F (f60_9 F) v
theorem f60_10_eq (F : Nat) : ∀ v,XAf60 F (bp Tryd.f60 3) (ef60j1 v) Kf16 = f60_10 F v :=
 seq_cut (by kernel_rfl) (by kernel_rfl) ef60j1 ef60j2 _ (fun k => f60_2 F k) (f60_9 F)
  (fun Rf60j2 => f60_2_eq F Rf60j2) (f60_9_eq F)
def f60_11 (F : Nat) : Li → Rz := fun v => f60_1 F (f60_10 F) v
theorem f60_11_eq (F : Nat) : ∀ v,XAf60 F (sub (bodyOf Tryd.f60) []) (ef60_a v) Kf16 = f60_11 F v :=
 seq_cut (by kernel_rfl) (by kernel_rfl) ef60_a ef60j1 _ (fun k => f60_1 F k) (f60_10 F)
  (fun Rf60j1 => f60_1_eq F Rf60j1) (f60_10_eq F)
def f60 (F : Nat) : Li → Rz := f60_11 F
theorem f60_body (F : Nat) (a0 : List Int) : abody VG0260 (Af60 F) Tryd.f60 [(.vs (.rI .i64 a0) 0 1)] [] = f60 F a0 :=
 (abody_in (c := (sub (bodyOf Tryd.f60) [])) (by kernel_rfl) (s := ef60_a a0) (by kernel_rfl)).trans (f60_11_eq F a0)
def r60 : CRun := fun X H => match X,H with
 | [(.vs (.rI .i64 a0) 0 1)],[] => some ((decide ((Wire.ints a0).length < 1073741000)),.own 0 0 1,[(.cells (Wire.ints a0).length (.rI .u8 (Wire.ints a0)) true)])
 | _,_ => none
theorem s60 (a0 : List Int) (hp : ((decide ((Wire.ints a0).length < 1073741000))) = true) (h0 : okV (.vs (.rI .i64 a0) 0 1)) : ∃ F,f60 F a0 = some ((.own 0 0 1),[(.cells (Wire.ints a0).length (.rI .u8 (Wire.ints a0)) true)]) := by
 have hl : (Wire.ints a0).length < 1073741000 := of_decide_eq_true hp
 have hl0 := h0.2
 refine ⟨a0.length + 1,?_⟩
 simp only [f60,f60_11,f60_1,f60_10,f60_2,f60_9,f60_7,f60_3,f60_6,f60_5,f60_5_i]
 refine loopN_from (fun i => (a0,(a0.length : Int),(i : Int),Wire.int (a0.length : Int) ++ (a0.take i).flatMap Wire.int)) a0.length (by simp) (fun i hi k => ?_) (fun k => ?_) _ (by omega)
 ·have e1 := flatMap_take 0 Wire.int a0 i hi
  have e2 := flatMap_le Wire.int a0 (i + 1)
  rw [e1,List.length_append] at e2
  simp only [Wire.ints,List.length_append] at hl
  simp only [f60_4,dec_and,List.length_append]
  rw [Int.toNat_natCast,cond_pos (by omega),cond_pos (by omega),cond_pos (by omega),i64w (x := (i : Int) + 1) (by omega) (by omega),List.append_assoc,← e1]
  rfl
 ·simp only [f60_4]
  rw [cond_neg (by omega),List.take_length]
  rfl
theorem c60 : CallOk Tryd.prog G02 60 r60 := callOk_of (V := VG0260) mixed tys eVG0260 (f := 60) (fn := Tryd.f60) Tryd.func60 (by kernel_rfl) (c := sub (bodyOf Tryd.f60) []) (by kernel_rfl) (by
 intro X H r H' h hX hH
 unfold r60 at h; split at h <;> try contradiction
 ·simp only [Option.some.injEq,Prod.mk.injEq] at h
  obtain ⟨hp,rfl,rfl⟩ := h
  obtain ⟨F,hF⟩ := s60 _ hp (hX _ (.head _))
  exact ⟨Af60 F,(f60_body F _).trans hF⟩)
def lVG0236 : List CEnt := []
def VG0236 : Env := mkEnv T03 G02 lVG0236
noncomputable abbrev Kf17 := kFin VG0236 none (Tryd.f36).results.toList
theorem eVG0236 : EOk Tryd.prog VG0236 := eok_mk (by exact trivial)
def Af36 (F : Nat) : Cuts := { F := F,at_ := fun n => match n with | 15012 => some sp28 | _ => none,join := fun n => match n with | 1075 => some [(0,.plain)] | 3067 => some [(0,.plain)] | 4065 => some [(0,.plain),(5,.plain)] | 6059 => some [(0,.plain),(5,.plain)] | 7057 => some sp29 | 13036 => some sp29 | 14034 => some sp30 | 15014 => some sp28 | 19017 => some sp31 | _ => none }
noncomputable abbrev XAf36 (F : Nat) {α : Type} := @aexec α VG0236 (Af36 F)
def ef36_a : Li → St := fun a0 => ⟨[(0,(.vs (.rI .u8 a0) 0 1))],[],0,71,0⟩
def ef36j1 : Li → St := fun t0 => ⟨[(0,(.vs (.rI .u8 t0) 0 1))],[],0,71,0⟩
def ef36j2 : Li → St := ef36j1
def ef36j3 : Li × Int → St := fun (t0,t5) => ⟨[(0,(.vs (.rI .u8 t0) 0 1)),(5,.int .u8 t5)],[],0,71,0⟩
def ef36j4 : Li × Int → St := ef36j3
def ef36j5 : Li × Int × Int → St := fun (t0,t5,t6) => ⟨[(0,(.vs (.rI .u8 t0) 0 1)),(5,.int .u8 t5),(6,.int .i64 t6)],[],0,71,0⟩
def ef36j6 : Li × Int × Int → St := ef36j5
def ef36j7 : Ty26 → St := fun (t0,t5,t6,t7) => ⟨[(0,(.vs (.rI .u8 t0) 0 1)),(5,.int .u8 t5),(6,.int .i64 t6),(7,.int .u64 t7)],[],0,71,0⟩
def ef36j8 : Ty27 → St := fun (t5,t6,t7,t46,t47,t48) => ⟨[(5,.int .u8 t5),(6,.int .i64 t6),(7,.int .u64 t7),(46,(.vs (.rI .u8 t46) 0 1)),(47,.int .i64 t47),(48,.int .i64 t48)],[],0,71,0⟩
def ef36l1 : Ty27 → St := ef36j8
def ef36j9 : Int × Int × Int → St := fun (t5,t6,t7) => ⟨[(5,.int .u8 t5),(6,.int .i64 t6),(7,.int .u64 t7)],[],0,71,0⟩
def f36_1 (F : Nat) (kf36j1 : Li → Rz) : Li → Rz := fun a0 => (kf36j1 a0)
theorem f36_1_eq (F : Nat) (Rf36j1 : St → Rz) : ∀ v,XAf36 F (bp Tryd.f36 2) (ef36_a v) (kSeq (kc VG0236 Rf36j1 [(0,.plain)]) Kf17) = f36_1 F (Rf36j1 ∘ ef36j1) v := by
 intro a0; kernel_rfl
def f36_2 (F : Nat) (kf36j2 : Li → Rz) : Li → Rz := fun t0 => (cond ((↑t0.length : Int) == (0 : Int)) (some ((.tup (.cons 0 (.int .i64 0) (.cons 0 (.int .i64 0) (.cons 0 (.int .i64 3) .nil)))),[])) (kf36j2 t0))
theorem f36_2_eq (F : Nat) (Rf36j2 : St → Rz) : ∀ v,XAf36 F (bp Tryd.f36 6) (ef36j1 v) (kSeq (kc VG0236 Rf36j2 [(0,.plain)]) Kf17) = f36_2 F (Rf36j2 ∘ ef36j2) v := by
 intro t0; kernel_rfl
def f36_3 (F : Nat) (kf36j3 : Li × Int → Rz) : Li → Rz := fun t0 => (kf36j3 (t0,(0 : Int)))
theorem f36_3_eq (F : Nat) (Rf36j3 : St → Rz) : ∀ v,XAf36 F (bp Tryd.f36 14) (ef36j2 v) (kSeq (kc VG0236 Rf36j3 [(0,.plain),(5,.plain)]) Kf17) = f36_3 F (Rf36j3 ∘ ef36j3) v := by
 intro t0; kernel_rfl
def f36_4 (F : Nat) (kf36j4 : Li × Int → Rz) : Li × Int → Rz := fun (t0,t5) => (cond (decide ((0 : Int) < (↑t0.length : Int))) (cond (decide ((t0.getD 0 0) < (128 : Int))) (kf36j4 (t0,(255 : Int))) (kf36j4 (t0,t5))) none)
theorem f36_4_eq (F : Nat) (Rf36j4 : St → Rz) : ∀ v,XAf36 F (bp Tryd.f36 30) (ef36j3 v) (kSeq (kc VG0236 Rf36j4 [(0,.plain),(5,.plain)]) Kf17) = f36_4 F (Rf36j4 ∘ ef36j4) v := by
 rintro ⟨t0,t5⟩; kernel_rfl
def f36_5 (F : Nat) (kf36j5 : Li × Int × Int → Rz) : Li × Int → Rz := fun (t0,t5) => (cond (decide ((0 : Int) < (↑t0.length : Int))) (kf36j5 (t0,t5,(IntKind.i64.wrap ((IntKind.i64.wrap (ibits .xor .u8 (t0.getD 0 0) t5)) - (128 : Int))))) none)
theorem f36_5_eq (F : Nat) (Rf36j5 : St → Rz) : ∀ v,XAf36 F (bp Tryd.f36 62) (ef36j4 v) (kSeq (kc VG0236 Rf36j5 sp29) Kf17) = f36_5 F (Rf36j5 ∘ ef36j5) v := by
 rintro ⟨t0,t5⟩; kernel_rfl
def f36_6 (F : Nat) (kf36j6 : Li × Int × Int → Rz) : Li × Int × Int → Rz := fun (t0,t5,t6) => (cond (decide (t6 > (8 : Int))) (some ((.tup (.cons 0 (.int .i64 0) (.cons 0 (.int .i64 0) (.cons 0 (.int .i64 2) .nil)))),[])) (cond (decide ((↑t0.length : Int) ≤ t6)) (some ((.tup (.cons 0 (.int .i64 0) (.cons 0 (.int .i64 0) (.cons 0 (.int .i64 3) .nil)))),[])) (cond (decide (t6 > (0 : Int))) (cond (decide ((1 : Int) < (↑t0.length : Int))) (cond ((ibits .xor .u8 (t0.getD 1 0) t5) == (0 : Int)) (some ((.tup (.cons 0 (.int .i64 0) (.cons 0 (.int .i64 0) (.cons 0 (.int .i64 2) .nil)))),[])) (kf36j6 (t0,t5,t6))) none) (kf36j6 (t0,t5,t6)))))
theorem f36_6_eq (F : Nat) (Rf36j6 : St → Rz) : ∀ v,XAf36 F (bp Tryd.f36 126) (ef36j5 v) (kSeq (kc VG0236 Rf36j6 sp29) Kf17) = f36_6 F (Rf36j6 ∘ ef36j6) v := by
 rintro ⟨t0,t5,t6⟩; kernel_rfl
def f36_7 (F : Nat) (kf36j7 : Ty26 → Rz) : Li × Int × Int → Rz := fun (t0,t5,t6) => (kf36j7 (t0,t5,t6,(0 : Int)))
theorem f36_7_eq (F : Nat) (Rf36j7 : St → Rz) : ∀ v,XAf36 F (bp Tryd.f36 254) (ef36j6 v) (kSeq (kc VG0236 Rf36j7 sp30) Kf17) = f36_7 F (Rf36j7 ∘ ef36j7) v := by
 rintro ⟨t0,t5,t6⟩; kernel_rfl
def f36_8 (F : Nat) (kf36j8 : Ty27 → Rz) (kf36j9 : Int × Int × Int → Rz) : Ty26 → Rz := fun (t0,t5,t6,t7) => (cond ((decide ((1 : Int) ≤ (IntKind.i64.wrap (t6 + (1 : Int))))) && (decide ((IntKind.i64.wrap (t6 + (1 : Int))) ≤ (↑t0.length : Int)))) (kf36j8 (t5,t6,t7,((t0.drop 1).take ((Int.toNat (IntKind.i64.wrap (t6 + (1 : Int)))) - 1)),(↑((t0.drop 1).take ((Int.toNat (IntKind.i64.wrap (t6 + (1 : Int)))) - 1)).length : Int),(0 : Int))) none)
theorem f36_8_eq (F : Nat) (Rf36j8 : St → Rz) (Rf36j9 : St → Rz) : ∀ v,XAf36 F (bp Tryd.f36 1020) (ef36j7 v) (kSeq (kc VG0236 Rf36j8 sp28) (kSeq (kc VG0236 Rf36j9 sp31) Kf17)) = f36_8 F (Rf36j8 ∘ ef36j8) (Rf36j9 ∘ ef36j9) v := by
 rintro ⟨t0,t5,t6,t7⟩; kernel_rfl
def f36_9 (F : Nat) (kf36l1 : Ty27 → Rz) (kf36j9 : Int × Int × Int → Rz) : Ty27 → Rz := fun (t5,t6,t7,t46,t47,t48) => (cond (decide (t48 < t47)) (cond ((decide (0 ≤ t48)) && (decide (t48 < (↑t46.length : Int)))) (kf36l1 (t5,t6,(ibits .or .u64 (IntKind.u64.wrap (t7 * 2 ^ 8)) (IntKind.u64.wrap (ibits .xor .u8 (t46.getD (Int.toNat t48) 0) t5))),t46,t47,(IntKind.i64.wrap (t48 + (1 : Int))))) none) (kf36j9 (t5,t6,t7)))
theorem f36_9_eq (F : Nat) (Rf36l1 : St → Rz) (Rf36j9 : St → Rz) : ∀ v,XAf36 F (bp Tryd.f36 4084) (ef36l1 v) (kSeq (kc VG0236 Rf36l1 sp28) (kBlock 1 (kSeq (kc VG0236 Rf36j9 sp31) Kf17))) = f36_9 F (Rf36l1 ∘ ef36l1) (Rf36j9 ∘ ef36j9) v := by
 rintro ⟨t5,t6,t7,t46,t47,t48⟩; kernel_rfl
def f36_10_i : Ty27 → Int × Int × Int × Li × Int × Int := fun (t5,t6,t7,t46,t47,t48) => (t5,t6,t7,t46,t47,t48)
def f36_10 (F : Nat) (kf36j9 : Int × Int × Int → Rz) : Ty27 → Rz := fun v => loopN (fun k => f36_9 F k kf36j9) F (f36_10_i v)
theorem f36_10_eq (F : Nat) (Rf36j9 : St → Rz) : ∀ v,XAf36 F (bp Tryd.f36 2042) (ef36j8 v) (kBlock 1 (kSeq (kc VG0236 Rf36j9 sp31) Kf17)) = f36_10 F (Rf36j9 ∘ ef36j9) v :=
 loop_cut (by kernel_rfl) (by kernel_rfl) ef36j8 ef36l1 _ f36_10_i (fun k => f36_9 F k (Rf36j9 ∘ ef36j9))
  (by rintro ⟨t5,t6,t7,t46,t47,t48⟩; kernel_rfl) (fun Rf36l1 => f36_9_eq F Rf36l1 Rf36j9)
def f36_11 (F : Nat) (kf36j9 : Int × Int × Int → Rz) : Ty27 → Rz := f36_10 F kf36j9
theorem f36_11_eq (F : Nat) (Rf36j9 : St → Rz) : ∀ v,XAf36 F (bp Tryd.f36 1021) (ef36j8 v) (kSeq (kc VG0236 Rf36j9 sp31) Kf17) = f36_11 F (Rf36j9 ∘ ef36j9) v := fun v =>
 (block_in  (by kernel_rfl) _ _).trans (f36_10_eq F Rf36j9 v)
def f36_12 (F : Nat) (kf36j9 : Int × Int × Int → Rz) : Ty26 → Rz := fun v => f36_8 F (f36_11 F kf36j9) kf36j9 v
theorem f36_12_eq (F : Nat) (Rf36j9 : St → Rz) : ∀ v,XAf36 F (bp Tryd.f36 510) (ef36j7 v) (kSeq (kc VG0236 Rf36j9 sp31) Kf17) = f36_12 F (Rf36j9 ∘ ef36j9) v :=
 seq_cut (by kernel_rfl) (by kernel_rfl) ef36j7 ef36j8 _ (fun k => f36_8 F k (Rf36j9 ∘ ef36j9)) (f36_11 F (Rf36j9 ∘ ef36j9))
  (fun Rf36j8 => f36_8_eq F Rf36j8 Rf36j9) (f36_11_eq F Rf36j9)
def f36_13 (F : Nat) : Int × Int × Int → Rz := fun (t5,t6,t7) => (cond (decide ((Int.fdiv t7 (2 ^ 63)) > (0 : Int))) (some ((.tup (.cons 0 (.int .i64 0) (.cons 0 (.int .i64 0) (.cons 0 (.int .i64 2) .nil)))),[])) (cond (decide (t5 > (0 : Int))) (some ((.tup (.cons 0 (.int .i64 (IntKind.i64.wrap (ibits .xor .u64 (18446744073709551615 : Int) t7))) (.cons 0 (.int .i64 (IntKind.i64.wrap (t6 + (1 : Int)))) (.cons 0 (.int .i64 0) .nil)))),[])) (some ((.tup (.cons 0 (.int .i64 (IntKind.i64.wrap t7)) (.cons 0 (.int .i64 (IntKind.i64.wrap (t6 + (1 : Int)))) (.cons 0 (.int .i64 0) .nil)))),[]))))
theorem f36_13_eq (F : Nat) : ∀ v,XAf36 F (bp Tryd.f36 511) (ef36j9 v) Kf17 = f36_13 F v := by
 rintro ⟨t5,t6,t7⟩; kernel_rfl
def f36_14 (F : Nat) : Ty26 → Rz := fun v => f36_12 F (f36_13 F) v
theorem f36_14_eq (F : Nat) : ∀ v,XAf36 F (bp Tryd.f36 255) (ef36j7 v) Kf17 = f36_14 F v :=
 seq_cut (by kernel_rfl) (by kernel_rfl) ef36j7 ef36j9 _ (fun k => f36_12 F k) (f36_13 F)
  (fun Rf36j9 => f36_12_eq F Rf36j9) (f36_13_eq F)
def f36_15 (F : Nat) : Li × Int × Int → Rz := fun v => f36_7 F (f36_14 F) v
theorem f36_15_eq (F : Nat) : ∀ v,XAf36 F (bp Tryd.f36 127) (ef36j6 v) Kf17 = f36_15 F v :=
 seq_cut (by kernel_rfl) (by kernel_rfl) ef36j6 ef36j7 _ (fun k => f36_7 F k) (f36_14 F)
  (fun Rf36j7 => f36_7_eq F Rf36j7) (f36_14_eq F)
def f36_16 (F : Nat) : Li × Int × Int → Rz := fun v => f36_6 F (f36_15 F) v
theorem f36_16_eq (F : Nat) : ∀ v,XAf36 F (bp Tryd.f36 63) (ef36j5 v) Kf17 = f36_16 F v :=
 seq_cut (by kernel_rfl) (by kernel_rfl) ef36j5 ef36j6 _ (fun k => f36_6 F k) (f36_15 F)
  (fun Rf36j6 => f36_6_eq F Rf36j6) (f36_15_eq F)
def f36_17 (F : Nat) : Li × Int → Rz := fun v => f36_5 F (f36_16 F) v
theorem f36_17_eq (F : Nat) : ∀ v,XAf36 F (bp Tryd.f36 31) (ef36j4 v) Kf17 = f36_17 F v :=
 seq_cut (by kernel_rfl) (by kernel_rfl) ef36j4 ef36j5 _ (fun k => f36_5 F k) (f36_16 F)
  (fun Rf36j5 => f36_5_eq F Rf36j5) (f36_16_eq F)
def f36_18 (F : Nat) : Li × Int → Rz := fun v => f36_4 F (f36_17 F) v
theorem f36_18_eq (F : Nat) : ∀ v,XAf36 F (bp Tryd.f36 15) (ef36j3 v) Kf17 = f36_18 F v :=
 seq_cut (by kernel_rfl) (by kernel_rfl) ef36j3 ef36j4 _ (fun k => f36_4 F k) (f36_17 F)
  (fun Rf36j4 => f36_4_eq F Rf36j4) (f36_17_eq F)
def f36_19 (F : Nat) : Li → Rz := fun v => f36_3 F (f36_18 F) v
theorem f36_19_eq (F : Nat) : ∀ v,XAf36 F (bp Tryd.f36 7) (ef36j2 v) Kf17 = f36_19 F v :=
 seq_cut (by kernel_rfl) (by kernel_rfl) ef36j2 ef36j3 _ (fun k => f36_3 F k) (f36_18 F)
  (fun Rf36j3 => f36_3_eq F Rf36j3) (f36_18_eq F)
def f36_20 (F : Nat) : Li → Rz := fun v => f36_2 F (f36_19 F) v
theorem f36_20_eq (F : Nat) : ∀ v,XAf36 F (bp Tryd.f36 3) (ef36j1 v) Kf17 = f36_20 F v :=
 seq_cut (by kernel_rfl) (by kernel_rfl) ef36j1 ef36j2 _ (fun k => f36_2 F k) (f36_19 F)
  (fun Rf36j2 => f36_2_eq F Rf36j2) (f36_19_eq F)
def f36_21 (F : Nat) : Li → Rz := fun v => f36_1 F (f36_20 F) v
theorem f36_21_eq (F : Nat) : ∀ v,XAf36 F (sub (bodyOf Tryd.f36) []) (ef36_a v) Kf17 = f36_21 F v :=
 seq_cut (by kernel_rfl) (by kernel_rfl) ef36_a ef36j1 _ (fun k => f36_1 F k) (f36_20 F)
  (fun Rf36j1 => f36_1_eq F Rf36j1) (f36_20_eq F)
def f36 (F : Nat) : Li → Rz := f36_21 F
theorem f36_body (F : Nat) (a0 : List Int) : abody VG0236 (Af36 F) Tryd.f36 [(.vs (.rI .u8 a0) 0 1)] [] = f36 F a0 :=
 (abody_in (c := (sub (bodyOf Tryd.f36) [])) (by kernel_rfl) (s := ef36_a a0) (by kernel_rfl)).trans (f36_21_eq F a0)
def r36 : CRun := fun X H => match X,H with
 | [(.vs (.rI .u8 a0) 0 1)],[] => some (true,(.tup (.cons 0 (.int .i64 (Wire.getInt a0).1) (.cons 0 (.int .i64 (Wire.getInt a0).2.1) (.cons 0 (.int .i64 (Wire.getInt a0).2.2) .nil)))),[])
 | _,_ => none
theorem s36 (a0 : List Int) (h0 : okV (.vs (.rI .u8 a0) 0 1)) : ∃ F,f36 F a0 = some ((.tup (.cons 0 (.int .i64 (Wire.getInt a0).1) (.cons 0 (.int .i64 (Wire.getInt a0).2.1) (.cons 0 (.int .i64 (Wire.getInt a0).2.2) .nil)))),[]) := by
 have hb := Wire.okB_of h0.1
 have hlen := h0.2
 refine ⟨9,?_⟩
 simp only [f36,f36_21,f36_1,f36_20,f36_2,int_beq]
 cases a0 with
 | nil => rfl
 | cons h t =>
  have hh := hb h (by simp)
  have ht : Wire.okBytes t := fun x hx => hb x (by simp [hx])
  have hk127 := Wire.cntOf_le hh
  simp only [List.length_cons] at hlen
  rw [cond_neg (by simp only [List.length_cons]; omega)]
  simp only [f36_19,f36_3,f36_18,f36_4,List.length_cons,List.getD_cons_zero]
  rw [cond_pos (by omega)]
  have key : ∀ fl : Int,fl = (if h < 128 then 255 else 0) → f36_17 9 (h :: t,fl) = some ((.tup (.cons 0 (.int .i64 (Wire.getInt (h :: t)).1) (.cons 0 (.int .i64 (Wire.getInt (h :: t)).2.1) (.cons 0 (.int .i64 (Wire.getInt (h :: t)).2.2) .nil)))),[]) := by
   intro fl hfl
   have hx : ∀ d : Int,0 ≤ d ∧ d ≤ 255 → ibits .xor .u8 d fl = Wire.flp h d := fun d hd => by
    unfold Wire.flp; rw [hfl]
    by_cases h1 : h < 128
    ·rw [if_pos h1,if_pos h1,xor8_255 _ hd.1 hd.2]
    ·rw [if_neg h1,if_neg h1,xor8_0 _ hd.1 hd.2]
   have hk : IntKind.i64.wrap ((IntKind.i64.wrap (Wire.flp h h)) - (128 : Int)) = (Wire.cntOf h : Int) := by
    have := Wire.flp_rng (h := h) hh
    rw [i64w (x := Wire.flp h h) (by omega) (by omega),i64w (by omega) (by omega)]
    unfold Wire.flp Wire.cntOf; split <;> omega
   have t0 := Wire.byte_getD ht 0
   simp only [f36_17,f36_5,f36_16,f36_6,List.length_cons,List.getD_cons_zero,List.getD_cons_succ,int_beq]
   rw [cond_pos (by omega),hx h hh,hk,hx _ t0]
   simp only [Wire.getInt]
   by_cases c1 : 8 < Wire.cntOf h
   ·rw [cond_pos (by omega),if_pos c1]
   rw [cond_neg (by omega),if_neg c1]
   by_cases c2 : t.length < Wire.cntOf h
   ·rw [cond_pos (by omega),if_pos c2]
   rw [cond_neg (by omega),if_neg c2]
   have rest : ∀ Z : Int × Int × Int,Z = (if 9223372036854775808 ≤ Wire.val h (t.take (Wire.cntOf h)) then ((0 : Int),(0 : Int),(2 : Int)) else ((if h < 128 then -1 - Wire.val h (t.take (Wire.cntOf h)) else Wire.val h (t.take (Wire.cntOf h))),(Wire.cntOf h : Int) + 1,0)) → f36_15 9 (h :: t,fl,(Wire.cntOf h : Int)) = some ((.tup (.cons 0 (.int .i64 Z.1) (.cons 0 (.int .i64 Z.2.1) (.cons 0 (.int .i64 Z.2.2) .nil)))),[]) := by
    intro Z hZ
    simp only [f36_15,f36_7,f36_14,f36_12,f36_8,f36_11,f36_10,f36_10_i,dec_and,List.length_cons]
    rw [i64w (x := (Wire.cntOf h : Int) + 1) (by omega) (by omega),cond_pos (by omega),show ((Wire.cntOf h : Int) + 1).toNat - 1 = Wire.cntOf h by omega]
    simp only [List.drop_succ_cons,List.drop_zero]
    have hl1 : (t.take (Wire.cntOf h)).length = Wire.cntOf h := by rw [List.length_take]; omega
    have hb1 := Wire.okBytes_take ht (Wire.cntOf h)
    rw [hl1]
    generalize t.take (Wire.cntOf h) = l at *
    refine loopN_from (fun j => (fl,(Wire.cntOf h : Int),Wire.val h (l.take j),l,(Wire.cntOf h : Int),(j : Int))) (Wire.cntOf h) (by rfl) (fun j hj k => ?_) (fun k => ?_) 9 (by omega)
    ·have hv := Wire.val_rng h (Wire.okBytes_take hb1 j)
     have hjl : (l.take j).length = j := by rw [List.length_take]; omega
     rw [hjl] at hv
     have hp := pow256_le j 7 72057594037927936 (by omega) (by decide)
     have hd := Wire.byte_getD hb1 j
     have hf := Wire.flp_rng (h := h) hd
     simp only [f36_9,dec_and]
     rw [Int.toNat_natCast,cond_pos (by omega),cond_pos (by omega),hx _ hd,or64 _ _ hv.1 (by omega) hf.1 hf.2,i64w (x := (j : Int) + 1) (by omega) (by omega),← Wire.val_step h l j (by omega)]
     rfl
    ·have hv := Wire.val_rng h hb1
     rw [hl1] at hv
     have hp := pow256_le (Wire.cntOf h) 8 18446744073709551616 (by omega) (by decide)
     simp only [f36_9]
     rw [cond_neg (by omega),List.take_of_length_le (by omega)]
     simp only [f36_13,fdiv63]
     by_cases c4 : 9223372036854775808 ≤ Wire.val h l
     ·rw [if_pos c4] at hZ; rw [cond_pos c4,hZ]
     ·rw [if_neg c4] at hZ; rw [cond_neg c4,i64w (x := (Wire.cntOf h : Int) + 1) (by omega) (by omega),hZ]
      by_cases h1 : h < 128
      ·rw [if_pos h1] at hfl ⊢
       rw [cond_pos (by omega),not64 _ (by omega) (by omega),i64hi (by omega) (by omega),show 18446744073709551615 - Wire.val h l - 18446744073709551616 = -1 - Wire.val h l by omega]
      ·rw [if_neg h1] at hfl ⊢
       rw [cond_neg (by omega),i64w (by omega) (by omega)]
   by_cases c3 : 0 < Wire.cntOf h
   ·rw [cond_pos (by omega),cond_pos (by omega)]
    by_cases c4 : Wire.flp h (t.getD 0 0) = 0
    ·rw [cond_pos c4,if_pos ⟨c3,c4⟩]
    ·rw [cond_neg c4,if_neg (fun e => c4 e.2)]
     exact rest _ rfl
   ·rw [cond_neg (by omega),if_neg (fun e => c3 e.1)]
    exact rest _ rfl
  by_cases h1 : h < 128
  ·rw [cond_pos h1]; exact key 255 (by rw [if_pos h1])
  ·rw [cond_neg h1]; exact key 0 (by rw [if_neg h1])
theorem c36 : CallOk Tryd.prog G02 36 r36 := callOk_of (V := VG0236) mixed tys eVG0236 (f := 36) (fn := Tryd.f36) Tryd.func36 (by kernel_rfl) (c := sub (bodyOf Tryd.f36) []) (by kernel_rfl) (by
 intro X H r H' h hX hH
 unfold r36 at h; split at h <;> try contradiction
 ·simp only [Option.some.injEq,Prod.mk.injEq] at h
  obtain ⟨hp,rfl,rfl⟩ := h
  obtain ⟨F,hF⟩ := s36 _ (hX _ (.head _))
  exact ⟨Af36 F,(f36_body F _).trans hF⟩)
end Go.Am
end