/- Part of a proof about the functions of the given program. -/
import Derived.Test.YtdmlhpojmpiigaaAm34A
set_option linter.unusedVariables false
set_option linter.unusedSimpArgs false
namespace Go.Am
open Go Go.Proofs
abbrev sp10 : List (Nat × Md) := [(5,.plain),(6,.plain),(7,.plain),(46,.plain),(47,.plain),(48,.plain)]
abbrev sp11 : List (Nat × Md) := [(0,.plain),(5,.plain),(6,.plain)]
abbrev sp12 : List (Nat × Md) := [(0,.plain),(5,.plain),(6,.plain),(7,.plain)]
abbrev sp13 : List (Nat × Md) := [(5,.plain),(6,.plain),(7,.plain)]
abbrev sp14 : List (Nat × Md) := [(0,.plain),(5,.plain),(6,.plain),(7,.plain),(8,.plain)]
abbrev sp15 : List (Nat × Md) := [(6,.plain),(8,.plain),(9,.own 2),(25,.plain),(26,.plain)]
abbrev sp16 : List (Nat × Md) := [(5,.plain),(6,.plain),(8,.plain)]
abbrev sp17 : List (Nat × Md) := [(5,.plain),(6,.plain),(8,.plain),(9,.plain)]
abbrev sp18 : List (Nat × Md) := [(6,.plain),(8,.plain),(9,.plain),(25,.plain),(26,.plain)]
abbrev sp19 : List (Nat × Md) := [(0,.plain),(5,.plain),(6,.plain),(8,.own 2),(9,.plain)]
abbrev sp20 : List (Nat × Md) := [(0,.plain),(5,.plain),(6,.plain),(8,.plain)]
abbrev sp21 : List (Nat × Md) := [(0,.plain),(5,.plain),(6,.plain),(8,.plain),(9,.plain)]
abbrev Ty5 := (List Int) × Int × Int × Int
abbrev Ty6 := Int × Int × Int × (List Int) × Int × Int
abbrev Ty7 := (List Int) × Int × Int × Int × Int
abbrev Ty8 := Int × Int × (List Int) × Int
abbrev Ty9 := Int × Int × Int × (List Int) × Int
abbrev Ty10 := Int × Int × Int × (List Int) × Int × (List Int)
abbrev Ty11 := (List Int) × Int × Int × Int × (List Int)

def lVG3456 : List CEnt := []
def VG3456 : Env := mkEnv T34 G34 lVG3456
theorem eVG3456 : EOk Try.prog VG3456 := eok_mk (by exact trivial)
def Af56 (F : Nat) : Cuts := { F := F,at_ := fun n => match n with | 15012 => some sp10 | _ => none,join := fun n => match n with | 1075 => some [(0,.plain)] | 3067 => some [(0,.plain)] | 4065 => some [(0,.plain),(5,.plain)] | 6059 => some [(0,.plain),(5,.plain)] | 7057 => some sp11 | 13036 => some sp11 | 14034 => some sp12 | 15014 => some sp10 | 19017 => some sp13 | _ => none }
def ef56_a : (List Int) → St := fun a0 => { tmps := [(0,(.vs (.rI .u8 a0) 0 1))],heap := [],next := 0,nt := 71,m := 0 }
def ef56j1 : (List Int) → St := fun t0 => { tmps := [(0,(.vs (.rI .u8 t0) 0 1))],heap := [],next := 0,nt := 71,m := 0 }
def ef56j2 : (List Int) → St := fun t0 => { tmps := [(0,(.vs (.rI .u8 t0) 0 1))],heap := [],next := 0,nt := 71,m := 0 }
def ef56j3 : (List Int) × Int → St := fun (t0,t5) => { tmps := [(0,(.vs (.rI .u8 t0) 0 1)),(5,(.int .u8 t5))],heap := [],next := 0,nt := 71,m := 0 }
def ef56j4 : (List Int) × Int → St := fun (t0,t5) => { tmps := [(0,(.vs (.rI .u8 t0) 0 1)),(5,(.int .u8 t5))],heap := [],next := 0,nt := 71,m := 0 }
def ef56j5 : (List Int) × Int × Int → St := fun (t0,t5,t6) => { tmps := [(0,(.vs (.rI .u8 t0) 0 1)),(5,(.int .u8 t5)),(6,(.int .i64 t6))],heap := [],next := 0,nt := 71,m := 0 }
def ef56j6 : (List Int) × Int × Int → St := fun (t0,t5,t6) => { tmps := [(0,(.vs (.rI .u8 t0) 0 1)),(5,(.int .u8 t5)),(6,(.int .i64 t6))],heap := [],next := 0,nt := 71,m := 0 }
def ef56j7 : Ty5 → St := fun (t0,t5,t6,t7) => { tmps := [(0,(.vs (.rI .u8 t0) 0 1)),(5,(.int .u8 t5)),(6,(.int .i64 t6)),(7,(.int .u64 t7))],heap := [],next := 0,nt := 71,m := 0 }
def ef56j8 : Ty6 → St := fun (t5,t6,t7,t46,t47,t48) => { tmps := [(5,(.int .u8 t5)),(6,(.int .i64 t6)),(7,(.int .u64 t7)),(46,(.vs (.rI .u8 t46) 0 1)),(47,(.int .i64 t47)),(48,(.int .i64 t48))],heap := [],next := 0,nt := 71,m := 0 }
def ef56l1 : Ty6 → St := fun (t5,t6,t7,t46,t47,t48) => { tmps := [(5,(.int .u8 t5)),(6,(.int .i64 t6)),(7,(.int .u64 t7)),(46,(.vs (.rI .u8 t46) 0 1)),(47,(.int .i64 t47)),(48,(.int .i64 t48))],heap := [],next := 0,nt := 71,m := 0 }
def ef56j9 : Int × Int × Int → St := fun (t5,t6,t7) => { tmps := [(5,(.int .u8 t5)),(6,(.int .i64 t6)),(7,(.int .u64 t7))],heap := [],next := 0,nt := 71,m := 0 }
def f56_1 (F : Nat) (kf56j1 : (List Int) → Rz) : (List Int) → Rz := fun a0 => (kf56j1 a0)
theorem f56_1_eq (F : Nat) (Rf56j1 : St → Rz) : ∀ v,aexec VG3456 (Af56 F) (bp Try.f56 2) (ef56_a v) (kSeq (kc VG3456 Rf56j1 [(0,.plain)]) (kFin VG3456 none (Try.f56).results.toList)) = f56_1 F (Rf56j1 ∘ ef56j1) v := by
  intro a0; kernel_rfl
def f56_2 (F : Nat) (kf56j2 : (List Int) → Rz) : (List Int) → Rz := fun t0 => (cond ((↑t0.length : Int) == (0 : Int)) (some ((.tup (.cons 0 (.int .i64 (0 : Int)) (.cons 0 (.int .i64 (0 : Int)) (.cons 0 (.int .i64 (3 : Int)) .nil)))),[])) (kf56j2 t0))
theorem f56_2_eq (F : Nat) (Rf56j2 : St → Rz) : ∀ v,aexec VG3456 (Af56 F) (bp Try.f56 6) (ef56j1 v) (kSeq (kc VG3456 Rf56j2 [(0,.plain)]) (kFin VG3456 none (Try.f56).results.toList)) = f56_2 F (Rf56j2 ∘ ef56j2) v := by
  intro t0; kernel_rfl
def f56_3 (F : Nat) (kf56j3 : (List Int) × Int → Rz) : (List Int) → Rz := fun t0 => (kf56j3 (t0,(0 : Int)))
theorem f56_3_eq (F : Nat) (Rf56j3 : St → Rz) : ∀ v,aexec VG3456 (Af56 F) (bp Try.f56 14) (ef56j2 v) (kSeq (kc VG3456 Rf56j3 [(0,.plain),(5,.plain)]) (kFin VG3456 none (Try.f56).results.toList)) = f56_3 F (Rf56j3 ∘ ef56j3) v := by
  intro t0; kernel_rfl
def f56_4 (F : Nat) (kf56j4 : (List Int) × Int → Rz) : (List Int) × Int → Rz := fun (t0,t5) => (cond (decide ((0 : Int) < (↑t0.length : Int))) (cond (decide ((t0.getD 0 0) < (128 : Int))) (kf56j4 (t0,(255 : Int))) (kf56j4 (t0,t5))) none)
theorem f56_4_eq (F : Nat) (Rf56j4 : St → Rz) : ∀ v,aexec VG3456 (Af56 F) (bp Try.f56 30) (ef56j3 v) (kSeq (kc VG3456 Rf56j4 [(0,.plain),(5,.plain)]) (kFin VG3456 none (Try.f56).results.toList)) = f56_4 F (Rf56j4 ∘ ef56j4) v := by
  rintro ⟨t0,t5⟩; kernel_rfl
def f56_5 (F : Nat) (kf56j5 : (List Int) × Int × Int → Rz) : (List Int) × Int → Rz := fun (t0,t5) => (cond (decide ((0 : Int) < (↑t0.length : Int))) (kf56j5 (t0,t5,(IntKind.i64.wrap ((IntKind.i64.wrap (ibits .xor .u8 (t0.getD 0 0) t5)) - (128 : Int))))) none)
theorem f56_5_eq (F : Nat) (Rf56j5 : St → Rz) : ∀ v,aexec VG3456 (Af56 F) (bp Try.f56 62) (ef56j4 v) (kSeq (kc VG3456 Rf56j5 sp11) (kFin VG3456 none (Try.f56).results.toList)) = f56_5 F (Rf56j5 ∘ ef56j5) v := by
  rintro ⟨t0,t5⟩; kernel_rfl
def f56_6 (F : Nat) (kf56j6 : (List Int) × Int × Int → Rz) : (List Int) × Int × Int → Rz := fun (t0,t5,t6) => (cond (decide (t6 > (8 : Int))) (some ((.tup (.cons 0 (.int .i64 (0 : Int)) (.cons 0 (.int .i64 (0 : Int)) (.cons 0 (.int .i64 (2 : Int)) .nil)))),[])) (cond (decide ((↑t0.length : Int) ≤ t6)) (some ((.tup (.cons 0 (.int .i64 (0 : Int)) (.cons 0 (.int .i64 (0 : Int)) (.cons 0 (.int .i64 (3 : Int)) .nil)))),[])) (cond (decide (t6 > (0 : Int))) (cond (decide ((1 : Int) < (↑t0.length : Int))) (cond ((ibits .xor .u8 (t0.getD 1 0) t5) == (0 : Int)) (some ((.tup (.cons 0 (.int .i64 (0 : Int)) (.cons 0 (.int .i64 (0 : Int)) (.cons 0 (.int .i64 (2 : Int)) .nil)))),[])) (kf56j6 (t0,t5,t6))) none) (kf56j6 (t0,t5,t6)))))
theorem f56_6_eq (F : Nat) (Rf56j6 : St → Rz) : ∀ v,aexec VG3456 (Af56 F) (bp Try.f56 126) (ef56j5 v) (kSeq (kc VG3456 Rf56j6 sp11) (kFin VG3456 none (Try.f56).results.toList)) = f56_6 F (Rf56j6 ∘ ef56j6) v := by
  rintro ⟨t0,t5,t6⟩; kernel_rfl
def f56_7 (F : Nat) (kf56j7 : Ty5 → Rz) : (List Int) × Int × Int → Rz := fun (t0,t5,t6) => (kf56j7 (t0,t5,t6,(0 : Int)))
theorem f56_7_eq (F : Nat) (Rf56j7 : St → Rz) : ∀ v,aexec VG3456 (Af56 F) (bp Try.f56 254) (ef56j6 v) (kSeq (kc VG3456 Rf56j7 sp12) (kFin VG3456 none (Try.f56).results.toList)) = f56_7 F (Rf56j7 ∘ ef56j7) v := by
  rintro ⟨t0,t5,t6⟩; kernel_rfl
def f56_8 (F : Nat) (kf56j8 : Ty6 → Rz) (kf56j9 : Int × Int × Int → Rz) : Ty5 → Rz := fun (t0,t5,t6,t7) => (cond ((decide ((1 : Int) ≤ (IntKind.i64.wrap (t6 + (1 : Int))))) && (decide ((IntKind.i64.wrap (t6 + (1 : Int))) ≤ (↑t0.length : Int)))) (kf56j8 (t5,t6,t7,((t0.drop 1).take ((Int.toNat (IntKind.i64.wrap (t6 + (1 : Int)))) - 1)),(↑((t0.drop 1).take ((Int.toNat (IntKind.i64.wrap (t6 + (1 : Int)))) - 1)).length : Int),(0 : Int))) none)
theorem f56_8_eq (F : Nat) (Rf56j8 : St → Rz) (Rf56j9 : St → Rz) : ∀ v,aexec VG3456 (Af56 F) (bp Try.f56 1020) (ef56j7 v) (kSeq (kc VG3456 Rf56j8 sp10) (kSeq (kc VG3456 Rf56j9 sp13) (kFin VG3456 none (Try.f56).results.toList))) = f56_8 F (Rf56j8 ∘ ef56j8) (Rf56j9 ∘ ef56j9) v := by
  rintro ⟨t0,t5,t6,t7⟩; kernel_rfl
def f56_9 (F : Nat) (kf56l1 : Ty6 → Rz) (kf56j9 : Int × Int × Int → Rz) : Ty6 → Rz := fun (t5,t6,t7,t46,t47,t48) => (cond (decide (t48 < t47)) (cond ((decide (0 ≤ t48)) && (decide (t48 < (↑t46.length : Int)))) (kf56l1 (t5,t6,(ibits .or .u64 (IntKind.u64.wrap (t7 * 2 ^ 8)) (IntKind.u64.wrap (ibits .xor .u8 (t46.getD (Int.toNat t48) 0) t5))),t46,t47,(IntKind.i64.wrap (t48 + (1 : Int))))) none) (kf56j9 (t5,t6,t7)))
theorem f56_9_eq (F : Nat) (Rf56l1 : St → Rz) (Rf56j9 : St → Rz) : ∀ v,aexec VG3456 (Af56 F) (bp Try.f56 4084) (ef56l1 v) (kSeq (kc VG3456 Rf56l1 sp10) (kBlock 1 (kSeq (kc VG3456 Rf56j9 sp13) (kFin VG3456 none (Try.f56).results.toList)))) = f56_9 F (Rf56l1 ∘ ef56l1) (Rf56j9 ∘ ef56j9) v := by
  rintro ⟨t5,t6,t7,t46,t47,t48⟩; kernel_rfl
def f56_10_i : Ty6 → Int × Int × Int × (List Int) × Int × Int := fun (t5,t6,t7,t46,t47,t48) => (t5,t6,t7,t46,t47,t48)
def f56_10 (F : Nat) (kf56j9 : Int × Int × Int → Rz) : Ty6 → Rz := fun v => loopN (fun k => f56_9 F k kf56j9) F (f56_10_i v)
theorem f56_10_eq (F : Nat) (Rf56j9 : St → Rz) : ∀ v,aexec VG3456 (Af56 F) (bp Try.f56 2042) (ef56j8 v) (kBlock 1 (kSeq (kc VG3456 Rf56j9 sp13) (kFin VG3456 none (Try.f56).results.toList))) = f56_10 F (Rf56j9 ∘ ef56j9) v :=
  loop_cut (by kernel_rfl) (by kernel_rfl) ef56j8 ef56l1 _ f56_10_i (fun k => f56_9 F k (Rf56j9 ∘ ef56j9))
    (by rintro ⟨t5,t6,t7,t46,t47,t48⟩; kernel_rfl) (fun Rf56l1 => f56_9_eq F Rf56l1 Rf56j9)
def f56_11 (F : Nat) (kf56j9 : Int × Int × Int → Rz) : Ty6 → Rz := f56_10 F kf56j9
theorem f56_11_eq (F : Nat) (Rf56j9 : St → Rz) : ∀ v,aexec VG3456 (Af56 F) (bp Try.f56 1021) (ef56j8 v) (kSeq (kc VG3456 Rf56j9 sp13) (kFin VG3456 none (Try.f56).results.toList)) = f56_11 F (Rf56j9 ∘ ef56j9) v := fun v =>
  (block_in  (by kernel_rfl) _ _).trans (f56_10_eq F Rf56j9 v)
def f56_12 (F : Nat) (kf56j9 : Int × Int × Int → Rz) : Ty5 → Rz := fun v => f56_8 F (f56_11 F kf56j9) kf56j9 v
theorem f56_12_eq (F : Nat) (Rf56j9 : St → Rz) : ∀ v,aexec VG3456 (Af56 F) (bp Try.f56 510) (ef56j7 v) (kSeq (kc VG3456 Rf56j9 sp13) (kFin VG3456 none (Try.f56).results.toList)) = f56_12 F (Rf56j9 ∘ ef56j9) v :=
  seq_cut (by kernel_rfl) (by kernel_rfl) ef56j7 ef56j8 _ (fun k => f56_8 F k (Rf56j9 ∘ ef56j9)) (f56_11 F (Rf56j9 ∘ ef56j9))
    (fun Rf56j8 => f56_8_eq F Rf56j8 Rf56j9) (f56_11_eq F Rf56j9)
def f56_13 (F : Nat) : Int × Int × Int → Rz := fun (t5,t6,t7) => (cond (decide ((Int.fdiv t7 (2 ^ 63)) > (0 : Int))) (some ((.tup (.cons 0 (.int .i64 (0 : Int)) (.cons 0 (.int .i64 (0 : Int)) (.cons 0 (.int .i64 (2 : Int)) .nil)))),[])) (cond (decide (t5 > (0 : Int))) (some ((.tup (.cons 0 (.int .i64 (IntKind.i64.wrap (ibits .xor .u64 (18446744073709551615 : Int) t7))) (.cons 0 (.int .i64 (IntKind.i64.wrap (t6 + (1 : Int)))) (.cons 0 (.int .i64 (0 : Int)) .nil)))),[])) (some ((.tup (.cons 0 (.int .i64 (IntKind.i64.wrap t7)) (.cons 0 (.int .i64 (IntKind.i64.wrap (t6 + (1 : Int)))) (.cons 0 (.int .i64 (0 : Int)) .nil)))),[]))))
theorem f56_13_eq (F : Nat) : ∀ v,aexec VG3456 (Af56 F) (bp Try.f56 511) (ef56j9 v) (kFin VG3456 none (Try.f56).results.toList) = f56_13 F v := by
  rintro ⟨t5,t6,t7⟩; kernel_rfl
def f56_14 (F : Nat) : Ty5 → Rz := fun v => f56_12 F (f56_13 F) v
theorem f56_14_eq (F : Nat) : ∀ v,aexec VG3456 (Af56 F) (bp Try.f56 255) (ef56j7 v) (kFin VG3456 none (Try.f56).results.toList) = f56_14 F v :=
  seq_cut (by kernel_rfl) (by kernel_rfl) ef56j7 ef56j9 _ (fun k => f56_12 F k) (f56_13 F)
    (fun Rf56j9 => f56_12_eq F Rf56j9) (f56_13_eq F)
def f56_15 (F : Nat) : (List Int) × Int × Int → Rz := fun v => f56_7 F (f56_14 F) v
theorem f56_15_eq (F : Nat) : ∀ v,aexec VG3456 (Af56 F) (bp Try.f56 127) (ef56j6 v) (kFin VG3456 none (Try.f56).results.toList) = f56_15 F v :=
  seq_cut (by kernel_rfl) (by kernel_rfl) ef56j6 ef56j7 _ (fun k => f56_7 F k) (f56_14 F)
    (fun Rf56j7 => f56_7_eq F Rf56j7) (f56_14_eq F)
def f56_16 (F : Nat) : (List Int) × Int × Int → Rz := fun v => f56_6 F (f56_15 F) v
theorem f56_16_eq (F : Nat) : ∀ v,aexec VG3456 (Af56 F) (bp Try.f56 63) (ef56j5 v) (kFin VG3456 none (Try.f56).results.toList) = f56_16 F v :=
  seq_cut (by kernel_rfl) (by kernel_rfl) ef56j5 ef56j6 _ (fun k => f56_6 F k) (f56_15 F)
    (fun Rf56j6 => f56_6_eq F Rf56j6) (f56_15_eq F)
def f56_17 (F : Nat) : (List Int) × Int → Rz := fun v => f56_5 F (f56_16 F) v
theorem f56_17_eq (F : Nat) : ∀ v,aexec VG3456 (Af56 F) (bp Try.f56 31) (ef56j4 v) (kFin VG3456 none (Try.f56).results.toList) = f56_17 F v :=
  seq_cut (by kernel_rfl) (by kernel_rfl) ef56j4 ef56j5 _ (fun k => f56_5 F k) (f56_16 F)
    (fun Rf56j5 => f56_5_eq F Rf56j5) (f56_16_eq F)
def f56_18 (F : Nat) : (List Int) × Int → Rz := fun v => f56_4 F (f56_17 F) v
theorem f56_18_eq (F : Nat) : ∀ v,aexec VG3456 (Af56 F) (bp Try.f56 15) (ef56j3 v) (kFin VG3456 none (Try.f56).results.toList) = f56_18 F v :=
  seq_cut (by kernel_rfl) (by kernel_rfl) ef56j3 ef56j4 _ (fun k => f56_4 F k) (f56_17 F)
    (fun Rf56j4 => f56_4_eq F Rf56j4) (f56_17_eq F)
def f56_19 (F : Nat) : (List Int) → Rz := fun v => f56_3 F (f56_18 F) v
theorem f56_19_eq (F : Nat) : ∀ v,aexec VG3456 (Af56 F) (bp Try.f56 7) (ef56j2 v) (kFin VG3456 none (Try.f56).results.toList) = f56_19 F v :=
  seq_cut (by kernel_rfl) (by kernel_rfl) ef56j2 ef56j3 _ (fun k => f56_3 F k) (f56_18 F)
    (fun Rf56j3 => f56_3_eq F Rf56j3) (f56_18_eq F)
def f56_20 (F : Nat) : (List Int) → Rz := fun v => f56_2 F (f56_19 F) v
theorem f56_20_eq (F : Nat) : ∀ v,aexec VG3456 (Af56 F) (bp Try.f56 3) (ef56j1 v) (kFin VG3456 none (Try.f56).results.toList) = f56_20 F v :=
  seq_cut (by kernel_rfl) (by kernel_rfl) ef56j1 ef56j2 _ (fun k => f56_2 F k) (f56_19 F)
    (fun Rf56j2 => f56_2_eq F Rf56j2) (f56_19_eq F)
def f56_21 (F : Nat) : (List Int) → Rz := fun v => f56_1 F (f56_20 F) v
theorem f56_21_eq (F : Nat) : ∀ v,aexec VG3456 (Af56 F) (sub (bodyOf Try.f56) []) (ef56_a v) (kFin VG3456 none (Try.f56).results.toList) = f56_21 F v :=
  seq_cut (by kernel_rfl) (by kernel_rfl) ef56_a ef56j1 _ (fun k => f56_1 F k) (f56_20 F)
    (fun Rf56j1 => f56_1_eq F Rf56j1) (f56_20_eq F)
def f56 (F : Nat) : (List Int) → Rz := f56_21 F
theorem f56_body (F : Nat) (a0 : List Int) : abody VG3456 (Af56 F) Try.f56 [(.vs (.rI .u8 a0) 0 1)] [] = f56 F a0 :=
  (abody_in (c := (sub (bodyOf Try.f56) [])) (by kernel_rfl) (s := ef56_a a0) (by kernel_rfl)).trans (f56_21_eq F a0)
def r56 : CRun := fun X H => match X,H with
  | [(.vs (.rI .u8 a0) 0 1)],[] => some (true,(.tup (.cons 0 (.int .i64 (Wire.getInt a0).1) (.cons 0 (.int .i64 (Wire.getInt a0).2.1) (.cons 0 (.int .i64 (Wire.getInt a0).2.2) .nil)))),[])
  | _,_ => none
theorem s56 (a0 : List Int) (h0 : okV (.vs (.rI .u8 a0) 0 1)) : ∃ F,f56 F a0 = some ((.tup (.cons 0 (.int .i64 (Wire.getInt a0).1) (.cons 0 (.int .i64 (Wire.getInt a0).2.1) (.cons 0 (.int .i64 (Wire.getInt a0).2.2) .nil)))),[]) := by
  have hb := Wire.okB_of h0.1
  have hlen := h0.2
  refine ⟨9,?_⟩
  simp only [f56,f56_21,f56_1,f56_20,f56_2,int_beq]
  cases a0 with
  | nil => rfl
  | cons h t =>
    have hh := hb h (by simp)
    have ht : Wire.okBytes t := fun x hx => hb x (by simp [hx])
    have hk127 := Wire.cntOf_le hh
    simp only [List.length_cons] at hlen
    rw [cond_neg (by simp only [List.length_cons]; omega)]
    simp only [f56_19,f56_3,f56_18,f56_4,List.length_cons,List.getD_cons_zero]
    rw [cond_pos (by omega)]
    have key : ∀ fl : Int,fl = (if h < 128 then 255 else 0) → f56_17 9 (h :: t,fl) = some ((.tup (.cons 0 (.int .i64 (Wire.getInt (h :: t)).1) (.cons 0 (.int .i64 (Wire.getInt (h :: t)).2.1) (.cons 0 (.int .i64 (Wire.getInt (h :: t)).2.2) .nil)))),[]) := by
      intro fl hfl
      have hx : ∀ d : Int,0 ≤ d ∧ d ≤ 255 → ibits .xor .u8 d fl = Wire.flp h d := fun d hd => by
        unfold Wire.flp; rw [hfl]
        by_cases h1 : h < 128
        · rw [if_pos h1,if_pos h1,xor8_255 _ hd.1 hd.2]
        · rw [if_neg h1,if_neg h1,xor8_0 _ hd.1 hd.2]
      have hk : IntKind.i64.wrap ((IntKind.i64.wrap (Wire.flp h h)) - (128 : Int)) = (Wire.cntOf h : Int) := by
        have := Wire.flp_rng (h := h) hh
        rw [i64w (x := Wire.flp h h) (by omega) (by omega),i64w (by omega) (by omega)]
        unfold Wire.flp Wire.cntOf; split <;> omega
      have t0 := Wire.byte_getD ht 0
      simp only [f56_17,f56_5,f56_16,f56_6,List.length_cons,List.getD_cons_zero,List.getD_cons_succ,int_beq]
      rw [cond_pos (by omega),hx h hh,hk,hx _ t0]
      simp only [Wire.getInt]
      by_cases c1 : 8 < Wire.cntOf h
      · rw [cond_pos (by omega),if_pos c1]
      rw [cond_neg (by omega),if_neg c1]
      by_cases c2 : t.length < Wire.cntOf h
      · rw [cond_pos (by omega),if_pos c2]
      rw [cond_neg (by omega),if_neg c2]
      have rest : ∀ Z : Int × Int × Int,Z = (if 9223372036854775808 ≤ Wire.val h (t.take (Wire.cntOf h)) then ((0 : Int),(0 : Int),(2 : Int)) else ((if h < 128 then -1 - Wire.val h (t.take (Wire.cntOf h)) else Wire.val h (t.take (Wire.cntOf h))),(Wire.cntOf h : Int) + 1,0)) → f56_15 9 (h :: t,fl,(Wire.cntOf h : Int)) = some ((.tup (.cons 0 (.int .i64 Z.1) (.cons 0 (.int .i64 Z.2.1) (.cons 0 (.int .i64 Z.2.2) .nil)))),[]) := by
        intro Z hZ
        simp only [f56_15,f56_7,f56_14,f56_12,f56_8,f56_11,f56_10,f56_10_i,dec_and,List.length_cons]
        rw [i64w (x := (Wire.cntOf h : Int) + 1) (by omega) (by omega),cond_pos (by omega),show ((Wire.cntOf h : Int) + 1).toNat - 1 = Wire.cntOf h by omega]
        simp only [List.drop_succ_cons,List.drop_zero]
        have hl1 : (t.take (Wire.cntOf h)).length = Wire.cntOf h := by rw [List.length_take]; omega
        have hb1 := Wire.okBytes_take ht (Wire.cntOf h)
        rw [hl1]
        generalize t.take (Wire.cntOf h) = l at *
        refine loopN_from (fun j => (fl,(Wire.cntOf h : Int),Wire.val h (l.take j),l,(Wire.cntOf h : Int),(j : Int))) (Wire.cntOf h) (by rfl) (fun j hj k => ?_) (fun k => ?_) 9 (by omega)
        · have hv := Wire.val_rng h (Wire.okBytes_take hb1 j)
          have hjl : (l.take j).length = j := by rw [List.length_take]; omega
          rw [hjl] at hv
          have hp := pow256_le j 7 72057594037927936 (by omega) (by decide)
          have hd := Wire.byte_getD hb1 j
          have hf := Wire.flp_rng (h := h) hd
          simp only [f56_9,dec_and]
          rw [Int.toNat_natCast,cond_pos (by omega),cond_pos (by omega),hx _ hd,or64 _ _ hv.1 (by omega) hf.1 hf.2,i64w (x := (j : Int) + 1) (by omega) (by omega),← Wire.val_step h l j (by omega)]
          rfl
        · have hv := Wire.val_rng h hb1
          rw [hl1] at hv
          have hp := pow256_le (Wire.cntOf h) 8 18446744073709551616 (by omega) (by decide)
          simp only [f56_9]
          rw [cond_neg (by omega),List.take_of_length_le (by omega)]
          simp only [f56_13,fdiv63]
          by_cases c4 : 9223372036854775808 ≤ Wire.val h l
          · rw [if_pos c4] at hZ; rw [cond_pos c4,hZ]
          · rw [if_neg c4] at hZ; rw [cond_neg c4,i64w (x := (Wire.cntOf h : Int) + 1) (by omega) (by omega),hZ]
            by_cases h1 : h < 128
            · rw [if_pos h1] at hfl ⊢
              rw [cond_pos (by omega),not64 _ (by omega) (by omega),i64hi (by omega) (by omega),show 18446744073709551615 - Wire.val h l - 18446744073709551616 = -1 - Wire.val h l by omega]
            · rw [if_neg h1] at hfl ⊢
              rw [cond_neg (by omega),i64w (by omega) (by omega)]
      by_cases c3 : 0 < Wire.cntOf h
      · rw [cond_pos (by omega),cond_pos (by omega)]
        by_cases c4 : Wire.flp h (t.getD 0 0) = 0
        · rw [cond_pos c4,if_pos ⟨c3,c4⟩]
        · rw [cond_neg c4,if_neg (fun e => c4 e.2)]
          exact rest _ rfl
      · rw [cond_neg (by omega),if_neg (fun e => c3 e.1)]
        exact rest _ rfl
    by_cases h1 : h < 128
    · rw [cond_pos h1]; exact key 255 (by rw [if_pos h1])
    · rw [cond_neg h1]; exact key 0 (by rw [if_neg h1])

theorem c56 : CallOk Try.prog G34 56 r56 := callOk_of (V := VG3456) mixed tys eVG3456 (f := 56) (fn := Try.f56) Try.func56 (by kernel_rfl) (c := sub (bodyOf Try.f56) []) (by kernel_rfl) (by
  intro X H r H' h hX hH
  unfold r56 at h; split at h <;> try contradiction
  · simp only [Option.some.injEq,Prod.mk.injEq] at h
    obtain ⟨hp,rfl,rfl⟩ := h
    obtain ⟨F,hF⟩ := s56 _ (hX _ (.head _))
    exact ⟨Af56 F,(f56_body F _).trans hF⟩)
def lVG3455 : List CEnt := [(29,[some 5,some 5],r29),(45,[none],r45)]
def VG3455 : Env := mkEnv T34 G34 lVG3455
theorem eVG3455 : EOk Try.prog VG3455 := eok_mk (by exact ⟨c29,c45,trivial⟩)
def Af55 (F : Nat) : Cuts := { F := F,at_ := fun n => match n with | 13026 => some sp14 | _ => none,join := fun n => match n with | 1086 => some [(0,.plain)] | 3078 => some [(0,.plain)] | 4076 => some [(0,.plain),(5,.plain)] | 6068 => some [(0,.plain),(5,.plain)] | 7066 => some sp11 | 9060 => some sp11 | 11052 => some sp11 | 12050 => some sp12 | 13028 => some sp14 | 21019 => some sp12 | _ => none }
def ef55_a : (List Int) → St := fun a0 => { tmps := [(0,(.vs (.rI .u8 a0) 0 1))],heap := [],next := 0,nt := 71,m := 0 }
def ef55j1 : (List Int) → St := fun t0 => { tmps := [(0,(.vs (.rI .u8 t0) 0 1))],heap := [],next := 0,nt := 71,m := 0 }
def ef55j2 : (List Int) → St := fun t0 => { tmps := [(0,(.vs (.rI .u8 t0) 0 1))],heap := [],next := 0,nt := 71,m := 0 }
def ef55j3 : (List Int) × Int → St := fun (t0,t5) => { tmps := [(0,(.vs (.rI .u8 t0) 0 1)),(5,(.int .i64 t5))],heap := [],next := 0,nt := 71,m := 0 }
def ef55j4 : (List Int) × Int → St := fun (t0,t5) => { tmps := [(0,(.vs (.rI .u8 t0) 0 1)),(5,(.int .i64 t5))],heap := [],next := 0,nt := 71,m := 0 }
def ef55j5 : (List Int) × Int × Int → St := fun (t0,t5,t6) => { tmps := [(0,(.vs (.rI .u8 t0) 0 1)),(5,(.int .i64 t5)),(6,(.int .i64 t6))],heap := [],next := 0,nt := 71,m := 0 }
def ef55j6 : (List Int) × Int × Int → St := fun (t0,t5,t6) => { tmps := [(0,(.vs (.rI .u8 t0) 0 1)),(5,(.int .i64 t5)),(6,(.int .i64 t6))],heap := [],next := 0,nt := 71,m := 0 }
def ef55j7 : (List Int) × Int × Int → St := fun (t0,t5,t6) => { tmps := [(0,(.vs (.rI .u8 t0) 0 1)),(5,(.int .i64 t5)),(6,(.int .i64 t6))],heap := [],next := 0,nt := 71,m := 0 }
def ef55j8 : Ty5 → St := fun (t0,t5,t6,t7) => { tmps := [(0,(.vs (.rI .u8 t0) 0 1)),(5,(.int .i64 t5)),(6,(.int .i64 t6)),(7,(.int .i64 t7))],heap := [],next := 0,nt := 71,m := 0 }
def ef55j9 : Ty7 → St := fun (t0,t5,t6,t7,t8) => { tmps := [(0,(.vs (.rI .u8 t0) 0 1)),(5,(.int .i64 t5)),(6,(.int .i64 t6)),(7,(.int .i64 t7)),(8,(.int .i64 t8))],heap := [],next := 0,nt := 71,m := 0 }
def ef55l1 : Ty7 → St := fun (t0,t5,t6,t7,t8) => { tmps := [(0,(.vs (.rI .u8 t0) 0 1)),(5,(.int .i64 t5)),(6,(.int .i64 t6)),(7,(.int .i64 t7)),(8,(.int .i64 t8))],heap := [],next := 0,nt := 71,m := 0 }
def ef55j10 : Ty5 → St := fun (t0,t5,t6,t7) => { tmps := [(0,(.vs (.rI .u8 t0) 0 1)),(5,(.int .i64 t5)),(6,(.int .i64 t6)),(7,(.int .i64 t7))],heap := [],next := 0,nt := 71,m := 0 }
def f55_1 (F : Nat) (kf55j1 : (List Int) → Rz) : (List Int) → Rz := fun a0 => (kf55j1 a0)
theorem f55_1_eq (F : Nat) (Rf55j1 : St → Rz) : ∀ v,aexec VG3455 (Af55 F) (bp Try.f55 2) (ef55_a v) (kSeq (kc VG3455 Rf55j1 [(0,.plain)]) (kFin VG3455 none (Try.f55).results.toList)) = f55_1 F (Rf55j1 ∘ ef55j1) v := by
  intro a0; kernel_rfl
def f55_2 (F : Nat) (kf55j2 : (List Int) → Rz) : (List Int) → Rz := fun t0 => (cond ((↑t0.length : Int) == (0 : Int)) (some ((.tup (.cons 0 (.int .i64 (0 : Int)) (.cons 0 (.int .i64 (0 : Int)) (.cons 0 (.int .i64 (3 : Int)) .nil)))),[])) (kf55j2 t0))
theorem f55_2_eq (F : Nat) (Rf55j2 : St → Rz) : ∀ v,aexec VG3455 (Af55 F) (bp Try.f55 6) (ef55j1 v) (kSeq (kc VG3455 Rf55j2 [(0,.plain)]) (kFin VG3455 none (Try.f55).results.toList)) = f55_2 F (Rf55j2 ∘ ef55j2) v := by
  intro t0; kernel_rfl
def f55_3 (F : Nat) (kf55j3 : (List Int) × Int → Rz) : (List Int) → Rz := fun t0 => (cond (decide ((0 : Int) < (↑t0.length : Int))) (kf55j3 (t0,(IntKind.i64.wrap (t0.getD 0 0)))) none)
theorem f55_3_eq (F : Nat) (Rf55j3 : St → Rz) : ∀ v,aexec VG3455 (Af55 F) (bp Try.f55 14) (ef55j2 v) (kSeq (kc VG3455 Rf55j3 [(0,.plain),(5,.plain)]) (kFin VG3455 none (Try.f55).results.toList)) = f55_3 F (Rf55j3 ∘ ef55j3) v := by
  intro t0; kernel_rfl
def f55_4 (F : Nat) (kf55j4 : (List Int) × Int → Rz) : (List Int) × Int → Rz := fun (t0,t5) => (cond (decide (t5 < (119 : Int))) (some ((.tup (.cons 0 (.int .i64 (0 : Int)) (.cons 0 (.int .i64 (0 : Int)) (.cons 0 (.int .i64 (2 : Int)) .nil)))),[])) (cond (decide (t5 > (136 : Int))) (some ((.tup (.cons 0 (.int .i64 (0 : Int)) (.cons 0 (.int .i64 (0 : Int)) (.cons 0 (.int .i64 (2 : Int)) .nil)))),[])) (kf55j4 (t0,t5))))
theorem f55_4_eq (F : Nat) (Rf55j4 : St → Rz) : ∀ v,aexec VG3455 (Af55 F) (bp Try.f55 30) (ef55j3 v) (kSeq (kc VG3455 Rf55j4 [(0,.plain),(5,.plain)]) (kFin VG3455 none (Try.f55).results.toList)) = f55_4 F (Rf55j4 ∘ ef55j4) v := by
  rintro ⟨t0,t5⟩; kernel_rfl
def f55_5 (F : Nat) (kf55j5 : (List Int) × Int × Int → Rz) : (List Int) × Int → Rz := fun (t0,t5) => (kf55j5 (t0,t5,(IntKind.i64.wrap (t5 - (128 : Int)))))
theorem f55_5_eq (F : Nat) (Rf55j5 : St → Rz) : ∀ v,aexec VG3455 (Af55 F) (bp Try.f55 62) (ef55j4 v) (kSeq (kc VG3455 Rf55j5 sp11) (kFin VG3455 none (Try.f55).results.toList)) = f55_5 F (Rf55j5 ∘ ef55j5) v := by
  rintro ⟨t0,t5⟩; kernel_rfl
def f55_6 (F : Nat) (kf55j6 : (List Int) × Int × Int → Rz) : (List Int) × Int × Int → Rz := fun (t0,t5,t6) => (cond (decide (t5 < (128 : Int))) (kf55j6 (t0,t5,(IntKind.i64.wrap ((127 : Int) - t5)))) (kf55j6 (t0,t5,t6)))
theorem f55_6_eq (F : Nat) (Rf55j6 : St → Rz) : ∀ v,aexec VG3455 (Af55 F) (bp Try.f55 126) (ef55j5 v) (kSeq (kc VG3455 Rf55j6 sp11) (kFin VG3455 none (Try.f55).results.toList)) = f55_6 F (Rf55j6 ∘ ef55j6) v := by
  rintro ⟨t0,t5,t6⟩; kernel_rfl
def f55_7 (F : Nat) (kf55j7 : (List Int) × Int × Int → Rz) : (List Int) × Int × Int → Rz := fun (t0,t5,t6) => (cond (decide ((↑t0.length : Int) < (IntKind.i64.wrap (t6 + (1 : Int))))) (some ((.tup (.cons 0 (.int .i64 (0 : Int)) (.cons 0 (.int .i64 (0 : Int)) (.cons 0 (.int .i64 (3 : Int)) .nil)))),[])) (kf55j7 (t0,t5,t6)))
theorem f55_7_eq (F : Nat) (Rf55j7 : St → Rz) : ∀ v,aexec VG3455 (Af55 F) (bp Try.f55 254) (ef55j6 v) (kSeq (kc VG3455 Rf55j7 sp11) (kFin VG3455 none (Try.f55).results.toList)) = f55_7 F (Rf55j7 ∘ ef55j7) v := by
  rintro ⟨t0,t5,t6⟩; kernel_rfl
def f55_8 (F : Nat) (kf55j8 : Ty5 → Rz) : (List Int) × Int × Int → Rz := fun (t0,t5,t6) => (kf55j8 (t0,t5,t6,(0 : Int)))
theorem f55_8_eq (F : Nat) (Rf55j8 : St → Rz) : ∀ v,aexec VG3455 (Af55 F) (bp Try.f55 510) (ef55j7 v) (kSeq (kc VG3455 Rf55j8 sp12) (kFin VG3455 none (Try.f55).results.toList)) = f55_8 F (Rf55j8 ∘ ef55j8) v := by
  rintro ⟨t0,t5,t6⟩; kernel_rfl
def f55_9 (F : Nat) (kf55j9 : Ty7 → Rz) (kf55j10 : Ty5 → Rz) : Ty5 → Rz := fun (t0,t5,t6,t7) => (kf55j9 (t0,t5,t6,t7,(1 : Int)))
theorem f55_9_eq (F : Nat) (Rf55j9 : St → Rz) (Rf55j10 : St → Rz) : ∀ v,aexec VG3455 (Af55 F) (bp Try.f55 2044) (ef55j8 v) (kSeq (kc VG3455 Rf55j9 sp14) (kSeq (kc VG3455 Rf55j10 sp12) (kFin VG3455 none (Try.f55).results.toList))) = f55_9 F (Rf55j9 ∘ ef55j9) (Rf55j10 ∘ ef55j10) v := by
  rintro ⟨t0,t5,t6,t7⟩; kernel_rfl
def f55_10 (F : Nat) (kf55l1 : Ty7 → Rz) (kf55j10 : Ty5 → Rz) : Ty7 → Rz := fun (t0,t5,t6,t7,t8) => (cond (decide (t8 ≤ t6)) (cond ((decide (0 ≤ t8)) && (decide (t8 < (↑t0.length : Int)))) (cond (decide (t5 < (128 : Int))) (cond (decide (t7 > (36028797018963967 : Int))) (some ((.tup (.cons 0 (.int .i64 (0 : Int)) (.cons 0 (.int .i64 (0 : Int)) (.cons 0 (.int .i64 (2 : Int)) .nil)))),[])) (kf55l1 (t0,t5,t6,(IntKind.i64.wrap ((IntKind.i64.wrap ((256 : Int) * t7)) + (IntKind.i64.wrap ((255 : Int) - (IntKind.i64.wrap (t0.getD (Int.toNat t8) 0)))))),(IntKind.i64.wrap (t8 + (1 : Int)))))) (cond (decide (t7 > (36028797018963967 : Int))) (some ((.tup (.cons 0 (.int .i64 (0 : Int)) (.cons 0 (.int .i64 (0 : Int)) (.cons 0 (.int .i64 (2 : Int)) .nil)))),[])) (kf55l1 (t0,t5,t6,(IntKind.i64.wrap ((IntKind.i64.wrap ((256 : Int) * t7)) + (IntKind.i64.wrap (t0.getD (Int.toNat t8) 0)))),(IntKind.i64.wrap (t8 + (1 : Int))))))) none) (kf55j10 (t0,t5,t6,t7)))
theorem f55_10_eq (F : Nat) (Rf55l1 : St → Rz) (Rf55j10 : St → Rz) : ∀ v,aexec VG3455 (Af55 F) (bp Try.f55 8180) (ef55l1 v) (kSeq (kc VG3455 Rf55l1 sp14) (kBlock 0 (kSeq (kc VG3455 Rf55j10 sp12) (kFin VG3455 none (Try.f55).results.toList)))) = f55_10 F (Rf55l1 ∘ ef55l1) (Rf55j10 ∘ ef55j10) v := by
  rintro ⟨t0,t5,t6,t7,t8⟩; kernel_rfl
def f55_11_i : Ty7 → (List Int) × Int × Int × Int × Int := fun (t0,t5,t6,t7,t8) => (t0,t5,t6,t7,t8)
def f55_11 (F : Nat) (kf55j10 : Ty5 → Rz) : Ty7 → Rz := fun v => loopN (fun k => f55_10 F k kf55j10) F (f55_11_i v)
theorem f55_11_eq (F : Nat) (Rf55j10 : St → Rz) : ∀ v,aexec VG3455 (Af55 F) (bp Try.f55 4090) (ef55j9 v) (kBlock 0 (kSeq (kc VG3455 Rf55j10 sp12) (kFin VG3455 none (Try.f55).results.toList))) = f55_11 F (Rf55j10 ∘ ef55j10) v :=
  loop_cut (by kernel_rfl) (by kernel_rfl) ef55j9 ef55l1 _ f55_11_i (fun k => f55_10 F k (Rf55j10 ∘ ef55j10))
    (by rintro ⟨t0,t5,t6,t7,t8⟩; kernel_rfl) (fun Rf55l1 => f55_10_eq F Rf55l1 Rf55j10)
def f55_12 (F : Nat) (kf55j10 : Ty5 → Rz) : Ty7 → Rz := f55_11 F kf55j10
theorem f55_12_eq (F : Nat) (Rf55j10 : St → Rz) : ∀ v,aexec VG3455 (Af55 F) (bp Try.f55 2045) (ef55j9 v) (kSeq (kc VG3455 Rf55j10 sp12) (kFin VG3455 none (Try.f55).results.toList)) = f55_12 F (Rf55j10 ∘ ef55j10) v := fun v =>
  (block_in  (by kernel_rfl) _ _).trans (f55_11_eq F Rf55j10 v)
def f55_13 (F : Nat) (kf55j10 : Ty5 → Rz) : Ty5 → Rz := fun v => f55_9 F (f55_12 F kf55j10) kf55j10 v
theorem f55_13_eq (F : Nat) (Rf55j10 : St → Rz) : ∀ v,aexec VG3455 (Af55 F) (bp Try.f55 1022) (ef55j8 v) (kSeq (kc VG3455 Rf55j10 sp12) (kFin VG3455 none (Try.f55).results.toList)) = f55_13 F (Rf55j10 ∘ ef55j10) v :=
  seq_cut (by kernel_rfl) (by kernel_rfl) ef55j8 ef55j9 _ (fun k => f55_9 F k (Rf55j10 ∘ ef55j10)) (f55_12 F (Rf55j10 ∘ ef55j10))
    (fun Rf55j9 => f55_9_eq F Rf55j9 Rf55j10) (f55_12_eq F Rf55j10)
def f55_14 (F : Nat) : Ty5 → Rz := fun (t0,t5,t6,t7) => (cond (decide (t5 < (128 : Int))) (cond ((decide ((0 : Int) ≤ (IntKind.i64.wrap (t6 + (1 : Int))))) && (decide ((IntKind.i64.wrap (t6 + (1 : Int))) ≤ (↑t0.length : Int)))) (cond (!(decide ((Wire.int (IntKind.i64.wrap ((-1 : Int) - t7))) = (t0.take (Int.toNat (IntKind.i64.wrap (t6 + (1 : Int)))))))) (some ((.tup (.cons 0 (.int .i64 (0 : Int)) (.cons 0 (.int .i64 (0 : Int)) (.cons 0 (.int .i64 (2 : Int)) .nil)))),[])) (some ((.tup (.cons 0 (.int .i64 (IntKind.i64.wrap ((-1 : Int) - t7))) (.cons 0 (.int .i64 (IntKind.i64.wrap (t6 + (1 : Int)))) (.cons 0 (.int .i64 (0 : Int)) .nil)))),[]))) none) (cond ((decide ((0 : Int) ≤ (IntKind.i64.wrap (t6 + (1 : Int))))) && (decide ((IntKind.i64.wrap (t6 + (1 : Int))) ≤ (↑t0.length : Int)))) (cond (!(decide ((Wire.int t7) = (t0.take (Int.toNat (IntKind.i64.wrap (t6 + (1 : Int)))))))) (some ((.tup (.cons 0 (.int .i64 (0 : Int)) (.cons 0 (.int .i64 (0 : Int)) (.cons 0 (.int .i64 (2 : Int)) .nil)))),[])) (some ((.tup (.cons 0 (.int .i64 t7) (.cons 0 (.int .i64 (IntKind.i64.wrap (t6 + (1 : Int)))) (.cons 0 (.int .i64 (0 : Int)) .nil)))),[]))) none))
theorem f55_14_eq (F : Nat) : ∀ v,aexec VG3455 (Af55 F) (bp Try.f55 1023) (ef55j10 v) (kFin VG3455 none (Try.f55).results.toList) = f55_14 F v := by
  rintro ⟨t0,t5,t6,t7⟩; kernel_rfl
def f55_15 (F : Nat) : Ty5 → Rz := fun v => f55_13 F (f55_14 F) v
theorem f55_15_eq (F : Nat) : ∀ v,aexec VG3455 (Af55 F) (bp Try.f55 511) (ef55j8 v) (kFin VG3455 none (Try.f55).results.toList) = f55_15 F v :=
  seq_cut (by kernel_rfl) (by kernel_rfl) ef55j8 ef55j10 _ (fun k => f55_13 F k) (f55_14 F)
    (fun Rf55j10 => f55_13_eq F Rf55j10) (f55_14_eq F)
def f55_16 (F : Nat) : (List Int) × Int × Int → Rz := fun v => f55_8 F (f55_15 F) v
theorem f55_16_eq (F : Nat) : ∀ v,aexec VG3455 (Af55 F) (bp Try.f55 255) (ef55j7 v) (kFin VG3455 none (Try.f55).results.toList) = f55_16 F v :=
  seq_cut (by kernel_rfl) (by kernel_rfl) ef55j7 ef55j8 _ (fun k => f55_8 F k) (f55_15 F)
    (fun Rf55j8 => f55_8_eq F Rf55j8) (f55_15_eq F)
def f55_17 (F : Nat) : (List Int) × Int × Int → Rz := fun v => f55_7 F (f55_16 F) v
theorem f55_17_eq (F : Nat) : ∀ v,aexec VG3455 (Af55 F) (bp Try.f55 127) (ef55j6 v) (kFin VG3455 none (Try.f55).results.toList) = f55_17 F v :=
  seq_cut (by kernel_rfl) (by kernel_rfl) ef55j6 ef55j7 _ (fun k => f55_7 F k) (f55_16 F)
    (fun Rf55j7 => f55_7_eq F Rf55j7) (f55_16_eq F)
def f55_18 (F : Nat) : (List Int) × Int × Int → Rz := fun v => f55_6 F (f55_17 F) v
theorem f55_18_eq (F : Nat) : ∀ v,aexec VG3455 (Af55 F) (bp Try.f55 63) (ef55j5 v) (kFin VG3455 none (Try.f55).results.toList) = f55_18 F v :=
  seq_cut (by kernel_rfl) (by kernel_rfl) ef55j5 ef55j6 _ (fun k => f55_6 F k) (f55_17 F)
    (fun Rf55j6 => f55_6_eq F Rf55j6) (f55_17_eq F)
def f55_19 (F : Nat) : (List Int) × Int → Rz := fun v => f55_5 F (f55_18 F) v
theorem f55_19_eq (F : Nat) : ∀ v,aexec VG3455 (Af55 F) (bp Try.f55 31) (ef55j4 v) (kFin VG3455 none (Try.f55).results.toList) = f55_19 F v :=
  seq_cut (by kernel_rfl) (by kernel_rfl) ef55j4 ef55j5 _ (fun k => f55_5 F k) (f55_18 F)
    (fun Rf55j5 => f55_5_eq F Rf55j5) (f55_18_eq F)
def f55_20 (F : Nat) : (List Int) × Int → Rz := fun v => f55_4 F (f55_19 F) v
theorem f55_20_eq (F : Nat) : ∀ v,aexec VG3455 (Af55 F) (bp Try.f55 15) (ef55j3 v) (kFin VG3455 none (Try.f55).results.toList) = f55_20 F v :=
  seq_cut (by kernel_rfl) (by kernel_rfl) ef55j3 ef55j4 _ (fun k => f55_4 F k) (f55_19 F)
    (fun Rf55j4 => f55_4_eq F Rf55j4) (f55_19_eq F)
def f55_21 (F : Nat) : (List Int) → Rz := fun v => f55_3 F (f55_20 F) v
theorem f55_21_eq (F : Nat) : ∀ v,aexec VG3455 (Af55 F) (bp Try.f55 7) (ef55j2 v) (kFin VG3455 none (Try.f55).results.toList) = f55_21 F v :=
  seq_cut (by kernel_rfl) (by kernel_rfl) ef55j2 ef55j3 _ (fun k => f55_3 F k) (f55_20 F)
    (fun Rf55j3 => f55_3_eq F Rf55j3) (f55_20_eq F)
def f55_22 (F : Nat) : (List Int) → Rz := fun v => f55_2 F (f55_21 F) v
theorem f55_22_eq (F : Nat) : ∀ v,aexec VG3455 (Af55 F) (bp Try.f55 3) (ef55j1 v) (kFin VG3455 none (Try.f55).results.toList) = f55_22 F v :=
  seq_cut (by kernel_rfl) (by kernel_rfl) ef55j1 ef55j2 _ (fun k => f55_2 F k) (f55_21 F)
    (fun Rf55j2 => f55_2_eq F Rf55j2) (f55_21_eq F)
def f55_23 (F : Nat) : (List Int) → Rz := fun v => f55_1 F (f55_22 F) v
theorem f55_23_eq (F : Nat) : ∀ v,aexec VG3455 (Af55 F) (sub (bodyOf Try.f55) []) (ef55_a v) (kFin VG3455 none (Try.f55).results.toList) = f55_23 F v :=
  seq_cut (by kernel_rfl) (by kernel_rfl) ef55_a ef55j1 _ (fun k => f55_1 F k) (f55_22 F)
    (fun Rf55j1 => f55_1_eq F Rf55j1) (f55_22_eq F)
def f55 (F : Nat) : (List Int) → Rz := f55_23 F
theorem f55_body (F : Nat) (a0 : List Int) : abody VG3455 (Af55 F) Try.f55 [(.vs (.rI .u8 a0) 0 1)] [] = f55 F a0 :=
  (abody_in (c := (sub (bodyOf Try.f55) [])) (by kernel_rfl) (s := ef55_a a0) (by kernel_rfl)).trans (f55_23_eq F a0)
def r55 : CRun := fun X H => match X,H with
  | [(.vs (.rI .u8 a0) 0 1)],[] => some (true,(.tup (.cons 0 (.int .i64 (Wire.getInt a0).1) (.cons 0 (.int .i64 (Wire.getInt a0).2.1) (.cons 0 (.int .i64 (Wire.getInt a0).2.2) .nil)))),[])
  | _,_ => none
theorem s55 (a0 : List Int) (h0 : okV (.vs (.rI .u8 a0) 0 1)) : ∃ F,f55 F a0 = some ((.tup (.cons 0 (.int .i64 (Wire.getInt a0).1) (.cons 0 (.int .i64 (Wire.getInt a0).2.1) (.cons 0 (.int .i64 (Wire.getInt a0).2.2) .nil)))),[]) := by
  have hb := Wire.okB_of h0.1
  have hlen := h0.2
  refine ⟨10,?_⟩
  simp only [f55,f55_23,f55_1,f55_22,f55_2,int_beq]
  cases a0 with
  | nil => rfl
  | cons h t =>
    have hh := hb h (by simp)
    have ht : Wire.okBytes t := fun x hx => hb x (by simp [hx])
    simp only [List.length_cons] at hlen
    rw [cond_neg (by simp only [List.length_cons]; omega)]
    simp only [f55_21,f55_3,f55_20,f55_4,List.length_cons,List.getD_cons_zero]
    rw [cond_pos (by omega),i64w (x := h) (by omega) (by omega)]
    have hck : Wire.cntOf h > 8 ↔ (h < 119 ∨ h > 136) := by unfold Wire.cntOf; split <;> omega
    by_cases c1 : 8 < Wire.cntOf h
    · have hW : Wire.getInt (h :: t) = (0,0,2) := by simp only [Wire.getInt]; rw [if_pos c1]
      rw [hW]
      rcases hck.mp c1 with g | g
      · rw [cond_pos g]
      · rw [cond_neg (by omega),cond_pos g]
    · have hno : ¬ (h < 119 ∨ h > 136) := fun e => c1 (hck.mpr e)
      rw [cond_neg (by omega),cond_neg (by omega)]
      simp only [f55_19,f55_5,f55_18,f55_6]
      rw [i64w (x := h - 128) (by omega) (by omega),i64w (x := 127 - h) (by omega) (by omega)]
      have hc : ∀ K : List Int × Int × Int → Rz,(cond (decide (h < 128)) (K (h :: t,h,127 - h)) (K (h :: t,h,h - 128))) = K (h :: t,h,(Wire.cntOf h : Int)) := by
        intro K
        by_cases h1 : h < 128
        · rw [cond_pos h1]; congr 3; unfold Wire.cntOf; rw [if_pos h1]; omega
        · rw [cond_neg h1]; congr 3; unfold Wire.cntOf; rw [if_neg h1]; omega
      rw [hc]
      simp only [f55_17,f55_7,List.length_cons]
      rw [i64w (x := (Wire.cntOf h : Int) + 1) (by omega) (by omega)]
      by_cases c2 : t.length < Wire.cntOf h
      · have hW : Wire.getInt (h :: t) = (0,0,3) := by simp only [Wire.getInt]; rw [if_neg c1,if_pos c2]
        rw [hW,cond_pos (by omega)]
      · rw [cond_neg (by omega)]
        have hbad : 9223372036854775808 ≤ Wire.val h (t.take (Wire.cntOf h)) → Wire.getInt (h :: t) = (0,0,2) := fun c4 => by
          simp only [Wire.getInt]; rw [if_neg c1,if_neg c2]
          by_cases c3 : 0 < Wire.cntOf h ∧ Wire.flp h (t.getD 0 0) = 0
          · rw [if_pos c3]
          · rw [if_neg c3,if_pos c4]
        have hcan := Wire.canon (h := h) (t := t) hh ht (by omega)
        have hend : Wire.val h (t.take (Wire.cntOf h)) < 9223372036854775808 → Wire.getInt (h :: t) = if 0 < Wire.cntOf h ∧ Wire.flp h (t.getD 0 0) = 0 then (0,0,2) else ((if h < 128 then -1 - Wire.val h (t.take (Wire.cntOf h)) else Wire.val h (t.take (Wire.cntOf h))),(Wire.cntOf h : Int) + 1,0) := fun c4 => by
          simp only [Wire.getInt]; rw [if_neg c1,if_neg c2]
          by_cases c3 : 0 < Wire.cntOf h ∧ Wire.flp h (t.getD 0 0) = 0
          · rw [if_pos c3,if_pos c3]
          · rw [if_neg c3,if_neg c3,if_neg (by omega)]
        generalize hW : Wire.getInt (h :: t) = W at *
        generalize hk : Wire.cntOf h = kk at *
        simp only [f55_16,f55_8,f55_15,f55_13,f55_9,f55_12,f55_11,f55_11_i]
        refine loopN_ind (fun m s => s.1 = h :: t ∧ s.2.1 = h ∧ s.2.2.1 = (kk : Int) ∧ s.2.2.2.2 = ((kk - m : Nat) : Int) + 1 ∧ s.2.2.2.1 = Wire.val h (t.take (kk - m)) ∧ m ≤ kk ∧ s.2.2.2.1 < 9223372036854775808) ?_ 10 kk _ (by omega) ⟨rfl,rfl,rfl,by simp,by simp [Wire.val],Nat.le_refl _,by simp⟩
        rintro m ⟨b,h',k',v,i⟩ k ⟨e1,e2,e3,e4,e5,hm,e6⟩ hkk
        simp only at e1 e2 e3 e4 e5 e6
        subst e1; subst e2; subst e3; subst e4; subst e5
        have hv0 := (Wire.val_rng h' (Wire.okBytes_take ht (kk - m))).1
        simp only [f55_10,dec_and,List.length_cons]
        cases m with
        | zero =>
          rw [Nat.sub_zero] at hv0 e6 ⊢
          rw [cond_neg (by omega)]
          have hW2 := hend e6
          have hc2 := hcan e6
          simp only [f55_14,dec_and,dec_not,List.length_cons]
          rw [i64w (x := (kk : Int) + 1) (by omega) (by omega),show ((kk : Int) + 1).toNat = kk + 1 by omega,List.take_succ_cons]
          generalize Wire.val h' (t.take kk) = v at *
          by_cases h1 : h' < 128
          · rw [if_pos h1] at hW2 hc2
            rw [cond_pos h1,cond_pos (by omega),i64w (x := -1 - v) (by omega) (by omega)]
            by_cases c3 : 0 < kk ∧ Wire.flp h' (t.getD 0 0) = 0
            · rw [if_pos c3] at hW2; rw [cond_pos (mt hc2.mp (fun q => q c3)),hW2]
            · rw [if_neg c3] at hW2; rw [cond_neg (not_not_intro (hc2.mpr c3)),hW2]
          · rw [if_neg h1] at hW2 hc2
            rw [cond_neg h1,cond_pos (by omega)]
            by_cases c3 : 0 < kk ∧ Wire.flp h' (t.getD 0 0) = 0
            · rw [if_pos c3] at hW2; rw [cond_pos (mt hc2.mp (fun q => q c3)),hW2]
            · rw [if_neg c3] at hW2; rw [cond_neg (not_not_intro (hc2.mpr c3)),hW2]
        | succ m =>
          have hd := Wire.byte_getD ht (kk - (m + 1))
          have hst := Wire.val_step h' t (kk - (m + 1)) (by omega)
          have hmo := Wire.val_mono h' ht (kk - (m + 1)) (by omega) kk (by omega) (by omega)
          rw [show (((kk - (m + 1) : Nat) : Int) + 1).toNat = (kk - (m + 1)) + 1 by omega,List.getD_cons_succ]
          rw [show kk - (m + 1) + 1 = kk - m by omega] at hst
          rw [cond_pos (by omega),cond_pos (by omega),i64w (x := t.getD (kk - (m + 1)) 0) (by omega) (by omega),i64w (x := 255 - t.getD (kk - (m + 1)) 0) (by omega) (by omega),i64w (x := ((kk - (m + 1) : Nat) : Int) + 1 + 1) (by omega) (by omega)]
          by_cases hbig : Wire.val h' (t.take (kk - (m + 1))) > 36028797018963967
          · have := hbad (by omega)
            rw [this]
            by_cases h1 : h' < 128
            · rw [cond_pos h1,cond_pos hbig]
            · rw [cond_neg h1,cond_pos hbig]
          · have hf := Wire.flp_rng (h := h') hd
            have hst2 : Wire.val h' (t.take (kk - m)) < 9223372036854775808 := by omega
            by_cases h1 : h' < 128
            · rw [cond_pos h1,cond_neg hbig,i64w (x := 256 * Wire.val h' (t.take (kk - (m + 1)))) (by omega) (by omega),i64w (by omega) (by omega)]
              have hfe : Wire.flp h' (t.getD (kk - (m + 1)) 0) = 255 - t.getD (kk - (m + 1)) 0 := by unfold Wire.flp; rw [if_pos h1]
              refine hkk m _ (by omega) ⟨rfl,rfl,rfl,by simp only []; omega,by simp only []; omega,by omega,by simp only []; omega⟩
            · rw [cond_neg h1,cond_neg hbig,i64w (x := 256 * Wire.val h' (t.take (kk - (m + 1)))) (by omega) (by omega)]
              have hfe : Wire.flp h' (t.getD (kk - (m + 1)) 0) = t.getD (kk - (m + 1)) 0 := by unfold Wire.flp; rw [if_neg h1]
              rw [i64w (by omega) (by omega)]
              refine hkk m _ (by omega) ⟨rfl,rfl,rfl,by simp only []; omega,by simp only []; omega,by omega,by simp only []; omega⟩

theorem c55 : CallOk Try.prog G34 55 r55 := callOk_of (V := VG3455) mixed tys eVG3455 (f := 55) (fn := Try.f55) Try.func55 (by kernel_rfl) (c := sub (bodyOf Try.f55) []) (by kernel_rfl) (by
  intro X H r H' h hX hH
  unfold r55 at h; split at h <;> try contradiction
  · simp only [Option.some.injEq,Prod.mk.injEq] at h
    obtain ⟨hp,rfl,rfl⟩ := h
    obtain ⟨F,hF⟩ := s55 _ (hX _ (.head _))
    exact ⟨Af55 F,(f55_body F _).trans hF⟩)
def lVG3452 : List CEnt := [(56,[some 5],r56)]
def VG3452 : Env := mkEnv T34 G34 lVG3452
theorem eVG3452 : EOk Try.prog VG3452 := eok_mk (by exact ⟨c56,trivial⟩)
def Af52 (F : Nat) : Cuts := { F := F,at_ := fun _ => none,join := fun _ => none }
def ef52_a : (List Int) × Int → St := fun (a0,a1) => { tmps := [(0,(.vs (.rI .u8 a0) 0 1)),(1,(.int .i64 a1))],heap := [],next := 0,nt := 31,m := 0 }
def f52_1 (F : Nat) : (List Int) × Int → Rz := fun (a0,a1) => (cond ((Wire.getInt a0).2.2 != (0 : Int)) (some ((.tup (.cons 0 (.int .i64 (Wire.getInt a0).1) (.cons 0 (.int .i64 (Wire.getInt a0).2.1) (.cons 0 (.int .i64 (Wire.getInt a0).2.2) .nil)))),[])) (cond (decide ((Wire.getInt a0).1 < (0 : Int))) (some ((.tup (.cons 0 (.int .i64 (Wire.getInt a0).1) (.cons 0 (.int .i64 (Wire.getInt a0).2.1) (.cons 0 (.int .i64 (2 : Int)) .nil)))),[])) (cond (!(a1 == 0)) (cond (decide ((Wire.getInt a0).1 > (IntKind.i64.wrap (Int.tdiv (IntKind.i64.wrap ((↑a0.length : Int) - (Wire.getInt a0).2.1)) a1)))) (some ((.tup (.cons 0 (.int .i64 (Wire.getInt a0).1) (.cons 0 (.int .i64 (Wire.getInt a0).2.1) (.cons 0 (.int .i64 (3 : Int)) .nil)))),[])) (some ((.tup (.cons 0 (.int .i64 (Wire.getInt a0).1) (.cons 0 (.int .i64 (Wire.getInt a0).2.1) (.cons 0 (.int .i64 (Wire.getInt a0).2.2) .nil)))),[]))) none)))
theorem f52_1_eq (F : Nat) : ∀ v,aexec VG3452 (Af52 F) (sub (bodyOf Try.f52) []) (ef52_a v) (kFin VG3452 none (Try.f52).results.toList) = f52_1 F v := by
  rintro ⟨a0,a1⟩; kernel_rfl
def f52 (F : Nat) : (List Int) × Int → Rz := f52_1 F
theorem f52_body (F : Nat) (a0 : List Int) (a1 : Int) : abody VG3452 (Af52 F) Try.f52 [(.vs (.rI .u8 a0) 0 1),(.int .i64 a1)] [] = f52 F (a0,a1) :=
  (abody_in (c := (sub (bodyOf Try.f52) [])) (by kernel_rfl) (s := ef52_a (a0,a1)) (by kernel_rfl)).trans (f52_1_eq F (a0,a1))
def r52 : CRun := fun X H => match X,H with
  | [(.vs (.rI .u8 a0) 0 1),(.int .i64 a1)],[] => some ((decide (0 < a1)),(.tup (.cons 0 (.int .i64 (Wire.count a0 a1).1) (.cons 0 (.int .i64 (Wire.count a0 a1).2.1) (.cons 0 (.int .i64 (Wire.count a0 a1).2.2) .nil)))),[])
  | _,_ => none
theorem s52 (a0 : List Int) (a1 : Int) (hp : ((decide (0 < a1))) = true) (h0 : okV (.vs (.rI .u8 a0) 0 1)) (h1 : okV (.int .i64 a1)) : ∃ F,f52 F (a0,a1) = some ((.tup (.cons 0 (.int .i64 (Wire.count a0 a1).1) (.cons 0 (.int .i64 (Wire.count a0 a1).2.1) (.cons 0 (.int .i64 (Wire.count a0 a1).2.2) .nil)))),[]) := by
  have hz : 0 < a1 := of_decide_eq_true hp
  have hr := Wire.getInt_rng (Wire.okB_of h0.1)
  have hl := h0.2
  refine ⟨0,?_⟩
  simp only [f52,f52_1,Wire.count,int_bne,int_beq,dec_not]
  by_cases c1 : (Wire.getInt a0).2.2 = 0
  · rw [cond_neg (by omega),if_neg (by omega)]
    by_cases c2 : (Wire.getInt a0).1 < 0
    · rw [cond_pos c2,if_pos c2]
    · have hd0 : 0 ≤ ((a0.length : Int) - (Wire.getInt a0).2.1) / a1 := Int.ediv_nonneg (by omega) (by omega)
      have hd1 : ((a0.length : Int) - (Wire.getInt a0).2.1) / a1 ≤ (a0.length : Int) - (Wire.getInt a0).2.1 := Int.ediv_le_self _ (by omega)
      rw [cond_neg c2,if_neg c2,cond_pos (by omega),i64w (x := (a0.length : Int) - (Wire.getInt a0).2.1) (by omega) (by omega),tdiv_nn (by omega),i64w (by omega) (by omega)]
      by_cases c3 : ((a0.length : Int) - (Wire.getInt a0).2.1) / a1 < (Wire.getInt a0).1
      · rw [cond_pos c3,if_pos c3]
      · rw [cond_neg c3,if_neg c3,c1]
  · rw [cond_pos c1,if_pos c1]

theorem c52 : CallOk Try.prog G34 52 r52 := callOk_of (V := VG3452) mixed tys eVG3452 (f := 52) (fn := Try.f52) Try.func52 (by kernel_rfl) (c := sub (bodyOf Try.f52) []) (by kernel_rfl) (by
  intro X H r H' h hX hH
  unfold r52 at h; split at h <;> try contradiction
  · simp only [Option.some.injEq,Prod.mk.injEq] at h
    obtain ⟨hp,rfl,rfl⟩ := h
    obtain ⟨F,hF⟩ := s52 _ _ hp (hX _ (.head _)) (hX _ (.tail _ (.head _)))
    exact ⟨Af52 F,(f52_body F _ _).trans hF⟩)
def lVG3454 : List CEnt := [(55,[some 5],r55)]
def VG3454 : Env := mkEnv T34 G34 lVG3454
theorem eVG3454 : EOk Try.prog VG3454 := eok_mk (by exact ⟨c55,trivial⟩)
def Af54 (F : Nat) : Cuts := { F := F,at_ := fun _ => none,join := fun _ => none }
def ef54_a : (List Int) × Int → St := fun (a0,a1) => { tmps := [(0,(.vs (.rI .u8 a0) 0 1)),(1,(.int .i64 a1))],heap := [],next := 0,nt := 37,m := 0 }
def f54_1 (F : Nat) : (List Int) × Int → Rz := fun (a0,a1) => (cond ((Wire.getInt a0).2.2 != (0 : Int)) (some ((.tup (.cons 0 (.int .i64 (0 : Int)) (.cons 0 (.int .i64 (0 : Int)) (.cons 0 (.int .i64 (Wire.getInt a0).2.2) .nil)))),[])) (cond (decide ((Wire.getInt a0).1 < (0 : Int))) (some ((.tup (.cons 0 (.int .i64 (0 : Int)) (.cons 0 (.int .i64 (0 : Int)) (.cons 0 (.int .i64 (2 : Int)) .nil)))),[])) (cond (decide ((Wire.getInt a0).1 > (↑a0.length : Int))) (some ((.tup (.cons 0 (.int .i64 (0 : Int)) (.cons 0 (.int .i64 (0 : Int)) (.cons 0 (.int .i64 (3 : Int)) .nil)))),[])) (cond (decide ((IntKind.i64.wrap ((Wire.getInt a0).1 * a1)) > (IntKind.i64.wrap ((↑a0.length : Int) - (Wire.getInt a0).2.1)))) (some ((.tup (.cons 0 (.int .i64 (0 : Int)) (.cons 0 (.int .i64 (0 : Int)) (.cons 0 (.int .i64 (3 : Int)) .nil)))),[])) (some ((.tup (.cons 0 (.int .i64 (Wire.getInt a0).1) (.cons 0 (.int .i64 (Wire.getInt a0).2.1) (.cons 0 (.int .i64 (0 : Int)) .nil)))),[]))))))
theorem f54_1_eq (F : Nat) : ∀ v,aexec VG3454 (Af54 F) (sub (bodyOf Try.f54) []) (ef54_a v) (kFin VG3454 none (Try.f54).results.toList) = f54_1 F v := by
  rintro ⟨a0,a1⟩; kernel_rfl
def f54 (F : Nat) : (List Int) × Int → Rz := f54_1 F
theorem f54_body (F : Nat) (a0 : List Int) (a1 : Int) : abody VG3454 (Af54 F) Try.f54 [(.vs (.rI .u8 a0) 0 1),(.int .i64 a1)] [] = f54 F (a0,a1) :=
  (abody_in (c := (sub (bodyOf Try.f54) [])) (by kernel_rfl) (s := ef54_a (a0,a1)) (by kernel_rfl)).trans (f54_1_eq F (a0,a1))
def r54 : CRun := fun X H => match X,H with
  | [(.vs (.rI .u8 a0) 0 1),(.int .i64 a1)],[] => some ((((decide (0 < a1)) && (decide (a1 ≤ 16))) && (decide (a0.length < 1073741000))),(.tup (.cons 0 (.int .i64 (Wire.rcount a0 a1).1) (.cons 0 (.int .i64 (Wire.rcount a0 a1).2.1) (.cons 0 (.int .i64 (Wire.rcount a0 a1).2.2) .nil)))),[])
  | _,_ => none
theorem s54 (a0 : List Int) (a1 : Int) (hp : ((((decide (0 < a1)) && (decide (a1 ≤ 16))) && (decide (a0.length < 1073741000)))) = true) (h0 : okV (.vs (.rI .u8 a0) 0 1)) (h1 : okV (.int .i64 a1)) : ∃ F,f54 F (a0,a1) = some ((.tup (.cons 0 (.int .i64 (Wire.rcount a0 a1).1) (.cons 0 (.int .i64 (Wire.rcount a0 a1).2.1) (.cons 0 (.int .i64 (Wire.rcount a0 a1).2.2) .nil)))),[]) := by
  rw [dec_and,dec_and,decide_eq_true_eq] at hp
  obtain ⟨⟨hz,hz16⟩,hl⟩ := hp
  have hr := Wire.getInt_rng (Wire.okB_of h0.1)
  refine ⟨0,?_⟩
  simp only [f54,f54_1,int_bne]
  by_cases c1 : (Wire.getInt a0).2.2 = 0
  · rw [cond_neg (by omega)]
    by_cases c2 : (Wire.getInt a0).1 < 0
    · have e : (Wire.count a0 a1).2.2 = 2 := by simp only [Wire.count]; rw [if_neg (by omega),if_pos c2]
      rw [cond_pos c2,Wire.rcount_bad (by omega),e]
    · have hd1 : ((a0.length : Int) - (Wire.getInt a0).2.1) / a1 ≤ (a0.length : Int) - (Wire.getInt a0).2.1 := Int.ediv_le_self _ (by omega)
      have hiff := Int.ediv_lt_iff_lt_mul (a := (a0.length : Int) - (Wire.getInt a0).2.1) (b := (Wire.getInt a0).1) hz
      have e3 : ((a0.length : Int) - (Wire.getInt a0).2.1) / a1 < (Wire.getInt a0).1 → (Wire.count a0 a1).2.2 = 3 := fun c => by simp only [Wire.count]; rw [if_neg (by omega),if_neg c2,if_pos c]
      rw [cond_neg c2]
      by_cases c3 : (Wire.getInt a0).1 > (a0.length : Int)
      · have e := e3 (by omega)
        rw [cond_pos c3,Wire.rcount_bad (by omega),e]
      · have hm : (Wire.getInt a0).1 * a1 ≤ 1073741000 * 16 := by
          refine Int.le_trans (Int.mul_le_mul_of_nonneg_left hz16 (by omega)) ?_
          omega
        have hm0 : 0 ≤ (Wire.getInt a0).1 * a1 := Int.mul_nonneg (by omega) (by omega)
        rw [cond_neg c3,i64w (x := (Wire.getInt a0).1 * a1) (by omega) (by omega),i64w (by omega) (by omega)]
        by_cases c4 : ((a0.length : Int) - (Wire.getInt a0).2.1) / a1 < (Wire.getInt a0).1
        · have e := e3 c4
          rw [cond_pos (hiff.mp c4),Wire.rcount_bad (by omega),e]
        · have e : (Wire.count a0 a1).2.2 = 0 := by simp only [Wire.count]; rw [if_neg (by omega),if_neg c2,if_neg c4]
          rw [cond_neg (mt hiff.mpr c4),Wire.rcount_ok e,e]; rfl
  · have e : (Wire.count a0 a1).2.2 = (Wire.getInt a0).2.2 := by simp only [Wire.count]; rw [if_pos c1]
    rw [cond_pos c1,Wire.rcount_bad (by omega),e]

theorem c54 : CallOk Try.prog G34 54 r54 := callOk_of (V := VG3454) mixed tys eVG3454 (f := 54) (fn := Try.f54) Try.func54 (by kernel_rfl) (c := sub (bodyOf Try.f54) []) (by kernel_rfl) (by
  intro X H r H' h hX hH
  unfold r54 at h; split at h <;> try contradiction
  · simp only [Option.some.injEq,Prod.mk.injEq] at h
    obtain ⟨hp,rfl,rfl⟩ := h
    obtain ⟨F,hF⟩ := s54 _ _ hp (hX _ (.head _)) (hX _ (.tail _ (.head _)))
    exact ⟨Af54 F,(f54_body F _ _).trans hF⟩)
def lVG3447 : List CEnt := [(52,[some 5,none],r52)]
def VG3447 : Env := mkEnv T34 G34 lVG3447
theorem eVG3447 : EOk Try.prog VG3447 := eok_mk (by exact ⟨c52,trivial⟩)
def Af47 (F : Nat) : Cuts := { F := F,at_ := fun _ => none,join := fun _ => none }
def ef47_a : (List Int) → St := fun a0 => { tmps := [(0,(.vs (.rI .u8 a0) 0 1))],heap := [],next := 0,nt := 27,m := 0 }
def f47_1 (F : Nat) : (List Int) → Rz := fun a0 => (cond (decide (0 < (1 : Int))) (cond ((Wire.count a0 (1 : Int)).2.2 != (0 : Int)) (some ((.tup (.cons 0 (.str []) (.cons 0 (.int .i64 (0 : Int)) (.cons 0 (.int .i64 (Wire.count a0 (1 : Int)).2.2) .nil)))),[])) (cond (((decide (0 ≤ (Wire.count a0 (1 : Int)).2.1)) && (decide ((Wire.count a0 (1 : Int)).2.1 ≤ (IntKind.i64.wrap ((Wire.count a0 (1 : Int)).2.1 + (Wire.count a0 (1 : Int)).1))))) && (decide ((IntKind.i64.wrap ((Wire.count a0 (1 : Int)).2.1 + (Wire.count a0 (1 : Int)).1)) ≤ (↑a0.length : Int)))) (some ((.tup (.cons 0 (.str ((a0.drop (Int.toNat (Wire.count a0 (1 : Int)).2.1)).take ((Int.toNat (IntKind.i64.wrap ((Wire.count a0 (1 : Int)).2.1 + (Wire.count a0 (1 : Int)).1))) - (Int.toNat (Wire.count a0 (1 : Int)).2.1)))) (.cons 0 (.int .i64 (IntKind.i64.wrap ((Wire.count a0 (1 : Int)).2.1 + (Wire.count a0 (1 : Int)).1))) (.cons 0 (.int .i64 (0 : Int)) .nil)))),[])) none)) none)
theorem f47_1_eq (F : Nat) : ∀ v,aexec VG3447 (Af47 F) (sub (bodyOf Try.f47) []) (ef47_a v) (kFin VG3447 none (Try.f47).results.toList) = f47_1 F v := by
  intro a0; kernel_rfl
def f47 (F : Nat) : (List Int) → Rz := f47_1 F
theorem f47_body (F : Nat) (a0 : List Int) : abody VG3447 (Af47 F) Try.f47 [(.vs (.rI .u8 a0) 0 1)] [] = f47 F a0 :=
  (abody_in (c := (sub (bodyOf Try.f47) [])) (by kernel_rfl) (s := ef47_a a0) (by kernel_rfl)).trans (f47_1_eq F a0)
def r47 : CRun := fun X H => match X,H with
  | [(.vs (.rI .u8 a0) 0 1)],[] => some (true,(.tup (.cons 0 (.str (Wire.getBytes a0).1) (.cons 0 (.int .i64 (Wire.getBytes a0).2.1) (.cons 0 (.int .i64 (Wire.getBytes a0).2.2) .nil)))),[])
  | _,_ => none
theorem s47 (a0 : List Int) (h0 : okV (.vs (.rI .u8 a0) 0 1)) : ∃ F,f47 F a0 = some ((.tup (.cons 0 (.str (Wire.getBytes a0).1) (.cons 0 (.int .i64 (Wire.getBytes a0).2.1) (.cons 0 (.int .i64 (Wire.getBytes a0).2.2) .nil)))),[]) := by
  have hb := Wire.okB_of h0.1
  have hl := h0.2
  refine ⟨0,?_⟩
  simp only [f47,f47_1,Wire.getBytes,int_bne,dec_and]
  rw [cond_pos (by omega)]
  by_cases c : (Wire.count a0 1).2.2 = 0
  · obtain ⟨g1,g2,g3,g4,g5,g6,g7⟩ := Wire.count_ok hb (by omega) c
    rw [cond_neg (by omega),if_pos c,g2,g3,i64w (by omega) (by omega),cond_pos (by omega),show ((Wire.getInt a0).2.1 + (Wire.getInt a0).1).toNat - (Wire.getInt a0).2.1.toNat = (Wire.getInt a0).1.toNat by omega]
  · rw [cond_pos c,if_neg c]

theorem c47 : CallOk Try.prog G34 47 r47 := callOk_of (V := VG3447) mixed tys eVG3447 (f := 47) (fn := Try.f47) Try.func47 (by kernel_rfl) (c := sub (bodyOf Try.f47) []) (by kernel_rfl) (by
  intro X H r H' h hX hH
  unfold r47 at h; split at h <;> try contradiction
  · simp only [Option.some.injEq,Prod.mk.injEq] at h
    obtain ⟨hp,rfl,rfl⟩ := h
    obtain ⟨F,hF⟩ := s47 _ (hX _ (.head _))
    exact ⟨Af47 F,(f47_body F _).trans hF⟩)
def lVG3450 : List CEnt := [(54,[some 5,none],r54)]
def VG3450 : Env := mkEnv T34 G34 lVG3450
theorem eVG3450 : EOk Try.prog VG3450 := eok_mk (by exact ⟨c54,trivial⟩)
def Af50 (F : Nat) : Cuts := { F := F,at_ := fun _ => none,join := fun _ => none }
def ef50_a : (List Int) → St := fun a0 => { tmps := [(0,(.vs (.rI .u8 a0) 0 1))],heap := [],next := 0,nt := 27,m := 0 }
def f50_1 (F : Nat) : (List Int) → Rz := fun a0 => (cond (((decide (0 < (1 : Int))) && (decide ((1 : Int) ≤ 16))) && (decide (a0.length < 1073741000))) (cond ((Wire.rcount a0 (1 : Int)).2.2 != (0 : Int)) (some ((.tup (.cons 0 (.str []) (.cons 0 (.int .i64 (0 : Int)) (.cons 0 (.int .i64 (Wire.rcount a0 (1 : Int)).2.2) .nil)))),[])) (cond (((decide (0 ≤ (Wire.rcount a0 (1 : Int)).2.1)) && (decide ((Wire.rcount a0 (1 : Int)).2.1 ≤ (IntKind.i64.wrap ((Wire.rcount a0 (1 : Int)).2.1 + (Wire.rcount a0 (1 : Int)).1))))) && (decide ((IntKind.i64.wrap ((Wire.rcount a0 (1 : Int)).2.1 + (Wire.rcount a0 (1 : Int)).1)) ≤ (↑a0.length : Int)))) (some ((.tup (.cons 0 (.str ((a0.drop (Int.toNat (Wire.rcount a0 (1 : Int)).2.1)).take ((Int.toNat (IntKind.i64.wrap ((Wire.rcount a0 (1 : Int)).2.1 + (Wire.rcount a0 (1 : Int)).1))) - (Int.toNat (Wire.rcount a0 (1 : Int)).2.1)))) (.cons 0 (.int .i64 (IntKind.i64.wrap ((Wire.rcount a0 (1 : Int)).2.1 + (Wire.rcount a0 (1 : Int)).1))) (.cons 0 (.int .i64 (0 : Int)) .nil)))),[])) none)) none)
theorem f50_1_eq (F : Nat) : ∀ v,aexec VG3450 (Af50 F) (sub (bodyOf Try.f50) []) (ef50_a v) (kFin VG3450 none (Try.f50).results.toList) = f50_1 F v := by
  intro a0; kernel_rfl
def f50 (F : Nat) : (List Int) → Rz := f50_1 F
theorem f50_body (F : Nat) (a0 : List Int) : abody VG3450 (Af50 F) Try.f50 [(.vs (.rI .u8 a0) 0 1)] [] = f50 F a0 :=
  (abody_in (c := (sub (bodyOf Try.f50) [])) (by kernel_rfl) (s := ef50_a a0) (by kernel_rfl)).trans (f50_1_eq F a0)
def r50 : CRun := fun X H => match X,H with
  | [(.vs (.rI .u8 a0) 0 1)],[] => some ((decide (a0.length < 1073741000)),(.tup (.cons 0 (.str (Wire.getBytes a0).1) (.cons 0 (.int .i64 (Wire.getBytes a0).2.1) (.cons 0 (.int .i64 (Wire.getBytes a0).2.2) .nil)))),[])
  | _,_ => none
theorem s50 (a0 : List Int) (hp : ((decide (a0.length < 1073741000))) = true) (h0 : okV (.vs (.rI .u8 a0) 0 1)) : ∃ F,f50 F a0 = some ((.tup (.cons 0 (.str (Wire.getBytes a0).1) (.cons 0 (.int .i64 (Wire.getBytes a0).2.1) (.cons 0 (.int .i64 (Wire.getBytes a0).2.2) .nil)))),[]) := by
  have hb := Wire.okB_of h0.1
  have hl : a0.length < 1073741000 := of_decide_eq_true hp
  refine ⟨0,?_⟩
  simp only [f50,f50_1,Wire.getBytes,int_bne,dec_and,Wire.rcount_err]
  rw [cond_pos (by omega)]
  by_cases c : (Wire.count a0 1).2.2 = 0
  · obtain ⟨g1,g2,g3,g4,g5,g6,g7⟩ := Wire.count_ok hb (by omega) c
    rw [cond_neg (by omega),if_pos c,Wire.rcount_ok c,g2,g3,i64w (by omega) (by omega),cond_pos (by omega),show ((Wire.getInt a0).2.1 + (Wire.getInt a0).1).toNat - (Wire.getInt a0).2.1.toNat = (Wire.getInt a0).1.toNat by omega]
  · rw [cond_pos c,if_neg c]

theorem c50 : CallOk Try.prog G34 50 r50 := callOk_of (V := VG3450) mixed tys eVG3450 (f := 50) (fn := Try.f50) Try.func50 (by kernel_rfl) (c := sub (bodyOf Try.f50) []) (by kernel_rfl) (by
  intro X H r H' h hX hH
  unfold r50 at h; split at h <;> try contradiction
  · simp only [Option.some.injEq,Prod.mk.injEq] at h
    obtain ⟨hp,rfl,rfl⟩ := h
    obtain ⟨F,hF⟩ := s50 _ hp (hX _ (.head _))
    exact ⟨Af50 F,(f50_body F _).trans hF⟩)
def lVG3457 : List CEnt := [(56,[some 5],r56)]
def VG3457 : Env := mkEnv T34 G34 lVG3457
theorem eVG3457 : EOk Try.prog VG3457 := eok_mk (by exact ⟨c56,trivial⟩)
def Af57 (F : Nat) : Cuts := { F := F,at_ := fun _ => none,join := fun _ => none }
def ef57_a : (List Int) × Int → St := fun (a0,a1) => { tmps := [(0,(.ptr 0 0 1 0 0 0 1)),(1,(.ptr 1 0 1 0 0 0 1))],heap := [(0,(.cells 1 (.one (.vs (.rI .u8 a0) 0 1)) true)),(1,(.cells 1 (.one (.int .i64 a1)) true))],next := 2,nt := 22,m := 2 }
def f57_1 (F : Nat) : (List Int) × Int → Rz := fun (a0,a1) => (cond (((decide (0 ≤ a1)) && (decide (a1 ≤ (↑a0.length : Int)))) && (decide ((↑a0.length : Int) ≤ (↑a0.length : Int)))) (some ((.tup (.cons 0 (.int .i64 (Wire.getInt ((a0.drop (Int.toNat a1)).take (a0.length - (Int.toNat a1)))).1) (.cons 0 (.int .i64 (IntKind.i64.wrap (a1 + (Wire.getInt ((a0.drop (Int.toNat a1)).take (a0.length - (Int.toNat a1)))).2.1))) (.cons 0 (.int .i64 (Wire.getInt ((a0.drop (Int.toNat a1)).take (a0.length - (Int.toNat a1)))).2.2) .nil)))),[(.cells 1 (.one (.vs (.rI .u8 a0) 0 1)) true),(.cells 1 (.one (.int .i64 (IntKind.i64.wrap (a1 + (Wire.getInt ((a0.drop (Int.toNat a1)).take (a0.length - (Int.toNat a1)))).2.1)))) true)])) none)
theorem f57_1_eq (F : Nat) : ∀ v,aexec VG3457 (Af57 F) (sub (bodyOf Try.f57) []) (ef57_a v) (kFin VG3457 none (Try.f57).results.toList) = f57_1 F v := by
  rintro ⟨a0,a1⟩; kernel_rfl
def f57 (F : Nat) : (List Int) × Int → Rz := f57_1 F
theorem f57_body (F : Nat) (a0 : List Int) (a1 : Int) : abody VG3457 (Af57 F) Try.f57 [(.ptr 0 0 1 0 0 0 1),(.ptr 1 0 1 0 0 0 1)] [(.cells 1 (.one (.vs (.rI .u8 a0) 0 1)) true),(.cells 1 (.one (.int .i64 a1)) true)] = f57 F (a0,a1) :=
  (abody_in (c := (sub (bodyOf Try.f57) [])) (by kernel_rfl) (s := ef57_a (a0,a1)) (by kernel_rfl)).trans (f57_1_eq F (a0,a1))
def r57 : CRun := fun X H => match X,H with
  | [(.ptr 0 0 1 0 0 0 1),(.ptr 1 0 1 0 0 0 1)],[(.cells 1 (.one (.vs (.rI .u8 a0) 0 1)) true),(.cells 1 (.one (.int .i64 a1)) true)] => some (((decide (0 ≤ a1)) && (decide (a1 ≤ (a0.length : Int)))),(.tup (.cons 0 (.int .i64 (Wire.getInt (a0.drop (Int.toNat a1))).1) (.cons 0 (.int .i64 (Wire.nextAt a0 a1)) (.cons 0 (.int .i64 (Wire.getInt (a0.drop (Int.toNat a1))).2.2) .nil)))),[(.cells 1 (.one (.vs (.rI .u8 a0) 0 1)) true),(.cells 1 (.one (.int .i64 (Wire.nextAt a0 a1))) true)])
  | _,_ => none
theorem s57 (a0 : List Int) (a1 : Int) (hp : (((decide (0 ≤ a1)) && (decide (a1 ≤ (a0.length : Int))))) = true) (k0 : okB (.cells 1 (.one (.vs (.rI .u8 a0) 0 1)) true)) (k1 : okB (.cells 1 (.one (.int .i64 a1)) true)) : ∃ F,f57 F (a0,a1) = some ((.tup (.cons 0 (.int .i64 (Wire.getInt (a0.drop (Int.toNat a1))).1) (.cons 0 (.int .i64 (Wire.nextAt a0 a1)) (.cons 0 (.int .i64 (Wire.getInt (a0.drop (Int.toNat a1))).2.2) .nil)))),[(.cells 1 (.one (.vs (.rI .u8 a0) 0 1)) true),(.cells 1 (.one (.int .i64 (Wire.nextAt a0 a1))) true)]) := by
  rw [dec_and,decide_eq_true_eq] at hp
  have hk : okC (.vs (.rI .u8 a0) 0 1) := k0.2.2 0 (by omega)
  have hb := Wire.okB_of hk.1
  have hl := hk.2
  have hr := Wire.getInt_rng (Wire.okBytes_drop hb a1.toNat)
  rw [List.length_drop] at hr
  refine ⟨0,?_⟩
  simp only [f57,f57_1,dec_and,Wire.nextAt]
  rw [cond_pos (by omega),List.take_of_length_le (by rw [List.length_drop]; exact Nat.le_refl _),i64w (by omega) (by omega)]

theorem c57 : CallOk Try.prog G34 57 r57 := callOk_of (V := VG3457) mixed tys eVG3457 (f := 57) (fn := Try.f57) Try.func57 (by kernel_rfl) (c := sub (bodyOf Try.f57) []) (by kernel_rfl) (by
  intro X H r H' h hX hH
  unfold r57 at h; split at h <;> try contradiction
  · simp only [Option.some.injEq,Prod.mk.injEq] at h
    obtain ⟨hp,rfl,rfl⟩ := h
    obtain ⟨F,hF⟩ := s57 _ _ hp (hH _ (.head _)) (hH _ (.tail _ (.head _)))
    exact ⟨Af57 F,(f57_body F _ _).trans hF⟩)
def lVG3453 : List CEnt := []
def VG3453 : Env := mkEnv T34 G34 lVG3453
theorem eVG3453 : EOk Try.prog VG3453 := eok_mk (by exact trivial)
def Af53 (F : Nat) : Cuts := { F := F,at_ := fun _ => none,join := fun _ => none }
def ef53_a : (List Int) × Int → St := fun (a0,a1) => { tmps := [(0,(.vs (.rI .u8 a0) 0 1)),(1,(.int .i64 a1))],heap := [],next := 0,nt := 6,m := 0 }
def f53_1 (F : Nat) : (List Int) × Int → Rz := fun (a0,a1) => (some ((.fn 57 (.cons 0 (.ptr 0 0 1 0 0 0 1) (.cons 0 (.ptr 1 0 1 0 0 0 1) .nil))),[(.cells 1 (.one (.vs (.rI .u8 a0) 0 1)) true),(.cells 1 (.one (.int .i64 a1)) true)]))
theorem f53_1_eq (F : Nat) : ∀ v,aexec VG3453 (Af53 F) (sub (bodyOf Try.f53) []) (ef53_a v) (kFin VG3453 none (Try.f53).results.toList) = f53_1 F v := by
  rintro ⟨a0,a1⟩; kernel_rfl
def f53 (F : Nat) : (List Int) × Int → Rz := f53_1 F
theorem f53_body (F : Nat) (a0 : List Int) (a1 : Int) : abody VG3453 (Af53 F) Try.f53 [(.vs (.rI .u8 a0) 0 1),(.int .i64 a1)] [] = f53 F (a0,a1) :=
  (abody_in (c := (sub (bodyOf Try.f53) [])) (by kernel_rfl) (s := ef53_a (a0,a1)) (by kernel_rfl)).trans (f53_1_eq F (a0,a1))
def r53 : CRun := fun X H => match X,H with
  | [(.vs (.rI .u8 a0) 0 1),(.int .i64 a1)],[] => some (true,(.fn 57 (.cons 0 (.ptr 0 0 1 0 0 0 1) (.cons 0 (.ptr 1 0 1 0 0 0 1) .nil))),[(.cells 1 (.one (.vs (.rI .u8 a0) 0 1)) true),(.cells 1 (.one (.int .i64 a1)) true)])
  | _,_ => none
theorem s53 (a0 : List Int) (a1 : Int) (h0 : okV (.vs (.rI .u8 a0) 0 1)) (h1 : okV (.int .i64 a1)) : ∃ F,f53 F (a0,a1) = some ((.fn 57 (.cons 0 (.ptr 0 0 1 0 0 0 1) (.cons 0 (.ptr 1 0 1 0 0 0 1) .nil))),[(.cells 1 (.one (.vs (.rI .u8 a0) 0 1)) true),(.cells 1 (.one (.int .i64 a1)) true)]) := ⟨0,rfl⟩

theorem c53 : CallOk Try.prog G34 53 r53 := callOk_of (V := VG3453) mixed tys eVG3453 (f := 53) (fn := Try.f53) Try.func53 (by kernel_rfl) (c := sub (bodyOf Try.f53) []) (by kernel_rfl) (by
  intro X H r H' h hX hH
  unfold r53 at h; split at h <;> try contradiction
  · simp only [Option.some.injEq,Prod.mk.injEq] at h
    obtain ⟨hp,rfl,rfl⟩ := h
    obtain ⟨F,hF⟩ := s53 _ _ (hX _ (.head _)) (hX _ (.tail _ (.head _)))
    exact ⟨Af53 F,(f53_body F _ _).trans hF⟩)
def lVG3446 : List CEnt := [(52,[some 5,none],r52),(53,[some 5,none],r53),(57,[none,none],r57)]
def VG3446 : Env := mkEnv T34 G34 lVG3446
theorem eVG3446 : EOk Try.prog VG3446 := eok_mk (by exact ⟨c52,c53,c57,trivial⟩)
def Af46 (F : Nat) : Cuts := { F := F,at_ := fun n => match n with | 7020 => some sp15 | _ => none,join := fun n => match n with | 1042 => some [(0,.plain)] | 2040 => some sp12 | 4032 => some sp11 | 5030 => some sp16 | 6028 => some sp17 | 7022 => some sp18 | 13003 => some [(6,.plain),(9,.plain)] | _ => none,fin := (some [(2,(.own 3)),(3,.plain),(4,.plain)]) }
def ef46_a : (List Int) → St := fun a0 => { tmps := [(0,(.vs (.rI .u8 a0) 0 1))],heap := [],next := 0,nt := 45,m := 0 }
def ef46j1 : (List Int) → St := fun t0 => { tmps := [(0,(.vs (.rI .u8 t0) 0 1))],heap := [],next := 0,nt := 45,m := 0 }
def ef46j2 : Ty5 → St := fun (t0,t5,t6,t7) => { tmps := [(0,(.vs (.rI .u8 t0) 0 1)),(5,(.int .i64 t5)),(6,(.int .i64 t6)),(7,(.int .i64 t7))],heap := [],next := 0,nt := 45,m := 0 }
def ef46j3 : (List Int) × Int × Int → St := fun (t0,t5,t6) => { tmps := [(0,(.vs (.rI .u8 t0) 0 1)),(5,(.int .i64 t5)),(6,(.int .i64 t6))],heap := [],next := 0,nt := 45,m := 0 }
def ef46j4 : Ty8 → St := fun (t5,t6,x3,x4) => { tmps := [(5,(.int .i64 t5)),(6,(.int .i64 t6)),(8,(.fn 57 (.cons 0 (.ptr 0 0 1 0 0 0 1) (.cons 0 (.ptr 1 0 1 0 0 0 1) .nil))))],heap := [(0,(.cells 1 (.one (.vs (.rI .u8 x3) 0 1)) true)),(1,(.cells 1 (.one (.int .i64 x4)) true))],next := 2,nt := 45,m := 0 }
def ef46j5 : Ty8 → St := fun (t5,t6,x3,x4) => { tmps := [(5,(.int .i64 t5)),(6,(.int .i64 t6)),(8,(.fn 57 (.cons 0 (.ptr 0 0 1 0 0 0 1) (.cons 0 (.ptr 1 0 1 0 0 0 1) .nil)))),(9,.ns)],heap := [(0,(.cells 1 (.one (.vs (.rI .u8 x3) 0 1)) true)),(1,(.cells 1 (.one (.int .i64 x4)) true))],next := 2,nt := 45,m := 0 }
def ef46j6 : Ty9 → St := fun (t6,t25,t26,x4,x5) => { tmps := [(6,(.int .i64 t6)),(8,(.fn 57 (.cons 0 (.ptr 0 0 1 0 0 0 1) (.cons 0 (.ptr 1 0 1 0 0 0 1) .nil)))),(9,.ns),(25,(.int .i64 t25)),(26,(.int .i64 t26))],heap := [(0,(.cells 1 (.one (.vs (.rI .u8 x4) 0 1)) true)),(1,(.cells 1 (.one (.int .i64 x5)) true))],next := 2,nt := 45,m := 0 }
def ef46l1 : Ty10 → St := fun (t6,t25,t26,x4,x5,x6) => { tmps := [(6,(.int .i64 t6)),(8,(.fn 57 (.cons 0 (.ptr 0 0 1 0 0 0 1) (.cons 0 (.ptr 1 0 1 0 0 0 1) .nil)))),(9,(.own 2 0 1)),(25,(.int .i64 t25)),(26,(.int .i64 t26))],heap := [(0,(.cells 1 (.one (.vs (.rI .u8 x4) 0 1)) true)),(1,(.cells 1 (.one (.int .i64 x5)) true)),(2,(.cells x6.length (.rI .i64 x6) true))],next := 3,nt := 45,m := 0 }
def ef46j7 : Int × (List Int) → St := fun (t6,x2) => { tmps := [(6,(.int .i64 t6)),(9,(.own 0 0 1))],heap := [(0,(.cells x2.length (.rI .i64 x2) true))],next := 1,nt := 45,m := 0 }
def f46_1 (F : Nat) (kf46j1 : (List Int) → Rz) : (List Int) → Rz := fun a0 => (kf46j1 a0)
theorem f46_1_eq (F : Nat) (Rf46j1 : St → Rz) : ∀ v,aexec VG3446 (Af46 F) (bp Try.f46 2) (ef46_a v) (kSeq (kc VG3446 Rf46j1 [(0,.plain)]) (kFin VG3446 (some [(2,(.own 3)),(3,.plain),(4,.plain)]) (Try.f46).results.toList)) = f46_1 F (Rf46j1 ∘ ef46j1) v := by
  intro a0; kernel_rfl
def f46_2 (F : Nat) (kf46j2 : Ty5 → Rz) : (List Int) → Rz := fun t0 => (cond (decide (0 < (1 : Int))) (kf46j2 (t0,(Wire.count t0 (1 : Int)).1,(Wire.count t0 (1 : Int)).2.1,(Wire.count t0 (1 : Int)).2.2)) none)
theorem f46_2_eq (F : Nat) (Rf46j2 : St → Rz) : ∀ v,aexec VG3446 (Af46 F) (bp Try.f46 6) (ef46j1 v) (kSeq (kc VG3446 Rf46j2 sp12) (kFin VG3446 (some [(2,(.own 3)),(3,.plain),(4,.plain)]) (Try.f46).results.toList)) = f46_2 F (Rf46j2 ∘ ef46j2) v := by
  intro t0; kernel_rfl
def f46_3 (F : Nat) (kf46j3 : (List Int) × Int × Int → Rz) : Ty5 → Rz := fun (t0,t5,t6,t7) => (cond (t7 != (0 : Int)) (some ((.tup (.cons 0 (.own 0 0 1) (.cons 0 (.int .i64 (0 : Int)) (.cons 0 (.int .i64 t7) .nil)))),[(.cells 0 (.rI .i64 []) true)])) (kf46j3 (t0,t5,t6)))
theorem f46_3_eq (F : Nat) (Rf46j3 : St → Rz) : ∀ v,aexec VG3446 (Af46 F) (bp Try.f46 14) (ef46j2 v) (kSeq (kc VG3446 Rf46j3 sp11) (kFin VG3446 (some [(2,(.own 3)),(3,.plain),(4,.plain)]) (Try.f46).results.toList)) = f46_3 F (Rf46j3 ∘ ef46j3) v := by
  rintro ⟨t0,t5,t6,t7⟩; kernel_rfl
def f46_4 (F : Nat) (kf46j4 : Ty8 → Rz) : (List Int) × Int × Int → Rz := fun (t0,t5,t6) => (kf46j4 (t5,t6,t0,t6))
theorem f46_4_eq (F : Nat) (Rf46j4 : St → Rz) : ∀ v,aexec VG3446 (Af46 F) (bp Try.f46 30) (ef46j3 v) (kSeq (kc VG3446 Rf46j4 sp16) (kFin VG3446 (some [(2,(.own 3)),(3,.plain),(4,.plain)]) (Try.f46).results.toList)) = f46_4 F (Rf46j4 ∘ ef46j4) v := by
  rintro ⟨t0,t5,t6⟩; kernel_rfl
def f46_5 (F : Nat) (kf46j5 : Ty8 → Rz) : Ty8 → Rz := fun (t5,t6,x3,x4) => (kf46j5 (t5,t6,x3,x4))
theorem f46_5_eq (F : Nat) (Rf46j5 : St → Rz) : ∀ v,aexec VG3446 (Af46 F) (bp Try.f46 62) (ef46j4 v) (kSeq (kc VG3446 Rf46j5 sp17) (kFin VG3446 (some [(2,(.own 3)),(3,.plain),(4,.plain)]) (Try.f46).results.toList)) = f46_5 F (Rf46j5 ∘ ef46j5) v := by
  rintro ⟨t5,t6,x3,x4⟩; kernel_rfl
def f46_6 (F : Nat) (kf46j6 : Ty9 → Rz) (kf46j7 : Int × (List Int) → Rz) : Ty8 → Rz := fun (t5,t6,x3,x4) => (kf46j6 (t6,t5,(0 : Int),x3,x4))
theorem f46_6_eq (F : Nat) (Rf46j6 : St → Rz) (Rf46j7 : St → Rz) : ∀ v,aexec VG3446 (Af46 F) (bp Try.f46 252) (ef46j5 v) (kSeq (kc VG3446 Rf46j6 sp18) (kSeq (kc VG3446 Rf46j7 [(6,.plain),(9,.plain)]) (kFin VG3446 (some [(2,(.own 3)),(3,.plain),(4,.plain)]) (Try.f46).results.toList))) = f46_6 F (Rf46j6 ∘ ef46j6) (Rf46j7 ∘ ef46j7) v := by
  rintro ⟨t5,t6,x3,x4⟩; kernel_rfl
def f46_7 (F : Nat) (kf46l1 : Ty10 → Rz) (kf46j7 : Int × (List Int) → Rz) : Ty10 → Rz := fun (t6,t25,t26,x4,x5,x6) => (cond (decide (t26 < t25)) (cond ((decide (0 ≤ x5)) && (decide (x5 ≤ (x4.length : Int)))) (cond ((Wire.getInt (x4.drop (Int.toNat x5))).2.2 != (0 : Int)) (some ((.tup (.cons 0 (.own 0 0 1) (.cons 0 (.int .i64 (0 : Int)) (.cons 0 (.int .i64 (Wire.getInt (x4.drop (Int.toNat x5))).2.2) .nil)))),[(.cells 0 (.rI .i64 []) true)])) (cond (decide ((x6.length + 1) < 1073741824)) (kf46l1 ((Wire.nextAt x4 x5),t25,(IntKind.i64.wrap (t26 + (1 : Int))),x4,(Wire.nextAt x4 x5),(x6 ++ [(Wire.getInt (x4.drop (Int.toNat x5))).1]))) none)) none) (kf46j7 (t6,x6)))
theorem f46_7_eq (F : Nat) (Rf46l1 : St → Rz) (Rf46j7 : St → Rz) : ∀ v,aexec VG3446 (Af46 F) (bp Try.f46 1012) (ef46l1 v) (kSeq (kc VG3446 Rf46l1 sp15) (kBlock 0 (kSeq (kc VG3446 Rf46j7 [(6,.plain),(9,.plain)]) (kFin VG3446 (some [(2,(.own 3)),(3,.plain),(4,.plain)]) (Try.f46).results.toList)))) = f46_7 F (Rf46l1 ∘ ef46l1) (Rf46j7 ∘ ef46j7) v := by
  rintro ⟨t6,t25,t26,x4,x5,x6⟩; kernel_rfl
def f46_8_i : Ty9 → Int × Int × Int × (List Int) × Int × (List Int) := fun (t6,t25,t26,x4,x5) => (t6,t25,t26,x4,x5,[])
def f46_8 (F : Nat) (kf46j7 : Int × (List Int) → Rz) : Ty9 → Rz := fun v => loopN (fun k => f46_7 F k kf46j7) F (f46_8_i v)
theorem f46_8_eq (F : Nat) (Rf46j7 : St → Rz) : ∀ v,aexec VG3446 (Af46 F) (bp Try.f46 506) (ef46j6 v) (kBlock 0 (kSeq (kc VG3446 Rf46j7 [(6,.plain),(9,.plain)]) (kFin VG3446 (some [(2,(.own 3)),(3,.plain),(4,.plain)]) (Try.f46).results.toList))) = f46_8 F (Rf46j7 ∘ ef46j7) v :=
  loop_cut (by kernel_rfl) (by kernel_rfl) ef46j6 ef46l1 _ f46_8_i (fun k => f46_7 F k (Rf46j7 ∘ ef46j7))
    (by rintro ⟨t6,t25,t26,x4,x5⟩; kernel_rfl) (fun Rf46l1 => f46_7_eq F Rf46l1 Rf46j7)
def f46_9 (F : Nat) (kf46j7 : Int × (List Int) → Rz) : Ty9 → Rz := f46_8 F kf46j7
theorem f46_9_eq (F : Nat) (Rf46j7 : St → Rz) : ∀ v,aexec VG3446 (Af46 F) (bp Try.f46 253) (ef46j6 v) (kSeq (kc VG3446 Rf46j7 [(6,.plain),(9,.plain)]) (kFin VG3446 (some [(2,(.own 3)),(3,.plain),(4,.plain)]) (Try.f46).results.toList)) = f46_9 F (Rf46j7 ∘ ef46j7) v := fun v =>
  (block_in  (by kernel_rfl) _ _).trans (f46_8_eq F Rf46j7 v)
def f46_10 (F : Nat) (kf46j7 : Int × (List Int) → Rz) : Ty8 → Rz := fun v => f46_6 F (f46_9 F kf46j7) kf46j7 v
theorem f46_10_eq (F : Nat) (Rf46j7 : St → Rz) : ∀ v,aexec VG3446 (Af46 F) (bp Try.f46 126) (ef46j5 v) (kSeq (kc VG3446 Rf46j7 [(6,.plain),(9,.plain)]) (kFin VG3446 (some [(2,(.own 3)),(3,.plain),(4,.plain)]) (Try.f46).results.toList)) = f46_10 F (Rf46j7 ∘ ef46j7) v :=
  seq_cut (by kernel_rfl) (by kernel_rfl) ef46j5 ef46j6 _ (fun k => f46_6 F k (Rf46j7 ∘ ef46j7)) (f46_9 F (Rf46j7 ∘ ef46j7))
    (fun Rf46j6 => f46_6_eq F Rf46j6 Rf46j7) (f46_9_eq F Rf46j7)
def f46_11 (F : Nat) : Int × (List Int) → Rz := fun (t6,x2) => (some ((.tup (.cons 0 (.own 0 0 1) (.cons 0 (.int .i64 t6) (.cons 0 (.int .i64 (0 : Int)) .nil)))),[(.cells x2.length (.rI .i64 x2) true)]))
theorem f46_11_eq (F : Nat) : ∀ v,aexec VG3446 (Af46 F) (bp Try.f46 127) (ef46j7 v) (kFin VG3446 (some [(2,(.own 3)),(3,.plain),(4,.plain)]) (Try.f46).results.toList) = f46_11 F v := by
  rintro ⟨t6,x2⟩; kernel_rfl
def f46_12 (F : Nat) : Ty8 → Rz := fun v => f46_10 F (f46_11 F) v
theorem f46_12_eq (F : Nat) : ∀ v,aexec VG3446 (Af46 F) (bp Try.f46 63) (ef46j5 v) (kFin VG3446 (some [(2,(.own 3)),(3,.plain),(4,.plain)]) (Try.f46).results.toList) = f46_12 F v :=
  seq_cut (by kernel_rfl) (by kernel_rfl) ef46j5 ef46j7 _ (fun k => f46_10 F k) (f46_11 F)
    (fun Rf46j7 => f46_10_eq F Rf46j7) (f46_11_eq F)
def f46_13 (F : Nat) : Ty8 → Rz := fun v => f46_5 F (f46_12 F) v
theorem f46_13_eq (F : Nat) : ∀ v,aexec VG3446 (Af46 F) (bp Try.f46 31) (ef46j4 v) (kFin VG3446 (some [(2,(.own 3)),(3,.plain),(4,.plain)]) (Try.f46).results.toList) = f46_13 F v :=
  seq_cut (by kernel_rfl) (by kernel_rfl) ef46j4 ef46j5 _ (fun k => f46_5 F k) (f46_12 F)
    (fun Rf46j5 => f46_5_eq F Rf46j5) (f46_12_eq F)
def f46_14 (F : Nat) : (List Int) × Int × Int → Rz := fun v => f46_4 F (f46_13 F) v
theorem f46_14_eq (F : Nat) : ∀ v,aexec VG3446 (Af46 F) (bp Try.f46 15) (ef46j3 v) (kFin VG3446 (some [(2,(.own 3)),(3,.plain),(4,.plain)]) (Try.f46).results.toList) = f46_14 F v :=
  seq_cut (by kernel_rfl) (by kernel_rfl) ef46j3 ef46j4 _ (fun k => f46_4 F k) (f46_13 F)
    (fun Rf46j4 => f46_4_eq F Rf46j4) (f46_13_eq F)
def f46_15 (F : Nat) : Ty5 → Rz := fun v => f46_3 F (f46_14 F) v
theorem f46_15_eq (F : Nat) : ∀ v,aexec VG3446 (Af46 F) (bp Try.f46 7) (ef46j2 v) (kFin VG3446 (some [(2,(.own 3)),(3,.plain),(4,.plain)]) (Try.f46).results.toList) = f46_15 F v :=
  seq_cut (by kernel_rfl) (by kernel_rfl) ef46j2 ef46j3 _ (fun k => f46_3 F k) (f46_14 F)
    (fun Rf46j3 => f46_3_eq F Rf46j3) (f46_14_eq F)
def f46_16 (F : Nat) : (List Int) → Rz := fun v => f46_2 F (f46_15 F) v
theorem f46_16_eq (F : Nat) : ∀ v,aexec VG3446 (Af46 F) (bp Try.f46 3) (ef46j1 v) (kFin VG3446 (some [(2,(.own 3)),(3,.plain),(4,.plain)]) (Try.f46).results.toList) = f46_16 F v :=
  seq_cut (by kernel_rfl) (by kernel_rfl) ef46j1 ef46j2 _ (fun k => f46_2 F k) (f46_15 F)
    (fun Rf46j2 => f46_2_eq F Rf46j2) (f46_15_eq F)
def f46_17 (F : Nat) : (List Int) → Rz := fun v => f46_1 F (f46_16 F) v
theorem f46_17_eq (F : Nat) : ∀ v,aexec VG3446 (Af46 F) (sub (bodyOf Try.f46) []) (ef46_a v) (kFin VG3446 (some [(2,(.own 3)),(3,.plain),(4,.plain)]) (Try.f46).results.toList) = f46_17 F v :=
  seq_cut (by kernel_rfl) (by kernel_rfl) ef46_a ef46j1 _ (fun k => f46_1 F k) (f46_16 F)
    (fun Rf46j1 => f46_1_eq F Rf46j1) (f46_16_eq F)
def f46 (F : Nat) : (List Int) → Rz := f46_17 F
theorem f46_body (F : Nat) (a0 : List Int) : abody VG3446 (Af46 F) Try.f46 [(.vs (.rI .u8 a0) 0 1)] [] = f46 F a0 :=
  (abody_in (c := (sub (bodyOf Try.f46) [])) (by kernel_rfl) (s := ef46_a a0) (by kernel_rfl)).trans (f46_17_eq F a0)
def r46 : CRun := fun X H => match X,H with
  | [(.vs (.rI .u8 a0) 0 1)],[] => some ((decide (a0.length < 1073741000)),(.tup (.cons 0 (.own 0 0 1) (.cons 0 (.int .i64 (Wire.getInts a0).2.1) (.cons 0 (.int .i64 (Wire.getInts a0).2.2) .nil)))),[(.cells (Wire.getInts a0).1.length (.rI .i64 (Wire.getInts a0).1) true)])
  | _,_ => none
theorem s46 (a0 : List Int) (hp : ((decide (a0.length < 1073741000))) = true) (h0 : okV (.vs (.rI .u8 a0) 0 1)) : ∃ F,f46 F a0 = some ((.tup (.cons 0 (.own 0 0 1) (.cons 0 (.int .i64 (Wire.getInts a0).2.1) (.cons 0 (.int .i64 (Wire.getInts a0).2.2) .nil)))),[(.cells (Wire.getInts a0).1.length (.rI .i64 (Wire.getInts a0).1) true)]) := by
  have hb := Wire.okB_of h0.1
  have hl : a0.length < 1073741000 := of_decide_eq_true hp
  refine ⟨a0.length + 1,?_⟩
  simp only [f46,f46_17,f46_1,f46_16,f46_2,f46_15,f46_3,f46_14,f46_4,f46_13,f46_5,f46_12,f46_10,f46_6,f46_9,f46_8,f46_8_i,int_bne]
  rw [cond_pos (by omega)]
  unfold Wire.getInts
  by_cases c : (Wire.count a0 1).2.2 = 0
  · obtain ⟨g1,g2,g3,g4,g5,g6,g7⟩ := Wire.count_ok hb (by omega) c
    rw [cond_neg (by omega),if_pos c,g2,g3]
    generalize (Wire.getInt a0).1 = n at *
    generalize (Wire.getInt a0).2.1 = at0 at *
    generalize hR : Wire.intsN a0 n.toNat at0 [] = R
    refine loopN_ind (fun m s => s.2.1 = n ∧ s.2.2.1 = ((n.toNat - m : Nat) : Int) ∧ s.2.2.2.1 = a0 ∧ s.2.2.2.2.1 = s.1 ∧ 0 ≤ s.1 ∧ s.1 ≤ (a0.length : Int) ∧ ((s.2.2.2.2.2.length : Nat) : Int) ≤ s.1 ∧ m ≤ n.toNat ∧ Wire.intsN a0 m s.1 s.2.2.2.2.2 = R) ?_ _ n.toNat _ (by omega) ⟨rfl,by simp,rfl,rfl,by simp only []; omega,by simp only []; omega,by simp only [List.length_nil]; omega,Nat.le_refl _,hR⟩
    rintro m ⟨t6,n',i,b,at',acc⟩ k ⟨e1,e2,e3,e4,e5,e6,e7,hm,e8⟩ hk
    simp only at e1 e2 e3 e4 e5 e6 e7 e8
    subst e1; subst e2; subst e3; subst e4
    simp only [f46_7,dec_and,int_bne]
    cases m with
    | zero =>
      rw [cond_neg (by omega)]
      simp only [Wire.intsN] at e8
      subst e8
      rfl
    | succ m =>
      have hr := Wire.getInt_rng (Wire.okBytes_drop hb at'.toNat)
      rw [List.length_drop] at hr
      simp only [Wire.intsN] at e8
      rw [cond_pos (by omega),cond_pos (by omega)]
      by_cases ce : (Wire.getInt (b.drop at'.toNat)).2.2 = 0
      · rw [if_pos ce] at e8
        have h1 := hr.2.2.2.2.1 ce
        rw [cond_neg (fun e => e ce),cond_pos (by omega),i64w (by omega) (by omega)]
        refine hk m _ (by omega) ⟨rfl,by simp only []; omega,rfl,rfl,?_,?_,?_,by omega,e8⟩ <;> simp only [Wire.nextAt,List.length_append,List.length_singleton] <;> omega
      · rw [if_neg ce] at e8
        rw [cond_pos ce,← e8]
        rfl
  · rw [cond_pos c,if_neg c]; rfl

theorem c46 : CallOk Try.prog G34 46 r46 := callOk_of (V := VG3446) mixed tys eVG3446 (f := 46) (fn := Try.f46) Try.func46 (by kernel_rfl) (c := sub (bodyOf Try.f46) []) (by kernel_rfl) (by
  intro X H r H' h hX hH
  unfold r46 at h; split at h <;> try contradiction
  · simp only [Option.some.injEq,Prod.mk.injEq] at h
    obtain ⟨hp,rfl,rfl⟩ := h
    obtain ⟨F,hF⟩ := s46 _ hp (hX _ (.head _))
    exact ⟨Af46 F,(f46_body F _).trans hF⟩)
def lVG3449 : List CEnt := [(54,[some 5,none],r54),(55,[some 5],r55)]
def VG3449 : Env := mkEnv T34 G34 lVG3449
theorem eVG3449 : EOk Try.prog VG3449 := eok_mk (by exact ⟨c54,c55,trivial⟩)
def Af49 (F : Nat) : Cuts := { F := F,at_ := fun n => match n with | 6022 => some sp19 | _ => none,join := fun n => match n with | 1042 => some [(0,.plain)] | 2040 => some sp12 | 4032 => some sp11 | 5030 => some sp20 | 6024 => some sp21 | 13003 => some [(6,.plain),(8,.plain)] | _ => none,fin := (some [(2,(.own 3)),(3,.plain),(4,.plain)]) }
def ef49_a : (List Int) → St := fun a0 => { tmps := [(0,(.vs (.rI .u8 a0) 0 1))],heap := [],next := 0,nt := 47,m := 0 }
def ef49j1 : (List Int) → St := fun t0 => { tmps := [(0,(.vs (.rI .u8 t0) 0 1))],heap := [],next := 0,nt := 47,m := 0 }
def ef49j2 : Ty5 → St := fun (t0,t5,t6,t7) => { tmps := [(0,(.vs (.rI .u8 t0) 0 1)),(5,(.int .i64 t5)),(6,(.int .i64 t6)),(7,(.int .i64 t7))],heap := [],next := 0,nt := 47,m := 0 }
def ef49j3 : (List Int) × Int × Int → St := fun (t0,t5,t6) => { tmps := [(0,(.vs (.rI .u8 t0) 0 1)),(5,(.int .i64 t5)),(6,(.int .i64 t6))],heap := [],next := 0,nt := 47,m := 0 }
def ef49j4 : (List Int) × Int × Int → St := fun (t0,t5,t6) => { tmps := [(0,(.vs (.rI .u8 t0) 0 1)),(5,(.int .i64 t5)),(6,(.int .i64 t6)),(8,.ns)],heap := [],next := 0,nt := 47,m := 0 }
def ef49j5 : Ty5 → St := fun (t0,t5,t6,t9) => { tmps := [(0,(.vs (.rI .u8 t0) 0 1)),(5,(.int .i64 t5)),(6,(.int .i64 t6)),(8,.ns),(9,(.int .i64 t9))],heap := [],next := 0,nt := 47,m := 0 }
def ef49l1 : Ty11 → St := fun (t0,t5,t6,t9,x5) => { tmps := [(0,(.vs (.rI .u8 t0) 0 1)),(5,(.int .i64 t5)),(6,(.int .i64 t6)),(8,(.own 0 0 1)),(9,(.int .i64 t9))],heap := [(0,(.cells x5.length (.rI .i64 x5) true))],next := 1,nt := 47,m := 0 }
def ef49j6 : Int × (List Int) → St := fun (t6,x2) => { tmps := [(6,(.int .i64 t6)),(8,(.own 0 0 1))],heap := [(0,(.cells x2.length (.rI .i64 x2) true))],next := 1,nt := 47,m := 0 }
def f49_1 (F : Nat) (kf49j1 : (List Int) → Rz) : (List Int) → Rz := fun a0 => (kf49j1 a0)
theorem f49_1_eq (F : Nat) (Rf49j1 : St → Rz) : ∀ v,aexec VG3449 (Af49 F) (bp Try.f49 2) (ef49_a v) (kSeq (kc VG3449 Rf49j1 [(0,.plain)]) (kFin VG3449 (some [(2,(.own 3)),(3,.plain),(4,.plain)]) (Try.f49).results.toList)) = f49_1 F (Rf49j1 ∘ ef49j1) v := by
  intro a0; kernel_rfl
def f49_2 (F : Nat) (kf49j2 : Ty5 → Rz) : (List Int) → Rz := fun t0 => (cond (((decide (0 < (1 : Int))) && (decide ((1 : Int) ≤ 16))) && (decide (t0.length < 1073741000))) (kf49j2 (t0,(Wire.rcount t0 (1 : Int)).1,(Wire.rcount t0 (1 : Int)).2.1,(Wire.rcount t0 (1 : Int)).2.2)) none)
theorem f49_2_eq (F : Nat) (Rf49j2 : St → Rz) : ∀ v,aexec VG3449 (Af49 F) (bp Try.f49 6) (ef49j1 v) (kSeq (kc VG3449 Rf49j2 sp12) (kFin VG3449 (some [(2,(.own 3)),(3,.plain),(4,.plain)]) (Try.f49).results.toList)) = f49_2 F (Rf49j2 ∘ ef49j2) v := by
  intro t0; kernel_rfl
def f49_3 (F : Nat) (kf49j3 : (List Int) × Int × Int → Rz) : Ty5 → Rz := fun (t0,t5,t6,t7) => (cond (t7 != (0 : Int)) (some ((.tup (.cons 0 (.own 0 0 1) (.cons 0 (.int .i64 (0 : Int)) (.cons 0 (.int .i64 t7) .nil)))),[(.cells 0 (.rI .i64 []) true)])) (kf49j3 (t0,t5,t6)))
theorem f49_3_eq (F : Nat) (Rf49j3 : St → Rz) : ∀ v,aexec VG3449 (Af49 F) (bp Try.f49 14) (ef49j2 v) (kSeq (kc VG3449 Rf49j3 sp11) (kFin VG3449 (some [(2,(.own 3)),(3,.plain),(4,.plain)]) (Try.f49).results.toList)) = f49_3 F (Rf49j3 ∘ ef49j3) v := by
  rintro ⟨t0,t5,t6,t7⟩; kernel_rfl
def f49_4 (F : Nat) (kf49j4 : (List Int) × Int × Int → Rz) : (List Int) × Int × Int → Rz := fun (t0,t5,t6) => (kf49j4 (t0,t5,t6))
theorem f49_4_eq (F : Nat) (Rf49j4 : St → Rz) : ∀ v,aexec VG3449 (Af49 F) (bp Try.f49 30) (ef49j3 v) (kSeq (kc VG3449 Rf49j4 sp20) (kFin VG3449 (some [(2,(.own 3)),(3,.plain),(4,.plain)]) (Try.f49).results.toList)) = f49_4 F (Rf49j4 ∘ ef49j4) v := by
  rintro ⟨t0,t5,t6⟩; kernel_rfl
def f49_5 (F : Nat) (kf49j5 : Ty5 → Rz) (kf49j6 : Int × (List Int) → Rz) : (List Int) × Int × Int → Rz := fun (t0,t5,t6) => (kf49j5 (t0,t5,t6,(0 : Int)))
theorem f49_5_eq (F : Nat) (Rf49j5 : St → Rz) (Rf49j6 : St → Rz) : ∀ v,aexec VG3449 (Af49 F) (bp Try.f49 124) (ef49j4 v) (kSeq (kc VG3449 Rf49j5 sp21) (kSeq (kc VG3449 Rf49j6 [(6,.plain),(8,.plain)]) (kFin VG3449 (some [(2,(.own 3)),(3,.plain),(4,.plain)]) (Try.f49).results.toList))) = f49_5 F (Rf49j5 ∘ ef49j5) (Rf49j6 ∘ ef49j6) v := by
  rintro ⟨t0,t5,t6⟩; kernel_rfl
def f49_6 (F : Nat) (kf49l1 : Ty11 → Rz) (kf49j6 : Int × (List Int) → Rz) : Ty11 → Rz := fun (t0,t5,t6,t9,x5) => (cond (decide (t9 < t5)) (cond (((decide (0 ≤ t6)) && (decide (t6 ≤ (↑t0.length : Int)))) && (decide ((↑t0.length : Int) ≤ (↑t0.length : Int)))) (cond ((Wire.getInt ((t0.drop (Int.toNat t6)).take (t0.length - (Int.toNat t6)))).2.2 != (0 : Int)) (some ((.tup (.cons 0 (.own 0 0 1) (.cons 0 (.int .i64 (0 : Int)) (.cons 0 (.int .i64 (Wire.getInt ((t0.drop (Int.toNat t6)).take (t0.length - (Int.toNat t6)))).2.2) .nil)))),[(.cells 0 (.rI .i64 []) true)])) (cond (decide ((x5.length + 1) < 1073741824)) (kf49l1 (t0,t5,(IntKind.i64.wrap (t6 + (Wire.getInt ((t0.drop (Int.toNat t6)).take (t0.length - (Int.toNat t6)))).2.1)),(IntKind.i64.wrap (t9 + (1 : Int))),(x5 ++ [(Wire.getInt ((t0.drop (Int.toNat t6)).take (t0.length - (Int.toNat t6)))).1]))) none)) none) (kf49j6 (t6,x5)))
theorem f49_6_eq (F : Nat) (Rf49l1 : St → Rz) (Rf49j6 : St → Rz) : ∀ v,aexec VG3449 (Af49 F) (bp Try.f49 500) (ef49l1 v) (kSeq (kc VG3449 Rf49l1 sp19) (kBlock 0 (kSeq (kc VG3449 Rf49j6 [(6,.plain),(8,.plain)]) (kFin VG3449 (some [(2,(.own 3)),(3,.plain),(4,.plain)]) (Try.f49).results.toList)))) = f49_6 F (Rf49l1 ∘ ef49l1) (Rf49j6 ∘ ef49j6) v := by
  rintro ⟨t0,t5,t6,t9,x5⟩; kernel_rfl
def f49_7_i : Ty5 → (List Int) × Int × Int × Int × (List Int) := fun (t0,t5,t6,t9) => (t0,t5,t6,t9,[])
def f49_7 (F : Nat) (kf49j6 : Int × (List Int) → Rz) : Ty5 → Rz := fun v => loopN (fun k => f49_6 F k kf49j6) F (f49_7_i v)
theorem f49_7_eq (F : Nat) (Rf49j6 : St → Rz) : ∀ v,aexec VG3449 (Af49 F) (bp Try.f49 250) (ef49j5 v) (kBlock 0 (kSeq (kc VG3449 Rf49j6 [(6,.plain),(8,.plain)]) (kFin VG3449 (some [(2,(.own 3)),(3,.plain),(4,.plain)]) (Try.f49).results.toList))) = f49_7 F (Rf49j6 ∘ ef49j6) v :=
  loop_cut (by kernel_rfl) (by kernel_rfl) ef49j5 ef49l1 _ f49_7_i (fun k => f49_6 F k (Rf49j6 ∘ ef49j6))
    (by rintro ⟨t0,t5,t6,t9⟩; kernel_rfl) (fun Rf49l1 => f49_6_eq F Rf49l1 Rf49j6)
def f49_8 (F : Nat) (kf49j6 : Int × (List Int) → Rz) : Ty5 → Rz := f49_7 F kf49j6
theorem f49_8_eq (F : Nat) (Rf49j6 : St → Rz) : ∀ v,aexec VG3449 (Af49 F) (bp Try.f49 125) (ef49j5 v) (kSeq (kc VG3449 Rf49j6 [(6,.plain),(8,.plain)]) (kFin VG3449 (some [(2,(.own 3)),(3,.plain),(4,.plain)]) (Try.f49).results.toList)) = f49_8 F (Rf49j6 ∘ ef49j6) v := fun v =>
  (block_in  (by kernel_rfl) _ _).trans (f49_7_eq F Rf49j6 v)
def f49_9 (F : Nat) (kf49j6 : Int × (List Int) → Rz) : (List Int) × Int × Int → Rz := fun v => f49_5 F (f49_8 F kf49j6) kf49j6 v
theorem f49_9_eq (F : Nat) (Rf49j6 : St → Rz) : ∀ v,aexec VG3449 (Af49 F) (bp Try.f49 62) (ef49j4 v) (kSeq (kc VG3449 Rf49j6 [(6,.plain),(8,.plain)]) (kFin VG3449 (some [(2,(.own 3)),(3,.plain),(4,.plain)]) (Try.f49).results.toList)) = f49_9 F (Rf49j6 ∘ ef49j6) v :=
  seq_cut (by kernel_rfl) (by kernel_rfl) ef49j4 ef49j5 _ (fun k => f49_5 F k (Rf49j6 ∘ ef49j6)) (f49_8 F (Rf49j6 ∘ ef49j6))
    (fun Rf49j5 => f49_5_eq F Rf49j5 Rf49j6) (f49_8_eq F Rf49j6)
def f49_10 (F : Nat) : Int × (List Int) → Rz := fun (t6,x2) => (some ((.tup (.cons 0 (.own 0 0 1) (.cons 0 (.int .i64 t6) (.cons 0 (.int .i64 (0 : Int)) .nil)))),[(.cells x2.length (.rI .i64 x2) true)]))
theorem f49_10_eq (F : Nat) : ∀ v,aexec VG3449 (Af49 F) (bp Try.f49 63) (ef49j6 v) (kFin VG3449 (some [(2,(.own 3)),(3,.plain),(4,.plain)]) (Try.f49).results.toList) = f49_10 F v := by
  rintro ⟨t6,x2⟩; kernel_rfl
def f49_11 (F : Nat) : (List Int) × Int × Int → Rz := fun v => f49_9 F (f49_10 F) v
theorem f49_11_eq (F : Nat) : ∀ v,aexec VG3449 (Af49 F) (bp Try.f49 31) (ef49j4 v) (kFin VG3449 (some [(2,(.own 3)),(3,.plain),(4,.plain)]) (Try.f49).results.toList) = f49_11 F v :=
  seq_cut (by kernel_rfl) (by kernel_rfl) ef49j4 ef49j6 _ (fun k => f49_9 F k) (f49_10 F)
    (fun Rf49j6 => f49_9_eq F Rf49j6) (f49_10_eq F)
def f49_12 (F : Nat) : (List Int) × Int × Int → Rz := fun v => f49_4 F (f49_11 F) v
theorem f49_12_eq (F : Nat) : ∀ v,aexec VG3449 (Af49 F) (bp Try.f49 15) (ef49j3 v) (kFin VG3449 (some [(2,(.own 3)),(3,.plain),(4,.plain)]) (Try.f49).results.toList) = f49_12 F v :=
  seq_cut (by kernel_rfl) (by kernel_rfl) ef49j3 ef49j4 _ (fun k => f49_4 F k) (f49_11 F)
    (fun Rf49j4 => f49_4_eq F Rf49j4) (f49_11_eq F)
def f49_13 (F : Nat) : Ty5 → Rz := fun v => f49_3 F (f49_12 F) v
theorem f49_13_eq (F : Nat) : ∀ v,aexec VG3449 (Af49 F) (bp Try.f49 7) (ef49j2 v) (kFin VG3449 (some [(2,(.own 3)),(3,.plain),(4,.plain)]) (Try.f49).results.toList) = f49_13 F v :=
  seq_cut (by kernel_rfl) (by kernel_rfl) ef49j2 ef49j3 _ (fun k => f49_3 F k) (f49_12 F)
    (fun Rf49j3 => f49_3_eq F Rf49j3) (f49_12_eq F)
def f49_14 (F : Nat) : (List Int) → Rz := fun v => f49_2 F (f49_13 F) v
theorem f49_14_eq (F : Nat) : ∀ v,aexec VG3449 (Af49 F) (bp Try.f49 3) (ef49j1 v) (kFin VG3449 (some [(2,(.own 3)),(3,.plain),(4,.plain)]) (Try.f49).results.toList) = f49_14 F v :=
  seq_cut (by kernel_rfl) (by kernel_rfl) ef49j1 ef49j2 _ (fun k => f49_2 F k) (f49_13 F)
    (fun Rf49j2 => f49_2_eq F Rf49j2) (f49_13_eq F)
def f49_15 (F : Nat) : (List Int) → Rz := fun v => f49_1 F (f49_14 F) v
theorem f49_15_eq (F : Nat) : ∀ v,aexec VG3449 (Af49 F) (sub (bodyOf Try.f49) []) (ef49_a v) (kFin VG3449 (some [(2,(.own 3)),(3,.plain),(4,.plain)]) (Try.f49).results.toList) = f49_15 F v :=
  seq_cut (by kernel_rfl) (by kernel_rfl) ef49_a ef49j1 _ (fun k => f49_1 F k) (f49_14 F)
    (fun Rf49j1 => f49_1_eq F Rf49j1) (f49_14_eq F)
def f49 (F : Nat) : (List Int) → Rz := f49_15 F
theorem f49_body (F : Nat) (a0 : List Int) : abody VG3449 (Af49 F) Try.f49 [(.vs (.rI .u8 a0) 0 1)] [] = f49 F a0 :=
  (abody_in (c := (sub (bodyOf Try.f49) [])) (by kernel_rfl) (s := ef49_a a0) (by kernel_rfl)).trans (f49_15_eq F a0)
def r49 : CRun := fun X H => match X,H with
  | [(.vs (.rI .u8 a0) 0 1)],[] => some ((decide (a0.length < 1073741000)),(.tup (.cons 0 (.own 0 0 1) (.cons 0 (.int .i64 (Wire.getInts a0).2.1) (.cons 0 (.int .i64 (Wire.getInts a0).2.2) .nil)))),[(.cells (Wire.getInts a0).1.length (.rI .i64 (Wire.getInts a0).1) true)])
  | _,_ => none
theorem s49 (a0 : List Int) (hp : ((decide (a0.length < 1073741000))) = true) (h0 : okV (.vs (.rI .u8 a0) 0 1)) : ∃ F,f49 F a0 = some ((.tup (.cons 0 (.own 0 0 1) (.cons 0 (.int .i64 (Wire.getInts a0).2.1) (.cons 0 (.int .i64 (Wire.getInts a0).2.2) .nil)))),[(.cells (Wire.getInts a0).1.length (.rI .i64 (Wire.getInts a0).1) true)]) := by
  have hb := Wire.okB_of h0.1
  have hl : a0.length < 1073741000 := of_decide_eq_true hp
  refine ⟨a0.length + 1,?_⟩
  simp only [f49,f49_15,f49_1,f49_14,f49_2,f49_13,f49_3,f49_12,f49_4,f49_11,f49_9,f49_5,f49_8,f49_7,f49_7_i,int_bne,dec_and,Wire.rcount_err]
  rw [cond_pos (by omega)]
  unfold Wire.getInts
  by_cases c : (Wire.count a0 1).2.2 = 0
  · obtain ⟨g1,g2,g3,g4,g5,g6,g7⟩ := Wire.count_ok hb (by omega) c
    rw [cond_neg (by omega),if_pos c,Wire.rcount_ok c,g2,g3]
    generalize (Wire.getInt a0).1 = n at *
    generalize (Wire.getInt a0).2.1 = at0 at *
    generalize hR : Wire.intsN a0 n.toNat at0 [] = R
    refine loopN_ind (fun m s => s.1 = a0 ∧ s.2.1 = n ∧ s.2.2.2.1 = ((n.toNat - m : Nat) : Int) ∧ 0 ≤ s.2.2.1 ∧ s.2.2.1 ≤ (a0.length : Int) ∧ ((s.2.2.2.2.length : Nat) : Int) ≤ s.2.2.1 ∧ m ≤ n.toNat ∧ Wire.intsN a0 m s.2.2.1 s.2.2.2.2 = R) ?_ _ n.toNat _ (by omega) ⟨rfl,rfl,by simp,by simp only []; omega,by simp only []; omega,by simp only [List.length_nil]; omega,Nat.le_refl _,hR⟩
    rintro m ⟨b,n',at',i,acc⟩ k ⟨e1,e2,e3,e5,e6,e7,hm,e8⟩ hk
    simp only at e1 e2 e3 e5 e6 e7 e8
    subst e1; subst e2; subst e3
    simp only [f49_6,dec_and,int_bne,Wire.drop_all]
    cases m with
    | zero =>
      rw [cond_neg (by omega)]
      simp only [Wire.intsN] at e8
      subst e8
      rfl
    | succ m =>
      have hr := Wire.getInt_rng (Wire.okBytes_drop hb at'.toNat)
      rw [List.length_drop] at hr
      simp only [Wire.intsN] at e8
      rw [cond_pos (by omega),cond_pos (by omega)]
      by_cases ce : (Wire.getInt (b.drop at'.toNat)).2.2 = 0
      · rw [if_pos ce] at e8
        have h1 := hr.2.2.2.2.1 ce
        rw [cond_neg (fun e => e ce),cond_pos (by omega),i64w (x := at' + _) (by omega) (by omega),i64w (by omega) (by omega)]
        refine hk m _ (by omega) ⟨rfl,rfl,by simp only []; omega,?_,?_,?_,by omega,e8⟩ <;> simp only [List.length_append,List.length_singleton] <;> omega
      · rw [if_neg ce] at e8
        rw [cond_pos ce,← e8]
        rfl
  · rw [cond_pos c,if_neg c]; rfl

theorem c49 : CallOk Try.prog G34 49 r49 := callOk_of (V := VG3449) mixed tys eVG3449 (f := 49) (fn := Try.f49) Try.func49 (by kernel_rfl) (c := sub (bodyOf Try.f49) []) (by kernel_rfl) (by
  intro X H r H' h hX hH
  unfold r49 at h; split at h <;> try contradiction
  · simp only [Option.some.injEq,Prod.mk.injEq] at h
    obtain ⟨hp,rfl,rfl⟩ := h
    obtain ⟨F,hF⟩ := s49 _ hp (hX _ (.head _))
    exact ⟨Af49 F,(f49_body F _).trans hF⟩)
end Go.Am
