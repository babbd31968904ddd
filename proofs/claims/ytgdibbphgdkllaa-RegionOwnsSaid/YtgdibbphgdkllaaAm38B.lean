/- Part of a proof about the functions of the given program. -/
import Derived.Test.YtgdibbphgdkllaaAm38A
set_option linter.unusedVariables false
set_option linter.unusedSimpArgs false
namespace Go.Am
open Go Go.Proofs

/-! gantry/region.valid$1 -/
def lVG3856 : List CEnt := []
def VG3856 : Env := mkEnv T38 G38 lVG3856
theorem eVG3856 : EOk Try.prog VG3856 := eok_mk (by exact trivial)
def Af56 (F : Nat) : Cuts := { F := F, at_ := fun _ => none, join := fun _ => none }
def ef56_a : Int × (List Bool) → St := fun (a0, a1) => { tmps := [(0, (.int .i64 a0)), (1, (.ptr 0 0 1 0 0 0 1))], heap := [(0, (.cells 1 (.one (.vs (.rB a1) 0 1)) true))], next := 1, nt := 12, m := 1 }
def f56_nt (F : Nat) : Int × (List Bool) → Option (AV × List Blk) := fun (a0, a1) => (cond (decide (a0 < (-1 : Int))) (some ((.bool true), [(.cells 1 (.one (.vs (.rB a1) 0 1)) true)])) (some ((.bool (decide (a0 ≥ (↑a1.length : Int)))), [(.cells 1 (.one (.vs (.rB a1) 0 1)) true)])))
theorem f56_nt_eq (F : Nat) : ∀ v, aexec VG3856 (Af56 F) (sub (bodyOf Try.f56) []) (ef56_a v) (kFin VG3856 none (Try.f56).results.toList) = f56_nt F v := by
  rintro ⟨a0, a1⟩; kernel_rfl
/-- gantry/region.valid$1 -/
def f56 (F : Nat) : Int × (List Bool) → Option (AV × List Blk) := f56_nt F
theorem f56_body (F : Nat) (a0 : Int) (a1 : List Bool) : abody VG3856 (Af56 F) Try.f56 [(.int .i64 a0), (.ptr 0 0 1 0 0 0 1)] [(.cells 1 (.one (.vs (.rB a1) 0 1)) true)] = f56 F (a0, a1) :=
  (abody_in (c := (sub (bodyOf Try.f56) [])) (by kernel_rfl) (s := ef56_a (a0, a1)) (by kernel_rfl)).trans (f56_nt_eq F (a0, a1))
def r56 : CRun := fun X H => match X, H with
  | [(.int .i64 a0), (.ptr 0 0 1 0 0 0 1)], [(.cells 1 (.one (.vs (.rB a1) 0 1)) true)] => some (true, (.bool (!(Reg.okO a1.length a0))), [(.cells 1 (.one (.vs (.rB a1) 0 1)) true)])
  | _, _ => none
theorem s56 (a0 : Int) (a1 : List Bool) (h0 : okV (.int .i64 a0)) (k0 : okB (.cells 1 (.one (.vs (.rB a1) 0 1)) true)) : ∃ F, f56 F (a0, a1) = some ((.bool (!(Reg.okO a1.length a0))), [(.cells 1 (.one (.vs (.rB a1) 0 1)) true)]) := by
  refine ⟨0, ?_⟩
  simp only [f56, f56_nt, Reg.okO, dec_and, dec_not]
  by_cases h : a0 < -1
  · rw [cond_pos h, decide_eq_true (by omega)]
  · rw [cond_neg h]
    have e : decide (a0 ≥ (a1.length : Int)) = decide (¬ (-1 ≤ a0 ∧ a0 < (a1.length : Int))) := by rw [Bool.eq_iff_iff]; simp only [decide_eq_true_eq]; omega
    rw [e]

theorem c56 : CallOk Try.prog G38 56 r56 := callOk_of (V := VG3856) mixed tys eVG3856 (f := 56) (fn := Try.f56) Try.func56 (by kernel_rfl) (c := sub (bodyOf Try.f56) []) (by kernel_rfl) (by
  intro X H r H' h hX hH
  unfold r56 at h; split at h <;> try contradiction
  · simp only [Option.some.injEq, Prod.mk.injEq] at h
    obtain ⟨hp, rfl, rfl⟩ := h
    obtain ⟨F, hF⟩ := s56 _ _ (hX _ (.head _)) (hH _ (.head _))
    exact ⟨Af56 F, (f56_body F _ _).trans hF⟩)
/-! gantry/region.Take$1 -/
def lVG3846 : List CEnt := []
def VG3846 : Env := mkEnv T38 G38 lVG3846
theorem eVG3846 : EOk Try.prog VG3846 := eok_mk (by exact trivial)
def Af46 (F : Nat) : Cuts := { F := F, at_ := fun _ => none, join := fun _ => none }
def ef46_a : Int × (List Int) × Int → St := fun (a0, a1, a2) => { tmps := [(0, (.int .i64 a0)), (1, (.ptr 0 0 1 0 0 0 1)), (2, (.ptr 1 0 1 0 0 0 1))], heap := [(0, (.cells 1 (.one (.vs (.rI .i64 a1) 0 1)) true)), (1, (.cells 1 (.one (.int .i64 a2)) true))], next := 2, nt := 11, m := 2 }
def f46_nt (F : Nat) : Int × (List Int) × Int → Option (AV × List Blk) := fun (a0, a1, a2) => (cond ((decide (0 ≤ a0)) && (decide (a0 < (↑a1.length : Int)))) (some ((.bool ((a1.getD (Int.toNat a0) 0) == a2)), [(.cells 1 (.one (.vs (.rI .i64 a1) 0 1)) true), (.cells 1 (.one (.int .i64 a2)) true)])) none)
theorem f46_nt_eq (F : Nat) : ∀ v, aexec VG3846 (Af46 F) (sub (bodyOf Try.f46) []) (ef46_a v) (kFin VG3846 none (Try.f46).results.toList) = f46_nt F v := by
  rintro ⟨a0, a1, a2⟩; kernel_rfl
/-- gantry/region.Take$1 -/
def f46 (F : Nat) : Int × (List Int) × Int → Option (AV × List Blk) := f46_nt F
theorem f46_body (F : Nat) (a0 : Int) (a1 : List Int) (a2 : Int) : abody VG3846 (Af46 F) Try.f46 [(.int .i64 a0), (.ptr 0 0 1 0 0 0 1), (.ptr 1 0 1 0 0 0 1)] [(.cells 1 (.one (.vs (.rI .i64 a1) 0 1)) true), (.cells 1 (.one (.int .i64 a2)) true)] = f46 F (a0, a1, a2) :=
  (abody_in (c := (sub (bodyOf Try.f46) [])) (by kernel_rfl) (s := ef46_a (a0, a1, a2)) (by kernel_rfl)).trans (f46_nt_eq F (a0, a1, a2))
def r46 : CRun := fun X H => match X, H with
  | [(.int .i64 a0), (.ptr 0 0 1 0 0 0 1), (.ptr 1 0 1 0 0 0 1)], [(.cells 1 (.one (.vs (.rI .i64 a1) 0 1)) true), (.cells 1 (.one (.int .i64 a2)) true)] => some (((decide (0 ≤ a0)) && (decide (a0 < (a1.length : Int)))), (.bool (a1.getD (Int.toNat a0) 0 == a2)), [(.cells 1 (.one (.vs (.rI .i64 a1) 0 1)) true), (.cells 1 (.one (.int .i64 a2)) true)])
  | _, _ => none
theorem s46 (a0 : Int) (a1 : List Int) (a2 : Int) (hp : (((decide (0 ≤ a0)) && (decide (a0 < (a1.length : Int))))) = true) (h0 : okV (.int .i64 a0)) (k0 : okB (.cells 1 (.one (.vs (.rI .i64 a1) 0 1)) true)) (k1 : okB (.cells 1 (.one (.int .i64 a2)) true)) : ∃ F, f46 F (a0, a1, a2) = some ((.bool (a1.getD (Int.toNat a0) 0 == a2)), [(.cells 1 (.one (.vs (.rI .i64 a1) 0 1)) true), (.cells 1 (.one (.int .i64 a2)) true)]) := by
  refine ⟨0, ?_⟩
  simp only [f46, f46_nt, hp, cond_true]

theorem c46 : CallOk Try.prog G38 46 r46 := callOk_of (V := VG3846) mixed tys eVG3846 (f := 46) (fn := Try.f46) Try.func46 (by kernel_rfl) (c := sub (bodyOf Try.f46) []) (by kernel_rfl) (by
  intro X H r H' h hX hH
  unfold r46 at h; split at h <;> try contradiction
  · simp only [Option.some.injEq, Prod.mk.injEq] at h
    obtain ⟨hp, rfl, rfl⟩ := h
    obtain ⟨F, hF⟩ := s46 _ _ _ hp (hX _ (.head _)) (hH _ (.head _)) (hH _ (.tail _ (.head _)))
    exact ⟨Af46 F, (f46_body F _ _ _).trans hF⟩)
/-! slices.IndexFunc[[]int,int] -/
def lVG3859 : List CEnt := [(46, [none, none, none], r46), (56, [none, none], r56)]
def VG3859 : Env := mkEnv T38 G38 lVG3859
theorem eVG3859 : EOk Try.prog VG3859 := eok_mk (by exact ⟨c46, c56, trivial⟩)
def Af59 (F : Nat) : Cuts := { F := F, at_ := fun n => match n with | 2018 => some [(0, .plain), (1, .plain), (7, .plain), (8, .plain)] | _ => none, join := fun n => match n with | 1026 => some [(0, .plain), (1, .plain)] | 2020 => some [(0, .plain), (1, .plain), (7, .plain), (8, .plain)] | 7003 => some [] | _ => none }
def ef59_a : (List Int) × (List Bool) → St := fun (a0, a1) => { tmps := [(0, (.vs (.rI .i64 a0) 0 1)), (1, (.fn 56 (.cons 0 (.ptr 0 0 1 0 0 0 1) .nil)))], heap := [(0, (.cells 1 (.one (.vs (.rB a1) 0 1)) true))], next := 1, nt := 19, m := 1 }
def ef59_j1026 : (List Int) × (List Bool) → St := fun (t0, x2) => { tmps := [(0, (.vs (.rI .i64 t0) 0 1)), (1, (.fn 56 (.cons 0 (.ptr 0 0 1 0 0 0 1) .nil)))], heap := [(0, (.cells 1 (.one (.vs (.rB x2) 0 1)) true))], next := 1, nt := 19, m := 1 }
def ef59_j2020 : (List Int) × Int × Int × (List Bool) → St := fun (t0, t7, t8, x4) => { tmps := [(0, (.vs (.rI .i64 t0) 0 1)), (1, (.fn 56 (.cons 0 (.ptr 0 0 1 0 0 0 1) .nil))), (7, (.int .i64 t7)), (8, (.int .i64 t8))], heap := [(0, (.cells 1 (.one (.vs (.rB x4) 0 1)) true))], next := 1, nt := 19, m := 1 }
def ef59_l2018 : (List Int) × Int × Int × (List Bool) → St := fun (t0, t7, t8, x4) => { tmps := [(0, (.vs (.rI .i64 t0) 0 1)), (1, (.fn 56 (.cons 0 (.ptr 0 0 1 0 0 0 1) .nil))), (7, (.int .i64 t7)), (8, (.int .i64 t8))], heap := [(0, (.cells 1 (.one (.vs (.rB x4) 0 1)) true))], next := 1, nt := 19, m := 1 }
def ef59_j7003 : (List Bool) → St := fun x1 => { tmps := [], heap := [(0, (.cells 1 (.one (.vs (.rB x1) 0 1)) true))], next := 1, nt := 19, m := 1 }
def f59_n0 (F : Nat) (kf59_j1026 : (List Int) × (List Bool) → Option (AV × List Blk)) : (List Int) × (List Bool) → Option (AV × List Blk) := fun (a0, a1) => (kf59_j1026 (a0, a1))
theorem f59_n0_eq (F : Nat) (Rf59_j1026 : St → Option (AV × List Blk)) : ∀ v, aexec VG3859 (Af59 F) (sub (bodyOf Try.f59) [0]) (ef59_a v) (kSeq (fun s => Rf59_j1026 (cutTo VG3859 (some [(0, .plain), (1, .plain)]) s)) (kFin VG3859 none (Try.f59).results.toList)) = f59_n0 F (fun w => Rf59_j1026 (ef59_j1026 w)) v := by
  rintro ⟨a0, a1⟩; kernel_rfl
def f59_n100 (F : Nat) (kf59_j2020 : (List Int) × Int × Int × (List Bool) → Option (AV × List Blk)) (kf59_j7003 : (List Bool) → Option (AV × List Blk)) : (List Int) × (List Bool) → Option (AV × List Blk) := fun (t0, x2) => (kf59_j2020 (t0, (↑t0.length : Int), (0 : Int), x2))
theorem f59_n100_eq (F : Nat) (Rf59_j2020 : St → Option (AV × List Blk)) (Rf59_j7003 : St → Option (AV × List Blk)) : ∀ v, aexec VG3859 (Af59 F) (sub (bodyOf Try.f59) [1, 0, 0]) (ef59_j1026 v) (kSeq (fun s => Rf59_j2020 (cutTo VG3859 (some [(0, .plain), (1, .plain), (7, .plain), (8, .plain)]) s)) (kSeq (fun s => Rf59_j7003 (cutTo VG3859 (some []) s)) (kFin VG3859 none (Try.f59).results.toList))) = f59_n100 F (fun w => Rf59_j2020 (ef59_j2020 w)) (fun w => Rf59_j7003 (ef59_j7003 w)) v := by
  rintro ⟨t0, x2⟩; kernel_rfl
def f59_n10100 (F : Nat) (kf59_l2018 : (List Int) × Int × Int × (List Bool) → Option (AV × List Blk)) (kf59_j7003 : (List Bool) → Option (AV × List Blk)) : (List Int) × Int × Int × (List Bool) → Option (AV × List Blk) := fun (t0, t7, t8, x4) => (cond (decide (t8 < t7)) (cond ((decide (0 ≤ t8)) && (decide (t8 < (↑t0.length : Int)))) (cond (!(Reg.okO x4.length (t0.getD (Int.toNat t8) 0))) (some ((.int .i64 t8), [(.cells 1 (.one (.vs (.rB x4) 0 1)) true)])) (kf59_l2018 (t0, t7, (IntKind.i64.wrap (t8 + (1 : Int))), x4))) none) (kf59_j7003 x4))
theorem f59_n10100_eq (F : Nat) (Rf59_l2018 : St → Option (AV × List Blk)) (Rf59_j7003 : St → Option (AV × List Blk)) : ∀ v, aexec VG3859 (Af59 F) (sub (bodyOf Try.f59) [1, 0, 1, 0, 0]) (ef59_l2018 v) (kSeq (fun s => Rf59_l2018 (cutTo VG3859 (some [(0, .plain), (1, .plain), (7, .plain), (8, .plain)]) s)) (kBlock 0 (kSeq (fun s => Rf59_j7003 (cutTo VG3859 (some []) s)) (kFin VG3859 none (Try.f59).results.toList)))) = f59_n10100 F (fun w => Rf59_l2018 (ef59_l2018 w)) (fun w => Rf59_j7003 (ef59_j7003 w)) v := by
  rintro ⟨t0, t7, t8, x4⟩; kernel_rfl
def f59_n1010_i : (List Int) × Int × Int × (List Bool) → (List Int) × Int × Int × (List Bool) := fun (t0, t7, t8, x4) => (t0, t7, t8, x4)
def f59_n1010 (F : Nat) (kf59_j7003 : (List Bool) → Option (AV × List Blk)) : (List Int) × Int × Int × (List Bool) → Option (AV × List Blk) := fun v => loopN (fun k => f59_n10100 F k kf59_j7003) F (f59_n1010_i v)
theorem f59_n1010_eq (F : Nat) (Rf59_j7003 : St → Option (AV × List Blk)) : ∀ v, aexec VG3859 (Af59 F) (sub (bodyOf Try.f59) [1, 0, 1, 0]) (ef59_j2020 v) (kBlock 0 (kSeq (fun s => Rf59_j7003 (cutTo VG3859 (some []) s)) (kFin VG3859 none (Try.f59).results.toList))) = f59_n1010 F (fun w => Rf59_j7003 (ef59_j7003 w)) v :=
  loop_cut (c := (sub (bodyOf Try.f59) [1, 0, 1, 0])) (d := (sub (bodyOf Try.f59) [1, 0, 1, 0, 0])) (by kernel_rfl) (spec := [(0, .plain), (1, .plain), (7, .plain), (8, .plain)]) (by kernel_rfl) ef59_j2020 ef59_l2018 (kBlock 0 (kSeq (fun s => Rf59_j7003 (cutTo VG3859 (some []) s)) (kFin VG3859 none (Try.f59).results.toList))) f59_n1010_i (fun k => f59_n10100 F k (fun w => Rf59_j7003 (ef59_j7003 w)))
    (by rintro ⟨t0, t7, t8, x4⟩; kernel_rfl) (fun Rf59_l2018 => f59_n10100_eq F Rf59_l2018 Rf59_j7003)
def f59_n101 (F : Nat) (kf59_j7003 : (List Bool) → Option (AV × List Blk)) : (List Int) × Int × Int × (List Bool) → Option (AV × List Blk) := f59_n1010 F kf59_j7003
theorem f59_n101_eq (F : Nat) (Rf59_j7003 : St → Option (AV × List Blk)) : ∀ v, aexec VG3859 (Af59 F) (sub (bodyOf Try.f59) [1, 0, 1]) (ef59_j2020 v) (kSeq (fun s => Rf59_j7003 (cutTo VG3859 (some []) s)) (kFin VG3859 none (Try.f59).results.toList)) = f59_n101 F (fun w => Rf59_j7003 (ef59_j7003 w)) v := fun v =>
  (block_in (c := (sub (bodyOf Try.f59) [1, 0, 1])) (d := (sub (bodyOf Try.f59) [1, 0, 1, 0])) (id := 0) (by kernel_rfl) _ _).trans (f59_n1010_eq F Rf59_j7003 v)
def f59_n10 (F : Nat) (kf59_j7003 : (List Bool) → Option (AV × List Blk)) : (List Int) × (List Bool) → Option (AV × List Blk) := fun v => f59_n100 F (f59_n101 F kf59_j7003) kf59_j7003 v
theorem f59_n10_eq (F : Nat) (Rf59_j7003 : St → Option (AV × List Blk)) : ∀ v, aexec VG3859 (Af59 F) (sub (bodyOf Try.f59) [1, 0]) (ef59_j1026 v) (kSeq (fun s => Rf59_j7003 (cutTo VG3859 (some []) s)) (kFin VG3859 none (Try.f59).results.toList)) = f59_n10 F (fun w => Rf59_j7003 (ef59_j7003 w)) v :=
  seq_cut (c := (sub (bodyOf Try.f59) [1, 0])) (a := (sub (bodyOf Try.f59) [1, 0, 0])) (b := (sub (bodyOf Try.f59) [1, 0, 1])) (by kernel_rfl) (spec := [(0, .plain), (1, .plain), (7, .plain), (8, .plain)]) (by kernel_rfl) ef59_j1026 ef59_j2020 (kSeq (fun s => Rf59_j7003 (cutTo VG3859 (some []) s)) (kFin VG3859 none (Try.f59).results.toList)) (fun k => f59_n100 F k (fun w => Rf59_j7003 (ef59_j7003 w))) (f59_n101 F (fun w => Rf59_j7003 (ef59_j7003 w)))
    (fun Rf59_j2020 => f59_n100_eq F Rf59_j2020 Rf59_j7003) (f59_n101_eq F Rf59_j7003)
def f59_n11 (F : Nat) : (List Bool) → Option (AV × List Blk) := fun x1 => (some ((.int .i64 (-1 : Int)), [(.cells 1 (.one (.vs (.rB x1) 0 1)) true)]))
theorem f59_n11_eq (F : Nat) : ∀ v, aexec VG3859 (Af59 F) (sub (bodyOf Try.f59) [1, 1]) (ef59_j7003 v) (kFin VG3859 none (Try.f59).results.toList) = f59_n11 F v := by
  intro x1; kernel_rfl
def f59_n1 (F : Nat) : (List Int) × (List Bool) → Option (AV × List Blk) := fun v => f59_n10 F (f59_n11 F) v
theorem f59_n1_eq (F : Nat) : ∀ v, aexec VG3859 (Af59 F) (sub (bodyOf Try.f59) [1]) (ef59_j1026 v) (kFin VG3859 none (Try.f59).results.toList) = f59_n1 F v :=
  seq_cut (c := (sub (bodyOf Try.f59) [1])) (a := (sub (bodyOf Try.f59) [1, 0])) (b := (sub (bodyOf Try.f59) [1, 1])) (by kernel_rfl) (spec := []) (by kernel_rfl) ef59_j1026 ef59_j7003 (kFin VG3859 none (Try.f59).results.toList) (fun k => f59_n10 F k) (f59_n11 F)
    (fun Rf59_j7003 => f59_n10_eq F Rf59_j7003) (f59_n11_eq F)
def f59_nt (F : Nat) : (List Int) × (List Bool) → Option (AV × List Blk) := fun v => f59_n0 F (f59_n1 F) v
theorem f59_nt_eq (F : Nat) : ∀ v, aexec VG3859 (Af59 F) (sub (bodyOf Try.f59) []) (ef59_a v) (kFin VG3859 none (Try.f59).results.toList) = f59_nt F v :=
  seq_cut (c := (sub (bodyOf Try.f59) [])) (a := (sub (bodyOf Try.f59) [0])) (b := (sub (bodyOf Try.f59) [1])) (by kernel_rfl) (spec := [(0, .plain), (1, .plain)]) (by kernel_rfl) ef59_a ef59_j1026 (kFin VG3859 none (Try.f59).results.toList) (fun k => f59_n0 F k) (f59_n1 F)
    (fun Rf59_j1026 => f59_n0_eq F Rf59_j1026) (f59_n1_eq F)
/-- slices.IndexFunc[[]int,int] -/
def f59 (F : Nat) : (List Int) × (List Bool) → Option (AV × List Blk) := f59_nt F
theorem f59_body (F : Nat) (a0 : List Int) (a1 : List Bool) : abody VG3859 (Af59 F) Try.f59 [(.vs (.rI .i64 a0) 0 1), (.fn 56 (.cons 0 (.ptr 0 0 1 0 0 0 1) .nil))] [(.cells 1 (.one (.vs (.rB a1) 0 1)) true)] = f59 F (a0, a1) :=
  (abody_in (c := (sub (bodyOf Try.f59) [])) (by kernel_rfl) (s := ef59_a (a0, a1)) (by kernel_rfl)).trans (f59_nt_eq F (a0, a1))
def Af59b (F : Nat) : Cuts := { F := F, at_ := fun n => match n with | 2018 => some [(0, .plain), (1, .plain), (7, .plain), (8, .plain)] | _ => none, join := fun n => match n with | 1026 => some [(0, .plain), (1, .plain)] | 2020 => some [(0, .plain), (1, .plain), (7, .plain), (8, .plain)] | 7003 => some [] | _ => none }
def ef59b_a : (List Int) × (List Int) × Int → St := fun (a0, a1, a2) => { tmps := [(0, (.vs (.rI .i64 a0) 0 1)), (1, (.fn 46 (.cons 0 (.ptr 0 0 1 0 0 0 1) (.cons 0 (.ptr 1 0 1 0 0 0 1) .nil))))], heap := [(0, (.cells 1 (.one (.vs (.rI .i64 a1) 0 1)) true)), (1, (.cells 1 (.one (.int .i64 a2)) true))], next := 2, nt := 19, m := 2 }
def ef59b_j1026 : (List Int) × (List Int) × Int → St := fun (t0, x2, x3) => { tmps := [(0, (.vs (.rI .i64 t0) 0 1)), (1, (.fn 46 (.cons 0 (.ptr 0 0 1 0 0 0 1) (.cons 0 (.ptr 1 0 1 0 0 0 1) .nil))))], heap := [(0, (.cells 1 (.one (.vs (.rI .i64 x2) 0 1)) true)), (1, (.cells 1 (.one (.int .i64 x3)) true))], next := 2, nt := 19, m := 2 }
def ef59b_j2020 : (List Int) × Int × Int × (List Int) × Int → St := fun (t0, t7, t8, x4, x5) => { tmps := [(0, (.vs (.rI .i64 t0) 0 1)), (1, (.fn 46 (.cons 0 (.ptr 0 0 1 0 0 0 1) (.cons 0 (.ptr 1 0 1 0 0 0 1) .nil)))), (7, (.int .i64 t7)), (8, (.int .i64 t8))], heap := [(0, (.cells 1 (.one (.vs (.rI .i64 x4) 0 1)) true)), (1, (.cells 1 (.one (.int .i64 x5)) true))], next := 2, nt := 19, m := 2 }
def ef59b_l2018 : (List Int) × Int × Int × (List Int) × Int → St := fun (t0, t7, t8, x4, x5) => { tmps := [(0, (.vs (.rI .i64 t0) 0 1)), (1, (.fn 46 (.cons 0 (.ptr 0 0 1 0 0 0 1) (.cons 0 (.ptr 1 0 1 0 0 0 1) .nil)))), (7, (.int .i64 t7)), (8, (.int .i64 t8))], heap := [(0, (.cells 1 (.one (.vs (.rI .i64 x4) 0 1)) true)), (1, (.cells 1 (.one (.int .i64 x5)) true))], next := 2, nt := 19, m := 2 }
def ef59b_j7003 : (List Int) × Int → St := fun (x1, x2) => { tmps := [], heap := [(0, (.cells 1 (.one (.vs (.rI .i64 x1) 0 1)) true)), (1, (.cells 1 (.one (.int .i64 x2)) true))], next := 2, nt := 19, m := 2 }
def f59b_n0 (F : Nat) (kf59b_j1026 : (List Int) × (List Int) × Int → Option (AV × List Blk)) : (List Int) × (List Int) × Int → Option (AV × List Blk) := fun (a0, a1, a2) => (kf59b_j1026 (a0, a1, a2))
theorem f59b_n0_eq (F : Nat) (Rf59b_j1026 : St → Option (AV × List Blk)) : ∀ v, aexec VG3859 (Af59b F) (sub (bodyOf Try.f59) [0]) (ef59b_a v) (kSeq (fun s => Rf59b_j1026 (cutTo VG3859 (some [(0, .plain), (1, .plain)]) s)) (kFin VG3859 none (Try.f59).results.toList)) = f59b_n0 F (fun w => Rf59b_j1026 (ef59b_j1026 w)) v := by
  rintro ⟨a0, a1, a2⟩; kernel_rfl
def f59b_n100 (F : Nat) (kf59b_j2020 : (List Int) × Int × Int × (List Int) × Int → Option (AV × List Blk)) (kf59b_j7003 : (List Int) × Int → Option (AV × List Blk)) : (List Int) × (List Int) × Int → Option (AV × List Blk) := fun (t0, x2, x3) => (kf59b_j2020 (t0, (↑t0.length : Int), (0 : Int), x2, x3))
theorem f59b_n100_eq (F : Nat) (Rf59b_j2020 : St → Option (AV × List Blk)) (Rf59b_j7003 : St → Option (AV × List Blk)) : ∀ v, aexec VG3859 (Af59b F) (sub (bodyOf Try.f59) [1, 0, 0]) (ef59b_j1026 v) (kSeq (fun s => Rf59b_j2020 (cutTo VG3859 (some [(0, .plain), (1, .plain), (7, .plain), (8, .plain)]) s)) (kSeq (fun s => Rf59b_j7003 (cutTo VG3859 (some []) s)) (kFin VG3859 none (Try.f59).results.toList))) = f59b_n100 F (fun w => Rf59b_j2020 (ef59b_j2020 w)) (fun w => Rf59b_j7003 (ef59b_j7003 w)) v := by
  rintro ⟨t0, x2, x3⟩; kernel_rfl
def f59b_n10100 (F : Nat) (kf59b_l2018 : (List Int) × Int × Int × (List Int) × Int → Option (AV × List Blk)) (kf59b_j7003 : (List Int) × Int → Option (AV × List Blk)) : (List Int) × Int × Int × (List Int) × Int → Option (AV × List Blk) := fun (t0, t7, t8, x4, x5) => (cond (decide (t8 < t7)) (cond ((decide (0 ≤ t8)) && (decide (t8 < (↑t0.length : Int)))) (cond ((decide (0 ≤ (t0.getD (Int.toNat t8) 0))) && (decide ((t0.getD (Int.toNat t8) 0) < (x4.length : Int)))) (cond (x4.getD (Int.toNat (t0.getD (Int.toNat t8) 0)) 0 == x5) (some ((.int .i64 t8), [(.cells 1 (.one (.vs (.rI .i64 x4) 0 1)) true), (.cells 1 (.one (.int .i64 x5)) true)])) (kf59b_l2018 (t0, t7, (IntKind.i64.wrap (t8 + (1 : Int))), x4, x5))) none) none) (kf59b_j7003 (x4, x5)))
theorem f59b_n10100_eq (F : Nat) (Rf59b_l2018 : St → Option (AV × List Blk)) (Rf59b_j7003 : St → Option (AV × List Blk)) : ∀ v, aexec VG3859 (Af59b F) (sub (bodyOf Try.f59) [1, 0, 1, 0, 0]) (ef59b_l2018 v) (kSeq (fun s => Rf59b_l2018 (cutTo VG3859 (some [(0, .plain), (1, .plain), (7, .plain), (8, .plain)]) s)) (kBlock 0 (kSeq (fun s => Rf59b_j7003 (cutTo VG3859 (some []) s)) (kFin VG3859 none (Try.f59).results.toList)))) = f59b_n10100 F (fun w => Rf59b_l2018 (ef59b_l2018 w)) (fun w => Rf59b_j7003 (ef59b_j7003 w)) v := by
  rintro ⟨t0, t7, t8, x4, x5⟩; kernel_rfl
def f59b_n1010_i : (List Int) × Int × Int × (List Int) × Int → (List Int) × Int × Int × (List Int) × Int := fun (t0, t7, t8, x4, x5) => (t0, t7, t8, x4, x5)
def f59b_n1010 (F : Nat) (kf59b_j7003 : (List Int) × Int → Option (AV × List Blk)) : (List Int) × Int × Int × (List Int) × Int → Option (AV × List Blk) := fun v => loopN (fun k => f59b_n10100 F k kf59b_j7003) F (f59b_n1010_i v)
theorem f59b_n1010_eq (F : Nat) (Rf59b_j7003 : St → Option (AV × List Blk)) : ∀ v, aexec VG3859 (Af59b F) (sub (bodyOf Try.f59) [1, 0, 1, 0]) (ef59b_j2020 v) (kBlock 0 (kSeq (fun s => Rf59b_j7003 (cutTo VG3859 (some []) s)) (kFin VG3859 none (Try.f59).results.toList))) = f59b_n1010 F (fun w => Rf59b_j7003 (ef59b_j7003 w)) v :=
  loop_cut (c := (sub (bodyOf Try.f59) [1, 0, 1, 0])) (d := (sub (bodyOf Try.f59) [1, 0, 1, 0, 0])) (by kernel_rfl) (spec := [(0, .plain), (1, .plain), (7, .plain), (8, .plain)]) (by kernel_rfl) ef59b_j2020 ef59b_l2018 (kBlock 0 (kSeq (fun s => Rf59b_j7003 (cutTo VG3859 (some []) s)) (kFin VG3859 none (Try.f59).results.toList))) f59b_n1010_i (fun k => f59b_n10100 F k (fun w => Rf59b_j7003 (ef59b_j7003 w)))
    (by rintro ⟨t0, t7, t8, x4, x5⟩; kernel_rfl) (fun Rf59b_l2018 => f59b_n10100_eq F Rf59b_l2018 Rf59b_j7003)
def f59b_n101 (F : Nat) (kf59b_j7003 : (List Int) × Int → Option (AV × List Blk)) : (List Int) × Int × Int × (List Int) × Int → Option (AV × List Blk) := f59b_n1010 F kf59b_j7003
theorem f59b_n101_eq (F : Nat) (Rf59b_j7003 : St → Option (AV × List Blk)) : ∀ v, aexec VG3859 (Af59b F) (sub (bodyOf Try.f59) [1, 0, 1]) (ef59b_j2020 v) (kSeq (fun s => Rf59b_j7003 (cutTo VG3859 (some []) s)) (kFin VG3859 none (Try.f59).results.toList)) = f59b_n101 F (fun w => Rf59b_j7003 (ef59b_j7003 w)) v := fun v =>
  (block_in (c := (sub (bodyOf Try.f59) [1, 0, 1])) (d := (sub (bodyOf Try.f59) [1, 0, 1, 0])) (id := 0) (by kernel_rfl) _ _).trans (f59b_n1010_eq F Rf59b_j7003 v)
def f59b_n10 (F : Nat) (kf59b_j7003 : (List Int) × Int → Option (AV × List Blk)) : (List Int) × (List Int) × Int → Option (AV × List Blk) := fun v => f59b_n100 F (f59b_n101 F kf59b_j7003) kf59b_j7003 v
theorem f59b_n10_eq (F : Nat) (Rf59b_j7003 : St → Option (AV × List Blk)) : ∀ v, aexec VG3859 (Af59b F) (sub (bodyOf Try.f59) [1, 0]) (ef59b_j1026 v) (kSeq (fun s => Rf59b_j7003 (cutTo VG3859 (some []) s)) (kFin VG3859 none (Try.f59).results.toList)) = f59b_n10 F (fun w => Rf59b_j7003 (ef59b_j7003 w)) v :=
  seq_cut (c := (sub (bodyOf Try.f59) [1, 0])) (a := (sub (bodyOf Try.f59) [1, 0, 0])) (b := (sub (bodyOf Try.f59) [1, 0, 1])) (by kernel_rfl) (spec := [(0, .plain), (1, .plain), (7, .plain), (8, .plain)]) (by kernel_rfl) ef59b_j1026 ef59b_j2020 (kSeq (fun s => Rf59b_j7003 (cutTo VG3859 (some []) s)) (kFin VG3859 none (Try.f59).results.toList)) (fun k => f59b_n100 F k (fun w => Rf59b_j7003 (ef59b_j7003 w))) (f59b_n101 F (fun w => Rf59b_j7003 (ef59b_j7003 w)))
    (fun Rf59b_j2020 => f59b_n100_eq F Rf59b_j2020 Rf59b_j7003) (f59b_n101_eq F Rf59b_j7003)
def f59b_n11 (F : Nat) : (List Int) × Int → Option (AV × List Blk) := fun (x1, x2) => (some ((.int .i64 (-1 : Int)), [(.cells 1 (.one (.vs (.rI .i64 x1) 0 1)) true), (.cells 1 (.one (.int .i64 x2)) true)]))
theorem f59b_n11_eq (F : Nat) : ∀ v, aexec VG3859 (Af59b F) (sub (bodyOf Try.f59) [1, 1]) (ef59b_j7003 v) (kFin VG3859 none (Try.f59).results.toList) = f59b_n11 F v := by
  rintro ⟨x1, x2⟩; kernel_rfl
def f59b_n1 (F : Nat) : (List Int) × (List Int) × Int → Option (AV × List Blk) := fun v => f59b_n10 F (f59b_n11 F) v
theorem f59b_n1_eq (F : Nat) : ∀ v, aexec VG3859 (Af59b F) (sub (bodyOf Try.f59) [1]) (ef59b_j1026 v) (kFin VG3859 none (Try.f59).results.toList) = f59b_n1 F v :=
  seq_cut (c := (sub (bodyOf Try.f59) [1])) (a := (sub (bodyOf Try.f59) [1, 0])) (b := (sub (bodyOf Try.f59) [1, 1])) (by kernel_rfl) (spec := []) (by kernel_rfl) ef59b_j1026 ef59b_j7003 (kFin VG3859 none (Try.f59).results.toList) (fun k => f59b_n10 F k) (f59b_n11 F)
    (fun Rf59b_j7003 => f59b_n10_eq F Rf59b_j7003) (f59b_n11_eq F)
def f59b_nt (F : Nat) : (List Int) × (List Int) × Int → Option (AV × List Blk) := fun v => f59b_n0 F (f59b_n1 F) v
theorem f59b_nt_eq (F : Nat) : ∀ v, aexec VG3859 (Af59b F) (sub (bodyOf Try.f59) []) (ef59b_a v) (kFin VG3859 none (Try.f59).results.toList) = f59b_nt F v :=
  seq_cut (c := (sub (bodyOf Try.f59) [])) (a := (sub (bodyOf Try.f59) [0])) (b := (sub (bodyOf Try.f59) [1])) (by kernel_rfl) (spec := [(0, .plain), (1, .plain)]) (by kernel_rfl) ef59b_a ef59b_j1026 (kFin VG3859 none (Try.f59).results.toList) (fun k => f59b_n0 F k) (f59b_n1 F)
    (fun Rf59b_j1026 => f59b_n0_eq F Rf59b_j1026) (f59b_n1_eq F)
/-- slices.IndexFunc[[]int,int] -/
def f59b (F : Nat) : (List Int) × (List Int) × Int → Option (AV × List Blk) := f59b_nt F
theorem f59b_body (F : Nat) (a0 : List Int) (a1 : List Int) (a2 : Int) : abody VG3859 (Af59b F) Try.f59 [(.vs (.rI .i64 a0) 0 1), (.fn 46 (.cons 0 (.ptr 0 0 1 0 0 0 1) (.cons 0 (.ptr 1 0 1 0 0 0 1) .nil)))] [(.cells 1 (.one (.vs (.rI .i64 a1) 0 1)) true), (.cells 1 (.one (.int .i64 a2)) true)] = f59b F (a0, a1, a2) :=
  (abody_in (c := (sub (bodyOf Try.f59) [])) (by kernel_rfl) (s := ef59b_a (a0, a1, a2)) (by kernel_rfl)).trans (f59b_nt_eq F (a0, a1, a2))
def r59 : CRun := fun X H => match X, H with
  | [(.vs (.rI .i64 a0) 0 1), (.fn 56 (.cons 0 (.ptr 0 0 1 0 0 0 1) .nil))], [(.cells 1 (.one (.vs (.rB a1) 0 1)) true)] => some (true, (.int .i64 (Reg.idx (fun o => !(Reg.okO a1.length o)) a0)), [(.cells 1 (.one (.vs (.rB a1) 0 1)) true)])
  | [(.vs (.rI .i64 a0) 0 1), (.fn 46 (.cons 0 (.ptr 0 0 1 0 0 0 1) (.cons 0 (.ptr 1 0 1 0 0 0 1) .nil)))], [(.cells 1 (.one (.vs (.rI .i64 a1) 0 1)) true), (.cells 1 (.one (.int .i64 a2)) true)] => some ((Reg.inr a1.length a0), (.int .i64 (Reg.idx (fun d => a1.getD (Int.toNat d) 0 == a2) a0)), [(.cells 1 (.one (.vs (.rI .i64 a1) 0 1)) true), (.cells 1 (.one (.int .i64 a2)) true)])
  | _, _ => none
theorem s59 (a0 : List Int) (a1 : List Bool) (h0 : okV (.vs (.rI .i64 a0) 0 1)) (k0 : okB (.cells 1 (.one (.vs (.rB a1) 0 1)) true)) : ∃ F, f59 F (a0, a1) = some ((.int .i64 (Reg.idx (fun o => !(Reg.okO a1.length o)) a0)), [(.cells 1 (.one (.vs (.rB a1) 0 1)) true)]) := by
  have hlen := h0.2
  refine ⟨a0.length + 1, ?_⟩
  simp only [f59, f59_nt, f59_n0, f59_n1, f59_n10, f59_n100, f59_n101, f59_n1010, f59_n1010_i]
  have hb : a0.length < 4611686018427387904 := hlen
  refine (loopN_scan (fun i => (a0, (a0.length : Int), (i : Int), a1)) a0.length (fun i => if (!(Reg.okO a1.length (a0.getD i 0))) = true then some (some (AV.int .i64 (i : Int), [(Blk.cells 1 (.one (.vs (.rB a1) 0 1)) true)])) else none) (some (AV.int .i64 (-1), [(Blk.cells 1 (.one (.vs (.rB a1) 0 1)) true)])) (by rfl) (fun i hi k => ?_) (fun k => ?_) _ (by omega)).trans ?_
  · simp only [f59_n10100, dec_and]
    rw [cond_pos (by omega), cond_pos (by omega), Int.toNat_natCast, i64w (by omega) (by omega)]
    cases (!(Reg.okO a1.length (a0.getD i 0))) <;> rfl
  · simp only [f59_n10100]
    rw [cond_neg (by omega)]
    rfl
  · rw [scan_idx (fun x => (!(Reg.okO a1.length x))) a0 0 (fun i => some (AV.int .i64 (i : Int), [(Blk.cells 1 (.one (.vs (.rB a1) 0 1)) true)]))]
    unfold Reg.idx
    cases a0.findIdx? _ <;> rfl

theorem s59b (a0 : List Int) (a1 : List Int) (a2 : Int) (hp : ((Reg.inr a1.length a0)) = true) (h0 : okV (.vs (.rI .i64 a0) 0 1)) (k0 : okB (.cells 1 (.one (.vs (.rI .i64 a1) 0 1)) true)) (k1 : okB (.cells 1 (.one (.int .i64 a2)) true)) : ∃ F, f59b F (a0, a1, a2) = some ((.int .i64 (Reg.idx (fun d => a1.getD (Int.toNat d) 0 == a2) a0)), [(.cells 1 (.one (.vs (.rI .i64 a1) 0 1)) true), (.cells 1 (.one (.int .i64 a2)) true)]) := by
  have hlen := h0.2
  refine ⟨a0.length + 1, ?_⟩
  simp only [f59b, f59b_nt, f59b_n0, f59b_n1, f59b_n10, f59b_n100, f59b_n101, f59b_n1010, f59b_n1010_i]
  have hb : a0.length < 4611686018427387904 := hlen
  refine (loopN_scan (fun i => (a0, (a0.length : Int), (i : Int), a1, a2)) a0.length (fun i => if (a1.getD (Int.toNat (a0.getD i 0)) 0 == a2) = true then some (some (AV.int .i64 (i : Int), [(Blk.cells 1 (.one (.vs (.rI .i64 a1) 0 1)) true), (Blk.cells 1 (.one (.int .i64 a2)) true)])) else none) (some (AV.int .i64 (-1), [(Blk.cells 1 (.one (.vs (.rI .i64 a1) 0 1)) true), (Blk.cells 1 (.one (.int .i64 a2)) true)])) (by rfl) (fun i hi k => ?_) (fun k => ?_) _ (by omega)).trans ?_
  · simp only [f59b_n10100, dec_and]
    have hr := Reg.inr_getD hp hi
    rw [cond_pos (by omega), cond_pos (by omega), Int.toNat_natCast, cond_pos (by omega), i64w (by omega) (by omega)]
    cases (a1.getD (Int.toNat (a0.getD i 0)) 0 == a2) <;> rfl
  · simp only [f59b_n10100]
    rw [cond_neg (by omega)]
    rfl
  · rw [scan_idx (fun x => (a1.getD (Int.toNat x) 0 == a2)) a0 0 (fun i => some (AV.int .i64 (i : Int), [(Blk.cells 1 (.one (.vs (.rI .i64 a1) 0 1)) true), (Blk.cells 1 (.one (.int .i64 a2)) true)]))]
    unfold Reg.idx
    cases a0.findIdx? _ <;> rfl

theorem c59 : CallOk Try.prog G38 59 r59 := callOk_of (V := VG3859) mixed tys eVG3859 (f := 59) (fn := Try.f59) Try.func59 (by kernel_rfl) (c := sub (bodyOf Try.f59) []) (by kernel_rfl) (by
  intro X H r H' h hX hH
  unfold r59 at h; split at h <;> try contradiction
  · simp only [Option.some.injEq, Prod.mk.injEq] at h
    obtain ⟨hp, rfl, rfl⟩ := h
    obtain ⟨F, hF⟩ := s59 _ _ (hX _ (.head _)) (hH _ (.head _))
    exact ⟨Af59 F, (f59_body F _ _).trans hF⟩
  · simp only [Option.some.injEq, Prod.mk.injEq] at h
    obtain ⟨hp, rfl, rfl⟩ := h
    obtain ⟨F, hF⟩ := s59b _ _ _ hp (hX _ (.head _)) (hH _ (.head _)) (hH _ (.tail _ (.head _)))
    exact ⟨Af59b F, (f59b_body F _ _ _).trans hF⟩)
/-! slices.ContainsFunc[[]int,int] -/
def lVG3845 : List CEnt := [(59, [some 3, none], r59)]
def VG3845 : Env := mkEnv T38 G38 lVG3845
theorem eVG3845 : EOk Try.prog VG3845 := eok_mk (by exact ⟨c59, trivial⟩)
def Af45 (F : Nat) : Cuts := { F := F, at_ := fun _ => none, join := fun _ => none }
def ef45_a : (List Int) × (List Bool) → St := fun (a0, a1) => { tmps := [(0, (.vs (.rI .i64 a0) 0 1)), (1, (.fn 56 (.cons 0 (.ptr 0 0 1 0 0 0 1) .nil)))], heap := [(0, (.cells 1 (.one (.vs (.rB a1) 0 1)) true))], next := 1, nt := 9, m := 1 }
def f45_nt (F : Nat) : (List Int) × (List Bool) → Option (AV × List Blk) := fun (a0, a1) => (some ((.bool (decide ((Reg.idx (fun o => !(Reg.okO a1.length o)) a0) ≥ (0 : Int)))), [(.cells 1 (.one (.vs (.rB a1) 0 1)) true)]))
theorem f45_nt_eq (F : Nat) : ∀ v, aexec VG3845 (Af45 F) (sub (bodyOf Try.f45) []) (ef45_a v) (kFin VG3845 none (Try.f45).results.toList) = f45_nt F v := by
  rintro ⟨a0, a1⟩; kernel_rfl
/-- slices.ContainsFunc[[]int,int] -/
def f45 (F : Nat) : (List Int) × (List Bool) → Option (AV × List Blk) := f45_nt F
theorem f45_body (F : Nat) (a0 : List Int) (a1 : List Bool) : abody VG3845 (Af45 F) Try.f45 [(.vs (.rI .i64 a0) 0 1), (.fn 56 (.cons 0 (.ptr 0 0 1 0 0 0 1) .nil))] [(.cells 1 (.one (.vs (.rB a1) 0 1)) true)] = f45 F (a0, a1) :=
  (abody_in (c := (sub (bodyOf Try.f45) [])) (by kernel_rfl) (s := ef45_a (a0, a1)) (by kernel_rfl)).trans (f45_nt_eq F (a0, a1))
def Af45b (F : Nat) : Cuts := { F := F, at_ := fun _ => none, join := fun _ => none }
def ef45b_a : (List Int) × (List Int) × Int → St := fun (a0, a1, a2) => { tmps := [(0, (.vs (.rI .i64 a0) 0 1)), (1, (.fn 46 (.cons 0 (.ptr 0 0 1 0 0 0 1) (.cons 0 (.ptr 1 0 1 0 0 0 1) .nil))))], heap := [(0, (.cells 1 (.one (.vs (.rI .i64 a1) 0 1)) true)), (1, (.cells 1 (.one (.int .i64 a2)) true))], next := 2, nt := 9, m := 2 }
def f45b_nt (F : Nat) : (List Int) × (List Int) × Int → Option (AV × List Blk) := fun (a0, a1, a2) => (cond (Reg.inr a1.length a0) (some ((.bool (decide ((Reg.idx (fun d => a1.getD (Int.toNat d) 0 == a2) a0) ≥ (0 : Int)))), [(.cells 1 (.one (.vs (.rI .i64 a1) 0 1)) true), (.cells 1 (.one (.int .i64 a2)) true)])) none)
theorem f45b_nt_eq (F : Nat) : ∀ v, aexec VG3845 (Af45b F) (sub (bodyOf Try.f45) []) (ef45b_a v) (kFin VG3845 none (Try.f45).results.toList) = f45b_nt F v := by
  rintro ⟨a0, a1, a2⟩; kernel_rfl
/-- slices.ContainsFunc[[]int,int] -/
def f45b (F : Nat) : (List Int) × (List Int) × Int → Option (AV × List Blk) := f45b_nt F
theorem f45b_body (F : Nat) (a0 : List Int) (a1 : List Int) (a2 : Int) : abody VG3845 (Af45b F) Try.f45 [(.vs (.rI .i64 a0) 0 1), (.fn 46 (.cons 0 (.ptr 0 0 1 0 0 0 1) (.cons 0 (.ptr 1 0 1 0 0 0 1) .nil)))] [(.cells 1 (.one (.vs (.rI .i64 a1) 0 1)) true), (.cells 1 (.one (.int .i64 a2)) true)] = f45b F (a0, a1, a2) :=
  (abody_in (c := (sub (bodyOf Try.f45) [])) (by kernel_rfl) (s := ef45b_a (a0, a1, a2)) (by kernel_rfl)).trans (f45b_nt_eq F (a0, a1, a2))
def r45 : CRun := fun X H => match X, H with
  | [(.vs (.rI .i64 a0) 0 1), (.fn 56 (.cons 0 (.ptr 0 0 1 0 0 0 1) .nil))], [(.cells 1 (.one (.vs (.rB a1) 0 1)) true)] => some (true, (.bool (!(a0.all (Reg.okO a1.length)))), [(.cells 1 (.one (.vs (.rB a1) 0 1)) true)])
  | [(.vs (.rI .i64 a0) 0 1), (.fn 46 (.cons 0 (.ptr 0 0 1 0 0 0 1) (.cons 0 (.ptr 1 0 1 0 0 0 1) .nil)))], [(.cells 1 (.one (.vs (.rI .i64 a1) 0 1)) true), (.cells 1 (.one (.int .i64 a2)) true)] => some ((Reg.inr a1.length a0), (.bool (a0.any (fun d => a1.getD (Int.toNat d) 0 == a2))), [(.cells 1 (.one (.vs (.rI .i64 a1) 0 1)) true), (.cells 1 (.one (.int .i64 a2)) true)])
  | _, _ => none
theorem s45 (a0 : List Int) (a1 : List Bool) (h0 : okV (.vs (.rI .i64 a0) 0 1)) (k0 : okB (.cells 1 (.one (.vs (.rB a1) 0 1)) true)) : ∃ F, f45 F (a0, a1) = some ((.bool (!(a0.all (Reg.okO a1.length)))), [(.cells 1 (.one (.vs (.rB a1) 0 1)) true)]) := by
  refine ⟨0, ?_⟩
  simp only [f45, f45_nt, Reg.idx_neg]
  rw [List.not_all_eq_any_not]

theorem s45b (a0 : List Int) (a1 : List Int) (a2 : Int) (hp : ((Reg.inr a1.length a0)) = true) (h0 : okV (.vs (.rI .i64 a0) 0 1)) (k0 : okB (.cells 1 (.one (.vs (.rI .i64 a1) 0 1)) true)) (k1 : okB (.cells 1 (.one (.int .i64 a2)) true)) : ∃ F, f45b F (a0, a1, a2) = some ((.bool (a0.any (fun d => a1.getD (Int.toNat d) 0 == a2))), [(.cells 1 (.one (.vs (.rI .i64 a1) 0 1)) true), (.cells 1 (.one (.int .i64 a2)) true)]) := by
  refine ⟨0, ?_⟩
  simp only [f45b, f45b_nt, hp, cond_true, Reg.idx_neg]

theorem c45 : CallOk Try.prog G38 45 r45 := callOk_of (V := VG3845) mixed tys eVG3845 (f := 45) (fn := Try.f45) Try.func45 (by kernel_rfl) (c := sub (bodyOf Try.f45) []) (by kernel_rfl) (by
  intro X H r H' h hX hH
  unfold r45 at h; split at h <;> try contradiction
  · simp only [Option.some.injEq, Prod.mk.injEq] at h
    obtain ⟨hp, rfl, rfl⟩ := h
    obtain ⟨F, hF⟩ := s45 _ _ (hX _ (.head _)) (hH _ (.head _))
    exact ⟨Af45 F, (f45_body F _ _).trans hF⟩
  · simp only [Option.some.injEq, Prod.mk.injEq] at h
    obtain ⟨hp, rfl, rfl⟩ := h
    obtain ⟨F, hF⟩ := s45b _ _ _ hp (hX _ (.head _)) (hH _ (.head _)) (hH _ (.tail _ (.head _)))
    exact ⟨Af45b F, (f45b_body F _ _ _).trans hF⟩)
/-! slices.Index[[]bool,bool] -/
def lVG3857 : List CEnt := []
def VG3857 : Env := mkEnv T38 G38 lVG3857
theorem eVG3857 : EOk Try.prog VG3857 := eok_mk (by exact trivial)
def Af57 (F : Nat) : Cuts := { F := F, at_ := fun n => match n with | 2018 => some [(0, .plain), (1, .plain), (7, .plain), (8, .plain)] | _ => none, join := fun n => match n with | 1026 => some [(0, .plain), (1, .plain)] | 2020 => some [(0, .plain), (1, .plain), (7, .plain), (8, .plain)] | 7003 => some [] | _ => none }
def ef57_a : (List Bool) × Bool → St := fun (a0, a1) => { tmps := [(0, (.vs (.rB a0) 0 1)), (1, (.bool a1))], heap := [], next := 0, nt := 19, m := 0 }
def ef57_j1026 : (List Bool) × Bool → St := fun (t0, t1) => { tmps := [(0, (.vs (.rB t0) 0 1)), (1, (.bool t1))], heap := [], next := 0, nt := 19, m := 0 }
def ef57_j2020 : (List Bool) × Bool × Int × Int → St := fun (t0, t1, t7, t8) => { tmps := [(0, (.vs (.rB t0) 0 1)), (1, (.bool t1)), (7, (.int .i64 t7)), (8, (.int .i64 t8))], heap := [], next := 0, nt := 19, m := 0 }
def ef57_l2018 : (List Bool) × Bool × Int × Int → St := fun (t0, t1, t7, t8) => { tmps := [(0, (.vs (.rB t0) 0 1)), (1, (.bool t1)), (7, (.int .i64 t7)), (8, (.int .i64 t8))], heap := [], next := 0, nt := 19, m := 0 }
def ef57_j7003 : Unit → St := fun _ => { tmps := [], heap := [], next := 0, nt := 19, m := 0 }
def f57_n0 (F : Nat) (kf57_j1026 : (List Bool) × Bool → Option (AV × List Blk)) : (List Bool) × Bool → Option (AV × List Blk) := fun (a0, a1) => (kf57_j1026 (a0, a1))
theorem f57_n0_eq (F : Nat) (Rf57_j1026 : St → Option (AV × List Blk)) : ∀ v, aexec VG3857 (Af57 F) (sub (bodyOf Try.f57) [0]) (ef57_a v) (kSeq (fun s => Rf57_j1026 (cutTo VG3857 (some [(0, .plain), (1, .plain)]) s)) (kFin VG3857 none (Try.f57).results.toList)) = f57_n0 F (fun w => Rf57_j1026 (ef57_j1026 w)) v := by
  rintro ⟨a0, a1⟩; kernel_rfl
def f57_n100 (F : Nat) (kf57_j2020 : (List Bool) × Bool × Int × Int → Option (AV × List Blk)) (kf57_j7003 : Unit → Option (AV × List Blk)) : (List Bool) × Bool → Option (AV × List Blk) := fun (t0, t1) => (kf57_j2020 (t0, t1, (↑t0.length : Int), (0 : Int)))
theorem f57_n100_eq (F : Nat) (Rf57_j2020 : St → Option (AV × List Blk)) (Rf57_j7003 : St → Option (AV × List Blk)) : ∀ v, aexec VG3857 (Af57 F) (sub (bodyOf Try.f57) [1, 0, 0]) (ef57_j1026 v) (kSeq (fun s => Rf57_j2020 (cutTo VG3857 (some [(0, .plain), (1, .plain), (7, .plain), (8, .plain)]) s)) (kSeq (fun s => Rf57_j7003 (cutTo VG3857 (some []) s)) (kFin VG3857 none (Try.f57).results.toList))) = f57_n100 F (fun w => Rf57_j2020 (ef57_j2020 w)) (fun w => Rf57_j7003 (ef57_j7003 w)) v := by
  rintro ⟨t0, t1⟩; kernel_rfl
def f57_n10100 (F : Nat) (kf57_l2018 : (List Bool) × Bool × Int × Int → Option (AV × List Blk)) (kf57_j7003 : Unit → Option (AV × List Blk)) : (List Bool) × Bool × Int × Int → Option (AV × List Blk) := fun (t0, t1, t7, t8) => (cond (decide (t8 < t7)) (cond ((decide (0 ≤ t8)) && (decide (t8 < (↑t0.length : Int)))) (cond (t1 == (t0.getD (Int.toNat t8) false)) (some ((.int .i64 t8), [])) (kf57_l2018 (t0, t1, t7, (IntKind.i64.wrap (t8 + (1 : Int)))))) none) (kf57_j7003 ()))
theorem f57_n10100_eq (F : Nat) (Rf57_l2018 : St → Option (AV × List Blk)) (Rf57_j7003 : St → Option (AV × List Blk)) : ∀ v, aexec VG3857 (Af57 F) (sub (bodyOf Try.f57) [1, 0, 1, 0, 0]) (ef57_l2018 v) (kSeq (fun s => Rf57_l2018 (cutTo VG3857 (some [(0, .plain), (1, .plain), (7, .plain), (8, .plain)]) s)) (kBlock 0 (kSeq (fun s => Rf57_j7003 (cutTo VG3857 (some []) s)) (kFin VG3857 none (Try.f57).results.toList)))) = f57_n10100 F (fun w => Rf57_l2018 (ef57_l2018 w)) (fun w => Rf57_j7003 (ef57_j7003 w)) v := by
  rintro ⟨t0, t1, t7, t8⟩; kernel_rfl
def f57_n1010_i : (List Bool) × Bool × Int × Int → (List Bool) × Bool × Int × Int := fun (t0, t1, t7, t8) => (t0, t1, t7, t8)
def f57_n1010 (F : Nat) (kf57_j7003 : Unit → Option (AV × List Blk)) : (List Bool) × Bool × Int × Int → Option (AV × List Blk) := fun v => loopN (fun k => f57_n10100 F k kf57_j7003) F (f57_n1010_i v)
theorem f57_n1010_eq (F : Nat) (Rf57_j7003 : St → Option (AV × List Blk)) : ∀ v, aexec VG3857 (Af57 F) (sub (bodyOf Try.f57) [1, 0, 1, 0]) (ef57_j2020 v) (kBlock 0 (kSeq (fun s => Rf57_j7003 (cutTo VG3857 (some []) s)) (kFin VG3857 none (Try.f57).results.toList))) = f57_n1010 F (fun w => Rf57_j7003 (ef57_j7003 w)) v :=
  loop_cut (c := (sub (bodyOf Try.f57) [1, 0, 1, 0])) (d := (sub (bodyOf Try.f57) [1, 0, 1, 0, 0])) (by kernel_rfl) (spec := [(0, .plain), (1, .plain), (7, .plain), (8, .plain)]) (by kernel_rfl) ef57_j2020 ef57_l2018 (kBlock 0 (kSeq (fun s => Rf57_j7003 (cutTo VG3857 (some []) s)) (kFin VG3857 none (Try.f57).results.toList))) f57_n1010_i (fun k => f57_n10100 F k (fun w => Rf57_j7003 (ef57_j7003 w)))
    (by rintro ⟨t0, t1, t7, t8⟩; kernel_rfl) (fun Rf57_l2018 => f57_n10100_eq F Rf57_l2018 Rf57_j7003)
def f57_n101 (F : Nat) (kf57_j7003 : Unit → Option (AV × List Blk)) : (List Bool) × Bool × Int × Int → Option (AV × List Blk) := f57_n1010 F kf57_j7003
theorem f57_n101_eq (F : Nat) (Rf57_j7003 : St → Option (AV × List Blk)) : ∀ v, aexec VG3857 (Af57 F) (sub (bodyOf Try.f57) [1, 0, 1]) (ef57_j2020 v) (kSeq (fun s => Rf57_j7003 (cutTo VG3857 (some []) s)) (kFin VG3857 none (Try.f57).results.toList)) = f57_n101 F (fun w => Rf57_j7003 (ef57_j7003 w)) v := fun v =>
  (block_in (c := (sub (bodyOf Try.f57) [1, 0, 1])) (d := (sub (bodyOf Try.f57) [1, 0, 1, 0])) (id := 0) (by kernel_rfl) _ _).trans (f57_n1010_eq F Rf57_j7003 v)
def f57_n10 (F : Nat) (kf57_j7003 : Unit → Option (AV × List Blk)) : (List Bool) × Bool → Option (AV × List Blk) := fun v => f57_n100 F (f57_n101 F kf57_j7003) kf57_j7003 v
theorem f57_n10_eq (F : Nat) (Rf57_j7003 : St → Option (AV × List Blk)) : ∀ v, aexec VG3857 (Af57 F) (sub (bodyOf Try.f57) [1, 0]) (ef57_j1026 v) (kSeq (fun s => Rf57_j7003 (cutTo VG3857 (some []) s)) (kFin VG3857 none (Try.f57).results.toList)) = f57_n10 F (fun w => Rf57_j7003 (ef57_j7003 w)) v :=
  seq_cut (c := (sub (bodyOf Try.f57) [1, 0])) (a := (sub (bodyOf Try.f57) [1, 0, 0])) (b := (sub (bodyOf Try.f57) [1, 0, 1])) (by kernel_rfl) (spec := [(0, .plain), (1, .plain), (7, .plain), (8, .plain)]) (by kernel_rfl) ef57_j1026 ef57_j2020 (kSeq (fun s => Rf57_j7003 (cutTo VG3857 (some []) s)) (kFin VG3857 none (Try.f57).results.toList)) (fun k => f57_n100 F k (fun w => Rf57_j7003 (ef57_j7003 w))) (f57_n101 F (fun w => Rf57_j7003 (ef57_j7003 w)))
    (fun Rf57_j2020 => f57_n100_eq F Rf57_j2020 Rf57_j7003) (f57_n101_eq F Rf57_j7003)
def f57_n11 (F : Nat) : Unit → Option (AV × List Blk) := fun _ => (some ((.int .i64 (-1 : Int)), []))
theorem f57_n11_eq (F : Nat) : ∀ v, aexec VG3857 (Af57 F) (sub (bodyOf Try.f57) [1, 1]) (ef57_j7003 v) (kFin VG3857 none (Try.f57).results.toList) = f57_n11 F v := by
  intro _; kernel_rfl
def f57_n1 (F : Nat) : (List Bool) × Bool → Option (AV × List Blk) := fun v => f57_n10 F (f57_n11 F) v
theorem f57_n1_eq (F : Nat) : ∀ v, aexec VG3857 (Af57 F) (sub (bodyOf Try.f57) [1]) (ef57_j1026 v) (kFin VG3857 none (Try.f57).results.toList) = f57_n1 F v :=
  seq_cut (c := (sub (bodyOf Try.f57) [1])) (a := (sub (bodyOf Try.f57) [1, 0])) (b := (sub (bodyOf Try.f57) [1, 1])) (by kernel_rfl) (spec := []) (by kernel_rfl) ef57_j1026 ef57_j7003 (kFin VG3857 none (Try.f57).results.toList) (fun k => f57_n10 F k) (f57_n11 F)
    (fun Rf57_j7003 => f57_n10_eq F Rf57_j7003) (f57_n11_eq F)
def f57_nt (F : Nat) : (List Bool) × Bool → Option (AV × List Blk) := fun v => f57_n0 F (f57_n1 F) v
theorem f57_nt_eq (F : Nat) : ∀ v, aexec VG3857 (Af57 F) (sub (bodyOf Try.f57) []) (ef57_a v) (kFin VG3857 none (Try.f57).results.toList) = f57_nt F v :=
  seq_cut (c := (sub (bodyOf Try.f57) [])) (a := (sub (bodyOf Try.f57) [0])) (b := (sub (bodyOf Try.f57) [1])) (by kernel_rfl) (spec := [(0, .plain), (1, .plain)]) (by kernel_rfl) ef57_a ef57_j1026 (kFin VG3857 none (Try.f57).results.toList) (fun k => f57_n0 F k) (f57_n1 F)
    (fun Rf57_j1026 => f57_n0_eq F Rf57_j1026) (f57_n1_eq F)
/-- slices.Index[[]bool,bool] -/
def f57 (F : Nat) : (List Bool) × Bool → Option (AV × List Blk) := f57_nt F
theorem f57_body (F : Nat) (a0 : List Bool) (a1 : Bool) : abody VG3857 (Af57 F) Try.f57 [(.vs (.rB a0) 0 1), (.bool a1)] [] = f57 F (a0, a1) :=
  (abody_in (c := (sub (bodyOf Try.f57) [])) (by kernel_rfl) (s := ef57_a (a0, a1)) (by kernel_rfl)).trans (f57_nt_eq F (a0, a1))
def r57 : CRun := fun X H => match X, H with
  | [(.vs (.rB a0) 0 1), (.bool a1)], [] => some (true, (.int .i64 (Reg.idx (fun x => x == a1) a0)), [])
  | _, _ => none
theorem s57 (a0 : List Bool) (a1 : Bool) (h0 : okV (.vs (.rB a0) 0 1)) : ∃ F, f57 F (a0, a1) = some ((.int .i64 (Reg.idx (fun x => x == a1) a0)), []) := by
  have hlen : a0.length < 4611686018427387904 := h0
  refine ⟨a0.length + 1, ?_⟩
  simp only [f57, f57_nt, f57_n0, f57_n1, f57_n10, f57_n100, f57_n101, f57_n1010, f57_n1010_i]
  have hb : a0.length < 4611686018427387904 := hlen
  refine (loopN_scan (fun i => (a0, a1, (a0.length : Int), (i : Int))) a0.length (fun i => if (a1 == (a0.getD i false)) = true then some (some (AV.int .i64 (i : Int), [])) else none) (some (AV.int .i64 (-1), [])) (by rfl) (fun i hi k => ?_) (fun k => ?_) _ (by omega)).trans ?_
  · simp only [f57_n10100, dec_and]
    rw [cond_pos (by omega), cond_pos (by omega), Int.toNat_natCast, i64w (by omega) (by omega)]
    cases (a1 == a0.getD i false) <;> rfl
  · simp only [f57_n10100]
    rw [cond_neg (by omega)]
    rfl
  · rw [scan_idx (fun x => (a1 == x)) a0 false (fun i => some (AV.int .i64 (i : Int), []))]
    have e : (fun x : Bool => a1 == x) = fun x => x == a1 := funext fun x => Bool.beq_comm
    rw [e]
    unfold Reg.idx
    cases a0.findIdx? _ <;> rfl

theorem c57 : CallOk Try.prog G38 57 r57 := callOk_of (V := VG3857) mixed tys eVG3857 (f := 57) (fn := Try.f57) Try.func57 (by kernel_rfl) (c := sub (bodyOf Try.f57) []) (by kernel_rfl) (by
  intro X H r H' h hX hH
  unfold r57 at h; split at h <;> try contradiction
  · simp only [Option.some.injEq, Prod.mk.injEq] at h
    obtain ⟨hp, rfl, rfl⟩ := h
    obtain ⟨F, hF⟩ := s57 _ _ (hX _ (.head _))
    exact ⟨Af57 F, (f57_body F _ _).trans hF⟩)
/-! slices.Index[[]int,int] -/
def lVG3858 : List CEnt := []
def VG3858 : Env := mkEnv T38 G38 lVG3858
theorem eVG3858 : EOk Try.prog VG3858 := eok_mk (by exact trivial)
def Af58 (F : Nat) : Cuts := { F := F, at_ := fun n => match n with | 2018 => some [(0, .plain), (1, .plain), (7, .plain), (8, .plain)] | _ => none, join := fun n => match n with | 1026 => some [(0, .plain), (1, .plain)] | 2020 => some [(0, .plain), (1, .plain), (7, .plain), (8, .plain)] | 7003 => some [] | _ => none }
def ef58_a : (List Int) × Int → St := fun (a0, a1) => { tmps := [(0, (.vs (.rI .i64 a0) 0 1)), (1, (.int .i64 a1))], heap := [], next := 0, nt := 19, m := 0 }
def ef58_j1026 : (List Int) × Int → St := fun (t0, t1) => { tmps := [(0, (.vs (.rI .i64 t0) 0 1)), (1, (.int .i64 t1))], heap := [], next := 0, nt := 19, m := 0 }
def ef58_j2020 : (List Int) × Int × Int × Int → St := fun (t0, t1, t7, t8) => { tmps := [(0, (.vs (.rI .i64 t0) 0 1)), (1, (.int .i64 t1)), (7, (.int .i64 t7)), (8, (.int .i64 t8))], heap := [], next := 0, nt := 19, m := 0 }
def ef58_l2018 : (List Int) × Int × Int × Int → St := fun (t0, t1, t7, t8) => { tmps := [(0, (.vs (.rI .i64 t0) 0 1)), (1, (.int .i64 t1)), (7, (.int .i64 t7)), (8, (.int .i64 t8))], heap := [], next := 0, nt := 19, m := 0 }
def ef58_j7003 : Unit → St := fun _ => { tmps := [], heap := [], next := 0, nt := 19, m := 0 }
def f58_n0 (F : Nat) (kf58_j1026 : (List Int) × Int → Option (AV × List Blk)) : (List Int) × Int → Option (AV × List Blk) := fun (a0, a1) => (kf58_j1026 (a0, a1))
theorem f58_n0_eq (F : Nat) (Rf58_j1026 : St → Option (AV × List Blk)) : ∀ v, aexec VG3858 (Af58 F) (sub (bodyOf Try.f58) [0]) (ef58_a v) (kSeq (fun s => Rf58_j1026 (cutTo VG3858 (some [(0, .plain), (1, .plain)]) s)) (kFin VG3858 none (Try.f58).results.toList)) = f58_n0 F (fun w => Rf58_j1026 (ef58_j1026 w)) v := by
  rintro ⟨a0, a1⟩; kernel_rfl
def f58_n100 (F : Nat) (kf58_j2020 : (List Int) × Int × Int × Int → Option (AV × List Blk)) (kf58_j7003 : Unit → Option (AV × List Blk)) : (List Int) × Int → Option (AV × List Blk) := fun (t0, t1) => (kf58_j2020 (t0, t1, (↑t0.length : Int), (0 : Int)))
theorem f58_n100_eq (F : Nat) (Rf58_j2020 : St → Option (AV × List Blk)) (Rf58_j7003 : St → Option (AV × List Blk)) : ∀ v, aexec VG3858 (Af58 F) (sub (bodyOf Try.f58) [1, 0, 0]) (ef58_j1026 v) (kSeq (fun s => Rf58_j2020 (cutTo VG3858 (some [(0, .plain), (1, .plain), (7, .plain), (8, .plain)]) s)) (kSeq (fun s => Rf58_j7003 (cutTo VG3858 (some []) s)) (kFin VG3858 none (Try.f58).results.toList))) = f58_n100 F (fun w => Rf58_j2020 (ef58_j2020 w)) (fun w => Rf58_j7003 (ef58_j7003 w)) v := by
  rintro ⟨t0, t1⟩; kernel_rfl
def f58_n10100 (F : Nat) (kf58_l2018 : (List Int) × Int × Int × Int → Option (AV × List Blk)) (kf58_j7003 : Unit → Option (AV × List Blk)) : (List Int) × Int × Int × Int → Option (AV × List Blk) := fun (t0, t1, t7, t8) => (cond (decide (t8 < t7)) (cond ((decide (0 ≤ t8)) && (decide (t8 < (↑t0.length : Int)))) (cond (t1 == (t0.getD (Int.toNat t8) 0)) (some ((.int .i64 t8), [])) (kf58_l2018 (t0, t1, t7, (IntKind.i64.wrap (t8 + (1 : Int)))))) none) (kf58_j7003 ()))
theorem f58_n10100_eq (F : Nat) (Rf58_l2018 : St → Option (AV × List Blk)) (Rf58_j7003 : St → Option (AV × List Blk)) : ∀ v, aexec VG3858 (Af58 F) (sub (bodyOf Try.f58) [1, 0, 1, 0, 0]) (ef58_l2018 v) (kSeq (fun s => Rf58_l2018 (cutTo VG3858 (some [(0, .plain), (1, .plain), (7, .plain), (8, .plain)]) s)) (kBlock 0 (kSeq (fun s => Rf58_j7003 (cutTo VG3858 (some []) s)) (kFin VG3858 none (Try.f58).results.toList)))) = f58_n10100 F (fun w => Rf58_l2018 (ef58_l2018 w)) (fun w => Rf58_j7003 (ef58_j7003 w)) v := by
  rintro ⟨t0, t1, t7, t8⟩; kernel_rfl
def f58_n1010_i : (List Int) × Int × Int × Int → (List Int) × Int × Int × Int := fun (t0, t1, t7, t8) => (t0, t1, t7, t8)
def f58_n1010 (F : Nat) (kf58_j7003 : Unit → Option (AV × List Blk)) : (List Int) × Int × Int × Int → Option (AV × List Blk) := fun v => loopN (fun k => f58_n10100 F k kf58_j7003) F (f58_n1010_i v)
theorem f58_n1010_eq (F : Nat) (Rf58_j7003 : St → Option (AV × List Blk)) : ∀ v, aexec VG3858 (Af58 F) (sub (bodyOf Try.f58) [1, 0, 1, 0]) (ef58_j2020 v) (kBlock 0 (kSeq (fun s => Rf58_j7003 (cutTo VG3858 (some []) s)) (kFin VG3858 none (Try.f58).results.toList))) = f58_n1010 F (fun w => Rf58_j7003 (ef58_j7003 w)) v :=
  loop_cut (c := (sub (bodyOf Try.f58) [1, 0, 1, 0])) (d := (sub (bodyOf Try.f58) [1, 0, 1, 0, 0])) (by kernel_rfl) (spec := [(0, .plain), (1, .plain), (7, .plain), (8, .plain)]) (by kernel_rfl) ef58_j2020 ef58_l2018 (kBlock 0 (kSeq (fun s => Rf58_j7003 (cutTo VG3858 (some []) s)) (kFin VG3858 none (Try.f58).results.toList))) f58_n1010_i (fun k => f58_n10100 F k (fun w => Rf58_j7003 (ef58_j7003 w)))
    (by rintro ⟨t0, t1, t7, t8⟩; kernel_rfl) (fun Rf58_l2018 => f58_n10100_eq F Rf58_l2018 Rf58_j7003)
def f58_n101 (F : Nat) (kf58_j7003 : Unit → Option (AV × List Blk)) : (List Int) × Int × Int × Int → Option (AV × List Blk) := f58_n1010 F kf58_j7003
theorem f58_n101_eq (F : Nat) (Rf58_j7003 : St → Option (AV × List Blk)) : ∀ v, aexec VG3858 (Af58 F) (sub (bodyOf Try.f58) [1, 0, 1]) (ef58_j2020 v) (kSeq (fun s => Rf58_j7003 (cutTo VG3858 (some []) s)) (kFin VG3858 none (Try.f58).results.toList)) = f58_n101 F (fun w => Rf58_j7003 (ef58_j7003 w)) v := fun v =>
  (block_in (c := (sub (bodyOf Try.f58) [1, 0, 1])) (d := (sub (bodyOf Try.f58) [1, 0, 1, 0])) (id := 0) (by kernel_rfl) _ _).trans (f58_n1010_eq F Rf58_j7003 v)
def f58_n10 (F : Nat) (kf58_j7003 : Unit → Option (AV × List Blk)) : (List Int) × Int → Option (AV × List Blk) := fun v => f58_n100 F (f58_n101 F kf58_j7003) kf58_j7003 v
theorem f58_n10_eq (F : Nat) (Rf58_j7003 : St → Option (AV × List Blk)) : ∀ v, aexec VG3858 (Af58 F) (sub (bodyOf Try.f58) [1, 0]) (ef58_j1026 v) (kSeq (fun s => Rf58_j7003 (cutTo VG3858 (some []) s)) (kFin VG3858 none (Try.f58).results.toList)) = f58_n10 F (fun w => Rf58_j7003 (ef58_j7003 w)) v :=
  seq_cut (c := (sub (bodyOf Try.f58) [1, 0])) (a := (sub (bodyOf Try.f58) [1, 0, 0])) (b := (sub (bodyOf Try.f58) [1, 0, 1])) (by kernel_rfl) (spec := [(0, .plain), (1, .plain), (7, .plain), (8, .plain)]) (by kernel_rfl) ef58_j1026 ef58_j2020 (kSeq (fun s => Rf58_j7003 (cutTo VG3858 (some []) s)) (kFin VG3858 none (Try.f58).results.toList)) (fun k => f58_n100 F k (fun w => Rf58_j7003 (ef58_j7003 w))) (f58_n101 F (fun w => Rf58_j7003 (ef58_j7003 w)))
    (fun Rf58_j2020 => f58_n100_eq F Rf58_j2020 Rf58_j7003) (f58_n101_eq F Rf58_j7003)
def f58_n11 (F : Nat) : Unit → Option (AV × List Blk) := fun _ => (some ((.int .i64 (-1 : Int)), []))
theorem f58_n11_eq (F : Nat) : ∀ v, aexec VG3858 (Af58 F) (sub (bodyOf Try.f58) [1, 1]) (ef58_j7003 v) (kFin VG3858 none (Try.f58).results.toList) = f58_n11 F v := by
  intro _; kernel_rfl
def f58_n1 (F : Nat) : (List Int) × Int → Option (AV × List Blk) := fun v => f58_n10 F (f58_n11 F) v
theorem f58_n1_eq (F : Nat) : ∀ v, aexec VG3858 (Af58 F) (sub (bodyOf Try.f58) [1]) (ef58_j1026 v) (kFin VG3858 none (Try.f58).results.toList) = f58_n1 F v :=
  seq_cut (c := (sub (bodyOf Try.f58) [1])) (a := (sub (bodyOf Try.f58) [1, 0])) (b := (sub (bodyOf Try.f58) [1, 1])) (by kernel_rfl) (spec := []) (by kernel_rfl) ef58_j1026 ef58_j7003 (kFin VG3858 none (Try.f58).results.toList) (fun k => f58_n10 F k) (f58_n11 F)
    (fun Rf58_j7003 => f58_n10_eq F Rf58_j7003) (f58_n11_eq F)
def f58_nt (F : Nat) : (List Int) × Int → Option (AV × List Blk) := fun v => f58_n0 F (f58_n1 F) v
theorem f58_nt_eq (F : Nat) : ∀ v, aexec VG3858 (Af58 F) (sub (bodyOf Try.f58) []) (ef58_a v) (kFin VG3858 none (Try.f58).results.toList) = f58_nt F v :=
  seq_cut (c := (sub (bodyOf Try.f58) [])) (a := (sub (bodyOf Try.f58) [0])) (b := (sub (bodyOf Try.f58) [1])) (by kernel_rfl) (spec := [(0, .plain), (1, .plain)]) (by kernel_rfl) ef58_a ef58_j1026 (kFin VG3858 none (Try.f58).results.toList) (fun k => f58_n0 F k) (f58_n1 F)
    (fun Rf58_j1026 => f58_n0_eq F Rf58_j1026) (f58_n1_eq F)
/-- slices.Index[[]int,int] -/
def f58 (F : Nat) : (List Int) × Int → Option (AV × List Blk) := f58_nt F
theorem f58_body (F : Nat) (a0 : List Int) (a1 : Int) : abody VG3858 (Af58 F) Try.f58 [(.vs (.rI .i64 a0) 0 1), (.int .i64 a1)] [] = f58 F (a0, a1) :=
  (abody_in (c := (sub (bodyOf Try.f58) [])) (by kernel_rfl) (s := ef58_a (a0, a1)) (by kernel_rfl)).trans (f58_nt_eq F (a0, a1))
def r58 : CRun := fun X H => match X, H with
  | [(.vs (.rI .i64 a0) 0 1), (.int .i64 a1)], [] => some (true, (.int .i64 (Reg.idx (fun y => y == a1) a0)), [])
  | _, _ => none
theorem s58 (a0 : List Int) (a1 : Int) (h0 : okV (.vs (.rI .i64 a0) 0 1)) (h1 : okV (.int .i64 a1)) : ∃ F, f58 F (a0, a1) = some ((.int .i64 (Reg.idx (fun y => y == a1) a0)), []) := by
  have hlen : a0.length < 4611686018427387904 := h0.2
  refine ⟨a0.length + 1, ?_⟩
  simp only [f58, f58_nt, f58_n0, f58_n1, f58_n10, f58_n100, f58_n101, f58_n1010, f58_n1010_i]
  have hb : a0.length < 4611686018427387904 := hlen
  refine (loopN_scan (fun i => (a0, a1, (a0.length : Int), (i : Int))) a0.length (fun i => if (a1 == (a0.getD i 0)) = true then some (some (AV.int .i64 (i : Int), [])) else none) (some (AV.int .i64 (-1), [])) (by rfl) (fun i hi k => ?_) (fun k => ?_) _ (by omega)).trans ?_
  · simp only [f58_n10100, dec_and]
    rw [cond_pos (by omega), cond_pos (by omega), Int.toNat_natCast, i64w (by omega) (by omega)]
    cases (a1 == a0.getD i 0) <;> rfl
  · simp only [f58_n10100]
    rw [cond_neg (by omega)]
    rfl
  · rw [scan_idx (fun x => (a1 == x)) a0 0 (fun i => some (AV.int .i64 (i : Int), []))]
    have e : (fun x : Int => a1 == x) = fun x => x == a1 := funext fun x => Bool.beq_comm
    rw [e]
    unfold Reg.idx
    cases a0.findIdx? _ <;> rfl

theorem c58 : CallOk Try.prog G38 58 r58 := callOk_of (V := VG3858) mixed tys eVG3858 (f := 58) (fn := Try.f58) Try.func58 (by kernel_rfl) (c := sub (bodyOf Try.f58) []) (by kernel_rfl) (by
  intro X H r H' h hX hH
  unfold r58 at h; split at h <;> try contradiction
  · simp only [Option.some.injEq, Prod.mk.injEq] at h
    obtain ⟨hp, rfl, rfl⟩ := h
    obtain ⟨F, hF⟩ := s58 _ _ (hX _ (.head _)) (hX _ (.tail _ (.head _)))
    exact ⟨Af58 F, (f58_body F _ _).trans hF⟩)
/-! slices.Contains[[]int,int] -/
def lVG3844 : List CEnt := [(58, [some 3, none], r58)]
def VG3844 : Env := mkEnv T38 G38 lVG3844
theorem eVG3844 : EOk Try.prog VG3844 := eok_mk (by exact ⟨c58, trivial⟩)
def Af44 (F : Nat) : Cuts := { F := F, at_ := fun _ => none, join := fun _ => none }
def ef44_a : (List Int) × Int → St := fun (a0, a1) => { tmps := [(0, (.vs (.rI .i64 a0) 0 1)), (1, (.int .i64 a1))], heap := [], next := 0, nt := 9, m := 0 }
def f44_nt (F : Nat) : (List Int) × Int → Option (AV × List Blk) := fun (a0, a1) => (some ((.bool (decide ((Reg.idx (fun y => y == a1) a0) ≥ (0 : Int)))), []))
theorem f44_nt_eq (F : Nat) : ∀ v, aexec VG3844 (Af44 F) (sub (bodyOf Try.f44) []) (ef44_a v) (kFin VG3844 none (Try.f44).results.toList) = f44_nt F v := by
  rintro ⟨a0, a1⟩; kernel_rfl
/-- slices.Contains[[]int,int] -/
def f44 (F : Nat) : (List Int) × Int → Option (AV × List Blk) := f44_nt F
theorem f44_body (F : Nat) (a0 : List Int) (a1 : Int) : abody VG3844 (Af44 F) Try.f44 [(.vs (.rI .i64 a0) 0 1), (.int .i64 a1)] [] = f44 F (a0, a1) :=
  (abody_in (c := (sub (bodyOf Try.f44) [])) (by kernel_rfl) (s := ef44_a (a0, a1)) (by kernel_rfl)).trans (f44_nt_eq F (a0, a1))
def r44 : CRun := fun X H => match X, H with
  | [(.vs (.rI .i64 a0) 0 1), (.int .i64 a1)], [] => some (true, (.bool (a0.any (fun y => y == a1))), [])
  | _, _ => none
theorem s44 (a0 : List Int) (a1 : Int) (h0 : okV (.vs (.rI .i64 a0) 0 1)) (h1 : okV (.int .i64 a1)) : ∃ F, f44 F (a0, a1) = some ((.bool (a0.any (fun y => y == a1))), []) := ⟨0, by simp only [f44, f44_nt, Reg.idx_neg]⟩

theorem c44 : CallOk Try.prog G38 44 r44 := callOk_of (V := VG3844) mixed tys eVG3844 (f := 44) (fn := Try.f44) Try.func44 (by kernel_rfl) (c := sub (bodyOf Try.f44) []) (by kernel_rfl) (by
  intro X H r H' h hX hH
  unfold r44 at h; split at h <;> try contradiction
  · simp only [Option.some.injEq, Prod.mk.injEq] at h
    obtain ⟨hp, rfl, rfl⟩ := h
    obtain ⟨F, hF⟩ := s44 _ _ (hX _ (.head _)) (hX _ (.tail _ (.head _)))
    exact ⟨Af44 F, (f44_body F _ _).trans hF⟩)
/-! gantry/region.first -/
def lVG3838 : List CEnt := [(57, [some 4, none], r57)]
def VG3838 : Env := mkEnv T38 G38 lVG3838
theorem eVG3838 : EOk Try.prog VG3838 := eok_mk (by exact ⟨c57, trivial⟩)
def Af38 (F : Nat) : Cuts := { F := F, at_ := fun _ => none, join := fun _ => none }
def ef38_a : (List Bool) → St := fun a0 => { tmps := [(0, (.vs (.rB a0) 0 1))], heap := [], next := 0, nt := 5, m := 0 }
def f38_nt (F : Nat) : (List Bool) → Option (AV × List Blk) := fun a0 => (some ((.int .i64 (Reg.idx (fun x => x == true) a0)), []))
theorem f38_nt_eq (F : Nat) : ∀ v, aexec VG3838 (Af38 F) (sub (bodyOf Try.f38) []) (ef38_a v) (kFin VG3838 none (Try.f38).results.toList) = f38_nt F v := by
  intro a0; kernel_rfl
/-- gantry/region.first -/
def f38 (F : Nat) : (List Bool) → Option (AV × List Blk) := f38_nt F
theorem f38_body (F : Nat) (a0 : List Bool) : abody VG3838 (Af38 F) Try.f38 [(.vs (.rB a0) 0 1)] [] = f38 F a0 :=
  (abody_in (c := (sub (bodyOf Try.f38) [])) (by kernel_rfl) (s := ef38_a a0) (by kernel_rfl)).trans (f38_nt_eq F a0)
def r38 : CRun := fun X H => match X, H with
  | [(.vs (.rB a0) 0 1)], [] => some (true, (.int .i64 (Reg.first a0)), [])
  | _, _ => none
theorem s38 (a0 : List Bool) (h0 : okV (.vs (.rB a0) 0 1)) : ∃ F, f38 F a0 = some ((.int .i64 (Reg.first a0)), []) := ⟨0, rfl⟩

theorem c38 : CallOk Try.prog G38 38 r38 := callOk_of (V := VG3838) mixed tys eVG3838 (f := 38) (fn := Try.f38) Try.func38 (by kernel_rfl) (c := sub (bodyOf Try.f38) []) (by kernel_rfl) (by
  intro X H r H' h hX hH
  unfold r38 at h; split at h <;> try contradiction
  · simp only [Option.some.injEq, Prod.mk.injEq] at h
    obtain ⟨hp, rfl, rfl⟩ := h
    obtain ⟨F, hF⟩ := s38 _ (hX _ (.head _))
    exact ⟨Af38 F, (f38_body F _).trans hF⟩)
/-! gantry/gantryref38.First -/
def lVG3835 : List CEnt := []
def VG3835 : Env := mkEnv T38 G38 lVG3835
theorem eVG3835 : EOk Try.prog VG3835 := eok_mk (by exact trivial)
def Af35 (F : Nat) : Cuts := { F := F, at_ := fun n => match n with | 2016 => some [(0, .plain), (3, .plain)] | _ => none, join := fun n => match n with | 1024 => some [(0, .plain)] | 2018 => some [(0, .plain), (3, .plain)] | 6003 => some [] | _ => none }
def ef35_a : (List Bool) → St := fun a0 => { tmps := [(0, (.vs (.rB a0) 0 1))], heap := [], next := 0, nt := 15, m := 0 }
def ef35_j1024 : (List Bool) → St := fun t0 => { tmps := [(0, (.vs (.rB t0) 0 1))], heap := [], next := 0, nt := 15, m := 0 }
def ef35_j2018 : (List Bool) × Int → St := fun (t0, t3) => { tmps := [(0, (.vs (.rB t0) 0 1)), (3, (.int .i64 t3))], heap := [], next := 0, nt := 15, m := 0 }
def ef35_l2016 : (List Bool) × Int → St := fun (t0, t3) => { tmps := [(0, (.vs (.rB t0) 0 1)), (3, (.int .i64 t3))], heap := [], next := 0, nt := 15, m := 0 }
def ef35_j6003 : Unit → St := fun _ => { tmps := [], heap := [], next := 0, nt := 15, m := 0 }
def f35_n0 (F : Nat) (kf35_j1024 : (List Bool) → Option (AV × List Blk)) : (List Bool) → Option (AV × List Blk) := fun a0 => (kf35_j1024 a0)
theorem f35_n0_eq (F : Nat) (Rf35_j1024 : St → Option (AV × List Blk)) : ∀ v, aexec VG3835 (Af35 F) (sub (bodyOf Try.f35) [0]) (ef35_a v) (kSeq (fun s => Rf35_j1024 (cutTo VG3835 (some [(0, .plain)]) s)) (kFin VG3835 none (Try.f35).results.toList)) = f35_n0 F (fun w => Rf35_j1024 (ef35_j1024 w)) v := by
  intro a0; kernel_rfl
def f35_n100 (F : Nat) (kf35_j2018 : (List Bool) × Int → Option (AV × List Blk)) (kf35_j6003 : Unit → Option (AV × List Blk)) : (List Bool) → Option (AV × List Blk) := fun t0 => (kf35_j2018 (t0, (0 : Int)))
theorem f35_n100_eq (F : Nat) (Rf35_j2018 : St → Option (AV × List Blk)) (Rf35_j6003 : St → Option (AV × List Blk)) : ∀ v, aexec VG3835 (Af35 F) (sub (bodyOf Try.f35) [1, 0, 0]) (ef35_j1024 v) (kSeq (fun s => Rf35_j2018 (cutTo VG3835 (some [(0, .plain), (3, .plain)]) s)) (kSeq (fun s => Rf35_j6003 (cutTo VG3835 (some []) s)) (kFin VG3835 none (Try.f35).results.toList))) = f35_n100 F (fun w => Rf35_j2018 (ef35_j2018 w)) (fun w => Rf35_j6003 (ef35_j6003 w)) v := by
  intro t0; kernel_rfl
def f35_n10100 (F : Nat) (kf35_l2016 : (List Bool) × Int → Option (AV × List Blk)) (kf35_j6003 : Unit → Option (AV × List Blk)) : (List Bool) × Int → Option (AV × List Blk) := fun (t0, t3) => (cond (decide (t3 < (↑t0.length : Int))) (cond ((decide (0 ≤ t3)) && (decide (t3 < (↑t0.length : Int)))) (cond (t0.getD (Int.toNat t3) false) (some ((.int .i64 t3), [])) (kf35_l2016 (t0, (IntKind.i64.wrap (t3 + (1 : Int)))))) none) (kf35_j6003 ()))
theorem f35_n10100_eq (F : Nat) (Rf35_l2016 : St → Option (AV × List Blk)) (Rf35_j6003 : St → Option (AV × List Blk)) : ∀ v, aexec VG3835 (Af35 F) (sub (bodyOf Try.f35) [1, 0, 1, 0, 0]) (ef35_l2016 v) (kSeq (fun s => Rf35_l2016 (cutTo VG3835 (some [(0, .plain), (3, .plain)]) s)) (kBlock 0 (kSeq (fun s => Rf35_j6003 (cutTo VG3835 (some []) s)) (kFin VG3835 none (Try.f35).results.toList)))) = f35_n10100 F (fun w => Rf35_l2016 (ef35_l2016 w)) (fun w => Rf35_j6003 (ef35_j6003 w)) v := by
  rintro ⟨t0, t3⟩; kernel_rfl
def f35_n1010_i : (List Bool) × Int → (List Bool) × Int := fun (t0, t3) => (t0, t3)
def f35_n1010 (F : Nat) (kf35_j6003 : Unit → Option (AV × List Blk)) : (List Bool) × Int → Option (AV × List Blk) := fun v => loopN (fun k => f35_n10100 F k kf35_j6003) F (f35_n1010_i v)
theorem f35_n1010_eq (F : Nat) (Rf35_j6003 : St → Option (AV × List Blk)) : ∀ v, aexec VG3835 (Af35 F) (sub (bodyOf Try.f35) [1, 0, 1, 0]) (ef35_j2018 v) (kBlock 0 (kSeq (fun s => Rf35_j6003 (cutTo VG3835 (some []) s)) (kFin VG3835 none (Try.f35).results.toList))) = f35_n1010 F (fun w => Rf35_j6003 (ef35_j6003 w)) v :=
  loop_cut (c := (sub (bodyOf Try.f35) [1, 0, 1, 0])) (d := (sub (bodyOf Try.f35) [1, 0, 1, 0, 0])) (by kernel_rfl) (spec := [(0, .plain), (3, .plain)]) (by kernel_rfl) ef35_j2018 ef35_l2016 (kBlock 0 (kSeq (fun s => Rf35_j6003 (cutTo VG3835 (some []) s)) (kFin VG3835 none (Try.f35).results.toList))) f35_n1010_i (fun k => f35_n10100 F k (fun w => Rf35_j6003 (ef35_j6003 w)))
    (by rintro ⟨t0, t3⟩; kernel_rfl) (fun Rf35_l2016 => f35_n10100_eq F Rf35_l2016 Rf35_j6003)
def f35_n101 (F : Nat) (kf35_j6003 : Unit → Option (AV × List Blk)) : (List Bool) × Int → Option (AV × List Blk) := f35_n1010 F kf35_j6003
theorem f35_n101_eq (F : Nat) (Rf35_j6003 : St → Option (AV × List Blk)) : ∀ v, aexec VG3835 (Af35 F) (sub (bodyOf Try.f35) [1, 0, 1]) (ef35_j2018 v) (kSeq (fun s => Rf35_j6003 (cutTo VG3835 (some []) s)) (kFin VG3835 none (Try.f35).results.toList)) = f35_n101 F (fun w => Rf35_j6003 (ef35_j6003 w)) v := fun v =>
  (block_in (c := (sub (bodyOf Try.f35) [1, 0, 1])) (d := (sub (bodyOf Try.f35) [1, 0, 1, 0])) (id := 0) (by kernel_rfl) _ _).trans (f35_n1010_eq F Rf35_j6003 v)
def f35_n10 (F : Nat) (kf35_j6003 : Unit → Option (AV × List Blk)) : (List Bool) → Option (AV × List Blk) := fun v => f35_n100 F (f35_n101 F kf35_j6003) kf35_j6003 v
theorem f35_n10_eq (F : Nat) (Rf35_j6003 : St → Option (AV × List Blk)) : ∀ v, aexec VG3835 (Af35 F) (sub (bodyOf Try.f35) [1, 0]) (ef35_j1024 v) (kSeq (fun s => Rf35_j6003 (cutTo VG3835 (some []) s)) (kFin VG3835 none (Try.f35).results.toList)) = f35_n10 F (fun w => Rf35_j6003 (ef35_j6003 w)) v :=
  seq_cut (c := (sub (bodyOf Try.f35) [1, 0])) (a := (sub (bodyOf Try.f35) [1, 0, 0])) (b := (sub (bodyOf Try.f35) [1, 0, 1])) (by kernel_rfl) (spec := [(0, .plain), (3, .plain)]) (by kernel_rfl) ef35_j1024 ef35_j2018 (kSeq (fun s => Rf35_j6003 (cutTo VG3835 (some []) s)) (kFin VG3835 none (Try.f35).results.toList)) (fun k => f35_n100 F k (fun w => Rf35_j6003 (ef35_j6003 w))) (f35_n101 F (fun w => Rf35_j6003 (ef35_j6003 w)))
    (fun Rf35_j2018 => f35_n100_eq F Rf35_j2018 Rf35_j6003) (f35_n101_eq F Rf35_j6003)
def f35_n11 (F : Nat) : Unit → Option (AV × List Blk) := fun _ => (some ((.int .i64 (-1 : Int)), []))
theorem f35_n11_eq (F : Nat) : ∀ v, aexec VG3835 (Af35 F) (sub (bodyOf Try.f35) [1, 1]) (ef35_j6003 v) (kFin VG3835 none (Try.f35).results.toList) = f35_n11 F v := by
  intro _; kernel_rfl
def f35_n1 (F : Nat) : (List Bool) → Option (AV × List Blk) := fun v => f35_n10 F (f35_n11 F) v
theorem f35_n1_eq (F : Nat) : ∀ v, aexec VG3835 (Af35 F) (sub (bodyOf Try.f35) [1]) (ef35_j1024 v) (kFin VG3835 none (Try.f35).results.toList) = f35_n1 F v :=
  seq_cut (c := (sub (bodyOf Try.f35) [1])) (a := (sub (bodyOf Try.f35) [1, 0])) (b := (sub (bodyOf Try.f35) [1, 1])) (by kernel_rfl) (spec := []) (by kernel_rfl) ef35_j1024 ef35_j6003 (kFin VG3835 none (Try.f35).results.toList) (fun k => f35_n10 F k) (f35_n11 F)
    (fun Rf35_j6003 => f35_n10_eq F Rf35_j6003) (f35_n11_eq F)
def f35_nt (F : Nat) : (List Bool) → Option (AV × List Blk) := fun v => f35_n0 F (f35_n1 F) v
theorem f35_nt_eq (F : Nat) : ∀ v, aexec VG3835 (Af35 F) (sub (bodyOf Try.f35) []) (ef35_a v) (kFin VG3835 none (Try.f35).results.toList) = f35_nt F v :=
  seq_cut (c := (sub (bodyOf Try.f35) [])) (a := (sub (bodyOf Try.f35) [0])) (b := (sub (bodyOf Try.f35) [1])) (by kernel_rfl) (spec := [(0, .plain)]) (by kernel_rfl) ef35_a ef35_j1024 (kFin VG3835 none (Try.f35).results.toList) (fun k => f35_n0 F k) (f35_n1 F)
    (fun Rf35_j1024 => f35_n0_eq F Rf35_j1024) (f35_n1_eq F)
/-- gantry/gantryref38.First -/
def f35 (F : Nat) : (List Bool) → Option (AV × List Blk) := f35_nt F
theorem f35_body (F : Nat) (a0 : List Bool) : abody VG3835 (Af35 F) Try.f35 [(.vs (.rB a0) 0 1)] [] = f35 F a0 :=
  (abody_in (c := (sub (bodyOf Try.f35) [])) (by kernel_rfl) (s := ef35_a a0) (by kernel_rfl)).trans (f35_nt_eq F a0)
def r35 : CRun := fun X H => match X, H with
  | [(.vs (.rB a0) 0 1)], [] => some (true, (.int .i64 (Reg.first a0)), [])
  | _, _ => none
theorem s35 (a0 : List Bool) (h0 : okV (.vs (.rB a0) 0 1)) : ∃ F, f35 F a0 = some ((.int .i64 (Reg.first a0)), []) := by
  have hlen : a0.length < 4611686018427387904 := h0
  refine ⟨a0.length + 1, ?_⟩
  simp only [f35, f35_nt, f35_n0, f35_n1, f35_n10, f35_n100, f35_n101, f35_n1010, f35_n1010_i]
  have hb : a0.length < 4611686018427387904 := hlen
  refine (loopN_scan (fun i => (a0, (i : Int))) a0.length (fun i => if (a0.getD i false) = true then some (some (AV.int .i64 (i : Int), [])) else none) (some (AV.int .i64 (-1), [])) (by rfl) (fun i hi k => ?_) (fun k => ?_) _ (by omega)).trans ?_
  · simp only [f35_n10100, dec_and]
    rw [cond_pos (by omega), cond_pos (by omega), Int.toNat_natCast, i64w (by omega) (by omega)]
    cases (a0.getD i false) <;> rfl
  · simp only [f35_n10100]
    rw [cond_neg (by omega)]
    rfl
  · rw [scan_idx (fun x => x) a0 false (fun i => some (AV.int .i64 (i : Int), []))]
    have e : (fun x : Bool => x) = fun x => x == true := funext fun x => by cases x <;> rfl
    rw [e]
    unfold Reg.first Reg.idx
    cases a0.findIdx? _ <;> rfl

theorem c35 : CallOk Try.prog G38 35 r35 := callOk_of (V := VG3835) mixed tys eVG3835 (f := 35) (fn := Try.f35) Try.func35 (by kernel_rfl) (c := sub (bodyOf Try.f35) []) (by kernel_rfl) (by
  intro X H r H' h hX hH
  unfold r35 at h; split at h <;> try contradiction
  · simp only [Option.some.injEq, Prod.mk.injEq] at h
    obtain ⟨hp, rfl, rfl⟩ := h
    obtain ⟨F, hF⟩ := s35 _ (hX _ (.head _))
    exact ⟨Af35 F, (f35_body F _).trans hF⟩)
/-! gantry/gantryref38.Has -/
def lVG3822 : List CEnt := []
def VG3822 : Env := mkEnv T38 G38 lVG3822
theorem eVG3822 : EOk Try.prog VG3822 := eok_mk (by exact trivial)
def Af22 (F : Nat) : Cuts := { F := F, at_ := fun n => match n with | 3014 => some [(0, .plain), (1, .plain), (2, .plain), (7, .plain), (8, .plain)] | _ => none, join := fun n => match n with | 1024 => some [(0, .plain), (1, .plain), (2, .plain)] | 2022 => some [(0, .plain), (1, .plain), (2, .plain), (7, .plain)] | 3016 => some [(0, .plain), (1, .plain), (2, .plain), (7, .plain), (8, .plain)] | 7003 => some [(7, .plain)] | _ => none }
def ef22_a : (List Int) × (List Int) × Int → St := fun (a0, a1, a2) => { tmps := [(0, (.vs (.rI .i64 a0) 0 1)), (1, (.vs (.rI .i64 a1) 0 1)), (2, (.int .i64 a2))], heap := [], next := 0, nt := 27, m := 0 }
def ef22_j1024 : (List Int) × (List Int) × Int → St := fun (t0, t1, t2) => { tmps := [(0, (.vs (.rI .i64 t0) 0 1)), (1, (.vs (.rI .i64 t1) 0 1)), (2, (.int .i64 t2))], heap := [], next := 0, nt := 27, m := 0 }
def ef22_j2022 : (List Int) × (List Int) × Int × Int → St := fun (t0, t1, t2, t7) => { tmps := [(0, (.vs (.rI .i64 t0) 0 1)), (1, (.vs (.rI .i64 t1) 0 1)), (2, (.int .i64 t2)), (7, (.int .i64 t7))], heap := [], next := 0, nt := 27, m := 0 }
def ef22_j3016 : (List Int) × (List Int) × Int × Int × Int → St := fun (t0, t1, t2, t7, t8) => { tmps := [(0, (.vs (.rI .i64 t0) 0 1)), (1, (.vs (.rI .i64 t1) 0 1)), (2, (.int .i64 t2)), (7, (.int .i64 t7)), (8, (.int .i64 t8))], heap := [], next := 0, nt := 27, m := 0 }
def ef22_l3014 : (List Int) × (List Int) × Int × Int × Int → St := fun (t0, t1, t2, t7, t8) => { tmps := [(0, (.vs (.rI .i64 t0) 0 1)), (1, (.vs (.rI .i64 t1) 0 1)), (2, (.int .i64 t2)), (7, (.int .i64 t7)), (8, (.int .i64 t8))], heap := [], next := 0, nt := 27, m := 0 }
def ef22_j7003 : Int → St := fun t7 => { tmps := [(7, (.int .i64 t7))], heap := [], next := 0, nt := 27, m := 0 }
def f22_n0 (F : Nat) (kf22_j1024 : (List Int) × (List Int) × Int → Option (AV × List Blk)) : (List Int) × (List Int) × Int → Option (AV × List Blk) := fun (a0, a1, a2) => (kf22_j1024 (a0, a1, a2))
theorem f22_n0_eq (F : Nat) (Rf22_j1024 : St → Option (AV × List Blk)) : ∀ v, aexec VG3822 (Af22 F) (sub (bodyOf Try.f22) [0]) (ef22_a v) (kSeq (fun s => Rf22_j1024 (cutTo VG3822 (some [(0, .plain), (1, .plain), (2, .plain)]) s)) (kFin VG3822 none (Try.f22).results.toList)) = f22_n0 F (fun w => Rf22_j1024 (ef22_j1024 w)) v := by
  rintro ⟨a0, a1, a2⟩; kernel_rfl
def f22_n10 (F : Nat) (kf22_j2022 : (List Int) × (List Int) × Int × Int → Option (AV × List Blk)) : (List Int) × (List Int) × Int → Option (AV × List Blk) := fun (t0, t1, t2) => (kf22_j2022 (t0, t1, t2, (0 : Int)))
theorem f22_n10_eq (F : Nat) (Rf22_j2022 : St → Option (AV × List Blk)) : ∀ v, aexec VG3822 (Af22 F) (sub (bodyOf Try.f22) [1, 0]) (ef22_j1024 v) (kSeq (fun s => Rf22_j2022 (cutTo VG3822 (some [(0, .plain), (1, .plain), (2, .plain), (7, .plain)]) s)) (kFin VG3822 none (Try.f22).results.toList)) = f22_n10 F (fun w => Rf22_j2022 (ef22_j2022 w)) v := by
  rintro ⟨t0, t1, t2⟩; kernel_rfl
def f22_n1100 (F : Nat) (kf22_j3016 : (List Int) × (List Int) × Int × Int × Int → Option (AV × List Blk)) (kf22_j7003 : Int → Option (AV × List Blk)) : (List Int) × (List Int) × Int × Int → Option (AV × List Blk) := fun (t0, t1, t2, t7) => (kf22_j3016 (t0, t1, t2, t7, (0 : Int)))
theorem f22_n1100_eq (F : Nat) (Rf22_j3016 : St → Option (AV × List Blk)) (Rf22_j7003 : St → Option (AV × List Blk)) : ∀ v, aexec VG3822 (Af22 F) (sub (bodyOf Try.f22) [1, 1, 0, 0]) (ef22_j2022 v) (kSeq (fun s => Rf22_j3016 (cutTo VG3822 (some [(0, .plain), (1, .plain), (2, .plain), (7, .plain), (8, .plain)]) s)) (kSeq (fun s => Rf22_j7003 (cutTo VG3822 (some [(7, .plain)]) s)) (kFin VG3822 none (Try.f22).results.toList))) = f22_n1100 F (fun w => Rf22_j3016 (ef22_j3016 w)) (fun w => Rf22_j7003 (ef22_j7003 w)) v := by
  rintro ⟨t0, t1, t2, t7⟩; kernel_rfl
def f22_n110100 (F : Nat) (kf22_l3014 : (List Int) × (List Int) × Int × Int × Int → Option (AV × List Blk)) (kf22_j7003 : Int → Option (AV × List Blk)) : (List Int) × (List Int) × Int × Int × Int → Option (AV × List Blk) := fun (t0, t1, t2, t7, t8) => (cond (decide (t8 < (↑t0.length : Int))) (cond ((decide (0 ≤ t8)) && (decide (t8 < (↑t0.length : Int)))) (cond ((decide (0 ≤ (t0.getD (Int.toNat t8) 0))) && (decide ((t0.getD (Int.toNat t8) 0) < (↑t1.length : Int)))) (cond ((t1.getD (Int.toNat (t0.getD (Int.toNat t8) 0)) 0) == t2) (kf22_l3014 (t0, t1, t2, (IntKind.i64.wrap (t7 + (1 : Int))), (IntKind.i64.wrap (t8 + (1 : Int))))) (kf22_l3014 (t0, t1, t2, t7, (IntKind.i64.wrap (t8 + (1 : Int)))))) none) none) (kf22_j7003 t7))
theorem f22_n110100_eq (F : Nat) (Rf22_l3014 : St → Option (AV × List Blk)) (Rf22_j7003 : St → Option (AV × List Blk)) : ∀ v, aexec VG3822 (Af22 F) (sub (bodyOf Try.f22) [1, 1, 0, 1, 0, 0]) (ef22_l3014 v) (kSeq (fun s => Rf22_l3014 (cutTo VG3822 (some [(0, .plain), (1, .plain), (2, .plain), (7, .plain), (8, .plain)]) s)) (kBlock 0 (kSeq (fun s => Rf22_j7003 (cutTo VG3822 (some [(7, .plain)]) s)) (kFin VG3822 none (Try.f22).results.toList)))) = f22_n110100 F (fun w => Rf22_l3014 (ef22_l3014 w)) (fun w => Rf22_j7003 (ef22_j7003 w)) v := by
  rintro ⟨t0, t1, t2, t7, t8⟩; kernel_rfl
def f22_n11010_i : (List Int) × (List Int) × Int × Int × Int → (List Int) × (List Int) × Int × Int × Int := fun (t0, t1, t2, t7, t8) => (t0, t1, t2, t7, t8)
def f22_n11010 (F : Nat) (kf22_j7003 : Int → Option (AV × List Blk)) : (List Int) × (List Int) × Int × Int × Int → Option (AV × List Blk) := fun v => loopN (fun k => f22_n110100 F k kf22_j7003) F (f22_n11010_i v)
theorem f22_n11010_eq (F : Nat) (Rf22_j7003 : St → Option (AV × List Blk)) : ∀ v, aexec VG3822 (Af22 F) (sub (bodyOf Try.f22) [1, 1, 0, 1, 0]) (ef22_j3016 v) (kBlock 0 (kSeq (fun s => Rf22_j7003 (cutTo VG3822 (some [(7, .plain)]) s)) (kFin VG3822 none (Try.f22).results.toList))) = f22_n11010 F (fun w => Rf22_j7003 (ef22_j7003 w)) v :=
  loop_cut (c := (sub (bodyOf Try.f22) [1, 1, 0, 1, 0])) (d := (sub (bodyOf Try.f22) [1, 1, 0, 1, 0, 0])) (by kernel_rfl) (spec := [(0, .plain), (1, .plain), (2, .plain), (7, .plain), (8, .plain)]) (by kernel_rfl) ef22_j3016 ef22_l3014 (kBlock 0 (kSeq (fun s => Rf22_j7003 (cutTo VG3822 (some [(7, .plain)]) s)) (kFin VG3822 none (Try.f22).results.toList))) f22_n11010_i (fun k => f22_n110100 F k (fun w => Rf22_j7003 (ef22_j7003 w)))
    (by rintro ⟨t0, t1, t2, t7, t8⟩; kernel_rfl) (fun Rf22_l3014 => f22_n110100_eq F Rf22_l3014 Rf22_j7003)
def f22_n1101 (F : Nat) (kf22_j7003 : Int → Option (AV × List Blk)) : (List Int) × (List Int) × Int × Int × Int → Option (AV × List Blk) := f22_n11010 F kf22_j7003
theorem f22_n1101_eq (F : Nat) (Rf22_j7003 : St → Option (AV × List Blk)) : ∀ v, aexec VG3822 (Af22 F) (sub (bodyOf Try.f22) [1, 1, 0, 1]) (ef22_j3016 v) (kSeq (fun s => Rf22_j7003 (cutTo VG3822 (some [(7, .plain)]) s)) (kFin VG3822 none (Try.f22).results.toList)) = f22_n1101 F (fun w => Rf22_j7003 (ef22_j7003 w)) v := fun v =>
  (block_in (c := (sub (bodyOf Try.f22) [1, 1, 0, 1])) (d := (sub (bodyOf Try.f22) [1, 1, 0, 1, 0])) (id := 0) (by kernel_rfl) _ _).trans (f22_n11010_eq F Rf22_j7003 v)
def f22_n110 (F : Nat) (kf22_j7003 : Int → Option (AV × List Blk)) : (List Int) × (List Int) × Int × Int → Option (AV × List Blk) := fun v => f22_n1100 F (f22_n1101 F kf22_j7003) kf22_j7003 v
theorem f22_n110_eq (F : Nat) (Rf22_j7003 : St → Option (AV × List Blk)) : ∀ v, aexec VG3822 (Af22 F) (sub (bodyOf Try.f22) [1, 1, 0]) (ef22_j2022 v) (kSeq (fun s => Rf22_j7003 (cutTo VG3822 (some [(7, .plain)]) s)) (kFin VG3822 none (Try.f22).results.toList)) = f22_n110 F (fun w => Rf22_j7003 (ef22_j7003 w)) v :=
  seq_cut (c := (sub (bodyOf Try.f22) [1, 1, 0])) (a := (sub (bodyOf Try.f22) [1, 1, 0, 0])) (b := (sub (bodyOf Try.f22) [1, 1, 0, 1])) (by kernel_rfl) (spec := [(0, .plain), (1, .plain), (2, .plain), (7, .plain), (8, .plain)]) (by kernel_rfl) ef22_j2022 ef22_j3016 (kSeq (fun s => Rf22_j7003 (cutTo VG3822 (some [(7, .plain)]) s)) (kFin VG3822 none (Try.f22).results.toList)) (fun k => f22_n1100 F k (fun w => Rf22_j7003 (ef22_j7003 w))) (f22_n1101 F (fun w => Rf22_j7003 (ef22_j7003 w)))
    (fun Rf22_j3016 => f22_n1100_eq F Rf22_j3016 Rf22_j7003) (f22_n1101_eq F Rf22_j7003)
def f22_n111 (F : Nat) : Int → Option (AV × List Blk) := fun t7 => (some ((.int .i64 t7), []))
theorem f22_n111_eq (F : Nat) : ∀ v, aexec VG3822 (Af22 F) (sub (bodyOf Try.f22) [1, 1, 1]) (ef22_j7003 v) (kFin VG3822 none (Try.f22).results.toList) = f22_n111 F v := by
  intro t7; kernel_rfl
def f22_n11 (F : Nat) : (List Int) × (List Int) × Int × Int → Option (AV × List Blk) := fun v => f22_n110 F (f22_n111 F) v
theorem f22_n11_eq (F : Nat) : ∀ v, aexec VG3822 (Af22 F) (sub (bodyOf Try.f22) [1, 1]) (ef22_j2022 v) (kFin VG3822 none (Try.f22).results.toList) = f22_n11 F v :=
  seq_cut (c := (sub (bodyOf Try.f22) [1, 1])) (a := (sub (bodyOf Try.f22) [1, 1, 0])) (b := (sub (bodyOf Try.f22) [1, 1, 1])) (by kernel_rfl) (spec := [(7, .plain)]) (by kernel_rfl) ef22_j2022 ef22_j7003 (kFin VG3822 none (Try.f22).results.toList) (fun k => f22_n110 F k) (f22_n111 F)
    (fun Rf22_j7003 => f22_n110_eq F Rf22_j7003) (f22_n111_eq F)
def f22_n1 (F : Nat) : (List Int) × (List Int) × Int → Option (AV × List Blk) := fun v => f22_n10 F (f22_n11 F) v
theorem f22_n1_eq (F : Nat) : ∀ v, aexec VG3822 (Af22 F) (sub (bodyOf Try.f22) [1]) (ef22_j1024 v) (kFin VG3822 none (Try.f22).results.toList) = f22_n1 F v :=
  seq_cut (c := (sub (bodyOf Try.f22) [1])) (a := (sub (bodyOf Try.f22) [1, 0])) (b := (sub (bodyOf Try.f22) [1, 1])) (by kernel_rfl) (spec := [(0, .plain), (1, .plain), (2, .plain), (7, .plain)]) (by kernel_rfl) ef22_j1024 ef22_j2022 (kFin VG3822 none (Try.f22).results.toList) (fun k => f22_n10 F k) (f22_n11 F)
    (fun Rf22_j2022 => f22_n10_eq F Rf22_j2022) (f22_n11_eq F)
def f22_nt (F : Nat) : (List Int) × (List Int) × Int → Option (AV × List Blk) := fun v => f22_n0 F (f22_n1 F) v
theorem f22_nt_eq (F : Nat) : ∀ v, aexec VG3822 (Af22 F) (sub (bodyOf Try.f22) []) (ef22_a v) (kFin VG3822 none (Try.f22).results.toList) = f22_nt F v :=
  seq_cut (c := (sub (bodyOf Try.f22) [])) (a := (sub (bodyOf Try.f22) [0])) (b := (sub (bodyOf Try.f22) [1])) (by kernel_rfl) (spec := [(0, .plain), (1, .plain), (2, .plain)]) (by kernel_rfl) ef22_a ef22_j1024 (kFin VG3822 none (Try.f22).results.toList) (fun k => f22_n0 F k) (f22_n1 F)
    (fun Rf22_j1024 => f22_n0_eq F Rf22_j1024) (f22_n1_eq F)
/-- gantry/gantryref38.Has -/
def f22 (F : Nat) : (List Int) × (List Int) × Int → Option (AV × List Blk) := f22_nt F
theorem f22_body (F : Nat) (a0 : List Int) (a1 : List Int) (a2 : Int) : abody VG3822 (Af22 F) Try.f22 [(.vs (.rI .i64 a0) 0 1), (.vs (.rI .i64 a1) 0 1), (.int .i64 a2)] [] = f22 F (a0, a1, a2) :=
  (abody_in (c := (sub (bodyOf Try.f22) [])) (by kernel_rfl) (s := ef22_a (a0, a1, a2)) (by kernel_rfl)).trans (f22_nt_eq F (a0, a1, a2))
def r22 : CRun := fun X H => match X, H with
  | [(.vs (.rI .i64 a0) 0 1), (.vs (.rI .i64 a1) 0 1), (.int .i64 a2)], [] => some ((Reg.inr a1.length a0), (.int .i64 (Reg.has a0 a1 a2)), [])
  | _, _ => none
theorem s22 (a0 : List Int) (a1 : List Int) (a2 : Int) (hp : ((Reg.inr a1.length a0)) = true) (h0 : okV (.vs (.rI .i64 a0) 0 1)) (h1 : okV (.vs (.rI .i64 a1) 0 1)) (h2 : okV (.int .i64 a2)) : ∃ F, f22 F (a0, a1, a2) = some ((.int .i64 (Reg.has a0 a1 a2)), []) := by
  have hlen : a0.length < 4611686018427387904 := h0.2
  refine ⟨a0.length + 1, ?_⟩
  simp only [f22, f22_nt, f22_n0, f22_n1, f22_n10, f22_n11, f22_n110, f22_n1100, f22_n1101, f22_n11010, f22_n11010_i]
  refine loopN_from (fun i => (a0, a1, a2, Reg.has (a0.take i) a1 a2, (i : Int))) a0.length (by rfl) (fun i hi k => ?_) (fun k => ?_) _ (by omega)
  · have hr := Reg.inr_getD hp hi
    have hh : Reg.has (a0.take i) a1 a2 ≤ (i : Int) := Int.ofNat_le.mpr (Nat.le_trans (List.length_filter_le _ _) (by rw [List.length_take]; omega))
    have hh0 : 0 ≤ Reg.has (a0.take i) a1 a2 := Int.natCast_nonneg _
    have e : Reg.has (a0.take (i + 1)) a1 a2 = Reg.has (a0.take i) a1 a2 + (if a1.getD (Int.toNat (a0.getD i 0)) 0 = a2 then 1 else 0) := by
      rw [← Reg.take_get a0 0 i hi]
      unfold Reg.has
      rw [List.filter_append, List.length_append]
      by_cases h : a1.getD (Int.toNat (a0.getD i 0)) 0 = a2
      · rw [if_pos h, List.filter_cons, if_pos (decide_eq_true h)]; simp
      · rw [if_neg h, List.filter_cons, if_neg (by simpa using h)]; simp
    simp only [f22_n110100, dec_and, int_beq]
    rw [cond_pos (by omega), cond_pos (by omega), Int.toNat_natCast, cond_pos (by omega), i64w (x := (i : Int) + 1) (by omega) (by omega), i64w (by omega) (by omega), e]
    by_cases h : a1.getD (Int.toNat (a0.getD i 0)) 0 = a2
    · rw [cond_pos h, if_pos h]; rfl
    · rw [cond_neg h, if_neg h, Int.add_zero]; rfl
  · simp only [f22_n110100]
    rw [cond_neg (by omega), List.take_length]
    rfl

theorem c22 : CallOk Try.prog G38 22 r22 := callOk_of (V := VG3822) mixed tys eVG3822 (f := 22) (fn := Try.f22) Try.func22 (by kernel_rfl) (c := sub (bodyOf Try.f22) []) (by kernel_rfl) (by
  intro X H r H' h hX hH
  unfold r22 at h; split at h <;> try contradiction
  · simp only [Option.some.injEq, Prod.mk.injEq] at h
    obtain ⟨hp, rfl, rfl⟩ := h
    obtain ⟨F, hF⟩ := s22 _ _ _ hp (hX _ (.head _)) (hX _ (.tail _ (.head _))) (hX _ (.tail _ (.tail _ (.head _))))
    exact ⟨Af22 F, (f22_body F _ _ _).trans hF⟩)
end Go.Am
