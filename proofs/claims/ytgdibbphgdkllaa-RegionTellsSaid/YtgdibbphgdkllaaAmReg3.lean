/- Part of a proof about the functions of the given program. -/
import Derived.Test.YtgdibbphgdkllaaAm38A
import Derived.Test.YtgdibbphgdkllaaAmClaim
import Derived.Test.YtgdibbphgdkllaaRows
import Derived.WalkKit
import Derived.ProofKit
import Derived.OpenShut
import Derived.LaidMore
import Derived.LaidLaws
import Derived.Deep.DeepHandedRow
import Derived.Test.YtgdibbphgdkllaaAmReg
set_option linter.unusedSimpArgs false
set_option linter.unusedVariables false
section
/- What the claims of this seat share. -/
namespace Go.Proofs.Ytgdibbphgdkllaa
open Go Go.Am
theorem own : ownKnob Try.prog.godebug = none := by kernel_rfl
theorem laidOut : laidOutB Try.prog = true := by kernel_rfl
theorem gok0 {W : World} : GOk G38 W W0 := fun g r h => by cases h
end Go.Proofs.Ytgdibbphgdkllaa
end
section
namespace Go.Am
open Go Go.Proofs
abbrev sp11 : List (Nat × Md) := [(0,.plain),(1,.plain),(7,.plain),(8,.plain)]
abbrev Ty12 := (List Int) × Int × Int × (List Bool)
abbrev Ty13 := (List Int) × Int × Int × (List Int) × Int
abbrev Ty14 := (List Bool) × Bool × Int × Int
def lVG3856 : List CEnt := []
def VG3856 : Env := mkEnv T38 G38 lVG3856
theorem eVG3856 : EOk Try.prog VG3856 := eok_mk (by exact trivial)
def Af56 (F : Nat) : Cuts := { F := F,at_ := fun _ => none,join := fun _ => none }
def ef56_a : Int × (List Bool) → St := fun (a0,a1) => { tmps := [(0,(.int .i64 a0)),(1,(.ptr 0 0 1 0 0 0 1))],heap := [(0,(.cells 1 (.one (.vs (.rB a1) 0 1)) true))],next := 1,nt := 12,m := 1 }
def f56_1 (F : Nat) : Int × (List Bool) → Rz := fun (a0,a1) => (cond (decide (a0 < (-1 : Int))) (some ((.bool true),[(.cells 1 (.one (.vs (.rB a1) 0 1)) true)])) (some ((.bool (decide (a0 ≥ (↑a1.length : Int)))),[(.cells 1 (.one (.vs (.rB a1) 0 1)) true)])))
theorem f56_1_eq (F : Nat) : ∀ v,aexec VG3856 (Af56 F) (sub (bodyOf Try.f56) []) (ef56_a v) (kFin VG3856 none (Try.f56).results.toList) = f56_1 F v := by
  rintro ⟨a0,a1⟩; kernel_rfl
def f56 (F : Nat) : Int × (List Bool) → Rz := f56_1 F
theorem f56_body (F : Nat) (a0 : Int) (a1 : List Bool) : abody VG3856 (Af56 F) Try.f56 [(.int .i64 a0),(.ptr 0 0 1 0 0 0 1)] [(.cells 1 (.one (.vs (.rB a1) 0 1)) true)] = f56 F (a0,a1) :=
  (abody_in (c := (sub (bodyOf Try.f56) [])) (by kernel_rfl) (s := ef56_a (a0,a1)) (by kernel_rfl)).trans (f56_1_eq F (a0,a1))
def r56 : CRun := fun X H => match X,H with
  | [(.int .i64 a0),(.ptr 0 0 1 0 0 0 1)],[(.cells 1 (.one (.vs (.rB a1) 0 1)) true)] => some (true,(.bool (!(Reg.okO a1.length a0))),[(.cells 1 (.one (.vs (.rB a1) 0 1)) true)])
  | _,_ => none
theorem s56 (a0 : Int) (a1 : List Bool) (h0 : okV (.int .i64 a0)) (k0 : okB (.cells 1 (.one (.vs (.rB a1) 0 1)) true)) : ∃ F,f56 F (a0,a1) = some ((.bool (!(Reg.okO a1.length a0))),[(.cells 1 (.one (.vs (.rB a1) 0 1)) true)]) := by
  refine ⟨0,?_⟩
  simp only [f56,f56_1,Reg.okO,dec_and,dec_not]
  by_cases h : a0 < -1
  · rw [cond_pos h,decide_eq_true (by omega)]
  · rw [cond_neg h]
    have e : decide (a0 ≥ (a1.length : Int)) = decide (¬ (-1 ≤ a0 ∧ a0 < (a1.length : Int))) := by rw [Bool.eq_iff_iff]; simp only [decide_eq_true_eq]; omega
    rw [e]
theorem c56 : CallOk Try.prog G38 56 r56 := callOk_of (V := VG3856) mixed tys eVG3856 (f := 56) (fn := Try.f56) Try.func56 (by kernel_rfl) (c := sub (bodyOf Try.f56) []) (by kernel_rfl) (by
  intro X H r H' h hX hH
  unfold r56 at h; split at h <;> try contradiction
  · simp only [Option.some.injEq,Prod.mk.injEq] at h
    obtain ⟨hp,rfl,rfl⟩ := h
    obtain ⟨F,hF⟩ := s56 _ _ (hX _ (.head _)) (hH _ (.head _))
    exact ⟨Af56 F,(f56_body F _ _).trans hF⟩)
def lVG3846 : List CEnt := []
def VG3846 : Env := mkEnv T38 G38 lVG3846
theorem eVG3846 : EOk Try.prog VG3846 := eok_mk (by exact trivial)
def Af46 (F : Nat) : Cuts := { F := F,at_ := fun _ => none,join := fun _ => none }
def ef46_a : Int × (List Int) × Int → St := fun (a0,a1,a2) => { tmps := [(0,(.int .i64 a0)),(1,(.ptr 0 0 1 0 0 0 1)),(2,(.ptr 1 0 1 0 0 0 1))],heap := [(0,(.cells 1 (.one (.vs (.rI .i64 a1) 0 1)) true)),(1,(.cells 1 (.one (.int .i64 a2)) true))],next := 2,nt := 11,m := 2 }
def f46_1 (F : Nat) : Int × (List Int) × Int → Rz := fun (a0,a1,a2) => (cond ((decide (0 ≤ a0)) && (decide (a0 < (↑a1.length : Int)))) (some ((.bool ((a1.getD (Int.toNat a0) 0) == a2)),[(.cells 1 (.one (.vs (.rI .i64 a1) 0 1)) true),(.cells 1 (.one (.int .i64 a2)) true)])) none)
theorem f46_1_eq (F : Nat) : ∀ v,aexec VG3846 (Af46 F) (sub (bodyOf Try.f46) []) (ef46_a v) (kFin VG3846 none (Try.f46).results.toList) = f46_1 F v := by
  rintro ⟨a0,a1,a2⟩; kernel_rfl
def f46 (F : Nat) : Int × (List Int) × Int → Rz := f46_1 F
theorem f46_body (F : Nat) (a0 : Int) (a1 : List Int) (a2 : Int) : abody VG3846 (Af46 F) Try.f46 [(.int .i64 a0),(.ptr 0 0 1 0 0 0 1),(.ptr 1 0 1 0 0 0 1)] [(.cells 1 (.one (.vs (.rI .i64 a1) 0 1)) true),(.cells 1 (.one (.int .i64 a2)) true)] = f46 F (a0,a1,a2) :=
  (abody_in (c := (sub (bodyOf Try.f46) [])) (by kernel_rfl) (s := ef46_a (a0,a1,a2)) (by kernel_rfl)).trans (f46_1_eq F (a0,a1,a2))
def r46 : CRun := fun X H => match X,H with
  | [(.int .i64 a0),(.ptr 0 0 1 0 0 0 1),(.ptr 1 0 1 0 0 0 1)],[(.cells 1 (.one (.vs (.rI .i64 a1) 0 1)) true),(.cells 1 (.one (.int .i64 a2)) true)] => some (((decide (0 ≤ a0)) && (decide (a0 < (a1.length : Int)))),(.bool (a1.getD (Int.toNat a0) 0 == a2)),[(.cells 1 (.one (.vs (.rI .i64 a1) 0 1)) true),(.cells 1 (.one (.int .i64 a2)) true)])
  | _,_ => none
theorem s46 (a0 : Int) (a1 : List Int) (a2 : Int) (hp : (((decide (0 ≤ a0)) && (decide (a0 < (a1.length : Int))))) = true) (h0 : okV (.int .i64 a0)) (k0 : okB (.cells 1 (.one (.vs (.rI .i64 a1) 0 1)) true)) (k1 : okB (.cells 1 (.one (.int .i64 a2)) true)) : ∃ F,f46 F (a0,a1,a2) = some ((.bool (a1.getD (Int.toNat a0) 0 == a2)),[(.cells 1 (.one (.vs (.rI .i64 a1) 0 1)) true),(.cells 1 (.one (.int .i64 a2)) true)]) := by
  refine ⟨0,?_⟩
  simp only [f46,f46_1,hp,cond_true]
theorem c46 : CallOk Try.prog G38 46 r46 := callOk_of (V := VG3846) mixed tys eVG3846 (f := 46) (fn := Try.f46) Try.func46 (by kernel_rfl) (c := sub (bodyOf Try.f46) []) (by kernel_rfl) (by
  intro X H r H' h hX hH
  unfold r46 at h; split at h <;> try contradiction
  · simp only [Option.some.injEq,Prod.mk.injEq] at h
    obtain ⟨hp,rfl,rfl⟩ := h
    obtain ⟨F,hF⟩ := s46 _ _ _ hp (hX _ (.head _)) (hH _ (.head _)) (hH _ (.tail _ (.head _)))
    exact ⟨Af46 F,(f46_body F _ _ _).trans hF⟩)
def lVG3859 : List CEnt := [(46,[none,none,none],r46),(56,[none,none],r56)]
def VG3859 : Env := mkEnv T38 G38 lVG3859
theorem eVG3859 : EOk Try.prog VG3859 := eok_mk (by exact ⟨c46,c56,trivial⟩)
def Af59 (F : Nat) : Cuts := { F := F,at_ := fun n => match n with | 2018 => some sp11 | _ => none,join := fun n => match n with | 1026 => some [(0,.plain),(1,.plain)] | 2020 => some sp11 | 7003 => some [] | _ => none }
def ef59_a : (List Int) × (List Bool) → St := fun (a0,a1) => { tmps := [(0,(.vs (.rI .i64 a0) 0 1)),(1,(.fn 56 (.cons 0 (.ptr 0 0 1 0 0 0 1) .nil)))],heap := [(0,(.cells 1 (.one (.vs (.rB a1) 0 1)) true))],next := 1,nt := 19,m := 1 }
def ef59j1 : (List Int) × (List Bool) → St := fun (t0,x2) => { tmps := [(0,(.vs (.rI .i64 t0) 0 1)),(1,(.fn 56 (.cons 0 (.ptr 0 0 1 0 0 0 1) .nil)))],heap := [(0,(.cells 1 (.one (.vs (.rB x2) 0 1)) true))],next := 1,nt := 19,m := 1 }
def ef59j2 : Ty12 → St := fun (t0,t7,t8,x4) => { tmps := [(0,(.vs (.rI .i64 t0) 0 1)),(1,(.fn 56 (.cons 0 (.ptr 0 0 1 0 0 0 1) .nil))),(7,(.int .i64 t7)),(8,(.int .i64 t8))],heap := [(0,(.cells 1 (.one (.vs (.rB x4) 0 1)) true))],next := 1,nt := 19,m := 1 }
def ef59l1 : Ty12 → St := fun (t0,t7,t8,x4) => { tmps := [(0,(.vs (.rI .i64 t0) 0 1)),(1,(.fn 56 (.cons 0 (.ptr 0 0 1 0 0 0 1) .nil))),(7,(.int .i64 t7)),(8,(.int .i64 t8))],heap := [(0,(.cells 1 (.one (.vs (.rB x4) 0 1)) true))],next := 1,nt := 19,m := 1 }
def ef59j3 : (List Bool) → St := fun x1 => { tmps := [],heap := [(0,(.cells 1 (.one (.vs (.rB x1) 0 1)) true))],next := 1,nt := 19,m := 1 }
def f59_1 (F : Nat) (kf59j1 : (List Int) × (List Bool) → Rz) : (List Int) × (List Bool) → Rz := fun (a0,a1) => (kf59j1 (a0,a1))
theorem f59_1_eq (F : Nat) (Rf59j1 : St → Rz) : ∀ v,aexec VG3859 (Af59 F) (bp Try.f59 2) (ef59_a v) (kSeq (kc VG3859 Rf59j1 [(0,.plain),(1,.plain)]) (kFin VG3859 none (Try.f59).results.toList)) = f59_1 F (Rf59j1 ∘ ef59j1) v := by
  rintro ⟨a0,a1⟩; kernel_rfl
def f59_2 (F : Nat) (kf59j2 : Ty12 → Rz) (kf59j3 : (List Bool) → Rz) : (List Int) × (List Bool) → Rz := fun (t0,x2) => (kf59j2 (t0,(↑t0.length : Int),(0 : Int),x2))
theorem f59_2_eq (F : Nat) (Rf59j2 : St → Rz) (Rf59j3 : St → Rz) : ∀ v,aexec VG3859 (Af59 F) (bp Try.f59 12) (ef59j1 v) (kSeq (kc VG3859 Rf59j2 sp11) (kSeq (kc VG3859 Rf59j3 []) (kFin VG3859 none (Try.f59).results.toList))) = f59_2 F (Rf59j2 ∘ ef59j2) (Rf59j3 ∘ ef59j3) v := by
  rintro ⟨t0,x2⟩; kernel_rfl
def f59_3 (F : Nat) (kf59l1 : Ty12 → Rz) (kf59j3 : (List Bool) → Rz) : Ty12 → Rz := fun (t0,t7,t8,x4) => (cond (decide (t8 < t7)) (cond ((decide (0 ≤ t8)) && (decide (t8 < (↑t0.length : Int)))) (cond (!(Reg.okO x4.length (t0.getD (Int.toNat t8) 0))) (some ((.int .i64 t8),[(.cells 1 (.one (.vs (.rB x4) 0 1)) true)])) (kf59l1 (t0,t7,(IntKind.i64.wrap (t8 + (1 : Int))),x4))) none) (kf59j3 x4))
theorem f59_3_eq (F : Nat) (Rf59l1 : St → Rz) (Rf59j3 : St → Rz) : ∀ v,aexec VG3859 (Af59 F) (bp Try.f59 52) (ef59l1 v) (kSeq (kc VG3859 Rf59l1 sp11) (kBlock 0 (kSeq (kc VG3859 Rf59j3 []) (kFin VG3859 none (Try.f59).results.toList)))) = f59_3 F (Rf59l1 ∘ ef59l1) (Rf59j3 ∘ ef59j3) v := by
  rintro ⟨t0,t7,t8,x4⟩; kernel_rfl
def f59_4_i : Ty12 → (List Int) × Int × Int × (List Bool) := fun (t0,t7,t8,x4) => (t0,t7,t8,x4)
def f59_4 (F : Nat) (kf59j3 : (List Bool) → Rz) : Ty12 → Rz := fun v => loopN (fun k => f59_3 F k kf59j3) F (f59_4_i v)
theorem f59_4_eq (F : Nat) (Rf59j3 : St → Rz) : ∀ v,aexec VG3859 (Af59 F) (bp Try.f59 26) (ef59j2 v) (kBlock 0 (kSeq (kc VG3859 Rf59j3 []) (kFin VG3859 none (Try.f59).results.toList))) = f59_4 F (Rf59j3 ∘ ef59j3) v :=
  loop_cut (by kernel_rfl) (by kernel_rfl) ef59j2 ef59l1 _ f59_4_i (fun k => f59_3 F k (Rf59j3 ∘ ef59j3))
    (by rintro ⟨t0,t7,t8,x4⟩; kernel_rfl) (fun Rf59l1 => f59_3_eq F Rf59l1 Rf59j3)
def f59_5 (F : Nat) (kf59j3 : (List Bool) → Rz) : Ty12 → Rz := f59_4 F kf59j3
theorem f59_5_eq (F : Nat) (Rf59j3 : St → Rz) : ∀ v,aexec VG3859 (Af59 F) (bp Try.f59 13) (ef59j2 v) (kSeq (kc VG3859 Rf59j3 []) (kFin VG3859 none (Try.f59).results.toList)) = f59_5 F (Rf59j3 ∘ ef59j3) v := fun v =>
  (block_in  (by kernel_rfl) _ _).trans (f59_4_eq F Rf59j3 v)
def f59_6 (F : Nat) (kf59j3 : (List Bool) → Rz) : (List Int) × (List Bool) → Rz := fun v => f59_2 F (f59_5 F kf59j3) kf59j3 v
theorem f59_6_eq (F : Nat) (Rf59j3 : St → Rz) : ∀ v,aexec VG3859 (Af59 F) (bp Try.f59 6) (ef59j1 v) (kSeq (kc VG3859 Rf59j3 []) (kFin VG3859 none (Try.f59).results.toList)) = f59_6 F (Rf59j3 ∘ ef59j3) v :=
  seq_cut (by kernel_rfl) (by kernel_rfl) ef59j1 ef59j2 _ (fun k => f59_2 F k (Rf59j3 ∘ ef59j3)) (f59_5 F (Rf59j3 ∘ ef59j3))
    (fun Rf59j2 => f59_2_eq F Rf59j2 Rf59j3) (f59_5_eq F Rf59j3)
def f59_7 (F : Nat) : (List Bool) → Rz := fun x1 => (some ((.int .i64 (-1 : Int)),[(.cells 1 (.one (.vs (.rB x1) 0 1)) true)]))
theorem f59_7_eq (F : Nat) : ∀ v,aexec VG3859 (Af59 F) (bp Try.f59 7) (ef59j3 v) (kFin VG3859 none (Try.f59).results.toList) = f59_7 F v := by
  intro x1; kernel_rfl
def f59_8 (F : Nat) : (List Int) × (List Bool) → Rz := fun v => f59_6 F (f59_7 F) v
theorem f59_8_eq (F : Nat) : ∀ v,aexec VG3859 (Af59 F) (bp Try.f59 3) (ef59j1 v) (kFin VG3859 none (Try.f59).results.toList) = f59_8 F v :=
  seq_cut (by kernel_rfl) (by kernel_rfl) ef59j1 ef59j3 _ (fun k => f59_6 F k) (f59_7 F)
    (fun Rf59j3 => f59_6_eq F Rf59j3) (f59_7_eq F)
def f59_9 (F : Nat) : (List Int) × (List Bool) → Rz := fun v => f59_1 F (f59_8 F) v
theorem f59_9_eq (F : Nat) : ∀ v,aexec VG3859 (Af59 F) (sub (bodyOf Try.f59) []) (ef59_a v) (kFin VG3859 none (Try.f59).results.toList) = f59_9 F v :=
  seq_cut (by kernel_rfl) (by kernel_rfl) ef59_a ef59j1 _ (fun k => f59_1 F k) (f59_8 F)
    (fun Rf59j1 => f59_1_eq F Rf59j1) (f59_8_eq F)
def f59 (F : Nat) : (List Int) × (List Bool) → Rz := f59_9 F
theorem f59_body (F : Nat) (a0 : List Int) (a1 : List Bool) : abody VG3859 (Af59 F) Try.f59 [(.vs (.rI .i64 a0) 0 1),(.fn 56 (.cons 0 (.ptr 0 0 1 0 0 0 1) .nil))] [(.cells 1 (.one (.vs (.rB a1) 0 1)) true)] = f59 F (a0,a1) :=
  (abody_in (c := (sub (bodyOf Try.f59) [])) (by kernel_rfl) (s := ef59_a (a0,a1)) (by kernel_rfl)).trans (f59_9_eq F (a0,a1))
def Af59b (F : Nat) : Cuts := { F := F,at_ := fun n => match n with | 2018 => some sp11 | _ => none,join := fun n => match n with | 1026 => some [(0,.plain),(1,.plain)] | 2020 => some sp11 | 7003 => some [] | _ => none }
def ef59b_a : Ty11 → St := fun (a0,a1,a2) => { tmps := [(0,(.vs (.rI .i64 a0) 0 1)),(1,(.fn 46 (.cons 0 (.ptr 0 0 1 0 0 0 1) (.cons 0 (.ptr 1 0 1 0 0 0 1) .nil))))],heap := [(0,(.cells 1 (.one (.vs (.rI .i64 a1) 0 1)) true)),(1,(.cells 1 (.one (.int .i64 a2)) true))],next := 2,nt := 19,m := 2 }
def ef59bj1 : Ty11 → St := fun (t0,x2,x3) => { tmps := [(0,(.vs (.rI .i64 t0) 0 1)),(1,(.fn 46 (.cons 0 (.ptr 0 0 1 0 0 0 1) (.cons 0 (.ptr 1 0 1 0 0 0 1) .nil))))],heap := [(0,(.cells 1 (.one (.vs (.rI .i64 x2) 0 1)) true)),(1,(.cells 1 (.one (.int .i64 x3)) true))],next := 2,nt := 19,m := 2 }
def ef59bj2 : Ty13 → St := fun (t0,t7,t8,x4,x5) => { tmps := [(0,(.vs (.rI .i64 t0) 0 1)),(1,(.fn 46 (.cons 0 (.ptr 0 0 1 0 0 0 1) (.cons 0 (.ptr 1 0 1 0 0 0 1) .nil)))),(7,(.int .i64 t7)),(8,(.int .i64 t8))],heap := [(0,(.cells 1 (.one (.vs (.rI .i64 x4) 0 1)) true)),(1,(.cells 1 (.one (.int .i64 x5)) true))],next := 2,nt := 19,m := 2 }
def ef59bl1 : Ty13 → St := fun (t0,t7,t8,x4,x5) => { tmps := [(0,(.vs (.rI .i64 t0) 0 1)),(1,(.fn 46 (.cons 0 (.ptr 0 0 1 0 0 0 1) (.cons 0 (.ptr 1 0 1 0 0 0 1) .nil)))),(7,(.int .i64 t7)),(8,(.int .i64 t8))],heap := [(0,(.cells 1 (.one (.vs (.rI .i64 x4) 0 1)) true)),(1,(.cells 1 (.one (.int .i64 x5)) true))],next := 2,nt := 19,m := 2 }
def ef59bj3 : (List Int) × Int → St := fun (x1,x2) => { tmps := [],heap := [(0,(.cells 1 (.one (.vs (.rI .i64 x1) 0 1)) true)),(1,(.cells 1 (.one (.int .i64 x2)) true))],next := 2,nt := 19,m := 2 }
def f59b_1 (F : Nat) (kf59bj1 : Ty11 → Rz) : Ty11 → Rz := fun (a0,a1,a2) => (kf59bj1 (a0,a1,a2))
theorem f59b_1_eq (F : Nat) (Rf59bj1 : St → Rz) : ∀ v,aexec VG3859 (Af59b F) (bp Try.f59 2) (ef59b_a v) (kSeq (kc VG3859 Rf59bj1 [(0,.plain),(1,.plain)]) (kFin VG3859 none (Try.f59).results.toList)) = f59b_1 F (Rf59bj1 ∘ ef59bj1) v := by
  rintro ⟨a0,a1,a2⟩; kernel_rfl
def f59b_2 (F : Nat) (kf59bj2 : Ty13 → Rz) (kf59bj3 : (List Int) × Int → Rz) : Ty11 → Rz := fun (t0,x2,x3) => (kf59bj2 (t0,(↑t0.length : Int),(0 : Int),x2,x3))
theorem f59b_2_eq (F : Nat) (Rf59bj2 : St → Rz) (Rf59bj3 : St → Rz) : ∀ v,aexec VG3859 (Af59b F) (bp Try.f59 12) (ef59bj1 v) (kSeq (kc VG3859 Rf59bj2 sp11) (kSeq (kc VG3859 Rf59bj3 []) (kFin VG3859 none (Try.f59).results.toList))) = f59b_2 F (Rf59bj2 ∘ ef59bj2) (Rf59bj3 ∘ ef59bj3) v := by
  rintro ⟨t0,x2,x3⟩; kernel_rfl
def f59b_3 (F : Nat) (kf59bl1 : Ty13 → Rz) (kf59bj3 : (List Int) × Int → Rz) : Ty13 → Rz := fun (t0,t7,t8,x4,x5) => (cond (decide (t8 < t7)) (cond ((decide (0 ≤ t8)) && (decide (t8 < (↑t0.length : Int)))) (cond ((decide (0 ≤ (t0.getD (Int.toNat t8) 0))) && (decide ((t0.getD (Int.toNat t8) 0) < (x4.length : Int)))) (cond (x4.getD (Int.toNat (t0.getD (Int.toNat t8) 0)) 0 == x5) (some ((.int .i64 t8),[(.cells 1 (.one (.vs (.rI .i64 x4) 0 1)) true),(.cells 1 (.one (.int .i64 x5)) true)])) (kf59bl1 (t0,t7,(IntKind.i64.wrap (t8 + (1 : Int))),x4,x5))) none) none) (kf59bj3 (x4,x5)))
theorem f59b_3_eq (F : Nat) (Rf59bl1 : St → Rz) (Rf59bj3 : St → Rz) : ∀ v,aexec VG3859 (Af59b F) (bp Try.f59 52) (ef59bl1 v) (kSeq (kc VG3859 Rf59bl1 sp11) (kBlock 0 (kSeq (kc VG3859 Rf59bj3 []) (kFin VG3859 none (Try.f59).results.toList)))) = f59b_3 F (Rf59bl1 ∘ ef59bl1) (Rf59bj3 ∘ ef59bj3) v := by
  rintro ⟨t0,t7,t8,x4,x5⟩; kernel_rfl
def f59b_4_i : Ty13 → (List Int) × Int × Int × (List Int) × Int := fun (t0,t7,t8,x4,x5) => (t0,t7,t8,x4,x5)
def f59b_4 (F : Nat) (kf59bj3 : (List Int) × Int → Rz) : Ty13 → Rz := fun v => loopN (fun k => f59b_3 F k kf59bj3) F (f59b_4_i v)
theorem f59b_4_eq (F : Nat) (Rf59bj3 : St → Rz) : ∀ v,aexec VG3859 (Af59b F) (bp Try.f59 26) (ef59bj2 v) (kBlock 0 (kSeq (kc VG3859 Rf59bj3 []) (kFin VG3859 none (Try.f59).results.toList))) = f59b_4 F (Rf59bj3 ∘ ef59bj3) v :=
  loop_cut (by kernel_rfl) (by kernel_rfl) ef59bj2 ef59bl1 _ f59b_4_i (fun k => f59b_3 F k (Rf59bj3 ∘ ef59bj3))
    (by rintro ⟨t0,t7,t8,x4,x5⟩; kernel_rfl) (fun Rf59bl1 => f59b_3_eq F Rf59bl1 Rf59bj3)
def f59b_5 (F : Nat) (kf59bj3 : (List Int) × Int → Rz) : Ty13 → Rz := f59b_4 F kf59bj3
theorem f59b_5_eq (F : Nat) (Rf59bj3 : St → Rz) : ∀ v,aexec VG3859 (Af59b F) (bp Try.f59 13) (ef59bj2 v) (kSeq (kc VG3859 Rf59bj3 []) (kFin VG3859 none (Try.f59).results.toList)) = f59b_5 F (Rf59bj3 ∘ ef59bj3) v := fun v =>
  (block_in  (by kernel_rfl) _ _).trans (f59b_4_eq F Rf59bj3 v)
def f59b_6 (F : Nat) (kf59bj3 : (List Int) × Int → Rz) : Ty11 → Rz := fun v => f59b_2 F (f59b_5 F kf59bj3) kf59bj3 v
theorem f59b_6_eq (F : Nat) (Rf59bj3 : St → Rz) : ∀ v,aexec VG3859 (Af59b F) (bp Try.f59 6) (ef59bj1 v) (kSeq (kc VG3859 Rf59bj3 []) (kFin VG3859 none (Try.f59).results.toList)) = f59b_6 F (Rf59bj3 ∘ ef59bj3) v :=
  seq_cut (by kernel_rfl) (by kernel_rfl) ef59bj1 ef59bj2 _ (fun k => f59b_2 F k (Rf59bj3 ∘ ef59bj3)) (f59b_5 F (Rf59bj3 ∘ ef59bj3))
    (fun Rf59bj2 => f59b_2_eq F Rf59bj2 Rf59bj3) (f59b_5_eq F Rf59bj3)
def f59b_7 (F : Nat) : (List Int) × Int → Rz := fun (x1,x2) => (some ((.int .i64 (-1 : Int)),[(.cells 1 (.one (.vs (.rI .i64 x1) 0 1)) true),(.cells 1 (.one (.int .i64 x2)) true)]))
theorem f59b_7_eq (F : Nat) : ∀ v,aexec VG3859 (Af59b F) (bp Try.f59 7) (ef59bj3 v) (kFin VG3859 none (Try.f59).results.toList) = f59b_7 F v := by
  rintro ⟨x1,x2⟩; kernel_rfl
def f59b_8 (F : Nat) : Ty11 → Rz := fun v => f59b_6 F (f59b_7 F) v
theorem f59b_8_eq (F : Nat) : ∀ v,aexec VG3859 (Af59b F) (bp Try.f59 3) (ef59bj1 v) (kFin VG3859 none (Try.f59).results.toList) = f59b_8 F v :=
  seq_cut (by kernel_rfl) (by kernel_rfl) ef59bj1 ef59bj3 _ (fun k => f59b_6 F k) (f59b_7 F)
    (fun Rf59bj3 => f59b_6_eq F Rf59bj3) (f59b_7_eq F)
def f59b_9 (F : Nat) : Ty11 → Rz := fun v => f59b_1 F (f59b_8 F) v
theorem f59b_9_eq (F : Nat) : ∀ v,aexec VG3859 (Af59b F) (sub (bodyOf Try.f59) []) (ef59b_a v) (kFin VG3859 none (Try.f59).results.toList) = f59b_9 F v :=
  seq_cut (by kernel_rfl) (by kernel_rfl) ef59b_a ef59bj1 _ (fun k => f59b_1 F k) (f59b_8 F)
    (fun Rf59bj1 => f59b_1_eq F Rf59bj1) (f59b_8_eq F)
def f59b (F : Nat) : Ty11 → Rz := f59b_9 F
theorem f59b_body (F : Nat) (a0 : List Int) (a1 : List Int) (a2 : Int) : abody VG3859 (Af59b F) Try.f59 [(.vs (.rI .i64 a0) 0 1),(.fn 46 (.cons 0 (.ptr 0 0 1 0 0 0 1) (.cons 0 (.ptr 1 0 1 0 0 0 1) .nil)))] [(.cells 1 (.one (.vs (.rI .i64 a1) 0 1)) true),(.cells 1 (.one (.int .i64 a2)) true)] = f59b F (a0,a1,a2) :=
  (abody_in (c := (sub (bodyOf Try.f59) [])) (by kernel_rfl) (s := ef59b_a (a0,a1,a2)) (by kernel_rfl)).trans (f59b_9_eq F (a0,a1,a2))
def r59 : CRun := fun X H => match X,H with
  | [(.vs (.rI .i64 a0) 0 1),(.fn 56 (.cons 0 (.ptr 0 0 1 0 0 0 1) .nil))],[(.cells 1 (.one (.vs (.rB a1) 0 1)) true)] => some (true,(.int .i64 (Reg.idx (fun o => !(Reg.okO a1.length o)) a0)),[(.cells 1 (.one (.vs (.rB a1) 0 1)) true)])
  | [(.vs (.rI .i64 a0) 0 1),(.fn 46 (.cons 0 (.ptr 0 0 1 0 0 0 1) (.cons 0 (.ptr 1 0 1 0 0 0 1) .nil)))],[(.cells 1 (.one (.vs (.rI .i64 a1) 0 1)) true),(.cells 1 (.one (.int .i64 a2)) true)] => some ((Reg.inr a1.length a0),(.int .i64 (Reg.idx (fun d => a1.getD (Int.toNat d) 0 == a2) a0)),[(.cells 1 (.one (.vs (.rI .i64 a1) 0 1)) true),(.cells 1 (.one (.int .i64 a2)) true)])
  | _,_ => none
theorem s59 (a0 : List Int) (a1 : List Bool) (h0 : okV (.vs (.rI .i64 a0) 0 1)) (k0 : okB (.cells 1 (.one (.vs (.rB a1) 0 1)) true)) : ∃ F,f59 F (a0,a1) = some ((.int .i64 (Reg.idx (fun o => !(Reg.okO a1.length o)) a0)),[(.cells 1 (.one (.vs (.rB a1) 0 1)) true)]) := by
  have hlen := h0.2
  refine ⟨a0.length + 1,?_⟩
  simp only [f59,f59_9,f59_1,f59_8,f59_6,f59_2,f59_5,f59_4,f59_4_i]
  have hb : a0.length < 4611686018427387904 := hlen
  refine (loopN_scan (fun i => (a0,(a0.length : Int),(i : Int),a1)) a0.length (fun i => if (!(Reg.okO a1.length (a0.getD i 0))) = true then some (some (AV.int .i64 (i : Int),[(Blk.cells 1 (.one (.vs (.rB a1) 0 1)) true)])) else none) (some (AV.int .i64 (-1),[(Blk.cells 1 (.one (.vs (.rB a1) 0 1)) true)])) (by rfl) (fun i hi k => ?_) (fun k => ?_) _ (by omega)).trans ?_
  · simp only [f59_3,dec_and]
    rw [cond_pos (by omega),cond_pos (by omega),Int.toNat_natCast,i64w (by omega) (by omega)]
    cases (!(Reg.okO a1.length (a0.getD i 0))) <;> rfl
  · simp only [f59_3]
    rw [cond_neg (by omega)]
    rfl
  · rw [scan_idx (fun x => (!(Reg.okO a1.length x))) a0 0 (fun i => some (AV.int .i64 (i : Int),[(Blk.cells 1 (.one (.vs (.rB a1) 0 1)) true)]))]
    unfold Reg.idx
    cases a0.findIdx? _ <;> rfl
theorem s59b (a0 : List Int) (a1 : List Int) (a2 : Int) (hp : ((Reg.inr a1.length a0)) = true) (h0 : okV (.vs (.rI .i64 a0) 0 1)) (k0 : okB (.cells 1 (.one (.vs (.rI .i64 a1) 0 1)) true)) (k1 : okB (.cells 1 (.one (.int .i64 a2)) true)) : ∃ F,f59b F (a0,a1,a2) = some ((.int .i64 (Reg.idx (fun d => a1.getD (Int.toNat d) 0 == a2) a0)),[(.cells 1 (.one (.vs (.rI .i64 a1) 0 1)) true),(.cells 1 (.one (.int .i64 a2)) true)]) := by
  have hlen := h0.2
  refine ⟨a0.length + 1,?_⟩
  simp only [f59b,f59b_9,f59b_1,f59b_8,f59b_6,f59b_2,f59b_5,f59b_4,f59b_4_i]
  have hb : a0.length < 4611686018427387904 := hlen
  refine (loopN_scan (fun i => (a0,(a0.length : Int),(i : Int),a1,a2)) a0.length (fun i => if (a1.getD (Int.toNat (a0.getD i 0)) 0 == a2) = true then some (some (AV.int .i64 (i : Int),[(Blk.cells 1 (.one (.vs (.rI .i64 a1) 0 1)) true),(Blk.cells 1 (.one (.int .i64 a2)) true)])) else none) (some (AV.int .i64 (-1),[(Blk.cells 1 (.one (.vs (.rI .i64 a1) 0 1)) true),(Blk.cells 1 (.one (.int .i64 a2)) true)])) (by rfl) (fun i hi k => ?_) (fun k => ?_) _ (by omega)).trans ?_
  · simp only [f59b_3,dec_and]
    have hr := Reg.inr_getD hp hi
    rw [cond_pos (by omega),cond_pos (by omega),Int.toNat_natCast,cond_pos (by omega),i64w (by omega) (by omega)]
    cases (a1.getD (Int.toNat (a0.getD i 0)) 0 == a2) <;> rfl
  · simp only [f59b_3]
    rw [cond_neg (by omega)]
    rfl
  · rw [scan_idx (fun x => (a1.getD (Int.toNat x) 0 == a2)) a0 0 (fun i => some (AV.int .i64 (i : Int),[(Blk.cells 1 (.one (.vs (.rI .i64 a1) 0 1)) true),(Blk.cells 1 (.one (.int .i64 a2)) true)]))]
    unfold Reg.idx
    cases a0.findIdx? _ <;> rfl
theorem c59 : CallOk Try.prog G38 59 r59 := callOk_of (V := VG3859) mixed tys eVG3859 (f := 59) (fn := Try.f59) Try.func59 (by kernel_rfl) (c := sub (bodyOf Try.f59) []) (by kernel_rfl) (by
  intro X H r H' h hX hH
  unfold r59 at h; split at h <;> try contradiction
  · simp only [Option.some.injEq,Prod.mk.injEq] at h
    obtain ⟨hp,rfl,rfl⟩ := h
    obtain ⟨F,hF⟩ := s59 _ _ (hX _ (.head _)) (hH _ (.head _))
    exact ⟨Af59 F,(f59_body F _ _).trans hF⟩
  · simp only [Option.some.injEq,Prod.mk.injEq] at h
    obtain ⟨hp,rfl,rfl⟩ := h
    obtain ⟨F,hF⟩ := s59b _ _ _ hp (hX _ (.head _)) (hH _ (.head _)) (hH _ (.tail _ (.head _)))
    exact ⟨Af59b F,(f59b_body F _ _ _).trans hF⟩)
def lVG3845 : List CEnt := [(59,[some 3,none],r59)]
def VG3845 : Env := mkEnv T38 G38 lVG3845
theorem eVG3845 : EOk Try.prog VG3845 := eok_mk (by exact ⟨c59,trivial⟩)
def Af45 (F : Nat) : Cuts := { F := F,at_ := fun _ => none,join := fun _ => none }
def ef45_a : (List Int) × (List Bool) → St := fun (a0,a1) => { tmps := [(0,(.vs (.rI .i64 a0) 0 1)),(1,(.fn 56 (.cons 0 (.ptr 0 0 1 0 0 0 1) .nil)))],heap := [(0,(.cells 1 (.one (.vs (.rB a1) 0 1)) true))],next := 1,nt := 9,m := 1 }
def f45_1 (F : Nat) : (List Int) × (List Bool) → Rz := fun (a0,a1) => (some ((.bool (decide ((Reg.idx (fun o => !(Reg.okO a1.length o)) a0) ≥ (0 : Int)))),[(.cells 1 (.one (.vs (.rB a1) 0 1)) true)]))
theorem f45_1_eq (F : Nat) : ∀ v,aexec VG3845 (Af45 F) (sub (bodyOf Try.f45) []) (ef45_a v) (kFin VG3845 none (Try.f45).results.toList) = f45_1 F v := by
  rintro ⟨a0,a1⟩; kernel_rfl
def f45 (F : Nat) : (List Int) × (List Bool) → Rz := f45_1 F
theorem f45_body (F : Nat) (a0 : List Int) (a1 : List Bool) : abody VG3845 (Af45 F) Try.f45 [(.vs (.rI .i64 a0) 0 1),(.fn 56 (.cons 0 (.ptr 0 0 1 0 0 0 1) .nil))] [(.cells 1 (.one (.vs (.rB a1) 0 1)) true)] = f45 F (a0,a1) :=
  (abody_in (c := (sub (bodyOf Try.f45) [])) (by kernel_rfl) (s := ef45_a (a0,a1)) (by kernel_rfl)).trans (f45_1_eq F (a0,a1))
def Af45b (F : Nat) : Cuts := { F := F,at_ := fun _ => none,join := fun _ => none }
def ef45b_a : Ty11 → St := fun (a0,a1,a2) => { tmps := [(0,(.vs (.rI .i64 a0) 0 1)),(1,(.fn 46 (.cons 0 (.ptr 0 0 1 0 0 0 1) (.cons 0 (.ptr 1 0 1 0 0 0 1) .nil))))],heap := [(0,(.cells 1 (.one (.vs (.rI .i64 a1) 0 1)) true)),(1,(.cells 1 (.one (.int .i64 a2)) true))],next := 2,nt := 9,m := 2 }
def f45b_1 (F : Nat) : Ty11 → Rz := fun (a0,a1,a2) => (cond (Reg.inr a1.length a0) (some ((.bool (decide ((Reg.idx (fun d => a1.getD (Int.toNat d) 0 == a2) a0) ≥ (0 : Int)))),[(.cells 1 (.one (.vs (.rI .i64 a1) 0 1)) true),(.cells 1 (.one (.int .i64 a2)) true)])) none)
theorem f45b_1_eq (F : Nat) : ∀ v,aexec VG3845 (Af45b F) (sub (bodyOf Try.f45) []) (ef45b_a v) (kFin VG3845 none (Try.f45).results.toList) = f45b_1 F v := by
  rintro ⟨a0,a1,a2⟩; kernel_rfl
def f45b (F : Nat) : Ty11 → Rz := f45b_1 F
theorem f45b_body (F : Nat) (a0 : List Int) (a1 : List Int) (a2 : Int) : abody VG3845 (Af45b F) Try.f45 [(.vs (.rI .i64 a0) 0 1),(.fn 46 (.cons 0 (.ptr 0 0 1 0 0 0 1) (.cons 0 (.ptr 1 0 1 0 0 0 1) .nil)))] [(.cells 1 (.one (.vs (.rI .i64 a1) 0 1)) true),(.cells 1 (.one (.int .i64 a2)) true)] = f45b F (a0,a1,a2) :=
  (abody_in (c := (sub (bodyOf Try.f45) [])) (by kernel_rfl) (s := ef45b_a (a0,a1,a2)) (by kernel_rfl)).trans (f45b_1_eq F (a0,a1,a2))
def r45 : CRun := fun X H => match X,H with
  | [(.vs (.rI .i64 a0) 0 1),(.fn 56 (.cons 0 (.ptr 0 0 1 0 0 0 1) .nil))],[(.cells 1 (.one (.vs (.rB a1) 0 1)) true)] => some (true,(.bool (!(a0.all (Reg.okO a1.length)))),[(.cells 1 (.one (.vs (.rB a1) 0 1)) true)])
  | [(.vs (.rI .i64 a0) 0 1),(.fn 46 (.cons 0 (.ptr 0 0 1 0 0 0 1) (.cons 0 (.ptr 1 0 1 0 0 0 1) .nil)))],[(.cells 1 (.one (.vs (.rI .i64 a1) 0 1)) true),(.cells 1 (.one (.int .i64 a2)) true)] => some ((Reg.inr a1.length a0),(.bool (a0.any (fun d => a1.getD (Int.toNat d) 0 == a2))),[(.cells 1 (.one (.vs (.rI .i64 a1) 0 1)) true),(.cells 1 (.one (.int .i64 a2)) true)])
  | _,_ => none
theorem s45 (a0 : List Int) (a1 : List Bool) (h0 : okV (.vs (.rI .i64 a0) 0 1)) (k0 : okB (.cells 1 (.one (.vs (.rB a1) 0 1)) true)) : ∃ F,f45 F (a0,a1) = some ((.bool (!(a0.all (Reg.okO a1.length)))),[(.cells 1 (.one (.vs (.rB a1) 0 1)) true)]) := by
  refine ⟨0,?_⟩
  simp only [f45,f45_1,Reg.idx_neg]
  rw [List.not_all_eq_any_not]
theorem s45b (a0 : List Int) (a1 : List Int) (a2 : Int) (hp : ((Reg.inr a1.length a0)) = true) (h0 : okV (.vs (.rI .i64 a0) 0 1)) (k0 : okB (.cells 1 (.one (.vs (.rI .i64 a1) 0 1)) true)) (k1 : okB (.cells 1 (.one (.int .i64 a2)) true)) : ∃ F,f45b F (a0,a1,a2) = some ((.bool (a0.any (fun d => a1.getD (Int.toNat d) 0 == a2))),[(.cells 1 (.one (.vs (.rI .i64 a1) 0 1)) true),(.cells 1 (.one (.int .i64 a2)) true)]) := by
  refine ⟨0,?_⟩
  simp only [f45b,f45b_1,hp,cond_true,Reg.idx_neg]
theorem c45 : CallOk Try.prog G38 45 r45 := callOk_of (V := VG3845) mixed tys eVG3845 (f := 45) (fn := Try.f45) Try.func45 (by kernel_rfl) (c := sub (bodyOf Try.f45) []) (by kernel_rfl) (by
  intro X H r H' h hX hH
  unfold r45 at h; split at h <;> try contradiction
  · simp only [Option.some.injEq,Prod.mk.injEq] at h
    obtain ⟨hp,rfl,rfl⟩ := h
    obtain ⟨F,hF⟩ := s45 _ _ (hX _ (.head _)) (hH _ (.head _))
    exact ⟨Af45 F,(f45_body F _ _).trans hF⟩
  · simp only [Option.some.injEq,Prod.mk.injEq] at h
    obtain ⟨hp,rfl,rfl⟩ := h
    obtain ⟨F,hF⟩ := s45b _ _ _ hp (hX _ (.head _)) (hH _ (.head _)) (hH _ (.tail _ (.head _)))
    exact ⟨Af45b F,(f45b_body F _ _ _).trans hF⟩)
def lVG3857 : List CEnt := []
def VG3857 : Env := mkEnv T38 G38 lVG3857
theorem eVG3857 : EOk Try.prog VG3857 := eok_mk (by exact trivial)
def Af57 (F : Nat) : Cuts := { F := F,at_ := fun n => match n with | 2018 => some sp11 | _ => none,join := fun n => match n with | 1026 => some [(0,.plain),(1,.plain)] | 2020 => some sp11 | 7003 => some [] | _ => none }
def ef57_a : (List Bool) × Bool → St := fun (a0,a1) => { tmps := [(0,(.vs (.rB a0) 0 1)),(1,(.bool a1))],heap := [],next := 0,nt := 19,m := 0 }
def ef57j1 : (List Bool) × Bool → St := fun (t0,t1) => { tmps := [(0,(.vs (.rB t0) 0 1)),(1,(.bool t1))],heap := [],next := 0,nt := 19,m := 0 }
def ef57j2 : Ty14 → St := fun (t0,t1,t7,t8) => { tmps := [(0,(.vs (.rB t0) 0 1)),(1,(.bool t1)),(7,(.int .i64 t7)),(8,(.int .i64 t8))],heap := [],next := 0,nt := 19,m := 0 }
def ef57l1 : Ty14 → St := fun (t0,t1,t7,t8) => { tmps := [(0,(.vs (.rB t0) 0 1)),(1,(.bool t1)),(7,(.int .i64 t7)),(8,(.int .i64 t8))],heap := [],next := 0,nt := 19,m := 0 }
def ef57j3 : Unit → St := fun _ => { tmps := [],heap := [],next := 0,nt := 19,m := 0 }
def f57_1 (F : Nat) (kf57j1 : (List Bool) × Bool → Rz) : (List Bool) × Bool → Rz := fun (a0,a1) => (kf57j1 (a0,a1))
theorem f57_1_eq (F : Nat) (Rf57j1 : St → Rz) : ∀ v,aexec VG3857 (Af57 F) (bp Try.f57 2) (ef57_a v) (kSeq (kc VG3857 Rf57j1 [(0,.plain),(1,.plain)]) (kFin VG3857 none (Try.f57).results.toList)) = f57_1 F (Rf57j1 ∘ ef57j1) v := by
  rintro ⟨a0,a1⟩; kernel_rfl
def f57_2 (F : Nat) (kf57j2 : Ty14 → Rz) (kf57j3 : Unit → Rz) : (List Bool) × Bool → Rz := fun (t0,t1) => (kf57j2 (t0,t1,(↑t0.length : Int),(0 : Int)))
theorem f57_2_eq (F : Nat) (Rf57j2 : St → Rz) (Rf57j3 : St → Rz) : ∀ v,aexec VG3857 (Af57 F) (bp Try.f57 12) (ef57j1 v) (kSeq (kc VG3857 Rf57j2 sp11) (kSeq (kc VG3857 Rf57j3 []) (kFin VG3857 none (Try.f57).results.toList))) = f57_2 F (Rf57j2 ∘ ef57j2) (Rf57j3 ∘ ef57j3) v := by
  rintro ⟨t0,t1⟩; kernel_rfl
def f57_3 (F : Nat) (kf57l1 : Ty14 → Rz) (kf57j3 : Unit → Rz) : Ty14 → Rz := fun (t0,t1,t7,t8) => (cond (decide (t8 < t7)) (cond ((decide (0 ≤ t8)) && (decide (t8 < (↑t0.length : Int)))) (cond (t1 == (t0.getD (Int.toNat t8) false)) (some ((.int .i64 t8),[])) (kf57l1 (t0,t1,t7,(IntKind.i64.wrap (t8 + (1 : Int)))))) none) (kf57j3 ()))
theorem f57_3_eq (F : Nat) (Rf57l1 : St → Rz) (Rf57j3 : St → Rz) : ∀ v,aexec VG3857 (Af57 F) (bp Try.f57 52) (ef57l1 v) (kSeq (kc VG3857 Rf57l1 sp11) (kBlock 0 (kSeq (kc VG3857 Rf57j3 []) (kFin VG3857 none (Try.f57).results.toList)))) = f57_3 F (Rf57l1 ∘ ef57l1) (Rf57j3 ∘ ef57j3) v := by
  rintro ⟨t0,t1,t7,t8⟩; kernel_rfl
def f57_4_i : Ty14 → (List Bool) × Bool × Int × Int := fun (t0,t1,t7,t8) => (t0,t1,t7,t8)
def f57_4 (F : Nat) (kf57j3 : Unit → Rz) : Ty14 → Rz := fun v => loopN (fun k => f57_3 F k kf57j3) F (f57_4_i v)
theorem f57_4_eq (F : Nat) (Rf57j3 : St → Rz) : ∀ v,aexec VG3857 (Af57 F) (bp Try.f57 26) (ef57j2 v) (kBlock 0 (kSeq (kc VG3857 Rf57j3 []) (kFin VG3857 none (Try.f57).results.toList))) = f57_4 F (Rf57j3 ∘ ef57j3) v :=
  loop_cut (by kernel_rfl) (by kernel_rfl) ef57j2 ef57l1 _ f57_4_i (fun k => f57_3 F k (Rf57j3 ∘ ef57j3))
    (by rintro ⟨t0,t1,t7,t8⟩; kernel_rfl) (fun Rf57l1 => f57_3_eq F Rf57l1 Rf57j3)
def f57_5 (F : Nat) (kf57j3 : Unit → Rz) : Ty14 → Rz := f57_4 F kf57j3
theorem f57_5_eq (F : Nat) (Rf57j3 : St → Rz) : ∀ v,aexec VG3857 (Af57 F) (bp Try.f57 13) (ef57j2 v) (kSeq (kc VG3857 Rf57j3 []) (kFin VG3857 none (Try.f57).results.toList)) = f57_5 F (Rf57j3 ∘ ef57j3) v := fun v =>
  (block_in  (by kernel_rfl) _ _).trans (f57_4_eq F Rf57j3 v)
def f57_6 (F : Nat) (kf57j3 : Unit → Rz) : (List Bool) × Bool → Rz := fun v => f57_2 F (f57_5 F kf57j3) kf57j3 v
theorem f57_6_eq (F : Nat) (Rf57j3 : St → Rz) : ∀ v,aexec VG3857 (Af57 F) (bp Try.f57 6) (ef57j1 v) (kSeq (kc VG3857 Rf57j3 []) (kFin VG3857 none (Try.f57).results.toList)) = f57_6 F (Rf57j3 ∘ ef57j3) v :=
  seq_cut (by kernel_rfl) (by kernel_rfl) ef57j1 ef57j2 _ (fun k => f57_2 F k (Rf57j3 ∘ ef57j3)) (f57_5 F (Rf57j3 ∘ ef57j3))
    (fun Rf57j2 => f57_2_eq F Rf57j2 Rf57j3) (f57_5_eq F Rf57j3)
def f57_7 (F : Nat) : Unit → Rz := fun _ => (some ((.int .i64 (-1 : Int)),[]))
theorem f57_7_eq (F : Nat) : ∀ v,aexec VG3857 (Af57 F) (bp Try.f57 7) (ef57j3 v) (kFin VG3857 none (Try.f57).results.toList) = f57_7 F v := by
  intro _; kernel_rfl
def f57_8 (F : Nat) : (List Bool) × Bool → Rz := fun v => f57_6 F (f57_7 F) v
theorem f57_8_eq (F : Nat) : ∀ v,aexec VG3857 (Af57 F) (bp Try.f57 3) (ef57j1 v) (kFin VG3857 none (Try.f57).results.toList) = f57_8 F v :=
  seq_cut (by kernel_rfl) (by kernel_rfl) ef57j1 ef57j3 _ (fun k => f57_6 F k) (f57_7 F)
    (fun Rf57j3 => f57_6_eq F Rf57j3) (f57_7_eq F)
def f57_9 (F : Nat) : (List Bool) × Bool → Rz := fun v => f57_1 F (f57_8 F) v
theorem f57_9_eq (F : Nat) : ∀ v,aexec VG3857 (Af57 F) (sub (bodyOf Try.f57) []) (ef57_a v) (kFin VG3857 none (Try.f57).results.toList) = f57_9 F v :=
  seq_cut (by kernel_rfl) (by kernel_rfl) ef57_a ef57j1 _ (fun k => f57_1 F k) (f57_8 F)
    (fun Rf57j1 => f57_1_eq F Rf57j1) (f57_8_eq F)
def f57 (F : Nat) : (List Bool) × Bool → Rz := f57_9 F
theorem f57_body (F : Nat) (a0 : List Bool) (a1 : Bool) : abody VG3857 (Af57 F) Try.f57 [(.vs (.rB a0) 0 1),(.bool a1)] [] = f57 F (a0,a1) :=
  (abody_in (c := (sub (bodyOf Try.f57) [])) (by kernel_rfl) (s := ef57_a (a0,a1)) (by kernel_rfl)).trans (f57_9_eq F (a0,a1))
def r57 : CRun := fun X H => match X,H with
  | [(.vs (.rB a0) 0 1),(.bool a1)],[] => some (true,(.int .i64 (Reg.idx (fun x => x == a1) a0)),[])
  | _,_ => none
theorem s57 (a0 : List Bool) (a1 : Bool) (h0 : okV (.vs (.rB a0) 0 1)) : ∃ F,f57 F (a0,a1) = some ((.int .i64 (Reg.idx (fun x => x == a1) a0)),[]) := by
  have hlen : a0.length < 4611686018427387904 := h0
  refine ⟨a0.length + 1,?_⟩
  simp only [f57,f57_9,f57_1,f57_8,f57_6,f57_2,f57_5,f57_4,f57_4_i]
  have hb : a0.length < 4611686018427387904 := hlen
  refine (loopN_scan (fun i => (a0,a1,(a0.length : Int),(i : Int))) a0.length (fun i => if (a1 == (a0.getD i false)) = true then some (some (AV.int .i64 (i : Int),[])) else none) (some (AV.int .i64 (-1),[])) (by rfl) (fun i hi k => ?_) (fun k => ?_) _ (by omega)).trans ?_
  · simp only [f57_3,dec_and]
    rw [cond_pos (by omega),cond_pos (by omega),Int.toNat_natCast,i64w (by omega) (by omega)]
    cases (a1 == a0.getD i false) <;> rfl
  · simp only [f57_3]
    rw [cond_neg (by omega)]
    rfl
  · rw [scan_idx (fun x => (a1 == x)) a0 false (fun i => some (AV.int .i64 (i : Int),[]))]
    have e : (fun x : Bool => a1 == x) = fun x => x == a1 := funext fun x => Bool.beq_comm
    rw [e]
    unfold Reg.idx
    cases a0.findIdx? _ <;> rfl
theorem c57 : CallOk Try.prog G38 57 r57 := callOk_of (V := VG3857) mixed tys eVG3857 (f := 57) (fn := Try.f57) Try.func57 (by kernel_rfl) (c := sub (bodyOf Try.f57) []) (by kernel_rfl) (by
  intro X H r H' h hX hH
  unfold r57 at h; split at h <;> try contradiction
  · simp only [Option.some.injEq,Prod.mk.injEq] at h
    obtain ⟨hp,rfl,rfl⟩ := h
    obtain ⟨F,hF⟩ := s57 _ _ (hX _ (.head _))
    exact ⟨Af57 F,(f57_body F _ _).trans hF⟩)
def lVG3858 : List CEnt := []
def VG3858 : Env := mkEnv T38 G38 lVG3858
theorem eVG3858 : EOk Try.prog VG3858 := eok_mk (by exact trivial)
def Af58 (F : Nat) : Cuts := { F := F,at_ := fun n => match n with | 2018 => some sp11 | _ => none,join := fun n => match n with | 1026 => some [(0,.plain),(1,.plain)] | 2020 => some sp11 | 7003 => some [] | _ => none }
def ef58_a : (List Int) × Int → St := fun (a0,a1) => { tmps := [(0,(.vs (.rI .i64 a0) 0 1)),(1,(.int .i64 a1))],heap := [],next := 0,nt := 19,m := 0 }
def ef58j1 : (List Int) × Int → St := fun (t0,t1) => { tmps := [(0,(.vs (.rI .i64 t0) 0 1)),(1,(.int .i64 t1))],heap := [],next := 0,nt := 19,m := 0 }
def ef58j2 : Ty4 → St := fun (t0,t1,t7,t8) => { tmps := [(0,(.vs (.rI .i64 t0) 0 1)),(1,(.int .i64 t1)),(7,(.int .i64 t7)),(8,(.int .i64 t8))],heap := [],next := 0,nt := 19,m := 0 }
def ef58l1 : Ty4 → St := fun (t0,t1,t7,t8) => { tmps := [(0,(.vs (.rI .i64 t0) 0 1)),(1,(.int .i64 t1)),(7,(.int .i64 t7)),(8,(.int .i64 t8))],heap := [],next := 0,nt := 19,m := 0 }
def ef58j3 : Unit → St := fun _ => { tmps := [],heap := [],next := 0,nt := 19,m := 0 }
def f58_1 (F : Nat) (kf58j1 : (List Int) × Int → Rz) : (List Int) × Int → Rz := fun (a0,a1) => (kf58j1 (a0,a1))
theorem f58_1_eq (F : Nat) (Rf58j1 : St → Rz) : ∀ v,aexec VG3858 (Af58 F) (bp Try.f58 2) (ef58_a v) (kSeq (kc VG3858 Rf58j1 [(0,.plain),(1,.plain)]) (kFin VG3858 none (Try.f58).results.toList)) = f58_1 F (Rf58j1 ∘ ef58j1) v := by
  rintro ⟨a0,a1⟩; kernel_rfl
def f58_2 (F : Nat) (kf58j2 : Ty4 → Rz) (kf58j3 : Unit → Rz) : (List Int) × Int → Rz := fun (t0,t1) => (kf58j2 (t0,t1,(↑t0.length : Int),(0 : Int)))
theorem f58_2_eq (F : Nat) (Rf58j2 : St → Rz) (Rf58j3 : St → Rz) : ∀ v,aexec VG3858 (Af58 F) (bp Try.f58 12) (ef58j1 v) (kSeq (kc VG3858 Rf58j2 sp11) (kSeq (kc VG3858 Rf58j3 []) (kFin VG3858 none (Try.f58).results.toList))) = f58_2 F (Rf58j2 ∘ ef58j2) (Rf58j3 ∘ ef58j3) v := by
  rintro ⟨t0,t1⟩; kernel_rfl
def f58_3 (F : Nat) (kf58l1 : Ty4 → Rz) (kf58j3 : Unit → Rz) : Ty4 → Rz := fun (t0,t1,t7,t8) => (cond (decide (t8 < t7)) (cond ((decide (0 ≤ t8)) && (decide (t8 < (↑t0.length : Int)))) (cond (t1 == (t0.getD (Int.toNat t8) 0)) (some ((.int .i64 t8),[])) (kf58l1 (t0,t1,t7,(IntKind.i64.wrap (t8 + (1 : Int)))))) none) (kf58j3 ()))
theorem f58_3_eq (F : Nat) (Rf58l1 : St → Rz) (Rf58j3 : St → Rz) : ∀ v,aexec VG3858 (Af58 F) (bp Try.f58 52) (ef58l1 v) (kSeq (kc VG3858 Rf58l1 sp11) (kBlock 0 (kSeq (kc VG3858 Rf58j3 []) (kFin VG3858 none (Try.f58).results.toList)))) = f58_3 F (Rf58l1 ∘ ef58l1) (Rf58j3 ∘ ef58j3) v := by
  rintro ⟨t0,t1,t7,t8⟩; kernel_rfl
def f58_4_i : Ty4 → (List Int) × Int × Int × Int := fun (t0,t1,t7,t8) => (t0,t1,t7,t8)
def f58_4 (F : Nat) (kf58j3 : Unit → Rz) : Ty4 → Rz := fun v => loopN (fun k => f58_3 F k kf58j3) F (f58_4_i v)
theorem f58_4_eq (F : Nat) (Rf58j3 : St → Rz) : ∀ v,aexec VG3858 (Af58 F) (bp Try.f58 26) (ef58j2 v) (kBlock 0 (kSeq (kc VG3858 Rf58j3 []) (kFin VG3858 none (Try.f58).results.toList))) = f58_4 F (Rf58j3 ∘ ef58j3) v :=
  loop_cut (by kernel_rfl) (by kernel_rfl) ef58j2 ef58l1 _ f58_4_i (fun k => f58_3 F k (Rf58j3 ∘ ef58j3))
    (by rintro ⟨t0,t1,t7,t8⟩; kernel_rfl) (fun Rf58l1 => f58_3_eq F Rf58l1 Rf58j3)
def f58_5 (F : Nat) (kf58j3 : Unit → Rz) : Ty4 → Rz := f58_4 F kf58j3
theorem f58_5_eq (F : Nat) (Rf58j3 : St → Rz) : ∀ v,aexec VG3858 (Af58 F) (bp Try.f58 13) (ef58j2 v) (kSeq (kc VG3858 Rf58j3 []) (kFin VG3858 none (Try.f58).results.toList)) = f58_5 F (Rf58j3 ∘ ef58j3) v := fun v =>
  (block_in  (by kernel_rfl) _ _).trans (f58_4_eq F Rf58j3 v)
def f58_6 (F : Nat) (kf58j3 : Unit → Rz) : (List Int) × Int → Rz := fun v => f58_2 F (f58_5 F kf58j3) kf58j3 v
theorem f58_6_eq (F : Nat) (Rf58j3 : St → Rz) : ∀ v,aexec VG3858 (Af58 F) (bp Try.f58 6) (ef58j1 v) (kSeq (kc VG3858 Rf58j3 []) (kFin VG3858 none (Try.f58).results.toList)) = f58_6 F (Rf58j3 ∘ ef58j3) v :=
  seq_cut (by kernel_rfl) (by kernel_rfl) ef58j1 ef58j2 _ (fun k => f58_2 F k (Rf58j3 ∘ ef58j3)) (f58_5 F (Rf58j3 ∘ ef58j3))
    (fun Rf58j2 => f58_2_eq F Rf58j2 Rf58j3) (f58_5_eq F Rf58j3)
def f58_7 (F : Nat) : Unit → Rz := fun _ => (some ((.int .i64 (-1 : Int)),[]))
theorem f58_7_eq (F : Nat) : ∀ v,aexec VG3858 (Af58 F) (bp Try.f58 7) (ef58j3 v) (kFin VG3858 none (Try.f58).results.toList) = f58_7 F v := by
  intro _; kernel_rfl
def f58_8 (F : Nat) : (List Int) × Int → Rz := fun v => f58_6 F (f58_7 F) v
theorem f58_8_eq (F : Nat) : ∀ v,aexec VG3858 (Af58 F) (bp Try.f58 3) (ef58j1 v) (kFin VG3858 none (Try.f58).results.toList) = f58_8 F v :=
  seq_cut (by kernel_rfl) (by kernel_rfl) ef58j1 ef58j3 _ (fun k => f58_6 F k) (f58_7 F)
    (fun Rf58j3 => f58_6_eq F Rf58j3) (f58_7_eq F)
def f58_9 (F : Nat) : (List Int) × Int → Rz := fun v => f58_1 F (f58_8 F) v
theorem f58_9_eq (F : Nat) : ∀ v,aexec VG3858 (Af58 F) (sub (bodyOf Try.f58) []) (ef58_a v) (kFin VG3858 none (Try.f58).results.toList) = f58_9 F v :=
  seq_cut (by kernel_rfl) (by kernel_rfl) ef58_a ef58j1 _ (fun k => f58_1 F k) (f58_8 F)
    (fun Rf58j1 => f58_1_eq F Rf58j1) (f58_8_eq F)
def f58 (F : Nat) : (List Int) × Int → Rz := f58_9 F
theorem f58_body (F : Nat) (a0 : List Int) (a1 : Int) : abody VG3858 (Af58 F) Try.f58 [(.vs (.rI .i64 a0) 0 1),(.int .i64 a1)] [] = f58 F (a0,a1) :=
  (abody_in (c := (sub (bodyOf Try.f58) [])) (by kernel_rfl) (s := ef58_a (a0,a1)) (by kernel_rfl)).trans (f58_9_eq F (a0,a1))
def r58 : CRun := fun X H => match X,H with
  | [(.vs (.rI .i64 a0) 0 1),(.int .i64 a1)],[] => some (true,(.int .i64 (Reg.idx (fun y => y == a1) a0)),[])
  | _,_ => none
theorem s58 (a0 : List Int) (a1 : Int) (h0 : okV (.vs (.rI .i64 a0) 0 1)) (h1 : okV (.int .i64 a1)) : ∃ F,f58 F (a0,a1) = some ((.int .i64 (Reg.idx (fun y => y == a1) a0)),[]) := by
  have hlen : a0.length < 4611686018427387904 := h0.2
  refine ⟨a0.length + 1,?_⟩
  simp only [f58,f58_9,f58_1,f58_8,f58_6,f58_2,f58_5,f58_4,f58_4_i]
  have hb : a0.length < 4611686018427387904 := hlen
  refine (loopN_scan (fun i => (a0,a1,(a0.length : Int),(i : Int))) a0.length (fun i => if (a1 == (a0.getD i 0)) = true then some (some (AV.int .i64 (i : Int),[])) else none) (some (AV.int .i64 (-1),[])) (by rfl) (fun i hi k => ?_) (fun k => ?_) _ (by omega)).trans ?_
  · simp only [f58_3,dec_and]
    rw [cond_pos (by omega),cond_pos (by omega),Int.toNat_natCast,i64w (by omega) (by omega)]
    cases (a1 == a0.getD i 0) <;> rfl
  · simp only [f58_3]
    rw [cond_neg (by omega)]
    rfl
  · rw [scan_idx (fun x => (a1 == x)) a0 0 (fun i => some (AV.int .i64 (i : Int),[]))]
    have e : (fun x : Int => a1 == x) = fun x => x == a1 := funext fun x => Bool.beq_comm
    rw [e]
    unfold Reg.idx
    cases a0.findIdx? _ <;> rfl
theorem c58 : CallOk Try.prog G38 58 r58 := callOk_of (V := VG3858) mixed tys eVG3858 (f := 58) (fn := Try.f58) Try.func58 (by kernel_rfl) (c := sub (bodyOf Try.f58) []) (by kernel_rfl) (by
  intro X H r H' h hX hH
  unfold r58 at h; split at h <;> try contradiction
  · simp only [Option.some.injEq,Prod.mk.injEq] at h
    obtain ⟨hp,rfl,rfl⟩ := h
    obtain ⟨F,hF⟩ := s58 _ _ (hX _ (.head _)) (hX _ (.tail _ (.head _)))
    exact ⟨Af58 F,(f58_body F _ _).trans hF⟩)
def lVG3844 : List CEnt := [(58,[some 3,none],r58)]
def VG3844 : Env := mkEnv T38 G38 lVG3844
theorem eVG3844 : EOk Try.prog VG3844 := eok_mk (by exact ⟨c58,trivial⟩)
def Af44 (F : Nat) : Cuts := { F := F,at_ := fun _ => none,join := fun _ => none }
def ef44_a : (List Int) × Int → St := fun (a0,a1) => { tmps := [(0,(.vs (.rI .i64 a0) 0 1)),(1,(.int .i64 a1))],heap := [],next := 0,nt := 9,m := 0 }
def f44_1 (F : Nat) : (List Int) × Int → Rz := fun (a0,a1) => (some ((.bool (decide ((Reg.idx (fun y => y == a1) a0) ≥ (0 : Int)))),[]))
theorem f44_1_eq (F : Nat) : ∀ v,aexec VG3844 (Af44 F) (sub (bodyOf Try.f44) []) (ef44_a v) (kFin VG3844 none (Try.f44).results.toList) = f44_1 F v := by
  rintro ⟨a0,a1⟩; kernel_rfl
def f44 (F : Nat) : (List Int) × Int → Rz := f44_1 F
theorem f44_body (F : Nat) (a0 : List Int) (a1 : Int) : abody VG3844 (Af44 F) Try.f44 [(.vs (.rI .i64 a0) 0 1),(.int .i64 a1)] [] = f44 F (a0,a1) :=
  (abody_in (c := (sub (bodyOf Try.f44) [])) (by kernel_rfl) (s := ef44_a (a0,a1)) (by kernel_rfl)).trans (f44_1_eq F (a0,a1))
def r44 : CRun := fun X H => match X,H with
  | [(.vs (.rI .i64 a0) 0 1),(.int .i64 a1)],[] => some (true,(.bool (a0.any (fun y => y == a1))),[])
  | _,_ => none
theorem s44 (a0 : List Int) (a1 : Int) (h0 : okV (.vs (.rI .i64 a0) 0 1)) (h1 : okV (.int .i64 a1)) : ∃ F,f44 F (a0,a1) = some ((.bool (a0.any (fun y => y == a1))),[]) := ⟨0,by simp only [f44,f44_1,Reg.idx_neg]⟩
theorem c44 : CallOk Try.prog G38 44 r44 := callOk_of (V := VG3844) mixed tys eVG3844 (f := 44) (fn := Try.f44) Try.func44 (by kernel_rfl) (c := sub (bodyOf Try.f44) []) (by kernel_rfl) (by
  intro X H r H' h hX hH
  unfold r44 at h; split at h <;> try contradiction
  · simp only [Option.some.injEq,Prod.mk.injEq] at h
    obtain ⟨hp,rfl,rfl⟩ := h
    obtain ⟨F,hF⟩ := s44 _ _ (hX _ (.head _)) (hX _ (.tail _ (.head _)))
    exact ⟨Af44 F,(f44_body F _ _).trans hF⟩)
def lVG3838 : List CEnt := [(57,[some 4,none],r57)]
def VG3838 : Env := mkEnv T38 G38 lVG3838
theorem eVG3838 : EOk Try.prog VG3838 := eok_mk (by exact ⟨c57,trivial⟩)
def Af38 (F : Nat) : Cuts := { F := F,at_ := fun _ => none,join := fun _ => none }
def ef38_a : (List Bool) → St := fun a0 => { tmps := [(0,(.vs (.rB a0) 0 1))],heap := [],next := 0,nt := 5,m := 0 }
def f38_1 (F : Nat) : (List Bool) → Rz := fun a0 => (some ((.int .i64 (Reg.idx (fun x => x == true) a0)),[]))
theorem f38_1_eq (F : Nat) : ∀ v,aexec VG3838 (Af38 F) (sub (bodyOf Try.f38) []) (ef38_a v) (kFin VG3838 none (Try.f38).results.toList) = f38_1 F v := by
  intro a0; kernel_rfl
def f38 (F : Nat) : (List Bool) → Rz := f38_1 F
theorem f38_body (F : Nat) (a0 : List Bool) : abody VG3838 (Af38 F) Try.f38 [(.vs (.rB a0) 0 1)] [] = f38 F a0 :=
  (abody_in (c := (sub (bodyOf Try.f38) [])) (by kernel_rfl) (s := ef38_a a0) (by kernel_rfl)).trans (f38_1_eq F a0)
def r38 : CRun := fun X H => match X,H with
  | [(.vs (.rB a0) 0 1)],[] => some (true,(.int .i64 (Reg.first a0)),[])
  | _,_ => none
theorem s38 (a0 : List Bool) (h0 : okV (.vs (.rB a0) 0 1)) : ∃ F,f38 F a0 = some ((.int .i64 (Reg.first a0)),[]) := ⟨0,rfl⟩
theorem c38 : CallOk Try.prog G38 38 r38 := callOk_of (V := VG3838) mixed tys eVG3838 (f := 38) (fn := Try.f38) Try.func38 (by kernel_rfl) (c := sub (bodyOf Try.f38) []) (by kernel_rfl) (by
  intro X H r H' h hX hH
  unfold r38 at h; split at h <;> try contradiction
  · simp only [Option.some.injEq,Prod.mk.injEq] at h
    obtain ⟨hp,rfl,rfl⟩ := h
    obtain ⟨F,hF⟩ := s38 _ (hX _ (.head _))
    exact ⟨Af38 F,(f38_body F _).trans hF⟩)
end Go.Am
end
section
namespace Go.Am
open Go
namespace Reg
end Reg
end Go.Am
namespace Go.Am.Reg
end Go.Am.Reg
namespace Go.Am.Reg
end Go.Am.Reg
end
section
/- Dividing groups evenly: the greatest share is at most 4/3 of the least possible one, for at most six groups and three hosts. -/
namespace Go.Am
open Go
namespace Reg
def ohTo (a : List Int) (h : Int) (i : Nat) : List Int := ((List.range i).filter fun d => decide (a.getD d 0 = h)).map fun (d : Nat) => (d : Int)
def ofHost (a : List Int) (h : Int) : List Int := ohTo a h a.length
theorem ohTo_succ (a : List Int) (h : Int) (i : Nat) : ohTo a h (i + 1) = ohTo a h i ++ (if a.getD i 0 = h then [(i : Int)] else []) := by
  unfold ohTo
  rw [List.range_succ, List.filter_append, List.map_append]
  congr 1
  by_cases hi : a.getD i 0 = h
  · rw [if_pos hi]; simp only [List.filter_cons, decide_eq_true hi, if_true, List.filter_nil, List.map_cons, List.map_nil]
  · rw [if_neg hi]; simp only [List.filter_cons, decide_eq_false hi, Bool.false_eq_true, if_false, List.filter_nil, List.map_nil]
theorem ohTo_len_le (a : List Int) (h : Int) (i : Nat) : (ohTo a h i).length ≤ i := by
  unfold ohTo
  rw [List.length_map]
  refine Nat.le_trans (List.length_filter_le _ _) (by simp)
def mn (a b : Nat) : Nat := cond (Nat.ble b a) b a
def mx (a b : Nat) : Nat := cond (Nat.ble b a) a b
def n1 : List Nat → Nat → Nat
  | [], a => a
  | p :: ps, a => mn 1048576 (n1 ps (a + p))
def n2 : List Nat → Nat → Nat → Nat
  | [], a, b => mx a b
  | p :: ps, a, b => mn (mn 1048576 (n2 ps (a + p) b)) (n2 ps a (b + p))
def n3 : List Nat → Nat → Nat → Nat → Nat
  | [], a, b, c => mx (mx a b) c
  | p :: ps, a, b, c => mn (mn (mn 1048576 (n3 ps (a + p) b c)) (n3 ps a (b + p) c)) (n3 ps a b (c + p))
def up (l : List Nat) : List Int := l.map fun (n : Nat) => (n : Int)
theorem r1 : List.range 1 = [0] := rfl
theorem r2 : List.range 2 = [0, 1] := rfl
theorem r3 : List.range 3 = [0, 1, 2] := rfl
end Reg
end Go.Am
end