/- Part of a proof about the functions of the given program. -/
import Derived.Test.YtnbgphghghmemaaAm35B
import Derived.Test.YtnbgphghghmemaaAm35D
set_option linter.unusedVariables false
set_option linter.unusedSimpArgs false
namespace Go.Am
open Go Go.Proofs
abbrev sp8 : List (Nat × Md) := [(0,.plain),(1,.plain),(4,.plain),(5,.plain)]
abbrev sp9 : List (Nat × Md) := [(0,.plain),(1,.plain),(4,.plain)]
abbrev Ty29 := Nat × (List (List (List Int))) × Bool × Int × (List Int)
abbrev Ty30 := (List Int) × Int × Nat × Bool × Int × (List (List (List Int)))
abbrev Ty31 := (List Int) × Int × Int × Nat × Bool × Int × (List (List (List Int)))

def lVG3535 : List CEnt := [(56,[none],r56),(57,[none,none,none],r57)]
def VG3535 : Env := mkEnv T35 G35 lVG3535
theorem eVG3535 : EOk Try.prog VG3535 := eok_mk (by exact ⟨c56,c57,trivial⟩)
def Af35 (F : Nat) : Cuts := { F := F,at_ := fun n => match n with | 7014 => some [(0,.plain),(4,.plain)] | _ => none,join := fun n => match n with | 1040 => some [(0,.plain)] | 3032 => some [(0,.plain)] | 4030 => some [(0,.plain),(3,.plain)] | 6022 => some [(0,.plain)] | 7016 => some [(0,.plain),(4,.plain)] | 11003 => some [] | _ => none }
def ef35_a : Ty14 → St := fun (a0n,a0s,a0o,a0l) => { tmps := [(0,(.ptr 0 0 3 0 0 0 3))],heap := [(0,(.cells 3 (.segs (.cons 1 (.one (.own 1 a0n 4)) (.cons 1 (.one (.bool a0o)) (.cons 1 (.one (.int .i64 a0l)) .nil)))) true)),(1,(.cells (a0n * 4) (.rT [.str,.str,.bool,.bool] a0s) true))],next := 2,nt := 34,m := 2 }
def ef35j1 : Ty19 → St := fun (x1,x2,x3,x4) => { tmps := [(0,(.ptr 0 0 3 0 0 0 3))],heap := [(0,(.cells 3 (.segs (.cons 1 (.one (.own 1 x1 4)) (.cons 1 (.one (.bool x2)) (.cons 1 (.one (.int .i64 x3)) .nil)))) true)),(1,(.cells (x1 * 4) (.rT [.str,.str,.bool,.bool] x4) true))],next := 2,nt := 34,m := 2 }
def ef35j2 : Ty19 → St := fun (x1,x2,x3,x4) => { tmps := [(0,(.ptr 0 0 3 0 0 0 3))],heap := [(0,(.cells 3 (.segs (.cons 1 (.one (.own 1 x1 4)) (.cons 1 (.one (.bool x2)) (.cons 1 (.one (.int .i64 x3)) .nil)))) true)),(1,(.cells (x1 * 4) (.rT [.str,.str,.bool,.bool] x4) true))],next := 2,nt := 34,m := 2 }
def ef35j3 : Ty20 → St := fun (t3,x2,x3,x4,x5) => { tmps := [(0,(.ptr 0 0 3 0 0 0 3)),(3,(.int .i64 t3))],heap := [(0,(.cells 3 (.segs (.cons 1 (.one (.own 1 x2 4)) (.cons 1 (.one (.bool x3)) (.cons 1 (.one (.int .i64 x4)) .nil)))) true)),(1,(.cells (x2 * 4) (.rT [.str,.str,.bool,.bool] x5) true))],next := 2,nt := 34,m := 2 }
def ef35j4 : Ty19 → St := fun (x1,x2,x3,x4) => { tmps := [(0,(.ptr 0 0 3 0 0 0 3))],heap := [(0,(.cells 3 (.segs (.cons 1 (.one (.own 1 x1 4)) (.cons 1 (.one (.bool x2)) (.cons 1 (.one (.int .i64 x3)) .nil)))) true)),(1,(.cells (x1 * 4) (.rT [.str,.str,.bool,.bool] x4) true))],next := 2,nt := 34,m := 2 }
def ef35j5 : Ty20 → St := fun (t4,x2,x3,x4,x5) => { tmps := [(0,(.ptr 0 0 3 0 0 0 3)),(4,(.int .i64 t4))],heap := [(0,(.cells 3 (.segs (.cons 1 (.one (.own 1 x2 4)) (.cons 1 (.one (.bool x3)) (.cons 1 (.one (.int .i64 x4)) .nil)))) true)),(1,(.cells (x2 * 4) (.rT [.str,.str,.bool,.bool] x5) true))],next := 2,nt := 34,m := 2 }
def ef35l1 : Ty20 → St := fun (t4,x2,x3,x4,x5) => { tmps := [(0,(.ptr 0 0 3 0 0 0 3)),(4,(.int .i64 t4))],heap := [(0,(.cells 3 (.segs (.cons 1 (.one (.own 1 x2 4)) (.cons 1 (.one (.bool x3)) (.cons 1 (.one (.int .i64 x4)) .nil)))) true)),(1,(.cells (x2 * 4) (.rT [.str,.str,.bool,.bool] x5) true))],next := 2,nt := 34,m := 2 }
def ef35j6 : Ty19 → St := fun (x1,x2,x3,x4) => { tmps := [],heap := [(0,(.cells 3 (.segs (.cons 1 (.one (.own 1 x1 4)) (.cons 1 (.one (.bool x2)) (.cons 1 (.one (.int .i64 x3)) .nil)))) true)),(1,(.cells (x1 * 4) (.rT [.str,.str,.bool,.bool] x4) true))],next := 2,nt := 34,m := 2 }
def f35_1 (F : Nat) (kf35j1 : Ty19 → Rz) : Ty14 → Rz := fun (a0n,a0s,a0o,a0l) => (kf35j1 (a0n,a0o,a0l,a0s))
theorem f35_1_eq (F : Nat) (Rf35j1 : St → Rz) : ∀ v,aexec VG3535 (Af35 F) (bp Try.f35 2) (ef35_a v) (kSeq (kc VG3535 Rf35j1 [(0,.plain)]) (kFin VG3535 none (Try.f35).results.toList)) = f35_1 F (Rf35j1 ∘ ef35j1) v := by
  rintro ⟨a0n,a0s,a0o,a0l⟩; kernel_rfl
def f35_2 (F : Nat) (kf35j2 : Ty19 → Rz) : Ty19 → Rz := fun (x1,x2,x3,x4) => (cond x2 (some ((.int .i64 (22 : Int)),[(.cells 3 (.segs (.cons 1 (.one (.own 1 x1 4)) (.cons 1 (.one (.bool x2)) (.cons 1 (.one (.int .i64 x3)) .nil)))) true),(.cells (x1 * 4) (.rT [.str,.str,.bool,.bool] x4) true)])) (kf35j2 (x1,x2,x3,x4)))
theorem f35_2_eq (F : Nat) (Rf35j2 : St → Rz) : ∀ v,aexec VG3535 (Af35 F) (bp Try.f35 6) (ef35j1 v) (kSeq (kc VG3535 Rf35j2 [(0,.plain)]) (kFin VG3535 none (Try.f35).results.toList)) = f35_2 F (Rf35j2 ∘ ef35j2) v := by
  rintro ⟨x1,x2,x3,x4⟩; kernel_rfl
def f35_3 (F : Nat) (kf35j3 : Ty20 → Rz) : Ty19 → Rz := fun (x1,x2,x3,x4) => (cond (decide (x1 = x4.length ∧ x1 < 8000)) (kf35j3 ((Dk.rstep (Dk.R.mk x4 x2 x3)).2,(Dk.rstep (Dk.R.mk x4 x2 x3)).1.s.length,(Dk.rstep (Dk.R.mk x4 x2 x3)).1.off,(Dk.rstep (Dk.R.mk x4 x2 x3)).1.left,(Dk.rstep (Dk.R.mk x4 x2 x3)).1.s)) none)
theorem f35_3_eq (F : Nat) (Rf35j3 : St → Rz) : ∀ v,aexec VG3535 (Af35 F) (bp Try.f35 14) (ef35j2 v) (kSeq (kc VG3535 Rf35j3 [(0,.plain),(3,.plain)]) (kFin VG3535 none (Try.f35).results.toList)) = f35_3 F (Rf35j3 ∘ ef35j3) v := by
  rintro ⟨x1,x2,x3,x4⟩; kernel_rfl
def f35_4 (F : Nat) (kf35j4 : Ty19 → Rz) : Ty20 → Rz := fun (t3,x2,x3,x4,x5) => (cond (t3 != (0 : Int)) (some ((.int .i64 t3),[(.cells 3 (.segs (.cons 1 (.one (.own 1 x2 4)) (.cons 1 (.one (.bool x3)) (.cons 1 (.one (.int .i64 x4)) .nil)))) true),(.cells (x2 * 4) (.rT [.str,.str,.bool,.bool] x5) true)])) (kf35j4 (x2,x3,x4,x5)))
theorem f35_4_eq (F : Nat) (Rf35j4 : St → Rz) : ∀ v,aexec VG3535 (Af35 F) (bp Try.f35 30) (ef35j3 v) (kSeq (kc VG3535 Rf35j4 [(0,.plain)]) (kFin VG3535 none (Try.f35).results.toList)) = f35_4 F (Rf35j4 ∘ ef35j4) v := by
  rintro ⟨t3,x2,x3,x4,x5⟩; kernel_rfl
def f35_5 (F : Nat) (kf35j5 : Ty20 → Rz) (kf35j6 : Ty19 → Rz) : Ty19 → Rz := fun (x1,x2,x3,x4) => (kf35j5 ((0 : Int),x1,x2,x3,x4))
theorem f35_5_eq (F : Nat) (Rf35j5 : St → Rz) (Rf35j6 : St → Rz) : ∀ v,aexec VG3535 (Af35 F) (bp Try.f35 124) (ef35j4 v) (kSeq (kc VG3535 Rf35j5 [(0,.plain),(4,.plain)]) (kSeq (kc VG3535 Rf35j6 []) (kFin VG3535 none (Try.f35).results.toList))) = f35_5 F (Rf35j5 ∘ ef35j5) (Rf35j6 ∘ ef35j6) v := by
  rintro ⟨x1,x2,x3,x4⟩; kernel_rfl
def f35_6 (F : Nat) (kf35l1 : Ty20 → Rz) (kf35j6 : Ty19 → Rz) : Ty20 → Rz := fun (t4,x2,x3,x4,x5) => (cond (decide (t4 < (↑x2 : Int))) (cond ((decide (0 ≤ t4)) && (decide (t4 < (↑x2 : Int)))) (cond ((((x5.getD (Int.toNat t4) []).getD 2 []).getD 0 0) == 1) (cond ((decide (x2 = x5.length ∧ x2 < 8000)) && ((Dk.ris (Dk.R.mk x5 x3 x4) t4) && (Dk.rlen (Dk.R.mk x5 x3 x4) t4))) (kf35l1 ((IntKind.i64.wrap (t4 + (1 : Int))),(Dk.rsettle (Dk.R.mk x5 x3 x4) t4 (64 : Int)).s.length,(Dk.rsettle (Dk.R.mk x5 x3 x4) t4 (64 : Int)).off,(Dk.rsettle (Dk.R.mk x5 x3 x4) t4 (64 : Int)).left,(Dk.rsettle (Dk.R.mk x5 x3 x4) t4 (64 : Int)).s)) none) (kf35l1 ((IntKind.i64.wrap (t4 + (1 : Int))),x2,x3,x4,x5))) none) (kf35j6 (x2,x3,x4,x5)))
theorem f35_6_eq (F : Nat) (Rf35l1 : St → Rz) (Rf35j6 : St → Rz) : ∀ v,aexec VG3535 (Af35 F) (bp Try.f35 500) (ef35l1 v) (kSeq (kc VG3535 Rf35l1 [(0,.plain),(4,.plain)]) (kBlock 0 (kSeq (kc VG3535 Rf35j6 []) (kFin VG3535 none (Try.f35).results.toList)))) = f35_6 F (Rf35l1 ∘ ef35l1) (Rf35j6 ∘ ef35j6) v := by
  rintro ⟨t4,x2,x3,x4,x5⟩; kernel_rfl
def f35_7_i : Ty20 → Int × Nat × Bool × Int × (List (List (List Int))) := fun (t4,x2,x3,x4,x5) => (t4,x2,x3,x4,x5)
def f35_7 (F : Nat) (kf35j6 : Ty19 → Rz) : Ty20 → Rz := fun v => loopN (fun k => f35_6 F k kf35j6) F (f35_7_i v)
theorem f35_7_eq (F : Nat) (Rf35j6 : St → Rz) : ∀ v,aexec VG3535 (Af35 F) (bp Try.f35 250) (ef35j5 v) (kBlock 0 (kSeq (kc VG3535 Rf35j6 []) (kFin VG3535 none (Try.f35).results.toList))) = f35_7 F (Rf35j6 ∘ ef35j6) v :=
  loop_cut (by kernel_rfl) (by kernel_rfl) ef35j5 ef35l1 _ f35_7_i (fun k => f35_6 F k (Rf35j6 ∘ ef35j6))
    (by rintro ⟨t4,x2,x3,x4,x5⟩; kernel_rfl) (fun Rf35l1 => f35_6_eq F Rf35l1 Rf35j6)
def f35_8 (F : Nat) (kf35j6 : Ty19 → Rz) : Ty20 → Rz := f35_7 F kf35j6
theorem f35_8_eq (F : Nat) (Rf35j6 : St → Rz) : ∀ v,aexec VG3535 (Af35 F) (bp Try.f35 125) (ef35j5 v) (kSeq (kc VG3535 Rf35j6 []) (kFin VG3535 none (Try.f35).results.toList)) = f35_8 F (Rf35j6 ∘ ef35j6) v := fun v =>
  (block_in  (by kernel_rfl) _ _).trans (f35_7_eq F Rf35j6 v)
def f35_9 (F : Nat) (kf35j6 : Ty19 → Rz) : Ty19 → Rz := fun v => f35_5 F (f35_8 F kf35j6) kf35j6 v
theorem f35_9_eq (F : Nat) (Rf35j6 : St → Rz) : ∀ v,aexec VG3535 (Af35 F) (bp Try.f35 62) (ef35j4 v) (kSeq (kc VG3535 Rf35j6 []) (kFin VG3535 none (Try.f35).results.toList)) = f35_9 F (Rf35j6 ∘ ef35j6) v :=
  seq_cut (by kernel_rfl) (by kernel_rfl) ef35j4 ef35j5 _ (fun k => f35_5 F k (Rf35j6 ∘ ef35j6)) (f35_8 F (Rf35j6 ∘ ef35j6))
    (fun Rf35j5 => f35_5_eq F Rf35j5 Rf35j6) (f35_8_eq F Rf35j6)
def f35_10 (F : Nat) : Ty19 → Rz := fun (x1,x2,x3,x4) => (some ((.int .i64 (0 : Int)),[(.cells 3 (.segs (.cons 1 (.one (.own 1 x1 4)) (.cons 1 (.one (.bool x2)) (.cons 1 (.one (.int .i64 x3)) .nil)))) true),(.cells (x1 * 4) (.rT [.str,.str,.bool,.bool] x4) true)]))
theorem f35_10_eq (F : Nat) : ∀ v,aexec VG3535 (Af35 F) (bp Try.f35 63) (ef35j6 v) (kFin VG3535 none (Try.f35).results.toList) = f35_10 F v := by
  rintro ⟨x1,x2,x3,x4⟩; kernel_rfl
def f35_11 (F : Nat) : Ty19 → Rz := fun v => f35_9 F (f35_10 F) v
theorem f35_11_eq (F : Nat) : ∀ v,aexec VG3535 (Af35 F) (bp Try.f35 31) (ef35j4 v) (kFin VG3535 none (Try.f35).results.toList) = f35_11 F v :=
  seq_cut (by kernel_rfl) (by kernel_rfl) ef35j4 ef35j6 _ (fun k => f35_9 F k) (f35_10 F)
    (fun Rf35j6 => f35_9_eq F Rf35j6) (f35_10_eq F)
def f35_12 (F : Nat) : Ty20 → Rz := fun v => f35_4 F (f35_11 F) v
theorem f35_12_eq (F : Nat) : ∀ v,aexec VG3535 (Af35 F) (bp Try.f35 15) (ef35j3 v) (kFin VG3535 none (Try.f35).results.toList) = f35_12 F v :=
  seq_cut (by kernel_rfl) (by kernel_rfl) ef35j3 ef35j4 _ (fun k => f35_4 F k) (f35_11 F)
    (fun Rf35j4 => f35_4_eq F Rf35j4) (f35_11_eq F)
def f35_13 (F : Nat) : Ty19 → Rz := fun v => f35_3 F (f35_12 F) v
theorem f35_13_eq (F : Nat) : ∀ v,aexec VG3535 (Af35 F) (bp Try.f35 7) (ef35j2 v) (kFin VG3535 none (Try.f35).results.toList) = f35_13 F v :=
  seq_cut (by kernel_rfl) (by kernel_rfl) ef35j2 ef35j3 _ (fun k => f35_3 F k) (f35_12 F)
    (fun Rf35j3 => f35_3_eq F Rf35j3) (f35_12_eq F)
def f35_14 (F : Nat) : Ty19 → Rz := fun v => f35_2 F (f35_13 F) v
theorem f35_14_eq (F : Nat) : ∀ v,aexec VG3535 (Af35 F) (bp Try.f35 3) (ef35j1 v) (kFin VG3535 none (Try.f35).results.toList) = f35_14 F v :=
  seq_cut (by kernel_rfl) (by kernel_rfl) ef35j1 ef35j2 _ (fun k => f35_2 F k) (f35_13 F)
    (fun Rf35j2 => f35_2_eq F Rf35j2) (f35_13_eq F)
def f35_15 (F : Nat) : Ty14 → Rz := fun v => f35_1 F (f35_14 F) v
theorem f35_15_eq (F : Nat) : ∀ v,aexec VG3535 (Af35 F) (sub (bodyOf Try.f35) []) (ef35_a v) (kFin VG3535 none (Try.f35).results.toList) = f35_15 F v :=
  seq_cut (by kernel_rfl) (by kernel_rfl) ef35_a ef35j1 _ (fun k => f35_1 F k) (f35_14 F)
    (fun Rf35j1 => f35_1_eq F Rf35j1) (f35_14_eq F)
def f35 (F : Nat) : Ty14 → Rz := f35_15 F
theorem f35_body (F : Nat) (a0n : Nat) (a0s : List (List (List Int))) (a0o : Bool) (a0l : Int) : abody VG3535 (Af35 F) Try.f35 [(.ptr 0 0 3 0 0 0 3)] [(.cells 3 (.segs (.cons 1 (.one (.own 1 a0n 4)) (.cons 1 (.one (.bool a0o)) (.cons 1 (.one (.int .i64 a0l)) .nil)))) true),(.cells (a0n * 4) (.rT [.str,.str,.bool,.bool] a0s) true)] = f35 F (a0n,a0s,a0o,a0l) :=
  (abody_in (c := (sub (bodyOf Try.f35) [])) (by kernel_rfl) (s := ef35_a (a0n,a0s,a0o,a0l)) (by kernel_rfl)).trans (f35_15_eq F (a0n,a0s,a0o,a0l))
def r35 : CRun := fun X H => match X,H with
  | [(.ptr 0 0 3 0 0 0 3)],[(.cells 3 (.segs (.cons 1 (.one (.own 1 a0n 4)) (.cons 1 (.one (.bool a0o)) (.cons 1 (.one (.int .i64 a0l)) .nil)))) true),(.cells z1 (.rT [.str,.str,.bool,.bool] a0s) true)] => some ((decide (a0n = a0s.length ∧ a0n < 8000)) && ((Dk.rfine (Dk.R.mk a0s a0o a0l))),(.int .i64 (Dk.rflush (Dk.R.mk a0s a0o a0l)).2),[(.cells 3 (.segs (.cons 1 (.one (.own 1 (Dk.rflush (Dk.R.mk a0s a0o a0l)).1.s.length 4)) (.cons 1 (.one (.bool (Dk.rflush (Dk.R.mk a0s a0o a0l)).1.off)) (.cons 1 (.one (.int .i64 (Dk.rflush (Dk.R.mk a0s a0o a0l)).1.left)) .nil)))) true),(.cells ((Dk.rflush (Dk.R.mk a0s a0o a0l)).1.s.length * 4) (.rT [.str,.str,.bool,.bool] (Dk.rflush (Dk.R.mk a0s a0o a0l)).1.s) true)])
  | _,_ => none
theorem s35 (a0n : Nat) (a0s : List (List (List Int))) (a0o : Bool) (a0l : Int) (hp : ((decide (a0n = a0s.length ∧ a0n < 8000)) && ((Dk.rfine (Dk.R.mk a0s a0o a0l)))) = true) (k0 : okB (.cells 3 (.segs (.cons 1 (.one (.own 1 a0n 4)) (.cons 1 (.one (.bool a0o)) (.cons 1 (.one (.int .i64 a0l)) .nil)))) true)) (k1 : okB (.cells (a0n * 4) (.rT [.str,.str,.bool,.bool] a0s) true)) : ∃ F,f35 F (a0n,a0s,a0o,a0l) = some ((.int .i64 (Dk.rflush (Dk.R.mk a0s a0o a0l)).2),[(.cells 3 (.segs (.cons 1 (.one (.own 1 (Dk.rflush (Dk.R.mk a0s a0o a0l)).1.s.length 4)) (.cons 1 (.one (.bool (Dk.rflush (Dk.R.mk a0s a0o a0l)).1.off)) (.cons 1 (.one (.int .i64 (Dk.rflush (Dk.R.mk a0s a0o a0l)).1.left)) .nil)))) true),(.cells ((Dk.rflush (Dk.R.mk a0s a0o a0l)).1.s.length * 4) (.rT [.str,.str,.bool,.bool] (Dk.rflush (Dk.R.mk a0s a0o a0l)).1.s) true)]) := by
  rw [Bool.and_eq_true,decide_eq_true_iff] at hp
  obtain ⟨⟨hn,hlt⟩,hf⟩ := hp
  have hg := Dk.rfine_iff.1 hf
  subst hn
  refine ⟨a0s.length + 1,?_⟩
  simp only [f35,f35_15,f35_1,f35_14,f35_2,f35_13,f35_3,f35_12,f35_4,f35_11,f35_9,f35_5,f35_8,f35_7,f35_7_i]
  cases a0o
  · have e0 : decide (True ∧ a0s.length < 8000) = true := by rw [decide_eq_true_iff]; exact ⟨trivial,hlt⟩
    simp only [cond_false]
    rw [e0,cond_true]
    generalize hr : Dk.R.mk a0s false a0l = r at hg
    have hs : a0s = r.s := by rw [← hr]
    have ho : r.off = false := by rw [← hr]
    have hs1 := Dk.rstep_same r
    cases hst : ((Dk.rstep r).2 != 0)
    · have ef : Dk.rflush r = (Dk.rflushK (Dk.rstep r).1 r.s.length,0) := by simp only [Dk.rflush,ho,hst,cond_false]
      rw [ef,cond_false]
      have hg1 : Dk.RGood (Dk.rstep r).1 := by unfold Dk.RGood; rw [hs1]; exact hg
      generalize (Dk.rstep r).1 = e at hs1 hg1
      have hes := congrArg List.length hs1
      have hsl := congrArg List.length hs
      refine loopN_from (fun k => ((k : Int),(Dk.rflushK e k).s.length,(Dk.rflushK e k).off,(Dk.rflushK e k).left,(Dk.rflushK e k).s)) r.s.length (by rfl) (fun k hk K => ?_) (fun K => ?_) (a0s.length + 1) (by omega)
      · obtain ⟨q1,q2⟩ := Dk.rflushK_good hg1 k (by omega)
        have q3 := q1.1
        have e1 : (decide (0 ≤ (k : Int)) && decide ((k : Int) < ((Dk.rflushK e k).s.length : Int))) = true := by rw [dec_and,decide_eq_true_iff]; omega
        simp only [f35_6,e1,cond_true,i64w (show -9223372036854775808 ≤ (k : Int) + 1 by omega) (by omega),Int.toNat_natCast]
        rw [cond_pos (show (k : Int) < ((Dk.rflushK e k).s.length : Int) by omega),Dk.rflushK_succ]
        cases hd : ((((Dk.rflushK e k).s.getD k []).getD 2 []).getD 0 0 == 1)
        · have hd' : Dk.fD ((Dk.rflushK e k).at k) = false := hd
          rw [hd']; rfl
        · have hd' : Dk.fD ((Dk.rflushK e k).at k) = true := hd
          have e2 : (decide (True ∧ (Dk.rflushK e k).s.length < 8000) && (Dk.ris (Dk.R.mk (Dk.rflushK e k).s (Dk.rflushK e k).off (Dk.rflushK e k).left) k && Dk.rlen (Dk.R.mk (Dk.rflushK e k).s (Dk.rflushK e k).off (Dk.rflushK e k).left) k)) = true := by
            rw [Bool.and_eq_true,Bool.and_eq_true,decide_eq_true_iff]
            exact ⟨⟨trivial,q3⟩,Dk.ris_iff.2 ⟨by omega,show (k : Int) < ((Dk.rflushK e k).s.length : Int) by omega⟩,Dk.rlen_of q1 (by omega) hd'⟩
          rw [hd',e2]; rfl
      · simp only [f35_6]
        obtain ⟨q1,q2⟩ := Dk.rflushK_good hg1 r.s.length (by omega)
        rw [cond_neg (by omega)]
        rfl
    · have ef : Dk.rflush r = Dk.rstep r := by simp only [Dk.rflush,ho,hst,cond_false,cond_true]
      rw [ef]; rfl
  · rfl

theorem c35 : CallOk Try.prog G35 35 r35 := callOk_of (V := VG3535) mixed tys eVG3535 (f := 35) (fn := Try.f35) Try.func35 (by kernel_rfl) (c := sub (bodyOf Try.f35) []) (by kernel_rfl) (by
  intro X H r H' h hX hH
  unfold r35 at h; split at h <;> try contradiction
  · simp only [Option.some.injEq,Prod.mk.injEq] at h
    obtain ⟨hp,rfl,rfl⟩ := h
    obtain rfl := okB_size (hH _ (.tail _ (.head _))) rfl
    obtain rfl := (of_decide_eq_true (Bool.and_eq_true_iff.1 hp).1).1
    obtain ⟨F,hF⟩ := s35 _ _ _ _ hp (hH _ (.head _)) (hH _ (.tail _ (.head _)))
    exact ⟨Af35 F,(f35_body F _ _ _ _).trans hF⟩)
def lVG3537 : List CEnt := [(57,[none,none,none],r57)]
def VG3537 : Env := mkEnv T35 G35 lVG3537
theorem eVG3537 : EOk Try.prog VG3537 := eok_mk (by exact ⟨c57,trivial⟩)
def Af37 (F : Nat) : Cuts := { F := F,at_ := fun n => match n with | 2026 => some sp8 | _ => none,join := fun n => match n with | 1034 => some sp9 | 2028 => some sp8 | 10003 => some [(0,.plain)] | _ => none }
def ef37_a : Ty29 → St := fun (a0n,a0s,a0o,a0l,a1) => { tmps := [(0,(.ptr 0 0 3 0 0 0 3)),(1,(.vs (.rI .i64 a1) 0 1))],heap := [(0,(.cells 3 (.segs (.cons 1 (.one (.own 1 a0n 4)) (.cons 1 (.one (.bool a0o)) (.cons 1 (.one (.int .i64 a0l)) .nil)))) true)),(1,(.cells (a0n * 4) (.rT [.str,.str,.bool,.bool] a0s) true))],next := 2,nt := 45,m := 2 }
def ef37j1 : Ty30 → St := fun (t1,t4,x3,x4,x5,x6) => { tmps := [(0,(.ptr 0 0 3 0 0 0 3)),(1,(.vs (.rI .i64 t1) 0 1)),(4,(.int .i64 t4))],heap := [(0,(.cells 3 (.segs (.cons 1 (.one (.own 1 x3 4)) (.cons 1 (.one (.bool x4)) (.cons 1 (.one (.int .i64 x5)) .nil)))) true)),(1,(.cells (x3 * 4) (.rT [.str,.str,.bool,.bool] x6) true))],next := 2,nt := 45,m := 2 }
def ef37j2 : Ty31 → St := fun (t1,t4,t5,x4,x5,x6,x7) => { tmps := [(0,(.ptr 0 0 3 0 0 0 3)),(1,(.vs (.rI .i64 t1) 0 1)),(4,(.int .i64 t4)),(5,(.int .i64 t5))],heap := [(0,(.cells 3 (.segs (.cons 1 (.one (.own 1 x4 4)) (.cons 1 (.one (.bool x5)) (.cons 1 (.one (.int .i64 x6)) .nil)))) true)),(1,(.cells (x4 * 4) (.rT [.str,.str,.bool,.bool] x7) true))],next := 2,nt := 45,m := 2 }
def ef37l1 : Ty31 → St := fun (t1,t4,t5,x4,x5,x6,x7) => { tmps := [(0,(.ptr 0 0 3 0 0 0 3)),(1,(.vs (.rI .i64 t1) 0 1)),(4,(.int .i64 t4)),(5,(.int .i64 t5))],heap := [(0,(.cells 3 (.segs (.cons 1 (.one (.own 1 x4 4)) (.cons 1 (.one (.bool x5)) (.cons 1 (.one (.int .i64 x6)) .nil)))) true)),(1,(.cells (x4 * 4) (.rT [.str,.str,.bool,.bool] x7) true))],next := 2,nt := 45,m := 2 }
def ef37j3 : Ty19 → St := fun (x1,x2,x3,x4) => { tmps := [(0,(.ptr 0 0 3 0 0 0 3))],heap := [(0,(.cells 3 (.segs (.cons 1 (.one (.own 1 x1 4)) (.cons 1 (.one (.bool x2)) (.cons 1 (.one (.int .i64 x3)) .nil)))) true)),(1,(.cells (x1 * 4) (.rT [.str,.str,.bool,.bool] x4) true))],next := 2,nt := 45,m := 2 }
def f37_1 (F : Nat) (kf37j1 : Ty30 → Rz) : Ty29 → Rz := fun (a0n,a0s,a0o,a0l,a1) => (kf37j1 (a1,(0 : Int),a0n,a0o,a0l,a0s))
theorem f37_1_eq (F : Nat) (Rf37j1 : St → Rz) : ∀ v,aexec VG3537 (Af37 F) (bp Try.f37 2) (ef37_a v) (kSeq (kc VG3537 Rf37j1 sp9) (kFin VG3537 none (Try.f37).results.toList)) = f37_1 F (Rf37j1 ∘ ef37j1) v := by
  rintro ⟨a0n,a0s,a0o,a0l,a1⟩; kernel_rfl
def f37_2 (F : Nat) (kf37j2 : Ty31 → Rz) (kf37j3 : Ty19 → Rz) : Ty30 → Rz := fun (t1,t4,x3,x4,x5,x6) => (kf37j2 (t1,t4,(0 : Int),x3,x4,x5,x6))
theorem f37_2_eq (F : Nat) (Rf37j2 : St → Rz) (Rf37j3 : St → Rz) : ∀ v,aexec VG3537 (Af37 F) (bp Try.f37 12) (ef37j1 v) (kSeq (kc VG3537 Rf37j2 sp8) (kSeq (kc VG3537 Rf37j3 [(0,.plain)]) (kFin VG3537 none (Try.f37).results.toList))) = f37_2 F (Rf37j2 ∘ ef37j2) (Rf37j3 ∘ ef37j3) v := by
  rintro ⟨t1,t4,x3,x4,x5,x6⟩; kernel_rfl
def f37_3 (F : Nat) (kf37l1 : Ty31 → Rz) (kf37j3 : Ty19 → Rz) : Ty31 → Rz := fun (t1,t4,t5,x4,x5,x6,x7) => (cond (decide (t5 < (↑x4 : Int))) (cond ((decide (0 ≤ t5)) && (decide (t5 < (↑x4 : Int)))) (cond (!((((x7.getD (Int.toNat t5) []).getD 2 []).getD 0 0) == 1)) (kf37l1 (t1,t4,(IntKind.i64.wrap (t5 + (1 : Int))),x4,x5,x6,x7)) (cond (decide (t4 < (↑t1.length : Int))) (cond ((decide (0 ≤ t4)) && (decide (t4 < (↑t1.length : Int)))) (cond ((decide (x4 = x7.length ∧ x4 < 8000)) && ((Dk.ris (Dk.R.mk x7 x5 x6) t5) && (Dk.rlen (Dk.R.mk x7 x5 x6) t5))) (kf37l1 (t1,(IntKind.i64.wrap (t4 + (1 : Int))),(IntKind.i64.wrap (t5 + (1 : Int))),(Dk.rsettle (Dk.R.mk x7 x5 x6) t5 (t1.getD (Int.toNat t4) 0)).s.length,(Dk.rsettle (Dk.R.mk x7 x5 x6) t5 (t1.getD (Int.toNat t4) 0)).off,(Dk.rsettle (Dk.R.mk x7 x5 x6) t5 (t1.getD (Int.toNat t4) 0)).left,(Dk.rsettle (Dk.R.mk x7 x5 x6) t5 (t1.getD (Int.toNat t4) 0)).s)) none) none) (cond ((decide (x4 = x7.length ∧ x4 < 8000)) && ((Dk.ris (Dk.R.mk x7 x5 x6) t5) && (Dk.rlen (Dk.R.mk x7 x5 x6) t5))) (kf37l1 (t1,(IntKind.i64.wrap (t4 + (1 : Int))),(IntKind.i64.wrap (t5 + (1 : Int))),(Dk.rsettle (Dk.R.mk x7 x5 x6) t5 (64 : Int)).s.length,(Dk.rsettle (Dk.R.mk x7 x5 x6) t5 (64 : Int)).off,(Dk.rsettle (Dk.R.mk x7 x5 x6) t5 (64 : Int)).left,(Dk.rsettle (Dk.R.mk x7 x5 x6) t5 (64 : Int)).s)) none))) none) (kf37j3 (x4,x5,x6,x7)))
theorem f37_3_eq (F : Nat) (Rf37l1 : St → Rz) (Rf37j3 : St → Rz) : ∀ v,aexec VG3537 (Af37 F) (bp Try.f37 52) (ef37l1 v) (kSeq (kc VG3537 Rf37l1 sp8) (kBlock 0 (kSeq (kc VG3537 Rf37j3 [(0,.plain)]) (kFin VG3537 none (Try.f37).results.toList)))) = f37_3 F (Rf37l1 ∘ ef37l1) (Rf37j3 ∘ ef37j3) v := by
  rintro ⟨t1,t4,t5,x4,x5,x6,x7⟩; kernel_rfl
def f37_4_i : Ty31 → (List Int) × Int × Int × Nat × Bool × Int × (List (List (List Int))) := fun (t1,t4,t5,x4,x5,x6,x7) => (t1,t4,t5,x4,x5,x6,x7)
def f37_4 (F : Nat) (kf37j3 : Ty19 → Rz) : Ty31 → Rz := fun v => loopN (fun k => f37_3 F k kf37j3) F (f37_4_i v)
theorem f37_4_eq (F : Nat) (Rf37j3 : St → Rz) : ∀ v,aexec VG3537 (Af37 F) (bp Try.f37 26) (ef37j2 v) (kBlock 0 (kSeq (kc VG3537 Rf37j3 [(0,.plain)]) (kFin VG3537 none (Try.f37).results.toList))) = f37_4 F (Rf37j3 ∘ ef37j3) v :=
  loop_cut (by kernel_rfl) (by kernel_rfl) ef37j2 ef37l1 _ f37_4_i (fun k => f37_3 F k (Rf37j3 ∘ ef37j3))
    (by rintro ⟨t1,t4,t5,x4,x5,x6,x7⟩; kernel_rfl) (fun Rf37l1 => f37_3_eq F Rf37l1 Rf37j3)
def f37_5 (F : Nat) (kf37j3 : Ty19 → Rz) : Ty31 → Rz := f37_4 F kf37j3
theorem f37_5_eq (F : Nat) (Rf37j3 : St → Rz) : ∀ v,aexec VG3537 (Af37 F) (bp Try.f37 13) (ef37j2 v) (kSeq (kc VG3537 Rf37j3 [(0,.plain)]) (kFin VG3537 none (Try.f37).results.toList)) = f37_5 F (Rf37j3 ∘ ef37j3) v := fun v =>
  (block_in  (by kernel_rfl) _ _).trans (f37_4_eq F Rf37j3 v)
def f37_6 (F : Nat) (kf37j3 : Ty19 → Rz) : Ty30 → Rz := fun v => f37_2 F (f37_5 F kf37j3) kf37j3 v
theorem f37_6_eq (F : Nat) (Rf37j3 : St → Rz) : ∀ v,aexec VG3537 (Af37 F) (bp Try.f37 6) (ef37j1 v) (kSeq (kc VG3537 Rf37j3 [(0,.plain)]) (kFin VG3537 none (Try.f37).results.toList)) = f37_6 F (Rf37j3 ∘ ef37j3) v :=
  seq_cut (by kernel_rfl) (by kernel_rfl) ef37j1 ef37j2 _ (fun k => f37_2 F k (Rf37j3 ∘ ef37j3)) (f37_5 F (Rf37j3 ∘ ef37j3))
    (fun Rf37j2 => f37_2_eq F Rf37j2 Rf37j3) (f37_5_eq F Rf37j3)
def f37_7 (F : Nat) : Ty19 → Rz := fun (x1,x2,x3,x4) => (some ((.tup .nil),[(.cells 3 (.segs (.cons 1 (.one (.own 1 x1 4)) (.cons 1 (.one (.bool false)) (.cons 1 (.one (.int .i64 (-1 : Int))) .nil)))) true),(.cells (x1 * 4) (.rT [.str,.str,.bool,.bool] x4) true)]))
theorem f37_7_eq (F : Nat) : ∀ v,aexec VG3537 (Af37 F) (bp Try.f37 7) (ef37j3 v) (kFin VG3537 none (Try.f37).results.toList) = f37_7 F v := by
  rintro ⟨x1,x2,x3,x4⟩; kernel_rfl
def f37_8 (F : Nat) : Ty30 → Rz := fun v => f37_6 F (f37_7 F) v
theorem f37_8_eq (F : Nat) : ∀ v,aexec VG3537 (Af37 F) (bp Try.f37 3) (ef37j1 v) (kFin VG3537 none (Try.f37).results.toList) = f37_8 F v :=
  seq_cut (by kernel_rfl) (by kernel_rfl) ef37j1 ef37j3 _ (fun k => f37_6 F k) (f37_7 F)
    (fun Rf37j3 => f37_6_eq F Rf37j3) (f37_7_eq F)
def f37_9 (F : Nat) : Ty29 → Rz := fun v => f37_1 F (f37_8 F) v
theorem f37_9_eq (F : Nat) : ∀ v,aexec VG3537 (Af37 F) (sub (bodyOf Try.f37) []) (ef37_a v) (kFin VG3537 none (Try.f37).results.toList) = f37_9 F v :=
  seq_cut (by kernel_rfl) (by kernel_rfl) ef37_a ef37j1 _ (fun k => f37_1 F k) (f37_8 F)
    (fun Rf37j1 => f37_1_eq F Rf37j1) (f37_8_eq F)
def f37 (F : Nat) : Ty29 → Rz := f37_9 F
theorem f37_body (F : Nat) (a0n : Nat) (a0s : List (List (List Int))) (a0o : Bool) (a0l : Int) (a1 : List Int) : abody VG3537 (Af37 F) Try.f37 [(.ptr 0 0 3 0 0 0 3),(.vs (.rI .i64 a1) 0 1)] [(.cells 3 (.segs (.cons 1 (.one (.own 1 a0n 4)) (.cons 1 (.one (.bool a0o)) (.cons 1 (.one (.int .i64 a0l)) .nil)))) true),(.cells (a0n * 4) (.rT [.str,.str,.bool,.bool] a0s) true)] = f37 F (a0n,a0s,a0o,a0l,a1) :=
  (abody_in (c := (sub (bodyOf Try.f37) [])) (by kernel_rfl) (s := ef37_a (a0n,a0s,a0o,a0l,a1)) (by kernel_rfl)).trans (f37_9_eq F (a0n,a0s,a0o,a0l,a1))
def r37 : CRun := fun X H => match X,H with
  | [(.ptr 0 0 3 0 0 0 3),(.vs (.rI .i64 a1) 0 1)],[(.cells 3 (.segs (.cons 1 (.one (.own 1 a0n 4)) (.cons 1 (.one (.bool a0o)) (.cons 1 (.one (.int .i64 a0l)) .nil)))) true),(.cells z1 (.rT [.str,.str,.bool,.bool] a0s) true)] => some ((decide (a0n = a0s.length ∧ a0n < 8000)) && ((Dk.rfine (Dk.R.mk a0s a0o a0l))),(.tup .nil),[(.cells 3 (.segs (.cons 1 (.one (.own 1 (Dk.rmount (Dk.R.mk a0s a0o a0l) a1).s.length 4)) (.cons 1 (.one (.bool (Dk.rmount (Dk.R.mk a0s a0o a0l) a1).off)) (.cons 1 (.one (.int .i64 (Dk.rmount (Dk.R.mk a0s a0o a0l) a1).left)) .nil)))) true),(.cells ((Dk.rmount (Dk.R.mk a0s a0o a0l) a1).s.length * 4) (.rT [.str,.str,.bool,.bool] (Dk.rmount (Dk.R.mk a0s a0o a0l) a1).s) true)])
  | _,_ => none
theorem s37 (a0n : Nat) (a0s : List (List (List Int))) (a0o : Bool) (a0l : Int) (a1 : List Int) (hp : ((decide (a0n = a0s.length ∧ a0n < 8000)) && ((Dk.rfine (Dk.R.mk a0s a0o a0l)))) = true) (h1 : okV (.vs (.rI .i64 a1) 0 1)) (k0 : okB (.cells 3 (.segs (.cons 1 (.one (.own 1 a0n 4)) (.cons 1 (.one (.bool a0o)) (.cons 1 (.one (.int .i64 a0l)) .nil)))) true)) (k1 : okB (.cells (a0n * 4) (.rT [.str,.str,.bool,.bool] a0s) true)) : ∃ F,f37 F (a0n,a0s,a0o,a0l,a1) = some ((.tup .nil),[(.cells 3 (.segs (.cons 1 (.one (.own 1 (Dk.rmount (Dk.R.mk a0s a0o a0l) a1).s.length 4)) (.cons 1 (.one (.bool (Dk.rmount (Dk.R.mk a0s a0o a0l) a1).off)) (.cons 1 (.one (.int .i64 (Dk.rmount (Dk.R.mk a0s a0o a0l) a1).left)) .nil)))) true),(.cells ((Dk.rmount (Dk.R.mk a0s a0o a0l) a1).s.length * 4) (.rT [.str,.str,.bool,.bool] (Dk.rmount (Dk.R.mk a0s a0o a0l) a1).s) true)]) := by
  rw [Bool.and_eq_true,decide_eq_true_iff] at hp
  obtain ⟨⟨hn,hlt⟩,hf⟩ := hp
  have hg := Dk.rfine_iff.1 hf
  subst hn
  refine ⟨a0s.length + 1,?_⟩
  simp only [f37,f37_9,f37_1,f37_8,f37_6,f37_7,f37_2,f37_5,f37_4,f37_4_i]
  generalize hr : Dk.R.mk a0s a0o a0l = r at hg
  have hs : a0s = r.s := by rw [← hr]
  have hsl := congrArg List.length hs
  refine loopN_from (fun k => (a1,((Dk.rmountK a1 r k).2 : Int),(k : Int),(Dk.rmountK a1 r k).1.s.length,(Dk.rmountK a1 r k).1.off,(Dk.rmountK a1 r k).1.left,(Dk.rmountK a1 r k).1.s)) r.s.length (by rw [← hr]; rfl) (fun k hk K => ?_) (fun K => ?_) (a0s.length + 1) (by omega)
  · obtain ⟨q1,q2,q4⟩ := Dk.rmountK_good (p := a1) hg k (by omega)
    have q3 := q1.1
    rw [Dk.rmountK_succ]
    generalize Dk.rmountK a1 r k = e at q1 q2 q3 q4
    obtain ⟨e,c⟩ := e
    simp only at q1 q2 q3 q4 ⊢
    have e1 : (decide (0 ≤ (k : Int)) && decide ((k : Int) < (e.s.length : Int))) = true := by rw [dec_and,decide_eq_true_iff]; omega
    simp only [f37_3,e1,cond_true,i64w (show -9223372036854775808 ≤ (k : Int) + 1 by omega) (by omega),i64w (show -9223372036854775808 ≤ (c : Int) + 1 by omega) (by omega),Int.toNat_natCast]
    rw [cond_pos (show (k : Int) < (e.s.length : Int) by omega)]
    cases hd : (((e.s.getD k []).getD 2 []).getD 0 0 == 1)
    · have hd' : Dk.fD (e.at k) = false := hd
      rw [hd']; rfl
    · have hd' : Dk.fD (e.at k) = true := hd
      have e2 : (decide (True ∧ e.s.length < 8000) && (Dk.ris (Dk.R.mk e.s e.off e.left) k && Dk.rlen (Dk.R.mk e.s e.off e.left) k)) = true := by
        rw [Bool.and_eq_true,Bool.and_eq_true,decide_eq_true_iff]
        exact ⟨⟨trivial,q3⟩,Dk.ris_iff.2 ⟨by omega,show (k : Int) < (e.s.length : Int) by omega⟩,Dk.rlen_of q1 (by omega) hd'⟩
      rw [hd',Bool.not_true,cond_false,e2]
      by_cases hq : c < a1.length
      · have e3 : (decide (0 ≤ (c : Int)) && decide ((c : Int) < (a1.length : Int))) = true := by rw [dec_and,decide_eq_true_iff]; omega
        rw [cond_pos (show (c : Int) < (a1.length : Int) by omega),e3,Dk.getD_in hq 0 64]
        rfl
      · rw [cond_neg (show ¬ (c : Int) < (a1.length : Int) by omega),Dk.getD_far (by omega) 64]
        rfl
  · simp only [f37_3]
    obtain ⟨q1,q2,q4⟩ := Dk.rmountK_good (p := a1) hg r.s.length (by omega)
    rw [cond_neg (by omega)]
    rfl

theorem c37 : CallOk Try.prog G35 37 r37 := callOk_of (V := VG3537) mixed tys eVG3537 (f := 37) (fn := Try.f37) Try.func37 (by kernel_rfl) (c := sub (bodyOf Try.f37) []) (by kernel_rfl) (by
  intro X H r H' h hX hH
  unfold r37 at h; split at h <;> try contradiction
  · simp only [Option.some.injEq,Prod.mk.injEq] at h
    obtain ⟨hp,rfl,rfl⟩ := h
    obtain rfl := okB_size (hH _ (.tail _ (.head _))) rfl
    obtain rfl := (of_decide_eq_true (Bool.and_eq_true_iff.1 hp).1).1
    obtain ⟨F,hF⟩ := s37 _ _ _ _ _ hp (hX _ (.tail _ (.head _))) (hH _ (.head _)) (hH _ (.tail _ (.head _)))
    exact ⟨Af37 F,(f37_body F _ _ _ _ _).trans hF⟩)
def lVG3528 : List CEnt := [(52,[none],r52),(53,[none],r53),(54,[none],r54)]
def VG3528 : Env := mkEnv T35 G35 lVG3528
theorem eVG3528 : EOk Try.prog VG3528 := eok_mk (by exact ⟨c52,c53,c54,trivial⟩)
def Af28 (F : Nat) : Cuts := { F := F,at_ := fun _ => none,join := fun _ => none }
def ef28_a : Ty0 → St := fun (a0n,a0b,a0p,a0w,a0o,a0l) => { tmps := [(0,(.ptr 0 0 5 0 0 0 5))],heap := [(0,(.cells 5 (.segs (.cons 1 (.one (.own 1 a0n 64)) (.cons 1 (.one (.mp 2)) (.cons 1 (.one (.mp 3)) (.cons 1 (.one (.bool a0o)) (.cons 1 (.one (.int .i64 a0l)) .nil)))))) true)),(1,(.cells a0b.length (.rI .u8 a0b) true)),(2,(.cells 0 (.rM .i64 0 (.arr .u8 64) a0p) true)),(3,(.cells 0 (.rM .i64 0 .bool a0w) true))],next := 4,nt := 28,m := 4 }
def f28_1 (F : Nat) : Ty0 → Rz := fun (a0n,a0b,a0p,a0w,a0o,a0l) => (cond (decide (0 < a0n ∧ a0n < 8000 ∧ a0b.length = a0n * 64)) (some ((.ptr 4 0 5 0 0 0 5),[(.cells 5 (.segs (.cons 1 (.one (.own 1 a0n 64)) (.cons 1 (.one (.mp 2)) (.cons 1 (.one (.mp 3)) (.cons 1 (.one (.bool a0o)) (.cons 1 (.one (.int .i64 a0l)) .nil)))))) true),(.cells a0b.length (.rI .u8 a0b) true),(.cells 0 (.rM .i64 0 (.arr .u8 64) a0p) true),(.cells 0 (.rM .i64 0 .bool a0w) true),(.cells 5 (.segs (.cons 1 (.one (.own 5 a0n 64)) (.cons 1 (.one (.mp 6)) (.cons 1 (.one (.mp 7)) (.cons 1 (.one (.bool a0o)) (.cons 1 (.one (.int .i64 a0l)) .nil)))))) true),(.cells a0b.length (.rI .u8 a0b) true),(.cells 0 (.rM .i64 0 (.arr .u8 64) a0p) true),(.cells 0 (.rM .i64 0 .bool a0w) true)])) none)
theorem f28_1_eq (F : Nat) : ∀ v,aexec VG3528 (Af28 F) (sub (bodyOf Try.f28) []) (ef28_a v) (kFin VG3528 none (Try.f28).results.toList) = f28_1 F v := by
  rintro ⟨a0n,a0b,a0p,a0w,a0o,a0l⟩; kernel_rfl
def f28 (F : Nat) : Ty0 → Rz := f28_1 F
theorem f28_body (F : Nat) (a0n : Nat) (a0b : List Int) (a0p : List (List Int × List Int)) (a0w : List (List Int × List Int)) (a0o : Bool) (a0l : Int) : abody VG3528 (Af28 F) Try.f28 [(.ptr 0 0 5 0 0 0 5)] [(.cells 5 (.segs (.cons 1 (.one (.own 1 a0n 64)) (.cons 1 (.one (.mp 2)) (.cons 1 (.one (.mp 3)) (.cons 1 (.one (.bool a0o)) (.cons 1 (.one (.int .i64 a0l)) .nil)))))) true),(.cells a0b.length (.rI .u8 a0b) true),(.cells 0 (.rM .i64 0 (.arr .u8 64) a0p) true),(.cells 0 (.rM .i64 0 .bool a0w) true)] = f28 F (a0n,a0b,a0p,a0w,a0o,a0l) :=
  (abody_in (c := (sub (bodyOf Try.f28) [])) (by kernel_rfl) (s := ef28_a (a0n,a0b,a0p,a0w,a0o,a0l)) (by kernel_rfl)).trans (f28_1_eq F (a0n,a0b,a0p,a0w,a0o,a0l))
def r28 : CRun := fun X H => match X,H with
  | [(.ptr 0 0 5 0 0 0 5)],[(.cells 5 (.segs (.cons 1 (.one (.own 1 a0n 64)) (.cons 1 (.one (.mp 2)) (.cons 1 (.one (.mp 3)) (.cons 1 (.one (.bool a0o)) (.cons 1 (.one (.int .i64 a0l)) .nil)))))) true),(.cells z1 (.rI .u8 a0b) true),(.cells 0 (.rM .i64 0 (.arr .u8 64) a0p) true),(.cells 0 (.rM .i64 0 .bool a0w) true)] => some ((Dk.fine (Dk.D.mk a0n a0b a0p a0w a0o a0l)) && (decide (0 < (Dk.D.mk a0n a0b a0p a0w a0o a0l).n)),(.ptr 4 0 5 0 0 0 5),[(.cells 5 (.segs (.cons 1 (.one (.own 1 (Dk.D.mk a0n a0b a0p a0w a0o a0l).n 64)) (.cons 1 (.one (.mp 2)) (.cons 1 (.one (.mp 3)) (.cons 1 (.one (.bool (Dk.D.mk a0n a0b a0p a0w a0o a0l).off)) (.cons 1 (.one (.int .i64 (Dk.D.mk a0n a0b a0p a0w a0o a0l).left)) .nil)))))) true),(.cells (Dk.D.mk a0n a0b a0p a0w a0o a0l).blk.length (.rI .u8 (Dk.D.mk a0n a0b a0p a0w a0o a0l).blk) true),(.cells 0 (.rM .i64 0 (.arr .u8 64) (Dk.D.mk a0n a0b a0p a0w a0o a0l).pend) true),(.cells 0 (.rM .i64 0 .bool (Dk.D.mk a0n a0b a0p a0w a0o a0l).worn) true),(.cells 5 (.segs (.cons 1 (.one (.own 5 (Dk.D.mk a0n a0b a0p a0w a0o a0l).n 64)) (.cons 1 (.one (.mp 6)) (.cons 1 (.one (.mp 7)) (.cons 1 (.one (.bool (Dk.D.mk a0n a0b a0p a0w a0o a0l).off)) (.cons 1 (.one (.int .i64 (Dk.D.mk a0n a0b a0p a0w a0o a0l).left)) .nil)))))) true),(.cells (Dk.D.mk a0n a0b a0p a0w a0o a0l).blk.length (.rI .u8 (Dk.D.mk a0n a0b a0p a0w a0o a0l).blk) true),(.cells 0 (.rM .i64 0 (.arr .u8 64) (Dk.D.mk a0n a0b a0p a0w a0o a0l).pend) true),(.cells 0 (.rM .i64 0 .bool (Dk.D.mk a0n a0b a0p a0w a0o a0l).worn) true)])
  | _,_ => none
theorem s28 (a0n : Nat) (a0b : List Int) (a0p : List (List Int × List Int)) (a0w : List (List Int × List Int)) (a0o : Bool) (a0l : Int) (hp : ((Dk.fine (Dk.D.mk a0n a0b a0p a0w a0o a0l)) && (decide (0 < (Dk.D.mk a0n a0b a0p a0w a0o a0l).n))) = true) (k0 : okB (.cells 5 (.segs (.cons 1 (.one (.own 1 a0n 64)) (.cons 1 (.one (.mp 2)) (.cons 1 (.one (.mp 3)) (.cons 1 (.one (.bool a0o)) (.cons 1 (.one (.int .i64 a0l)) .nil)))))) true)) (k1 : okB (.cells a0b.length (.rI .u8 a0b) true)) (k2 : okB (.cells 0 (.rM .i64 0 (.arr .u8 64) a0p) true)) (k3 : okB (.cells 0 (.rM .i64 0 .bool a0w) true)) : ∃ F,f28 F (a0n,a0b,a0p,a0w,a0o,a0l) = some ((.ptr 4 0 5 0 0 0 5),[(.cells 5 (.segs (.cons 1 (.one (.own 1 (Dk.D.mk a0n a0b a0p a0w a0o a0l).n 64)) (.cons 1 (.one (.mp 2)) (.cons 1 (.one (.mp 3)) (.cons 1 (.one (.bool (Dk.D.mk a0n a0b a0p a0w a0o a0l).off)) (.cons 1 (.one (.int .i64 (Dk.D.mk a0n a0b a0p a0w a0o a0l).left)) .nil)))))) true),(.cells (Dk.D.mk a0n a0b a0p a0w a0o a0l).blk.length (.rI .u8 (Dk.D.mk a0n a0b a0p a0w a0o a0l).blk) true),(.cells 0 (.rM .i64 0 (.arr .u8 64) (Dk.D.mk a0n a0b a0p a0w a0o a0l).pend) true),(.cells 0 (.rM .i64 0 .bool (Dk.D.mk a0n a0b a0p a0w a0o a0l).worn) true),(.cells 5 (.segs (.cons 1 (.one (.own 5 (Dk.D.mk a0n a0b a0p a0w a0o a0l).n 64)) (.cons 1 (.one (.mp 6)) (.cons 1 (.one (.mp 7)) (.cons 1 (.one (.bool (Dk.D.mk a0n a0b a0p a0w a0o a0l).off)) (.cons 1 (.one (.int .i64 (Dk.D.mk a0n a0b a0p a0w a0o a0l).left)) .nil)))))) true),(.cells (Dk.D.mk a0n a0b a0p a0w a0o a0l).blk.length (.rI .u8 (Dk.D.mk a0n a0b a0p a0w a0o a0l).blk) true),(.cells 0 (.rM .i64 0 (.arr .u8 64) (Dk.D.mk a0n a0b a0p a0w a0o a0l).pend) true),(.cells 0 (.rM .i64 0 .bool (Dk.D.mk a0n a0b a0p a0w a0o a0l).worn) true)]) := by
  rw [Bool.and_eq_true,decide_eq_true_iff] at hp
  obtain ⟨hf,h0⟩ := hp
  obtain ⟨⟨hn,hl,hpl,hwl⟩,hin⟩ := Dk.fine_iff hf
  refine ⟨0,?_⟩
  have e : decide (0 < a0n ∧ a0n < 8000 ∧ a0b.length = a0n * 64) = true := by rw [decide_eq_true_iff]; exact ⟨h0,hn,hl⟩
  simp only [f28,f28_1]
  rw [e]; rfl

theorem c28 : CallOk Try.prog G35 28 r28 := callOk_of (V := VG3528) mixed tys eVG3528 (f := 28) (fn := Try.f28) Try.func28 (by kernel_rfl) (c := sub (bodyOf Try.f28) []) (by kernel_rfl) (by
  intro X H r H' h hX hH
  unfold r28 at h; split at h <;> try contradiction
  · simp only [Option.some.injEq,Prod.mk.injEq] at h
    obtain ⟨hp,rfl,rfl⟩ := h
    obtain rfl := okB_size (hH _ (.tail _ (.head _))) rfl
    obtain ⟨F,hF⟩ := s28 _ _ _ _ _ _ hp (hH _ (.head _)) (hH _ (.tail _ (.head _))) (hH _ (.tail _ (.tail _ (.head _)))) (hH _ (.tail _ (.tail _ (.tail _ (.head _)))))
    exact ⟨Af28 F,(f28_body F _ _ _ _ _ _).trans hF⟩)
def lVG3529 : List CEnt := []
def VG3529 : Env := mkEnv T35 G35 lVG3529
theorem eVG3529 : EOk Try.prog VG3529 := eok_mk (by exact trivial)
def Af29 (F : Nat) : Cuts := { F := F,at_ := fun _ => none,join := fun _ => none }
def ef29_a : Ty14 → St := fun (a0n,a0s,a0o,a0l) => { tmps := [(0,(.ptr 0 0 3 0 0 0 3))],heap := [(0,(.cells 3 (.segs (.cons 1 (.one (.own 1 a0n 4)) (.cons 1 (.one (.bool a0o)) (.cons 1 (.one (.int .i64 a0l)) .nil)))) true)),(1,(.cells (a0n * 4) (.rT [.str,.str,.bool,.bool] a0s) true))],next := 2,nt := 19,m := 2 }
def f29_1 (F : Nat) : Ty14 → Rz := fun (a0n,a0s,a0o,a0l) => (cond (decide ((0 + a0n) < 1073741824)) (some ((.ptr 2 0 3 0 0 0 3),[(.cells 3 (.segs (.cons 1 (.one (.own 1 a0n 4)) (.cons 1 (.one (.bool a0o)) (.cons 1 (.one (.int .i64 a0l)) .nil)))) true),(.cells (a0n * 4) (.rT [.str,.str,.bool,.bool] a0s) true),(.cells 3 (.segs (.cons 1 (.one (.own 3 (0 + a0n) 4)) (.cons 1 (.one (.bool a0o)) (.cons 1 (.one (.int .i64 a0l)) .nil)))) true),(.cells ((0 + a0n) * 4) (.rT [.str,.str,.bool,.bool] ([] ++ a0s)) true)])) none)
theorem f29_1_eq (F : Nat) : ∀ v,aexec VG3529 (Af29 F) (sub (bodyOf Try.f29) []) (ef29_a v) (kFin VG3529 none (Try.f29).results.toList) = f29_1 F v := by
  rintro ⟨a0n,a0s,a0o,a0l⟩; kernel_rfl
def f29 (F : Nat) : Ty14 → Rz := f29_1 F
theorem f29_body (F : Nat) (a0n : Nat) (a0s : List (List (List Int))) (a0o : Bool) (a0l : Int) : abody VG3529 (Af29 F) Try.f29 [(.ptr 0 0 3 0 0 0 3)] [(.cells 3 (.segs (.cons 1 (.one (.own 1 a0n 4)) (.cons 1 (.one (.bool a0o)) (.cons 1 (.one (.int .i64 a0l)) .nil)))) true),(.cells (a0n * 4) (.rT [.str,.str,.bool,.bool] a0s) true)] = f29 F (a0n,a0s,a0o,a0l) :=
  (abody_in (c := (sub (bodyOf Try.f29) [])) (by kernel_rfl) (s := ef29_a (a0n,a0s,a0o,a0l)) (by kernel_rfl)).trans (f29_1_eq F (a0n,a0s,a0o,a0l))
def r29 : CRun := fun X H => match X,H with
  | [(.ptr 0 0 3 0 0 0 3)],[(.cells 3 (.segs (.cons 1 (.one (.own 1 a0n 4)) (.cons 1 (.one (.bool a0o)) (.cons 1 (.one (.int .i64 a0l)) .nil)))) true),(.cells z1 (.rT [.str,.str,.bool,.bool] a0s) true)] => some ((decide (a0n = a0s.length ∧ a0n < 8000)),(.ptr 2 0 3 0 0 0 3),[(.cells 3 (.segs (.cons 1 (.one (.own 1 (Dk.R.mk a0s a0o a0l).s.length 4)) (.cons 1 (.one (.bool (Dk.R.mk a0s a0o a0l).off)) (.cons 1 (.one (.int .i64 (Dk.R.mk a0s a0o a0l).left)) .nil)))) true),(.cells ((Dk.R.mk a0s a0o a0l).s.length * 4) (.rT [.str,.str,.bool,.bool] (Dk.R.mk a0s a0o a0l).s) true),(.cells 3 (.segs (.cons 1 (.one (.own 3 (Dk.R.mk a0s a0o a0l).s.length 4)) (.cons 1 (.one (.bool (Dk.R.mk a0s a0o a0l).off)) (.cons 1 (.one (.int .i64 (Dk.R.mk a0s a0o a0l).left)) .nil)))) true),(.cells ((Dk.R.mk a0s a0o a0l).s.length * 4) (.rT [.str,.str,.bool,.bool] (Dk.R.mk a0s a0o a0l).s) true)])
  | _,_ => none
theorem s29 (a0n : Nat) (a0s : List (List (List Int))) (a0o : Bool) (a0l : Int) (hp : ((decide (a0n = a0s.length ∧ a0n < 8000))) = true) (k0 : okB (.cells 3 (.segs (.cons 1 (.one (.own 1 a0n 4)) (.cons 1 (.one (.bool a0o)) (.cons 1 (.one (.int .i64 a0l)) .nil)))) true)) (k1 : okB (.cells (a0n * 4) (.rT [.str,.str,.bool,.bool] a0s) true)) : ∃ F,f29 F (a0n,a0s,a0o,a0l) = some ((.ptr 2 0 3 0 0 0 3),[(.cells 3 (.segs (.cons 1 (.one (.own 1 (Dk.R.mk a0s a0o a0l).s.length 4)) (.cons 1 (.one (.bool (Dk.R.mk a0s a0o a0l).off)) (.cons 1 (.one (.int .i64 (Dk.R.mk a0s a0o a0l).left)) .nil)))) true),(.cells ((Dk.R.mk a0s a0o a0l).s.length * 4) (.rT [.str,.str,.bool,.bool] (Dk.R.mk a0s a0o a0l).s) true),(.cells 3 (.segs (.cons 1 (.one (.own 3 (Dk.R.mk a0s a0o a0l).s.length 4)) (.cons 1 (.one (.bool (Dk.R.mk a0s a0o a0l).off)) (.cons 1 (.one (.int .i64 (Dk.R.mk a0s a0o a0l).left)) .nil)))) true),(.cells ((Dk.R.mk a0s a0o a0l).s.length * 4) (.rT [.str,.str,.bool,.bool] (Dk.R.mk a0s a0o a0l).s) true)]) := by
  rw [decide_eq_true_iff] at hp
  refine ⟨0,?_⟩
  simp only [f29,f29_1,Nat.zero_add,List.nil_append]
  rw [cond_pos (by omega),← hp.1]

theorem c29 : CallOk Try.prog G35 29 r29 := callOk_of (V := VG3529) mixed tys eVG3529 (f := 29) (fn := Try.f29) Try.func29 (by kernel_rfl) (c := sub (bodyOf Try.f29) []) (by kernel_rfl) (by
  intro X H r H' h hX hH
  unfold r29 at h; split at h <;> try contradiction
  · simp only [Option.some.injEq,Prod.mk.injEq] at h
    obtain ⟨hp,rfl,rfl⟩ := h
    obtain rfl := okB_size (hH _ (.tail _ (.head _))) rfl
    obtain rfl := (of_decide_eq_true hp).1
    obtain ⟨F,hF⟩ := s29 _ _ _ _ hp (hH _ (.head _)) (hH _ (.tail _ (.head _)))
    exact ⟨Af29 F,(f29_body F _ _ _ _).trans hF⟩)
end Go.Am
