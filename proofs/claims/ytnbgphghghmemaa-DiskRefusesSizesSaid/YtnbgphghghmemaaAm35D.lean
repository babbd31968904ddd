/- Part of a proof about the functions of the given program. -/
import Derived.Test.YtnbgphghghmemaaAm35C
import Derived.Test.YtnbgphghghmemaaAm35Y
set_option linter.unusedVariables false
set_option linter.unusedSimpArgs false
namespace Go.Am
open Go Go.Proofs
abbrev sp4 : List (Nat × Md) := [(0,.plain),(3,.own 9),(4,.plain)]
abbrev sp5 : List (Nat × Md) := [(0,.plain),(3,.own 2),(4,.plain)]
abbrev sp6 : List (Nat × Md) := [(0,.plain),(4,.plain),(5,.plain)]
abbrev sp7 : List (Nat × Md) := [(0,.plain),(1,.plain),(5,.plain)]
abbrev Ty19 := Nat × Bool × Int × (List (List (List Int)))
abbrev Ty20 := Int × Nat × Bool × Int × (List (List (List Int)))
abbrev Ty21 := Int × Nat × Bool × Int × (List (List (List Int))) × (List (List Int))
abbrev Ty22 := Nat × Bool × Int × (List (List (List Int))) × (List (List Int))
abbrev Ty23 := Int × Nat × Bool × Int × (List (List (List Int))) × (List Int)
abbrev Ty24 := Nat × Bool × Int × (List (List (List Int))) × (List Int)
abbrev Ty25 := Int × Int × Nat × Bool × Int × (List (List (List Int)))
abbrev Ty26 := (List (List Int)) × (List (List Int))
abbrev Ty27 := (List (List Int)) × (List (List Int)) × Int
abbrev Ty28 := (List Int) × (List Int) × Int

def lVG3540 : List CEnt := []
def VG3540 : Env := mkEnv T35 G35 lVG3540
theorem eVG3540 : EOk Try.prog VG3540 := eok_mk (by exact trivial)
def Af40 (F : Nat) : Cuts := { F := F,at_ := fun n => match n with | 3010 => some sp4 | _ => none,join := fun n => match n with | 1020 => some [(0,.plain)] | 2018 => some [(0,.plain),(3,.plain)] | 3012 => some sp3 | 6003 => some [(3,.plain)] | _ => none,fin := (some [(2,(.view 9))]) }
def ef40_a : Ty14 → St := fun (a0n,a0s,a0o,a0l) => { tmps := [(0,(.ptr 0 0 3 0 0 0 3))],heap := [(0,(.cells 3 (.segs (.cons 1 (.one (.own 1 a0n 4)) (.cons 1 (.one (.bool a0o)) (.cons 1 (.one (.int .i64 a0l)) .nil)))) true)),(1,(.cells (a0n * 4) (.rT [.str,.str,.bool,.bool] a0s) true))],next := 2,nt := 26,m := 2 }
def ef40j1 : Ty19 → St := fun (x1,x2,x3,x4) => { tmps := [(0,(.ptr 0 0 3 0 0 0 3))],heap := [(0,(.cells 3 (.segs (.cons 1 (.one (.own 1 x1 4)) (.cons 1 (.one (.bool x2)) (.cons 1 (.one (.int .i64 x3)) .nil)))) true)),(1,(.cells (x1 * 4) (.rT [.str,.str,.bool,.bool] x4) true))],next := 2,nt := 26,m := 2 }
def ef40j2 : Ty19 → St := fun (x1,x2,x3,x4) => { tmps := [(0,(.ptr 0 0 3 0 0 0 3)),(3,.ns)],heap := [(0,(.cells 3 (.segs (.cons 1 (.one (.own 1 x1 4)) (.cons 1 (.one (.bool x2)) (.cons 1 (.one (.int .i64 x3)) .nil)))) true)),(1,(.cells (x1 * 4) (.rT [.str,.str,.bool,.bool] x4) true))],next := 2,nt := 26,m := 2 }
def ef40j3 : Ty20 → St := fun (t4,x2,x3,x4,x5) => { tmps := [(0,(.ptr 0 0 3 0 0 0 3)),(3,.ns),(4,(.int .i64 t4))],heap := [(0,(.cells 3 (.segs (.cons 1 (.one (.own 1 x2 4)) (.cons 1 (.one (.bool x3)) (.cons 1 (.one (.int .i64 x4)) .nil)))) true)),(1,(.cells (x2 * 4) (.rT [.str,.str,.bool,.bool] x5) true))],next := 2,nt := 26,m := 2 }
def ef40l1 : Ty21 → St := fun (t4,x2,x3,x4,x5,x6) => { tmps := [(0,(.ptr 0 0 3 0 0 0 3)),(3,(.own 2 0 1)),(4,(.int .i64 t4))],heap := [(0,(.cells 3 (.segs (.cons 1 (.one (.own 1 x2 4)) (.cons 1 (.one (.bool x3)) (.cons 1 (.one (.int .i64 x4)) .nil)))) true)),(1,(.cells (x2 * 4) (.rT [.str,.str,.bool,.bool] x5) true)),(2,(.cells x6.length (.rS x6) true))],next := 3,nt := 26,m := 2 }
def ef40j4 : Ty22 → St := fun (x1,x2,x3,x4,x5) => { tmps := [(3,(.own 2 0 1))],heap := [(0,(.cells 3 (.segs (.cons 1 (.one (.own 1 x1 4)) (.cons 1 (.one (.bool x2)) (.cons 1 (.one (.int .i64 x3)) .nil)))) true)),(1,(.cells (x1 * 4) (.rT [.str,.str,.bool,.bool] x4) true)),(2,(.cells x5.length (.rS x5) true))],next := 3,nt := 26,m := 2 }
def f40_1 (F : Nat) (kf40j1 : Ty19 → Rz) : Ty14 → Rz := fun (a0n,a0s,a0o,a0l) => (kf40j1 (a0n,a0o,a0l,a0s))
theorem f40_1_eq (F : Nat) (Rf40j1 : St → Rz) : ∀ v,aexec VG3540 (Af40 F) (bp Try.f40 2) (ef40_a v) (kSeq (kc VG3540 Rf40j1 [(0,.plain)]) (kFin VG3540 (some [(2,(.view 9))]) (Try.f40).results.toList)) = f40_1 F (Rf40j1 ∘ ef40j1) v := by
  rintro ⟨a0n,a0s,a0o,a0l⟩; kernel_rfl
def f40_2 (F : Nat) (kf40j2 : Ty19 → Rz) : Ty19 → Rz := fun (x1,x2,x3,x4) => (kf40j2 (x1,x2,x3,x4))
theorem f40_2_eq (F : Nat) (Rf40j2 : St → Rz) : ∀ v,aexec VG3540 (Af40 F) (bp Try.f40 6) (ef40j1 v) (kSeq (kc VG3540 Rf40j2 [(0,.plain),(3,.plain)]) (kFin VG3540 (some [(2,(.view 9))]) (Try.f40).results.toList)) = f40_2 F (Rf40j2 ∘ ef40j2) v := by
  rintro ⟨x1,x2,x3,x4⟩; kernel_rfl
def f40_3 (F : Nat) (kf40j3 : Ty20 → Rz) (kf40j4 : Ty22 → Rz) : Ty19 → Rz := fun (x1,x2,x3,x4) => (kf40j3 ((0 : Int),x1,x2,x3,x4))
theorem f40_3_eq (F : Nat) (Rf40j3 : St → Rz) (Rf40j4 : St → Rz) : ∀ v,aexec VG3540 (Af40 F) (bp Try.f40 28) (ef40j2 v) (kSeq (kc VG3540 Rf40j3 sp3) (kSeq (kc VG3540 Rf40j4 [(3,.plain)]) (kFin VG3540 (some [(2,(.view 9))]) (Try.f40).results.toList))) = f40_3 F (Rf40j3 ∘ ef40j3) (Rf40j4 ∘ ef40j4) v := by
  rintro ⟨x1,x2,x3,x4⟩; kernel_rfl
def f40_4 (F : Nat) (kf40l1 : Ty21 → Rz) (kf40j4 : Ty22 → Rz) : Ty21 → Rz := fun (t4,x2,x3,x4,x5,x6) => (cond (decide (t4 < (↑x2 : Int))) (cond ((decide (0 ≤ t4)) && (decide (t4 < (↑x2 : Int)))) (cond (decide ((x6.length + 1) < 1073741824)) (kf40l1 ((IntKind.i64.wrap (t4 + (1 : Int))),x2,x3,x4,x5,(x6 ++ [((x5.getD (Int.toNat t4) []).getD 0 [])]))) none) none) (kf40j4 (x2,x3,x4,x5,x6)))
theorem f40_4_eq (F : Nat) (Rf40l1 : St → Rz) (Rf40j4 : St → Rz) : ∀ v,aexec VG3540 (Af40 F) (bp Try.f40 116) (ef40l1 v) (kSeq (kc VG3540 Rf40l1 sp4) (kBlock 0 (kSeq (kc VG3540 Rf40j4 [(3,.plain)]) (kFin VG3540 (some [(2,(.view 9))]) (Try.f40).results.toList)))) = f40_4 F (Rf40l1 ∘ ef40l1) (Rf40j4 ∘ ef40j4) v := by
  rintro ⟨t4,x2,x3,x4,x5,x6⟩; kernel_rfl
def f40_5_i : Ty20 → Int × Nat × Bool × Int × (List (List (List Int))) × (List (List Int)) := fun (t4,x2,x3,x4,x5) => (t4,x2,x3,x4,x5,[])
def f40_5 (F : Nat) (kf40j4 : Ty22 → Rz) : Ty20 → Rz := fun v => loopN (fun k => f40_4 F k kf40j4) F (f40_5_i v)
theorem f40_5_eq (F : Nat) (Rf40j4 : St → Rz) : ∀ v,aexec VG3540 (Af40 F) (bp Try.f40 58) (ef40j3 v) (kBlock 0 (kSeq (kc VG3540 Rf40j4 [(3,.plain)]) (kFin VG3540 (some [(2,(.view 9))]) (Try.f40).results.toList))) = f40_5 F (Rf40j4 ∘ ef40j4) v :=
  loop_cut (by kernel_rfl) (by kernel_rfl) ef40j3 ef40l1 _ f40_5_i (fun k => f40_4 F k (Rf40j4 ∘ ef40j4))
    (by rintro ⟨t4,x2,x3,x4,x5⟩; kernel_rfl) (fun Rf40l1 => f40_4_eq F Rf40l1 Rf40j4)
def f40_6 (F : Nat) (kf40j4 : Ty22 → Rz) : Ty20 → Rz := f40_5 F kf40j4
theorem f40_6_eq (F : Nat) (Rf40j4 : St → Rz) : ∀ v,aexec VG3540 (Af40 F) (bp Try.f40 29) (ef40j3 v) (kSeq (kc VG3540 Rf40j4 [(3,.plain)]) (kFin VG3540 (some [(2,(.view 9))]) (Try.f40).results.toList)) = f40_6 F (Rf40j4 ∘ ef40j4) v := fun v =>
  (block_in  (by kernel_rfl) _ _).trans (f40_5_eq F Rf40j4 v)
def f40_7 (F : Nat) (kf40j4 : Ty22 → Rz) : Ty19 → Rz := fun v => f40_3 F (f40_6 F kf40j4) kf40j4 v
theorem f40_7_eq (F : Nat) (Rf40j4 : St → Rz) : ∀ v,aexec VG3540 (Af40 F) (bp Try.f40 14) (ef40j2 v) (kSeq (kc VG3540 Rf40j4 [(3,.plain)]) (kFin VG3540 (some [(2,(.view 9))]) (Try.f40).results.toList)) = f40_7 F (Rf40j4 ∘ ef40j4) v :=
  seq_cut (by kernel_rfl) (by kernel_rfl) ef40j2 ef40j3 _ (fun k => f40_3 F k (Rf40j4 ∘ ef40j4)) (f40_6 F (Rf40j4 ∘ ef40j4))
    (fun Rf40j3 => f40_3_eq F Rf40j3 Rf40j4) (f40_6_eq F Rf40j4)
def f40_8 (F : Nat) : Ty22 → Rz := fun (x1,x2,x3,x4,x5) => (some ((.vs (.rS x5) 0 1),[(.cells 3 (.segs (.cons 1 (.one (.own 1 x1 4)) (.cons 1 (.one (.bool x2)) (.cons 1 (.one (.int .i64 x3)) .nil)))) true),(.cells (x1 * 4) (.rT [.str,.str,.bool,.bool] x4) true)]))
theorem f40_8_eq (F : Nat) : ∀ v,aexec VG3540 (Af40 F) (bp Try.f40 15) (ef40j4 v) (kFin VG3540 (some [(2,(.view 9))]) (Try.f40).results.toList) = f40_8 F v := by
  rintro ⟨x1,x2,x3,x4,x5⟩; kernel_rfl
def f40_9 (F : Nat) : Ty19 → Rz := fun v => f40_7 F (f40_8 F) v
theorem f40_9_eq (F : Nat) : ∀ v,aexec VG3540 (Af40 F) (bp Try.f40 7) (ef40j2 v) (kFin VG3540 (some [(2,(.view 9))]) (Try.f40).results.toList) = f40_9 F v :=
  seq_cut (by kernel_rfl) (by kernel_rfl) ef40j2 ef40j4 _ (fun k => f40_7 F k) (f40_8 F)
    (fun Rf40j4 => f40_7_eq F Rf40j4) (f40_8_eq F)
def f40_10 (F : Nat) : Ty19 → Rz := fun v => f40_2 F (f40_9 F) v
theorem f40_10_eq (F : Nat) : ∀ v,aexec VG3540 (Af40 F) (bp Try.f40 3) (ef40j1 v) (kFin VG3540 (some [(2,(.view 9))]) (Try.f40).results.toList) = f40_10 F v :=
  seq_cut (by kernel_rfl) (by kernel_rfl) ef40j1 ef40j2 _ (fun k => f40_2 F k) (f40_9 F)
    (fun Rf40j2 => f40_2_eq F Rf40j2) (f40_9_eq F)
def f40_11 (F : Nat) : Ty14 → Rz := fun v => f40_1 F (f40_10 F) v
theorem f40_11_eq (F : Nat) : ∀ v,aexec VG3540 (Af40 F) (sub (bodyOf Try.f40) []) (ef40_a v) (kFin VG3540 (some [(2,(.view 9))]) (Try.f40).results.toList) = f40_11 F v :=
  seq_cut (by kernel_rfl) (by kernel_rfl) ef40_a ef40j1 _ (fun k => f40_1 F k) (f40_10 F)
    (fun Rf40j1 => f40_1_eq F Rf40j1) (f40_10_eq F)
def f40 (F : Nat) : Ty14 → Rz := f40_11 F
theorem f40_body (F : Nat) (a0n : Nat) (a0s : List (List (List Int))) (a0o : Bool) (a0l : Int) : abody VG3540 (Af40 F) Try.f40 [(.ptr 0 0 3 0 0 0 3)] [(.cells 3 (.segs (.cons 1 (.one (.own 1 a0n 4)) (.cons 1 (.one (.bool a0o)) (.cons 1 (.one (.int .i64 a0l)) .nil)))) true),(.cells (a0n * 4) (.rT [.str,.str,.bool,.bool] a0s) true)] = f40 F (a0n,a0s,a0o,a0l) :=
  (abody_in (c := (sub (bodyOf Try.f40) [])) (by kernel_rfl) (s := ef40_a (a0n,a0s,a0o,a0l)) (by kernel_rfl)).trans (f40_11_eq F (a0n,a0s,a0o,a0l))
def r40 : CRun := fun X H => match X,H with
  | [(.ptr 0 0 3 0 0 0 3)],[(.cells 3 (.segs (.cons 1 (.one (.own 1 a0n 4)) (.cons 1 (.one (.bool a0o)) (.cons 1 (.one (.int .i64 a0l)) .nil)))) true),(.cells z1 (.rT [.str,.str,.bool,.bool] a0s) true)] => some ((decide (a0n = a0s.length ∧ a0n < 8000)),(.vs (.rS (Dk.rimage (Dk.R.mk a0s a0o a0l))) 0 1),[(.cells 3 (.segs (.cons 1 (.one (.own 1 (Dk.R.mk a0s a0o a0l).s.length 4)) (.cons 1 (.one (.bool (Dk.R.mk a0s a0o a0l).off)) (.cons 1 (.one (.int .i64 (Dk.R.mk a0s a0o a0l).left)) .nil)))) true),(.cells ((Dk.R.mk a0s a0o a0l).s.length * 4) (.rT [.str,.str,.bool,.bool] (Dk.R.mk a0s a0o a0l).s) true)])
  | _,_ => none
theorem s40 (a0n : Nat) (a0s : List (List (List Int))) (a0o : Bool) (a0l : Int) (hp : ((decide (a0n = a0s.length ∧ a0n < 8000))) = true) (k0 : okB (.cells 3 (.segs (.cons 1 (.one (.own 1 a0n 4)) (.cons 1 (.one (.bool a0o)) (.cons 1 (.one (.int .i64 a0l)) .nil)))) true)) (k1 : okB (.cells (a0n * 4) (.rT [.str,.str,.bool,.bool] a0s) true)) : ∃ F,f40 F (a0n,a0s,a0o,a0l) = some ((.vs (.rS (Dk.rimage (Dk.R.mk a0s a0o a0l))) 0 1),[(.cells 3 (.segs (.cons 1 (.one (.own 1 (Dk.R.mk a0s a0o a0l).s.length 4)) (.cons 1 (.one (.bool (Dk.R.mk a0s a0o a0l).off)) (.cons 1 (.one (.int .i64 (Dk.R.mk a0s a0o a0l).left)) .nil)))) true),(.cells ((Dk.R.mk a0s a0o a0l).s.length * 4) (.rT [.str,.str,.bool,.bool] (Dk.R.mk a0s a0o a0l).s) true)]) := by
  rw [decide_eq_true_iff] at hp
  obtain ⟨hn,hlt⟩ := hp
  refine ⟨a0n + 1,?_⟩
  simp only [f40,f40_11,f40_1,f40_10,f40_2,f40_9,f40_7,f40_8,f40_3,f40_6,f40_5,f40_5_i]
  refine loopN_from (fun k => ((k : Int),a0n,a0o,a0l,a0s,(a0s.take k).map Dk.fT)) a0n (by rfl) (fun k hk K => ?_) (fun K => ?_) (a0n + 1) (by omega)
  · have e1 : (decide (0 ≤ (k : Int)) && decide ((k : Int) < (a0n : Int))) = true := by rw [dec_and,decide_eq_true_iff]; omega
    simp only [f40_4,e1,cond_true,i64w (show -9223372036854775808 ≤ (k : Int) + 1 by omega) (by omega),Int.toNat_natCast]
    rw [cond_pos (show (k : Int) < (a0n : Int) by omega),Dk.take_succ_map Dk.fT a0s k [] (by omega),cond_pos (by simp; omega)]
    rfl
  · simp only [f40_4]
    rw [cond_neg (by omega)]
    subst hn
    rw [List.take_length]
    rfl

theorem c40 : CallOk Try.prog G35 40 r40 := callOk_of (V := VG3540) mixed tys eVG3540 (f := 40) (fn := Try.f40) Try.func40 (by kernel_rfl) (c := sub (bodyOf Try.f40) []) (by kernel_rfl) (by
  intro X H r H' h hX hH
  unfold r40 at h; split at h <;> try contradiction
  · simp only [Option.some.injEq,Prod.mk.injEq] at h
    obtain ⟨hp,rfl,rfl⟩ := h
    obtain rfl := okB_size (hH _ (.tail _ (.head _))) rfl
    obtain rfl := (of_decide_eq_true hp).1
    obtain ⟨F,hF⟩ := s40 _ _ _ _ hp (hH _ (.head _)) (hH _ (.tail _ (.head _)))
    exact ⟨Af40 F,(f40_body F _ _ _ _).trans hF⟩)
def lVG3542 : List CEnt := []
def VG3542 : Env := mkEnv T35 G35 lVG3542
theorem eVG3542 : EOk Try.prog VG3542 := eok_mk (by exact trivial)
def Af42 (F : Nat) : Cuts := { F := F,at_ := fun n => match n with | 3014 => some sp5 | _ => none,join := fun n => match n with | 1024 => some [(0,.plain)] | 2022 => some [(0,.plain),(3,.plain)] | 3016 => some sp3 | 7003 => some [(3,.plain)] | _ => none,fin := (some [(2,(.view 3))]) }
def ef42_a : Ty14 → St := fun (a0n,a0s,a0o,a0l) => { tmps := [(0,(.ptr 0 0 3 0 0 0 3))],heap := [(0,(.cells 3 (.segs (.cons 1 (.one (.own 1 a0n 4)) (.cons 1 (.one (.bool a0o)) (.cons 1 (.one (.int .i64 a0l)) .nil)))) true)),(1,(.cells (a0n * 4) (.rT [.str,.str,.bool,.bool] a0s) true))],next := 2,nt := 27,m := 2 }
def ef42j1 : Ty19 → St := fun (x1,x2,x3,x4) => { tmps := [(0,(.ptr 0 0 3 0 0 0 3))],heap := [(0,(.cells 3 (.segs (.cons 1 (.one (.own 1 x1 4)) (.cons 1 (.one (.bool x2)) (.cons 1 (.one (.int .i64 x3)) .nil)))) true)),(1,(.cells (x1 * 4) (.rT [.str,.str,.bool,.bool] x4) true))],next := 2,nt := 27,m := 2 }
def ef42j2 : Ty19 → St := fun (x1,x2,x3,x4) => { tmps := [(0,(.ptr 0 0 3 0 0 0 3)),(3,.ns)],heap := [(0,(.cells 3 (.segs (.cons 1 (.one (.own 1 x1 4)) (.cons 1 (.one (.bool x2)) (.cons 1 (.one (.int .i64 x3)) .nil)))) true)),(1,(.cells (x1 * 4) (.rT [.str,.str,.bool,.bool] x4) true))],next := 2,nt := 27,m := 2 }
def ef42j3 : Ty20 → St := fun (t4,x2,x3,x4,x5) => { tmps := [(0,(.ptr 0 0 3 0 0 0 3)),(3,.ns),(4,(.int .i64 t4))],heap := [(0,(.cells 3 (.segs (.cons 1 (.one (.own 1 x2 4)) (.cons 1 (.one (.bool x3)) (.cons 1 (.one (.int .i64 x4)) .nil)))) true)),(1,(.cells (x2 * 4) (.rT [.str,.str,.bool,.bool] x5) true))],next := 2,nt := 27,m := 2 }
def ef42l1 : Ty23 → St := fun (t4,x2,x3,x4,x5,x6) => { tmps := [(0,(.ptr 0 0 3 0 0 0 3)),(3,(.own 2 0 1)),(4,(.int .i64 t4))],heap := [(0,(.cells 3 (.segs (.cons 1 (.one (.own 1 x2 4)) (.cons 1 (.one (.bool x3)) (.cons 1 (.one (.int .i64 x4)) .nil)))) true)),(1,(.cells (x2 * 4) (.rT [.str,.str,.bool,.bool] x5) true)),(2,(.cells x6.length (.rI .i64 x6) true))],next := 3,nt := 27,m := 2 }
def ef42j4 : Ty24 → St := fun (x1,x2,x3,x4,x5) => { tmps := [(3,(.own 2 0 1))],heap := [(0,(.cells 3 (.segs (.cons 1 (.one (.own 1 x1 4)) (.cons 1 (.one (.bool x2)) (.cons 1 (.one (.int .i64 x3)) .nil)))) true)),(1,(.cells (x1 * 4) (.rT [.str,.str,.bool,.bool] x4) true)),(2,(.cells x5.length (.rI .i64 x5) true))],next := 3,nt := 27,m := 2 }
def f42_1 (F : Nat) (kf42j1 : Ty19 → Rz) : Ty14 → Rz := fun (a0n,a0s,a0o,a0l) => (kf42j1 (a0n,a0o,a0l,a0s))
theorem f42_1_eq (F : Nat) (Rf42j1 : St → Rz) : ∀ v,aexec VG3542 (Af42 F) (bp Try.f42 2) (ef42_a v) (kSeq (kc VG3542 Rf42j1 [(0,.plain)]) (kFin VG3542 (some [(2,(.view 3))]) (Try.f42).results.toList)) = f42_1 F (Rf42j1 ∘ ef42j1) v := by
  rintro ⟨a0n,a0s,a0o,a0l⟩; kernel_rfl
def f42_2 (F : Nat) (kf42j2 : Ty19 → Rz) : Ty19 → Rz := fun (x1,x2,x3,x4) => (kf42j2 (x1,x2,x3,x4))
theorem f42_2_eq (F : Nat) (Rf42j2 : St → Rz) : ∀ v,aexec VG3542 (Af42 F) (bp Try.f42 6) (ef42j1 v) (kSeq (kc VG3542 Rf42j2 [(0,.plain),(3,.plain)]) (kFin VG3542 (some [(2,(.view 3))]) (Try.f42).results.toList)) = f42_2 F (Rf42j2 ∘ ef42j2) v := by
  rintro ⟨x1,x2,x3,x4⟩; kernel_rfl
def f42_3 (F : Nat) (kf42j3 : Ty20 → Rz) (kf42j4 : Ty24 → Rz) : Ty19 → Rz := fun (x1,x2,x3,x4) => (kf42j3 ((0 : Int),x1,x2,x3,x4))
theorem f42_3_eq (F : Nat) (Rf42j3 : St → Rz) (Rf42j4 : St → Rz) : ∀ v,aexec VG3542 (Af42 F) (bp Try.f42 28) (ef42j2 v) (kSeq (kc VG3542 Rf42j3 sp3) (kSeq (kc VG3542 Rf42j4 [(3,.plain)]) (kFin VG3542 (some [(2,(.view 3))]) (Try.f42).results.toList))) = f42_3 F (Rf42j3 ∘ ef42j3) (Rf42j4 ∘ ef42j4) v := by
  rintro ⟨x1,x2,x3,x4⟩; kernel_rfl
def f42_4 (F : Nat) (kf42l1 : Ty23 → Rz) (kf42j4 : Ty24 → Rz) : Ty23 → Rz := fun (t4,x2,x3,x4,x5,x6) => (cond (decide (t4 < (↑x2 : Int))) (cond ((decide (0 ≤ t4)) && (decide (t4 < (↑x2 : Int)))) (cond ((((x5.getD (Int.toNat t4) []).getD 2 []).getD 0 0) == 1) (cond (decide ((x6.length + 1) < 1073741824)) (kf42l1 ((IntKind.i64.wrap (t4 + (1 : Int))),x2,x3,x4,x5,(x6 ++ [t4]))) none) (kf42l1 ((IntKind.i64.wrap (t4 + (1 : Int))),x2,x3,x4,x5,x6))) none) (kf42j4 (x2,x3,x4,x5,x6)))
theorem f42_4_eq (F : Nat) (Rf42l1 : St → Rz) (Rf42j4 : St → Rz) : ∀ v,aexec VG3542 (Af42 F) (bp Try.f42 116) (ef42l1 v) (kSeq (kc VG3542 Rf42l1 sp5) (kBlock 0 (kSeq (kc VG3542 Rf42j4 [(3,.plain)]) (kFin VG3542 (some [(2,(.view 3))]) (Try.f42).results.toList)))) = f42_4 F (Rf42l1 ∘ ef42l1) (Rf42j4 ∘ ef42j4) v := by
  rintro ⟨t4,x2,x3,x4,x5,x6⟩; kernel_rfl
def f42_5_i : Ty20 → Int × Nat × Bool × Int × (List (List (List Int))) × (List Int) := fun (t4,x2,x3,x4,x5) => (t4,x2,x3,x4,x5,[])
def f42_5 (F : Nat) (kf42j4 : Ty24 → Rz) : Ty20 → Rz := fun v => loopN (fun k => f42_4 F k kf42j4) F (f42_5_i v)
theorem f42_5_eq (F : Nat) (Rf42j4 : St → Rz) : ∀ v,aexec VG3542 (Af42 F) (bp Try.f42 58) (ef42j3 v) (kBlock 0 (kSeq (kc VG3542 Rf42j4 [(3,.plain)]) (kFin VG3542 (some [(2,(.view 3))]) (Try.f42).results.toList))) = f42_5 F (Rf42j4 ∘ ef42j4) v :=
  loop_cut (by kernel_rfl) (by kernel_rfl) ef42j3 ef42l1 _ f42_5_i (fun k => f42_4 F k (Rf42j4 ∘ ef42j4))
    (by rintro ⟨t4,x2,x3,x4,x5⟩; kernel_rfl) (fun Rf42l1 => f42_4_eq F Rf42l1 Rf42j4)
def f42_6 (F : Nat) (kf42j4 : Ty24 → Rz) : Ty20 → Rz := f42_5 F kf42j4
theorem f42_6_eq (F : Nat) (Rf42j4 : St → Rz) : ∀ v,aexec VG3542 (Af42 F) (bp Try.f42 29) (ef42j3 v) (kSeq (kc VG3542 Rf42j4 [(3,.plain)]) (kFin VG3542 (some [(2,(.view 3))]) (Try.f42).results.toList)) = f42_6 F (Rf42j4 ∘ ef42j4) v := fun v =>
  (block_in  (by kernel_rfl) _ _).trans (f42_5_eq F Rf42j4 v)
def f42_7 (F : Nat) (kf42j4 : Ty24 → Rz) : Ty19 → Rz := fun v => f42_3 F (f42_6 F kf42j4) kf42j4 v
theorem f42_7_eq (F : Nat) (Rf42j4 : St → Rz) : ∀ v,aexec VG3542 (Af42 F) (bp Try.f42 14) (ef42j2 v) (kSeq (kc VG3542 Rf42j4 [(3,.plain)]) (kFin VG3542 (some [(2,(.view 3))]) (Try.f42).results.toList)) = f42_7 F (Rf42j4 ∘ ef42j4) v :=
  seq_cut (by kernel_rfl) (by kernel_rfl) ef42j2 ef42j3 _ (fun k => f42_3 F k (Rf42j4 ∘ ef42j4)) (f42_6 F (Rf42j4 ∘ ef42j4))
    (fun Rf42j3 => f42_3_eq F Rf42j3 Rf42j4) (f42_6_eq F Rf42j4)
def f42_8 (F : Nat) : Ty24 → Rz := fun (x1,x2,x3,x4,x5) => (some ((.vs (.rI .i64 x5) 0 1),[(.cells 3 (.segs (.cons 1 (.one (.own 1 x1 4)) (.cons 1 (.one (.bool x2)) (.cons 1 (.one (.int .i64 x3)) .nil)))) true),(.cells (x1 * 4) (.rT [.str,.str,.bool,.bool] x4) true)]))
theorem f42_8_eq (F : Nat) : ∀ v,aexec VG3542 (Af42 F) (bp Try.f42 15) (ef42j4 v) (kFin VG3542 (some [(2,(.view 3))]) (Try.f42).results.toList) = f42_8 F v := by
  rintro ⟨x1,x2,x3,x4,x5⟩; kernel_rfl
def f42_9 (F : Nat) : Ty19 → Rz := fun v => f42_7 F (f42_8 F) v
theorem f42_9_eq (F : Nat) : ∀ v,aexec VG3542 (Af42 F) (bp Try.f42 7) (ef42j2 v) (kFin VG3542 (some [(2,(.view 3))]) (Try.f42).results.toList) = f42_9 F v :=
  seq_cut (by kernel_rfl) (by kernel_rfl) ef42j2 ef42j4 _ (fun k => f42_7 F k) (f42_8 F)
    (fun Rf42j4 => f42_7_eq F Rf42j4) (f42_8_eq F)
def f42_10 (F : Nat) : Ty19 → Rz := fun v => f42_2 F (f42_9 F) v
theorem f42_10_eq (F : Nat) : ∀ v,aexec VG3542 (Af42 F) (bp Try.f42 3) (ef42j1 v) (kFin VG3542 (some [(2,(.view 3))]) (Try.f42).results.toList) = f42_10 F v :=
  seq_cut (by kernel_rfl) (by kernel_rfl) ef42j1 ef42j2 _ (fun k => f42_2 F k) (f42_9 F)
    (fun Rf42j2 => f42_2_eq F Rf42j2) (f42_9_eq F)
def f42_11 (F : Nat) : Ty14 → Rz := fun v => f42_1 F (f42_10 F) v
theorem f42_11_eq (F : Nat) : ∀ v,aexec VG3542 (Af42 F) (sub (bodyOf Try.f42) []) (ef42_a v) (kFin VG3542 (some [(2,(.view 3))]) (Try.f42).results.toList) = f42_11 F v :=
  seq_cut (by kernel_rfl) (by kernel_rfl) ef42_a ef42j1 _ (fun k => f42_1 F k) (f42_10 F)
    (fun Rf42j1 => f42_1_eq F Rf42j1) (f42_10_eq F)
def f42 (F : Nat) : Ty14 → Rz := f42_11 F
theorem f42_body (F : Nat) (a0n : Nat) (a0s : List (List (List Int))) (a0o : Bool) (a0l : Int) : abody VG3542 (Af42 F) Try.f42 [(.ptr 0 0 3 0 0 0 3)] [(.cells 3 (.segs (.cons 1 (.one (.own 1 a0n 4)) (.cons 1 (.one (.bool a0o)) (.cons 1 (.one (.int .i64 a0l)) .nil)))) true),(.cells (a0n * 4) (.rT [.str,.str,.bool,.bool] a0s) true)] = f42 F (a0n,a0s,a0o,a0l) :=
  (abody_in (c := (sub (bodyOf Try.f42) [])) (by kernel_rfl) (s := ef42_a (a0n,a0s,a0o,a0l)) (by kernel_rfl)).trans (f42_11_eq F (a0n,a0s,a0o,a0l))
def r42 : CRun := fun X H => match X,H with
  | [(.ptr 0 0 3 0 0 0 3)],[(.cells 3 (.segs (.cons 1 (.one (.own 1 a0n 4)) (.cons 1 (.one (.bool a0o)) (.cons 1 (.one (.int .i64 a0l)) .nil)))) true),(.cells z1 (.rT [.str,.str,.bool,.bool] a0s) true)] => some ((decide (a0n = a0s.length ∧ a0n < 8000)),(.vs (.rI .i64 (Dk.rpending (Dk.R.mk a0s a0o a0l))) 0 1),[(.cells 3 (.segs (.cons 1 (.one (.own 1 (Dk.R.mk a0s a0o a0l).s.length 4)) (.cons 1 (.one (.bool (Dk.R.mk a0s a0o a0l).off)) (.cons 1 (.one (.int .i64 (Dk.R.mk a0s a0o a0l).left)) .nil)))) true),(.cells ((Dk.R.mk a0s a0o a0l).s.length * 4) (.rT [.str,.str,.bool,.bool] (Dk.R.mk a0s a0o a0l).s) true)])
  | _,_ => none
theorem s42 (a0n : Nat) (a0s : List (List (List Int))) (a0o : Bool) (a0l : Int) (hp : ((decide (a0n = a0s.length ∧ a0n < 8000))) = true) (k0 : okB (.cells 3 (.segs (.cons 1 (.one (.own 1 a0n 4)) (.cons 1 (.one (.bool a0o)) (.cons 1 (.one (.int .i64 a0l)) .nil)))) true)) (k1 : okB (.cells (a0n * 4) (.rT [.str,.str,.bool,.bool] a0s) true)) : ∃ F,f42 F (a0n,a0s,a0o,a0l) = some ((.vs (.rI .i64 (Dk.rpending (Dk.R.mk a0s a0o a0l))) 0 1),[(.cells 3 (.segs (.cons 1 (.one (.own 1 (Dk.R.mk a0s a0o a0l).s.length 4)) (.cons 1 (.one (.bool (Dk.R.mk a0s a0o a0l).off)) (.cons 1 (.one (.int .i64 (Dk.R.mk a0s a0o a0l).left)) .nil)))) true),(.cells ((Dk.R.mk a0s a0o a0l).s.length * 4) (.rT [.str,.str,.bool,.bool] (Dk.R.mk a0s a0o a0l).s) true)]) := by
  rw [decide_eq_true_iff] at hp
  obtain ⟨hn,hlt⟩ := hp
  refine ⟨a0n + 1,?_⟩
  simp only [f42,f42_11,f42_1,f42_10,f42_2,f42_9,f42_7,f42_8,f42_3,f42_6,f42_5,f42_5_i]
  refine loopN_from (fun k => ((k : Int),a0n,a0o,a0l,a0s,Dk.rlist Dk.fD a0s k)) a0n (by rfl) (fun k hk K => ?_) (fun K => ?_) (a0n + 1) (by omega)
  · have e1 : (decide (0 ≤ (k : Int)) && decide ((k : Int) < (a0n : Int))) = true := by rw [dec_and,decide_eq_true_iff]; omega
    have hl := Dk.rlist_len Dk.fD a0s k
    simp only [f42_4,e1,cond_true,i64w (show -9223372036854775808 ≤ (k : Int) + 1 by omega) (by omega),Int.toNat_natCast]
    rw [cond_pos (show (k : Int) < (a0n : Int) by omega),Dk.rlist_succ,cond_pos (show (Dk.rlist Dk.fD a0s k).length + 1 < 1073741824 by omega)]
    simp only [Dk.fD]
    cases h : (((a0s.getD k []).getD 2 []).getD 0 0 == 1) <;> rfl
  · simp only [f42_4]
    rw [cond_neg (by omega)]
    subst hn
    rfl

theorem c42 : CallOk Try.prog G35 42 r42 := callOk_of (V := VG3542) mixed tys eVG3542 (f := 42) (fn := Try.f42) Try.func42 (by kernel_rfl) (c := sub (bodyOf Try.f42) []) (by kernel_rfl) (by
  intro X H r H' h hX hH
  unfold r42 at h; split at h <;> try contradiction
  · simp only [Option.some.injEq,Prod.mk.injEq] at h
    obtain ⟨hp,rfl,rfl⟩ := h
    obtain rfl := okB_size (hH _ (.tail _ (.head _))) rfl
    obtain rfl := (of_decide_eq_true hp).1
    obtain ⟨F,hF⟩ := s42 _ _ _ _ hp (hH _ (.head _)) (hH _ (.tail _ (.head _)))
    exact ⟨Af42 F,(f42_body F _ _ _ _).trans hF⟩)
def lVG3543 : List CEnt := []
def VG3543 : Env := mkEnv T35 G35 lVG3543
theorem eVG3543 : EOk Try.prog VG3543 := eok_mk (by exact trivial)
def Af43 (F : Nat) : Cuts := { F := F,at_ := fun n => match n with | 3014 => some sp5 | _ => none,join := fun n => match n with | 1024 => some [(0,.plain)] | 2022 => some [(0,.plain),(3,.plain)] | 3016 => some sp3 | 7003 => some [(3,.plain)] | _ => none,fin := (some [(2,(.view 3))]) }
def ef43_a : Ty14 → St := fun (a0n,a0s,a0o,a0l) => { tmps := [(0,(.ptr 0 0 3 0 0 0 3))],heap := [(0,(.cells 3 (.segs (.cons 1 (.one (.own 1 a0n 4)) (.cons 1 (.one (.bool a0o)) (.cons 1 (.one (.int .i64 a0l)) .nil)))) true)),(1,(.cells (a0n * 4) (.rT [.str,.str,.bool,.bool] a0s) true))],next := 2,nt := 27,m := 2 }
def ef43j1 : Ty19 → St := fun (x1,x2,x3,x4) => { tmps := [(0,(.ptr 0 0 3 0 0 0 3))],heap := [(0,(.cells 3 (.segs (.cons 1 (.one (.own 1 x1 4)) (.cons 1 (.one (.bool x2)) (.cons 1 (.one (.int .i64 x3)) .nil)))) true)),(1,(.cells (x1 * 4) (.rT [.str,.str,.bool,.bool] x4) true))],next := 2,nt := 27,m := 2 }
def ef43j2 : Ty19 → St := fun (x1,x2,x3,x4) => { tmps := [(0,(.ptr 0 0 3 0 0 0 3)),(3,.ns)],heap := [(0,(.cells 3 (.segs (.cons 1 (.one (.own 1 x1 4)) (.cons 1 (.one (.bool x2)) (.cons 1 (.one (.int .i64 x3)) .nil)))) true)),(1,(.cells (x1 * 4) (.rT [.str,.str,.bool,.bool] x4) true))],next := 2,nt := 27,m := 2 }
def ef43j3 : Ty20 → St := fun (t4,x2,x3,x4,x5) => { tmps := [(0,(.ptr 0 0 3 0 0 0 3)),(3,.ns),(4,(.int .i64 t4))],heap := [(0,(.cells 3 (.segs (.cons 1 (.one (.own 1 x2 4)) (.cons 1 (.one (.bool x3)) (.cons 1 (.one (.int .i64 x4)) .nil)))) true)),(1,(.cells (x2 * 4) (.rT [.str,.str,.bool,.bool] x5) true))],next := 2,nt := 27,m := 2 }
def ef43l1 : Ty23 → St := fun (t4,x2,x3,x4,x5,x6) => { tmps := [(0,(.ptr 0 0 3 0 0 0 3)),(3,(.own 2 0 1)),(4,(.int .i64 t4))],heap := [(0,(.cells 3 (.segs (.cons 1 (.one (.own 1 x2 4)) (.cons 1 (.one (.bool x3)) (.cons 1 (.one (.int .i64 x4)) .nil)))) true)),(1,(.cells (x2 * 4) (.rT [.str,.str,.bool,.bool] x5) true)),(2,(.cells x6.length (.rI .i64 x6) true))],next := 3,nt := 27,m := 2 }
def ef43j4 : Ty24 → St := fun (x1,x2,x3,x4,x5) => { tmps := [(3,(.own 2 0 1))],heap := [(0,(.cells 3 (.segs (.cons 1 (.one (.own 1 x1 4)) (.cons 1 (.one (.bool x2)) (.cons 1 (.one (.int .i64 x3)) .nil)))) true)),(1,(.cells (x1 * 4) (.rT [.str,.str,.bool,.bool] x4) true)),(2,(.cells x5.length (.rI .i64 x5) true))],next := 3,nt := 27,m := 2 }
def f43_1 (F : Nat) (kf43j1 : Ty19 → Rz) : Ty14 → Rz := fun (a0n,a0s,a0o,a0l) => (kf43j1 (a0n,a0o,a0l,a0s))
theorem f43_1_eq (F : Nat) (Rf43j1 : St → Rz) : ∀ v,aexec VG3543 (Af43 F) (bp Try.f43 2) (ef43_a v) (kSeq (kc VG3543 Rf43j1 [(0,.plain)]) (kFin VG3543 (some [(2,(.view 3))]) (Try.f43).results.toList)) = f43_1 F (Rf43j1 ∘ ef43j1) v := by
  rintro ⟨a0n,a0s,a0o,a0l⟩; kernel_rfl
def f43_2 (F : Nat) (kf43j2 : Ty19 → Rz) : Ty19 → Rz := fun (x1,x2,x3,x4) => (kf43j2 (x1,x2,x3,x4))
theorem f43_2_eq (F : Nat) (Rf43j2 : St → Rz) : ∀ v,aexec VG3543 (Af43 F) (bp Try.f43 6) (ef43j1 v) (kSeq (kc VG3543 Rf43j2 [(0,.plain),(3,.plain)]) (kFin VG3543 (some [(2,(.view 3))]) (Try.f43).results.toList)) = f43_2 F (Rf43j2 ∘ ef43j2) v := by
  rintro ⟨x1,x2,x3,x4⟩; kernel_rfl
def f43_3 (F : Nat) (kf43j3 : Ty20 → Rz) (kf43j4 : Ty24 → Rz) : Ty19 → Rz := fun (x1,x2,x3,x4) => (kf43j3 ((0 : Int),x1,x2,x3,x4))
theorem f43_3_eq (F : Nat) (Rf43j3 : St → Rz) (Rf43j4 : St → Rz) : ∀ v,aexec VG3543 (Af43 F) (bp Try.f43 28) (ef43j2 v) (kSeq (kc VG3543 Rf43j3 sp3) (kSeq (kc VG3543 Rf43j4 [(3,.plain)]) (kFin VG3543 (some [(2,(.view 3))]) (Try.f43).results.toList))) = f43_3 F (Rf43j3 ∘ ef43j3) (Rf43j4 ∘ ef43j4) v := by
  rintro ⟨x1,x2,x3,x4⟩; kernel_rfl
def f43_4 (F : Nat) (kf43l1 : Ty23 → Rz) (kf43j4 : Ty24 → Rz) : Ty23 → Rz := fun (t4,x2,x3,x4,x5,x6) => (cond (decide (t4 < (↑x2 : Int))) (cond ((decide (0 ≤ t4)) && (decide (t4 < (↑x2 : Int)))) (cond ((((x5.getD (Int.toNat t4) []).getD 3 []).getD 0 0) == 1) (cond (decide ((x6.length + 1) < 1073741824)) (kf43l1 ((IntKind.i64.wrap (t4 + (1 : Int))),x2,x3,x4,x5,(x6 ++ [t4]))) none) (kf43l1 ((IntKind.i64.wrap (t4 + (1 : Int))),x2,x3,x4,x5,x6))) none) (kf43j4 (x2,x3,x4,x5,x6)))
theorem f43_4_eq (F : Nat) (Rf43l1 : St → Rz) (Rf43j4 : St → Rz) : ∀ v,aexec VG3543 (Af43 F) (bp Try.f43 116) (ef43l1 v) (kSeq (kc VG3543 Rf43l1 sp5) (kBlock 0 (kSeq (kc VG3543 Rf43j4 [(3,.plain)]) (kFin VG3543 (some [(2,(.view 3))]) (Try.f43).results.toList)))) = f43_4 F (Rf43l1 ∘ ef43l1) (Rf43j4 ∘ ef43j4) v := by
  rintro ⟨t4,x2,x3,x4,x5,x6⟩; kernel_rfl
def f43_5_i : Ty20 → Int × Nat × Bool × Int × (List (List (List Int))) × (List Int) := fun (t4,x2,x3,x4,x5) => (t4,x2,x3,x4,x5,[])
def f43_5 (F : Nat) (kf43j4 : Ty24 → Rz) : Ty20 → Rz := fun v => loopN (fun k => f43_4 F k kf43j4) F (f43_5_i v)
theorem f43_5_eq (F : Nat) (Rf43j4 : St → Rz) : ∀ v,aexec VG3543 (Af43 F) (bp Try.f43 58) (ef43j3 v) (kBlock 0 (kSeq (kc VG3543 Rf43j4 [(3,.plain)]) (kFin VG3543 (some [(2,(.view 3))]) (Try.f43).results.toList))) = f43_5 F (Rf43j4 ∘ ef43j4) v :=
  loop_cut (by kernel_rfl) (by kernel_rfl) ef43j3 ef43l1 _ f43_5_i (fun k => f43_4 F k (Rf43j4 ∘ ef43j4))
    (by rintro ⟨t4,x2,x3,x4,x5⟩; kernel_rfl) (fun Rf43l1 => f43_4_eq F Rf43l1 Rf43j4)
def f43_6 (F : Nat) (kf43j4 : Ty24 → Rz) : Ty20 → Rz := f43_5 F kf43j4
theorem f43_6_eq (F : Nat) (Rf43j4 : St → Rz) : ∀ v,aexec VG3543 (Af43 F) (bp Try.f43 29) (ef43j3 v) (kSeq (kc VG3543 Rf43j4 [(3,.plain)]) (kFin VG3543 (some [(2,(.view 3))]) (Try.f43).results.toList)) = f43_6 F (Rf43j4 ∘ ef43j4) v := fun v =>
  (block_in  (by kernel_rfl) _ _).trans (f43_5_eq F Rf43j4 v)
def f43_7 (F : Nat) (kf43j4 : Ty24 → Rz) : Ty19 → Rz := fun v => f43_3 F (f43_6 F kf43j4) kf43j4 v
theorem f43_7_eq (F : Nat) (Rf43j4 : St → Rz) : ∀ v,aexec VG3543 (Af43 F) (bp Try.f43 14) (ef43j2 v) (kSeq (kc VG3543 Rf43j4 [(3,.plain)]) (kFin VG3543 (some [(2,(.view 3))]) (Try.f43).results.toList)) = f43_7 F (Rf43j4 ∘ ef43j4) v :=
  seq_cut (by kernel_rfl) (by kernel_rfl) ef43j2 ef43j3 _ (fun k => f43_3 F k (Rf43j4 ∘ ef43j4)) (f43_6 F (Rf43j4 ∘ ef43j4))
    (fun Rf43j3 => f43_3_eq F Rf43j3 Rf43j4) (f43_6_eq F Rf43j4)
def f43_8 (F : Nat) : Ty24 → Rz := fun (x1,x2,x3,x4,x5) => (some ((.vs (.rI .i64 x5) 0 1),[(.cells 3 (.segs (.cons 1 (.one (.own 1 x1 4)) (.cons 1 (.one (.bool x2)) (.cons 1 (.one (.int .i64 x3)) .nil)))) true),(.cells (x1 * 4) (.rT [.str,.str,.bool,.bool] x4) true)]))
theorem f43_8_eq (F : Nat) : ∀ v,aexec VG3543 (Af43 F) (bp Try.f43 15) (ef43j4 v) (kFin VG3543 (some [(2,(.view 3))]) (Try.f43).results.toList) = f43_8 F v := by
  rintro ⟨x1,x2,x3,x4,x5⟩; kernel_rfl
def f43_9 (F : Nat) : Ty19 → Rz := fun v => f43_7 F (f43_8 F) v
theorem f43_9_eq (F : Nat) : ∀ v,aexec VG3543 (Af43 F) (bp Try.f43 7) (ef43j2 v) (kFin VG3543 (some [(2,(.view 3))]) (Try.f43).results.toList) = f43_9 F v :=
  seq_cut (by kernel_rfl) (by kernel_rfl) ef43j2 ef43j4 _ (fun k => f43_7 F k) (f43_8 F)
    (fun Rf43j4 => f43_7_eq F Rf43j4) (f43_8_eq F)
def f43_10 (F : Nat) : Ty19 → Rz := fun v => f43_2 F (f43_9 F) v
theorem f43_10_eq (F : Nat) : ∀ v,aexec VG3543 (Af43 F) (bp Try.f43 3) (ef43j1 v) (kFin VG3543 (some [(2,(.view 3))]) (Try.f43).results.toList) = f43_10 F v :=
  seq_cut (by kernel_rfl) (by kernel_rfl) ef43j1 ef43j2 _ (fun k => f43_2 F k) (f43_9 F)
    (fun Rf43j2 => f43_2_eq F Rf43j2) (f43_9_eq F)
def f43_11 (F : Nat) : Ty14 → Rz := fun v => f43_1 F (f43_10 F) v
theorem f43_11_eq (F : Nat) : ∀ v,aexec VG3543 (Af43 F) (sub (bodyOf Try.f43) []) (ef43_a v) (kFin VG3543 (some [(2,(.view 3))]) (Try.f43).results.toList) = f43_11 F v :=
  seq_cut (by kernel_rfl) (by kernel_rfl) ef43_a ef43j1 _ (fun k => f43_1 F k) (f43_10 F)
    (fun Rf43j1 => f43_1_eq F Rf43j1) (f43_10_eq F)
def f43 (F : Nat) : Ty14 → Rz := f43_11 F
theorem f43_body (F : Nat) (a0n : Nat) (a0s : List (List (List Int))) (a0o : Bool) (a0l : Int) : abody VG3543 (Af43 F) Try.f43 [(.ptr 0 0 3 0 0 0 3)] [(.cells 3 (.segs (.cons 1 (.one (.own 1 a0n 4)) (.cons 1 (.one (.bool a0o)) (.cons 1 (.one (.int .i64 a0l)) .nil)))) true),(.cells (a0n * 4) (.rT [.str,.str,.bool,.bool] a0s) true)] = f43 F (a0n,a0s,a0o,a0l) :=
  (abody_in (c := (sub (bodyOf Try.f43) [])) (by kernel_rfl) (s := ef43_a (a0n,a0s,a0o,a0l)) (by kernel_rfl)).trans (f43_11_eq F (a0n,a0s,a0o,a0l))
def r43 : CRun := fun X H => match X,H with
  | [(.ptr 0 0 3 0 0 0 3)],[(.cells 3 (.segs (.cons 1 (.one (.own 1 a0n 4)) (.cons 1 (.one (.bool a0o)) (.cons 1 (.one (.int .i64 a0l)) .nil)))) true),(.cells z1 (.rT [.str,.str,.bool,.bool] a0s) true)] => some ((decide (a0n = a0s.length ∧ a0n < 8000)),(.vs (.rI .i64 (Dk.rworn (Dk.R.mk a0s a0o a0l))) 0 1),[(.cells 3 (.segs (.cons 1 (.one (.own 1 (Dk.R.mk a0s a0o a0l).s.length 4)) (.cons 1 (.one (.bool (Dk.R.mk a0s a0o a0l).off)) (.cons 1 (.one (.int .i64 (Dk.R.mk a0s a0o a0l).left)) .nil)))) true),(.cells ((Dk.R.mk a0s a0o a0l).s.length * 4) (.rT [.str,.str,.bool,.bool] (Dk.R.mk a0s a0o a0l).s) true)])
  | _,_ => none
theorem s43 (a0n : Nat) (a0s : List (List (List Int))) (a0o : Bool) (a0l : Int) (hp : ((decide (a0n = a0s.length ∧ a0n < 8000))) = true) (k0 : okB (.cells 3 (.segs (.cons 1 (.one (.own 1 a0n 4)) (.cons 1 (.one (.bool a0o)) (.cons 1 (.one (.int .i64 a0l)) .nil)))) true)) (k1 : okB (.cells (a0n * 4) (.rT [.str,.str,.bool,.bool] a0s) true)) : ∃ F,f43 F (a0n,a0s,a0o,a0l) = some ((.vs (.rI .i64 (Dk.rworn (Dk.R.mk a0s a0o a0l))) 0 1),[(.cells 3 (.segs (.cons 1 (.one (.own 1 (Dk.R.mk a0s a0o a0l).s.length 4)) (.cons 1 (.one (.bool (Dk.R.mk a0s a0o a0l).off)) (.cons 1 (.one (.int .i64 (Dk.R.mk a0s a0o a0l).left)) .nil)))) true),(.cells ((Dk.R.mk a0s a0o a0l).s.length * 4) (.rT [.str,.str,.bool,.bool] (Dk.R.mk a0s a0o a0l).s) true)]) := by
  rw [decide_eq_true_iff] at hp
  obtain ⟨hn,hlt⟩ := hp
  refine ⟨a0n + 1,?_⟩
  simp only [f43,f43_11,f43_1,f43_10,f43_2,f43_9,f43_7,f43_8,f43_3,f43_6,f43_5,f43_5_i]
  refine loopN_from (fun k => ((k : Int),a0n,a0o,a0l,a0s,Dk.rlist Dk.fW a0s k)) a0n (by rfl) (fun k hk K => ?_) (fun K => ?_) (a0n + 1) (by omega)
  · have e1 : (decide (0 ≤ (k : Int)) && decide ((k : Int) < (a0n : Int))) = true := by rw [dec_and,decide_eq_true_iff]; omega
    have hl := Dk.rlist_len Dk.fW a0s k
    simp only [f43_4,e1,cond_true,i64w (show -9223372036854775808 ≤ (k : Int) + 1 by omega) (by omega),Int.toNat_natCast]
    rw [cond_pos (show (k : Int) < (a0n : Int) by omega),Dk.rlist_succ,cond_pos (show (Dk.rlist Dk.fW a0s k).length + 1 < 1073741824 by omega)]
    simp only [Dk.fW]
    cases h : (((a0s.getD k []).getD 3 []).getD 0 0 == 1) <;> rfl
  · simp only [f43_4]
    rw [cond_neg (by omega)]
    subst hn
    rfl

theorem c43 : CallOk Try.prog G35 43 r43 := callOk_of (V := VG3543) mixed tys eVG3543 (f := 43) (fn := Try.f43) Try.func43 (by kernel_rfl) (c := sub (bodyOf Try.f43) []) (by kernel_rfl) (by
  intro X H r H' h hX hH
  unfold r43 at h; split at h <;> try contradiction
  · simp only [Option.some.injEq,Prod.mk.injEq] at h
    obtain ⟨hp,rfl,rfl⟩ := h
    obtain rfl := okB_size (hH _ (.tail _ (.head _))) rfl
    obtain rfl := (of_decide_eq_true hp).1
    obtain ⟨F,hF⟩ := s43 _ _ _ _ hp (hH _ (.head _)) (hH _ (.tail _ (.head _)))
    exact ⟨Af43 F,(f43_body F _ _ _ _).trans hF⟩)
def lVG3532 : List CEnt := []
def VG3532 : Env := mkEnv T35 G35 lVG3532
theorem eVG3532 : EOk Try.prog VG3532 := eok_mk (by exact trivial)
def Af32 (F : Nat) : Cuts := { F := F,at_ := fun n => match n with | 5010 => some sp6 | _ => none,join := fun n => match n with | 1028 => some [(0,.plain)] | 3020 => some [(0,.plain)] | 4018 => some [(0,.plain),(4,.plain)] | 5012 => some sp6 | 8003 => some [(4,.plain)] | _ => none }
def ef32_a : Int → St := fun a0 => { tmps := [(0,(.int .i64 a0))],heap := [],next := 0,nt := 32,m := 0 }
def ef32j1 : Int → St := fun t0 => { tmps := [(0,(.int .i64 t0))],heap := [],next := 0,nt := 32,m := 0 }
def ef32j2 : Int → St := fun t0 => { tmps := [(0,(.int .i64 t0))],heap := [],next := 0,nt := 32,m := 0 }
def ef32j3 : Ty20 → St := fun (t0,x2,x3,x4,x5) => { tmps := [(0,(.int .i64 t0)),(4,(.ptr 0 0 3 0 0 0 3))],heap := [(0,(.cells 3 (.segs (.cons 1 (.one (.own 1 x2 4)) (.cons 1 (.one (.bool x3)) (.cons 1 (.one (.int .i64 x4)) .nil)))) true)),(1,(.cells (x2 * 4) (.rT [.str,.str,.bool,.bool] x5) true))],next := 2,nt := 32,m := 0 }
def ef32j4 : Ty25 → St := fun (t0,t5,x3,x4,x5,x6) => { tmps := [(0,(.int .i64 t0)),(4,(.ptr 0 0 3 0 0 0 3)),(5,(.int .i64 t5))],heap := [(0,(.cells 3 (.segs (.cons 1 (.one (.own 1 x3 4)) (.cons 1 (.one (.bool x4)) (.cons 1 (.one (.int .i64 x5)) .nil)))) true)),(1,(.cells (x3 * 4) (.rT [.str,.str,.bool,.bool] x6) true))],next := 2,nt := 32,m := 0 }
def ef32l1 : Ty25 → St := fun (t0,t5,x3,x4,x5,x6) => { tmps := [(0,(.int .i64 t0)),(4,(.ptr 0 0 3 0 0 0 3)),(5,(.int .i64 t5))],heap := [(0,(.cells 3 (.segs (.cons 1 (.one (.own 1 x3 4)) (.cons 1 (.one (.bool x4)) (.cons 1 (.one (.int .i64 x5)) .nil)))) true)),(1,(.cells (x3 * 4) (.rT [.str,.str,.bool,.bool] x6) true))],next := 2,nt := 32,m := 0 }
def ef32j5 : Ty19 → St := fun (x1,x2,x3,x4) => { tmps := [(4,(.ptr 0 0 3 0 0 0 3))],heap := [(0,(.cells 3 (.segs (.cons 1 (.one (.own 1 x1 4)) (.cons 1 (.one (.bool x2)) (.cons 1 (.one (.int .i64 x3)) .nil)))) true)),(1,(.cells (x1 * 4) (.rT [.str,.str,.bool,.bool] x4) true))],next := 2,nt := 32,m := 0 }
def f32_1 (F : Nat) (kf32j1 : Int → Rz) : Int → Rz := fun a0 => (kf32j1 a0)
theorem f32_1_eq (F : Nat) (Rf32j1 : St → Rz) : ∀ v,aexec VG3532 (Af32 F) (bp Try.f32 2) (ef32_a v) (kSeq (kc VG3532 Rf32j1 [(0,.plain)]) (kFin VG3532 none (Try.f32).results.toList)) = f32_1 F (Rf32j1 ∘ ef32j1) v := by
  intro a0; kernel_rfl
def f32_2 (F : Nat) (kf32j2 : Int → Rz) : Int → Rz := fun t0 => (cond (decide (t0 < (1 : Int))) (some ((.tup (.cons 0 .nilp (.cons 0 (.int .i64 (1 : Int)) .nil))),[])) (cond (decide (t0 > (4096 : Int))) (some ((.tup (.cons 0 .nilp (.cons 0 (.int .i64 (1 : Int)) .nil))),[])) (kf32j2 t0)))
theorem f32_2_eq (F : Nat) (Rf32j2 : St → Rz) : ∀ v,aexec VG3532 (Af32 F) (bp Try.f32 6) (ef32j1 v) (kSeq (kc VG3532 Rf32j2 [(0,.plain)]) (kFin VG3532 none (Try.f32).results.toList)) = f32_2 F (Rf32j2 ∘ ef32j2) v := by
  intro t0; kernel_rfl
def f32_3 (F : Nat) (kf32j3 : Ty20 → Rz) : Int → Rz := fun t0 => (kf32j3 (t0,0,false,(-1 : Int),[]))
theorem f32_3_eq (F : Nat) (Rf32j3 : St → Rz) : ∀ v,aexec VG3532 (Af32 F) (bp Try.f32 14) (ef32j2 v) (kSeq (kc VG3532 Rf32j3 [(0,.plain),(4,.plain)]) (kFin VG3532 none (Try.f32).results.toList)) = f32_3 F (Rf32j3 ∘ ef32j3) v := by
  intro t0; kernel_rfl
def f32_4 (F : Nat) (kf32j4 : Ty25 → Rz) (kf32j5 : Ty19 → Rz) : Ty20 → Rz := fun (t0,x2,x3,x4,x5) => (kf32j4 (t0,(0 : Int),x2,x3,x4,x5))
theorem f32_4_eq (F : Nat) (Rf32j4 : St → Rz) (Rf32j5 : St → Rz) : ∀ v,aexec VG3532 (Af32 F) (bp Try.f32 60) (ef32j3 v) (kSeq (kc VG3532 Rf32j4 sp6) (kSeq (kc VG3532 Rf32j5 [(4,.plain)]) (kFin VG3532 none (Try.f32).results.toList))) = f32_4 F (Rf32j4 ∘ ef32j4) (Rf32j5 ∘ ef32j5) v := by
  rintro ⟨t0,x2,x3,x4,x5⟩; kernel_rfl
def f32_5 (F : Nat) (kf32l1 : Ty25 → Rz) (kf32j5 : Ty19 → Rz) : Ty25 → Rz := fun (t0,t5,x3,x4,x5,x6) => (cond (decide (t5 < t0)) (cond (decide ((x3 + 1) < 1073741824)) (kf32l1 (t0,(IntKind.i64.wrap (t5 + (1 : Int))),(x3 + 1),x4,x5,(x6 ++ [[(List.replicate 64 0),[],[0],[0]]]))) none) (kf32j5 (x3,x4,x5,x6)))
theorem f32_5_eq (F : Nat) (Rf32l1 : St → Rz) (Rf32j5 : St → Rz) : ∀ v,aexec VG3532 (Af32 F) (bp Try.f32 244) (ef32l1 v) (kSeq (kc VG3532 Rf32l1 sp6) (kBlock 0 (kSeq (kc VG3532 Rf32j5 [(4,.plain)]) (kFin VG3532 none (Try.f32).results.toList)))) = f32_5 F (Rf32l1 ∘ ef32l1) (Rf32j5 ∘ ef32j5) v := by
  rintro ⟨t0,t5,x3,x4,x5,x6⟩; kernel_rfl
def f32_6_i : Ty25 → Int × Int × Nat × Bool × Int × (List (List (List Int))) := fun (t0,t5,x3,x4,x5,x6) => (t0,t5,x3,x4,x5,x6)
def f32_6 (F : Nat) (kf32j5 : Ty19 → Rz) : Ty25 → Rz := fun v => loopN (fun k => f32_5 F k kf32j5) F (f32_6_i v)
theorem f32_6_eq (F : Nat) (Rf32j5 : St → Rz) : ∀ v,aexec VG3532 (Af32 F) (bp Try.f32 122) (ef32j4 v) (kBlock 0 (kSeq (kc VG3532 Rf32j5 [(4,.plain)]) (kFin VG3532 none (Try.f32).results.toList))) = f32_6 F (Rf32j5 ∘ ef32j5) v :=
  loop_cut (by kernel_rfl) (by kernel_rfl) ef32j4 ef32l1 _ f32_6_i (fun k => f32_5 F k (Rf32j5 ∘ ef32j5))
    (by rintro ⟨t0,t5,x3,x4,x5,x6⟩; kernel_rfl) (fun Rf32l1 => f32_5_eq F Rf32l1 Rf32j5)
def f32_7 (F : Nat) (kf32j5 : Ty19 → Rz) : Ty25 → Rz := f32_6 F kf32j5
theorem f32_7_eq (F : Nat) (Rf32j5 : St → Rz) : ∀ v,aexec VG3532 (Af32 F) (bp Try.f32 61) (ef32j4 v) (kSeq (kc VG3532 Rf32j5 [(4,.plain)]) (kFin VG3532 none (Try.f32).results.toList)) = f32_7 F (Rf32j5 ∘ ef32j5) v := fun v =>
  (block_in  (by kernel_rfl) _ _).trans (f32_6_eq F Rf32j5 v)
def f32_8 (F : Nat) (kf32j5 : Ty19 → Rz) : Ty20 → Rz := fun v => f32_4 F (f32_7 F kf32j5) kf32j5 v
theorem f32_8_eq (F : Nat) (Rf32j5 : St → Rz) : ∀ v,aexec VG3532 (Af32 F) (bp Try.f32 30) (ef32j3 v) (kSeq (kc VG3532 Rf32j5 [(4,.plain)]) (kFin VG3532 none (Try.f32).results.toList)) = f32_8 F (Rf32j5 ∘ ef32j5) v :=
  seq_cut (by kernel_rfl) (by kernel_rfl) ef32j3 ef32j4 _ (fun k => f32_4 F k (Rf32j5 ∘ ef32j5)) (f32_7 F (Rf32j5 ∘ ef32j5))
    (fun Rf32j4 => f32_4_eq F Rf32j4 Rf32j5) (f32_7_eq F Rf32j5)
def f32_9 (F : Nat) : Ty19 → Rz := fun (x1,x2,x3,x4) => (some ((.tup (.cons 0 (.ptr 0 0 3 0 0 0 3) (.cons 0 (.int .i64 (0 : Int)) .nil))),[(.cells 3 (.segs (.cons 1 (.one (.own 1 x1 4)) (.cons 1 (.one (.bool x2)) (.cons 1 (.one (.int .i64 x3)) .nil)))) true),(.cells (x1 * 4) (.rT [.str,.str,.bool,.bool] x4) true)]))
theorem f32_9_eq (F : Nat) : ∀ v,aexec VG3532 (Af32 F) (bp Try.f32 31) (ef32j5 v) (kFin VG3532 none (Try.f32).results.toList) = f32_9 F v := by
  rintro ⟨x1,x2,x3,x4⟩; kernel_rfl
def f32_10 (F : Nat) : Ty20 → Rz := fun v => f32_8 F (f32_9 F) v
theorem f32_10_eq (F : Nat) : ∀ v,aexec VG3532 (Af32 F) (bp Try.f32 15) (ef32j3 v) (kFin VG3532 none (Try.f32).results.toList) = f32_10 F v :=
  seq_cut (by kernel_rfl) (by kernel_rfl) ef32j3 ef32j5 _ (fun k => f32_8 F k) (f32_9 F)
    (fun Rf32j5 => f32_8_eq F Rf32j5) (f32_9_eq F)
def f32_11 (F : Nat) : Int → Rz := fun v => f32_3 F (f32_10 F) v
theorem f32_11_eq (F : Nat) : ∀ v,aexec VG3532 (Af32 F) (bp Try.f32 7) (ef32j2 v) (kFin VG3532 none (Try.f32).results.toList) = f32_11 F v :=
  seq_cut (by kernel_rfl) (by kernel_rfl) ef32j2 ef32j3 _ (fun k => f32_3 F k) (f32_10 F)
    (fun Rf32j3 => f32_3_eq F Rf32j3) (f32_10_eq F)
def f32_12 (F : Nat) : Int → Rz := fun v => f32_2 F (f32_11 F) v
theorem f32_12_eq (F : Nat) : ∀ v,aexec VG3532 (Af32 F) (bp Try.f32 3) (ef32j1 v) (kFin VG3532 none (Try.f32).results.toList) = f32_12 F v :=
  seq_cut (by kernel_rfl) (by kernel_rfl) ef32j1 ef32j2 _ (fun k => f32_2 F k) (f32_11 F)
    (fun Rf32j2 => f32_2_eq F Rf32j2) (f32_11_eq F)
def f32_13 (F : Nat) : Int → Rz := fun v => f32_1 F (f32_12 F) v
theorem f32_13_eq (F : Nat) : ∀ v,aexec VG3532 (Af32 F) (sub (bodyOf Try.f32) []) (ef32_a v) (kFin VG3532 none (Try.f32).results.toList) = f32_13 F v :=
  seq_cut (by kernel_rfl) (by kernel_rfl) ef32_a ef32j1 _ (fun k => f32_1 F k) (f32_12 F)
    (fun Rf32j1 => f32_1_eq F Rf32j1) (f32_12_eq F)
def f32 (F : Nat) : Int → Rz := f32_13 F
theorem f32_body (F : Nat) (a0 : Int) : abody VG3532 (Af32 F) Try.f32 [(.int .i64 a0)] [] = f32 F a0 :=
  (abody_in (c := (sub (bodyOf Try.f32) [])) (by kernel_rfl) (s := ef32_a a0) (by kernel_rfl)).trans (f32_13_eq F a0)
def r32 : CRun := fun X H => match X,H with
  | [(.int .i64 a0)],[] => some ((decide (0 < a0)) && (decide (a0 < 4097)),(.tup (.cons 0 (.ptr 0 0 3 0 0 0 3) (.cons 0 (.int .i64 0) .nil))),[(.cells 3 (.segs (.cons 1 (.one (.own 1 (Dk.rnew a0).s.length 4)) (.cons 1 (.one (.bool (Dk.rnew a0).off)) (.cons 1 (.one (.int .i64 (Dk.rnew a0).left)) .nil)))) true),(.cells ((Dk.rnew a0).s.length * 4) (.rT [.str,.str,.bool,.bool] (Dk.rnew a0).s) true)])
  | _,_ => none
theorem s32 (a0 : Int) (hp : ((decide (0 < a0)) && (decide (a0 < 4097))) = true) (h0 : okV (.int .i64 a0)) : ∃ F,f32 F a0 = some ((.tup (.cons 0 (.ptr 0 0 3 0 0 0 3) (.cons 0 (.int .i64 0) .nil))),[(.cells 3 (.segs (.cons 1 (.one (.own 1 (Dk.rnew a0).s.length 4)) (.cons 1 (.one (.bool (Dk.rnew a0).off)) (.cons 1 (.one (.int .i64 (Dk.rnew a0).left)) .nil)))) true),(.cells ((Dk.rnew a0).s.length * 4) (.rT [.str,.str,.bool,.bool] (Dk.rnew a0).s) true)]) := by
  rw [dec_and,decide_eq_true_iff] at hp
  obtain ⟨n,rfl⟩ : ∃ n : Nat,a0 = (n : Int) := ⟨a0.toNat,by omega⟩
  refine ⟨n + 1,?_⟩
  simp only [f32,f32_13,f32_1,f32_12,f32_2,f32_11,f32_3,f32_10,f32_8,f32_9,f32_4,f32_7,f32_6,f32_6_i]
  rw [cond_neg (by omega),cond_neg (by omega)]
  refine loopN_from (fun k => ((n : Int),(k : Int),k,false,(-1 : Int),List.replicate k [List.replicate 64 0,[],[0],[0]])) n (by rfl) (fun k hk K => ?_) (fun K => ?_) (n + 1) (by omega)
  · simp only [f32_5,i64w (show -9223372036854775808 ≤ (k : Int) + 1 by omega) (by omega)]
    have e : List.replicate (k + 1) ([List.replicate 64 0,[],[0],[0]] : List (List Int)) = List.replicate k [List.replicate 64 0,[],[0],[0]] ++ [[List.replicate 64 0,[],[0],[0]]] := List.replicate_succ'
    rw [cond_pos (show (k : Int) < (n : Int) by omega),cond_pos (by omega),e]
    rfl
  · simp only [f32_5]
    rw [cond_neg (by omega)]
    simp only [f32_9,Dk.rnew,Int.toNat_natCast,List.length_replicate]

theorem c32 : CallOk Try.prog G35 32 r32 := callOk_of (V := VG3532) mixed tys eVG3532 (f := 32) (fn := Try.f32) Try.func32 (by kernel_rfl) (c := sub (bodyOf Try.f32) []) (by kernel_rfl) (by
  intro X H r H' h hX hH
  unfold r32 at h; split at h <;> try contradiction
  · simp only [Option.some.injEq,Prod.mk.injEq] at h
    obtain ⟨hp,rfl,rfl⟩ := h
    obtain ⟨F,hF⟩ := s32 _ hp (hX _ (.head _))
    exact ⟨Af32 F,(f32_body F _).trans hF⟩)
def lVG3521 : List CEnt := []
def VG3521 : Env := mkEnv T35 G35 lVG3521
theorem eVG3521 : EOk Try.prog VG3521 := eok_mk (by exact trivial)
def Af21 (F : Nat) : Cuts := { F := F,at_ := fun n => match n with | 4016 => some sp7 | _ => none,join := fun n => match n with | 1032 => some [(0,.plain),(1,.plain)] | 3024 => some [(0,.plain),(1,.plain)] | 4018 => some sp7 | 8003 => some [] | _ => none }
def ef21_a : Ty26 → St := fun (a0,a1) => { tmps := [(0,(.vs (.rS a0) 0 1)),(1,(.vs (.rS a1) 0 1))],heap := [],next := 0,nt := 26,m := 0 }
def ef21j1 : Ty26 → St := fun (t0,t1) => { tmps := [(0,(.vs (.rS t0) 0 1)),(1,(.vs (.rS t1) 0 1))],heap := [],next := 0,nt := 26,m := 0 }
def ef21j2 : Ty26 → St := fun (t0,t1) => { tmps := [(0,(.vs (.rS t0) 0 1)),(1,(.vs (.rS t1) 0 1))],heap := [],next := 0,nt := 26,m := 0 }
def ef21j3 : Ty27 → St := fun (t0,t1,t5) => { tmps := [(0,(.vs (.rS t0) 0 1)),(1,(.vs (.rS t1) 0 1)),(5,(.int .i64 t5))],heap := [],next := 0,nt := 26,m := 0 }
def ef21l1 : Ty27 → St := fun (t0,t1,t5) => { tmps := [(0,(.vs (.rS t0) 0 1)),(1,(.vs (.rS t1) 0 1)),(5,(.int .i64 t5))],heap := [],next := 0,nt := 26,m := 0 }
def ef21j4 : Unit → St := fun _ => { tmps := [],heap := [],next := 0,nt := 26,m := 0 }
def f21_1 (F : Nat) (kf21j1 : Ty26 → Rz) : Ty26 → Rz := fun (a0,a1) => (kf21j1 (a0,a1))
theorem f21_1_eq (F : Nat) (Rf21j1 : St → Rz) : ∀ v,aexec VG3521 (Af21 F) (bp Try.f21 2) (ef21_a v) (kSeq (kc VG3521 Rf21j1 [(0,.plain),(1,.plain)]) (kFin VG3521 none (Try.f21).results.toList)) = f21_1 F (Rf21j1 ∘ ef21j1) v := by
  rintro ⟨a0,a1⟩; kernel_rfl
def f21_2 (F : Nat) (kf21j2 : Ty26 → Rz) : Ty26 → Rz := fun (t0,t1) => (cond ((↑t0.length : Int) != (↑t1.length : Int)) (some ((.bool false),[])) (kf21j2 (t0,t1)))
theorem f21_2_eq (F : Nat) (Rf21j2 : St → Rz) : ∀ v,aexec VG3521 (Af21 F) (bp Try.f21 6) (ef21j1 v) (kSeq (kc VG3521 Rf21j2 [(0,.plain),(1,.plain)]) (kFin VG3521 none (Try.f21).results.toList)) = f21_2 F (Rf21j2 ∘ ef21j2) v := by
  rintro ⟨t0,t1⟩; kernel_rfl
def f21_3 (F : Nat) (kf21j3 : Ty27 → Rz) (kf21j4 : Unit → Rz) : Ty26 → Rz := fun (t0,t1) => (kf21j3 (t0,t1,(0 : Int)))
theorem f21_3_eq (F : Nat) (Rf21j3 : St → Rz) (Rf21j4 : St → Rz) : ∀ v,aexec VG3521 (Af21 F) (bp Try.f21 28) (ef21j2 v) (kSeq (kc VG3521 Rf21j3 sp7) (kSeq (kc VG3521 Rf21j4 []) (kFin VG3521 none (Try.f21).results.toList))) = f21_3 F (Rf21j3 ∘ ef21j3) (Rf21j4 ∘ ef21j4) v := by
  rintro ⟨t0,t1⟩; kernel_rfl
def f21_4 (F : Nat) (kf21l1 : Ty27 → Rz) (kf21j4 : Unit → Rz) : Ty27 → Rz := fun (t0,t1,t5) => (cond (decide (t5 < (↑t0.length : Int))) (cond ((decide (0 ≤ t5)) && (decide (t5 < (↑t0.length : Int)))) (cond ((decide (0 ≤ t5)) && (decide (t5 < (↑t1.length : Int)))) (cond (!(((t0.getD (Int.toNat t5) []) : List Int) == ((t1.getD (Int.toNat t5) []) : List Int))) (some ((.bool false),[])) (kf21l1 (t0,t1,(IntKind.i64.wrap (t5 + (1 : Int)))))) none) none) (kf21j4 ()))
theorem f21_4_eq (F : Nat) (Rf21l1 : St → Rz) (Rf21j4 : St → Rz) : ∀ v,aexec VG3521 (Af21 F) (bp Try.f21 116) (ef21l1 v) (kSeq (kc VG3521 Rf21l1 sp7) (kBlock 0 (kSeq (kc VG3521 Rf21j4 []) (kFin VG3521 none (Try.f21).results.toList)))) = f21_4 F (Rf21l1 ∘ ef21l1) (Rf21j4 ∘ ef21j4) v := by
  rintro ⟨t0,t1,t5⟩; kernel_rfl
def f21_5_i : Ty27 → (List (List Int)) × (List (List Int)) × Int := fun (t0,t1,t5) => (t0,t1,t5)
def f21_5 (F : Nat) (kf21j4 : Unit → Rz) : Ty27 → Rz := fun v => loopN (fun k => f21_4 F k kf21j4) F (f21_5_i v)
theorem f21_5_eq (F : Nat) (Rf21j4 : St → Rz) : ∀ v,aexec VG3521 (Af21 F) (bp Try.f21 58) (ef21j3 v) (kBlock 0 (kSeq (kc VG3521 Rf21j4 []) (kFin VG3521 none (Try.f21).results.toList))) = f21_5 F (Rf21j4 ∘ ef21j4) v :=
  loop_cut (by kernel_rfl) (by kernel_rfl) ef21j3 ef21l1 _ f21_5_i (fun k => f21_4 F k (Rf21j4 ∘ ef21j4))
    (by rintro ⟨t0,t1,t5⟩; kernel_rfl) (fun Rf21l1 => f21_4_eq F Rf21l1 Rf21j4)
def f21_6 (F : Nat) (kf21j4 : Unit → Rz) : Ty27 → Rz := f21_5 F kf21j4
theorem f21_6_eq (F : Nat) (Rf21j4 : St → Rz) : ∀ v,aexec VG3521 (Af21 F) (bp Try.f21 29) (ef21j3 v) (kSeq (kc VG3521 Rf21j4 []) (kFin VG3521 none (Try.f21).results.toList)) = f21_6 F (Rf21j4 ∘ ef21j4) v := fun v =>
  (block_in  (by kernel_rfl) _ _).trans (f21_5_eq F Rf21j4 v)
def f21_7 (F : Nat) (kf21j4 : Unit → Rz) : Ty26 → Rz := fun v => f21_3 F (f21_6 F kf21j4) kf21j4 v
theorem f21_7_eq (F : Nat) (Rf21j4 : St → Rz) : ∀ v,aexec VG3521 (Af21 F) (bp Try.f21 14) (ef21j2 v) (kSeq (kc VG3521 Rf21j4 []) (kFin VG3521 none (Try.f21).results.toList)) = f21_7 F (Rf21j4 ∘ ef21j4) v :=
  seq_cut (by kernel_rfl) (by kernel_rfl) ef21j2 ef21j3 _ (fun k => f21_3 F k (Rf21j4 ∘ ef21j4)) (f21_6 F (Rf21j4 ∘ ef21j4))
    (fun Rf21j3 => f21_3_eq F Rf21j3 Rf21j4) (f21_6_eq F Rf21j4)
def f21_8 (F : Nat) : Unit → Rz := fun _ => (some ((.bool true),[]))
theorem f21_8_eq (F : Nat) : ∀ v,aexec VG3521 (Af21 F) (bp Try.f21 15) (ef21j4 v) (kFin VG3521 none (Try.f21).results.toList) = f21_8 F v := by
  intro _; kernel_rfl
def f21_9 (F : Nat) : Ty26 → Rz := fun v => f21_7 F (f21_8 F) v
theorem f21_9_eq (F : Nat) : ∀ v,aexec VG3521 (Af21 F) (bp Try.f21 7) (ef21j2 v) (kFin VG3521 none (Try.f21).results.toList) = f21_9 F v :=
  seq_cut (by kernel_rfl) (by kernel_rfl) ef21j2 ef21j4 _ (fun k => f21_7 F k) (f21_8 F)
    (fun Rf21j4 => f21_7_eq F Rf21j4) (f21_8_eq F)
def f21_10 (F : Nat) : Ty26 → Rz := fun v => f21_2 F (f21_9 F) v
theorem f21_10_eq (F : Nat) : ∀ v,aexec VG3521 (Af21 F) (bp Try.f21 3) (ef21j1 v) (kFin VG3521 none (Try.f21).results.toList) = f21_10 F v :=
  seq_cut (by kernel_rfl) (by kernel_rfl) ef21j1 ef21j2 _ (fun k => f21_2 F k) (f21_9 F)
    (fun Rf21j2 => f21_2_eq F Rf21j2) (f21_9_eq F)
def f21_11 (F : Nat) : Ty26 → Rz := fun v => f21_1 F (f21_10 F) v
theorem f21_11_eq (F : Nat) : ∀ v,aexec VG3521 (Af21 F) (sub (bodyOf Try.f21) []) (ef21_a v) (kFin VG3521 none (Try.f21).results.toList) = f21_11 F v :=
  seq_cut (by kernel_rfl) (by kernel_rfl) ef21_a ef21j1 _ (fun k => f21_1 F k) (f21_10 F)
    (fun Rf21j1 => f21_1_eq F Rf21j1) (f21_10_eq F)
def f21 (F : Nat) : Ty26 → Rz := f21_11 F
theorem f21_body (F : Nat) (a0 : List (List Int)) (a1 : List (List Int)) : abody VG3521 (Af21 F) Try.f21 [(.vs (.rS a0) 0 1),(.vs (.rS a1) 0 1)] [] = f21 F (a0,a1) :=
  (abody_in (c := (sub (bodyOf Try.f21) [])) (by kernel_rfl) (s := ef21_a (a0,a1)) (by kernel_rfl)).trans (f21_11_eq F (a0,a1))
def r21 : CRun := fun X H => match X,H with
  | [(.vs (.rS a0) 0 1),(.vs (.rS a1) 0 1)],[] => some ((decide (a0.length < 1073741824)),(.bool (a0 == a1)),[])
  | _,_ => none
theorem s21 (a0 : List (List Int)) (a1 : List (List Int)) (hp : ((decide (a0.length < 1073741824))) = true) (h0 : okV (.vs (.rS a0) 0 1)) (h1 : okV (.vs (.rS a1) 0 1)) : ∃ F,f21 F (a0,a1) = some ((.bool (a0 == a1)),[]) := by
  rw [decide_eq_true_iff] at hp
  refine ⟨a0.length + 1,?_⟩
  simp only [f21,f21_11,f21_1,f21_10,f21_2,f21_9,f21_7,f21_8,f21_3,f21_6,f21_5,f21_5_i]
  by_cases hl : a0.length = a1.length
  · have e : ((a0.length : Int) != (a1.length : Int)) = false := by simp [hl]
    rw [e,cond_false]
    refine loopN_ind (fun m s => ∃ k : Nat,s = (a0,a1,(k : Int)) ∧ m = a0.length - k ∧ k ≤ a0.length ∧ ∀ j,j < k → a0.getD j [] = a1.getD j []) (fun m s K hi hk => ?_) (a0.length + 1) a0.length _ (by omega) ⟨0,rfl,by omega,by omega,fun j hj => by omega⟩
    obtain ⟨k,rfl,hm,hle,heq⟩ := hi
    simp only [f21_4,Int.toNat_natCast]
    by_cases hlt : k < a0.length
    · have e1 : (decide (0 ≤ (k : Int)) && decide ((k : Int) < (a0.length : Int))) = true := by rw [dec_and,decide_eq_true_iff]; omega
      have e2 : (decide (0 ≤ (k : Int)) && decide ((k : Int) < (a1.length : Int))) = true := by rw [dec_and,decide_eq_true_iff]; omega
      rw [cond_pos (show (k : Int) < (a0.length : Int) by omega),e1,e2,cond_true,cond_true,i64w (by omega) (by omega)]
      by_cases h : a0.getD k [] = a1.getD k []
      · have e3 : (!(((a0.getD k []) : List Int) == ((a1.getD k []) : List Int))) = false := by rw [h]; simp
        rw [e3,cond_false]
        exact hk (m - 1) _ (by omega) ⟨k + 1,rfl,by omega,by omega,fun j hj => by
          by_cases hj' : j = k
          · subst hj'; exact h
          · exact heq j (by omega)⟩
      · have e3 : (!(((a0.getD k []) : List Int) == ((a1.getD k []) : List Int))) = true := by simpa using h
        rw [e3,cond_true]
        have e4 : (a0 == a1) = false := by rw [beq_eq_false_iff_ne]; intro h'; exact h (by rw [h'])
        rw [e4]
    · rw [cond_neg (by omega)]
      have e4 : (a0 == a1) = true := by rw [beq_iff_eq]; exact list_eq [] hl fun j hj => heq j (by omega)
      rw [e4]; rfl
  · have e : ((a0.length : Int) != (a1.length : Int)) = true := by simp; omega
    have e4 : (a0 == a1) = false := by rw [beq_eq_false_iff_ne]; intro h'; exact hl (by rw [h'])
    rw [e,cond_true,e4]

theorem c21 : CallOk Try.prog G35 21 r21 := callOk_of (V := VG3521) mixed tys eVG3521 (f := 21) (fn := Try.f21) Try.func21 (by kernel_rfl) (c := sub (bodyOf Try.f21) []) (by kernel_rfl) (by
  intro X H r H' h hX hH
  unfold r21 at h; split at h <;> try contradiction
  · simp only [Option.some.injEq,Prod.mk.injEq] at h
    obtain ⟨hp,rfl,rfl⟩ := h
    obtain ⟨F,hF⟩ := s21 _ _ hp (hX _ (.head _)) (hX _ (.tail _ (.head _)))
    exact ⟨Af21 F,(f21_body F _ _).trans hF⟩)
def lVG3541 : List CEnt := []
def VG3541 : Env := mkEnv T35 G35 lVG3541
theorem eVG3541 : EOk Try.prog VG3541 := eok_mk (by exact trivial)
def Af41 (F : Nat) : Cuts := { F := F,at_ := fun n => match n with | 4016 => some sp7 | _ => none,join := fun n => match n with | 1032 => some [(0,.plain),(1,.plain)] | 3024 => some [(0,.plain),(1,.plain)] | 4018 => some sp7 | 8003 => some [] | _ => none }
def ef41_a : (List Int) × (List Int) → St := fun (a0,a1) => { tmps := [(0,(.vs (.rI .i64 a0) 0 1)),(1,(.vs (.rI .i64 a1) 0 1))],heap := [],next := 0,nt := 26,m := 0 }
def ef41j1 : (List Int) × (List Int) → St := fun (t0,t1) => { tmps := [(0,(.vs (.rI .i64 t0) 0 1)),(1,(.vs (.rI .i64 t1) 0 1))],heap := [],next := 0,nt := 26,m := 0 }
def ef41j2 : (List Int) × (List Int) → St := fun (t0,t1) => { tmps := [(0,(.vs (.rI .i64 t0) 0 1)),(1,(.vs (.rI .i64 t1) 0 1))],heap := [],next := 0,nt := 26,m := 0 }
def ef41j3 : Ty28 → St := fun (t0,t1,t5) => { tmps := [(0,(.vs (.rI .i64 t0) 0 1)),(1,(.vs (.rI .i64 t1) 0 1)),(5,(.int .i64 t5))],heap := [],next := 0,nt := 26,m := 0 }
def ef41l1 : Ty28 → St := fun (t0,t1,t5) => { tmps := [(0,(.vs (.rI .i64 t0) 0 1)),(1,(.vs (.rI .i64 t1) 0 1)),(5,(.int .i64 t5))],heap := [],next := 0,nt := 26,m := 0 }
def ef41j4 : Unit → St := fun _ => { tmps := [],heap := [],next := 0,nt := 26,m := 0 }
def f41_1 (F : Nat) (kf41j1 : (List Int) × (List Int) → Rz) : (List Int) × (List Int) → Rz := fun (a0,a1) => (kf41j1 (a0,a1))
theorem f41_1_eq (F : Nat) (Rf41j1 : St → Rz) : ∀ v,aexec VG3541 (Af41 F) (bp Try.f41 2) (ef41_a v) (kSeq (kc VG3541 Rf41j1 [(0,.plain),(1,.plain)]) (kFin VG3541 none (Try.f41).results.toList)) = f41_1 F (Rf41j1 ∘ ef41j1) v := by
  rintro ⟨a0,a1⟩; kernel_rfl
def f41_2 (F : Nat) (kf41j2 : (List Int) × (List Int) → Rz) : (List Int) × (List Int) → Rz := fun (t0,t1) => (cond ((↑t0.length : Int) != (↑t1.length : Int)) (some ((.bool false),[])) (kf41j2 (t0,t1)))
theorem f41_2_eq (F : Nat) (Rf41j2 : St → Rz) : ∀ v,aexec VG3541 (Af41 F) (bp Try.f41 6) (ef41j1 v) (kSeq (kc VG3541 Rf41j2 [(0,.plain),(1,.plain)]) (kFin VG3541 none (Try.f41).results.toList)) = f41_2 F (Rf41j2 ∘ ef41j2) v := by
  rintro ⟨t0,t1⟩; kernel_rfl
def f41_3 (F : Nat) (kf41j3 : Ty28 → Rz) (kf41j4 : Unit → Rz) : (List Int) × (List Int) → Rz := fun (t0,t1) => (kf41j3 (t0,t1,(0 : Int)))
theorem f41_3_eq (F : Nat) (Rf41j3 : St → Rz) (Rf41j4 : St → Rz) : ∀ v,aexec VG3541 (Af41 F) (bp Try.f41 28) (ef41j2 v) (kSeq (kc VG3541 Rf41j3 sp7) (kSeq (kc VG3541 Rf41j4 []) (kFin VG3541 none (Try.f41).results.toList))) = f41_3 F (Rf41j3 ∘ ef41j3) (Rf41j4 ∘ ef41j4) v := by
  rintro ⟨t0,t1⟩; kernel_rfl
def f41_4 (F : Nat) (kf41l1 : Ty28 → Rz) (kf41j4 : Unit → Rz) : Ty28 → Rz := fun (t0,t1,t5) => (cond (decide (t5 < (↑t0.length : Int))) (cond ((decide (0 ≤ t5)) && (decide (t5 < (↑t0.length : Int)))) (cond ((decide (0 ≤ t5)) && (decide (t5 < (↑t1.length : Int)))) (cond ((t0.getD (Int.toNat t5) 0) != (t1.getD (Int.toNat t5) 0)) (some ((.bool false),[])) (kf41l1 (t0,t1,(IntKind.i64.wrap (t5 + (1 : Int)))))) none) none) (kf41j4 ()))
theorem f41_4_eq (F : Nat) (Rf41l1 : St → Rz) (Rf41j4 : St → Rz) : ∀ v,aexec VG3541 (Af41 F) (bp Try.f41 116) (ef41l1 v) (kSeq (kc VG3541 Rf41l1 sp7) (kBlock 0 (kSeq (kc VG3541 Rf41j4 []) (kFin VG3541 none (Try.f41).results.toList)))) = f41_4 F (Rf41l1 ∘ ef41l1) (Rf41j4 ∘ ef41j4) v := by
  rintro ⟨t0,t1,t5⟩; kernel_rfl
def f41_5_i : Ty28 → (List Int) × (List Int) × Int := fun (t0,t1,t5) => (t0,t1,t5)
def f41_5 (F : Nat) (kf41j4 : Unit → Rz) : Ty28 → Rz := fun v => loopN (fun k => f41_4 F k kf41j4) F (f41_5_i v)
theorem f41_5_eq (F : Nat) (Rf41j4 : St → Rz) : ∀ v,aexec VG3541 (Af41 F) (bp Try.f41 58) (ef41j3 v) (kBlock 0 (kSeq (kc VG3541 Rf41j4 []) (kFin VG3541 none (Try.f41).results.toList))) = f41_5 F (Rf41j4 ∘ ef41j4) v :=
  loop_cut (by kernel_rfl) (by kernel_rfl) ef41j3 ef41l1 _ f41_5_i (fun k => f41_4 F k (Rf41j4 ∘ ef41j4))
    (by rintro ⟨t0,t1,t5⟩; kernel_rfl) (fun Rf41l1 => f41_4_eq F Rf41l1 Rf41j4)
def f41_6 (F : Nat) (kf41j4 : Unit → Rz) : Ty28 → Rz := f41_5 F kf41j4
theorem f41_6_eq (F : Nat) (Rf41j4 : St → Rz) : ∀ v,aexec VG3541 (Af41 F) (bp Try.f41 29) (ef41j3 v) (kSeq (kc VG3541 Rf41j4 []) (kFin VG3541 none (Try.f41).results.toList)) = f41_6 F (Rf41j4 ∘ ef41j4) v := fun v =>
  (block_in  (by kernel_rfl) _ _).trans (f41_5_eq F Rf41j4 v)
def f41_7 (F : Nat) (kf41j4 : Unit → Rz) : (List Int) × (List Int) → Rz := fun v => f41_3 F (f41_6 F kf41j4) kf41j4 v
theorem f41_7_eq (F : Nat) (Rf41j4 : St → Rz) : ∀ v,aexec VG3541 (Af41 F) (bp Try.f41 14) (ef41j2 v) (kSeq (kc VG3541 Rf41j4 []) (kFin VG3541 none (Try.f41).results.toList)) = f41_7 F (Rf41j4 ∘ ef41j4) v :=
  seq_cut (by kernel_rfl) (by kernel_rfl) ef41j2 ef41j3 _ (fun k => f41_3 F k (Rf41j4 ∘ ef41j4)) (f41_6 F (Rf41j4 ∘ ef41j4))
    (fun Rf41j3 => f41_3_eq F Rf41j3 Rf41j4) (f41_6_eq F Rf41j4)
def f41_8 (F : Nat) : Unit → Rz := fun _ => (some ((.bool true),[]))
theorem f41_8_eq (F : Nat) : ∀ v,aexec VG3541 (Af41 F) (bp Try.f41 15) (ef41j4 v) (kFin VG3541 none (Try.f41).results.toList) = f41_8 F v := by
  intro _; kernel_rfl
def f41_9 (F : Nat) : (List Int) × (List Int) → Rz := fun v => f41_7 F (f41_8 F) v
theorem f41_9_eq (F : Nat) : ∀ v,aexec VG3541 (Af41 F) (bp Try.f41 7) (ef41j2 v) (kFin VG3541 none (Try.f41).results.toList) = f41_9 F v :=
  seq_cut (by kernel_rfl) (by kernel_rfl) ef41j2 ef41j4 _ (fun k => f41_7 F k) (f41_8 F)
    (fun Rf41j4 => f41_7_eq F Rf41j4) (f41_8_eq F)
def f41_10 (F : Nat) : (List Int) × (List Int) → Rz := fun v => f41_2 F (f41_9 F) v
theorem f41_10_eq (F : Nat) : ∀ v,aexec VG3541 (Af41 F) (bp Try.f41 3) (ef41j1 v) (kFin VG3541 none (Try.f41).results.toList) = f41_10 F v :=
  seq_cut (by kernel_rfl) (by kernel_rfl) ef41j1 ef41j2 _ (fun k => f41_2 F k) (f41_9 F)
    (fun Rf41j2 => f41_2_eq F Rf41j2) (f41_9_eq F)
def f41_11 (F : Nat) : (List Int) × (List Int) → Rz := fun v => f41_1 F (f41_10 F) v
theorem f41_11_eq (F : Nat) : ∀ v,aexec VG3541 (Af41 F) (sub (bodyOf Try.f41) []) (ef41_a v) (kFin VG3541 none (Try.f41).results.toList) = f41_11 F v :=
  seq_cut (by kernel_rfl) (by kernel_rfl) ef41_a ef41j1 _ (fun k => f41_1 F k) (f41_10 F)
    (fun Rf41j1 => f41_1_eq F Rf41j1) (f41_10_eq F)
def f41 (F : Nat) : (List Int) × (List Int) → Rz := f41_11 F
theorem f41_body (F : Nat) (a0 : List Int) (a1 : List Int) : abody VG3541 (Af41 F) Try.f41 [(.vs (.rI .i64 a0) 0 1),(.vs (.rI .i64 a1) 0 1)] [] = f41 F (a0,a1) :=
  (abody_in (c := (sub (bodyOf Try.f41) [])) (by kernel_rfl) (s := ef41_a (a0,a1)) (by kernel_rfl)).trans (f41_11_eq F (a0,a1))
def r41 : CRun := fun X H => match X,H with
  | [(.vs (.rI .i64 a0) 0 1),(.vs (.rI .i64 a1) 0 1)],[] => some ((decide (a0.length < 1073741824)),(.bool (a0 == a1)),[])
  | _,_ => none
theorem s41 (a0 : List Int) (a1 : List Int) (hp : ((decide (a0.length < 1073741824))) = true) (h0 : okV (.vs (.rI .i64 a0) 0 1)) (h1 : okV (.vs (.rI .i64 a1) 0 1)) : ∃ F,f41 F (a0,a1) = some ((.bool (a0 == a1)),[]) := by
  rw [decide_eq_true_iff] at hp
  refine ⟨a0.length + 1,?_⟩
  simp only [f41,f41_11,f41_1,f41_10,f41_2,f41_9,f41_7,f41_8,f41_3,f41_6,f41_5,f41_5_i]
  by_cases hl : a0.length = a1.length
  · have e : ((a0.length : Int) != (a1.length : Int)) = false := by simp [hl]
    rw [e,cond_false]
    refine loopN_ind (fun m s => ∃ k : Nat,s = (a0,a1,(k : Int)) ∧ m = a0.length - k ∧ k ≤ a0.length ∧ ∀ j,j < k → a0.getD j 0 = a1.getD j 0) (fun m s K hi hk => ?_) (a0.length + 1) a0.length _ (by omega) ⟨0,rfl,by omega,by omega,fun j hj => by omega⟩
    obtain ⟨k,rfl,hm,hle,heq⟩ := hi
    simp only [f41_4,Int.toNat_natCast]
    by_cases hlt : k < a0.length
    · have e1 : (decide (0 ≤ (k : Int)) && decide ((k : Int) < (a0.length : Int))) = true := by rw [dec_and,decide_eq_true_iff]; omega
      have e2 : (decide (0 ≤ (k : Int)) && decide ((k : Int) < (a1.length : Int))) = true := by rw [dec_and,decide_eq_true_iff]; omega
      rw [cond_pos (show (k : Int) < (a0.length : Int) by omega),e1,e2,cond_true,cond_true,i64w (by omega) (by omega)]
      by_cases h : a0.getD k 0 = a1.getD k 0
      · have e3 : (a0.getD k 0 != a1.getD k 0) = false := by rw [h]; simp
        rw [e3,cond_false]
        exact hk (m - 1) _ (by omega) ⟨k + 1,rfl,by omega,by omega,fun j hj => by
          by_cases hj' : j = k
          · subst hj'; exact h
          · exact heq j (by omega)⟩
      · have e3 : (a0.getD k 0 != a1.getD k 0) = true := by simpa using h
        rw [e3,cond_true]
        have e4 : (a0 == a1) = false := by rw [beq_eq_false_iff_ne]; intro h'; exact h (by rw [h'])
        rw [e4]
    · rw [cond_neg (by omega)]
      have e4 : (a0 == a1) = true := by rw [beq_iff_eq]; exact list_eq 0 hl fun j hj => heq j (by omega)
      rw [e4]; rfl
  · have e : ((a0.length : Int) != (a1.length : Int)) = true := by simp; omega
    have e4 : (a0 == a1) = false := by rw [beq_eq_false_iff_ne]; intro h'; exact hl (by rw [h'])
    rw [e,cond_true,e4]

theorem c41 : CallOk Try.prog G35 41 r41 := callOk_of (V := VG3541) mixed tys eVG3541 (f := 41) (fn := Try.f41) Try.func41 (by kernel_rfl) (c := sub (bodyOf Try.f41) []) (by kernel_rfl) (by
  intro X H r H' h hX hH
  unfold r41 at h; split at h <;> try contradiction
  · simp only [Option.some.injEq,Prod.mk.injEq] at h
    obtain ⟨hp,rfl,rfl⟩ := h
    obtain ⟨F,hF⟩ := s41 _ _ hp (hX _ (.head _)) (hX _ (.tail _ (.head _)))
    exact ⟨Af41 F,(f41_body F _ _).trans hF⟩)
def lVG3552p : List CEnt := []
def VG3552p : Env := mkEnv T35 G35 lVG3552p
theorem eVG3552p : EOk Try.prog VG3552p := eok_mk (by exact trivial)
def Af52p (F : Nat) : Cuts := { F := F,at_ := fun _ => none,join := fun _ => none }
def ef52p_a : Nat × (List Int) → St := fun (a0n,a0b) => { tmps := [(0,(.own 0 (a0n + 1) 64))],heap := [(0,(.cells a0b.length (.rI .u8 a0b) true))],next := 1,nt := 8,m := 1 }
def f52p_1 (F : Nat) : Nat × (List Int) → Rz := fun (a0n,a0b) => (cond (decide (0 < (a0n + 1))) (cond (decide ((0 + (a0n + 1)) < 1073741824)) (some ((.own 1 (0 + (a0n + 1)) 64),[(.cells a0b.length (.rI .u8 a0b) true),(.cells ((0 + (a0n + 1)) * 64) (.rI .u8 ([] ++ a0b)) true)])) none) none)
theorem f52p_1_eq (F : Nat) : ∀ v,aexec VG3552p (Af52p F) (sub (bodyOf Try.f52) []) (ef52p_a v) (kFin VG3552p none (Try.f52).results.toList) = f52p_1 F v := by
  rintro ⟨a0n,a0b⟩; kernel_rfl
def f52p (F : Nat) : Nat × (List Int) → Rz := f52p_1 F
theorem f52p_body (F : Nat) (a0n : Nat) (a0b : List Int) : abody VG3552p (Af52p F) Try.f52 [(.own 0 (a0n + 1) 64)] [(.cells a0b.length (.rI .u8 a0b) true)] = f52p F (a0n,a0b) :=
  (abody_in (c := (sub (bodyOf Try.f52) [])) (by kernel_rfl) (s := ef52p_a (a0n,a0b)) (by kernel_rfl)).trans (f52p_1_eq F (a0n,a0b))
def r52p : CRun := fun X H => match X,H with
  | [(.own 0 (a0n + 1) 64)],[(.cells z0 (.rI .u8 a0b) true)] => some ((decide (a0n < 8000 ∧ a0b.length = (a0n + 1) * 64)),(.own 1 (a0n + 1) 64),[(.cells a0b.length (.rI .u8 a0b) true),(.cells a0b.length (.rI .u8 a0b) true)])
  | _,_ => none
theorem s52p (a0n : Nat) (a0b : List Int) (hp : ((decide (a0n < 8000 ∧ a0b.length = (a0n + 1) * 64))) = true) (k0 : okB (.cells a0b.length (.rI .u8 a0b) true)) : ∃ F,f52p F (a0n,a0b) = some ((.own 1 (a0n + 1) 64),[(.cells a0b.length (.rI .u8 a0b) true),(.cells a0b.length (.rI .u8 a0b) true)]) := by
  rw [decide_eq_true_iff] at hp
  refine ⟨0,?_⟩
  simp only [f52p,f52p_1,Nat.zero_add,List.nil_append]
  rw [cond_pos (by omega),cond_pos (by omega),← hp.2]

theorem c52p : CallOk Try.prog G35 52 r52p := callOk_of (V := VG3552p) mixed tys eVG3552p (f := 52) (fn := Try.f52) Try.func52 (by kernel_rfl) (c := sub (bodyOf Try.f52) []) (by kernel_rfl) (by
  intro X H r H' h hX hH
  unfold r52p at h; split at h <;> try contradiction
  · simp only [Option.some.injEq,Prod.mk.injEq] at h
    obtain ⟨hp,rfl,rfl⟩ := h
    obtain rfl := okB_size (hH _ (.head _)) rfl
    obtain ⟨F,hF⟩ := s52p _ _ hp (hH _ (.head _))
    exact ⟨Af52p F,(f52p_body F _ _).trans hF⟩)
def r52 : CRun := fun X H => match X,H with
  | [.own 0 a0n 64],[.cells _ (.rI .u8 a0b) true] => some ((decide (0 < a0n ∧ a0n < 8000 ∧ a0b.length = a0n * 64)),.own 1 a0n 64,[.cells a0b.length (.rI .u8 a0b) true,.cells a0b.length (.rI .u8 a0b) true])
  | _,_ => none
theorem c52 : CallOk Try.prog G35 52 r52 := c52p.sub fun A H r H' h => by
  unfold r52 at h; split at h <;> try contradiction
  rename_i n z b
  simp only [Option.some.injEq,Prod.mk.injEq,decide_eq_true_eq] at h
  obtain ⟨⟨h0,h1,h2⟩,rfl,rfl⟩ := h
  cases n with
  | zero => omega
  | succ n => simp only [r52p,Option.some.injEq,Prod.mk.injEq,decide_eq_true_eq,and_true]; omega
def r53 : CRun := runClone
theorem c53 : CallOk Try.prog G35 53 r53 := clone_ok Try.clone53
def r54 : CRun := runClone
theorem c54 : CallOk Try.prog G35 54 r54 := clone_ok Try.clone54
end Go.Am
