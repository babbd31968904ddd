/- Part of a proof about the functions of the given program. -/
import Derived.Test.YtgdibbphgdkllaaAm38G
import Derived.Test.YtgdibbphgdkllaaAmReg4
set_option linter.unusedVariables false
set_option linter.unusedSimpArgs false
namespace Go.Am
open Go Go.Proofs

/-! gantry/region.Shares -/
def lVG3825 : List CEnt := []
def VG3825 : Env := mkEnv T38 G38 lVG3825
theorem eVG3825 : EOk Try.prog VG3825 := eok_mk (by exact trivial)
def Af25 (F : Nat) : Cuts := { F := F,at_ := fun n => match n with | 5016 => some [(5,.plain),(13,.plain),(14,.plain),(15,.plain)] | _ => none,join := fun n => match n with | 1034 => some [(0,.plain),(1,.plain)] | 3026 => some [(0,.plain),(1,.plain)] | 4024 => some [(0,.plain),(5,.plain)] | 5018 => some [(5,.plain),(13,.plain),(14,.plain),(15,.plain)] | 10003 => some [(5,.plain)] | _ => none,cas := fun n => match n with | 8 => some (7,3) | _ => none }
def ef25_a : (List Int) → St := fun a0 => { tmps := [(0,(.vs (.rI .i64 a0) 0 1)),(1,(.int .i64 (3 : Int)))],heap := [],next := 0,nt := 40,m := 0 }
def ef25j1 : (List Int) → St := fun t0 => { tmps := [(0,(.vs (.rI .i64 t0) 0 1)),(1,(.int .i64 (3 : Int)))],heap := [],next := 0,nt := 40,m := 0 }
def ef25j2 : (List Int) → St := fun t0 => { tmps := [(0,(.vs (.rI .i64 t0) 0 1)),(1,(.int .i64 (3 : Int)))],heap := [],next := 0,nt := 40,m := 0 }
def ef25j3 : (List Int) × (List Int) × (List Int) × (List Int) → St := fun (t0,x2,x3,x4) => { tmps := [(0,(.vs (.rI .i64 t0) 0 1)),(5,(.own 0 0 1))],heap := [(0,(.cells 3 (.segs (.cons 1 (.one (.own 1 0 1)) (.cons 1 (.one (.own 2 0 1)) (.cons 1 (.one (.own 3 0 1)) .nil)))) true)),(1,(.cells x2.length (.rI .i64 x2) true)),(2,(.cells x3.length (.rI .i64 x3) true)),(3,(.cells x4.length (.rI .i64 x4) true))],next := 4,nt := 40,m := 0 }
def ef25j4 : (List Int) × Int × Int × (List Int) × (List Int) × (List Int) → St := fun (t13,t14,t15,x4,x5,x6) => { tmps := [(5,(.own 0 0 1)),(13,(.vs (.rI .i64 t13) 0 1)),(14,(.int .i64 t14)),(15,(.int .i64 t15))],heap := [(0,(.cells 3 (.segs (.cons 1 (.one (.own 1 0 1)) (.cons 1 (.one (.own 2 0 1)) (.cons 1 (.one (.own 3 0 1)) .nil)))) true)),(1,(.cells x4.length (.rI .i64 x4) true)),(2,(.cells x5.length (.rI .i64 x5) true)),(3,(.cells x6.length (.rI .i64 x6) true))],next := 4,nt := 40,m := 0 }
def ef25l1 : (List Int) × Int × Int × (List Int) × (List Int) × (List Int) → St := fun (t13,t14,t15,x4,x5,x6) => { tmps := [(5,(.own 0 0 1)),(13,(.vs (.rI .i64 t13) 0 1)),(14,(.int .i64 t14)),(15,(.int .i64 t15))],heap := [(0,(.cells 3 (.segs (.cons 1 (.one (.own 1 0 1)) (.cons 1 (.one (.own 2 0 1)) (.cons 1 (.one (.own 3 0 1)) .nil)))) true)),(1,(.cells x4.length (.rI .i64 x4) true)),(2,(.cells x5.length (.rI .i64 x5) true)),(3,(.cells x6.length (.rI .i64 x6) true))],next := 4,nt := 40,m := 0 }
def ef25j5 : (List Int) × (List Int) × (List Int) → St := fun (x1,x2,x3) => { tmps := [(5,(.own 0 0 1))],heap := [(0,(.cells 3 (.segs (.cons 1 (.one (.own 1 0 1)) (.cons 1 (.one (.own 2 0 1)) (.cons 1 (.one (.own 3 0 1)) .nil)))) true)),(1,(.cells x1.length (.rI .i64 x1) true)),(2,(.cells x2.length (.rI .i64 x2) true)),(3,(.cells x3.length (.rI .i64 x3) true))],next := 4,nt := 40,m := 0 }
def f25_1 (F : Nat) (kf25j1 : (List Int) → Option (AV × List Blk)) : (List Int) → Option (AV × List Blk) := fun a0 => (kf25j1 a0)
theorem f25_1_eq (F : Nat) (Rf25j1 : St → Option (AV × List Blk)) : ∀ v,aexec VG3825 (Af25 F) (sub (bodyOf Try.f25) [0]) (ef25_a v) (kSeq (fun s => Rf25j1 (cutTo VG3825 (some [(0,.plain),(1,.plain)]) s)) (kFin VG3825 none (Try.f25).results.toList)) = f25_1 F (fun w => Rf25j1 (ef25j1 w)) v := by
  intro a0; kernel_rfl
def f25_2 (F : Nat) (kf25j2 : (List Int) → Option (AV × List Blk)) : (List Int) → Option (AV × List Blk) := fun t0 => (kf25j2 t0)
theorem f25_2_eq (F : Nat) (Rf25j2 : St → Option (AV × List Blk)) : ∀ v,aexec VG3825 (Af25 F) (sub (bodyOf Try.f25) [1,0]) (ef25j1 v) (kSeq (fun s => Rf25j2 (cutTo VG3825 (some [(0,.plain),(1,.plain)]) s)) (kFin VG3825 none (Try.f25).results.toList)) = f25_2 F (fun w => Rf25j2 (ef25j2 w)) v := by
  intro t0; kernel_rfl
def f25_3 (F : Nat) (kf25j3 : (List Int) × (List Int) × (List Int) × (List Int) → Option (AV × List Blk)) : (List Int) → Option (AV × List Blk) := fun t0 => (kf25j3 (t0,[],[],[]))
theorem f25_3_eq (F : Nat) (Rf25j3 : St → Option (AV × List Blk)) : ∀ v,aexec VG3825 (Af25 F) (sub (bodyOf Try.f25) [1,1,0]) (ef25j2 v) (kSeq (fun s => Rf25j3 (cutTo VG3825 (some [(0,.plain),(5,.plain)]) s)) (kFin VG3825 none (Try.f25).results.toList)) = f25_3 F (fun w => Rf25j3 (ef25j3 w)) v := by
  intro t0; kernel_rfl
def f25_4 (F : Nat) (kf25j4 : (List Int) × Int × Int × (List Int) × (List Int) × (List Int) → Option (AV × List Blk)) (kf25j5 : (List Int) × (List Int) × (List Int) → Option (AV × List Blk)) : (List Int) × (List Int) × (List Int) × (List Int) → Option (AV × List Blk) := fun (t0,x2,x3,x4) => (kf25j4 (t0,(↑t0.length : Int),(0 : Int),x2,x3,x4))
theorem f25_4_eq (F : Nat) (Rf25j4 : St → Option (AV × List Blk)) (Rf25j5 : St → Option (AV × List Blk)) : ∀ v,aexec VG3825 (Af25 F) (sub (bodyOf Try.f25) [1,1,1,0,0]) (ef25j3 v) (kSeq (fun s => Rf25j4 (cutTo VG3825 (some [(5,.plain),(13,.plain),(14,.plain),(15,.plain)]) s)) (kSeq (fun s => Rf25j5 (cutTo VG3825 (some [(5,.plain)]) s)) (kFin VG3825 none (Try.f25).results.toList))) = f25_4 F (fun w => Rf25j4 (ef25j4 w)) (fun w => Rf25j5 (ef25j5 w)) v := by
  rintro ⟨t0,x2,x3,x4⟩; kernel_rfl
def f25_5 (F : Nat) (kf25l1 : (List Int) × Int × Int × (List Int) × (List Int) × (List Int) → Option (AV × List Blk)) (kf25j5 : (List Int) × (List Int) × (List Int) → Option (AV × List Blk)) : (List Int) × Int × Int × (List Int) × (List Int) × (List Int) → Option (AV × List Blk) := fun (t13,t14,t15,x4,x5,x6) => (cond (decide (t15 < t14)) (cond ((decide (0 ≤ t15)) && (decide (t15 < (↑t13.length : Int)))) (cond (decide ((t13.getD (Int.toNat t15) 0) ≥ (0 : Int))) (cond (decide ((t13.getD (Int.toNat t15) 0) < (3 : Int))) (cond (decide ((t13.getD (Int.toNat t15) 0) = (0 : Int))) (cond (decide ((x4.length + 1) < 1073741824)) (kf25l1 (t13,t14,(IntKind.i64.wrap (t15 + (1 : Int))),(x4 ++ [t15]),x5,x6)) none) (cond (decide ((t13.getD (Int.toNat t15) 0) = (1 : Int))) (cond (decide ((x5.length + 1) < 1073741824)) (kf25l1 (t13,t14,(IntKind.i64.wrap (t15 + (1 : Int))),x4,(x5 ++ [t15]),x6)) none) (cond (decide ((t13.getD (Int.toNat t15) 0) = (2 : Int))) (cond (decide ((x6.length + 1) < 1073741824)) (kf25l1 (t13,t14,(IntKind.i64.wrap (t15 + (1 : Int))),x4,x5,(x6 ++ [t15]))) none) none))) (kf25l1 (t13,t14,(IntKind.i64.wrap (t15 + (1 : Int))),x4,x5,x6))) (kf25l1 (t13,t14,(IntKind.i64.wrap (t15 + (1 : Int))),x4,x5,x6))) none) (kf25j5 (x4,x5,x6)))
theorem f25_5_eq (F : Nat) (Rf25l1 : St → Option (AV × List Blk)) (Rf25j5 : St → Option (AV × List Blk)) : ∀ v,aexec VG3825 (Af25 F) (sub (bodyOf Try.f25) [1,1,1,0,1,0,0]) (ef25l1 v) (kSeq (fun s => Rf25l1 (cutTo VG3825 (some [(5,.plain),(13,.plain),(14,.plain),(15,.plain)]) s)) (kBlock 0 (kSeq (fun s => Rf25j5 (cutTo VG3825 (some [(5,.plain)]) s)) (kFin VG3825 none (Try.f25).results.toList)))) = f25_5 F (fun w => Rf25l1 (ef25l1 w)) (fun w => Rf25j5 (ef25j5 w)) v := by
  rintro ⟨t13,t14,t15,x4,x5,x6⟩; kernel_rfl
def f25_6_i : (List Int) × Int × Int × (List Int) × (List Int) × (List Int) → (List Int) × Int × Int × (List Int) × (List Int) × (List Int) := fun (t13,t14,t15,x4,x5,x6) => (t13,t14,t15,x4,x5,x6)
def f25_6 (F : Nat) (kf25j5 : (List Int) × (List Int) × (List Int) → Option (AV × List Blk)) : (List Int) × Int × Int × (List Int) × (List Int) × (List Int) → Option (AV × List Blk) := fun v => loopN (fun k => f25_5 F k kf25j5) F (f25_6_i v)
theorem f25_6_eq (F : Nat) (Rf25j5 : St → Option (AV × List Blk)) : ∀ v,aexec VG3825 (Af25 F) (sub (bodyOf Try.f25) [1,1,1,0,1,0]) (ef25j4 v) (kBlock 0 (kSeq (fun s => Rf25j5 (cutTo VG3825 (some [(5,.plain)]) s)) (kFin VG3825 none (Try.f25).results.toList))) = f25_6 F (fun w => Rf25j5 (ef25j5 w)) v :=
  loop_cut (c := (sub (bodyOf Try.f25) [1,1,1,0,1,0])) (d := (sub (bodyOf Try.f25) [1,1,1,0,1,0,0])) (by kernel_rfl) (spec := [(5,.plain),(13,.plain),(14,.plain),(15,.plain)]) (by kernel_rfl) ef25j4 ef25l1 (kBlock 0 (kSeq (fun s => Rf25j5 (cutTo VG3825 (some [(5,.plain)]) s)) (kFin VG3825 none (Try.f25).results.toList))) f25_6_i (fun k => f25_5 F k (fun w => Rf25j5 (ef25j5 w)))
    (by rintro ⟨t13,t14,t15,x4,x5,x6⟩; kernel_rfl) (fun Rf25l1 => f25_5_eq F Rf25l1 Rf25j5)
def f25_7 (F : Nat) (kf25j5 : (List Int) × (List Int) × (List Int) → Option (AV × List Blk)) : (List Int) × Int × Int × (List Int) × (List Int) × (List Int) → Option (AV × List Blk) := f25_6 F kf25j5
theorem f25_7_eq (F : Nat) (Rf25j5 : St → Option (AV × List Blk)) : ∀ v,aexec VG3825 (Af25 F) (sub (bodyOf Try.f25) [1,1,1,0,1]) (ef25j4 v) (kSeq (fun s => Rf25j5 (cutTo VG3825 (some [(5,.plain)]) s)) (kFin VG3825 none (Try.f25).results.toList)) = f25_7 F (fun w => Rf25j5 (ef25j5 w)) v := fun v =>
  (block_in (c := (sub (bodyOf Try.f25) [1,1,1,0,1])) (d := (sub (bodyOf Try.f25) [1,1,1,0,1,0])) (id := 0) (by kernel_rfl) _ _).trans (f25_6_eq F Rf25j5 v)
def f25_8 (F : Nat) (kf25j5 : (List Int) × (List Int) × (List Int) → Option (AV × List Blk)) : (List Int) × (List Int) × (List Int) × (List Int) → Option (AV × List Blk) := fun v => f25_4 F (f25_7 F kf25j5) kf25j5 v
theorem f25_8_eq (F : Nat) (Rf25j5 : St → Option (AV × List Blk)) : ∀ v,aexec VG3825 (Af25 F) (sub (bodyOf Try.f25) [1,1,1,0]) (ef25j3 v) (kSeq (fun s => Rf25j5 (cutTo VG3825 (some [(5,.plain)]) s)) (kFin VG3825 none (Try.f25).results.toList)) = f25_8 F (fun w => Rf25j5 (ef25j5 w)) v :=
  seq_cut (c := (sub (bodyOf Try.f25) [1,1,1,0])) (a := (sub (bodyOf Try.f25) [1,1,1,0,0])) (b := (sub (bodyOf Try.f25) [1,1,1,0,1])) (by kernel_rfl) (spec := [(5,.plain),(13,.plain),(14,.plain),(15,.plain)]) (by kernel_rfl) ef25j3 ef25j4 (kSeq (fun s => Rf25j5 (cutTo VG3825 (some [(5,.plain)]) s)) (kFin VG3825 none (Try.f25).results.toList)) (fun k => f25_4 F k (fun w => Rf25j5 (ef25j5 w))) (f25_7 F (fun w => Rf25j5 (ef25j5 w)))
    (fun Rf25j4 => f25_4_eq F Rf25j4 Rf25j5) (f25_7_eq F Rf25j5)
def f25_9 (F : Nat) : (List Int) × (List Int) × (List Int) → Option (AV × List Blk) := fun (x1,x2,x3) => (some ((.own 0 0 1),[(.cells 3 (.segs (.cons 1 (.one (.own 1 0 1)) (.cons 1 (.one (.own 2 0 1)) (.cons 1 (.one (.own 3 0 1)) .nil)))) true),(.cells x1.length (.rI .i64 x1) true),(.cells x2.length (.rI .i64 x2) true),(.cells x3.length (.rI .i64 x3) true)]))
theorem f25_9_eq (F : Nat) : ∀ v,aexec VG3825 (Af25 F) (sub (bodyOf Try.f25) [1,1,1,1]) (ef25j5 v) (kFin VG3825 none (Try.f25).results.toList) = f25_9 F v := by
  rintro ⟨x1,x2,x3⟩; kernel_rfl
def f25_10 (F : Nat) : (List Int) × (List Int) × (List Int) × (List Int) → Option (AV × List Blk) := fun v => f25_8 F (f25_9 F) v
theorem f25_10_eq (F : Nat) : ∀ v,aexec VG3825 (Af25 F) (sub (bodyOf Try.f25) [1,1,1]) (ef25j3 v) (kFin VG3825 none (Try.f25).results.toList) = f25_10 F v :=
  seq_cut (c := (sub (bodyOf Try.f25) [1,1,1])) (a := (sub (bodyOf Try.f25) [1,1,1,0])) (b := (sub (bodyOf Try.f25) [1,1,1,1])) (by kernel_rfl) (spec := [(5,.plain)]) (by kernel_rfl) ef25j3 ef25j5 (kFin VG3825 none (Try.f25).results.toList) (fun k => f25_8 F k) (f25_9 F)
    (fun Rf25j5 => f25_8_eq F Rf25j5) (f25_9_eq F)
def f25_11 (F : Nat) : (List Int) → Option (AV × List Blk) := fun v => f25_3 F (f25_10 F) v
theorem f25_11_eq (F : Nat) : ∀ v,aexec VG3825 (Af25 F) (sub (bodyOf Try.f25) [1,1]) (ef25j2 v) (kFin VG3825 none (Try.f25).results.toList) = f25_11 F v :=
  seq_cut (c := (sub (bodyOf Try.f25) [1,1])) (a := (sub (bodyOf Try.f25) [1,1,0])) (b := (sub (bodyOf Try.f25) [1,1,1])) (by kernel_rfl) (spec := [(0,.plain),(5,.plain)]) (by kernel_rfl) ef25j2 ef25j3 (kFin VG3825 none (Try.f25).results.toList) (fun k => f25_3 F k) (f25_10 F)
    (fun Rf25j3 => f25_3_eq F Rf25j3) (f25_10_eq F)
def f25_12 (F : Nat) : (List Int) → Option (AV × List Blk) := fun v => f25_2 F (f25_11 F) v
theorem f25_12_eq (F : Nat) : ∀ v,aexec VG3825 (Af25 F) (sub (bodyOf Try.f25) [1]) (ef25j1 v) (kFin VG3825 none (Try.f25).results.toList) = f25_12 F v :=
  seq_cut (c := (sub (bodyOf Try.f25) [1])) (a := (sub (bodyOf Try.f25) [1,0])) (b := (sub (bodyOf Try.f25) [1,1])) (by kernel_rfl) (spec := [(0,.plain),(1,.plain)]) (by kernel_rfl) ef25j1 ef25j2 (kFin VG3825 none (Try.f25).results.toList) (fun k => f25_2 F k) (f25_11 F)
    (fun Rf25j2 => f25_2_eq F Rf25j2) (f25_11_eq F)
def f25_13 (F : Nat) : (List Int) → Option (AV × List Blk) := fun v => f25_1 F (f25_12 F) v
theorem f25_13_eq (F : Nat) : ∀ v,aexec VG3825 (Af25 F) (sub (bodyOf Try.f25) []) (ef25_a v) (kFin VG3825 none (Try.f25).results.toList) = f25_13 F v :=
  seq_cut (c := (sub (bodyOf Try.f25) [])) (a := (sub (bodyOf Try.f25) [0])) (b := (sub (bodyOf Try.f25) [1])) (by kernel_rfl) (spec := [(0,.plain),(1,.plain)]) (by kernel_rfl) ef25_a ef25j1 (kFin VG3825 none (Try.f25).results.toList) (fun k => f25_1 F k) (f25_12 F)
    (fun Rf25j1 => f25_1_eq F Rf25j1) (f25_12_eq F)
/-- gantry/region.Shares -/
def f25 (F : Nat) : (List Int) → Option (AV × List Blk) := f25_13 F
theorem f25_body (F : Nat) (a0 : List Int) : abody VG3825 (Af25 F) Try.f25 [(.vs (.rI .i64 a0) 0 1),(.int .i64 (3 : Int))] [] = f25 F a0 :=
  (abody_in (c := (sub (bodyOf Try.f25) [])) (by kernel_rfl) (s := ef25_a a0) (by kernel_rfl)).trans (f25_13_eq F a0)
def r25 : CRun := fun X H => match X,H with
  | [(.vs (.rI .i64 a0) 0 1),(.int .i64 (3 : Int))],[] => some ((decide (a0.length < 1073741000)),(.own 0 0 1),[(.cells 3 (.segs (.cons 1 (.one (.own 1 0 1)) (.cons 1 (.one (.own 2 0 1)) (.cons 1 (.one (.own 3 0 1)) .nil)))) true),(.cells (Reg.ofHost a0 0).length (.rI .i64 (Reg.ofHost a0 0)) true),(.cells (Reg.ofHost a0 1).length (.rI .i64 (Reg.ofHost a0 1)) true),(.cells (Reg.ofHost a0 2).length (.rI .i64 (Reg.ofHost a0 2)) true)])
  | _,_ => none
theorem s25 (a0 : List Int) (hp : ((decide (a0.length < 1073741000))) = true) (h0 : okV (.vs (.rI .i64 a0) 0 1)) (h1 : okV (.int .i64 (3 : Int))) : ∃ F,f25 F a0 = some ((.own 0 0 1),[(.cells 3 (.segs (.cons 1 (.one (.own 1 0 1)) (.cons 1 (.one (.own 2 0 1)) (.cons 1 (.one (.own 3 0 1)) .nil)))) true),(.cells (Reg.ofHost a0 0).length (.rI .i64 (Reg.ofHost a0 0)) true),(.cells (Reg.ofHost a0 1).length (.rI .i64 (Reg.ofHost a0 1)) true),(.cells (Reg.ofHost a0 2).length (.rI .i64 (Reg.ofHost a0 2)) true)]) := by
  simp only [decide_eq_true_eq] at hp
  refine ⟨a0.length + 1,?_⟩
  simp only [f25,f25_13,f25_1,f25_12,f25_2,f25_11,f25_3,f25_10,f25_8,f25_4,f25_7,f25_6,f25_6_i]
  refine loopN_from (fun i => (a0,(a0.length : Int),(i : Int),Reg.ohTo a0 0 i,Reg.ohTo a0 1 i,Reg.ohTo a0 2 i)) a0.length (by rfl) (fun i hi k => ?_) (fun k => ?_) _ (by omega)
  · simp only [f25_5,dec_and,Reg.ohTo_succ]
    have l0 := Reg.ohTo_len_le a0 0 i
    have l1 := Reg.ohTo_len_le a0 1 i
    have l2 := Reg.ohTo_len_le a0 2 i
    rw [cond_pos (by omega),cond_pos (by omega),Int.toNat_natCast,i64w (by omega) (by omega)]
    generalize a0.getD i 0 = q
    by_cases h3 : q ≥ 0
    · rw [cond_pos h3]
      by_cases h4 : q < 3
      · rw [cond_pos h4]
        by_cases q0 : q = 0
        · subst q0; rw [cond_pos rfl,cond_pos (by omega)]; simp
        rw [cond_neg q0]
        by_cases q1 : q = 1
        · subst q1; rw [cond_pos rfl,cond_pos (by omega)]; simp
        rw [cond_neg q1]
        have q2 : q = 2 := by omega
        subst q2; rw [cond_pos rfl,cond_pos (by omega)]; simp
      · rw [cond_neg h4,if_neg (by omega),if_neg (by omega),if_neg (by omega)]; simp
    · rw [cond_neg h3,if_neg (by omega),if_neg (by omega),if_neg (by omega)]; simp
  · simp only [f25_5,f25_9]
    rw [cond_neg (by omega)]
    rfl

theorem c25 : CallOk Try.prog G38 25 r25 := callOk_of (V := VG3825) mixed tys eVG3825 (f := 25) (fn := Try.f25) Try.func25 (by kernel_rfl) (c := sub (bodyOf Try.f25) []) (by kernel_rfl) (by
  intro X H r H' h hX hH
  unfold r25 at h; split at h <;> try contradiction
  · simp only [Option.some.injEq,Prod.mk.injEq] at h
    obtain ⟨hp,rfl,rfl⟩ := h
    obtain ⟨F,hF⟩ := s25 _ hp (hX _ (.head _)) (hX _ (.tail _ (.head _)))
    exact ⟨Af25 F,(f25_body F _).trans hF⟩)
/-! gantry/gantrylaw38.least -/
def r26 (D : Nat) : CRun := fun X H => match X,H with
  | [(.vs (.rL .i64 a0) 0 1),(.int .i64 a1),(.vs (.rI .i64 a2) 0 1)],[] => some ((Reg.leastOk a0 a1 a2 D),(.int .i64 (Reg.least (a0.drop (Int.toNat a1)) a2)),[])
  | _,_ => none
def lVG3826 (F : Nat) : List CEnt := [(26,[some 22,none,some 3],r26 (F - 1))]
def VG3826 (F : Nat) : Env := mkEnv T38 G38 (lVG3826 F)
theorem eVG3826 (F : Nat) (hrec : CallOk Try.prog G38 26 (r26 (F - 1))) : EOk Try.prog (VG3826 F) := eok_mk (by exact ⟨hrec,trivial⟩)
def Af26 (F : Nat) : Cuts := { F := F,at_ := fun n => match n with | 4010 => some [(2,.plain),(7,.plain),(8,.plain)] | 10014 => some [(0,.plain),(1,.plain),(2,.plain),(9,.plain),(10,.plain)] | _ => none,join := fun n => match n with | 1049 => some [(0,.plain),(1,.plain),(2,.plain)] | 2022 => some [(0,.plain),(1,.plain),(2,.plain),(15,.plain)] | 3018 => some [(2,.plain),(7,.plain)] | 4012 => some [(2,.plain),(7,.plain),(8,.plain)] | 7003 => some [(7,.plain)] | 8024 => some [(0,.plain),(1,.plain),(2,.plain)] | 9022 => some [(0,.plain),(1,.plain),(2,.plain),(9,.plain)] | 10016 => some [(0,.plain),(1,.plain),(2,.plain),(9,.plain),(10,.plain)] | 15003 => some [(9,.plain)] | _ => none }
def ef26_a : (List (List Int)) × Int × (List Int) → St := fun (a0,a1,a2) => { tmps := [(0,(.vs (.rL .i64 a0) 0 1)),(1,(.int .i64 a1)),(2,(.vs (.rI .i64 a2) 0 1))],heap := [],next := 0,nt := 59,m := 0 }
def ef26j1 : (List (List Int)) × Int × (List Int) → St := fun (t0,t1,t2) => { tmps := [(0,(.vs (.rL .i64 t0) 0 1)),(1,(.int .i64 t1)),(2,(.vs (.rI .i64 t2) 0 1))],heap := [],next := 0,nt := 59,m := 0 }
def ef26j2 : (List (List Int)) × Int × (List Int) × Bool → St := fun (t0,t1,t2,t15) => { tmps := [(0,(.vs (.rL .i64 t0) 0 1)),(1,(.int .i64 t1)),(2,(.vs (.rI .i64 t2) 0 1)),(15,(.bool t15))],heap := [],next := 0,nt := 59,m := 0 }
def ef26j3 : (List Int) × Int → St := fun (t2,t7) => { tmps := [(2,(.vs (.rI .i64 t2) 0 1)),(7,(.int .i64 t7))],heap := [],next := 0,nt := 59,m := 0 }
def ef26j4 : (List Int) × Int × Int → St := fun (t2,t7,t8) => { tmps := [(2,(.vs (.rI .i64 t2) 0 1)),(7,(.int .i64 t7)),(8,(.int .i64 t8))],heap := [],next := 0,nt := 59,m := 0 }
def ef26l1 : (List Int) × Int × Int → St := fun (t2,t7,t8) => { tmps := [(2,(.vs (.rI .i64 t2) 0 1)),(7,(.int .i64 t7)),(8,(.int .i64 t8))],heap := [],next := 0,nt := 59,m := 0 }
def ef26j5 : Int → St := fun t7 => { tmps := [(7,(.int .i64 t7))],heap := [],next := 0,nt := 59,m := 0 }
def ef26j6 : (List (List Int)) × Int × (List Int) → St := fun (t0,t1,t2) => { tmps := [(0,(.vs (.rL .i64 t0) 0 1)),(1,(.int .i64 t1)),(2,(.vs (.rI .i64 t2) 0 1))],heap := [],next := 0,nt := 59,m := 0 }
def ef26j7 : (List (List Int)) × Int × (List Int) × Int → St := fun (t0,t1,t2,t9) => { tmps := [(0,(.vs (.rL .i64 t0) 0 1)),(1,(.int .i64 t1)),(2,(.vs (.rI .i64 t2) 0 1)),(9,(.int .i64 t9))],heap := [],next := 0,nt := 59,m := 0 }
def ef26j8 : (List (List Int)) × Int × (List Int) × Int × Int → St := fun (t0,t1,t2,t9,t10) => { tmps := [(0,(.vs (.rL .i64 t0) 0 1)),(1,(.int .i64 t1)),(2,(.vs (.rI .i64 t2) 0 1)),(9,(.int .i64 t9)),(10,(.int .i64 t10))],heap := [],next := 0,nt := 59,m := 0 }
def ef26l2 : (List (List Int)) × Int × (List Int) × Int × Int → St := fun (t0,t1,t2,t9,t10) => { tmps := [(0,(.vs (.rL .i64 t0) 0 1)),(1,(.int .i64 t1)),(2,(.vs (.rI .i64 t2) 0 1)),(9,(.int .i64 t9)),(10,(.int .i64 t10))],heap := [],next := 0,nt := 59,m := 0 }
def ef26j9 : Int → St := fun t9 => { tmps := [(9,(.int .i64 t9))],heap := [],next := 0,nt := 59,m := 0 }
def f26_1 (F : Nat) (kf26j1 : (List (List Int)) × Int × (List Int) → Option (AV × List Blk)) : (List (List Int)) × Int × (List Int) → Option (AV × List Blk) := fun (a0,a1,a2) => (kf26j1 (a0,a1,a2))
theorem f26_1_eq (F : Nat) (Rf26j1 : St → Option (AV × List Blk)) : ∀ v,aexec (VG3826 F) (Af26 F) (sub (bodyOf Try.f26) [0]) (ef26_a v) (kSeq (fun s => Rf26j1 (cutTo (VG3826 F) (some [(0,.plain),(1,.plain),(2,.plain)]) s)) (kFin (VG3826 F) none (Try.f26).results.toList)) = f26_1 F (fun w => Rf26j1 (ef26j1 w)) v := by
  rintro ⟨a0,a1,a2⟩; kernel_rfl
def f26_2 (F : Nat) (kf26j2 : (List (List Int)) × Int × (List Int) × Bool → Option (AV × List Blk)) (kf26j6 : (List (List Int)) × Int × (List Int) → Option (AV × List Blk)) : (List (List Int)) × Int × (List Int) → Option (AV × List Blk) := fun (t0,t1,t2) => (kf26j2 (t0,t1,t2,(decide (t1 ≥ (↑t0.length : Int)))))
theorem f26_2_eq (F : Nat) (Rf26j2 : St → Option (AV × List Blk)) (Rf26j6 : St → Option (AV × List Blk)) : ∀ v,aexec (VG3826 F) (Af26 F) (sub (bodyOf Try.f26) [1,0,0]) (ef26j1 v) (kSeq (fun s => Rf26j2 (cutTo (VG3826 F) (some [(0,.plain),(1,.plain),(2,.plain),(15,.plain)]) s)) (kSeq (fun s => Rf26j6 (cutTo (VG3826 F) (some [(0,.plain),(1,.plain),(2,.plain)]) s)) (kFin (VG3826 F) none (Try.f26).results.toList))) = f26_2 F (fun w => Rf26j2 (ef26j2 w)) (fun w => Rf26j6 (ef26j6 w)) v := by
  rintro ⟨t0,t1,t2⟩; kernel_rfl
def f26_3 (F : Nat) (kf26j3 : (List Int) × Int → Option (AV × List Blk)) (kf26j6 : (List (List Int)) × Int × (List Int) → Option (AV × List Blk)) : (List (List Int)) × Int × (List Int) × Bool → Option (AV × List Blk) := fun (t0,t1,t2,t15) => (kf26j3 (t2,(0 : Int)))
theorem f26_3_eq (F : Nat) (Rf26j3 : St → Option (AV × List Blk)) (Rf26j6 : St → Option (AV × List Blk)) : ∀ v,aexec (VG3826 F) (Af26 F) (sub (bodyOf Try.f26) [1,0,1,0,0]) (ef26j2 v) (kSeq (fun s => Rf26j3 (cutTo (VG3826 F) (some [(2,.plain),(7,.plain)]) s)) (kSeq (fun s => Rf26j6 (cutTo (VG3826 F) (some [(0,.plain),(1,.plain),(2,.plain)]) s)) (kFin (VG3826 F) none (Try.f26).results.toList))) = f26_3 F (fun w => Rf26j3 (ef26j3 w)) (fun w => Rf26j6 (ef26j6 w)) v := by
  rintro ⟨t0,t1,t2,t15⟩; kernel_rfl
def f26_4 (F : Nat) (kf26j4 : (List Int) × Int × Int → Option (AV × List Blk)) (kf26j5 : Int → Option (AV × List Blk)) (kf26j6 : (List (List Int)) × Int × (List Int) → Option (AV × List Blk)) : (List Int) × Int → Option (AV × List Blk) := fun (t2,t7) => (kf26j4 (t2,t7,(0 : Int)))
theorem f26_4_eq (F : Nat) (Rf26j4 : St → Option (AV × List Blk)) (Rf26j5 : St → Option (AV × List Blk)) (Rf26j6 : St → Option (AV × List Blk)) : ∀ v,aexec (VG3826 F) (Af26 F) (sub (bodyOf Try.f26) [1,0,1,0,1,0,0]) (ef26j3 v) (kSeq (fun s => Rf26j4 (cutTo (VG3826 F) (some [(2,.plain),(7,.plain),(8,.plain)]) s)) (kSeq (fun s => Rf26j5 (cutTo (VG3826 F) (some [(7,.plain)]) s)) (kSeq (fun s => Rf26j6 (cutTo (VG3826 F) (some [(0,.plain),(1,.plain),(2,.plain)]) s)) (kFin (VG3826 F) none (Try.f26).results.toList)))) = f26_4 F (fun w => Rf26j4 (ef26j4 w)) (fun w => Rf26j5 (ef26j5 w)) (fun w => Rf26j6 (ef26j6 w)) v := by
  rintro ⟨t2,t7⟩; kernel_rfl
def f26_5 (F : Nat) (kf26l1 : (List Int) × Int × Int → Option (AV × List Blk)) (kf26j5 : Int → Option (AV × List Blk)) (kf26j6 : (List (List Int)) × Int × (List Int) → Option (AV × List Blk)) : (List Int) × Int × Int → Option (AV × List Blk) := fun (t2,t7,t8) => (cond (decide (t8 < (↑t2.length : Int))) (cond ((decide (0 ≤ t8)) && (decide (t8 < (↑t2.length : Int)))) (kf26l1 (t2,(if (t2.getD (Int.toNat t8) 0) > t7 then (t2.getD (Int.toNat t8) 0) else t7),(IntKind.i64.wrap (t8 + (1 : Int))))) none) (kf26j5 t7))
theorem f26_5_eq (F : Nat) (Rf26l1 : St → Option (AV × List Blk)) (Rf26j5 : St → Option (AV × List Blk)) (Rf26j6 : St → Option (AV × List Blk)) : ∀ v,aexec (VG3826 F) (Af26 F) (sub (bodyOf Try.f26) [1,0,1,0,1,0,1,0,0]) (ef26l1 v) (kSeq (fun s => Rf26l1 (cutTo (VG3826 F) (some [(2,.plain),(7,.plain),(8,.plain)]) s)) (kBlock 0 (kSeq (fun s => Rf26j5 (cutTo (VG3826 F) (some [(7,.plain)]) s)) (kSeq (fun s => Rf26j6 (cutTo (VG3826 F) (some [(0,.plain),(1,.plain),(2,.plain)]) s)) (kFin (VG3826 F) none (Try.f26).results.toList))))) = f26_5 F (fun w => Rf26l1 (ef26l1 w)) (fun w => Rf26j5 (ef26j5 w)) (fun w => Rf26j6 (ef26j6 w)) v := by
  rintro ⟨t2,t7,t8⟩; kernel_rfl
def f26_6_i : (List Int) × Int × Int → (List Int) × Int × Int := fun (t2,t7,t8) => (t2,t7,t8)
def f26_6 (F : Nat) (kf26j5 : Int → Option (AV × List Blk)) (kf26j6 : (List (List Int)) × Int × (List Int) → Option (AV × List Blk)) : (List Int) × Int × Int → Option (AV × List Blk) := fun v => loopN (fun k => f26_5 F k kf26j5 kf26j6) F (f26_6_i v)
theorem f26_6_eq (F : Nat) (Rf26j5 : St → Option (AV × List Blk)) (Rf26j6 : St → Option (AV × List Blk)) : ∀ v,aexec (VG3826 F) (Af26 F) (sub (bodyOf Try.f26) [1,0,1,0,1,0,1,0]) (ef26j4 v) (kBlock 0 (kSeq (fun s => Rf26j5 (cutTo (VG3826 F) (some [(7,.plain)]) s)) (kSeq (fun s => Rf26j6 (cutTo (VG3826 F) (some [(0,.plain),(1,.plain),(2,.plain)]) s)) (kFin (VG3826 F) none (Try.f26).results.toList)))) = f26_6 F (fun w => Rf26j5 (ef26j5 w)) (fun w => Rf26j6 (ef26j6 w)) v :=
  loop_cut (c := (sub (bodyOf Try.f26) [1,0,1,0,1,0,1,0])) (d := (sub (bodyOf Try.f26) [1,0,1,0,1,0,1,0,0])) (by kernel_rfl) (spec := [(2,.plain),(7,.plain),(8,.plain)]) (by kernel_rfl) ef26j4 ef26l1 (kBlock 0 (kSeq (fun s => Rf26j5 (cutTo (VG3826 F) (some [(7,.plain)]) s)) (kSeq (fun s => Rf26j6 (cutTo (VG3826 F) (some [(0,.plain),(1,.plain),(2,.plain)]) s)) (kFin (VG3826 F) none (Try.f26).results.toList)))) f26_6_i (fun k => f26_5 F k (fun w => Rf26j5 (ef26j5 w)) (fun w => Rf26j6 (ef26j6 w)))
    (by rintro ⟨t2,t7,t8⟩; kernel_rfl) (fun Rf26l1 => f26_5_eq F Rf26l1 Rf26j5 Rf26j6)
def f26_7 (F : Nat) (kf26j5 : Int → Option (AV × List Blk)) (kf26j6 : (List (List Int)) × Int × (List Int) → Option (AV × List Blk)) : (List Int) × Int × Int → Option (AV × List Blk) := f26_6 F kf26j5 kf26j6
theorem f26_7_eq (F : Nat) (Rf26j5 : St → Option (AV × List Blk)) (Rf26j6 : St → Option (AV × List Blk)) : ∀ v,aexec (VG3826 F) (Af26 F) (sub (bodyOf Try.f26) [1,0,1,0,1,0,1]) (ef26j4 v) (kSeq (fun s => Rf26j5 (cutTo (VG3826 F) (some [(7,.plain)]) s)) (kSeq (fun s => Rf26j6 (cutTo (VG3826 F) (some [(0,.plain),(1,.plain),(2,.plain)]) s)) (kFin (VG3826 F) none (Try.f26).results.toList))) = f26_7 F (fun w => Rf26j5 (ef26j5 w)) (fun w => Rf26j6 (ef26j6 w)) v := fun v =>
  (block_in (c := (sub (bodyOf Try.f26) [1,0,1,0,1,0,1])) (d := (sub (bodyOf Try.f26) [1,0,1,0,1,0,1,0])) (id := 0) (by kernel_rfl) _ _).trans (f26_6_eq F Rf26j5 Rf26j6 v)
def f26_8 (F : Nat) (kf26j5 : Int → Option (AV × List Blk)) (kf26j6 : (List (List Int)) × Int × (List Int) → Option (AV × List Blk)) : (List Int) × Int → Option (AV × List Blk) := fun v => f26_4 F (f26_7 F kf26j5 kf26j6) kf26j5 kf26j6 v
theorem f26_8_eq (F : Nat) (Rf26j5 : St → Option (AV × List Blk)) (Rf26j6 : St → Option (AV × List Blk)) : ∀ v,aexec (VG3826 F) (Af26 F) (sub (bodyOf Try.f26) [1,0,1,0,1,0]) (ef26j3 v) (kSeq (fun s => Rf26j5 (cutTo (VG3826 F) (some [(7,.plain)]) s)) (kSeq (fun s => Rf26j6 (cutTo (VG3826 F) (some [(0,.plain),(1,.plain),(2,.plain)]) s)) (kFin (VG3826 F) none (Try.f26).results.toList))) = f26_8 F (fun w => Rf26j5 (ef26j5 w)) (fun w => Rf26j6 (ef26j6 w)) v :=
  seq_cut (c := (sub (bodyOf Try.f26) [1,0,1,0,1,0])) (a := (sub (bodyOf Try.f26) [1,0,1,0,1,0,0])) (b := (sub (bodyOf Try.f26) [1,0,1,0,1,0,1])) (by kernel_rfl) (spec := [(2,.plain),(7,.plain),(8,.plain)]) (by kernel_rfl) ef26j3 ef26j4 (kSeq (fun s => Rf26j5 (cutTo (VG3826 F) (some [(7,.plain)]) s)) (kSeq (fun s => Rf26j6 (cutTo (VG3826 F) (some [(0,.plain),(1,.plain),(2,.plain)]) s)) (kFin (VG3826 F) none (Try.f26).results.toList))) (fun k => f26_4 F k (fun w => Rf26j5 (ef26j5 w)) (fun w => Rf26j6 (ef26j6 w))) (f26_7 F (fun w => Rf26j5 (ef26j5 w)) (fun w => Rf26j6 (ef26j6 w)))
    (fun Rf26j4 => f26_4_eq F Rf26j4 Rf26j5 Rf26j6) (f26_7_eq F Rf26j5 Rf26j6)
def f26_9 (F : Nat) (kf26j6 : (List (List Int)) × Int × (List Int) → Option (AV × List Blk)) : Int → Option (AV × List Blk) := fun t7 => (some ((.int .i64 t7),[]))
theorem f26_9_eq (F : Nat) (Rf26j6 : St → Option (AV × List Blk)) : ∀ v,aexec (VG3826 F) (Af26 F) (sub (bodyOf Try.f26) [1,0,1,0,1,1]) (ef26j5 v) (kSeq (fun s => Rf26j6 (cutTo (VG3826 F) (some [(0,.plain),(1,.plain),(2,.plain)]) s)) (kFin (VG3826 F) none (Try.f26).results.toList)) = f26_9 F (fun w => Rf26j6 (ef26j6 w)) v := by
  intro t7; kernel_rfl
def f26_10 (F : Nat) (kf26j6 : (List (List Int)) × Int × (List Int) → Option (AV × List Blk)) : (List Int) × Int → Option (AV × List Blk) := fun v => f26_8 F (f26_9 F kf26j6) kf26j6 v
theorem f26_10_eq (F : Nat) (Rf26j6 : St → Option (AV × List Blk)) : ∀ v,aexec (VG3826 F) (Af26 F) (sub (bodyOf Try.f26) [1,0,1,0,1]) (ef26j3 v) (kSeq (fun s => Rf26j6 (cutTo (VG3826 F) (some [(0,.plain),(1,.plain),(2,.plain)]) s)) (kFin (VG3826 F) none (Try.f26).results.toList)) = f26_10 F (fun w => Rf26j6 (ef26j6 w)) v :=
  seq_cut (c := (sub (bodyOf Try.f26) [1,0,1,0,1])) (a := (sub (bodyOf Try.f26) [1,0,1,0,1,0])) (b := (sub (bodyOf Try.f26) [1,0,1,0,1,1])) (by kernel_rfl) (spec := [(7,.plain)]) (by kernel_rfl) ef26j3 ef26j5 (kSeq (fun s => Rf26j6 (cutTo (VG3826 F) (some [(0,.plain),(1,.plain),(2,.plain)]) s)) (kFin (VG3826 F) none (Try.f26).results.toList)) (fun k => f26_8 F k (fun w => Rf26j6 (ef26j6 w))) (f26_9 F (fun w => Rf26j6 (ef26j6 w)))
    (fun Rf26j5 => f26_8_eq F Rf26j5 Rf26j6) (f26_9_eq F Rf26j6)
def f26_11 (F : Nat) (kf26j6 : (List (List Int)) × Int × (List Int) → Option (AV × List Blk)) : (List (List Int)) × Int × (List Int) × Bool → Option (AV × List Blk) := fun v => f26_3 F (f26_10 F kf26j6) kf26j6 v
theorem f26_11_eq (F : Nat) (Rf26j6 : St → Option (AV × List Blk)) : ∀ v,aexec (VG3826 F) (Af26 F) (sub (bodyOf Try.f26) [1,0,1,0]) (ef26j2 v) (kSeq (fun s => Rf26j6 (cutTo (VG3826 F) (some [(0,.plain),(1,.plain),(2,.plain)]) s)) (kFin (VG3826 F) none (Try.f26).results.toList)) = f26_11 F (fun w => Rf26j6 (ef26j6 w)) v :=
  seq_cut (c := (sub (bodyOf Try.f26) [1,0,1,0])) (a := (sub (bodyOf Try.f26) [1,0,1,0,0])) (b := (sub (bodyOf Try.f26) [1,0,1,0,1])) (by kernel_rfl) (spec := [(2,.plain),(7,.plain)]) (by kernel_rfl) ef26j2 ef26j3 (kSeq (fun s => Rf26j6 (cutTo (VG3826 F) (some [(0,.plain),(1,.plain),(2,.plain)]) s)) (kFin (VG3826 F) none (Try.f26).results.toList)) (fun k => f26_3 F k (fun w => Rf26j6 (ef26j6 w))) (f26_10 F (fun w => Rf26j6 (ef26j6 w)))
    (fun Rf26j3 => f26_3_eq F Rf26j3 Rf26j6) (f26_10_eq F Rf26j6)
def f26_12 (F : Nat) (kf26j6 : (List (List Int)) × Int × (List Int) → Option (AV × List Blk)) : (List (List Int)) × Int × (List Int) × Bool → Option (AV × List Blk) := fun (t0,t1,t2,t15) => (kf26j6 (t0,t1,t2))
theorem f26_12_eq (F : Nat) (Rf26j6 : St → Option (AV × List Blk)) : ∀ v,aexec (VG3826 F) (Af26 F) (sub (bodyOf Try.f26) [1,0,1,1]) (ef26j2 v) (kSeq (fun s => Rf26j6 (cutTo (VG3826 F) (some [(0,.plain),(1,.plain),(2,.plain)]) s)) (kFin (VG3826 F) none (Try.f26).results.toList)) = f26_12 F (fun w => Rf26j6 (ef26j6 w)) v := by
  rintro ⟨t0,t1,t2,t15⟩; kernel_rfl
def f26_13 (F : Nat) (kf26j6 : (List (List Int)) × Int × (List Int) → Option (AV × List Blk)) : (List (List Int)) × Int × (List Int) × Bool → Option (AV × List Blk) := fun v => cond ((fun (t0,t1,t2,t15) => t15) v) (f26_11 F kf26j6 v) (f26_12 F kf26j6 v)
theorem f26_13_eq (F : Nat) (Rf26j6 : St → Option (AV × List Blk)) : ∀ v,aexec (VG3826 F) (Af26 F) (sub (bodyOf Try.f26) [1,0,1]) (ef26j2 v) (kSeq (fun s => Rf26j6 (cutTo (VG3826 F) (some [(0,.plain),(1,.plain),(2,.plain)]) s)) (kFin (VG3826 F) none (Try.f26).results.toList)) = f26_13 F (fun w => Rf26j6 (ef26j6 w)) v :=
  cond_in (c := (sub (bodyOf Try.f26) [1,0,1])) (x := (sub (bodyOf Try.f26) [1,0,1,0])) (y := (sub (bodyOf Try.f26) [1,0,1,1])) (o := .tmp 15) (by kernel_rfl) ef26j2 (kSeq (fun s => Rf26j6 (cutTo (VG3826 F) (some [(0,.plain),(1,.plain),(2,.plain)]) s)) (kFin (VG3826 F) none (Try.f26).results.toList)) (fun (t0,t1,t2,t15) => t15) (by rintro ⟨t0,t1,t2,t15⟩; kernel_rfl) _ _ (f26_11_eq F Rf26j6) (f26_12_eq F Rf26j6)
def f26_14 (F : Nat) (kf26j6 : (List (List Int)) × Int × (List Int) → Option (AV × List Blk)) : (List (List Int)) × Int × (List Int) → Option (AV × List Blk) := fun v => f26_2 F (f26_13 F kf26j6) kf26j6 v
theorem f26_14_eq (F : Nat) (Rf26j6 : St → Option (AV × List Blk)) : ∀ v,aexec (VG3826 F) (Af26 F) (sub (bodyOf Try.f26) [1,0]) (ef26j1 v) (kSeq (fun s => Rf26j6 (cutTo (VG3826 F) (some [(0,.plain),(1,.plain),(2,.plain)]) s)) (kFin (VG3826 F) none (Try.f26).results.toList)) = f26_14 F (fun w => Rf26j6 (ef26j6 w)) v :=
  seq_cut (c := (sub (bodyOf Try.f26) [1,0])) (a := (sub (bodyOf Try.f26) [1,0,0])) (b := (sub (bodyOf Try.f26) [1,0,1])) (by kernel_rfl) (spec := [(0,.plain),(1,.plain),(2,.plain),(15,.plain)]) (by kernel_rfl) ef26j1 ef26j2 (kSeq (fun s => Rf26j6 (cutTo (VG3826 F) (some [(0,.plain),(1,.plain),(2,.plain)]) s)) (kFin (VG3826 F) none (Try.f26).results.toList)) (fun k => f26_2 F k (fun w => Rf26j6 (ef26j6 w))) (f26_13 F (fun w => Rf26j6 (ef26j6 w)))
    (fun Rf26j2 => f26_2_eq F Rf26j2 Rf26j6) (f26_13_eq F Rf26j6)
def f26_15 (F : Nat) (kf26j7 : (List (List Int)) × Int × (List Int) × Int → Option (AV × List Blk)) : (List (List Int)) × Int × (List Int) → Option (AV × List Blk) := fun (t0,t1,t2) => (kf26j7 (t0,t1,t2,(1048576 : Int)))
theorem f26_15_eq (F : Nat) (Rf26j7 : St → Option (AV × List Blk)) : ∀ v,aexec (VG3826 F) (Af26 F) (sub (bodyOf Try.f26) [1,1,0]) (ef26j6 v) (kSeq (fun s => Rf26j7 (cutTo (VG3826 F) (some [(0,.plain),(1,.plain),(2,.plain),(9,.plain)]) s)) (kFin (VG3826 F) none (Try.f26).results.toList)) = f26_15 F (fun w => Rf26j7 (ef26j7 w)) v := by
  rintro ⟨t0,t1,t2⟩; kernel_rfl
def f26_16 (F : Nat) (kf26j8 : (List (List Int)) × Int × (List Int) × Int × Int → Option (AV × List Blk)) (kf26j9 : Int → Option (AV × List Blk)) : (List (List Int)) × Int × (List Int) × Int → Option (AV × List Blk) := fun (t0,t1,t2,t9) => (kf26j8 (t0,t1,t2,t9,(0 : Int)))
theorem f26_16_eq (F : Nat) (Rf26j8 : St → Option (AV × List Blk)) (Rf26j9 : St → Option (AV × List Blk)) : ∀ v,aexec (VG3826 F) (Af26 F) (sub (bodyOf Try.f26) [1,1,1,0,0]) (ef26j7 v) (kSeq (fun s => Rf26j8 (cutTo (VG3826 F) (some [(0,.plain),(1,.plain),(2,.plain),(9,.plain),(10,.plain)]) s)) (kSeq (fun s => Rf26j9 (cutTo (VG3826 F) (some [(9,.plain)]) s)) (kFin (VG3826 F) none (Try.f26).results.toList))) = f26_16 F (fun w => Rf26j8 (ef26j8 w)) (fun w => Rf26j9 (ef26j9 w)) v := by
  rintro ⟨t0,t1,t2,t9⟩; kernel_rfl
def f26_17 (F : Nat) (kf26l2 : (List (List Int)) × Int × (List Int) × Int × Int → Option (AV × List Blk)) (kf26j9 : Int → Option (AV × List Blk)) : (List (List Int)) × Int × (List Int) × Int × Int → Option (AV × List Blk) := fun (t0,t1,t2,t9,t10) => (cond (decide (t10 < (↑t2.length : Int))) (cond (decide ((0 + t2.length) < 1073741824)) (cond ((decide (0 ≤ t10)) && (decide (t10 < (↑([] ++ t2).length : Int)))) (cond ((decide (0 ≤ t1)) && (decide (t1 < (↑t0.length : Int)))) (cond ((decide (0 ≤ t10)) && (decide (t10 < (↑([] ++ t2).length : Int)))) (cond (Reg.leastOk t0 (IntKind.i64.wrap (t1 + (1 : Int))) (([] ++ t2).set (Int.toNat t10) (IntKind.i64.wrap ((([] ++ t2).getD (Int.toNat t10) 0) + (↑(t0.getD (Int.toNat t1) []).length : Int)))) (F - 1)) (kf26l2 (t0,t1,t2,(if (Reg.least (t0.drop (Int.toNat (IntKind.i64.wrap (t1 + (1 : Int))))) (([] ++ t2).set (Int.toNat t10) (IntKind.i64.wrap ((([] ++ t2).getD (Int.toNat t10) 0) + (↑(t0.getD (Int.toNat t1) []).length : Int))))) < t9 then (Reg.least (t0.drop (Int.toNat (IntKind.i64.wrap (t1 + (1 : Int))))) (([] ++ t2).set (Int.toNat t10) (IntKind.i64.wrap ((([] ++ t2).getD (Int.toNat t10) 0) + (↑(t0.getD (Int.toNat t1) []).length : Int))))) else t9),(IntKind.i64.wrap (t10 + (1 : Int))))) none) none) none) none) none) (kf26j9 t9))
theorem f26_17_eq (F : Nat) (Rf26l2 : St → Option (AV × List Blk)) (Rf26j9 : St → Option (AV × List Blk)) : ∀ v,aexec (VG3826 F) (Af26 F) (sub (bodyOf Try.f26) [1,1,1,0,1,0,0]) (ef26l2 v) (kSeq (fun s => Rf26l2 (cutTo (VG3826 F) (some [(0,.plain),(1,.plain),(2,.plain),(9,.plain),(10,.plain)]) s)) (kBlock 2 (kSeq (fun s => Rf26j9 (cutTo (VG3826 F) (some [(9,.plain)]) s)) (kFin (VG3826 F) none (Try.f26).results.toList)))) = f26_17 F (fun w => Rf26l2 (ef26l2 w)) (fun w => Rf26j9 (ef26j9 w)) v := by
  rintro ⟨t0,t1,t2,t9,t10⟩; kernel_rfl
def f26_18_i : (List (List Int)) × Int × (List Int) × Int × Int → (List (List Int)) × Int × (List Int) × Int × Int := fun (t0,t1,t2,t9,t10) => (t0,t1,t2,t9,t10)
def f26_18 (F : Nat) (kf26j9 : Int → Option (AV × List Blk)) : (List (List Int)) × Int × (List Int) × Int × Int → Option (AV × List Blk) := fun v => loopN (fun k => f26_17 F k kf26j9) F (f26_18_i v)
theorem f26_18_eq (F : Nat) (Rf26j9 : St → Option (AV × List Blk)) : ∀ v,aexec (VG3826 F) (Af26 F) (sub (bodyOf Try.f26) [1,1,1,0,1,0]) (ef26j8 v) (kBlock 2 (kSeq (fun s => Rf26j9 (cutTo (VG3826 F) (some [(9,.plain)]) s)) (kFin (VG3826 F) none (Try.f26).results.toList))) = f26_18 F (fun w => Rf26j9 (ef26j9 w)) v :=
  loop_cut (c := (sub (bodyOf Try.f26) [1,1,1,0,1,0])) (d := (sub (bodyOf Try.f26) [1,1,1,0,1,0,0])) (by kernel_rfl) (spec := [(0,.plain),(1,.plain),(2,.plain),(9,.plain),(10,.plain)]) (by kernel_rfl) ef26j8 ef26l2 (kBlock 2 (kSeq (fun s => Rf26j9 (cutTo (VG3826 F) (some [(9,.plain)]) s)) (kFin (VG3826 F) none (Try.f26).results.toList))) f26_18_i (fun k => f26_17 F k (fun w => Rf26j9 (ef26j9 w)))
    (by rintro ⟨t0,t1,t2,t9,t10⟩; kernel_rfl) (fun Rf26l2 => f26_17_eq F Rf26l2 Rf26j9)
def f26_19 (F : Nat) (kf26j9 : Int → Option (AV × List Blk)) : (List (List Int)) × Int × (List Int) × Int × Int → Option (AV × List Blk) := f26_18 F kf26j9
theorem f26_19_eq (F : Nat) (Rf26j9 : St → Option (AV × List Blk)) : ∀ v,aexec (VG3826 F) (Af26 F) (sub (bodyOf Try.f26) [1,1,1,0,1]) (ef26j8 v) (kSeq (fun s => Rf26j9 (cutTo (VG3826 F) (some [(9,.plain)]) s)) (kFin (VG3826 F) none (Try.f26).results.toList)) = f26_19 F (fun w => Rf26j9 (ef26j9 w)) v := fun v =>
  (block_in (c := (sub (bodyOf Try.f26) [1,1,1,0,1])) (d := (sub (bodyOf Try.f26) [1,1,1,0,1,0])) (id := 2) (by kernel_rfl) _ _).trans (f26_18_eq F Rf26j9 v)
def f26_20 (F : Nat) (kf26j9 : Int → Option (AV × List Blk)) : (List (List Int)) × Int × (List Int) × Int → Option (AV × List Blk) := fun v => f26_16 F (f26_19 F kf26j9) kf26j9 v
theorem f26_20_eq (F : Nat) (Rf26j9 : St → Option (AV × List Blk)) : ∀ v,aexec (VG3826 F) (Af26 F) (sub (bodyOf Try.f26) [1,1,1,0]) (ef26j7 v) (kSeq (fun s => Rf26j9 (cutTo (VG3826 F) (some [(9,.plain)]) s)) (kFin (VG3826 F) none (Try.f26).results.toList)) = f26_20 F (fun w => Rf26j9 (ef26j9 w)) v :=
  seq_cut (c := (sub (bodyOf Try.f26) [1,1,1,0])) (a := (sub (bodyOf Try.f26) [1,1,1,0,0])) (b := (sub (bodyOf Try.f26) [1,1,1,0,1])) (by kernel_rfl) (spec := [(0,.plain),(1,.plain),(2,.plain),(9,.plain),(10,.plain)]) (by kernel_rfl) ef26j7 ef26j8 (kSeq (fun s => Rf26j9 (cutTo (VG3826 F) (some [(9,.plain)]) s)) (kFin (VG3826 F) none (Try.f26).results.toList)) (fun k => f26_16 F k (fun w => Rf26j9 (ef26j9 w))) (f26_19 F (fun w => Rf26j9 (ef26j9 w)))
    (fun Rf26j8 => f26_16_eq F Rf26j8 Rf26j9) (f26_19_eq F Rf26j9)
def f26_21 (F : Nat) : Int → Option (AV × List Blk) := fun t9 => (some ((.int .i64 t9),[]))
theorem f26_21_eq (F : Nat) : ∀ v,aexec (VG3826 F) (Af26 F) (sub (bodyOf Try.f26) [1,1,1,1]) (ef26j9 v) (kFin (VG3826 F) none (Try.f26).results.toList) = f26_21 F v := by
  intro t9; kernel_rfl
def f26_22 (F : Nat) : (List (List Int)) × Int × (List Int) × Int → Option (AV × List Blk) := fun v => f26_20 F (f26_21 F) v
theorem f26_22_eq (F : Nat) : ∀ v,aexec (VG3826 F) (Af26 F) (sub (bodyOf Try.f26) [1,1,1]) (ef26j7 v) (kFin (VG3826 F) none (Try.f26).results.toList) = f26_22 F v :=
  seq_cut (c := (sub (bodyOf Try.f26) [1,1,1])) (a := (sub (bodyOf Try.f26) [1,1,1,0])) (b := (sub (bodyOf Try.f26) [1,1,1,1])) (by kernel_rfl) (spec := [(9,.plain)]) (by kernel_rfl) ef26j7 ef26j9 (kFin (VG3826 F) none (Try.f26).results.toList) (fun k => f26_20 F k) (f26_21 F)
    (fun Rf26j9 => f26_20_eq F Rf26j9) (f26_21_eq F)
def f26_23 (F : Nat) : (List (List Int)) × Int × (List Int) → Option (AV × List Blk) := fun v => f26_15 F (f26_22 F) v
theorem f26_23_eq (F : Nat) : ∀ v,aexec (VG3826 F) (Af26 F) (sub (bodyOf Try.f26) [1,1]) (ef26j6 v) (kFin (VG3826 F) none (Try.f26).results.toList) = f26_23 F v :=
  seq_cut (c := (sub (bodyOf Try.f26) [1,1])) (a := (sub (bodyOf Try.f26) [1,1,0])) (b := (sub (bodyOf Try.f26) [1,1,1])) (by kernel_rfl) (spec := [(0,.plain),(1,.plain),(2,.plain),(9,.plain)]) (by kernel_rfl) ef26j6 ef26j7 (kFin (VG3826 F) none (Try.f26).results.toList) (fun k => f26_15 F k) (f26_22 F)
    (fun Rf26j7 => f26_15_eq F Rf26j7) (f26_22_eq F)
def f26_24 (F : Nat) : (List (List Int)) × Int × (List Int) → Option (AV × List Blk) := fun v => f26_14 F (f26_23 F) v
theorem f26_24_eq (F : Nat) : ∀ v,aexec (VG3826 F) (Af26 F) (sub (bodyOf Try.f26) [1]) (ef26j1 v) (kFin (VG3826 F) none (Try.f26).results.toList) = f26_24 F v :=
  seq_cut (c := (sub (bodyOf Try.f26) [1])) (a := (sub (bodyOf Try.f26) [1,0])) (b := (sub (bodyOf Try.f26) [1,1])) (by kernel_rfl) (spec := [(0,.plain),(1,.plain),(2,.plain)]) (by kernel_rfl) ef26j1 ef26j6 (kFin (VG3826 F) none (Try.f26).results.toList) (fun k => f26_14 F k) (f26_23 F)
    (fun Rf26j6 => f26_14_eq F Rf26j6) (f26_23_eq F)
def f26_25 (F : Nat) : (List (List Int)) × Int × (List Int) → Option (AV × List Blk) := fun v => f26_1 F (f26_24 F) v
theorem f26_25_eq (F : Nat) : ∀ v,aexec (VG3826 F) (Af26 F) (sub (bodyOf Try.f26) []) (ef26_a v) (kFin (VG3826 F) none (Try.f26).results.toList) = f26_25 F v :=
  seq_cut (c := (sub (bodyOf Try.f26) [])) (a := (sub (bodyOf Try.f26) [0])) (b := (sub (bodyOf Try.f26) [1])) (by kernel_rfl) (spec := [(0,.plain),(1,.plain),(2,.plain)]) (by kernel_rfl) ef26_a ef26j1 (kFin (VG3826 F) none (Try.f26).results.toList) (fun k => f26_1 F k) (f26_24 F)
    (fun Rf26j1 => f26_1_eq F Rf26j1) (f26_24_eq F)
/-- gantry/gantrylaw38.least -/
def f26 (F : Nat) : (List (List Int)) × Int × (List Int) → Option (AV × List Blk) := f26_25 F
theorem f26_body (F : Nat) (a0 : List (List Int)) (a1 : Int) (a2 : List Int) : abody (VG3826 F) (Af26 F) Try.f26 [(.vs (.rL .i64 a0) 0 1),(.int .i64 a1),(.vs (.rI .i64 a2) 0 1)] [] = f26 F (a0,a1,a2) :=
  (abody_in (c := (sub (bodyOf Try.f26) [])) (by kernel_rfl) (s := ef26_a (a0,a1,a2)) (by kernel_rfl)).trans (f26_25_eq F (a0,a1,a2))
theorem s26 (D : Nat) (a0 : List (List Int)) (a1 : Int) (a2 : List Int) (hp : ((Reg.leastOk a0 a1 a2 D)) = true) (h0 : okV (.vs (.rL .i64 a0) 0 1)) (h1 : okV (.int .i64 a1)) (h2 : okV (.vs (.rI .i64 a2) 0 1)) : f26 D (a0,a1,a2) = some ((.int .i64 (Reg.least (a0.drop (Int.toNat a1)) a2)),[]) := by
  obtain ⟨p1,p2,p3,p4,p5,p6,p7⟩ := Reg.leastOk_iff.1 hp
  obtain ⟨n,rfl⟩ : ∃ n : Nat,a1 = (n : Int) := ⟨a1.toNat,by omega⟩
  rw [Int.toNat_natCast] at p2 p3 ⊢
  simp only [f26,f26_25,f26_1,f26_24,f26_14,f26_2,f26_13]
  by_cases hn : n < a0.length
  · rw [cond_neg (by omega)]
    simp only [f26_12,f26_23,f26_15,f26_22,f26_20,f26_16,f26_19,f26_18,f26_18_i]
    have hd : a0.drop n = a0.getD n [] :: a0.drop (n + 1) := by
      rw [List.drop_eq_getElem_cons hn,List.getD_eq_getElem?_getD,List.getElem?_eq_getElem hn]; rfl
    have hx := p5 _ (Reg.getD_mem hn)
    rw [hd]
    generalize hxx : a0.getD n [] = x at *
    have hL : Reg.least (x :: a0.drop (n + 1)) a2 = Reg.minTo (Reg.sizes (a0.drop (n + 1))) a2 (x.length : Int) a2.length := by
      unfold Reg.least Reg.minTo
      show Reg.leastN ((x.length : Int) :: Reg.sizes (a0.drop (n + 1))) a2 = _
      rw [Reg.leastN]
    rw [hL]
    refine loopN_from (fun i => (a0,(n : Int),a2,Reg.minTo (Reg.sizes (a0.drop (n + 1))) a2 (x.length : Int) i,(i : Int))) a2.length (by rfl) (fun i hi k => ?_) (fun k => ?_) _ (by omega)
    · simp only [f26_17,List.nil_append,dec_and,Int.toNat_natCast,hxx]
      have hs := p6 _ (Reg.getD_mem' hi)
      rw [i64w (x := (n : Int) + 1) (by omega) (by omega),i64w (x := a2.getD i 0 + (x.length : Int)) (by omega) (by omega),i64w (x := (i : Int) + 1) (by omega) (by omega)]
      rw [cond_pos (by omega),cond_pos (by omega),cond_pos (by omega),cond_pos (by omega),cond_pos (by omega)]
      have e1 : Int.toNat ((n : Int) + 1) = n + 1 := by omega
      rw [e1,(Reg.leastOk_iff.2 ⟨by omega,by omega,by rw [List.length_set]; omega,p4,p5,fun s hs' => by
        rcases List.mem_or_eq_of_mem_set hs' with h | h
        · have := p6 s h; omega
        · omega,by rw [List.length_set]; exact p7⟩ : Reg.leastOk a0 ((n : Int) + 1) (a2.set i (a2.getD i 0 + (x.length : Int))) (D - 1) = true),cond_true,Reg.minTo_succ]
      rfl
    · simp only [f26_17,f26_21]
      rw [cond_neg (by omega)]
  · rw [cond_pos (by omega),List.drop_eq_nil_of_le (by omega)]
    simp only [f26_11,f26_3,f26_10,f26_8,f26_4,f26_7,f26_6,f26_6_i]
    refine loopN_from (fun i => (a2,(a2.take i).foldl (fun (o s : Int) => if s > o then s else o) 0,(i : Int))) a2.length (by rfl) (fun i hi k => ?_) (fun k => ?_) _ (by omega)
    · simp only [f26_5,dec_and]
      rw [cond_pos (by omega),cond_pos (by omega),Int.toNat_natCast,i64w (by omega) (by omega),foldl_take _ _ a2 0 i hi]
      rfl
    · simp only [f26_5,f26_9]
      rw [cond_neg (by omega),List.take_length]
      rfl

theorem s26z (a0 : List (List Int)) (a1 : Int) (a2 : List Int) : ((Reg.leastOk a0 a1 a2 0)) = false := by
  cases h : Reg.leastOk a0 a1 a2 0 with
  | false => rfl
  | true => have := (Reg.leastOk_iff.1 h).2.2.1; omega

theorem c26z : CallOk Try.prog G38 26 (r26 0) := callOk_of (V := mkEnv T38 G38 []) mixed tys (eok_mk (by exact trivial)) (f := 26) (fn := Try.f26) Try.func26 (by kernel_rfl) (c := sub (bodyOf Try.f26) []) (by kernel_rfl) (by
  intro X H r H' h hX hH
  unfold r26 at h; split at h <;> try contradiction
  simp only [Option.some.injEq,Prod.mk.injEq] at h
  rw [s26z] at h
  cases h.1)
theorem c26x (D : Nat) (ih : CallOk Try.prog G38 26 (r26 D)) : CallOk Try.prog G38 26 (r26 (D + 1)) := callOk_of (V := VG3826 (D + 1)) mixed tys (eVG3826 (D + 1) ih) (f := 26) (fn := Try.f26) Try.func26 (by kernel_rfl) (c := sub (bodyOf Try.f26) []) (by kernel_rfl) (by
  intro X H r H' h hX hH
  unfold r26 at h; split at h <;> try contradiction
  simp only [Option.some.injEq,Prod.mk.injEq] at h
  obtain ⟨hp,rfl,rfl⟩ := h
  exact ⟨Af26 (D + 1),(f26_body (D + 1) _ _ _).trans (s26 (D + 1) _ _ _ hp (hX _ (.head _)) (hX _ (.tail _ (.head _))) (hX _ (.tail _ (.tail _ (.head _)))))⟩)
theorem c26 (D : Nat) : CallOk Try.prog G38 26 (r26 D) := by
  induction D with
  | zero => exact c26z
  | succ D ih => exact c26x D ih
/-! gantry/gantrylaw38.RegionFair -/
def lVG387 : List CEnt := [(10,[none,none],r10),(11,[some 3,none,none],r11),(13,[none,none],r13),(19,[],r19),(23,[some 22,none,some 4],r23),(25,[some 3,none],r25),(26,[some 22,none,some 3],r26 30)]
def VG387 : Env := mkEnv T38 G38 lVG387
theorem eVG387 : EOk Try.prog VG387 := eok_mk (by exact ⟨c10,c11,c13,c19,c23,c25,(c26 30),trivial⟩)
def Af7 (F : Nat) : Cuts := { F := F,at_ := fun n => match n with | 11014 => some [(8,.plain),(9,.plain),(10,.plain),(12,.plain),(13,.plain)] | 18018 => some [(8,.plain),(9,.plain),(12,.plain),(14,.plain),(15,.plain),(16,.plain)] | _ => none,join := fun n => match n with | 1083 => some [(0,.plain),(1,.plain),(2,.plain)] | 2081 => some [(0,.plain),(2,.plain),(7,.plain)] | 3079 => some [(2,.plain),(7,.plain),(8,.plain)] | 4077 => some [(7,.plain),(8,.plain),(9,.plain)] | 5075 => some [(7,.plain),(8,.plain),(9,.plain),(10,.plain),(11,.plain)] | 7067 => some [(7,.plain),(8,.plain),(9,.plain),(10,.plain)] | 9059 => some [(8,.plain),(9,.plain),(10,.plain)] | 10057 => some [(8,.plain),(9,.plain),(10,.plain),(12,.plain)] | 11016 => some [(8,.plain),(9,.plain),(10,.plain),(12,.plain),(13,.plain)] | 15038 => some [(8,.plain),(9,.plain),(10,.plain),(12,.plain)] | 16036 => some [(8,.plain),(9,.plain),(12,.plain),(14,.plain)] | 17034 => some [(8,.plain),(9,.plain),(12,.plain),(14,.plain),(15,.plain)] | 18020 => some [(8,.plain),(9,.plain),(12,.plain),(14,.plain),(15,.plain),(16,.plain)] | 23011 => some [(8,.plain),(12,.plain),(15,.plain)] | _ => none,cas := fun n => match n with | 20 => some (16,3) | _ => none }
def ef7_a : (List Int) × Int × Int → St := fun (a0,a1,a2) => { tmps := [(0,(.vs (.rI .i64 a0) 0 1)),(1,(.int .i64 a1)),(2,(.int .i64 a2))],heap := [],next := 0,nt := 102,m := 0 }
def ef7j1 : (List Int) × Int × Int → St := fun (t0,t1,t2) => { tmps := [(0,(.vs (.rI .i64 t0) 0 1)),(1,(.int .i64 t1)),(2,(.int .i64 t2))],heap := [],next := 0,nt := 102,m := 0 }
def ef7j2 : (List Int) × Int × Int → St := fun (t0,t2,t7) => { tmps := [(0,(.vs (.rI .i64 t0) 0 1)),(2,(.int .i64 t2)),(7,(.int .i64 t7))],heap := [],next := 0,nt := 102,m := 0 }
def ef7j3 : Int × Int × (List (List Int)) → St := fun (t2,t7,x3) => { tmps := [(2,(.int .i64 t2)),(7,(.int .i64 t7)),(8,(.own 0 0 1))],heap := [(0,(.cells x3.length (.rL .i64 x3) true))],next := 1,nt := 102,m := 0 }
def ef7j4 : Int × (List (List Int)) × (List Bool) → St := fun (t7,x2,x3) => { tmps := [(7,(.int .i64 t7)),(8,(.own 0 0 1)),(9,(.own 1 0 1))],heap := [(0,(.cells x2.length (.rL .i64 x2) true)),(1,(.cells x3.length (.rB x3) true))],next := 2,nt := 102,m := 0 }
def ef7j5 : Int × Int × (List (List Int)) × (List Bool) × (List Int) → St := fun (t7,t11,x3,x4,x5) => { tmps := [(7,(.int .i64 t7)),(8,(.own 0 0 1)),(9,(.own 1 0 1)),(10,(.own 2 0 1)),(11,(.int .i64 t11))],heap := [(0,(.cells x3.length (.rL .i64 x3) true)),(1,(.cells x4.length (.rB x4) true)),(2,(.cells x5.length (.rI .i64 x5) true))],next := 3,nt := 102,m := 0 }
def ef7j6 : Int × (List (List Int)) × (List Bool) × (List Int) → St := fun (t7,x2,x3,x4) => { tmps := [(7,(.int .i64 t7)),(8,(.own 0 0 1)),(9,(.own 1 0 1)),(10,(.own 2 0 1))],heap := [(0,(.cells x2.length (.rL .i64 x2) true)),(1,(.cells x3.length (.rB x3) true)),(2,(.cells x4.length (.rI .i64 x4) true))],next := 3,nt := 102,m := 0 }
def ef7j7 : (List (List Int)) × (List Bool) × (List Int) → St := fun (x1,x2,x3) => { tmps := [(8,(.own 0 0 1)),(9,(.own 1 0 1)),(10,(.own 2 0 1))],heap := [(0,(.cells x1.length (.rL .i64 x1) true)),(1,(.cells x2.length (.rB x2) true)),(2,(.cells x3.length (.rI .i64 x3) true))],next := 3,nt := 102,m := 0 }
def ef7j8 : Int × (List (List Int)) × (List Bool) × (List Int) → St := fun (t12,x2,x3,x4) => { tmps := [(8,(.own 0 0 1)),(9,(.own 1 0 1)),(10,(.own 2 0 1)),(12,(.int .i64 t12))],heap := [(0,(.cells x2.length (.rL .i64 x2) true)),(1,(.cells x3.length (.rB x3) true)),(2,(.cells x4.length (.rI .i64 x4) true))],next := 3,nt := 102,m := 0 }
def ef7j9 : Int × Int × (List (List Int)) × (List Bool) × (List Int) → St := fun (t12,t13,x3,x4,x5) => { tmps := [(8,(.own 0 0 1)),(9,(.own 1 0 1)),(10,(.own 2 0 1)),(12,(.int .i64 t12)),(13,(.int .i64 t13))],heap := [(0,(.cells x3.length (.rL .i64 x3) true)),(1,(.cells x4.length (.rB x4) true)),(2,(.cells x5.length (.rI .i64 x5) true))],next := 3,nt := 102,m := 0 }
def ef7l1 : Int × Int × (List (List Int)) × (List Bool) × (List Int) → St := fun (t12,t13,x3,x4,x5) => { tmps := [(8,(.own 0 0 1)),(9,(.own 1 0 1)),(10,(.own 2 0 1)),(12,(.int .i64 t12)),(13,(.int .i64 t13))],heap := [(0,(.cells x3.length (.rL .i64 x3) true)),(1,(.cells x4.length (.rB x4) true)),(2,(.cells x5.length (.rI .i64 x5) true))],next := 3,nt := 102,m := 0 }
def ef7j10 : Int × (List (List Int)) × (List Bool) × (List Int) → St := fun (t12,x2,x3,x4) => { tmps := [(8,(.own 0 0 1)),(9,(.own 1 0 1)),(10,(.own 2 0 1)),(12,(.int .i64 t12))],heap := [(0,(.cells x2.length (.rL .i64 x2) true)),(1,(.cells x3.length (.rB x3) true)),(2,(.cells x4.length (.rI .i64 x4) true))],next := 3,nt := 102,m := 0 }
def ef7j11 : Int × (List (List Int)) × (List Bool) × (List Int) × (List Int) × (List Int) → St := fun (t12,x2,x3,x4,x5,x6) => { tmps := [(8,(.own 0 0 1)),(9,(.own 1 0 1)),(12,(.int .i64 t12)),(14,(.own 2 0 1))],heap := [(0,(.cells x2.length (.rL .i64 x2) true)),(1,(.cells x3.length (.rB x3) true)),(2,(.cells 3 (.segs (.cons 1 (.one (.own 3 0 1)) (.cons 1 (.one (.own 4 0 1)) (.cons 1 (.one (.own 5 0 1)) .nil)))) true)),(3,(.cells x4.length (.rI .i64 x4) true)),(4,(.cells x5.length (.rI .i64 x5) true)),(5,(.cells x6.length (.rI .i64 x6) true))],next := 6,nt := 102,m := 0 }
def ef7j12 : Int × Int × (List (List Int)) × (List Bool) × (List Int) × (List Int) × (List Int) → St := fun (t12,t15,x3,x4,x5,x6,x7) => { tmps := [(8,(.own 0 0 1)),(9,(.own 1 0 1)),(12,(.int .i64 t12)),(14,(.own 2 0 1)),(15,(.int .i64 t15))],heap := [(0,(.cells x3.length (.rL .i64 x3) true)),(1,(.cells x4.length (.rB x4) true)),(2,(.cells 3 (.segs (.cons 1 (.one (.own 3 0 1)) (.cons 1 (.one (.own 4 0 1)) (.cons 1 (.one (.own 5 0 1)) .nil)))) true)),(3,(.cells x5.length (.rI .i64 x5) true)),(4,(.cells x6.length (.rI .i64 x6) true)),(5,(.cells x7.length (.rI .i64 x7) true))],next := 6,nt := 102,m := 0 }
def ef7j13 : Int × Int × Int × (List (List Int)) × (List Bool) × (List Int) × (List Int) × (List Int) → St := fun (t12,t15,t16,x4,x5,x6,x7,x8) => { tmps := [(8,(.own 0 0 1)),(9,(.own 1 0 1)),(12,(.int .i64 t12)),(14,(.own 2 0 1)),(15,(.int .i64 t15)),(16,(.int .i64 t16))],heap := [(0,(.cells x4.length (.rL .i64 x4) true)),(1,(.cells x5.length (.rB x5) true)),(2,(.cells 3 (.segs (.cons 1 (.one (.own 3 0 1)) (.cons 1 (.one (.own 4 0 1)) (.cons 1 (.one (.own 5 0 1)) .nil)))) true)),(3,(.cells x6.length (.rI .i64 x6) true)),(4,(.cells x7.length (.rI .i64 x7) true)),(5,(.cells x8.length (.rI .i64 x8) true))],next := 6,nt := 102,m := 0 }
def ef7l2 : Int × Int × Int × (List (List Int)) × (List Bool) × (List Int) × (List Int) × (List Int) → St := fun (t12,t15,t16,x4,x5,x6,x7,x8) => { tmps := [(8,(.own 0 0 1)),(9,(.own 1 0 1)),(12,(.int .i64 t12)),(14,(.own 2 0 1)),(15,(.int .i64 t15)),(16,(.int .i64 t16))],heap := [(0,(.cells x4.length (.rL .i64 x4) true)),(1,(.cells x5.length (.rB x5) true)),(2,(.cells 3 (.segs (.cons 1 (.one (.own 3 0 1)) (.cons 1 (.one (.own 4 0 1)) (.cons 1 (.one (.own 5 0 1)) .nil)))) true)),(3,(.cells x6.length (.rI .i64 x6) true)),(4,(.cells x7.length (.rI .i64 x7) true)),(5,(.cells x8.length (.rI .i64 x8) true))],next := 6,nt := 102,m := 0 }
def ef7j14 : Int × Int × (List (List Int)) → St := fun (t12,t15,x3) => { tmps := [(8,(.own 0 0 1)),(12,(.int .i64 t12)),(15,(.int .i64 t15))],heap := [(0,(.cells x3.length (.rL .i64 x3) true))],next := 1,nt := 102,m := 0 }
def f7_1 (F : Nat) (kf7j1 : (List Int) × Int × Int → Option (AV × List Blk)) : (List Int) × Int × Int → Option (AV × List Blk) := fun (a0,a1,a2) => (kf7j1 (a0,a1,a2))
theorem f7_1_eq (F : Nat) (Rf7j1 : St → Option (AV × List Blk)) : ∀ v,aexec VG387 (Af7 F) (sub (bodyOf Try.f7) [0]) (ef7_a v) (kSeq (fun s => Rf7j1 (cutTo VG387 (some [(0,.plain),(1,.plain),(2,.plain)]) s)) (kFin VG387 none (Try.f7).results.toList)) = f7_1 F (fun w => Rf7j1 (ef7j1 w)) v := by
  rintro ⟨a0,a1,a2⟩; kernel_rfl
def f7_2 (F : Nat) (kf7j2 : (List Int) × Int × Int → Option (AV × List Blk)) : (List Int) × Int × Int → Option (AV × List Blk) := fun (t0,t1,t2) => (cond (decide (0 < (20 : Int))) (kf7j2 (t0,t2,(Reg.around t1 (20 : Int)))) none)
theorem f7_2_eq (F : Nat) (Rf7j2 : St → Option (AV × List Blk)) : ∀ v,aexec VG387 (Af7 F) (sub (bodyOf Try.f7) [1,0]) (ef7j1 v) (kSeq (fun s => Rf7j2 (cutTo VG387 (some [(0,.plain),(2,.plain),(7,.plain)]) s)) (kFin VG387 none (Try.f7).results.toList)) = f7_2 F (fun w => Rf7j2 (ef7j2 w)) v := by
  rintro ⟨t0,t1,t2⟩; kernel_rfl
def f7_3 (F : Nat) (kf7j3 : Int × Int × (List (List Int)) → Option (AV × List Blk)) : (List Int) × Int × Int → Option (AV × List Blk) := fun (t0,t2,t7) => (cond ((decide (0 ≤ t7)) && (decide (Int.toNat t7 < 1073741000))) (kf7j3 (t2,t7,(Reg.groups t0 (Int.toNat t7) 6))) none)
theorem f7_3_eq (F : Nat) (Rf7j3 : St → Option (AV × List Blk)) : ∀ v,aexec VG387 (Af7 F) (sub (bodyOf Try.f7) [1,1,0]) (ef7j2 v) (kSeq (fun s => Rf7j3 (cutTo VG387 (some [(2,.plain),(7,.plain),(8,.plain)]) s)) (kFin VG387 none (Try.f7).results.toList)) = f7_3 F (fun w => Rf7j3 (ef7j3 w)) v := by
  rintro ⟨t0,t2,t7⟩; kernel_rfl
def f7_4 (F : Nat) (kf7j4 : Int × (List (List Int)) × (List Bool) → Option (AV × List Blk)) : Int × Int × (List (List Int)) → Option (AV × List Blk) := fun (t2,t7,x3) => (cond ((decide (0 ≤ (3 : Int))) && (decide (Int.toNat (3 : Int) < 1073741000))) (kf7j4 (t7,x3,(Reg.ups t2 (Int.toNat (3 : Int))))) none)
theorem f7_4_eq (F : Nat) (Rf7j4 : St → Option (AV × List Blk)) : ∀ v,aexec VG387 (Af7 F) (sub (bodyOf Try.f7) [1,1,1,0]) (ef7j3 v) (kSeq (fun s => Rf7j4 (cutTo VG387 (some [(7,.plain),(8,.plain),(9,.plain)]) s)) (kFin VG387 none (Try.f7).results.toList)) = f7_4 F (fun w => Rf7j4 (ef7j4 w)) v := by
  rintro ⟨t2,t7,x3⟩; kernel_rfl
def f7_5 (F : Nat) (kf7j5 : Int × Int × (List (List Int)) × (List Bool) × (List Int) → Option (AV × List Blk)) : Int × (List (List Int)) × (List Bool) → Option (AV × List Blk) := fun (t7,x2,x3) => (cond (decide (x2.length < 20)) (kf7j5 (t7,(Reg.even x2 t7 x3).2,x2,x3,(Reg.even x2 t7 x3).1)) none)
theorem f7_5_eq (F : Nat) (Rf7j5 : St → Option (AV × List Blk)) : ∀ v,aexec VG387 (Af7 F) (sub (bodyOf Try.f7) [1,1,1,1,0]) (ef7j4 v) (kSeq (fun s => Rf7j5 (cutTo VG387 (some [(7,.plain),(8,.plain),(9,.plain),(10,.plain),(11,.plain)]) s)) (kFin VG387 none (Try.f7).results.toList)) = f7_5 F (fun w => Rf7j5 (ef7j5 w)) v := by
  rintro ⟨t7,x2,x3⟩; kernel_rfl
def f7_6 (F : Nat) (kf7j6 : Int × (List (List Int)) × (List Bool) × (List Int) → Option (AV × List Blk)) : Int × Int × (List (List Int)) × (List Bool) × (List Int) → Option (AV × List Blk) := fun (t7,t11,x3,x4,x5) => (cond (t11 != (0 : Int)) (cond (t11 == (6 : Int)) (some ((.bool true),[])) (some ((.bool false),[]))) (kf7j6 (t7,x3,x4,x5)))
theorem f7_6_eq (F : Nat) (Rf7j6 : St → Option (AV × List Blk)) : ∀ v,aexec VG387 (Af7 F) (sub (bodyOf Try.f7) [1,1,1,1,1,0]) (ef7j5 v) (kSeq (fun s => Rf7j6 (cutTo VG387 (some [(7,.plain),(8,.plain),(9,.plain),(10,.plain)]) s)) (kFin VG387 none (Try.f7).results.toList)) = f7_6 F (fun w => Rf7j6 (ef7j6 w)) v := by
  rintro ⟨t7,t11,x3,x4,x5⟩; kernel_rfl
def f7_7 (F : Nat) (kf7j7 : (List (List Int)) × (List Bool) × (List Int) → Option (AV × List Blk)) : Int × (List (List Int)) × (List Bool) × (List Int) → Option (AV × List Blk) := fun (t7,x2,x3,x4) => (cond ((↑x4.length : Int) != t7) (some ((.bool false),[])) (kf7j7 (x2,x3,x4)))
theorem f7_7_eq (F : Nat) (Rf7j7 : St → Option (AV × List Blk)) : ∀ v,aexec VG387 (Af7 F) (sub (bodyOf Try.f7) [1,1,1,1,1,1,0]) (ef7j6 v) (kSeq (fun s => Rf7j7 (cutTo VG387 (some [(8,.plain),(9,.plain),(10,.plain)]) s)) (kFin VG387 none (Try.f7).results.toList)) = f7_7 F (fun w => Rf7j7 (ef7j7 w)) v := by
  rintro ⟨t7,x2,x3,x4⟩; kernel_rfl
def f7_8 (F : Nat) (kf7j8 : Int × (List (List Int)) × (List Bool) × (List Int) → Option (AV × List Blk)) : (List (List Int)) × (List Bool) × (List Int) → Option (AV × List Blk) := fun (x1,x2,x3) => (kf7j8 ((0 : Int),x1,x2,x3))
theorem f7_8_eq (F : Nat) (Rf7j8 : St → Option (AV × List Blk)) : ∀ v,aexec VG387 (Af7 F) (sub (bodyOf Try.f7) [1,1,1,1,1,1,1,0]) (ef7j7 v) (kSeq (fun s => Rf7j8 (cutTo VG387 (some [(8,.plain),(9,.plain),(10,.plain),(12,.plain)]) s)) (kFin VG387 none (Try.f7).results.toList)) = f7_8 F (fun w => Rf7j8 (ef7j8 w)) v := by
  rintro ⟨x1,x2,x3⟩; kernel_rfl
def f7_9 (F : Nat) (kf7j9 : Int × Int × (List (List Int)) × (List Bool) × (List Int) → Option (AV × List Blk)) (kf7j10 : Int × (List (List Int)) × (List Bool) × (List Int) → Option (AV × List Blk)) : Int × (List (List Int)) × (List Bool) × (List Int) → Option (AV × List Blk) := fun (t12,x2,x3,x4) => (kf7j9 (t12,(0 : Int),x2,x3,x4))
theorem f7_9_eq (F : Nat) (Rf7j9 : St → Option (AV × List Blk)) (Rf7j10 : St → Option (AV × List Blk)) : ∀ v,aexec VG387 (Af7 F) (sub (bodyOf Try.f7) [1,1,1,1,1,1,1,1,0,0]) (ef7j8 v) (kSeq (fun s => Rf7j9 (cutTo VG387 (some [(8,.plain),(9,.plain),(10,.plain),(12,.plain),(13,.plain)]) s)) (kSeq (fun s => Rf7j10 (cutTo VG387 (some [(8,.plain),(9,.plain),(10,.plain),(12,.plain)]) s)) (kFin VG387 none (Try.f7).results.toList))) = f7_9 F (fun w => Rf7j9 (ef7j9 w)) (fun w => Rf7j10 (ef7j10 w)) v := by
  rintro ⟨t12,x2,x3,x4⟩; kernel_rfl
def f7_10 (F : Nat) (kf7l1 : Int × Int × (List (List Int)) × (List Bool) × (List Int) → Option (AV × List Blk)) (kf7j10 : Int × (List (List Int)) × (List Bool) × (List Int) → Option (AV × List Blk)) : Int × Int × (List (List Int)) × (List Bool) × (List Int) → Option (AV × List Blk) := fun (t12,t13,x3,x4,x5) => (cond (decide (t13 < (3 : Int))) (cond ((decide (0 ≤ t13)) && (decide (t13 < (↑x4.length : Int)))) (cond (x4.getD (Int.toNat t13) false) (kf7l1 ((IntKind.i64.wrap (t12 + (1 : Int))),(IntKind.i64.wrap (t13 + (1 : Int))),x3,x4,x5)) (kf7l1 (t12,(IntKind.i64.wrap (t13 + (1 : Int))),x3,x4,x5))) none) (kf7j10 (t12,x3,x4,x5)))
theorem f7_10_eq (F : Nat) (Rf7l1 : St → Option (AV × List Blk)) (Rf7j10 : St → Option (AV × List Blk)) : ∀ v,aexec VG387 (Af7 F) (sub (bodyOf Try.f7) [1,1,1,1,1,1,1,1,0,1,0,0]) (ef7l1 v) (kSeq (fun s => Rf7l1 (cutTo VG387 (some [(8,.plain),(9,.plain),(10,.plain),(12,.plain),(13,.plain)]) s)) (kBlock 0 (kSeq (fun s => Rf7j10 (cutTo VG387 (some [(8,.plain),(9,.plain),(10,.plain),(12,.plain)]) s)) (kFin VG387 none (Try.f7).results.toList)))) = f7_10 F (fun w => Rf7l1 (ef7l1 w)) (fun w => Rf7j10 (ef7j10 w)) v := by
  rintro ⟨t12,t13,x3,x4,x5⟩; kernel_rfl
def f7_11_i : Int × Int × (List (List Int)) × (List Bool) × (List Int) → Int × Int × (List (List Int)) × (List Bool) × (List Int) := fun (t12,t13,x3,x4,x5) => (t12,t13,x3,x4,x5)
def f7_11 (F : Nat) (kf7j10 : Int × (List (List Int)) × (List Bool) × (List Int) → Option (AV × List Blk)) : Int × Int × (List (List Int)) × (List Bool) × (List Int) → Option (AV × List Blk) := fun v => loopN (fun k => f7_10 F k kf7j10) F (f7_11_i v)
theorem f7_11_eq (F : Nat) (Rf7j10 : St → Option (AV × List Blk)) : ∀ v,aexec VG387 (Af7 F) (sub (bodyOf Try.f7) [1,1,1,1,1,1,1,1,0,1,0]) (ef7j9 v) (kBlock 0 (kSeq (fun s => Rf7j10 (cutTo VG387 (some [(8,.plain),(9,.plain),(10,.plain),(12,.plain)]) s)) (kFin VG387 none (Try.f7).results.toList))) = f7_11 F (fun w => Rf7j10 (ef7j10 w)) v :=
  loop_cut (c := (sub (bodyOf Try.f7) [1,1,1,1,1,1,1,1,0,1,0])) (d := (sub (bodyOf Try.f7) [1,1,1,1,1,1,1,1,0,1,0,0])) (by kernel_rfl) (spec := [(8,.plain),(9,.plain),(10,.plain),(12,.plain),(13,.plain)]) (by kernel_rfl) ef7j9 ef7l1 (kBlock 0 (kSeq (fun s => Rf7j10 (cutTo VG387 (some [(8,.plain),(9,.plain),(10,.plain),(12,.plain)]) s)) (kFin VG387 none (Try.f7).results.toList))) f7_11_i (fun k => f7_10 F k (fun w => Rf7j10 (ef7j10 w)))
    (by rintro ⟨t12,t13,x3,x4,x5⟩; kernel_rfl) (fun Rf7l1 => f7_10_eq F Rf7l1 Rf7j10)
def f7_12 (F : Nat) (kf7j10 : Int × (List (List Int)) × (List Bool) × (List Int) → Option (AV × List Blk)) : Int × Int × (List (List Int)) × (List Bool) × (List Int) → Option (AV × List Blk) := f7_11 F kf7j10
theorem f7_12_eq (F : Nat) (Rf7j10 : St → Option (AV × List Blk)) : ∀ v,aexec VG387 (Af7 F) (sub (bodyOf Try.f7) [1,1,1,1,1,1,1,1,0,1]) (ef7j9 v) (kSeq (fun s => Rf7j10 (cutTo VG387 (some [(8,.plain),(9,.plain),(10,.plain),(12,.plain)]) s)) (kFin VG387 none (Try.f7).results.toList)) = f7_12 F (fun w => Rf7j10 (ef7j10 w)) v := fun v =>
  (block_in (c := (sub (bodyOf Try.f7) [1,1,1,1,1,1,1,1,0,1])) (d := (sub (bodyOf Try.f7) [1,1,1,1,1,1,1,1,0,1,0])) (id := 0) (by kernel_rfl) _ _).trans (f7_11_eq F Rf7j10 v)
def f7_13 (F : Nat) (kf7j10 : Int × (List (List Int)) × (List Bool) × (List Int) → Option (AV × List Blk)) : Int × (List (List Int)) × (List Bool) × (List Int) → Option (AV × List Blk) := fun v => f7_9 F (f7_12 F kf7j10) kf7j10 v
theorem f7_13_eq (F : Nat) (Rf7j10 : St → Option (AV × List Blk)) : ∀ v,aexec VG387 (Af7 F) (sub (bodyOf Try.f7) [1,1,1,1,1,1,1,1,0]) (ef7j8 v) (kSeq (fun s => Rf7j10 (cutTo VG387 (some [(8,.plain),(9,.plain),(10,.plain),(12,.plain)]) s)) (kFin VG387 none (Try.f7).results.toList)) = f7_13 F (fun w => Rf7j10 (ef7j10 w)) v :=
  seq_cut (c := (sub (bodyOf Try.f7) [1,1,1,1,1,1,1,1,0])) (a := (sub (bodyOf Try.f7) [1,1,1,1,1,1,1,1,0,0])) (b := (sub (bodyOf Try.f7) [1,1,1,1,1,1,1,1,0,1])) (by kernel_rfl) (spec := [(8,.plain),(9,.plain),(10,.plain),(12,.plain),(13,.plain)]) (by kernel_rfl) ef7j8 ef7j9 (kSeq (fun s => Rf7j10 (cutTo VG387 (some [(8,.plain),(9,.plain),(10,.plain),(12,.plain)]) s)) (kFin VG387 none (Try.f7).results.toList)) (fun k => f7_9 F k (fun w => Rf7j10 (ef7j10 w))) (f7_12 F (fun w => Rf7j10 (ef7j10 w)))
    (fun Rf7j9 => f7_9_eq F Rf7j9 Rf7j10) (f7_12_eq F Rf7j10)
def f7_14 (F : Nat) (kf7j11 : Int × (List (List Int)) × (List Bool) × (List Int) × (List Int) × (List Int) → Option (AV × List Blk)) : Int × (List (List Int)) × (List Bool) × (List Int) → Option (AV × List Blk) := fun (t12,x2,x3,x4) => (cond (decide (x4.length < 1073741000)) (kf7j11 (t12,x2,x3,(Reg.ofHost x4 0),(Reg.ofHost x4 1),(Reg.ofHost x4 2))) none)
theorem f7_14_eq (F : Nat) (Rf7j11 : St → Option (AV × List Blk)) : ∀ v,aexec VG387 (Af7 F) (sub (bodyOf Try.f7) [1,1,1,1,1,1,1,1,1,0]) (ef7j10 v) (kSeq (fun s => Rf7j11 (cutTo VG387 (some [(8,.plain),(9,.plain),(12,.plain),(14,.plain)]) s)) (kFin VG387 none (Try.f7).results.toList)) = f7_14 F (fun w => Rf7j11 (ef7j11 w)) v := by
  rintro ⟨t12,x2,x3,x4⟩; kernel_rfl
def f7_15 (F : Nat) (kf7j12 : Int × Int × (List (List Int)) × (List Bool) × (List Int) × (List Int) × (List Int) → Option (AV × List Blk)) : Int × (List (List Int)) × (List Bool) × (List Int) × (List Int) × (List Int) → Option (AV × List Blk) := fun (t12,x2,x3,x4,x5,x6) => (kf7j12 (t12,(0 : Int),x2,x3,x4,x5,x6))
theorem f7_15_eq (F : Nat) (Rf7j12 : St → Option (AV × List Blk)) : ∀ v,aexec VG387 (Af7 F) (sub (bodyOf Try.f7) [1,1,1,1,1,1,1,1,1,1,0]) (ef7j11 v) (kSeq (fun s => Rf7j12 (cutTo VG387 (some [(8,.plain),(9,.plain),(12,.plain),(14,.plain),(15,.plain)]) s)) (kFin VG387 none (Try.f7).results.toList)) = f7_15 F (fun w => Rf7j12 (ef7j12 w)) v := by
  rintro ⟨t12,x2,x3,x4,x5,x6⟩; kernel_rfl
def f7_16 (F : Nat) (kf7j13 : Int × Int × Int × (List (List Int)) × (List Bool) × (List Int) × (List Int) × (List Int) → Option (AV × List Blk)) (kf7j14 : Int × Int × (List (List Int)) → Option (AV × List Blk)) : Int × Int × (List (List Int)) × (List Bool) × (List Int) × (List Int) × (List Int) → Option (AV × List Blk) := fun (t12,t15,x3,x4,x5,x6,x7) => (kf7j13 (t12,t15,(0 : Int),x3,x4,x5,x6,x7))
theorem f7_16_eq (F : Nat) (Rf7j13 : St → Option (AV × List Blk)) (Rf7j14 : St → Option (AV × List Blk)) : ∀ v,aexec VG387 (Af7 F) (sub (bodyOf Try.f7) [1,1,1,1,1,1,1,1,1,1,1,0,0]) (ef7j12 v) (kSeq (fun s => Rf7j13 (cutTo VG387 (some [(8,.plain),(9,.plain),(12,.plain),(14,.plain),(15,.plain),(16,.plain)]) s)) (kSeq (fun s => Rf7j14 (cutTo VG387 (some [(8,.plain),(12,.plain),(15,.plain)]) s)) (kFin VG387 none (Try.f7).results.toList))) = f7_16 F (fun w => Rf7j13 (ef7j13 w)) (fun w => Rf7j14 (ef7j14 w)) v := by
  rintro ⟨t12,t15,x3,x4,x5,x6,x7⟩; kernel_rfl
def f7_17 (F : Nat) (kf7l2 : Int × Int × Int × (List (List Int)) × (List Bool) × (List Int) × (List Int) × (List Int) → Option (AV × List Blk)) (kf7j14 : Int × Int × (List (List Int)) → Option (AV × List Blk)) : Int × Int × Int × (List (List Int)) × (List Bool) × (List Int) × (List Int) × (List Int) → Option (AV × List Blk) := fun (t12,t15,t16,x4,x5,x6,x7,x8) => (cond (decide (t16 < (3 : Int))) (cond (decide (t16 = (0 : Int))) (cond (decide ((↑x6.length : Int) > (0 : Int))) (cond (decide ((0 : Int) < (↑x5.length : Int))) (cond (!(x5.getD 0 false)) (some ((.bool false),[])) (kf7l2 (t12,(if (↑x6.length : Int) > t15 then (↑x6.length : Int) else t15),(1 : Int),x4,x5,x6,x7,x8))) none) (kf7l2 (t12,(if (↑x6.length : Int) > t15 then (↑x6.length : Int) else t15),(1 : Int),x4,x5,x6,x7,x8))) (cond (decide (t16 = (1 : Int))) (cond (decide ((↑x7.length : Int) > (0 : Int))) (cond (decide ((1 : Int) < (↑x5.length : Int))) (cond (!(x5.getD 1 false)) (some ((.bool false),[])) (kf7l2 (t12,(if (↑x7.length : Int) > t15 then (↑x7.length : Int) else t15),(2 : Int),x4,x5,x6,x7,x8))) none) (kf7l2 (t12,(if (↑x7.length : Int) > t15 then (↑x7.length : Int) else t15),(2 : Int),x4,x5,x6,x7,x8))) (cond (decide (t16 = (2 : Int))) (cond (decide ((↑x8.length : Int) > (0 : Int))) (cond (decide ((2 : Int) < (↑x5.length : Int))) (cond (!(x5.getD 2 false)) (some ((.bool false),[])) (kf7l2 (t12,(if (↑x8.length : Int) > t15 then (↑x8.length : Int) else t15),(3 : Int),x4,x5,x6,x7,x8))) none) (kf7l2 (t12,(if (↑x8.length : Int) > t15 then (↑x8.length : Int) else t15),(3 : Int),x4,x5,x6,x7,x8))) none))) (kf7j14 (t12,t15,x4)))
theorem f7_17_eq (F : Nat) (Rf7l2 : St → Option (AV × List Blk)) (Rf7j14 : St → Option (AV × List Blk)) : ∀ v,aexec VG387 (Af7 F) (sub (bodyOf Try.f7) [1,1,1,1,1,1,1,1,1,1,1,0,1,0,0]) (ef7l2 v) (kSeq (fun s => Rf7l2 (cutTo VG387 (some [(8,.plain),(9,.plain),(12,.plain),(14,.plain),(15,.plain),(16,.plain)]) s)) (kBlock 2 (kSeq (fun s => Rf7j14 (cutTo VG387 (some [(8,.plain),(12,.plain),(15,.plain)]) s)) (kFin VG387 none (Try.f7).results.toList)))) = f7_17 F (fun w => Rf7l2 (ef7l2 w)) (fun w => Rf7j14 (ef7j14 w)) v := by
  rintro ⟨t12,t15,t16,x4,x5,x6,x7,x8⟩; kernel_rfl
def f7_18_i : Int × Int × Int × (List (List Int)) × (List Bool) × (List Int) × (List Int) × (List Int) → Int × Int × Int × (List (List Int)) × (List Bool) × (List Int) × (List Int) × (List Int) := fun (t12,t15,t16,x4,x5,x6,x7,x8) => (t12,t15,t16,x4,x5,x6,x7,x8)
def f7_18 (F : Nat) (kf7j14 : Int × Int × (List (List Int)) → Option (AV × List Blk)) : Int × Int × Int × (List (List Int)) × (List Bool) × (List Int) × (List Int) × (List Int) → Option (AV × List Blk) := fun v => loopN (fun k => f7_17 F k kf7j14) F (f7_18_i v)
theorem f7_18_eq (F : Nat) (Rf7j14 : St → Option (AV × List Blk)) : ∀ v,aexec VG387 (Af7 F) (sub (bodyOf Try.f7) [1,1,1,1,1,1,1,1,1,1,1,0,1,0]) (ef7j13 v) (kBlock 2 (kSeq (fun s => Rf7j14 (cutTo VG387 (some [(8,.plain),(12,.plain),(15,.plain)]) s)) (kFin VG387 none (Try.f7).results.toList))) = f7_18 F (fun w => Rf7j14 (ef7j14 w)) v :=
  loop_cut (c := (sub (bodyOf Try.f7) [1,1,1,1,1,1,1,1,1,1,1,0,1,0])) (d := (sub (bodyOf Try.f7) [1,1,1,1,1,1,1,1,1,1,1,0,1,0,0])) (by kernel_rfl) (spec := [(8,.plain),(9,.plain),(12,.plain),(14,.plain),(15,.plain),(16,.plain)]) (by kernel_rfl) ef7j13 ef7l2 (kBlock 2 (kSeq (fun s => Rf7j14 (cutTo VG387 (some [(8,.plain),(12,.plain),(15,.plain)]) s)) (kFin VG387 none (Try.f7).results.toList))) f7_18_i (fun k => f7_17 F k (fun w => Rf7j14 (ef7j14 w)))
    (by rintro ⟨t12,t15,t16,x4,x5,x6,x7,x8⟩; kernel_rfl) (fun Rf7l2 => f7_17_eq F Rf7l2 Rf7j14)
def f7_19 (F : Nat) (kf7j14 : Int × Int × (List (List Int)) → Option (AV × List Blk)) : Int × Int × Int × (List (List Int)) × (List Bool) × (List Int) × (List Int) × (List Int) → Option (AV × List Blk) := f7_18 F kf7j14
theorem f7_19_eq (F : Nat) (Rf7j14 : St → Option (AV × List Blk)) : ∀ v,aexec VG387 (Af7 F) (sub (bodyOf Try.f7) [1,1,1,1,1,1,1,1,1,1,1,0,1]) (ef7j13 v) (kSeq (fun s => Rf7j14 (cutTo VG387 (some [(8,.plain),(12,.plain),(15,.plain)]) s)) (kFin VG387 none (Try.f7).results.toList)) = f7_19 F (fun w => Rf7j14 (ef7j14 w)) v := fun v =>
  (block_in (c := (sub (bodyOf Try.f7) [1,1,1,1,1,1,1,1,1,1,1,0,1])) (d := (sub (bodyOf Try.f7) [1,1,1,1,1,1,1,1,1,1,1,0,1,0])) (id := 2) (by kernel_rfl) _ _).trans (f7_18_eq F Rf7j14 v)
def f7_20 (F : Nat) (kf7j14 : Int × Int × (List (List Int)) → Option (AV × List Blk)) : Int × Int × (List (List Int)) × (List Bool) × (List Int) × (List Int) × (List Int) → Option (AV × List Blk) := fun v => f7_16 F (f7_19 F kf7j14) kf7j14 v
theorem f7_20_eq (F : Nat) (Rf7j14 : St → Option (AV × List Blk)) : ∀ v,aexec VG387 (Af7 F) (sub (bodyOf Try.f7) [1,1,1,1,1,1,1,1,1,1,1,0]) (ef7j12 v) (kSeq (fun s => Rf7j14 (cutTo VG387 (some [(8,.plain),(12,.plain),(15,.plain)]) s)) (kFin VG387 none (Try.f7).results.toList)) = f7_20 F (fun w => Rf7j14 (ef7j14 w)) v :=
  seq_cut (c := (sub (bodyOf Try.f7) [1,1,1,1,1,1,1,1,1,1,1,0])) (a := (sub (bodyOf Try.f7) [1,1,1,1,1,1,1,1,1,1,1,0,0])) (b := (sub (bodyOf Try.f7) [1,1,1,1,1,1,1,1,1,1,1,0,1])) (by kernel_rfl) (spec := [(8,.plain),(9,.plain),(12,.plain),(14,.plain),(15,.plain),(16,.plain)]) (by kernel_rfl) ef7j12 ef7j13 (kSeq (fun s => Rf7j14 (cutTo VG387 (some [(8,.plain),(12,.plain),(15,.plain)]) s)) (kFin VG387 none (Try.f7).results.toList)) (fun k => f7_16 F k (fun w => Rf7j14 (ef7j14 w))) (f7_19 F (fun w => Rf7j14 (ef7j14 w)))
    (fun Rf7j13 => f7_16_eq F Rf7j13 Rf7j14) (f7_19_eq F Rf7j14)
def f7_21 (F : Nat) : Int × Int × (List (List Int)) → Option (AV × List Blk) := fun (t12,t15,x3) => (cond (t12 == (0 : Int)) (cond (t15 == (0 : Int)) (some ((.bool true),[])) (some ((.bool false),[]))) (cond (((decide (0 ≤ t12)) && (decide (t12 ≤ t12))) && (decide (t12 < 1073741824))) (cond (Reg.leastOk x3 (0 : Int) (List.replicate (Int.toNat t12) 0) 30) (cond (decide ((IntKind.i64.wrap ((3 : Int) * t15)) ≤ (IntKind.i64.wrap ((4 : Int) * (Reg.least (x3.drop (Int.toNat (0 : Int))) (List.replicate (Int.toNat t12) 0)))))) (some ((.bool true),[])) (some ((.bool false),[]))) none) none))
theorem f7_21_eq (F : Nat) : ∀ v,aexec VG387 (Af7 F) (sub (bodyOf Try.f7) [1,1,1,1,1,1,1,1,1,1,1,1]) (ef7j14 v) (kFin VG387 none (Try.f7).results.toList) = f7_21 F v := by
  rintro ⟨t12,t15,x3⟩; kernel_rfl
def f7_22 (F : Nat) : Int × Int × (List (List Int)) × (List Bool) × (List Int) × (List Int) × (List Int) → Option (AV × List Blk) := fun v => f7_20 F (f7_21 F) v
theorem f7_22_eq (F : Nat) : ∀ v,aexec VG387 (Af7 F) (sub (bodyOf Try.f7) [1,1,1,1,1,1,1,1,1,1,1]) (ef7j12 v) (kFin VG387 none (Try.f7).results.toList) = f7_22 F v :=
  seq_cut (c := (sub (bodyOf Try.f7) [1,1,1,1,1,1,1,1,1,1,1])) (a := (sub (bodyOf Try.f7) [1,1,1,1,1,1,1,1,1,1,1,0])) (b := (sub (bodyOf Try.f7) [1,1,1,1,1,1,1,1,1,1,1,1])) (by kernel_rfl) (spec := [(8,.plain),(12,.plain),(15,.plain)]) (by kernel_rfl) ef7j12 ef7j14 (kFin VG387 none (Try.f7).results.toList) (fun k => f7_20 F k) (f7_21 F)
    (fun Rf7j14 => f7_20_eq F Rf7j14) (f7_21_eq F)
def f7_23 (F : Nat) : Int × (List (List Int)) × (List Bool) × (List Int) × (List Int) × (List Int) → Option (AV × List Blk) := fun v => f7_15 F (f7_22 F) v
theorem f7_23_eq (F : Nat) : ∀ v,aexec VG387 (Af7 F) (sub (bodyOf Try.f7) [1,1,1,1,1,1,1,1,1,1]) (ef7j11 v) (kFin VG387 none (Try.f7).results.toList) = f7_23 F v :=
  seq_cut (c := (sub (bodyOf Try.f7) [1,1,1,1,1,1,1,1,1,1])) (a := (sub (bodyOf Try.f7) [1,1,1,1,1,1,1,1,1,1,0])) (b := (sub (bodyOf Try.f7) [1,1,1,1,1,1,1,1,1,1,1])) (by kernel_rfl) (spec := [(8,.plain),(9,.plain),(12,.plain),(14,.plain),(15,.plain)]) (by kernel_rfl) ef7j11 ef7j12 (kFin VG387 none (Try.f7).results.toList) (fun k => f7_15 F k) (f7_22 F)
    (fun Rf7j12 => f7_15_eq F Rf7j12) (f7_22_eq F)
def f7_24 (F : Nat) : Int × (List (List Int)) × (List Bool) × (List Int) → Option (AV × List Blk) := fun v => f7_14 F (f7_23 F) v
theorem f7_24_eq (F : Nat) : ∀ v,aexec VG387 (Af7 F) (sub (bodyOf Try.f7) [1,1,1,1,1,1,1,1,1]) (ef7j10 v) (kFin VG387 none (Try.f7).results.toList) = f7_24 F v :=
  seq_cut (c := (sub (bodyOf Try.f7) [1,1,1,1,1,1,1,1,1])) (a := (sub (bodyOf Try.f7) [1,1,1,1,1,1,1,1,1,0])) (b := (sub (bodyOf Try.f7) [1,1,1,1,1,1,1,1,1,1])) (by kernel_rfl) (spec := [(8,.plain),(9,.plain),(12,.plain),(14,.plain)]) (by kernel_rfl) ef7j10 ef7j11 (kFin VG387 none (Try.f7).results.toList) (fun k => f7_14 F k) (f7_23 F)
    (fun Rf7j11 => f7_14_eq F Rf7j11) (f7_23_eq F)
def f7_25 (F : Nat) : Int × (List (List Int)) × (List Bool) × (List Int) → Option (AV × List Blk) := fun v => f7_13 F (f7_24 F) v
theorem f7_25_eq (F : Nat) : ∀ v,aexec VG387 (Af7 F) (sub (bodyOf Try.f7) [1,1,1,1,1,1,1,1]) (ef7j8 v) (kFin VG387 none (Try.f7).results.toList) = f7_25 F v :=
  seq_cut (c := (sub (bodyOf Try.f7) [1,1,1,1,1,1,1,1])) (a := (sub (bodyOf Try.f7) [1,1,1,1,1,1,1,1,0])) (b := (sub (bodyOf Try.f7) [1,1,1,1,1,1,1,1,1])) (by kernel_rfl) (spec := [(8,.plain),(9,.plain),(10,.plain),(12,.plain)]) (by kernel_rfl) ef7j8 ef7j10 (kFin VG387 none (Try.f7).results.toList) (fun k => f7_13 F k) (f7_24 F)
    (fun Rf7j10 => f7_13_eq F Rf7j10) (f7_24_eq F)
def f7_26 (F : Nat) : (List (List Int)) × (List Bool) × (List Int) → Option (AV × List Blk) := fun v => f7_8 F (f7_25 F) v
theorem f7_26_eq (F : Nat) : ∀ v,aexec VG387 (Af7 F) (sub (bodyOf Try.f7) [1,1,1,1,1,1,1]) (ef7j7 v) (kFin VG387 none (Try.f7).results.toList) = f7_26 F v :=
  seq_cut (c := (sub (bodyOf Try.f7) [1,1,1,1,1,1,1])) (a := (sub (bodyOf Try.f7) [1,1,1,1,1,1,1,0])) (b := (sub (bodyOf Try.f7) [1,1,1,1,1,1,1,1])) (by kernel_rfl) (spec := [(8,.plain),(9,.plain),(10,.plain),(12,.plain)]) (by kernel_rfl) ef7j7 ef7j8 (kFin VG387 none (Try.f7).results.toList) (fun k => f7_8 F k) (f7_25 F)
    (fun Rf7j8 => f7_8_eq F Rf7j8) (f7_25_eq F)
def f7_27 (F : Nat) : Int × (List (List Int)) × (List Bool) × (List Int) → Option (AV × List Blk) := fun v => f7_7 F (f7_26 F) v
theorem f7_27_eq (F : Nat) : ∀ v,aexec VG387 (Af7 F) (sub (bodyOf Try.f7) [1,1,1,1,1,1]) (ef7j6 v) (kFin VG387 none (Try.f7).results.toList) = f7_27 F v :=
  seq_cut (c := (sub (bodyOf Try.f7) [1,1,1,1,1,1])) (a := (sub (bodyOf Try.f7) [1,1,1,1,1,1,0])) (b := (sub (bodyOf Try.f7) [1,1,1,1,1,1,1])) (by kernel_rfl) (spec := [(8,.plain),(9,.plain),(10,.plain)]) (by kernel_rfl) ef7j6 ef7j7 (kFin VG387 none (Try.f7).results.toList) (fun k => f7_7 F k) (f7_26 F)
    (fun Rf7j7 => f7_7_eq F Rf7j7) (f7_26_eq F)
def f7_28 (F : Nat) : Int × Int × (List (List Int)) × (List Bool) × (List Int) → Option (AV × List Blk) := fun v => f7_6 F (f7_27 F) v
theorem f7_28_eq (F : Nat) : ∀ v,aexec VG387 (Af7 F) (sub (bodyOf Try.f7) [1,1,1,1,1]) (ef7j5 v) (kFin VG387 none (Try.f7).results.toList) = f7_28 F v :=
  seq_cut (c := (sub (bodyOf Try.f7) [1,1,1,1,1])) (a := (sub (bodyOf Try.f7) [1,1,1,1,1,0])) (b := (sub (bodyOf Try.f7) [1,1,1,1,1,1])) (by kernel_rfl) (spec := [(7,.plain),(8,.plain),(9,.plain),(10,.plain)]) (by kernel_rfl) ef7j5 ef7j6 (kFin VG387 none (Try.f7).results.toList) (fun k => f7_6 F k) (f7_27 F)
    (fun Rf7j6 => f7_6_eq F Rf7j6) (f7_27_eq F)
def f7_29 (F : Nat) : Int × (List (List Int)) × (List Bool) → Option (AV × List Blk) := fun v => f7_5 F (f7_28 F) v
theorem f7_29_eq (F : Nat) : ∀ v,aexec VG387 (Af7 F) (sub (bodyOf Try.f7) [1,1,1,1]) (ef7j4 v) (kFin VG387 none (Try.f7).results.toList) = f7_29 F v :=
  seq_cut (c := (sub (bodyOf Try.f7) [1,1,1,1])) (a := (sub (bodyOf Try.f7) [1,1,1,1,0])) (b := (sub (bodyOf Try.f7) [1,1,1,1,1])) (by kernel_rfl) (spec := [(7,.plain),(8,.plain),(9,.plain),(10,.plain),(11,.plain)]) (by kernel_rfl) ef7j4 ef7j5 (kFin VG387 none (Try.f7).results.toList) (fun k => f7_5 F k) (f7_28 F)
    (fun Rf7j5 => f7_5_eq F Rf7j5) (f7_28_eq F)
def f7_30 (F : Nat) : Int × Int × (List (List Int)) → Option (AV × List Blk) := fun v => f7_4 F (f7_29 F) v
theorem f7_30_eq (F : Nat) : ∀ v,aexec VG387 (Af7 F) (sub (bodyOf Try.f7) [1,1,1]) (ef7j3 v) (kFin VG387 none (Try.f7).results.toList) = f7_30 F v :=
  seq_cut (c := (sub (bodyOf Try.f7) [1,1,1])) (a := (sub (bodyOf Try.f7) [1,1,1,0])) (b := (sub (bodyOf Try.f7) [1,1,1,1])) (by kernel_rfl) (spec := [(7,.plain),(8,.plain),(9,.plain)]) (by kernel_rfl) ef7j3 ef7j4 (kFin VG387 none (Try.f7).results.toList) (fun k => f7_4 F k) (f7_29 F)
    (fun Rf7j4 => f7_4_eq F Rf7j4) (f7_29_eq F)
def f7_31 (F : Nat) : (List Int) × Int × Int → Option (AV × List Blk) := fun v => f7_3 F (f7_30 F) v
theorem f7_31_eq (F : Nat) : ∀ v,aexec VG387 (Af7 F) (sub (bodyOf Try.f7) [1,1]) (ef7j2 v) (kFin VG387 none (Try.f7).results.toList) = f7_31 F v :=
  seq_cut (c := (sub (bodyOf Try.f7) [1,1])) (a := (sub (bodyOf Try.f7) [1,1,0])) (b := (sub (bodyOf Try.f7) [1,1,1])) (by kernel_rfl) (spec := [(2,.plain),(7,.plain),(8,.plain)]) (by kernel_rfl) ef7j2 ef7j3 (kFin VG387 none (Try.f7).results.toList) (fun k => f7_3 F k) (f7_30 F)
    (fun Rf7j3 => f7_3_eq F Rf7j3) (f7_30_eq F)
def f7_32 (F : Nat) : (List Int) × Int × Int → Option (AV × List Blk) := fun v => f7_2 F (f7_31 F) v
theorem f7_32_eq (F : Nat) : ∀ v,aexec VG387 (Af7 F) (sub (bodyOf Try.f7) [1]) (ef7j1 v) (kFin VG387 none (Try.f7).results.toList) = f7_32 F v :=
  seq_cut (c := (sub (bodyOf Try.f7) [1])) (a := (sub (bodyOf Try.f7) [1,0])) (b := (sub (bodyOf Try.f7) [1,1])) (by kernel_rfl) (spec := [(0,.plain),(2,.plain),(7,.plain)]) (by kernel_rfl) ef7j1 ef7j2 (kFin VG387 none (Try.f7).results.toList) (fun k => f7_2 F k) (f7_31 F)
    (fun Rf7j2 => f7_2_eq F Rf7j2) (f7_31_eq F)
def f7_33 (F : Nat) : (List Int) × Int × Int → Option (AV × List Blk) := fun v => f7_1 F (f7_32 F) v
theorem f7_33_eq (F : Nat) : ∀ v,aexec VG387 (Af7 F) (sub (bodyOf Try.f7) []) (ef7_a v) (kFin VG387 none (Try.f7).results.toList) = f7_33 F v :=
  seq_cut (c := (sub (bodyOf Try.f7) [])) (a := (sub (bodyOf Try.f7) [0])) (b := (sub (bodyOf Try.f7) [1])) (by kernel_rfl) (spec := [(0,.plain),(1,.plain),(2,.plain)]) (by kernel_rfl) ef7_a ef7j1 (kFin VG387 none (Try.f7).results.toList) (fun k => f7_1 F k) (f7_32 F)
    (fun Rf7j1 => f7_1_eq F Rf7j1) (f7_32_eq F)
/-- gantry/gantrylaw38.RegionFair -/
def f7 (F : Nat) : (List Int) × Int × Int → Option (AV × List Blk) := f7_33 F
theorem f7_body (F : Nat) (a0 : List Int) (a1 : Int) (a2 : Int) : abody VG387 (Af7 F) Try.f7 [(.vs (.rI .i64 a0) 0 1),(.int .i64 a1),(.int .i64 a2)] [] = f7 F (a0,a1,a2) :=
  (abody_in (c := (sub (bodyOf Try.f7) [])) (by kernel_rfl) (s := ef7_a (a0,a1,a2)) (by kernel_rfl)).trans (f7_33_eq F (a0,a1,a2))
def r7 : CRun := fun X H => match X,H with
  | [(.vs (.rI .i64 a0) 0 1),(.int .i64 a1),(.int .i64 a2)],[] => some (true,(.bool true),[])
  | _,_ => none
theorem s7 (a0 : List Int) (a1 : Int) (a2 : Int) (h0 : okV (.vs (.rI .i64 a0) 0 1)) (h1 : okV (.int .i64 a1)) (h2 : okV (.int .i64 a2)) : ∃ F,f7 F (a0,a1,a2) = some ((.bool true),[]) := by
  refine ⟨10,?_⟩
  have q20 := Reg.around_lt (n := a1) (show (0 : Int) < 20 by omega)
  simp only [f7,f7_33,f7_1,f7_32,f7_2,f7_31,f7_3,f7_30,f7_4,f7_29,f7_5,dec_and]
  rw [cond_pos (by omega)]
  generalize Reg.around a1 20 = k0 at *
  obtain ⟨k,rfl⟩ : ∃ k : Nat,k0 = (k : Int) := ⟨k0.toNat,by omega⟩
  have hG := Reg.groups_len a0 k 6
  have hV : Reg.valid (Reg.groups a0 k 6) k [] (Reg.ups a2 3) = true := Reg.valid_of (by rw [Reg.ups_len]; omega) (by rw [Reg.ups_len]; omega) (Reg.groups_vgs a0 k 6) fun x hx => by simp at hx
  have hU := Reg.ups_len a2 3
  rw [cond_pos (by omega),cond_pos (by omega),Int.toNat_natCast,cond_pos (by omega)]
  rw [show Int.toNat 3 = 3 from rfl]
  have hX := Reg.valid_short hV
  generalize Reg.groups a0 k 6 = G at *
  generalize Reg.ups a2 3 = U at *
  simp only [f7_28,f7_6,int_bne,int_beq]
  have hE : (Reg.even G k U).2 = 0 ∨ (Reg.even G k U).2 = 6 := by
    unfold Reg.even
    rw [if_neg (by rw [Int.toNat_natCast,hV]; simp; omega)]
    split
    · exact .inr rfl
    · exact .inl rfl
  rcases hE with he | he
  rotate_left
  · rw [he,cond_pos (by omega),cond_pos rfl]
  have hlen : (Reg.even G k U).1.length = k := by
    unfold Reg.even at he ⊢
    split at he
    · simp at he
    rename_i hb
    split at he
    · simp at he
    rename_i hq
    rw [if_neg hb,if_neg hq,Int.toNat_natCast]
    have := (Reg.evTo_len (Reg.sortD G) k U 6 (Reg.sortD G).length).1
    unfold Reg.evTo at this
    rw [List.take_length] at this
    exact this
  have hfair := Reg.fair_even hU (by omega) hG hV he
  have hnone := fun hm (c : Nat) (hc : c < 3) => Reg.even_none he hm c (by omega)
  have hup := fun (c : Nat) (hc : c < 3) => Reg.even_up he c (by omega)
  rw [cond_neg (by omega)]
  generalize (Reg.even G k U).1 = A at *
  simp only [f7_27,f7_7,int_bne]
  rw [cond_neg (by omega)]
  simp only [f7_26,f7_8,f7_25,f7_13,f7_9,f7_12,f7_11,f7_11_i]
  refine loopN_from (fun i => (((U.take i).count true : Int),(i : Int),G,U,A)) 3 (by rfl) (fun i hi kk => ?_) (fun kk => ?_) _ (by omega)
  · simp only [f7_10,dec_and]
    rw [cond_pos (by omega),cond_pos (by omega),Int.toNat_natCast,i64w (x := (i : Int) + 1) (by omega) (by omega)]
    have hcl := List.count_le_length (a := true) (l := U.take i)
    rw [List.length_take] at hcl
    rw [i64w (by omega) (by omega)]
    have ht : (U.take (i + 1)).count true = (U.take i).count true + (if U.getD i false = true then 1 else 0) := by
      rw [List.take_add_one,List.count_append,List.getElem?_eq_getElem (by omega),List.getD_eq_getElem?_getD,List.getElem?_eq_getElem (by omega)]
      cases U[i] <;> rfl
    rw [ht]
    cases U.getD i false with
    | false => rw [cond_false,if_neg (by simp)]; rfl
    | true => rw [cond_true,if_pos rfl]; rfl
  simp only [f7_10]
  rw [cond_neg (by omega),← hU,List.take_length]
  have hcl := List.count_le_length (a := true) (l := U)
  simp only [f7_24,f7_14,f7_23,f7_15,f7_22,f7_20,f7_16,f7_19,f7_18,f7_18_i]
  rw [cond_pos (by omega)]
  have hb : ∀ i,0 ≤ Reg.gtTo A i ∧ Reg.gtTo A i ≤ (k : Int) := by
    intro i
    induction i with
    | zero => exact ⟨Int.le_refl _,by show (0 : Int) ≤ _; omega⟩
    | succ i ih =>
      have := Reg.ohTo_len_le A (i : Int) A.length
      change (Reg.ofHost A (i : Int)).length ≤ A.length at this
      rw [Reg.gtTo]; split <;> omega
  have hu0 := hup 0 (by omega)
  have hu1 := hup 1 (by omega)
  have hu2 := hup 2 (by omega)
  have g1 : Reg.gtTo A 1 = if ((Reg.ofHost A 0).length : Int) > 0 then ((Reg.ofHost A 0).length : Int) else 0 := rfl
  have g2 : Reg.gtTo A 2 = if ((Reg.ofHost A 1).length : Int) > Reg.gtTo A 1 then ((Reg.ofHost A 1).length : Int) else Reg.gtTo A 1 := rfl
  have g3 : Reg.gtTo A 3 = if ((Reg.ofHost A 2).length : Int) > Reg.gtTo A 2 then ((Reg.ofHost A 2).length : Int) else Reg.gtTo A 2 := rfl
  change _ → U.getD 0 false = true at hu0
  refine loopN_from (fun i => ((U.count true : Int),Reg.gtTo A i,(i : Int),G,U,Reg.ofHost A 0,Reg.ofHost A 1,Reg.ofHost A 2)) 3 (by rfl) (fun i hi kk => ?_) (fun kk => ?_) _ (by omega)
  · have hi3 : i = 0 ∨ i = 1 ∨ i = 2 := by omega
    simp only [f7_17]
    rw [cond_pos (by omega)]
    rcases hi3 with rfl | rfl | rfl
    · rw [cond_pos (by omega)]
      by_cases hz : ((Reg.ofHost A 0).length : Int) > 0
      · rw [cond_pos hz,cond_pos (by omega),hu0 (by simp only [Int.natCast_zero] at *; omega)]; rfl
      · rw [cond_neg hz]; rfl
    · rw [cond_neg (by omega),cond_pos (by omega)]
      by_cases hz : ((Reg.ofHost A 1).length : Int) > 0
      · rw [cond_pos hz,cond_pos (by omega),hu1 (by show (Reg.ofHost A 1).length > 0; omega)]; rfl
      · rw [cond_neg hz]; rfl
    · rw [cond_neg (by omega),cond_neg (by omega),cond_pos (by omega)]
      by_cases hz : ((Reg.ofHost A 2).length : Int) > 0
      · rw [cond_pos hz,cond_pos (by omega),hu2 (by show (Reg.ofHost A 2).length > 0; omega)]; rfl
      · rw [cond_neg hz]; rfl
  simp only [f7_17]
  rw [cond_neg (by omega)]
  simp only [f7_21,int_beq,dec_and]
  by_cases hm : U.count true = 0
  · have e0 : (Reg.ofHost A 0).length = 0 := hnone hm 0 (by omega)
    have e1 : (Reg.ofHost A 1).length = 0 := hnone hm 1 (by omega)
    have e2 : (Reg.ofHost A 2).length = 0 := hnone hm 2 (by omega)
    rw [cond_pos (by omega),cond_pos (by rw [g3,g2,g1,e0,e1,e2]; rfl)]
  · have hf := hfair (by omega)
    rw [cond_neg (by omega),cond_pos (by omega),Int.toNat_natCast,(Reg.leastOk_iff.2 ⟨by omega,by omega,by rw [List.length_replicate]; omega,by omega,fun x hx => by have := hX x hx; omega,fun s hs => by
      have := List.eq_of_mem_replicate hs; omega,by rw [List.length_replicate]; omega⟩ : Reg.leastOk G 0 (List.replicate (U.count true) 0) 30 = true),cond_true]
    have hl : (0 : Int) ≤ Reg.least G (List.replicate (U.count true) 0) ∧ Reg.least G (List.replicate (U.count true) 0) ≤ 1048576 := by
      have hbg := hb 3
      refine ⟨by omega,?_⟩
      unfold Reg.least
      cases Reg.sizes G with
      | nil =>
        have : ∀ n : Nat,(List.replicate n (0 : Int)).foldl (fun (o s : Int) => if s > o then s else o) 0 = 0 := by
          intro n
          induction n with
          | zero => rfl
          | succ n ih => rw [List.replicate_succ,List.foldl_cons]; exact ih
        have := this (U.count true)
        show (List.replicate (U.count true) (0 : Int)).foldl (fun (o s : Int) => if s > o then s else o) 0 ≤ 1048576
        omega
      | cons p ps => exact ((Reg.le_least_cons _ p ps _).1 (Int.le_refl _)).1
    have hbg := hb 3
    rw [show Int.toNat 0 = 0 from rfl,List.drop_zero,i64w (by omega) (by omega),i64w (by omega) (by omega),cond_pos hf]

theorem c7 : CallOk Try.prog G38 7 r7 := callOk_of (V := VG387) mixed tys eVG387 (f := 7) (fn := Try.f7) Try.func7 (by kernel_rfl) (c := sub (bodyOf Try.f7) []) (by kernel_rfl) (by
  intro X H r H' h hX hH
  unfold r7 at h; split at h <;> try contradiction
  · simp only [Option.some.injEq,Prod.mk.injEq] at h
    obtain ⟨hp,rfl,rfl⟩ := h
    obtain ⟨F,hF⟩ := s7 _ _ _ (hX _ (.head _)) (hX _ (.tail _ (.head _))) (hX _ (.tail _ (.tail _ (.head _))))
    exact ⟨Af7 F,(f7_body F _ _ _).trans hF⟩)
end Go.Am
