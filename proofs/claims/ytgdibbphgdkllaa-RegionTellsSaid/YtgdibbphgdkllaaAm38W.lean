/- Part of a proof about the functions of the given program. -/
import Derived.Test.YtgdibbphgdkllaaAm38V
import Derived.Test.YtgdibbphgdkllaaAm38G
set_option linter.unusedVariables false
set_option linter.unusedSimpArgs false
namespace Go.Am
open Go Go.Proofs
abbrev sp59 : List (Nat × Md) := [(5,.plain),(13,.plain),(14,.plain),(15,.plain)]
abbrev Ty78 := (List Int) × Int × Int × (List Int)
abbrev Ty79 := (List Int) × (List Int) × (List Int)
abbrev Ty80 := (List Int) × Int × Int × (List Int) × (List Int)
abbrev Ty81 := (List Int) × Int × Int × (List Int) × (List Int) × (List Int)
abbrev Ty82 := (List Int) × (List Int) × (List Int) × (List Int) × (List Int)
abbrev Ty83 := (List Int) × Int × Int × (List Int) × (List Int) × (List Int) × (List Int)
abbrev Ty84 := (List Int) × Int × Int × (List Int) × (List Int) × (List Int) × (List Int) × (List Int)
abbrev Ty85 := (List Int) × (List Int) × (List Int) × (List Int) × (List Int) × (List Int) × (List Int)
abbrev Ty86 := (List Int) × Int × Int × (List Int) × (List Int) × (List Int) × (List Int) × (List Int) × (List Int)
def lVG3825w : List CEnt := []
def VG3825w : Env := mkEnv T38 G38 lVG3825w
theorem eVG3825w : EOk Try.prog VG3825w := eok_mk (by exact trivial)
def Af25wa (F : Nat) : Cuts := { F := F,at_ := fun _ => none,join := fun n => match n with | 1034 => some [(0,.plain),(1,.plain)] | _ => none,fin := (some [(4,(.own 22))]) }
def ef25wa_a : (List Int) → St := fun a0 => { tmps := [(0,(.vs (.rI .i64 a0) 0 1)),(1,(.int .i64 (-1 : Int)))],heap := [],next := 0,nt := 40,m := 0 }
def ef25wa_j1034 : (List Int) → St := fun t0 => { tmps := [(0,(.vs (.rI .i64 t0) 0 1)),(1,(.int .i64 (-1 : Int)))],heap := [],next := 0,nt := 40,m := 0 }
def f25wa_n0 (F : Nat) (kf25wa_j1034 : (List Int) → Rz) : (List Int) → Rz := fun a0 => (kf25wa_j1034 a0)
theorem f25wa_n0_eq (F : Nat) (Rf25wa_j1034 : St → Rz) : ∀ v,aexec VG3825w (Af25wa F) (bp Try.f25 2) (ef25wa_a v) (kSeq (kc VG3825w Rf25wa_j1034 [(0,.plain),(1,.plain)]) (kFin VG3825w (some [(4,(.own 22))]) (Try.f25).results.toList)) = f25wa_n0 F (Rf25wa_j1034 ∘ ef25wa_j1034) v := by
  intro a0; kernel_rfl
def f25wa_n1 (F : Nat) : (List Int) → Rz := fun t0 => (some ((.own 0 0 1),[(.cells 0 (.rL .i64 []) true)]))
theorem f25wa_n1_eq (F : Nat) : ∀ v,aexec VG3825w (Af25wa F) (bp Try.f25 3) (ef25wa_j1034 v) (kFin VG3825w (some [(4,(.own 22))]) (Try.f25).results.toList) = f25wa_n1 F v := by
  intro t0; kernel_rfl
def f25wa_nt (F : Nat) : (List Int) → Rz := fun v => f25wa_n0 F (f25wa_n1 F) v
theorem f25wa_nt_eq (F : Nat) : ∀ v,aexec VG3825w (Af25wa F) (sub (bodyOf Try.f25) []) (ef25wa_a v) (kFin VG3825w (some [(4,(.own 22))]) (Try.f25).results.toList) = f25wa_nt F v :=
  seq_cut (by kernel_rfl) (by kernel_rfl) ef25wa_a ef25wa_j1034 _ (fun k => f25wa_n0 F k) (f25wa_n1 F)
    (fun Rf25wa_j1034 => f25wa_n0_eq F Rf25wa_j1034) (f25wa_n1_eq F)
def f25wa (F : Nat) : (List Int) → Rz := f25wa_nt F
theorem f25wa_body (F : Nat) (a0 : List Int) : abody VG3825w (Af25wa F) Try.f25 [(.vs (.rI .i64 a0) 0 1),(.int .i64 (-1 : Int))] [] = f25wa F a0 :=
  (abody_in (c := (sub (bodyOf Try.f25) [])) (by kernel_rfl) (s := ef25wa_a a0) (by kernel_rfl)).trans (f25wa_nt_eq F a0)
def Af25wb (F : Nat) : Cuts := { F := F,at_ := fun _ => none,join := fun n => match n with | 1034 => some [(0,.plain),(1,.plain)] | _ => none,fin := (some [(4,(.own 22))]) }
def ef25wb_a : (List Int) → St := fun a0 => { tmps := [(0,(.vs (.rI .i64 a0) 0 1)),(1,(.int .i64 (0 : Int)))],heap := [],next := 0,nt := 40,m := 0 }
def ef25wb_j1034 : (List Int) → St := fun t0 => { tmps := [(0,(.vs (.rI .i64 t0) 0 1)),(1,(.int .i64 (0 : Int)))],heap := [],next := 0,nt := 40,m := 0 }
def f25wb_n0 (F : Nat) (kf25wb_j1034 : (List Int) → Rz) : (List Int) → Rz := fun a0 => (kf25wb_j1034 a0)
theorem f25wb_n0_eq (F : Nat) (Rf25wb_j1034 : St → Rz) : ∀ v,aexec VG3825w (Af25wb F) (bp Try.f25 2) (ef25wb_a v) (kSeq (kc VG3825w Rf25wb_j1034 [(0,.plain),(1,.plain)]) (kFin VG3825w (some [(4,(.own 22))]) (Try.f25).results.toList)) = f25wb_n0 F (Rf25wb_j1034 ∘ ef25wb_j1034) v := by
  intro a0; kernel_rfl
def f25wb_n1 (F : Nat) : (List Int) → Rz := fun t0 => (some ((.own 0 0 1),[(.cells 0 (.rL .i64 []) true)]))
theorem f25wb_n1_eq (F : Nat) : ∀ v,aexec VG3825w (Af25wb F) (bp Try.f25 3) (ef25wb_j1034 v) (kFin VG3825w (some [(4,(.own 22))]) (Try.f25).results.toList) = f25wb_n1 F v := by
  intro t0; kernel_rfl
def f25wb_nt (F : Nat) : (List Int) → Rz := fun v => f25wb_n0 F (f25wb_n1 F) v
theorem f25wb_nt_eq (F : Nat) : ∀ v,aexec VG3825w (Af25wb F) (sub (bodyOf Try.f25) []) (ef25wb_a v) (kFin VG3825w (some [(4,(.own 22))]) (Try.f25).results.toList) = f25wb_nt F v :=
  seq_cut (by kernel_rfl) (by kernel_rfl) ef25wb_a ef25wb_j1034 _ (fun k => f25wb_n0 F k) (f25wb_n1 F)
    (fun Rf25wb_j1034 => f25wb_n0_eq F Rf25wb_j1034) (f25wb_n1_eq F)
def f25wb (F : Nat) : (List Int) → Rz := f25wb_nt F
theorem f25wb_body (F : Nat) (a0 : List Int) : abody VG3825w (Af25wb F) Try.f25 [(.vs (.rI .i64 a0) 0 1),(.int .i64 (0 : Int))] [] = f25wb F a0 :=
  (abody_in (c := (sub (bodyOf Try.f25) [])) (by kernel_rfl) (s := ef25wb_a a0) (by kernel_rfl)).trans (f25wb_nt_eq F a0)
def Af25wc (F : Nat) : Cuts := { F := F,at_ := fun n => match n with | 5016 => some sp59 | _ => none,join := fun n => match n with | 1034 => some [(0,.plain),(1,.plain)] | 3026 => some [(0,.plain),(1,.plain)] | 4024 => some [(0,.plain),(5,.plain)] | 5018 => some sp59 | 10003 => some [(5,.plain)] | _ => none,fin := (some [(4,(.lists .i64 22))]),cas := fun n => match n with | 8 => some (7,1) | _ => none }
def ef25wc_a : (List Int) → St := fun a0 => { tmps := [(0,(.vs (.rI .i64 a0) 0 1)),(1,(.int .i64 (1 : Int)))],heap := [],next := 0,nt := 40,m := 0 }
def ef25wc_j1034 : (List Int) → St := fun t0 => { tmps := [(0,(.vs (.rI .i64 t0) 0 1)),(1,(.int .i64 (1 : Int)))],heap := [],next := 0,nt := 40,m := 0 }
def ef25wc_j3026 : (List Int) → St := fun t0 => { tmps := [(0,(.vs (.rI .i64 t0) 0 1)),(1,(.int .i64 (1 : Int)))],heap := [],next := 0,nt := 40,m := 0 }
def ef25wc_j4024 : (List Int) × (List Int) → St := fun (t0,x2) => { tmps := [(0,(.vs (.rI .i64 t0) 0 1)),(5,(.own 0 0 1))],heap := [(0,(.cells 1 (.segs (.cons 1 (.one (.own 1 0 1)) .nil)) true)),(1,(.cells x2.length (.rI .i64 x2) true))],next := 2,nt := 40,m := 0 }
def ef25wc_j5018 : Ty78 → St := fun (t13,t14,t15,x4) => { tmps := [(5,(.own 0 0 1)),(13,(.vs (.rI .i64 t13) 0 1)),(14,(.int .i64 t14)),(15,(.int .i64 t15))],heap := [(0,(.cells 1 (.segs (.cons 1 (.one (.own 1 0 1)) .nil)) true)),(1,(.cells x4.length (.rI .i64 x4) true))],next := 2,nt := 40,m := 0 }
def ef25wc_l5016 : Ty78 → St := fun (t13,t14,t15,x4) => { tmps := [(5,(.own 0 0 1)),(13,(.vs (.rI .i64 t13) 0 1)),(14,(.int .i64 t14)),(15,(.int .i64 t15))],heap := [(0,(.cells 1 (.segs (.cons 1 (.one (.own 1 0 1)) .nil)) true)),(1,(.cells x4.length (.rI .i64 x4) true))],next := 2,nt := 40,m := 0 }
def ef25wc_j10003 : (List Int) → St := fun x1 => { tmps := [(5,(.own 0 0 1))],heap := [(0,(.cells 1 (.segs (.cons 1 (.one (.own 1 0 1)) .nil)) true)),(1,(.cells x1.length (.rI .i64 x1) true))],next := 2,nt := 40,m := 0 }
def f25wc_n0 (F : Nat) (kf25wc_j1034 : (List Int) → Rz) : (List Int) → Rz := fun a0 => (kf25wc_j1034 a0)
theorem f25wc_n0_eq (F : Nat) (Rf25wc_j1034 : St → Rz) : ∀ v,aexec VG3825w (Af25wc F) (bp Try.f25 2) (ef25wc_a v) (kSeq (kc VG3825w Rf25wc_j1034 [(0,.plain),(1,.plain)]) (kFin VG3825w (some [(4,(.lists .i64 22))]) (Try.f25).results.toList)) = f25wc_n0 F (Rf25wc_j1034 ∘ ef25wc_j1034) v := by
  intro a0; kernel_rfl
def f25wc_n10 (F : Nat) (kf25wc_j3026 : (List Int) → Rz) : (List Int) → Rz := fun t0 => (kf25wc_j3026 t0)
theorem f25wc_n10_eq (F : Nat) (Rf25wc_j3026 : St → Rz) : ∀ v,aexec VG3825w (Af25wc F) (bp Try.f25 6) (ef25wc_j1034 v) (kSeq (kc VG3825w Rf25wc_j3026 [(0,.plain),(1,.plain)]) (kFin VG3825w (some [(4,(.lists .i64 22))]) (Try.f25).results.toList)) = f25wc_n10 F (Rf25wc_j3026 ∘ ef25wc_j3026) v := by
  intro t0; kernel_rfl
def f25wc_n110 (F : Nat) (kf25wc_j4024 : (List Int) × (List Int) → Rz) : (List Int) → Rz := fun t0 => (kf25wc_j4024 (t0,[]))
theorem f25wc_n110_eq (F : Nat) (Rf25wc_j4024 : St → Rz) : ∀ v,aexec VG3825w (Af25wc F) (bp Try.f25 14) (ef25wc_j3026 v) (kSeq (kc VG3825w Rf25wc_j4024 [(0,.plain),(5,.plain)]) (kFin VG3825w (some [(4,(.lists .i64 22))]) (Try.f25).results.toList)) = f25wc_n110 F (Rf25wc_j4024 ∘ ef25wc_j4024) v := by
  intro t0; kernel_rfl
def f25wc_n11100 (F : Nat) (kf25wc_j5018 : Ty78 → Rz) (kf25wc_j10003 : (List Int) → Rz) : (List Int) × (List Int) → Rz := fun (t0,x2) => (kf25wc_j5018 (t0,(↑t0.length : Int),(0 : Int),x2))
theorem f25wc_n11100_eq (F : Nat) (Rf25wc_j5018 : St → Rz) (Rf25wc_j10003 : St → Rz) : ∀ v,aexec VG3825w (Af25wc F) (bp Try.f25 60) (ef25wc_j4024 v) (kSeq (kc VG3825w Rf25wc_j5018 sp59) (kSeq (kc VG3825w Rf25wc_j10003 [(5,.plain)]) (kFin VG3825w (some [(4,(.lists .i64 22))]) (Try.f25).results.toList))) = f25wc_n11100 F (Rf25wc_j5018 ∘ ef25wc_j5018) (Rf25wc_j10003 ∘ ef25wc_j10003) v := by
  rintro ⟨t0,x2⟩; kernel_rfl
def f25wc_n1110100 (F : Nat) (kf25wc_l5016 : Ty78 → Rz) (kf25wc_j10003 : (List Int) → Rz) : Ty78 → Rz := fun (t13,t14,t15,x4) => (cond (decide (t15 < t14)) (cond ((decide (0 ≤ t15)) && (decide (t15 < (↑t13.length : Int)))) (cond (decide ((t13.getD (Int.toNat t15) 0) ≥ (0 : Int))) (cond (decide ((t13.getD (Int.toNat t15) 0) < (1 : Int))) (cond (decide ((t13.getD (Int.toNat t15) 0) = (0 : Int))) (cond (decide ((x4.length + 1) < 1073741824)) (kf25wc_l5016 (t13,t14,(IntKind.i64.wrap (t15 + (1 : Int))),(x4 ++ [t15]))) none) none) (kf25wc_l5016 (t13,t14,(IntKind.i64.wrap (t15 + (1 : Int))),x4))) (kf25wc_l5016 (t13,t14,(IntKind.i64.wrap (t15 + (1 : Int))),x4))) none) (kf25wc_j10003 x4))
theorem f25wc_n1110100_eq (F : Nat) (Rf25wc_l5016 : St → Rz) (Rf25wc_j10003 : St → Rz) : ∀ v,aexec VG3825w (Af25wc F) (bp Try.f25 244) (ef25wc_l5016 v) (kSeq (kc VG3825w Rf25wc_l5016 sp59) (kBlock 0 (kSeq (kc VG3825w Rf25wc_j10003 [(5,.plain)]) (kFin VG3825w (some [(4,(.lists .i64 22))]) (Try.f25).results.toList)))) = f25wc_n1110100 F (Rf25wc_l5016 ∘ ef25wc_l5016) (Rf25wc_j10003 ∘ ef25wc_j10003) v := by
  rintro ⟨t13,t14,t15,x4⟩; kernel_rfl
def f25wc_n111010_i : Ty78 → (List Int) × Int × Int × (List Int) := fun (t13,t14,t15,x4) => (t13,t14,t15,x4)
def f25wc_n111010 (F : Nat) (kf25wc_j10003 : (List Int) → Rz) : Ty78 → Rz := fun v => loopN (fun k => f25wc_n1110100 F k kf25wc_j10003) F (f25wc_n111010_i v)
theorem f25wc_n111010_eq (F : Nat) (Rf25wc_j10003 : St → Rz) : ∀ v,aexec VG3825w (Af25wc F) (bp Try.f25 122) (ef25wc_j5018 v) (kBlock 0 (kSeq (kc VG3825w Rf25wc_j10003 [(5,.plain)]) (kFin VG3825w (some [(4,(.lists .i64 22))]) (Try.f25).results.toList))) = f25wc_n111010 F (Rf25wc_j10003 ∘ ef25wc_j10003) v :=
  loop_cut (by kernel_rfl) (by kernel_rfl) ef25wc_j5018 ef25wc_l5016 _ f25wc_n111010_i (fun k => f25wc_n1110100 F k (Rf25wc_j10003 ∘ ef25wc_j10003))
    (by rintro ⟨t13,t14,t15,x4⟩; kernel_rfl) (fun Rf25wc_l5016 => f25wc_n1110100_eq F Rf25wc_l5016 Rf25wc_j10003)
def f25wc_n11101 (F : Nat) (kf25wc_j10003 : (List Int) → Rz) : Ty78 → Rz := f25wc_n111010 F kf25wc_j10003
theorem f25wc_n11101_eq (F : Nat) (Rf25wc_j10003 : St → Rz) : ∀ v,aexec VG3825w (Af25wc F) (bp Try.f25 61) (ef25wc_j5018 v) (kSeq (kc VG3825w Rf25wc_j10003 [(5,.plain)]) (kFin VG3825w (some [(4,(.lists .i64 22))]) (Try.f25).results.toList)) = f25wc_n11101 F (Rf25wc_j10003 ∘ ef25wc_j10003) v := fun v =>
  (block_in  (by kernel_rfl) _ _).trans (f25wc_n111010_eq F Rf25wc_j10003 v)
def f25wc_n1110 (F : Nat) (kf25wc_j10003 : (List Int) → Rz) : (List Int) × (List Int) → Rz := fun v => f25wc_n11100 F (f25wc_n11101 F kf25wc_j10003) kf25wc_j10003 v
theorem f25wc_n1110_eq (F : Nat) (Rf25wc_j10003 : St → Rz) : ∀ v,aexec VG3825w (Af25wc F) (bp Try.f25 30) (ef25wc_j4024 v) (kSeq (kc VG3825w Rf25wc_j10003 [(5,.plain)]) (kFin VG3825w (some [(4,(.lists .i64 22))]) (Try.f25).results.toList)) = f25wc_n1110 F (Rf25wc_j10003 ∘ ef25wc_j10003) v :=
  seq_cut (by kernel_rfl) (by kernel_rfl) ef25wc_j4024 ef25wc_j5018 _ (fun k => f25wc_n11100 F k (Rf25wc_j10003 ∘ ef25wc_j10003)) (f25wc_n11101 F (Rf25wc_j10003 ∘ ef25wc_j10003))
    (fun Rf25wc_j5018 => f25wc_n11100_eq F Rf25wc_j5018 Rf25wc_j10003) (f25wc_n11101_eq F Rf25wc_j10003)
def f25wc_n1111 (F : Nat) : (List Int) → Rz := fun x1 => (some ((.own 0 0 1),[(.cells 1 (.rL .i64 [x1]) true)]))
theorem f25wc_n1111_eq (F : Nat) : ∀ v,aexec VG3825w (Af25wc F) (bp Try.f25 31) (ef25wc_j10003 v) (kFin VG3825w (some [(4,(.lists .i64 22))]) (Try.f25).results.toList) = f25wc_n1111 F v := by
  intro x1; kernel_rfl
def f25wc_n111 (F : Nat) : (List Int) × (List Int) → Rz := fun v => f25wc_n1110 F (f25wc_n1111 F) v
theorem f25wc_n111_eq (F : Nat) : ∀ v,aexec VG3825w (Af25wc F) (bp Try.f25 15) (ef25wc_j4024 v) (kFin VG3825w (some [(4,(.lists .i64 22))]) (Try.f25).results.toList) = f25wc_n111 F v :=
  seq_cut (by kernel_rfl) (by kernel_rfl) ef25wc_j4024 ef25wc_j10003 _ (fun k => f25wc_n1110 F k) (f25wc_n1111 F)
    (fun Rf25wc_j10003 => f25wc_n1110_eq F Rf25wc_j10003) (f25wc_n1111_eq F)
def f25wc_n11 (F : Nat) : (List Int) → Rz := fun v => f25wc_n110 F (f25wc_n111 F) v
theorem f25wc_n11_eq (F : Nat) : ∀ v,aexec VG3825w (Af25wc F) (bp Try.f25 7) (ef25wc_j3026 v) (kFin VG3825w (some [(4,(.lists .i64 22))]) (Try.f25).results.toList) = f25wc_n11 F v :=
  seq_cut (by kernel_rfl) (by kernel_rfl) ef25wc_j3026 ef25wc_j4024 _ (fun k => f25wc_n110 F k) (f25wc_n111 F)
    (fun Rf25wc_j4024 => f25wc_n110_eq F Rf25wc_j4024) (f25wc_n111_eq F)
def f25wc_n1 (F : Nat) : (List Int) → Rz := fun v => f25wc_n10 F (f25wc_n11 F) v
theorem f25wc_n1_eq (F : Nat) : ∀ v,aexec VG3825w (Af25wc F) (bp Try.f25 3) (ef25wc_j1034 v) (kFin VG3825w (some [(4,(.lists .i64 22))]) (Try.f25).results.toList) = f25wc_n1 F v :=
  seq_cut (by kernel_rfl) (by kernel_rfl) ef25wc_j1034 ef25wc_j3026 _ (fun k => f25wc_n10 F k) (f25wc_n11 F)
    (fun Rf25wc_j3026 => f25wc_n10_eq F Rf25wc_j3026) (f25wc_n11_eq F)
def f25wc_nt (F : Nat) : (List Int) → Rz := fun v => f25wc_n0 F (f25wc_n1 F) v
theorem f25wc_nt_eq (F : Nat) : ∀ v,aexec VG3825w (Af25wc F) (sub (bodyOf Try.f25) []) (ef25wc_a v) (kFin VG3825w (some [(4,(.lists .i64 22))]) (Try.f25).results.toList) = f25wc_nt F v :=
  seq_cut (by kernel_rfl) (by kernel_rfl) ef25wc_a ef25wc_j1034 _ (fun k => f25wc_n0 F k) (f25wc_n1 F)
    (fun Rf25wc_j1034 => f25wc_n0_eq F Rf25wc_j1034) (f25wc_n1_eq F)
def f25wc (F : Nat) : (List Int) → Rz := f25wc_nt F
theorem f25wc_body (F : Nat) (a0 : List Int) : abody VG3825w (Af25wc F) Try.f25 [(.vs (.rI .i64 a0) 0 1),(.int .i64 (1 : Int))] [] = f25wc F a0 :=
  (abody_in (c := (sub (bodyOf Try.f25) [])) (by kernel_rfl) (s := ef25wc_a a0) (by kernel_rfl)).trans (f25wc_nt_eq F a0)
def Af25wd (F : Nat) : Cuts := { F := F,at_ := fun n => match n with | 5016 => some sp59 | _ => none,join := fun n => match n with | 1034 => some [(0,.plain),(1,.plain)] | 3026 => some [(0,.plain),(1,.plain)] | 4024 => some [(0,.plain),(5,.plain)] | 5018 => some sp59 | 10003 => some [(5,.plain)] | _ => none,fin := (some [(4,(.lists .i64 22))]),cas := fun n => match n with | 8 => some (7,2) | _ => none }
def ef25wd_a : (List Int) → St := fun a0 => { tmps := [(0,(.vs (.rI .i64 a0) 0 1)),(1,(.int .i64 (2 : Int)))],heap := [],next := 0,nt := 40,m := 0 }
def ef25wd_j1034 : (List Int) → St := fun t0 => { tmps := [(0,(.vs (.rI .i64 t0) 0 1)),(1,(.int .i64 (2 : Int)))],heap := [],next := 0,nt := 40,m := 0 }
def ef25wd_j3026 : (List Int) → St := fun t0 => { tmps := [(0,(.vs (.rI .i64 t0) 0 1)),(1,(.int .i64 (2 : Int)))],heap := [],next := 0,nt := 40,m := 0 }
def ef25wd_j4024 : Ty79 → St := fun (t0,x2,x3) => { tmps := [(0,(.vs (.rI .i64 t0) 0 1)),(5,(.own 0 0 1))],heap := [(0,(.cells 2 (.segs (.cons 1 (.one (.own 1 0 1)) (.cons 1 (.one (.own 2 0 1)) .nil))) true)),(1,(.cells x2.length (.rI .i64 x2) true)),(2,(.cells x3.length (.rI .i64 x3) true))],next := 3,nt := 40,m := 0 }
def ef25wd_j5018 : Ty80 → St := fun (t13,t14,t15,x4,x5) => { tmps := [(5,(.own 0 0 1)),(13,(.vs (.rI .i64 t13) 0 1)),(14,(.int .i64 t14)),(15,(.int .i64 t15))],heap := [(0,(.cells 2 (.segs (.cons 1 (.one (.own 1 0 1)) (.cons 1 (.one (.own 2 0 1)) .nil))) true)),(1,(.cells x4.length (.rI .i64 x4) true)),(2,(.cells x5.length (.rI .i64 x5) true))],next := 3,nt := 40,m := 0 }
def ef25wd_l5016 : Ty80 → St := fun (t13,t14,t15,x4,x5) => { tmps := [(5,(.own 0 0 1)),(13,(.vs (.rI .i64 t13) 0 1)),(14,(.int .i64 t14)),(15,(.int .i64 t15))],heap := [(0,(.cells 2 (.segs (.cons 1 (.one (.own 1 0 1)) (.cons 1 (.one (.own 2 0 1)) .nil))) true)),(1,(.cells x4.length (.rI .i64 x4) true)),(2,(.cells x5.length (.rI .i64 x5) true))],next := 3,nt := 40,m := 0 }
def ef25wd_j10003 : (List Int) × (List Int) → St := fun (x1,x2) => { tmps := [(5,(.own 0 0 1))],heap := [(0,(.cells 2 (.segs (.cons 1 (.one (.own 1 0 1)) (.cons 1 (.one (.own 2 0 1)) .nil))) true)),(1,(.cells x1.length (.rI .i64 x1) true)),(2,(.cells x2.length (.rI .i64 x2) true))],next := 3,nt := 40,m := 0 }
def f25wd_n0 (F : Nat) (kf25wd_j1034 : (List Int) → Rz) : (List Int) → Rz := fun a0 => (kf25wd_j1034 a0)
theorem f25wd_n0_eq (F : Nat) (Rf25wd_j1034 : St → Rz) : ∀ v,aexec VG3825w (Af25wd F) (bp Try.f25 2) (ef25wd_a v) (kSeq (kc VG3825w Rf25wd_j1034 [(0,.plain),(1,.plain)]) (kFin VG3825w (some [(4,(.lists .i64 22))]) (Try.f25).results.toList)) = f25wd_n0 F (Rf25wd_j1034 ∘ ef25wd_j1034) v := by
  intro a0; kernel_rfl
def f25wd_n10 (F : Nat) (kf25wd_j3026 : (List Int) → Rz) : (List Int) → Rz := fun t0 => (kf25wd_j3026 t0)
theorem f25wd_n10_eq (F : Nat) (Rf25wd_j3026 : St → Rz) : ∀ v,aexec VG3825w (Af25wd F) (bp Try.f25 6) (ef25wd_j1034 v) (kSeq (kc VG3825w Rf25wd_j3026 [(0,.plain),(1,.plain)]) (kFin VG3825w (some [(4,(.lists .i64 22))]) (Try.f25).results.toList)) = f25wd_n10 F (Rf25wd_j3026 ∘ ef25wd_j3026) v := by
  intro t0; kernel_rfl
def f25wd_n110 (F : Nat) (kf25wd_j4024 : Ty79 → Rz) : (List Int) → Rz := fun t0 => (kf25wd_j4024 (t0,[],[]))
theorem f25wd_n110_eq (F : Nat) (Rf25wd_j4024 : St → Rz) : ∀ v,aexec VG3825w (Af25wd F) (bp Try.f25 14) (ef25wd_j3026 v) (kSeq (kc VG3825w Rf25wd_j4024 [(0,.plain),(5,.plain)]) (kFin VG3825w (some [(4,(.lists .i64 22))]) (Try.f25).results.toList)) = f25wd_n110 F (Rf25wd_j4024 ∘ ef25wd_j4024) v := by
  intro t0; kernel_rfl
def f25wd_n11100 (F : Nat) (kf25wd_j5018 : Ty80 → Rz) (kf25wd_j10003 : (List Int) × (List Int) → Rz) : Ty79 → Rz := fun (t0,x2,x3) => (kf25wd_j5018 (t0,(↑t0.length : Int),(0 : Int),x2,x3))
theorem f25wd_n11100_eq (F : Nat) (Rf25wd_j5018 : St → Rz) (Rf25wd_j10003 : St → Rz) : ∀ v,aexec VG3825w (Af25wd F) (bp Try.f25 60) (ef25wd_j4024 v) (kSeq (kc VG3825w Rf25wd_j5018 sp59) (kSeq (kc VG3825w Rf25wd_j10003 [(5,.plain)]) (kFin VG3825w (some [(4,(.lists .i64 22))]) (Try.f25).results.toList))) = f25wd_n11100 F (Rf25wd_j5018 ∘ ef25wd_j5018) (Rf25wd_j10003 ∘ ef25wd_j10003) v := by
  rintro ⟨t0,x2,x3⟩; kernel_rfl
def f25wd_n1110100 (F : Nat) (kf25wd_l5016 : Ty80 → Rz) (kf25wd_j10003 : (List Int) × (List Int) → Rz) : Ty80 → Rz := fun (t13,t14,t15,x4,x5) => (cond (decide (t15 < t14)) (cond ((decide (0 ≤ t15)) && (decide (t15 < (↑t13.length : Int)))) (cond (decide ((t13.getD (Int.toNat t15) 0) ≥ (0 : Int))) (cond (decide ((t13.getD (Int.toNat t15) 0) < (2 : Int))) (cond (decide ((t13.getD (Int.toNat t15) 0) = (0 : Int))) (cond (decide ((x4.length + 1) < 1073741824)) (kf25wd_l5016 (t13,t14,(IntKind.i64.wrap (t15 + (1 : Int))),(x4 ++ [t15]),x5)) none) (cond (decide ((t13.getD (Int.toNat t15) 0) = (1 : Int))) (cond (decide ((x5.length + 1) < 1073741824)) (kf25wd_l5016 (t13,t14,(IntKind.i64.wrap (t15 + (1 : Int))),x4,(x5 ++ [t15]))) none) none)) (kf25wd_l5016 (t13,t14,(IntKind.i64.wrap (t15 + (1 : Int))),x4,x5))) (kf25wd_l5016 (t13,t14,(IntKind.i64.wrap (t15 + (1 : Int))),x4,x5))) none) (kf25wd_j10003 (x4,x5)))
theorem f25wd_n1110100_eq (F : Nat) (Rf25wd_l5016 : St → Rz) (Rf25wd_j10003 : St → Rz) : ∀ v,aexec VG3825w (Af25wd F) (bp Try.f25 244) (ef25wd_l5016 v) (kSeq (kc VG3825w Rf25wd_l5016 sp59) (kBlock 0 (kSeq (kc VG3825w Rf25wd_j10003 [(5,.plain)]) (kFin VG3825w (some [(4,(.lists .i64 22))]) (Try.f25).results.toList)))) = f25wd_n1110100 F (Rf25wd_l5016 ∘ ef25wd_l5016) (Rf25wd_j10003 ∘ ef25wd_j10003) v := by
  rintro ⟨t13,t14,t15,x4,x5⟩; kernel_rfl
def f25wd_n111010_i : Ty80 → (List Int) × Int × Int × (List Int) × (List Int) := fun (t13,t14,t15,x4,x5) => (t13,t14,t15,x4,x5)
def f25wd_n111010 (F : Nat) (kf25wd_j10003 : (List Int) × (List Int) → Rz) : Ty80 → Rz := fun v => loopN (fun k => f25wd_n1110100 F k kf25wd_j10003) F (f25wd_n111010_i v)
theorem f25wd_n111010_eq (F : Nat) (Rf25wd_j10003 : St → Rz) : ∀ v,aexec VG3825w (Af25wd F) (bp Try.f25 122) (ef25wd_j5018 v) (kBlock 0 (kSeq (kc VG3825w Rf25wd_j10003 [(5,.plain)]) (kFin VG3825w (some [(4,(.lists .i64 22))]) (Try.f25).results.toList))) = f25wd_n111010 F (Rf25wd_j10003 ∘ ef25wd_j10003) v :=
  loop_cut (by kernel_rfl) (by kernel_rfl) ef25wd_j5018 ef25wd_l5016 _ f25wd_n111010_i (fun k => f25wd_n1110100 F k (Rf25wd_j10003 ∘ ef25wd_j10003))
    (by rintro ⟨t13,t14,t15,x4,x5⟩; kernel_rfl) (fun Rf25wd_l5016 => f25wd_n1110100_eq F Rf25wd_l5016 Rf25wd_j10003)
def f25wd_n11101 (F : Nat) (kf25wd_j10003 : (List Int) × (List Int) → Rz) : Ty80 → Rz := f25wd_n111010 F kf25wd_j10003
theorem f25wd_n11101_eq (F : Nat) (Rf25wd_j10003 : St → Rz) : ∀ v,aexec VG3825w (Af25wd F) (bp Try.f25 61) (ef25wd_j5018 v) (kSeq (kc VG3825w Rf25wd_j10003 [(5,.plain)]) (kFin VG3825w (some [(4,(.lists .i64 22))]) (Try.f25).results.toList)) = f25wd_n11101 F (Rf25wd_j10003 ∘ ef25wd_j10003) v := fun v =>
  (block_in  (by kernel_rfl) _ _).trans (f25wd_n111010_eq F Rf25wd_j10003 v)
def f25wd_n1110 (F : Nat) (kf25wd_j10003 : (List Int) × (List Int) → Rz) : Ty79 → Rz := fun v => f25wd_n11100 F (f25wd_n11101 F kf25wd_j10003) kf25wd_j10003 v
theorem f25wd_n1110_eq (F : Nat) (Rf25wd_j10003 : St → Rz) : ∀ v,aexec VG3825w (Af25wd F) (bp Try.f25 30) (ef25wd_j4024 v) (kSeq (kc VG3825w Rf25wd_j10003 [(5,.plain)]) (kFin VG3825w (some [(4,(.lists .i64 22))]) (Try.f25).results.toList)) = f25wd_n1110 F (Rf25wd_j10003 ∘ ef25wd_j10003) v :=
  seq_cut (by kernel_rfl) (by kernel_rfl) ef25wd_j4024 ef25wd_j5018 _ (fun k => f25wd_n11100 F k (Rf25wd_j10003 ∘ ef25wd_j10003)) (f25wd_n11101 F (Rf25wd_j10003 ∘ ef25wd_j10003))
    (fun Rf25wd_j5018 => f25wd_n11100_eq F Rf25wd_j5018 Rf25wd_j10003) (f25wd_n11101_eq F Rf25wd_j10003)
def f25wd_n1111 (F : Nat) : (List Int) × (List Int) → Rz := fun (x1,x2) => (some ((.own 0 0 1),[(.cells 2 (.rL .i64 [x1,x2]) true)]))
theorem f25wd_n1111_eq (F : Nat) : ∀ v,aexec VG3825w (Af25wd F) (bp Try.f25 31) (ef25wd_j10003 v) (kFin VG3825w (some [(4,(.lists .i64 22))]) (Try.f25).results.toList) = f25wd_n1111 F v := by
  rintro ⟨x1,x2⟩; kernel_rfl
def f25wd_n111 (F : Nat) : Ty79 → Rz := fun v => f25wd_n1110 F (f25wd_n1111 F) v
theorem f25wd_n111_eq (F : Nat) : ∀ v,aexec VG3825w (Af25wd F) (bp Try.f25 15) (ef25wd_j4024 v) (kFin VG3825w (some [(4,(.lists .i64 22))]) (Try.f25).results.toList) = f25wd_n111 F v :=
  seq_cut (by kernel_rfl) (by kernel_rfl) ef25wd_j4024 ef25wd_j10003 _ (fun k => f25wd_n1110 F k) (f25wd_n1111 F)
    (fun Rf25wd_j10003 => f25wd_n1110_eq F Rf25wd_j10003) (f25wd_n1111_eq F)
def f25wd_n11 (F : Nat) : (List Int) → Rz := fun v => f25wd_n110 F (f25wd_n111 F) v
theorem f25wd_n11_eq (F : Nat) : ∀ v,aexec VG3825w (Af25wd F) (bp Try.f25 7) (ef25wd_j3026 v) (kFin VG3825w (some [(4,(.lists .i64 22))]) (Try.f25).results.toList) = f25wd_n11 F v :=
  seq_cut (by kernel_rfl) (by kernel_rfl) ef25wd_j3026 ef25wd_j4024 _ (fun k => f25wd_n110 F k) (f25wd_n111 F)
    (fun Rf25wd_j4024 => f25wd_n110_eq F Rf25wd_j4024) (f25wd_n111_eq F)
def f25wd_n1 (F : Nat) : (List Int) → Rz := fun v => f25wd_n10 F (f25wd_n11 F) v
theorem f25wd_n1_eq (F : Nat) : ∀ v,aexec VG3825w (Af25wd F) (bp Try.f25 3) (ef25wd_j1034 v) (kFin VG3825w (some [(4,(.lists .i64 22))]) (Try.f25).results.toList) = f25wd_n1 F v :=
  seq_cut (by kernel_rfl) (by kernel_rfl) ef25wd_j1034 ef25wd_j3026 _ (fun k => f25wd_n10 F k) (f25wd_n11 F)
    (fun Rf25wd_j3026 => f25wd_n10_eq F Rf25wd_j3026) (f25wd_n11_eq F)
def f25wd_nt (F : Nat) : (List Int) → Rz := fun v => f25wd_n0 F (f25wd_n1 F) v
theorem f25wd_nt_eq (F : Nat) : ∀ v,aexec VG3825w (Af25wd F) (sub (bodyOf Try.f25) []) (ef25wd_a v) (kFin VG3825w (some [(4,(.lists .i64 22))]) (Try.f25).results.toList) = f25wd_nt F v :=
  seq_cut (by kernel_rfl) (by kernel_rfl) ef25wd_a ef25wd_j1034 _ (fun k => f25wd_n0 F k) (f25wd_n1 F)
    (fun Rf25wd_j1034 => f25wd_n0_eq F Rf25wd_j1034) (f25wd_n1_eq F)
def f25wd (F : Nat) : (List Int) → Rz := f25wd_nt F
theorem f25wd_body (F : Nat) (a0 : List Int) : abody VG3825w (Af25wd F) Try.f25 [(.vs (.rI .i64 a0) 0 1),(.int .i64 (2 : Int))] [] = f25wd F a0 :=
  (abody_in (c := (sub (bodyOf Try.f25) [])) (by kernel_rfl) (s := ef25wd_a a0) (by kernel_rfl)).trans (f25wd_nt_eq F a0)
def Af25we (F : Nat) : Cuts := { F := F,at_ := fun n => match n with | 5016 => some sp59 | _ => none,join := fun n => match n with | 1034 => some [(0,.plain),(1,.plain)] | 3026 => some [(0,.plain),(1,.plain)] | 4024 => some [(0,.plain),(5,.plain)] | 5018 => some sp59 | 10003 => some [(5,.plain)] | _ => none,fin := (some [(4,(.lists .i64 22))]),cas := fun n => match n with | 8 => some (7,3) | _ => none }
def ef25we_a : (List Int) → St := fun a0 => { tmps := [(0,(.vs (.rI .i64 a0) 0 1)),(1,(.int .i64 (3 : Int)))],heap := [],next := 0,nt := 40,m := 0 }
def ef25we_j1034 : (List Int) → St := fun t0 => { tmps := [(0,(.vs (.rI .i64 t0) 0 1)),(1,(.int .i64 (3 : Int)))],heap := [],next := 0,nt := 40,m := 0 }
def ef25we_j3026 : (List Int) → St := fun t0 => { tmps := [(0,(.vs (.rI .i64 t0) 0 1)),(1,(.int .i64 (3 : Int)))],heap := [],next := 0,nt := 40,m := 0 }
def ef25we_j4024 : Ty1 → St := fun (t0,x2,x3,x4) => { tmps := [(0,(.vs (.rI .i64 t0) 0 1)),(5,(.own 0 0 1))],heap := [(0,(.cells 3 (.segs (.cons 1 (.one (.own 1 0 1)) (.cons 1 (.one (.own 2 0 1)) (.cons 1 (.one (.own 3 0 1)) .nil)))) true)),(1,(.cells x2.length (.rI .i64 x2) true)),(2,(.cells x3.length (.rI .i64 x3) true)),(3,(.cells x4.length (.rI .i64 x4) true))],next := 4,nt := 40,m := 0 }
def ef25we_j5018 : Ty81 → St := fun (t13,t14,t15,x4,x5,x6) => { tmps := [(5,(.own 0 0 1)),(13,(.vs (.rI .i64 t13) 0 1)),(14,(.int .i64 t14)),(15,(.int .i64 t15))],heap := [(0,(.cells 3 (.segs (.cons 1 (.one (.own 1 0 1)) (.cons 1 (.one (.own 2 0 1)) (.cons 1 (.one (.own 3 0 1)) .nil)))) true)),(1,(.cells x4.length (.rI .i64 x4) true)),(2,(.cells x5.length (.rI .i64 x5) true)),(3,(.cells x6.length (.rI .i64 x6) true))],next := 4,nt := 40,m := 0 }
def ef25we_l5016 : Ty81 → St := fun (t13,t14,t15,x4,x5,x6) => { tmps := [(5,(.own 0 0 1)),(13,(.vs (.rI .i64 t13) 0 1)),(14,(.int .i64 t14)),(15,(.int .i64 t15))],heap := [(0,(.cells 3 (.segs (.cons 1 (.one (.own 1 0 1)) (.cons 1 (.one (.own 2 0 1)) (.cons 1 (.one (.own 3 0 1)) .nil)))) true)),(1,(.cells x4.length (.rI .i64 x4) true)),(2,(.cells x5.length (.rI .i64 x5) true)),(3,(.cells x6.length (.rI .i64 x6) true))],next := 4,nt := 40,m := 0 }
def ef25we_j10003 : Ty79 → St := fun (x1,x2,x3) => { tmps := [(5,(.own 0 0 1))],heap := [(0,(.cells 3 (.segs (.cons 1 (.one (.own 1 0 1)) (.cons 1 (.one (.own 2 0 1)) (.cons 1 (.one (.own 3 0 1)) .nil)))) true)),(1,(.cells x1.length (.rI .i64 x1) true)),(2,(.cells x2.length (.rI .i64 x2) true)),(3,(.cells x3.length (.rI .i64 x3) true))],next := 4,nt := 40,m := 0 }
def f25we_n0 (F : Nat) (kf25we_j1034 : (List Int) → Rz) : (List Int) → Rz := fun a0 => (kf25we_j1034 a0)
theorem f25we_n0_eq (F : Nat) (Rf25we_j1034 : St → Rz) : ∀ v,aexec VG3825w (Af25we F) (bp Try.f25 2) (ef25we_a v) (kSeq (kc VG3825w Rf25we_j1034 [(0,.plain),(1,.plain)]) (kFin VG3825w (some [(4,(.lists .i64 22))]) (Try.f25).results.toList)) = f25we_n0 F (Rf25we_j1034 ∘ ef25we_j1034) v := by
  intro a0; kernel_rfl
def f25we_n10 (F : Nat) (kf25we_j3026 : (List Int) → Rz) : (List Int) → Rz := fun t0 => (kf25we_j3026 t0)
theorem f25we_n10_eq (F : Nat) (Rf25we_j3026 : St → Rz) : ∀ v,aexec VG3825w (Af25we F) (bp Try.f25 6) (ef25we_j1034 v) (kSeq (kc VG3825w Rf25we_j3026 [(0,.plain),(1,.plain)]) (kFin VG3825w (some [(4,(.lists .i64 22))]) (Try.f25).results.toList)) = f25we_n10 F (Rf25we_j3026 ∘ ef25we_j3026) v := by
  intro t0; kernel_rfl
def f25we_n110 (F : Nat) (kf25we_j4024 : Ty1 → Rz) : (List Int) → Rz := fun t0 => (kf25we_j4024 (t0,[],[],[]))
theorem f25we_n110_eq (F : Nat) (Rf25we_j4024 : St → Rz) : ∀ v,aexec VG3825w (Af25we F) (bp Try.f25 14) (ef25we_j3026 v) (kSeq (kc VG3825w Rf25we_j4024 [(0,.plain),(5,.plain)]) (kFin VG3825w (some [(4,(.lists .i64 22))]) (Try.f25).results.toList)) = f25we_n110 F (Rf25we_j4024 ∘ ef25we_j4024) v := by
  intro t0; kernel_rfl
def f25we_n11100 (F : Nat) (kf25we_j5018 : Ty81 → Rz) (kf25we_j10003 : Ty79 → Rz) : Ty1 → Rz := fun (t0,x2,x3,x4) => (kf25we_j5018 (t0,(↑t0.length : Int),(0 : Int),x2,x3,x4))
theorem f25we_n11100_eq (F : Nat) (Rf25we_j5018 : St → Rz) (Rf25we_j10003 : St → Rz) : ∀ v,aexec VG3825w (Af25we F) (bp Try.f25 60) (ef25we_j4024 v) (kSeq (kc VG3825w Rf25we_j5018 sp59) (kSeq (kc VG3825w Rf25we_j10003 [(5,.plain)]) (kFin VG3825w (some [(4,(.lists .i64 22))]) (Try.f25).results.toList))) = f25we_n11100 F (Rf25we_j5018 ∘ ef25we_j5018) (Rf25we_j10003 ∘ ef25we_j10003) v := by
  rintro ⟨t0,x2,x3,x4⟩; kernel_rfl
def f25we_n1110100 (F : Nat) (kf25we_l5016 : Ty81 → Rz) (kf25we_j10003 : Ty79 → Rz) : Ty81 → Rz := fun (t13,t14,t15,x4,x5,x6) => (cond (decide (t15 < t14)) (cond ((decide (0 ≤ t15)) && (decide (t15 < (↑t13.length : Int)))) (cond (decide ((t13.getD (Int.toNat t15) 0) ≥ (0 : Int))) (cond (decide ((t13.getD (Int.toNat t15) 0) < (3 : Int))) (cond (decide ((t13.getD (Int.toNat t15) 0) = (0 : Int))) (cond (decide ((x4.length + 1) < 1073741824)) (kf25we_l5016 (t13,t14,(IntKind.i64.wrap (t15 + (1 : Int))),(x4 ++ [t15]),x5,x6)) none) (cond (decide ((t13.getD (Int.toNat t15) 0) = (1 : Int))) (cond (decide ((x5.length + 1) < 1073741824)) (kf25we_l5016 (t13,t14,(IntKind.i64.wrap (t15 + (1 : Int))),x4,(x5 ++ [t15]),x6)) none) (cond (decide ((t13.getD (Int.toNat t15) 0) = (2 : Int))) (cond (decide ((x6.length + 1) < 1073741824)) (kf25we_l5016 (t13,t14,(IntKind.i64.wrap (t15 + (1 : Int))),x4,x5,(x6 ++ [t15]))) none) none))) (kf25we_l5016 (t13,t14,(IntKind.i64.wrap (t15 + (1 : Int))),x4,x5,x6))) (kf25we_l5016 (t13,t14,(IntKind.i64.wrap (t15 + (1 : Int))),x4,x5,x6))) none) (kf25we_j10003 (x4,x5,x6)))
theorem f25we_n1110100_eq (F : Nat) (Rf25we_l5016 : St → Rz) (Rf25we_j10003 : St → Rz) : ∀ v,aexec VG3825w (Af25we F) (bp Try.f25 244) (ef25we_l5016 v) (kSeq (kc VG3825w Rf25we_l5016 sp59) (kBlock 0 (kSeq (kc VG3825w Rf25we_j10003 [(5,.plain)]) (kFin VG3825w (some [(4,(.lists .i64 22))]) (Try.f25).results.toList)))) = f25we_n1110100 F (Rf25we_l5016 ∘ ef25we_l5016) (Rf25we_j10003 ∘ ef25we_j10003) v := by
  rintro ⟨t13,t14,t15,x4,x5,x6⟩; kernel_rfl
def f25we_n111010_i : Ty81 → (List Int) × Int × Int × (List Int) × (List Int) × (List Int) := fun (t13,t14,t15,x4,x5,x6) => (t13,t14,t15,x4,x5,x6)
def f25we_n111010 (F : Nat) (kf25we_j10003 : Ty79 → Rz) : Ty81 → Rz := fun v => loopN (fun k => f25we_n1110100 F k kf25we_j10003) F (f25we_n111010_i v)
theorem f25we_n111010_eq (F : Nat) (Rf25we_j10003 : St → Rz) : ∀ v,aexec VG3825w (Af25we F) (bp Try.f25 122) (ef25we_j5018 v) (kBlock 0 (kSeq (kc VG3825w Rf25we_j10003 [(5,.plain)]) (kFin VG3825w (some [(4,(.lists .i64 22))]) (Try.f25).results.toList))) = f25we_n111010 F (Rf25we_j10003 ∘ ef25we_j10003) v :=
  loop_cut (by kernel_rfl) (by kernel_rfl) ef25we_j5018 ef25we_l5016 _ f25we_n111010_i (fun k => f25we_n1110100 F k (Rf25we_j10003 ∘ ef25we_j10003))
    (by rintro ⟨t13,t14,t15,x4,x5,x6⟩; kernel_rfl) (fun Rf25we_l5016 => f25we_n1110100_eq F Rf25we_l5016 Rf25we_j10003)
def f25we_n11101 (F : Nat) (kf25we_j10003 : Ty79 → Rz) : Ty81 → Rz := f25we_n111010 F kf25we_j10003
theorem f25we_n11101_eq (F : Nat) (Rf25we_j10003 : St → Rz) : ∀ v,aexec VG3825w (Af25we F) (bp Try.f25 61) (ef25we_j5018 v) (kSeq (kc VG3825w Rf25we_j10003 [(5,.plain)]) (kFin VG3825w (some [(4,(.lists .i64 22))]) (Try.f25).results.toList)) = f25we_n11101 F (Rf25we_j10003 ∘ ef25we_j10003) v := fun v =>
  (block_in  (by kernel_rfl) _ _).trans (f25we_n111010_eq F Rf25we_j10003 v)
def f25we_n1110 (F : Nat) (kf25we_j10003 : Ty79 → Rz) : Ty1 → Rz := fun v => f25we_n11100 F (f25we_n11101 F kf25we_j10003) kf25we_j10003 v
theorem f25we_n1110_eq (F : Nat) (Rf25we_j10003 : St → Rz) : ∀ v,aexec VG3825w (Af25we F) (bp Try.f25 30) (ef25we_j4024 v) (kSeq (kc VG3825w Rf25we_j10003 [(5,.plain)]) (kFin VG3825w (some [(4,(.lists .i64 22))]) (Try.f25).results.toList)) = f25we_n1110 F (Rf25we_j10003 ∘ ef25we_j10003) v :=
  seq_cut (by kernel_rfl) (by kernel_rfl) ef25we_j4024 ef25we_j5018 _ (fun k => f25we_n11100 F k (Rf25we_j10003 ∘ ef25we_j10003)) (f25we_n11101 F (Rf25we_j10003 ∘ ef25we_j10003))
    (fun Rf25we_j5018 => f25we_n11100_eq F Rf25we_j5018 Rf25we_j10003) (f25we_n11101_eq F Rf25we_j10003)
def f25we_n1111 (F : Nat) : Ty79 → Rz := fun (x1,x2,x3) => (some ((.own 0 0 1),[(.cells 3 (.rL .i64 [x1,x2,x3]) true)]))
theorem f25we_n1111_eq (F : Nat) : ∀ v,aexec VG3825w (Af25we F) (bp Try.f25 31) (ef25we_j10003 v) (kFin VG3825w (some [(4,(.lists .i64 22))]) (Try.f25).results.toList) = f25we_n1111 F v := by
  rintro ⟨x1,x2,x3⟩; kernel_rfl
def f25we_n111 (F : Nat) : Ty1 → Rz := fun v => f25we_n1110 F (f25we_n1111 F) v
theorem f25we_n111_eq (F : Nat) : ∀ v,aexec VG3825w (Af25we F) (bp Try.f25 15) (ef25we_j4024 v) (kFin VG3825w (some [(4,(.lists .i64 22))]) (Try.f25).results.toList) = f25we_n111 F v :=
  seq_cut (by kernel_rfl) (by kernel_rfl) ef25we_j4024 ef25we_j10003 _ (fun k => f25we_n1110 F k) (f25we_n1111 F)
    (fun Rf25we_j10003 => f25we_n1110_eq F Rf25we_j10003) (f25we_n1111_eq F)
def f25we_n11 (F : Nat) : (List Int) → Rz := fun v => f25we_n110 F (f25we_n111 F) v
theorem f25we_n11_eq (F : Nat) : ∀ v,aexec VG3825w (Af25we F) (bp Try.f25 7) (ef25we_j3026 v) (kFin VG3825w (some [(4,(.lists .i64 22))]) (Try.f25).results.toList) = f25we_n11 F v :=
  seq_cut (by kernel_rfl) (by kernel_rfl) ef25we_j3026 ef25we_j4024 _ (fun k => f25we_n110 F k) (f25we_n111 F)
    (fun Rf25we_j4024 => f25we_n110_eq F Rf25we_j4024) (f25we_n111_eq F)
def f25we_n1 (F : Nat) : (List Int) → Rz := fun v => f25we_n10 F (f25we_n11 F) v
theorem f25we_n1_eq (F : Nat) : ∀ v,aexec VG3825w (Af25we F) (bp Try.f25 3) (ef25we_j1034 v) (kFin VG3825w (some [(4,(.lists .i64 22))]) (Try.f25).results.toList) = f25we_n1 F v :=
  seq_cut (by kernel_rfl) (by kernel_rfl) ef25we_j1034 ef25we_j3026 _ (fun k => f25we_n10 F k) (f25we_n11 F)
    (fun Rf25we_j3026 => f25we_n10_eq F Rf25we_j3026) (f25we_n11_eq F)
def f25we_nt (F : Nat) : (List Int) → Rz := fun v => f25we_n0 F (f25we_n1 F) v
theorem f25we_nt_eq (F : Nat) : ∀ v,aexec VG3825w (Af25we F) (sub (bodyOf Try.f25) []) (ef25we_a v) (kFin VG3825w (some [(4,(.lists .i64 22))]) (Try.f25).results.toList) = f25we_nt F v :=
  seq_cut (by kernel_rfl) (by kernel_rfl) ef25we_a ef25we_j1034 _ (fun k => f25we_n0 F k) (f25we_n1 F)
    (fun Rf25we_j1034 => f25we_n0_eq F Rf25we_j1034) (f25we_n1_eq F)
def f25we (F : Nat) : (List Int) → Rz := f25we_nt F
theorem f25we_body (F : Nat) (a0 : List Int) : abody VG3825w (Af25we F) Try.f25 [(.vs (.rI .i64 a0) 0 1),(.int .i64 (3 : Int))] [] = f25we F a0 :=
  (abody_in (c := (sub (bodyOf Try.f25) [])) (by kernel_rfl) (s := ef25we_a a0) (by kernel_rfl)).trans (f25we_nt_eq F a0)
def Af25wf (F : Nat) : Cuts := { F := F,at_ := fun n => match n with | 5016 => some sp59 | _ => none,join := fun n => match n with | 1034 => some [(0,.plain),(1,.plain)] | 3026 => some [(0,.plain),(1,.plain)] | 4024 => some [(0,.plain),(5,.plain)] | 5018 => some sp59 | 10003 => some [(5,.plain)] | _ => none,fin := (some [(4,(.lists .i64 22))]),cas := fun n => match n with | 8 => some (7,4) | _ => none }
def ef25wf_a : (List Int) → St := fun a0 => { tmps := [(0,(.vs (.rI .i64 a0) 0 1)),(1,(.int .i64 (4 : Int)))],heap := [],next := 0,nt := 40,m := 0 }
def ef25wf_j1034 : (List Int) → St := fun t0 => { tmps := [(0,(.vs (.rI .i64 t0) 0 1)),(1,(.int .i64 (4 : Int)))],heap := [],next := 0,nt := 40,m := 0 }
def ef25wf_j3026 : (List Int) → St := fun t0 => { tmps := [(0,(.vs (.rI .i64 t0) 0 1)),(1,(.int .i64 (4 : Int)))],heap := [],next := 0,nt := 40,m := 0 }
def ef25wf_j4024 : Ty82 → St := fun (t0,x2,x3,x4,x5) => { tmps := [(0,(.vs (.rI .i64 t0) 0 1)),(5,(.own 0 0 1))],heap := [(0,(.cells 4 (.segs (.cons 1 (.one (.own 1 0 1)) (.cons 1 (.one (.own 2 0 1)) (.cons 1 (.one (.own 3 0 1)) (.cons 1 (.one (.own 4 0 1)) .nil))))) true)),(1,(.cells x2.length (.rI .i64 x2) true)),(2,(.cells x3.length (.rI .i64 x3) true)),(3,(.cells x4.length (.rI .i64 x4) true)),(4,(.cells x5.length (.rI .i64 x5) true))],next := 5,nt := 40,m := 0 }
def ef25wf_j5018 : Ty83 → St := fun (t13,t14,t15,x4,x5,x6,x7) => { tmps := [(5,(.own 0 0 1)),(13,(.vs (.rI .i64 t13) 0 1)),(14,(.int .i64 t14)),(15,(.int .i64 t15))],heap := [(0,(.cells 4 (.segs (.cons 1 (.one (.own 1 0 1)) (.cons 1 (.one (.own 2 0 1)) (.cons 1 (.one (.own 3 0 1)) (.cons 1 (.one (.own 4 0 1)) .nil))))) true)),(1,(.cells x4.length (.rI .i64 x4) true)),(2,(.cells x5.length (.rI .i64 x5) true)),(3,(.cells x6.length (.rI .i64 x6) true)),(4,(.cells x7.length (.rI .i64 x7) true))],next := 5,nt := 40,m := 0 }
def ef25wf_l5016 : Ty83 → St := fun (t13,t14,t15,x4,x5,x6,x7) => { tmps := [(5,(.own 0 0 1)),(13,(.vs (.rI .i64 t13) 0 1)),(14,(.int .i64 t14)),(15,(.int .i64 t15))],heap := [(0,(.cells 4 (.segs (.cons 1 (.one (.own 1 0 1)) (.cons 1 (.one (.own 2 0 1)) (.cons 1 (.one (.own 3 0 1)) (.cons 1 (.one (.own 4 0 1)) .nil))))) true)),(1,(.cells x4.length (.rI .i64 x4) true)),(2,(.cells x5.length (.rI .i64 x5) true)),(3,(.cells x6.length (.rI .i64 x6) true)),(4,(.cells x7.length (.rI .i64 x7) true))],next := 5,nt := 40,m := 0 }
def ef25wf_j10003 : Ty1 → St := fun (x1,x2,x3,x4) => { tmps := [(5,(.own 0 0 1))],heap := [(0,(.cells 4 (.segs (.cons 1 (.one (.own 1 0 1)) (.cons 1 (.one (.own 2 0 1)) (.cons 1 (.one (.own 3 0 1)) (.cons 1 (.one (.own 4 0 1)) .nil))))) true)),(1,(.cells x1.length (.rI .i64 x1) true)),(2,(.cells x2.length (.rI .i64 x2) true)),(3,(.cells x3.length (.rI .i64 x3) true)),(4,(.cells x4.length (.rI .i64 x4) true))],next := 5,nt := 40,m := 0 }
def f25wf_n0 (F : Nat) (kf25wf_j1034 : (List Int) → Rz) : (List Int) → Rz := fun a0 => (kf25wf_j1034 a0)
theorem f25wf_n0_eq (F : Nat) (Rf25wf_j1034 : St → Rz) : ∀ v,aexec VG3825w (Af25wf F) (bp Try.f25 2) (ef25wf_a v) (kSeq (kc VG3825w Rf25wf_j1034 [(0,.plain),(1,.plain)]) (kFin VG3825w (some [(4,(.lists .i64 22))]) (Try.f25).results.toList)) = f25wf_n0 F (Rf25wf_j1034 ∘ ef25wf_j1034) v := by
  intro a0; kernel_rfl
def f25wf_n10 (F : Nat) (kf25wf_j3026 : (List Int) → Rz) : (List Int) → Rz := fun t0 => (kf25wf_j3026 t0)
theorem f25wf_n10_eq (F : Nat) (Rf25wf_j3026 : St → Rz) : ∀ v,aexec VG3825w (Af25wf F) (bp Try.f25 6) (ef25wf_j1034 v) (kSeq (kc VG3825w Rf25wf_j3026 [(0,.plain),(1,.plain)]) (kFin VG3825w (some [(4,(.lists .i64 22))]) (Try.f25).results.toList)) = f25wf_n10 F (Rf25wf_j3026 ∘ ef25wf_j3026) v := by
  intro t0; kernel_rfl
def f25wf_n110 (F : Nat) (kf25wf_j4024 : Ty82 → Rz) : (List Int) → Rz := fun t0 => (kf25wf_j4024 (t0,[],[],[],[]))
theorem f25wf_n110_eq (F : Nat) (Rf25wf_j4024 : St → Rz) : ∀ v,aexec VG3825w (Af25wf F) (bp Try.f25 14) (ef25wf_j3026 v) (kSeq (kc VG3825w Rf25wf_j4024 [(0,.plain),(5,.plain)]) (kFin VG3825w (some [(4,(.lists .i64 22))]) (Try.f25).results.toList)) = f25wf_n110 F (Rf25wf_j4024 ∘ ef25wf_j4024) v := by
  intro t0; kernel_rfl
def f25wf_n11100 (F : Nat) (kf25wf_j5018 : Ty83 → Rz) (kf25wf_j10003 : Ty1 → Rz) : Ty82 → Rz := fun (t0,x2,x3,x4,x5) => (kf25wf_j5018 (t0,(↑t0.length : Int),(0 : Int),x2,x3,x4,x5))
theorem f25wf_n11100_eq (F : Nat) (Rf25wf_j5018 : St → Rz) (Rf25wf_j10003 : St → Rz) : ∀ v,aexec VG3825w (Af25wf F) (bp Try.f25 60) (ef25wf_j4024 v) (kSeq (kc VG3825w Rf25wf_j5018 sp59) (kSeq (kc VG3825w Rf25wf_j10003 [(5,.plain)]) (kFin VG3825w (some [(4,(.lists .i64 22))]) (Try.f25).results.toList))) = f25wf_n11100 F (Rf25wf_j5018 ∘ ef25wf_j5018) (Rf25wf_j10003 ∘ ef25wf_j10003) v := by
  rintro ⟨t0,x2,x3,x4,x5⟩; kernel_rfl
def f25wf_n1110100 (F : Nat) (kf25wf_l5016 : Ty83 → Rz) (kf25wf_j10003 : Ty1 → Rz) : Ty83 → Rz := fun (t13,t14,t15,x4,x5,x6,x7) => (cond (decide (t15 < t14)) (cond ((decide (0 ≤ t15)) && (decide (t15 < (↑t13.length : Int)))) (cond (decide ((t13.getD (Int.toNat t15) 0) ≥ (0 : Int))) (cond (decide ((t13.getD (Int.toNat t15) 0) < (4 : Int))) (cond (decide ((t13.getD (Int.toNat t15) 0) = (0 : Int))) (cond (decide ((x4.length + 1) < 1073741824)) (kf25wf_l5016 (t13,t14,(IntKind.i64.wrap (t15 + (1 : Int))),(x4 ++ [t15]),x5,x6,x7)) none) (cond (decide ((t13.getD (Int.toNat t15) 0) = (1 : Int))) (cond (decide ((x5.length + 1) < 1073741824)) (kf25wf_l5016 (t13,t14,(IntKind.i64.wrap (t15 + (1 : Int))),x4,(x5 ++ [t15]),x6,x7)) none) (cond (decide ((t13.getD (Int.toNat t15) 0) = (2 : Int))) (cond (decide ((x6.length + 1) < 1073741824)) (kf25wf_l5016 (t13,t14,(IntKind.i64.wrap (t15 + (1 : Int))),x4,x5,(x6 ++ [t15]),x7)) none) (cond (decide ((t13.getD (Int.toNat t15) 0) = (3 : Int))) (cond (decide ((x7.length + 1) < 1073741824)) (kf25wf_l5016 (t13,t14,(IntKind.i64.wrap (t15 + (1 : Int))),x4,x5,x6,(x7 ++ [t15]))) none) none)))) (kf25wf_l5016 (t13,t14,(IntKind.i64.wrap (t15 + (1 : Int))),x4,x5,x6,x7))) (kf25wf_l5016 (t13,t14,(IntKind.i64.wrap (t15 + (1 : Int))),x4,x5,x6,x7))) none) (kf25wf_j10003 (x4,x5,x6,x7)))
theorem f25wf_n1110100_eq (F : Nat) (Rf25wf_l5016 : St → Rz) (Rf25wf_j10003 : St → Rz) : ∀ v,aexec VG3825w (Af25wf F) (bp Try.f25 244) (ef25wf_l5016 v) (kSeq (kc VG3825w Rf25wf_l5016 sp59) (kBlock 0 (kSeq (kc VG3825w Rf25wf_j10003 [(5,.plain)]) (kFin VG3825w (some [(4,(.lists .i64 22))]) (Try.f25).results.toList)))) = f25wf_n1110100 F (Rf25wf_l5016 ∘ ef25wf_l5016) (Rf25wf_j10003 ∘ ef25wf_j10003) v := by
  rintro ⟨t13,t14,t15,x4,x5,x6,x7⟩; kernel_rfl
def f25wf_n111010_i : Ty83 → (List Int) × Int × Int × (List Int) × (List Int) × (List Int) × (List Int) := fun (t13,t14,t15,x4,x5,x6,x7) => (t13,t14,t15,x4,x5,x6,x7)
def f25wf_n111010 (F : Nat) (kf25wf_j10003 : Ty1 → Rz) : Ty83 → Rz := fun v => loopN (fun k => f25wf_n1110100 F k kf25wf_j10003) F (f25wf_n111010_i v)
theorem f25wf_n111010_eq (F : Nat) (Rf25wf_j10003 : St → Rz) : ∀ v,aexec VG3825w (Af25wf F) (bp Try.f25 122) (ef25wf_j5018 v) (kBlock 0 (kSeq (kc VG3825w Rf25wf_j10003 [(5,.plain)]) (kFin VG3825w (some [(4,(.lists .i64 22))]) (Try.f25).results.toList))) = f25wf_n111010 F (Rf25wf_j10003 ∘ ef25wf_j10003) v :=
  loop_cut (by kernel_rfl) (by kernel_rfl) ef25wf_j5018 ef25wf_l5016 _ f25wf_n111010_i (fun k => f25wf_n1110100 F k (Rf25wf_j10003 ∘ ef25wf_j10003))
    (by rintro ⟨t13,t14,t15,x4,x5,x6,x7⟩; kernel_rfl) (fun Rf25wf_l5016 => f25wf_n1110100_eq F Rf25wf_l5016 Rf25wf_j10003)
def f25wf_n11101 (F : Nat) (kf25wf_j10003 : Ty1 → Rz) : Ty83 → Rz := f25wf_n111010 F kf25wf_j10003
theorem f25wf_n11101_eq (F : Nat) (Rf25wf_j10003 : St → Rz) : ∀ v,aexec VG3825w (Af25wf F) (bp Try.f25 61) (ef25wf_j5018 v) (kSeq (kc VG3825w Rf25wf_j10003 [(5,.plain)]) (kFin VG3825w (some [(4,(.lists .i64 22))]) (Try.f25).results.toList)) = f25wf_n11101 F (Rf25wf_j10003 ∘ ef25wf_j10003) v := fun v =>
  (block_in  (by kernel_rfl) _ _).trans (f25wf_n111010_eq F Rf25wf_j10003 v)
def f25wf_n1110 (F : Nat) (kf25wf_j10003 : Ty1 → Rz) : Ty82 → Rz := fun v => f25wf_n11100 F (f25wf_n11101 F kf25wf_j10003) kf25wf_j10003 v
theorem f25wf_n1110_eq (F : Nat) (Rf25wf_j10003 : St → Rz) : ∀ v,aexec VG3825w (Af25wf F) (bp Try.f25 30) (ef25wf_j4024 v) (kSeq (kc VG3825w Rf25wf_j10003 [(5,.plain)]) (kFin VG3825w (some [(4,(.lists .i64 22))]) (Try.f25).results.toList)) = f25wf_n1110 F (Rf25wf_j10003 ∘ ef25wf_j10003) v :=
  seq_cut (by kernel_rfl) (by kernel_rfl) ef25wf_j4024 ef25wf_j5018 _ (fun k => f25wf_n11100 F k (Rf25wf_j10003 ∘ ef25wf_j10003)) (f25wf_n11101 F (Rf25wf_j10003 ∘ ef25wf_j10003))
    (fun Rf25wf_j5018 => f25wf_n11100_eq F Rf25wf_j5018 Rf25wf_j10003) (f25wf_n11101_eq F Rf25wf_j10003)
def f25wf_n1111 (F : Nat) : Ty1 → Rz := fun (x1,x2,x3,x4) => (some ((.own 0 0 1),[(.cells 4 (.rL .i64 [x1,x2,x3,x4]) true)]))
theorem f25wf_n1111_eq (F : Nat) : ∀ v,aexec VG3825w (Af25wf F) (bp Try.f25 31) (ef25wf_j10003 v) (kFin VG3825w (some [(4,(.lists .i64 22))]) (Try.f25).results.toList) = f25wf_n1111 F v := by
  rintro ⟨x1,x2,x3,x4⟩; kernel_rfl
def f25wf_n111 (F : Nat) : Ty82 → Rz := fun v => f25wf_n1110 F (f25wf_n1111 F) v
theorem f25wf_n111_eq (F : Nat) : ∀ v,aexec VG3825w (Af25wf F) (bp Try.f25 15) (ef25wf_j4024 v) (kFin VG3825w (some [(4,(.lists .i64 22))]) (Try.f25).results.toList) = f25wf_n111 F v :=
  seq_cut (by kernel_rfl) (by kernel_rfl) ef25wf_j4024 ef25wf_j10003 _ (fun k => f25wf_n1110 F k) (f25wf_n1111 F)
    (fun Rf25wf_j10003 => f25wf_n1110_eq F Rf25wf_j10003) (f25wf_n1111_eq F)
def f25wf_n11 (F : Nat) : (List Int) → Rz := fun v => f25wf_n110 F (f25wf_n111 F) v
theorem f25wf_n11_eq (F : Nat) : ∀ v,aexec VG3825w (Af25wf F) (bp Try.f25 7) (ef25wf_j3026 v) (kFin VG3825w (some [(4,(.lists .i64 22))]) (Try.f25).results.toList) = f25wf_n11 F v :=
  seq_cut (by kernel_rfl) (by kernel_rfl) ef25wf_j3026 ef25wf_j4024 _ (fun k => f25wf_n110 F k) (f25wf_n111 F)
    (fun Rf25wf_j4024 => f25wf_n110_eq F Rf25wf_j4024) (f25wf_n111_eq F)
def f25wf_n1 (F : Nat) : (List Int) → Rz := fun v => f25wf_n10 F (f25wf_n11 F) v
theorem f25wf_n1_eq (F : Nat) : ∀ v,aexec VG3825w (Af25wf F) (bp Try.f25 3) (ef25wf_j1034 v) (kFin VG3825w (some [(4,(.lists .i64 22))]) (Try.f25).results.toList) = f25wf_n1 F v :=
  seq_cut (by kernel_rfl) (by kernel_rfl) ef25wf_j1034 ef25wf_j3026 _ (fun k => f25wf_n10 F k) (f25wf_n11 F)
    (fun Rf25wf_j3026 => f25wf_n10_eq F Rf25wf_j3026) (f25wf_n11_eq F)
def f25wf_nt (F : Nat) : (List Int) → Rz := fun v => f25wf_n0 F (f25wf_n1 F) v
theorem f25wf_nt_eq (F : Nat) : ∀ v,aexec VG3825w (Af25wf F) (sub (bodyOf Try.f25) []) (ef25wf_a v) (kFin VG3825w (some [(4,(.lists .i64 22))]) (Try.f25).results.toList) = f25wf_nt F v :=
  seq_cut (by kernel_rfl) (by kernel_rfl) ef25wf_a ef25wf_j1034 _ (fun k => f25wf_n0 F k) (f25wf_n1 F)
    (fun Rf25wf_j1034 => f25wf_n0_eq F Rf25wf_j1034) (f25wf_n1_eq F)
def f25wf (F : Nat) : (List Int) → Rz := f25wf_nt F
theorem f25wf_body (F : Nat) (a0 : List Int) : abody VG3825w (Af25wf F) Try.f25 [(.vs (.rI .i64 a0) 0 1),(.int .i64 (4 : Int))] [] = f25wf F a0 :=
  (abody_in (c := (sub (bodyOf Try.f25) [])) (by kernel_rfl) (s := ef25wf_a a0) (by kernel_rfl)).trans (f25wf_nt_eq F a0)
def Af25wg (F : Nat) : Cuts := { F := F,at_ := fun n => match n with | 5016 => some sp59 | _ => none,join := fun n => match n with | 1034 => some [(0,.plain),(1,.plain)] | 3026 => some [(0,.plain),(1,.plain)] | 4024 => some [(0,.plain),(5,.plain)] | 5018 => some sp59 | 10003 => some [(5,.plain)] | _ => none,fin := (some [(4,(.lists .i64 22))]),cas := fun n => match n with | 8 => some (7,5) | _ => none }
def ef25wg_a : (List Int) → St := fun a0 => { tmps := [(0,(.vs (.rI .i64 a0) 0 1)),(1,(.int .i64 (5 : Int)))],heap := [],next := 0,nt := 40,m := 0 }
def ef25wg_j1034 : (List Int) → St := fun t0 => { tmps := [(0,(.vs (.rI .i64 t0) 0 1)),(1,(.int .i64 (5 : Int)))],heap := [],next := 0,nt := 40,m := 0 }
def ef25wg_j3026 : (List Int) → St := fun t0 => { tmps := [(0,(.vs (.rI .i64 t0) 0 1)),(1,(.int .i64 (5 : Int)))],heap := [],next := 0,nt := 40,m := 0 }
def ef25wg_j4024 : Ty3 → St := fun (t0,x2,x3,x4,x5,x6) => { tmps := [(0,(.vs (.rI .i64 t0) 0 1)),(5,(.own 0 0 1))],heap := [(0,(.cells 5 (.segs (.cons 1 (.one (.own 1 0 1)) (.cons 1 (.one (.own 2 0 1)) (.cons 1 (.one (.own 3 0 1)) (.cons 1 (.one (.own 4 0 1)) (.cons 1 (.one (.own 5 0 1)) .nil)))))) true)),(1,(.cells x2.length (.rI .i64 x2) true)),(2,(.cells x3.length (.rI .i64 x3) true)),(3,(.cells x4.length (.rI .i64 x4) true)),(4,(.cells x5.length (.rI .i64 x5) true)),(5,(.cells x6.length (.rI .i64 x6) true))],next := 6,nt := 40,m := 0 }
def ef25wg_j5018 : Ty84 → St := fun (t13,t14,t15,x4,x5,x6,x7,x8) => { tmps := [(5,(.own 0 0 1)),(13,(.vs (.rI .i64 t13) 0 1)),(14,(.int .i64 t14)),(15,(.int .i64 t15))],heap := [(0,(.cells 5 (.segs (.cons 1 (.one (.own 1 0 1)) (.cons 1 (.one (.own 2 0 1)) (.cons 1 (.one (.own 3 0 1)) (.cons 1 (.one (.own 4 0 1)) (.cons 1 (.one (.own 5 0 1)) .nil)))))) true)),(1,(.cells x4.length (.rI .i64 x4) true)),(2,(.cells x5.length (.rI .i64 x5) true)),(3,(.cells x6.length (.rI .i64 x6) true)),(4,(.cells x7.length (.rI .i64 x7) true)),(5,(.cells x8.length (.rI .i64 x8) true))],next := 6,nt := 40,m := 0 }
def ef25wg_l5016 : Ty84 → St := fun (t13,t14,t15,x4,x5,x6,x7,x8) => { tmps := [(5,(.own 0 0 1)),(13,(.vs (.rI .i64 t13) 0 1)),(14,(.int .i64 t14)),(15,(.int .i64 t15))],heap := [(0,(.cells 5 (.segs (.cons 1 (.one (.own 1 0 1)) (.cons 1 (.one (.own 2 0 1)) (.cons 1 (.one (.own 3 0 1)) (.cons 1 (.one (.own 4 0 1)) (.cons 1 (.one (.own 5 0 1)) .nil)))))) true)),(1,(.cells x4.length (.rI .i64 x4) true)),(2,(.cells x5.length (.rI .i64 x5) true)),(3,(.cells x6.length (.rI .i64 x6) true)),(4,(.cells x7.length (.rI .i64 x7) true)),(5,(.cells x8.length (.rI .i64 x8) true))],next := 6,nt := 40,m := 0 }
def ef25wg_j10003 : Ty82 → St := fun (x1,x2,x3,x4,x5) => { tmps := [(5,(.own 0 0 1))],heap := [(0,(.cells 5 (.segs (.cons 1 (.one (.own 1 0 1)) (.cons 1 (.one (.own 2 0 1)) (.cons 1 (.one (.own 3 0 1)) (.cons 1 (.one (.own 4 0 1)) (.cons 1 (.one (.own 5 0 1)) .nil)))))) true)),(1,(.cells x1.length (.rI .i64 x1) true)),(2,(.cells x2.length (.rI .i64 x2) true)),(3,(.cells x3.length (.rI .i64 x3) true)),(4,(.cells x4.length (.rI .i64 x4) true)),(5,(.cells x5.length (.rI .i64 x5) true))],next := 6,nt := 40,m := 0 }
def f25wg_n0 (F : Nat) (kf25wg_j1034 : (List Int) → Rz) : (List Int) → Rz := fun a0 => (kf25wg_j1034 a0)
theorem f25wg_n0_eq (F : Nat) (Rf25wg_j1034 : St → Rz) : ∀ v,aexec VG3825w (Af25wg F) (bp Try.f25 2) (ef25wg_a v) (kSeq (kc VG3825w Rf25wg_j1034 [(0,.plain),(1,.plain)]) (kFin VG3825w (some [(4,(.lists .i64 22))]) (Try.f25).results.toList)) = f25wg_n0 F (Rf25wg_j1034 ∘ ef25wg_j1034) v := by
  intro a0; kernel_rfl
def f25wg_n10 (F : Nat) (kf25wg_j3026 : (List Int) → Rz) : (List Int) → Rz := fun t0 => (kf25wg_j3026 t0)
theorem f25wg_n10_eq (F : Nat) (Rf25wg_j3026 : St → Rz) : ∀ v,aexec VG3825w (Af25wg F) (bp Try.f25 6) (ef25wg_j1034 v) (kSeq (kc VG3825w Rf25wg_j3026 [(0,.plain),(1,.plain)]) (kFin VG3825w (some [(4,(.lists .i64 22))]) (Try.f25).results.toList)) = f25wg_n10 F (Rf25wg_j3026 ∘ ef25wg_j3026) v := by
  intro t0; kernel_rfl
def f25wg_n110 (F : Nat) (kf25wg_j4024 : Ty3 → Rz) : (List Int) → Rz := fun t0 => (kf25wg_j4024 (t0,[],[],[],[],[]))
theorem f25wg_n110_eq (F : Nat) (Rf25wg_j4024 : St → Rz) : ∀ v,aexec VG3825w (Af25wg F) (bp Try.f25 14) (ef25wg_j3026 v) (kSeq (kc VG3825w Rf25wg_j4024 [(0,.plain),(5,.plain)]) (kFin VG3825w (some [(4,(.lists .i64 22))]) (Try.f25).results.toList)) = f25wg_n110 F (Rf25wg_j4024 ∘ ef25wg_j4024) v := by
  intro t0; kernel_rfl
def f25wg_n11100 (F : Nat) (kf25wg_j5018 : Ty84 → Rz) (kf25wg_j10003 : Ty82 → Rz) : Ty3 → Rz := fun (t0,x2,x3,x4,x5,x6) => (kf25wg_j5018 (t0,(↑t0.length : Int),(0 : Int),x2,x3,x4,x5,x6))
theorem f25wg_n11100_eq (F : Nat) (Rf25wg_j5018 : St → Rz) (Rf25wg_j10003 : St → Rz) : ∀ v,aexec VG3825w (Af25wg F) (bp Try.f25 60) (ef25wg_j4024 v) (kSeq (kc VG3825w Rf25wg_j5018 sp59) (kSeq (kc VG3825w Rf25wg_j10003 [(5,.plain)]) (kFin VG3825w (some [(4,(.lists .i64 22))]) (Try.f25).results.toList))) = f25wg_n11100 F (Rf25wg_j5018 ∘ ef25wg_j5018) (Rf25wg_j10003 ∘ ef25wg_j10003) v := by
  rintro ⟨t0,x2,x3,x4,x5,x6⟩; kernel_rfl
def f25wg_n1110100 (F : Nat) (kf25wg_l5016 : Ty84 → Rz) (kf25wg_j10003 : Ty82 → Rz) : Ty84 → Rz := fun (t13,t14,t15,x4,x5,x6,x7,x8) => (cond (decide (t15 < t14)) (cond ((decide (0 ≤ t15)) && (decide (t15 < (↑t13.length : Int)))) (cond (decide ((t13.getD (Int.toNat t15) 0) ≥ (0 : Int))) (cond (decide ((t13.getD (Int.toNat t15) 0) < (5 : Int))) (cond (decide ((t13.getD (Int.toNat t15) 0) = (0 : Int))) (cond (decide ((x4.length + 1) < 1073741824)) (kf25wg_l5016 (t13,t14,(IntKind.i64.wrap (t15 + (1 : Int))),(x4 ++ [t15]),x5,x6,x7,x8)) none) (cond (decide ((t13.getD (Int.toNat t15) 0) = (1 : Int))) (cond (decide ((x5.length + 1) < 1073741824)) (kf25wg_l5016 (t13,t14,(IntKind.i64.wrap (t15 + (1 : Int))),x4,(x5 ++ [t15]),x6,x7,x8)) none) (cond (decide ((t13.getD (Int.toNat t15) 0) = (2 : Int))) (cond (decide ((x6.length + 1) < 1073741824)) (kf25wg_l5016 (t13,t14,(IntKind.i64.wrap (t15 + (1 : Int))),x4,x5,(x6 ++ [t15]),x7,x8)) none) (cond (decide ((t13.getD (Int.toNat t15) 0) = (3 : Int))) (cond (decide ((x7.length + 1) < 1073741824)) (kf25wg_l5016 (t13,t14,(IntKind.i64.wrap (t15 + (1 : Int))),x4,x5,x6,(x7 ++ [t15]),x8)) none) (cond (decide ((t13.getD (Int.toNat t15) 0) = (4 : Int))) (cond (decide ((x8.length + 1) < 1073741824)) (kf25wg_l5016 (t13,t14,(IntKind.i64.wrap (t15 + (1 : Int))),x4,x5,x6,x7,(x8 ++ [t15]))) none) none))))) (kf25wg_l5016 (t13,t14,(IntKind.i64.wrap (t15 + (1 : Int))),x4,x5,x6,x7,x8))) (kf25wg_l5016 (t13,t14,(IntKind.i64.wrap (t15 + (1 : Int))),x4,x5,x6,x7,x8))) none) (kf25wg_j10003 (x4,x5,x6,x7,x8)))
theorem f25wg_n1110100_eq (F : Nat) (Rf25wg_l5016 : St → Rz) (Rf25wg_j10003 : St → Rz) : ∀ v,aexec VG3825w (Af25wg F) (bp Try.f25 244) (ef25wg_l5016 v) (kSeq (kc VG3825w Rf25wg_l5016 sp59) (kBlock 0 (kSeq (kc VG3825w Rf25wg_j10003 [(5,.plain)]) (kFin VG3825w (some [(4,(.lists .i64 22))]) (Try.f25).results.toList)))) = f25wg_n1110100 F (Rf25wg_l5016 ∘ ef25wg_l5016) (Rf25wg_j10003 ∘ ef25wg_j10003) v := by
  rintro ⟨t13,t14,t15,x4,x5,x6,x7,x8⟩; kernel_rfl
def f25wg_n111010_i : Ty84 → (List Int) × Int × Int × (List Int) × (List Int) × (List Int) × (List Int) × (List Int) := fun (t13,t14,t15,x4,x5,x6,x7,x8) => (t13,t14,t15,x4,x5,x6,x7,x8)
def f25wg_n111010 (F : Nat) (kf25wg_j10003 : Ty82 → Rz) : Ty84 → Rz := fun v => loopN (fun k => f25wg_n1110100 F k kf25wg_j10003) F (f25wg_n111010_i v)
theorem f25wg_n111010_eq (F : Nat) (Rf25wg_j10003 : St → Rz) : ∀ v,aexec VG3825w (Af25wg F) (bp Try.f25 122) (ef25wg_j5018 v) (kBlock 0 (kSeq (kc VG3825w Rf25wg_j10003 [(5,.plain)]) (kFin VG3825w (some [(4,(.lists .i64 22))]) (Try.f25).results.toList))) = f25wg_n111010 F (Rf25wg_j10003 ∘ ef25wg_j10003) v :=
  loop_cut (by kernel_rfl) (by kernel_rfl) ef25wg_j5018 ef25wg_l5016 _ f25wg_n111010_i (fun k => f25wg_n1110100 F k (Rf25wg_j10003 ∘ ef25wg_j10003))
    (by rintro ⟨t13,t14,t15,x4,x5,x6,x7,x8⟩; kernel_rfl) (fun Rf25wg_l5016 => f25wg_n1110100_eq F Rf25wg_l5016 Rf25wg_j10003)
def f25wg_n11101 (F : Nat) (kf25wg_j10003 : Ty82 → Rz) : Ty84 → Rz := f25wg_n111010 F kf25wg_j10003
theorem f25wg_n11101_eq (F : Nat) (Rf25wg_j10003 : St → Rz) : ∀ v,aexec VG3825w (Af25wg F) (bp Try.f25 61) (ef25wg_j5018 v) (kSeq (kc VG3825w Rf25wg_j10003 [(5,.plain)]) (kFin VG3825w (some [(4,(.lists .i64 22))]) (Try.f25).results.toList)) = f25wg_n11101 F (Rf25wg_j10003 ∘ ef25wg_j10003) v := fun v =>
  (block_in  (by kernel_rfl) _ _).trans (f25wg_n111010_eq F Rf25wg_j10003 v)
def f25wg_n1110 (F : Nat) (kf25wg_j10003 : Ty82 → Rz) : Ty3 → Rz := fun v => f25wg_n11100 F (f25wg_n11101 F kf25wg_j10003) kf25wg_j10003 v
theorem f25wg_n1110_eq (F : Nat) (Rf25wg_j10003 : St → Rz) : ∀ v,aexec VG3825w (Af25wg F) (bp Try.f25 30) (ef25wg_j4024 v) (kSeq (kc VG3825w Rf25wg_j10003 [(5,.plain)]) (kFin VG3825w (some [(4,(.lists .i64 22))]) (Try.f25).results.toList)) = f25wg_n1110 F (Rf25wg_j10003 ∘ ef25wg_j10003) v :=
  seq_cut (by kernel_rfl) (by kernel_rfl) ef25wg_j4024 ef25wg_j5018 _ (fun k => f25wg_n11100 F k (Rf25wg_j10003 ∘ ef25wg_j10003)) (f25wg_n11101 F (Rf25wg_j10003 ∘ ef25wg_j10003))
    (fun Rf25wg_j5018 => f25wg_n11100_eq F Rf25wg_j5018 Rf25wg_j10003) (f25wg_n11101_eq F Rf25wg_j10003)
def f25wg_n1111 (F : Nat) : Ty82 → Rz := fun (x1,x2,x3,x4,x5) => (some ((.own 0 0 1),[(.cells 5 (.rL .i64 [x1,x2,x3,x4,x5]) true)]))
theorem f25wg_n1111_eq (F : Nat) : ∀ v,aexec VG3825w (Af25wg F) (bp Try.f25 31) (ef25wg_j10003 v) (kFin VG3825w (some [(4,(.lists .i64 22))]) (Try.f25).results.toList) = f25wg_n1111 F v := by
  rintro ⟨x1,x2,x3,x4,x5⟩; kernel_rfl
def f25wg_n111 (F : Nat) : Ty3 → Rz := fun v => f25wg_n1110 F (f25wg_n1111 F) v
theorem f25wg_n111_eq (F : Nat) : ∀ v,aexec VG3825w (Af25wg F) (bp Try.f25 15) (ef25wg_j4024 v) (kFin VG3825w (some [(4,(.lists .i64 22))]) (Try.f25).results.toList) = f25wg_n111 F v :=
  seq_cut (by kernel_rfl) (by kernel_rfl) ef25wg_j4024 ef25wg_j10003 _ (fun k => f25wg_n1110 F k) (f25wg_n1111 F)
    (fun Rf25wg_j10003 => f25wg_n1110_eq F Rf25wg_j10003) (f25wg_n1111_eq F)
def f25wg_n11 (F : Nat) : (List Int) → Rz := fun v => f25wg_n110 F (f25wg_n111 F) v
theorem f25wg_n11_eq (F : Nat) : ∀ v,aexec VG3825w (Af25wg F) (bp Try.f25 7) (ef25wg_j3026 v) (kFin VG3825w (some [(4,(.lists .i64 22))]) (Try.f25).results.toList) = f25wg_n11 F v :=
  seq_cut (by kernel_rfl) (by kernel_rfl) ef25wg_j3026 ef25wg_j4024 _ (fun k => f25wg_n110 F k) (f25wg_n111 F)
    (fun Rf25wg_j4024 => f25wg_n110_eq F Rf25wg_j4024) (f25wg_n111_eq F)
def f25wg_n1 (F : Nat) : (List Int) → Rz := fun v => f25wg_n10 F (f25wg_n11 F) v
theorem f25wg_n1_eq (F : Nat) : ∀ v,aexec VG3825w (Af25wg F) (bp Try.f25 3) (ef25wg_j1034 v) (kFin VG3825w (some [(4,(.lists .i64 22))]) (Try.f25).results.toList) = f25wg_n1 F v :=
  seq_cut (by kernel_rfl) (by kernel_rfl) ef25wg_j1034 ef25wg_j3026 _ (fun k => f25wg_n10 F k) (f25wg_n11 F)
    (fun Rf25wg_j3026 => f25wg_n10_eq F Rf25wg_j3026) (f25wg_n11_eq F)
def f25wg_nt (F : Nat) : (List Int) → Rz := fun v => f25wg_n0 F (f25wg_n1 F) v
theorem f25wg_nt_eq (F : Nat) : ∀ v,aexec VG3825w (Af25wg F) (sub (bodyOf Try.f25) []) (ef25wg_a v) (kFin VG3825w (some [(4,(.lists .i64 22))]) (Try.f25).results.toList) = f25wg_nt F v :=
  seq_cut (by kernel_rfl) (by kernel_rfl) ef25wg_a ef25wg_j1034 _ (fun k => f25wg_n0 F k) (f25wg_n1 F)
    (fun Rf25wg_j1034 => f25wg_n0_eq F Rf25wg_j1034) (f25wg_n1_eq F)
def f25wg (F : Nat) : (List Int) → Rz := f25wg_nt F
theorem f25wg_body (F : Nat) (a0 : List Int) : abody VG3825w (Af25wg F) Try.f25 [(.vs (.rI .i64 a0) 0 1),(.int .i64 (5 : Int))] [] = f25wg F a0 :=
  (abody_in (c := (sub (bodyOf Try.f25) [])) (by kernel_rfl) (s := ef25wg_a a0) (by kernel_rfl)).trans (f25wg_nt_eq F a0)
def Af25wh (F : Nat) : Cuts := { F := F,at_ := fun n => match n with | 5016 => some sp59 | _ => none,join := fun n => match n with | 1034 => some [(0,.plain),(1,.plain)] | 3026 => some [(0,.plain),(1,.plain)] | 4024 => some [(0,.plain),(5,.plain)] | 5018 => some sp59 | 10003 => some [(5,.plain)] | _ => none,fin := (some [(4,(.lists .i64 22))]),cas := fun n => match n with | 8 => some (7,6) | _ => none }
def ef25wh_a : (List Int) → St := fun a0 => { tmps := [(0,(.vs (.rI .i64 a0) 0 1)),(1,(.int .i64 (6 : Int)))],heap := [],next := 0,nt := 40,m := 0 }
def ef25wh_j1034 : (List Int) → St := fun t0 => { tmps := [(0,(.vs (.rI .i64 t0) 0 1)),(1,(.int .i64 (6 : Int)))],heap := [],next := 0,nt := 40,m := 0 }
def ef25wh_j3026 : (List Int) → St := fun t0 => { tmps := [(0,(.vs (.rI .i64 t0) 0 1)),(1,(.int .i64 (6 : Int)))],heap := [],next := 0,nt := 40,m := 0 }
def ef25wh_j4024 : Ty85 → St := fun (t0,x2,x3,x4,x5,x6,x7) => { tmps := [(0,(.vs (.rI .i64 t0) 0 1)),(5,(.own 0 0 1))],heap := [(0,(.cells 6 (.segs (.cons 1 (.one (.own 1 0 1)) (.cons 1 (.one (.own 2 0 1)) (.cons 1 (.one (.own 3 0 1)) (.cons 1 (.one (.own 4 0 1)) (.cons 1 (.one (.own 5 0 1)) (.cons 1 (.one (.own 6 0 1)) .nil))))))) true)),(1,(.cells x2.length (.rI .i64 x2) true)),(2,(.cells x3.length (.rI .i64 x3) true)),(3,(.cells x4.length (.rI .i64 x4) true)),(4,(.cells x5.length (.rI .i64 x5) true)),(5,(.cells x6.length (.rI .i64 x6) true)),(6,(.cells x7.length (.rI .i64 x7) true))],next := 7,nt := 40,m := 0 }
def ef25wh_j5018 : Ty86 → St := fun (t13,t14,t15,x4,x5,x6,x7,x8,x9) => { tmps := [(5,(.own 0 0 1)),(13,(.vs (.rI .i64 t13) 0 1)),(14,(.int .i64 t14)),(15,(.int .i64 t15))],heap := [(0,(.cells 6 (.segs (.cons 1 (.one (.own 1 0 1)) (.cons 1 (.one (.own 2 0 1)) (.cons 1 (.one (.own 3 0 1)) (.cons 1 (.one (.own 4 0 1)) (.cons 1 (.one (.own 5 0 1)) (.cons 1 (.one (.own 6 0 1)) .nil))))))) true)),(1,(.cells x4.length (.rI .i64 x4) true)),(2,(.cells x5.length (.rI .i64 x5) true)),(3,(.cells x6.length (.rI .i64 x6) true)),(4,(.cells x7.length (.rI .i64 x7) true)),(5,(.cells x8.length (.rI .i64 x8) true)),(6,(.cells x9.length (.rI .i64 x9) true))],next := 7,nt := 40,m := 0 }
def ef25wh_l5016 : Ty86 → St := fun (t13,t14,t15,x4,x5,x6,x7,x8,x9) => { tmps := [(5,(.own 0 0 1)),(13,(.vs (.rI .i64 t13) 0 1)),(14,(.int .i64 t14)),(15,(.int .i64 t15))],heap := [(0,(.cells 6 (.segs (.cons 1 (.one (.own 1 0 1)) (.cons 1 (.one (.own 2 0 1)) (.cons 1 (.one (.own 3 0 1)) (.cons 1 (.one (.own 4 0 1)) (.cons 1 (.one (.own 5 0 1)) (.cons 1 (.one (.own 6 0 1)) .nil))))))) true)),(1,(.cells x4.length (.rI .i64 x4) true)),(2,(.cells x5.length (.rI .i64 x5) true)),(3,(.cells x6.length (.rI .i64 x6) true)),(4,(.cells x7.length (.rI .i64 x7) true)),(5,(.cells x8.length (.rI .i64 x8) true)),(6,(.cells x9.length (.rI .i64 x9) true))],next := 7,nt := 40,m := 0 }
def ef25wh_j10003 : Ty3 → St := fun (x1,x2,x3,x4,x5,x6) => { tmps := [(5,(.own 0 0 1))],heap := [(0,(.cells 6 (.segs (.cons 1 (.one (.own 1 0 1)) (.cons 1 (.one (.own 2 0 1)) (.cons 1 (.one (.own 3 0 1)) (.cons 1 (.one (.own 4 0 1)) (.cons 1 (.one (.own 5 0 1)) (.cons 1 (.one (.own 6 0 1)) .nil))))))) true)),(1,(.cells x1.length (.rI .i64 x1) true)),(2,(.cells x2.length (.rI .i64 x2) true)),(3,(.cells x3.length (.rI .i64 x3) true)),(4,(.cells x4.length (.rI .i64 x4) true)),(5,(.cells x5.length (.rI .i64 x5) true)),(6,(.cells x6.length (.rI .i64 x6) true))],next := 7,nt := 40,m := 0 }
def f25wh_n0 (F : Nat) (kf25wh_j1034 : (List Int) → Rz) : (List Int) → Rz := fun a0 => (kf25wh_j1034 a0)
theorem f25wh_n0_eq (F : Nat) (Rf25wh_j1034 : St → Rz) : ∀ v,aexec VG3825w (Af25wh F) (bp Try.f25 2) (ef25wh_a v) (kSeq (kc VG3825w Rf25wh_j1034 [(0,.plain),(1,.plain)]) (kFin VG3825w (some [(4,(.lists .i64 22))]) (Try.f25).results.toList)) = f25wh_n0 F (Rf25wh_j1034 ∘ ef25wh_j1034) v := by
  intro a0; kernel_rfl
def f25wh_n10 (F : Nat) (kf25wh_j3026 : (List Int) → Rz) : (List Int) → Rz := fun t0 => (kf25wh_j3026 t0)
theorem f25wh_n10_eq (F : Nat) (Rf25wh_j3026 : St → Rz) : ∀ v,aexec VG3825w (Af25wh F) (bp Try.f25 6) (ef25wh_j1034 v) (kSeq (kc VG3825w Rf25wh_j3026 [(0,.plain),(1,.plain)]) (kFin VG3825w (some [(4,(.lists .i64 22))]) (Try.f25).results.toList)) = f25wh_n10 F (Rf25wh_j3026 ∘ ef25wh_j3026) v := by
  intro t0; kernel_rfl
def f25wh_n110 (F : Nat) (kf25wh_j4024 : Ty85 → Rz) : (List Int) → Rz := fun t0 => (kf25wh_j4024 (t0,[],[],[],[],[],[]))
theorem f25wh_n110_eq (F : Nat) (Rf25wh_j4024 : St → Rz) : ∀ v,aexec VG3825w (Af25wh F) (bp Try.f25 14) (ef25wh_j3026 v) (kSeq (kc VG3825w Rf25wh_j4024 [(0,.plain),(5,.plain)]) (kFin VG3825w (some [(4,(.lists .i64 22))]) (Try.f25).results.toList)) = f25wh_n110 F (Rf25wh_j4024 ∘ ef25wh_j4024) v := by
  intro t0; kernel_rfl
def f25wh_n11100 (F : Nat) (kf25wh_j5018 : Ty86 → Rz) (kf25wh_j10003 : Ty3 → Rz) : Ty85 → Rz := fun (t0,x2,x3,x4,x5,x6,x7) => (kf25wh_j5018 (t0,(↑t0.length : Int),(0 : Int),x2,x3,x4,x5,x6,x7))
theorem f25wh_n11100_eq (F : Nat) (Rf25wh_j5018 : St → Rz) (Rf25wh_j10003 : St → Rz) : ∀ v,aexec VG3825w (Af25wh F) (bp Try.f25 60) (ef25wh_j4024 v) (kSeq (kc VG3825w Rf25wh_j5018 sp59) (kSeq (kc VG3825w Rf25wh_j10003 [(5,.plain)]) (kFin VG3825w (some [(4,(.lists .i64 22))]) (Try.f25).results.toList))) = f25wh_n11100 F (Rf25wh_j5018 ∘ ef25wh_j5018) (Rf25wh_j10003 ∘ ef25wh_j10003) v := by
  rintro ⟨t0,x2,x3,x4,x5,x6,x7⟩; kernel_rfl
def f25wh_n1110100 (F : Nat) (kf25wh_l5016 : Ty86 → Rz) (kf25wh_j10003 : Ty3 → Rz) : Ty86 → Rz := fun (t13,t14,t15,x4,x5,x6,x7,x8,x9) => (cond (decide (t15 < t14)) (cond ((decide (0 ≤ t15)) && (decide (t15 < (↑t13.length : Int)))) (cond (decide ((t13.getD (Int.toNat t15) 0) ≥ (0 : Int))) (cond (decide ((t13.getD (Int.toNat t15) 0) < (6 : Int))) (cond (decide ((t13.getD (Int.toNat t15) 0) = (0 : Int))) (cond (decide ((x4.length + 1) < 1073741824)) (kf25wh_l5016 (t13,t14,(IntKind.i64.wrap (t15 + (1 : Int))),(x4 ++ [t15]),x5,x6,x7,x8,x9)) none) (cond (decide ((t13.getD (Int.toNat t15) 0) = (1 : Int))) (cond (decide ((x5.length + 1) < 1073741824)) (kf25wh_l5016 (t13,t14,(IntKind.i64.wrap (t15 + (1 : Int))),x4,(x5 ++ [t15]),x6,x7,x8,x9)) none) (cond (decide ((t13.getD (Int.toNat t15) 0) = (2 : Int))) (cond (decide ((x6.length + 1) < 1073741824)) (kf25wh_l5016 (t13,t14,(IntKind.i64.wrap (t15 + (1 : Int))),x4,x5,(x6 ++ [t15]),x7,x8,x9)) none) (cond (decide ((t13.getD (Int.toNat t15) 0) = (3 : Int))) (cond (decide ((x7.length + 1) < 1073741824)) (kf25wh_l5016 (t13,t14,(IntKind.i64.wrap (t15 + (1 : Int))),x4,x5,x6,(x7 ++ [t15]),x8,x9)) none) (cond (decide ((t13.getD (Int.toNat t15) 0) = (4 : Int))) (cond (decide ((x8.length + 1) < 1073741824)) (kf25wh_l5016 (t13,t14,(IntKind.i64.wrap (t15 + (1 : Int))),x4,x5,x6,x7,(x8 ++ [t15]),x9)) none) (cond (decide ((t13.getD (Int.toNat t15) 0) = (5 : Int))) (cond (decide ((x9.length + 1) < 1073741824)) (kf25wh_l5016 (t13,t14,(IntKind.i64.wrap (t15 + (1 : Int))),x4,x5,x6,x7,x8,(x9 ++ [t15]))) none) none)))))) (kf25wh_l5016 (t13,t14,(IntKind.i64.wrap (t15 + (1 : Int))),x4,x5,x6,x7,x8,x9))) (kf25wh_l5016 (t13,t14,(IntKind.i64.wrap (t15 + (1 : Int))),x4,x5,x6,x7,x8,x9))) none) (kf25wh_j10003 (x4,x5,x6,x7,x8,x9)))
theorem f25wh_n1110100_eq (F : Nat) (Rf25wh_l5016 : St → Rz) (Rf25wh_j10003 : St → Rz) : ∀ v,aexec VG3825w (Af25wh F) (bp Try.f25 244) (ef25wh_l5016 v) (kSeq (kc VG3825w Rf25wh_l5016 sp59) (kBlock 0 (kSeq (kc VG3825w Rf25wh_j10003 [(5,.plain)]) (kFin VG3825w (some [(4,(.lists .i64 22))]) (Try.f25).results.toList)))) = f25wh_n1110100 F (Rf25wh_l5016 ∘ ef25wh_l5016) (Rf25wh_j10003 ∘ ef25wh_j10003) v := by
  rintro ⟨t13,t14,t15,x4,x5,x6,x7,x8,x9⟩; kernel_rfl
def f25wh_n111010_i : Ty86 → (List Int) × Int × Int × (List Int) × (List Int) × (List Int) × (List Int) × (List Int) × (List Int) := fun (t13,t14,t15,x4,x5,x6,x7,x8,x9) => (t13,t14,t15,x4,x5,x6,x7,x8,x9)
def f25wh_n111010 (F : Nat) (kf25wh_j10003 : Ty3 → Rz) : Ty86 → Rz := fun v => loopN (fun k => f25wh_n1110100 F k kf25wh_j10003) F (f25wh_n111010_i v)
theorem f25wh_n111010_eq (F : Nat) (Rf25wh_j10003 : St → Rz) : ∀ v,aexec VG3825w (Af25wh F) (bp Try.f25 122) (ef25wh_j5018 v) (kBlock 0 (kSeq (kc VG3825w Rf25wh_j10003 [(5,.plain)]) (kFin VG3825w (some [(4,(.lists .i64 22))]) (Try.f25).results.toList))) = f25wh_n111010 F (Rf25wh_j10003 ∘ ef25wh_j10003) v :=
  loop_cut (by kernel_rfl) (by kernel_rfl) ef25wh_j5018 ef25wh_l5016 _ f25wh_n111010_i (fun k => f25wh_n1110100 F k (Rf25wh_j10003 ∘ ef25wh_j10003))
    (by rintro ⟨t13,t14,t15,x4,x5,x6,x7,x8,x9⟩; kernel_rfl) (fun Rf25wh_l5016 => f25wh_n1110100_eq F Rf25wh_l5016 Rf25wh_j10003)
def f25wh_n11101 (F : Nat) (kf25wh_j10003 : Ty3 → Rz) : Ty86 → Rz := f25wh_n111010 F kf25wh_j10003
theorem f25wh_n11101_eq (F : Nat) (Rf25wh_j10003 : St → Rz) : ∀ v,aexec VG3825w (Af25wh F) (bp Try.f25 61) (ef25wh_j5018 v) (kSeq (kc VG3825w Rf25wh_j10003 [(5,.plain)]) (kFin VG3825w (some [(4,(.lists .i64 22))]) (Try.f25).results.toList)) = f25wh_n11101 F (Rf25wh_j10003 ∘ ef25wh_j10003) v := fun v =>
  (block_in  (by kernel_rfl) _ _).trans (f25wh_n111010_eq F Rf25wh_j10003 v)
def f25wh_n1110 (F : Nat) (kf25wh_j10003 : Ty3 → Rz) : Ty85 → Rz := fun v => f25wh_n11100 F (f25wh_n11101 F kf25wh_j10003) kf25wh_j10003 v
theorem f25wh_n1110_eq (F : Nat) (Rf25wh_j10003 : St → Rz) : ∀ v,aexec VG3825w (Af25wh F) (bp Try.f25 30) (ef25wh_j4024 v) (kSeq (kc VG3825w Rf25wh_j10003 [(5,.plain)]) (kFin VG3825w (some [(4,(.lists .i64 22))]) (Try.f25).results.toList)) = f25wh_n1110 F (Rf25wh_j10003 ∘ ef25wh_j10003) v :=
  seq_cut (by kernel_rfl) (by kernel_rfl) ef25wh_j4024 ef25wh_j5018 _ (fun k => f25wh_n11100 F k (Rf25wh_j10003 ∘ ef25wh_j10003)) (f25wh_n11101 F (Rf25wh_j10003 ∘ ef25wh_j10003))
    (fun Rf25wh_j5018 => f25wh_n11100_eq F Rf25wh_j5018 Rf25wh_j10003) (f25wh_n11101_eq F Rf25wh_j10003)
def f25wh_n1111 (F : Nat) : Ty3 → Rz := fun (x1,x2,x3,x4,x5,x6) => (some ((.own 0 0 1),[(.cells 6 (.rL .i64 [x1,x2,x3,x4,x5,x6]) true)]))
theorem f25wh_n1111_eq (F : Nat) : ∀ v,aexec VG3825w (Af25wh F) (bp Try.f25 31) (ef25wh_j10003 v) (kFin VG3825w (some [(4,(.lists .i64 22))]) (Try.f25).results.toList) = f25wh_n1111 F v := by
  rintro ⟨x1,x2,x3,x4,x5,x6⟩; kernel_rfl
def f25wh_n111 (F : Nat) : Ty85 → Rz := fun v => f25wh_n1110 F (f25wh_n1111 F) v
theorem f25wh_n111_eq (F : Nat) : ∀ v,aexec VG3825w (Af25wh F) (bp Try.f25 15) (ef25wh_j4024 v) (kFin VG3825w (some [(4,(.lists .i64 22))]) (Try.f25).results.toList) = f25wh_n111 F v :=
  seq_cut (by kernel_rfl) (by kernel_rfl) ef25wh_j4024 ef25wh_j10003 _ (fun k => f25wh_n1110 F k) (f25wh_n1111 F)
    (fun Rf25wh_j10003 => f25wh_n1110_eq F Rf25wh_j10003) (f25wh_n1111_eq F)
def f25wh_n11 (F : Nat) : (List Int) → Rz := fun v => f25wh_n110 F (f25wh_n111 F) v
theorem f25wh_n11_eq (F : Nat) : ∀ v,aexec VG3825w (Af25wh F) (bp Try.f25 7) (ef25wh_j3026 v) (kFin VG3825w (some [(4,(.lists .i64 22))]) (Try.f25).results.toList) = f25wh_n11 F v :=
  seq_cut (by kernel_rfl) (by kernel_rfl) ef25wh_j3026 ef25wh_j4024 _ (fun k => f25wh_n110 F k) (f25wh_n111 F)
    (fun Rf25wh_j4024 => f25wh_n110_eq F Rf25wh_j4024) (f25wh_n111_eq F)
def f25wh_n1 (F : Nat) : (List Int) → Rz := fun v => f25wh_n10 F (f25wh_n11 F) v
theorem f25wh_n1_eq (F : Nat) : ∀ v,aexec VG3825w (Af25wh F) (bp Try.f25 3) (ef25wh_j1034 v) (kFin VG3825w (some [(4,(.lists .i64 22))]) (Try.f25).results.toList) = f25wh_n1 F v :=
  seq_cut (by kernel_rfl) (by kernel_rfl) ef25wh_j1034 ef25wh_j3026 _ (fun k => f25wh_n10 F k) (f25wh_n11 F)
    (fun Rf25wh_j3026 => f25wh_n10_eq F Rf25wh_j3026) (f25wh_n11_eq F)
def f25wh_nt (F : Nat) : (List Int) → Rz := fun v => f25wh_n0 F (f25wh_n1 F) v
theorem f25wh_nt_eq (F : Nat) : ∀ v,aexec VG3825w (Af25wh F) (sub (bodyOf Try.f25) []) (ef25wh_a v) (kFin VG3825w (some [(4,(.lists .i64 22))]) (Try.f25).results.toList) = f25wh_nt F v :=
  seq_cut (by kernel_rfl) (by kernel_rfl) ef25wh_a ef25wh_j1034 _ (fun k => f25wh_n0 F k) (f25wh_n1 F)
    (fun Rf25wh_j1034 => f25wh_n0_eq F Rf25wh_j1034) (f25wh_n1_eq F)
def f25wh (F : Nat) : (List Int) → Rz := f25wh_nt F
theorem f25wh_body (F : Nat) (a0 : List Int) : abody VG3825w (Af25wh F) Try.f25 [(.vs (.rI .i64 a0) 0 1),(.int .i64 (6 : Int))] [] = f25wh F a0 :=
  (abody_in (c := (sub (bodyOf Try.f25) [])) (by kernel_rfl) (s := ef25wh_a a0) (by kernel_rfl)).trans (f25wh_nt_eq F a0)
def Af25wi (F : Nat) : Cuts := { F := F,at_ := fun n => match n with | 5016 => some sp59 | _ => none,join := fun n => match n with | 1034 => some [(0,.plain),(1,.plain)] | 3026 => some [(0,.plain),(1,.plain)] | 4024 => some [(0,.plain),(5,.plain)] | 5018 => some sp59 | 10003 => some [(5,.plain)] | _ => none,fin := (some [(4,(.lists .i64 22))]),cas := fun n => match n with | 8 => some (7,6) | _ => none }
def ef25wi_a : (List Int) → St := fun a0 => { tmps := [(0,(.vs (.rI .i64 a0) 0 1)),(1,(.int .i64 (7 : Int)))],heap := [],next := 0,nt := 40,m := 0 }
def ef25wi_j1034 : (List Int) → St := fun t0 => { tmps := [(0,(.vs (.rI .i64 t0) 0 1)),(1,(.int .i64 (7 : Int)))],heap := [],next := 0,nt := 40,m := 0 }
def ef25wi_j3026 : (List Int) → St := fun t0 => { tmps := [(0,(.vs (.rI .i64 t0) 0 1)),(1,(.int .i64 (7 : Int)))],heap := [],next := 0,nt := 40,m := 0 }
def ef25wi_j4024 : Ty85 → St := fun (t0,x2,x3,x4,x5,x6,x7) => { tmps := [(0,(.vs (.rI .i64 t0) 0 1)),(5,(.own 0 0 1))],heap := [(0,(.cells 6 (.segs (.cons 1 (.one (.own 1 0 1)) (.cons 1 (.one (.own 2 0 1)) (.cons 1 (.one (.own 3 0 1)) (.cons 1 (.one (.own 4 0 1)) (.cons 1 (.one (.own 5 0 1)) (.cons 1 (.one (.own 6 0 1)) .nil))))))) true)),(1,(.cells x2.length (.rI .i64 x2) true)),(2,(.cells x3.length (.rI .i64 x3) true)),(3,(.cells x4.length (.rI .i64 x4) true)),(4,(.cells x5.length (.rI .i64 x5) true)),(5,(.cells x6.length (.rI .i64 x6) true)),(6,(.cells x7.length (.rI .i64 x7) true))],next := 7,nt := 40,m := 0 }
def ef25wi_j5018 : Ty86 → St := fun (t13,t14,t15,x4,x5,x6,x7,x8,x9) => { tmps := [(5,(.own 0 0 1)),(13,(.vs (.rI .i64 t13) 0 1)),(14,(.int .i64 t14)),(15,(.int .i64 t15))],heap := [(0,(.cells 6 (.segs (.cons 1 (.one (.own 1 0 1)) (.cons 1 (.one (.own 2 0 1)) (.cons 1 (.one (.own 3 0 1)) (.cons 1 (.one (.own 4 0 1)) (.cons 1 (.one (.own 5 0 1)) (.cons 1 (.one (.own 6 0 1)) .nil))))))) true)),(1,(.cells x4.length (.rI .i64 x4) true)),(2,(.cells x5.length (.rI .i64 x5) true)),(3,(.cells x6.length (.rI .i64 x6) true)),(4,(.cells x7.length (.rI .i64 x7) true)),(5,(.cells x8.length (.rI .i64 x8) true)),(6,(.cells x9.length (.rI .i64 x9) true))],next := 7,nt := 40,m := 0 }
def ef25wi_l5016 : Ty86 → St := fun (t13,t14,t15,x4,x5,x6,x7,x8,x9) => { tmps := [(5,(.own 0 0 1)),(13,(.vs (.rI .i64 t13) 0 1)),(14,(.int .i64 t14)),(15,(.int .i64 t15))],heap := [(0,(.cells 6 (.segs (.cons 1 (.one (.own 1 0 1)) (.cons 1 (.one (.own 2 0 1)) (.cons 1 (.one (.own 3 0 1)) (.cons 1 (.one (.own 4 0 1)) (.cons 1 (.one (.own 5 0 1)) (.cons 1 (.one (.own 6 0 1)) .nil))))))) true)),(1,(.cells x4.length (.rI .i64 x4) true)),(2,(.cells x5.length (.rI .i64 x5) true)),(3,(.cells x6.length (.rI .i64 x6) true)),(4,(.cells x7.length (.rI .i64 x7) true)),(5,(.cells x8.length (.rI .i64 x8) true)),(6,(.cells x9.length (.rI .i64 x9) true))],next := 7,nt := 40,m := 0 }
def ef25wi_j10003 : Ty3 → St := fun (x1,x2,x3,x4,x5,x6) => { tmps := [(5,(.own 0 0 1))],heap := [(0,(.cells 6 (.segs (.cons 1 (.one (.own 1 0 1)) (.cons 1 (.one (.own 2 0 1)) (.cons 1 (.one (.own 3 0 1)) (.cons 1 (.one (.own 4 0 1)) (.cons 1 (.one (.own 5 0 1)) (.cons 1 (.one (.own 6 0 1)) .nil))))))) true)),(1,(.cells x1.length (.rI .i64 x1) true)),(2,(.cells x2.length (.rI .i64 x2) true)),(3,(.cells x3.length (.rI .i64 x3) true)),(4,(.cells x4.length (.rI .i64 x4) true)),(5,(.cells x5.length (.rI .i64 x5) true)),(6,(.cells x6.length (.rI .i64 x6) true))],next := 7,nt := 40,m := 0 }
def f25wi_n0 (F : Nat) (kf25wi_j1034 : (List Int) → Rz) : (List Int) → Rz := fun a0 => (kf25wi_j1034 a0)
theorem f25wi_n0_eq (F : Nat) (Rf25wi_j1034 : St → Rz) : ∀ v,aexec VG3825w (Af25wi F) (bp Try.f25 2) (ef25wi_a v) (kSeq (kc VG3825w Rf25wi_j1034 [(0,.plain),(1,.plain)]) (kFin VG3825w (some [(4,(.lists .i64 22))]) (Try.f25).results.toList)) = f25wi_n0 F (Rf25wi_j1034 ∘ ef25wi_j1034) v := by
  intro a0; kernel_rfl
def f25wi_n10 (F : Nat) (kf25wi_j3026 : (List Int) → Rz) : (List Int) → Rz := fun t0 => (kf25wi_j3026 t0)
theorem f25wi_n10_eq (F : Nat) (Rf25wi_j3026 : St → Rz) : ∀ v,aexec VG3825w (Af25wi F) (bp Try.f25 6) (ef25wi_j1034 v) (kSeq (kc VG3825w Rf25wi_j3026 [(0,.plain),(1,.plain)]) (kFin VG3825w (some [(4,(.lists .i64 22))]) (Try.f25).results.toList)) = f25wi_n10 F (Rf25wi_j3026 ∘ ef25wi_j3026) v := by
  intro t0; kernel_rfl
def f25wi_n110 (F : Nat) (kf25wi_j4024 : Ty85 → Rz) : (List Int) → Rz := fun t0 => (kf25wi_j4024 (t0,[],[],[],[],[],[]))
theorem f25wi_n110_eq (F : Nat) (Rf25wi_j4024 : St → Rz) : ∀ v,aexec VG3825w (Af25wi F) (bp Try.f25 14) (ef25wi_j3026 v) (kSeq (kc VG3825w Rf25wi_j4024 [(0,.plain),(5,.plain)]) (kFin VG3825w (some [(4,(.lists .i64 22))]) (Try.f25).results.toList)) = f25wi_n110 F (Rf25wi_j4024 ∘ ef25wi_j4024) v := by
  intro t0; kernel_rfl
def f25wi_n11100 (F : Nat) (kf25wi_j5018 : Ty86 → Rz) (kf25wi_j10003 : Ty3 → Rz) : Ty85 → Rz := fun (t0,x2,x3,x4,x5,x6,x7) => (kf25wi_j5018 (t0,(↑t0.length : Int),(0 : Int),x2,x3,x4,x5,x6,x7))
theorem f25wi_n11100_eq (F : Nat) (Rf25wi_j5018 : St → Rz) (Rf25wi_j10003 : St → Rz) : ∀ v,aexec VG3825w (Af25wi F) (bp Try.f25 60) (ef25wi_j4024 v) (kSeq (kc VG3825w Rf25wi_j5018 sp59) (kSeq (kc VG3825w Rf25wi_j10003 [(5,.plain)]) (kFin VG3825w (some [(4,(.lists .i64 22))]) (Try.f25).results.toList))) = f25wi_n11100 F (Rf25wi_j5018 ∘ ef25wi_j5018) (Rf25wi_j10003 ∘ ef25wi_j10003) v := by
  rintro ⟨t0,x2,x3,x4,x5,x6,x7⟩; kernel_rfl
def f25wi_n1110100 (F : Nat) (kf25wi_l5016 : Ty86 → Rz) (kf25wi_j10003 : Ty3 → Rz) : Ty86 → Rz := fun (t13,t14,t15,x4,x5,x6,x7,x8,x9) => (cond (decide (t15 < t14)) (cond ((decide (0 ≤ t15)) && (decide (t15 < (↑t13.length : Int)))) (cond (decide ((t13.getD (Int.toNat t15) 0) ≥ (0 : Int))) (cond (decide ((t13.getD (Int.toNat t15) 0) < (6 : Int))) (cond (decide ((t13.getD (Int.toNat t15) 0) = (0 : Int))) (cond (decide ((x4.length + 1) < 1073741824)) (kf25wi_l5016 (t13,t14,(IntKind.i64.wrap (t15 + (1 : Int))),(x4 ++ [t15]),x5,x6,x7,x8,x9)) none) (cond (decide ((t13.getD (Int.toNat t15) 0) = (1 : Int))) (cond (decide ((x5.length + 1) < 1073741824)) (kf25wi_l5016 (t13,t14,(IntKind.i64.wrap (t15 + (1 : Int))),x4,(x5 ++ [t15]),x6,x7,x8,x9)) none) (cond (decide ((t13.getD (Int.toNat t15) 0) = (2 : Int))) (cond (decide ((x6.length + 1) < 1073741824)) (kf25wi_l5016 (t13,t14,(IntKind.i64.wrap (t15 + (1 : Int))),x4,x5,(x6 ++ [t15]),x7,x8,x9)) none) (cond (decide ((t13.getD (Int.toNat t15) 0) = (3 : Int))) (cond (decide ((x7.length + 1) < 1073741824)) (kf25wi_l5016 (t13,t14,(IntKind.i64.wrap (t15 + (1 : Int))),x4,x5,x6,(x7 ++ [t15]),x8,x9)) none) (cond (decide ((t13.getD (Int.toNat t15) 0) = (4 : Int))) (cond (decide ((x8.length + 1) < 1073741824)) (kf25wi_l5016 (t13,t14,(IntKind.i64.wrap (t15 + (1 : Int))),x4,x5,x6,x7,(x8 ++ [t15]),x9)) none) (cond (decide ((t13.getD (Int.toNat t15) 0) = (5 : Int))) (cond (decide ((x9.length + 1) < 1073741824)) (kf25wi_l5016 (t13,t14,(IntKind.i64.wrap (t15 + (1 : Int))),x4,x5,x6,x7,x8,(x9 ++ [t15]))) none) none)))))) (kf25wi_l5016 (t13,t14,(IntKind.i64.wrap (t15 + (1 : Int))),x4,x5,x6,x7,x8,x9))) (kf25wi_l5016 (t13,t14,(IntKind.i64.wrap (t15 + (1 : Int))),x4,x5,x6,x7,x8,x9))) none) (kf25wi_j10003 (x4,x5,x6,x7,x8,x9)))
theorem f25wi_n1110100_eq (F : Nat) (Rf25wi_l5016 : St → Rz) (Rf25wi_j10003 : St → Rz) : ∀ v,aexec VG3825w (Af25wi F) (bp Try.f25 244) (ef25wi_l5016 v) (kSeq (kc VG3825w Rf25wi_l5016 sp59) (kBlock 0 (kSeq (kc VG3825w Rf25wi_j10003 [(5,.plain)]) (kFin VG3825w (some [(4,(.lists .i64 22))]) (Try.f25).results.toList)))) = f25wi_n1110100 F (Rf25wi_l5016 ∘ ef25wi_l5016) (Rf25wi_j10003 ∘ ef25wi_j10003) v := by
  rintro ⟨t13,t14,t15,x4,x5,x6,x7,x8,x9⟩; kernel_rfl
def f25wi_n111010_i : Ty86 → (List Int) × Int × Int × (List Int) × (List Int) × (List Int) × (List Int) × (List Int) × (List Int) := fun (t13,t14,t15,x4,x5,x6,x7,x8,x9) => (t13,t14,t15,x4,x5,x6,x7,x8,x9)
def f25wi_n111010 (F : Nat) (kf25wi_j10003 : Ty3 → Rz) : Ty86 → Rz := fun v => loopN (fun k => f25wi_n1110100 F k kf25wi_j10003) F (f25wi_n111010_i v)
theorem f25wi_n111010_eq (F : Nat) (Rf25wi_j10003 : St → Rz) : ∀ v,aexec VG3825w (Af25wi F) (bp Try.f25 122) (ef25wi_j5018 v) (kBlock 0 (kSeq (kc VG3825w Rf25wi_j10003 [(5,.plain)]) (kFin VG3825w (some [(4,(.lists .i64 22))]) (Try.f25).results.toList))) = f25wi_n111010 F (Rf25wi_j10003 ∘ ef25wi_j10003) v :=
  loop_cut (by kernel_rfl) (by kernel_rfl) ef25wi_j5018 ef25wi_l5016 _ f25wi_n111010_i (fun k => f25wi_n1110100 F k (Rf25wi_j10003 ∘ ef25wi_j10003))
    (by rintro ⟨t13,t14,t15,x4,x5,x6,x7,x8,x9⟩; kernel_rfl) (fun Rf25wi_l5016 => f25wi_n1110100_eq F Rf25wi_l5016 Rf25wi_j10003)
def f25wi_n11101 (F : Nat) (kf25wi_j10003 : Ty3 → Rz) : Ty86 → Rz := f25wi_n111010 F kf25wi_j10003
theorem f25wi_n11101_eq (F : Nat) (Rf25wi_j10003 : St → Rz) : ∀ v,aexec VG3825w (Af25wi F) (bp Try.f25 61) (ef25wi_j5018 v) (kSeq (kc VG3825w Rf25wi_j10003 [(5,.plain)]) (kFin VG3825w (some [(4,(.lists .i64 22))]) (Try.f25).results.toList)) = f25wi_n11101 F (Rf25wi_j10003 ∘ ef25wi_j10003) v := fun v =>
  (block_in  (by kernel_rfl) _ _).trans (f25wi_n111010_eq F Rf25wi_j10003 v)
def f25wi_n1110 (F : Nat) (kf25wi_j10003 : Ty3 → Rz) : Ty85 → Rz := fun v => f25wi_n11100 F (f25wi_n11101 F kf25wi_j10003) kf25wi_j10003 v
theorem f25wi_n1110_eq (F : Nat) (Rf25wi_j10003 : St → Rz) : ∀ v,aexec VG3825w (Af25wi F) (bp Try.f25 30) (ef25wi_j4024 v) (kSeq (kc VG3825w Rf25wi_j10003 [(5,.plain)]) (kFin VG3825w (some [(4,(.lists .i64 22))]) (Try.f25).results.toList)) = f25wi_n1110 F (Rf25wi_j10003 ∘ ef25wi_j10003) v :=
  seq_cut (by kernel_rfl) (by kernel_rfl) ef25wi_j4024 ef25wi_j5018 _ (fun k => f25wi_n11100 F k (Rf25wi_j10003 ∘ ef25wi_j10003)) (f25wi_n11101 F (Rf25wi_j10003 ∘ ef25wi_j10003))
    (fun Rf25wi_j5018 => f25wi_n11100_eq F Rf25wi_j5018 Rf25wi_j10003) (f25wi_n11101_eq F Rf25wi_j10003)
def f25wi_n1111 (F : Nat) : Ty3 → Rz := fun (x1,x2,x3,x4,x5,x6) => (some ((.own 0 0 1),[(.cells 6 (.rL .i64 [x1,x2,x3,x4,x5,x6]) true)]))
theorem f25wi_n1111_eq (F : Nat) : ∀ v,aexec VG3825w (Af25wi F) (bp Try.f25 31) (ef25wi_j10003 v) (kFin VG3825w (some [(4,(.lists .i64 22))]) (Try.f25).results.toList) = f25wi_n1111 F v := by
  rintro ⟨x1,x2,x3,x4,x5,x6⟩; kernel_rfl
def f25wi_n111 (F : Nat) : Ty85 → Rz := fun v => f25wi_n1110 F (f25wi_n1111 F) v
theorem f25wi_n111_eq (F : Nat) : ∀ v,aexec VG3825w (Af25wi F) (bp Try.f25 15) (ef25wi_j4024 v) (kFin VG3825w (some [(4,(.lists .i64 22))]) (Try.f25).results.toList) = f25wi_n111 F v :=
  seq_cut (by kernel_rfl) (by kernel_rfl) ef25wi_j4024 ef25wi_j10003 _ (fun k => f25wi_n1110 F k) (f25wi_n1111 F)
    (fun Rf25wi_j10003 => f25wi_n1110_eq F Rf25wi_j10003) (f25wi_n1111_eq F)
def f25wi_n11 (F : Nat) : (List Int) → Rz := fun v => f25wi_n110 F (f25wi_n111 F) v
theorem f25wi_n11_eq (F : Nat) : ∀ v,aexec VG3825w (Af25wi F) (bp Try.f25 7) (ef25wi_j3026 v) (kFin VG3825w (some [(4,(.lists .i64 22))]) (Try.f25).results.toList) = f25wi_n11 F v :=
  seq_cut (by kernel_rfl) (by kernel_rfl) ef25wi_j3026 ef25wi_j4024 _ (fun k => f25wi_n110 F k) (f25wi_n111 F)
    (fun Rf25wi_j4024 => f25wi_n110_eq F Rf25wi_j4024) (f25wi_n111_eq F)
def f25wi_n1 (F : Nat) : (List Int) → Rz := fun v => f25wi_n10 F (f25wi_n11 F) v
theorem f25wi_n1_eq (F : Nat) : ∀ v,aexec VG3825w (Af25wi F) (bp Try.f25 3) (ef25wi_j1034 v) (kFin VG3825w (some [(4,(.lists .i64 22))]) (Try.f25).results.toList) = f25wi_n1 F v :=
  seq_cut (by kernel_rfl) (by kernel_rfl) ef25wi_j1034 ef25wi_j3026 _ (fun k => f25wi_n10 F k) (f25wi_n11 F)
    (fun Rf25wi_j3026 => f25wi_n10_eq F Rf25wi_j3026) (f25wi_n11_eq F)
def f25wi_nt (F : Nat) : (List Int) → Rz := fun v => f25wi_n0 F (f25wi_n1 F) v
theorem f25wi_nt_eq (F : Nat) : ∀ v,aexec VG3825w (Af25wi F) (sub (bodyOf Try.f25) []) (ef25wi_a v) (kFin VG3825w (some [(4,(.lists .i64 22))]) (Try.f25).results.toList) = f25wi_nt F v :=
  seq_cut (by kernel_rfl) (by kernel_rfl) ef25wi_a ef25wi_j1034 _ (fun k => f25wi_n0 F k) (f25wi_n1 F)
    (fun Rf25wi_j1034 => f25wi_n0_eq F Rf25wi_j1034) (f25wi_n1_eq F)
def f25wi (F : Nat) : (List Int) → Rz := f25wi_nt F
theorem f25wi_body (F : Nat) (a0 : List Int) : abody VG3825w (Af25wi F) Try.f25 [(.vs (.rI .i64 a0) 0 1),(.int .i64 (7 : Int))] [] = f25wi F a0 :=
  (abody_in (c := (sub (bodyOf Try.f25) [])) (by kernel_rfl) (s := ef25wi_a a0) (by kernel_rfl)).trans (f25wi_nt_eq F a0)
def Af25wj (F : Nat) : Cuts := { F := F,at_ := fun n => match n with | 5016 => some sp59 | _ => none,join := fun n => match n with | 1034 => some [(0,.plain),(1,.plain)] | 3026 => some [(0,.plain),(1,.plain)] | 4024 => some [(0,.plain),(5,.plain)] | 5018 => some sp59 | 10003 => some [(5,.plain)] | _ => none,fin := (some [(4,(.lists .i64 22))]),cas := fun n => match n with | 8 => some (7,6) | _ => none }
def ef25wj_a : (List Int) → St := fun a0 => { tmps := [(0,(.vs (.rI .i64 a0) 0 1)),(1,(.int .i64 (8 : Int)))],heap := [],next := 0,nt := 40,m := 0 }
def ef25wj_j1034 : (List Int) → St := fun t0 => { tmps := [(0,(.vs (.rI .i64 t0) 0 1)),(1,(.int .i64 (8 : Int)))],heap := [],next := 0,nt := 40,m := 0 }
def ef25wj_j3026 : (List Int) → St := fun t0 => { tmps := [(0,(.vs (.rI .i64 t0) 0 1)),(1,(.int .i64 (8 : Int)))],heap := [],next := 0,nt := 40,m := 0 }
def ef25wj_j4024 : Ty85 → St := fun (t0,x2,x3,x4,x5,x6,x7) => { tmps := [(0,(.vs (.rI .i64 t0) 0 1)),(5,(.own 0 0 1))],heap := [(0,(.cells 6 (.segs (.cons 1 (.one (.own 1 0 1)) (.cons 1 (.one (.own 2 0 1)) (.cons 1 (.one (.own 3 0 1)) (.cons 1 (.one (.own 4 0 1)) (.cons 1 (.one (.own 5 0 1)) (.cons 1 (.one (.own 6 0 1)) .nil))))))) true)),(1,(.cells x2.length (.rI .i64 x2) true)),(2,(.cells x3.length (.rI .i64 x3) true)),(3,(.cells x4.length (.rI .i64 x4) true)),(4,(.cells x5.length (.rI .i64 x5) true)),(5,(.cells x6.length (.rI .i64 x6) true)),(6,(.cells x7.length (.rI .i64 x7) true))],next := 7,nt := 40,m := 0 }
def ef25wj_j5018 : Ty86 → St := fun (t13,t14,t15,x4,x5,x6,x7,x8,x9) => { tmps := [(5,(.own 0 0 1)),(13,(.vs (.rI .i64 t13) 0 1)),(14,(.int .i64 t14)),(15,(.int .i64 t15))],heap := [(0,(.cells 6 (.segs (.cons 1 (.one (.own 1 0 1)) (.cons 1 (.one (.own 2 0 1)) (.cons 1 (.one (.own 3 0 1)) (.cons 1 (.one (.own 4 0 1)) (.cons 1 (.one (.own 5 0 1)) (.cons 1 (.one (.own 6 0 1)) .nil))))))) true)),(1,(.cells x4.length (.rI .i64 x4) true)),(2,(.cells x5.length (.rI .i64 x5) true)),(3,(.cells x6.length (.rI .i64 x6) true)),(4,(.cells x7.length (.rI .i64 x7) true)),(5,(.cells x8.length (.rI .i64 x8) true)),(6,(.cells x9.length (.rI .i64 x9) true))],next := 7,nt := 40,m := 0 }
def ef25wj_l5016 : Ty86 → St := fun (t13,t14,t15,x4,x5,x6,x7,x8,x9) => { tmps := [(5,(.own 0 0 1)),(13,(.vs (.rI .i64 t13) 0 1)),(14,(.int .i64 t14)),(15,(.int .i64 t15))],heap := [(0,(.cells 6 (.segs (.cons 1 (.one (.own 1 0 1)) (.cons 1 (.one (.own 2 0 1)) (.cons 1 (.one (.own 3 0 1)) (.cons 1 (.one (.own 4 0 1)) (.cons 1 (.one (.own 5 0 1)) (.cons 1 (.one (.own 6 0 1)) .nil))))))) true)),(1,(.cells x4.length (.rI .i64 x4) true)),(2,(.cells x5.length (.rI .i64 x5) true)),(3,(.cells x6.length (.rI .i64 x6) true)),(4,(.cells x7.length (.rI .i64 x7) true)),(5,(.cells x8.length (.rI .i64 x8) true)),(6,(.cells x9.length (.rI .i64 x9) true))],next := 7,nt := 40,m := 0 }
def ef25wj_j10003 : Ty3 → St := fun (x1,x2,x3,x4,x5,x6) => { tmps := [(5,(.own 0 0 1))],heap := [(0,(.cells 6 (.segs (.cons 1 (.one (.own 1 0 1)) (.cons 1 (.one (.own 2 0 1)) (.cons 1 (.one (.own 3 0 1)) (.cons 1 (.one (.own 4 0 1)) (.cons 1 (.one (.own 5 0 1)) (.cons 1 (.one (.own 6 0 1)) .nil))))))) true)),(1,(.cells x1.length (.rI .i64 x1) true)),(2,(.cells x2.length (.rI .i64 x2) true)),(3,(.cells x3.length (.rI .i64 x3) true)),(4,(.cells x4.length (.rI .i64 x4) true)),(5,(.cells x5.length (.rI .i64 x5) true)),(6,(.cells x6.length (.rI .i64 x6) true))],next := 7,nt := 40,m := 0 }
def f25wj_n0 (F : Nat) (kf25wj_j1034 : (List Int) → Rz) : (List Int) → Rz := fun a0 => (kf25wj_j1034 a0)
theorem f25wj_n0_eq (F : Nat) (Rf25wj_j1034 : St → Rz) : ∀ v,aexec VG3825w (Af25wj F) (bp Try.f25 2) (ef25wj_a v) (kSeq (kc VG3825w Rf25wj_j1034 [(0,.plain),(1,.plain)]) (kFin VG3825w (some [(4,(.lists .i64 22))]) (Try.f25).results.toList)) = f25wj_n0 F (Rf25wj_j1034 ∘ ef25wj_j1034) v := by
  intro a0; kernel_rfl
def f25wj_n10 (F : Nat) (kf25wj_j3026 : (List Int) → Rz) : (List Int) → Rz := fun t0 => (kf25wj_j3026 t0)
theorem f25wj_n10_eq (F : Nat) (Rf25wj_j3026 : St → Rz) : ∀ v,aexec VG3825w (Af25wj F) (bp Try.f25 6) (ef25wj_j1034 v) (kSeq (kc VG3825w Rf25wj_j3026 [(0,.plain),(1,.plain)]) (kFin VG3825w (some [(4,(.lists .i64 22))]) (Try.f25).results.toList)) = f25wj_n10 F (Rf25wj_j3026 ∘ ef25wj_j3026) v := by
  intro t0; kernel_rfl
def f25wj_n110 (F : Nat) (kf25wj_j4024 : Ty85 → Rz) : (List Int) → Rz := fun t0 => (kf25wj_j4024 (t0,[],[],[],[],[],[]))
theorem f25wj_n110_eq (F : Nat) (Rf25wj_j4024 : St → Rz) : ∀ v,aexec VG3825w (Af25wj F) (bp Try.f25 14) (ef25wj_j3026 v) (kSeq (kc VG3825w Rf25wj_j4024 [(0,.plain),(5,.plain)]) (kFin VG3825w (some [(4,(.lists .i64 22))]) (Try.f25).results.toList)) = f25wj_n110 F (Rf25wj_j4024 ∘ ef25wj_j4024) v := by
  intro t0; kernel_rfl
def f25wj_n11100 (F : Nat) (kf25wj_j5018 : Ty86 → Rz) (kf25wj_j10003 : Ty3 → Rz) : Ty85 → Rz := fun (t0,x2,x3,x4,x5,x6,x7) => (kf25wj_j5018 (t0,(↑t0.length : Int),(0 : Int),x2,x3,x4,x5,x6,x7))
theorem f25wj_n11100_eq (F : Nat) (Rf25wj_j5018 : St → Rz) (Rf25wj_j10003 : St → Rz) : ∀ v,aexec VG3825w (Af25wj F) (bp Try.f25 60) (ef25wj_j4024 v) (kSeq (kc VG3825w Rf25wj_j5018 sp59) (kSeq (kc VG3825w Rf25wj_j10003 [(5,.plain)]) (kFin VG3825w (some [(4,(.lists .i64 22))]) (Try.f25).results.toList))) = f25wj_n11100 F (Rf25wj_j5018 ∘ ef25wj_j5018) (Rf25wj_j10003 ∘ ef25wj_j10003) v := by
  rintro ⟨t0,x2,x3,x4,x5,x6,x7⟩; kernel_rfl
def f25wj_n1110100 (F : Nat) (kf25wj_l5016 : Ty86 → Rz) (kf25wj_j10003 : Ty3 → Rz) : Ty86 → Rz := fun (t13,t14,t15,x4,x5,x6,x7,x8,x9) => (cond (decide (t15 < t14)) (cond ((decide (0 ≤ t15)) && (decide (t15 < (↑t13.length : Int)))) (cond (decide ((t13.getD (Int.toNat t15) 0) ≥ (0 : Int))) (cond (decide ((t13.getD (Int.toNat t15) 0) < (6 : Int))) (cond (decide ((t13.getD (Int.toNat t15) 0) = (0 : Int))) (cond (decide ((x4.length + 1) < 1073741824)) (kf25wj_l5016 (t13,t14,(IntKind.i64.wrap (t15 + (1 : Int))),(x4 ++ [t15]),x5,x6,x7,x8,x9)) none) (cond (decide ((t13.getD (Int.toNat t15) 0) = (1 : Int))) (cond (decide ((x5.length + 1) < 1073741824)) (kf25wj_l5016 (t13,t14,(IntKind.i64.wrap (t15 + (1 : Int))),x4,(x5 ++ [t15]),x6,x7,x8,x9)) none) (cond (decide ((t13.getD (Int.toNat t15) 0) = (2 : Int))) (cond (decide ((x6.length + 1) < 1073741824)) (kf25wj_l5016 (t13,t14,(IntKind.i64.wrap (t15 + (1 : Int))),x4,x5,(x6 ++ [t15]),x7,x8,x9)) none) (cond (decide ((t13.getD (Int.toNat t15) 0) = (3 : Int))) (cond (decide ((x7.length + 1) < 1073741824)) (kf25wj_l5016 (t13,t14,(IntKind.i64.wrap (t15 + (1 : Int))),x4,x5,x6,(x7 ++ [t15]),x8,x9)) none) (cond (decide ((t13.getD (Int.toNat t15) 0) = (4 : Int))) (cond (decide ((x8.length + 1) < 1073741824)) (kf25wj_l5016 (t13,t14,(IntKind.i64.wrap (t15 + (1 : Int))),x4,x5,x6,x7,(x8 ++ [t15]),x9)) none) (cond (decide ((t13.getD (Int.toNat t15) 0) = (5 : Int))) (cond (decide ((x9.length + 1) < 1073741824)) (kf25wj_l5016 (t13,t14,(IntKind.i64.wrap (t15 + (1 : Int))),x4,x5,x6,x7,x8,(x9 ++ [t15]))) none) none)))))) (kf25wj_l5016 (t13,t14,(IntKind.i64.wrap (t15 + (1 : Int))),x4,x5,x6,x7,x8,x9))) (kf25wj_l5016 (t13,t14,(IntKind.i64.wrap (t15 + (1 : Int))),x4,x5,x6,x7,x8,x9))) none) (kf25wj_j10003 (x4,x5,x6,x7,x8,x9)))
theorem f25wj_n1110100_eq (F : Nat) (Rf25wj_l5016 : St → Rz) (Rf25wj_j10003 : St → Rz) : ∀ v,aexec VG3825w (Af25wj F) (bp Try.f25 244) (ef25wj_l5016 v) (kSeq (kc VG3825w Rf25wj_l5016 sp59) (kBlock 0 (kSeq (kc VG3825w Rf25wj_j10003 [(5,.plain)]) (kFin VG3825w (some [(4,(.lists .i64 22))]) (Try.f25).results.toList)))) = f25wj_n1110100 F (Rf25wj_l5016 ∘ ef25wj_l5016) (Rf25wj_j10003 ∘ ef25wj_j10003) v := by
  rintro ⟨t13,t14,t15,x4,x5,x6,x7,x8,x9⟩; kernel_rfl
def f25wj_n111010_i : Ty86 → (List Int) × Int × Int × (List Int) × (List Int) × (List Int) × (List Int) × (List Int) × (List Int) := fun (t13,t14,t15,x4,x5,x6,x7,x8,x9) => (t13,t14,t15,x4,x5,x6,x7,x8,x9)
def f25wj_n111010 (F : Nat) (kf25wj_j10003 : Ty3 → Rz) : Ty86 → Rz := fun v => loopN (fun k => f25wj_n1110100 F k kf25wj_j10003) F (f25wj_n111010_i v)
theorem f25wj_n111010_eq (F : Nat) (Rf25wj_j10003 : St → Rz) : ∀ v,aexec VG3825w (Af25wj F) (bp Try.f25 122) (ef25wj_j5018 v) (kBlock 0 (kSeq (kc VG3825w Rf25wj_j10003 [(5,.plain)]) (kFin VG3825w (some [(4,(.lists .i64 22))]) (Try.f25).results.toList))) = f25wj_n111010 F (Rf25wj_j10003 ∘ ef25wj_j10003) v :=
  loop_cut (by kernel_rfl) (by kernel_rfl) ef25wj_j5018 ef25wj_l5016 _ f25wj_n111010_i (fun k => f25wj_n1110100 F k (Rf25wj_j10003 ∘ ef25wj_j10003))
    (by rintro ⟨t13,t14,t15,x4,x5,x6,x7,x8,x9⟩; kernel_rfl) (fun Rf25wj_l5016 => f25wj_n1110100_eq F Rf25wj_l5016 Rf25wj_j10003)
def f25wj_n11101 (F : Nat) (kf25wj_j10003 : Ty3 → Rz) : Ty86 → Rz := f25wj_n111010 F kf25wj_j10003
theorem f25wj_n11101_eq (F : Nat) (Rf25wj_j10003 : St → Rz) : ∀ v,aexec VG3825w (Af25wj F) (bp Try.f25 61) (ef25wj_j5018 v) (kSeq (kc VG3825w Rf25wj_j10003 [(5,.plain)]) (kFin VG3825w (some [(4,(.lists .i64 22))]) (Try.f25).results.toList)) = f25wj_n11101 F (Rf25wj_j10003 ∘ ef25wj_j10003) v := fun v =>
  (block_in  (by kernel_rfl) _ _).trans (f25wj_n111010_eq F Rf25wj_j10003 v)
def f25wj_n1110 (F : Nat) (kf25wj_j10003 : Ty3 → Rz) : Ty85 → Rz := fun v => f25wj_n11100 F (f25wj_n11101 F kf25wj_j10003) kf25wj_j10003 v
theorem f25wj_n1110_eq (F : Nat) (Rf25wj_j10003 : St → Rz) : ∀ v,aexec VG3825w (Af25wj F) (bp Try.f25 30) (ef25wj_j4024 v) (kSeq (kc VG3825w Rf25wj_j10003 [(5,.plain)]) (kFin VG3825w (some [(4,(.lists .i64 22))]) (Try.f25).results.toList)) = f25wj_n1110 F (Rf25wj_j10003 ∘ ef25wj_j10003) v :=
  seq_cut (by kernel_rfl) (by kernel_rfl) ef25wj_j4024 ef25wj_j5018 _ (fun k => f25wj_n11100 F k (Rf25wj_j10003 ∘ ef25wj_j10003)) (f25wj_n11101 F (Rf25wj_j10003 ∘ ef25wj_j10003))
    (fun Rf25wj_j5018 => f25wj_n11100_eq F Rf25wj_j5018 Rf25wj_j10003) (f25wj_n11101_eq F Rf25wj_j10003)
def f25wj_n1111 (F : Nat) : Ty3 → Rz := fun (x1,x2,x3,x4,x5,x6) => (some ((.own 0 0 1),[(.cells 6 (.rL .i64 [x1,x2,x3,x4,x5,x6]) true)]))
theorem f25wj_n1111_eq (F : Nat) : ∀ v,aexec VG3825w (Af25wj F) (bp Try.f25 31) (ef25wj_j10003 v) (kFin VG3825w (some [(4,(.lists .i64 22))]) (Try.f25).results.toList) = f25wj_n1111 F v := by
  rintro ⟨x1,x2,x3,x4,x5,x6⟩; kernel_rfl
def f25wj_n111 (F : Nat) : Ty85 → Rz := fun v => f25wj_n1110 F (f25wj_n1111 F) v
theorem f25wj_n111_eq (F : Nat) : ∀ v,aexec VG3825w (Af25wj F) (bp Try.f25 15) (ef25wj_j4024 v) (kFin VG3825w (some [(4,(.lists .i64 22))]) (Try.f25).results.toList) = f25wj_n111 F v :=
  seq_cut (by kernel_rfl) (by kernel_rfl) ef25wj_j4024 ef25wj_j10003 _ (fun k => f25wj_n1110 F k) (f25wj_n1111 F)
    (fun Rf25wj_j10003 => f25wj_n1110_eq F Rf25wj_j10003) (f25wj_n1111_eq F)
def f25wj_n11 (F : Nat) : (List Int) → Rz := fun v => f25wj_n110 F (f25wj_n111 F) v
theorem f25wj_n11_eq (F : Nat) : ∀ v,aexec VG3825w (Af25wj F) (bp Try.f25 7) (ef25wj_j3026 v) (kFin VG3825w (some [(4,(.lists .i64 22))]) (Try.f25).results.toList) = f25wj_n11 F v :=
  seq_cut (by kernel_rfl) (by kernel_rfl) ef25wj_j3026 ef25wj_j4024 _ (fun k => f25wj_n110 F k) (f25wj_n111 F)
    (fun Rf25wj_j4024 => f25wj_n110_eq F Rf25wj_j4024) (f25wj_n111_eq F)
def f25wj_n1 (F : Nat) : (List Int) → Rz := fun v => f25wj_n10 F (f25wj_n11 F) v
theorem f25wj_n1_eq (F : Nat) : ∀ v,aexec VG3825w (Af25wj F) (bp Try.f25 3) (ef25wj_j1034 v) (kFin VG3825w (some [(4,(.lists .i64 22))]) (Try.f25).results.toList) = f25wj_n1 F v :=
  seq_cut (by kernel_rfl) (by kernel_rfl) ef25wj_j1034 ef25wj_j3026 _ (fun k => f25wj_n10 F k) (f25wj_n11 F)
    (fun Rf25wj_j3026 => f25wj_n10_eq F Rf25wj_j3026) (f25wj_n11_eq F)
def f25wj_nt (F : Nat) : (List Int) → Rz := fun v => f25wj_n0 F (f25wj_n1 F) v
theorem f25wj_nt_eq (F : Nat) : ∀ v,aexec VG3825w (Af25wj F) (sub (bodyOf Try.f25) []) (ef25wj_a v) (kFin VG3825w (some [(4,(.lists .i64 22))]) (Try.f25).results.toList) = f25wj_nt F v :=
  seq_cut (by kernel_rfl) (by kernel_rfl) ef25wj_a ef25wj_j1034 _ (fun k => f25wj_n0 F k) (f25wj_n1 F)
    (fun Rf25wj_j1034 => f25wj_n0_eq F Rf25wj_j1034) (f25wj_n1_eq F)
def f25wj (F : Nat) : (List Int) → Rz := f25wj_nt F
theorem f25wj_body (F : Nat) (a0 : List Int) : abody VG3825w (Af25wj F) Try.f25 [(.vs (.rI .i64 a0) 0 1),(.int .i64 (8 : Int))] [] = f25wj F a0 :=
  (abody_in (c := (sub (bodyOf Try.f25) [])) (by kernel_rfl) (s := ef25wj_a a0) (by kernel_rfl)).trans (f25wj_nt_eq F a0)
theorem s25wa (a0 : List Int) (hp : ((decide (a0.length < 1073741000))) = true) (h0 : okV (.vs (.rI .i64 a0) 0 1)) (h1 : okV (.int .i64 (-1 : Int))) : ∃ F,f25wa F a0 = some ((.own 0 0 1),[(.cells (Reg.shares a0 (-1 : Int)).length (.rL .i64 (Reg.shares a0 (-1 : Int))) true)]) := ⟨0,rfl⟩
theorem s25wb (a0 : List Int) (hp : ((decide (a0.length < 1073741000))) = true) (h0 : okV (.vs (.rI .i64 a0) 0 1)) (h1 : okV (.int .i64 (0 : Int))) : ∃ F,f25wb F a0 = some ((.own 0 0 1),[(.cells (Reg.shares a0 (0 : Int)).length (.rL .i64 (Reg.shares a0 (0 : Int))) true)]) := ⟨0,rfl⟩
theorem s25wc (a0 : List Int) (hp : ((decide (a0.length < 1073741000))) = true) (h0 : okV (.vs (.rI .i64 a0) 0 1)) (h1 : okV (.int .i64 (1 : Int))) : ∃ F,f25wc F a0 = some ((.own 0 0 1),[(.cells (Reg.shares a0 (1 : Int)).length (.rL .i64 (Reg.shares a0 (1 : Int))) true)]) := by
  simp only [decide_eq_true_eq] at hp
  refine ⟨a0.length + 1,?_⟩
  simp only [f25wc,f25wc_nt,f25wc_n0,f25wc_n1,f25wc_n10,f25wc_n11,f25wc_n110,f25wc_n111,f25wc_n1110,f25wc_n11100,f25wc_n11101,f25wc_n111010,f25wc_n111010_i]
  refine loopN_from (fun i => (a0,(a0.length : Int),(i : Int),Reg.ohTo a0 0 i)) a0.length (by rfl) (fun i hi k => ?_) (fun k => ?_) _ (by omega)
  · simp only [f25wc_n1110100,dec_and,Reg.ohTo_succ]
    have l0 := Reg.ohTo_len_le a0 0 i
    rw [cond_pos (by omega),cond_pos (by omega),Int.toNat_natCast,i64w (by omega) (by omega)]
    generalize a0.getD i 0 = q
    by_cases h3 : q ≥ 0
    · rw [cond_pos h3]
      by_cases h4 : q < 1
      · rw [cond_pos h4]
        have q0 : q = 0 := by omega
        subst q0; rw [cond_pos rfl]; rw [cond_pos (by omega)]; simp
      · rw [cond_neg h4,if_neg (by omega)]; simp
    · rw [cond_neg h3,if_neg (by omega)]; simp
  · simp only [f25wc_n1110100,f25wc_n1111]
    rw [cond_neg (by omega)]
    rfl
theorem s25wd (a0 : List Int) (hp : ((decide (a0.length < 1073741000))) = true) (h0 : okV (.vs (.rI .i64 a0) 0 1)) (h1 : okV (.int .i64 (2 : Int))) : ∃ F,f25wd F a0 = some ((.own 0 0 1),[(.cells (Reg.shares a0 (2 : Int)).length (.rL .i64 (Reg.shares a0 (2 : Int))) true)]) := by
  simp only [decide_eq_true_eq] at hp
  refine ⟨a0.length + 1,?_⟩
  simp only [f25wd,f25wd_nt,f25wd_n0,f25wd_n1,f25wd_n10,f25wd_n11,f25wd_n110,f25wd_n111,f25wd_n1110,f25wd_n11100,f25wd_n11101,f25wd_n111010,f25wd_n111010_i]
  refine loopN_from (fun i => (a0,(a0.length : Int),(i : Int),Reg.ohTo a0 0 i,Reg.ohTo a0 1 i)) a0.length (by rfl) (fun i hi k => ?_) (fun k => ?_) _ (by omega)
  · simp only [f25wd_n1110100,dec_and,Reg.ohTo_succ]
    have l0 := Reg.ohTo_len_le a0 0 i
    have l1 := Reg.ohTo_len_le a0 1 i
    rw [cond_pos (by omega),cond_pos (by omega),Int.toNat_natCast,i64w (by omega) (by omega)]
    generalize a0.getD i 0 = q
    by_cases h3 : q ≥ 0
    · rw [cond_pos h3]
      by_cases h4 : q < 2
      · rw [cond_pos h4]
        by_cases q0 : q = 0
        · subst q0; rw [cond_pos rfl,cond_pos (by omega)]; simp
        rw [cond_neg q0]
        have q1 : q = 1 := by omega
        subst q1; rw [cond_pos rfl]; rw [cond_pos (by omega)]; simp
      · rw [cond_neg h4,if_neg (by omega),if_neg (by omega)]; simp
    · rw [cond_neg h3,if_neg (by omega),if_neg (by omega)]; simp
  · simp only [f25wd_n1110100,f25wd_n1111]
    rw [cond_neg (by omega)]
    rfl
theorem s25we (a0 : List Int) (hp : ((decide (a0.length < 1073741000))) = true) (h0 : okV (.vs (.rI .i64 a0) 0 1)) (h1 : okV (.int .i64 (3 : Int))) : ∃ F,f25we F a0 = some ((.own 0 0 1),[(.cells (Reg.shares a0 (3 : Int)).length (.rL .i64 (Reg.shares a0 (3 : Int))) true)]) := by
  simp only [decide_eq_true_eq] at hp
  refine ⟨a0.length + 1,?_⟩
  simp only [f25we,f25we_nt,f25we_n0,f25we_n1,f25we_n10,f25we_n11,f25we_n110,f25we_n111,f25we_n1110,f25we_n11100,f25we_n11101,f25we_n111010,f25we_n111010_i]
  refine loopN_from (fun i => (a0,(a0.length : Int),(i : Int),Reg.ohTo a0 0 i,Reg.ohTo a0 1 i,Reg.ohTo a0 2 i)) a0.length (by rfl) (fun i hi k => ?_) (fun k => ?_) _ (by omega)
  · simp only [f25we_n1110100,dec_and,Reg.ohTo_succ]
    have l0 := Reg.ohTo_len_le a0 0 i
    have l1 := Reg.ohTo_len_le a0 1 i
    have l2 := Reg.ohTo_len_le a0 2 i
    rw [cond_pos (by omega),cond_pos (by omega),Int.toNat_natCast,i64w (by omega) (by omega)]
    generalize a0.getD i 0 = q
    by_cases h3 : q ≥ 0
    · rw [cond_pos h3]
      by_cases h4 : q < 3
      · rw [cond_pos h4]
        by_cases q0 : q = 0
        · subst q0; rw [cond_pos rfl,cond_pos (by omega)]; simp
        rw [cond_neg q0]
        by_cases q1 : q = 1
        · subst q1; rw [cond_pos rfl,cond_pos (by omega)]; simp
        rw [cond_neg q1]
        have q2 : q = 2 := by omega
        subst q2; rw [cond_pos rfl]; rw [cond_pos (by omega)]; simp
      · rw [cond_neg h4,if_neg (by omega),if_neg (by omega),if_neg (by omega)]; simp
    · rw [cond_neg h3,if_neg (by omega),if_neg (by omega),if_neg (by omega)]; simp
  · simp only [f25we_n1110100,f25we_n1111]
    rw [cond_neg (by omega)]
    rfl
theorem s25wf (a0 : List Int) (hp : ((decide (a0.length < 1073741000))) = true) (h0 : okV (.vs (.rI .i64 a0) 0 1)) (h1 : okV (.int .i64 (4 : Int))) : ∃ F,f25wf F a0 = some ((.own 0 0 1),[(.cells (Reg.shares a0 (4 : Int)).length (.rL .i64 (Reg.shares a0 (4 : Int))) true)]) := by
  simp only [decide_eq_true_eq] at hp
  refine ⟨a0.length + 1,?_⟩
  simp only [f25wf,f25wf_nt,f25wf_n0,f25wf_n1,f25wf_n10,f25wf_n11,f25wf_n110,f25wf_n111,f25wf_n1110,f25wf_n11100,f25wf_n11101,f25wf_n111010,f25wf_n111010_i]
  refine loopN_from (fun i => (a0,(a0.length : Int),(i : Int),Reg.ohTo a0 0 i,Reg.ohTo a0 1 i,Reg.ohTo a0 2 i,Reg.ohTo a0 3 i)) a0.length (by rfl) (fun i hi k => ?_) (fun k => ?_) _ (by omega)
  · simp only [f25wf_n1110100,dec_and,Reg.ohTo_succ]
    have l0 := Reg.ohTo_len_le a0 0 i
    have l1 := Reg.ohTo_len_le a0 1 i
    have l2 := Reg.ohTo_len_le a0 2 i
    have l3 := Reg.ohTo_len_le a0 3 i
    rw [cond_pos (by omega),cond_pos (by omega),Int.toNat_natCast,i64w (by omega) (by omega)]
    generalize a0.getD i 0 = q
    by_cases h3 : q ≥ 0
    · rw [cond_pos h3]
      by_cases h4 : q < 4
      · rw [cond_pos h4]
        by_cases q0 : q = 0
        · subst q0; rw [cond_pos rfl,cond_pos (by omega)]; simp
        rw [cond_neg q0]
        by_cases q1 : q = 1
        · subst q1; rw [cond_pos rfl,cond_pos (by omega)]; simp
        rw [cond_neg q1]
        by_cases q2 : q = 2
        · subst q2; rw [cond_pos rfl,cond_pos (by omega)]; simp
        rw [cond_neg q2]
        have q3 : q = 3 := by omega
        subst q3; rw [cond_pos rfl]; rw [cond_pos (by omega)]; simp
      · rw [cond_neg h4,if_neg (by omega),if_neg (by omega),if_neg (by omega),if_neg (by omega)]; simp
    · rw [cond_neg h3,if_neg (by omega),if_neg (by omega),if_neg (by omega),if_neg (by omega)]; simp
  · simp only [f25wf_n1110100,f25wf_n1111]
    rw [cond_neg (by omega)]
    rfl
theorem s25wg (a0 : List Int) (hp : ((decide (a0.length < 1073741000))) = true) (h0 : okV (.vs (.rI .i64 a0) 0 1)) (h1 : okV (.int .i64 (5 : Int))) : ∃ F,f25wg F a0 = some ((.own 0 0 1),[(.cells (Reg.shares a0 (5 : Int)).length (.rL .i64 (Reg.shares a0 (5 : Int))) true)]) := by
  simp only [decide_eq_true_eq] at hp
  refine ⟨a0.length + 1,?_⟩
  simp only [f25wg,f25wg_nt,f25wg_n0,f25wg_n1,f25wg_n10,f25wg_n11,f25wg_n110,f25wg_n111,f25wg_n1110,f25wg_n11100,f25wg_n11101,f25wg_n111010,f25wg_n111010_i]
  refine loopN_from (fun i => (a0,(a0.length : Int),(i : Int),Reg.ohTo a0 0 i,Reg.ohTo a0 1 i,Reg.ohTo a0 2 i,Reg.ohTo a0 3 i,Reg.ohTo a0 4 i)) a0.length (by rfl) (fun i hi k => ?_) (fun k => ?_) _ (by omega)
  · simp only [f25wg_n1110100,dec_and,Reg.ohTo_succ]
    have l0 := Reg.ohTo_len_le a0 0 i
    have l1 := Reg.ohTo_len_le a0 1 i
    have l2 := Reg.ohTo_len_le a0 2 i
    have l3 := Reg.ohTo_len_le a0 3 i
    have l4 := Reg.ohTo_len_le a0 4 i
    rw [cond_pos (by omega),cond_pos (by omega),Int.toNat_natCast,i64w (by omega) (by omega)]
    generalize a0.getD i 0 = q
    by_cases h3 : q ≥ 0
    · rw [cond_pos h3]
      by_cases h4 : q < 5
      · rw [cond_pos h4]
        by_cases q0 : q = 0
        · subst q0; rw [cond_pos rfl,cond_pos (by omega)]; simp
        rw [cond_neg q0]
        by_cases q1 : q = 1
        · subst q1; rw [cond_pos rfl,cond_pos (by omega)]; simp
        rw [cond_neg q1]
        by_cases q2 : q = 2
        · subst q2; rw [cond_pos rfl,cond_pos (by omega)]; simp
        rw [cond_neg q2]
        by_cases q3 : q = 3
        · subst q3; rw [cond_pos rfl,cond_pos (by omega)]; simp
        rw [cond_neg q3]
        have q4 : q = 4 := by omega
        subst q4; rw [cond_pos rfl]; rw [cond_pos (by omega)]; simp
      · rw [cond_neg h4,if_neg (by omega),if_neg (by omega),if_neg (by omega),if_neg (by omega),if_neg (by omega)]; simp
    · rw [cond_neg h3,if_neg (by omega),if_neg (by omega),if_neg (by omega),if_neg (by omega),if_neg (by omega)]; simp
  · simp only [f25wg_n1110100,f25wg_n1111]
    rw [cond_neg (by omega)]
    rfl
theorem s25wh (a0 : List Int) (hp : ((decide (a0.length < 1073741000))) = true) (h0 : okV (.vs (.rI .i64 a0) 0 1)) (h1 : okV (.int .i64 (6 : Int))) : ∃ F,f25wh F a0 = some ((.own 0 0 1),[(.cells (Reg.shares a0 (6 : Int)).length (.rL .i64 (Reg.shares a0 (6 : Int))) true)]) := by
  simp only [decide_eq_true_eq] at hp
  refine ⟨a0.length + 1,?_⟩
  simp only [f25wh,f25wh_nt,f25wh_n0,f25wh_n1,f25wh_n10,f25wh_n11,f25wh_n110,f25wh_n111,f25wh_n1110,f25wh_n11100,f25wh_n11101,f25wh_n111010,f25wh_n111010_i]
  refine loopN_from (fun i => (a0,(a0.length : Int),(i : Int),Reg.ohTo a0 0 i,Reg.ohTo a0 1 i,Reg.ohTo a0 2 i,Reg.ohTo a0 3 i,Reg.ohTo a0 4 i,Reg.ohTo a0 5 i)) a0.length (by rfl) (fun i hi k => ?_) (fun k => ?_) _ (by omega)
  · simp only [f25wh_n1110100,dec_and,Reg.ohTo_succ]
    have l0 := Reg.ohTo_len_le a0 0 i
    have l1 := Reg.ohTo_len_le a0 1 i
    have l2 := Reg.ohTo_len_le a0 2 i
    have l3 := Reg.ohTo_len_le a0 3 i
    have l4 := Reg.ohTo_len_le a0 4 i
    have l5 := Reg.ohTo_len_le a0 5 i
    rw [cond_pos (by omega),cond_pos (by omega),Int.toNat_natCast,i64w (by omega) (by omega)]
    generalize a0.getD i 0 = q
    by_cases h3 : q ≥ 0
    · rw [cond_pos h3]
      by_cases h4 : q < 6
      · rw [cond_pos h4]
        by_cases q0 : q = 0
        · subst q0; rw [cond_pos rfl,cond_pos (by omega)]; simp
        rw [cond_neg q0]
        by_cases q1 : q = 1
        · subst q1; rw [cond_pos rfl,cond_pos (by omega)]; simp
        rw [cond_neg q1]
        by_cases q2 : q = 2
        · subst q2; rw [cond_pos rfl,cond_pos (by omega)]; simp
        rw [cond_neg q2]
        by_cases q3 : q = 3
        · subst q3; rw [cond_pos rfl,cond_pos (by omega)]; simp
        rw [cond_neg q3]
        by_cases q4 : q = 4
        · subst q4; rw [cond_pos rfl,cond_pos (by omega)]; simp
        rw [cond_neg q4]
        have q5 : q = 5 := by omega
        subst q5; rw [cond_pos rfl]; rw [cond_pos (by omega)]; simp
      · rw [cond_neg h4,if_neg (by omega),if_neg (by omega),if_neg (by omega),if_neg (by omega),if_neg (by omega),if_neg (by omega)]; simp
    · rw [cond_neg h3,if_neg (by omega),if_neg (by omega),if_neg (by omega),if_neg (by omega),if_neg (by omega),if_neg (by omega)]; simp
  · simp only [f25wh_n1110100,f25wh_n1111]
    rw [cond_neg (by omega)]
    rfl
theorem s25wi (a0 : List Int) (hp : ((decide (a0.length < 1073741000))) = true) (h0 : okV (.vs (.rI .i64 a0) 0 1)) (h1 : okV (.int .i64 (7 : Int))) : ∃ F,f25wi F a0 = some ((.own 0 0 1),[(.cells (Reg.shares a0 (7 : Int)).length (.rL .i64 (Reg.shares a0 (7 : Int))) true)]) := by
  simp only [decide_eq_true_eq] at hp
  refine ⟨a0.length + 1,?_⟩
  simp only [f25wi,f25wi_nt,f25wi_n0,f25wi_n1,f25wi_n10,f25wi_n11,f25wi_n110,f25wi_n111,f25wi_n1110,f25wi_n11100,f25wi_n11101,f25wi_n111010,f25wi_n111010_i]
  refine loopN_from (fun i => (a0,(a0.length : Int),(i : Int),Reg.ohTo a0 0 i,Reg.ohTo a0 1 i,Reg.ohTo a0 2 i,Reg.ohTo a0 3 i,Reg.ohTo a0 4 i,Reg.ohTo a0 5 i)) a0.length (by rfl) (fun i hi k => ?_) (fun k => ?_) _ (by omega)
  · simp only [f25wi_n1110100,dec_and,Reg.ohTo_succ]
    have l0 := Reg.ohTo_len_le a0 0 i
    have l1 := Reg.ohTo_len_le a0 1 i
    have l2 := Reg.ohTo_len_le a0 2 i
    have l3 := Reg.ohTo_len_le a0 3 i
    have l4 := Reg.ohTo_len_le a0 4 i
    have l5 := Reg.ohTo_len_le a0 5 i
    rw [cond_pos (by omega),cond_pos (by omega),Int.toNat_natCast,i64w (by omega) (by omega)]
    generalize a0.getD i 0 = q
    by_cases h3 : q ≥ 0
    · rw [cond_pos h3]
      by_cases h4 : q < 6
      · rw [cond_pos h4]
        by_cases q0 : q = 0
        · subst q0; rw [cond_pos rfl,cond_pos (by omega)]; simp
        rw [cond_neg q0]
        by_cases q1 : q = 1
        · subst q1; rw [cond_pos rfl,cond_pos (by omega)]; simp
        rw [cond_neg q1]
        by_cases q2 : q = 2
        · subst q2; rw [cond_pos rfl,cond_pos (by omega)]; simp
        rw [cond_neg q2]
        by_cases q3 : q = 3
        · subst q3; rw [cond_pos rfl,cond_pos (by omega)]; simp
        rw [cond_neg q3]
        by_cases q4 : q = 4
        · subst q4; rw [cond_pos rfl,cond_pos (by omega)]; simp
        rw [cond_neg q4]
        have q5 : q = 5 := by omega
        subst q5; rw [cond_pos rfl]; rw [cond_pos (by omega)]; simp
      · rw [cond_neg h4,if_neg (by omega),if_neg (by omega),if_neg (by omega),if_neg (by omega),if_neg (by omega),if_neg (by omega)]; simp
    · rw [cond_neg h3,if_neg (by omega),if_neg (by omega),if_neg (by omega),if_neg (by omega),if_neg (by omega),if_neg (by omega)]; simp
  · simp only [f25wi_n1110100,f25wi_n1111]
    rw [cond_neg (by omega)]
    rfl
theorem s25wj (a0 : List Int) (hp : ((decide (a0.length < 1073741000))) = true) (h0 : okV (.vs (.rI .i64 a0) 0 1)) (h1 : okV (.int .i64 (8 : Int))) : ∃ F,f25wj F a0 = some ((.own 0 0 1),[(.cells (Reg.shares a0 (8 : Int)).length (.rL .i64 (Reg.shares a0 (8 : Int))) true)]) := by
  simp only [decide_eq_true_eq] at hp
  refine ⟨a0.length + 1,?_⟩
  simp only [f25wj,f25wj_nt,f25wj_n0,f25wj_n1,f25wj_n10,f25wj_n11,f25wj_n110,f25wj_n111,f25wj_n1110,f25wj_n11100,f25wj_n11101,f25wj_n111010,f25wj_n111010_i]
  refine loopN_from (fun i => (a0,(a0.length : Int),(i : Int),Reg.ohTo a0 0 i,Reg.ohTo a0 1 i,Reg.ohTo a0 2 i,Reg.ohTo a0 3 i,Reg.ohTo a0 4 i,Reg.ohTo a0 5 i)) a0.length (by rfl) (fun i hi k => ?_) (fun k => ?_) _ (by omega)
  · simp only [f25wj_n1110100,dec_and,Reg.ohTo_succ]
    have l0 := Reg.ohTo_len_le a0 0 i
    have l1 := Reg.ohTo_len_le a0 1 i
    have l2 := Reg.ohTo_len_le a0 2 i
    have l3 := Reg.ohTo_len_le a0 3 i
    have l4 := Reg.ohTo_len_le a0 4 i
    have l5 := Reg.ohTo_len_le a0 5 i
    rw [cond_pos (by omega),cond_pos (by omega),Int.toNat_natCast,i64w (by omega) (by omega)]
    generalize a0.getD i 0 = q
    by_cases h3 : q ≥ 0
    · rw [cond_pos h3]
      by_cases h4 : q < 6
      · rw [cond_pos h4]
        by_cases q0 : q = 0
        · subst q0; rw [cond_pos rfl,cond_pos (by omega)]; simp
        rw [cond_neg q0]
        by_cases q1 : q = 1
        · subst q1; rw [cond_pos rfl,cond_pos (by omega)]; simp
        rw [cond_neg q1]
        by_cases q2 : q = 2
        · subst q2; rw [cond_pos rfl,cond_pos (by omega)]; simp
        rw [cond_neg q2]
        by_cases q3 : q = 3
        · subst q3; rw [cond_pos rfl,cond_pos (by omega)]; simp
        rw [cond_neg q3]
        by_cases q4 : q = 4
        · subst q4; rw [cond_pos rfl,cond_pos (by omega)]; simp
        rw [cond_neg q4]
        have q5 : q = 5 := by omega
        subst q5; rw [cond_pos rfl]; rw [cond_pos (by omega)]; simp
      · rw [cond_neg h4,if_neg (by omega),if_neg (by omega),if_neg (by omega),if_neg (by omega),if_neg (by omega),if_neg (by omega)]; simp
    · rw [cond_neg h3,if_neg (by omega),if_neg (by omega),if_neg (by omega),if_neg (by omega),if_neg (by omega),if_neg (by omega)]; simp
  · simp only [f25wj_n1110100,f25wj_n1111]
    rw [cond_neg (by omega)]
    rfl
def r25l : CRun := fun X H => match X,H with
  | [(.vs (.rI .i64 a0) 0 1),(.int .i64 a1)],[] => some ((decide (a0.length < 1073741000)) && ((decide (-1 ≤ a1)) && (decide (a1 < 9))),.own 0 0 1,[(.cells (Reg.shares a0 a1).length (.rL .i64 (Reg.shares a0 a1)) true)])
  | _,_ => none
theorem c25l : CallOk Try.prog G38 25 r25l := callOk_of (V := VG3825w) mixed tys eVG3825w (f := 25) (fn := Try.f25) Try.func25 (by kernel_rfl) (c := sub (bodyOf Try.f25) []) (by kernel_rfl) (by
  intro X H r H' h hX hH
  unfold r25l at h; split at h <;> try contradiction
  · rename_i a0 a1
    simp only [Option.some.injEq,Prod.mk.injEq,Bool.and_eq_true,decide_eq_true_eq] at h
    obtain ⟨⟨h1,h2,h3⟩,rfl,rfl⟩ := h
    have hp := decide_eq_true h1
    have hc : a1 = -1 ∨ a1 = 0 ∨ a1 = 1 ∨ a1 = 2 ∨ a1 = 3 ∨ a1 = 4 ∨ a1 = 5 ∨ a1 = 6 ∨ a1 = 7 ∨ a1 = 8 := by omega
    rcases hc with rfl | rfl | rfl | rfl | rfl | rfl | rfl | rfl | rfl | rfl
    · obtain ⟨F,hF⟩ := s25wa _ hp (hX _ (.head _)) (hX _ (.tail _ (.head _)))
      exact ⟨Af25wa F,(f25wa_body F _).trans hF⟩
    · obtain ⟨F,hF⟩ := s25wb _ hp (hX _ (.head _)) (hX _ (.tail _ (.head _)))
      exact ⟨Af25wb F,(f25wb_body F _).trans hF⟩
    · obtain ⟨F,hF⟩ := s25wc _ hp (hX _ (.head _)) (hX _ (.tail _ (.head _)))
      exact ⟨Af25wc F,(f25wc_body F _).trans hF⟩
    · obtain ⟨F,hF⟩ := s25wd _ hp (hX _ (.head _)) (hX _ (.tail _ (.head _)))
      exact ⟨Af25wd F,(f25wd_body F _).trans hF⟩
    · obtain ⟨F,hF⟩ := s25we _ hp (hX _ (.head _)) (hX _ (.tail _ (.head _)))
      exact ⟨Af25we F,(f25we_body F _).trans hF⟩
    · obtain ⟨F,hF⟩ := s25wf _ hp (hX _ (.head _)) (hX _ (.tail _ (.head _)))
      exact ⟨Af25wf F,(f25wf_body F _).trans hF⟩
    · obtain ⟨F,hF⟩ := s25wg _ hp (hX _ (.head _)) (hX _ (.tail _ (.head _)))
      exact ⟨Af25wg F,(f25wg_body F _).trans hF⟩
    · obtain ⟨F,hF⟩ := s25wh _ hp (hX _ (.head _)) (hX _ (.tail _ (.head _)))
      exact ⟨Af25wh F,(f25wh_body F _).trans hF⟩
    · obtain ⟨F,hF⟩ := s25wi _ hp (hX _ (.head _)) (hX _ (.tail _ (.head _)))
      exact ⟨Af25wi F,(f25wi_body F _).trans hF⟩
    · obtain ⟨F,hF⟩ := s25wj _ hp (hX _ (.head _)) (hX _ (.tail _ (.head _)))
      exact ⟨Af25wj F,(f25wj_body F _).trans hF⟩)
end Go.Am
