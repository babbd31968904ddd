/- Part of a proof about the functions of the given program. -/
import Derived.Test.YtcafjaenmbhlnaaAm22D
import Derived.Test.YtcafjaenmbhlnaaAm22E
import Derived.Test.YtcafjaenmbhlnaaAm22A
import Derived.Test.YtcafjaenmbhlnaaAmIsl2
set_option linter.unusedSimpArgs false
set_option linter.unusedVariables false
section
namespace Go.Am
open Go Go.Proofs
abbrev sp29 : List (Nat × Md) := [(1,.plain),(5,.plain),(13,.plain),(14,.plain)]
abbrev sp30 : List (Nat × Md) := [(0,.plain),(1,.plain),(9,.plain)]
abbrev sp31 : List (Nat × Md) := [(1,.plain),(5,.plain),(13,.plain),(14,.plain),(15,.plain)]
abbrev sp32 : List (Nat × Md) := [(1,.plain),(5,.plain),(6,.plain),(7,.own 2),(17,.plain),(18,.plain),(19,.plain)]
abbrev sp33 : List (Nat × Md) := [(1,.plain),(5,.plain),(6,.plain)]
abbrev sp34 : List (Nat × Md) := [(1,.plain),(5,.plain),(6,.plain),(7,.plain)]
abbrev sp35 : List (Nat × Md) := [(1,.plain),(5,.plain),(6,.plain),(7,.plain),(17,.plain),(18,.plain),(19,.plain)]
abbrev Ty40 := Int × (List (List Int)) × Bool
abbrev Ty41 := (List (List Int)) × Int × Int × (List Int) × Nat
abbrev Ty42 := (List (List Int)) × Int × Int × Bool × (List Int) × Nat
abbrev Ty43 := (List (List Int)) × (List Int) × Int × Int × (List Int) × Nat
abbrev Ty44 := (List (List Int)) × (List Int) × Int
abbrev Ty45 := (List (List Int)) × (List Int) × Int × (List Int) × Int × Int
abbrev Ty46 := (List (List Int)) × (List Int) × Int × (List Int) × Int × Int × (List Int)
def lVG2224 : List CEnt := [(37,[some 3,some 22],r37),(45,[none],r45),(46,[none],r46)]
def VG2224 : Env := mkEnv T22 G22 lVG2224
theorem eVG2224 : EOk Try.prog VG2224 := eok_mk (by exact ⟨c37,c45,c46,trivial⟩)
def Af24 (F : Nat) : Cuts := { F := F,at_ := fun _ => none,join := fun _ => none,fin := (some [(4,(.own 22))]) }
def ef24_a : Int × (List (List Int)) → St := fun (a0,a1) => { tmps := [(0,(.int .i64 a0)),(1,(.vs (.rL .i64 a1) 0 1))],heap := [],next := 0,nt := 12,m := 0 }
def f24_1 (F : Nat) : Int × (List (List Int)) → Rz := fun (a0,a1) => (cond (!((decide (1 ≤ a0)) && (decide (a0 ≤ 4096)))) (some ((.own 0 0 1),[(.cells 0 (.rL .i64 []) true)])) (cond ((decide (0 ≤ a0)) && (decide (Int.toNat a0 < 1073741000))) (cond ((decide ((Isl.nums (Int.toNat a0)).length < 1073740000)) && (Isl.inc (Isl.nums (Int.toNat a0)))) (some ((.own 0 0 1),[(.cells (Isl.clss (Isl.nums (Int.toNat a0)) a1).length (.rL .i64 (Isl.clss (Isl.nums (Int.toNat a0)) a1)) true)])) none) none))
theorem f24_1_eq (F : Nat) : ∀ v,aexec VG2224 (Af24 F) (sub (bodyOf Try.f24) []) (ef24_a v) (kFin VG2224 (some [(4,(.own 22))]) (Try.f24).results.toList) = f24_1 F v := by
  rintro ⟨a0,a1⟩; kernel_rfl
def f24 (F : Nat) : Int × (List (List Int)) → Rz := f24_1 F
theorem f24_body (F : Nat) (a0 : Int) (a1 : List (List Int)) : abody VG2224 (Af24 F) Try.f24 [(.int .i64 a0),(.vs (.rL .i64 a1) 0 1)] [] = f24 F (a0,a1) :=
  (abody_in (c := (sub (bodyOf Try.f24) [])) (by kernel_rfl) (s := ef24_a (a0,a1)) (by kernel_rfl)).trans (f24_1_eq F (a0,a1))
def r24 : CRun := fun X H => match X,H with
  | [(.int .i64 a0),(.vs (.rL .i64 a1) 0 1)],[] => some (true,(.own 0 0 1),[(.cells (Isl.groups a0 a1).length (.rL .i64 (Isl.groups a0 a1)) true)])
  | _,_ => none
theorem s24 (a0 : Int) (a1 : List (List Int)) (h0 : okV (.int .i64 a0)) (h1 : okV (.vs (.rL .i64 a1) 0 1)) : ∃ F,f24 F (a0,a1) = some ((.own 0 0 1),[(.cells (Isl.groups a0 a1).length (.rL .i64 (Isl.groups a0 a1)) true)]) := by
  refine ⟨0,?_⟩
  simp only [f24,f24_1,dec_and,dec_not,Isl.groups]
  by_cases h : 1 ≤ a0 ∧ a0 ≤ 4096
  · rw [cond_neg (by omega),cond_pos (by omega),Isl.inc_iff.2 (Isl.nums_lt _),Isl.nums_len,decide_eq_true (by omega),if_neg (by omega)]
    rfl
  · rw [cond_pos h,if_pos (by omega)]
    rfl
theorem c24 : CallOk Try.prog G22 24 r24 := callOk_of (V := VG2224) mixed tys eVG2224 (f := 24) (fn := Try.f24) Try.func24 (by kernel_rfl) (c := sub (bodyOf Try.f24) []) (by kernel_rfl) (by
  intro X H r H' h hX hH
  unfold r24 at h; split at h <;> try contradiction
  · simp only [Option.some.injEq,Prod.mk.injEq] at h
    obtain ⟨hp,rfl,rfl⟩ := h
    obtain ⟨F,hF⟩ := s24 _ _ (hX _ (.head _)) (hX _ (.tail _ (.head _)))
    exact ⟨Af24 F,(f24_body F _ _).trans hF⟩)
def lVG2225 : List CEnt := [(45,[none],r45),(47,[some 22,none],r47)]
def VG2225 : Env := mkEnv T22 G22 lVG2225
theorem eVG2225 : EOk Try.prog VG2225 := eok_mk (by exact ⟨c45,c47,trivial⟩)
def Af25 (F : Nat) : Cuts := { F := F,at_ := fun n => match n with | 5012 => some sp29 | _ => none,join := fun n => match n with | 1030 => some [(0,.plain),(1,.plain)] | 2005 => some sp30 | 3022 => some [(0,.plain),(1,.plain)] | 4020 => some [(1,.plain),(5,.plain)] | 5014 => some sp29 | 6006 => some sp29 | 6010 => some sp31 | 7001 => some [(1,.plain),(5,.plain),(6,.mfix),(13,.plain),(14,.plain)] | 8001 => some sp29 | 9003 => some [(5,.plain)] | _ => none,fin := (some [(4,(.own 3))]) }
def ef25_a : Int × (List (List Int)) → St := fun (a0,a1) => { tmps := [(0,(.int .i64 a0)),(1,(.vs (.rL .i64 a1) 0 1))],heap := [],next := 0,nt := 25,m := 0 }
def ef25j1 : Int × (List (List Int)) → St := fun (t0,t1) => { tmps := [(0,(.int .i64 t0)),(1,(.vs (.rL .i64 t1) 0 1))],heap := [],next := 0,nt := 25,m := 0 }
def ef25j2 : Ty40 → St := fun (t0,t1,t9) => { tmps := [(0,(.int .i64 t0)),(1,(.vs (.rL .i64 t1) 0 1)),(9,(.bool t9))],heap := [],next := 0,nt := 25,m := 0 }
def ef25j3 : Int × (List (List Int)) → St := fun (t0,t1) => { tmps := [(0,(.int .i64 t0)),(1,(.vs (.rL .i64 t1) 0 1))],heap := [],next := 0,nt := 25,m := 0 }
def ef25j4 : Ty9 → St := fun (t1,x2) => { tmps := [(1,(.vs (.rL .i64 t1) 0 1)),(5,(.own 0 0 1))],heap := [(0,(.cells x2.length (.rI .i64 x2) true))],next := 1,nt := 25,m := 0 }
def ef25j5 : Ty16 → St := fun (t1,t13,t14,x4) => { tmps := [(1,(.vs (.rL .i64 t1) 0 1)),(5,(.own 0 0 1)),(13,(.int .i64 t13)),(14,(.int .i64 t14))],heap := [(0,(.cells x4.length (.rI .i64 x4) true))],next := 1,nt := 25,m := 0 }
def ef25l1 : Ty41 → St := fun (t1,t13,t14,x4,x5) => { tmps := [(1,(.vs (.rL .i64 t1) 0 1)),(5,(.own 0 0 1)),(13,(.int .i64 t13)),(14,(.int .i64 t14))],heap := [(0,(.cells x5 (.rI .i64 x4) true))],next := 1,nt := 25,m := 0 }
def ef25j6 : Ty42 → St := fun (t1,t13,t14,t15,x5,x6) => { tmps := [(1,(.vs (.rL .i64 t1) 0 1)),(5,(.own 0 0 1)),(13,(.int .i64 t13)),(14,(.int .i64 t14)),(15,(.bool t15))],heap := [(0,(.cells x6 (.rI .i64 x5) true))],next := 1,nt := 25,m := 0 }
def ef25j7 : Ty41 → St := fun (t1,t13,t14,x4,x5) => { tmps := [(1,(.vs (.rL .i64 t1) 0 1)),(5,(.own 0 0 1)),(13,(.int .i64 t13)),(14,(.int .i64 t14))],heap := [(0,(.cells x5 (.rI .i64 x4) true))],next := 1,nt := 25,m := 0 }
def ef25j8 : Ty43 → St := fun (t1,x2,t13,t14,x5,x6) => { tmps := [(1,(.vs (.rL .i64 t1) 0 1)),(5,(.own 0 0 1)),(6,(.gp (.rI .i64 x2) 1 0 0 0 1)),(13,(.int .i64 t13)),(14,(.int .i64 t14))],heap := [(0,(.cells x6 (.rI .i64 x5) true))],next := 1,nt := 25,m := 0 }
def ef25j9 : Ty41 → St := fun (t1,t13,t14,x4,x5) => { tmps := [(1,(.vs (.rL .i64 t1) 0 1)),(5,(.own 0 0 1)),(13,(.int .i64 t13)),(14,(.int .i64 t14))],heap := [(0,(.cells x5 (.rI .i64 x4) true))],next := 1,nt := 25,m := 0 }
def ef25j10 : (List Int) × Nat → St := fun (x1,x2) => { tmps := [(5,(.own 0 0 1))],heap := [(0,(.cells x2 (.rI .i64 x1) true))],next := 1,nt := 25,m := 0 }
def f25_1 (F : Nat) (kf25j1 : Int × (List (List Int)) → Rz) : Int × (List (List Int)) → Rz := fun (a0,a1) => (kf25j1 (a0,a1))
theorem f25_1_eq (F : Nat) (Rf25j1 : St → Rz) : ∀ v,aexec VG2225 (Af25 F) (bp Try.f25 2) (ef25_a v) (kSeq (kc VG2225 Rf25j1 [(0,.plain),(1,.plain)]) (kFin VG2225 (some [(4,(.own 3))]) (Try.f25).results.toList)) = f25_1 F (Rf25j1 ∘ ef25j1) v := by
  rintro ⟨a0,a1⟩; kernel_rfl
def f25_2 (F : Nat) (kf25j2 : Ty40 → Rz) (kf25j3 : Int × (List (List Int)) → Rz) : Int × (List (List Int)) → Rz := fun (t0,t1) => (kf25j2 (t0,t1,(!((decide (1 ≤ t0)) && (decide (t0 ≤ 4096))))))
theorem f25_2_eq (F : Nat) (Rf25j2 : St → Rz) (Rf25j3 : St → Rz) : ∀ v,aexec VG2225 (Af25 F) (bp Try.f25 12) (ef25j1 v) (kSeq (kc VG2225 Rf25j2 sp30) (kSeq (kc VG2225 Rf25j3 [(0,.plain),(1,.plain)]) (kFin VG2225 (some [(4,(.own 3))]) (Try.f25).results.toList))) = f25_2 F (Rf25j2 ∘ ef25j2) (Rf25j3 ∘ ef25j3) v := by
  rintro ⟨t0,t1⟩; kernel_rfl
def f25_3 (F : Nat) (kf25j3 : Int × (List (List Int)) → Rz) : Ty40 → Rz := fun (t0,t1,t9) => (cond t9 (some ((.own 0 0 1),[(.cells 0 (.rI .i64 []) true)])) (kf25j3 (t0,t1)))
theorem f25_3_eq (F : Nat) (Rf25j3 : St → Rz) : ∀ v,aexec VG2225 (Af25 F) (bp Try.f25 13) (ef25j2 v) (kSeq (kc VG2225 Rf25j3 [(0,.plain),(1,.plain)]) (kFin VG2225 (some [(4,(.own 3))]) (Try.f25).results.toList)) = f25_3 F (Rf25j3 ∘ ef25j3) v := by
  rintro ⟨t0,t1,t9⟩; kernel_rfl
def f25_4 (F : Nat) (kf25j3 : Int × (List (List Int)) → Rz) : Int × (List (List Int)) → Rz := fun v => f25_2 F (f25_3 F kf25j3) kf25j3 v
theorem f25_4_eq (F : Nat) (Rf25j3 : St → Rz) : ∀ v,aexec VG2225 (Af25 F) (bp Try.f25 6) (ef25j1 v) (kSeq (kc VG2225 Rf25j3 [(0,.plain),(1,.plain)]) (kFin VG2225 (some [(4,(.own 3))]) (Try.f25).results.toList)) = f25_4 F (Rf25j3 ∘ ef25j3) v :=
  seq_cut (by kernel_rfl) (by kernel_rfl) ef25j1 ef25j2 _ (fun k => f25_2 F k (Rf25j3 ∘ ef25j3)) (f25_3 F (Rf25j3 ∘ ef25j3))
    (fun Rf25j2 => f25_2_eq F Rf25j2 Rf25j3) (f25_3_eq F Rf25j3)
def f25_5 (F : Nat) (kf25j4 : Ty9 → Rz) : Int × (List (List Int)) → Rz := fun (t0,t1) => (cond (((decide (0 ≤ t0)) && (decide (t0 ≤ t0))) && (decide (t0 < 1073741824))) (kf25j4 (t1,(List.replicate (Int.toNat t0) 0))) none)
theorem f25_5_eq (F : Nat) (Rf25j4 : St → Rz) : ∀ v,aexec VG2225 (Af25 F) (bp Try.f25 14) (ef25j3 v) (kSeq (kc VG2225 Rf25j4 [(1,.plain),(5,.plain)]) (kFin VG2225 (some [(4,(.own 3))]) (Try.f25).results.toList)) = f25_5 F (Rf25j4 ∘ ef25j4) v := by
  rintro ⟨t0,t1⟩; kernel_rfl
def f25_6 (F : Nat) (kf25j5 : Ty16 → Rz) (kf25j10 : (List Int) × Nat → Rz) : Ty9 → Rz := fun (t1,x2) => (kf25j5 (t1,(↑x2.length : Int),(0 : Int),x2))
theorem f25_6_eq (F : Nat) (Rf25j5 : St → Rz) (Rf25j10 : St → Rz) : ∀ v,aexec VG2225 (Af25 F) (bp Try.f25 60) (ef25j4 v) (kSeq (kc VG2225 Rf25j5 sp29) (kSeq (kc VG2225 Rf25j10 [(5,.plain)]) (kFin VG2225 (some [(4,(.own 3))]) (Try.f25).results.toList))) = f25_6 F (Rf25j5 ∘ ef25j5) (Rf25j10 ∘ ef25j10) v := by
  rintro ⟨t1,x2⟩; kernel_rfl
def f25_7 (F : Nat) (kf25j6 : Ty42 → Rz) (kf25l1 : Ty41 → Rz) (kf25j10 : (List Int) × Nat → Rz) : Ty41 → Rz := fun (t1,t13,t14,x4,x5) => (kf25j6 (t1,t13,t14,(decide (t14 < t13)),x4,x5))
theorem f25_7_eq (F : Nat) (Rf25j6 : St → Rz) (Rf25l1 : St → Rz) (Rf25j10 : St → Rz) : ∀ v,aexec VG2225 (Af25 F) (bp Try.f25 488) (ef25l1 v) (kSeq (kc VG2225 Rf25j6 sp31) (kSeq (kc VG2225 Rf25l1 sp29) (kBlock 0 (kSeq (kc VG2225 Rf25j10 [(5,.plain)]) (kFin VG2225 (some [(4,(.own 3))]) (Try.f25).results.toList))))) = f25_7 F (Rf25j6 ∘ ef25j6) (Rf25l1 ∘ ef25l1) (Rf25j10 ∘ ef25j10) v := by
  rintro ⟨t1,t13,t14,x4,x5⟩; kernel_rfl
def f25_8 (F : Nat) (kf25j7 : Ty41 → Rz) (kf25l1 : Ty41 → Rz) (kf25j10 : (List Int) × Nat → Rz) : Ty42 → Rz := fun (t1,t13,t14,t15,x5,x6) => (cond t15 (kf25j7 (t1,t13,t14,x5,x6)) (kf25j10 (x5,x6)))
theorem f25_8_eq (F : Nat) (Rf25j7 : St → Rz) (Rf25l1 : St → Rz) (Rf25j10 : St → Rz) : ∀ v,aexec VG2225 (Af25 F) (bp Try.f25 978) (ef25j6 v) (kSeq (kc VG2225 Rf25j7 sp29) (kSeq (kc VG2225 Rf25l1 sp29) (kBlock 0 (kSeq (kc VG2225 Rf25j10 [(5,.plain)]) (kFin VG2225 (some [(4,(.own 3))]) (Try.f25).results.toList))))) = f25_8 F (Rf25j7 ∘ ef25j7) (Rf25l1 ∘ ef25l1) (Rf25j10 ∘ ef25j10) v := by
  rintro ⟨t1,t13,t14,t15,x5,x6⟩; kernel_rfl
def f25_9 (F : Nat) (kf25j8 : Ty43 → Rz) (kf25j9 : Ty41 → Rz) (kf25l1 : Ty41 → Rz) (kf25j10 : (List Int) × Nat → Rz) : Ty41 → Rz := fun (t1,t13,t14,x4,x5) => (kf25j8 (t1,[t14],t13,t14,x4,x5))
theorem f25_9_eq (F : Nat) (Rf25j8 : St → Rz) (Rf25j9 : St → Rz) (Rf25l1 : St → Rz) (Rf25j10 : St → Rz) : ∀ v,aexec VG2225 (Af25 F) (bp Try.f25 7832) (ef25j7 v) (kSeq (kc VG2225 Rf25j8 [(1,.plain),(5,.plain),(6,.mfix),(13,.plain),(14,.plain)]) (kBlock 1 (kSeq (kc VG2225 Rf25j9 sp29) (kSeq (kc VG2225 Rf25l1 sp29) (kBlock 0 (kSeq (kc VG2225 Rf25j10 [(5,.plain)]) (kFin VG2225 (some [(4,(.own 3))]) (Try.f25).results.toList))))))) = f25_9 F (Rf25j8 ∘ ef25j8) (Rf25j9 ∘ ef25j9) (Rf25l1 ∘ ef25l1) (Rf25j10 ∘ ef25j10) v := by
  rintro ⟨t1,t13,t14,x4,x5⟩; kernel_rfl
def f25_10 (F : Nat) (kf25j9 : Ty41 → Rz) (kf25l1 : Ty41 → Rz) (kf25j10 : (List Int) × Nat → Rz) : Ty43 → Rz := fun (t1,x2,t13,t14,x5,x6) => (cond ((decide (0 ≤ (x2.getD 0 0))) && (decide ((x2.getD 0 0) < (↑x5.length : Int)))) (kf25j9 (t1,t13,t14,(x5.set (Int.toNat (x2.getD 0 0)) (Isl.idxL (x2.getD 0 0) t1)),x6)) none)
theorem f25_10_eq (F : Nat) (Rf25j9 : St → Rz) (Rf25l1 : St → Rz) (Rf25j10 : St → Rz) : ∀ v,aexec VG2225 (Af25 F) (bp Try.f25 7833) (ef25j8 v) (kBlock 1 (kSeq (kc VG2225 Rf25j9 sp29) (kSeq (kc VG2225 Rf25l1 sp29) (kBlock 0 (kSeq (kc VG2225 Rf25j10 [(5,.plain)]) (kFin VG2225 (some [(4,(.own 3))]) (Try.f25).results.toList)))))) = f25_10 F (Rf25j9 ∘ ef25j9) (Rf25l1 ∘ ef25l1) (Rf25j10 ∘ ef25j10) v := by
  rintro ⟨t1,x2,t13,t14,x5,x6⟩; kernel_rfl
def f25_11 (F : Nat) (kf25j9 : Ty41 → Rz) (kf25l1 : Ty41 → Rz) (kf25j10 : (List Int) × Nat → Rz) : Ty41 → Rz := fun v => f25_9 F (f25_10 F kf25j9 kf25l1 kf25j10) kf25j9 kf25l1 kf25j10 v
theorem f25_11_eq (F : Nat) (Rf25j9 : St → Rz) (Rf25l1 : St → Rz) (Rf25j10 : St → Rz) : ∀ v,aexec VG2225 (Af25 F) (bp Try.f25 3916) (ef25j7 v) (kBlock 1 (kSeq (kc VG2225 Rf25j9 sp29) (kSeq (kc VG2225 Rf25l1 sp29) (kBlock 0 (kSeq (kc VG2225 Rf25j10 [(5,.plain)]) (kFin VG2225 (some [(4,(.own 3))]) (Try.f25).results.toList)))))) = f25_11 F (Rf25j9 ∘ ef25j9) (Rf25l1 ∘ ef25l1) (Rf25j10 ∘ ef25j10) v :=
  seq_cut (by kernel_rfl) (by kernel_rfl) ef25j7 ef25j8 _ (fun k => f25_9 F k (Rf25j9 ∘ ef25j9) (Rf25l1 ∘ ef25l1) (Rf25j10 ∘ ef25j10)) (f25_10 F (Rf25j9 ∘ ef25j9) (Rf25l1 ∘ ef25l1) (Rf25j10 ∘ ef25j10))
    (fun Rf25j8 => f25_9_eq F Rf25j8 Rf25j9 Rf25l1 Rf25j10) (f25_10_eq F Rf25j9 Rf25l1 Rf25j10)
def f25_12 (F : Nat) (kf25j9 : Ty41 → Rz) (kf25l1 : Ty41 → Rz) (kf25j10 : (List Int) × Nat → Rz) : Ty41 → Rz := f25_11 F kf25j9 kf25l1 kf25j10
theorem f25_12_eq (F : Nat) (Rf25j9 : St → Rz) (Rf25l1 : St → Rz) (Rf25j10 : St → Rz) : ∀ v,aexec VG2225 (Af25 F) (bp Try.f25 1958) (ef25j7 v) (kSeq (kc VG2225 Rf25j9 sp29) (kSeq (kc VG2225 Rf25l1 sp29) (kBlock 0 (kSeq (kc VG2225 Rf25j10 [(5,.plain)]) (kFin VG2225 (some [(4,(.own 3))]) (Try.f25).results.toList))))) = f25_12 F (Rf25j9 ∘ ef25j9) (Rf25l1 ∘ ef25l1) (Rf25j10 ∘ ef25j10) v := fun v =>
  (block_in  (by kernel_rfl) _ _).trans (f25_11_eq F Rf25j9 Rf25l1 Rf25j10 v)
def f25_13 (F : Nat) (kf25l1 : Ty41 → Rz) (kf25j10 : (List Int) × Nat → Rz) : Ty41 → Rz := fun (t1,t13,t14,x4,x5) => (kf25l1 (t1,t13,(IntKind.i64.wrap (t14 + (1 : Int))),x4,x5))
theorem f25_13_eq (F : Nat) (Rf25l1 : St → Rz) (Rf25j10 : St → Rz) : ∀ v,aexec VG2225 (Af25 F) (bp Try.f25 1959) (ef25j9 v) (kSeq (kc VG2225 Rf25l1 sp29) (kBlock 0 (kSeq (kc VG2225 Rf25j10 [(5,.plain)]) (kFin VG2225 (some [(4,(.own 3))]) (Try.f25).results.toList)))) = f25_13 F (Rf25l1 ∘ ef25l1) (Rf25j10 ∘ ef25j10) v := by
  rintro ⟨t1,t13,t14,x4,x5⟩; kernel_rfl
def f25_14 (F : Nat) (kf25l1 : Ty41 → Rz) (kf25j10 : (List Int) × Nat → Rz) : Ty41 → Rz := fun v => f25_12 F (f25_13 F kf25l1 kf25j10) kf25l1 kf25j10 v
theorem f25_14_eq (F : Nat) (Rf25l1 : St → Rz) (Rf25j10 : St → Rz) : ∀ v,aexec VG2225 (Af25 F) (bp Try.f25 979) (ef25j7 v) (kSeq (kc VG2225 Rf25l1 sp29) (kBlock 0 (kSeq (kc VG2225 Rf25j10 [(5,.plain)]) (kFin VG2225 (some [(4,(.own 3))]) (Try.f25).results.toList)))) = f25_14 F (Rf25l1 ∘ ef25l1) (Rf25j10 ∘ ef25j10) v :=
  seq_cut (by kernel_rfl) (by kernel_rfl) ef25j7 ef25j9 _ (fun k => f25_12 F k (Rf25l1 ∘ ef25l1) (Rf25j10 ∘ ef25j10)) (f25_13 F (Rf25l1 ∘ ef25l1) (Rf25j10 ∘ ef25j10))
    (fun Rf25j9 => f25_12_eq F Rf25j9 Rf25l1 Rf25j10) (f25_13_eq F Rf25l1 Rf25j10)
def f25_15 (F : Nat) (kf25l1 : Ty41 → Rz) (kf25j10 : (List Int) × Nat → Rz) : Ty42 → Rz := fun v => f25_8 F (f25_14 F kf25l1 kf25j10) kf25l1 kf25j10 v
theorem f25_15_eq (F : Nat) (Rf25l1 : St → Rz) (Rf25j10 : St → Rz) : ∀ v,aexec VG2225 (Af25 F) (bp Try.f25 489) (ef25j6 v) (kSeq (kc VG2225 Rf25l1 sp29) (kBlock 0 (kSeq (kc VG2225 Rf25j10 [(5,.plain)]) (kFin VG2225 (some [(4,(.own 3))]) (Try.f25).results.toList)))) = f25_15 F (Rf25l1 ∘ ef25l1) (Rf25j10 ∘ ef25j10) v :=
  seq_cut (by kernel_rfl) (by kernel_rfl) ef25j6 ef25j7 _ (fun k => f25_8 F k (Rf25l1 ∘ ef25l1) (Rf25j10 ∘ ef25j10)) (f25_14 F (Rf25l1 ∘ ef25l1) (Rf25j10 ∘ ef25j10))
    (fun Rf25j7 => f25_8_eq F Rf25j7 Rf25l1 Rf25j10) (f25_14_eq F Rf25l1 Rf25j10)
def f25_16 (F : Nat) (kf25l1 : Ty41 → Rz) (kf25j10 : (List Int) × Nat → Rz) : Ty41 → Rz := fun v => f25_7 F (f25_15 F kf25l1 kf25j10) kf25l1 kf25j10 v
theorem f25_16_eq (F : Nat) (Rf25l1 : St → Rz) (Rf25j10 : St → Rz) : ∀ v,aexec VG2225 (Af25 F) (bp Try.f25 244) (ef25l1 v) (kSeq (kc VG2225 Rf25l1 sp29) (kBlock 0 (kSeq (kc VG2225 Rf25j10 [(5,.plain)]) (kFin VG2225 (some [(4,(.own 3))]) (Try.f25).results.toList)))) = f25_16 F (Rf25l1 ∘ ef25l1) (Rf25j10 ∘ ef25j10) v :=
  seq_cut (by kernel_rfl) (by kernel_rfl) ef25l1 ef25j6 _ (fun k => f25_7 F k (Rf25l1 ∘ ef25l1) (Rf25j10 ∘ ef25j10)) (f25_15 F (Rf25l1 ∘ ef25l1) (Rf25j10 ∘ ef25j10))
    (fun Rf25j6 => f25_7_eq F Rf25j6 Rf25l1 Rf25j10) (f25_15_eq F Rf25l1 Rf25j10)
def f25_17_i : Ty16 → (List (List Int)) × Int × Int × (List Int) × Nat := fun (t1,t13,t14,x4) => (t1,t13,t14,x4,x4.length)
def f25_17 (F : Nat) (kf25j10 : (List Int) × Nat → Rz) : Ty16 → Rz := fun v => loopN (fun k => f25_16 F k kf25j10) F (f25_17_i v)
theorem f25_17_eq (F : Nat) (Rf25j10 : St → Rz) : ∀ v,aexec VG2225 (Af25 F) (bp Try.f25 122) (ef25j5 v) (kBlock 0 (kSeq (kc VG2225 Rf25j10 [(5,.plain)]) (kFin VG2225 (some [(4,(.own 3))]) (Try.f25).results.toList))) = f25_17 F (Rf25j10 ∘ ef25j10) v :=
  loop_cut (by kernel_rfl) (by kernel_rfl) ef25j5 ef25l1 _ f25_17_i (fun k => f25_16 F k (Rf25j10 ∘ ef25j10))
    (by rintro ⟨t1,t13,t14,x4⟩; kernel_rfl) (fun Rf25l1 => f25_16_eq F Rf25l1 Rf25j10)
def f25_18 (F : Nat) (kf25j10 : (List Int) × Nat → Rz) : Ty16 → Rz := f25_17 F kf25j10
theorem f25_18_eq (F : Nat) (Rf25j10 : St → Rz) : ∀ v,aexec VG2225 (Af25 F) (bp Try.f25 61) (ef25j5 v) (kSeq (kc VG2225 Rf25j10 [(5,.plain)]) (kFin VG2225 (some [(4,(.own 3))]) (Try.f25).results.toList)) = f25_18 F (Rf25j10 ∘ ef25j10) v := fun v =>
  (block_in  (by kernel_rfl) _ _).trans (f25_17_eq F Rf25j10 v)
def f25_19 (F : Nat) (kf25j10 : (List Int) × Nat → Rz) : Ty9 → Rz := fun v => f25_6 F (f25_18 F kf25j10) kf25j10 v
theorem f25_19_eq (F : Nat) (Rf25j10 : St → Rz) : ∀ v,aexec VG2225 (Af25 F) (bp Try.f25 30) (ef25j4 v) (kSeq (kc VG2225 Rf25j10 [(5,.plain)]) (kFin VG2225 (some [(4,(.own 3))]) (Try.f25).results.toList)) = f25_19 F (Rf25j10 ∘ ef25j10) v :=
  seq_cut (by kernel_rfl) (by kernel_rfl) ef25j4 ef25j5 _ (fun k => f25_6 F k (Rf25j10 ∘ ef25j10)) (f25_18 F (Rf25j10 ∘ ef25j10))
    (fun Rf25j5 => f25_6_eq F Rf25j5 Rf25j10) (f25_18_eq F Rf25j10)
def f25_20 (F : Nat) : (List Int) × Nat → Rz := fun (x1,x2) => (some ((.own 0 0 1),[(.cells x2 (.rI .i64 x1) true)]))
theorem f25_20_eq (F : Nat) : ∀ v,aexec VG2225 (Af25 F) (bp Try.f25 31) (ef25j10 v) (kFin VG2225 (some [(4,(.own 3))]) (Try.f25).results.toList) = f25_20 F v := by
  rintro ⟨x1,x2⟩; kernel_rfl
def f25_21 (F : Nat) : Ty9 → Rz := fun v => f25_19 F (f25_20 F) v
theorem f25_21_eq (F : Nat) : ∀ v,aexec VG2225 (Af25 F) (bp Try.f25 15) (ef25j4 v) (kFin VG2225 (some [(4,(.own 3))]) (Try.f25).results.toList) = f25_21 F v :=
  seq_cut (by kernel_rfl) (by kernel_rfl) ef25j4 ef25j10 _ (fun k => f25_19 F k) (f25_20 F)
    (fun Rf25j10 => f25_19_eq F Rf25j10) (f25_20_eq F)
def f25_22 (F : Nat) : Int × (List (List Int)) → Rz := fun v => f25_5 F (f25_21 F) v
theorem f25_22_eq (F : Nat) : ∀ v,aexec VG2225 (Af25 F) (bp Try.f25 7) (ef25j3 v) (kFin VG2225 (some [(4,(.own 3))]) (Try.f25).results.toList) = f25_22 F v :=
  seq_cut (by kernel_rfl) (by kernel_rfl) ef25j3 ef25j4 _ (fun k => f25_5 F k) (f25_21 F)
    (fun Rf25j4 => f25_5_eq F Rf25j4) (f25_21_eq F)
def f25_23 (F : Nat) : Int × (List (List Int)) → Rz := fun v => f25_4 F (f25_22 F) v
theorem f25_23_eq (F : Nat) : ∀ v,aexec VG2225 (Af25 F) (bp Try.f25 3) (ef25j1 v) (kFin VG2225 (some [(4,(.own 3))]) (Try.f25).results.toList) = f25_23 F v :=
  seq_cut (by kernel_rfl) (by kernel_rfl) ef25j1 ef25j3 _ (fun k => f25_4 F k) (f25_22 F)
    (fun Rf25j3 => f25_4_eq F Rf25j3) (f25_22_eq F)
def f25_24 (F : Nat) : Int × (List (List Int)) → Rz := fun v => f25_1 F (f25_23 F) v
theorem f25_24_eq (F : Nat) : ∀ v,aexec VG2225 (Af25 F) (sub (bodyOf Try.f25) []) (ef25_a v) (kFin VG2225 (some [(4,(.own 3))]) (Try.f25).results.toList) = f25_24 F v :=
  seq_cut (by kernel_rfl) (by kernel_rfl) ef25_a ef25j1 _ (fun k => f25_1 F k) (f25_23 F)
    (fun Rf25j1 => f25_1_eq F Rf25j1) (f25_23_eq F)
def f25 (F : Nat) : Int × (List (List Int)) → Rz := f25_24 F
theorem f25_body (F : Nat) (a0 : Int) (a1 : List (List Int)) : abody VG2225 (Af25 F) Try.f25 [(.int .i64 a0),(.vs (.rL .i64 a1) 0 1)] [] = f25 F (a0,a1) :=
  (abody_in (c := (sub (bodyOf Try.f25) [])) (by kernel_rfl) (s := ef25_a (a0,a1)) (by kernel_rfl)).trans (f25_24_eq F (a0,a1))
def r25 : CRun := fun X H => match X,H with
  | [(.int .i64 a0),(.vs (.rL .i64 a1) 0 1)],[] => some (true,(.own 0 0 1),[(.cells (Isl.of a0 a1).length (.rI .i64 (Isl.of a0 a1)) true)])
  | _,_ => none
theorem s25 (a0 : Int) (a1 : List (List Int)) (h0 : okV (.int .i64 a0)) (h1 : okV (.vs (.rL .i64 a1) 0 1)) : ∃ F,f25 F (a0,a1) = some ((.own 0 0 1),[(.cells (Isl.of a0 a1).length (.rI .i64 (Isl.of a0 a1)) true)]) := by
  have hl1 := h1.2
  obtain ⟨F,hF⟩ : ∃ F,F = 4611686018427387914 := ⟨_,rfl⟩
  refine ⟨F,?_⟩
  simp only [f25_1,f25_2,f25_3,f25_4,f25_5,f25_6,f25_17_i,f25_17,f25_18,f25_19,f25_20,f25_21,f25_22,f25_23,f25_24,f25,dec_and,dec_not,Isl.of]
  by_cases h : 1 ≤ a0 ∧ a0 ≤ 4096
  · obtain ⟨n,rfl⟩ : ∃ n : Nat,a0 = (n : Int) := ⟨a0.toNat,by omega⟩
    rw [cond_neg (by omega),cond_pos (by omega),if_neg (by omega),Int.toNat_natCast,List.length_replicate]
    refine loopN_from (fun i => (a1,(n : Int),(i : Int),((List.range i).map fun (i : Nat) => Isl.idxL (i : Int) a1) ++ List.replicate (n - i) 0,n)) n (by simp) (fun i hi k => ?_) (fun k => ?_) _ (by omega)
    · have e0 : ([(i : Int)] : List Int).getD 0 0 = (i : Int) := rfl
      simp only [f25_7,f25_8,f25_9,f25_10,f25_11,f25_12,f25_13,f25_14,f25_15,f25_16,dec_and,e0,Int.toNat_natCast]
      rw [cond_pos (by omega),cond_pos (by simp; omega),i64w (by omega) (by omega)]
      have e : (((List.range i).map fun (i : Nat) => Isl.idxL (i : Int) a1) ++ List.replicate (n - i) 0).set i (Isl.idxL (i : Int) a1) = ((List.range (i + 1)).map fun (i : Nat) => Isl.idxL (i : Int) a1) ++ List.replicate (n - (i + 1)) 0 := by
        rw [List.set_append_right _ _ (by simp),List.range_succ,List.map_append,show n - i = (n - (i + 1)) + 1 by omega,List.replicate_succ]
        simp
      rw [e]
      rfl
    · simp only [f25_7,f25_8,f25_9,f25_10,f25_11,f25_12,f25_13,f25_14,f25_15,f25_16,f25_1,f25_2,f25_3,f25_4,f25_5,f25_6,f25_17_i,f25_17,f25_18,f25_19,f25_20,f25_21,f25_22,f25_23,f25_24,f25]
      rw [cond_neg (by omega),Nat.sub_self]
      simp
  · rw [cond_pos h,if_pos (by omega)]
    rfl
theorem c25 : CallOk Try.prog G22 25 r25 := callOk_of (V := VG2225) mixed tys eVG2225 (f := 25) (fn := Try.f25) Try.func25 (by kernel_rfl) (c := sub (bodyOf Try.f25) []) (by kernel_rfl) (by
  intro X H r H' h hX hH
  unfold r25 at h; split at h <;> try contradiction
  · simp only [Option.some.injEq,Prod.mk.injEq] at h
    obtain ⟨hp,rfl,rfl⟩ := h
    obtain ⟨F,hF⟩ := s25 _ _ (hX _ (.head _)) (hX _ (.tail _ (.head _)))
    exact ⟨Af25 F,(f25_body F _ _).trans hF⟩)
def lVG2215 : List CEnt := [(37,[some 3,some 22],r37),(38,[some 3],r38),(39,[some 22],r39),(40,[none],r40)]
def VG2215 : Env := mkEnv T22 G22 lVG2215
theorem eVG2215 : EOk Try.prog VG2215 := eok_mk (by exact ⟨c37,c38,c39,c40,trivial⟩)
def Af15 (F : Nat) : Cuts := { F := F,at_ := fun _ => none,join := fun _ => none,fin := (some [(4,(.own 22))]) }
def ef15_a : Ty6 → St := fun (a0,a1) => { tmps := [(0,(.vs (.rL .i64 a0) 0 1)),(1,(.vs (.rL .i64 a1) 0 1))],heap := [],next := 0,nt := 13,m := 0 }
def f15_1 (F : Nat) : Ty6 → Rz := fun (a0,a1) => (cond (decide (a0.flatten.length < 1073740000)) (cond (decide (a0.flatten.length < 1073740000)) (cond (decide (a0.length + a1.length < 1073741000)) (cond ((decide ((Isl.set a0.flatten).length < 1073740000)) && (Isl.inc (Isl.set a0.flatten))) (some ((.own 0 0 1),[(.cells (Isl.clss (Isl.set a0.flatten) (a0 ++ a1)).length (.rL .i64 (Isl.clss (Isl.set a0.flatten) (a0 ++ a1))) true)])) none) none) none) none)
theorem f15_1_eq (F : Nat) : ∀ v,aexec VG2215 (Af15 F) (sub (bodyOf Try.f15) []) (ef15_a v) (kFin VG2215 (some [(4,(.own 22))]) (Try.f15).results.toList) = f15_1 F v := by
  rintro ⟨a0,a1⟩; kernel_rfl
def f15 (F : Nat) : Ty6 → Rz := f15_1 F
theorem f15_body (F : Nat) (a0 : List (List Int)) (a1 : List (List Int)) : abody VG2215 (Af15 F) Try.f15 [(.vs (.rL .i64 a0) 0 1),(.vs (.rL .i64 a1) 0 1)] [] = f15 F (a0,a1) :=
  (abody_in (c := (sub (bodyOf Try.f15) [])) (by kernel_rfl) (s := ef15_a (a0,a1)) (by kernel_rfl)).trans (f15_1_eq F (a0,a1))
def r15 : CRun := fun X H => match X,H with
  | [(.vs (.rL .i64 a0) 0 1),(.vs (.rL .i64 a1) 0 1)],[] => some (((decide (a0.flatten.length < 1073740000)) && (decide (a0.length + a1.length < 1073741000))),(.own 0 0 1),[(.cells (Isl.merge a0 a1).length (.rL .i64 (Isl.merge a0 a1)) true)])
  | _,_ => none
theorem s15 (a0 : List (List Int)) (a1 : List (List Int)) (hp : (((decide (a0.flatten.length < 1073740000)) && (decide (a0.length + a1.length < 1073741000)))) = true) (h0 : okV (.vs (.rL .i64 a0) 0 1)) (h1 : okV (.vs (.rL .i64 a1) 0 1)) : ∃ F,f15 F (a0,a1) = some ((.own 0 0 1),[(.cells (Isl.merge a0 a1).length (.rL .i64 (Isl.merge a0 a1)) true)]) := by
  simp only [Bool.and_eq_true,decide_eq_true_eq] at hp
  refine ⟨0,?_⟩
  have := Isl.set_len a0.flatten
  simp only [f15,f15_1,Isl.merge]
  rw [cond_pos (by omega),cond_pos (by omega),cond_pos (by omega),Isl.inc_iff.2 (Isl.set_lt _),decide_eq_true (by omega)]
  rfl
theorem c15 : CallOk Try.prog G22 15 r15 := callOk_of (V := VG2215) mixed tys eVG2215 (f := 15) (fn := Try.f15) Try.func15 (by kernel_rfl) (c := sub (bodyOf Try.f15) []) (by kernel_rfl) (by
  intro X H r H' h hX hH
  unfold r15 at h; split at h <;> try contradiction
  · simp only [Option.some.injEq,Prod.mk.injEq] at h
    obtain ⟨hp,rfl,rfl⟩ := h
    obtain ⟨F,hF⟩ := s15 _ _ hp (hX _ (.head _)) (hX _ (.tail _ (.head _)))
    exact ⟨Af15 F,(f15_body F _ _).trans hF⟩)
def lVG2217 : List CEnt := [(37,[some 3,some 22],r37),(38,[some 3],r38)]
def VG2217 : Env := mkEnv T22 G22 lVG2217
theorem eVG2217 : EOk Try.prog VG2217 := eok_mk (by exact ⟨c37,c38,trivial⟩)
def Af17 (F : Nat) : Cuts := { F := F,at_ := fun _ => none,join := fun _ => none,fin := (some [(4,(.own 22))]) }
def ef17_a : Ty25 → St := fun (a0,a1) => { tmps := [(0,(.vs (.rI .i64 a0) 0 1)),(1,(.vs (.rL .i64 a1) 0 1))],heap := [],next := 0,nt := 9,m := 0 }
def f17_1 (F : Nat) : Ty25 → Rz := fun (a0,a1) => (cond (decide (a0.length < 1073740000)) (cond ((decide ((Isl.set a0).length < 1073740000)) && (Isl.inc (Isl.set a0))) (some ((.own 0 0 1),[(.cells (Isl.clss (Isl.set a0) a1).length (.rL .i64 (Isl.clss (Isl.set a0) a1)) true)])) none) none)
theorem f17_1_eq (F : Nat) : ∀ v,aexec VG2217 (Af17 F) (sub (bodyOf Try.f17) []) (ef17_a v) (kFin VG2217 (some [(4,(.own 22))]) (Try.f17).results.toList) = f17_1 F v := by
  rintro ⟨a0,a1⟩; kernel_rfl
def f17 (F : Nat) : Ty25 → Rz := f17_1 F
theorem f17_body (F : Nat) (a0 : List Int) (a1 : List (List Int)) : abody VG2217 (Af17 F) Try.f17 [(.vs (.rI .i64 a0) 0 1),(.vs (.rL .i64 a1) 0 1)] [] = f17 F (a0,a1) :=
  (abody_in (c := (sub (bodyOf Try.f17) [])) (by kernel_rfl) (s := ef17_a (a0,a1)) (by kernel_rfl)).trans (f17_1_eq F (a0,a1))
def r17 : CRun := fun X H => match X,H with
  | [(.vs (.rI .i64 a0) 0 1),(.vs (.rL .i64 a1) 0 1)],[] => some ((decide (a0.length < 1073740000)),(.own 0 0 1),[(.cells (Isl.split a0 a1).length (.rL .i64 (Isl.split a0 a1)) true)])
  | _,_ => none
theorem s17 (a0 : List Int) (a1 : List (List Int)) (hp : ((decide (a0.length < 1073740000))) = true) (h0 : okV (.vs (.rI .i64 a0) 0 1)) (h1 : okV (.vs (.rL .i64 a1) 0 1)) : ∃ F,f17 F (a0,a1) = some ((.own 0 0 1),[(.cells (Isl.split a0 a1).length (.rL .i64 (Isl.split a0 a1)) true)]) := by
  refine ⟨0,?_⟩
  have hp' := of_decide_eq_true hp
  have := Isl.set_len a0
  simp only [f17,f17_1,Isl.split]
  rw [cond_pos (by omega),Isl.inc_iff.2 (Isl.set_lt _),decide_eq_true (by omega)]
  rfl
theorem c17 : CallOk Try.prog G22 17 r17 := callOk_of (V := VG2217) mixed tys eVG2217 (f := 17) (fn := Try.f17) Try.func17 (by kernel_rfl) (c := sub (bodyOf Try.f17) []) (by kernel_rfl) (by
  intro X H r H' h hX hH
  unfold r17 at h; split at h <;> try contradiction
  · simp only [Option.some.injEq,Prod.mk.injEq] at h
    obtain ⟨hp,rfl,rfl⟩ := h
    obtain ⟨F,hF⟩ := s17 _ _ hp (hX _ (.head _)) (hX _ (.tail _ (.head _)))
    exact ⟨Af17 F,(f17_body F _ _).trans hF⟩)
def lVG2222 : List CEnt := [(37,[some 3,some 22],r37),(38,[some 3],r38),(42,[none,none],r42),(43,[some 3],r43)]
def VG2222 : Env := mkEnv T22 G22 lVG2222
theorem eVG2222 : EOk Try.prog VG2222 := eok_mk (by exact ⟨c37,c38,c42,c43,trivial⟩)
def Af22 (F : Nat) : Cuts := { F := F,at_ := fun n => match n with | 5018 => some sp32 | _ => none,join := fun n => match n with | 1032 => some [(0,.plain),(1,.plain)] | 2030 => some [(1,.plain),(5,.plain)] | 3028 => some sp33 | 4026 => some sp34 | 5020 => some sp35 | 11003 => some [(7,.plain)] | _ => none,fin := (some [(4,(.own 3))]) }
def ef22_a : Ty25 → St := fun (a0,a1) => { tmps := [(0,(.vs (.rI .i64 a0) 0 1)),(1,(.vs (.rL .i64 a1) 0 1))],heap := [],next := 0,nt := 39,m := 0 }
def ef22j1 : Ty25 → St := fun (t0,t1) => { tmps := [(0,(.vs (.rI .i64 t0) 0 1)),(1,(.vs (.rL .i64 t1) 0 1))],heap := [],next := 0,nt := 39,m := 0 }
def ef22j2 : Ty9 → St := fun (t1,t5) => { tmps := [(1,(.vs (.rL .i64 t1) 0 1)),(5,(.vs (.rI .i64 t5) 0 1))],heap := [],next := 0,nt := 39,m := 0 }
def ef22j3 : Ty44 → St := fun (t1,t5,t6) => { tmps := [(1,(.vs (.rL .i64 t1) 0 1)),(5,(.vs (.rI .i64 t5) 0 1)),(6,(.int .i64 t6))],heap := [],next := 0,nt := 39,m := 0 }
def ef22j4 : Ty44 → St := fun (t1,t5,t6) => { tmps := [(1,(.vs (.rL .i64 t1) 0 1)),(5,(.vs (.rI .i64 t5) 0 1)),(6,(.int .i64 t6)),(7,.ns)],heap := [],next := 0,nt := 39,m := 0 }
def ef22j5 : Ty45 → St := fun (t1,t5,t6,t17,t18,t19) => { tmps := [(1,(.vs (.rL .i64 t1) 0 1)),(5,(.vs (.rI .i64 t5) 0 1)),(6,(.int .i64 t6)),(7,.ns),(17,(.vs (.rI .i64 t17) 0 1)),(18,(.int .i64 t18)),(19,(.int .i64 t19))],heap := [],next := 0,nt := 39,m := 0 }
def ef22l1 : Ty46 → St := fun (t1,t5,t6,t17,t18,t19,x7) => { tmps := [(1,(.vs (.rL .i64 t1) 0 1)),(5,(.vs (.rI .i64 t5) 0 1)),(6,(.int .i64 t6)),(7,(.own 0 0 1)),(17,(.vs (.rI .i64 t17) 0 1)),(18,(.int .i64 t18)),(19,(.int .i64 t19))],heap := [(0,(.cells x7.length (.rI .i64 x7) true))],next := 1,nt := 39,m := 0 }
def ef22j6 : (List Int) → St := fun x1 => { tmps := [(7,(.own 0 0 1))],heap := [(0,(.cells x1.length (.rI .i64 x1) true))],next := 1,nt := 39,m := 0 }
def f22_1 (F : Nat) (kf22j1 : Ty25 → Rz) : Ty25 → Rz := fun (a0,a1) => (kf22j1 (a0,a1))
theorem f22_1_eq (F : Nat) (Rf22j1 : St → Rz) : ∀ v,aexec VG2222 (Af22 F) (bp Try.f22 2) (ef22_a v) (kSeq (kc VG2222 Rf22j1 [(0,.plain),(1,.plain)]) (kFin VG2222 (some [(4,(.own 3))]) (Try.f22).results.toList)) = f22_1 F (Rf22j1 ∘ ef22j1) v := by
  rintro ⟨a0,a1⟩; kernel_rfl
def f22_2 (F : Nat) (kf22j2 : Ty9 → Rz) : Ty25 → Rz := fun (t0,t1) => (cond (decide (t0.length < 1073740000)) (kf22j2 (t1,(Isl.set t0))) none)
theorem f22_2_eq (F : Nat) (Rf22j2 : St → Rz) : ∀ v,aexec VG2222 (Af22 F) (bp Try.f22 6) (ef22j1 v) (kSeq (kc VG2222 Rf22j2 [(1,.plain),(5,.plain)]) (kFin VG2222 (some [(4,(.own 3))]) (Try.f22).results.toList)) = f22_2 F (Rf22j2 ∘ ef22j2) v := by
  rintro ⟨t0,t1⟩; kernel_rfl
def f22_3 (F : Nat) (kf22j3 : Ty44 → Rz) : Ty9 → Rz := fun (t1,t5) => (cond ((decide (t5.length < 1073740000)) && (Isl.inc t5)) (kf22j3 (t1,t5,(↑(Isl.clss t5 t1).length : Int))) none)
theorem f22_3_eq (F : Nat) (Rf22j3 : St → Rz) : ∀ v,aexec VG2222 (Af22 F) (bp Try.f22 14) (ef22j2 v) (kSeq (kc VG2222 Rf22j3 sp33) (kFin VG2222 (some [(4,(.own 3))]) (Try.f22).results.toList)) = f22_3 F (Rf22j3 ∘ ef22j3) v := by
  rintro ⟨t1,t5⟩; kernel_rfl
def f22_4 (F : Nat) (kf22j4 : Ty44 → Rz) : Ty44 → Rz := fun (t1,t5,t6) => (kf22j4 (t1,t5,t6))
theorem f22_4_eq (F : Nat) (Rf22j4 : St → Rz) : ∀ v,aexec VG2222 (Af22 F) (bp Try.f22 30) (ef22j3 v) (kSeq (kc VG2222 Rf22j4 sp34) (kFin VG2222 (some [(4,(.own 3))]) (Try.f22).results.toList)) = f22_4 F (Rf22j4 ∘ ef22j4) v := by
  rintro ⟨t1,t5,t6⟩; kernel_rfl
def f22_5 (F : Nat) (kf22j5 : Ty45 → Rz) (kf22j6 : (List Int) → Rz) : Ty44 → Rz := fun (t1,t5,t6) => (kf22j5 (t1,t5,t6,t5,(↑t5.length : Int),(0 : Int)))
theorem f22_5_eq (F : Nat) (Rf22j5 : St → Rz) (Rf22j6 : St → Rz) : ∀ v,aexec VG2222 (Af22 F) (bp Try.f22 124) (ef22j4 v) (kSeq (kc VG2222 Rf22j5 sp35) (kSeq (kc VG2222 Rf22j6 [(7,.plain)]) (kFin VG2222 (some [(4,(.own 3))]) (Try.f22).results.toList))) = f22_5 F (Rf22j5 ∘ ef22j5) (Rf22j6 ∘ ef22j6) v := by
  rintro ⟨t1,t5,t6⟩; kernel_rfl
def f22_6 (F : Nat) (kf22l1 : Ty46 → Rz) (kf22j6 : (List Int) → Rz) : Ty46 → Rz := fun (t1,t5,t6,t17,t18,t19,x7) => (cond (decide (t19 < t18)) (cond ((decide (0 ≤ t19)) && (decide (t19 < (↑t17.length : Int)))) (cond (decide (t5.length < 1073741000)) (cond (decide (t5.length < 1073740000)) (cond ((decide ((Isl.del t5 (t17.getD (Int.toNat t19) 0)).length < 1073740000)) && (Isl.inc (Isl.del t5 (t17.getD (Int.toNat t19) 0)))) (cond (decide ((↑(Isl.clss (Isl.del t5 (t17.getD (Int.toNat t19) 0)) t1).length : Int) > t6)) (cond (decide ((x7.length + 1) < 1073741824)) (kf22l1 (t1,t5,t6,t17,t18,(IntKind.i64.wrap (t19 + (1 : Int))),(x7 ++ [(t17.getD (Int.toNat t19) 0)]))) none) (kf22l1 (t1,t5,t6,t17,t18,(IntKind.i64.wrap (t19 + (1 : Int))),x7))) none) none) none) none) (kf22j6 x7))
theorem f22_6_eq (F : Nat) (Rf22l1 : St → Rz) (Rf22j6 : St → Rz) : ∀ v,aexec VG2222 (Af22 F) (bp Try.f22 500) (ef22l1 v) (kSeq (kc VG2222 Rf22l1 sp32) (kBlock 0 (kSeq (kc VG2222 Rf22j6 [(7,.plain)]) (kFin VG2222 (some [(4,(.own 3))]) (Try.f22).results.toList)))) = f22_6 F (Rf22l1 ∘ ef22l1) (Rf22j6 ∘ ef22j6) v := by
  rintro ⟨t1,t5,t6,t17,t18,t19,x7⟩; kernel_rfl
def f22_7_i : Ty45 → (List (List Int)) × (List Int) × Int × (List Int) × Int × Int × (List Int) := fun (t1,t5,t6,t17,t18,t19) => (t1,t5,t6,t17,t18,t19,[])
def f22_7 (F : Nat) (kf22j6 : (List Int) → Rz) : Ty45 → Rz := fun v => loopN (fun k => f22_6 F k kf22j6) F (f22_7_i v)
theorem f22_7_eq (F : Nat) (Rf22j6 : St → Rz) : ∀ v,aexec VG2222 (Af22 F) (bp Try.f22 250) (ef22j5 v) (kBlock 0 (kSeq (kc VG2222 Rf22j6 [(7,.plain)]) (kFin VG2222 (some [(4,(.own 3))]) (Try.f22).results.toList))) = f22_7 F (Rf22j6 ∘ ef22j6) v :=
  loop_cut (by kernel_rfl) (by kernel_rfl) ef22j5 ef22l1 _ f22_7_i (fun k => f22_6 F k (Rf22j6 ∘ ef22j6))
    (by rintro ⟨t1,t5,t6,t17,t18,t19⟩; kernel_rfl) (fun Rf22l1 => f22_6_eq F Rf22l1 Rf22j6)
def f22_8 (F : Nat) (kf22j6 : (List Int) → Rz) : Ty45 → Rz := f22_7 F kf22j6
theorem f22_8_eq (F : Nat) (Rf22j6 : St → Rz) : ∀ v,aexec VG2222 (Af22 F) (bp Try.f22 125) (ef22j5 v) (kSeq (kc VG2222 Rf22j6 [(7,.plain)]) (kFin VG2222 (some [(4,(.own 3))]) (Try.f22).results.toList)) = f22_8 F (Rf22j6 ∘ ef22j6) v := fun v =>
  (block_in  (by kernel_rfl) _ _).trans (f22_7_eq F Rf22j6 v)
def f22_9 (F : Nat) (kf22j6 : (List Int) → Rz) : Ty44 → Rz := fun v => f22_5 F (f22_8 F kf22j6) kf22j6 v
theorem f22_9_eq (F : Nat) (Rf22j6 : St → Rz) : ∀ v,aexec VG2222 (Af22 F) (bp Try.f22 62) (ef22j4 v) (kSeq (kc VG2222 Rf22j6 [(7,.plain)]) (kFin VG2222 (some [(4,(.own 3))]) (Try.f22).results.toList)) = f22_9 F (Rf22j6 ∘ ef22j6) v :=
  seq_cut (by kernel_rfl) (by kernel_rfl) ef22j4 ef22j5 _ (fun k => f22_5 F k (Rf22j6 ∘ ef22j6)) (f22_8 F (Rf22j6 ∘ ef22j6))
    (fun Rf22j5 => f22_5_eq F Rf22j5 Rf22j6) (f22_8_eq F Rf22j6)
def f22_10 (F : Nat) : (List Int) → Rz := fun x1 => (some ((.own 0 0 1),[(.cells x1.length (.rI .i64 x1) true)]))
theorem f22_10_eq (F : Nat) : ∀ v,aexec VG2222 (Af22 F) (bp Try.f22 63) (ef22j6 v) (kFin VG2222 (some [(4,(.own 3))]) (Try.f22).results.toList) = f22_10 F v := by
  intro x1; kernel_rfl
def f22_11 (F : Nat) : Ty44 → Rz := fun v => f22_9 F (f22_10 F) v
theorem f22_11_eq (F : Nat) : ∀ v,aexec VG2222 (Af22 F) (bp Try.f22 31) (ef22j4 v) (kFin VG2222 (some [(4,(.own 3))]) (Try.f22).results.toList) = f22_11 F v :=
  seq_cut (by kernel_rfl) (by kernel_rfl) ef22j4 ef22j6 _ (fun k => f22_9 F k) (f22_10 F)
    (fun Rf22j6 => f22_9_eq F Rf22j6) (f22_10_eq F)
def f22_12 (F : Nat) : Ty44 → Rz := fun v => f22_4 F (f22_11 F) v
theorem f22_12_eq (F : Nat) : ∀ v,aexec VG2222 (Af22 F) (bp Try.f22 15) (ef22j3 v) (kFin VG2222 (some [(4,(.own 3))]) (Try.f22).results.toList) = f22_12 F v :=
  seq_cut (by kernel_rfl) (by kernel_rfl) ef22j3 ef22j4 _ (fun k => f22_4 F k) (f22_11 F)
    (fun Rf22j4 => f22_4_eq F Rf22j4) (f22_11_eq F)
def f22_13 (F : Nat) : Ty9 → Rz := fun v => f22_3 F (f22_12 F) v
theorem f22_13_eq (F : Nat) : ∀ v,aexec VG2222 (Af22 F) (bp Try.f22 7) (ef22j2 v) (kFin VG2222 (some [(4,(.own 3))]) (Try.f22).results.toList) = f22_13 F v :=
  seq_cut (by kernel_rfl) (by kernel_rfl) ef22j2 ef22j3 _ (fun k => f22_3 F k) (f22_12 F)
    (fun Rf22j3 => f22_3_eq F Rf22j3) (f22_12_eq F)
def f22_14 (F : Nat) : Ty25 → Rz := fun v => f22_2 F (f22_13 F) v
theorem f22_14_eq (F : Nat) : ∀ v,aexec VG2222 (Af22 F) (bp Try.f22 3) (ef22j1 v) (kFin VG2222 (some [(4,(.own 3))]) (Try.f22).results.toList) = f22_14 F v :=
  seq_cut (by kernel_rfl) (by kernel_rfl) ef22j1 ef22j2 _ (fun k => f22_2 F k) (f22_13 F)
    (fun Rf22j2 => f22_2_eq F Rf22j2) (f22_13_eq F)
def f22_15 (F : Nat) : Ty25 → Rz := fun v => f22_1 F (f22_14 F) v
theorem f22_15_eq (F : Nat) : ∀ v,aexec VG2222 (Af22 F) (sub (bodyOf Try.f22) []) (ef22_a v) (kFin VG2222 (some [(4,(.own 3))]) (Try.f22).results.toList) = f22_15 F v :=
  seq_cut (by kernel_rfl) (by kernel_rfl) ef22_a ef22j1 _ (fun k => f22_1 F k) (f22_14 F)
    (fun Rf22j1 => f22_1_eq F Rf22j1) (f22_14_eq F)
def f22 (F : Nat) : Ty25 → Rz := f22_15 F
theorem f22_body (F : Nat) (a0 : List Int) (a1 : List (List Int)) : abody VG2222 (Af22 F) Try.f22 [(.vs (.rI .i64 a0) 0 1),(.vs (.rL .i64 a1) 0 1)] [] = f22 F (a0,a1) :=
  (abody_in (c := (sub (bodyOf Try.f22) [])) (by kernel_rfl) (s := ef22_a (a0,a1)) (by kernel_rfl)).trans (f22_15_eq F (a0,a1))
def r22 : CRun := fun X H => match X,H with
  | [(.vs (.rI .i64 a0) 0 1),(.vs (.rL .i64 a1) 0 1)],[] => some ((decide (a0.length < 1073740000)),(.own 0 0 1),[(.cells (Isl.cut a0 a1).length (.rI .i64 (Isl.cut a0 a1)) true)])
  | _,_ => none
theorem s22 (a0 : List Int) (a1 : List (List Int)) (hp : ((decide (a0.length < 1073740000))) = true) (h0 : okV (.vs (.rI .i64 a0) 0 1)) (h1 : okV (.vs (.rL .i64 a1) 0 1)) : ∃ F,f22 F (a0,a1) = some ((.own 0 0 1),[(.cells (Isl.cut a0 a1).length (.rI .i64 (Isl.cut a0 a1)) true)]) := by
  simp only [decide_eq_true_eq] at hp
  refine ⟨a0.length + 1,?_⟩
  have hsl := Isl.set_len a0
  have hlt := Isl.set_lt a0
  simp only [f22_1,f22_2,f22_3,f22_4,f22_5,f22_7_i,f22_7,f22_8,f22_9,f22_10,f22_11,f22_12,f22_13,f22_14,f22_15,f22]
  rw [cond_pos (by omega)]
  unfold Isl.cut
  generalize Isl.set a0 = s at hsl hlt
  rw [Isl.inc_iff.2 hlt,decide_eq_true (show s.length < 1073740000 by omega)]
  simp only [Bool.and_self,cond_true]
  refine loopN_from (fun i => (a1,s,((Isl.clss s a1).length : Int),s,(s.length : Int),(i : Int),(s.take i).filter fun x => decide ((Isl.clss s a1).length < (Isl.clss (Isl.del s x) a1).length))) s.length (by rfl) (fun i hi k => ?_) (fun k => ?_) _ (by omega)
  · have hf : ((s.take i).filter fun x => decide ((Isl.clss s a1).length < (Isl.clss (Isl.del s x) a1).length)).length ≤ i := by
      refine Nat.le_trans (List.length_filter_le _ _) ?_
      rw [List.length_take]; omega
    have hdl : Isl.Lt (Isl.del s (s.getD i 0)) := hlt.filter _
    have hdlen : (Isl.del s (s.getD i 0)).length ≤ s.length := List.length_filter_le _ _
    simp only [f22_6,dec_and,Int.toNat_natCast,i64w (show -9223372036854775808 ≤ (i : Int) + 1 by omega) (show (i : Int) + 1 ≤ 9223372036854775807 by omega)]
    rw [cond_pos (by omega),cond_pos (by omega),cond_pos (by omega),cond_pos (by omega),Isl.inc_iff.2 hdl,decide_eq_true (show (Isl.del s (s.getD i 0)).length < 1073740000 by omega)]
    simp only [Bool.and_self,cond_true]
    rw [← Reg.take_get s 0 i hi,List.filter_append]
    by_cases hc : (Isl.clss s a1).length < (Isl.clss (Isl.del s (s.getD i 0)) a1).length
    · rw [cond_pos (by omega),cond_pos (by omega),List.filter_cons,if_pos (by simpa using hc)]
      rfl
    · rw [cond_neg (by omega),List.filter_cons,if_neg (by simpa using hc),List.filter_nil,List.append_nil]
      rfl
  · simp only [f22_6,f22_1,f22_2,f22_3,f22_4,f22_5,f22_7_i,f22_7,f22_8,f22_9,f22_10,f22_11,f22_12,f22_13,f22_14,f22_15,f22]
    rw [cond_neg (by omega),List.take_length]
theorem c22 : CallOk Try.prog G22 22 r22 := callOk_of (V := VG2222) mixed tys eVG2222 (f := 22) (fn := Try.f22) Try.func22 (by kernel_rfl) (c := sub (bodyOf Try.f22) []) (by kernel_rfl) (by
  intro X H r H' h hX hH
  unfold r22 at h; split at h <;> try contradiction
  · simp only [Option.some.injEq,Prod.mk.injEq] at h
    obtain ⟨hp,rfl,rfl⟩ := h
    obtain ⟨F,hF⟩ := s22 _ _ hp (hX _ (.head _)) (hX _ (.tail _ (.head _)))
    exact ⟨Af22 F,(f22_body F _ _).trans hF⟩)
end Go.Am
end
section
namespace Go.Am
open Go Go.Proofs
abbrev sp39 : List (Nat × Md) := [(0,.plain),(1,.plain),(2,.plain)]
abbrev Ty61 := (List (List Int)) × (List (List Int)) × Int × (List Int)
abbrev Ty62 := (List (List Int)) × (List (List Int)) × (List Int)
def f12_1 (F : Nat) : Int × (List (List Int)) → Rz := fun (a0,a1) => (cond (decide (a0 < (1 : Int))) (some ((.own 0 0 1),[(.cells 0 (.rL .i64 []) true)])) (cond (decide (a0 > (4096 : Int))) (some ((.own 0 0 1),[(.cells 0 (.rL .i64 []) true)])) (cond ((decide (0 ≤ a0)) && (decide (Int.toNat a0 < 1073741000))) (cond ((decide ((Isl.nums (Int.toNat a0)).length < 1073740000)) && (Isl.inc (Isl.nums (Int.toNat a0)))) (some ((.own 0 0 1),[(.cells (Isl.clss (Isl.nums (Int.toNat a0)) a1).length (.rL .i64 (Isl.clss (Isl.nums (Int.toNat a0)) a1)) true)])) none) none)))
def f12 (F : Nat) : Int × (List (List Int)) → Rz := f12_1 F
def f16_1 (F : Nat) (kf16j1 : Ty6 → Rz) : Ty6 → Rz := fun (a0,a1) => (kf16j1 (a0,a1))
def f16_2 (F : Nat) (kf16j2 : Ty6 → Rz) : Ty6 → Rz := fun (t0,t1) => (kf16j2 (t0,t1))
def f16_3 (F : Nat) (kf16j3 : Ty7 → Rz) (kf16j4 : Ty62 → Rz) : Ty6 → Rz := fun (t0,t1) => (kf16j3 (t0,t1,(0 : Int)))
def f16_4 (F : Nat) (kf16l1 : Ty61 → Rz) (kf16j4 : Ty62 → Rz) : Ty61 → Rz := fun (t0,t1,t6,x4) => (cond (decide (t6 < (↑t0.length : Int))) (cond ((decide (0 ≤ t6)) && (decide (t6 < (↑t0.length : Int)))) (cond (decide ((x4.length + (t0.getD (Int.toNat t6) []).length) < 1073741824)) (kf16l1 (t0,t1,(IntKind.i64.wrap (t6 + (1 : Int))),(x4 ++ (t0.getD (Int.toNat t6) [])))) none) none) (kf16j4 (t0,t1,x4)))
def f16_5_i : Ty7 → (List (List Int)) × (List (List Int)) × Int × (List Int) := fun (t0,t1,t6) => (t0,t1,t6,[])
def f16_5 (F : Nat) (kf16j4 : Ty62 → Rz) : Ty7 → Rz := fun v => loopN (fun k => f16_4 F k kf16j4) F (f16_5_i v)
def f16_6 (F : Nat) (kf16j4 : Ty62 → Rz) : Ty7 → Rz := f16_5 F kf16j4
def f16_7 (F : Nat) (kf16j4 : Ty62 → Rz) : Ty6 → Rz := fun v => f16_3 F (f16_6 F kf16j4) kf16j4 v
def f16_8 (F : Nat) : Ty62 → Rz := fun (t0,t1,x3) => (cond (decide (x3.length < 1073740000)) (cond (decide ((0 + t0.length) < 1073741824)) (cond (decide ((([] ++ t0).length + t1.length) < 1073741824)) (cond ((decide ((Isl.set x3).length < 1073740000)) && (Isl.inc (Isl.set x3))) (some ((.own 0 0 1),[(.cells (Isl.clss (Isl.set x3) (([] ++ t0) ++ t1)).length (.rL .i64 (Isl.clss (Isl.set x3) (([] ++ t0) ++ t1))) true)])) none) none) none) none)
def f16_9 (F : Nat) : Ty6 → Rz := fun v => f16_7 F (f16_8 F) v
def f16_10 (F : Nat) : Ty6 → Rz := fun v => f16_2 F (f16_9 F) v
def f16_11 (F : Nat) : Ty6 → Rz := fun v => f16_1 F (f16_10 F) v
def f16 (F : Nat) : Ty6 → Rz := f16_11 F
def f18_1 (F : Nat) : Ty25 → Rz := fun (a0,a1) => (cond (decide (a0.length < 1073740000)) (cond ((decide ((Isl.set a0).length < 1073740000)) && (Isl.inc (Isl.set a0))) (some ((.own 0 0 1),[(.cells (Isl.clss (Isl.set a0) a1).length (.rL .i64 (Isl.clss (Isl.set a0) a1)) true)])) none) none)
def f18 (F : Nat) : Ty25 → Rz := f18_1 F
end Go.Am
end
section
namespace Go.Am
open Go Go.Proofs
def lVG2219 : List CEnt := [(14,[some 22,some 22],r14),(15,[some 22,some 22],r15),(17,[some 3,some 22],r17),(21,[some 3,some 3],r21),(22,[some 3,some 22],r22),(24,[none,some 22],r24)]
def VG2219 : Env := mkEnv T22 G22 lVG2219
theorem eVG2219 : EOk Try.prog VG2219 := eok_mk (by exact ⟨c14,c15,c17,c21,c22,c24,trivial⟩)
def Af19 (F : Nat) : Cuts := { F := F,at_ := fun _ => none,join := fun _ => none }
def ef19_a : Unit → St := fun _ => { tmps := [],heap := [],next := 0,nt := 43,m := 0 }
def f19_1 (F : Nat) : Unit → Rz := fun _ => (cond (decide ((Isl.groups (6 : Int) [[(1 : Int),(3 : Int)],[(3 : Int),(4 : Int)],[(9 : Int),(5 : Int)]]) = [[(0 : Int)],[(1 : Int),(3 : Int),(4 : Int)],[(2 : Int)],[(5 : Int)]])) (cond ((decide ((Isl.groups (6 : Int) [[(1 : Int),(3 : Int)],[(3 : Int),(4 : Int)],[(9 : Int),(5 : Int)]]).flatten.length < 1073740000)) && (decide ((Isl.groups (6 : Int) [[(1 : Int),(3 : Int)],[(3 : Int),(4 : Int)],[(9 : Int),(5 : Int)]]).length + [[(0 : Int),(2 : Int),(5 : Int)]].length < 1073741000))) (cond (decide ((Isl.merge (Isl.groups (6 : Int) [[(1 : Int),(3 : Int)],[(3 : Int),(4 : Int)],[(9 : Int),(5 : Int)]]) [[(0 : Int),(2 : Int),(5 : Int)]]) = [[(0 : Int),(2 : Int),(5 : Int)],[(1 : Int),(3 : Int),(4 : Int)]])) (cond (decide ([(1 : Int),(3 : Int),(4 : Int)].length < 1073740000)) (cond (decide ((Isl.split [(1 : Int),(3 : Int),(4 : Int)] [[(3 : Int),(4 : Int)]]) = [[(1 : Int)],[(3 : Int),(4 : Int)]])) (cond (decide ([(1 : Int),(3 : Int),(4 : Int)].length < 1073740000)) (some ((.bool (decide ((Isl.cut [(1 : Int),(3 : Int),(4 : Int)] [[(1 : Int),(3 : Int)],[(3 : Int),(4 : Int)]]) = [(3 : Int)]))),[])) none) (some ((.bool false),[]))) none) (some ((.bool false),[]))) none) (some ((.bool false),[])))
theorem f19_1_eq (F : Nat) : ∀ v,aexec VG2219 (Af19 F) (sub (bodyOf Try.f19) []) (ef19_a v) (kFin VG2219 none (Try.f19).results.toList) = f19_1 F v := by
  intro _; kernel_rfl
def f19 (F : Nat) : Unit → Rz := f19_1 F
theorem f19_body (F : Nat)  : abody VG2219 (Af19 F) Try.f19 [] [] = f19 F () :=
  (abody_in (c := (sub (bodyOf Try.f19) [])) (by kernel_rfl) (s := ef19_a ()) (by kernel_rfl)).trans (f19_1_eq F ())
def r19 : CRun := fun X H => match X,H with
  | [],[] => some (true,(.bool true),[])
  | _,_ => none
theorem s19  : ∃ F,f19 F () = some ((.bool true),[]) := ⟨60,by kernel_rfl⟩
theorem c19 : CallOk Try.prog G22 19 r19 := callOk_of (V := VG2219) mixed tys eVG2219 (f := 19) (fn := Try.f19) Try.func19 (by kernel_rfl) (c := sub (bodyOf Try.f19) []) (by kernel_rfl) (by
  intro X H r H' h hX hH
  unfold r19 at h; split at h <;> try contradiction
  · simp only [Option.some.injEq,Prod.mk.injEq] at h
    obtain ⟨hp,rfl,rfl⟩ := h
    obtain ⟨F,hF⟩ := s19
    exact ⟨Af19 F,(f19_body F).trans hF⟩)
end Go.Am
end
section
/- Package island: laws of classes. -/
namespace Go.Am.Isl
open Go Go.Am
variable {s : List Int} {links : List (List Int)}
theorem flatten_le {k : Nat} : ∀ {l : List (List Int)}, (∀ g ∈ l, g.length ≤ k) → l.flatten.length ≤ l.length * k
  | [], _ => by simp
  | g :: l, h => by
    have h1 := h g (List.mem_cons_self ..)
    have h2 := flatten_le (l := l) fun x hx => h x (List.mem_cons_of_mem _ hx)
    simp only [List.flatten_cons, List.length_append, List.length_cons]
    rw [Nat.add_mul, Nat.one_mul]; omega
theorem clss_bound (hs : Lt s) (links : List (List Int)) : (clss s links).length ≤ s.length ∧ ∀ g ∈ clss s links, g.length ≤ s.length := by
  rw [clss_eq hs]
  refine ⟨?_, fun g hg => ?_⟩
  · rw [List.length_map]; exact List.length_filter_le _ _
  · obtain ⟨x, _, rfl⟩ := List.mem_map.1 hg
    exact List.length_filter_le _ _
theorem groups_bound (n : Int) (links : List (List Int)) : (groups n links).length ≤ n.toNat ∧ ∀ g ∈ groups n links, g.length ≤ n.toNat := by
  unfold groups
  split
  · simp
  · have := clss_bound (nums_lt n.toNat) links
    rw [nums_len] at this
    exact this
theorem getD_len {l : List (List Int)} {k : Nat} (hb : ∀ g ∈ l, g.length ≤ k) (i : Nat) : (l.getD i []).length ≤ k := by
  rw [List.getD_eq_getElem?_getD]
  cases h : l[i]? with
  | none => simp
  | some x => exact hb x (List.mem_of_getElem? h)
theorem groups_flat {n : Int} {N : Nat} (hn : n.toNat ≤ N) (links : List (List Int)) : (groups n links).flatten.length ≤ N * N := by
  obtain ⟨h1, h2⟩ := groups_bound n links
  exact Nat.le_trans (flatten_le h2) (Nat.mul_le_mul (by omega) hn)
variable {x y z r : Int}
theorem mem_part : y ∈ part s links x ↔ y ∈ s ∧ Conn s links x y := by
  unfold part; rw [List.mem_filter]; simp only [decide_eq_true_eq]
open Classical in
theorem isRep_iff : isRep s links r = true ↔ ∀ y ∈ s, y < r → ¬ Conn s links y r := by
  unfold isRep; rw [decide_eq_true_eq]
theorem part_lt (hs : Lt s) : Lt (part s links x) := hs.filter _
theorem conn_sub {l2 : List (List Int)} (h : ∀ l ∈ links, ∀ y ∈ l, ∀ z ∈ l, y ∈ s → z ∈ s → Conn s l2 y z) (hx : x ∈ s) (hc : Conn s links x y) : Conn s l2 x y := hc.mono (fun _ h => h) h hx
theorem clss_congr (hs : Lt s) {l1 l2 : List (List Int)} (h : ∀ x ∈ s, ∀ y ∈ s, Conn s l1 x y ↔ Conn s l2 x y) : clss s l1 = clss s l2 := by
  rw [clss_eq hs, clss_eq hs]
  have e1 : s.filter (isRep s l1) = s.filter (isRep s l2) := by
    apply List.filter_congr
    intro x hx
    rw [Bool.eq_iff_iff, isRep_iff, isRep_iff]
    exact ⟨fun g y hy hlt hc => g y hy hlt ((h y hy x hx).2 hc), fun g y hy hlt hc => g y hy hlt ((h y hy x hx).1 hc)⟩
  rw [e1]
  apply List.map_congr_left
  intro x hx
  have hx := (List.mem_filter.1 hx).1
  exact Reg.lt_unique (part_lt hs) (part_lt hs) fun y => by
    rw [mem_part, mem_part]
    exact ⟨fun ⟨a, b⟩ => ⟨a, (h x hx y a).1 b⟩, fun ⟨a, b⟩ => ⟨a, (h x hx y a).2 b⟩⟩
theorem rep_ex (hs : Lt s) (hx : x ∈ s) : ∃ r ∈ s, isRep s links r = true ∧ Conn s links r x := by
  have hp : x ∈ part s links x := mem_part.2 ⟨hx, .refl⟩
  have hl : Lt (part s links x) := part_lt hs
  match e : part s links x with
  | [] => rw [e] at hp; simp at hp
  | r :: t =>
    have hr : r ∈ s ∧ Conn s links x r := mem_part.1 (by rw [e]; exact List.mem_cons_self ..)
    refine ⟨r, hr.1, isRep_iff.2 fun y hy hlt hc => ?_, hr.2.symm hx⟩
    have hm : y ∈ part s links x := mem_part.2 ⟨hy, hr.2.trans (hc.symm hy)⟩
    rw [e] at hm hl
    rcases List.mem_cons.1 hm with rfl | h
    · omega
    · have := (List.pairwise_cons.1 hl).1 y h; omega
theorem mem_clss (hs : Lt s) {g : List Int} : g ∈ clss s links ↔ ∃ r ∈ s, isRep s links r = true ∧ g = part s links r := by
  rw [clss_eq hs, List.mem_map]
  constructor
  · rintro ⟨r, h, rfl⟩
    obtain ⟨h1, h2⟩ := List.mem_filter.1 h
    exact ⟨r, h1, h2, rfl⟩
  · rintro ⟨r, h1, h2, rfl⟩
    exact ⟨r, List.mem_filter.2 ⟨h1, h2⟩, rfl⟩
theorem clss_flat (hs : Lt s) : set (clss s links).flatten = s := Reg.lt_unique (set_lt _) hs fun x => by
  rw [mem_set, List.mem_flatten]
  constructor
  · rintro ⟨g, hg, hx⟩
    obtain ⟨r, _, _, rfl⟩ := (mem_clss hs).1 hg
    exact (mem_part.1 hx).1
  · intro hx
    obtain ⟨r, h1, h2, h3⟩ := rep_ex (links := links) hs hx
    exact ⟨part s links r, (mem_clss hs).2 ⟨r, h1, h2, rfl⟩, mem_part.2 ⟨hx, h3⟩⟩
theorem conn_part (hx : x ∈ part s links r) (hc : Conn s links x y) : Conn (part s links r) links x y := by
  induction hc with
  | refl => exact .refl
  | step y z l h hl hy hz hs ih => exact .step y z l ih hl hy hz (mem_part.2 ⟨hs, (mem_part.1 hx).2.trans (.step y z l h hl hy hz hs)⟩)
theorem part_conn (hr : r ∈ s) : ∀ x ∈ part s links r, ∀ y ∈ part s links r, Conn (part s links r) links x y := fun x hx y hy =>
  conn_part hx (((mem_part.1 hx).2.symm hr).trans (mem_part.1 hy).2)
theorem part_ne (hr : r ∈ s) : part s links r ≠ [] := fun e => by
  have : r ∈ part s links r := mem_part.2 ⟨hr, .refl⟩
  rw [e] at this; simp at this
theorem getD_mem' {l : List (List Int)} {i : Nat} (h : i < l.length) : l.getD i [] ∈ l := by
  rw [List.getD_eq_getElem?_getD, List.getElem?_eq_getElem h]; exact List.getElem_mem h
theorem groups_clss {n : Int} (h1 : 1 ≤ n) (h2 : n ≤ 4096) (links : List (List Int)) : groups n links = clss (nums n.toNat) links := by
  unfold groups; rw [if_neg (by omega)]
theorem rep_unique {q : Int} (hr : r ∈ s) (hq : q ∈ s) (h1 : isRep s links r = true) (h2 : isRep s links q = true) (hc : Conn s links r q) : r = q := by
  rcases Int.lt_trichotomy r q with h | h | h
  · exact absurd hc (isRep_iff.1 h2 r hr h)
  · exact h
  · exact absurd (hc.symm hr) (isRep_iff.1 h1 q hq h)
theorem clss_at (hs : Lt s) {i : Nat} (hi : i < (clss s links).length) : ∃ r ∈ s, isRep s links r = true ∧ (clss s links).getD i [] = part s links r ∧ (s.filter (isRep s links)).getD i 0 = r ∧ i < (s.filter (isRep s links)).length := by
  have e := clss_eq hs links
  have hl : i < (s.filter (isRep s links)).length := by rw [e, List.length_map] at hi; exact hi
  have hm := getD_mem hl
  obtain ⟨h1, h2⟩ := List.mem_filter.1 hm
  refine ⟨_, h1, h2, ?_, rfl, hl⟩
  rw [e, List.getD_eq_getElem?_getD, List.getElem?_map, List.getD_eq_getElem?_getD, List.getElem?_eq_getElem hl]
  rfl
theorem clss_disj (hs : Lt s) {i j : Nat} (hi : i < (clss s links).length) (hj : j < (clss s links).length) (h1 : x ∈ (clss s links).getD i []) (h2 : x ∈ (clss s links).getD j []) : i = j := by
  obtain ⟨r, a1, a2, a3, a4, a5⟩ := clss_at hs hi
  obtain ⟨q, b1, b2, b3, b4, b5⟩ := clss_at hs hj
  rw [a3] at h1; rw [b3] at h2
  have e := rep_unique a1 b1 a2 b2 ((mem_part.1 h1).2.trans ((mem_part.1 h2).2.symm b1))
  have hl : Lt (s.filter (isRep s links)) := hs.filter _
  rcases Nat.lt_trichotomy i j with h | h | h
  · have := hl.get h b5; omega
  · exact h
  · have := hl.get h a5; omega
theorem idxL_at {G : List (List Int)} {i : Nat} (hi : i < G.length) (hx : x ∈ G.getD i []) (hn : ∀ j, j < i → x ∉ G.getD j []) : idxL x G = (i : Int) := by
  unfold idxL Reg.idx
  have : G.findIdx? (fun g => g.any fun y => y == x) = Option.some i := by
    rw [List.findIdx?_eq_some_iff_getElem]
    have eg : ∀ (j : Nat) (h : j < G.length), G.getD j [] = G[j] := fun j h => by rw [List.getD_eq_getElem?_getD, List.getElem?_eq_getElem h]; rfl
    refine ⟨hi, ?_, fun j hj => ?_⟩
    · rw [← eg i hi]; exact any_iff.2 hx
    · have hj' : j < G.length := by omega
      rw [← eg j hj']
      simp only [Bool.not_eq_true]
      exact any_false.2 (hn j hj)
  rw [this]
theorem idx_clss (hs : Lt s) {i : Nat} (hi : i < (clss s links).length) (hx : x ∈ (clss s links).getD i []) : idxL x (clss s links) = (i : Int) :=
  idxL_at hi hx fun j hj h => by have := clss_disj hs hi (by omega) hx h; omega
theorem idx_same (hs : Lt s) (hx : x ∈ s) (hc : Conn s links x y) : idxL x (clss s links) = idxL y (clss s links) := by
  obtain ⟨r, h1, h2, h3⟩ := rep_ex (links := links) hs hx
  have hg : part s links r ∈ clss s links := (mem_clss hs).2 ⟨r, h1, h2, rfl⟩
  obtain ⟨i, hi, e⟩ := List.mem_iff_getElem.1 hg
  have eg : (clss s links).getD i [] = part s links r := by rw [List.getD_eq_getElem?_getD, List.getElem?_eq_getElem hi, ← e]; rfl
  rw [idx_clss hs hi (by rw [eg]; exact mem_part.2 ⟨hx, h3⟩), idx_clss hs hi (by rw [eg]; exact mem_part.2 ⟨hc.mem hx, h3.trans hc⟩)]
theorem of_len {n : Int} (h1 : 1 ≤ n) (h2 : n ≤ 4096) (G : List (List Int)) : (of n G).length = n.toNat := by
  unfold of; rw [if_neg (by omega)]; simp
theorem of_get {n : Int} (h1 : 1 ≤ n) (h2 : n ≤ 4096) (G : List (List Int)) {x : Int} (h3 : 0 ≤ x) (h4 : x < n) : (of n G).getD x.toNat 0 = idxL x G := by
  unfold of
  rw [if_neg (by omega), List.getD_eq_getElem?_getD, List.getElem?_map, List.getElem?_range (by omega)]
  show idxL ((x.toNat : Nat) : Int) G = _
  rw [Int.toNat_of_nonneg h3]
theorem part_head (hs : Lt s) (hr : r ∈ s) (h : isRep s links r = true) : (part s links r).getD 0 0 = r := by
  have hl : Lt (part s links r) := part_lt hs
  have hm : r ∈ part s links r := mem_part.2 ⟨hr, .refl⟩
  match e : part s links r with
  | [] => rw [e] at hm; simp at hm
  | q :: t =>
    show q = r
    have hq : q ∈ s ∧ Conn s links r q := mem_part.1 (by rw [e]; exact List.mem_cons_self ..)
    rw [e] at hl hm
    rcases List.mem_cons.1 hm with h' | h'
    · exact h'.symm
    · have := (List.pairwise_cons.1 hl).1 r h'
      exact absurd (hq.2.symm hr) (isRep_iff.1 h q hq.1 this)
theorem heads_lt (hs : Lt s) {i : Nat} (hi : i + 1 < (clss s links).length) : ((clss s links).getD i []).getD 0 0 < ((clss s links).getD (i + 1) []).getD 0 0 := by
  obtain ⟨r, a1, a2, a3, a4, a5⟩ := clss_at hs (show i < (clss s links).length by omega)
  obtain ⟨q, b1, b2, b3, b4, b5⟩ := clss_at hs hi
  rw [a3, b3, part_head hs a1 a2, part_head hs b1 b2, ← a4, ← b4]
  have hl : Lt (s.filter (isRep s links)) := hs.filter _
  exact hl.get (Nat.lt_succ_self i) b5
theorem clss_nodup (hs : Lt s) : (clss s links).flatten.Nodup := by
  refine List.pairwise_flatten.2 ?_
  refine ⟨fun g hg => ?_, ?_⟩
  · obtain ⟨r, h1, _, rfl⟩ := (mem_clss hs).1 hg
    exact (part_lt hs).nodup
  · rw [List.pairwise_iff_getElem]
    intro i j hi hj hij x h1 x' h2 e
    subst e
    have eg : ∀ (j : Nat) (h : j < (clss s links).length), (clss s links).getD j [] = (clss s links)[j] := fun j h => by rw [List.getD_eq_getElem?_getD, List.getElem?_eq_getElem h]; rfl
    rw [← eg i hi] at h1; rw [← eg j hj] at h2
    have := clss_disj hs hi hj h1 h2
    omega
theorem group_ok (hs : Lt s) {g : List Int} (hg : g ∈ clss s links) : Lt g ∧ 0 < g.length ∧ (∀ x ∈ g, x ∈ s) ∧ (∀ x ∈ g, ∀ y ∈ g, Conn s links x y) ∧ ∀ x ∈ g, ∀ y ∈ g, Conn g links x y := by
  obtain ⟨r, h1, _, rfl⟩ := (mem_clss hs).1 hg
  exact ⟨part_lt hs, List.length_pos_iff.2 (part_ne h1), fun x hx => (mem_part.1 hx).1, fun x hx y hy => ((mem_part.1 hx).2.symm h1).trans (mem_part.1 hy).2, part_conn h1⟩
theorem of_same {n : Int} (h1 : 1 ≤ n) (h2 : n ≤ 4096) (l : List (List Int)) (hx : x ∈ nums n.toNat) (hc : Conn (nums n.toNat) l x y) : (of n (groups n l)).getD x.toNat 0 = (of n (groups n l)).getD y.toNat 0 := by
  have hy := hc.mem hx
  rw [mem_nums] at hx hy
  rw [of_get h1 h2 _ hx.1 (by omega), of_get h1 h2 _ hy.1 (by omega), groups_clss h1 h2]
  exact idx_same (nums_lt _) (mem_nums.2 hx) hc
end Go.Am.Isl
end
section
/- Package island: what the law of classes walks through. -/
namespace Go.Am.Isl
open Go Go.Am
variable {s : List Int} {links : List (List Int)} {x y z r : Int}
theorem some_each (l : List Int) (n : Int) : ∀ g ∈ some l n, g.length ≤ 3 := fun g hg => by
  obtain ⟨i, _, rfl⟩ := List.mem_map.1 hg
  have := Reg.at_lt (l := l) (i := 4 * (i : Int)) (m := 3) (by omega)
  unfold link
  rw [List.length_map, List.length_range]; omega
def mt (n : Nat) (pre : List Int) : List Int := (List.range n).map fun (y : Nat) => ((pre.count (y : Int) : Nat) : Int)
theorem mt_len (n : Nat) (pre : List Int) : (mt n pre).length = n := by simp [mt]
theorem mt_nil (n : Nat) : List.replicate n (0 : Int) = mt n [] := by
  apply List.ext_getElem
  · simp [mt]
  · intro i h1 h2; simp [mt]
theorem mt_get {n : Nat} {y : Nat} (pre : List Int) (h : y < n) : (mt n pre).getD y 0 = ((pre.count (y : Int) : Nat) : Int) := by
  unfold mt
  rw [List.getD_eq_getElem?_getD, List.getElem?_map, List.getElem?_range h]; rfl
theorem mt_snoc {n : Nat} {pre : List Int} {x : Int} (h0 : 0 ≤ x) (h1 : x < (n : Int)) (hl : pre.length < 1000000) : (mt n pre).set x.toNat (IntKind.i64.wrap ((mt n pre).getD x.toNat 0 + 1)) = mt n (pre ++ [x]) := by
  have hc := List.count_le_length (a := x) (l := pre)
  rw [mt_get pre (by omega), Int.toNat_of_nonneg h0, i64w (by omega) (by omega)]
  apply List.ext_getElem
  · simp [mt]
  · intro i h2 h3
    rw [List.getElem_set]
    simp only [mt, List.getElem_map, List.getElem_range, List.count_append, List.count_singleton]
    by_cases h : x.toNat = i
    · subst h
      rw [if_pos rfl, Int.toNat_of_nonneg h0]
      simp
    · rw [if_neg h]
      have : ¬ x = (i : Int) := by omega
      simp [this]
theorem mt_one {n : Nat} {l : List Int} (hn : l.Nodup) (ha : ∀ x : Int, 0 ≤ x → x < (n : Int) → x ∈ l) {y : Nat} (h : y < n) : (mt n l).getD y 0 = 1 := by
  rw [mt_get l h]
  have h1 := List.count_pos_iff.2 (ha (y : Int) (by omega) (by omega))
  have h2 := List.nodup_iff_count.1 hn (y : Int)
  omega
theorem clss_turn (hs : Lt s) (a b : Nat) : clss s ((links.map List.reverse).reverse ++ ((links.drop a).take b)) = clss s links := by
  refine clss_congr hs fun x hx y hy => ⟨conn_sub ?_ hx, conn_sub ?_ hx⟩
  · intro l hl y hy z hz hys hzs
    rcases List.mem_append.1 hl with h | h
    · obtain ⟨l0, h0, rfl⟩ := List.mem_map.1 (List.mem_reverse.1 h)
      exact .step y z l0 .refl h0 (List.mem_reverse.1 hy) (List.mem_reverse.1 hz) hzs
    · exact .step y z l .refl (List.mem_of_mem_drop (List.mem_of_mem_take h)) hy hz hzs
  · intro l hl y hy z hz hys hzs
    exact .step y z l.reverse .refl (List.mem_append_left _ (List.mem_reverse.2 (List.mem_map.2 ⟨l, hl, rfl⟩))) (List.mem_reverse.2 hy) (List.mem_reverse.2 hz) hzs
theorem drop_get' {l : List (List Int)} {i : Nat} (h : i < l.length) : l.drop i = l.getD i [] :: l.drop (i + 1) := by
  rw [List.getD_eq_getElem?_getD, List.getElem?_eq_getElem h]; exact List.drop_eq_getElem_cons h
theorem flat_snoc (G : List (List Int)) {i : Nat} (hi : i < G.length) : (G.take (i + 1)).flatten = (G.take i).flatten ++ G.getD i [] := by
  rw [← Reg.take_get G [] i hi]; simp
end Go.Am.Isl
end