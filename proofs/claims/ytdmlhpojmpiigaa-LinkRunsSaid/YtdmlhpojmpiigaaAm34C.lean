/- Part of a proof about the functions of the given program. -/
import Derived.Test.YtdmlhpojmpiigaaAm34A
import Derived.Test.YtdmlhpojmpiigaaAmLink2
set_option linter.unusedVariables false
set_option linter.unusedSimpArgs false
namespace Go.Am
open Go Go.Proofs
abbrev sp22 : List (Nat × Md) := [(0,.plain),(3,.plain),(9,.plain),(10,.plain),(11,.plain)]
abbrev sp23 : List (Nat × Md) := [(6,.plain),(25,.plain),(26,.plain),(27,.plain)]
abbrev sp24 : List (Nat × Md) := [(4,.plain),(5,.plain),(12,.plain),(13,.plain),(14,.plain)]
abbrev sp25 : List (Nat × Md) := [(4,.plain),(5,.plain),(8,.plain),(24,.plain)]
abbrev sp26 : List (Nat × Md) := [(0,.plain),(1,.plain),(4,.plain)]
abbrev sp27 : List (Nat × Md) := [(1,.plain),(4,.plain),(5,.plain)]
abbrev sp28 : List (Nat × Md) := [(4,.plain),(5,.plain),(8,.plain)]
abbrev sp29 : List (Nat × Md) := [(1,.plain),(5,.plain),(6,.plain)]
abbrev sp30 : List (Nat × Md) := [(5,.plain),(7,.plain),(8,.plain)]
abbrev Ty12 := (List (List Int)) × Int × (List (List Int)) × Int × Int
abbrev Ty13 := (List (List Int)) × (List Int)
abbrev Ty14 := (List (List Int)) × Int × Int × (List Int)
abbrev Ty15 := Int × (List Int) × (List Int)
abbrev Ty16 := Int × (List Int) × Int × Int × (List Int)
abbrev Ty17 := (List (List Int)) × (List (List Int))
abbrev Ty18 := (List (List Int)) × (List (List Int)) × Int
abbrev Ty19 := Int × Int × (List Int) × Nat × Nat

def lVG3410 : List CEnt := []
def VG3410 : Env := mkEnv T34 G34 lVG3410
theorem eVG3410 : EOk Try.prog VG3410 := eok_mk (by exact trivial)
def Af10 (F : Nat) : Cuts := { F := F,at_ := fun _ => none,join := fun _ => none }
def ef10_a : Int × Int → St := fun (a0,a1) => { tmps := [(0,(.int .i64 a0)),(1,(.int .i64 a1))],heap := [],next := 0,nt := 13,m := 0 }
def f10_1 (F : Nat) : Int × Int → Rz := fun (a0,a1) => (cond (decide (a0 < (0 : Int))) (cond (!(a1 == 0)) (some ((.int .i64 (Int.tmod (IntKind.i64.wrap (0 - (IntKind.i64.wrap (a0 + (1 : Int))))) a1)),[])) none) (cond (!(a1 == 0)) (some ((.int .i64 (Int.tmod a0 a1)),[])) none))
theorem f10_1_eq (F : Nat) : ∀ v,aexec VG3410 (Af10 F) (sub (bodyOf Try.f10) []) (ef10_a v) (kFin VG3410 none (Try.f10).results.toList) = f10_1 F v := by
  rintro ⟨a0,a1⟩; kernel_rfl
def f10 (F : Nat) : Int × Int → Rz := f10_1 F
theorem f10_body (F : Nat) (a0 : Int) (a1 : Int) : abody VG3410 (Af10 F) Try.f10 [(.int .i64 a0),(.int .i64 a1)] [] = f10 F (a0,a1) :=
  (abody_in (c := (sub (bodyOf Try.f10) [])) (by kernel_rfl) (s := ef10_a (a0,a1)) (by kernel_rfl)).trans (f10_1_eq F (a0,a1))
def r10 : CRun := fun X H => match X,H with
  | [(.int .i64 a0),(.int .i64 a1)],[] => some (((decide (0 < Int.toNat a1)) && (decide (Int.toNat a1 < 1073741825))),(.int .i64 (Lk.around a0 a1)),[])
  | _,_ => none
theorem s10 (a0 : Int) (a1 : Int) (hp : (((decide (0 < Int.toNat a1)) && (decide (Int.toNat a1 < 1073741825)))) = true) (h0 : okV (.int .i64 a0)) (h1 : okV (.int .i64 a1)) : ∃ F,f10 F (a0,a1) = some ((.int .i64 (Lk.around a0 a1)),[]) := by
  rw [dec_and,decide_eq_true_eq] at hp
  have hr : -9223372036854775808 ≤ a0 ∧ a0 ≤ 9223372036854775807 := h0
  refine ⟨0,?_⟩
  simp only [f10,f10_1,int_beq,dec_not,Lk.around]
  by_cases h : a0 < 0
  · rw [cond_pos h,cond_pos (by omega),if_pos h,i64w (x := a0 + 1) (by omega) (by omega),i64w (by omega) (by omega),tmod_nn (by omega),show (0 : Int) - (a0 + 1) = -(a0 + 1) by omega]
  · rw [cond_neg h,cond_pos (by omega),if_neg h,tmod_nn (by omega)]

theorem c10 : CallOk Try.prog G34 10 r10 := callOk_of (V := VG3410) mixed tys eVG3410 (f := 10) (fn := Try.f10) Try.func10 (by kernel_rfl) (c := sub (bodyOf Try.f10) []) (by kernel_rfl) (by
  intro X H r H' h hX hH
  unfold r10 at h; split at h <;> try contradiction
  · simp only [Option.some.injEq,Prod.mk.injEq] at h
    obtain ⟨hp,rfl,rfl⟩ := h
    obtain ⟨F,hF⟩ := s10 _ _ hp (hX _ (.head _)) (hX _ (.tail _ (.head _)))
    exact ⟨Af10 F,(f10_body F _ _).trans hF⟩)
def lVG3416 : List CEnt := []
def VG3416 : Env := mkEnv T34 G34 lVG3416
theorem eVG3416 : EOk Try.prog VG3416 := eok_mk (by exact trivial)
def Af16 (F : Nat) : Cuts := { F := F,at_ := fun _ => none,join := fun _ => none }
def ef16_a : (List Int) × Int → St := fun (a0,a1) => { tmps := [(0,(.vs (.rI .u8 a0) 0 1)),(1,(.int .i64 a1))],heap := [],next := 0,nt := 14,m := 0 }
def f16_1 (F : Nat) : (List Int) × Int → Rz := fun (a0,a1) => (cond ((decide ((0 : Int) ≤ (if a1 < (↑a0.length : Int) then a1 else (↑a0.length : Int)))) && (decide ((if a1 < (↑a0.length : Int) then a1 else (↑a0.length : Int)) ≤ (↑a0.length : Int)))) (cond (decide ((a0.take (Int.toNat (if a1 < (↑a0.length : Int) then a1 else (↑a0.length : Int)))).length < 1073741824)) (some ((.own 0 0 1),[(.cells ([] ++ (a0.take (Int.toNat (if a1 < (↑a0.length : Int) then a1 else (↑a0.length : Int))))).length (.rI .u8 ([] ++ (a0.take (Int.toNat (if a1 < (↑a0.length : Int) then a1 else (↑a0.length : Int)))))) true)])) none) none)
theorem f16_1_eq (F : Nat) : ∀ v,aexec VG3416 (Af16 F) (sub (bodyOf Try.f16) []) (ef16_a v) (kFin VG3416 none (Try.f16).results.toList) = f16_1 F v := by
  rintro ⟨a0,a1⟩; kernel_rfl
def f16 (F : Nat) : (List Int) × Int → Rz := f16_1 F
theorem f16_body (F : Nat) (a0 : List Int) (a1 : Int) : abody VG3416 (Af16 F) Try.f16 [(.vs (.rI .u8 a0) 0 1),(.int .i64 a1)] [] = f16 F (a0,a1) :=
  (abody_in (c := (sub (bodyOf Try.f16) [])) (by kernel_rfl) (s := ef16_a (a0,a1)) (by kernel_rfl)).trans (f16_1_eq F (a0,a1))
def r16 : CRun := fun X H => match X,H with
  | [(.vs (.rI .u8 a0) 0 1),(.int .i64 a1)],[] => some ((decide ((a0.take (Int.toNat a1)).length < 1073741000)) && (decide (0 ≤ a1)),(.own 0 0 1),[(.cells (a0.take (Int.toNat a1)).length (.rI .u8 (a0.take (Int.toNat a1))) true)])
  | _,_ => none
theorem s16 (a0 : List Int) (a1 : Int) (hp : ((decide ((a0.take (Int.toNat a1)).length < 1073741000)) && (decide (0 ≤ a1))) = true) (h0 : okV (.vs (.rI .u8 a0) 0 1)) (h1 : okV (.int .i64 a1)) : ∃ F,f16 F (a0,a1) = some ((.own 0 0 1),[(.cells (a0.take (Int.toNat a1)).length (.rI .u8 (a0.take (Int.toNat a1))) true)]) := by
  rw [dec_and,decide_eq_true_eq] at hp
  refine ⟨0,?_⟩
  simp only [f16,f16_1,dec_and,List.nil_append]
  have e : a0.take (Int.toNat (if a1 < (↑a0.length : Int) then a1 else (↑a0.length : Int))) = a0.take (Int.toNat a1) := by
    split
    · rfl
    · rw [Int.toNat_natCast,List.take_length,List.take_of_length_le (by omega)]
  rw [e,cond_pos (by split <;> omega),cond_pos (by omega)]

theorem c16 : CallOk Try.prog G34 16 r16 := callOk_of (V := VG3416) mixed tys eVG3416 (f := 16) (fn := Try.f16) Try.func16 (by kernel_rfl) (c := sub (bodyOf Try.f16) []) (by kernel_rfl) (by
  intro X H r H' h hX hH
  unfold r16 at h; split at h <;> try contradiction
  · simp only [Option.some.injEq,Prod.mk.injEq] at h
    obtain ⟨hp,rfl,rfl⟩ := h
    obtain ⟨F,hF⟩ := s16 _ _ hp (hX _ (.head _)) (hX _ (.tail _ (.head _)))
    exact ⟨Af16 F,(f16_body F _ _).trans hF⟩)
def lVG3432 : List CEnt := []
def VG3432 : Env := mkEnv T34 G34 lVG3432
theorem eVG3432 : EOk Try.prog VG3432 := eok_mk (by exact trivial)
def Af32p (F : Nat) : Cuts := { F := F,at_ := fun _ => none,join := fun _ => none,fin := (some [(2,(.view 5))]) }
def ef32p_a : (List Int) → St := fun a0 => { tmps := [(0,(.vs (.rI .u8 a0) 2 1))],heap := [],next := 0,nt := 8,m := 0 }
def f32p_1 (F : Nat) : (List Int) → Rz := fun a0 => (cond (decide ((0 + a0.length) < 1073741824)) (some ((.vs (.rI .u8 ([] ++ a0)) 0 1),[])) none)
theorem f32p_1_eq (F : Nat) : ∀ v,aexec VG3432 (Af32p F) (sub (bodyOf Try.f32) []) (ef32p_a v) (kFin VG3432 (some [(2,(.view 5))]) (Try.f32).results.toList) = f32p_1 F v := by
  intro a0; kernel_rfl
def f32p (F : Nat) : (List Int) → Rz := f32p_1 F
theorem f32p_body (F : Nat) (a0 : List Int) : abody VG3432 (Af32p F) Try.f32 [(.vs (.rI .u8 a0) 2 1)] [] = f32p F a0 :=
  (abody_in (c := (sub (bodyOf Try.f32) [])) (by kernel_rfl) (s := ef32p_a a0) (by kernel_rfl)).trans (f32p_1_eq F a0)
def Af32z (F : Nat) : Cuts := { F := F,at_ := fun _ => none,join := fun _ => none,fin := (some [(2,(.view 5))]) }
def ef32z_a : Unit → St := fun _ => { tmps := [(0,(.vs (.rI .u8 []) 3 1))],heap := [],next := 0,nt := 8,m := 0 }
def f32z_1 (F : Nat) : Unit → Rz := fun _ => (some ((.vs (.rI .u8 []) 0 1),[]))
theorem f32z_1_eq (F : Nat) : ∀ v,aexec VG3432 (Af32z F) (sub (bodyOf Try.f32) []) (ef32z_a v) (kFin VG3432 (some [(2,(.view 5))]) (Try.f32).results.toList) = f32z_1 F v := by
  intro _; kernel_rfl
def f32z (F : Nat) : Unit → Rz := f32z_1 F
theorem f32z_body (F : Nat)  : abody VG3432 (Af32z F) Try.f32 [(.vs (.rI .u8 []) 3 1)] [] = f32z F () :=
  (abody_in (c := (sub (bodyOf Try.f32) [])) (by kernel_rfl) (s := ef32z_a ()) (by kernel_rfl)).trans (f32z_1_eq F ())
def r32 : CRun := fun X H => match X,H with
  | [(.vs (.rI .u8 a0) 0 1)],[] => some ((decide (a0.length < 1073741000)),(.vs (.rI .u8 a0) 0 1),[])
  | _,_ => none
theorem s32p (a0 : List Int) (hp : ((decide (a0.length < 1073741000))) = true) (h0 : okV (.vs (.rI .u8 a0) 0 1)) : ∃ F,f32p F a0 = some ((.vs (.rI .u8 a0) 0 1),[]) := by
  rw [decide_eq_true_eq] at hp
  refine ⟨0,?_⟩
  simp only [f32p,f32p_1,List.nil_append]
  rw [cond_pos (by omega)]

theorem s32z : ∃ F,f32z F () = some ((.vs (.rI .u8 ([] : List Int)) 0 1),[]) := ⟨0,rfl⟩

theorem c32 : CallOk Try.prog G34 32 r32 := callOk_nil (V := VG3432) mixed tys eVG3432 (f := 32) (fn := Try.f32) Try.func32 (by kernel_rfl) (c := sub (bodyOf Try.f32) []) (by kernel_rfl) (by
  intro X H R H' h
  unfold r32 at h; split at h <;> try contradiction
  rename_i a0
  simp only [Option.some.injEq,Prod.mk.injEq] at h
  obtain ⟨hp,rfl,rfl⟩ := h
  refine ⟨_,rfl,rfl,fun hok => ⟨?_,fun hz => ?_⟩⟩
  · obtain ⟨F,hF⟩ := s32p a0 hp hok
    exact ⟨Af32p F,(f32p_body F a0).trans hF⟩
  · have e : a0 = [] := List.length_eq_zero_iff.mp hz
    subst e
    obtain ⟨F,hF⟩ := s32z
    exact ⟨Af32z F,(f32z_body F).trans hF⟩)
def lVG3451 : List CEnt := []
def VG3451 : Env := mkEnv T34 G34 lVG3451
theorem eVG3451 : EOk Try.prog VG3451 := eok_mk (by exact trivial)
def Af51 (F : Nat) : Cuts := { F := F,at_ := fun _ => none,join := fun _ => none,fin := (some [(4,(.own 5))]) }
def ef51_a : Int → St := fun a1 => { tmps := [(0,.ns),(1,(.int .i64 a1))],heap := [],next := 0,nt := 27,m := 0 }
def f51_1 (F : Nat) : Int → Rz := fun a1 => (cond (decide (a1 < (0 : Int))) none (cond (decide ((IntKind.i64.wrap (a1 - (0 : Int))) > (0 : Int))) (cond ((decide (0 < (IntKind.i64.wrap (a1 - (0 : Int))))) && (decide ((IntKind.i64.wrap (a1 - (0 : Int))) < 1073741824))) (cond (decide ((0 : Int) ≤ (↑(List.replicate (Int.toNat (IntKind.i64.wrap (a1 - (0 : Int)))) 0).length : Int))) (some ((.own 0 0 1),[(.cells 0 (.rI .u8 ((List.replicate (Int.toNat (IntKind.i64.wrap (a1 - (0 : Int)))) 0).take 0)) true)])) none) none) (some ((.own 0 0 1),[(.cells 0 (.rI .u8 []) true)]))))
theorem f51_1_eq (F : Nat) : ∀ v,aexec VG3451 (Af51 F) (sub (bodyOf Try.f51) []) (ef51_a v) (kFin VG3451 (some [(4,(.own 5))]) (Try.f51).results.toList) = f51_1 F v := by
  intro a1; kernel_rfl
def f51 (F : Nat) : Int → Rz := f51_1 F
theorem f51_body (F : Nat) (a1 : Int) : abody VG3451 (Af51 F) Try.f51 [.ns,(.int .i64 a1)] [] = f51 F a1 :=
  (abody_in (c := (sub (bodyOf Try.f51) [])) (by kernel_rfl) (s := ef51_a a1) (by kernel_rfl)).trans (f51_1_eq F a1)
def r51 : CRun := fun X H => match X,H with
  | [.ns,(.int .i64 a1)],[] => some (((decide (0 ≤ a1)) && (decide (a1 < 1073741000))),(.own 0 0 1),[(.cells 0 (.rI .u8 []) true)])
  | _,_ => none
theorem s51 (a1 : Int) (hp : (((decide (0 ≤ a1)) && (decide (a1 < 1073741000)))) = true) (h1 : okV (.int .i64 a1)) : ∃ F,f51 F a1 = some ((.own 0 0 1),[(.cells 0 (.rI .u8 []) true)]) := by
  rw [dec_and,decide_eq_true_eq] at hp
  refine ⟨0,?_⟩
  simp only [f51,f51_1,dec_and]
  rw [cond_neg (by omega),i64w (by omega) (by omega)]
  by_cases h : a1 - 0 > 0
  · rw [cond_pos h,cond_pos (by omega),cond_pos (by omega),List.take_zero]
  · rw [cond_neg h]

theorem c51 : CallOk Try.prog G34 51 r51 := callOk_of (V := VG3451) mixed tys eVG3451 (f := 51) (fn := Try.f51) Try.func51 (by kernel_rfl) (c := sub (bodyOf Try.f51) []) (by kernel_rfl) (by
  intro X H r H' h hX hH
  unfold r51 at h; split at h <;> try contradiction
  · simp only [Option.some.injEq,Prod.mk.injEq] at h
    obtain ⟨hp,rfl,rfl⟩ := h
    obtain ⟨F,hF⟩ := s51 _ hp (hX _ (.tail _ (.head _)))
    exact ⟨Af51 F,(f51_body F _).trans hF⟩)
def lVG3442 : List CEnt := [(51,[none,none],r51)]
def VG3442 : Env := mkEnv T34 G34 lVG3442
theorem eVG3442 : EOk Try.prog VG3442 := eok_mk (by exact ⟨c51,trivial⟩)
def Af42 (F : Nat) : Cuts := { F := F,at_ := fun n => match n with | 3018 => some sp22 | 11012 => some sp23 | _ => none,join := fun n => match n with | 1047 => some [(0,.plain)] | 2045 => some [(0,.plain),(3,.plain)] | 3020 => some sp22 | 9022 => some [(0,.plain),(3,.plain)] | 10020 => some [(0,.plain),(6,.plain)] | 11014 => some sp23 | 15003 => some [(6,.plain)] | _ => none }
def ef42_a : (List (List Int)) → St := fun a0 => { tmps := [(0,(.vs (.rL .u8 a0) 0 1))],heap := [],next := 0,nt := 36,m := 0 }
def ef42j1 : (List (List Int)) → St := fun t0 => { tmps := [(0,(.vs (.rL .u8 t0) 0 1))],heap := [],next := 0,nt := 36,m := 0 }
def ef42j2 : (List (List Int)) × Int → St := fun (t0,t3) => { tmps := [(0,(.vs (.rL .u8 t0) 0 1)),(3,(.int .i64 t3))],heap := [],next := 0,nt := 36,m := 0 }
def ef42j3 : Ty12 → St := fun (t0,t3,t9,t10,t11) => { tmps := [(0,(.vs (.rL .u8 t0) 0 1)),(3,(.int .i64 t3)),(9,(.vs (.rL .u8 t9) 0 1)),(10,(.int .i64 t10)),(11,(.int .i64 t11))],heap := [],next := 0,nt := 36,m := 0 }
def ef42l1 : Ty12 → St := fun (t0,t3,t9,t10,t11) => { tmps := [(0,(.vs (.rL .u8 t0) 0 1)),(3,(.int .i64 t3)),(9,(.vs (.rL .u8 t9) 0 1)),(10,(.int .i64 t10)),(11,(.int .i64 t11))],heap := [],next := 0,nt := 36,m := 0 }
def ef42j4 : (List (List Int)) × Int → St := fun (t0,t3) => { tmps := [(0,(.vs (.rL .u8 t0) 0 1)),(3,(.int .i64 t3))],heap := [],next := 0,nt := 36,m := 0 }
def ef42j5 : Ty13 → St := fun (t0,x2) => { tmps := [(0,(.vs (.rL .u8 t0) 0 1)),(6,(.own 0 0 1))],heap := [(0,(.cells x2.length (.rI .u8 x2) true))],next := 1,nt := 36,m := 0 }
def ef42j6 : Ty14 → St := fun (t25,t26,t27,x4) => { tmps := [(6,(.own 0 0 1)),(25,(.vs (.rL .u8 t25) 0 1)),(26,(.int .i64 t26)),(27,(.int .i64 t27))],heap := [(0,(.cells x4.length (.rI .u8 x4) true))],next := 1,nt := 36,m := 0 }
def ef42l2 : Ty14 → St := fun (t25,t26,t27,x4) => { tmps := [(6,(.own 0 0 1)),(25,(.vs (.rL .u8 t25) 0 1)),(26,(.int .i64 t26)),(27,(.int .i64 t27))],heap := [(0,(.cells x4.length (.rI .u8 x4) true))],next := 1,nt := 36,m := 0 }
def ef42j7 : (List Int) → St := fun x1 => { tmps := [(6,(.own 0 0 1))],heap := [(0,(.cells x1.length (.rI .u8 x1) true))],next := 1,nt := 36,m := 0 }
def f42_1 (F : Nat) (kf42j1 : (List (List Int)) → Rz) : (List (List Int)) → Rz := fun a0 => (kf42j1 a0)
theorem f42_1_eq (F : Nat) (Rf42j1 : St → Rz) : ∀ v,aexec VG3442 (Af42 F) (bp Try.f42 2) (ef42_a v) (kSeq (kc VG3442 Rf42j1 [(0,.plain)]) (kFin VG3442 none (Try.f42).results.toList)) = f42_1 F (Rf42j1 ∘ ef42j1) v := by
  intro a0; kernel_rfl
def f42_2 (F : Nat) (kf42j2 : (List (List Int)) × Int → Rz) : (List (List Int)) → Rz := fun t0 => (kf42j2 (t0,(0 : Int)))
theorem f42_2_eq (F : Nat) (Rf42j2 : St → Rz) : ∀ v,aexec VG3442 (Af42 F) (bp Try.f42 6) (ef42j1 v) (kSeq (kc VG3442 Rf42j2 [(0,.plain),(3,.plain)]) (kFin VG3442 none (Try.f42).results.toList)) = f42_2 F (Rf42j2 ∘ ef42j2) v := by
  intro t0; kernel_rfl
def f42_3 (F : Nat) (kf42j3 : Ty12 → Rz) (kf42j4 : (List (List Int)) × Int → Rz) : (List (List Int)) × Int → Rz := fun (t0,t3) => (kf42j3 (t0,t3,t0,(↑t0.length : Int),(0 : Int)))
theorem f42_3_eq (F : Nat) (Rf42j3 : St → Rz) (Rf42j4 : St → Rz) : ∀ v,aexec VG3442 (Af42 F) (bp Try.f42 28) (ef42j2 v) (kSeq (kc VG3442 Rf42j3 sp22) (kSeq (kc VG3442 Rf42j4 [(0,.plain),(3,.plain)]) (kFin VG3442 none (Try.f42).results.toList))) = f42_3 F (Rf42j3 ∘ ef42j3) (Rf42j4 ∘ ef42j4) v := by
  rintro ⟨t0,t3⟩; kernel_rfl
def f42_4 (F : Nat) (kf42l1 : Ty12 → Rz) (kf42j4 : (List (List Int)) × Int → Rz) : Ty12 → Rz := fun (t0,t3,t9,t10,t11) => (cond (decide (t11 < t10)) (cond ((decide (0 ≤ t11)) && (decide (t11 < (↑t9.length : Int)))) (cond (decide ((IntKind.i64.wrap (t3 + (↑(t9.getD (Int.toNat t11) []).length : Int))) < (0 : Int))) none (kf42l1 (t0,(IntKind.i64.wrap (t3 + (↑(t9.getD (Int.toNat t11) []).length : Int))),t9,t10,(IntKind.i64.wrap (t11 + (1 : Int)))))) none) (kf42j4 (t0,t3)))
theorem f42_4_eq (F : Nat) (Rf42l1 : St → Rz) (Rf42j4 : St → Rz) : ∀ v,aexec VG3442 (Af42 F) (bp Try.f42 116) (ef42l1 v) (kSeq (kc VG3442 Rf42l1 sp22) (kBlock 0 (kSeq (kc VG3442 Rf42j4 [(0,.plain),(3,.plain)]) (kFin VG3442 none (Try.f42).results.toList)))) = f42_4 F (Rf42l1 ∘ ef42l1) (Rf42j4 ∘ ef42j4) v := by
  rintro ⟨t0,t3,t9,t10,t11⟩; kernel_rfl
def f42_5_i : Ty12 → (List (List Int)) × Int × (List (List Int)) × Int × Int := fun (t0,t3,t9,t10,t11) => (t0,t3,t9,t10,t11)
def f42_5 (F : Nat) (kf42j4 : (List (List Int)) × Int → Rz) : Ty12 → Rz := fun v => loopN (fun k => f42_4 F k kf42j4) F (f42_5_i v)
theorem f42_5_eq (F : Nat) (Rf42j4 : St → Rz) : ∀ v,aexec VG3442 (Af42 F) (bp Try.f42 58) (ef42j3 v) (kBlock 0 (kSeq (kc VG3442 Rf42j4 [(0,.plain),(3,.plain)]) (kFin VG3442 none (Try.f42).results.toList))) = f42_5 F (Rf42j4 ∘ ef42j4) v :=
  loop_cut (by kernel_rfl) (by kernel_rfl) ef42j3 ef42l1 _ f42_5_i (fun k => f42_4 F k (Rf42j4 ∘ ef42j4))
    (by rintro ⟨t0,t3,t9,t10,t11⟩; kernel_rfl) (fun Rf42l1 => f42_4_eq F Rf42l1 Rf42j4)
def f42_6 (F : Nat) (kf42j4 : (List (List Int)) × Int → Rz) : Ty12 → Rz := f42_5 F kf42j4
theorem f42_6_eq (F : Nat) (Rf42j4 : St → Rz) : ∀ v,aexec VG3442 (Af42 F) (bp Try.f42 29) (ef42j3 v) (kSeq (kc VG3442 Rf42j4 [(0,.plain),(3,.plain)]) (kFin VG3442 none (Try.f42).results.toList)) = f42_6 F (Rf42j4 ∘ ef42j4) v := fun v =>
  (block_in  (by kernel_rfl) _ _).trans (f42_5_eq F Rf42j4 v)
def f42_7 (F : Nat) (kf42j4 : (List (List Int)) × Int → Rz) : (List (List Int)) × Int → Rz := fun v => f42_3 F (f42_6 F kf42j4) kf42j4 v
theorem f42_7_eq (F : Nat) (Rf42j4 : St → Rz) : ∀ v,aexec VG3442 (Af42 F) (bp Try.f42 14) (ef42j2 v) (kSeq (kc VG3442 Rf42j4 [(0,.plain),(3,.plain)]) (kFin VG3442 none (Try.f42).results.toList)) = f42_7 F (Rf42j4 ∘ ef42j4) v :=
  seq_cut (by kernel_rfl) (by kernel_rfl) ef42j2 ef42j3 _ (fun k => f42_3 F k (Rf42j4 ∘ ef42j4)) (f42_6 F (Rf42j4 ∘ ef42j4))
    (fun Rf42j3 => f42_3_eq F Rf42j3 Rf42j4) (f42_6_eq F Rf42j4)
def f42_8 (F : Nat) (kf42j5 : Ty13 → Rz) : (List (List Int)) × Int → Rz := fun (t0,t3) => (cond ((decide (0 ≤ t3)) && (decide (t3 < 1073741000))) (kf42j5 (t0,[])) none)
theorem f42_8_eq (F : Nat) (Rf42j5 : St → Rz) : ∀ v,aexec VG3442 (Af42 F) (bp Try.f42 30) (ef42j4 v) (kSeq (kc VG3442 Rf42j5 [(0,.plain),(6,.plain)]) (kFin VG3442 none (Try.f42).results.toList)) = f42_8 F (Rf42j5 ∘ ef42j5) v := by
  rintro ⟨t0,t3⟩; kernel_rfl
def f42_9 (F : Nat) (kf42j6 : Ty14 → Rz) (kf42j7 : (List Int) → Rz) : Ty13 → Rz := fun (t0,x2) => (kf42j6 (t0,(↑t0.length : Int),(0 : Int),x2))
theorem f42_9_eq (F : Nat) (Rf42j6 : St → Rz) (Rf42j7 : St → Rz) : ∀ v,aexec VG3442 (Af42 F) (bp Try.f42 124) (ef42j5 v) (kSeq (kc VG3442 Rf42j6 sp23) (kSeq (kc VG3442 Rf42j7 [(6,.plain)]) (kFin VG3442 none (Try.f42).results.toList))) = f42_9 F (Rf42j6 ∘ ef42j6) (Rf42j7 ∘ ef42j7) v := by
  rintro ⟨t0,x2⟩; kernel_rfl
def f42_10 (F : Nat) (kf42l2 : Ty14 → Rz) (kf42j7 : (List Int) → Rz) : Ty14 → Rz := fun (t25,t26,t27,x4) => (cond (decide (t27 < t26)) (cond ((decide (0 ≤ t27)) && (decide (t27 < (↑t25.length : Int)))) (cond (decide ((x4.length + (t25.getD (Int.toNat t27) []).length) < 1073741824)) (kf42l2 (t25,t26,(IntKind.i64.wrap (t27 + (1 : Int))),(x4 ++ (t25.getD (Int.toNat t27) [])))) none) none) (kf42j7 x4))
theorem f42_10_eq (F : Nat) (Rf42l2 : St → Rz) (Rf42j7 : St → Rz) : ∀ v,aexec VG3442 (Af42 F) (bp Try.f42 500) (ef42l2 v) (kSeq (kc VG3442 Rf42l2 sp23) (kBlock 2 (kSeq (kc VG3442 Rf42j7 [(6,.plain)]) (kFin VG3442 none (Try.f42).results.toList)))) = f42_10 F (Rf42l2 ∘ ef42l2) (Rf42j7 ∘ ef42j7) v := by
  rintro ⟨t25,t26,t27,x4⟩; kernel_rfl
def f42_11_i : Ty14 → (List (List Int)) × Int × Int × (List Int) := fun (t25,t26,t27,x4) => (t25,t26,t27,x4)
def f42_11 (F : Nat) (kf42j7 : (List Int) → Rz) : Ty14 → Rz := fun v => loopN (fun k => f42_10 F k kf42j7) F (f42_11_i v)
theorem f42_11_eq (F : Nat) (Rf42j7 : St → Rz) : ∀ v,aexec VG3442 (Af42 F) (bp Try.f42 250) (ef42j6 v) (kBlock 2 (kSeq (kc VG3442 Rf42j7 [(6,.plain)]) (kFin VG3442 none (Try.f42).results.toList))) = f42_11 F (Rf42j7 ∘ ef42j7) v :=
  loop_cut (by kernel_rfl) (by kernel_rfl) ef42j6 ef42l2 _ f42_11_i (fun k => f42_10 F k (Rf42j7 ∘ ef42j7))
    (by rintro ⟨t25,t26,t27,x4⟩; kernel_rfl) (fun Rf42l2 => f42_10_eq F Rf42l2 Rf42j7)
def f42_12 (F : Nat) (kf42j7 : (List Int) → Rz) : Ty14 → Rz := f42_11 F kf42j7
theorem f42_12_eq (F : Nat) (Rf42j7 : St → Rz) : ∀ v,aexec VG3442 (Af42 F) (bp Try.f42 125) (ef42j6 v) (kSeq (kc VG3442 Rf42j7 [(6,.plain)]) (kFin VG3442 none (Try.f42).results.toList)) = f42_12 F (Rf42j7 ∘ ef42j7) v := fun v =>
  (block_in  (by kernel_rfl) _ _).trans (f42_11_eq F Rf42j7 v)
def f42_13 (F : Nat) (kf42j7 : (List Int) → Rz) : Ty13 → Rz := fun v => f42_9 F (f42_12 F kf42j7) kf42j7 v
theorem f42_13_eq (F : Nat) (Rf42j7 : St → Rz) : ∀ v,aexec VG3442 (Af42 F) (bp Try.f42 62) (ef42j5 v) (kSeq (kc VG3442 Rf42j7 [(6,.plain)]) (kFin VG3442 none (Try.f42).results.toList)) = f42_13 F (Rf42j7 ∘ ef42j7) v :=
  seq_cut (by kernel_rfl) (by kernel_rfl) ef42j5 ef42j6 _ (fun k => f42_9 F k (Rf42j7 ∘ ef42j7)) (f42_12 F (Rf42j7 ∘ ef42j7))
    (fun Rf42j6 => f42_9_eq F Rf42j6 Rf42j7) (f42_12_eq F Rf42j7)
def f42_14 (F : Nat) : (List Int) → Rz := fun x1 => (some ((.own 0 0 1),[(.cells x1.length (.rI .u8 x1) true)]))
theorem f42_14_eq (F : Nat) : ∀ v,aexec VG3442 (Af42 F) (bp Try.f42 63) (ef42j7 v) (kFin VG3442 none (Try.f42).results.toList) = f42_14 F v := by
  intro x1; kernel_rfl
def f42_15 (F : Nat) : Ty13 → Rz := fun v => f42_13 F (f42_14 F) v
theorem f42_15_eq (F : Nat) : ∀ v,aexec VG3442 (Af42 F) (bp Try.f42 31) (ef42j5 v) (kFin VG3442 none (Try.f42).results.toList) = f42_15 F v :=
  seq_cut (by kernel_rfl) (by kernel_rfl) ef42j5 ef42j7 _ (fun k => f42_13 F k) (f42_14 F)
    (fun Rf42j7 => f42_13_eq F Rf42j7) (f42_14_eq F)
def f42_16 (F : Nat) : (List (List Int)) × Int → Rz := fun v => f42_8 F (f42_15 F) v
theorem f42_16_eq (F : Nat) : ∀ v,aexec VG3442 (Af42 F) (bp Try.f42 15) (ef42j4 v) (kFin VG3442 none (Try.f42).results.toList) = f42_16 F v :=
  seq_cut (by kernel_rfl) (by kernel_rfl) ef42j4 ef42j5 _ (fun k => f42_8 F k) (f42_15 F)
    (fun Rf42j5 => f42_8_eq F Rf42j5) (f42_15_eq F)
def f42_17 (F : Nat) : (List (List Int)) × Int → Rz := fun v => f42_7 F (f42_16 F) v
theorem f42_17_eq (F : Nat) : ∀ v,aexec VG3442 (Af42 F) (bp Try.f42 7) (ef42j2 v) (kFin VG3442 none (Try.f42).results.toList) = f42_17 F v :=
  seq_cut (by kernel_rfl) (by kernel_rfl) ef42j2 ef42j4 _ (fun k => f42_7 F k) (f42_16 F)
    (fun Rf42j4 => f42_7_eq F Rf42j4) (f42_16_eq F)
def f42_18 (F : Nat) : (List (List Int)) → Rz := fun v => f42_2 F (f42_17 F) v
theorem f42_18_eq (F : Nat) : ∀ v,aexec VG3442 (Af42 F) (bp Try.f42 3) (ef42j1 v) (kFin VG3442 none (Try.f42).results.toList) = f42_18 F v :=
  seq_cut (by kernel_rfl) (by kernel_rfl) ef42j1 ef42j2 _ (fun k => f42_2 F k) (f42_17 F)
    (fun Rf42j2 => f42_2_eq F Rf42j2) (f42_17_eq F)
def f42_19 (F : Nat) : (List (List Int)) → Rz := fun v => f42_1 F (f42_18 F) v
theorem f42_19_eq (F : Nat) : ∀ v,aexec VG3442 (Af42 F) (sub (bodyOf Try.f42) []) (ef42_a v) (kFin VG3442 none (Try.f42).results.toList) = f42_19 F v :=
  seq_cut (by kernel_rfl) (by kernel_rfl) ef42_a ef42j1 _ (fun k => f42_1 F k) (f42_18 F)
    (fun Rf42j1 => f42_1_eq F Rf42j1) (f42_18_eq F)
def f42 (F : Nat) : (List (List Int)) → Rz := f42_19 F
theorem f42_body (F : Nat) (a0 : List (List Int)) : abody VG3442 (Af42 F) Try.f42 [(.vs (.rL .u8 a0) 0 1)] [] = f42 F a0 :=
  (abody_in (c := (sub (bodyOf Try.f42) [])) (by kernel_rfl) (s := ef42_a a0) (by kernel_rfl)).trans (f42_19_eq F a0)
def r42 : CRun := fun X H => match X,H with
  | [(.vs (.rL .u8 a0) 0 1)],[] => some ((decide ((Lk.cat a0).length < 1073741000)),(.own 0 0 1),[(.cells (Lk.cat a0).length (.rI .u8 (Lk.cat a0)) true)])
  | _,_ => none
theorem s42 (a0 : List (List Int)) (hp : ((decide ((Lk.cat a0).length < 1073741000))) = true) (h0 : okV (.vs (.rL .u8 a0) 0 1)) : ∃ F,f42 F a0 = some ((.own 0 0 1),[(.cells (Lk.cat a0).length (.rI .u8 (Lk.cat a0)) true)]) := by
  rw [decide_eq_true_eq] at hp
  have hl0 := h0.2
  unfold Lk.cat at hp ⊢
  refine ⟨a0.length + 1,?_⟩
  simp only [f42,f42_19,f42_1,f42_18,f42_2,f42_17,f42_7,f42_3,f42_6,f42_5,f42_5_i]
  refine loopN_from (fun i => (a0,(((a0.take i).flatten.length : Nat) : Int),a0,(a0.length : Int),(i : Int))) a0.length (by simp) (fun i hi k => ?_) (fun k => ?_) _ (by omega)
  · have e1 := flatten_take' a0 i hi
    have e2 := flatten_take_le a0 (i + 1)
    rw [e1,List.length_append] at e2
    simp only [f42_4,dec_and]
    rw [Int.toNat_natCast,cond_pos (by omega),cond_pos (by omega),i64w (x := ((a0.take i).flatten.length : Int) + _) (by omega) (by omega),cond_neg (by omega),i64w (x := (i : Int) + 1) (by omega) (by omega),e1,List.length_append]
    rfl
  · simp only [f42_4]
    rw [cond_neg (by omega),List.take_length]
    simp only [f42_16,f42_8,f42_15,f42_13,f42_9,f42_12,f42_11,f42_11_i,dec_and]
    rw [cond_pos (by omega)]
    refine loopN_from (fun i => (a0,(a0.length : Int),(i : Int),(a0.take i).flatten)) a0.length (by simp) (fun i hi k => ?_) (fun k => ?_) _ (by omega)
    · have e1 := flatten_take' a0 i hi
      have e2 := flatten_take_le a0 (i + 1)
      rw [e1,List.length_append] at e2
      simp only [f42_10,dec_and]
      rw [Int.toNat_natCast,cond_pos (by omega),cond_pos (by omega),cond_pos (by omega),i64w (x := (i : Int) + 1) (by omega) (by omega),e1]
      rfl
    · simp only [f42_10]
      rw [cond_neg (by omega),List.take_length]
      rfl

theorem c42 : CallOk Try.prog G34 42 r42 := callOk_of (V := VG3442) mixed tys eVG3442 (f := 42) (fn := Try.f42) Try.func42 (by kernel_rfl) (c := sub (bodyOf Try.f42) []) (by kernel_rfl) (by
  intro X H r H' h hX hH
  unfold r42 at h; split at h <;> try contradiction
  · simp only [Option.some.injEq,Prod.mk.injEq] at h
    obtain ⟨hp,rfl,rfl⟩ := h
    obtain ⟨F,hF⟩ := s42 _ hp (hX _ (.head _))
    exact ⟨Af42 F,(f42_body F _).trans hF⟩)
def lVG3441 : List CEnt := []
def VG3441 : Env := mkEnv T34 G34 lVG3441
theorem eVG3441 : EOk Try.prog VG3441 := eok_mk (by exact trivial)
def Af41 (F : Nat) : Cuts := { F := F,at_ := fun n => match n with | 3012 => some sp24 | 9012 => some sp25 | _ => none,join := fun n => match n with | 1041 => some sp26 | 2039 => some sp27 | 3014 => some sp24 | 7022 => some [(4,.plain),(5,.plain)] | 8020 => some sp28 | 9014 => some sp25 | 13003 => some [(4,.plain),(8,.plain)] | _ => none }
def ef41_a : Int × (List Int) → St := fun (a0,a1) => { tmps := [(0,(.int .u64 a0)),(1,(.vs (.rI .u8 a1) 0 1))],heap := [],next := 0,nt := 36,m := 0 }
def ef41j1 : Ty15 → St := fun (t0,t1,x3) => { tmps := [(0,(.int .u64 t0)),(1,(.vs (.rI .u8 t1) 0 1)),(4,(.ptr 0 0 8 0 0 0 8))],heap := [(0,(.cells 8 (.rI .u8 x3) true))],next := 1,nt := 36,m := 0 }
def ef41j2 : Ty3 → St := fun (t1,t5,x3) => { tmps := [(1,(.vs (.rI .u8 t1) 0 1)),(4,(.ptr 0 0 8 0 0 0 8)),(5,(.int .u64 t5))],heap := [(0,(.cells 8 (.rI .u8 x3) true))],next := 1,nt := 36,m := 0 }
def ef41j3 : Ty16 → St := fun (t5,t12,t13,t14,x5) => { tmps := [(4,(.ptr 0 0 8 0 0 0 8)),(5,(.int .u64 t5)),(12,(.vs (.rI .u8 t12) 0 1)),(13,(.int .i64 t13)),(14,(.int .i64 t14))],heap := [(0,(.cells 8 (.rI .u8 x5) true))],next := 1,nt := 36,m := 0 }
def ef41l1 : Ty16 → St := fun (t5,t12,t13,t14,x5) => { tmps := [(4,(.ptr 0 0 8 0 0 0 8)),(5,(.int .u64 t5)),(12,(.vs (.rI .u8 t12) 0 1)),(13,(.int .i64 t13)),(14,(.int .i64 t14))],heap := [(0,(.cells 8 (.rI .u8 x5) true))],next := 1,nt := 36,m := 0 }
def ef41j4 : Int × (List Int) → St := fun (t5,x2) => { tmps := [(4,(.ptr 0 0 8 0 0 0 8)),(5,(.int .u64 t5))],heap := [(0,(.cells 8 (.rI .u8 x2) true))],next := 1,nt := 36,m := 0 }
def ef41j5 : Ty15 → St := fun (t5,x2,x3) => { tmps := [(4,(.ptr 0 0 8 0 0 0 8)),(5,(.int .u64 t5)),(8,(.ptr 1 0 8 0 0 0 8))],heap := [(0,(.cells 8 (.rI .u8 x2) true)),(1,(.cells 8 (.rI .u8 x3) true))],next := 2,nt := 36,m := 0 }
def ef41j6 : Ty1 → St := fun (t5,t24,x3,x4) => { tmps := [(4,(.ptr 0 0 8 0 0 0 8)),(5,(.int .u64 t5)),(8,(.ptr 1 0 8 0 0 0 8)),(24,(.int .i64 t24))],heap := [(0,(.cells 8 (.rI .u8 x3) true)),(1,(.cells 8 (.rI .u8 x4) true))],next := 2,nt := 36,m := 0 }
def ef41l2 : Ty1 → St := fun (t5,t24,x3,x4) => { tmps := [(4,(.ptr 0 0 8 0 0 0 8)),(5,(.int .u64 t5)),(8,(.ptr 1 0 8 0 0 0 8)),(24,(.int .i64 t24))],heap := [(0,(.cells 8 (.rI .u8 x3) true)),(1,(.cells 8 (.rI .u8 x4) true))],next := 2,nt := 36,m := 0 }
def ef41j7 : (List Int) × (List Int) → St := fun (x1,x2) => { tmps := [(4,(.ptr 0 0 8 0 0 0 8)),(8,(.ptr 1 0 8 0 0 0 8))],heap := [(0,(.cells 8 (.rI .u8 x1) true)),(1,(.cells 8 (.rI .u8 x2) true))],next := 2,nt := 36,m := 0 }
def f41_1 (F : Nat) (kf41j1 : Ty15 → Rz) : Int × (List Int) → Rz := fun (a0,a1) => (kf41j1 (a0,a1,[0,0,0,0,0,0,0,0]))
theorem f41_1_eq (F : Nat) (Rf41j1 : St → Rz) : ∀ v,aexec VG3441 (Af41 F) (bp Try.f41 2) (ef41_a v) (kSeq (kc VG3441 Rf41j1 sp26) (kFin VG3441 none (Try.f41).results.toList)) = f41_1 F (Rf41j1 ∘ ef41j1) v := by
  rintro ⟨a0,a1⟩; kernel_rfl
def f41_2 (F : Nat) (kf41j2 : Ty3 → Rz) : Ty15 → Rz := fun (t0,t1,x3) => (kf41j2 (t1,(ibits .xor .u64 (14695981039346656037 : Int) t0),x3))
theorem f41_2_eq (F : Nat) (Rf41j2 : St → Rz) : ∀ v,aexec VG3441 (Af41 F) (bp Try.f41 6) (ef41j1 v) (kSeq (kc VG3441 Rf41j2 sp27) (kFin VG3441 none (Try.f41).results.toList)) = f41_2 F (Rf41j2 ∘ ef41j2) v := by
  rintro ⟨t0,t1,x3⟩; kernel_rfl
def f41_3 (F : Nat) (kf41j3 : Ty16 → Rz) (kf41j4 : Int × (List Int) → Rz) : Ty3 → Rz := fun (t1,t5,x3) => (kf41j3 (t5,t1,(↑t1.length : Int),(0 : Int),x3))
theorem f41_3_eq (F : Nat) (Rf41j3 : St → Rz) (Rf41j4 : St → Rz) : ∀ v,aexec VG3441 (Af41 F) (bp Try.f41 28) (ef41j2 v) (kSeq (kc VG3441 Rf41j3 sp24) (kSeq (kc VG3441 Rf41j4 [(4,.plain),(5,.plain)]) (kFin VG3441 none (Try.f41).results.toList))) = f41_3 F (Rf41j3 ∘ ef41j3) (Rf41j4 ∘ ef41j4) v := by
  rintro ⟨t1,t5,x3⟩; kernel_rfl
def f41_4 (F : Nat) (kf41l1 : Ty16 → Rz) (kf41j4 : Int × (List Int) → Rz) : Ty16 → Rz := fun (t5,t12,t13,t14,x5) => (cond (decide (t14 < t13)) (cond ((decide (0 ≤ t14)) && (decide (t14 < (↑t12.length : Int)))) (kf41l1 ((IntKind.u64.wrap ((ibits .xor .u64 t5 (IntKind.u64.wrap (t12.getD (Int.toNat t14) 0))) * (1099511628211 : Int))),t12,t13,(IntKind.i64.wrap (t14 + (1 : Int))),x5)) none) (kf41j4 (t5,x5)))
theorem f41_4_eq (F : Nat) (Rf41l1 : St → Rz) (Rf41j4 : St → Rz) : ∀ v,aexec VG3441 (Af41 F) (bp Try.f41 116) (ef41l1 v) (kSeq (kc VG3441 Rf41l1 sp24) (kBlock 0 (kSeq (kc VG3441 Rf41j4 [(4,.plain),(5,.plain)]) (kFin VG3441 none (Try.f41).results.toList)))) = f41_4 F (Rf41l1 ∘ ef41l1) (Rf41j4 ∘ ef41j4) v := by
  rintro ⟨t5,t12,t13,t14,x5⟩; kernel_rfl
def f41_5_i : Ty16 → Int × (List Int) × Int × Int × (List Int) := fun (t5,t12,t13,t14,x5) => (t5,t12,t13,t14,x5)
def f41_5 (F : Nat) (kf41j4 : Int × (List Int) → Rz) : Ty16 → Rz := fun v => loopN (fun k => f41_4 F k kf41j4) F (f41_5_i v)
theorem f41_5_eq (F : Nat) (Rf41j4 : St → Rz) : ∀ v,aexec VG3441 (Af41 F) (bp Try.f41 58) (ef41j3 v) (kBlock 0 (kSeq (kc VG3441 Rf41j4 [(4,.plain),(5,.plain)]) (kFin VG3441 none (Try.f41).results.toList))) = f41_5 F (Rf41j4 ∘ ef41j4) v :=
  loop_cut (by kernel_rfl) (by kernel_rfl) ef41j3 ef41l1 _ f41_5_i (fun k => f41_4 F k (Rf41j4 ∘ ef41j4))
    (by rintro ⟨t5,t12,t13,t14,x5⟩; kernel_rfl) (fun Rf41l1 => f41_4_eq F Rf41l1 Rf41j4)
def f41_6 (F : Nat) (kf41j4 : Int × (List Int) → Rz) : Ty16 → Rz := f41_5 F kf41j4
theorem f41_6_eq (F : Nat) (Rf41j4 : St → Rz) : ∀ v,aexec VG3441 (Af41 F) (bp Try.f41 29) (ef41j3 v) (kSeq (kc VG3441 Rf41j4 [(4,.plain),(5,.plain)]) (kFin VG3441 none (Try.f41).results.toList)) = f41_6 F (Rf41j4 ∘ ef41j4) v := fun v =>
  (block_in  (by kernel_rfl) _ _).trans (f41_5_eq F Rf41j4 v)
def f41_7 (F : Nat) (kf41j4 : Int × (List Int) → Rz) : Ty3 → Rz := fun v => f41_3 F (f41_6 F kf41j4) kf41j4 v
theorem f41_7_eq (F : Nat) (Rf41j4 : St → Rz) : ∀ v,aexec VG3441 (Af41 F) (bp Try.f41 14) (ef41j2 v) (kSeq (kc VG3441 Rf41j4 [(4,.plain),(5,.plain)]) (kFin VG3441 none (Try.f41).results.toList)) = f41_7 F (Rf41j4 ∘ ef41j4) v :=
  seq_cut (by kernel_rfl) (by kernel_rfl) ef41j2 ef41j3 _ (fun k => f41_3 F k (Rf41j4 ∘ ef41j4)) (f41_6 F (Rf41j4 ∘ ef41j4))
    (fun Rf41j3 => f41_3_eq F Rf41j3 Rf41j4) (f41_6_eq F Rf41j4)
def f41_8 (F : Nat) (kf41j5 : Ty15 → Rz) : Int × (List Int) → Rz := fun (t5,x2) => (kf41j5 (t5,x2,[0,0,0,0,0,0,0,0]))
theorem f41_8_eq (F : Nat) (Rf41j5 : St → Rz) : ∀ v,aexec VG3441 (Af41 F) (bp Try.f41 30) (ef41j4 v) (kSeq (kc VG3441 Rf41j5 sp28) (kFin VG3441 none (Try.f41).results.toList)) = f41_8 F (Rf41j5 ∘ ef41j5) v := by
  rintro ⟨t5,x2⟩; kernel_rfl
def f41_9 (F : Nat) (kf41j6 : Ty1 → Rz) (kf41j7 : (List Int) × (List Int) → Rz) : Ty15 → Rz := fun (t5,x2,x3) => (kf41j6 (t5,(0 : Int),x2,x3))
theorem f41_9_eq (F : Nat) (Rf41j6 : St → Rz) (Rf41j7 : St → Rz) : ∀ v,aexec VG3441 (Af41 F) (bp Try.f41 124) (ef41j5 v) (kSeq (kc VG3441 Rf41j6 sp25) (kSeq (kc VG3441 Rf41j7 [(4,.plain),(8,.plain)]) (kFin VG3441 none (Try.f41).results.toList))) = f41_9 F (Rf41j6 ∘ ef41j6) (Rf41j7 ∘ ef41j7) v := by
  rintro ⟨t5,x2,x3⟩; kernel_rfl
def f41_10 (F : Nat) (kf41l2 : Ty1 → Rz) (kf41j7 : (List Int) × (List Int) → Rz) : Ty1 → Rz := fun (t5,t24,x3,x4) => (cond (decide (t24 < (8 : Int))) (cond (decide (0 ≤ (IntKind.i64.wrap ((8 : Int) * t24)))) (cond ((decide (0 ≤ t24)) && (decide (t24 < (8 : Int)))) (kf41l2 (t5,(IntKind.i64.wrap (t24 + (1 : Int))),x3,(x4.set (Int.toNat t24) (IntKind.u8.wrap (Int.fdiv t5 (2 ^ (min (Int.toNat (IntKind.i64.wrap ((8 : Int) * t24))) 64))))))) none) none) (kf41j7 (x3,x4)))
theorem f41_10_eq (F : Nat) (Rf41l2 : St → Rz) (Rf41j7 : St → Rz) : ∀ v,aexec VG3441 (Af41 F) (bp Try.f41 500) (ef41l2 v) (kSeq (kc VG3441 Rf41l2 sp25) (kBlock 2 (kSeq (kc VG3441 Rf41j7 [(4,.plain),(8,.plain)]) (kFin VG3441 none (Try.f41).results.toList)))) = f41_10 F (Rf41l2 ∘ ef41l2) (Rf41j7 ∘ ef41j7) v := by
  rintro ⟨t5,t24,x3,x4⟩; kernel_rfl
def f41_11_i : Ty1 → Int × Int × (List Int) × (List Int) := fun (t5,t24,x3,x4) => (t5,t24,x3,x4)
def f41_11 (F : Nat) (kf41j7 : (List Int) × (List Int) → Rz) : Ty1 → Rz := fun v => loopN (fun k => f41_10 F k kf41j7) F (f41_11_i v)
theorem f41_11_eq (F : Nat) (Rf41j7 : St → Rz) : ∀ v,aexec VG3441 (Af41 F) (bp Try.f41 250) (ef41j6 v) (kBlock 2 (kSeq (kc VG3441 Rf41j7 [(4,.plain),(8,.plain)]) (kFin VG3441 none (Try.f41).results.toList))) = f41_11 F (Rf41j7 ∘ ef41j7) v :=
  loop_cut (by kernel_rfl) (by kernel_rfl) ef41j6 ef41l2 _ f41_11_i (fun k => f41_10 F k (Rf41j7 ∘ ef41j7))
    (by rintro ⟨t5,t24,x3,x4⟩; kernel_rfl) (fun Rf41l2 => f41_10_eq F Rf41l2 Rf41j7)
def f41_12 (F : Nat) (kf41j7 : (List Int) × (List Int) → Rz) : Ty1 → Rz := f41_11 F kf41j7
theorem f41_12_eq (F : Nat) (Rf41j7 : St → Rz) : ∀ v,aexec VG3441 (Af41 F) (bp Try.f41 125) (ef41j6 v) (kSeq (kc VG3441 Rf41j7 [(4,.plain),(8,.plain)]) (kFin VG3441 none (Try.f41).results.toList)) = f41_12 F (Rf41j7 ∘ ef41j7) v := fun v =>
  (block_in  (by kernel_rfl) _ _).trans (f41_11_eq F Rf41j7 v)
def f41_13 (F : Nat) (kf41j7 : (List Int) × (List Int) → Rz) : Ty15 → Rz := fun v => f41_9 F (f41_12 F kf41j7) kf41j7 v
theorem f41_13_eq (F : Nat) (Rf41j7 : St → Rz) : ∀ v,aexec VG3441 (Af41 F) (bp Try.f41 62) (ef41j5 v) (kSeq (kc VG3441 Rf41j7 [(4,.plain),(8,.plain)]) (kFin VG3441 none (Try.f41).results.toList)) = f41_13 F (Rf41j7 ∘ ef41j7) v :=
  seq_cut (by kernel_rfl) (by kernel_rfl) ef41j5 ef41j6 _ (fun k => f41_9 F k (Rf41j7 ∘ ef41j7)) (f41_12 F (Rf41j7 ∘ ef41j7))
    (fun Rf41j6 => f41_9_eq F Rf41j6 Rf41j7) (f41_12_eq F Rf41j7)
def f41_14 (F : Nat) : (List Int) × (List Int) → Rz := fun (x1,x2) => (some ((.agg 8 (.rI .u8 x2)),[]))
theorem f41_14_eq (F : Nat) : ∀ v,aexec VG3441 (Af41 F) (bp Try.f41 63) (ef41j7 v) (kFin VG3441 none (Try.f41).results.toList) = f41_14 F v := by
  rintro ⟨x1,x2⟩; kernel_rfl
def f41_15 (F : Nat) : Ty15 → Rz := fun v => f41_13 F (f41_14 F) v
theorem f41_15_eq (F : Nat) : ∀ v,aexec VG3441 (Af41 F) (bp Try.f41 31) (ef41j5 v) (kFin VG3441 none (Try.f41).results.toList) = f41_15 F v :=
  seq_cut (by kernel_rfl) (by kernel_rfl) ef41j5 ef41j7 _ (fun k => f41_13 F k) (f41_14 F)
    (fun Rf41j7 => f41_13_eq F Rf41j7) (f41_14_eq F)
def f41_16 (F : Nat) : Int × (List Int) → Rz := fun v => f41_8 F (f41_15 F) v
theorem f41_16_eq (F : Nat) : ∀ v,aexec VG3441 (Af41 F) (bp Try.f41 15) (ef41j4 v) (kFin VG3441 none (Try.f41).results.toList) = f41_16 F v :=
  seq_cut (by kernel_rfl) (by kernel_rfl) ef41j4 ef41j5 _ (fun k => f41_8 F k) (f41_15 F)
    (fun Rf41j5 => f41_8_eq F Rf41j5) (f41_15_eq F)
def f41_17 (F : Nat) : Ty3 → Rz := fun v => f41_7 F (f41_16 F) v
theorem f41_17_eq (F : Nat) : ∀ v,aexec VG3441 (Af41 F) (bp Try.f41 7) (ef41j2 v) (kFin VG3441 none (Try.f41).results.toList) = f41_17 F v :=
  seq_cut (by kernel_rfl) (by kernel_rfl) ef41j2 ef41j4 _ (fun k => f41_7 F k) (f41_16 F)
    (fun Rf41j4 => f41_7_eq F Rf41j4) (f41_16_eq F)
def f41_18 (F : Nat) : Ty15 → Rz := fun v => f41_2 F (f41_17 F) v
theorem f41_18_eq (F : Nat) : ∀ v,aexec VG3441 (Af41 F) (bp Try.f41 3) (ef41j1 v) (kFin VG3441 none (Try.f41).results.toList) = f41_18 F v :=
  seq_cut (by kernel_rfl) (by kernel_rfl) ef41j1 ef41j2 _ (fun k => f41_2 F k) (f41_17 F)
    (fun Rf41j2 => f41_2_eq F Rf41j2) (f41_17_eq F)
def f41_19 (F : Nat) : Int × (List Int) → Rz := fun v => f41_1 F (f41_18 F) v
theorem f41_19_eq (F : Nat) : ∀ v,aexec VG3441 (Af41 F) (sub (bodyOf Try.f41) []) (ef41_a v) (kFin VG3441 none (Try.f41).results.toList) = f41_19 F v :=
  seq_cut (by kernel_rfl) (by kernel_rfl) ef41_a ef41j1 _ (fun k => f41_1 F k) (f41_18 F)
    (fun Rf41j1 => f41_1_eq F Rf41j1) (f41_18_eq F)
def f41 (F : Nat) : Int × (List Int) → Rz := f41_19 F
theorem f41_body (F : Nat) (a0 : Int) (a1 : List Int) : abody VG3441 (Af41 F) Try.f41 [(.int .u64 a0),(.vs (.rI .u8 a1) 0 1)] [] = f41 F (a0,a1) :=
  (abody_in (c := (sub (bodyOf Try.f41) [])) (by kernel_rfl) (s := ef41_a (a0,a1)) (by kernel_rfl)).trans (f41_19_eq F (a0,a1))
def r41 : CRun := fun X H => match X,H with
  | [(.int .u64 a0),(.vs (.rI .u8 a1) 0 1)],[] => some (true,(.agg 8 (.rI .u8 (Lk.seal8 (Lk.hash a0 a1)))),[])
  | _,_ => none
theorem s41 (a0 : Int) (a1 : List Int) (h0 : okV (.int .u64 a0)) (h1 : okV (.vs (.rI .u8 a1) 0 1)) : ∃ F,f41 F (a0,a1) = some ((.agg 8 (.rI .u8 (Lk.seal8 (Lk.hash a0 a1)))),[]) := by
  have hl0 := h1.2
  refine ⟨a1.length + 10,?_⟩
  simp only [f41,f41_19,f41_1,f41_18,f41_2,f41_17,f41_7,f41_3,f41_6,f41_5,f41_5_i]
  refine loopN_from (fun i => ((a1.take i).foldl Lk.mixB (ibits .xor .u64 14695981039346656037 a0),a1,(a1.length : Int),(i : Int),[0,0,0,0,0,0,0,0])) a1.length (by simp) (fun i hi k => ?_) (fun k => ?_) _ (by omega)
  · simp only [f41_4,dec_and]
    rw [Int.toNat_natCast,cond_pos (by omega),cond_pos (by omega),Lk.mixB_eq,i64w (by omega) (by omega),foldl_take Lk.mixB _ a1 i hi]
    rfl
  · simp only [f41_4]
    rw [cond_neg (by omega),List.take_length]
    change f41_16 _ _ = _
    simp only [f41_16,f41_8,f41_15,f41_13,f41_9,f41_12,f41_11,f41_11_i]
    have hr := Lk.hash_range a0 a1
    change 0 ≤ a1.foldl Lk.mixB (ibits .xor .u64 14695981039346656037 a0) ∧ a1.foldl Lk.mixB (ibits .xor .u64 14695981039346656037 a0) < 18446744073709551616 at hr
    show (_ : Rz) = some ((.agg 8 (.rI .u8 (Lk.seal8 (a1.foldl Lk.mixB (ibits .xor .u64 14695981039346656037 a0))))),[])
    generalize a1.foldl Lk.mixB (ibits .xor .u64 14695981039346656037 a0) = h at hr ⊢
    refine loopN_from (fun i => (h,(i : Int),[0,0,0,0,0,0,0,0],(List.range i).map (fun i => h / 256 ^ i % 256) ++ List.replicate (8 - i) 0)) 8 (by rfl) (fun i hi k => ?_) (fun k => ?_) _ (by omega)
    · simp only [f41_10,dec_and]
      rw [cond_pos (by omega),cond_pos (by rw [i64w (by omega) (by omega)]; omega),cond_pos (by omega),Lk.byte_at hr.1 hi,i64w (x := (i : Int) + 1) (by omega) (by omega),Int.toNat_natCast,fill_set (fun i => h / 256 ^ i % 256) 0 8 i hi rfl]
      rfl
    · simp only [f41_10]
      rw [cond_neg (by omega)]
      rfl

theorem c41 : CallOk Try.prog G34 41 r41 := callOk_of (V := VG3441) mixed tys eVG3441 (f := 41) (fn := Try.f41) Try.func41 (by kernel_rfl) (c := sub (bodyOf Try.f41) []) (by kernel_rfl) (by
  intro X H r H' h hX hH
  unfold r41 at h; split at h <;> try contradiction
  · simp only [Option.some.injEq,Prod.mk.injEq] at h
    obtain ⟨hp,rfl,rfl⟩ := h
    obtain ⟨F,hF⟩ := s41 _ _ (hX _ (.head _)) (hX _ (.tail _ (.head _)))
    exact ⟨Af41 F,(f41_body F _ _).trans hF⟩)
def lVG3417 : List CEnt := []
def VG3417 : Env := mkEnv T34 G34 lVG3417
theorem eVG3417 : EOk Try.prog VG3417 := eok_mk (by exact trivial)
def Af17 (F : Nat) : Cuts := { F := F,at_ := fun n => match n with | 3010 => some sp29 | 8012 => some sp30 | _ => none,join := fun n => match n with | 1039 => some [(0,.plain),(1,.plain)] | 2037 => some [(1,.plain),(5,.plain)] | 3012 => some sp29 | 6022 => some [(1,.plain),(5,.plain)] | 7020 => some [(5,.plain),(7,.plain)] | 8014 => some sp30 | 12003 => some [(7,.plain)] | _ => none }
def ef17_a : Int × (List Int) → St := fun (a0,a1) => { tmps := [(0,(.int .u64 a0)),(1,(.vs (.rI .u8 a1) 0 1))],heap := [],next := 0,nt := 41,m := 0 }
def ef17j1 : Int × (List Int) → St := fun (t0,t1) => { tmps := [(0,(.int .u64 t0)),(1,(.vs (.rI .u8 t1) 0 1))],heap := [],next := 0,nt := 41,m := 0 }
def ef17j2 : (List Int) × Int → St := fun (t1,t5) => { tmps := [(1,(.vs (.rI .u8 t1) 0 1)),(5,(.int .u64 t5))],heap := [],next := 0,nt := 41,m := 0 }
def ef17j3 : (List Int) × Int × Int → St := fun (t1,t5,t6) => { tmps := [(1,(.vs (.rI .u8 t1) 0 1)),(5,(.int .u64 t5)),(6,(.int .i64 t6))],heap := [],next := 0,nt := 41,m := 0 }
def ef17l1 : (List Int) × Int × Int → St := fun (t1,t5,t6) => { tmps := [(1,(.vs (.rI .u8 t1) 0 1)),(5,(.int .u64 t5)),(6,(.int .i64 t6))],heap := [],next := 0,nt := 41,m := 0 }
def ef17j4 : (List Int) × Int → St := fun (t1,t5) => { tmps := [(1,(.vs (.rI .u8 t1) 0 1)),(5,(.int .u64 t5))],heap := [],next := 0,nt := 41,m := 0 }
def ef17j5 : Int × (List Int) → St := fun (t5,x2) => { tmps := [(5,(.int .u64 t5)),(7,(.own 0 0 1))],heap := [(0,(.cells x2.length (.rI .u8 x2) true))],next := 1,nt := 41,m := 0 }
def ef17j6 : Int × Int × (List Int) → St := fun (t5,t8,x3) => { tmps := [(5,(.int .u64 t5)),(7,(.own 0 0 1)),(8,(.int .i64 t8))],heap := [(0,(.cells x3.length (.rI .u8 x3) true))],next := 1,nt := 41,m := 0 }
def ef17l2 : Int × Int × (List Int) → St := fun (t5,t8,x3) => { tmps := [(5,(.int .u64 t5)),(7,(.own 0 0 1)),(8,(.int .i64 t8))],heap := [(0,(.cells x3.length (.rI .u8 x3) true))],next := 1,nt := 41,m := 0 }
def ef17j7 : (List Int) → St := fun x1 => { tmps := [(7,(.own 0 0 1))],heap := [(0,(.cells x1.length (.rI .u8 x1) true))],next := 1,nt := 41,m := 0 }
def f17_1 (F : Nat) (kf17j1 : Int × (List Int) → Rz) : Int × (List Int) → Rz := fun (a0,a1) => (kf17j1 (a0,a1))
theorem f17_1_eq (F : Nat) (Rf17j1 : St → Rz) : ∀ v,aexec VG3417 (Af17 F) (bp Try.f17 2) (ef17_a v) (kSeq (kc VG3417 Rf17j1 [(0,.plain),(1,.plain)]) (kFin VG3417 none (Try.f17).results.toList)) = f17_1 F (Rf17j1 ∘ ef17j1) v := by
  rintro ⟨a0,a1⟩; kernel_rfl
def f17_2 (F : Nat) (kf17j2 : (List Int) × Int → Rz) : Int × (List Int) → Rz := fun (t0,t1) => (kf17j2 (t1,(ibits .xor .u64 (14695981039346656037 : Int) t0)))
theorem f17_2_eq (F : Nat) (Rf17j2 : St → Rz) : ∀ v,aexec VG3417 (Af17 F) (bp Try.f17 6) (ef17j1 v) (kSeq (kc VG3417 Rf17j2 [(1,.plain),(5,.plain)]) (kFin VG3417 none (Try.f17).results.toList)) = f17_2 F (Rf17j2 ∘ ef17j2) v := by
  rintro ⟨t0,t1⟩; kernel_rfl
def f17_3 (F : Nat) (kf17j3 : (List Int) × Int × Int → Rz) (kf17j4 : (List Int) × Int → Rz) : (List Int) × Int → Rz := fun (t1,t5) => (kf17j3 (t1,t5,(0 : Int)))
theorem f17_3_eq (F : Nat) (Rf17j3 : St → Rz) (Rf17j4 : St → Rz) : ∀ v,aexec VG3417 (Af17 F) (bp Try.f17 28) (ef17j2 v) (kSeq (kc VG3417 Rf17j3 sp29) (kSeq (kc VG3417 Rf17j4 [(1,.plain),(5,.plain)]) (kFin VG3417 none (Try.f17).results.toList))) = f17_3 F (Rf17j3 ∘ ef17j3) (Rf17j4 ∘ ef17j4) v := by
  rintro ⟨t1,t5⟩; kernel_rfl
def f17_4 (F : Nat) (kf17l1 : (List Int) × Int × Int → Rz) (kf17j4 : (List Int) × Int → Rz) : (List Int) × Int × Int → Rz := fun (t1,t5,t6) => (cond (decide (t6 < (↑t1.length : Int))) (cond ((decide (0 ≤ t6)) && (decide (t6 < (↑t1.length : Int)))) (kf17l1 (t1,(IntKind.u64.wrap ((ibits .xor .u64 t5 (IntKind.u64.wrap (t1.getD (Int.toNat t6) 0))) * (1099511628211 : Int))),(IntKind.i64.wrap (t6 + (1 : Int))))) none) (kf17j4 (t1,t5)))
theorem f17_4_eq (F : Nat) (Rf17l1 : St → Rz) (Rf17j4 : St → Rz) : ∀ v,aexec VG3417 (Af17 F) (bp Try.f17 116) (ef17l1 v) (kSeq (kc VG3417 Rf17l1 sp29) (kBlock 0 (kSeq (kc VG3417 Rf17j4 [(1,.plain),(5,.plain)]) (kFin VG3417 none (Try.f17).results.toList)))) = f17_4 F (Rf17l1 ∘ ef17l1) (Rf17j4 ∘ ef17j4) v := by
  rintro ⟨t1,t5,t6⟩; kernel_rfl
def f17_5_i : (List Int) × Int × Int → (List Int) × Int × Int := fun (t1,t5,t6) => (t1,t5,t6)
def f17_5 (F : Nat) (kf17j4 : (List Int) × Int → Rz) : (List Int) × Int × Int → Rz := fun v => loopN (fun k => f17_4 F k kf17j4) F (f17_5_i v)
theorem f17_5_eq (F : Nat) (Rf17j4 : St → Rz) : ∀ v,aexec VG3417 (Af17 F) (bp Try.f17 58) (ef17j3 v) (kBlock 0 (kSeq (kc VG3417 Rf17j4 [(1,.plain),(5,.plain)]) (kFin VG3417 none (Try.f17).results.toList))) = f17_5 F (Rf17j4 ∘ ef17j4) v :=
  loop_cut (by kernel_rfl) (by kernel_rfl) ef17j3 ef17l1 _ f17_5_i (fun k => f17_4 F k (Rf17j4 ∘ ef17j4))
    (by rintro ⟨t1,t5,t6⟩; kernel_rfl) (fun Rf17l1 => f17_4_eq F Rf17l1 Rf17j4)
def f17_6 (F : Nat) (kf17j4 : (List Int) × Int → Rz) : (List Int) × Int × Int → Rz := f17_5 F kf17j4
theorem f17_6_eq (F : Nat) (Rf17j4 : St → Rz) : ∀ v,aexec VG3417 (Af17 F) (bp Try.f17 29) (ef17j3 v) (kSeq (kc VG3417 Rf17j4 [(1,.plain),(5,.plain)]) (kFin VG3417 none (Try.f17).results.toList)) = f17_6 F (Rf17j4 ∘ ef17j4) v := fun v =>
  (block_in  (by kernel_rfl) _ _).trans (f17_5_eq F Rf17j4 v)
def f17_7 (F : Nat) (kf17j4 : (List Int) × Int → Rz) : (List Int) × Int → Rz := fun v => f17_3 F (f17_6 F kf17j4) kf17j4 v
theorem f17_7_eq (F : Nat) (Rf17j4 : St → Rz) : ∀ v,aexec VG3417 (Af17 F) (bp Try.f17 14) (ef17j2 v) (kSeq (kc VG3417 Rf17j4 [(1,.plain),(5,.plain)]) (kFin VG3417 none (Try.f17).results.toList)) = f17_7 F (Rf17j4 ∘ ef17j4) v :=
  seq_cut (by kernel_rfl) (by kernel_rfl) ef17j2 ef17j3 _ (fun k => f17_3 F k (Rf17j4 ∘ ef17j4)) (f17_6 F (Rf17j4 ∘ ef17j4))
    (fun Rf17j3 => f17_3_eq F Rf17j3 Rf17j4) (f17_6_eq F Rf17j4)
def f17_8 (F : Nat) (kf17j5 : Int × (List Int) → Rz) : (List Int) × Int → Rz := fun (t1,t5) => (cond (decide ((0 + t1.length) < 1073741824)) (kf17j5 (t5,([] ++ t1))) none)
theorem f17_8_eq (F : Nat) (Rf17j5 : St → Rz) : ∀ v,aexec VG3417 (Af17 F) (bp Try.f17 30) (ef17j4 v) (kSeq (kc VG3417 Rf17j5 [(5,.plain),(7,.plain)]) (kFin VG3417 none (Try.f17).results.toList)) = f17_8 F (Rf17j5 ∘ ef17j5) v := by
  rintro ⟨t1,t5⟩; kernel_rfl
def f17_9 (F : Nat) (kf17j6 : Int × Int × (List Int) → Rz) (kf17j7 : (List Int) → Rz) : Int × (List Int) → Rz := fun (t5,x2) => (kf17j6 (t5,(0 : Int),x2))
theorem f17_9_eq (F : Nat) (Rf17j6 : St → Rz) (Rf17j7 : St → Rz) : ∀ v,aexec VG3417 (Af17 F) (bp Try.f17 124) (ef17j5 v) (kSeq (kc VG3417 Rf17j6 sp30) (kSeq (kc VG3417 Rf17j7 [(7,.plain)]) (kFin VG3417 none (Try.f17).results.toList))) = f17_9 F (Rf17j6 ∘ ef17j6) (Rf17j7 ∘ ef17j7) v := by
  rintro ⟨t5,x2⟩; kernel_rfl
def f17_10 (F : Nat) (kf17l2 : Int × Int × (List Int) → Rz) (kf17j7 : (List Int) → Rz) : Int × Int × (List Int) → Rz := fun (t5,t8,x3) => (cond (decide (t8 < (8 : Int))) (cond (decide ((x3.length + 1) < 1073741824)) (kf17l2 ((IntKind.u64.wrap (Int.tdiv t5 (256 : Int))),(IntKind.i64.wrap (t8 + (1 : Int))),(x3 ++ [(IntKind.u8.wrap (Int.tmod t5 (256 : Int)))]))) none) (kf17j7 x3))
theorem f17_10_eq (F : Nat) (Rf17l2 : St → Rz) (Rf17j7 : St → Rz) : ∀ v,aexec VG3417 (Af17 F) (bp Try.f17 500) (ef17l2 v) (kSeq (kc VG3417 Rf17l2 sp30) (kBlock 2 (kSeq (kc VG3417 Rf17j7 [(7,.plain)]) (kFin VG3417 none (Try.f17).results.toList)))) = f17_10 F (Rf17l2 ∘ ef17l2) (Rf17j7 ∘ ef17j7) v := by
  rintro ⟨t5,t8,x3⟩; kernel_rfl
def f17_11_i : Int × Int × (List Int) → Int × Int × (List Int) := fun (t5,t8,x3) => (t5,t8,x3)
def f17_11 (F : Nat) (kf17j7 : (List Int) → Rz) : Int × Int × (List Int) → Rz := fun v => loopN (fun k => f17_10 F k kf17j7) F (f17_11_i v)
theorem f17_11_eq (F : Nat) (Rf17j7 : St → Rz) : ∀ v,aexec VG3417 (Af17 F) (bp Try.f17 250) (ef17j6 v) (kBlock 2 (kSeq (kc VG3417 Rf17j7 [(7,.plain)]) (kFin VG3417 none (Try.f17).results.toList))) = f17_11 F (Rf17j7 ∘ ef17j7) v :=
  loop_cut (by kernel_rfl) (by kernel_rfl) ef17j6 ef17l2 _ f17_11_i (fun k => f17_10 F k (Rf17j7 ∘ ef17j7))
    (by rintro ⟨t5,t8,x3⟩; kernel_rfl) (fun Rf17l2 => f17_10_eq F Rf17l2 Rf17j7)
def f17_12 (F : Nat) (kf17j7 : (List Int) → Rz) : Int × Int × (List Int) → Rz := f17_11 F kf17j7
theorem f17_12_eq (F : Nat) (Rf17j7 : St → Rz) : ∀ v,aexec VG3417 (Af17 F) (bp Try.f17 125) (ef17j6 v) (kSeq (kc VG3417 Rf17j7 [(7,.plain)]) (kFin VG3417 none (Try.f17).results.toList)) = f17_12 F (Rf17j7 ∘ ef17j7) v := fun v =>
  (block_in  (by kernel_rfl) _ _).trans (f17_11_eq F Rf17j7 v)
def f17_13 (F : Nat) (kf17j7 : (List Int) → Rz) : Int × (List Int) → Rz := fun v => f17_9 F (f17_12 F kf17j7) kf17j7 v
theorem f17_13_eq (F : Nat) (Rf17j7 : St → Rz) : ∀ v,aexec VG3417 (Af17 F) (bp Try.f17 62) (ef17j5 v) (kSeq (kc VG3417 Rf17j7 [(7,.plain)]) (kFin VG3417 none (Try.f17).results.toList)) = f17_13 F (Rf17j7 ∘ ef17j7) v :=
  seq_cut (by kernel_rfl) (by kernel_rfl) ef17j5 ef17j6 _ (fun k => f17_9 F k (Rf17j7 ∘ ef17j7)) (f17_12 F (Rf17j7 ∘ ef17j7))
    (fun Rf17j6 => f17_9_eq F Rf17j6 Rf17j7) (f17_12_eq F Rf17j7)
def f17_14 (F : Nat) : (List Int) → Rz := fun x1 => (some ((.own 0 0 1),[(.cells x1.length (.rI .u8 x1) true)]))
theorem f17_14_eq (F : Nat) : ∀ v,aexec VG3417 (Af17 F) (bp Try.f17 63) (ef17j7 v) (kFin VG3417 none (Try.f17).results.toList) = f17_14 F v := by
  intro x1; kernel_rfl
def f17_15 (F : Nat) : Int × (List Int) → Rz := fun v => f17_13 F (f17_14 F) v
theorem f17_15_eq (F : Nat) : ∀ v,aexec VG3417 (Af17 F) (bp Try.f17 31) (ef17j5 v) (kFin VG3417 none (Try.f17).results.toList) = f17_15 F v :=
  seq_cut (by kernel_rfl) (by kernel_rfl) ef17j5 ef17j7 _ (fun k => f17_13 F k) (f17_14 F)
    (fun Rf17j7 => f17_13_eq F Rf17j7) (f17_14_eq F)
def f17_16 (F : Nat) : (List Int) × Int → Rz := fun v => f17_8 F (f17_15 F) v
theorem f17_16_eq (F : Nat) : ∀ v,aexec VG3417 (Af17 F) (bp Try.f17 15) (ef17j4 v) (kFin VG3417 none (Try.f17).results.toList) = f17_16 F v :=
  seq_cut (by kernel_rfl) (by kernel_rfl) ef17j4 ef17j5 _ (fun k => f17_8 F k) (f17_15 F)
    (fun Rf17j5 => f17_8_eq F Rf17j5) (f17_15_eq F)
def f17_17 (F : Nat) : (List Int) × Int → Rz := fun v => f17_7 F (f17_16 F) v
theorem f17_17_eq (F : Nat) : ∀ v,aexec VG3417 (Af17 F) (bp Try.f17 7) (ef17j2 v) (kFin VG3417 none (Try.f17).results.toList) = f17_17 F v :=
  seq_cut (by kernel_rfl) (by kernel_rfl) ef17j2 ef17j4 _ (fun k => f17_7 F k) (f17_16 F)
    (fun Rf17j4 => f17_7_eq F Rf17j4) (f17_16_eq F)
def f17_18 (F : Nat) : Int × (List Int) → Rz := fun v => f17_2 F (f17_17 F) v
theorem f17_18_eq (F : Nat) : ∀ v,aexec VG3417 (Af17 F) (bp Try.f17 3) (ef17j1 v) (kFin VG3417 none (Try.f17).results.toList) = f17_18 F v :=
  seq_cut (by kernel_rfl) (by kernel_rfl) ef17j1 ef17j2 _ (fun k => f17_2 F k) (f17_17 F)
    (fun Rf17j2 => f17_2_eq F Rf17j2) (f17_17_eq F)
def f17_19 (F : Nat) : Int × (List Int) → Rz := fun v => f17_1 F (f17_18 F) v
theorem f17_19_eq (F : Nat) : ∀ v,aexec VG3417 (Af17 F) (sub (bodyOf Try.f17) []) (ef17_a v) (kFin VG3417 none (Try.f17).results.toList) = f17_19 F v :=
  seq_cut (by kernel_rfl) (by kernel_rfl) ef17_a ef17j1 _ (fun k => f17_1 F k) (f17_18 F)
    (fun Rf17j1 => f17_1_eq F Rf17j1) (f17_18_eq F)
def f17 (F : Nat) : Int × (List Int) → Rz := f17_19 F
theorem f17_body (F : Nat) (a0 : Int) (a1 : List Int) : abody VG3417 (Af17 F) Try.f17 [(.int .u64 a0),(.vs (.rI .u8 a1) 0 1)] [] = f17 F (a0,a1) :=
  (abody_in (c := (sub (bodyOf Try.f17) [])) (by kernel_rfl) (s := ef17_a (a0,a1)) (by kernel_rfl)).trans (f17_19_eq F (a0,a1))
def r17 : CRun := fun X H => match X,H with
  | [(.int .u64 a0),(.vs (.rI .u8 a1) 0 1)],[] => some ((decide (a1.length < 1073740000)),(.own 0 0 1),[(.cells (Lk.sealed a0 a1).length (.rI .u8 (Lk.sealed a0 a1)) true)])
  | _,_ => none
theorem s17 (a0 : Int) (a1 : List Int) (hp : ((decide (a1.length < 1073740000))) = true) (h0 : okV (.int .u64 a0)) (h1 : okV (.vs (.rI .u8 a1) 0 1)) : ∃ F,f17 F (a0,a1) = some ((.own 0 0 1),[(.cells (Lk.sealed a0 a1).length (.rI .u8 (Lk.sealed a0 a1)) true)]) := by
  have hl0 := h1.2
  rw [decide_eq_true_eq] at hp
  refine ⟨a1.length + 10,?_⟩
  simp only [f17,f17_19,f17_1,f17_18,f17_2,f17_17,f17_7,f17_3,f17_6,f17_5,f17_5_i]
  refine loopN_from (fun i => (a1,(a1.take i).foldl Lk.mixB (ibits .xor .u64 14695981039346656037 a0),(i : Int))) a1.length (by simp) (fun i hi k => ?_) (fun k => ?_) _ (by omega)
  · simp only [f17_4,dec_and]
    rw [Int.toNat_natCast,cond_pos (by omega),cond_pos (by omega),Lk.mixB_eq,i64w (by omega) (by omega),foldl_take Lk.mixB _ a1 i hi]
    rfl
  · simp only [f17_4]
    rw [cond_neg (by omega),List.take_length]
    change f17_16 _ _ = _
    simp only [f17_16,f17_8,f17_15,f17_13,f17_9,f17_12,f17_11,f17_11_i]
    rw [cond_pos (by omega),List.nil_append]
    have hr := Lk.hash_range a0 a1
    rw [Lk.sealed]
    change 0 ≤ a1.foldl Lk.mixB (ibits .xor .u64 14695981039346656037 a0) ∧ a1.foldl Lk.mixB (ibits .xor .u64 14695981039346656037 a0) < 18446744073709551616 at hr
    show (_ : Rz) = some ((.own 0 0 1),[(.cells (a1 ++ Lk.seal8 (a1.foldl Lk.mixB (ibits .xor .u64 14695981039346656037 a0))).length (.rI .u8 (a1 ++ Lk.seal8 (a1.foldl Lk.mixB (ibits .xor .u64 14695981039346656037 a0)))) true)])
    generalize a1.foldl Lk.mixB (ibits .xor .u64 14695981039346656037 a0) = h at hr ⊢
    refine loopN_from (fun i => (h / 256 ^ i,(i : Int),a1 ++ (List.range i).map (fun i => h / 256 ^ i % 256))) 8 (by simp) (fun i hi k => ?_) (fun k => ?_) _ (by omega)
    · have hq : 0 ≤ h / 256 ^ i := Int.ediv_nonneg hr.1 (Int.le_of_lt (Int.pow_pos (by omega)))
      have hq2 : h / 256 ^ i ≤ h := Int.ediv_le_self _ hr.1
      simp only [f17_10,List.length_append,List.length_map,List.length_range]
      rw [cond_pos (by omega),cond_pos (by omega),tdiv_nn hq,tmod_nn hq,u8mod,u64w (by omega) (by omega),i64w (x := (i : Int) + 1) (by omega) (by omega),List.range_succ,List.map_append,← List.append_assoc,Int.emod_emod_of_dvd _ (by omega : (256 : Int) ∣ 256),show h / 256 ^ (i + 1) = h / 256 ^ i / 256 by rw [Int.pow_succ,Int.mul_comm,Int.mul_comm,Int.ediv_ediv_of_nonneg (Int.le_of_lt (Int.pow_pos (by omega)))]]
      rfl
    · simp only [f17_10]
      rw [cond_neg (by omega)]
      rfl

theorem c17 : CallOk Try.prog G34 17 r17 := callOk_of (V := VG3417) mixed tys eVG3417 (f := 17) (fn := Try.f17) Try.func17 (by kernel_rfl) (c := sub (bodyOf Try.f17) []) (by kernel_rfl) (by
  intro X H r H' h hX hH
  unfold r17 at h; split at h <;> try contradiction
  · simp only [Option.some.injEq,Prod.mk.injEq] at h
    obtain ⟨hp,rfl,rfl⟩ := h
    obtain ⟨F,hF⟩ := s17 _ _ hp (hX _ (.head _)) (hX _ (.tail _ (.head _)))
    exact ⟨Af17 F,(f17_body F _ _).trans hF⟩)
def lVG3424 : List CEnt := [(41,[none,some 5],r41),(42,[some 33],r42)]
def VG3424 : Env := mkEnv T34 G34 lVG3424
theorem eVG3424 : EOk Try.prog VG3424 := eok_mk (by exact ⟨c41,c42,trivial⟩)
def Af24 (F : Nat) : Cuts := { F := F,at_ := fun _ => none,join := fun _ => none }
def ef24_a : Int × (List Int) → St := fun (a0,a1) => { tmps := [(0,(.int .u64 a0)),(1,(.vs (.rI .u8 a1) 0 1))],heap := [],next := 0,nt := 13,m := 0 }
def f24_1 (F : Nat) : Int × (List Int) → Rz := fun (a0,a1) => (cond (decide ((Lk.cat [a1,((Lk.seal8 (Lk.hash a0 a1)).take 8)]).length < 1073741000)) (some ((.own 0 0 1),[(.cells (Lk.cat [a1,((Lk.seal8 (Lk.hash a0 a1)).take 8)]).length (.rI .u8 (Lk.cat [a1,((Lk.seal8 (Lk.hash a0 a1)).take 8)])) true)])) none)
theorem f24_1_eq (F : Nat) : ∀ v,aexec VG3424 (Af24 F) (sub (bodyOf Try.f24) []) (ef24_a v) (kFin VG3424 none (Try.f24).results.toList) = f24_1 F v := by
  rintro ⟨a0,a1⟩; kernel_rfl
def f24 (F : Nat) : Int × (List Int) → Rz := f24_1 F
theorem f24_body (F : Nat) (a0 : Int) (a1 : List Int) : abody VG3424 (Af24 F) Try.f24 [(.int .u64 a0),(.vs (.rI .u8 a1) 0 1)] [] = f24 F (a0,a1) :=
  (abody_in (c := (sub (bodyOf Try.f24) [])) (by kernel_rfl) (s := ef24_a (a0,a1)) (by kernel_rfl)).trans (f24_1_eq F (a0,a1))
def r24 : CRun := fun X H => match X,H with
  | [(.int .u64 a0),(.vs (.rI .u8 a1) 0 1)],[] => some ((decide (a1.length < 1073740000)),(.own 0 0 1),[(.cells (Lk.sealed a0 a1).length (.rI .u8 (Lk.sealed a0 a1)) true)])
  | _,_ => none
theorem s24 (a0 : Int) (a1 : List Int) (hp : ((decide (a1.length < 1073740000))) = true) (h0 : okV (.int .u64 a0)) (h1 : okV (.vs (.rI .u8 a1) 0 1)) : ∃ F,f24 F (a0,a1) = some ((.own 0 0 1),[(.cells (Lk.sealed a0 a1).length (.rI .u8 (Lk.sealed a0 a1)) true)]) := by
  rw [decide_eq_true_eq] at hp
  refine ⟨0,?_⟩
  have e : Lk.cat [a1,(Lk.seal8 (Lk.hash a0 a1)).take 8] = Lk.sealed a0 a1 := by
    rw [List.take_of_length_le (by rw [Lk.seal8_length]; exact Nat.le_refl _)]
    simp [Lk.cat,Lk.sealed]
  simp only [f24,f24_1]
  rw [e,cond_pos (by rw [Lk.sealed_length]; omega)]

theorem c24 : CallOk Try.prog G34 24 r24 := callOk_of (V := VG3424) mixed tys eVG3424 (f := 24) (fn := Try.f24) Try.func24 (by kernel_rfl) (c := sub (bodyOf Try.f24) []) (by kernel_rfl) (by
  intro X H r H' h hX hH
  unfold r24 at h; split at h <;> try contradiction
  · simp only [Option.some.injEq,Prod.mk.injEq] at h
    obtain ⟨hp,rfl,rfl⟩ := h
    obtain ⟨F,hF⟩ := s24 _ _ hp (hX _ (.head _)) (hX _ (.tail _ (.head _)))
    exact ⟨Af24 F,(f24_body F _ _).trans hF⟩)
def lVG3425 : List CEnt := [(32,[some 5],r32),(41,[none,some 5],r41)]
def VG3425 : Env := mkEnv T34 G34 lVG3425
theorem eVG3425 : EOk Try.prog VG3425 := eok_mk (by exact ⟨c32,c41,trivial⟩)
def Af25 (F : Nat) : Cuts := { F := F,at_ := fun _ => none,join := fun _ => none,fin := (some [(4,(.view 5)),(5,.plain)]) }
def ef25_a : Int × (List Int) → St := fun (a0,a1) => { tmps := [(0,(.int .u64 a0)),(1,(.vs (.rI .u8 a1) 0 1))],heap := [],next := 0,nt := 27,m := 0 }
def f25_1 (F : Nat) : Int × (List Int) → Rz := fun (a0,a1) => (cond (decide ((IntKind.i64.wrap ((↑a1.length : Int) - (8 : Int))) < (0 : Int))) (some ((.tup (.cons 0 (.vs (.rI .u8 []) 0 1) (.cons 0 (.int .i64 (2 : Int)) .nil))),[])) (cond ((decide ((0 : Int) ≤ (IntKind.i64.wrap ((↑a1.length : Int) - (8 : Int))))) && (decide ((IntKind.i64.wrap ((↑a1.length : Int) - (8 : Int))) ≤ (↑a1.length : Int)))) (cond (((decide (0 ≤ (IntKind.i64.wrap ((↑a1.length : Int) - (8 : Int))))) && (decide ((IntKind.i64.wrap ((↑a1.length : Int) - (8 : Int))) ≤ (↑a1.length : Int)))) && (decide ((↑a1.length : Int) ≤ (↑a1.length : Int)))) (cond (decide (8 ≤ ((a1.drop (Int.toNat (IntKind.i64.wrap ((↑a1.length : Int) - (8 : Int))))).take (a1.length - (Int.toNat (IntKind.i64.wrap ((↑a1.length : Int) - (8 : Int)))))).length)) (cond (!(((Lk.seal8 (Lk.hash a0 (a1.take (Int.toNat (IntKind.i64.wrap ((↑a1.length : Int) - (8 : Int))))))) : List Int) == (((a1.drop (Int.toNat (IntKind.i64.wrap ((↑a1.length : Int) - (8 : Int))))).take (a1.length - (Int.toNat (IntKind.i64.wrap ((↑a1.length : Int) - (8 : Int)))))).take 8))) (some ((.tup (.cons 0 (.vs (.rI .u8 []) 0 1) (.cons 0 (.int .i64 (9 : Int)) .nil))),[])) (cond ((decide ((0 : Int) ≤ (IntKind.i64.wrap ((↑a1.length : Int) - (8 : Int))))) && (decide ((IntKind.i64.wrap ((↑a1.length : Int) - (8 : Int))) ≤ (↑a1.length : Int)))) (cond (decide ((a1.take (Int.toNat (IntKind.i64.wrap ((↑a1.length : Int) - (8 : Int))))).length < 1073741000)) (some ((.tup (.cons 0 (.vs (.rI .u8 (a1.take (Int.toNat (IntKind.i64.wrap ((↑a1.length : Int) - (8 : Int)))))) 0 1) (.cons 0 (.int .i64 (0 : Int)) .nil))),[])) none) none)) none) none) none))
theorem f25_1_eq (F : Nat) : ∀ v,aexec VG3425 (Af25 F) (sub (bodyOf Try.f25) []) (ef25_a v) (kFin VG3425 (some [(4,(.view 5)),(5,.plain)]) (Try.f25).results.toList) = f25_1 F v := by
  rintro ⟨a0,a1⟩; kernel_rfl
def f25 (F : Nat) : Int × (List Int) → Rz := f25_1 F
theorem f25_body (F : Nat) (a0 : Int) (a1 : List Int) : abody VG3425 (Af25 F) Try.f25 [(.int .u64 a0),(.vs (.rI .u8 a1) 0 1)] [] = f25 F (a0,a1) :=
  (abody_in (c := (sub (bodyOf Try.f25) [])) (by kernel_rfl) (s := ef25_a (a0,a1)) (by kernel_rfl)).trans (f25_1_eq F (a0,a1))
def r25 : CRun := fun X H => match X,H with
  | [(.int .u64 a0),(.vs (.rI .u8 a1) 0 1)],[] => some ((decide (a1.length < 1073740000)),(.tup (.cons 0 (.vs (.rI .u8 (Lk.openB a0 a1).1) 0 1) (.cons 0 (.int .i64 (Lk.openB a0 a1).2) .nil))),[])
  | _,_ => none
theorem s25 (a0 : Int) (a1 : List Int) (hp : ((decide (a1.length < 1073740000))) = true) (h0 : okV (.int .u64 a0)) (h1 : okV (.vs (.rI .u8 a1) 0 1)) : ∃ F,f25 F (a0,a1) = some ((.tup (.cons 0 (.vs (.rI .u8 (Lk.openB a0 a1).1) 0 1) (.cons 0 (.int .i64 (Lk.openB a0 a1).2) .nil))),[]) := by
  rw [decide_eq_true_eq] at hp
  refine ⟨0,?_⟩
  simp only [f25,f25_1,Lk.openB,lst_beq,dec_not,dec_and]
  rw [i64w (by omega) (by omega)]
  by_cases h : a1.length < 8
  · rw [if_pos h,cond_pos (by omega)]
  · have e : Int.toNat ((a1.length : Int) - 8) = a1.length - 8 := by omega
    have e2 : ((a1.drop (a1.length - 8)).take (a1.length - (a1.length - 8))) = a1.drop (a1.length - 8) := List.take_of_length_le (by rw [List.length_drop]; exact Nat.le_refl _)
    have e3 : (a1.drop (a1.length - 8)).take 8 = a1.drop (a1.length - 8) := List.take_of_length_le (by rw [List.length_drop]; omega)
    rw [if_neg h,cond_neg (by omega),cond_pos (by omega),cond_pos (by omega),e,e2,e3,cond_pos (by rw [List.length_drop]; omega)]
    by_cases hs : Lk.seal8 (Lk.hash a0 (a1.take (a1.length - 8))) = a1.drop (a1.length - 8)
    · rw [if_pos hs,cond_neg (by simpa using hs),cond_pos (by omega),cond_pos (by rw [List.length_take]; omega)]
    · rw [if_neg hs,cond_pos hs]

theorem c25 : CallOk Try.prog G34 25 r25 := callOk_of (V := VG3425) mixed tys eVG3425 (f := 25) (fn := Try.f25) Try.func25 (by kernel_rfl) (c := sub (bodyOf Try.f25) []) (by kernel_rfl) (by
  intro X H r H' h hX hH
  unfold r25 at h; split at h <;> try contradiction
  · simp only [Option.some.injEq,Prod.mk.injEq] at h
    obtain ⟨hp,rfl,rfl⟩ := h
    obtain ⟨F,hF⟩ := s25 _ _ hp (hX _ (.head _)) (hX _ (.tail _ (.head _)))
    exact ⟨Af25 F,(f25_body F _ _).trans hF⟩)
def lVG3430 : List CEnt := [(17,[none,some 5],r17),(29,[some 5,some 5],r29)]
def VG3430 : Env := mkEnv T34 G34 lVG3430
theorem eVG3430 : EOk Try.prog VG3430 := eok_mk (by exact ⟨c17,c29,trivial⟩)
def Af30 (F : Nat) : Cuts := { F := F,at_ := fun _ => none,join := fun _ => none,fin := (some [(4,(.view 5)),(5,.plain)]) }
def ef30_a : Int × (List Int) → St := fun (a0,a1) => { tmps := [(0,(.int .u64 a0)),(1,(.vs (.rI .u8 a1) 0 1))],heap := [],next := 0,nt := 23,m := 0 }
def f30_1 (F : Nat) : Int × (List Int) → Rz := fun (a0,a1) => (cond (decide ((IntKind.i64.wrap ((↑a1.length : Int) - (8 : Int))) < (0 : Int))) (some ((.tup (.cons 0 (.vs (.rI .u8 []) 0 1) (.cons 0 (.int .i64 (2 : Int)) .nil))),[])) (cond ((decide ((0 : Int) ≤ (IntKind.i64.wrap ((↑a1.length : Int) - (8 : Int))))) && (decide ((IntKind.i64.wrap ((↑a1.length : Int) - (8 : Int))) ≤ (↑a1.length : Int)))) (cond (decide ((a1.take (Int.toNat (IntKind.i64.wrap ((↑a1.length : Int) - (8 : Int))))).length < 1073740000)) (cond (!(decide ((Lk.sealed a0 (a1.take (Int.toNat (IntKind.i64.wrap ((↑a1.length : Int) - (8 : Int)))))) = a1))) (some ((.tup (.cons 0 (.vs (.rI .u8 []) 0 1) (.cons 0 (.int .i64 (9 : Int)) .nil))),[])) (cond ((decide ((0 : Int) ≤ (IntKind.i64.wrap ((↑a1.length : Int) - (8 : Int))))) && (decide ((IntKind.i64.wrap ((↑a1.length : Int) - (8 : Int))) ≤ (↑a1.length : Int)))) (some ((.tup (.cons 0 (.vs (.rI .u8 (a1.take (Int.toNat (IntKind.i64.wrap ((↑a1.length : Int) - (8 : Int)))))) 0 1) (.cons 0 (.int .i64 (0 : Int)) .nil))),[])) none)) none) none))
theorem f30_1_eq (F : Nat) : ∀ v,aexec VG3430 (Af30 F) (sub (bodyOf Try.f30) []) (ef30_a v) (kFin VG3430 (some [(4,(.view 5)),(5,.plain)]) (Try.f30).results.toList) = f30_1 F v := by
  rintro ⟨a0,a1⟩; kernel_rfl
def f30 (F : Nat) : Int × (List Int) → Rz := f30_1 F
theorem f30_body (F : Nat) (a0 : Int) (a1 : List Int) : abody VG3430 (Af30 F) Try.f30 [(.int .u64 a0),(.vs (.rI .u8 a1) 0 1)] [] = f30 F (a0,a1) :=
  (abody_in (c := (sub (bodyOf Try.f30) [])) (by kernel_rfl) (s := ef30_a (a0,a1)) (by kernel_rfl)).trans (f30_1_eq F (a0,a1))
def r30 : CRun := fun X H => match X,H with
  | [(.int .u64 a0),(.vs (.rI .u8 a1) 0 1)],[] => some ((decide (a1.length < 1073740000)),(.tup (.cons 0 (.vs (.rI .u8 (Lk.openB a0 a1).1) 0 1) (.cons 0 (.int .i64 (Lk.openB a0 a1).2) .nil))),[])
  | _,_ => none
theorem s30 (a0 : Int) (a1 : List Int) (hp : ((decide (a1.length < 1073740000))) = true) (h0 : okV (.int .u64 a0)) (h1 : okV (.vs (.rI .u8 a1) 0 1)) : ∃ F,f30 F (a0,a1) = some ((.tup (.cons 0 (.vs (.rI .u8 (Lk.openB a0 a1).1) 0 1) (.cons 0 (.int .i64 (Lk.openB a0 a1).2) .nil))),[]) := by
  rw [decide_eq_true_eq] at hp
  refine ⟨0,?_⟩
  simp only [f30,f30_1,Lk.openB,dec_not,dec_and]
  rw [i64w (by omega) (by omega)]
  by_cases h : a1.length < 8
  · rw [if_pos h,cond_pos (by omega)]
  · have e : Int.toNat ((a1.length : Int) - 8) = a1.length - 8 := by omega
    rw [if_neg h,cond_neg (by omega),cond_pos (by omega),e,cond_pos (by rw [List.length_take]; omega)]
    have e4 : Lk.sealed a0 (a1.take (a1.length - 8)) = a1 ↔ Lk.seal8 (Lk.hash a0 (a1.take (a1.length - 8))) = a1.drop (a1.length - 8) := by
      unfold Lk.sealed
      constructor
      · intro h
        have := congrArg (List.drop (a1.length - 8)) h
        rwa [List.drop_left' (by rw [List.length_take]; omega)] at this
      · intro h; rw [h,List.take_append_drop]
    by_cases hs : Lk.seal8 (Lk.hash a0 (a1.take (a1.length - 8))) = a1.drop (a1.length - 8)
    · rw [if_pos hs,cond_neg (by simpa using e4.2 hs),cond_pos (by omega)]
    · have hs' : ¬ (Lk.sealed a0 (a1.take (a1.length - 8)) = a1) := fun h => hs (e4.1 h)
      rw [if_neg hs,cond_pos hs']

theorem c30 : CallOk Try.prog G34 30 r30 := callOk_of (V := VG3430) mixed tys eVG3430 (f := 30) (fn := Try.f30) Try.func30 (by kernel_rfl) (c := sub (bodyOf Try.f30) []) (by kernel_rfl) (by
  intro X H r H' h hX hH
  unfold r30 at h; split at h <;> try contradiction
  · simp only [Option.some.injEq,Prod.mk.injEq] at h
    obtain ⟨hp,rfl,rfl⟩ := h
    obtain ⟨F,hF⟩ := s30 _ _ hp (hX _ (.head _)) (hX _ (.tail _ (.head _)))
    exact ⟨Af30 F,(f30_body F _ _).trans hF⟩)
def lVG3415 : List CEnt := [(29,[some 5,some 5],r29)]
def VG3415 : Env := mkEnv T34 G34 lVG3415
theorem eVG3415 : EOk Try.prog VG3415 := eok_mk (by exact ⟨c29,trivial⟩)
def Af15 (F : Nat) : Cuts := { F := F,at_ := fun n => match n with | 4016 => some sp9 | _ => none,join := fun n => match n with | 1032 => some [(0,.plain),(1,.plain)] | 3024 => some [(0,.plain),(1,.plain)] | 4018 => some sp9 | 8003 => some [] | _ => none }
def ef15_a : Ty17 → St := fun (a0,a1) => { tmps := [(0,(.vs (.rL .u8 a0) 0 1)),(1,(.vs (.rL .u8 a1) 0 1))],heap := [],next := 0,nt := 27,m := 0 }
def ef15j1 : Ty17 → St := fun (t0,t1) => { tmps := [(0,(.vs (.rL .u8 t0) 0 1)),(1,(.vs (.rL .u8 t1) 0 1))],heap := [],next := 0,nt := 27,m := 0 }
def ef15j2 : Ty17 → St := fun (t0,t1) => { tmps := [(0,(.vs (.rL .u8 t0) 0 1)),(1,(.vs (.rL .u8 t1) 0 1))],heap := [],next := 0,nt := 27,m := 0 }
def ef15j3 : Ty18 → St := fun (t0,t1,t5) => { tmps := [(0,(.vs (.rL .u8 t0) 0 1)),(1,(.vs (.rL .u8 t1) 0 1)),(5,(.int .i64 t5))],heap := [],next := 0,nt := 27,m := 0 }
def ef15l1 : Ty18 → St := fun (t0,t1,t5) => { tmps := [(0,(.vs (.rL .u8 t0) 0 1)),(1,(.vs (.rL .u8 t1) 0 1)),(5,(.int .i64 t5))],heap := [],next := 0,nt := 27,m := 0 }
def ef15j4 : Unit → St := fun _ => { tmps := [],heap := [],next := 0,nt := 27,m := 0 }
def f15_1 (F : Nat) (kf15j1 : Ty17 → Rz) : Ty17 → Rz := fun (a0,a1) => (kf15j1 (a0,a1))
theorem f15_1_eq (F : Nat) (Rf15j1 : St → Rz) : ∀ v,aexec VG3415 (Af15 F) (bp Try.f15 2) (ef15_a v) (kSeq (kc VG3415 Rf15j1 [(0,.plain),(1,.plain)]) (kFin VG3415 none (Try.f15).results.toList)) = f15_1 F (Rf15j1 ∘ ef15j1) v := by
  rintro ⟨a0,a1⟩; kernel_rfl
def f15_2 (F : Nat) (kf15j2 : Ty17 → Rz) : Ty17 → Rz := fun (t0,t1) => (cond ((↑t0.length : Int) != (↑t1.length : Int)) (some ((.bool false),[])) (kf15j2 (t0,t1)))
theorem f15_2_eq (F : Nat) (Rf15j2 : St → Rz) : ∀ v,aexec VG3415 (Af15 F) (bp Try.f15 6) (ef15j1 v) (kSeq (kc VG3415 Rf15j2 [(0,.plain),(1,.plain)]) (kFin VG3415 none (Try.f15).results.toList)) = f15_2 F (Rf15j2 ∘ ef15j2) v := by
  rintro ⟨t0,t1⟩; kernel_rfl
def f15_3 (F : Nat) (kf15j3 : Ty18 → Rz) (kf15j4 : Unit → Rz) : Ty17 → Rz := fun (t0,t1) => (kf15j3 (t0,t1,(0 : Int)))
theorem f15_3_eq (F : Nat) (Rf15j3 : St → Rz) (Rf15j4 : St → Rz) : ∀ v,aexec VG3415 (Af15 F) (bp Try.f15 28) (ef15j2 v) (kSeq (kc VG3415 Rf15j3 sp9) (kSeq (kc VG3415 Rf15j4 []) (kFin VG3415 none (Try.f15).results.toList))) = f15_3 F (Rf15j3 ∘ ef15j3) (Rf15j4 ∘ ef15j4) v := by
  rintro ⟨t0,t1⟩; kernel_rfl
def f15_4 (F : Nat) (kf15l1 : Ty18 → Rz) (kf15j4 : Unit → Rz) : Ty18 → Rz := fun (t0,t1,t5) => (cond (decide (t5 < (↑t0.length : Int))) (cond ((decide (0 ≤ t5)) && (decide (t5 < (↑t0.length : Int)))) (cond ((decide (0 ≤ t5)) && (decide (t5 < (↑t1.length : Int)))) (cond (!(decide ((t0.getD (Int.toNat t5) []) = (t1.getD (Int.toNat t5) [])))) (some ((.bool false),[])) (kf15l1 (t0,t1,(IntKind.i64.wrap (t5 + (1 : Int)))))) none) none) (kf15j4 ()))
theorem f15_4_eq (F : Nat) (Rf15l1 : St → Rz) (Rf15j4 : St → Rz) : ∀ v,aexec VG3415 (Af15 F) (bp Try.f15 116) (ef15l1 v) (kSeq (kc VG3415 Rf15l1 sp9) (kBlock 0 (kSeq (kc VG3415 Rf15j4 []) (kFin VG3415 none (Try.f15).results.toList)))) = f15_4 F (Rf15l1 ∘ ef15l1) (Rf15j4 ∘ ef15j4) v := by
  rintro ⟨t0,t1,t5⟩; kernel_rfl
def f15_5_i : Ty18 → (List (List Int)) × (List (List Int)) × Int := fun (t0,t1,t5) => (t0,t1,t5)
def f15_5 (F : Nat) (kf15j4 : Unit → Rz) : Ty18 → Rz := fun v => loopN (fun k => f15_4 F k kf15j4) F (f15_5_i v)
theorem f15_5_eq (F : Nat) (Rf15j4 : St → Rz) : ∀ v,aexec VG3415 (Af15 F) (bp Try.f15 58) (ef15j3 v) (kBlock 0 (kSeq (kc VG3415 Rf15j4 []) (kFin VG3415 none (Try.f15).results.toList))) = f15_5 F (Rf15j4 ∘ ef15j4) v :=
  loop_cut (by kernel_rfl) (by kernel_rfl) ef15j3 ef15l1 _ f15_5_i (fun k => f15_4 F k (Rf15j4 ∘ ef15j4))
    (by rintro ⟨t0,t1,t5⟩; kernel_rfl) (fun Rf15l1 => f15_4_eq F Rf15l1 Rf15j4)
def f15_6 (F : Nat) (kf15j4 : Unit → Rz) : Ty18 → Rz := f15_5 F kf15j4
theorem f15_6_eq (F : Nat) (Rf15j4 : St → Rz) : ∀ v,aexec VG3415 (Af15 F) (bp Try.f15 29) (ef15j3 v) (kSeq (kc VG3415 Rf15j4 []) (kFin VG3415 none (Try.f15).results.toList)) = f15_6 F (Rf15j4 ∘ ef15j4) v := fun v =>
  (block_in  (by kernel_rfl) _ _).trans (f15_5_eq F Rf15j4 v)
def f15_7 (F : Nat) (kf15j4 : Unit → Rz) : Ty17 → Rz := fun v => f15_3 F (f15_6 F kf15j4) kf15j4 v
theorem f15_7_eq (F : Nat) (Rf15j4 : St → Rz) : ∀ v,aexec VG3415 (Af15 F) (bp Try.f15 14) (ef15j2 v) (kSeq (kc VG3415 Rf15j4 []) (kFin VG3415 none (Try.f15).results.toList)) = f15_7 F (Rf15j4 ∘ ef15j4) v :=
  seq_cut (by kernel_rfl) (by kernel_rfl) ef15j2 ef15j3 _ (fun k => f15_3 F k (Rf15j4 ∘ ef15j4)) (f15_6 F (Rf15j4 ∘ ef15j4))
    (fun Rf15j3 => f15_3_eq F Rf15j3 Rf15j4) (f15_6_eq F Rf15j4)
def f15_8 (F : Nat) : Unit → Rz := fun _ => (some ((.bool true),[]))
theorem f15_8_eq (F : Nat) : ∀ v,aexec VG3415 (Af15 F) (bp Try.f15 15) (ef15j4 v) (kFin VG3415 none (Try.f15).results.toList) = f15_8 F v := by
  intro _; kernel_rfl
def f15_9 (F : Nat) : Ty17 → Rz := fun v => f15_7 F (f15_8 F) v
theorem f15_9_eq (F : Nat) : ∀ v,aexec VG3415 (Af15 F) (bp Try.f15 7) (ef15j2 v) (kFin VG3415 none (Try.f15).results.toList) = f15_9 F v :=
  seq_cut (by kernel_rfl) (by kernel_rfl) ef15j2 ef15j4 _ (fun k => f15_7 F k) (f15_8 F)
    (fun Rf15j4 => f15_7_eq F Rf15j4) (f15_8_eq F)
def f15_10 (F : Nat) : Ty17 → Rz := fun v => f15_2 F (f15_9 F) v
theorem f15_10_eq (F : Nat) : ∀ v,aexec VG3415 (Af15 F) (bp Try.f15 3) (ef15j1 v) (kFin VG3415 none (Try.f15).results.toList) = f15_10 F v :=
  seq_cut (by kernel_rfl) (by kernel_rfl) ef15j1 ef15j2 _ (fun k => f15_2 F k) (f15_9 F)
    (fun Rf15j2 => f15_2_eq F Rf15j2) (f15_9_eq F)
def f15_11 (F : Nat) : Ty17 → Rz := fun v => f15_1 F (f15_10 F) v
theorem f15_11_eq (F : Nat) : ∀ v,aexec VG3415 (Af15 F) (sub (bodyOf Try.f15) []) (ef15_a v) (kFin VG3415 none (Try.f15).results.toList) = f15_11 F v :=
  seq_cut (by kernel_rfl) (by kernel_rfl) ef15_a ef15j1 _ (fun k => f15_1 F k) (f15_10 F)
    (fun Rf15j1 => f15_1_eq F Rf15j1) (f15_10_eq F)
def f15 (F : Nat) : Ty17 → Rz := f15_11 F
theorem f15_body (F : Nat) (a0 : List (List Int)) (a1 : List (List Int)) : abody VG3415 (Af15 F) Try.f15 [(.vs (.rL .u8 a0) 0 1),(.vs (.rL .u8 a1) 0 1)] [] = f15 F (a0,a1) :=
  (abody_in (c := (sub (bodyOf Try.f15) [])) (by kernel_rfl) (s := ef15_a (a0,a1)) (by kernel_rfl)).trans (f15_11_eq F (a0,a1))
def r15 : CRun := fun X H => match X,H with
  | [(.vs (.rL .u8 a0) 0 1),(.vs (.rL .u8 a1) 0 1)],[] => some (true,(.bool (decide (a0 = a1))),[])
  | _,_ => none
theorem s15 (a0 : List (List Int)) (a1 : List (List Int)) (h0 : okV (.vs (.rL .u8 a0) 0 1)) (h1 : okV (.vs (.rL .u8 a1) 0 1)) : ∃ F,f15 F (a0,a1) = some ((.bool (decide (a0 = a1))),[]) := by
  have hl0 := h0.2
  have hl1 := h1.2
  refine ⟨a0.length + 1,?_⟩
  simp only [f15,f15_11,f15_1,f15_10,f15_2,int_bne]
  by_cases hl : a0.length = a1.length
  · rw [cond_neg (by omega)]
    simp only [f15_9,f15_7,f15_3,f15_6,f15_5,f15_5_i]
    refine loopN_ind (fun m s => s.1 = a0 ∧ s.2.1 = a1 ∧ s.2.2 = ((a0.length - m : Nat) : Int) ∧ m ≤ a0.length ∧ ∀ i,i < a0.length - m → a0.getD i [] = a1.getD i []) ?_ _ a0.length _ (by omega) ⟨rfl,rfl,by simp,Nat.le_refl _,fun i hi => by omega⟩
    rintro m ⟨t0,t1,t5⟩ k ⟨e1,e2,e3,hm,hi⟩ hk
    simp only at e1 e2 e3 hi
    subst e1; subst e2; subst e3
    simp only [f15_4,dec_and,dec_not]
    cases m with
    | zero =>
      rw [cond_neg (by omega),decide_eq_true (list_eq [] hl fun i h => hi i (by omega))]
      rfl
    | succ m =>
      rw [Int.toNat_natCast,cond_pos (by omega),cond_pos (by omega),cond_pos (by omega)]
      by_cases he : t0.getD (t0.length - (m + 1)) [] = t1.getD (t0.length - (m + 1)) []
      · rw [cond_neg (fun h => h he),i64w (by omega) (by omega)]
        refine hk m _ (by omega) ⟨rfl,rfl,by simp only []; omega,by omega,fun i hi' => ?_⟩
        by_cases hh : i < t0.length - (m + 1)
        · exact hi i hh
        · rw [show i = t0.length - (m + 1) by omega]; exact he
      · rw [cond_pos he,decide_eq_false (fun e => he (by rw [e]))]
  · rw [cond_pos (by omega),decide_eq_false (fun e => hl (by rw [e]))]

theorem c15 : CallOk Try.prog G34 15 r15 := callOk_of (V := VG3415) mixed tys eVG3415 (f := 15) (fn := Try.f15) Try.func15 (by kernel_rfl) (c := sub (bodyOf Try.f15) []) (by kernel_rfl) (by
  intro X H r H' h hX hH
  unfold r15 at h; split at h <;> try contradiction
  · simp only [Option.some.injEq,Prod.mk.injEq] at h
    obtain ⟨hp,rfl,rfl⟩ := h
    obtain ⟨F,hF⟩ := s15 _ _ (hX _ (.head _)) (hX _ (.tail _ (.head _)))
    exact ⟨Af15 F,(f15_body F _ _).trans hF⟩)
def lVG3433 : List CEnt := [(26,[some 3],r26),(27,[none],r27),(42,[some 33],r42)]
def VG3433 : Env := mkEnv T34 G34 lVG3433
theorem eVG3433 : EOk Try.prog VG3433 := eok_mk (by exact ⟨c26,c27,c42,trivial⟩)
def Af33 (F : Nat) : Cuts := { F := F,at_ := fun _ => none,join := fun _ => none }
def ef33_a : Int × Int × (List Int) → St := fun (a0,a1,a2) => { tmps := [(0,(.agg 3 (.segs (.cons 1 (.one (.int .i64 a0)) (.cons 1 (.one (.int .i64 a1)) (.cons 1 (.one (.vs (.rI .u8 a2) 0 1)) .nil))))))],heap := [],next := 0,nt := 15,m := 0 }
def f33_1 (F : Nat) : Int × Int × (List Int) → Rz := fun (a0,a1,a2) => (cond (decide ((Wire.ints [a0,a1]).length < 1073741000)) (cond (decide (a2.length < 1073741000)) (cond (decide ((Lk.cat [(Wire.ints [a0,a1]),(Wire.bytes a2)]).length < 1073741000)) (some ((.own 0 0 1),[(.cells (Lk.cat [(Wire.ints [a0,a1]),(Wire.bytes a2)]).length (.rI .u8 (Lk.cat [(Wire.ints [a0,a1]),(Wire.bytes a2)])) true)])) none) none) none)
theorem f33_1_eq (F : Nat) : ∀ v,aexec VG3433 (Af33 F) (sub (bodyOf Try.f33) []) (ef33_a v) (kFin VG3433 none (Try.f33).results.toList) = f33_1 F v := by
  rintro ⟨a0,a1,a2⟩; kernel_rfl
def f33 (F : Nat) : Int × Int × (List Int) → Rz := f33_1 F
theorem f33_body (F : Nat) (a0 : Int) (a1 : Int) (a2 : List Int) : abody VG3433 (Af33 F) Try.f33 [(.agg 3 (.segs (.cons 1 (.one (.int .i64 a0)) (.cons 1 (.one (.int .i64 a1)) (.cons 1 (.one (.vs (.rI .u8 a2) 0 1)) .nil)))))] [] = f33 F (a0,a1,a2) :=
  (abody_in (c := (sub (bodyOf Try.f33) [])) (by kernel_rfl) (s := ef33_a (a0,a1,a2)) (by kernel_rfl)).trans (f33_1_eq F (a0,a1,a2))
def Af33n (F : Nat) : Cuts := { F := F,at_ := fun _ => none,join := fun _ => none }
def ef33n_a : Int × Int → St := fun (a0,a1) => { tmps := [(0,(.agg 3 (.segs (.cons 1 (.one (.int .i64 a0)) (.cons 1 (.one (.int .i64 a1)) (.cons 1 (.one .ns) .nil))))))],heap := [],next := 0,nt := 15,m := 0 }
def f33n_1 (F : Nat) : Int × Int → Rz := fun (a0,a1) => (cond (decide ((Wire.ints [a0,a1]).length < 1073741000)) (cond (decide (([] : List Int).length < 1073741000)) (cond (decide ((Lk.cat [(Wire.ints [a0,a1]),(Wire.bytes ([] : List Int))]).length < 1073741000)) (some ((.own 0 0 1),[(.cells (Lk.cat [(Wire.ints [a0,a1]),(Wire.bytes ([] : List Int))]).length (.rI .u8 (Lk.cat [(Wire.ints [a0,a1]),(Wire.bytes ([] : List Int))])) true)])) none) none) none)
theorem f33n_1_eq (F : Nat) : ∀ v,aexec VG3433 (Af33n F) (sub (bodyOf Try.f33) []) (ef33n_a v) (kFin VG3433 none (Try.f33).results.toList) = f33n_1 F v := by
  rintro ⟨a0,a1⟩; kernel_rfl
def f33n (F : Nat) : Int × Int → Rz := f33n_1 F
theorem f33n_body (F : Nat) (a0 : Int) (a1 : Int) : abody VG3433 (Af33n F) Try.f33 [(.agg 3 (.segs (.cons 1 (.one (.int .i64 a0)) (.cons 1 (.one (.int .i64 a1)) (.cons 1 (.one .ns) .nil)))))] [] = f33n F (a0,a1) :=
  (abody_in (c := (sub (bodyOf Try.f33) [])) (by kernel_rfl) (s := ef33n_a (a0,a1)) (by kernel_rfl)).trans (f33n_1_eq F (a0,a1))
def r33 : CRun := fun X H => match X,H with
  | [(.agg 3 (.segs (.cons 1 (.one (.int .i64 a0)) (.cons 1 (.one (.int .i64 a1)) (.cons 1 (.one (.vs (.rI .u8 a2) 0 1)) .nil)))))],[] => some ((decide (a2.length < 65537)),(.own 0 0 1),[(.cells (Lk.pbytes a0 a1 a2).length (.rI .u8 (Lk.pbytes a0 a1 a2)) true)])
  | [(.agg 3 (.segs (.cons 1 (.one (.int .i64 a0)) (.cons 1 (.one (.int .i64 a1)) (.cons 1 (.one .ns) .nil)))))],[] => some (true,(.own 0 0 1),[(.cells (Lk.pbytes a0 a1 []).length (.rI .u8 (Lk.pbytes a0 a1 [])) true)])
  | _,_ => none
theorem s33 (a0 : Int) (a1 : Int) (a2 : List Int) (hp : ((decide (a2.length < 65537))) = true) (h0 : okV (.agg 3 (.segs (.cons 1 (.one (.int .i64 a0)) (.cons 1 (.one (.int .i64 a1)) (.cons 1 (.one (.vs (.rI .u8 a2) 0 1)) .nil)))))) : ∃ F,f33 F (a0,a1,a2) = some ((.own 0 0 1),[(.cells (Lk.pbytes a0 a1 a2).length (.rI .u8 (Lk.pbytes a0 a1 a2)) true)]) := by
  rw [decide_eq_true_eq] at hp
  have e : Lk.cat [Wire.ints [a0,a1],Wire.bytes a2] = Lk.pbytes a0 a1 a2 := by simp [Lk.cat,Lk.pbytes]
  have := Lk.ints2_length a0 a1
  have := Lk.pbytes_length a0 a1 a2
  refine ⟨0,?_⟩
  simp only [f33,f33_1]
  rw [e,cond_pos (by omega),cond_pos (by omega),cond_pos (by omega)]

theorem s33n (a0 : Int) (a1 : Int) (h0 : okV (.agg 3 (.segs (.cons 1 (.one (.int .i64 a0)) (.cons 1 (.one (.int .i64 a1)) (.cons 1 (.one .ns) .nil)))))) : ∃ F,f33n F (a0,a1) = some ((.own 0 0 1),[(.cells (Lk.pbytes a0 a1 []).length (.rI .u8 (Lk.pbytes a0 a1 [])) true)]) := by
  have e : Lk.cat [Wire.ints [a0,a1],Wire.bytes []] = Lk.pbytes a0 a1 [] := by simp [Lk.cat,Lk.pbytes]
  have := Lk.ints2_length a0 a1
  have := Lk.pbytes_length a0 a1 []
  simp only [List.length_nil] at this
  refine ⟨0,?_⟩
  simp only [f33n,f33n_1]
  rw [e,cond_pos (by omega)]
  first | rw [cond_pos (by simp),cond_pos (by omega)] | rw [cond_pos (by omega)] | rfl

theorem c33 : CallOk Try.prog G34 33 r33 := callOk_of (V := VG3433) mixed tys eVG3433 (f := 33) (fn := Try.f33) Try.func33 (by kernel_rfl) (c := sub (bodyOf Try.f33) []) (by kernel_rfl) (by
  intro X H r H' h hX hH
  unfold r33 at h; split at h <;> try contradiction
  · simp only [Option.some.injEq,Prod.mk.injEq] at h
    obtain ⟨hp,rfl,rfl⟩ := h
    obtain ⟨F,hF⟩ := s33 _ _ _ hp (hX _ (.head _))
    exact ⟨Af33 F,(f33_body F _ _ _).trans hF⟩
  · simp only [Option.some.injEq,Prod.mk.injEq] at h
    obtain ⟨hp,rfl,rfl⟩ := h
    obtain ⟨F,hF⟩ := s33n _ _ (hX _ (.head _))
    exact ⟨Af33n F,(f33n_body F _ _).trans hF⟩)
def lVG3418 : List CEnt := [(34,[some 3],r34),(35,[none],r35)]
def VG3418 : Env := mkEnv T34 G34 lVG3418
theorem eVG3418 : EOk Try.prog VG3418 := eok_mk (by exact ⟨c34,c35,trivial⟩)
def Af18 (F : Nat) : Cuts := { F := F,at_ := fun _ => none,join := fun _ => none }
def ef18_a : Int × Int × (List Int) → St := fun (a0,a1,a2) => { tmps := [(0,(.agg 3 (.segs (.cons 1 (.one (.int .i64 a0)) (.cons 1 (.one (.int .i64 a1)) (.cons 1 (.one (.vs (.rI .u8 a2) 0 1)) .nil))))))],heap := [],next := 0,nt := 16,m := 0 }
def f18_1 (F : Nat) : Int × Int × (List Int) → Rz := fun (a0,a1,a2) => (cond (decide ((Wire.ints [a0,a1]).length < 1073741000)) (cond (decide (a2.length < 1073741000)) (cond (decide (((Wire.ints [a0,a1]).length + (Wire.bytes a2).length) < 1073741824)) (some ((.own 0 0 1),[(.cells ((Wire.ints [a0,a1]) ++ (Wire.bytes a2)).length (.rI .u8 ((Wire.ints [a0,a1]) ++ (Wire.bytes a2))) true)])) none) none) none)
theorem f18_1_eq (F : Nat) : ∀ v,aexec VG3418 (Af18 F) (sub (bodyOf Try.f18) []) (ef18_a v) (kFin VG3418 none (Try.f18).results.toList) = f18_1 F v := by
  rintro ⟨a0,a1,a2⟩; kernel_rfl
def f18 (F : Nat) : Int × Int × (List Int) → Rz := f18_1 F
theorem f18_body (F : Nat) (a0 : Int) (a1 : Int) (a2 : List Int) : abody VG3418 (Af18 F) Try.f18 [(.agg 3 (.segs (.cons 1 (.one (.int .i64 a0)) (.cons 1 (.one (.int .i64 a1)) (.cons 1 (.one (.vs (.rI .u8 a2) 0 1)) .nil)))))] [] = f18 F (a0,a1,a2) :=
  (abody_in (c := (sub (bodyOf Try.f18) [])) (by kernel_rfl) (s := ef18_a (a0,a1,a2)) (by kernel_rfl)).trans (f18_1_eq F (a0,a1,a2))
def Af18n (F : Nat) : Cuts := { F := F,at_ := fun _ => none,join := fun _ => none }
def ef18n_a : Int × Int → St := fun (a0,a1) => { tmps := [(0,(.agg 3 (.segs (.cons 1 (.one (.int .i64 a0)) (.cons 1 (.one (.int .i64 a1)) (.cons 1 (.one .ns) .nil))))))],heap := [],next := 0,nt := 16,m := 0 }
def f18n_1 (F : Nat) : Int × Int → Rz := fun (a0,a1) => (cond (decide ((Wire.ints [a0,a1]).length < 1073741000)) (cond (decide (([] : List Int).length < 1073741000)) (cond (decide (((Wire.ints [a0,a1]).length + (Wire.bytes ([] : List Int)).length) < 1073741824)) (some ((.own 0 0 1),[(.cells ((Wire.ints [a0,a1]) ++ (Wire.bytes ([] : List Int))).length (.rI .u8 ((Wire.ints [a0,a1]) ++ (Wire.bytes ([] : List Int)))) true)])) none) none) none)
theorem f18n_1_eq (F : Nat) : ∀ v,aexec VG3418 (Af18n F) (sub (bodyOf Try.f18) []) (ef18n_a v) (kFin VG3418 none (Try.f18).results.toList) = f18n_1 F v := by
  rintro ⟨a0,a1⟩; kernel_rfl
def f18n (F : Nat) : Int × Int → Rz := f18n_1 F
theorem f18n_body (F : Nat) (a0 : Int) (a1 : Int) : abody VG3418 (Af18n F) Try.f18 [(.agg 3 (.segs (.cons 1 (.one (.int .i64 a0)) (.cons 1 (.one (.int .i64 a1)) (.cons 1 (.one .ns) .nil)))))] [] = f18n F (a0,a1) :=
  (abody_in (c := (sub (bodyOf Try.f18) [])) (by kernel_rfl) (s := ef18n_a (a0,a1)) (by kernel_rfl)).trans (f18n_1_eq F (a0,a1))
def Af18o (F : Nat) : Cuts := { F := F,at_ := fun _ => none,join := fun _ => none }
def ef18o_a : Int × Int × (List Int) → St := fun (a0,a1,a2) => { tmps := [(0,(.agg 3 (.segs (.cons 1 (.one (.int .i64 a0)) (.cons 1 (.one (.int .i64 a1)) (.cons 1 (.one (.own 0 0 1)) .nil))))))],heap := [(0,(.cells a2.length (.rI .u8 a2) true))],next := 1,nt := 16,m := 1 }
def f18o_1 (F : Nat) : Int × Int × (List Int) → Rz := fun (a0,a1,a2) => (cond (decide ((Wire.ints [a0,a1]).length < 1073741000)) (cond (decide (a2.length < 1073741000)) (cond (decide (((Wire.ints [a0,a1]).length + (Wire.bytes a2).length) < 1073741824)) (some ((.own 1 0 1),[(.cells a2.length (.rI .u8 a2) true),(.cells ((Wire.ints [a0,a1]) ++ (Wire.bytes a2)).length (.rI .u8 ((Wire.ints [a0,a1]) ++ (Wire.bytes a2))) true)])) none) none) none)
theorem f18o_1_eq (F : Nat) : ∀ v,aexec VG3418 (Af18o F) (sub (bodyOf Try.f18) []) (ef18o_a v) (kFin VG3418 none (Try.f18).results.toList) = f18o_1 F v := by
  rintro ⟨a0,a1,a2⟩; kernel_rfl
def f18o (F : Nat) : Int × Int × (List Int) → Rz := f18o_1 F
theorem f18o_body (F : Nat) (a0 : Int) (a1 : Int) (a2 : List Int) : abody VG3418 (Af18o F) Try.f18 [(.agg 3 (.segs (.cons 1 (.one (.int .i64 a0)) (.cons 1 (.one (.int .i64 a1)) (.cons 1 (.one (.own 0 0 1)) .nil)))))] [(.cells a2.length (.rI .u8 a2) true)] = f18o F (a0,a1,a2) :=
  (abody_in (c := (sub (bodyOf Try.f18) [])) (by kernel_rfl) (s := ef18o_a (a0,a1,a2)) (by kernel_rfl)).trans (f18o_1_eq F (a0,a1,a2))
def Af18s (F : Nat) : Cuts := { F := F,at_ := fun _ => none,join := fun _ => none }
def ef18s_a : Ty19 → St := fun (a0,a1,a2,a3n,a4n) => { tmps := [(0,(.agg 3 (.segs (.cons 1 (.one (.int .i64 a0)) (.cons 1 (.one (.int .i64 a1)) (.cons 1 (.one (.sl 0 0 a4n 0 a3n 1)) .nil))))))],heap := [(0,(.cells a2.length (.rI .u8 a2) true))],next := 1,nt := 16,m := 1 }
def f18s_1 (F : Nat) : Ty19 → Rz := fun (a0,a1,a2,a3n,a4n) => (cond (decide ((Wire.ints [a0,a1]).length < 1073741000)) (cond (decide ((a2.take a3n).length < 1073741000)) (cond (decide (((Wire.ints [a0,a1]).length + (Wire.bytes (a2.take a3n)).length) < 1073741824)) (some ((.own 1 0 1),[(.cells a2.length (.rI .u8 a2) true),(.cells ((Wire.ints [a0,a1]) ++ (Wire.bytes (a2.take a3n))).length (.rI .u8 ((Wire.ints [a0,a1]) ++ (Wire.bytes (a2.take a3n)))) true)])) none) none) none)
theorem f18s_1_eq (F : Nat) : ∀ v,aexec VG3418 (Af18s F) (sub (bodyOf Try.f18) []) (ef18s_a v) (kFin VG3418 none (Try.f18).results.toList) = f18s_1 F v := by
  rintro ⟨a0,a1,a2,a3n,a4n⟩; kernel_rfl
def f18s (F : Nat) : Ty19 → Rz := f18s_1 F
theorem f18s_body (F : Nat) (a0 : Int) (a1 : Int) (a2 : List Int) (a3n : Nat) (a4n : Nat) : abody VG3418 (Af18s F) Try.f18 [(.agg 3 (.segs (.cons 1 (.one (.int .i64 a0)) (.cons 1 (.one (.int .i64 a1)) (.cons 1 (.one (.sl 0 0 a4n 0 a3n 1)) .nil)))))] [(.cells a2.length (.rI .u8 a2) true)] = f18s F (a0,a1,a2,a3n,a4n) :=
  (abody_in (c := (sub (bodyOf Try.f18) [])) (by kernel_rfl) (s := ef18s_a (a0,a1,a2,a3n,a4n)) (by kernel_rfl)).trans (f18s_1_eq F (a0,a1,a2,a3n,a4n))
def r18 : CRun := fun X H => match X,H with
  | [(.agg 3 (.segs (.cons 1 (.one (.int .i64 a0)) (.cons 1 (.one (.int .i64 a1)) (.cons 1 (.one (.vs (.rI .u8 a2) 0 1)) .nil)))))],[] => some ((decide (a2.length < 65537)),(.own 0 0 1),[(.cells (Lk.pbytes a0 a1 a2).length (.rI .u8 (Lk.pbytes a0 a1 a2)) true)])
  | [(.agg 3 (.segs (.cons 1 (.one (.int .i64 a0)) (.cons 1 (.one (.int .i64 a1)) (.cons 1 (.one .ns) .nil)))))],[] => some (true,(.own 0 0 1),[(.cells (Lk.pbytes a0 a1 []).length (.rI .u8 (Lk.pbytes a0 a1 [])) true)])
  | [(.agg 3 (.segs (.cons 1 (.one (.int .i64 a0)) (.cons 1 (.one (.int .i64 a1)) (.cons 1 (.one (.own 0 0 1)) .nil)))))],[(.cells z0 (.rI .u8 a2) true)] => some ((decide (a2.length < 65537)),(.own 1 0 1),[(.cells a2.length (.rI .u8 a2) true),(.cells (Lk.pbytes a0 a1 a2).length (.rI .u8 (Lk.pbytes a0 a1 a2)) true)])
  | [(.agg 3 (.segs (.cons 1 (.one (.int .i64 a0)) (.cons 1 (.one (.int .i64 a1)) (.cons 1 (.one (.sl 0 0 a4n 0 a3n 1)) .nil)))))],[(.cells z0 (.rI .u8 a2) true)] => some ((decide (a3n ≤ a2.length)) && (decide (a3n < 65537)),(.own 1 0 1),[(.cells a2.length (.rI .u8 a2) true),(.cells (Lk.pbytes a0 a1 (a2.take a3n)).length (.rI .u8 (Lk.pbytes a0 a1 (a2.take a3n))) true)])
  | _,_ => none
theorem s18 (a0 : Int) (a1 : Int) (a2 : List Int) (hp : ((decide (a2.length < 65537))) = true) (h0 : okV (.agg 3 (.segs (.cons 1 (.one (.int .i64 a0)) (.cons 1 (.one (.int .i64 a1)) (.cons 1 (.one (.vs (.rI .u8 a2) 0 1)) .nil)))))) : ∃ F,f18 F (a0,a1,a2) = some ((.own 0 0 1),[(.cells (Lk.pbytes a0 a1 a2).length (.rI .u8 (Lk.pbytes a0 a1 a2)) true)]) := by
  rw [decide_eq_true_eq] at hp
  have := Lk.ints2_length a0 a1
  have := Lk.pbytes_length a0 a1 a2
  have e : (Lk.pbytes a0 a1 a2).length = (Wire.ints [a0,a1]).length + (Wire.bytes a2).length := by simp [Lk.pbytes]
  refine ⟨0,?_⟩
  simp only [f18,f18_1]
  rw [cond_pos (by omega),cond_pos (by omega),cond_pos (by omega)]
  rfl

theorem s18n (a0 : Int) (a1 : Int) (h0 : okV (.agg 3 (.segs (.cons 1 (.one (.int .i64 a0)) (.cons 1 (.one (.int .i64 a1)) (.cons 1 (.one .ns) .nil)))))) : ∃ F,f18n F (a0,a1) = some ((.own 0 0 1),[(.cells (Lk.pbytes a0 a1 []).length (.rI .u8 (Lk.pbytes a0 a1 [])) true)]) := by
  have := Lk.ints2_length a0 a1
  have := Lk.pbytes_length a0 a1 []
  simp only [List.length_nil] at this
  have e : (Lk.pbytes a0 a1 []).length = (Wire.ints [a0,a1]).length + (Wire.bytes []).length := by simp [Lk.pbytes]
  refine ⟨0,?_⟩
  simp only [f18n,f18n_1]
  rw [cond_pos (by omega)]
  first | (rw [cond_pos (by simp),cond_pos (by omega)]; rfl) | (rw [cond_pos (by omega)]; rfl) | rfl

theorem s18o (a0 : Int) (a1 : Int) (a2 : List Int) (hp : ((decide (a2.length < 65537))) = true) (h0 : okV (.agg 3 (.segs (.cons 1 (.one (.int .i64 a0)) (.cons 1 (.one (.int .i64 a1)) (.cons 1 (.one (.own 0 0 1)) .nil)))))) (k0 : okB (.cells a2.length (.rI .u8 a2) true)) : ∃ F,f18o F (a0,a1,a2) = some ((.own 1 0 1),[(.cells a2.length (.rI .u8 a2) true),(.cells (Lk.pbytes a0 a1 a2).length (.rI .u8 (Lk.pbytes a0 a1 a2)) true)]) := by
  rw [decide_eq_true_eq] at hp
  have := Lk.ints2_length a0 a1
  have := Lk.pbytes_length a0 a1 a2
  have e : (Lk.pbytes a0 a1 a2).length = (Wire.ints [a0,a1]).length + (Wire.bytes a2).length := by simp [Lk.pbytes]
  refine ⟨0,?_⟩
  simp only [f18o,f18o_1]
  rw [cond_pos (by omega),cond_pos (by omega),cond_pos (by omega)]
  rfl

theorem s18s (a0 : Int) (a1 : Int) (a2 : List Int) (a3n : Nat) (a4n : Nat) (hp : ((decide (a3n ≤ a2.length)) && (decide (a3n < 65537))) = true) (h0 : okV (.agg 3 (.segs (.cons 1 (.one (.int .i64 a0)) (.cons 1 (.one (.int .i64 a1)) (.cons 1 (.one (.sl 0 0 a4n 0 a3n 1)) .nil)))))) (k0 : okB (.cells a2.length (.rI .u8 a2) true)) : ∃ F,f18s F (a0,a1,a2,a3n,a4n) = some ((.own 1 0 1),[(.cells a2.length (.rI .u8 a2) true),(.cells (Lk.pbytes a0 a1 (a2.take a3n)).length (.rI .u8 (Lk.pbytes a0 a1 (a2.take a3n))) true)]) := by
  rw [dec_and,decide_eq_true_eq] at hp
  have := Lk.ints2_length a0 a1
  have hk : (a2.take a3n).length = a3n := by rw [List.length_take]; omega
  have := Lk.pbytes_length a0 a1 (a2.take a3n)
  have e : (Lk.pbytes a0 a1 (a2.take a3n)).length = (Wire.ints [a0,a1]).length + (Wire.bytes (a2.take a3n)).length := by simp [Lk.pbytes]
  refine ⟨0,?_⟩
  simp only [f18s,f18s_1,List.drop_zero]
  rw [cond_pos (by omega),cond_pos (by omega),cond_pos (by omega)]
  rfl

theorem c18 : CallOk Try.prog G34 18 r18 := callOk_of (V := VG3418) mixed tys eVG3418 (f := 18) (fn := Try.f18) Try.func18 (by kernel_rfl) (c := sub (bodyOf Try.f18) []) (by kernel_rfl) (by
  intro X H r H' h hX hH
  unfold r18 at h; split at h <;> try contradiction
  · simp only [Option.some.injEq,Prod.mk.injEq] at h
    obtain ⟨hp,rfl,rfl⟩ := h
    obtain ⟨F,hF⟩ := s18 _ _ _ hp (hX _ (.head _))
    exact ⟨Af18 F,(f18_body F _ _ _).trans hF⟩
  · simp only [Option.some.injEq,Prod.mk.injEq] at h
    obtain ⟨hp,rfl,rfl⟩ := h
    obtain ⟨F,hF⟩ := s18n _ _ (hX _ (.head _))
    exact ⟨Af18n F,(f18n_body F _ _).trans hF⟩
  · simp only [Option.some.injEq,Prod.mk.injEq] at h
    obtain ⟨hp,rfl,rfl⟩ := h
    obtain rfl := okB_size (hH _ (.head _)) rfl
    obtain ⟨F,hF⟩ := s18o _ _ _ hp (hX _ (.head _)) (hH _ (.head _))
    exact ⟨Af18o F,(f18o_body F _ _ _).trans hF⟩
  · simp only [Option.some.injEq,Prod.mk.injEq] at h
    obtain ⟨hp,rfl,rfl⟩ := h
    obtain rfl := okB_size (hH _ (.head _)) rfl
    obtain ⟨F,hF⟩ := s18s _ _ _ _ _ hp (hX _ (.head _)) (hH _ (.head _))
    exact ⟨Af18s F,(f18s_body F _ _ _ _ _).trans hF⟩)
end Go.Am
