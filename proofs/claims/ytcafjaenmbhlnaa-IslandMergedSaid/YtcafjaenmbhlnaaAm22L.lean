/- Part of a proof about the functions of the given program. -/
import Derived.Test.YtcafjaenmbhlnaaAm22D
import Derived.Test.YtcafjaenmbhlnaaAm22E
import Derived.Test.YtcafjaenmbhlnaaAm22A
import Derived.Test.YtcafjaenmbhlnaaAm22C
set_option linter.unusedSimpArgs false
set_option linter.unusedVariables false
section
namespace Go.Am
open Go Go.Proofs
abbrev sp32 : List (Nat × Md) := [(1,.plain),(5,.plain),(6,.plain),(7,.own 2),(17,.plain),(18,.plain),(19,.plain)]
abbrev sp33 : List (Nat × Md) := [(1,.plain),(5,.plain),(6,.plain)]
abbrev sp34 : List (Nat × Md) := [(1,.plain),(5,.plain),(6,.plain),(7,.plain)]
abbrev sp35 : List (Nat × Md) := [(1,.plain),(5,.plain),(6,.plain),(7,.plain),(17,.plain),(18,.plain),(19,.plain)]
abbrev Ty44 := (List (List Int)) × (List Int) × Int
abbrev Ty45 := (List (List Int)) × (List Int) × Int × (List Int) × Int × Int
abbrev Ty46 := (List (List Int)) × (List Int) × Int × (List Int) × Int × Int × (List Int)
def lVG2224 : List CEnt := [(37,[some 3,some 22],r37),(45,[none],r45),(46,[none],r46)]
def VG2224 : Env := mkEnv T22 G22 lVG2224
theorem eVG2224 : EOk Try.prog VG2224 := eok_mk (by exact ⟨c37,c45,c46,trivial⟩)
def Af24 (F : Nat) : Cuts := { F := F,at_ := fun _ => none,join := fun _ => none,fin := (some [(4,(.own 22))]) }
def ef24_a : Int × (List (List Int)) → St := fun (a0,a1) => { tmps := [(0,(.int .i64 a0)),(1,(.vs (.rL .i64 a1) 0 1))],heap := [],next := 0,nt := 12,m := 0 }
def f24_1 (F : Nat) : Int × (List (List Int)) → Rz := fun (a0,a1) => (cond (!((decide (1 ≤ a0)) && (decide (a0 ≤ 4096)))) (some ((.own 0 0 1),[(.cells 0 (.rL .i64 []) true)])) (cond ((decide (0 ≤ a0)) && (decide (Int.toNat a0 < 1073741000))) (cond ((decide ((Isl.nums (Int.toNat a0)).length < 1073740000)) && (Isl.inc (Isl.nums (Int.toNat a0)))) (some ((.own 0 0 1),[(.cells (Isl.clss (Isl.nums (Int.toNat a0)) a1).length (.rL .i64 (Isl.clss (Isl.nums (Int.toNat a0)) a1)) true)])) none) none))
theorem f24_1_eq (F : Nat) : ∀ v,aexec VG2224 (Af24 F) (sub (bodyOf Try.f24) []) (ef24_a v) (kFin VG2224 (some [(4,(.own 22))]) (Try.f24).results.toList) = f24_1 F v := by
  rintro ⟨a0,a1⟩; kernel_rfl
def f24 (F : Nat) : Int × (List (List Int)) → Rz := f24_1 F
theorem f24_body (F : Nat) (a0 : Int) (a1 : List (List Int)) : abody VG2224 (Af24 F) Try.f24 [(.int .i64 a0),(.vs (.rL .i64 a1) 0 1)] [] = f24 F (a0,a1) :=
  (abody_in (c := (sub (bodyOf Try.f24) [])) (by kernel_rfl) (s := ef24_a (a0,a1)) (by kernel_rfl)).trans (f24_1_eq F (a0,a1))
def r24 : CRun := fun X H => match X,H with
  | [(.int .i64 a0),(.vs (.rL .i64 a1) 0 1)],[] => some (true,(.own 0 0 1),[(.cells (Isl.groups a0 a1).length (.rL .i64 (Isl.groups a0 a1)) true)])
  | _,_ => none
theorem s24 (a0 : Int) (a1 : List (List Int)) (h0 : okV (.int .i64 a0)) (h1 : okV (.vs (.rL .i64 a1) 0 1)) : ∃ F,f24 F (a0,a1) = some ((.own 0 0 1),[(.cells (Isl.groups a0 a1).length (.rL .i64 (Isl.groups a0 a1)) true)]) := by
  refine ⟨0,?_⟩
  simp only [f24,f24_1,dec_and,dec_not,Isl.groups]
  by_cases h : 1 ≤ a0 ∧ a0 ≤ 4096
  · rw [cond_neg (by omega),cond_pos (by omega),Isl.inc_iff.2 (Isl.nums_lt _),Isl.nums_len,decide_eq_true (by omega),if_neg (by omega)]
    rfl
  · rw [cond_pos h,if_pos (by omega)]
    rfl
theorem c24 : CallOk Try.prog G22 24 r24 := callOk_of (V := VG2224) mixed tys eVG2224 (f := 24) (fn := Try.f24) Try.func24 (by kernel_rfl) (c := sub (bodyOf Try.f24) []) (by kernel_rfl) (by
  intro X H r H' h hX hH
  unfold r24 at h; split at h <;> try contradiction
  · simp only [Option.some.injEq,Prod.mk.injEq] at h
    obtain ⟨hp,rfl,rfl⟩ := h
    obtain ⟨F,hF⟩ := s24 _ _ (hX _ (.head _)) (hX _ (.tail _ (.head _)))
    exact ⟨Af24 F,(f24_body F _ _).trans hF⟩)
def lVG2215 : List CEnt := [(37,[some 3,some 22],r37),(38,[some 3],r38),(39,[some 22],r39),(40,[none],r40)]
def VG2215 : Env := mkEnv T22 G22 lVG2215
theorem eVG2215 : EOk Try.prog VG2215 := eok_mk (by exact ⟨c37,c38,c39,c40,trivial⟩)
def Af15 (F : Nat) : Cuts := { F := F,at_ := fun _ => none,join := fun _ => none,fin := (some [(4,(.own 22))]) }
def ef15_a : Ty6 → St := fun (a0,a1) => { tmps := [(0,(.vs (.rL .i64 a0) 0 1)),(1,(.vs (.rL .i64 a1) 0 1))],heap := [],next := 0,nt := 13,m := 0 }
def f15_1 (F : Nat) : Ty6 → Rz := fun (a0,a1) => (cond (decide (a0.flatten.length < 1073740000)) (cond (decide (a0.flatten.length < 1073740000)) (cond (decide (a0.length + a1.length < 1073741000)) (cond ((decide ((Isl.set a0.flatten).length < 1073740000)) && (Isl.inc (Isl.set a0.flatten))) (some ((.own 0 0 1),[(.cells (Isl.clss (Isl.set a0.flatten) (a0 ++ a1)).length (.rL .i64 (Isl.clss (Isl.set a0.flatten) (a0 ++ a1))) true)])) none) none) none) none)
theorem f15_1_eq (F : Nat) : ∀ v,aexec VG2215 (Af15 F) (sub (bodyOf Try.f15) []) (ef15_a v) (kFin VG2215 (some [(4,(.own 22))]) (Try.f15).results.toList) = f15_1 F v := by
  rintro ⟨a0,a1⟩; kernel_rfl
def f15 (F : Nat) : Ty6 → Rz := f15_1 F
theorem f15_body (F : Nat) (a0 : List (List Int)) (a1 : List (List Int)) : abody VG2215 (Af15 F) Try.f15 [(.vs (.rL .i64 a0) 0 1),(.vs (.rL .i64 a1) 0 1)] [] = f15 F (a0,a1) :=
  (abody_in (c := (sub (bodyOf Try.f15) [])) (by kernel_rfl) (s := ef15_a (a0,a1)) (by kernel_rfl)).trans (f15_1_eq F (a0,a1))
def r15 : CRun := fun X H => match X,H with
  | [(.vs (.rL .i64 a0) 0 1),(.vs (.rL .i64 a1) 0 1)],[] => some (((decide (a0.flatten.length < 1073740000)) && (decide (a0.length + a1.length < 1073741000))),(.own 0 0 1),[(.cells (Isl.merge a0 a1).length (.rL .i64 (Isl.merge a0 a1)) true)])
  | _,_ => none
theorem s15 (a0 : List (List Int)) (a1 : List (List Int)) (hp : (((decide (a0.flatten.length < 1073740000)) && (decide (a0.length + a1.length < 1073741000)))) = true) (h0 : okV (.vs (.rL .i64 a0) 0 1)) (h1 : okV (.vs (.rL .i64 a1) 0 1)) : ∃ F,f15 F (a0,a1) = some ((.own 0 0 1),[(.cells (Isl.merge a0 a1).length (.rL .i64 (Isl.merge a0 a1)) true)]) := by
  simp only [Bool.and_eq_true,decide_eq_true_eq] at hp
  refine ⟨0,?_⟩
  have := Isl.set_len a0.flatten
  simp only [f15,f15_1,Isl.merge]
  rw [cond_pos (by omega),cond_pos (by omega),cond_pos (by omega),Isl.inc_iff.2 (Isl.set_lt _),decide_eq_true (by omega)]
  rfl
theorem c15 : CallOk Try.prog G22 15 r15 := callOk_of (V := VG2215) mixed tys eVG2215 (f := 15) (fn := Try.f15) Try.func15 (by kernel_rfl) (c := sub (bodyOf Try.f15) []) (by kernel_rfl) (by
  intro X H r H' h hX hH
  unfold r15 at h; split at h <;> try contradiction
  · simp only [Option.some.injEq,Prod.mk.injEq] at h
    obtain ⟨hp,rfl,rfl⟩ := h
    obtain ⟨F,hF⟩ := s15 _ _ hp (hX _ (.head _)) (hX _ (.tail _ (.head _)))
    exact ⟨Af15 F,(f15_body F _ _).trans hF⟩)
def lVG2217 : List CEnt := [(37,[some 3,some 22],r37),(38,[some 3],r38)]
def VG2217 : Env := mkEnv T22 G22 lVG2217
theorem eVG2217 : EOk Try.prog VG2217 := eok_mk (by exact ⟨c37,c38,trivial⟩)
def Af17 (F : Nat) : Cuts := { F := F,at_ := fun _ => none,join := fun _ => none,fin := (some [(4,(.own 22))]) }
def ef17_a : Ty25 → St := fun (a0,a1) => { tmps := [(0,(.vs (.rI .i64 a0) 0 1)),(1,(.vs (.rL .i64 a1) 0 1))],heap := [],next := 0,nt := 9,m := 0 }
def f17_1 (F : Nat) : Ty25 → Rz := fun (a0,a1) => (cond (decide (a0.length < 1073740000)) (cond ((decide ((Isl.set a0).length < 1073740000)) && (Isl.inc (Isl.set a0))) (some ((.own 0 0 1),[(.cells (Isl.clss (Isl.set a0) a1).length (.rL .i64 (Isl.clss (Isl.set a0) a1)) true)])) none) none)
theorem f17_1_eq (F : Nat) : ∀ v,aexec VG2217 (Af17 F) (sub (bodyOf Try.f17) []) (ef17_a v) (kFin VG2217 (some [(4,(.own 22))]) (Try.f17).results.toList) = f17_1 F v := by
  rintro ⟨a0,a1⟩; kernel_rfl
def f17 (F : Nat) : Ty25 → Rz := f17_1 F
theorem f17_body (F : Nat) (a0 : List Int) (a1 : List (List Int)) : abody VG2217 (Af17 F) Try.f17 [(.vs (.rI .i64 a0) 0 1),(.vs (.rL .i64 a1) 0 1)] [] = f17 F (a0,a1) :=
  (abody_in (c := (sub (bodyOf Try.f17) [])) (by kernel_rfl) (s := ef17_a (a0,a1)) (by kernel_rfl)).trans (f17_1_eq F (a0,a1))
def r17 : CRun := fun X H => match X,H with
  | [(.vs (.rI .i64 a0) 0 1),(.vs (.rL .i64 a1) 0 1)],[] => some ((decide (a0.length < 1073740000)),(.own 0 0 1),[(.cells (Isl.split a0 a1).length (.rL .i64 (Isl.split a0 a1)) true)])
  | _,_ => none
theorem s17 (a0 : List Int) (a1 : List (List Int)) (hp : ((decide (a0.length < 1073740000))) = true) (h0 : okV (.vs (.rI .i64 a0) 0 1)) (h1 : okV (.vs (.rL .i64 a1) 0 1)) : ∃ F,f17 F (a0,a1) = some ((.own 0 0 1),[(.cells (Isl.split a0 a1).length (.rL .i64 (Isl.split a0 a1)) true)]) := by
  refine ⟨0,?_⟩
  have hp' := of_decide_eq_true hp
  have := Isl.set_len a0
  simp only [f17,f17_1,Isl.split]
  rw [cond_pos (by omega),Isl.inc_iff.2 (Isl.set_lt _),decide_eq_true (by omega)]
  rfl
theorem c17 : CallOk Try.prog G22 17 r17 := callOk_of (V := VG2217) mixed tys eVG2217 (f := 17) (fn := Try.f17) Try.func17 (by kernel_rfl) (c := sub (bodyOf Try.f17) []) (by kernel_rfl) (by
  intro X H r H' h hX hH
  unfold r17 at h; split at h <;> try contradiction
  · simp only [Option.some.injEq,Prod.mk.injEq] at h
    obtain ⟨hp,rfl,rfl⟩ := h
    obtain ⟨F,hF⟩ := s17 _ _ hp (hX _ (.head _)) (hX _ (.tail _ (.head _)))
    exact ⟨Af17 F,(f17_body F _ _).trans hF⟩)
def lVG2222 : List CEnt := [(37,[some 3,some 22],r37),(38,[some 3],r38),(42,[none,none],r42),(43,[some 3],r43)]
def VG2222 : Env := mkEnv T22 G22 lVG2222
theorem eVG2222 : EOk Try.prog VG2222 := eok_mk (by exact ⟨c37,c38,c42,c43,trivial⟩)
def Af22 (F : Nat) : Cuts := { F := F,at_ := fun n => match n with | 5018 => some sp32 | _ => none,join := fun n => match n with | 1032 => some [(0,.plain),(1,.plain)] | 2030 => some [(1,.plain),(5,.plain)] | 3028 => some sp33 | 4026 => some sp34 | 5020 => some sp35 | 11003 => some [(7,.plain)] | _ => none,fin := (some [(4,(.own 3))]) }
def ef22_a : Ty25 → St := fun (a0,a1) => { tmps := [(0,(.vs (.rI .i64 a0) 0 1)),(1,(.vs (.rL .i64 a1) 0 1))],heap := [],next := 0,nt := 39,m := 0 }
def ef22j1 : Ty25 → St := fun (t0,t1) => { tmps := [(0,(.vs (.rI .i64 t0) 0 1)),(1,(.vs (.rL .i64 t1) 0 1))],heap := [],next := 0,nt := 39,m := 0 }
def ef22j2 : Ty9 → St := fun (t1,t5) => { tmps := [(1,(.vs (.rL .i64 t1) 0 1)),(5,(.vs (.rI .i64 t5) 0 1))],heap := [],next := 0,nt := 39,m := 0 }
def ef22j3 : Ty44 → St := fun (t1,t5,t6) => { tmps := [(1,(.vs (.rL .i64 t1) 0 1)),(5,(.vs (.rI .i64 t5) 0 1)),(6,(.int .i64 t6))],heap := [],next := 0,nt := 39,m := 0 }
def ef22j4 : Ty44 → St := fun (t1,t5,t6) => { tmps := [(1,(.vs (.rL .i64 t1) 0 1)),(5,(.vs (.rI .i64 t5) 0 1)),(6,(.int .i64 t6)),(7,.ns)],heap := [],next := 0,nt := 39,m := 0 }
def ef22j5 : Ty45 → St := fun (t1,t5,t6,t17,t18,t19) => { tmps := [(1,(.vs (.rL .i64 t1) 0 1)),(5,(.vs (.rI .i64 t5) 0 1)),(6,(.int .i64 t6)),(7,.ns),(17,(.vs (.rI .i64 t17) 0 1)),(18,(.int .i64 t18)),(19,(.int .i64 t19))],heap := [],next := 0,nt := 39,m := 0 }
def ef22l1 : Ty46 → St := fun (t1,t5,t6,t17,t18,t19,x7) => { tmps := [(1,(.vs (.rL .i64 t1) 0 1)),(5,(.vs (.rI .i64 t5) 0 1)),(6,(.int .i64 t6)),(7,(.own 0 0 1)),(17,(.vs (.rI .i64 t17) 0 1)),(18,(.int .i64 t18)),(19,(.int .i64 t19))],heap := [(0,(.cells x7.length (.rI .i64 x7) true))],next := 1,nt := 39,m := 0 }
def ef22j6 : (List Int) → St := fun x1 => { tmps := [(7,(.own 0 0 1))],heap := [(0,(.cells x1.length (.rI .i64 x1) true))],next := 1,nt := 39,m := 0 }
def f22_1 (F : Nat) (kf22j1 : Ty25 → Rz) : Ty25 → Rz := fun (a0,a1) => (kf22j1 (a0,a1))
theorem f22_1_eq (F : Nat) (Rf22j1 : St → Rz) : ∀ v,aexec VG2222 (Af22 F) (bp Try.f22 2) (ef22_a v) (kSeq (kc VG2222 Rf22j1 [(0,.plain),(1,.plain)]) (kFin VG2222 (some [(4,(.own 3))]) (Try.f22).results.toList)) = f22_1 F (Rf22j1 ∘ ef22j1) v := by
  rintro ⟨a0,a1⟩; kernel_rfl
def f22_2 (F : Nat) (kf22j2 : Ty9 → Rz) : Ty25 → Rz := fun (t0,t1) => (cond (decide (t0.length < 1073740000)) (kf22j2 (t1,(Isl.set t0))) none)
theorem f22_2_eq (F : Nat) (Rf22j2 : St → Rz) : ∀ v,aexec VG2222 (Af22 F) (bp Try.f22 6) (ef22j1 v) (kSeq (kc VG2222 Rf22j2 [(1,.plain),(5,.plain)]) (kFin VG2222 (some [(4,(.own 3))]) (Try.f22).results.toList)) = f22_2 F (Rf22j2 ∘ ef22j2) v := by
  rintro ⟨t0,t1⟩; kernel_rfl
def f22_3 (F : Nat) (kf22j3 : Ty44 → Rz) : Ty9 → Rz := fun (t1,t5) => (cond ((decide (t5.length < 1073740000)) && (Isl.inc t5)) (kf22j3 (t1,t5,(↑(Isl.clss t5 t1).length : Int))) none)
theorem f22_3_eq (F : Nat) (Rf22j3 : St → Rz) : ∀ v,aexec VG2222 (Af22 F) (bp Try.f22 14) (ef22j2 v) (kSeq (kc VG2222 Rf22j3 sp33) (kFin VG2222 (some [(4,(.own 3))]) (Try.f22).results.toList)) = f22_3 F (Rf22j3 ∘ ef22j3) v := by
  rintro ⟨t1,t5⟩; kernel_rfl
def f22_4 (F : Nat) (kf22j4 : Ty44 → Rz) : Ty44 → Rz := fun (t1,t5,t6) => (kf22j4 (t1,t5,t6))
theorem f22_4_eq (F : Nat) (Rf22j4 : St → Rz) : ∀ v,aexec VG2222 (Af22 F) (bp Try.f22 30) (ef22j3 v) (kSeq (kc VG2222 Rf22j4 sp34) (kFin VG2222 (some [(4,(.own 3))]) (Try.f22).results.toList)) = f22_4 F (Rf22j4 ∘ ef22j4) v := by
  rintro ⟨t1,t5,t6⟩; kernel_rfl
def f22_5 (F : Nat) (kf22j5 : Ty45 → Rz) (kf22j6 : (List Int) → Rz) : Ty44 → Rz := fun (t1,t5,t6) => (kf22j5 (t1,t5,t6,t5,(↑t5.length : Int),(0 : Int)))
theorem f22_5_eq (F : Nat) (Rf22j5 : St → Rz) (Rf22j6 : St → Rz) : ∀ v,aexec VG2222 (Af22 F) (bp Try.f22 124) (ef22j4 v) (kSeq (kc VG2222 Rf22j5 sp35) (kSeq (kc VG2222 Rf22j6 [(7,.plain)]) (kFin VG2222 (some [(4,(.own 3))]) (Try.f22).results.toList))) = f22_5 F (Rf22j5 ∘ ef22j5) (Rf22j6 ∘ ef22j6) v := by
  rintro ⟨t1,t5,t6⟩; kernel_rfl
def f22_6 (F : Nat) (kf22l1 : Ty46 → Rz) (kf22j6 : (List Int) → Rz) : Ty46 → Rz := fun (t1,t5,t6,t17,t18,t19,x7) => (cond (decide (t19 < t18)) (cond ((decide (0 ≤ t19)) && (decide (t19 < (↑t17.length : Int)))) (cond (decide (t5.length < 1073741000)) (cond (decide (t5.length < 1073740000)) (cond ((decide ((Isl.del t5 (t17.getD (Int.toNat t19) 0)).length < 1073740000)) && (Isl.inc (Isl.del t5 (t17.getD (Int.toNat t19) 0)))) (cond (decide ((↑(Isl.clss (Isl.del t5 (t17.getD (Int.toNat t19) 0)) t1).length : Int) > t6)) (cond (decide ((x7.length + 1) < 1073741824)) (kf22l1 (t1,t5,t6,t17,t18,(IntKind.i64.wrap (t19 + (1 : Int))),(x7 ++ [(t17.getD (Int.toNat t19) 0)]))) none) (kf22l1 (t1,t5,t6,t17,t18,(IntKind.i64.wrap (t19 + (1 : Int))),x7))) none) none) none) none) (kf22j6 x7))
theorem f22_6_eq (F : Nat) (Rf22l1 : St → Rz) (Rf22j6 : St → Rz) : ∀ v,aexec VG2222 (Af22 F) (bp Try.f22 500) (ef22l1 v) (kSeq (kc VG2222 Rf22l1 sp32) (kBlock 0 (kSeq (kc VG2222 Rf22j6 [(7,.plain)]) (kFin VG2222 (some [(4,(.own 3))]) (Try.f22).results.toList)))) = f22_6 F (Rf22l1 ∘ ef22l1) (Rf22j6 ∘ ef22j6) v := by
  rintro ⟨t1,t5,t6,t17,t18,t19,x7⟩; kernel_rfl
def f22_7_i : Ty45 → (List (List Int)) × (List Int) × Int × (List Int) × Int × Int × (List Int) := fun (t1,t5,t6,t17,t18,t19) => (t1,t5,t6,t17,t18,t19,[])
def f22_7 (F : Nat) (kf22j6 : (List Int) → Rz) : Ty45 → Rz := fun v => loopN (fun k => f22_6 F k kf22j6) F (f22_7_i v)
theorem f22_7_eq (F : Nat) (Rf22j6 : St → Rz) : ∀ v,aexec VG2222 (Af22 F) (bp Try.f22 250) (ef22j5 v) (kBlock 0 (kSeq (kc VG2222 Rf22j6 [(7,.plain)]) (kFin VG2222 (some [(4,(.own 3))]) (Try.f22).results.toList))) = f22_7 F (Rf22j6 ∘ ef22j6) v :=
  loop_cut (by kernel_rfl) (by kernel_rfl) ef22j5 ef22l1 _ f22_7_i (fun k => f22_6 F k (Rf22j6 ∘ ef22j6))
    (by rintro ⟨t1,t5,t6,t17,t18,t19⟩; kernel_rfl) (fun Rf22l1 => f22_6_eq F Rf22l1 Rf22j6)
def f22_8 (F : Nat) (kf22j6 : (List Int) → Rz) : Ty45 → Rz := f22_7 F kf22j6
theorem f22_8_eq (F : Nat) (Rf22j6 : St → Rz) : ∀ v,aexec VG2222 (Af22 F) (bp Try.f22 125) (ef22j5 v) (kSeq (kc VG2222 Rf22j6 [(7,.plain)]) (kFin VG2222 (some [(4,(.own 3))]) (Try.f22).results.toList)) = f22_8 F (Rf22j6 ∘ ef22j6) v := fun v =>
  (block_in  (by kernel_rfl) _ _).trans (f22_7_eq F Rf22j6 v)
def f22_9 (F : Nat) (kf22j6 : (List Int) → Rz) : Ty44 → Rz := fun v => f22_5 F (f22_8 F kf22j6) kf22j6 v
theorem f22_9_eq (F : Nat) (Rf22j6 : St → Rz) : ∀ v,aexec VG2222 (Af22 F) (bp Try.f22 62) (ef22j4 v) (kSeq (kc VG2222 Rf22j6 [(7,.plain)]) (kFin VG2222 (some [(4,(.own 3))]) (Try.f22).results.toList)) = f22_9 F (Rf22j6 ∘ ef22j6) v :=
  seq_cut (by kernel_rfl) (by kernel_rfl) ef22j4 ef22j5 _ (fun k => f22_5 F k (Rf22j6 ∘ ef22j6)) (f22_8 F (Rf22j6 ∘ ef22j6))
    (fun Rf22j5 => f22_5_eq F Rf22j5 Rf22j6) (f22_8_eq F Rf22j6)
def f22_10 (F : Nat) : (List Int) → Rz := fun x1 => (some ((.own 0 0 1),[(.cells x1.length (.rI .i64 x1) true)]))
theorem f22_10_eq (F : Nat) : ∀ v,aexec VG2222 (Af22 F) (bp Try.f22 63) (ef22j6 v) (kFin VG2222 (some [(4,(.own 3))]) (Try.f22).results.toList) = f22_10 F v := by
  intro x1; kernel_rfl
def f22_11 (F : Nat) : Ty44 → Rz := fun v => f22_9 F (f22_10 F) v
theorem f22_11_eq (F : Nat) : ∀ v,aexec VG2222 (Af22 F) (bp Try.f22 31) (ef22j4 v) (kFin VG2222 (some [(4,(.own 3))]) (Try.f22).results.toList) = f22_11 F v :=
  seq_cut (by kernel_rfl) (by kernel_rfl) ef22j4 ef22j6 _ (fun k => f22_9 F k) (f22_10 F)
    (fun Rf22j6 => f22_9_eq F Rf22j6) (f22_10_eq F)
def f22_12 (F : Nat) : Ty44 → Rz := fun v => f22_4 F (f22_11 F) v
theorem f22_12_eq (F : Nat) : ∀ v,aexec VG2222 (Af22 F) (bp Try.f22 15) (ef22j3 v) (kFin VG2222 (some [(4,(.own 3))]) (Try.f22).results.toList) = f22_12 F v :=
  seq_cut (by kernel_rfl) (by kernel_rfl) ef22j3 ef22j4 _ (fun k => f22_4 F k) (f22_11 F)
    (fun Rf22j4 => f22_4_eq F Rf22j4) (f22_11_eq F)
def f22_13 (F : Nat) : Ty9 → Rz := fun v => f22_3 F (f22_12 F) v
theorem f22_13_eq (F : Nat) : ∀ v,aexec VG2222 (Af22 F) (bp Try.f22 7) (ef22j2 v) (kFin VG2222 (some [(4,(.own 3))]) (Try.f22).results.toList) = f22_13 F v :=
  seq_cut (by kernel_rfl) (by kernel_rfl) ef22j2 ef22j3 _ (fun k => f22_3 F k) (f22_12 F)
    (fun Rf22j3 => f22_3_eq F Rf22j3) (f22_12_eq F)
def f22_14 (F : Nat) : Ty25 → Rz := fun v => f22_2 F (f22_13 F) v
theorem f22_14_eq (F : Nat) : ∀ v,aexec VG2222 (Af22 F) (bp Try.f22 3) (ef22j1 v) (kFin VG2222 (some [(4,(.own 3))]) (Try.f22).results.toList) = f22_14 F v :=
  seq_cut (by kernel_rfl) (by kernel_rfl) ef22j1 ef22j2 _ (fun k => f22_2 F k) (f22_13 F)
    (fun Rf22j2 => f22_2_eq F Rf22j2) (f22_13_eq F)
def f22_15 (F : Nat) : Ty25 → Rz := fun v => f22_1 F (f22_14 F) v
theorem f22_15_eq (F : Nat) : ∀ v,aexec VG2222 (Af22 F) (sub (bodyOf Try.f22) []) (ef22_a v) (kFin VG2222 (some [(4,(.own 3))]) (Try.f22).results.toList) = f22_15 F v :=
  seq_cut (by kernel_rfl) (by kernel_rfl) ef22_a ef22j1 _ (fun k => f22_1 F k) (f22_14 F)
    (fun Rf22j1 => f22_1_eq F Rf22j1) (f22_14_eq F)
def f22 (F : Nat) : Ty25 → Rz := f22_15 F
theorem f22_body (F : Nat) (a0 : List Int) (a1 : List (List Int)) : abody VG2222 (Af22 F) Try.f22 [(.vs (.rI .i64 a0) 0 1),(.vs (.rL .i64 a1) 0 1)] [] = f22 F (a0,a1) :=
  (abody_in (c := (sub (bodyOf Try.f22) [])) (by kernel_rfl) (s := ef22_a (a0,a1)) (by kernel_rfl)).trans (f22_15_eq F (a0,a1))
def r22 : CRun := fun X H => match X,H with
  | [(.vs (.rI .i64 a0) 0 1),(.vs (.rL .i64 a1) 0 1)],[] => some ((decide (a0.length < 1073740000)),(.own 0 0 1),[(.cells (Isl.cut a0 a1).length (.rI .i64 (Isl.cut a0 a1)) true)])
  | _,_ => none
theorem s22 (a0 : List Int) (a1 : List (List Int)) (hp : ((decide (a0.length < 1073740000))) = true) (h0 : okV (.vs (.rI .i64 a0) 0 1)) (h1 : okV (.vs (.rL .i64 a1) 0 1)) : ∃ F,f22 F (a0,a1) = some ((.own 0 0 1),[(.cells (Isl.cut a0 a1).length (.rI .i64 (Isl.cut a0 a1)) true)]) := by
  simp only [decide_eq_true_eq] at hp
  refine ⟨a0.length + 1,?_⟩
  have hsl := Isl.set_len a0
  have hlt := Isl.set_lt a0
  simp only [f22_1,f22_2,f22_3,f22_4,f22_5,f22_7_i,f22_7,f22_8,f22_9,f22_10,f22_11,f22_12,f22_13,f22_14,f22_15,f22]
  rw [cond_pos (by omega)]
  unfold Isl.cut
  generalize Isl.set a0 = s at hsl hlt
  rw [Isl.inc_iff.2 hlt,decide_eq_true (show s.length < 1073740000 by omega)]
  simp only [Bool.and_self,cond_true]
  refine loopN_from (fun i => (a1,s,((Isl.clss s a1).length : Int),s,(s.length : Int),(i : Int),(s.take i).filter fun x => decide ((Isl.clss s a1).length < (Isl.clss (Isl.del s x) a1).length))) s.length (by rfl) (fun i hi k => ?_) (fun k => ?_) _ (by omega)
  · have hf : ((s.take i).filter fun x => decide ((Isl.clss s a1).length < (Isl.clss (Isl.del s x) a1).length)).length ≤ i := by
      refine Nat.le_trans (List.length_filter_le _ _) ?_
      rw [List.length_take]; omega
    have hdl : Isl.Lt (Isl.del s (s.getD i 0)) := hlt.filter _
    have hdlen : (Isl.del s (s.getD i 0)).length ≤ s.length := List.length_filter_le _ _
    simp only [f22_6,dec_and,Int.toNat_natCast,i64w (show -9223372036854775808 ≤ (i : Int) + 1 by omega) (show (i : Int) + 1 ≤ 9223372036854775807 by omega)]
    rw [cond_pos (by omega),cond_pos (by omega),cond_pos (by omega),cond_pos (by omega),Isl.inc_iff.2 hdl,decide_eq_true (show (Isl.del s (s.getD i 0)).length < 1073740000 by omega)]
    simp only [Bool.and_self,cond_true]
    rw [← Reg.take_get s 0 i hi,List.filter_append]
    by_cases hc : (Isl.clss s a1).length < (Isl.clss (Isl.del s (s.getD i 0)) a1).length
    · rw [cond_pos (by omega),cond_pos (by omega),List.filter_cons,if_pos (by simpa using hc)]
      rfl
    · rw [cond_neg (by omega),List.filter_cons,if_neg (by simpa using hc),List.filter_nil,List.append_nil]
      rfl
  · simp only [f22_6,f22_1,f22_2,f22_3,f22_4,f22_5,f22_7_i,f22_7,f22_8,f22_9,f22_10,f22_11,f22_12,f22_13,f22_14,f22_15,f22]
    rw [cond_neg (by omega),List.take_length]
theorem c22 : CallOk Try.prog G22 22 r22 := callOk_of (V := VG2222) mixed tys eVG2222 (f := 22) (fn := Try.f22) Try.func22 (by kernel_rfl) (c := sub (bodyOf Try.f22) []) (by kernel_rfl) (by
  intro X H r H' h hX hH
  unfold r22 at h; split at h <;> try contradiction
  · simp only [Option.some.injEq,Prod.mk.injEq] at h
    obtain ⟨hp,rfl,rfl⟩ := h
    obtain ⟨F,hF⟩ := s22 _ _ hp (hX _ (.head _)) (hX _ (.tail _ (.head _)))
    exact ⟨Af22 F,(f22_body F _ _).trans hF⟩)
end Go.Am
end
section
namespace Go.Am
open Go Go.Proofs
abbrev sp39 : List (Nat × Md) := [(0,.plain),(1,.plain),(2,.plain)]
abbrev sp40 : List (Nat × Md) := [(0,.plain),(1,.plain),(7,.plain)]
abbrev Ty61 := (List (List Int)) × (List (List Int)) × Int × (List Int)
abbrev Ty62 := (List (List Int)) × (List (List Int)) × (List Int)
def f12_1 (F : Nat) : Int × (List (List Int)) → Rz := fun (a0,a1) => (cond (decide (a0 < (1 : Int))) (some ((.own 0 0 1),[(.cells 0 (.rL .i64 []) true)])) (cond (decide (a0 > (4096 : Int))) (some ((.own 0 0 1),[(.cells 0 (.rL .i64 []) true)])) (cond ((decide (0 ≤ a0)) && (decide (Int.toNat a0 < 1073741000))) (cond ((decide ((Isl.nums (Int.toNat a0)).length < 1073740000)) && (Isl.inc (Isl.nums (Int.toNat a0)))) (some ((.own 0 0 1),[(.cells (Isl.clss (Isl.nums (Int.toNat a0)) a1).length (.rL .i64 (Isl.clss (Isl.nums (Int.toNat a0)) a1)) true)])) none) none)))
def f12 (F : Nat) : Int × (List (List Int)) → Rz := f12_1 F
def f16_1 (F : Nat) (kf16j1 : Ty6 → Rz) : Ty6 → Rz := fun (a0,a1) => (kf16j1 (a0,a1))
def f16_2 (F : Nat) (kf16j2 : Ty6 → Rz) : Ty6 → Rz := fun (t0,t1) => (kf16j2 (t0,t1))
def f16_3 (F : Nat) (kf16j3 : Ty7 → Rz) (kf16j4 : Ty62 → Rz) : Ty6 → Rz := fun (t0,t1) => (kf16j3 (t0,t1,(0 : Int)))
def f16_4 (F : Nat) (kf16l1 : Ty61 → Rz) (kf16j4 : Ty62 → Rz) : Ty61 → Rz := fun (t0,t1,t6,x4) => (cond (decide (t6 < (↑t0.length : Int))) (cond ((decide (0 ≤ t6)) && (decide (t6 < (↑t0.length : Int)))) (cond (decide ((x4.length + (t0.getD (Int.toNat t6) []).length) < 1073741824)) (kf16l1 (t0,t1,(IntKind.i64.wrap (t6 + (1 : Int))),(x4 ++ (t0.getD (Int.toNat t6) [])))) none) none) (kf16j4 (t0,t1,x4)))
def f16_5_i : Ty7 → (List (List Int)) × (List (List Int)) × Int × (List Int) := fun (t0,t1,t6) => (t0,t1,t6,[])
def f16_5 (F : Nat) (kf16j4 : Ty62 → Rz) : Ty7 → Rz := fun v => loopN (fun k => f16_4 F k kf16j4) F (f16_5_i v)
def f16_6 (F : Nat) (kf16j4 : Ty62 → Rz) : Ty7 → Rz := f16_5 F kf16j4
def f16_7 (F : Nat) (kf16j4 : Ty62 → Rz) : Ty6 → Rz := fun v => f16_3 F (f16_6 F kf16j4) kf16j4 v
def f16_8 (F : Nat) : Ty62 → Rz := fun (t0,t1,x3) => (cond (decide (x3.length < 1073740000)) (cond (decide ((0 + t0.length) < 1073741824)) (cond (decide ((([] ++ t0).length + t1.length) < 1073741824)) (cond ((decide ((Isl.set x3).length < 1073740000)) && (Isl.inc (Isl.set x3))) (some ((.own 0 0 1),[(.cells (Isl.clss (Isl.set x3) (([] ++ t0) ++ t1)).length (.rL .i64 (Isl.clss (Isl.set x3) (([] ++ t0) ++ t1))) true)])) none) none) none) none)
def f16_9 (F : Nat) : Ty6 → Rz := fun v => f16_7 F (f16_8 F) v
def f16_10 (F : Nat) : Ty6 → Rz := fun v => f16_2 F (f16_9 F) v
def f16_11 (F : Nat) : Ty6 → Rz := fun v => f16_1 F (f16_10 F) v
def f16 (F : Nat) : Ty6 → Rz := f16_11 F
def f18_1 (F : Nat) : Ty25 → Rz := fun (a0,a1) => (cond (decide (a0.length < 1073740000)) (cond ((decide ((Isl.set a0).length < 1073740000)) && (Isl.inc (Isl.set a0))) (some ((.own 0 0 1),[(.cells (Isl.clss (Isl.set a0) a1).length (.rL .i64 (Isl.clss (Isl.set a0) a1)) true)])) none) none)
def f18 (F : Nat) : Ty25 → Rz := f18_1 F
end Go.Am
end
section
namespace Go.Am
open Go Go.Proofs
def lVG2219 : List CEnt := [(14,[some 22,some 22],r14),(15,[some 22,some 22],r15),(17,[some 3,some 22],r17),(21,[some 3,some 3],r21),(22,[some 3,some 22],r22),(24,[none,some 22],r24)]
def VG2219 : Env := mkEnv T22 G22 lVG2219
theorem eVG2219 : EOk Try.prog VG2219 := eok_mk (by exact ⟨c14,c15,c17,c21,c22,c24,trivial⟩)
def Af19 (F : Nat) : Cuts := { F := F,at_ := fun _ => none,join := fun _ => none }
def ef19_a : Unit → St := fun _ => { tmps := [],heap := [],next := 0,nt := 43,m := 0 }
def f19_1 (F : Nat) : Unit → Rz := fun _ => (cond (decide ((Isl.groups (6 : Int) [[(1 : Int),(3 : Int)],[(3 : Int),(4 : Int)],[(9 : Int),(5 : Int)]]) = [[(0 : Int)],[(1 : Int),(3 : Int),(4 : Int)],[(2 : Int)],[(5 : Int)]])) (cond ((decide ((Isl.groups (6 : Int) [[(1 : Int),(3 : Int)],[(3 : Int),(4 : Int)],[(9 : Int),(5 : Int)]]).flatten.length < 1073740000)) && (decide ((Isl.groups (6 : Int) [[(1 : Int),(3 : Int)],[(3 : Int),(4 : Int)],[(9 : Int),(5 : Int)]]).length + [[(0 : Int),(2 : Int),(5 : Int)]].length < 1073741000))) (cond (decide ((Isl.merge (Isl.groups (6 : Int) [[(1 : Int),(3 : Int)],[(3 : Int),(4 : Int)],[(9 : Int),(5 : Int)]]) [[(0 : Int),(2 : Int),(5 : Int)]]) = [[(0 : Int),(2 : Int),(5 : Int)],[(1 : Int),(3 : Int),(4 : Int)]])) (cond (decide ([(1 : Int),(3 : Int),(4 : Int)].length < 1073740000)) (cond (decide ((Isl.split [(1 : Int),(3 : Int),(4 : Int)] [[(3 : Int),(4 : Int)]]) = [[(1 : Int)],[(3 : Int),(4 : Int)]])) (cond (decide ([(1 : Int),(3 : Int),(4 : Int)].length < 1073740000)) (some ((.bool (decide ((Isl.cut [(1 : Int),(3 : Int),(4 : Int)] [[(1 : Int),(3 : Int)],[(3 : Int),(4 : Int)]]) = [(3 : Int)]))),[])) none) (some ((.bool false),[]))) none) (some ((.bool false),[]))) none) (some ((.bool false),[])))
theorem f19_1_eq (F : Nat) : ∀ v,aexec VG2219 (Af19 F) (sub (bodyOf Try.f19) []) (ef19_a v) (kFin VG2219 none (Try.f19).results.toList) = f19_1 F v := by
  intro _; kernel_rfl
def f19 (F : Nat) : Unit → Rz := f19_1 F
theorem f19_body (F : Nat)  : abody VG2219 (Af19 F) Try.f19 [] [] = f19 F () :=
  (abody_in (c := (sub (bodyOf Try.f19) [])) (by kernel_rfl) (s := ef19_a ()) (by kernel_rfl)).trans (f19_1_eq F ())
def r19 : CRun := fun X H => match X,H with
  | [],[] => some (true,(.bool true),[])
  | _,_ => none
theorem s19  : ∃ F,f19 F () = some ((.bool true),[]) := ⟨60,by kernel_rfl⟩
theorem c19 : CallOk Try.prog G22 19 r19 := callOk_of (V := VG2219) mixed tys eVG2219 (f := 19) (fn := Try.f19) Try.func19 (by kernel_rfl) (c := sub (bodyOf Try.f19) []) (by kernel_rfl) (by
  intro X H r H' h hX hH
  unfold r19 at h; split at h <;> try contradiction
  · simp only [Option.some.injEq,Prod.mk.injEq] at h
    obtain ⟨hp,rfl,rfl⟩ := h
    obtain ⟨F,hF⟩ := s19
    exact ⟨Af19 F,(f19_body F).trans hF⟩)
end Go.Am
end
section
/- Package island: laws of classes. -/
namespace Go.Am.Isl
open Go Go.Am
variable {s : List Int} {links : List (List Int)}
theorem flatten_le {k : Nat} : ∀ {l : List (List Int)}, (∀ g ∈ l, g.length ≤ k) → l.flatten.length ≤ l.length * k
  | [], _ => by simp
  | g :: l, h => by
    have h1 := h g (List.mem_cons_self ..)
    have h2 := flatten_le (l := l) fun x hx => h x (List.mem_cons_of_mem _ hx)
    simp only [List.flatten_cons, List.length_append, List.length_cons]
    rw [Nat.add_mul, Nat.one_mul]; omega
theorem clss_bound (hs : Lt s) (links : List (List Int)) : (clss s links).length ≤ s.length ∧ ∀ g ∈ clss s links, g.length ≤ s.length := by
  rw [clss_eq hs]
  refine ⟨?_, fun g hg => ?_⟩
  · rw [List.length_map]; exact List.length_filter_le _ _
  · obtain ⟨x, _, rfl⟩ := List.mem_map.1 hg
    exact List.length_filter_le _ _
theorem groups_bound (n : Int) (links : List (List Int)) : (groups n links).length ≤ n.toNat ∧ ∀ g ∈ groups n links, g.length ≤ n.toNat := by
  unfold groups
  split
  · simp
  · have := clss_bound (nums_lt n.toNat) links
    rw [nums_len] at this
    exact this
theorem getD_len {l : List (List Int)} {k : Nat} (hb : ∀ g ∈ l, g.length ≤ k) (i : Nat) : (l.getD i []).length ≤ k := by
  rw [List.getD_eq_getElem?_getD]
  cases h : l[i]? with
  | none => simp
  | some x => exact hb x (List.mem_of_getElem? h)
theorem groups_flat {n : Int} {N : Nat} (hn : n.toNat ≤ N) (links : List (List Int)) : (groups n links).flatten.length ≤ N * N := by
  obtain ⟨h1, h2⟩ := groups_bound n links
  exact Nat.le_trans (flatten_le h2) (Nat.mul_le_mul (by omega) hn)
variable {x y z r : Int}
theorem mem_part : y ∈ part s links x ↔ y ∈ s ∧ Conn s links x y := by
  unfold part; rw [List.mem_filter]; simp only [decide_eq_true_eq]
open Classical in
theorem isRep_iff : isRep s links r = true ↔ ∀ y ∈ s, y < r → ¬ Conn s links y r := by
  unfold isRep; rw [decide_eq_true_eq]
theorem part_lt (hs : Lt s) : Lt (part s links x) := hs.filter _
theorem conn_sub {l2 : List (List Int)} (h : ∀ l ∈ links, ∀ y ∈ l, ∀ z ∈ l, y ∈ s → z ∈ s → Conn s l2 y z) (hx : x ∈ s) (hc : Conn s links x y) : Conn s l2 x y := hc.mono (fun _ h => h) h hx
theorem conn_more {l2 : List (List Int)} (h : ∀ l ∈ links, l ∈ l2) (hx : x ∈ s) (hc : Conn s links x y) : Conn s l2 x y :=
  conn_sub (fun l hl y hy z hz _ hzs => .step y z l .refl (h l hl) hy hz hzs) hx hc
theorem clss_congr (hs : Lt s) {l1 l2 : List (List Int)} (h : ∀ x ∈ s, ∀ y ∈ s, Conn s l1 x y ↔ Conn s l2 x y) : clss s l1 = clss s l2 := by
  rw [clss_eq hs, clss_eq hs]
  have e1 : s.filter (isRep s l1) = s.filter (isRep s l2) := by
    apply List.filter_congr
    intro x hx
    rw [Bool.eq_iff_iff, isRep_iff, isRep_iff]
    exact ⟨fun g y hy hlt hc => g y hy hlt ((h y hy x hx).2 hc), fun g y hy hlt hc => g y hy hlt ((h y hy x hx).1 hc)⟩
  rw [e1]
  apply List.map_congr_left
  intro x hx
  have hx := (List.mem_filter.1 hx).1
  exact Reg.lt_unique (part_lt hs) (part_lt hs) fun y => by
    rw [mem_part, mem_part]
    exact ⟨fun ⟨a, b⟩ => ⟨a, (h x hx y a).1 b⟩, fun ⟨a, b⟩ => ⟨a, (h x hx y a).2 b⟩⟩
theorem rep_ex (hs : Lt s) (hx : x ∈ s) : ∃ r ∈ s, isRep s links r = true ∧ Conn s links r x := by
  have hp : x ∈ part s links x := mem_part.2 ⟨hx, .refl⟩
  have hl : Lt (part s links x) := part_lt hs
  match e : part s links x with
  | [] => rw [e] at hp; simp at hp
  | r :: t =>
    have hr : r ∈ s ∧ Conn s links x r := mem_part.1 (by rw [e]; exact List.mem_cons_self ..)
    refine ⟨r, hr.1, isRep_iff.2 fun y hy hlt hc => ?_, hr.2.symm hx⟩
    have hm : y ∈ part s links x := mem_part.2 ⟨hy, hr.2.trans (hc.symm hy)⟩
    rw [e] at hm hl
    rcases List.mem_cons.1 hm with rfl | h
    · omega
    · have := (List.pairwise_cons.1 hl).1 y h; omega
theorem mem_clss (hs : Lt s) {g : List Int} : g ∈ clss s links ↔ ∃ r ∈ s, isRep s links r = true ∧ g = part s links r := by
  rw [clss_eq hs, List.mem_map]
  constructor
  · rintro ⟨r, h, rfl⟩
    obtain ⟨h1, h2⟩ := List.mem_filter.1 h
    exact ⟨r, h1, h2, rfl⟩
  · rintro ⟨r, h1, h2, rfl⟩
    exact ⟨r, List.mem_filter.2 ⟨h1, h2⟩, rfl⟩
theorem clss_flat (hs : Lt s) : set (clss s links).flatten = s := Reg.lt_unique (set_lt _) hs fun x => by
  rw [mem_set, List.mem_flatten]
  constructor
  · rintro ⟨g, hg, hx⟩
    obtain ⟨r, _, _, rfl⟩ := (mem_clss hs).1 hg
    exact (mem_part.1 hx).1
  · intro hx
    obtain ⟨r, h1, h2, h3⟩ := rep_ex (links := links) hs hx
    exact ⟨part s links r, (mem_clss hs).2 ⟨r, h1, h2, rfl⟩, mem_part.2 ⟨hx, h3⟩⟩
theorem merge_eq (hs : Lt s) (more : List (List Int)) : merge (clss s links) more = clss s (links ++ more) := by
  unfold merge; rw [clss_flat hs]
  refine clss_congr hs fun x hx y hy => ⟨conn_sub ?_ hx, conn_sub ?_ hx⟩
  · intro l hl y hy z hz hys hzs
    rcases List.mem_append.1 hl with h | h
    · obtain ⟨r, h1, _, rfl⟩ := (mem_clss hs).1 h
      exact conn_more (fun l hl => List.mem_append_left _ hl) hys (((mem_part.1 hy).2.symm h1).trans (mem_part.1 hz).2)
    · exact .step y z l .refl (List.mem_append_right _ h) hy hz hzs
  · intro l hl y hy z hz hys hzs
    rcases List.mem_append.1 hl with h | h
    · obtain ⟨r, h1, h2, h3⟩ := rep_ex (links := links) hs hys
      exact .step y z (part s links r) .refl (List.mem_append_left _ ((mem_clss hs).2 ⟨r, h1, h2, rfl⟩)) (mem_part.2 ⟨hys, h3⟩) (mem_part.2 ⟨hzs, .step y z l h3 h hy hz hzs⟩) hzs
    · exact .step y z l .refl (List.mem_append_right _ h) hy hz hzs
theorem one_class {g : List Int} (hg : Lt g) (h0 : g ≠ []) (hc : ∀ x ∈ g, ∀ y ∈ g, Conn g links x y) : clss g links = [g] := by
  rw [clss_eq hg]
  match g, h0 with
  | h :: t, _ =>
    have hh := List.pairwise_cons.1 hg
    have e : (h :: t).filter (isRep (h :: t) links) = [h] := by
      rw [List.filter_cons, if_pos (isRep_iff.2 fun y hy hlt => ?_), List.filter_eq_nil_iff.2 fun y hy hr => ?_]
      · exact isRep_iff.1 hr h (List.mem_cons_self ..) (hh.1 y hy) (hc h (List.mem_cons_self ..) y (List.mem_cons_of_mem _ hy))
      · rcases List.mem_cons.1 hy with rfl | h'
        · omega
        · have := hh.1 y h'; omega
    rw [e, List.map_singleton]
    congr 1
    exact Reg.lt_unique (part_lt hg) hg fun y => by
      rw [mem_part]
      exact ⟨fun h => h.1, fun hy => ⟨hy, hc h (List.mem_cons_self ..) y hy⟩⟩
theorem conn_part (hx : x ∈ part s links r) (hc : Conn s links x y) : Conn (part s links r) links x y := by
  induction hc with
  | refl => exact .refl
  | step y z l h hl hy hz hs ih => exact .step y z l ih hl hy hz (mem_part.2 ⟨hs, (mem_part.1 hx).2.trans (.step y z l h hl hy hz hs)⟩)
theorem part_conn (hr : r ∈ s) : ∀ x ∈ part s links r, ∀ y ∈ part s links r, Conn (part s links r) links x y := fun x hx y hy =>
  conn_part hx (((mem_part.1 hx).2.symm hr).trans (mem_part.1 hy).2)
theorem part_ne (hr : r ∈ s) : part s links r ≠ [] := fun e => by
  have : r ∈ part s links r := mem_part.2 ⟨hr, .refl⟩
  rw [e] at this; simp at this
theorem split_part (hs : Lt s) (hr : r ∈ s) : split (part s links r) links = [part s links r] := by
  unfold split
  rw [set_self (part_lt hs)]
  exact one_class (part_lt hs) (part_ne hr) (part_conn hr)
theorem getD_mem' {l : List (List Int)} {i : Nat} (h : i < l.length) : l.getD i [] ∈ l := by
  rw [List.getD_eq_getElem?_getD, List.getElem?_eq_getElem h]; exact List.getElem_mem h
theorem split_group (hs : Lt s) {g : List Int} (hg : g ∈ clss s links) : split g links = [g] := by
  obtain ⟨r, h1, _, rfl⟩ := (mem_clss hs).1 hg
  exact split_part hs h1
theorem groups_clss {n : Int} (h1 : 1 ≤ n) (h2 : n ≤ 4096) (links : List (List Int)) : groups n links = clss (nums n.toNat) links := by
  unfold groups; rw [if_neg (by omega)]
end Go.Am.Isl
end
section
namespace Go.Am
open Go Go.Proofs
abbrev sp50 : List (Nat × Md) := [(8,.plain),(10,.plain),(12,.plain)]
abbrev sp51 : List (Nat × Md) := [(1,.plain),(7,.plain),(8,.plain)]
abbrev sp52 : List (Nat × Md) := [(7,.plain),(8,.plain),(9,.plain)]
abbrev sp53 : List (Nat × Md) := [(7,.plain),(8,.plain),(9,.plain),(10,.plain)]
abbrev sp54 : List (Nat × Md) := [(7,.plain),(8,.plain),(9,.plain),(10,.plain),(11,.plain)]
abbrev Ty64 := (List Int) × Int × (List (List Int))
abbrev Ty65 := Int × (List (List Int)) × (List (List Int)) × (List (List Int))
abbrev Ty66 := Int × (List (List Int)) × (List (List Int)) × (List (List Int)) × (List (List Int))
def lVG225 : List CEnt := [(10,[none,none],r10),(11,[some 3,none],r11),(14,[some 22,some 22],r14),(15,[some 22,some 22],r15),(17,[some 3,some 22],r17),(19,[],r19),(20,[none],r20),(24,[none,some 22],r24)]
def VG225 : Env := mkEnv T22 G22 lVG225
theorem eVG225 : EOk Try.prog VG225 := eok_mk (by exact ⟨c10,c11,c14,c15,c17,c19,c20,c24,trivial⟩)
def Af5 (F : Nat) : Cuts := { F := F,at_ := fun n => match n with | 9016 => some sp50 | _ => none,join := fun n => match n with | 1042 => some sp39 | 2040 => some sp40 | 3038 => some sp51 | 4036 => some sp52 | 5034 => some sp53 | 6032 => some sp54 | 8024 => some [(8,.plain),(10,.plain)] | 9018 => some sp50 | 13003 => some [] | _ => none }
def ef5_a : Ty5 → St := fun (a0,a1,a2) => { tmps := [(0,(.vs (.rI .i64 a0) 0 1)),(1,(.vs (.rI .i64 a1) 0 1)),(2,(.int .i64 a2))],heap := [],next := 0,nt := 67,m := 0 }
def ef5j1 : Ty5 → St := fun (t0,t1,t2) => { tmps := [(0,(.vs (.rI .i64 t0) 0 1)),(1,(.vs (.rI .i64 t1) 0 1)),(2,(.int .i64 t2))],heap := [],next := 0,nt := 67,m := 0 }
def ef5j2 : Ty5 → St := fun (t0,t1,t7) => { tmps := [(0,(.vs (.rI .i64 t0) 0 1)),(1,(.vs (.rI .i64 t1) 0 1)),(7,(.int .i64 t7))],heap := [],next := 0,nt := 67,m := 0 }
def ef5j3 : Ty64 → St := fun (t1,t7,x3) => { tmps := [(1,(.vs (.rI .i64 t1) 0 1)),(7,(.int .i64 t7)),(8,(.own 0 0 1))],heap := [(0,(.cells x3.length (.rL .i64 x3) true))],next := 1,nt := 67,m := 0 }
def ef5j4 : Ty17 → St := fun (t7,x2,x3) => { tmps := [(7,(.int .i64 t7)),(8,(.own 0 0 1)),(9,(.own 1 0 1))],heap := [(0,(.cells x2.length (.rL .i64 x2) true)),(1,(.cells x3.length (.rL .i64 x3) true))],next := 2,nt := 67,m := 0 }
def ef5j5 : Ty65 → St := fun (t7,x2,x3,x4) => { tmps := [(7,(.int .i64 t7)),(8,(.own 0 0 1)),(9,(.own 1 0 1)),(10,(.own 2 0 1))],heap := [(0,(.cells x2.length (.rL .i64 x2) false)),(1,(.cells x3.length (.rL .i64 x3) true)),(2,(.cells x4.length (.rL .i64 x4) true))],next := 3,nt := 67,m := 0 }
def ef5j6 : Ty66 → St := fun (t7,x2,x3,x4,x5) => { tmps := [(7,(.int .i64 t7)),(8,(.own 0 0 1)),(9,(.own 1 0 1)),(10,(.own 2 0 1)),(11,(.own 3 0 1))],heap := [(0,(.cells x2.length (.rL .i64 x2) false)),(1,(.cells x3.length (.rL .i64 x3) true)),(2,(.cells x4.length (.rL .i64 x4) true)),(3,(.cells x5.length (.rL .i64 x5) true))],next := 4,nt := 67,m := 0 }
def ef5j7 : Ty6 → St := fun (x1,x2) => { tmps := [(8,(.own 0 0 1)),(10,(.own 1 0 1))],heap := [(0,(.cells x1.length (.rL .i64 x1) false)),(1,(.cells x2.length (.rL .i64 x2) false))],next := 2,nt := 67,m := 0 }
def ef5j8 : Ty17 → St := fun (t12,x2,x3) => { tmps := [(8,(.own 0 0 1)),(10,(.own 1 0 1)),(12,(.int .i64 t12))],heap := [(0,(.cells x2.length (.rL .i64 x2) false)),(1,(.cells x3.length (.rL .i64 x3) false))],next := 2,nt := 67,m := 0 }
def ef5l1 : Ty17 → St := fun (t12,x2,x3) => { tmps := [(8,(.own 0 0 1)),(10,(.own 1 0 1)),(12,(.int .i64 t12))],heap := [(0,(.cells x2.length (.rL .i64 x2) false)),(1,(.cells x3.length (.rL .i64 x3) false))],next := 2,nt := 67,m := 0 }
def ef5j9 : Unit → St := fun _ => { tmps := [],heap := [],next := 0,nt := 67,m := 0 }
def f5_1 (F : Nat) (kf5j1 : Ty5 → Rz) : Ty5 → Rz := fun (a0,a1,a2) => (kf5j1 (a0,a1,a2))
theorem f5_1_eq (F : Nat) (Rf5j1 : St → Rz) : ∀ v,aexec VG225 (Af5 F) (bp Try.f5 2) (ef5_a v) (kSeq (kc VG225 Rf5j1 sp39) (kFin VG225 none (Try.f5).results.toList)) = f5_1 F (Rf5j1 ∘ ef5j1) v := by
  rintro ⟨a0,a1,a2⟩; kernel_rfl
def f5_2 (F : Nat) (kf5j2 : Ty5 → Rz) : Ty5 → Rz := fun (t0,t1,t2) => (cond (decide (0 < (14 : Int))) (kf5j2 (t0,t1,(IntKind.i64.wrap ((1 : Int) + (Reg.around t2 (14 : Int)))))) none)
theorem f5_2_eq (F : Nat) (Rf5j2 : St → Rz) : ∀ v,aexec VG225 (Af5 F) (bp Try.f5 6) (ef5j1 v) (kSeq (kc VG225 Rf5j2 sp40) (kFin VG225 none (Try.f5).results.toList)) = f5_2 F (Rf5j2 ∘ ef5j2) v := by
  rintro ⟨t0,t1,t2⟩; kernel_rfl
def f5_3 (F : Nat) (kf5j3 : Ty64 → Rz) : Ty5 → Rz := fun (t0,t1,t7) => (cond ((decide (0 ≤ t7)) && (decide (t7 < 1000))) (kf5j3 (t1,t7,(Isl.some t0 t7))) none)
theorem f5_3_eq (F : Nat) (Rf5j3 : St → Rz) : ∀ v,aexec VG225 (Af5 F) (bp Try.f5 14) (ef5j2 v) (kSeq (kc VG225 Rf5j3 sp51) (kFin VG225 none (Try.f5).results.toList)) = f5_3 F (Rf5j3 ∘ ef5j3) v := by
  rintro ⟨t0,t1,t7⟩; kernel_rfl
def f5_4 (F : Nat) (kf5j4 : Ty17 → Rz) : Ty64 → Rz := fun (t1,t7,x3) => (cond ((decide (0 ≤ t7)) && (decide (t7 < 1000))) (kf5j4 (t7,x3,(Isl.some t1 t7))) none)
theorem f5_4_eq (F : Nat) (Rf5j4 : St → Rz) : ∀ v,aexec VG225 (Af5 F) (bp Try.f5 30) (ef5j3 v) (kSeq (kc VG225 Rf5j4 sp52) (kFin VG225 none (Try.f5).results.toList)) = f5_4 F (Rf5j4 ∘ ef5j4) v := by
  rintro ⟨t1,t7,x3⟩; kernel_rfl
def f5_5 (F : Nat) (kf5j5 : Ty65 → Rz) : Ty17 → Rz := fun (t7,x2,x3) => (kf5j5 (t7,x2,x3,(Isl.groups t7 x2)))
theorem f5_5_eq (F : Nat) (Rf5j5 : St → Rz) : ∀ v,aexec VG225 (Af5 F) (bp Try.f5 62) (ef5j4 v) (kSeq (kc VG225 Rf5j5 sp53) (kFin VG225 none (Try.f5).results.toList)) = f5_5 F (Rf5j5 ∘ ef5j5) v := by
  rintro ⟨t7,x2,x3⟩; kernel_rfl
def f5_6 (F : Nat) (kf5j6 : Ty66 → Rz) : Ty65 → Rz := fun (t7,x2,x3,x4) => (cond (decide ((0 + x2.length) < 1073741824)) (cond (decide ((([] ++ x2).length + x3.length) < 1073741824)) (kf5j6 (t7,x2,x3,x4,(([] ++ x2) ++ x3))) none) none)
theorem f5_6_eq (F : Nat) (Rf5j6 : St → Rz) : ∀ v,aexec VG225 (Af5 F) (bp Try.f5 126) (ef5j5 v) (kSeq (kc VG225 Rf5j6 sp54) (kFin VG225 none (Try.f5).results.toList)) = f5_6 F (Rf5j6 ∘ ef5j6) v := by
  rintro ⟨t7,x2,x3,x4⟩; kernel_rfl
def f5_7 (F : Nat) (kf5j7 : Ty6 → Rz) : Ty66 → Rz := fun (t7,x2,x3,x4,x5) => (cond ((decide (x4.flatten.length < 1073740000)) && (decide (x4.length + x3.length < 1073741000))) (cond (!(decide ((Isl.merge x4 x3) = (Isl.groups t7 x5)))) (some ((.bool false),[])) (cond ((decide (0 ≤ t7)) && (decide (Int.toNat t7 < 1073741000))) (cond (decide ((Isl.nums (Int.toNat t7)).length < 1073740000)) (cond (!(decide ((Isl.split (Isl.nums (Int.toNat t7)) x2) = x4))) (some ((.bool false),[])) (kf5j7 (x2,x4))) none) none)) none)
theorem f5_7_eq (F : Nat) (Rf5j7 : St → Rz) : ∀ v,aexec VG225 (Af5 F) (bp Try.f5 254) (ef5j6 v) (kSeq (kc VG225 Rf5j7 [(8,.plain),(10,.plain)]) (kFin VG225 none (Try.f5).results.toList)) = f5_7 F (Rf5j7 ∘ ef5j7) v := by
  rintro ⟨t7,x2,x3,x4,x5⟩; kernel_rfl
def f5_8 (F : Nat) (kf5j8 : Ty17 → Rz) (kf5j9 : Unit → Rz) : Ty6 → Rz := fun (x1,x2) => (kf5j8 ((0 : Int),x1,x2))
theorem f5_8_eq (F : Nat) (Rf5j8 : St → Rz) (Rf5j9 : St → Rz) : ∀ v,aexec VG225 (Af5 F) (bp Try.f5 1020) (ef5j7 v) (kSeq (kc VG225 Rf5j8 sp50) (kSeq (kc VG225 Rf5j9 []) (kFin VG225 none (Try.f5).results.toList))) = f5_8 F (Rf5j8 ∘ ef5j8) (Rf5j9 ∘ ef5j9) v := by
  rintro ⟨x1,x2⟩; kernel_rfl
def f5_9 (F : Nat) (kf5l1 : Ty17 → Rz) (kf5j9 : Unit → Rz) : Ty17 → Rz := fun (t12,x2,x3) => (cond (decide (t12 < (↑x3.length : Int))) (cond ((decide (0 ≤ t12)) && (decide (t12 < (↑x3.length : Int)))) (cond (decide ((x3.getD (Int.toNat t12) []).length < 1073740000)) (cond ((decide (0 ≤ t12)) && (decide (t12 < (↑x3.length : Int)))) (cond (!(decide ((Isl.split (x3.getD (Int.toNat t12) []) x2) = [(x3.getD (Int.toNat t12) [])]))) (some ((.bool false),[])) (kf5l1 ((IntKind.i64.wrap (t12 + (1 : Int))),x2,x3))) none) none) none) (kf5j9 ()))
theorem f5_9_eq (F : Nat) (Rf5l1 : St → Rz) (Rf5j9 : St → Rz) : ∀ v,aexec VG225 (Af5 F) (bp Try.f5 4084) (ef5l1 v) (kSeq (kc VG225 Rf5l1 sp50) (kBlock 0 (kSeq (kc VG225 Rf5j9 []) (kFin VG225 none (Try.f5).results.toList)))) = f5_9 F (Rf5l1 ∘ ef5l1) (Rf5j9 ∘ ef5j9) v := by
  rintro ⟨t12,x2,x3⟩; kernel_rfl
def f5_10_i : Ty17 → Int × (List (List Int)) × (List (List Int)) := fun (t12,x2,x3) => (t12,x2,x3)
def f5_10 (F : Nat) (kf5j9 : Unit → Rz) : Ty17 → Rz := fun v => loopN (fun k => f5_9 F k kf5j9) F (f5_10_i v)
theorem f5_10_eq (F : Nat) (Rf5j9 : St → Rz) : ∀ v,aexec VG225 (Af5 F) (bp Try.f5 2042) (ef5j8 v) (kBlock 0 (kSeq (kc VG225 Rf5j9 []) (kFin VG225 none (Try.f5).results.toList))) = f5_10 F (Rf5j9 ∘ ef5j9) v :=
  loop_cut (by kernel_rfl) (by kernel_rfl) ef5j8 ef5l1 _ f5_10_i (fun k => f5_9 F k (Rf5j9 ∘ ef5j9))
    (by rintro ⟨t12,x2,x3⟩; kernel_rfl) (fun Rf5l1 => f5_9_eq F Rf5l1 Rf5j9)
def f5_11 (F : Nat) (kf5j9 : Unit → Rz) : Ty17 → Rz := f5_10 F kf5j9
theorem f5_11_eq (F : Nat) (Rf5j9 : St → Rz) : ∀ v,aexec VG225 (Af5 F) (bp Try.f5 1021) (ef5j8 v) (kSeq (kc VG225 Rf5j9 []) (kFin VG225 none (Try.f5).results.toList)) = f5_11 F (Rf5j9 ∘ ef5j9) v := fun v =>
  (block_in  (by kernel_rfl) _ _).trans (f5_10_eq F Rf5j9 v)
def f5_12 (F : Nat) (kf5j9 : Unit → Rz) : Ty6 → Rz := fun v => f5_8 F (f5_11 F kf5j9) kf5j9 v
theorem f5_12_eq (F : Nat) (Rf5j9 : St → Rz) : ∀ v,aexec VG225 (Af5 F) (bp Try.f5 510) (ef5j7 v) (kSeq (kc VG225 Rf5j9 []) (kFin VG225 none (Try.f5).results.toList)) = f5_12 F (Rf5j9 ∘ ef5j9) v :=
  seq_cut (by kernel_rfl) (by kernel_rfl) ef5j7 ef5j8 _ (fun k => f5_8 F k (Rf5j9 ∘ ef5j9)) (f5_11 F (Rf5j9 ∘ ef5j9))
    (fun Rf5j8 => f5_8_eq F Rf5j8 Rf5j9) (f5_11_eq F Rf5j9)
def f5_13 (F : Nat) : Unit → Rz := fun _ => (some ((.bool true),[]))
theorem f5_13_eq (F : Nat) : ∀ v,aexec VG225 (Af5 F) (bp Try.f5 511) (ef5j9 v) (kFin VG225 none (Try.f5).results.toList) = f5_13 F v := by
  intro _; kernel_rfl
def f5_14 (F : Nat) : Ty6 → Rz := fun v => f5_12 F (f5_13 F) v
theorem f5_14_eq (F : Nat) : ∀ v,aexec VG225 (Af5 F) (bp Try.f5 255) (ef5j7 v) (kFin VG225 none (Try.f5).results.toList) = f5_14 F v :=
  seq_cut (by kernel_rfl) (by kernel_rfl) ef5j7 ef5j9 _ (fun k => f5_12 F k) (f5_13 F)
    (fun Rf5j9 => f5_12_eq F Rf5j9) (f5_13_eq F)
def f5_15 (F : Nat) : Ty66 → Rz := fun v => f5_7 F (f5_14 F) v
theorem f5_15_eq (F : Nat) : ∀ v,aexec VG225 (Af5 F) (bp Try.f5 127) (ef5j6 v) (kFin VG225 none (Try.f5).results.toList) = f5_15 F v :=
  seq_cut (by kernel_rfl) (by kernel_rfl) ef5j6 ef5j7 _ (fun k => f5_7 F k) (f5_14 F)
    (fun Rf5j7 => f5_7_eq F Rf5j7) (f5_14_eq F)
def f5_16 (F : Nat) : Ty65 → Rz := fun v => f5_6 F (f5_15 F) v
theorem f5_16_eq (F : Nat) : ∀ v,aexec VG225 (Af5 F) (bp Try.f5 63) (ef5j5 v) (kFin VG225 none (Try.f5).results.toList) = f5_16 F v :=
  seq_cut (by kernel_rfl) (by kernel_rfl) ef5j5 ef5j6 _ (fun k => f5_6 F k) (f5_15 F)
    (fun Rf5j6 => f5_6_eq F Rf5j6) (f5_15_eq F)
def f5_17 (F : Nat) : Ty17 → Rz := fun v => f5_5 F (f5_16 F) v
theorem f5_17_eq (F : Nat) : ∀ v,aexec VG225 (Af5 F) (bp Try.f5 31) (ef5j4 v) (kFin VG225 none (Try.f5).results.toList) = f5_17 F v :=
  seq_cut (by kernel_rfl) (by kernel_rfl) ef5j4 ef5j5 _ (fun k => f5_5 F k) (f5_16 F)
    (fun Rf5j5 => f5_5_eq F Rf5j5) (f5_16_eq F)
def f5_18 (F : Nat) : Ty64 → Rz := fun v => f5_4 F (f5_17 F) v
theorem f5_18_eq (F : Nat) : ∀ v,aexec VG225 (Af5 F) (bp Try.f5 15) (ef5j3 v) (kFin VG225 none (Try.f5).results.toList) = f5_18 F v :=
  seq_cut (by kernel_rfl) (by kernel_rfl) ef5j3 ef5j4 _ (fun k => f5_4 F k) (f5_17 F)
    (fun Rf5j4 => f5_4_eq F Rf5j4) (f5_17_eq F)
def f5_19 (F : Nat) : Ty5 → Rz := fun v => f5_3 F (f5_18 F) v
theorem f5_19_eq (F : Nat) : ∀ v,aexec VG225 (Af5 F) (bp Try.f5 7) (ef5j2 v) (kFin VG225 none (Try.f5).results.toList) = f5_19 F v :=
  seq_cut (by kernel_rfl) (by kernel_rfl) ef5j2 ef5j3 _ (fun k => f5_3 F k) (f5_18 F)
    (fun Rf5j3 => f5_3_eq F Rf5j3) (f5_18_eq F)
def f5_20 (F : Nat) : Ty5 → Rz := fun v => f5_2 F (f5_19 F) v
theorem f5_20_eq (F : Nat) : ∀ v,aexec VG225 (Af5 F) (bp Try.f5 3) (ef5j1 v) (kFin VG225 none (Try.f5).results.toList) = f5_20 F v :=
  seq_cut (by kernel_rfl) (by kernel_rfl) ef5j1 ef5j2 _ (fun k => f5_2 F k) (f5_19 F)
    (fun Rf5j2 => f5_2_eq F Rf5j2) (f5_19_eq F)
def f5_21 (F : Nat) : Ty5 → Rz := fun v => f5_1 F (f5_20 F) v
theorem f5_21_eq (F : Nat) : ∀ v,aexec VG225 (Af5 F) (sub (bodyOf Try.f5) []) (ef5_a v) (kFin VG225 none (Try.f5).results.toList) = f5_21 F v :=
  seq_cut (by kernel_rfl) (by kernel_rfl) ef5_a ef5j1 _ (fun k => f5_1 F k) (f5_20 F)
    (fun Rf5j1 => f5_1_eq F Rf5j1) (f5_20_eq F)
def f5 (F : Nat) : Ty5 → Rz := f5_21 F
theorem f5_body (F : Nat) (a0 : List Int) (a1 : List Int) (a2 : Int) : abody VG225 (Af5 F) Try.f5 [(.vs (.rI .i64 a0) 0 1),(.vs (.rI .i64 a1) 0 1),(.int .i64 a2)] [] = f5 F (a0,a1,a2) :=
  (abody_in (c := (sub (bodyOf Try.f5) [])) (by kernel_rfl) (s := ef5_a (a0,a1,a2)) (by kernel_rfl)).trans (f5_21_eq F (a0,a1,a2))
def r5 : CRun := fun X H => match X,H with
  | [(.vs (.rI .i64 a0) 0 1),(.vs (.rI .i64 a1) 0 1),(.int .i64 a2)],[] => some (true,(.bool true),[])
  | _,_ => none
theorem s5 (a0 : List Int) (a1 : List Int) (a2 : Int) (h0 : okV (.vs (.rI .i64 a0) 0 1)) (h1 : okV (.vs (.rI .i64 a1) 0 1)) (h2 : okV (.int .i64 a2)) : ∃ F,f5 F (a0,a1,a2) = some ((.bool true),[]) := by
  have hr := Reg.around_lt (n := a2) (m := 14) (by decide)
  refine ⟨100,?_⟩
  simp only [f5_1,f5_2,f5_3,f5_4,f5_5,f5_6,f5_7,f5_8,f5_10_i,f5_10,f5_11,f5_12,f5_13,f5_14,f5_15,f5_16,f5_17,f5_18,f5_19,f5_20,f5_21,f5,dec_and,List.nil_append,Nat.zero_add]
  rw [cond_pos (by decide),i64w (by omega) (by omega)]
  generalize hk : (1 : Int) + Reg.around a2 14 = t
  have g0 := Isl.groups_clss (n := t) (by omega) (by omega) (Isl.some a0 t)
  have g1 := Isl.groups_clss (n := t) (by omega) (by omega) (Isl.some a0 t ++ Isl.some a1 t)
  have hs := Isl.nums_lt t.toNat
  have hm := Isl.merge_eq (links := Isl.some a0 t) hs (Isl.some a1 t)
  rw [← g0,← g1] at hm
  have hsp : Isl.split (Isl.nums t.toNat) (Isl.some a0 t) = Isl.groups t (Isl.some a0 t) := by
    unfold Isl.split; rw [Isl.set_self hs,g0]
  have l1 := Isl.some_len a0 t
  have l2 := Isl.some_len a1 t
  have l3 := (Isl.groups_bound t (Isl.some a0 t)).1
  have l4 := Isl.groups_flat (n := t) (N := 14) (by omega) (Isl.some a0 t)
  have l5 := Isl.nums_len t.toNat
  have l6 := (Isl.groups_bound t (Isl.some a0 t)).2
  have hg : ∀ g ∈ Isl.groups t (Isl.some a0 t),Isl.split g (Isl.some a0 t) = [g] := fun g h => Isl.split_group hs (by rw [← g0]; exact h)
  rw [cond_pos (by omega),cond_pos (by omega),cond_pos (by omega),cond_pos (by omega),cond_pos (by omega),hm,decide_eq_true rfl,Bool.not_true,cond_false,cond_pos (by omega),cond_pos (by omega),hsp,decide_eq_true rfl,Bool.not_true,cond_false]
  generalize Isl.groups t (Isl.some a0 t) = G at hg l3 l4 l6
  refine loopN_from (fun i => ((i : Int),Isl.some a0 t,G)) G.length (by rfl) (fun i hi k => ?_) (fun k => ?_) _ (by omega)
  · have hl := Isl.getD_len l6 i
    simp only [f5_9,dec_and,Int.toNat_natCast,hg _ (Isl.getD_mem' hi)]
    rw [cond_pos (by omega),cond_pos (by omega),cond_pos (by omega),cond_pos (by omega),i64w (by omega) (by omega)]
    simp
  · simp only [f5_9]
    rw [cond_neg (by omega)]
    rfl
theorem c5 : CallOk Try.prog G22 5 r5 := callOk_of (V := VG225) mixed tys eVG225 (f := 5) (fn := Try.f5) Try.func5 (by kernel_rfl) (c := sub (bodyOf Try.f5) []) (by kernel_rfl) (by
  intro X H r H' h hX hH
  unfold r5 at h; split at h <;> try contradiction
  · simp only [Option.some.injEq,Prod.mk.injEq] at h
    obtain ⟨hp,rfl,rfl⟩ := h
    obtain ⟨F,hF⟩ := s5 _ _ _ (hX _ (.head _)) (hX _ (.tail _ (.head _))) (hX _ (.tail _ (.tail _ (.head _))))
    exact ⟨Af5 F,(f5_body F _ _ _).trans hF⟩)
end Go.Am
end