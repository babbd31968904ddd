/- Part of a proof about the functions of the given program. -/
import Derived.Test.YtcafjaenmbhlnaaAm22D
import Derived.Test.YtcafjaenmbhlnaaAm22E
set_option linter.unusedVariables false
set_option linter.unusedSimpArgs false
namespace Go.Am
open Go Go.Proofs
abbrev sp32 : List (Nat × Md) := [(1,.plain),(5,.plain),(6,.plain),(7,.own 2),(17,.plain),(18,.plain),(19,.plain)]
abbrev sp33 : List (Nat × Md) := [(1,.plain),(5,.plain),(6,.plain)]
abbrev sp34 : List (Nat × Md) := [(1,.plain),(5,.plain),(6,.plain),(7,.plain)]
abbrev sp35 : List (Nat × Md) := [(1,.plain),(5,.plain),(6,.plain),(7,.plain),(17,.plain),(18,.plain),(19,.plain)]
abbrev Ty44 := (List (List Int)) × (List Int) × Int
abbrev Ty45 := (List (List Int)) × (List Int) × Int × (List Int) × Int × Int
abbrev Ty46 := (List (List Int)) × (List Int) × Int × (List Int) × Int × Int × (List Int)
def lVG2224 : List CEnt := [(37,[some 3,some 22],r37),(45,[none],r45),(46,[none],r46)]
def VG2224 : Env := mkEnv T22 G22 lVG2224
theorem eVG2224 : EOk Try.prog VG2224 := eok_mk (by exact ⟨c37,c45,c46,trivial⟩)
def Af24 (F : Nat) : Cuts := { F := F,at_ := fun _ => none,join := fun _ => none,fin := (some [(4,(.own 22))]) }
def ef24_a : Int × (List (List Int)) → St := fun (a0,a1) => { tmps := [(0,(.int .i64 a0)),(1,(.vs (.rL .i64 a1) 0 1))],heap := [],next := 0,nt := 12,m := 0 }
def f24_1 (F : Nat) : Int × (List (List Int)) → Rz := fun (a0,a1) => (cond (!((decide (1 ≤ a0)) && (decide (a0 ≤ 4096)))) (some ((.own 0 0 1),[(.cells 0 (.rL .i64 []) true)])) (cond ((decide (0 ≤ a0)) && (decide (Int.toNat a0 < 1073741000))) (cond ((decide ((Isl.nums (Int.toNat a0)).length < 1073740000)) && (Isl.inc (Isl.nums (Int.toNat a0)))) (some ((.own 0 0 1),[(.cells (Isl.clss (Isl.nums (Int.toNat a0)) a1).length (.rL .i64 (Isl.clss (Isl.nums (Int.toNat a0)) a1)) true)])) none) none))
theorem f24_1_eq (F : Nat) : ∀ v,aexec VG2224 (Af24 F) (sub (bodyOf Try.f24) []) (ef24_a v) (kFin VG2224 (some [(4,(.own 22))]) (Try.f24).results.toList) = f24_1 F v := by
  rintro ⟨a0,a1⟩; kernel_rfl
def f24 (F : Nat) : Int × (List (List Int)) → Rz := f24_1 F
theorem f24_body (F : Nat) (a0 : Int) (a1 : List (List Int)) : abody VG2224 (Af24 F) Try.f24 [(.int .i64 a0),(.vs (.rL .i64 a1) 0 1)] [] = f24 F (a0,a1) :=
  (abody_in (c := (sub (bodyOf Try.f24) [])) (by kernel_rfl) (s := ef24_a (a0,a1)) (by kernel_rfl)).trans (f24_1_eq F (a0,a1))
def r24 : CRun := fun X H => match X,H with
  | [(.int .i64 a0),(.vs (.rL .i64 a1) 0 1)],[] => some (true,(.own 0 0 1),[(.cells (Isl.groups a0 a1).length (.rL .i64 (Isl.groups a0 a1)) true)])
  | _,_ => none
theorem s24 (a0 : Int) (a1 : List (List Int)) (h0 : okV (.int .i64 a0)) (h1 : okV (.vs (.rL .i64 a1) 0 1)) : ∃ F,f24 F (a0,a1) = some ((.own 0 0 1),[(.cells (Isl.groups a0 a1).length (.rL .i64 (Isl.groups a0 a1)) true)]) := by
  refine ⟨0,?_⟩
  simp only [f24,f24_1,dec_and,dec_not,Isl.groups]
  by_cases h : 1 ≤ a0 ∧ a0 ≤ 4096
  · rw [cond_neg (by omega),cond_pos (by omega),Isl.inc_iff.2 (Isl.nums_lt _),Isl.nums_len,decide_eq_true (by omega),if_neg (by omega)]
    rfl
  · rw [cond_pos h,if_pos (by omega)]
    rfl
theorem c24 : CallOk Try.prog G22 24 r24 := callOk_of (V := VG2224) mixed tys eVG2224 (f := 24) (fn := Try.f24) Try.func24 (by kernel_rfl) (c := sub (bodyOf Try.f24) []) (by kernel_rfl) (by
  intro X H r H' h hX hH
  unfold r24 at h; split at h <;> try contradiction
  · simp only [Option.some.injEq,Prod.mk.injEq] at h
    obtain ⟨hp,rfl,rfl⟩ := h
    obtain ⟨F,hF⟩ := s24 _ _ (hX _ (.head _)) (hX _ (.tail _ (.head _)))
    exact ⟨Af24 F,(f24_body F _ _).trans hF⟩)
def lVG2215 : List CEnt := [(37,[some 3,some 22],r37),(38,[some 3],r38),(39,[some 22],r39),(40,[none],r40)]
def VG2215 : Env := mkEnv T22 G22 lVG2215
theorem eVG2215 : EOk Try.prog VG2215 := eok_mk (by exact ⟨c37,c38,c39,c40,trivial⟩)
def Af15 (F : Nat) : Cuts := { F := F,at_ := fun _ => none,join := fun _ => none,fin := (some [(4,(.own 22))]) }
def ef15_a : Ty6 → St := fun (a0,a1) => { tmps := [(0,(.vs (.rL .i64 a0) 0 1)),(1,(.vs (.rL .i64 a1) 0 1))],heap := [],next := 0,nt := 13,m := 0 }
def f15_1 (F : Nat) : Ty6 → Rz := fun (a0,a1) => (cond (decide (a0.flatten.length < 1073740000)) (cond (decide (a0.flatten.length < 1073740000)) (cond (decide (a0.length + a1.length < 1073741000)) (cond ((decide ((Isl.set a0.flatten).length < 1073740000)) && (Isl.inc (Isl.set a0.flatten))) (some ((.own 0 0 1),[(.cells (Isl.clss (Isl.set a0.flatten) (a0 ++ a1)).length (.rL .i64 (Isl.clss (Isl.set a0.flatten) (a0 ++ a1))) true)])) none) none) none) none)
theorem f15_1_eq (F : Nat) : ∀ v,aexec VG2215 (Af15 F) (sub (bodyOf Try.f15) []) (ef15_a v) (kFin VG2215 (some [(4,(.own 22))]) (Try.f15).results.toList) = f15_1 F v := by
  rintro ⟨a0,a1⟩; kernel_rfl
def f15 (F : Nat) : Ty6 → Rz := f15_1 F
theorem f15_body (F : Nat) (a0 : List (List Int)) (a1 : List (List Int)) : abody VG2215 (Af15 F) Try.f15 [(.vs (.rL .i64 a0) 0 1),(.vs (.rL .i64 a1) 0 1)] [] = f15 F (a0,a1) :=
  (abody_in (c := (sub (bodyOf Try.f15) [])) (by kernel_rfl) (s := ef15_a (a0,a1)) (by kernel_rfl)).trans (f15_1_eq F (a0,a1))
def r15 : CRun := fun X H => match X,H with
  | [(.vs (.rL .i64 a0) 0 1),(.vs (.rL .i64 a1) 0 1)],[] => some (((decide (a0.flatten.length < 1073740000)) && (decide (a0.length + a1.length < 1073741000))),(.own 0 0 1),[(.cells (Isl.merge a0 a1).length (.rL .i64 (Isl.merge a0 a1)) true)])
  | _,_ => none
theorem s15 (a0 : List (List Int)) (a1 : List (List Int)) (hp : (((decide (a0.flatten.length < 1073740000)) && (decide (a0.length + a1.length < 1073741000)))) = true) (h0 : okV (.vs (.rL .i64 a0) 0 1)) (h1 : okV (.vs (.rL .i64 a1) 0 1)) : ∃ F,f15 F (a0,a1) = some ((.own 0 0 1),[(.cells (Isl.merge a0 a1).length (.rL .i64 (Isl.merge a0 a1)) true)]) := by
  simp only [Bool.and_eq_true,decide_eq_true_eq] at hp
  refine ⟨0,?_⟩
  have := Isl.set_len a0.flatten
  simp only [f15,f15_1,Isl.merge]
  rw [cond_pos (by omega),cond_pos (by omega),cond_pos (by omega),Isl.inc_iff.2 (Isl.set_lt _),decide_eq_true (by omega)]
  rfl
theorem c15 : CallOk Try.prog G22 15 r15 := callOk_of (V := VG2215) mixed tys eVG2215 (f := 15) (fn := Try.f15) Try.func15 (by kernel_rfl) (c := sub (bodyOf Try.f15) []) (by kernel_rfl) (by
  intro X H r H' h hX hH
  unfold r15 at h; split at h <;> try contradiction
  · simp only [Option.some.injEq,Prod.mk.injEq] at h
    obtain ⟨hp,rfl,rfl⟩ := h
    obtain ⟨F,hF⟩ := s15 _ _ hp (hX _ (.head _)) (hX _ (.tail _ (.head _)))
    exact ⟨Af15 F,(f15_body F _ _).trans hF⟩)
def lVG2217 : List CEnt := [(37,[some 3,some 22],r37),(38,[some 3],r38)]
def VG2217 : Env := mkEnv T22 G22 lVG2217
theorem eVG2217 : EOk Try.prog VG2217 := eok_mk (by exact ⟨c37,c38,trivial⟩)
def Af17 (F : Nat) : Cuts := { F := F,at_ := fun _ => none,join := fun _ => none,fin := (some [(4,(.own 22))]) }
def ef17_a : Ty25 → St := fun (a0,a1) => { tmps := [(0,(.vs (.rI .i64 a0) 0 1)),(1,(.vs (.rL .i64 a1) 0 1))],heap := [],next := 0,nt := 9,m := 0 }
def f17_1 (F : Nat) : Ty25 → Rz := fun (a0,a1) => (cond (decide (a0.length < 1073740000)) (cond ((decide ((Isl.set a0).length < 1073740000)) && (Isl.inc (Isl.set a0))) (some ((.own 0 0 1),[(.cells (Isl.clss (Isl.set a0) a1).length (.rL .i64 (Isl.clss (Isl.set a0) a1)) true)])) none) none)
theorem f17_1_eq (F : Nat) : ∀ v,aexec VG2217 (Af17 F) (sub (bodyOf Try.f17) []) (ef17_a v) (kFin VG2217 (some [(4,(.own 22))]) (Try.f17).results.toList) = f17_1 F v := by
  rintro ⟨a0,a1⟩; kernel_rfl
def f17 (F : Nat) : Ty25 → Rz := f17_1 F
theorem f17_body (F : Nat) (a0 : List Int) (a1 : List (List Int)) : abody VG2217 (Af17 F) Try.f17 [(.vs (.rI .i64 a0) 0 1),(.vs (.rL .i64 a1) 0 1)] [] = f17 F (a0,a1) :=
  (abody_in (c := (sub (bodyOf Try.f17) [])) (by kernel_rfl) (s := ef17_a (a0,a1)) (by kernel_rfl)).trans (f17_1_eq F (a0,a1))
def r17 : CRun := fun X H => match X,H with
  | [(.vs (.rI .i64 a0) 0 1),(.vs (.rL .i64 a1) 0 1)],[] => some ((decide (a0.length < 1073740000)),(.own 0 0 1),[(.cells (Isl.split a0 a1).length (.rL .i64 (Isl.split a0 a1)) true)])
  | _,_ => none
theorem s17 (a0 : List Int) (a1 : List (List Int)) (hp : ((decide (a0.length < 1073740000))) = true) (h0 : okV (.vs (.rI .i64 a0) 0 1)) (h1 : okV (.vs (.rL .i64 a1) 0 1)) : ∃ F,f17 F (a0,a1) = some ((.own 0 0 1),[(.cells (Isl.split a0 a1).length (.rL .i64 (Isl.split a0 a1)) true)]) := by
  refine ⟨0,?_⟩
  have hp' := of_decide_eq_true hp
  have := Isl.set_len a0
  simp only [f17,f17_1,Isl.split]
  rw [cond_pos (by omega),Isl.inc_iff.2 (Isl.set_lt _),decide_eq_true (by omega)]
  rfl
theorem c17 : CallOk Try.prog G22 17 r17 := callOk_of (V := VG2217) mixed tys eVG2217 (f := 17) (fn := Try.f17) Try.func17 (by kernel_rfl) (c := sub (bodyOf Try.f17) []) (by kernel_rfl) (by
  intro X H r H' h hX hH
  unfold r17 at h; split at h <;> try contradiction
  · simp only [Option.some.injEq,Prod.mk.injEq] at h
    obtain ⟨hp,rfl,rfl⟩ := h
    obtain ⟨F,hF⟩ := s17 _ _ hp (hX _ (.head _)) (hX _ (.tail _ (.head _)))
    exact ⟨Af17 F,(f17_body F _ _).trans hF⟩)
def lVG2222 : List CEnt := [(37,[some 3,some 22],r37),(38,[some 3],r38),(42,[none,none],r42),(43,[some 3],r43)]
def VG2222 : Env := mkEnv T22 G22 lVG2222
theorem eVG2222 : EOk Try.prog VG2222 := eok_mk (by exact ⟨c37,c38,c42,c43,trivial⟩)
def Af22 (F : Nat) : Cuts := { F := F,at_ := fun n => match n with | 5018 => some sp32 | _ => none,join := fun n => match n with | 1032 => some [(0,.plain),(1,.plain)] | 2030 => some [(1,.plain),(5,.plain)] | 3028 => some sp33 | 4026 => some sp34 | 5020 => some sp35 | 11003 => some [(7,.plain)] | _ => none,fin := (some [(4,(.own 3))]) }
def ef22_a : Ty25 → St := fun (a0,a1) => { tmps := [(0,(.vs (.rI .i64 a0) 0 1)),(1,(.vs (.rL .i64 a1) 0 1))],heap := [],next := 0,nt := 39,m := 0 }
def ef22j1 : Ty25 → St := fun (t0,t1) => { tmps := [(0,(.vs (.rI .i64 t0) 0 1)),(1,(.vs (.rL .i64 t1) 0 1))],heap := [],next := 0,nt := 39,m := 0 }
def ef22j2 : Ty9 → St := fun (t1,t5) => { tmps := [(1,(.vs (.rL .i64 t1) 0 1)),(5,(.vs (.rI .i64 t5) 0 1))],heap := [],next := 0,nt := 39,m := 0 }
def ef22j3 : Ty44 → St := fun (t1,t5,t6) => { tmps := [(1,(.vs (.rL .i64 t1) 0 1)),(5,(.vs (.rI .i64 t5) 0 1)),(6,(.int .i64 t6))],heap := [],next := 0,nt := 39,m := 0 }
def ef22j4 : Ty44 → St := fun (t1,t5,t6) => { tmps := [(1,(.vs (.rL .i64 t1) 0 1)),(5,(.vs (.rI .i64 t5) 0 1)),(6,(.int .i64 t6)),(7,.ns)],heap := [],next := 0,nt := 39,m := 0 }
def ef22j5 : Ty45 → St := fun (t1,t5,t6,t17,t18,t19) => { tmps := [(1,(.vs (.rL .i64 t1) 0 1)),(5,(.vs (.rI .i64 t5) 0 1)),(6,(.int .i64 t6)),(7,.ns),(17,(.vs (.rI .i64 t17) 0 1)),(18,(.int .i64 t18)),(19,(.int .i64 t19))],heap := [],next := 0,nt := 39,m := 0 }
def ef22l1 : Ty46 → St := fun (t1,t5,t6,t17,t18,t19,x7) => { tmps := [(1,(.vs (.rL .i64 t1) 0 1)),(5,(.vs (.rI .i64 t5) 0 1)),(6,(.int .i64 t6)),(7,(.own 0 0 1)),(17,(.vs (.rI .i64 t17) 0 1)),(18,(.int .i64 t18)),(19,(.int .i64 t19))],heap := [(0,(.cells x7.length (.rI .i64 x7) true))],next := 1,nt := 39,m := 0 }
def ef22j6 : (List Int) → St := fun x1 => { tmps := [(7,(.own 0 0 1))],heap := [(0,(.cells x1.length (.rI .i64 x1) true))],next := 1,nt := 39,m := 0 }
def f22_1 (F : Nat) (kf22j1 : Ty25 → Rz) : Ty25 → Rz := fun (a0,a1) => (kf22j1 (a0,a1))
theorem f22_1_eq (F : Nat) (Rf22j1 : St → Rz) : ∀ v,aexec VG2222 (Af22 F) (bp Try.f22 2) (ef22_a v) (kSeq (kc VG2222 Rf22j1 [(0,.plain),(1,.plain)]) (kFin VG2222 (some [(4,(.own 3))]) (Try.f22).results.toList)) = f22_1 F (Rf22j1 ∘ ef22j1) v := by
  rintro ⟨a0,a1⟩; kernel_rfl
def f22_2 (F : Nat) (kf22j2 : Ty9 → Rz) : Ty25 → Rz := fun (t0,t1) => (cond (decide (t0.length < 1073740000)) (kf22j2 (t1,(Isl.set t0))) none)
theorem f22_2_eq (F : Nat) (Rf22j2 : St → Rz) : ∀ v,aexec VG2222 (Af22 F) (bp Try.f22 6) (ef22j1 v) (kSeq (kc VG2222 Rf22j2 [(1,.plain),(5,.plain)]) (kFin VG2222 (some [(4,(.own 3))]) (Try.f22).results.toList)) = f22_2 F (Rf22j2 ∘ ef22j2) v := by
  rintro ⟨t0,t1⟩; kernel_rfl
def f22_3 (F : Nat) (kf22j3 : Ty44 → Rz) : Ty9 → Rz := fun (t1,t5) => (cond ((decide (t5.length < 1073740000)) && (Isl.inc t5)) (kf22j3 (t1,t5,(↑(Isl.clss t5 t1).length : Int))) none)
theorem f22_3_eq (F : Nat) (Rf22j3 : St → Rz) : ∀ v,aexec VG2222 (Af22 F) (bp Try.f22 14) (ef22j2 v) (kSeq (kc VG2222 Rf22j3 sp33) (kFin VG2222 (some [(4,(.own 3))]) (Try.f22).results.toList)) = f22_3 F (Rf22j3 ∘ ef22j3) v := by
  rintro ⟨t1,t5⟩; kernel_rfl
def f22_4 (F : Nat) (kf22j4 : Ty44 → Rz) : Ty44 → Rz := fun (t1,t5,t6) => (kf22j4 (t1,t5,t6))
theorem f22_4_eq (F : Nat) (Rf22j4 : St → Rz) : ∀ v,aexec VG2222 (Af22 F) (bp Try.f22 30) (ef22j3 v) (kSeq (kc VG2222 Rf22j4 sp34) (kFin VG2222 (some [(4,(.own 3))]) (Try.f22).results.toList)) = f22_4 F (Rf22j4 ∘ ef22j4) v := by
  rintro ⟨t1,t5,t6⟩; kernel_rfl
def f22_5 (F : Nat) (kf22j5 : Ty45 → Rz) (kf22j6 : (List Int) → Rz) : Ty44 → Rz := fun (t1,t5,t6) => (kf22j5 (t1,t5,t6,t5,(↑t5.length : Int),(0 : Int)))
theorem f22_5_eq (F : Nat) (Rf22j5 : St → Rz) (Rf22j6 : St → Rz) : ∀ v,aexec VG2222 (Af22 F) (bp Try.f22 124) (ef22j4 v) (kSeq (kc VG2222 Rf22j5 sp35) (kSeq (kc VG2222 Rf22j6 [(7,.plain)]) (kFin VG2222 (some [(4,(.own 3))]) (Try.f22).results.toList))) = f22_5 F (Rf22j5 ∘ ef22j5) (Rf22j6 ∘ ef22j6) v := by
  rintro ⟨t1,t5,t6⟩; kernel_rfl
def f22_6 (F : Nat) (kf22l1 : Ty46 → Rz) (kf22j6 : (List Int) → Rz) : Ty46 → Rz := fun (t1,t5,t6,t17,t18,t19,x7) => (cond (decide (t19 < t18)) (cond ((decide (0 ≤ t19)) && (decide (t19 < (↑t17.length : Int)))) (cond (decide (t5.length < 1073741000)) (cond (decide (t5.length < 1073740000)) (cond ((decide ((Isl.del t5 (t17.getD (Int.toNat t19) 0)).length < 1073740000)) && (Isl.inc (Isl.del t5 (t17.getD (Int.toNat t19) 0)))) (cond (decide ((↑(Isl.clss (Isl.del t5 (t17.getD (Int.toNat t19) 0)) t1).length : Int) > t6)) (cond (decide ((x7.length + 1) < 1073741824)) (kf22l1 (t1,t5,t6,t17,t18,(IntKind.i64.wrap (t19 + (1 : Int))),(x7 ++ [(t17.getD (Int.toNat t19) 0)]))) none) (kf22l1 (t1,t5,t6,t17,t18,(IntKind.i64.wrap (t19 + (1 : Int))),x7))) none) none) none) none) (kf22j6 x7))
theorem f22_6_eq (F : Nat) (Rf22l1 : St → Rz) (Rf22j6 : St → Rz) : ∀ v,aexec VG2222 (Af22 F) (bp Try.f22 500) (ef22l1 v) (kSeq (kc VG2222 Rf22l1 sp32) (kBlock 0 (kSeq (kc VG2222 Rf22j6 [(7,.plain)]) (kFin VG2222 (some [(4,(.own 3))]) (Try.f22).results.toList)))) = f22_6 F (Rf22l1 ∘ ef22l1) (Rf22j6 ∘ ef22j6) v := by
  rintro ⟨t1,t5,t6,t17,t18,t19,x7⟩; kernel_rfl
def f22_7_i : Ty45 → (List (List Int)) × (List Int) × Int × (List Int) × Int × Int × (List Int) := fun (t1,t5,t6,t17,t18,t19) => (t1,t5,t6,t17,t18,t19,[])
def f22_7 (F : Nat) (kf22j6 : (List Int) → Rz) : Ty45 → Rz := fun v => loopN (fun k => f22_6 F k kf22j6) F (f22_7_i v)
theorem f22_7_eq (F : Nat) (Rf22j6 : St → Rz) : ∀ v,aexec VG2222 (Af22 F) (bp Try.f22 250) (ef22j5 v) (kBlock 0 (kSeq (kc VG2222 Rf22j6 [(7,.plain)]) (kFin VG2222 (some [(4,(.own 3))]) (Try.f22).results.toList))) = f22_7 F (Rf22j6 ∘ ef22j6) v :=
  loop_cut (by kernel_rfl) (by kernel_rfl) ef22j5 ef22l1 _ f22_7_i (fun k => f22_6 F k (Rf22j6 ∘ ef22j6))
    (by rintro ⟨t1,t5,t6,t17,t18,t19⟩; kernel_rfl) (fun Rf22l1 => f22_6_eq F Rf22l1 Rf22j6)
def f22_8 (F : Nat) (kf22j6 : (List Int) → Rz) : Ty45 → Rz := f22_7 F kf22j6
theorem f22_8_eq (F : Nat) (Rf22j6 : St → Rz) : ∀ v,aexec VG2222 (Af22 F) (bp Try.f22 125) (ef22j5 v) (kSeq (kc VG2222 Rf22j6 [(7,.plain)]) (kFin VG2222 (some [(4,(.own 3))]) (Try.f22).results.toList)) = f22_8 F (Rf22j6 ∘ ef22j6) v := fun v =>
  (block_in  (by kernel_rfl) _ _).trans (f22_7_eq F Rf22j6 v)
def f22_9 (F : Nat) (kf22j6 : (List Int) → Rz) : Ty44 → Rz := fun v => f22_5 F (f22_8 F kf22j6) kf22j6 v
theorem f22_9_eq (F : Nat) (Rf22j6 : St → Rz) : ∀ v,aexec VG2222 (Af22 F) (bp Try.f22 62) (ef22j4 v) (kSeq (kc VG2222 Rf22j6 [(7,.plain)]) (kFin VG2222 (some [(4,(.own 3))]) (Try.f22).results.toList)) = f22_9 F (Rf22j6 ∘ ef22j6) v :=
  seq_cut (by kernel_rfl) (by kernel_rfl) ef22j4 ef22j5 _ (fun k => f22_5 F k (Rf22j6 ∘ ef22j6)) (f22_8 F (Rf22j6 ∘ ef22j6))
    (fun Rf22j5 => f22_5_eq F Rf22j5 Rf22j6) (f22_8_eq F Rf22j6)
def f22_10 (F : Nat) : (List Int) → Rz := fun x1 => (some ((.own 0 0 1),[(.cells x1.length (.rI .i64 x1) true)]))
theorem f22_10_eq (F : Nat) : ∀ v,aexec VG2222 (Af22 F) (bp Try.f22 63) (ef22j6 v) (kFin VG2222 (some [(4,(.own 3))]) (Try.f22).results.toList) = f22_10 F v := by
  intro x1; kernel_rfl
def f22_11 (F : Nat) : Ty44 → Rz := fun v => f22_9 F (f22_10 F) v
theorem f22_11_eq (F : Nat) : ∀ v,aexec VG2222 (Af22 F) (bp Try.f22 31) (ef22j4 v) (kFin VG2222 (some [(4,(.own 3))]) (Try.f22).results.toList) = f22_11 F v :=
  seq_cut (by kernel_rfl) (by kernel_rfl) ef22j4 ef22j6 _ (fun k => f22_9 F k) (f22_10 F)
    (fun Rf22j6 => f22_9_eq F Rf22j6) (f22_10_eq F)
def f22_12 (F : Nat) : Ty44 → Rz := fun v => f22_4 F (f22_11 F) v
theorem f22_12_eq (F : Nat) : ∀ v,aexec VG2222 (Af22 F) (bp Try.f22 15) (ef22j3 v) (kFin VG2222 (some [(4,(.own 3))]) (Try.f22).results.toList) = f22_12 F v :=
  seq_cut (by kernel_rfl) (by kernel_rfl) ef22j3 ef22j4 _ (fun k => f22_4 F k) (f22_11 F)
    (fun Rf22j4 => f22_4_eq F Rf22j4) (f22_11_eq F)
def f22_13 (F : Nat) : Ty9 → Rz := fun v => f22_3 F (f22_12 F) v
theorem f22_13_eq (F : Nat) : ∀ v,aexec VG2222 (Af22 F) (bp Try.f22 7) (ef22j2 v) (kFin VG2222 (some [(4,(.own 3))]) (Try.f22).results.toList) = f22_13 F v :=
  seq_cut (by kernel_rfl) (by kernel_rfl) ef22j2 ef22j3 _ (fun k => f22_3 F k) (f22_12 F)
    (fun Rf22j3 => f22_3_eq F Rf22j3) (f22_12_eq F)
def f22_14 (F : Nat) : Ty25 → Rz := fun v => f22_2 F (f22_13 F) v
theorem f22_14_eq (F : Nat) : ∀ v,aexec VG2222 (Af22 F) (bp Try.f22 3) (ef22j1 v) (kFin VG2222 (some [(4,(.own 3))]) (Try.f22).results.toList) = f22_14 F v :=
  seq_cut (by kernel_rfl) (by kernel_rfl) ef22j1 ef22j2 _ (fun k => f22_2 F k) (f22_13 F)
    (fun Rf22j2 => f22_2_eq F Rf22j2) (f22_13_eq F)
def f22_15 (F : Nat) : Ty25 → Rz := fun v => f22_1 F (f22_14 F) v
theorem f22_15_eq (F : Nat) : ∀ v,aexec VG2222 (Af22 F) (sub (bodyOf Try.f22) []) (ef22_a v) (kFin VG2222 (some [(4,(.own 3))]) (Try.f22).results.toList) = f22_15 F v :=
  seq_cut (by kernel_rfl) (by kernel_rfl) ef22_a ef22j1 _ (fun k => f22_1 F k) (f22_14 F)
    (fun Rf22j1 => f22_1_eq F Rf22j1) (f22_14_eq F)
def f22 (F : Nat) : Ty25 → Rz := f22_15 F
theorem f22_body (F : Nat) (a0 : List Int) (a1 : List (List Int)) : abody VG2222 (Af22 F) Try.f22 [(.vs (.rI .i64 a0) 0 1),(.vs (.rL .i64 a1) 0 1)] [] = f22 F (a0,a1) :=
  (abody_in (c := (sub (bodyOf Try.f22) [])) (by kernel_rfl) (s := ef22_a (a0,a1)) (by kernel_rfl)).trans (f22_15_eq F (a0,a1))
def r22 : CRun := fun X H => match X,H with
  | [(.vs (.rI .i64 a0) 0 1),(.vs (.rL .i64 a1) 0 1)],[] => some ((decide (a0.length < 1073740000)),(.own 0 0 1),[(.cells (Isl.cut a0 a1).length (.rI .i64 (Isl.cut a0 a1)) true)])
  | _,_ => none
theorem s22 (a0 : List Int) (a1 : List (List Int)) (hp : ((decide (a0.length < 1073740000))) = true) (h0 : okV (.vs (.rI .i64 a0) 0 1)) (h1 : okV (.vs (.rL .i64 a1) 0 1)) : ∃ F,f22 F (a0,a1) = some ((.own 0 0 1),[(.cells (Isl.cut a0 a1).length (.rI .i64 (Isl.cut a0 a1)) true)]) := by
  simp only [decide_eq_true_eq] at hp
  refine ⟨a0.length + 1,?_⟩
  have hsl := Isl.set_len a0
  have hlt := Isl.set_lt a0
  simp only [f22_1,f22_2,f22_3,f22_4,f22_5,f22_7_i,f22_7,f22_8,f22_9,f22_10,f22_11,f22_12,f22_13,f22_14,f22_15,f22]
  rw [cond_pos (by omega)]
  unfold Isl.cut
  generalize Isl.set a0 = s at hsl hlt
  rw [Isl.inc_iff.2 hlt,decide_eq_true (show s.length < 1073740000 by omega)]
  simp only [Bool.and_self,cond_true]
  refine loopN_from (fun i => (a1,s,((Isl.clss s a1).length : Int),s,(s.length : Int),(i : Int),(s.take i).filter fun x => decide ((Isl.clss s a1).length < (Isl.clss (Isl.del s x) a1).length))) s.length (by rfl) (fun i hi k => ?_) (fun k => ?_) _ (by omega)
  · have hf : ((s.take i).filter fun x => decide ((Isl.clss s a1).length < (Isl.clss (Isl.del s x) a1).length)).length ≤ i := by
      refine Nat.le_trans (List.length_filter_le _ _) ?_
      rw [List.length_take]; omega
    have hdl : Isl.Lt (Isl.del s (s.getD i 0)) := hlt.filter _
    have hdlen : (Isl.del s (s.getD i 0)).length ≤ s.length := List.length_filter_le _ _
    simp only [f22_6,dec_and,Int.toNat_natCast,i64w (show -9223372036854775808 ≤ (i : Int) + 1 by omega) (show (i : Int) + 1 ≤ 9223372036854775807 by omega)]
    rw [cond_pos (by omega),cond_pos (by omega),cond_pos (by omega),cond_pos (by omega),Isl.inc_iff.2 hdl,decide_eq_true (show (Isl.del s (s.getD i 0)).length < 1073740000 by omega)]
    simp only [Bool.and_self,cond_true]
    rw [← Reg.take_get s 0 i hi,List.filter_append]
    by_cases hc : (Isl.clss s a1).length < (Isl.clss (Isl.del s (s.getD i 0)) a1).length
    · rw [cond_pos (by omega),cond_pos (by omega),List.filter_cons,if_pos (by simpa using hc)]
      rfl
    · rw [cond_neg (by omega),List.filter_cons,if_neg (by simpa using hc),List.filter_nil,List.append_nil]
      rfl
  · simp only [f22_6,f22_1,f22_2,f22_3,f22_4,f22_5,f22_7_i,f22_7,f22_8,f22_9,f22_10,f22_11,f22_12,f22_13,f22_14,f22_15,f22]
    rw [cond_neg (by omega),List.take_length]
theorem c22 : CallOk Try.prog G22 22 r22 := callOk_of (V := VG2222) mixed tys eVG2222 (f := 22) (fn := Try.f22) Try.func22 (by kernel_rfl) (c := sub (bodyOf Try.f22) []) (by kernel_rfl) (by
  intro X H r H' h hX hH
  unfold r22 at h; split at h <;> try contradiction
  · simp only [Option.some.injEq,Prod.mk.injEq] at h
    obtain ⟨hp,rfl,rfl⟩ := h
    obtain ⟨F,hF⟩ := s22 _ _ hp (hX _ (.head _)) (hX _ (.tail _ (.head _)))
    exact ⟨Af22 F,(f22_body F _ _).trans hF⟩)
end Go.Am
