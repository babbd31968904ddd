/- Part of a proof about the functions of the given program. -/
import Derived.Test.YtlenpjfgbbfmcaaDoorAm03C
set_option linter.unusedVariables false
set_option linter.unusedSimpArgs false
namespace Go.Am
open Go Go.Proofs
abbrev sp27 : List (Nat × Md) := [(3,.plain),(9,.plain),(10,.plain),(11,.plain)]
abbrev sp28 : List (Nat × Md) := [(5,.plain),(6,.plain),(7,.plain),(46,.plain),(47,.plain),(48,.plain)]
abbrev sp29 : List (Nat × Md) := [(0,.plain),(5,.plain),(6,.plain)]
abbrev sp30 : List (Nat × Md) := [(0,.plain),(5,.plain),(6,.plain),(7,.plain)]
abbrev sp31 : List (Nat × Md) := [(5,.plain),(6,.plain),(7,.plain)]
abbrev sp32 : List (Nat × Md) := [(0,.plain),(1,.plain),(5,.plain)]
abbrev Ty25 := (List Int) × Int × Int × (List Int)
abbrev Ty26 := (List Int) × Int × Int × Int
abbrev Ty27 := Int × Int × Int × (List Int) × Int × Int
def lVG0260 : List CEnt := [(26,[none],r26)]
def VG0260 : Env := mkEnv T03 G02 lVG0260
theorem eVG0260 : EOk Tryd.prog VG0260 := eok_mk (by exact ⟨c26,trivial⟩)
def Af60 (F : Nat) : Cuts := { F := F,at_ := fun n => match n with | 3012 => some sp27 | _ => none,join := fun n => match n with | 1022 => some [(0,.plain)] | 2020 => some [(0,.plain),(3,.plain)] | 3014 => some sp27 | 7003 => some [(3,.plain)] | _ => none }
def ef60_a : (List Int) → St := fun a0 => { tmps := [(0,(.vs (.rI .i64 a0) 0 1))],heap := [],next := 0,nt := 21,m := 0 }
def ef60j1 : (List Int) → St := fun t0 => { tmps := [(0,(.vs (.rI .i64 t0) 0 1))],heap := [],next := 0,nt := 21,m := 0 }
def ef60j2 : (List Int) × (List Int) → St := fun (t0,x2) => { tmps := [(0,(.vs (.rI .i64 t0) 0 1)),(3,(.own 0 0 1))],heap := [(0,(.cells x2.length (.rI .u8 x2) true))],next := 1,nt := 21,m := 0 }
def ef60j3 : Ty25 → St := fun (t9,t10,t11,x4) => { tmps := [(3,(.own 0 0 1)),(9,(.vs (.rI .i64 t9) 0 1)),(10,(.int .i64 t10)),(11,(.int .i64 t11))],heap := [(0,(.cells x4.length (.rI .u8 x4) true))],next := 1,nt := 21,m := 0 }
def ef60l1 : Ty25 → St := fun (t9,t10,t11,x4) => { tmps := [(3,(.own 0 0 1)),(9,(.vs (.rI .i64 t9) 0 1)),(10,(.int .i64 t10)),(11,(.int .i64 t11))],heap := [(0,(.cells x4.length (.rI .u8 x4) true))],next := 1,nt := 21,m := 0 }
def ef60j4 : (List Int) → St := fun x1 => { tmps := [(3,(.own 0 0 1))],heap := [(0,(.cells x1.length (.rI .u8 x1) true))],next := 1,nt := 21,m := 0 }
def f60_1 (F : Nat) (kf60j1 : (List Int) → Rz) : (List Int) → Rz := fun a0 => (kf60j1 a0)
theorem f60_1_eq (F : Nat) (Rf60j1 : St → Rz) : ∀ v,aexec VG0260 (Af60 F) (bp Tryd.f60 2) (ef60_a v) (kSeq (kc VG0260 Rf60j1 [(0,.plain)]) (kFin VG0260 none (Tryd.f60).results.toList)) = f60_1 F (Rf60j1 ∘ ef60j1) v := by
  intro a0; kernel_rfl
def f60_2 (F : Nat) (kf60j2 : (List Int) × (List Int) → Rz) : (List Int) → Rz := fun t0 => (kf60j2 (t0,(Wire.int (↑t0.length : Int))))
theorem f60_2_eq (F : Nat) (Rf60j2 : St → Rz) : ∀ v,aexec VG0260 (Af60 F) (bp Tryd.f60 6) (ef60j1 v) (kSeq (kc VG0260 Rf60j2 [(0,.plain),(3,.plain)]) (kFin VG0260 none (Tryd.f60).results.toList)) = f60_2 F (Rf60j2 ∘ ef60j2) v := by
  intro t0; kernel_rfl
def f60_3 (F : Nat) (kf60j3 : Ty25 → Rz) (kf60j4 : (List Int) → Rz) : (List Int) × (List Int) → Rz := fun (t0,x2) => (kf60j3 (t0,(↑t0.length : Int),(0 : Int),x2))
theorem f60_3_eq (F : Nat) (Rf60j3 : St → Rz) (Rf60j4 : St → Rz) : ∀ v,aexec VG0260 (Af60 F) (bp Tryd.f60 28) (ef60j2 v) (kSeq (kc VG0260 Rf60j3 sp27) (kSeq (kc VG0260 Rf60j4 [(3,.plain)]) (kFin VG0260 none (Tryd.f60).results.toList))) = f60_3 F (Rf60j3 ∘ ef60j3) (Rf60j4 ∘ ef60j4) v := by
  rintro ⟨t0,x2⟩; kernel_rfl
def f60_4 (F : Nat) (kf60l1 : Ty25 → Rz) (kf60j4 : (List Int) → Rz) : Ty25 → Rz := fun (t9,t10,t11,x4) => (cond (decide (t11 < t10)) (cond ((decide (0 ≤ t11)) && (decide (t11 < (↑t9.length : Int)))) (cond (decide ((x4.length + (Wire.int (t9.getD (Int.toNat t11) 0)).length) < 1073741824)) (kf60l1 (t9,t10,(IntKind.i64.wrap (t11 + (1 : Int))),(x4 ++ (Wire.int (t9.getD (Int.toNat t11) 0))))) none) none) (kf60j4 x4))
theorem f60_4_eq (F : Nat) (Rf60l1 : St → Rz) (Rf60j4 : St → Rz) : ∀ v,aexec VG0260 (Af60 F) (bp Tryd.f60 116) (ef60l1 v) (kSeq (kc VG0260 Rf60l1 sp27) (kBlock 0 (kSeq (kc VG0260 Rf60j4 [(3,.plain)]) (kFin VG0260 none (Tryd.f60).results.toList)))) = f60_4 F (Rf60l1 ∘ ef60l1) (Rf60j4 ∘ ef60j4) v := by
  rintro ⟨t9,t10,t11,x4⟩; kernel_rfl
def f60_5_i : Ty25 → (List Int) × Int × Int × (List Int) := fun (t9,t10,t11,x4) => (t9,t10,t11,x4)
def f60_5 (F : Nat) (kf60j4 : (List Int) → Rz) : Ty25 → Rz := fun v => loopN (fun k => f60_4 F k kf60j4) F (f60_5_i v)
theorem f60_5_eq (F : Nat) (Rf60j4 : St → Rz) : ∀ v,aexec VG0260 (Af60 F) (bp Tryd.f60 58) (ef60j3 v) (kBlock 0 (kSeq (kc VG0260 Rf60j4 [(3,.plain)]) (kFin VG0260 none (Tryd.f60).results.toList))) = f60_5 F (Rf60j4 ∘ ef60j4) v :=
  loop_cut (by kernel_rfl) (by kernel_rfl) ef60j3 ef60l1 _ f60_5_i (fun k => f60_4 F k (Rf60j4 ∘ ef60j4))
    (by rintro ⟨t9,t10,t11,x4⟩; kernel_rfl) (fun Rf60l1 => f60_4_eq F Rf60l1 Rf60j4)
def f60_6 (F : Nat) (kf60j4 : (List Int) → Rz) : Ty25 → Rz := f60_5 F kf60j4
theorem f60_6_eq (F : Nat) (Rf60j4 : St → Rz) : ∀ v,aexec VG0260 (Af60 F) (bp Tryd.f60 29) (ef60j3 v) (kSeq (kc VG0260 Rf60j4 [(3,.plain)]) (kFin VG0260 none (Tryd.f60).results.toList)) = f60_6 F (Rf60j4 ∘ ef60j4) v := fun v =>
  (block_in  (by kernel_rfl) _ _).trans (f60_5_eq F Rf60j4 v)
def f60_7 (F : Nat) (kf60j4 : (List Int) → Rz) : (List Int) × (List Int) → Rz := fun v => f60_3 F (f60_6 F kf60j4) kf60j4 v
theorem f60_7_eq (F : Nat) (Rf60j4 : St → Rz) : ∀ v,aexec VG0260 (Af60 F) (bp Tryd.f60 14) (ef60j2 v) (kSeq (kc VG0260 Rf60j4 [(3,.plain)]) (kFin VG0260 none (Tryd.f60).results.toList)) = f60_7 F (Rf60j4 ∘ ef60j4) v :=
  seq_cut (by kernel_rfl) (by kernel_rfl) ef60j2 ef60j3 _ (fun k => f60_3 F k (Rf60j4 ∘ ef60j4)) (f60_6 F (Rf60j4 ∘ ef60j4))
    (fun Rf60j3 => f60_3_eq F Rf60j3 Rf60j4) (f60_6_eq F Rf60j4)
def f60_8 (F : Nat) : (List Int) → Rz := fun x1 => (some ((.own 0 0 1),[(.cells x1.length (.rI .u8 x1) true)]))
theorem f60_8_eq (F : Nat) : ∀ v,aexec VG0260 (Af60 F) (bp Tryd.f60 15) (ef60j4 v) (kFin VG0260 none (Tryd.f60).results.toList) = f60_8 F v := by
  intro x1; kernel_rfl
def f60_9 (F : Nat) : (List Int) × (List Int) → Rz := fun v => f60_7 F (f60_8 F) v
theorem f60_9_eq (F : Nat) : ∀ v,aexec VG0260 (Af60 F) (bp Tryd.f60 7) (ef60j2 v) (kFin VG0260 none (Tryd.f60).results.toList) = f60_9 F v :=
  seq_cut (by kernel_rfl) (by kernel_rfl) ef60j2 ef60j4 _ (fun k => f60_7 F k) (f60_8 F)
    (fun Rf60j4 => f60_7_eq F Rf60j4) (f60_8_eq F)
def f60_10 (F : Nat) : (List Int) → Rz := fun v => f60_2 F (f60_9 F) v
theorem f60_10_eq (F : Nat) : ∀ v,aexec VG0260 (Af60 F) (bp Tryd.f60 3) (ef60j1 v) (kFin VG0260 none (Tryd.f60).results.toList) = f60_10 F v :=
  seq_cut (by kernel_rfl) (by kernel_rfl) ef60j1 ef60j2 _ (fun k => f60_2 F k) (f60_9 F)
    (fun Rf60j2 => f60_2_eq F Rf60j2) (f60_9_eq F)
def f60_11 (F : Nat) : (List Int) → Rz := fun v => f60_1 F (f60_10 F) v
theorem f60_11_eq (F : Nat) : ∀ v,aexec VG0260 (Af60 F) (sub (bodyOf Tryd.f60) []) (ef60_a v) (kFin VG0260 none (Tryd.f60).results.toList) = f60_11 F v :=
  seq_cut (by kernel_rfl) (by kernel_rfl) ef60_a ef60j1 _ (fun k => f60_1 F k) (f60_10 F)
    (fun Rf60j1 => f60_1_eq F Rf60j1) (f60_10_eq F)
def f60 (F : Nat) : (List Int) → Rz := f60_11 F
theorem f60_body (F : Nat) (a0 : List Int) : abody VG0260 (Af60 F) Tryd.f60 [(.vs (.rI .i64 a0) 0 1)] [] = f60 F a0 :=
  (abody_in (c := (sub (bodyOf Tryd.f60) [])) (by kernel_rfl) (s := ef60_a a0) (by kernel_rfl)).trans (f60_11_eq F a0)
def r60 : CRun := fun X H => match X,H with
  | [(.vs (.rI .i64 a0) 0 1)],[] => some ((decide ((Wire.ints a0).length < 1073741000)),(.own 0 0 1),[(.cells (Wire.ints a0).length (.rI .u8 (Wire.ints a0)) true)])
  | _,_ => none
theorem s60 (a0 : List Int) (hp : ((decide ((Wire.ints a0).length < 1073741000))) = true) (h0 : okV (.vs (.rI .i64 a0) 0 1)) : ∃ F,f60 F a0 = some ((.own 0 0 1),[(.cells (Wire.ints a0).length (.rI .u8 (Wire.ints a0)) true)]) := by
  have hl : (Wire.ints a0).length < 1073741000 := of_decide_eq_true hp
  have hl0 := h0.2
  refine ⟨a0.length + 1,?_⟩
  simp only [f60,f60_11,f60_1,f60_10,f60_2,f60_9,f60_7,f60_3,f60_6,f60_5,f60_5_i]
  refine loopN_from (fun i => (a0,(a0.length : Int),(i : Int),Wire.int (a0.length : Int) ++ (a0.take i).flatMap Wire.int)) a0.length (by simp) (fun i hi k => ?_) (fun k => ?_) _ (by omega)
  · have e1 := flatMap_take 0 Wire.int a0 i hi
    have e2 := flatMap_le Wire.int a0 (i + 1)
    rw [e1,List.length_append] at e2
    simp only [Wire.ints,List.length_append] at hl
    simp only [f60_4,dec_and,List.length_append]
    rw [Int.toNat_natCast,cond_pos (by omega),cond_pos (by omega),cond_pos (by omega),i64w (x := (i : Int) + 1) (by omega) (by omega),List.append_assoc,← e1]
    rfl
  · simp only [f60_4]
    rw [cond_neg (by omega),List.take_length]
    rfl
theorem c60 : CallOk Tryd.prog G02 60 r60 := callOk_of (V := VG0260) mixed tys eVG0260 (f := 60) (fn := Tryd.f60) Tryd.func60 (by kernel_rfl) (c := sub (bodyOf Tryd.f60) []) (by kernel_rfl) (by
  intro X H r H' h hX hH
  unfold r60 at h; split at h <;> try contradiction
  · simp only [Option.some.injEq,Prod.mk.injEq] at h
    obtain ⟨hp,rfl,rfl⟩ := h
    obtain ⟨F,hF⟩ := s60 _ hp (hX _ (.head _))
    exact ⟨Af60 F,(f60_body F _).trans hF⟩)
def lVG0236 : List CEnt := []
def VG0236 : Env := mkEnv T03 G02 lVG0236
theorem eVG0236 : EOk Tryd.prog VG0236 := eok_mk (by exact trivial)
def Af36 (F : Nat) : Cuts := { F := F,at_ := fun n => match n with | 15012 => some sp28 | _ => none,join := fun n => match n with | 1075 => some [(0,.plain)] | 3067 => some [(0,.plain)] | 4065 => some [(0,.plain),(5,.plain)] | 6059 => some [(0,.plain),(5,.plain)] | 7057 => some sp29 | 13036 => some sp29 | 14034 => some sp30 | 15014 => some sp28 | 19017 => some sp31 | _ => none }
def ef36_a : (List Int) → St := fun a0 => { tmps := [(0,(.vs (.rI .u8 a0) 0 1))],heap := [],next := 0,nt := 71,m := 0 }
def ef36j1 : (List Int) → St := fun t0 => { tmps := [(0,(.vs (.rI .u8 t0) 0 1))],heap := [],next := 0,nt := 71,m := 0 }
def ef36j2 : (List Int) → St := fun t0 => { tmps := [(0,(.vs (.rI .u8 t0) 0 1))],heap := [],next := 0,nt := 71,m := 0 }
def ef36j3 : (List Int) × Int → St := fun (t0,t5) => { tmps := [(0,(.vs (.rI .u8 t0) 0 1)),(5,(.int .u8 t5))],heap := [],next := 0,nt := 71,m := 0 }
def ef36j4 : (List Int) × Int → St := fun (t0,t5) => { tmps := [(0,(.vs (.rI .u8 t0) 0 1)),(5,(.int .u8 t5))],heap := [],next := 0,nt := 71,m := 0 }
def ef36j5 : (List Int) × Int × Int → St := fun (t0,t5,t6) => { tmps := [(0,(.vs (.rI .u8 t0) 0 1)),(5,(.int .u8 t5)),(6,(.int .i64 t6))],heap := [],next := 0,nt := 71,m := 0 }
def ef36j6 : (List Int) × Int × Int → St := fun (t0,t5,t6) => { tmps := [(0,(.vs (.rI .u8 t0) 0 1)),(5,(.int .u8 t5)),(6,(.int .i64 t6))],heap := [],next := 0,nt := 71,m := 0 }
def ef36j7 : Ty26 → St := fun (t0,t5,t6,t7) => { tmps := [(0,(.vs (.rI .u8 t0) 0 1)),(5,(.int .u8 t5)),(6,(.int .i64 t6)),(7,(.int .u64 t7))],heap := [],next := 0,nt := 71,m := 0 }
def ef36j8 : Ty27 → St := fun (t5,t6,t7,t46,t47,t48) => { tmps := [(5,(.int .u8 t5)),(6,(.int .i64 t6)),(7,(.int .u64 t7)),(46,(.vs (.rI .u8 t46) 0 1)),(47,(.int .i64 t47)),(48,(.int .i64 t48))],heap := [],next := 0,nt := 71,m := 0 }
def ef36l1 : Ty27 → St := fun (t5,t6,t7,t46,t47,t48) => { tmps := [(5,(.int .u8 t5)),(6,(.int .i64 t6)),(7,(.int .u64 t7)),(46,(.vs (.rI .u8 t46) 0 1)),(47,(.int .i64 t47)),(48,(.int .i64 t48))],heap := [],next := 0,nt := 71,m := 0 }
def ef36j9 : Int × Int × Int → St := fun (t5,t6,t7) => { tmps := [(5,(.int .u8 t5)),(6,(.int .i64 t6)),(7,(.int .u64 t7))],heap := [],next := 0,nt := 71,m := 0 }
def f36_1 (F : Nat) (kf36j1 : (List Int) → Rz) : (List Int) → Rz := fun a0 => (kf36j1 a0)
theorem f36_1_eq (F : Nat) (Rf36j1 : St → Rz) : ∀ v,aexec VG0236 (Af36 F) (bp Tryd.f36 2) (ef36_a v) (kSeq (kc VG0236 Rf36j1 [(0,.plain)]) (kFin VG0236 none (Tryd.f36).results.toList)) = f36_1 F (Rf36j1 ∘ ef36j1) v := by
  intro a0; kernel_rfl
def f36_2 (F : Nat) (kf36j2 : (List Int) → Rz) : (List Int) → Rz := fun t0 => (cond ((↑t0.length : Int) == (0 : Int)) (some ((.tup (.cons 0 (.int .i64 (0 : Int)) (.cons 0 (.int .i64 (0 : Int)) (.cons 0 (.int .i64 (3 : Int)) .nil)))),[])) (kf36j2 t0))
theorem f36_2_eq (F : Nat) (Rf36j2 : St → Rz) : ∀ v,aexec VG0236 (Af36 F) (bp Tryd.f36 6) (ef36j1 v) (kSeq (kc VG0236 Rf36j2 [(0,.plain)]) (kFin VG0236 none (Tryd.f36).results.toList)) = f36_2 F (Rf36j2 ∘ ef36j2) v := by
  intro t0; kernel_rfl
def f36_3 (F : Nat) (kf36j3 : (List Int) × Int → Rz) : (List Int) → Rz := fun t0 => (kf36j3 (t0,(0 : Int)))
theorem f36_3_eq (F : Nat) (Rf36j3 : St → Rz) : ∀ v,aexec VG0236 (Af36 F) (bp Tryd.f36 14) (ef36j2 v) (kSeq (kc VG0236 Rf36j3 [(0,.plain),(5,.plain)]) (kFin VG0236 none (Tryd.f36).results.toList)) = f36_3 F (Rf36j3 ∘ ef36j3) v := by
  intro t0; kernel_rfl
def f36_4 (F : Nat) (kf36j4 : (List Int) × Int → Rz) : (List Int) × Int → Rz := fun (t0,t5) => (cond (decide ((0 : Int) < (↑t0.length : Int))) (cond (decide ((t0.getD 0 0) < (128 : Int))) (kf36j4 (t0,(255 : Int))) (kf36j4 (t0,t5))) none)
theorem f36_4_eq (F : Nat) (Rf36j4 : St → Rz) : ∀ v,aexec VG0236 (Af36 F) (bp Tryd.f36 30) (ef36j3 v) (kSeq (kc VG0236 Rf36j4 [(0,.plain),(5,.plain)]) (kFin VG0236 none (Tryd.f36).results.toList)) = f36_4 F (Rf36j4 ∘ ef36j4) v := by
  rintro ⟨t0,t5⟩; kernel_rfl
def f36_5 (F : Nat) (kf36j5 : (List Int) × Int × Int → Rz) : (List Int) × Int → Rz := fun (t0,t5) => (cond (decide ((0 : Int) < (↑t0.length : Int))) (kf36j5 (t0,t5,(IntKind.i64.wrap ((IntKind.i64.wrap (ibits .xor .u8 (t0.getD 0 0) t5)) - (128 : Int))))) none)
theorem f36_5_eq (F : Nat) (Rf36j5 : St → Rz) : ∀ v,aexec VG0236 (Af36 F) (bp Tryd.f36 62) (ef36j4 v) (kSeq (kc VG0236 Rf36j5 sp29) (kFin VG0236 none (Tryd.f36).results.toList)) = f36_5 F (Rf36j5 ∘ ef36j5) v := by
  rintro ⟨t0,t5⟩; kernel_rfl
def f36_6 (F : Nat) (kf36j6 : (List Int) × Int × Int → Rz) : (List Int) × Int × Int → Rz := fun (t0,t5,t6) => (cond (decide (t6 > (8 : Int))) (some ((.tup (.cons 0 (.int .i64 (0 : Int)) (.cons 0 (.int .i64 (0 : Int)) (.cons 0 (.int .i64 (2 : Int)) .nil)))),[])) (cond (decide ((↑t0.length : Int) ≤ t6)) (some ((.tup (.cons 0 (.int .i64 (0 : Int)) (.cons 0 (.int .i64 (0 : Int)) (.cons 0 (.int .i64 (3 : Int)) .nil)))),[])) (cond (decide (t6 > (0 : Int))) (cond (decide ((1 : Int) < (↑t0.length : Int))) (cond ((ibits .xor .u8 (t0.getD 1 0) t5) == (0 : Int)) (some ((.tup (.cons 0 (.int .i64 (0 : Int)) (.cons 0 (.int .i64 (0 : Int)) (.cons 0 (.int .i64 (2 : Int)) .nil)))),[])) (kf36j6 (t0,t5,t6))) none) (kf36j6 (t0,t5,t6)))))
theorem f36_6_eq (F : Nat) (Rf36j6 : St → Rz) : ∀ v,aexec VG0236 (Af36 F) (bp Tryd.f36 126) (ef36j5 v) (kSeq (kc VG0236 Rf36j6 sp29) (kFin VG0236 none (Tryd.f36).results.toList)) = f36_6 F (Rf36j6 ∘ ef36j6) v := by
  rintro ⟨t0,t5,t6⟩; kernel_rfl
def f36_7 (F : Nat) (kf36j7 : Ty26 → Rz) : (List Int) × Int × Int → Rz := fun (t0,t5,t6) => (kf36j7 (t0,t5,t6,(0 : Int)))
theorem f36_7_eq (F : Nat) (Rf36j7 : St → Rz) : ∀ v,aexec VG0236 (Af36 F) (bp Tryd.f36 254) (ef36j6 v) (kSeq (kc VG0236 Rf36j7 sp30) (kFin VG0236 none (Tryd.f36).results.toList)) = f36_7 F (Rf36j7 ∘ ef36j7) v := by
  rintro ⟨t0,t5,t6⟩; kernel_rfl
def f36_8 (F : Nat) (kf36j8 : Ty27 → Rz) (kf36j9 : Int × Int × Int → Rz) : Ty26 → Rz := fun (t0,t5,t6,t7) => (cond ((decide ((1 : Int) ≤ (IntKind.i64.wrap (t6 + (1 : Int))))) && (decide ((IntKind.i64.wrap (t6 + (1 : Int))) ≤ (↑t0.length : Int)))) (kf36j8 (t5,t6,t7,((t0.drop 1).take ((Int.toNat (IntKind.i64.wrap (t6 + (1 : Int)))) - 1)),(↑((t0.drop 1).take ((Int.toNat (IntKind.i64.wrap (t6 + (1 : Int)))) - 1)).length : Int),(0 : Int))) none)
theorem f36_8_eq (F : Nat) (Rf36j8 : St → Rz) (Rf36j9 : St → Rz) : ∀ v,aexec VG0236 (Af36 F) (bp Tryd.f36 1020) (ef36j7 v) (kSeq (kc VG0236 Rf36j8 sp28) (kSeq (kc VG0236 Rf36j9 sp31) (kFin VG0236 none (Tryd.f36).results.toList))) = f36_8 F (Rf36j8 ∘ ef36j8) (Rf36j9 ∘ ef36j9) v := by
  rintro ⟨t0,t5,t6,t7⟩; kernel_rfl
def f36_9 (F : Nat) (kf36l1 : Ty27 → Rz) (kf36j9 : Int × Int × Int → Rz) : Ty27 → Rz := fun (t5,t6,t7,t46,t47,t48) => (cond (decide (t48 < t47)) (cond ((decide (0 ≤ t48)) && (decide (t48 < (↑t46.length : Int)))) (kf36l1 (t5,t6,(ibits .or .u64 (IntKind.u64.wrap (t7 * 2 ^ 8)) (IntKind.u64.wrap (ibits .xor .u8 (t46.getD (Int.toNat t48) 0) t5))),t46,t47,(IntKind.i64.wrap (t48 + (1 : Int))))) none) (kf36j9 (t5,t6,t7)))
theorem f36_9_eq (F : Nat) (Rf36l1 : St → Rz) (Rf36j9 : St → Rz) : ∀ v,aexec VG0236 (Af36 F) (bp Tryd.f36 4084) (ef36l1 v) (kSeq (kc VG0236 Rf36l1 sp28) (kBlock 1 (kSeq (kc VG0236 Rf36j9 sp31) (kFin VG0236 none (Tryd.f36).results.toList)))) = f36_9 F (Rf36l1 ∘ ef36l1) (Rf36j9 ∘ ef36j9) v := by
  rintro ⟨t5,t6,t7,t46,t47,t48⟩; kernel_rfl
def f36_10_i : Ty27 → Int × Int × Int × (List Int) × Int × Int := fun (t5,t6,t7,t46,t47,t48) => (t5,t6,t7,t46,t47,t48)
def f36_10 (F : Nat) (kf36j9 : Int × Int × Int → Rz) : Ty27 → Rz := fun v => loopN (fun k => f36_9 F k kf36j9) F (f36_10_i v)
theorem f36_10_eq (F : Nat) (Rf36j9 : St → Rz) : ∀ v,aexec VG0236 (Af36 F) (bp Tryd.f36 2042) (ef36j8 v) (kBlock 1 (kSeq (kc VG0236 Rf36j9 sp31) (kFin VG0236 none (Tryd.f36).results.toList))) = f36_10 F (Rf36j9 ∘ ef36j9) v :=
  loop_cut (by kernel_rfl) (by kernel_rfl) ef36j8 ef36l1 _ f36_10_i (fun k => f36_9 F k (Rf36j9 ∘ ef36j9))
    (by rintro ⟨t5,t6,t7,t46,t47,t48⟩; kernel_rfl) (fun Rf36l1 => f36_9_eq F Rf36l1 Rf36j9)
def f36_11 (F : Nat) (kf36j9 : Int × Int × Int → Rz) : Ty27 → Rz := f36_10 F kf36j9
theorem f36_11_eq (F : Nat) (Rf36j9 : St → Rz) : ∀ v,aexec VG0236 (Af36 F) (bp Tryd.f36 1021) (ef36j8 v) (kSeq (kc VG0236 Rf36j9 sp31) (kFin VG0236 none (Tryd.f36).results.toList)) = f36_11 F (Rf36j9 ∘ ef36j9) v := fun v =>
  (block_in  (by kernel_rfl) _ _).trans (f36_10_eq F Rf36j9 v)
def f36_12 (F : Nat) (kf36j9 : Int × Int × Int → Rz) : Ty26 → Rz := fun v => f36_8 F (f36_11 F kf36j9) kf36j9 v
theorem f36_12_eq (F : Nat) (Rf36j9 : St → Rz) : ∀ v,aexec VG0236 (Af36 F) (bp Tryd.f36 510) (ef36j7 v) (kSeq (kc VG0236 Rf36j9 sp31) (kFin VG0236 none (Tryd.f36).results.toList)) = f36_12 F (Rf36j9 ∘ ef36j9) v :=
  seq_cut (by kernel_rfl) (by kernel_rfl) ef36j7 ef36j8 _ (fun k => f36_8 F k (Rf36j9 ∘ ef36j9)) (f36_11 F (Rf36j9 ∘ ef36j9))
    (fun Rf36j8 => f36_8_eq F Rf36j8 Rf36j9) (f36_11_eq F Rf36j9)
def f36_13 (F : Nat) : Int × Int × Int → Rz := fun (t5,t6,t7) => (cond (decide ((Int.fdiv t7 (2 ^ 63)) > (0 : Int))) (some ((.tup (.cons 0 (.int .i64 (0 : Int)) (.cons 0 (.int .i64 (0 : Int)) (.cons 0 (.int .i64 (2 : Int)) .nil)))),[])) (cond (decide (t5 > (0 : Int))) (some ((.tup (.cons 0 (.int .i64 (IntKind.i64.wrap (ibits .xor .u64 (18446744073709551615 : Int) t7))) (.cons 0 (.int .i64 (IntKind.i64.wrap (t6 + (1 : Int)))) (.cons 0 (.int .i64 (0 : Int)) .nil)))),[])) (some ((.tup (.cons 0 (.int .i64 (IntKind.i64.wrap t7)) (.cons 0 (.int .i64 (IntKind.i64.wrap (t6 + (1 : Int)))) (.cons 0 (.int .i64 (0 : Int)) .nil)))),[]))))
theorem f36_13_eq (F : Nat) : ∀ v,aexec VG0236 (Af36 F) (bp Tryd.f36 511) (ef36j9 v) (kFin VG0236 none (Tryd.f36).results.toList) = f36_13 F v := by
  rintro ⟨t5,t6,t7⟩; kernel_rfl
def f36_14 (F : Nat) : Ty26 → Rz := fun v => f36_12 F (f36_13 F) v
theorem f36_14_eq (F : Nat) : ∀ v,aexec VG0236 (Af36 F) (bp Tryd.f36 255) (ef36j7 v) (kFin VG0236 none (Tryd.f36).results.toList) = f36_14 F v :=
  seq_cut (by kernel_rfl) (by kernel_rfl) ef36j7 ef36j9 _ (fun k => f36_12 F k) (f36_13 F)
    (fun Rf36j9 => f36_12_eq F Rf36j9) (f36_13_eq F)
def f36_15 (F : Nat) : (List Int) × Int × Int → Rz := fun v => f36_7 F (f36_14 F) v
theorem f36_15_eq (F : Nat) : ∀ v,aexec VG0236 (Af36 F) (bp Tryd.f36 127) (ef36j6 v) (kFin VG0236 none (Tryd.f36).results.toList) = f36_15 F v :=
  seq_cut (by kernel_rfl) (by kernel_rfl) ef36j6 ef36j7 _ (fun k => f36_7 F k) (f36_14 F)
    (fun Rf36j7 => f36_7_eq F Rf36j7) (f36_14_eq F)
def f36_16 (F : Nat) : (List Int) × Int × Int → Rz := fun v => f36_6 F (f36_15 F) v
theorem f36_16_eq (F : Nat) : ∀ v,aexec VG0236 (Af36 F) (bp Tryd.f36 63) (ef36j5 v) (kFin VG0236 none (Tryd.f36).results.toList) = f36_16 F v :=
  seq_cut (by kernel_rfl) (by kernel_rfl) ef36j5 ef36j6 _ (fun k => f36_6 F k) (f36_15 F)
    (fun Rf36j6 => f36_6_eq F Rf36j6) (f36_15_eq F)
def f36_17 (F : Nat) : (List Int) × Int → Rz := fun v => f36_5 F (f36_16 F) v
theorem f36_17_eq (F : Nat) : ∀ v,aexec VG0236 (Af36 F) (bp Tryd.f36 31) (ef36j4 v) (kFin VG0236 none (Tryd.f36).results.toList) = f36_17 F v :=
  seq_cut (by kernel_rfl) (by kernel_rfl) ef36j4 ef36j5 _ (fun k => f36_5 F k) (f36_16 F)
    (fun Rf36j5 => f36_5_eq F Rf36j5) (f36_16_eq F)
def f36_18 (F : Nat) : (List Int) × Int → Rz := fun v => f36_4 F (f36_17 F) v
theorem f36_18_eq (F : Nat) : ∀ v,aexec VG0236 (Af36 F) (bp Tryd.f36 15) (ef36j3 v) (kFin VG0236 none (Tryd.f36).results.toList) = f36_18 F v :=
  seq_cut (by kernel_rfl) (by kernel_rfl) ef36j3 ef36j4 _ (fun k => f36_4 F k) (f36_17 F)
    (fun Rf36j4 => f36_4_eq F Rf36j4) (f36_17_eq F)
def f36_19 (F : Nat) : (List Int) → Rz := fun v => f36_3 F (f36_18 F) v
theorem f36_19_eq (F : Nat) : ∀ v,aexec VG0236 (Af36 F) (bp Tryd.f36 7) (ef36j2 v) (kFin VG0236 none (Tryd.f36).results.toList) = f36_19 F v :=
  seq_cut (by kernel_rfl) (by kernel_rfl) ef36j2 ef36j3 _ (fun k => f36_3 F k) (f36_18 F)
    (fun Rf36j3 => f36_3_eq F Rf36j3) (f36_18_eq F)
def f36_20 (F : Nat) : (List Int) → Rz := fun v => f36_2 F (f36_19 F) v
theorem f36_20_eq (F : Nat) : ∀ v,aexec VG0236 (Af36 F) (bp Tryd.f36 3) (ef36j1 v) (kFin VG0236 none (Tryd.f36).results.toList) = f36_20 F v :=
  seq_cut (by kernel_rfl) (by kernel_rfl) ef36j1 ef36j2 _ (fun k => f36_2 F k) (f36_19 F)
    (fun Rf36j2 => f36_2_eq F Rf36j2) (f36_19_eq F)
def f36_21 (F : Nat) : (List Int) → Rz := fun v => f36_1 F (f36_20 F) v
theorem f36_21_eq (F : Nat) : ∀ v,aexec VG0236 (Af36 F) (sub (bodyOf Tryd.f36) []) (ef36_a v) (kFin VG0236 none (Tryd.f36).results.toList) = f36_21 F v :=
  seq_cut (by kernel_rfl) (by kernel_rfl) ef36_a ef36j1 _ (fun k => f36_1 F k) (f36_20 F)
    (fun Rf36j1 => f36_1_eq F Rf36j1) (f36_20_eq F)
def f36 (F : Nat) : (List Int) → Rz := f36_21 F
theorem f36_body (F : Nat) (a0 : List Int) : abody VG0236 (Af36 F) Tryd.f36 [(.vs (.rI .u8 a0) 0 1)] [] = f36 F a0 :=
  (abody_in (c := (sub (bodyOf Tryd.f36) [])) (by kernel_rfl) (s := ef36_a a0) (by kernel_rfl)).trans (f36_21_eq F a0)
def r36 : CRun := fun X H => match X,H with
  | [(.vs (.rI .u8 a0) 0 1)],[] => some (true,(.tup (.cons 0 (.int .i64 (Wire.getInt a0).1) (.cons 0 (.int .i64 (Wire.getInt a0).2.1) (.cons 0 (.int .i64 (Wire.getInt a0).2.2) .nil)))),[])
  | _,_ => none
theorem s36 (a0 : List Int) (h0 : okV (.vs (.rI .u8 a0) 0 1)) : ∃ F,f36 F a0 = some ((.tup (.cons 0 (.int .i64 (Wire.getInt a0).1) (.cons 0 (.int .i64 (Wire.getInt a0).2.1) (.cons 0 (.int .i64 (Wire.getInt a0).2.2) .nil)))),[]) := by
  have hb := Wire.okB_of h0.1
  have hlen := h0.2
  refine ⟨9,?_⟩
  simp only [f36,f36_21,f36_1,f36_20,f36_2,int_beq]
  cases a0 with
  | nil => rfl
  | cons h t =>
    have hh := hb h (by simp)
    have ht : Wire.okBytes t := fun x hx => hb x (by simp [hx])
    have hk127 := Wire.cntOf_le hh
    simp only [List.length_cons] at hlen
    rw [cond_neg (by simp only [List.length_cons]; omega)]
    simp only [f36_19,f36_3,f36_18,f36_4,List.length_cons,List.getD_cons_zero]
    rw [cond_pos (by omega)]
    have key : ∀ fl : Int,fl = (if h < 128 then 255 else 0) → f36_17 9 (h :: t,fl) = some ((.tup (.cons 0 (.int .i64 (Wire.getInt (h :: t)).1) (.cons 0 (.int .i64 (Wire.getInt (h :: t)).2.1) (.cons 0 (.int .i64 (Wire.getInt (h :: t)).2.2) .nil)))),[]) := by
      intro fl hfl
      have hx : ∀ d : Int,0 ≤ d ∧ d ≤ 255 → ibits .xor .u8 d fl = Wire.flp h d := fun d hd => by
        unfold Wire.flp; rw [hfl]
        by_cases h1 : h < 128
        · rw [if_pos h1,if_pos h1,xor8_255 _ hd.1 hd.2]
        · rw [if_neg h1,if_neg h1,xor8_0 _ hd.1 hd.2]
      have hk : IntKind.i64.wrap ((IntKind.i64.wrap (Wire.flp h h)) - (128 : Int)) = (Wire.cntOf h : Int) := by
        have := Wire.flp_rng (h := h) hh
        rw [i64w (x := Wire.flp h h) (by omega) (by omega),i64w (by omega) (by omega)]
        unfold Wire.flp Wire.cntOf; split <;> omega
      have t0 := Wire.byte_getD ht 0
      simp only [f36_17,f36_5,f36_16,f36_6,List.length_cons,List.getD_cons_zero,List.getD_cons_succ,int_beq]
      rw [cond_pos (by omega),hx h hh,hk,hx _ t0]
      simp only [Wire.getInt]
      by_cases c1 : 8 < Wire.cntOf h
      · rw [cond_pos (by omega),if_pos c1]
      rw [cond_neg (by omega),if_neg c1]
      by_cases c2 : t.length < Wire.cntOf h
      · rw [cond_pos (by omega),if_pos c2]
      rw [cond_neg (by omega),if_neg c2]
      have rest : ∀ Z : Int × Int × Int,Z = (if 9223372036854775808 ≤ Wire.val h (t.take (Wire.cntOf h)) then ((0 : Int),(0 : Int),(2 : Int)) else ((if h < 128 then -1 - Wire.val h (t.take (Wire.cntOf h)) else Wire.val h (t.take (Wire.cntOf h))),(Wire.cntOf h : Int) + 1,0)) → f36_15 9 (h :: t,fl,(Wire.cntOf h : Int)) = some ((.tup (.cons 0 (.int .i64 Z.1) (.cons 0 (.int .i64 Z.2.1) (.cons 0 (.int .i64 Z.2.2) .nil)))),[]) := by
        intro Z hZ
        simp only [f36_15,f36_7,f36_14,f36_12,f36_8,f36_11,f36_10,f36_10_i,dec_and,List.length_cons]
        rw [i64w (x := (Wire.cntOf h : Int) + 1) (by omega) (by omega),cond_pos (by omega),show ((Wire.cntOf h : Int) + 1).toNat - 1 = Wire.cntOf h by omega]
        simp only [List.drop_succ_cons,List.drop_zero]
        have hl1 : (t.take (Wire.cntOf h)).length = Wire.cntOf h := by rw [List.length_take]; omega
        have hb1 := Wire.okBytes_take ht (Wire.cntOf h)
        rw [hl1]
        generalize t.take (Wire.cntOf h) = l at *
        refine loopN_from (fun j => (fl,(Wire.cntOf h : Int),Wire.val h (l.take j),l,(Wire.cntOf h : Int),(j : Int))) (Wire.cntOf h) (by rfl) (fun j hj k => ?_) (fun k => ?_) 9 (by omega)
        · have hv := Wire.val_rng h (Wire.okBytes_take hb1 j)
          have hjl : (l.take j).length = j := by rw [List.length_take]; omega
          rw [hjl] at hv
          have hp := pow256_le j 7 72057594037927936 (by omega) (by decide)
          have hd := Wire.byte_getD hb1 j
          have hf := Wire.flp_rng (h := h) hd
          simp only [f36_9,dec_and]
          rw [Int.toNat_natCast,cond_pos (by omega),cond_pos (by omega),hx _ hd,or64 _ _ hv.1 (by omega) hf.1 hf.2,i64w (x := (j : Int) + 1) (by omega) (by omega),← Wire.val_step h l j (by omega)]
          rfl
        · have hv := Wire.val_rng h hb1
          rw [hl1] at hv
          have hp := pow256_le (Wire.cntOf h) 8 18446744073709551616 (by omega) (by decide)
          simp only [f36_9]
          rw [cond_neg (by omega),List.take_of_length_le (by omega)]
          simp only [f36_13,fdiv63]
          by_cases c4 : 9223372036854775808 ≤ Wire.val h l
          · rw [if_pos c4] at hZ; rw [cond_pos c4,hZ]
          · rw [if_neg c4] at hZ; rw [cond_neg c4,i64w (x := (Wire.cntOf h : Int) + 1) (by omega) (by omega),hZ]
            by_cases h1 : h < 128
            · rw [if_pos h1] at hfl ⊢
              rw [cond_pos (by omega),not64 _ (by omega) (by omega),i64hi (by omega) (by omega),show 18446744073709551615 - Wire.val h l - 18446744073709551616 = -1 - Wire.val h l by omega]
            · rw [if_neg h1] at hfl ⊢
              rw [cond_neg (by omega),i64w (by omega) (by omega)]
      by_cases c3 : 0 < Wire.cntOf h
      · rw [cond_pos (by omega),cond_pos (by omega)]
        by_cases c4 : Wire.flp h (t.getD 0 0) = 0
        · rw [cond_pos c4,if_pos ⟨c3,c4⟩]
        · rw [cond_neg c4,if_neg (fun e => c4 e.2)]
          exact rest _ rfl
      · rw [cond_neg (by omega),if_neg (fun e => c3 e.1)]
        exact rest _ rfl
    by_cases h1 : h < 128
    · rw [cond_pos h1]; exact key 255 (by rw [if_pos h1])
    · rw [cond_neg h1]; exact key 0 (by rw [if_neg h1])
theorem c36 : CallOk Tryd.prog G02 36 r36 := callOk_of (V := VG0236) mixed tys eVG0236 (f := 36) (fn := Tryd.f36) Tryd.func36 (by kernel_rfl) (c := sub (bodyOf Tryd.f36) []) (by kernel_rfl) (by
  intro X H r H' h hX hH
  unfold r36 at h; split at h <;> try contradiction
  · simp only [Option.some.injEq,Prod.mk.injEq] at h
    obtain ⟨hp,rfl,rfl⟩ := h
    obtain ⟨F,hF⟩ := s36 _ (hX _ (.head _))
    exact ⟨Af36 F,(f36_body F _).trans hF⟩)
def lVG0258 : List CEnt := []
def VG0258 : Env := mkEnv T03 G02 lVG0258
theorem eVG0258 : EOk Tryd.prog VG0258 := eok_mk (by exact trivial)
def Af58 (F : Nat) : Cuts := { F := F,at_ := fun n => match n with | 4016 => some sp32 | _ => none,join := fun n => match n with | 1032 => some [(0,.plain),(1,.plain)] | 3024 => some [(0,.plain),(1,.plain)] | 4018 => some sp32 | 8003 => some [] | _ => none }
def ef58_a : (List Int) × (List Int) → St := fun (a0,a1) => { tmps := [(0,(.vs (.rI .u8 a0) 0 1)),(1,(.vs (.rI .u8 a1) 0 1))],heap := [],next := 0,nt := 26,m := 0 }
def ef58j1 : (List Int) × (List Int) → St := fun (t0,t1) => { tmps := [(0,(.vs (.rI .u8 t0) 0 1)),(1,(.vs (.rI .u8 t1) 0 1))],heap := [],next := 0,nt := 26,m := 0 }
def ef58j2 : (List Int) × (List Int) → St := fun (t0,t1) => { tmps := [(0,(.vs (.rI .u8 t0) 0 1)),(1,(.vs (.rI .u8 t1) 0 1))],heap := [],next := 0,nt := 26,m := 0 }
def ef58j3 : Ty13 → St := fun (t0,t1,t5) => { tmps := [(0,(.vs (.rI .u8 t0) 0 1)),(1,(.vs (.rI .u8 t1) 0 1)),(5,(.int .i64 t5))],heap := [],next := 0,nt := 26,m := 0 }
def ef58l1 : Ty13 → St := fun (t0,t1,t5) => { tmps := [(0,(.vs (.rI .u8 t0) 0 1)),(1,(.vs (.rI .u8 t1) 0 1)),(5,(.int .i64 t5))],heap := [],next := 0,nt := 26,m := 0 }
def ef58j4 : Unit → St := fun _ => { tmps := [],heap := [],next := 0,nt := 26,m := 0 }
def f58_1 (F : Nat) (kf58j1 : (List Int) × (List Int) → Rz) : (List Int) × (List Int) → Rz := fun (a0,a1) => (kf58j1 (a0,a1))
theorem f58_1_eq (F : Nat) (Rf58j1 : St → Rz) : ∀ v,aexec VG0258 (Af58 F) (bp Tryd.f58 2) (ef58_a v) (kSeq (kc VG0258 Rf58j1 [(0,.plain),(1,.plain)]) (kFin VG0258 none (Tryd.f58).results.toList)) = f58_1 F (Rf58j1 ∘ ef58j1) v := by
  rintro ⟨a0,a1⟩; kernel_rfl
def f58_2 (F : Nat) (kf58j2 : (List Int) × (List Int) → Rz) : (List Int) × (List Int) → Rz := fun (t0,t1) => (cond ((↑t0.length : Int) != (↑t1.length : Int)) (some ((.bool false),[])) (kf58j2 (t0,t1)))
theorem f58_2_eq (F : Nat) (Rf58j2 : St → Rz) : ∀ v,aexec VG0258 (Af58 F) (bp Tryd.f58 6) (ef58j1 v) (kSeq (kc VG0258 Rf58j2 [(0,.plain),(1,.plain)]) (kFin VG0258 none (Tryd.f58).results.toList)) = f58_2 F (Rf58j2 ∘ ef58j2) v := by
  rintro ⟨t0,t1⟩; kernel_rfl
def f58_3 (F : Nat) (kf58j3 : Ty13 → Rz) (kf58j4 : Unit → Rz) : (List Int) × (List Int) → Rz := fun (t0,t1) => (kf58j3 (t0,t1,(0 : Int)))
theorem f58_3_eq (F : Nat) (Rf58j3 : St → Rz) (Rf58j4 : St → Rz) : ∀ v,aexec VG0258 (Af58 F) (bp Tryd.f58 28) (ef58j2 v) (kSeq (kc VG0258 Rf58j3 sp32) (kSeq (kc VG0258 Rf58j4 []) (kFin VG0258 none (Tryd.f58).results.toList))) = f58_3 F (Rf58j3 ∘ ef58j3) (Rf58j4 ∘ ef58j4) v := by
  rintro ⟨t0,t1⟩; kernel_rfl
def f58_4 (F : Nat) (kf58l1 : Ty13 → Rz) (kf58j4 : Unit → Rz) : Ty13 → Rz := fun (t0,t1,t5) => (cond (decide (t5 < (↑t0.length : Int))) (cond ((decide (0 ≤ t5)) && (decide (t5 < (↑t0.length : Int)))) (cond ((decide (0 ≤ t5)) && (decide (t5 < (↑t1.length : Int)))) (cond ((t0.getD (Int.toNat t5) 0) != (t1.getD (Int.toNat t5) 0)) (some ((.bool false),[])) (kf58l1 (t0,t1,(IntKind.i64.wrap (t5 + (1 : Int)))))) none) none) (kf58j4 ()))
theorem f58_4_eq (F : Nat) (Rf58l1 : St → Rz) (Rf58j4 : St → Rz) : ∀ v,aexec VG0258 (Af58 F) (bp Tryd.f58 116) (ef58l1 v) (kSeq (kc VG0258 Rf58l1 sp32) (kBlock 0 (kSeq (kc VG0258 Rf58j4 []) (kFin VG0258 none (Tryd.f58).results.toList)))) = f58_4 F (Rf58l1 ∘ ef58l1) (Rf58j4 ∘ ef58j4) v := by
  rintro ⟨t0,t1,t5⟩; kernel_rfl
def f58_5_i : Ty13 → (List Int) × (List Int) × Int := fun (t0,t1,t5) => (t0,t1,t5)
def f58_5 (F : Nat) (kf58j4 : Unit → Rz) : Ty13 → Rz := fun v => loopN (fun k => f58_4 F k kf58j4) F (f58_5_i v)
theorem f58_5_eq (F : Nat) (Rf58j4 : St → Rz) : ∀ v,aexec VG0258 (Af58 F) (bp Tryd.f58 58) (ef58j3 v) (kBlock 0 (kSeq (kc VG0258 Rf58j4 []) (kFin VG0258 none (Tryd.f58).results.toList))) = f58_5 F (Rf58j4 ∘ ef58j4) v :=
  loop_cut (by kernel_rfl) (by kernel_rfl) ef58j3 ef58l1 _ f58_5_i (fun k => f58_4 F k (Rf58j4 ∘ ef58j4))
    (by rintro ⟨t0,t1,t5⟩; kernel_rfl) (fun Rf58l1 => f58_4_eq F Rf58l1 Rf58j4)
def f58_6 (F : Nat) (kf58j4 : Unit → Rz) : Ty13 → Rz := f58_5 F kf58j4
theorem f58_6_eq (F : Nat) (Rf58j4 : St → Rz) : ∀ v,aexec VG0258 (Af58 F) (bp Tryd.f58 29) (ef58j3 v) (kSeq (kc VG0258 Rf58j4 []) (kFin VG0258 none (Tryd.f58).results.toList)) = f58_6 F (Rf58j4 ∘ ef58j4) v := fun v =>
  (block_in  (by kernel_rfl) _ _).trans (f58_5_eq F Rf58j4 v)
def f58_7 (F : Nat) (kf58j4 : Unit → Rz) : (List Int) × (List Int) → Rz := fun v => f58_3 F (f58_6 F kf58j4) kf58j4 v
theorem f58_7_eq (F : Nat) (Rf58j4 : St → Rz) : ∀ v,aexec VG0258 (Af58 F) (bp Tryd.f58 14) (ef58j2 v) (kSeq (kc VG0258 Rf58j4 []) (kFin VG0258 none (Tryd.f58).results.toList)) = f58_7 F (Rf58j4 ∘ ef58j4) v :=
  seq_cut (by kernel_rfl) (by kernel_rfl) ef58j2 ef58j3 _ (fun k => f58_3 F k (Rf58j4 ∘ ef58j4)) (f58_6 F (Rf58j4 ∘ ef58j4))
    (fun Rf58j3 => f58_3_eq F Rf58j3 Rf58j4) (f58_6_eq F Rf58j4)
def f58_8 (F : Nat) : Unit → Rz := fun _ => (some ((.bool true),[]))
theorem f58_8_eq (F : Nat) : ∀ v,aexec VG0258 (Af58 F) (bp Tryd.f58 15) (ef58j4 v) (kFin VG0258 none (Tryd.f58).results.toList) = f58_8 F v := by
  intro _; kernel_rfl
def f58_9 (F : Nat) : (List Int) × (List Int) → Rz := fun v => f58_7 F (f58_8 F) v
theorem f58_9_eq (F : Nat) : ∀ v,aexec VG0258 (Af58 F) (bp Tryd.f58 7) (ef58j2 v) (kFin VG0258 none (Tryd.f58).results.toList) = f58_9 F v :=
  seq_cut (by kernel_rfl) (by kernel_rfl) ef58j2 ef58j4 _ (fun k => f58_7 F k) (f58_8 F)
    (fun Rf58j4 => f58_7_eq F Rf58j4) (f58_8_eq F)
def f58_10 (F : Nat) : (List Int) × (List Int) → Rz := fun v => f58_2 F (f58_9 F) v
theorem f58_10_eq (F : Nat) : ∀ v,aexec VG0258 (Af58 F) (bp Tryd.f58 3) (ef58j1 v) (kFin VG0258 none (Tryd.f58).results.toList) = f58_10 F v :=
  seq_cut (by kernel_rfl) (by kernel_rfl) ef58j1 ef58j2 _ (fun k => f58_2 F k) (f58_9 F)
    (fun Rf58j2 => f58_2_eq F Rf58j2) (f58_9_eq F)
def f58_11 (F : Nat) : (List Int) × (List Int) → Rz := fun v => f58_1 F (f58_10 F) v
theorem f58_11_eq (F : Nat) : ∀ v,aexec VG0258 (Af58 F) (sub (bodyOf Tryd.f58) []) (ef58_a v) (kFin VG0258 none (Tryd.f58).results.toList) = f58_11 F v :=
  seq_cut (by kernel_rfl) (by kernel_rfl) ef58_a ef58j1 _ (fun k => f58_1 F k) (f58_10 F)
    (fun Rf58j1 => f58_1_eq F Rf58j1) (f58_10_eq F)
def f58 (F : Nat) : (List Int) × (List Int) → Rz := f58_11 F
theorem f58_body (F : Nat) (a0 : List Int) (a1 : List Int) : abody VG0258 (Af58 F) Tryd.f58 [(.vs (.rI .u8 a0) 0 1),(.vs (.rI .u8 a1) 0 1)] [] = f58 F (a0,a1) :=
  (abody_in (c := (sub (bodyOf Tryd.f58) [])) (by kernel_rfl) (s := ef58_a (a0,a1)) (by kernel_rfl)).trans (f58_11_eq F (a0,a1))
def r58 : CRun := fun X H => match X,H with
  | [(.vs (.rI .u8 a0) 0 1),(.vs (.rI .u8 a1) 0 1)],[] => some (true,(.bool (decide (a0 = a1))),[])
  | _,_ => none
theorem s58 (a0 : List Int) (a1 : List Int) (h0 : okV (.vs (.rI .u8 a0) 0 1)) (h1 : okV (.vs (.rI .u8 a1) 0 1)) : ∃ F,f58 F (a0,a1) = some ((.bool (decide (a0 = a1))),[]) := by
  have hl0 := h0.2
  have hl1 := h1.2
  refine ⟨a0.length + 1,?_⟩
  simp only [f58,f58_11,f58_1,f58_10,f58_2,int_bne]
  by_cases hl : a0.length = a1.length
  · rw [cond_neg (by omega)]
    simp only [f58_9,f58_7,f58_3,f58_6,f58_5,f58_5_i]
    refine loopN_ind (fun m s => s.1 = a0 ∧ s.2.1 = a1 ∧ s.2.2 = ((a0.length - m : Nat) : Int) ∧ m ≤ a0.length ∧ ∀ i,i < a0.length - m → a0.getD i 0 = a1.getD i 0) ?_ _ a0.length _ (by omega) ⟨rfl,rfl,by simp,Nat.le_refl _,fun i hi => by omega⟩
    rintro m ⟨t0,t1,t5⟩ k ⟨e1,e2,e3,hm,hi⟩ hk
    simp only at e1 e2 e3 hi
    subst e1; subst e2; subst e3
    simp only [f58_4,dec_and,int_bne,lst_beq,dec_not]
    cases m with
    | zero =>
      rw [cond_neg (by omega),decide_eq_true (list_eq 0 hl fun i h => hi i (by omega))]
      rfl
    | succ m =>
      rw [Int.toNat_natCast,cond_pos (by omega),cond_pos (by omega),cond_pos (by omega)]
      by_cases he : t0.getD (t0.length - (m + 1)) 0 = t1.getD (t0.length - (m + 1)) 0
      · rw [cond_neg (fun h => h he),i64w (by omega) (by omega)]
        refine hk m _ (by omega) ⟨rfl,rfl,by simp only []; omega,by omega,fun i hi' => ?_⟩
        by_cases hh : i < t0.length - (m + 1)
        · exact hi i hh
        · rw [show i = t0.length - (m + 1) by omega]; exact he
      · rw [cond_pos he,decide_eq_false (fun e => he (by rw [e]))]
  · rw [cond_pos (by omega),decide_eq_false (fun e => hl (by rw [e]))]
theorem c58 : CallOk Tryd.prog G02 58 r58 := callOk_of (V := VG0258) mixed tys eVG0258 (f := 58) (fn := Tryd.f58) Tryd.func58 (by kernel_rfl) (c := sub (bodyOf Tryd.f58) []) (by kernel_rfl) (by
  intro X H r H' h hX hH
  unfold r58 at h; split at h <;> try contradiction
  · simp only [Option.some.injEq,Prod.mk.injEq] at h
    obtain ⟨hp,rfl,rfl⟩ := h
    obtain ⟨F,hF⟩ := s58 _ _ (hX _ (.head _)) (hX _ (.tail _ (.head _)))
    exact ⟨Af58 F,(f58_body F _ _).trans hF⟩)
end Go.Am
