/- Part of a proof about the functions of the given program. -/
import Derived.Test.YtnbgphghghmemaaAm35A
import Derived.Test.YtnbgphghghmemaaAmDisk2
set_option linter.unusedVariables false
set_option linter.unusedSimpArgs false
namespace Go.Am
open Go Go.Proofs
abbrev sp2 : List (Nat × Md) := [(0,.plain),(3,.plain),(15,.plain),(16,.plain)]
abbrev sp3 : List (Nat × Md) := [(0,.plain),(3,.plain),(4,.plain)]
abbrev Ty8 := Nat × Bool × Int × (List Int) × (List (List Int × List Int)) × (List (List Int × List Int))
abbrev Ty9 := Nat × Bool × Int × (List Int) × (List (List Int × List Int)) × (List (List Int × List Int)) × (List (List Int))
abbrev Ty10 := Int × Int × Nat × Bool × Int × (List Int) × (List (List Int × List Int)) × (List (List Int × List Int)) × (List (List Int))
abbrev Ty11 := Int × Int × Nat × Bool × Int × (List Int) × (List (List Int × List Int)) × (List (List Int × List Int)) × (List (List Int)) × Nat
abbrev Ty12 := Nat × Bool × Int × (List Int) × (List (List Int × List Int)) × (List (List Int × List Int)) × (List (List Int)) × Nat
abbrev Ty13 := Int × Int × (List Int) × Nat
abbrev Ty14 := Nat × (List (List (List Int))) × Bool × Int
abbrev Ty15 := Nat × (List (List (List Int))) × Bool × Int × Int
abbrev Ty16 := Nat × (List (List (List Int))) × Bool × Int × Int × (List Int)
abbrev Ty17 := Nat × (List (List (List Int))) × Bool × Int × Int × Int
abbrev Ty18 := Int × Int × Int × (List Int) × (List Int)

def lVG3514 : List CEnt := []
def VG3514 : Env := mkEnv T35 G35 lVG3514
theorem eVG3514 : EOk Try.prog VG3514 := eok_mk (by exact trivial)
def Af14 (F : Nat) : Cuts := { F := F,at_ := fun _ => none,join := fun _ => none }
def ef14_a : Int → St := fun a0 => { tmps := [(0,(.int .i64 a0))],heap := [],next := 0,nt := 16,m := 0 }
def f14_1 (F : Nat) : Int → Rz := fun a0 => (cond (decide (a0 < (1 : Int))) (some ((.tup (.cons 0 .nilp (.cons 0 (.int .i64 (1 : Int)) .nil))),[])) (cond (decide (a0 > (4096 : Int))) (some ((.tup (.cons 0 .nilp (.cons 0 (.int .i64 (1 : Int)) .nil))),[])) (cond (((decide (0 ≤ a0)) && (decide (a0 ≤ a0))) && (decide (a0 < 1073741824))) (some ((.tup (.cons 0 (.ptr 0 0 5 0 0 0 5) (.cons 0 (.int .i64 (0 : Int)) .nil))),[(.cells 5 (.segs (.cons 1 (.one (.own 1 (Int.toNat a0) 64)) (.cons 1 (.one (.mp 2)) (.cons 1 (.one (.mp 3)) (.cons 1 (.one (.bool false)) (.cons 1 (.one (.int .i64 (-1 : Int))) .nil)))))) true),(.cells ((Int.toNat a0) * 64) (.rI .u8 (List.replicate ((Int.toNat a0) * 64) 0)) true),(.cells 0 (.rM .i64 0 (.arr .u8 64) []) true),(.cells 0 (.rM .i64 0 .bool []) true)])) none)))
theorem f14_1_eq (F : Nat) : ∀ v,aexec VG3514 (Af14 F) (sub (bodyOf Try.f14) []) (ef14_a v) (kFin VG3514 none (Try.f14).results.toList) = f14_1 F v := by
  intro a0; kernel_rfl
def f14 (F : Nat) : Int → Rz := f14_1 F
theorem f14_body (F : Nat) (a0 : Int) : abody VG3514 (Af14 F) Try.f14 [(.int .i64 a0)] [] = f14 F a0 :=
  (abody_in (c := (sub (bodyOf Try.f14) [])) (by kernel_rfl) (s := ef14_a a0) (by kernel_rfl)).trans (f14_1_eq F a0)
def r14 : CRun := fun X H => match X,H with
  | [(.int .i64 a0)],[] => some ((decide (0 < a0)) && (decide (a0 < 4097)),(.tup (.cons 0 (.ptr 0 0 5 0 0 0 5) (.cons 0 (.int .i64 0) .nil))),[(.cells 5 (.segs (.cons 1 (.one (.own 1 (Dk.new a0).n 64)) (.cons 1 (.one (.mp 2)) (.cons 1 (.one (.mp 3)) (.cons 1 (.one (.bool (Dk.new a0).off)) (.cons 1 (.one (.int .i64 (Dk.new a0).left)) .nil)))))) true),(.cells (Dk.new a0).blk.length (.rI .u8 (Dk.new a0).blk) true),(.cells 0 (.rM .i64 0 (.arr .u8 64) (Dk.new a0).pend) true),(.cells 0 (.rM .i64 0 .bool (Dk.new a0).worn) true)])
  | _,_ => none
theorem s14 (a0 : Int) (hp : ((decide (0 < a0)) && (decide (a0 < 4097))) = true) (h0 : okV (.int .i64 a0)) : ∃ F,f14 F a0 = some ((.tup (.cons 0 (.ptr 0 0 5 0 0 0 5) (.cons 0 (.int .i64 0) .nil))),[(.cells 5 (.segs (.cons 1 (.one (.own 1 (Dk.new a0).n 64)) (.cons 1 (.one (.mp 2)) (.cons 1 (.one (.mp 3)) (.cons 1 (.one (.bool (Dk.new a0).off)) (.cons 1 (.one (.int .i64 (Dk.new a0).left)) .nil)))))) true),(.cells (Dk.new a0).blk.length (.rI .u8 (Dk.new a0).blk) true),(.cells 0 (.rM .i64 0 (.arr .u8 64) (Dk.new a0).pend) true),(.cells 0 (.rM .i64 0 .bool (Dk.new a0).worn) true)]) := by
  refine ⟨0,?_⟩
  rw [dec_and,decide_eq_true_iff] at hp
  have e : ((decide (0 ≤ a0) && decide (a0 ≤ a0)) && decide (a0 < 1073741824)) = true := by simp; omega
  simp only [f14,f14_1,e,cond_true]
  rw [cond_neg (show ¬ a0 < 1 by omega),cond_neg (show ¬ a0 > 4096 by omega)]
  simp only [Dk.new,List.length_replicate]

theorem c14 : CallOk Try.prog G35 14 r14 := callOk_of (V := VG3514) mixed tys eVG3514 (f := 14) (fn := Try.f14) Try.func14 (by kernel_rfl) (c := sub (bodyOf Try.f14) []) (by kernel_rfl) (by
  intro X H r H' h hX hH
  unfold r14 at h; split at h <;> try contradiction
  · simp only [Option.some.injEq,Prod.mk.injEq] at h
    obtain ⟨hp,rfl,rfl⟩ := h
    obtain ⟨F,hF⟩ := s14 _ hp (hX _ (.head _))
    exact ⟨Af14 F,(f14_body F _).trans hF⟩)
def lVG3514i : List CEnt := []
def VG3514i : Env := mkEnv T35 G35 lVG3514i
theorem eVG3514i : EOk Try.prog VG3514i := eok_mk (by exact trivial)
def Af14i (F : Nat) : Cuts := { F := F,at_ := fun _ => none,join := fun _ => none }
def ef14i_a : Int → St := fun a0 => { tmps := [(0,(.int .i64 a0))],heap := [],next := 0,nt := 16,m := 0 }
def f14i_1 (F : Nat) : Int → Rz := fun a0 => (cond (decide (a0 < (1 : Int))) (some ((.tup (.cons 0 .nilp (.cons 0 (.int .i64 (1 : Int)) .nil))),[])) (cond (decide (a0 > (4096 : Int))) (some ((.tup (.cons 0 .nilp (.cons 0 (.int .i64 (1 : Int)) .nil))),[])) (cond (((decide (0 ≤ a0)) && (decide (a0 ≤ a0))) && (decide (a0 < 1073741824))) (some ((.tup (.cons 0 (.ptr 0 0 5 0 0 0 5) (.cons 0 (.int .i64 (0 : Int)) .nil))),[(.cells 5 (.segs (.cons 1 (.one (.own 1 (Int.toNat a0) 64)) (.cons 1 (.one (.mp 2)) (.cons 1 (.one (.mp 3)) (.cons 1 (.one (.bool false)) (.cons 1 (.one (.int .i64 (-1 : Int))) .nil)))))) true),(.cells ((Int.toNat a0) * 64) (.rI .u8 (List.replicate ((Int.toNat a0) * 64) 0)) true),(.cells 0 (.rM .i64 0 (.arr .u8 64) []) true),(.cells 0 (.rM .i64 0 .bool []) true)])) none)))
theorem f14i_1_eq (F : Nat) : ∀ v,aexec VG3514i (Af14i F) (sub (bodyOf Try.f14) []) (ef14i_a v) (kFin VG3514i none (Try.f14).results.toList) = f14i_1 F v := by
  intro a0; kernel_rfl
def f14i (F : Nat) : Int → Rz := f14i_1 F
theorem f14i_body (F : Nat) (a0 : Int) : abody VG3514i (Af14i F) Try.f14 [(.int .i64 a0)] [] = f14i F a0 :=
  (abody_in (c := (sub (bodyOf Try.f14) [])) (by kernel_rfl) (s := ef14i_a a0) (by kernel_rfl)).trans (f14i_1_eq F a0)
def r14i : CRun := fun X H => match X,H with
  | [(.int .i64 a0)],[] => some ((!((decide (0 < a0)) && (decide (a0 < 4097)))),(.tup (.cons 0 .nilp (.cons 0 (.int .i64 1) .nil))),[])
  | _,_ => none
theorem s14i (a0 : Int) (hp : ((!((decide (0 < a0)) && (decide (a0 < 4097))))) = true) (h0 : okV (.int .i64 a0)) : ∃ F,f14i F a0 = some ((.tup (.cons 0 .nilp (.cons 0 (.int .i64 1) .nil))),[]) := by
  refine ⟨0,?_⟩
  rw [dec_and,dec_not,decide_eq_true_iff] at hp
  simp only [f14i,f14i_1]
  by_cases h : a0 < 1
  · rw [cond_pos h]
  · rw [cond_neg h,cond_pos (show a0 > 4096 by omega)]

theorem c14i : CallOk Try.prog G35 14 r14i := callOk_of (V := VG3514i) mixed tys eVG3514i (f := 14) (fn := Try.f14) Try.func14 (by kernel_rfl) (c := sub (bodyOf Try.f14) []) (by kernel_rfl) (by
  intro X H r H' h hX hH
  unfold r14i at h; split at h <;> try contradiction
  · simp only [Option.some.injEq,Prod.mk.injEq] at h
    obtain ⟨hp,rfl,rfl⟩ := h
    obtain ⟨F,hF⟩ := s14i _ hp (hX _ (.head _))
    exact ⟨Af14i F,(f14i_body F _).trans hF⟩)
def is23 : Int → Bool
  | .ofNat 2 => true
  | .ofNat 3 => true
  | _ => false
def r14m : CRun := fun X H => match X with
  | [.int .i64 a] => cond (is23 a) (r14 [.int .i64 a] H) (r14i [.int .i64 a] H)
  | _ => none
theorem c14m : CallOk Try.prog G35 14 r14m := c14.or c14i fun A H r H' h => by
  unfold r14m at h; split at h <;> try contradiction
  rename_i a
  cases hb : is23 a <;> rw [hb] at h
  · exact .inr h
  · exact .inl h
def lVG3515 : List CEnt := []
def VG3515 : Env := mkEnv T35 G35 lVG3515
theorem eVG3515 : EOk Try.prog VG3515 := eok_mk (by exact trivial)
def Af15 (F : Nat) : Cuts := { F := F,at_ := fun n => match n with | 3012 => some sp2 | _ => none,join := fun n => match n with | 1022 => some [(0,.plain)] | 2020 => some [(0,.plain),(3,.plain)] | 3014 => some sp2 | 7003 => some [(3,.plain)] | _ => none,fin := (some [(2,(.view 9))]) }
def ef15_a : Ty0 → St := fun (a0n,a0b,a0p,a0w,a0o,a0l) => { tmps := [(0,(.ptr 0 0 5 0 0 0 5))],heap := [(0,(.cells 5 (.segs (.cons 1 (.one (.own 1 a0n 64)) (.cons 1 (.one (.mp 2)) (.cons 1 (.one (.mp 3)) (.cons 1 (.one (.bool a0o)) (.cons 1 (.one (.int .i64 a0l)) .nil)))))) true)),(1,(.cells a0b.length (.rI .u8 a0b) true)),(2,(.cells 0 (.rM .i64 0 (.arr .u8 64) a0p) true)),(3,(.cells 0 (.rM .i64 0 .bool a0w) true))],next := 4,nt := 32,m := 4 }
def ef15j1 : Ty8 → St := fun (x1,x2,x3,x4,x5,x6) => { tmps := [(0,(.ptr 0 0 5 0 0 0 5))],heap := [(0,(.cells 5 (.segs (.cons 1 (.one (.own 1 x1 64)) (.cons 1 (.one (.mp 2)) (.cons 1 (.one (.mp 3)) (.cons 1 (.one (.bool x2)) (.cons 1 (.one (.int .i64 x3)) .nil)))))) true)),(1,(.cells x4.length (.rI .u8 x4) true)),(2,(.cells 0 (.rM .i64 0 (.arr .u8 64) x5) true)),(3,(.cells 0 (.rM .i64 0 .bool x6) true))],next := 4,nt := 32,m := 4 }
def ef15j2 : Ty9 → St := fun (x1,x2,x3,x4,x5,x6,x7) => { tmps := [(0,(.ptr 0 0 5 0 0 0 5)),(3,(.own 4 0 1))],heap := [(0,(.cells 5 (.segs (.cons 1 (.one (.own 1 x1 64)) (.cons 1 (.one (.mp 2)) (.cons 1 (.one (.mp 3)) (.cons 1 (.one (.bool x2)) (.cons 1 (.one (.int .i64 x3)) .nil)))))) true)),(1,(.cells x4.length (.rI .u8 x4) true)),(2,(.cells 0 (.rM .i64 0 (.arr .u8 64) x5) true)),(3,(.cells 0 (.rM .i64 0 .bool x6) true)),(4,(.cells x7.length (.rS x7) true))],next := 5,nt := 32,m := 4 }
def ef15j3 : Ty10 → St := fun (t15,t16,x3,x4,x5,x6,x7,x8,x9) => { tmps := [(0,(.ptr 0 0 5 0 0 0 5)),(3,(.own 4 0 1)),(15,(.int .i64 t15)),(16,(.int .i64 t16))],heap := [(0,(.cells 5 (.segs (.cons 1 (.one (.own 1 x3 64)) (.cons 1 (.one (.mp 2)) (.cons 1 (.one (.mp 3)) (.cons 1 (.one (.bool x4)) (.cons 1 (.one (.int .i64 x5)) .nil)))))) true)),(1,(.cells x6.length (.rI .u8 x6) true)),(2,(.cells 0 (.rM .i64 0 (.arr .u8 64) x7) true)),(3,(.cells 0 (.rM .i64 0 .bool x8) true)),(4,(.cells x9.length (.rS x9) true))],next := 5,nt := 32,m := 4 }
def ef15l1 : Ty11 → St := fun (t15,t16,x3,x4,x5,x6,x7,x8,x9,x10) => { tmps := [(0,(.ptr 0 0 5 0 0 0 5)),(3,(.own 4 0 1)),(15,(.int .i64 t15)),(16,(.int .i64 t16))],heap := [(0,(.cells 5 (.segs (.cons 1 (.one (.own 1 x3 64)) (.cons 1 (.one (.mp 2)) (.cons 1 (.one (.mp 3)) (.cons 1 (.one (.bool x4)) (.cons 1 (.one (.int .i64 x5)) .nil)))))) true)),(1,(.cells x6.length (.rI .u8 x6) true)),(2,(.cells 0 (.rM .i64 0 (.arr .u8 64) x7) true)),(3,(.cells 0 (.rM .i64 0 .bool x8) true)),(4,(.cells x10 (.rS x9) true))],next := 5,nt := 32,m := 4 }
def ef15j4 : Ty12 → St := fun (x1,x2,x3,x4,x5,x6,x7,x8) => { tmps := [(3,(.own 4 0 1))],heap := [(0,(.cells 5 (.segs (.cons 1 (.one (.own 1 x1 64)) (.cons 1 (.one (.mp 2)) (.cons 1 (.one (.mp 3)) (.cons 1 (.one (.bool x2)) (.cons 1 (.one (.int .i64 x3)) .nil)))))) true)),(1,(.cells x4.length (.rI .u8 x4) true)),(2,(.cells 0 (.rM .i64 0 (.arr .u8 64) x5) true)),(3,(.cells 0 (.rM .i64 0 .bool x6) true)),(4,(.cells x8 (.rS x7) true))],next := 5,nt := 32,m := 4 }
def f15_1 (F : Nat) (kf15j1 : Ty8 → Rz) : Ty0 → Rz := fun (a0n,a0b,a0p,a0w,a0o,a0l) => (kf15j1 (a0n,a0o,a0l,a0b,a0p,a0w))
theorem f15_1_eq (F : Nat) (Rf15j1 : St → Rz) : ∀ v,aexec VG3515 (Af15 F) (bp Try.f15 2) (ef15_a v) (kSeq (kc VG3515 Rf15j1 [(0,.plain)]) (kFin VG3515 (some [(2,(.view 9))]) (Try.f15).results.toList)) = f15_1 F (Rf15j1 ∘ ef15j1) v := by
  rintro ⟨a0n,a0b,a0p,a0w,a0o,a0l⟩; kernel_rfl
def f15_2 (F : Nat) (kf15j2 : Ty9 → Rz) : Ty8 → Rz := fun (x1,x2,x3,x4,x5,x6) => (cond (((decide (0 ≤ (↑x1 : Int))) && (decide ((↑x1 : Int) ≤ (↑x1 : Int)))) && (decide ((↑x1 : Int) < 1073741824))) (kf15j2 (x1,x2,x3,x4,x5,x6,(List.replicate (Int.toNat (↑x1 : Int)) []))) none)
theorem f15_2_eq (F : Nat) (Rf15j2 : St → Rz) : ∀ v,aexec VG3515 (Af15 F) (bp Try.f15 6) (ef15j1 v) (kSeq (kc VG3515 Rf15j2 [(0,.plain),(3,.plain)]) (kFin VG3515 (some [(2,(.view 9))]) (Try.f15).results.toList)) = f15_2 F (Rf15j2 ∘ ef15j2) v := by
  rintro ⟨x1,x2,x3,x4,x5,x6⟩; kernel_rfl
def f15_3 (F : Nat) (kf15j3 : Ty10 → Rz) (kf15j4 : Ty12 → Rz) : Ty9 → Rz := fun (x1,x2,x3,x4,x5,x6,x7) => (kf15j3 ((↑x1 : Int),(0 : Int),x1,x2,x3,x4,x5,x6,x7))
theorem f15_3_eq (F : Nat) (Rf15j3 : St → Rz) (Rf15j4 : St → Rz) : ∀ v,aexec VG3515 (Af15 F) (bp Try.f15 28) (ef15j2 v) (kSeq (kc VG3515 Rf15j3 sp2) (kSeq (kc VG3515 Rf15j4 [(3,.plain)]) (kFin VG3515 (some [(2,(.view 9))]) (Try.f15).results.toList))) = f15_3 F (Rf15j3 ∘ ef15j3) (Rf15j4 ∘ ef15j4) v := by
  rintro ⟨x1,x2,x3,x4,x5,x6,x7⟩; kernel_rfl
def f15_4 (F : Nat) (kf15l1 : Ty11 → Rz) (kf15j4 : Ty12 → Rz) : Ty11 → Rz := fun (t15,t16,x3,x4,x5,x6,x7,x8,x9,x10) => (cond (decide (t16 < t15)) (cond ((decide (0 ≤ t16)) && (decide (t16 < (↑x3 : Int)))) (cond ((decide (0 ≤ t16)) && (decide (t16 < (↑x9.length : Int)))) (kf15l1 (t15,(IntKind.i64.wrap (t16 + (1 : Int))),x3,x4,x5,x6,x7,x8,(x9.set (Int.toNat t16) ((x6.drop (0 + (0 + ((Int.toNat t16) * 64)))).take 64)),x10)) none) none) (kf15j4 (x3,x4,x5,x6,x7,x8,x9,x10)))
theorem f15_4_eq (F : Nat) (Rf15l1 : St → Rz) (Rf15j4 : St → Rz) : ∀ v,aexec VG3515 (Af15 F) (bp Try.f15 116) (ef15l1 v) (kSeq (kc VG3515 Rf15l1 sp2) (kBlock 0 (kSeq (kc VG3515 Rf15j4 [(3,.plain)]) (kFin VG3515 (some [(2,(.view 9))]) (Try.f15).results.toList)))) = f15_4 F (Rf15l1 ∘ ef15l1) (Rf15j4 ∘ ef15j4) v := by
  rintro ⟨t15,t16,x3,x4,x5,x6,x7,x8,x9,x10⟩; kernel_rfl
def f15_5_i : Ty10 → Int × Int × Nat × Bool × Int × (List Int) × (List (List Int × List Int)) × (List (List Int × List Int)) × (List (List Int)) × Nat := fun (t15,t16,x3,x4,x5,x6,x7,x8,x9) => (t15,t16,x3,x4,x5,x6,x7,x8,x9,x9.length)
def f15_5 (F : Nat) (kf15j4 : Ty12 → Rz) : Ty10 → Rz := fun v => loopN (fun k => f15_4 F k kf15j4) F (f15_5_i v)
theorem f15_5_eq (F : Nat) (Rf15j4 : St → Rz) : ∀ v,aexec VG3515 (Af15 F) (bp Try.f15 58) (ef15j3 v) (kBlock 0 (kSeq (kc VG3515 Rf15j4 [(3,.plain)]) (kFin VG3515 (some [(2,(.view 9))]) (Try.f15).results.toList))) = f15_5 F (Rf15j4 ∘ ef15j4) v :=
  loop_cut (by kernel_rfl) (by kernel_rfl) ef15j3 ef15l1 _ f15_5_i (fun k => f15_4 F k (Rf15j4 ∘ ef15j4))
    (by rintro ⟨t15,t16,x3,x4,x5,x6,x7,x8,x9⟩; kernel_rfl) (fun Rf15l1 => f15_4_eq F Rf15l1 Rf15j4)
def f15_6 (F : Nat) (kf15j4 : Ty12 → Rz) : Ty10 → Rz := f15_5 F kf15j4
theorem f15_6_eq (F : Nat) (Rf15j4 : St → Rz) : ∀ v,aexec VG3515 (Af15 F) (bp Try.f15 29) (ef15j3 v) (kSeq (kc VG3515 Rf15j4 [(3,.plain)]) (kFin VG3515 (some [(2,(.view 9))]) (Try.f15).results.toList)) = f15_6 F (Rf15j4 ∘ ef15j4) v := fun v =>
  (block_in  (by kernel_rfl) _ _).trans (f15_5_eq F Rf15j4 v)
def f15_7 (F : Nat) (kf15j4 : Ty12 → Rz) : Ty9 → Rz := fun v => f15_3 F (f15_6 F kf15j4) kf15j4 v
theorem f15_7_eq (F : Nat) (Rf15j4 : St → Rz) : ∀ v,aexec VG3515 (Af15 F) (bp Try.f15 14) (ef15j2 v) (kSeq (kc VG3515 Rf15j4 [(3,.plain)]) (kFin VG3515 (some [(2,(.view 9))]) (Try.f15).results.toList)) = f15_7 F (Rf15j4 ∘ ef15j4) v :=
  seq_cut (by kernel_rfl) (by kernel_rfl) ef15j2 ef15j3 _ (fun k => f15_3 F k (Rf15j4 ∘ ef15j4)) (f15_6 F (Rf15j4 ∘ ef15j4))
    (fun Rf15j3 => f15_3_eq F Rf15j3 Rf15j4) (f15_6_eq F Rf15j4)
def f15_8 (F : Nat) : Ty12 → Rz := fun (x1,x2,x3,x4,x5,x6,x7,x8) => (some ((.vs (.rS x7) 0 1),[(.cells 5 (.segs (.cons 1 (.one (.own 1 x1 64)) (.cons 1 (.one (.mp 2)) (.cons 1 (.one (.mp 3)) (.cons 1 (.one (.bool x2)) (.cons 1 (.one (.int .i64 x3)) .nil)))))) true),(.cells x4.length (.rI .u8 x4) true),(.cells 0 (.rM .i64 0 (.arr .u8 64) x5) true),(.cells 0 (.rM .i64 0 .bool x6) true)]))
theorem f15_8_eq (F : Nat) : ∀ v,aexec VG3515 (Af15 F) (bp Try.f15 15) (ef15j4 v) (kFin VG3515 (some [(2,(.view 9))]) (Try.f15).results.toList) = f15_8 F v := by
  rintro ⟨x1,x2,x3,x4,x5,x6,x7,x8⟩; kernel_rfl
def f15_9 (F : Nat) : Ty9 → Rz := fun v => f15_7 F (f15_8 F) v
theorem f15_9_eq (F : Nat) : ∀ v,aexec VG3515 (Af15 F) (bp Try.f15 7) (ef15j2 v) (kFin VG3515 (some [(2,(.view 9))]) (Try.f15).results.toList) = f15_9 F v :=
  seq_cut (by kernel_rfl) (by kernel_rfl) ef15j2 ef15j4 _ (fun k => f15_7 F k) (f15_8 F)
    (fun Rf15j4 => f15_7_eq F Rf15j4) (f15_8_eq F)
def f15_10 (F : Nat) : Ty8 → Rz := fun v => f15_2 F (f15_9 F) v
theorem f15_10_eq (F : Nat) : ∀ v,aexec VG3515 (Af15 F) (bp Try.f15 3) (ef15j1 v) (kFin VG3515 (some [(2,(.view 9))]) (Try.f15).results.toList) = f15_10 F v :=
  seq_cut (by kernel_rfl) (by kernel_rfl) ef15j1 ef15j2 _ (fun k => f15_2 F k) (f15_9 F)
    (fun Rf15j2 => f15_2_eq F Rf15j2) (f15_9_eq F)
def f15_11 (F : Nat) : Ty0 → Rz := fun v => f15_1 F (f15_10 F) v
theorem f15_11_eq (F : Nat) : ∀ v,aexec VG3515 (Af15 F) (sub (bodyOf Try.f15) []) (ef15_a v) (kFin VG3515 (some [(2,(.view 9))]) (Try.f15).results.toList) = f15_11 F v :=
  seq_cut (by kernel_rfl) (by kernel_rfl) ef15_a ef15j1 _ (fun k => f15_1 F k) (f15_10 F)
    (fun Rf15j1 => f15_1_eq F Rf15j1) (f15_10_eq F)
def f15 (F : Nat) : Ty0 → Rz := f15_11 F
theorem f15_body (F : Nat) (a0n : Nat) (a0b : List Int) (a0p : List (List Int × List Int)) (a0w : List (List Int × List Int)) (a0o : Bool) (a0l : Int) : abody VG3515 (Af15 F) Try.f15 [(.ptr 0 0 5 0 0 0 5)] [(.cells 5 (.segs (.cons 1 (.one (.own 1 a0n 64)) (.cons 1 (.one (.mp 2)) (.cons 1 (.one (.mp 3)) (.cons 1 (.one (.bool a0o)) (.cons 1 (.one (.int .i64 a0l)) .nil)))))) true),(.cells a0b.length (.rI .u8 a0b) true),(.cells 0 (.rM .i64 0 (.arr .u8 64) a0p) true),(.cells 0 (.rM .i64 0 .bool a0w) true)] = f15 F (a0n,a0b,a0p,a0w,a0o,a0l) :=
  (abody_in (c := (sub (bodyOf Try.f15) [])) (by kernel_rfl) (s := ef15_a (a0n,a0b,a0p,a0w,a0o,a0l)) (by kernel_rfl)).trans (f15_11_eq F (a0n,a0b,a0p,a0w,a0o,a0l))
def r15 : CRun := fun X H => match X,H with
  | [(.ptr 0 0 5 0 0 0 5)],[(.cells 5 (.segs (.cons 1 (.one (.own 1 a0n 64)) (.cons 1 (.one (.mp 2)) (.cons 1 (.one (.mp 3)) (.cons 1 (.one (.bool a0o)) (.cons 1 (.one (.int .i64 a0l)) .nil)))))) true),(.cells z1 (.rI .u8 a0b) true),(.cells 0 (.rM .i64 0 (.arr .u8 64) a0p) true),(.cells 0 (.rM .i64 0 .bool a0w) true)] => some ((decide ((Dk.D.mk a0n a0b a0p a0w a0o a0l).blk.length = (Dk.D.mk a0n a0b a0p a0w a0o a0l).n * 64 ∧ (Dk.D.mk a0n a0b a0p a0w a0o a0l).n < 8000)),(.vs (.rS (Dk.image (Dk.D.mk a0n a0b a0p a0w a0o a0l))) 0 1),[(.cells 5 (.segs (.cons 1 (.one (.own 1 (Dk.D.mk a0n a0b a0p a0w a0o a0l).n 64)) (.cons 1 (.one (.mp 2)) (.cons 1 (.one (.mp 3)) (.cons 1 (.one (.bool (Dk.D.mk a0n a0b a0p a0w a0o a0l).off)) (.cons 1 (.one (.int .i64 (Dk.D.mk a0n a0b a0p a0w a0o a0l).left)) .nil)))))) true),(.cells (Dk.D.mk a0n a0b a0p a0w a0o a0l).blk.length (.rI .u8 (Dk.D.mk a0n a0b a0p a0w a0o a0l).blk) true),(.cells 0 (.rM .i64 0 (.arr .u8 64) (Dk.D.mk a0n a0b a0p a0w a0o a0l).pend) true),(.cells 0 (.rM .i64 0 .bool (Dk.D.mk a0n a0b a0p a0w a0o a0l).worn) true)])
  | _,_ => none
theorem s15 (a0n : Nat) (a0b : List Int) (a0p : List (List Int × List Int)) (a0w : List (List Int × List Int)) (a0o : Bool) (a0l : Int) (hp : ((decide ((Dk.D.mk a0n a0b a0p a0w a0o a0l).blk.length = (Dk.D.mk a0n a0b a0p a0w a0o a0l).n * 64 ∧ (Dk.D.mk a0n a0b a0p a0w a0o a0l).n < 8000))) = true) (k0 : okB (.cells 5 (.segs (.cons 1 (.one (.own 1 a0n 64)) (.cons 1 (.one (.mp 2)) (.cons 1 (.one (.mp 3)) (.cons 1 (.one (.bool a0o)) (.cons 1 (.one (.int .i64 a0l)) .nil)))))) true)) (k1 : okB (.cells a0b.length (.rI .u8 a0b) true)) (k2 : okB (.cells 0 (.rM .i64 0 (.arr .u8 64) a0p) true)) (k3 : okB (.cells 0 (.rM .i64 0 .bool a0w) true)) : ∃ F,f15 F (a0n,a0b,a0p,a0w,a0o,a0l) = some ((.vs (.rS (Dk.image (Dk.D.mk a0n a0b a0p a0w a0o a0l))) 0 1),[(.cells 5 (.segs (.cons 1 (.one (.own 1 (Dk.D.mk a0n a0b a0p a0w a0o a0l).n 64)) (.cons 1 (.one (.mp 2)) (.cons 1 (.one (.mp 3)) (.cons 1 (.one (.bool (Dk.D.mk a0n a0b a0p a0w a0o a0l).off)) (.cons 1 (.one (.int .i64 (Dk.D.mk a0n a0b a0p a0w a0o a0l).left)) .nil)))))) true),(.cells (Dk.D.mk a0n a0b a0p a0w a0o a0l).blk.length (.rI .u8 (Dk.D.mk a0n a0b a0p a0w a0o a0l).blk) true),(.cells 0 (.rM .i64 0 (.arr .u8 64) (Dk.D.mk a0n a0b a0p a0w a0o a0l).pend) true),(.cells 0 (.rM .i64 0 .bool (Dk.D.mk a0n a0b a0p a0w a0o a0l).worn) true)]) := by
  rw [decide_eq_true_iff] at hp
  obtain ⟨hl,hn⟩ := hp
  refine ⟨a0n + 1,?_⟩
  have e : ((decide (0 ≤ (a0n : Int)) && decide ((a0n : Int) ≤ (a0n : Int))) && decide ((a0n : Int) < 1073741824)) = true := by simp at hn ⊢; omega
  simp only [f15,f15_11,f15_1,f15_10,f15_2,f15_9,f15_7,f15_8,f15_3,f15_6,f15_5,f15_5_i,e,cond_true,Int.toNat_natCast]
  refine loopN_from (fun k => ((a0n : Int),(k : Int),a0n,a0o,a0l,a0b,a0p,a0w,(List.range k).map (fun i => Dk.sec a0b i) ++ List.replicate (a0n - k) [],a0n)) a0n (by simp) (fun k hk K => ?_) (fun K => ?_) (a0n + 1) (by omega)
  · have e1 : (decide (0 ≤ (k : Int)) && decide ((k : Int) < (a0n : Int))) = true := by rw [dec_and,decide_eq_true_iff]; omega
    have e2 : (decide (0 ≤ (k : Int)) && decide ((k : Int) < ((((List.range k).map (fun i => Dk.sec a0b i) ++ List.replicate (a0n - k) []).length : Nat) : Int))) = true := by
      rw [dec_and,decide_eq_true_iff]; simp; omega
    simp only [f15_4,e1,e2,cond_true,i64w (show -9223372036854775808 ≤ (k : Int) + 1 by omega) (by simp at hn; omega),Int.toNat_natCast,Nat.zero_add]
    rw [cond_pos (show (k : Int) < (a0n : Int) by omega),fill_set (fun i => Dk.sec a0b i) [] a0n k hk (by simp [Dk.sec])]
    rfl
  · simp only [f15_4]
    rw [cond_neg (by omega)]
    simp only [Nat.sub_self,List.replicate_zero,List.append_nil]
    rfl

theorem c15 : CallOk Try.prog G35 15 r15 := callOk_of (V := VG3515) mixed tys eVG3515 (f := 15) (fn := Try.f15) Try.func15 (by kernel_rfl) (c := sub (bodyOf Try.f15) []) (by kernel_rfl) (by
  intro X H r H' h hX hH
  unfold r15 at h; split at h <;> try contradiction
  · simp only [Option.some.injEq,Prod.mk.injEq] at h
    obtain ⟨hp,rfl,rfl⟩ := h
    obtain rfl := okB_size (hH _ (.tail _ (.head _))) rfl
    obtain ⟨F,hF⟩ := s15 _ _ _ _ _ _ hp (hH _ (.head _)) (hH _ (.tail _ (.head _))) (hH _ (.tail _ (.tail _ (.head _)))) (hH _ (.tail _ (.tail _ (.tail _ (.head _)))))
    exact ⟨Af15 F,(f15_body F _ _ _ _ _ _).trans hF⟩)
def lVG3518 : List CEnt := []
def VG3518 : Env := mkEnv T35 G35 lVG3518
theorem eVG3518 : EOk Try.prog VG3518 := eok_mk (by exact trivial)
def Af18 (F : Nat) : Cuts := { F := F,at_ := fun n => match n with | 3010 => some sp3 | _ => none,join := fun n => match n with | 1020 => some [(0,.plain)] | 2018 => some [(0,.plain),(3,.plain)] | 3012 => some sp3 | 6003 => some [(3,.plain)] | _ => none }
def ef18_a : Int → St := fun a0 => { tmps := [(0,(.int .u8 a0))],heap := [],next := 0,nt := 16,m := 0 }
def ef18j1 : Int → St := fun t0 => { tmps := [(0,(.int .u8 t0))],heap := [],next := 0,nt := 16,m := 0 }
def ef18j2 : Int × (List Int) → St := fun (t0,x2) => { tmps := [(0,(.int .u8 t0)),(3,(.own 0 0 1))],heap := [(0,(.cells x2.length (.rI .u8 x2) true))],next := 1,nt := 16,m := 0 }
def ef18j3 : Int × Int × (List Int) → St := fun (t0,t4,x3) => { tmps := [(0,(.int .u8 t0)),(3,(.own 0 0 1)),(4,(.int .i64 t4))],heap := [(0,(.cells x3.length (.rI .u8 x3) true))],next := 1,nt := 16,m := 0 }
def ef18l1 : Ty13 → St := fun (t0,t4,x3,x4) => { tmps := [(0,(.int .u8 t0)),(3,(.own 0 0 1)),(4,(.int .i64 t4))],heap := [(0,(.cells x4 (.rI .u8 x3) true))],next := 1,nt := 16,m := 0 }
def ef18j4 : (List Int) × Nat → St := fun (x1,x2) => { tmps := [(3,(.own 0 0 1))],heap := [(0,(.cells x2 (.rI .u8 x1) true))],next := 1,nt := 16,m := 0 }
def f18_1 (F : Nat) (kf18j1 : Int → Rz) : Int → Rz := fun a0 => (kf18j1 a0)
theorem f18_1_eq (F : Nat) (Rf18j1 : St → Rz) : ∀ v,aexec VG3518 (Af18 F) (bp Try.f18 2) (ef18_a v) (kSeq (kc VG3518 Rf18j1 [(0,.plain)]) (kFin VG3518 none (Try.f18).results.toList)) = f18_1 F (Rf18j1 ∘ ef18j1) v := by
  intro a0; kernel_rfl
def f18_2 (F : Nat) (kf18j2 : Int × (List Int) → Rz) : Int → Rz := fun t0 => (kf18j2 (t0,(List.replicate 64 0)))
theorem f18_2_eq (F : Nat) (Rf18j2 : St → Rz) : ∀ v,aexec VG3518 (Af18 F) (bp Try.f18 6) (ef18j1 v) (kSeq (kc VG3518 Rf18j2 [(0,.plain),(3,.plain)]) (kFin VG3518 none (Try.f18).results.toList)) = f18_2 F (Rf18j2 ∘ ef18j2) v := by
  intro t0; kernel_rfl
def f18_3 (F : Nat) (kf18j3 : Int × Int × (List Int) → Rz) (kf18j4 : (List Int) × Nat → Rz) : Int × (List Int) → Rz := fun (t0,x2) => (kf18j3 (t0,(0 : Int),x2))
theorem f18_3_eq (F : Nat) (Rf18j3 : St → Rz) (Rf18j4 : St → Rz) : ∀ v,aexec VG3518 (Af18 F) (bp Try.f18 28) (ef18j2 v) (kSeq (kc VG3518 Rf18j3 sp3) (kSeq (kc VG3518 Rf18j4 [(3,.plain)]) (kFin VG3518 none (Try.f18).results.toList))) = f18_3 F (Rf18j3 ∘ ef18j3) (Rf18j4 ∘ ef18j4) v := by
  rintro ⟨t0,x2⟩; kernel_rfl
def f18_4 (F : Nat) (kf18l1 : Ty13 → Rz) (kf18j4 : (List Int) × Nat → Rz) : Ty13 → Rz := fun (t0,t4,x3,x4) => (cond (decide (t4 < (64 : Int))) (cond ((decide (0 ≤ t4)) && (decide (t4 < (↑x3.length : Int)))) (kf18l1 (t0,(IntKind.i64.wrap (t4 + (1 : Int))),(x3.set (Int.toNat t4) t0),x4)) none) (kf18j4 (x3,x4)))
theorem f18_4_eq (F : Nat) (Rf18l1 : St → Rz) (Rf18j4 : St → Rz) : ∀ v,aexec VG3518 (Af18 F) (bp Try.f18 116) (ef18l1 v) (kSeq (kc VG3518 Rf18l1 sp3) (kBlock 0 (kSeq (kc VG3518 Rf18j4 [(3,.plain)]) (kFin VG3518 none (Try.f18).results.toList)))) = f18_4 F (Rf18l1 ∘ ef18l1) (Rf18j4 ∘ ef18j4) v := by
  rintro ⟨t0,t4,x3,x4⟩; kernel_rfl
def f18_5_i : Int × Int × (List Int) → Int × Int × (List Int) × Nat := fun (t0,t4,x3) => (t0,t4,x3,x3.length)
def f18_5 (F : Nat) (kf18j4 : (List Int) × Nat → Rz) : Int × Int × (List Int) → Rz := fun v => loopN (fun k => f18_4 F k kf18j4) F (f18_5_i v)
theorem f18_5_eq (F : Nat) (Rf18j4 : St → Rz) : ∀ v,aexec VG3518 (Af18 F) (bp Try.f18 58) (ef18j3 v) (kBlock 0 (kSeq (kc VG3518 Rf18j4 [(3,.plain)]) (kFin VG3518 none (Try.f18).results.toList))) = f18_5 F (Rf18j4 ∘ ef18j4) v :=
  loop_cut (by kernel_rfl) (by kernel_rfl) ef18j3 ef18l1 _ f18_5_i (fun k => f18_4 F k (Rf18j4 ∘ ef18j4))
    (by rintro ⟨t0,t4,x3⟩; kernel_rfl) (fun Rf18l1 => f18_4_eq F Rf18l1 Rf18j4)
def f18_6 (F : Nat) (kf18j4 : (List Int) × Nat → Rz) : Int × Int × (List Int) → Rz := f18_5 F kf18j4
theorem f18_6_eq (F : Nat) (Rf18j4 : St → Rz) : ∀ v,aexec VG3518 (Af18 F) (bp Try.f18 29) (ef18j3 v) (kSeq (kc VG3518 Rf18j4 [(3,.plain)]) (kFin VG3518 none (Try.f18).results.toList)) = f18_6 F (Rf18j4 ∘ ef18j4) v := fun v =>
  (block_in  (by kernel_rfl) _ _).trans (f18_5_eq F Rf18j4 v)
def f18_7 (F : Nat) (kf18j4 : (List Int) × Nat → Rz) : Int × (List Int) → Rz := fun v => f18_3 F (f18_6 F kf18j4) kf18j4 v
theorem f18_7_eq (F : Nat) (Rf18j4 : St → Rz) : ∀ v,aexec VG3518 (Af18 F) (bp Try.f18 14) (ef18j2 v) (kSeq (kc VG3518 Rf18j4 [(3,.plain)]) (kFin VG3518 none (Try.f18).results.toList)) = f18_7 F (Rf18j4 ∘ ef18j4) v :=
  seq_cut (by kernel_rfl) (by kernel_rfl) ef18j2 ef18j3 _ (fun k => f18_3 F k (Rf18j4 ∘ ef18j4)) (f18_6 F (Rf18j4 ∘ ef18j4))
    (fun Rf18j3 => f18_3_eq F Rf18j3 Rf18j4) (f18_6_eq F Rf18j4)
def f18_8 (F : Nat) : (List Int) × Nat → Rz := fun (x1,x2) => (some ((.str x1),[]))
theorem f18_8_eq (F : Nat) : ∀ v,aexec VG3518 (Af18 F) (bp Try.f18 15) (ef18j4 v) (kFin VG3518 none (Try.f18).results.toList) = f18_8 F v := by
  rintro ⟨x1,x2⟩; kernel_rfl
def f18_9 (F : Nat) : Int × (List Int) → Rz := fun v => f18_7 F (f18_8 F) v
theorem f18_9_eq (F : Nat) : ∀ v,aexec VG3518 (Af18 F) (bp Try.f18 7) (ef18j2 v) (kFin VG3518 none (Try.f18).results.toList) = f18_9 F v :=
  seq_cut (by kernel_rfl) (by kernel_rfl) ef18j2 ef18j4 _ (fun k => f18_7 F k) (f18_8 F)
    (fun Rf18j4 => f18_7_eq F Rf18j4) (f18_8_eq F)
def f18_10 (F : Nat) : Int → Rz := fun v => f18_2 F (f18_9 F) v
theorem f18_10_eq (F : Nat) : ∀ v,aexec VG3518 (Af18 F) (bp Try.f18 3) (ef18j1 v) (kFin VG3518 none (Try.f18).results.toList) = f18_10 F v :=
  seq_cut (by kernel_rfl) (by kernel_rfl) ef18j1 ef18j2 _ (fun k => f18_2 F k) (f18_9 F)
    (fun Rf18j2 => f18_2_eq F Rf18j2) (f18_9_eq F)
def f18_11 (F : Nat) : Int → Rz := fun v => f18_1 F (f18_10 F) v
theorem f18_11_eq (F : Nat) : ∀ v,aexec VG3518 (Af18 F) (sub (bodyOf Try.f18) []) (ef18_a v) (kFin VG3518 none (Try.f18).results.toList) = f18_11 F v :=
  seq_cut (by kernel_rfl) (by kernel_rfl) ef18_a ef18j1 _ (fun k => f18_1 F k) (f18_10 F)
    (fun Rf18j1 => f18_1_eq F Rf18j1) (f18_10_eq F)
def f18 (F : Nat) : Int → Rz := f18_11 F
theorem f18_body (F : Nat) (a0 : Int) : abody VG3518 (Af18 F) Try.f18 [(.int .u8 a0)] [] = f18 F a0 :=
  (abody_in (c := (sub (bodyOf Try.f18) [])) (by kernel_rfl) (s := ef18_a a0) (by kernel_rfl)).trans (f18_11_eq F a0)
def r18 : CRun := fun X H => match X,H with
  | [(.int .u8 a0)],[] => some (true,(.str (Dk.full a0)),[])
  | _,_ => none
theorem s18 (a0 : Int) (h0 : okV (.int .u8 a0)) : ∃ F,f18 F a0 = some ((.str (Dk.full a0)),[]) := by
  refine ⟨65,?_⟩
  simp only [f18,f18_11,f18_1,f18_10,f18_2,f18_9,f18_7,f18_8,f18_3,f18_6,f18_5,f18_5_i]
  refine loopN_from (fun k => (a0,(k : Int),(List.range k).map (fun _ => a0) ++ List.replicate (64 - k) 0,64)) 64 (by simp) (fun k hk K => ?_) (fun K => ?_) 65 (by omega)
  · have e2 : (decide (0 ≤ (k : Int)) && decide ((k : Int) < ((((List.range k).map (fun _ => a0) ++ List.replicate (64 - k) 0).length : Nat) : Int))) = true := by
      rw [dec_and,decide_eq_true_iff]; simp; omega
    simp only [f18_4,e2,cond_true,i64w (show -9223372036854775808 ≤ (k : Int) + 1 by omega) (by omega),Int.toNat_natCast]
    rw [cond_pos (show (k : Int) < 64 by omega),fill_set (fun _ => a0) 0 64 k hk rfl]
    rfl
  · simp only [f18_4]
    rw [cond_neg (by omega)]
    simp only [Nat.sub_self,List.replicate_zero,List.append_nil,List.map_const',List.length_range]
    rfl

theorem c18 : CallOk Try.prog G35 18 r18 := callOk_of (V := VG3518) mixed tys eVG3518 (f := 18) (fn := Try.f18) Try.func18 (by kernel_rfl) (c := sub (bodyOf Try.f18) []) (by kernel_rfl) (by
  intro X H r H' h hX hH
  unfold r18 at h; split at h <;> try contradiction
  · simp only [Option.some.injEq,Prod.mk.injEq] at h
    obtain ⟨hp,rfl,rfl⟩ := h
    obtain ⟨F,hF⟩ := s18 _ (hX _ (.head _))
    exact ⟨Af18 F,(f18_body F _).trans hF⟩)
def lVG3544 : List CEnt := []
def VG3544 : Env := mkEnv T35 G35 lVG3544
theorem eVG3544 : EOk Try.prog VG3544 := eok_mk (by exact trivial)
def Af44 (F : Nat) : Cuts := { F := F,at_ := fun _ => none,join := fun _ => none }
def ef44_a : Ty14 → St := fun (a0n,a0s,a0o,a0l) => { tmps := [(0,(.ptr 0 0 3 0 0 0 3))],heap := [(0,(.cells 3 (.segs (.cons 1 (.one (.own 1 a0n 4)) (.cons 1 (.one (.bool a0o)) (.cons 1 (.one (.int .i64 a0l)) .nil)))) true)),(1,(.cells (a0n * 4) (.rT [.str,.str,.bool,.bool] a0s) true))],next := 2,nt := 8,m := 2 }
def f44_1 (F : Nat) : Ty14 → Rz := fun (a0n,a0s,a0o,a0l) => (some ((.int .i64 (↑a0n : Int)),[(.cells 3 (.segs (.cons 1 (.one (.own 1 a0n 4)) (.cons 1 (.one (.bool a0o)) (.cons 1 (.one (.int .i64 a0l)) .nil)))) true),(.cells (a0n * 4) (.rT [.str,.str,.bool,.bool] a0s) true)]))
theorem f44_1_eq (F : Nat) : ∀ v,aexec VG3544 (Af44 F) (sub (bodyOf Try.f44) []) (ef44_a v) (kFin VG3544 none (Try.f44).results.toList) = f44_1 F v := by
  rintro ⟨a0n,a0s,a0o,a0l⟩; kernel_rfl
def f44 (F : Nat) : Ty14 → Rz := f44_1 F
theorem f44_body (F : Nat) (a0n : Nat) (a0s : List (List (List Int))) (a0o : Bool) (a0l : Int) : abody VG3544 (Af44 F) Try.f44 [(.ptr 0 0 3 0 0 0 3)] [(.cells 3 (.segs (.cons 1 (.one (.own 1 a0n 4)) (.cons 1 (.one (.bool a0o)) (.cons 1 (.one (.int .i64 a0l)) .nil)))) true),(.cells (a0n * 4) (.rT [.str,.str,.bool,.bool] a0s) true)] = f44 F (a0n,a0s,a0o,a0l) :=
  (abody_in (c := (sub (bodyOf Try.f44) [])) (by kernel_rfl) (s := ef44_a (a0n,a0s,a0o,a0l)) (by kernel_rfl)).trans (f44_1_eq F (a0n,a0s,a0o,a0l))
def r44 : CRun := fun X H => match X,H with
  | [(.ptr 0 0 3 0 0 0 3)],[(.cells 3 (.segs (.cons 1 (.one (.own 1 a0n 4)) (.cons 1 (.one (.bool a0o)) (.cons 1 (.one (.int .i64 a0l)) .nil)))) true),(.cells z1 (.rT [.str,.str,.bool,.bool] a0s) true)] => some ((decide (a0n = a0s.length ∧ a0n < 8000)),(.int .i64 ((Dk.R.mk a0s a0o a0l).s.length : Int)),[(.cells 3 (.segs (.cons 1 (.one (.own 1 (Dk.R.mk a0s a0o a0l).s.length 4)) (.cons 1 (.one (.bool (Dk.R.mk a0s a0o a0l).off)) (.cons 1 (.one (.int .i64 (Dk.R.mk a0s a0o a0l).left)) .nil)))) true),(.cells ((Dk.R.mk a0s a0o a0l).s.length * 4) (.rT [.str,.str,.bool,.bool] (Dk.R.mk a0s a0o a0l).s) true)])
  | _,_ => none
theorem s44 (a0n : Nat) (a0s : List (List (List Int))) (a0o : Bool) (a0l : Int) (hp : ((decide (a0n = a0s.length ∧ a0n < 8000))) = true) (k0 : okB (.cells 3 (.segs (.cons 1 (.one (.own 1 a0n 4)) (.cons 1 (.one (.bool a0o)) (.cons 1 (.one (.int .i64 a0l)) .nil)))) true)) (k1 : okB (.cells (a0n * 4) (.rT [.str,.str,.bool,.bool] a0s) true)) : ∃ F,f44 F (a0n,a0s,a0o,a0l) = some ((.int .i64 ((Dk.R.mk a0s a0o a0l).s.length : Int)),[(.cells 3 (.segs (.cons 1 (.one (.own 1 (Dk.R.mk a0s a0o a0l).s.length 4)) (.cons 1 (.one (.bool (Dk.R.mk a0s a0o a0l).off)) (.cons 1 (.one (.int .i64 (Dk.R.mk a0s a0o a0l).left)) .nil)))) true),(.cells ((Dk.R.mk a0s a0o a0l).s.length * 4) (.rT [.str,.str,.bool,.bool] (Dk.R.mk a0s a0o a0l).s) true)]) := by
  rw [decide_eq_true_iff] at hp
  exact ⟨0,by simp only [f44,f44_1]; rw [hp.1]⟩

theorem c44 : CallOk Try.prog G35 44 r44 := callOk_of (V := VG3544) mixed tys eVG3544 (f := 44) (fn := Try.f44) Try.func44 (by kernel_rfl) (c := sub (bodyOf Try.f44) []) (by kernel_rfl) (by
  intro X H r H' h hX hH
  unfold r44 at h; split at h <;> try contradiction
  · simp only [Option.some.injEq,Prod.mk.injEq] at h
    obtain ⟨hp,rfl,rfl⟩ := h
    obtain rfl := okB_size (hH _ (.tail _ (.head _))) rfl
    obtain rfl := (of_decide_eq_true hp).1
    obtain ⟨F,hF⟩ := s44 _ _ _ _ hp (hH _ (.head _)) (hH _ (.tail _ (.head _)))
    exact ⟨Af44 F,(f44_body F _ _ _ _).trans hF⟩)
def lVG3545 : List CEnt := []
def VG3545 : Env := mkEnv T35 G35 lVG3545
theorem eVG3545 : EOk Try.prog VG3545 := eok_mk (by exact trivial)
def Af45 (F : Nat) : Cuts := { F := F,at_ := fun _ => none,join := fun _ => none }
def ef45_a : Ty14 → St := fun (a0n,a0s,a0o,a0l) => { tmps := [(0,(.ptr 0 0 3 0 0 0 3))],heap := [(0,(.cells 3 (.segs (.cons 1 (.one (.own 1 a0n 4)) (.cons 1 (.one (.bool a0o)) (.cons 1 (.one (.int .i64 a0l)) .nil)))) true)),(1,(.cells (a0n * 4) (.rT [.str,.str,.bool,.bool] a0s) true))],next := 2,nt := 8,m := 2 }
def f45_1 (F : Nat) : Ty14 → Rz := fun (a0n,a0s,a0o,a0l) => (some ((.bool (!a0o)),[(.cells 3 (.segs (.cons 1 (.one (.own 1 a0n 4)) (.cons 1 (.one (.bool a0o)) (.cons 1 (.one (.int .i64 a0l)) .nil)))) true),(.cells (a0n * 4) (.rT [.str,.str,.bool,.bool] a0s) true)]))
theorem f45_1_eq (F : Nat) : ∀ v,aexec VG3545 (Af45 F) (sub (bodyOf Try.f45) []) (ef45_a v) (kFin VG3545 none (Try.f45).results.toList) = f45_1 F v := by
  rintro ⟨a0n,a0s,a0o,a0l⟩; kernel_rfl
def f45 (F : Nat) : Ty14 → Rz := f45_1 F
theorem f45_body (F : Nat) (a0n : Nat) (a0s : List (List (List Int))) (a0o : Bool) (a0l : Int) : abody VG3545 (Af45 F) Try.f45 [(.ptr 0 0 3 0 0 0 3)] [(.cells 3 (.segs (.cons 1 (.one (.own 1 a0n 4)) (.cons 1 (.one (.bool a0o)) (.cons 1 (.one (.int .i64 a0l)) .nil)))) true),(.cells (a0n * 4) (.rT [.str,.str,.bool,.bool] a0s) true)] = f45 F (a0n,a0s,a0o,a0l) :=
  (abody_in (c := (sub (bodyOf Try.f45) [])) (by kernel_rfl) (s := ef45_a (a0n,a0s,a0o,a0l)) (by kernel_rfl)).trans (f45_1_eq F (a0n,a0s,a0o,a0l))
def r45 : CRun := fun X H => match X,H with
  | [(.ptr 0 0 3 0 0 0 3)],[(.cells 3 (.segs (.cons 1 (.one (.own 1 a0n 4)) (.cons 1 (.one (.bool a0o)) (.cons 1 (.one (.int .i64 a0l)) .nil)))) true),(.cells z1 (.rT [.str,.str,.bool,.bool] a0s) true)] => some ((decide (a0n = a0s.length ∧ a0n < 8000)),(.bool (!(Dk.R.mk a0s a0o a0l).off)),[(.cells 3 (.segs (.cons 1 (.one (.own 1 (Dk.R.mk a0s a0o a0l).s.length 4)) (.cons 1 (.one (.bool (Dk.R.mk a0s a0o a0l).off)) (.cons 1 (.one (.int .i64 (Dk.R.mk a0s a0o a0l).left)) .nil)))) true),(.cells ((Dk.R.mk a0s a0o a0l).s.length * 4) (.rT [.str,.str,.bool,.bool] (Dk.R.mk a0s a0o a0l).s) true)])
  | _,_ => none
theorem s45 (a0n : Nat) (a0s : List (List (List Int))) (a0o : Bool) (a0l : Int) (hp : ((decide (a0n = a0s.length ∧ a0n < 8000))) = true) (k0 : okB (.cells 3 (.segs (.cons 1 (.one (.own 1 a0n 4)) (.cons 1 (.one (.bool a0o)) (.cons 1 (.one (.int .i64 a0l)) .nil)))) true)) (k1 : okB (.cells (a0n * 4) (.rT [.str,.str,.bool,.bool] a0s) true)) : ∃ F,f45 F (a0n,a0s,a0o,a0l) = some ((.bool (!(Dk.R.mk a0s a0o a0l).off)),[(.cells 3 (.segs (.cons 1 (.one (.own 1 (Dk.R.mk a0s a0o a0l).s.length 4)) (.cons 1 (.one (.bool (Dk.R.mk a0s a0o a0l).off)) (.cons 1 (.one (.int .i64 (Dk.R.mk a0s a0o a0l).left)) .nil)))) true),(.cells ((Dk.R.mk a0s a0o a0l).s.length * 4) (.rT [.str,.str,.bool,.bool] (Dk.R.mk a0s a0o a0l).s) true)]) := by
  rw [decide_eq_true_iff] at hp
  exact ⟨0,by simp only [f45,f45_1]; rw [hp.1]⟩

theorem c45 : CallOk Try.prog G35 45 r45 := callOk_of (V := VG3545) mixed tys eVG3545 (f := 45) (fn := Try.f45) Try.func45 (by kernel_rfl) (c := sub (bodyOf Try.f45) []) (by kernel_rfl) (by
  intro X H r H' h hX hH
  unfold r45 at h; split at h <;> try contradiction
  · simp only [Option.some.injEq,Prod.mk.injEq] at h
    obtain ⟨hp,rfl,rfl⟩ := h
    obtain rfl := okB_size (hH _ (.tail _ (.head _))) rfl
    obtain rfl := (of_decide_eq_true hp).1
    obtain ⟨F,hF⟩ := s45 _ _ _ _ hp (hH _ (.head _)) (hH _ (.tail _ (.head _)))
    exact ⟨Af45 F,(f45_body F _ _ _ _).trans hF⟩)
def lVG3555 : List CEnt := []
def VG3555 : Env := mkEnv T35 G35 lVG3555
theorem eVG3555 : EOk Try.prog VG3555 := eok_mk (by exact trivial)
def Af55 (F : Nat) : Cuts := { F := F,at_ := fun _ => none,join := fun _ => none }
def ef55_a : Ty15 → St := fun (a0n,a0s,a0o,a0l,a1) => { tmps := [(0,(.ptr 0 0 3 0 0 0 3)),(1,(.int .i64 a1))],heap := [(0,(.cells 3 (.segs (.cons 1 (.one (.own 1 a0n 4)) (.cons 1 (.one (.bool a0o)) (.cons 1 (.one (.int .i64 a0l)) .nil)))) true)),(1,(.cells (a0n * 4) (.rT [.str,.str,.bool,.bool] a0s) true))],next := 2,nt := 16,m := 2 }
def f55_1 (F : Nat) : Ty15 → Rz := fun (a0n,a0s,a0o,a0l,a1) => (cond (decide (a1 ≥ (0 : Int))) (some ((.bool (decide (a1 < (↑a0n : Int)))),[(.cells 3 (.segs (.cons 1 (.one (.own 1 a0n 4)) (.cons 1 (.one (.bool a0o)) (.cons 1 (.one (.int .i64 a0l)) .nil)))) true),(.cells (a0n * 4) (.rT [.str,.str,.bool,.bool] a0s) true)])) (some ((.bool false),[(.cells 3 (.segs (.cons 1 (.one (.own 1 a0n 4)) (.cons 1 (.one (.bool a0o)) (.cons 1 (.one (.int .i64 a0l)) .nil)))) true),(.cells (a0n * 4) (.rT [.str,.str,.bool,.bool] a0s) true)])))
theorem f55_1_eq (F : Nat) : ∀ v,aexec VG3555 (Af55 F) (sub (bodyOf Try.f55) []) (ef55_a v) (kFin VG3555 none (Try.f55).results.toList) = f55_1 F v := by
  rintro ⟨a0n,a0s,a0o,a0l,a1⟩; kernel_rfl
def f55 (F : Nat) : Ty15 → Rz := f55_1 F
theorem f55_body (F : Nat) (a0n : Nat) (a0s : List (List (List Int))) (a0o : Bool) (a0l : Int) (a1 : Int) : abody VG3555 (Af55 F) Try.f55 [(.ptr 0 0 3 0 0 0 3),(.int .i64 a1)] [(.cells 3 (.segs (.cons 1 (.one (.own 1 a0n 4)) (.cons 1 (.one (.bool a0o)) (.cons 1 (.one (.int .i64 a0l)) .nil)))) true),(.cells (a0n * 4) (.rT [.str,.str,.bool,.bool] a0s) true)] = f55 F (a0n,a0s,a0o,a0l,a1) :=
  (abody_in (c := (sub (bodyOf Try.f55) [])) (by kernel_rfl) (s := ef55_a (a0n,a0s,a0o,a0l,a1)) (by kernel_rfl)).trans (f55_1_eq F (a0n,a0s,a0o,a0l,a1))
def r55 : CRun := fun X H => match X,H with
  | [(.ptr 0 0 3 0 0 0 3),(.int .i64 a1)],[(.cells 3 (.segs (.cons 1 (.one (.own 1 a0n 4)) (.cons 1 (.one (.bool a0o)) (.cons 1 (.one (.int .i64 a0l)) .nil)))) true),(.cells z1 (.rT [.str,.str,.bool,.bool] a0s) true)] => some ((decide (a0n = a0s.length ∧ a0n < 8000)),(.bool (Dk.ris (Dk.R.mk a0s a0o a0l) a1)),[(.cells 3 (.segs (.cons 1 (.one (.own 1 (Dk.R.mk a0s a0o a0l).s.length 4)) (.cons 1 (.one (.bool (Dk.R.mk a0s a0o a0l).off)) (.cons 1 (.one (.int .i64 (Dk.R.mk a0s a0o a0l).left)) .nil)))) true),(.cells ((Dk.R.mk a0s a0o a0l).s.length * 4) (.rT [.str,.str,.bool,.bool] (Dk.R.mk a0s a0o a0l).s) true)])
  | _,_ => none
theorem s55 (a0n : Nat) (a0s : List (List (List Int))) (a0o : Bool) (a0l : Int) (a1 : Int) (hp : ((decide (a0n = a0s.length ∧ a0n < 8000))) = true) (h1 : okV (.int .i64 a1)) (k0 : okB (.cells 3 (.segs (.cons 1 (.one (.own 1 a0n 4)) (.cons 1 (.one (.bool a0o)) (.cons 1 (.one (.int .i64 a0l)) .nil)))) true)) (k1 : okB (.cells (a0n * 4) (.rT [.str,.str,.bool,.bool] a0s) true)) : ∃ F,f55 F (a0n,a0s,a0o,a0l,a1) = some ((.bool (Dk.ris (Dk.R.mk a0s a0o a0l) a1)),[(.cells 3 (.segs (.cons 1 (.one (.own 1 (Dk.R.mk a0s a0o a0l).s.length 4)) (.cons 1 (.one (.bool (Dk.R.mk a0s a0o a0l).off)) (.cons 1 (.one (.int .i64 (Dk.R.mk a0s a0o a0l).left)) .nil)))) true),(.cells ((Dk.R.mk a0s a0o a0l).s.length * 4) (.rT [.str,.str,.bool,.bool] (Dk.R.mk a0s a0o a0l).s) true)]) := by
  rw [decide_eq_true_iff] at hp
  refine ⟨0,?_⟩
  simp only [f55,f55_1,Dk.ris]
  rw [hp.1]
  cases decide (a1 ≥ 0) <;> rfl

theorem c55 : CallOk Try.prog G35 55 r55 := callOk_of (V := VG3555) mixed tys eVG3555 (f := 55) (fn := Try.f55) Try.func55 (by kernel_rfl) (c := sub (bodyOf Try.f55) []) (by kernel_rfl) (by
  intro X H r H' h hX hH
  unfold r55 at h; split at h <;> try contradiction
  · simp only [Option.some.injEq,Prod.mk.injEq] at h
    obtain ⟨hp,rfl,rfl⟩ := h
    obtain rfl := okB_size (hH _ (.tail _ (.head _))) rfl
    obtain rfl := (of_decide_eq_true hp).1
    obtain ⟨F,hF⟩ := s55 _ _ _ _ _ hp (hX _ (.tail _ (.head _))) (hH _ (.head _)) (hH _ (.tail _ (.head _)))
    exact ⟨Af55 F,(f55_body F _ _ _ _ _).trans hF⟩)
def lVG3556 : List CEnt := []
def VG3556 : Env := mkEnv T35 G35 lVG3556
theorem eVG3556 : EOk Try.prog VG3556 := eok_mk (by exact trivial)
def Af56 (F : Nat) : Cuts := { F := F,at_ := fun _ => none,join := fun _ => none }
def ef56_a : Ty14 → St := fun (a0n,a0s,a0o,a0l) => { tmps := [(0,(.ptr 0 0 3 0 0 0 3))],heap := [(0,(.cells 3 (.segs (.cons 1 (.one (.own 1 a0n 4)) (.cons 1 (.one (.bool a0o)) (.cons 1 (.one (.int .i64 a0l)) .nil)))) true)),(1,(.cells (a0n * 4) (.rT [.str,.str,.bool,.bool] a0s) true))],next := 2,nt := 23,m := 2 }
def f56_1 (F : Nat) : Ty14 → Rz := fun (a0n,a0s,a0o,a0l) => (cond (a0l == (0 : Int)) (some ((.int .i64 (22 : Int)),[(.cells 3 (.segs (.cons 1 (.one (.own 1 a0n 4)) (.cons 1 (.one (.bool true)) (.cons 1 (.one (.int .i64 a0l)) .nil)))) true),(.cells (a0n * 4) (.rT [.str,.str,.bool,.bool] a0s) true)])) (cond (decide (a0l > (0 : Int))) (some ((.int .i64 (0 : Int)),[(.cells 3 (.segs (.cons 1 (.one (.own 1 a0n 4)) (.cons 1 (.one (.bool a0o)) (.cons 1 (.one (.int .i64 (IntKind.i64.wrap (a0l - (1 : Int))))) .nil)))) true),(.cells (a0n * 4) (.rT [.str,.str,.bool,.bool] a0s) true)])) (some ((.int .i64 (0 : Int)),[(.cells 3 (.segs (.cons 1 (.one (.own 1 a0n 4)) (.cons 1 (.one (.bool a0o)) (.cons 1 (.one (.int .i64 a0l)) .nil)))) true),(.cells (a0n * 4) (.rT [.str,.str,.bool,.bool] a0s) true)]))))
theorem f56_1_eq (F : Nat) : ∀ v,aexec VG3556 (Af56 F) (sub (bodyOf Try.f56) []) (ef56_a v) (kFin VG3556 none (Try.f56).results.toList) = f56_1 F v := by
  rintro ⟨a0n,a0s,a0o,a0l⟩; kernel_rfl
def f56 (F : Nat) : Ty14 → Rz := f56_1 F
theorem f56_body (F : Nat) (a0n : Nat) (a0s : List (List (List Int))) (a0o : Bool) (a0l : Int) : abody VG3556 (Af56 F) Try.f56 [(.ptr 0 0 3 0 0 0 3)] [(.cells 3 (.segs (.cons 1 (.one (.own 1 a0n 4)) (.cons 1 (.one (.bool a0o)) (.cons 1 (.one (.int .i64 a0l)) .nil)))) true),(.cells (a0n * 4) (.rT [.str,.str,.bool,.bool] a0s) true)] = f56 F (a0n,a0s,a0o,a0l) :=
  (abody_in (c := (sub (bodyOf Try.f56) [])) (by kernel_rfl) (s := ef56_a (a0n,a0s,a0o,a0l)) (by kernel_rfl)).trans (f56_1_eq F (a0n,a0s,a0o,a0l))
def r56 : CRun := fun X H => match X,H with
  | [(.ptr 0 0 3 0 0 0 3)],[(.cells 3 (.segs (.cons 1 (.one (.own 1 a0n 4)) (.cons 1 (.one (.bool a0o)) (.cons 1 (.one (.int .i64 a0l)) .nil)))) true),(.cells z1 (.rT [.str,.str,.bool,.bool] a0s) true)] => some ((decide (a0n = a0s.length ∧ a0n < 8000)),(.int .i64 (Dk.rstep (Dk.R.mk a0s a0o a0l)).2),[(.cells 3 (.segs (.cons 1 (.one (.own 1 (Dk.rstep (Dk.R.mk a0s a0o a0l)).1.s.length 4)) (.cons 1 (.one (.bool (Dk.rstep (Dk.R.mk a0s a0o a0l)).1.off)) (.cons 1 (.one (.int .i64 (Dk.rstep (Dk.R.mk a0s a0o a0l)).1.left)) .nil)))) true),(.cells ((Dk.rstep (Dk.R.mk a0s a0o a0l)).1.s.length * 4) (.rT [.str,.str,.bool,.bool] (Dk.rstep (Dk.R.mk a0s a0o a0l)).1.s) true)])
  | _,_ => none
theorem s56 (a0n : Nat) (a0s : List (List (List Int))) (a0o : Bool) (a0l : Int) (hp : ((decide (a0n = a0s.length ∧ a0n < 8000))) = true) (k0 : okB (.cells 3 (.segs (.cons 1 (.one (.own 1 a0n 4)) (.cons 1 (.one (.bool a0o)) (.cons 1 (.one (.int .i64 a0l)) .nil)))) true)) (k1 : okB (.cells (a0n * 4) (.rT [.str,.str,.bool,.bool] a0s) true)) : ∃ F,f56 F (a0n,a0s,a0o,a0l) = some ((.int .i64 (Dk.rstep (Dk.R.mk a0s a0o a0l)).2),[(.cells 3 (.segs (.cons 1 (.one (.own 1 (Dk.rstep (Dk.R.mk a0s a0o a0l)).1.s.length 4)) (.cons 1 (.one (.bool (Dk.rstep (Dk.R.mk a0s a0o a0l)).1.off)) (.cons 1 (.one (.int .i64 (Dk.rstep (Dk.R.mk a0s a0o a0l)).1.left)) .nil)))) true),(.cells ((Dk.rstep (Dk.R.mk a0s a0o a0l)).1.s.length * 4) (.rT [.str,.str,.bool,.bool] (Dk.rstep (Dk.R.mk a0s a0o a0l)).1.s) true)]) := by
  rw [decide_eq_true_iff] at hp
  refine ⟨0,?_⟩
  simp only [f56,f56_1,Dk.rstep]
  rw [hp.1]
  cases (a0l == 0)
  · cases (decide (a0l > 0)) <;> rfl
  · rfl

theorem c56 : CallOk Try.prog G35 56 r56 := callOk_of (V := VG3556) mixed tys eVG3556 (f := 56) (fn := Try.f56) Try.func56 (by kernel_rfl) (c := sub (bodyOf Try.f56) []) (by kernel_rfl) (by
  intro X H r H' h hX hH
  unfold r56 at h; split at h <;> try contradiction
  · simp only [Option.some.injEq,Prod.mk.injEq] at h
    obtain ⟨hp,rfl,rfl⟩ := h
    obtain rfl := okB_size (hH _ (.tail _ (.head _))) rfl
    obtain rfl := (of_decide_eq_true hp).1
    obtain ⟨F,hF⟩ := s56 _ _ _ _ hp (hH _ (.head _)) (hH _ (.tail _ (.head _)))
    exact ⟨Af56 F,(f56_body F _ _ _ _).trans hF⟩)
def lVG3534 : List CEnt := [(55,[none,none],r55)]
def VG3534 : Env := mkEnv T35 G35 lVG3534
theorem eVG3534 : EOk Try.prog VG3534 := eok_mk (by exact ⟨c55,trivial⟩)
def Af34 (F : Nat) : Cuts := { F := F,at_ := fun _ => none,join := fun _ => none }
def ef34_a : Ty15 → St := fun (a0n,a0s,a0o,a0l,a1) => { tmps := [(0,(.ptr 0 0 3 0 0 0 3)),(1,(.int .i64 a1))],heap := [(0,(.cells 3 (.segs (.cons 1 (.one (.own 1 a0n 4)) (.cons 1 (.one (.bool a0o)) (.cons 1 (.one (.int .i64 a0l)) .nil)))) true)),(1,(.cells (a0n * 4) (.rT [.str,.str,.bool,.bool] a0s) true))],next := 2,nt := 38,m := 2 }
def f34_1 (F : Nat) : Ty15 → Rz := fun (a0n,a0s,a0o,a0l,a1) => (cond a0o (some ((.tup (.cons 0 (.str []) (.cons 0 (.int .i64 (22 : Int)) .nil))),[(.cells 3 (.segs (.cons 1 (.one (.own 1 a0n 4)) (.cons 1 (.one (.bool a0o)) (.cons 1 (.one (.int .i64 a0l)) .nil)))) true),(.cells (a0n * 4) (.rT [.str,.str,.bool,.bool] a0s) true)])) (cond (decide (a0n = a0s.length ∧ a0n < 8000)) (cond (!(Dk.ris (Dk.R.mk a0s a0o a0l) a1)) (some ((.tup (.cons 0 (.str []) (.cons 0 (.int .i64 (1 : Int)) .nil))),[(.cells 3 (.segs (.cons 1 (.one (.own 1 (Dk.R.mk a0s a0o a0l).s.length 4)) (.cons 1 (.one (.bool (Dk.R.mk a0s a0o a0l).off)) (.cons 1 (.one (.int .i64 (Dk.R.mk a0s a0o a0l).left)) .nil)))) true),(.cells ((Dk.R.mk a0s a0o a0l).s.length * 4) (.rT [.str,.str,.bool,.bool] (Dk.R.mk a0s a0o a0l).s) true)])) (cond ((decide (0 ≤ a1)) && (decide (a1 < (↑(Dk.R.mk a0s a0o a0l).s.length : Int)))) (cond (((((Dk.R.mk a0s a0o a0l).s.getD (Int.toNat a1) []).getD 2 []).getD 0 0) == 1) (cond ((decide (0 ≤ a1)) && (decide (a1 < (↑(Dk.R.mk a0s a0o a0l).s.length : Int)))) (some ((.tup (.cons 0 (.str (((Dk.R.mk a0s a0o a0l).s.getD (Int.toNat a1) []).getD 1 [])) (.cons 0 (.int .i64 (0 : Int)) .nil))),[(.cells 3 (.segs (.cons 1 (.one (.own 1 (Dk.R.mk a0s a0o a0l).s.length 4)) (.cons 1 (.one (.bool (Dk.R.mk a0s a0o a0l).off)) (.cons 1 (.one (.int .i64 (Dk.R.mk a0s a0o a0l).left)) .nil)))) true),(.cells ((Dk.R.mk a0s a0o a0l).s.length * 4) (.rT [.str,.str,.bool,.bool] (Dk.R.mk a0s a0o a0l).s) true)])) none) (cond ((decide (0 ≤ a1)) && (decide (a1 < (↑(Dk.R.mk a0s a0o a0l).s.length : Int)))) (some ((.tup (.cons 0 (.str (((Dk.R.mk a0s a0o a0l).s.getD (Int.toNat a1) []).getD 0 [])) (.cons 0 (.int .i64 (0 : Int)) .nil))),[(.cells 3 (.segs (.cons 1 (.one (.own 1 (Dk.R.mk a0s a0o a0l).s.length 4)) (.cons 1 (.one (.bool (Dk.R.mk a0s a0o a0l).off)) (.cons 1 (.one (.int .i64 (Dk.R.mk a0s a0o a0l).left)) .nil)))) true),(.cells ((Dk.R.mk a0s a0o a0l).s.length * 4) (.rT [.str,.str,.bool,.bool] (Dk.R.mk a0s a0o a0l).s) true)])) none)) none)) none))
theorem f34_1_eq (F : Nat) : ∀ v,aexec VG3534 (Af34 F) (sub (bodyOf Try.f34) []) (ef34_a v) (kFin VG3534 none (Try.f34).results.toList) = f34_1 F v := by
  rintro ⟨a0n,a0s,a0o,a0l,a1⟩; kernel_rfl
def f34 (F : Nat) : Ty15 → Rz := f34_1 F
theorem f34_body (F : Nat) (a0n : Nat) (a0s : List (List (List Int))) (a0o : Bool) (a0l : Int) (a1 : Int) : abody VG3534 (Af34 F) Try.f34 [(.ptr 0 0 3 0 0 0 3),(.int .i64 a1)] [(.cells 3 (.segs (.cons 1 (.one (.own 1 a0n 4)) (.cons 1 (.one (.bool a0o)) (.cons 1 (.one (.int .i64 a0l)) .nil)))) true),(.cells (a0n * 4) (.rT [.str,.str,.bool,.bool] a0s) true)] = f34 F (a0n,a0s,a0o,a0l,a1) :=
  (abody_in (c := (sub (bodyOf Try.f34) [])) (by kernel_rfl) (s := ef34_a (a0n,a0s,a0o,a0l,a1)) (by kernel_rfl)).trans (f34_1_eq F (a0n,a0s,a0o,a0l,a1))
def r34 : CRun := fun X H => match X,H with
  | [(.ptr 0 0 3 0 0 0 3),(.int .i64 a1)],[(.cells 3 (.segs (.cons 1 (.one (.own 1 a0n 4)) (.cons 1 (.one (.bool a0o)) (.cons 1 (.one (.int .i64 a0l)) .nil)))) true),(.cells z1 (.rT [.str,.str,.bool,.bool] a0s) true)] => some ((decide (a0n = a0s.length ∧ a0n < 8000)),(.tup (.cons 0 (.str (Dk.rread (Dk.R.mk a0s a0o a0l) a1).1) (.cons 0 (.int .i64 (Dk.rread (Dk.R.mk a0s a0o a0l) a1).2) .nil))),[(.cells 3 (.segs (.cons 1 (.one (.own 1 (Dk.R.mk a0s a0o a0l).s.length 4)) (.cons 1 (.one (.bool (Dk.R.mk a0s a0o a0l).off)) (.cons 1 (.one (.int .i64 (Dk.R.mk a0s a0o a0l).left)) .nil)))) true),(.cells ((Dk.R.mk a0s a0o a0l).s.length * 4) (.rT [.str,.str,.bool,.bool] (Dk.R.mk a0s a0o a0l).s) true)])
  | _,_ => none
theorem s34 (a0n : Nat) (a0s : List (List (List Int))) (a0o : Bool) (a0l : Int) (a1 : Int) (hp : ((decide (a0n = a0s.length ∧ a0n < 8000))) = true) (h1 : okV (.int .i64 a1)) (k0 : okB (.cells 3 (.segs (.cons 1 (.one (.own 1 a0n 4)) (.cons 1 (.one (.bool a0o)) (.cons 1 (.one (.int .i64 a0l)) .nil)))) true)) (k1 : okB (.cells (a0n * 4) (.rT [.str,.str,.bool,.bool] a0s) true)) : ∃ F,f34 F (a0n,a0s,a0o,a0l,a1) = some ((.tup (.cons 0 (.str (Dk.rread (Dk.R.mk a0s a0o a0l) a1).1) (.cons 0 (.int .i64 (Dk.rread (Dk.R.mk a0s a0o a0l) a1).2) .nil))),[(.cells 3 (.segs (.cons 1 (.one (.own 1 (Dk.R.mk a0s a0o a0l).s.length 4)) (.cons 1 (.one (.bool (Dk.R.mk a0s a0o a0l).off)) (.cons 1 (.one (.int .i64 (Dk.R.mk a0s a0o a0l).left)) .nil)))) true),(.cells ((Dk.R.mk a0s a0o a0l).s.length * 4) (.rT [.str,.str,.bool,.bool] (Dk.R.mk a0s a0o a0l).s) true)]) := by
  refine ⟨0,?_⟩
  simp only [f34,f34_1,Dk.rread,hp,cond_true]
  rw [decide_eq_true_iff] at hp
  cases a0o
  · cases h : Dk.ris (Dk.R.mk a0s false a0l) a1
    · rfl
    · have e : (decide (0 ≤ a1) && decide (a1 < (a0s.length : Int))) = true := by rw [dec_and,decide_eq_true_iff]; exact Dk.ris_iff.1 h
      simp only [e,cond_true,cond_false,Bool.not_true]
      cases hd : (((a0s.getD (Int.toNat a1) []).getD 2 []).getD 0 0 == 1) <;> simp only [Dk.fD,Dk.fN,Dk.fT,Dk.R.at,hd,cond_true,cond_false]
  · rw [hp.1]; rfl

theorem c34 : CallOk Try.prog G35 34 r34 := callOk_of (V := VG3534) mixed tys eVG3534 (f := 34) (fn := Try.f34) Try.func34 (by kernel_rfl) (c := sub (bodyOf Try.f34) []) (by kernel_rfl) (by
  intro X H r H' h hX hH
  unfold r34 at h; split at h <;> try contradiction
  · simp only [Option.some.injEq,Prod.mk.injEq] at h
    obtain ⟨hp,rfl,rfl⟩ := h
    obtain rfl := okB_size (hH _ (.tail _ (.head _))) rfl
    obtain rfl := (of_decide_eq_true hp).1
    obtain ⟨F,hF⟩ := s34 _ _ _ _ _ hp (hX _ (.tail _ (.head _))) (hH _ (.head _)) (hH _ (.tail _ (.head _)))
    exact ⟨Af34 F,(f34_body F _ _ _ _ _).trans hF⟩)
def lVG3533 : List CEnt := [(55,[none,none],r55),(56,[none],r56)]
def VG3533 : Env := mkEnv T35 G35 lVG3533
theorem eVG3533 : EOk Try.prog VG3533 := eok_mk (by exact ⟨c55,c56,trivial⟩)
def Af33 (F : Nat) : Cuts := { F := F,at_ := fun _ => none,join := fun _ => none }
def ef33_a : Ty16 → St := fun (a0n,a0s,a0o,a0l,a1,a2) => { tmps := [(0,(.ptr 0 0 3 0 0 0 3)),(1,(.int .i64 a1)),(2,(.str a2))],heap := [(0,(.cells 3 (.segs (.cons 1 (.one (.own 1 a0n 4)) (.cons 1 (.one (.bool a0o)) (.cons 1 (.one (.int .i64 a0l)) .nil)))) true)),(1,(.cells (a0n * 4) (.rT [.str,.str,.bool,.bool] a0s) true))],next := 2,nt := 41,m := 2 }
def f33_1 (F : Nat) : Ty16 → Rz := fun (a0n,a0s,a0o,a0l,a1,a2) => (cond a0o (some ((.int .i64 (22 : Int)),[(.cells 3 (.segs (.cons 1 (.one (.own 1 a0n 4)) (.cons 1 (.one (.bool a0o)) (.cons 1 (.one (.int .i64 a0l)) .nil)))) true),(.cells (a0n * 4) (.rT [.str,.str,.bool,.bool] a0s) true)])) (cond (decide (a0n = a0s.length ∧ a0n < 8000)) (cond (!(Dk.ris (Dk.R.mk a0s a0o a0l) a1)) (some ((.int .i64 (1 : Int)),[(.cells 3 (.segs (.cons 1 (.one (.own 1 (Dk.R.mk a0s a0o a0l).s.length 4)) (.cons 1 (.one (.bool (Dk.R.mk a0s a0o a0l).off)) (.cons 1 (.one (.int .i64 (Dk.R.mk a0s a0o a0l).left)) .nil)))) true),(.cells ((Dk.R.mk a0s a0o a0l).s.length * 4) (.rT [.str,.str,.bool,.bool] (Dk.R.mk a0s a0o a0l).s) true)])) (cond ((↑a2.length : Int) != (64 : Int)) (some ((.int .i64 (1 : Int)),[(.cells 3 (.segs (.cons 1 (.one (.own 1 (Dk.R.mk a0s a0o a0l).s.length 4)) (.cons 1 (.one (.bool (Dk.R.mk a0s a0o a0l).off)) (.cons 1 (.one (.int .i64 (Dk.R.mk a0s a0o a0l).left)) .nil)))) true),(.cells ((Dk.R.mk a0s a0o a0l).s.length * 4) (.rT [.str,.str,.bool,.bool] (Dk.R.mk a0s a0o a0l).s) true)])) (cond (decide ((Dk.R.mk a0s a0o a0l).s.length = (Dk.R.mk a0s a0o a0l).s.length ∧ (Dk.R.mk a0s a0o a0l).s.length < 8000)) (cond ((Dk.rstep (Dk.R.mk a0s a0o a0l)).2 != (0 : Int)) (some ((.int .i64 (Dk.rstep (Dk.R.mk a0s a0o a0l)).2),[(.cells 3 (.segs (.cons 1 (.one (.own 1 (Dk.rstep (Dk.R.mk a0s a0o a0l)).1.s.length 4)) (.cons 1 (.one (.bool (Dk.rstep (Dk.R.mk a0s a0o a0l)).1.off)) (.cons 1 (.one (.int .i64 (Dk.rstep (Dk.R.mk a0s a0o a0l)).1.left)) .nil)))) true),(.cells ((Dk.rstep (Dk.R.mk a0s a0o a0l)).1.s.length * 4) (.rT [.str,.str,.bool,.bool] (Dk.rstep (Dk.R.mk a0s a0o a0l)).1.s) true)])) (cond ((decide (0 ≤ a1)) && (decide (a1 < (↑(Dk.rstep (Dk.R.mk a0s a0o a0l)).1.s.length : Int)))) (cond ((decide (0 ≤ a1)) && (decide (a1 < (↑(Dk.rstep (Dk.R.mk a0s a0o a0l)).1.s.length : Int)))) (some ((.int .i64 (0 : Int)),[(.cells 3 (.segs (.cons 1 (.one (.own 1 (Dk.rstep (Dk.R.mk a0s a0o a0l)).1.s.length 4)) (.cons 1 (.one (.bool (Dk.rstep (Dk.R.mk a0s a0o a0l)).1.off)) (.cons 1 (.one (.int .i64 (Dk.rstep (Dk.R.mk a0s a0o a0l)).1.left)) .nil)))) true),(.cells ((Dk.rstep (Dk.R.mk a0s a0o a0l)).1.s.length * 4) (.rT [.str,.str,.bool,.bool] (((Dk.rstep (Dk.R.mk a0s a0o a0l)).1.s.set (Int.toNat a1) (tput ((Dk.rstep (Dk.R.mk a0s a0o a0l)).1.s.getD (Int.toNat a1) []) 1 a2)).set (Int.toNat a1) (tput (((Dk.rstep (Dk.R.mk a0s a0o a0l)).1.s.set (Int.toNat a1) (tput ((Dk.rstep (Dk.R.mk a0s a0o a0l)).1.s.getD (Int.toNat a1) []) 1 a2)).getD (Int.toNat a1) []) 2 [1]))) true)])) none) none)) none))) none))
theorem f33_1_eq (F : Nat) : ∀ v,aexec VG3533 (Af33 F) (sub (bodyOf Try.f33) []) (ef33_a v) (kFin VG3533 none (Try.f33).results.toList) = f33_1 F v := by
  rintro ⟨a0n,a0s,a0o,a0l,a1,a2⟩; kernel_rfl
def f33 (F : Nat) : Ty16 → Rz := f33_1 F
theorem f33_body (F : Nat) (a0n : Nat) (a0s : List (List (List Int))) (a0o : Bool) (a0l : Int) (a1 : Int) (a2 : List Int) : abody VG3533 (Af33 F) Try.f33 [(.ptr 0 0 3 0 0 0 3),(.int .i64 a1),(.str a2)] [(.cells 3 (.segs (.cons 1 (.one (.own 1 a0n 4)) (.cons 1 (.one (.bool a0o)) (.cons 1 (.one (.int .i64 a0l)) .nil)))) true),(.cells (a0n * 4) (.rT [.str,.str,.bool,.bool] a0s) true)] = f33 F (a0n,a0s,a0o,a0l,a1,a2) :=
  (abody_in (c := (sub (bodyOf Try.f33) [])) (by kernel_rfl) (s := ef33_a (a0n,a0s,a0o,a0l,a1,a2)) (by kernel_rfl)).trans (f33_1_eq F (a0n,a0s,a0o,a0l,a1,a2))
def r33 : CRun := fun X H => match X,H with
  | [(.ptr 0 0 3 0 0 0 3),(.int .i64 a1),(.str a2)],[(.cells 3 (.segs (.cons 1 (.one (.own 1 a0n 4)) (.cons 1 (.one (.bool a0o)) (.cons 1 (.one (.int .i64 a0l)) .nil)))) true),(.cells z1 (.rT [.str,.str,.bool,.bool] a0s) true)] => some ((decide (a0n = a0s.length ∧ a0n < 8000)),(.int .i64 (Dk.rwrite (Dk.R.mk a0s a0o a0l) a1 a2).2),[(.cells 3 (.segs (.cons 1 (.one (.own 1 (Dk.rwrite (Dk.R.mk a0s a0o a0l) a1 a2).1.s.length 4)) (.cons 1 (.one (.bool (Dk.rwrite (Dk.R.mk a0s a0o a0l) a1 a2).1.off)) (.cons 1 (.one (.int .i64 (Dk.rwrite (Dk.R.mk a0s a0o a0l) a1 a2).1.left)) .nil)))) true),(.cells ((Dk.rwrite (Dk.R.mk a0s a0o a0l) a1 a2).1.s.length * 4) (.rT [.str,.str,.bool,.bool] (Dk.rwrite (Dk.R.mk a0s a0o a0l) a1 a2).1.s) true)])
  | _,_ => none
theorem s33 (a0n : Nat) (a0s : List (List (List Int))) (a0o : Bool) (a0l : Int) (a1 : Int) (a2 : List Int) (hp : ((decide (a0n = a0s.length ∧ a0n < 8000))) = true) (h1 : okV (.int .i64 a1)) (h2 : okV (.str a2)) (k0 : okB (.cells 3 (.segs (.cons 1 (.one (.own 1 a0n 4)) (.cons 1 (.one (.bool a0o)) (.cons 1 (.one (.int .i64 a0l)) .nil)))) true)) (k1 : okB (.cells (a0n * 4) (.rT [.str,.str,.bool,.bool] a0s) true)) : ∃ F,f33 F (a0n,a0s,a0o,a0l,a1,a2) = some ((.int .i64 (Dk.rwrite (Dk.R.mk a0s a0o a0l) a1 a2).2),[(.cells 3 (.segs (.cons 1 (.one (.own 1 (Dk.rwrite (Dk.R.mk a0s a0o a0l) a1 a2).1.s.length 4)) (.cons 1 (.one (.bool (Dk.rwrite (Dk.R.mk a0s a0o a0l) a1 a2).1.off)) (.cons 1 (.one (.int .i64 (Dk.rwrite (Dk.R.mk a0s a0o a0l) a1 a2).1.left)) .nil)))) true),(.cells ((Dk.rwrite (Dk.R.mk a0s a0o a0l) a1 a2).1.s.length * 4) (.rT [.str,.str,.bool,.bool] (Dk.rwrite (Dk.R.mk a0s a0o a0l) a1 a2).1.s) true)]) := by
  refine ⟨0,?_⟩
  simp only [f33,f33_1,Dk.rwrite,hp,cond_true]
  rw [decide_eq_true_iff] at hp
  cases a0o
  · simp only [cond_false]
    have hs : decide (True ∧ a0s.length < 8000) = true := by
      rw [decide_eq_true_iff]; exact ⟨trivial,by rw [← hp.1]; exact hp.2⟩
    rw [hs]
    cases h : Dk.ris (Dk.R.mk a0s false a0l) a1
    · rfl
    · have e : (decide (0 ≤ a1) && decide (a1 < ((Dk.rstep (Dk.R.mk a0s false a0l)).1.s.length : Int))) = true := by
        rw [Dk.rstep_same,dec_and,decide_eq_true_iff]; exact Dk.ris_iff.1 h
      simp only [e,cond_true,cond_false,Bool.not_true]
      cases ((a2.length : Int) != 64)
      · cases ((Dk.rstep (Dk.R.mk a0s false a0l)).2 != 0)
        · simp only [cond_false,Dk.wput,List.length_set]
        · rfl
      · rfl
  · rw [hp.1]; rfl

theorem c33 : CallOk Try.prog G35 33 r33 := callOk_of (V := VG3533) mixed tys eVG3533 (f := 33) (fn := Try.f33) Try.func33 (by kernel_rfl) (c := sub (bodyOf Try.f33) []) (by kernel_rfl) (by
  intro X H r H' h hX hH
  unfold r33 at h; split at h <;> try contradiction
  · simp only [Option.some.injEq,Prod.mk.injEq] at h
    obtain ⟨hp,rfl,rfl⟩ := h
    obtain rfl := okB_size (hH _ (.tail _ (.head _))) rfl
    obtain rfl := (of_decide_eq_true hp).1
    obtain ⟨F,hF⟩ := s33 _ _ _ _ _ _ hp (hX _ (.tail _ (.head _))) (hX _ (.tail _ (.tail _ (.head _)))) (hH _ (.head _)) (hH _ (.tail _ (.head _)))
    exact ⟨Af33 F,(f33_body F _ _ _ _ _ _).trans hF⟩)
def lVG3557 : List CEnt := []
def VG3557 : Env := mkEnv T35 G35 lVG3557
theorem eVG3557 : EOk Try.prog VG3557 := eok_mk (by exact trivial)
def Af57 (F : Nat) : Cuts := { F := F,at_ := fun _ => none,join := fun _ => none }
def ef57_a : Ty17 → St := fun (a0n,a0s,a0o,a0l,a1,a2) => { tmps := [(0,(.ptr 0 0 3 0 0 0 3)),(1,(.int .i64 a1)),(2,(.int .i64 a2))],heap := [(0,(.cells 3 (.segs (.cons 1 (.one (.own 1 a0n 4)) (.cons 1 (.one (.bool a0o)) (.cons 1 (.one (.int .i64 a0l)) .nil)))) true)),(1,(.cells (a0n * 4) (.rT [.str,.str,.bool,.bool] a0s) true))],next := 2,nt := 39,m := 2 }
def f57_1 (F : Nat) : Ty17 → Rz := fun (a0n,a0s,a0o,a0l,a1,a2) => (cond ((decide (0 ≤ a1)) && (decide (a1 < (↑a0n : Int)))) (cond (!((((a0s.getD (Int.toNat a1) []).getD 3 []).getD 0 0) == 1)) (cond ((decide ((0 : Int) ≤ (if (if (64 : Int) < a2 then (64 : Int) else a2) > (0 : Int) then (if (64 : Int) < a2 then (64 : Int) else a2) else (0 : Int)))) && (decide ((if (if (64 : Int) < a2 then (64 : Int) else a2) > (0 : Int) then (if (64 : Int) < a2 then (64 : Int) else a2) else (0 : Int)) ≤ (↑((a0s.getD (Int.toNat a1) []).getD 1 []).length : Int)))) (cond (((decide (0 ≤ (if (if (64 : Int) < a2 then (64 : Int) else a2) > (0 : Int) then (if (64 : Int) < a2 then (64 : Int) else a2) else (0 : Int)))) && (decide ((if (if (64 : Int) < a2 then (64 : Int) else a2) > (0 : Int) then (if (64 : Int) < a2 then (64 : Int) else a2) else (0 : Int)) ≤ (↑((a0s.getD (Int.toNat a1) []).getD 0 []).length : Int)))) && (decide ((↑((a0s.getD (Int.toNat a1) []).getD 0 []).length : Int) ≤ (↑((a0s.getD (Int.toNat a1) []).getD 0 []).length : Int)))) (cond (decide (((((a0s.getD (Int.toNat a1) []).getD 1 []).take (Int.toNat (if (if (64 : Int) < a2 then (64 : Int) else a2) > (0 : Int) then (if (64 : Int) < a2 then (64 : Int) else a2) else (0 : Int)))).length + ((((a0s.getD (Int.toNat a1) []).getD 0 []).take ((a0s.getD (Int.toNat a1) []).getD 0 []).length).drop (Int.toNat (if (if (64 : Int) < a2 then (64 : Int) else a2) > (0 : Int) then (if (64 : Int) < a2 then (64 : Int) else a2) else (0 : Int)))).length) < 4611686018427387904)) (cond ((decide (0 ≤ a1)) && (decide (a1 < (↑a0n : Int)))) (some ((.tup .nil),[(.cells 3 (.segs (.cons 1 (.one (.own 1 a0n 4)) (.cons 1 (.one (.bool a0o)) (.cons 1 (.one (.int .i64 a0l)) .nil)))) true),(.cells (a0n * 4) (.rT [.str,.str,.bool,.bool] (a0s.set (Int.toNat a1) [((((a0s.getD (Int.toNat a1) []).getD 1 []).take (Int.toNat (if (if (64 : Int) < a2 then (64 : Int) else a2) > (0 : Int) then (if (64 : Int) < a2 then (64 : Int) else a2) else (0 : Int)))) ++ ((((a0s.getD (Int.toNat a1) []).getD 0 []).take ((a0s.getD (Int.toNat a1) []).getD 0 []).length).drop (Int.toNat (if (if (64 : Int) < a2 then (64 : Int) else a2) > (0 : Int) then (if (64 : Int) < a2 then (64 : Int) else a2) else (0 : Int))))),[],[0],[(cond ((((a0s.getD (Int.toNat a1) []).getD 3 []).getD 0 0) == 1) 1 0)]])) true)])) none) none) none) none) (cond ((decide (0 ≤ a1)) && (decide (a1 < (↑a0n : Int)))) (some ((.tup .nil),[(.cells 3 (.segs (.cons 1 (.one (.own 1 a0n 4)) (.cons 1 (.one (.bool a0o)) (.cons 1 (.one (.int .i64 a0l)) .nil)))) true),(.cells (a0n * 4) (.rT [.str,.str,.bool,.bool] (a0s.set (Int.toNat a1) [((a0s.getD (Int.toNat a1) []).getD 0 []),[],[0],[(cond ((((a0s.getD (Int.toNat a1) []).getD 3 []).getD 0 0) == 1) 1 0)]])) true)])) none)) none)
theorem f57_1_eq (F : Nat) : ∀ v,aexec VG3557 (Af57 F) (sub (bodyOf Try.f57) []) (ef57_a v) (kFin VG3557 none (Try.f57).results.toList) = f57_1 F v := by
  rintro ⟨a0n,a0s,a0o,a0l,a1,a2⟩; kernel_rfl
def f57 (F : Nat) : Ty17 → Rz := f57_1 F
theorem f57_body (F : Nat) (a0n : Nat) (a0s : List (List (List Int))) (a0o : Bool) (a0l : Int) (a1 : Int) (a2 : Int) : abody VG3557 (Af57 F) Try.f57 [(.ptr 0 0 3 0 0 0 3),(.int .i64 a1),(.int .i64 a2)] [(.cells 3 (.segs (.cons 1 (.one (.own 1 a0n 4)) (.cons 1 (.one (.bool a0o)) (.cons 1 (.one (.int .i64 a0l)) .nil)))) true),(.cells (a0n * 4) (.rT [.str,.str,.bool,.bool] a0s) true)] = f57 F (a0n,a0s,a0o,a0l,a1,a2) :=
  (abody_in (c := (sub (bodyOf Try.f57) [])) (by kernel_rfl) (s := ef57_a (a0n,a0s,a0o,a0l,a1,a2)) (by kernel_rfl)).trans (f57_1_eq F (a0n,a0s,a0o,a0l,a1,a2))
def r57 : CRun := fun X H => match X,H with
  | [(.ptr 0 0 3 0 0 0 3),(.int .i64 a1),(.int .i64 a2)],[(.cells 3 (.segs (.cons 1 (.one (.own 1 a0n 4)) (.cons 1 (.one (.bool a0o)) (.cons 1 (.one (.int .i64 a0l)) .nil)))) true),(.cells z1 (.rT [.str,.str,.bool,.bool] a0s) true)] => some ((decide (a0n = a0s.length ∧ a0n < 8000)) && ((Dk.ris (Dk.R.mk a0s a0o a0l) a1) && (Dk.rlen (Dk.R.mk a0s a0o a0l) a1)),(.tup .nil),[(.cells 3 (.segs (.cons 1 (.one (.own 1 (Dk.rsettle (Dk.R.mk a0s a0o a0l) a1 a2).s.length 4)) (.cons 1 (.one (.bool (Dk.rsettle (Dk.R.mk a0s a0o a0l) a1 a2).off)) (.cons 1 (.one (.int .i64 (Dk.rsettle (Dk.R.mk a0s a0o a0l) a1 a2).left)) .nil)))) true),(.cells ((Dk.rsettle (Dk.R.mk a0s a0o a0l) a1 a2).s.length * 4) (.rT [.str,.str,.bool,.bool] (Dk.rsettle (Dk.R.mk a0s a0o a0l) a1 a2).s) true)])
  | _,_ => none
theorem s57 (a0n : Nat) (a0s : List (List (List Int))) (a0o : Bool) (a0l : Int) (a1 : Int) (a2 : Int) (hp : ((decide (a0n = a0s.length ∧ a0n < 8000)) && ((Dk.ris (Dk.R.mk a0s a0o a0l) a1) && (Dk.rlen (Dk.R.mk a0s a0o a0l) a1))) = true) (h1 : okV (.int .i64 a1)) (h2 : okV (.int .i64 a2)) (k0 : okB (.cells 3 (.segs (.cons 1 (.one (.own 1 a0n 4)) (.cons 1 (.one (.bool a0o)) (.cons 1 (.one (.int .i64 a0l)) .nil)))) true)) (k1 : okB (.cells (a0n * 4) (.rT [.str,.str,.bool,.bool] a0s) true)) : ∃ F,f57 F (a0n,a0s,a0o,a0l,a1,a2) = some ((.tup .nil),[(.cells 3 (.segs (.cons 1 (.one (.own 1 (Dk.rsettle (Dk.R.mk a0s a0o a0l) a1 a2).s.length 4)) (.cons 1 (.one (.bool (Dk.rsettle (Dk.R.mk a0s a0o a0l) a1 a2).off)) (.cons 1 (.one (.int .i64 (Dk.rsettle (Dk.R.mk a0s a0o a0l) a1 a2).left)) .nil)))) true),(.cells ((Dk.rsettle (Dk.R.mk a0s a0o a0l) a1 a2).s.length * 4) (.rT [.str,.str,.bool,.bool] (Dk.rsettle (Dk.R.mk a0s a0o a0l) a1 a2).s) true)]) := by
  rw [Bool.and_eq_true,Bool.and_eq_true,decide_eq_true_iff] at hp
  obtain ⟨⟨hn,hlt⟩,hr,hl⟩ := hp
  have hl : ((a0s.getD (Int.toNat a1) []).getD 0 []).length = 64 ∧ ((a0s.getD (Int.toNat a1) []).getD 1 []).length = 64 := of_decide_eq_true hl
  have hc : (0 : Int) ≤ (if (if 64 < a2 then 64 else a2) > 0 then (if 64 < a2 then 64 else a2) else 0) ∧ (if (if 64 < a2 then 64 else a2) > 0 then (if 64 < a2 then 64 else a2) else 0) ≤ 64 := by
    constructor <;> (split <;> (try split) <;> omega)
  have hk : Dk.clamp a2 = Int.toNat (if (if 64 < a2 then 64 else a2) > 0 then (if 64 < a2 then 64 else a2) else 0) := rfl
  refine ⟨0,?_⟩
  simp only [f57,f57_1,Dk.rsettle,Dk.settled,Dk.R.at,Dk.fW,Dk.fN,Dk.fT,hk]
  generalize (if (if 64 < a2 then 64 else a2) > 0 then (if 64 < a2 then 64 else a2) else 0) = c at hc
  have e : (decide (0 ≤ a1) && decide (a1 < (a0n : Int))) = true := by rw [dec_and,decide_eq_true_iff,hn]; exact Dk.ris_iff.1 hr
  have e1 : (decide (0 ≤ c) && decide (c ≤ (((a0s.getD (Int.toNat a1) []).getD 1 []).length : Int))) = true := by rw [dec_and,decide_eq_true_iff,hl.2]; omega
  have e2 : ((decide (0 ≤ c) && decide (c ≤ (((a0s.getD (Int.toNat a1) []).getD 0 []).length : Int))) && decide ((((a0s.getD (Int.toNat a1) []).getD 0 []).length : Int) ≤ (((a0s.getD (Int.toNat a1) []).getD 0 []).length : Int))) = true := by
    rw [dec_and,dec_and,decide_eq_true_iff,hl.1]; omega
  have e3 : decide (((((a0s.getD (Int.toNat a1) []).getD 1 []).take (Int.toNat c)).length + (((a0s.getD (Int.toNat a1) []).getD 0 []).drop (Int.toNat c)).length) < 4611686018427387904) = true := by
    rw [decide_eq_true_iff]; simp only [List.length_take,List.length_drop,hl.1,hl.2]; omega
  simp only [List.take_length]
  simp only [e,e1,e2,e3,cond_true,List.length_set]
  cases (((a0s.getD (Int.toNat a1) []).getD 3 []).getD 0 0 == 1) <;> simp only [Bool.not_true,Bool.not_false,cond_true,cond_false,hn]

theorem c57 : CallOk Try.prog G35 57 r57 := callOk_of (V := VG3557) mixed tys eVG3557 (f := 57) (fn := Try.f57) Try.func57 (by kernel_rfl) (c := sub (bodyOf Try.f57) []) (by kernel_rfl) (by
  intro X H r H' h hX hH
  unfold r57 at h; split at h <;> try contradiction
  · simp only [Option.some.injEq,Prod.mk.injEq] at h
    obtain ⟨hp,rfl,rfl⟩ := h
    obtain rfl := okB_size (hH _ (.tail _ (.head _))) rfl
    obtain rfl := (of_decide_eq_true (Bool.and_eq_true_iff.1 hp).1).1
    obtain ⟨F,hF⟩ := s57 _ _ _ _ _ _ hp (hX _ (.tail _ (.head _))) (hX _ (.tail _ (.tail _ (.head _)))) (hH _ (.head _)) (hH _ (.tail _ (.head _)))
    exact ⟨Af57 F,(f57_body F _ _ _ _ _ _).trans hF⟩)
def lVG3536 : List CEnt := []
def VG3536 : Env := mkEnv T35 G35 lVG3536
theorem eVG3536 : EOk Try.prog VG3536 := eok_mk (by exact trivial)
def Af36 (F : Nat) : Cuts := { F := F,at_ := fun _ => none,join := fun _ => none }
def ef36_a : Ty15 → St := fun (a0n,a0s,a0o,a0l,a1) => { tmps := [(0,(.ptr 0 0 3 0 0 0 3)),(1,(.int .i64 a1))],heap := [(0,(.cells 3 (.segs (.cons 1 (.one (.own 1 a0n 4)) (.cons 1 (.one (.bool a0o)) (.cons 1 (.one (.int .i64 a0l)) .nil)))) true)),(1,(.cells (a0n * 4) (.rT [.str,.str,.bool,.bool] a0s) true))],next := 2,nt := 9,m := 2 }
def f36_1 (F : Nat) : Ty15 → Rz := fun (a0n,a0s,a0o,a0l,a1) => (some ((.tup .nil),[(.cells 3 (.segs (.cons 1 (.one (.own 1 a0n 4)) (.cons 1 (.one (.bool a0o)) (.cons 1 (.one (.int .i64 (if a1 > (-1 : Int) then a1 else (-1 : Int)))) .nil)))) true),(.cells (a0n * 4) (.rT [.str,.str,.bool,.bool] a0s) true)]))
theorem f36_1_eq (F : Nat) : ∀ v,aexec VG3536 (Af36 F) (sub (bodyOf Try.f36) []) (ef36_a v) (kFin VG3536 none (Try.f36).results.toList) = f36_1 F v := by
  rintro ⟨a0n,a0s,a0o,a0l,a1⟩; kernel_rfl
def f36 (F : Nat) : Ty15 → Rz := f36_1 F
theorem f36_body (F : Nat) (a0n : Nat) (a0s : List (List (List Int))) (a0o : Bool) (a0l : Int) (a1 : Int) : abody VG3536 (Af36 F) Try.f36 [(.ptr 0 0 3 0 0 0 3),(.int .i64 a1)] [(.cells 3 (.segs (.cons 1 (.one (.own 1 a0n 4)) (.cons 1 (.one (.bool a0o)) (.cons 1 (.one (.int .i64 a0l)) .nil)))) true),(.cells (a0n * 4) (.rT [.str,.str,.bool,.bool] a0s) true)] = f36 F (a0n,a0s,a0o,a0l,a1) :=
  (abody_in (c := (sub (bodyOf Try.f36) [])) (by kernel_rfl) (s := ef36_a (a0n,a0s,a0o,a0l,a1)) (by kernel_rfl)).trans (f36_1_eq F (a0n,a0s,a0o,a0l,a1))
def r36 : CRun := fun X H => match X,H with
  | [(.ptr 0 0 3 0 0 0 3),(.int .i64 a1)],[(.cells 3 (.segs (.cons 1 (.one (.own 1 a0n 4)) (.cons 1 (.one (.bool a0o)) (.cons 1 (.one (.int .i64 a0l)) .nil)))) true),(.cells z1 (.rT [.str,.str,.bool,.bool] a0s) true)] => some ((decide (a0n = a0s.length ∧ a0n < 8000)),(.tup .nil),[(.cells 3 (.segs (.cons 1 (.one (.own 1 (Dk.rtrip (Dk.R.mk a0s a0o a0l) a1).s.length 4)) (.cons 1 (.one (.bool (Dk.rtrip (Dk.R.mk a0s a0o a0l) a1).off)) (.cons 1 (.one (.int .i64 (Dk.rtrip (Dk.R.mk a0s a0o a0l) a1).left)) .nil)))) true),(.cells ((Dk.rtrip (Dk.R.mk a0s a0o a0l) a1).s.length * 4) (.rT [.str,.str,.bool,.bool] (Dk.rtrip (Dk.R.mk a0s a0o a0l) a1).s) true)])
  | _,_ => none
theorem s36 (a0n : Nat) (a0s : List (List (List Int))) (a0o : Bool) (a0l : Int) (a1 : Int) (hp : ((decide (a0n = a0s.length ∧ a0n < 8000))) = true) (h1 : okV (.int .i64 a1)) (k0 : okB (.cells 3 (.segs (.cons 1 (.one (.own 1 a0n 4)) (.cons 1 (.one (.bool a0o)) (.cons 1 (.one (.int .i64 a0l)) .nil)))) true)) (k1 : okB (.cells (a0n * 4) (.rT [.str,.str,.bool,.bool] a0s) true)) : ∃ F,f36 F (a0n,a0s,a0o,a0l,a1) = some ((.tup .nil),[(.cells 3 (.segs (.cons 1 (.one (.own 1 (Dk.rtrip (Dk.R.mk a0s a0o a0l) a1).s.length 4)) (.cons 1 (.one (.bool (Dk.rtrip (Dk.R.mk a0s a0o a0l) a1).off)) (.cons 1 (.one (.int .i64 (Dk.rtrip (Dk.R.mk a0s a0o a0l) a1).left)) .nil)))) true),(.cells ((Dk.rtrip (Dk.R.mk a0s a0o a0l) a1).s.length * 4) (.rT [.str,.str,.bool,.bool] (Dk.rtrip (Dk.R.mk a0s a0o a0l) a1).s) true)]) := by
  rw [decide_eq_true_iff] at hp
  exact ⟨0,by simp only [f36,f36_1,Dk.rtrip]; rw [hp.1]⟩

theorem c36 : CallOk Try.prog G35 36 r36 := callOk_of (V := VG3536) mixed tys eVG3536 (f := 36) (fn := Try.f36) Try.func36 (by kernel_rfl) (c := sub (bodyOf Try.f36) []) (by kernel_rfl) (by
  intro X H r H' h hX hH
  unfold r36 at h; split at h <;> try contradiction
  · simp only [Option.some.injEq,Prod.mk.injEq] at h
    obtain ⟨hp,rfl,rfl⟩ := h
    obtain rfl := okB_size (hH _ (.tail _ (.head _))) rfl
    obtain rfl := (of_decide_eq_true hp).1
    obtain ⟨F,hF⟩ := s36 _ _ _ _ _ hp (hX _ (.tail _ (.head _))) (hH _ (.head _)) (hH _ (.tail _ (.head _)))
    exact ⟨Af36 F,(f36_body F _ _ _ _ _).trans hF⟩)
def lVG3538 : List CEnt := [(55,[none,none],r55)]
def VG3538 : Env := mkEnv T35 G35 lVG3538
theorem eVG3538 : EOk Try.prog VG3538 := eok_mk (by exact ⟨c55,trivial⟩)
def Af38 (F : Nat) : Cuts := { F := F,at_ := fun _ => none,join := fun _ => none }
def ef38_a : Ty17 → St := fun (a0n,a0s,a0o,a0l,a1,a2) => { tmps := [(0,(.ptr 0 0 3 0 0 0 3)),(1,(.int .i64 a1)),(2,(.int .i64 a2))],heap := [(0,(.cells 3 (.segs (.cons 1 (.one (.own 1 a0n 4)) (.cons 1 (.one (.bool a0o)) (.cons 1 (.one (.int .i64 a0l)) .nil)))) true)),(1,(.cells (a0n * 4) (.rT [.str,.str,.bool,.bool] a0s) true))],next := 2,nt := 51,m := 2 }
def f38_1 (F : Nat) : Ty17 → Rz := fun (a0n,a0s,a0o,a0l,a1,a2) => (cond (decide (a0n = a0s.length ∧ a0n < 8000)) (cond (!(Dk.ris (Dk.R.mk a0s a0o a0l) a1)) (some ((.int .i64 (1 : Int)),[(.cells 3 (.segs (.cons 1 (.one (.own 1 (Dk.R.mk a0s a0o a0l).s.length 4)) (.cons 1 (.one (.bool (Dk.R.mk a0s a0o a0l).off)) (.cons 1 (.one (.int .i64 (Dk.R.mk a0s a0o a0l).left)) .nil)))) true),(.cells ((Dk.R.mk a0s a0o a0l).s.length * 4) (.rT [.str,.str,.bool,.bool] (Dk.R.mk a0s a0o a0l).s) true)])) (cond (decide (a2 < (0 : Int))) (some ((.int .i64 (1 : Int)),[(.cells 3 (.segs (.cons 1 (.one (.own 1 (Dk.R.mk a0s a0o a0l).s.length 4)) (.cons 1 (.one (.bool (Dk.R.mk a0s a0o a0l).off)) (.cons 1 (.one (.int .i64 (Dk.R.mk a0s a0o a0l).left)) .nil)))) true),(.cells ((Dk.R.mk a0s a0o a0l).s.length * 4) (.rT [.str,.str,.bool,.bool] (Dk.R.mk a0s a0o a0l).s) true)])) (cond (decide (a2 > (511 : Int))) (some ((.int .i64 (1 : Int)),[(.cells 3 (.segs (.cons 1 (.one (.own 1 (Dk.R.mk a0s a0o a0l).s.length 4)) (.cons 1 (.one (.bool (Dk.R.mk a0s a0o a0l).off)) (.cons 1 (.one (.int .i64 (Dk.R.mk a0s a0o a0l).left)) .nil)))) true),(.cells ((Dk.R.mk a0s a0o a0l).s.length * 4) (.rT [.str,.str,.bool,.bool] (Dk.R.mk a0s a0o a0l).s) true)])) (cond ((decide (0 ≤ a1)) && (decide (a1 < (↑(Dk.R.mk a0s a0o a0l).s.length : Int)))) (cond ((decide (0 ≤ (IntKind.i64.wrap (Int.tdiv a2 (8 : Int))))) && (decide ((IntKind.i64.wrap (Int.tdiv a2 (8 : Int))) < (↑(((Dk.R.mk a0s a0o a0l).s.getD (Int.toNat a1) []).getD 0 []).length : Int)))) (cond (decide (0 ≤ (Int.tmod a2 (8 : Int)))) (cond ((decide (0 ≤ (IntKind.i64.wrap (Int.tdiv a2 (8 : Int))))) && (decide ((IntKind.i64.wrap (Int.tdiv a2 (8 : Int))) < (↑(((Dk.R.mk a0s a0o a0l).s.getD (Int.toNat a1) []).getD 0 []).length : Int)))) (cond ((decide (0 ≤ a1)) && (decide (a1 < (↑(Dk.R.mk a0s a0o a0l).s.length : Int)))) (some ((.int .i64 (0 : Int)),[(.cells 3 (.segs (.cons 1 (.one (.own 1 (Dk.R.mk a0s a0o a0l).s.length 4)) (.cons 1 (.one (.bool (Dk.R.mk a0s a0o a0l).off)) (.cons 1 (.one (.int .i64 (Dk.R.mk a0s a0o a0l).left)) .nil)))) true),(.cells ((Dk.R.mk a0s a0o a0l).s.length * 4) (.rT [.str,.str,.bool,.bool] ((Dk.R.mk a0s a0o a0l).s.set (Int.toNat a1) (tput ((Dk.R.mk a0s a0o a0l).s.getD (Int.toNat a1) []) 0 ((((Dk.R.mk a0s a0o a0l).s.getD (Int.toNat a1) []).getD 0 []).set (Int.toNat (IntKind.i64.wrap (Int.tdiv a2 (8 : Int)))) (ibits .xor .u8 ((((Dk.R.mk a0s a0o a0l).s.getD (Int.toNat a1) []).getD 0 []).getD (Int.toNat (IntKind.i64.wrap (Int.tdiv a2 (8 : Int)))) 0) (IntKind.u8.wrap ((1 : Int) * 2 ^ (min (Int.toNat (Int.tmod a2 (8 : Int))) 8)))))))) true)])) none) none) none) none) none)))) none)
theorem f38_1_eq (F : Nat) : ∀ v,aexec VG3538 (Af38 F) (sub (bodyOf Try.f38) []) (ef38_a v) (kFin VG3538 none (Try.f38).results.toList) = f38_1 F v := by
  rintro ⟨a0n,a0s,a0o,a0l,a1,a2⟩; kernel_rfl
def f38 (F : Nat) : Ty17 → Rz := f38_1 F
theorem f38_body (F : Nat) (a0n : Nat) (a0s : List (List (List Int))) (a0o : Bool) (a0l : Int) (a1 : Int) (a2 : Int) : abody VG3538 (Af38 F) Try.f38 [(.ptr 0 0 3 0 0 0 3),(.int .i64 a1),(.int .i64 a2)] [(.cells 3 (.segs (.cons 1 (.one (.own 1 a0n 4)) (.cons 1 (.one (.bool a0o)) (.cons 1 (.one (.int .i64 a0l)) .nil)))) true),(.cells (a0n * 4) (.rT [.str,.str,.bool,.bool] a0s) true)] = f38 F (a0n,a0s,a0o,a0l,a1,a2) :=
  (abody_in (c := (sub (bodyOf Try.f38) [])) (by kernel_rfl) (s := ef38_a (a0n,a0s,a0o,a0l,a1,a2)) (by kernel_rfl)).trans (f38_1_eq F (a0n,a0s,a0o,a0l,a1,a2))
def r38 : CRun := fun X H => match X,H with
  | [(.ptr 0 0 3 0 0 0 3),(.int .i64 a1),(.int .i64 a2)],[(.cells 3 (.segs (.cons 1 (.one (.own 1 a0n 4)) (.cons 1 (.one (.bool a0o)) (.cons 1 (.one (.int .i64 a0l)) .nil)))) true),(.cells z1 (.rT [.str,.str,.bool,.bool] a0s) true)] => some ((decide (a0n = a0s.length ∧ a0n < 8000)) && ((Dk.rfine (Dk.R.mk a0s a0o a0l))),(.int .i64 (Dk.rrot (Dk.R.mk a0s a0o a0l) a1 a2).2),[(.cells 3 (.segs (.cons 1 (.one (.own 1 (Dk.rrot (Dk.R.mk a0s a0o a0l) a1 a2).1.s.length 4)) (.cons 1 (.one (.bool (Dk.rrot (Dk.R.mk a0s a0o a0l) a1 a2).1.off)) (.cons 1 (.one (.int .i64 (Dk.rrot (Dk.R.mk a0s a0o a0l) a1 a2).1.left)) .nil)))) true),(.cells ((Dk.rrot (Dk.R.mk a0s a0o a0l) a1 a2).1.s.length * 4) (.rT [.str,.str,.bool,.bool] (Dk.rrot (Dk.R.mk a0s a0o a0l) a1 a2).1.s) true)])
  | _,_ => none
theorem s38 (a0n : Nat) (a0s : List (List (List Int))) (a0o : Bool) (a0l : Int) (a1 : Int) (a2 : Int) (hp : ((decide (a0n = a0s.length ∧ a0n < 8000)) && ((Dk.rfine (Dk.R.mk a0s a0o a0l)))) = true) (h1 : okV (.int .i64 a1)) (h2 : okV (.int .i64 a2)) (k0 : okB (.cells 3 (.segs (.cons 1 (.one (.own 1 a0n 4)) (.cons 1 (.one (.bool a0o)) (.cons 1 (.one (.int .i64 a0l)) .nil)))) true)) (k1 : okB (.cells (a0n * 4) (.rT [.str,.str,.bool,.bool] a0s) true)) : ∃ F,f38 F (a0n,a0s,a0o,a0l,a1,a2) = some ((.int .i64 (Dk.rrot (Dk.R.mk a0s a0o a0l) a1 a2).2),[(.cells 3 (.segs (.cons 1 (.one (.own 1 (Dk.rrot (Dk.R.mk a0s a0o a0l) a1 a2).1.s.length 4)) (.cons 1 (.one (.bool (Dk.rrot (Dk.R.mk a0s a0o a0l) a1 a2).1.off)) (.cons 1 (.one (.int .i64 (Dk.rrot (Dk.R.mk a0s a0o a0l) a1 a2).1.left)) .nil)))) true),(.cells ((Dk.rrot (Dk.R.mk a0s a0o a0l) a1 a2).1.s.length * 4) (.rT [.str,.str,.bool,.bool] (Dk.rrot (Dk.R.mk a0s a0o a0l) a1 a2).1.s) true)]) := by
  rw [Bool.and_eq_true] at hp
  obtain ⟨hp,hf⟩ := hp
  refine ⟨0,?_⟩
  simp only [f38,f38_1,Dk.rrot,hp,cond_true]
  cases h : Dk.ris (Dk.R.mk a0s a0o a0l) a1
  · rfl
  · have hr := Dk.ris_iff.1 h
    have hg := (Dk.rfine_iff.1 hf).2 (Int.toNat a1) (by omega)
    have hlen : (((a0s.getD (Int.toNat a1) []).getD 0 []).length : Int) = 64 := by have := hg.1; simp only [Dk.fT] at this; omega
    simp only [Bool.not_true,cond_false,Dk.fT,Dk.R.at,Dk.bit]
    by_cases h3 : a2 < 0
    · simp only [cond_pos h3]
    · by_cases h4 : a2 > 511
      · simp only [cond_neg h3,cond_pos h4]
      · have e8 : Int.tdiv a2 8 = a2 / 8 := tdiv_nn (by omega)
        have ew : IntKind.i64.wrap (Int.tdiv a2 8) = Int.tdiv a2 8 := i64w (by omega) (by omega)
        have em : 0 ≤ Int.tmod a2 8 := by rw [tmod_nn (by omega)]; omega
        have ec : (decide (0 ≤ a1) && decide (a1 < (a0s.length : Int))) = true := by rw [dec_and,decide_eq_true_iff]; exact hr
        have ed : (decide (0 ≤ Int.tdiv a2 8) && decide (Int.tdiv a2 8 < (((a0s.getD (Int.toNat a1) []).getD 0 []).length : Int))) = true := by rw [dec_and,decide_eq_true_iff,hlen]; omega
        simp only [cond_neg h3,cond_neg h4,ew,ec,ed,cond_pos em,cond_true,List.length_set]

theorem c38 : CallOk Try.prog G35 38 r38 := callOk_of (V := VG3538) mixed tys eVG3538 (f := 38) (fn := Try.f38) Try.func38 (by kernel_rfl) (c := sub (bodyOf Try.f38) []) (by kernel_rfl) (by
  intro X H r H' h hX hH
  unfold r38 at h; split at h <;> try contradiction
  · simp only [Option.some.injEq,Prod.mk.injEq] at h
    obtain ⟨hp,rfl,rfl⟩ := h
    obtain rfl := okB_size (hH _ (.tail _ (.head _))) rfl
    obtain rfl := (of_decide_eq_true (Bool.and_eq_true_iff.1 hp).1).1
    obtain ⟨F,hF⟩ := s38 _ _ _ _ _ _ hp (hX _ (.tail _ (.head _))) (hX _ (.tail _ (.tail _ (.head _)))) (hH _ (.head _)) (hH _ (.tail _ (.head _)))
    exact ⟨Af38 F,(f38_body F _ _ _ _ _ _).trans hF⟩)
def lVG3539 : List CEnt := [(55,[none,none],r55)]
def VG3539 : Env := mkEnv T35 G35 lVG3539
theorem eVG3539 : EOk Try.prog VG3539 := eok_mk (by exact ⟨c55,trivial⟩)
def Af39 (F : Nat) : Cuts := { F := F,at_ := fun _ => none,join := fun _ => none }
def ef39_a : Ty15 → St := fun (a0n,a0s,a0o,a0l,a1) => { tmps := [(0,(.ptr 0 0 3 0 0 0 3)),(1,(.int .i64 a1))],heap := [(0,(.cells 3 (.segs (.cons 1 (.one (.own 1 a0n 4)) (.cons 1 (.one (.bool a0o)) (.cons 1 (.one (.int .i64 a0l)) .nil)))) true)),(1,(.cells (a0n * 4) (.rT [.str,.str,.bool,.bool] a0s) true))],next := 2,nt := 16,m := 2 }
def f39_1 (F : Nat) : Ty15 → Rz := fun (a0n,a0s,a0o,a0l,a1) => (cond (decide (a0n = a0s.length ∧ a0n < 8000)) (cond (!(Dk.ris (Dk.R.mk a0s a0o a0l) a1)) (some ((.int .i64 (1 : Int)),[(.cells 3 (.segs (.cons 1 (.one (.own 1 (Dk.R.mk a0s a0o a0l).s.length 4)) (.cons 1 (.one (.bool (Dk.R.mk a0s a0o a0l).off)) (.cons 1 (.one (.int .i64 (Dk.R.mk a0s a0o a0l).left)) .nil)))) true),(.cells ((Dk.R.mk a0s a0o a0l).s.length * 4) (.rT [.str,.str,.bool,.bool] (Dk.R.mk a0s a0o a0l).s) true)])) (cond ((decide (0 ≤ a1)) && (decide (a1 < (↑(Dk.R.mk a0s a0o a0l).s.length : Int)))) (some ((.int .i64 (0 : Int)),[(.cells 3 (.segs (.cons 1 (.one (.own 1 (Dk.R.mk a0s a0o a0l).s.length 4)) (.cons 1 (.one (.bool (Dk.R.mk a0s a0o a0l).off)) (.cons 1 (.one (.int .i64 (Dk.R.mk a0s a0o a0l).left)) .nil)))) true),(.cells ((Dk.R.mk a0s a0o a0l).s.length * 4) (.rT [.str,.str,.bool,.bool] ((Dk.R.mk a0s a0o a0l).s.set (Int.toNat a1) (tput ((Dk.R.mk a0s a0o a0l).s.getD (Int.toNat a1) []) 3 [1]))) true)])) none)) none)
theorem f39_1_eq (F : Nat) : ∀ v,aexec VG3539 (Af39 F) (sub (bodyOf Try.f39) []) (ef39_a v) (kFin VG3539 none (Try.f39).results.toList) = f39_1 F v := by
  rintro ⟨a0n,a0s,a0o,a0l,a1⟩; kernel_rfl
def f39 (F : Nat) : Ty15 → Rz := f39_1 F
theorem f39_body (F : Nat) (a0n : Nat) (a0s : List (List (List Int))) (a0o : Bool) (a0l : Int) (a1 : Int) : abody VG3539 (Af39 F) Try.f39 [(.ptr 0 0 3 0 0 0 3),(.int .i64 a1)] [(.cells 3 (.segs (.cons 1 (.one (.own 1 a0n 4)) (.cons 1 (.one (.bool a0o)) (.cons 1 (.one (.int .i64 a0l)) .nil)))) true),(.cells (a0n * 4) (.rT [.str,.str,.bool,.bool] a0s) true)] = f39 F (a0n,a0s,a0o,a0l,a1) :=
  (abody_in (c := (sub (bodyOf Try.f39) [])) (by kernel_rfl) (s := ef39_a (a0n,a0s,a0o,a0l,a1)) (by kernel_rfl)).trans (f39_1_eq F (a0n,a0s,a0o,a0l,a1))
def r39 : CRun := fun X H => match X,H with
  | [(.ptr 0 0 3 0 0 0 3),(.int .i64 a1)],[(.cells 3 (.segs (.cons 1 (.one (.own 1 a0n 4)) (.cons 1 (.one (.bool a0o)) (.cons 1 (.one (.int .i64 a0l)) .nil)))) true),(.cells z1 (.rT [.str,.str,.bool,.bool] a0s) true)] => some ((decide (a0n = a0s.length ∧ a0n < 8000)),(.int .i64 (Dk.rwear (Dk.R.mk a0s a0o a0l) a1).2),[(.cells 3 (.segs (.cons 1 (.one (.own 1 (Dk.rwear (Dk.R.mk a0s a0o a0l) a1).1.s.length 4)) (.cons 1 (.one (.bool (Dk.rwear (Dk.R.mk a0s a0o a0l) a1).1.off)) (.cons 1 (.one (.int .i64 (Dk.rwear (Dk.R.mk a0s a0o a0l) a1).1.left)) .nil)))) true),(.cells ((Dk.rwear (Dk.R.mk a0s a0o a0l) a1).1.s.length * 4) (.rT [.str,.str,.bool,.bool] (Dk.rwear (Dk.R.mk a0s a0o a0l) a1).1.s) true)])
  | _,_ => none
theorem s39 (a0n : Nat) (a0s : List (List (List Int))) (a0o : Bool) (a0l : Int) (a1 : Int) (hp : ((decide (a0n = a0s.length ∧ a0n < 8000))) = true) (h1 : okV (.int .i64 a1)) (k0 : okB (.cells 3 (.segs (.cons 1 (.one (.own 1 a0n 4)) (.cons 1 (.one (.bool a0o)) (.cons 1 (.one (.int .i64 a0l)) .nil)))) true)) (k1 : okB (.cells (a0n * 4) (.rT [.str,.str,.bool,.bool] a0s) true)) : ∃ F,f39 F (a0n,a0s,a0o,a0l,a1) = some ((.int .i64 (Dk.rwear (Dk.R.mk a0s a0o a0l) a1).2),[(.cells 3 (.segs (.cons 1 (.one (.own 1 (Dk.rwear (Dk.R.mk a0s a0o a0l) a1).1.s.length 4)) (.cons 1 (.one (.bool (Dk.rwear (Dk.R.mk a0s a0o a0l) a1).1.off)) (.cons 1 (.one (.int .i64 (Dk.rwear (Dk.R.mk a0s a0o a0l) a1).1.left)) .nil)))) true),(.cells ((Dk.rwear (Dk.R.mk a0s a0o a0l) a1).1.s.length * 4) (.rT [.str,.str,.bool,.bool] (Dk.rwear (Dk.R.mk a0s a0o a0l) a1).1.s) true)]) := by
  refine ⟨0,?_⟩
  simp only [f39,f39_1,Dk.rwear,hp,cond_true,Dk.R.at]
  cases h : Dk.ris (Dk.R.mk a0s a0o a0l) a1
  · rfl
  · have ec : (decide (0 ≤ a1) && decide (a1 < (a0s.length : Int))) = true := by rw [dec_and,decide_eq_true_iff]; exact Dk.ris_iff.1 h
    simp only [ec,Bool.not_true,cond_false,cond_true,List.length_set]

theorem c39 : CallOk Try.prog G35 39 r39 := callOk_of (V := VG3539) mixed tys eVG3539 (f := 39) (fn := Try.f39) Try.func39 (by kernel_rfl) (c := sub (bodyOf Try.f39) []) (by kernel_rfl) (by
  intro X H r H' h hX hH
  unfold r39 at h; split at h <;> try contradiction
  · simp only [Option.some.injEq,Prod.mk.injEq] at h
    obtain ⟨hp,rfl,rfl⟩ := h
    obtain rfl := okB_size (hH _ (.tail _ (.head _))) rfl
    obtain rfl := (of_decide_eq_true hp).1
    obtain ⟨F,hF⟩ := s39 _ _ _ _ _ hp (hX _ (.tail _ (.head _))) (hH _ (.head _)) (hH _ (.tail _ (.head _)))
    exact ⟨Af39 F,(f39_body F _ _ _ _ _).trans hF⟩)
def lVG3524 : List CEnt := []
def VG3524 : Env := mkEnv T35 G35 lVG3524
theorem eVG3524 : EOk Try.prog VG3524 := eok_mk (by exact trivial)
def Af24 (F : Nat) : Cuts := { F := F,at_ := fun n => match n with | 2008 => some [(3,.plain)] | _ => none,join := fun n => match n with | 1016 => some [(1,.plain)] | 2014 => some [(3,.plain)] | 4003 => some [(3,.plain)] | _ => none }
def ef24_a : Ty18 → St := fun (a0_0,a0_1,a0_2,a0_3,a0_4) => { tmps := [(0,(.agg 5 (.segs (.cons 1 (.one (.int .i64 a0_0)) (.cons 1 (.one (.int .i64 a0_1)) (.cons 1 (.one (.int .i64 a0_2)) (.cons 1 (.one (.str a0_3)) (.cons 1 (.one (.vs (.rI .i64 a0_4) 0 1)) .nil))))))))],heap := [],next := 0,nt := 22,m := 0 }
def ef24j1 : Ty18 → St := fun (x1,x2,x3,x4,x5) => { tmps := [(1,(.ptr 0 0 5 0 0 0 5))],heap := [(0,(.cells 5 (.segs (.cons 1 (.one (.int .i64 x1)) (.cons 1 (.one (.int .i64 x2)) (.cons 1 (.one (.int .i64 x3)) (.cons 1 (.one (.str x4)) (.cons 1 (.one (.vs (.rI .i64 x5) 0 1)) .nil)))))) true))],next := 1,nt := 22,m := 0 }
def ef24j2 : (List Int) → St := fun t3 => { tmps := [(3,(.str t3))],heap := [],next := 0,nt := 22,m := 0 }
def ef24l1 : (List Int) → St := fun t3 => { tmps := [(3,(.str t3))],heap := [],next := 0,nt := 22,m := 0 }
def ef24j3 : (List Int) → St := fun t3 => { tmps := [(3,(.str t3))],heap := [],next := 0,nt := 22,m := 0 }
def f24_1 (F : Nat) (kf24j1 : Ty18 → Rz) : Ty18 → Rz := fun (a0_0,a0_1,a0_2,a0_3,a0_4) => (kf24j1 (a0_0,a0_1,a0_2,a0_3,a0_4))
theorem f24_1_eq (F : Nat) (Rf24j1 : St → Rz) : ∀ v,aexec VG3524 (Af24 F) (bp Try.f24 2) (ef24_a v) (kSeq (kc VG3524 Rf24j1 [(1,.plain)]) (kFin VG3524 none (Try.f24).results.toList)) = f24_1 F (Rf24j1 ∘ ef24j1) v := by
  rintro ⟨a0_0,a0_1,a0_2,a0_3,a0_4⟩; kernel_rfl
def f24_2 (F : Nat) (kf24j2 : (List Int) → Rz) : Ty18 → Rz := fun (x1,x2,x3,x4,x5) => (kf24j2 x4)
theorem f24_2_eq (F : Nat) (Rf24j2 : St → Rz) : ∀ v,aexec VG3524 (Af24 F) (bp Try.f24 6) (ef24j1 v) (kSeq (kc VG3524 Rf24j2 [(3,.plain)]) (kFin VG3524 none (Try.f24).results.toList)) = f24_2 F (Rf24j2 ∘ ef24j2) v := by
  rintro ⟨x1,x2,x3,x4,x5⟩; kernel_rfl
def f24_3 (F : Nat) (kf24l1 : (List Int) → Rz) (kf24j3 : (List Int) → Rz) : (List Int) → Rz := fun t3 => (cond (decide ((↑t3.length : Int) > (0 : Int))) (cond (decide ((↑t3.length : Int) < (64 : Int))) (cond (((decide (0 ≤ (IntKind.i64.wrap ((↑t3.length : Int) - (1 : Int))))) && (decide ((IntKind.i64.wrap ((↑t3.length : Int) - (1 : Int))) ≤ (↑t3.length : Int)))) && (decide ((↑t3.length : Int) ≤ (↑t3.length : Int)))) (cond (decide ((t3.length + ((t3.take t3.length).drop (Int.toNat (IntKind.i64.wrap ((↑t3.length : Int) - (1 : Int))))).length) < 4611686018427387904)) (kf24l1 (t3 ++ ((t3.take t3.length).drop (Int.toNat (IntKind.i64.wrap ((↑t3.length : Int) - (1 : Int))))))) none) none) (kf24j3 t3)) (kf24j3 t3))
theorem f24_3_eq (F : Nat) (Rf24l1 : St → Rz) (Rf24j3 : St → Rz) : ∀ v,aexec VG3524 (Af24 F) (bp Try.f24 56) (ef24l1 v) (kSeq (kc VG3524 Rf24l1 [(3,.plain)]) (kBlock 0 (kSeq (kc VG3524 Rf24j3 [(3,.plain)]) (kFin VG3524 none (Try.f24).results.toList)))) = f24_3 F (Rf24l1 ∘ ef24l1) (Rf24j3 ∘ ef24j3) v := by
  intro t3; kernel_rfl
def f24_4_i : (List Int) → (List Int) := fun t3 => t3
def f24_4 (F : Nat) (kf24j3 : (List Int) → Rz) : (List Int) → Rz := fun v => loopN (fun k => f24_3 F k kf24j3) F (f24_4_i v)
theorem f24_4_eq (F : Nat) (Rf24j3 : St → Rz) : ∀ v,aexec VG3524 (Af24 F) (bp Try.f24 28) (ef24j2 v) (kBlock 0 (kSeq (kc VG3524 Rf24j3 [(3,.plain)]) (kFin VG3524 none (Try.f24).results.toList))) = f24_4 F (Rf24j3 ∘ ef24j3) v :=
  loop_cut (by kernel_rfl) (by kernel_rfl) ef24j2 ef24l1 _ f24_4_i (fun k => f24_3 F k (Rf24j3 ∘ ef24j3))
    (by intro t3; kernel_rfl) (fun Rf24l1 => f24_3_eq F Rf24l1 Rf24j3)
def f24_5 (F : Nat) (kf24j3 : (List Int) → Rz) : (List Int) → Rz := f24_4 F kf24j3
theorem f24_5_eq (F : Nat) (Rf24j3 : St → Rz) : ∀ v,aexec VG3524 (Af24 F) (bp Try.f24 14) (ef24j2 v) (kSeq (kc VG3524 Rf24j3 [(3,.plain)]) (kFin VG3524 none (Try.f24).results.toList)) = f24_5 F (Rf24j3 ∘ ef24j3) v := fun v =>
  (block_in  (by kernel_rfl) _ _).trans (f24_4_eq F Rf24j3 v)
def f24_6 (F : Nat) : (List Int) → Rz := fun t3 => (some ((.str t3),[]))
theorem f24_6_eq (F : Nat) : ∀ v,aexec VG3524 (Af24 F) (bp Try.f24 15) (ef24j3 v) (kFin VG3524 none (Try.f24).results.toList) = f24_6 F v := by
  intro t3; kernel_rfl
def f24_7 (F : Nat) : (List Int) → Rz := fun v => f24_5 F (f24_6 F) v
theorem f24_7_eq (F : Nat) : ∀ v,aexec VG3524 (Af24 F) (bp Try.f24 7) (ef24j2 v) (kFin VG3524 none (Try.f24).results.toList) = f24_7 F v :=
  seq_cut (by kernel_rfl) (by kernel_rfl) ef24j2 ef24j3 _ (fun k => f24_5 F k) (f24_6 F)
    (fun Rf24j3 => f24_5_eq F Rf24j3) (f24_6_eq F)
def f24_8 (F : Nat) : Ty18 → Rz := fun v => f24_2 F (f24_7 F) v
theorem f24_8_eq (F : Nat) : ∀ v,aexec VG3524 (Af24 F) (bp Try.f24 3) (ef24j1 v) (kFin VG3524 none (Try.f24).results.toList) = f24_8 F v :=
  seq_cut (by kernel_rfl) (by kernel_rfl) ef24j1 ef24j2 _ (fun k => f24_2 F k) (f24_7 F)
    (fun Rf24j2 => f24_2_eq F Rf24j2) (f24_7_eq F)
def f24_9 (F : Nat) : Ty18 → Rz := fun v => f24_1 F (f24_8 F) v
theorem f24_9_eq (F : Nat) : ∀ v,aexec VG3524 (Af24 F) (sub (bodyOf Try.f24) []) (ef24_a v) (kFin VG3524 none (Try.f24).results.toList) = f24_9 F v :=
  seq_cut (by kernel_rfl) (by kernel_rfl) ef24_a ef24j1 _ (fun k => f24_1 F k) (f24_8 F)
    (fun Rf24j1 => f24_1_eq F Rf24j1) (f24_8_eq F)
def f24 (F : Nat) : Ty18 → Rz := f24_9 F
theorem f24_body (F : Nat) (a0_0 : Int) (a0_1 : Int) (a0_2 : Int) (a0_3 : List Int) (a0_4 : List Int) : abody VG3524 (Af24 F) Try.f24 [(.agg 5 (.segs (.cons 1 (.one (.int .i64 a0_0)) (.cons 1 (.one (.int .i64 a0_1)) (.cons 1 (.one (.int .i64 a0_2)) (.cons 1 (.one (.str a0_3)) (.cons 1 (.one (.vs (.rI .i64 a0_4) 0 1)) .nil)))))))] [] = f24 F (a0_0,a0_1,a0_2,a0_3,a0_4) :=
  (abody_in (c := (sub (bodyOf Try.f24) [])) (by kernel_rfl) (s := ef24_a (a0_0,a0_1,a0_2,a0_3,a0_4)) (by kernel_rfl)).trans (f24_9_eq F (a0_0,a0_1,a0_2,a0_3,a0_4))
def r24 : CRun := fun X H => match X,H with
  | [(.agg 5 (.segs (.cons 1 (.one (.int .i64 a0_0)) (.cons 1 (.one (.int .i64 a0_1)) (.cons 1 (.one (.int .i64 a0_2)) (.cons 1 (.one (.str a0_3)) (.cons 1 (.one (.vs (.rI .i64 a0_4) 0 1)) .nil)))))))],[] => some (true,(.str (Dk.text a0_3)),[])
  | _,_ => none
theorem s24 (a0_0 : Int) (a0_1 : Int) (a0_2 : Int) (a0_3 : List Int) (a0_4 : List Int) (h0 : okV (.agg 5 (.segs (.cons 1 (.one (.int .i64 a0_0)) (.cons 1 (.one (.int .i64 a0_1)) (.cons 1 (.one (.int .i64 a0_2)) (.cons 1 (.one (.str a0_3)) (.cons 1 (.one (.vs (.rI .i64 a0_4) 0 1)) .nil)))))))) : ∃ F,f24 F (a0_0,a0_1,a0_2,a0_3,a0_4) = some ((.str (Dk.text a0_3)),[]) := by
  refine ⟨65,?_⟩
  simp only [f24,f24_9,f24_1,f24_8,f24_2,f24_7,f24_5,f24_6,f24_4,f24_4_i]
  by_cases h0 : 0 < a0_3.length
  · have key : ∀ (l : List Int),0 < l.length → ((l.take l.length).drop (Int.toNat (IntKind.i64.wrap ((l.length : Int) - 1)))) = [l.getD (l.length - 1) 0] ∨ 64 ≤ l.length := fun l hl => by
      by_cases h : l.length < 64
      · left
        rw [i64w (by omega) (by omega),List.take_length,show Int.toNat ((l.length : Int) - 1) = l.length - 1 by omega,List.drop_eq_getElem_cons (by omega),List.getD_eq_getElem?_getD,List.getElem?_eq_getElem (by omega)]
        rw [show l.length - 1 + 1 = l.length by omega,List.drop_length]; rfl
      · right; omega
    have hlast : ∀ k,(a0_3 ++ List.replicate k (a0_3.getD (a0_3.length - 1) 0)).getD ((a0_3 ++ List.replicate k (a0_3.getD (a0_3.length - 1) 0)).length - 1) 0 = a0_3.getD (a0_3.length - 1) 0 := fun k => by
      cases k with
      | zero => simp
      | succ k =>
        rw [List.length_append,List.length_replicate,List.getD_eq_getElem?_getD,List.getElem?_append_right (by omega),List.getElem?_replicate,if_pos (by omega)]; rfl
    refine loopN_from (fun k => a0_3 ++ List.replicate k (a0_3.getD (a0_3.length - 1) 0)) (64 - a0_3.length) (by simp) (fun k hk K => ?_) (fun K => ?_) 65 (by omega)
    · have hl : (a0_3 ++ List.replicate k (a0_3.getD (a0_3.length - 1) 0)).length = a0_3.length + k := by simp
      have hx := (key (a0_3 ++ List.replicate k (a0_3.getD (a0_3.length - 1) 0)) (by omega)).resolve_right (by omega)
      rw [hlast] at hx
      revert hx hl
      rw [List.replicate_succ',← List.append_assoc]
      generalize a0_3 ++ List.replicate k (a0_3.getD (a0_3.length - 1) 0) = l
      intro hl hx
      simp only [f24_3,hx]
      rw [cond_pos (by omega),cond_pos (by omega),i64w (by omega) (by omega)]
      have e : ((decide (0 ≤ (l.length : Int) - 1) && decide ((l.length : Int) - 1 ≤ (l.length : Int))) && decide ((l.length : Int) ≤ (l.length : Int))) = true := by simp; omega
      rw [e,cond_true,cond_pos (by simp; omega)]
    · simp only [f24_3]
      have hl : (a0_3 ++ List.replicate (64 - a0_3.length) (a0_3.getD (a0_3.length - 1) 0)).length = a0_3.length + (64 - a0_3.length) := by simp
      rw [cond_pos (by omega),cond_neg (by omega)]
      simp only [Dk.text,cond_pos h0]
      rfl
  · have e : a0_3 = [] := List.length_eq_zero_iff.1 (by omega)
    subst e
    rfl

theorem c24 : CallOk Try.prog G35 24 r24 := callOk_of (V := VG3524) mixed tys eVG3524 (f := 24) (fn := Try.f24) Try.func24 (by kernel_rfl) (c := sub (bodyOf Try.f24) []) (by kernel_rfl) (by
  intro X H r H' h hX hH
  unfold r24 at h; split at h <;> try contradiction
  · simp only [Option.some.injEq,Prod.mk.injEq] at h
    obtain ⟨hp,rfl,rfl⟩ := h
    obtain ⟨F,hF⟩ := s24 _ _ _ _ _ (hX _ (.head _))
    exact ⟨Af24 F,(f24_body F _ _ _ _ _).trans hF⟩)
end Go.Am
