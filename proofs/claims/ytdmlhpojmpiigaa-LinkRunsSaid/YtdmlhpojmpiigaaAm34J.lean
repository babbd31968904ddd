/- Part of a proof about the functions of the given program. -/
import Derived.Test.YtdmlhpojmpiigaaAm34D
import Derived.Test.YtdmlhpojmpiigaaAmLink8
set_option linter.unusedVariables false
set_option linter.unusedSimpArgs false
namespace Go.Am
open Go Go.Proofs
abbrev sp42 : List (Nat × Md) := [(0,.plain),(3,.own 33),(4,.plain)]
abbrev sp43 : List (Nat × Md) := [(0,.plain),(10,.own 33)]
abbrev sp44 : List (Nat × Md) := [(0,.plain),(6,.plain),(7,.plain)]
abbrev sp45 : List (Nat × Md) := [(0,.plain),(8,.plain),(9,.plain)]
abbrev Ty39 := Int × Int × (List (List Int)) × Int × Int × Nat × (List (List (List Int))) × Bool × Int × Int
abbrev Ty40 := Int × Int × Int × Int × Int × Nat × Bool × Int × (List (List Int)) × (List (List (List Int)))
abbrev Ty41 := Int × Int × Int × Int × Int × Int × Nat × Bool × Int × (List (List Int)) × (List (List (List Int)))
abbrev Ty42 := Int × Int × Int × Int × Nat × Bool × Int × (List (List Int)) × (List (List (List Int)))
abbrev Ty43 := Int × Int × (List (List Int)) × Int × Int × Nat × (List (List (List Int))) × Bool × Int × (List Int)
abbrev Ty44 := Int × Int × (List (List Int)) × Int × Int × Nat × (List (List (List Int))) × Bool × Int
abbrev Ty45 := Int × Int × Int × Int × Int × Nat × Bool × Int × (List (List Int)) × (List (List (List Int))) × (List (List Int))
abbrev Ty46 := Int × Int × Int × Int × Nat × Bool × Int × (List (List Int)) × (List (List (List Int))) × (List (List Int))
abbrev Ty47 := (List Int) × Int × Int × Int × Int × Nat × Bool × Int × (List (List Int)) × (List (List (List Int)))
abbrev Ty48 := (List Int) × Int × Int × Int × Int × Int × Nat × Bool × Int × (List (List Int)) × (List (List (List Int)))
abbrev Ty49 := Bool × Int × Int × Int × Int × Nat × Bool × Int × (List (List Int)) × (List (List (List Int))) × Int × Int × (List Int)
abbrev Ty50 := Int × Int × Int × Int × Nat × Bool × Int × (List (List Int)) × (List (List (List Int))) × Int × Int × (List Int)
abbrev Ty51 := Int × Int × Int × Int × Nat × Bool × Int × (List (List Int)) × (List (List Int)) × (List (List (List Int)))

def lVG3440 : List CEnt := []
def VG3440 : Env := mkEnv T34 G34 lVG3440
theorem eVG3440 : EOk Try.prog VG3440 := eok_mk (by exact trivial)
def Af40 (F : Nat) : Cuts := { F := F,at_ := fun n => match n with | 2016 => some sp9 | _ => none,join := fun n => match n with | 1024 => some [(0,.plain),(1,.plain)] | 2018 => some sp9 | 6003 => some [] | _ => none }
def ef40_a : Ty39 → St := fun (a0w,a0k,a0l,a0a,a0g,a0n,a0h,a0o,a0f,a1) => { tmps := [(0,(.ptr 0 0 8 0 0 0 8)),(1,(.int .i64 a1))],heap := [(0,(.cells 8 (.segs (.cons 1 (.one (.int .i64 a0w)) (.cons 1 (.one (.int .u64 a0k)) (.cons 1 (.one (.own 1 0 1)) (.cons 1 (.one (.int .i64 a0a)) (.cons 1 (.one (.int .i64 a0g)) (.cons 1 (.one (.own 2 a0n 2)) (.cons 1 (.one (.bool a0o)) (.cons 1 (.one (.int .i64 a0f)) .nil))))))))) true)),(1,(.cells a0l.length (.rL .u8 a0l) true)),(2,(.cells (a0n * 2) (.rT [.int .i64,.sl .u8] a0h) true))],next := 3,nt := 26,m := 3 }
def ef40j1 : Ty40 → St := fun (t1,x2,x3,x4,x5,x6,x7,x8,x9,x10) => { tmps := [(0,(.ptr 0 0 8 0 0 0 8)),(1,(.int .i64 t1))],heap := [(0,(.cells 8 (.segs (.cons 1 (.one (.int .i64 x2)) (.cons 1 (.one (.int .u64 x3)) (.cons 1 (.one (.own 1 0 1)) (.cons 1 (.one (.int .i64 x4)) (.cons 1 (.one (.int .i64 x5)) (.cons 1 (.one (.own 2 x6 2)) (.cons 1 (.one (.bool x7)) (.cons 1 (.one (.int .i64 x8)) .nil))))))))) true)),(1,(.cells x9.length (.rL .u8 x9) true)),(2,(.cells (x6 * 2) (.rT [.int .i64,.sl .u8] x10) true))],next := 3,nt := 26,m := 3 }
def ef40j2 : Ty41 → St := fun (t1,t5,x3,x4,x5,x6,x7,x8,x9,x10,x11) => { tmps := [(0,(.ptr 0 0 8 0 0 0 8)),(1,(.int .i64 t1)),(5,(.int .i64 t5))],heap := [(0,(.cells 8 (.segs (.cons 1 (.one (.int .i64 x3)) (.cons 1 (.one (.int .u64 x4)) (.cons 1 (.one (.own 1 0 1)) (.cons 1 (.one (.int .i64 x5)) (.cons 1 (.one (.int .i64 x6)) (.cons 1 (.one (.own 2 x7 2)) (.cons 1 (.one (.bool x8)) (.cons 1 (.one (.int .i64 x9)) .nil))))))))) true)),(1,(.cells x10.length (.rL .u8 x10) true)),(2,(.cells (x7 * 2) (.rT [.int .i64,.sl .u8] x11) true))],next := 3,nt := 26,m := 3 }
def ef40l1 : Ty41 → St := fun (t1,t5,x3,x4,x5,x6,x7,x8,x9,x10,x11) => { tmps := [(0,(.ptr 0 0 8 0 0 0 8)),(1,(.int .i64 t1)),(5,(.int .i64 t5))],heap := [(0,(.cells 8 (.segs (.cons 1 (.one (.int .i64 x3)) (.cons 1 (.one (.int .u64 x4)) (.cons 1 (.one (.own 1 0 1)) (.cons 1 (.one (.int .i64 x5)) (.cons 1 (.one (.int .i64 x6)) (.cons 1 (.one (.own 2 x7 2)) (.cons 1 (.one (.bool x8)) (.cons 1 (.one (.int .i64 x9)) .nil))))))))) true)),(1,(.cells x10.length (.rL .u8 x10) true)),(2,(.cells (x7 * 2) (.rT [.int .i64,.sl .u8] x11) true))],next := 3,nt := 26,m := 3 }
def ef40j3 : Ty42 → St := fun (x1,x2,x3,x4,x5,x6,x7,x8,x9) => { tmps := [],heap := [(0,(.cells 8 (.segs (.cons 1 (.one (.int .i64 x1)) (.cons 1 (.one (.int .u64 x2)) (.cons 1 (.one (.own 1 0 1)) (.cons 1 (.one (.int .i64 x3)) (.cons 1 (.one (.int .i64 x4)) (.cons 1 (.one (.own 2 x5 2)) (.cons 1 (.one (.bool x6)) (.cons 1 (.one (.int .i64 x7)) .nil))))))))) true)),(1,(.cells x8.length (.rL .u8 x8) true)),(2,(.cells (x5 * 2) (.rT [.int .i64,.sl .u8] x9) true))],next := 3,nt := 26,m := 3 }
def f40_1 (F : Nat) (kf40j1 : Ty40 → Rz) : Ty39 → Rz := fun (a0w,a0k,a0l,a0a,a0g,a0n,a0h,a0o,a0f,a1) => (kf40j1 (a1,a0w,a0k,a0a,a0g,a0n,a0o,a0f,a0l,a0h))
theorem f40_1_eq (F : Nat) (Rf40j1 : St → Rz) : ∀ v,aexec VG3440 (Af40 F) (bp Try.f40 2) (ef40_a v) (kSeq (kc VG3440 Rf40j1 [(0,.plain),(1,.plain)]) (kFin VG3440 none (Try.f40).results.toList)) = f40_1 F (Rf40j1 ∘ ef40j1) v := by
  rintro ⟨a0w,a0k,a0l,a0a,a0g,a0n,a0h,a0o,a0f,a1⟩; kernel_rfl
def f40_2 (F : Nat) (kf40j2 : Ty41 → Rz) (kf40j3 : Ty42 → Rz) : Ty40 → Rz := fun (t1,x2,x3,x4,x5,x6,x7,x8,x9,x10) => (kf40j2 (t1,(0 : Int),x2,x3,x4,x5,x6,x7,x8,x9,x10))
theorem f40_2_eq (F : Nat) (Rf40j2 : St → Rz) (Rf40j3 : St → Rz) : ∀ v,aexec VG3440 (Af40 F) (bp Try.f40 12) (ef40j1 v) (kSeq (kc VG3440 Rf40j2 sp9) (kSeq (kc VG3440 Rf40j3 []) (kFin VG3440 none (Try.f40).results.toList))) = f40_2 F (Rf40j2 ∘ ef40j2) (Rf40j3 ∘ ef40j3) v := by
  rintro ⟨t1,x2,x3,x4,x5,x6,x7,x8,x9,x10⟩; kernel_rfl
def f40_3 (F : Nat) (kf40l1 : Ty41 → Rz) (kf40j3 : Ty42 → Rz) : Ty41 → Rz := fun (t1,t5,x3,x4,x5,x6,x7,x8,x9,x10,x11) => (cond (decide (t5 < (↑x7 : Int))) (cond ((decide (0 ≤ t5)) && (decide (t5 < (↑x7 : Int)))) (cond ((((x11.getD (Int.toNat t5) []).getD 0 []).getD 0 0) == t1) (some ((.int .i64 t5),[(.cells 8 (.segs (.cons 1 (.one (.int .i64 x3)) (.cons 1 (.one (.int .u64 x4)) (.cons 1 (.one (.own 1 0 1)) (.cons 1 (.one (.int .i64 x5)) (.cons 1 (.one (.int .i64 x6)) (.cons 1 (.one (.own 2 x7 2)) (.cons 1 (.one (.bool x8)) (.cons 1 (.one (.int .i64 x9)) .nil))))))))) true),(.cells x10.length (.rL .u8 x10) true),(.cells (x7 * 2) (.rT [.int .i64,.sl .u8] x11) true)])) (kf40l1 (t1,(IntKind.i64.wrap (t5 + (1 : Int))),x3,x4,x5,x6,x7,x8,x9,x10,x11))) none) (kf40j3 (x3,x4,x5,x6,x7,x8,x9,x10,x11)))
theorem f40_3_eq (F : Nat) (Rf40l1 : St → Rz) (Rf40j3 : St → Rz) : ∀ v,aexec VG3440 (Af40 F) (bp Try.f40 52) (ef40l1 v) (kSeq (kc VG3440 Rf40l1 sp9) (kBlock 0 (kSeq (kc VG3440 Rf40j3 []) (kFin VG3440 none (Try.f40).results.toList)))) = f40_3 F (Rf40l1 ∘ ef40l1) (Rf40j3 ∘ ef40j3) v := by
  rintro ⟨t1,t5,x3,x4,x5,x6,x7,x8,x9,x10,x11⟩; kernel_rfl
def f40_4_i : Ty41 → Int × Int × Int × Int × Int × Int × Nat × Bool × Int × (List (List Int)) × (List (List (List Int))) := fun (t1,t5,x3,x4,x5,x6,x7,x8,x9,x10,x11) => (t1,t5,x3,x4,x5,x6,x7,x8,x9,x10,x11)
def f40_4 (F : Nat) (kf40j3 : Ty42 → Rz) : Ty41 → Rz := fun v => loopN (fun k => f40_3 F k kf40j3) F (f40_4_i v)
theorem f40_4_eq (F : Nat) (Rf40j3 : St → Rz) : ∀ v,aexec VG3440 (Af40 F) (bp Try.f40 26) (ef40j2 v) (kBlock 0 (kSeq (kc VG3440 Rf40j3 []) (kFin VG3440 none (Try.f40).results.toList))) = f40_4 F (Rf40j3 ∘ ef40j3) v :=
  loop_cut (by kernel_rfl) (by kernel_rfl) ef40j2 ef40l1 _ f40_4_i (fun k => f40_3 F k (Rf40j3 ∘ ef40j3))
    (by rintro ⟨t1,t5,x3,x4,x5,x6,x7,x8,x9,x10,x11⟩; kernel_rfl) (fun Rf40l1 => f40_3_eq F Rf40l1 Rf40j3)
def f40_5 (F : Nat) (kf40j3 : Ty42 → Rz) : Ty41 → Rz := f40_4 F kf40j3
theorem f40_5_eq (F : Nat) (Rf40j3 : St → Rz) : ∀ v,aexec VG3440 (Af40 F) (bp Try.f40 13) (ef40j2 v) (kSeq (kc VG3440 Rf40j3 []) (kFin VG3440 none (Try.f40).results.toList)) = f40_5 F (Rf40j3 ∘ ef40j3) v := fun v =>
  (block_in  (by kernel_rfl) _ _).trans (f40_4_eq F Rf40j3 v)
def f40_6 (F : Nat) (kf40j3 : Ty42 → Rz) : Ty40 → Rz := fun v => f40_2 F (f40_5 F kf40j3) kf40j3 v
theorem f40_6_eq (F : Nat) (Rf40j3 : St → Rz) : ∀ v,aexec VG3440 (Af40 F) (bp Try.f40 6) (ef40j1 v) (kSeq (kc VG3440 Rf40j3 []) (kFin VG3440 none (Try.f40).results.toList)) = f40_6 F (Rf40j3 ∘ ef40j3) v :=
  seq_cut (by kernel_rfl) (by kernel_rfl) ef40j1 ef40j2 _ (fun k => f40_2 F k (Rf40j3 ∘ ef40j3)) (f40_5 F (Rf40j3 ∘ ef40j3))
    (fun Rf40j2 => f40_2_eq F Rf40j2 Rf40j3) (f40_5_eq F Rf40j3)
def f40_7 (F : Nat) : Ty42 → Rz := fun (x1,x2,x3,x4,x5,x6,x7,x8,x9) => (some ((.int .i64 (-1 : Int)),[(.cells 8 (.segs (.cons 1 (.one (.int .i64 x1)) (.cons 1 (.one (.int .u64 x2)) (.cons 1 (.one (.own 1 0 1)) (.cons 1 (.one (.int .i64 x3)) (.cons 1 (.one (.int .i64 x4)) (.cons 1 (.one (.own 2 x5 2)) (.cons 1 (.one (.bool x6)) (.cons 1 (.one (.int .i64 x7)) .nil))))))))) true),(.cells x8.length (.rL .u8 x8) true),(.cells (x5 * 2) (.rT [.int .i64,.sl .u8] x9) true)]))
theorem f40_7_eq (F : Nat) : ∀ v,aexec VG3440 (Af40 F) (bp Try.f40 7) (ef40j3 v) (kFin VG3440 none (Try.f40).results.toList) = f40_7 F v := by
  rintro ⟨x1,x2,x3,x4,x5,x6,x7,x8,x9⟩; kernel_rfl
def f40_8 (F : Nat) : Ty40 → Rz := fun v => f40_6 F (f40_7 F) v
theorem f40_8_eq (F : Nat) : ∀ v,aexec VG3440 (Af40 F) (bp Try.f40 3) (ef40j1 v) (kFin VG3440 none (Try.f40).results.toList) = f40_8 F v :=
  seq_cut (by kernel_rfl) (by kernel_rfl) ef40j1 ef40j3 _ (fun k => f40_6 F k) (f40_7 F)
    (fun Rf40j3 => f40_6_eq F Rf40j3) (f40_7_eq F)
def f40_9 (F : Nat) : Ty39 → Rz := fun v => f40_1 F (f40_8 F) v
theorem f40_9_eq (F : Nat) : ∀ v,aexec VG3440 (Af40 F) (sub (bodyOf Try.f40) []) (ef40_a v) (kFin VG3440 none (Try.f40).results.toList) = f40_9 F v :=
  seq_cut (by kernel_rfl) (by kernel_rfl) ef40_a ef40j1 _ (fun k => f40_1 F k) (f40_8 F)
    (fun Rf40j1 => f40_1_eq F Rf40j1) (f40_8_eq F)
def f40 (F : Nat) : Ty39 → Rz := f40_9 F
theorem f40_body (F : Nat) (a0w : Int) (a0k : Int) (a0l : List (List Int)) (a0a : Int) (a0g : Int) (a0n : Nat) (a0h : List (List (List Int))) (a0o : Bool) (a0f : Int) (a1 : Int) : abody VG3440 (Af40 F) Try.f40 [(.ptr 0 0 8 0 0 0 8),(.int .i64 a1)] [(.cells 8 (.segs (.cons 1 (.one (.int .i64 a0w)) (.cons 1 (.one (.int .u64 a0k)) (.cons 1 (.one (.own 1 0 1)) (.cons 1 (.one (.int .i64 a0a)) (.cons 1 (.one (.int .i64 a0g)) (.cons 1 (.one (.own 2 a0n 2)) (.cons 1 (.one (.bool a0o)) (.cons 1 (.one (.int .i64 a0f)) .nil))))))))) true),(.cells a0l.length (.rL .u8 a0l) true),(.cells (a0n * 2) (.rT [.int .i64,.sl .u8] a0h) true)] = f40 F (a0w,a0k,a0l,a0a,a0g,a0n,a0h,a0o,a0f,a1) :=
  (abody_in (c := (sub (bodyOf Try.f40) [])) (by kernel_rfl) (s := ef40_a (a0w,a0k,a0l,a0a,a0g,a0n,a0h,a0o,a0f,a1)) (by kernel_rfl)).trans (f40_9_eq F (a0w,a0k,a0l,a0a,a0g,a0n,a0h,a0o,a0f,a1))
def r40 : CRun := fun X H => match X,H with
  | [(.ptr 0 0 8 0 0 0 8),(.int .i64 a1)],[(.cells 8 (.segs (.cons 1 (.one (.int .i64 a0w)) (.cons 1 (.one (.int .u64 a0k)) (.cons 1 (.one (.own 1 0 1)) (.cons 1 (.one (.int .i64 a0a)) (.cons 1 (.one (.int .i64 a0g)) (.cons 1 (.one (.own 2 a0n 2)) (.cons 1 (.one (.bool a0o)) (.cons 1 (.one (.int .i64 a0f)) .nil))))))))) true),(.cells z1 (.rL .u8 a0l) true),(.cells z2 (.rT [.int .i64,.sl .u8] a0h) true)] => some ((Lk.rfineN 1073741824 a0n (Lk.R.mk a0w a0k a0l a0a a0g a0h a0o a0f)),(.int .i64 (Lk.rfind (Lk.R.mk a0w a0k a0l a0a a0g a0h a0o a0f).held a1)),[(Lk.bR (Lk.R.mk a0w a0k a0l a0a a0g a0h a0o a0f) 1 2),(.cells (Lk.R.mk a0w a0k a0l a0a a0g a0h a0o a0f).sent.length (.rL .u8 (Lk.R.mk a0w a0k a0l a0a a0g a0h a0o a0f).sent) true),(.cells ((Lk.R.mk a0w a0k a0l a0a a0g a0h a0o a0f).held.length * 2) (.rT [.int .i64,.sl .u8] (Lk.R.mk a0w a0k a0l a0a a0g a0h a0o a0f).held) true)])
  | _,_ => none
theorem s40 (a0w : Int) (a0k : Int) (a0l : List (List Int)) (a0a : Int) (a0g : Int) (a0n : Nat) (a0h : List (List (List Int))) (a0o : Bool) (a0f : Int) (a1 : Int) (hp : ((Lk.rfineN 1073741824 a0n (Lk.R.mk a0w a0k a0l a0a a0g a0h a0o a0f))) = true) (h1 : okV (.int .i64 a1)) (k0 : okB (.cells 8 (.segs (.cons 1 (.one (.int .i64 a0w)) (.cons 1 (.one (.int .u64 a0k)) (.cons 1 (.one (.own 1 0 1)) (.cons 1 (.one (.int .i64 a0a)) (.cons 1 (.one (.int .i64 a0g)) (.cons 1 (.one (.own 2 a0n 2)) (.cons 1 (.one (.bool a0o)) (.cons 1 (.one (.int .i64 a0f)) .nil))))))))) true)) (k1 : okB (.cells a0l.length (.rL .u8 a0l) true)) (k2 : okB (.cells (a0n * 2) (.rT [.int .i64,.sl .u8] a0h) true)) : ∃ F,f40 F (a0w,a0k,a0l,a0a,a0g,a0n,a0h,a0o,a0f,a1) = some ((.int .i64 (Lk.rfind (Lk.R.mk a0w a0k a0l a0a a0g a0h a0o a0f).held a1)),[(Lk.bR (Lk.R.mk a0w a0k a0l a0a a0g a0h a0o a0f) 1 2),(.cells (Lk.R.mk a0w a0k a0l a0a a0g a0h a0o a0f).sent.length (.rL .u8 (Lk.R.mk a0w a0k a0l a0a a0g a0h a0o a0f).sent) true),(.cells ((Lk.R.mk a0w a0k a0l a0a a0g a0h a0o a0f).held.length * 2) (.rT [.int .i64,.sl .u8] (Lk.R.mk a0w a0k a0l a0a a0g a0h a0o a0f).held) true)]) := by
  obtain ⟨q0,q1,q2,q3,q4,q5,q6,q7⟩ := Lk.rfineN_iff.1 hp
  simp only at q0 q7
  subst q0
  refine ⟨a0h.length + 1,?_⟩
  simp only [f40,f40_9,f40_1,f40_8,f40_6,f40_2,f40_5,f40_4,f40_4_i]
  refine loopN_ind (fun m s => ∃ i : Nat,s = (a1,(i : Int),a0w,a0k,a0a,a0g,a0h.length,a0o,a0f,a0l,a0h) ∧ i + m = a0h.length ∧ Lk.findN (a0h.drop i) a1 i = Lk.rfind a0h a1) ?_ _ a0h.length _ (by omega) ⟨0,rfl,by omega,rfl⟩
  rintro m s k ⟨i,rfl,hm,hf⟩ hk
  simp only [f40_3,dec_and,int_beq,Int.toNat_natCast]
  by_cases hi : i < a0h.length
  · have hd : a0h.drop i = a0h.getD i [] :: a0h.drop (i + 1) := by
      rw [List.drop_eq_getElem_cons hi,List.getD_eq_getElem?_getD,List.getElem?_eq_getElem hi]; rfl
    rw [hd,Lk.findN] at hf
    rw [cond_pos (by omega),cond_pos (by omega)]
    by_cases hx : ((a0h.getD i []).getD 0 []).getD 0 0 = a1
    · rw [if_pos hx] at hf
      rw [cond_pos hx,hf]
    · rw [if_neg hx] at hf
      rw [cond_neg hx,i64w (by omega) (by omega)]
      exact hk (m - 1) _ (by omega) ⟨i + 1,rfl,by omega,hf⟩
  · rw [List.drop_eq_nil_of_le (by omega)] at hf
    rw [cond_neg (by omega),f40_7,← hf]
    rfl

theorem c40 : CallOk Try.prog G34 40 r40 := callOk_of (V := VG3440) mixed tys eVG3440 (f := 40) (fn := Try.f40) Try.func40 (by kernel_rfl) (c := sub (bodyOf Try.f40) []) (by kernel_rfl) (by
  intro X H r H' h hX hH
  unfold r40 at h; split at h <;> try contradiction
  · simp only [Option.some.injEq,Prod.mk.injEq] at h
    obtain ⟨hp,rfl,rfl⟩ := h
    obtain rfl := okB_size (hH _ (.tail _ (.head _))) rfl
    obtain rfl := okB_size (hH _ (.tail _ (.tail _ (.head _)))) rfl
    obtain rfl := (Lk.rfineN_iff.1 hp).1
    obtain ⟨F,hF⟩ := s40 _ _ _ _ _ _ _ _ _ _ hp (hX _ (.tail _ (.head _))) (hH _ (.head _)) (hH _ (.tail _ (.head _))) (hH _ (.tail _ (.tail _ (.head _))))
    exact ⟨Af40 F,(f40_body F _ _ _ _ _ _ _ _ _ _).trans hF⟩)
def lVG3412 : List CEnt := []
def VG3412 : Env := mkEnv T34 G34 lVG3412
theorem eVG3412 : EOk Try.prog VG3412 := eok_mk (by exact trivial)
def Af12 (F : Nat) : Cuts := { F := F,at_ := fun _ => none,join := fun _ => none,fin := (some [(4,.plain),(0,(.touch 2))]) }
def ef12_a : Ty43 → St := fun (a0w,a0k,a0l,a0a,a0g,a0n,a0h,a0o,a0f,a1) => { tmps := [(0,(.ptr 0 0 8 0 0 0 8)),(1,(.vs (.rI .u8 a1) 0 1))],heap := [(0,(.cells 8 (.segs (.cons 1 (.one (.int .i64 a0w)) (.cons 1 (.one (.int .u64 a0k)) (.cons 1 (.one (.own 1 0 1)) (.cons 1 (.one (.int .i64 a0a)) (.cons 1 (.one (.int .i64 a0g)) (.cons 1 (.one (.own 2 a0n 2)) (.cons 1 (.one (.bool a0o)) (.cons 1 (.one (.int .i64 a0f)) .nil))))))))) true)),(1,(.cells a0l.length (.rL .u8 a0l) true)),(2,(.cells (a0n * 2) (.rT [.int .i64,.sl .u8] a0h) true))],next := 3,nt := 31,m := 3 }
def f12_1 (F : Nat) : Ty43 → Rz := fun (a0w,a0k,a0l,a0a,a0g,a0n,a0h,a0o,a0f,a1) => (cond (decide ((↑a1.length : Int) > (65536 : Int))) (some ((.int .i64 (4 : Int)),[(.cells 8 (.segs (.cons 1 (.one (.int .i64 a0w)) (.cons 1 (.one (.int .u64 a0k)) (.cons 1 (.one (.own 3 0 1)) (.cons 1 (.one (.int .i64 a0a)) (.cons 1 (.one (.int .i64 a0g)) (.cons 1 (.one (.own 2 a0n 2)) (.cons 1 (.one (.bool a0o)) (.cons 1 (.one (.int .i64 a0f)) .nil))))))))) true),.gone,(.cells (a0n * 2) (.rT [.int .i64,.sl .u8] a0h) true),(.cells a0l.length (.rL .u8 a0l) true)])) (cond (decide ((IntKind.i64.wrap ((↑a0l.length : Int) - a0a)) ≥ (1000 : Int))) (some ((.int .i64 (4 : Int)),[(.cells 8 (.segs (.cons 1 (.one (.int .i64 a0w)) (.cons 1 (.one (.int .u64 a0k)) (.cons 1 (.one (.own 3 0 1)) (.cons 1 (.one (.int .i64 a0a)) (.cons 1 (.one (.int .i64 a0g)) (.cons 1 (.one (.own 2 a0n 2)) (.cons 1 (.one (.bool a0o)) (.cons 1 (.one (.int .i64 a0f)) .nil))))))))) true),.gone,(.cells (a0n * 2) (.rT [.int .i64,.sl .u8] a0h) true),(.cells a0l.length (.rL .u8 a0l) true)])) (cond (decide ((a0l.length + 1) < 1073741824)) (some ((.int .i64 (0 : Int)),[(.cells 8 (.segs (.cons 1 (.one (.int .i64 a0w)) (.cons 1 (.one (.int .u64 a0k)) (.cons 1 (.one (.own 3 0 1)) (.cons 1 (.one (.int .i64 a0a)) (.cons 1 (.one (.int .i64 a0g)) (.cons 1 (.one (.own 2 a0n 2)) (.cons 1 (.one (.bool a0o)) (.cons 1 (.one (.int .i64 a0f)) .nil))))))))) true),.gone,(.cells (a0n * 2) (.rT [.int .i64,.sl .u8] a0h) true),(.cells (a0l ++ [a1]).length (.rL .u8 (a0l ++ [a1])) true)])) none)))
theorem f12_1_eq (F : Nat) : ∀ v,aexec VG3412 (Af12 F) (sub (bodyOf Try.f12) []) (ef12_a v) (kFin VG3412 (some [(4,.plain),(0,(.touch 2))]) (Try.f12).results.toList) = f12_1 F v := by
  rintro ⟨a0w,a0k,a0l,a0a,a0g,a0n,a0h,a0o,a0f,a1⟩; kernel_rfl
def f12 (F : Nat) : Ty43 → Rz := f12_1 F
theorem f12_body (F : Nat) (a0w : Int) (a0k : Int) (a0l : List (List Int)) (a0a : Int) (a0g : Int) (a0n : Nat) (a0h : List (List (List Int))) (a0o : Bool) (a0f : Int) (a1 : List Int) : abody VG3412 (Af12 F) Try.f12 [(.ptr 0 0 8 0 0 0 8),(.vs (.rI .u8 a1) 0 1)] [(.cells 8 (.segs (.cons 1 (.one (.int .i64 a0w)) (.cons 1 (.one (.int .u64 a0k)) (.cons 1 (.one (.own 1 0 1)) (.cons 1 (.one (.int .i64 a0a)) (.cons 1 (.one (.int .i64 a0g)) (.cons 1 (.one (.own 2 a0n 2)) (.cons 1 (.one (.bool a0o)) (.cons 1 (.one (.int .i64 a0f)) .nil))))))))) true),(.cells a0l.length (.rL .u8 a0l) true),(.cells (a0n * 2) (.rT [.int .i64,.sl .u8] a0h) true)] = f12 F (a0w,a0k,a0l,a0a,a0g,a0n,a0h,a0o,a0f,a1) :=
  (abody_in (c := (sub (bodyOf Try.f12) [])) (by kernel_rfl) (s := ef12_a (a0w,a0k,a0l,a0a,a0g,a0n,a0h,a0o,a0f,a1)) (by kernel_rfl)).trans (f12_1_eq F (a0w,a0k,a0l,a0a,a0g,a0n,a0h,a0o,a0f,a1))
def r12 : CRun := fun X H => match X,H with
  | [(.ptr 0 0 8 0 0 0 8),(.vs (.rI .u8 a1) 0 1)],[(.cells 8 (.segs (.cons 1 (.one (.int .i64 a0w)) (.cons 1 (.one (.int .u64 a0k)) (.cons 1 (.one (.own 1 0 1)) (.cons 1 (.one (.int .i64 a0a)) (.cons 1 (.one (.int .i64 a0g)) (.cons 1 (.one (.own 2 a0n 2)) (.cons 1 (.one (.bool a0o)) (.cons 1 (.one (.int .i64 a0f)) .nil))))))))) true),(.cells z1 (.rL .u8 a0l) true),(.cells z2 (.rT [.int .i64,.sl .u8] a0h) true)] => some ((Lk.rfine a0n (Lk.R.mk a0w a0k a0l a0a a0g a0h a0o a0f)) && (decide (a1.length < 1073741000)),(.int .i64 (Lk.rsend (Lk.R.mk a0w a0k a0l a0a a0g a0h a0o a0f) a1).2),[(Lk.bR ((Lk.rsend (Lk.R.mk a0w a0k a0l a0a a0g a0h a0o a0f) a1).1) 3 2),.gone,(.cells ((Lk.rsend (Lk.R.mk a0w a0k a0l a0a a0g a0h a0o a0f) a1).1.held.length * 2) (.rT [.int .i64,.sl .u8] (Lk.rsend (Lk.R.mk a0w a0k a0l a0a a0g a0h a0o a0f) a1).1.held) true),(.cells (Lk.rsend (Lk.R.mk a0w a0k a0l a0a a0g a0h a0o a0f) a1).1.sent.length (.rL .u8 (Lk.rsend (Lk.R.mk a0w a0k a0l a0a a0g a0h a0o a0f) a1).1.sent) true)])
  | _,_ => none
theorem s12 (a0w : Int) (a0k : Int) (a0l : List (List Int)) (a0a : Int) (a0g : Int) (a0n : Nat) (a0h : List (List (List Int))) (a0o : Bool) (a0f : Int) (a1 : List Int) (hp : ((Lk.rfine a0n (Lk.R.mk a0w a0k a0l a0a a0g a0h a0o a0f)) && (decide (a1.length < 1073741000))) = true) (h1 : okV (.vs (.rI .u8 a1) 0 1)) (k0 : okB (.cells 8 (.segs (.cons 1 (.one (.int .i64 a0w)) (.cons 1 (.one (.int .u64 a0k)) (.cons 1 (.one (.own 1 0 1)) (.cons 1 (.one (.int .i64 a0a)) (.cons 1 (.one (.int .i64 a0g)) (.cons 1 (.one (.own 2 a0n 2)) (.cons 1 (.one (.bool a0o)) (.cons 1 (.one (.int .i64 a0f)) .nil))))))))) true)) (k1 : okB (.cells a0l.length (.rL .u8 a0l) true)) (k2 : okB (.cells (a0n * 2) (.rT [.int .i64,.sl .u8] a0h) true)) : ∃ F,f12 F (a0w,a0k,a0l,a0a,a0g,a0n,a0h,a0o,a0f,a1) = some ((.int .i64 (Lk.rsend (Lk.R.mk a0w a0k a0l a0a a0g a0h a0o a0f) a1).2),[(Lk.bR ((Lk.rsend (Lk.R.mk a0w a0k a0l a0a a0g a0h a0o a0f) a1).1) 3 2),.gone,(.cells ((Lk.rsend (Lk.R.mk a0w a0k a0l a0a a0g a0h a0o a0f) a1).1.held.length * 2) (.rT [.int .i64,.sl .u8] (Lk.rsend (Lk.R.mk a0w a0k a0l a0a a0g a0h a0o a0f) a1).1.held) true),(.cells (Lk.rsend (Lk.R.mk a0w a0k a0l a0a a0g a0h a0o a0f) a1).1.sent.length (.rL .u8 (Lk.rsend (Lk.R.mk a0w a0k a0l a0a a0g a0h a0o a0f) a1).1.sent) true)]) := by
  rw [Bool.and_eq_true,decide_eq_true_eq] at hp
  obtain ⟨q0,q1,q2,q3,q4,q5,q6,q7⟩ := Lk.rfineN_iff.1 hp.1
  simp only at q0 q2 q5
  subst q0
  refine ⟨0,?_⟩
  simp only [f12,f12_1,Lk.rsend]
  rw [i64w (by omega) (by omega)]
  by_cases h1 : 65536 < a1.length
  · rw [cond_pos (by omega),if_pos (.inl h1)]
  · by_cases h2 : 1000 ≤ (a0l.length : Int) - a0a
    · rw [cond_neg (by omega),cond_pos (by omega),if_pos (.inr h2)]
    · rw [cond_neg (by omega),cond_neg (by omega),cond_pos (by omega),if_neg (by omega)]

theorem c12 : CallOk Try.prog G34 12 r12 := callOk_of (V := VG3412) mixed tys eVG3412 (f := 12) (fn := Try.f12) Try.func12 (by kernel_rfl) (c := sub (bodyOf Try.f12) []) (by kernel_rfl) (by
  intro X H r H' h hX hH
  unfold r12 at h; split at h <;> try contradiction
  · simp only [Option.some.injEq,Prod.mk.injEq] at h
    obtain ⟨hp,rfl,rfl⟩ := h
    obtain rfl := okB_size (hH _ (.tail _ (.head _))) rfl
    obtain rfl := okB_size (hH _ (.tail _ (.tail _ (.head _)))) rfl
    obtain rfl := (Lk.rfineN_iff.1 (Bool.and_eq_true_iff.1 hp).1).1
    obtain ⟨F,hF⟩ := s12 _ _ _ _ _ _ _ _ _ _ hp (hX _ (.tail _ (.head _))) (hH _ (.head _)) (hH _ (.tail _ (.head _))) (hH _ (.tail _ (.tail _ (.head _))))
    exact ⟨Af12 F,(f12_body F _ _ _ _ _ _ _ _ _ _).trans hF⟩)
def lVG3414 : List CEnt := [(17,[none,some 5],r17),(18,[none],r18)]
def VG3414 : Env := mkEnv T34 G34 lVG3414
theorem eVG3414 : EOk Try.prog VG3414 := eok_mk (by exact ⟨c17,c18,trivial⟩)
def Af14 (F : Nat) : Cuts := { F := F,at_ := fun n => match n with | 3010 => some sp42 | _ => none,join := fun n => match n with | 1028 => some [(0,.plain)] | 2026 => some [(0,.plain),(3,.plain)] | 3012 => some sp2 | 6011 => some [(0,.plain),(3,.plain)] | _ => none,fin := (some [(2,(.own 33))]) }
def ef14_a : Ty44 → St := fun (a0w,a0k,a0l,a0a,a0g,a0n,a0h,a0o,a0f) => { tmps := [(0,(.ptr 0 0 8 0 0 0 8))],heap := [(0,(.cells 8 (.segs (.cons 1 (.one (.int .i64 a0w)) (.cons 1 (.one (.int .u64 a0k)) (.cons 1 (.one (.own 1 0 1)) (.cons 1 (.one (.int .i64 a0a)) (.cons 1 (.one (.int .i64 a0g)) (.cons 1 (.one (.own 2 a0n 2)) (.cons 1 (.one (.bool a0o)) (.cons 1 (.one (.int .i64 a0f)) .nil))))))))) true)),(1,(.cells a0l.length (.rL .u8 a0l) true)),(2,(.cells (a0n * 2) (.rT [.int .i64,.sl .u8] a0h) true))],next := 3,nt := 81,m := 3 }
def ef14j1 : Ty42 → St := fun (x1,x2,x3,x4,x5,x6,x7,x8,x9) => { tmps := [(0,(.ptr 0 0 8 0 0 0 8))],heap := [(0,(.cells 8 (.segs (.cons 1 (.one (.int .i64 x1)) (.cons 1 (.one (.int .u64 x2)) (.cons 1 (.one (.own 1 0 1)) (.cons 1 (.one (.int .i64 x3)) (.cons 1 (.one (.int .i64 x4)) (.cons 1 (.one (.own 2 x5 2)) (.cons 1 (.one (.bool x6)) (.cons 1 (.one (.int .i64 x7)) .nil))))))))) true)),(1,(.cells x8.length (.rL .u8 x8) true)),(2,(.cells (x5 * 2) (.rT [.int .i64,.sl .u8] x9) true))],next := 3,nt := 81,m := 3 }
def ef14j2 : Ty42 → St := fun (x1,x2,x3,x4,x5,x6,x7,x8,x9) => { tmps := [(0,(.ptr 0 0 8 0 0 0 8)),(3,.ns)],heap := [(0,(.cells 8 (.segs (.cons 1 (.one (.int .i64 x1)) (.cons 1 (.one (.int .u64 x2)) (.cons 1 (.one (.own 1 0 1)) (.cons 1 (.one (.int .i64 x3)) (.cons 1 (.one (.int .i64 x4)) (.cons 1 (.one (.own 2 x5 2)) (.cons 1 (.one (.bool x6)) (.cons 1 (.one (.int .i64 x7)) .nil))))))))) true)),(1,(.cells x8.length (.rL .u8 x8) true)),(2,(.cells (x5 * 2) (.rT [.int .i64,.sl .u8] x9) true))],next := 3,nt := 81,m := 3 }
def ef14j3 : Ty40 → St := fun (t4,x2,x3,x4,x5,x6,x7,x8,x9,x10) => { tmps := [(0,(.ptr 0 0 8 0 0 0 8)),(3,.ns),(4,(.int .i64 t4))],heap := [(0,(.cells 8 (.segs (.cons 1 (.one (.int .i64 x2)) (.cons 1 (.one (.int .u64 x3)) (.cons 1 (.one (.own 1 0 1)) (.cons 1 (.one (.int .i64 x4)) (.cons 1 (.one (.int .i64 x5)) (.cons 1 (.one (.own 2 x6 2)) (.cons 1 (.one (.bool x7)) (.cons 1 (.one (.int .i64 x8)) .nil))))))))) true)),(1,(.cells x9.length (.rL .u8 x9) true)),(2,(.cells (x6 * 2) (.rT [.int .i64,.sl .u8] x10) true))],next := 3,nt := 81,m := 3 }
def ef14l1 : Ty45 → St := fun (t4,x2,x3,x4,x5,x6,x7,x8,x9,x10,x11) => { tmps := [(0,(.ptr 0 0 8 0 0 0 8)),(3,(.own 3 0 1)),(4,(.int .i64 t4))],heap := [(0,(.cells 8 (.segs (.cons 1 (.one (.int .i64 x2)) (.cons 1 (.one (.int .u64 x3)) (.cons 1 (.one (.own 1 0 1)) (.cons 1 (.one (.int .i64 x4)) (.cons 1 (.one (.int .i64 x5)) (.cons 1 (.one (.own 2 x6 2)) (.cons 1 (.one (.bool x7)) (.cons 1 (.one (.int .i64 x8)) .nil))))))))) true)),(1,(.cells x9.length (.rL .u8 x9) true)),(2,(.cells (x6 * 2) (.rT [.int .i64,.sl .u8] x10) true)),(3,(.cells x11.length (.rL .u8 x11) true))],next := 4,nt := 81,m := 3 }
def ef14j4 : Ty46 → St := fun (x1,x2,x3,x4,x5,x6,x7,x8,x9,x10) => { tmps := [(0,(.ptr 0 0 8 0 0 0 8)),(3,(.own 3 0 1))],heap := [(0,(.cells 8 (.segs (.cons 1 (.one (.int .i64 x1)) (.cons 1 (.one (.int .u64 x2)) (.cons 1 (.one (.own 1 0 1)) (.cons 1 (.one (.int .i64 x3)) (.cons 1 (.one (.int .i64 x4)) (.cons 1 (.one (.own 2 x5 2)) (.cons 1 (.one (.bool x6)) (.cons 1 (.one (.int .i64 x7)) .nil))))))))) true)),(1,(.cells x8.length (.rL .u8 x8) true)),(2,(.cells (x5 * 2) (.rT [.int .i64,.sl .u8] x9) true)),(3,(.cells x10.length (.rL .u8 x10) true))],next := 4,nt := 81,m := 3 }
def f14_1 (F : Nat) (kf14j1 : Ty42 → Rz) : Ty44 → Rz := fun (a0w,a0k,a0l,a0a,a0g,a0n,a0h,a0o,a0f) => (kf14j1 (a0w,a0k,a0a,a0g,a0n,a0o,a0f,a0l,a0h))
theorem f14_1_eq (F : Nat) (Rf14j1 : St → Rz) : ∀ v,aexec VG3414 (Af14 F) (bp Try.f14 2) (ef14_a v) (kSeq (kc VG3414 Rf14j1 [(0,.plain)]) (kFin VG3414 (some [(2,(.own 33))]) (Try.f14).results.toList)) = f14_1 F (Rf14j1 ∘ ef14j1) v := by
  rintro ⟨a0w,a0k,a0l,a0a,a0g,a0n,a0h,a0o,a0f⟩; kernel_rfl
def f14_2 (F : Nat) (kf14j2 : Ty42 → Rz) : Ty42 → Rz := fun (x1,x2,x3,x4,x5,x6,x7,x8,x9) => (kf14j2 (x1,x2,x3,x4,x5,x6,x7,x8,x9))
theorem f14_2_eq (F : Nat) (Rf14j2 : St → Rz) : ∀ v,aexec VG3414 (Af14 F) (bp Try.f14 6) (ef14j1 v) (kSeq (kc VG3414 Rf14j2 [(0,.plain),(3,.plain)]) (kFin VG3414 (some [(2,(.own 33))]) (Try.f14).results.toList)) = f14_2 F (Rf14j2 ∘ ef14j2) v := by
  rintro ⟨x1,x2,x3,x4,x5,x6,x7,x8,x9⟩; kernel_rfl
def f14_3 (F : Nat) (kf14j3 : Ty40 → Rz) (kf14j4 : Ty46 → Rz) : Ty42 → Rz := fun (x1,x2,x3,x4,x5,x6,x7,x8,x9) => (kf14j3 (x3,x1,x2,x3,x4,x5,x6,x7,x8,x9))
theorem f14_3_eq (F : Nat) (Rf14j3 : St → Rz) (Rf14j4 : St → Rz) : ∀ v,aexec VG3414 (Af14 F) (bp Try.f14 28) (ef14j2 v) (kSeq (kc VG3414 Rf14j3 sp2) (kSeq (kc VG3414 Rf14j4 [(0,.plain),(3,.plain)]) (kFin VG3414 (some [(2,(.own 33))]) (Try.f14).results.toList))) = f14_3 F (Rf14j3 ∘ ef14j3) (Rf14j4 ∘ ef14j4) v := by
  rintro ⟨x1,x2,x3,x4,x5,x6,x7,x8,x9⟩; kernel_rfl
def f14_4 (F : Nat) (kf14l1 : Ty45 → Rz) (kf14j4 : Ty46 → Rz) : Ty45 → Rz := fun (t4,x2,x3,x4,x5,x6,x7,x8,x9,x10,x11) => (cond (decide (t4 < (↑x9.length : Int))) (cond (decide (t4 < (IntKind.i64.wrap (x4 + x2)))) (cond ((decide (0 ≤ t4)) && (decide (t4 < (↑x9.length : Int)))) (cond (decide ((x9.getD (Int.toNat t4) []).length < 65537)) (cond (decide ((Lk.pbytes (IntKind.i64.wrap (t4 + (1 : Int))) x5 (x9.getD (Int.toNat t4) [])).length < 1073740000)) (cond (decide ((x11.length + 1) < 1073741824)) (kf14l1 ((IntKind.i64.wrap (t4 + (1 : Int))),x2,x3,x4,x5,x6,x7,x8,x9,x10,(x11 ++ [(Lk.sealed x3 (Lk.pbytes (IntKind.i64.wrap (t4 + (1 : Int))) x5 (x9.getD (Int.toNat t4) [])))]))) none) none) none) none) (kf14j4 (x2,x3,x4,x5,x6,x7,x8,x9,x10,x11))) (kf14j4 (x2,x3,x4,x5,x6,x7,x8,x9,x10,x11)))
theorem f14_4_eq (F : Nat) (Rf14l1 : St → Rz) (Rf14j4 : St → Rz) : ∀ v,aexec VG3414 (Af14 F) (bp Try.f14 116) (ef14l1 v) (kSeq (kc VG3414 Rf14l1 sp42) (kBlock 0 (kSeq (kc VG3414 Rf14j4 [(0,.plain),(3,.plain)]) (kFin VG3414 (some [(2,(.own 33))]) (Try.f14).results.toList)))) = f14_4 F (Rf14l1 ∘ ef14l1) (Rf14j4 ∘ ef14j4) v := by
  rintro ⟨t4,x2,x3,x4,x5,x6,x7,x8,x9,x10,x11⟩; kernel_rfl
def f14_5_i : Ty40 → Int × Int × Int × Int × Int × Nat × Bool × Int × (List (List Int)) × (List (List (List Int))) × (List (List Int)) := fun (t4,x2,x3,x4,x5,x6,x7,x8,x9,x10) => (t4,x2,x3,x4,x5,x6,x7,x8,x9,x10,[])
def f14_5 (F : Nat) (kf14j4 : Ty46 → Rz) : Ty40 → Rz := fun v => loopN (fun k => f14_4 F k kf14j4) F (f14_5_i v)
theorem f14_5_eq (F : Nat) (Rf14j4 : St → Rz) : ∀ v,aexec VG3414 (Af14 F) (bp Try.f14 58) (ef14j3 v) (kBlock 0 (kSeq (kc VG3414 Rf14j4 [(0,.plain),(3,.plain)]) (kFin VG3414 (some [(2,(.own 33))]) (Try.f14).results.toList))) = f14_5 F (Rf14j4 ∘ ef14j4) v :=
  loop_cut (by kernel_rfl) (by kernel_rfl) ef14j3 ef14l1 _ f14_5_i (fun k => f14_4 F k (Rf14j4 ∘ ef14j4))
    (by rintro ⟨t4,x2,x3,x4,x5,x6,x7,x8,x9,x10⟩; kernel_rfl) (fun Rf14l1 => f14_4_eq F Rf14l1 Rf14j4)
def f14_6 (F : Nat) (kf14j4 : Ty46 → Rz) : Ty40 → Rz := f14_5 F kf14j4
theorem f14_6_eq (F : Nat) (Rf14j4 : St → Rz) : ∀ v,aexec VG3414 (Af14 F) (bp Try.f14 29) (ef14j3 v) (kSeq (kc VG3414 Rf14j4 [(0,.plain),(3,.plain)]) (kFin VG3414 (some [(2,(.own 33))]) (Try.f14).results.toList)) = f14_6 F (Rf14j4 ∘ ef14j4) v := fun v =>
  (block_in  (by kernel_rfl) _ _).trans (f14_5_eq F Rf14j4 v)
def f14_7 (F : Nat) (kf14j4 : Ty46 → Rz) : Ty42 → Rz := fun v => f14_3 F (f14_6 F kf14j4) kf14j4 v
theorem f14_7_eq (F : Nat) (Rf14j4 : St → Rz) : ∀ v,aexec VG3414 (Af14 F) (bp Try.f14 14) (ef14j2 v) (kSeq (kc VG3414 Rf14j4 [(0,.plain),(3,.plain)]) (kFin VG3414 (some [(2,(.own 33))]) (Try.f14).results.toList)) = f14_7 F (Rf14j4 ∘ ef14j4) v :=
  seq_cut (by kernel_rfl) (by kernel_rfl) ef14j2 ef14j3 _ (fun k => f14_3 F k (Rf14j4 ∘ ef14j4)) (f14_6 F (Rf14j4 ∘ ef14j4))
    (fun Rf14j3 => f14_3_eq F Rf14j3 Rf14j4) (f14_6_eq F Rf14j4)
def f14_8 (F : Nat) : Ty46 → Rz := fun (x1,x2,x3,x4,x5,x6,x7,x8,x9,x10) => (cond ((↑x10.length : Int) == (0 : Int)) (cond x6 (cond (decide ((Lk.pbytes (0 : Int) x4 []).length < 1073740000)) (cond (decide ((x10.length + 1) < 1073741824)) (some ((.own 3 0 1),[(.cells 8 (.segs (.cons 1 (.one (.int .i64 x1)) (.cons 1 (.one (.int .u64 x2)) (.cons 1 (.one (.own 1 0 1)) (.cons 1 (.one (.int .i64 x3)) (.cons 1 (.one (.int .i64 x4)) (.cons 1 (.one (.own 2 x5 2)) (.cons 1 (.one (.bool false)) (.cons 1 (.one (.int .i64 x7)) .nil))))))))) true),(.cells x8.length (.rL .u8 x8) true),(.cells (x5 * 2) (.rT [.int .i64,.sl .u8] x9) true),(.cells (x10 ++ [(Lk.sealed x2 (Lk.pbytes (0 : Int) x4 []))]).length (.rL .u8 (x10 ++ [(Lk.sealed x2 (Lk.pbytes (0 : Int) x4 []))])) true)])) none) none) (some ((.own 3 0 1),[(.cells 8 (.segs (.cons 1 (.one (.int .i64 x1)) (.cons 1 (.one (.int .u64 x2)) (.cons 1 (.one (.own 1 0 1)) (.cons 1 (.one (.int .i64 x3)) (.cons 1 (.one (.int .i64 x4)) (.cons 1 (.one (.own 2 x5 2)) (.cons 1 (.one (.bool false)) (.cons 1 (.one (.int .i64 x7)) .nil))))))))) true),(.cells x8.length (.rL .u8 x8) true),(.cells (x5 * 2) (.rT [.int .i64,.sl .u8] x9) true),(.cells x10.length (.rL .u8 x10) true)]))) (some ((.own 3 0 1),[(.cells 8 (.segs (.cons 1 (.one (.int .i64 x1)) (.cons 1 (.one (.int .u64 x2)) (.cons 1 (.one (.own 1 0 1)) (.cons 1 (.one (.int .i64 x3)) (.cons 1 (.one (.int .i64 x4)) (.cons 1 (.one (.own 2 x5 2)) (.cons 1 (.one (.bool false)) (.cons 1 (.one (.int .i64 x7)) .nil))))))))) true),(.cells x8.length (.rL .u8 x8) true),(.cells (x5 * 2) (.rT [.int .i64,.sl .u8] x9) true),(.cells x10.length (.rL .u8 x10) true)])))
theorem f14_8_eq (F : Nat) : ∀ v,aexec VG3414 (Af14 F) (bp Try.f14 15) (ef14j4 v) (kFin VG3414 (some [(2,(.own 33))]) (Try.f14).results.toList) = f14_8 F v := by
  rintro ⟨x1,x2,x3,x4,x5,x6,x7,x8,x9,x10⟩; kernel_rfl
def f14_9 (F : Nat) : Ty42 → Rz := fun v => f14_7 F (f14_8 F) v
theorem f14_9_eq (F : Nat) : ∀ v,aexec VG3414 (Af14 F) (bp Try.f14 7) (ef14j2 v) (kFin VG3414 (some [(2,(.own 33))]) (Try.f14).results.toList) = f14_9 F v :=
  seq_cut (by kernel_rfl) (by kernel_rfl) ef14j2 ef14j4 _ (fun k => f14_7 F k) (f14_8 F)
    (fun Rf14j4 => f14_7_eq F Rf14j4) (f14_8_eq F)
def f14_10 (F : Nat) : Ty42 → Rz := fun v => f14_2 F (f14_9 F) v
theorem f14_10_eq (F : Nat) : ∀ v,aexec VG3414 (Af14 F) (bp Try.f14 3) (ef14j1 v) (kFin VG3414 (some [(2,(.own 33))]) (Try.f14).results.toList) = f14_10 F v :=
  seq_cut (by kernel_rfl) (by kernel_rfl) ef14j1 ef14j2 _ (fun k => f14_2 F k) (f14_9 F)
    (fun Rf14j2 => f14_2_eq F Rf14j2) (f14_9_eq F)
def f14_11 (F : Nat) : Ty44 → Rz := fun v => f14_1 F (f14_10 F) v
theorem f14_11_eq (F : Nat) : ∀ v,aexec VG3414 (Af14 F) (sub (bodyOf Try.f14) []) (ef14_a v) (kFin VG3414 (some [(2,(.own 33))]) (Try.f14).results.toList) = f14_11 F v :=
  seq_cut (by kernel_rfl) (by kernel_rfl) ef14_a ef14j1 _ (fun k => f14_1 F k) (f14_10 F)
    (fun Rf14j1 => f14_1_eq F Rf14j1) (f14_10_eq F)
def f14 (F : Nat) : Ty44 → Rz := f14_11 F
theorem f14_body (F : Nat) (a0w : Int) (a0k : Int) (a0l : List (List Int)) (a0a : Int) (a0g : Int) (a0n : Nat) (a0h : List (List (List Int))) (a0o : Bool) (a0f : Int) : abody VG3414 (Af14 F) Try.f14 [(.ptr 0 0 8 0 0 0 8)] [(.cells 8 (.segs (.cons 1 (.one (.int .i64 a0w)) (.cons 1 (.one (.int .u64 a0k)) (.cons 1 (.one (.own 1 0 1)) (.cons 1 (.one (.int .i64 a0a)) (.cons 1 (.one (.int .i64 a0g)) (.cons 1 (.one (.own 2 a0n 2)) (.cons 1 (.one (.bool a0o)) (.cons 1 (.one (.int .i64 a0f)) .nil))))))))) true),(.cells a0l.length (.rL .u8 a0l) true),(.cells (a0n * 2) (.rT [.int .i64,.sl .u8] a0h) true)] = f14 F (a0w,a0k,a0l,a0a,a0g,a0n,a0h,a0o,a0f) :=
  (abody_in (c := (sub (bodyOf Try.f14) [])) (by kernel_rfl) (s := ef14_a (a0w,a0k,a0l,a0a,a0g,a0n,a0h,a0o,a0f)) (by kernel_rfl)).trans (f14_11_eq F (a0w,a0k,a0l,a0a,a0g,a0n,a0h,a0o,a0f))
def r14 : CRun := fun X H => match X,H with
  | [(.ptr 0 0 8 0 0 0 8)],[(.cells 8 (.segs (.cons 1 (.one (.int .i64 a0w)) (.cons 1 (.one (.int .u64 a0k)) (.cons 1 (.one (.own 1 0 1)) (.cons 1 (.one (.int .i64 a0a)) (.cons 1 (.one (.int .i64 a0g)) (.cons 1 (.one (.own 2 a0n 2)) (.cons 1 (.one (.bool a0o)) (.cons 1 (.one (.int .i64 a0f)) .nil))))))))) true),(.cells z1 (.rL .u8 a0l) true),(.cells z2 (.rT [.int .i64,.sl .u8] a0h) true)] => some ((Lk.rfine a0n (Lk.R.mk a0w a0k a0l a0a a0g a0h a0o a0f)),(.own 3 0 1),[(Lk.bR (Lk.rout (Lk.R.mk a0w a0k a0l a0a a0g a0h a0o a0f)) 1 2),(.cells (Lk.rout (Lk.R.mk a0w a0k a0l a0a a0g a0h a0o a0f)).sent.length (.rL .u8 (Lk.rout (Lk.R.mk a0w a0k a0l a0a a0g a0h a0o a0f)).sent) true),(.cells ((Lk.rout (Lk.R.mk a0w a0k a0l a0a a0g a0h a0o a0f)).held.length * 2) (.rT [.int .i64,.sl .u8] (Lk.rout (Lk.R.mk a0w a0k a0l a0a a0g a0h a0o a0f)).held) true),(.cells (Lk.routs (Lk.R.mk a0w a0k a0l a0a a0g a0h a0o a0f)).length (.rL .u8 (Lk.routs (Lk.R.mk a0w a0k a0l a0a a0g a0h a0o a0f))) true)])
  | _,_ => none
theorem s14 (a0w : Int) (a0k : Int) (a0l : List (List Int)) (a0a : Int) (a0g : Int) (a0n : Nat) (a0h : List (List (List Int))) (a0o : Bool) (a0f : Int) (hp : ((Lk.rfine a0n (Lk.R.mk a0w a0k a0l a0a a0g a0h a0o a0f))) = true) (k0 : okB (.cells 8 (.segs (.cons 1 (.one (.int .i64 a0w)) (.cons 1 (.one (.int .u64 a0k)) (.cons 1 (.one (.own 1 0 1)) (.cons 1 (.one (.int .i64 a0a)) (.cons 1 (.one (.int .i64 a0g)) (.cons 1 (.one (.own 2 a0n 2)) (.cons 1 (.one (.bool a0o)) (.cons 1 (.one (.int .i64 a0f)) .nil))))))))) true)) (k1 : okB (.cells a0l.length (.rL .u8 a0l) true)) (k2 : okB (.cells (a0n * 2) (.rT [.int .i64,.sl .u8] a0h) true)) : ∃ F,f14 F (a0w,a0k,a0l,a0a,a0g,a0n,a0h,a0o,a0f) = some ((.own 3 0 1),[(Lk.bR (Lk.rout (Lk.R.mk a0w a0k a0l a0a a0g a0h a0o a0f)) 1 2),(.cells (Lk.rout (Lk.R.mk a0w a0k a0l a0a a0g a0h a0o a0f)).sent.length (.rL .u8 (Lk.rout (Lk.R.mk a0w a0k a0l a0a a0g a0h a0o a0f)).sent) true),(.cells ((Lk.rout (Lk.R.mk a0w a0k a0l a0a a0g a0h a0o a0f)).held.length * 2) (.rT [.int .i64,.sl .u8] (Lk.rout (Lk.R.mk a0w a0k a0l a0a a0g a0h a0o a0f)).held) true),(.cells (Lk.routs (Lk.R.mk a0w a0k a0l a0a a0g a0h a0o a0f)).length (.rL .u8 (Lk.routs (Lk.R.mk a0w a0k a0l a0a a0g a0h a0o a0f))) true)]) := by
  obtain ⟨q0,q1,q2,q3,q4,q5,q6,q7⟩ := Lk.rfineN_iff.1 hp
  simp only at q0 q1 q2 q3 q4 q5 q6 q7
  subst q0
  obtain ⟨ac,rfl⟩ : ∃ ac : Nat,a0a = (ac : Int) := ⟨a0a.toNat,by omega⟩
  obtain ⟨wi,rfl⟩ : ∃ wi : Nat,a0w = (wi : Int) := ⟨a0w.toNat,by omega⟩
  refine ⟨a0l.length + 1,?_⟩
  simp only [f14,f14_11,f14_1,f14_10,f14_2,f14_9,f14_7,f14_3,f14_6,f14_5,f14_5_i]
  have hD : (a0l.drop ac).length = a0l.length - ac := List.length_drop
  have htk : (a0l.drop ac).take (min wi (a0l.length - ac)) = (a0l.drop ac).take wi := by
    rcases Nat.le_total wi (a0l.length - ac) with h | h
    · rw [Nat.min_eq_left h]
    · rw [Nat.min_eq_right h,← hD,List.take_length,List.take_of_length_le (by omega)]
  have hle : min wi (a0l.length - ac) ≤ a0l.length - ac := Nat.min_le_right _ _
  have hle2 : min wi (a0l.length - ac) ≤ wi := Nat.min_le_left _ _
  refine loopN_from (fun i => ((ac : Int) + (i : Int),(wi : Int),a0k,(ac : Int),a0g,a0h.length,a0o,a0f,a0l,a0h,Lk.packs a0k ac a0g ((a0l.drop ac).take i))) (min wi (a0l.length - ac)) (by simp [Lk.packs]) (fun i hi k => ?_) (fun k => ?_) _ (by omega)
  · have e1 := Lk.packs_take a0k a0g (a0l.drop ac) ac i (by omega)
    have e2 := Lk.packs_length a0k a0g ((a0l.drop ac).take i) ac
    have eg : a0l.getD (ac + i) [] = (a0l.drop ac).getD i [] := by rw [getD_drop_of]
    have e3 : ((a0l.drop ac).getD i []).length < 65537 := by
      rw [← eg,List.getD_eq_getElem?_getD,List.getElem?_eq_getElem (by omega)]
      exact q6 _ (List.getElem_mem _)
    have e4 := Lk.pbytes_length ((ac : Int) + i + 1) a0g ((a0l.drop ac).getD i [])
    rw [List.length_take] at e2
    simp only [f14_4,dec_and]
    rw [show Int.toNat ((ac : Int) + (i : Int)) = ac + i by omega,eg,i64w (x := (ac : Int) + (wi : Int)) (by omega) (by omega),i64w (by omega) (by omega),cond_pos (by omega),cond_pos (by omega),cond_pos (by omega),cond_pos e3,cond_pos (by omega),cond_pos (by omega),e1,show (ac : Int) + (i : Int) + 1 = (ac : Int) + ((i + 1 : Nat) : Int) by push_cast; omega]
  · simp only [f14_4]
    have hlast : ∀ A B : Rz,cond (decide ((ac : Int) + ((min wi (a0l.length - ac) : Nat) : Int) < (a0l.length : Int))) (cond (decide ((ac : Int) + ((min wi (a0l.length - ac) : Nat) : Int) < IntKind.i64.wrap ((ac : Int) + (wi : Int)))) A B) B = B := by
      intro A B
      rw [i64w (by omega) (by omega)]
      by_cases h : (ac : Int) + ((min wi (a0l.length - ac) : Nat) : Int) < (a0l.length : Int)
      · rw [cond_pos h,cond_neg (by omega)]
      · rw [cond_neg h]
    rw [hlast,htk]
    simp only [f14_8,int_beq,Lk.rout,Lk.routs,Int.toNat_natCast]
    have e4 := Lk.pbytes_length 0 a0g []
    simp only [List.length_nil] at e4
    by_cases h1 : Lk.packs a0k ac a0g ((a0l.drop ac).take wi) = []
    · rw [h1]
      simp only [List.length_nil,Int.ofNat_eq_natCast]
      rw [cond_pos (by rfl)]
      cases a0o with
      | true =>
        rw [cond_true,cond_pos (by omega),cond_pos (by omega),if_pos (by simp)]
        rfl
      | false =>
        rw [cond_false,if_neg (by simp)]
        rfl
    · have h2 : ((Lk.packs a0k ac a0g ((a0l.drop ac).take wi)).length : Int) ≠ 0 := by
        intro h; apply h1; exact List.length_eq_zero_iff.1 (by omega)
      rw [cond_neg h2,if_neg (fun h => h1 h.1)]

theorem c14 : CallOk Try.prog G34 14 r14 := callOk_of (V := VG3414) mixed tys eVG3414 (f := 14) (fn := Try.f14) Try.func14 (by kernel_rfl) (c := sub (bodyOf Try.f14) []) (by kernel_rfl) (by
  intro X H r H' h hX hH
  unfold r14 at h; split at h <;> try contradiction
  · simp only [Option.some.injEq,Prod.mk.injEq] at h
    obtain ⟨hp,rfl,rfl⟩ := h
    obtain rfl := okB_size (hH _ (.tail _ (.head _))) rfl
    obtain rfl := okB_size (hH _ (.tail _ (.tail _ (.head _)))) rfl
    obtain rfl := (Lk.rfineN_iff.1 hp).1
    obtain ⟨F,hF⟩ := s14 _ _ _ _ _ _ _ _ _ hp (hH _ (.head _)) (hH _ (.tail _ (.head _))) (hH _ (.tail _ (.tail _ (.head _))))
    exact ⟨Af14 F,(f14_body F _ _ _ _ _ _ _ _ _).trans hF⟩)
def lVG3439 : List CEnt := [(49,[some 5],r49),(50,[some 5],r50)]
def VG3439 : Env := mkEnv T34 G34 lVG3439
theorem eVG3439 : EOk Try.prog VG3439 := eok_mk (by exact ⟨c49,c50,trivial⟩)
def Af39 (F : Nat) : Cuts := { F := F,at_ := fun _ => none,join := fun _ => none,fin := (some [(3,.plain),(2,(.fview 2 5))]) }
def ef39_a : (List Int) → St := fun a0 => { tmps := [(0,(.vs (.rI .u8 a0) 0 1))],heap := [],next := 0,nt := 83,m := 0 }
def f39_1 (F : Nat) : (List Int) → Rz := fun a0 => (cond (decide (a0.length < 1073741000)) (cond ((Wire.getInts a0).2.2 != (0 : Int)) (some ((.tup (.cons 0 (.agg 3 (.segs (.cons 1 (.one (.int .i64 (0 : Int))) (.cons 1 (.one (.int .i64 (0 : Int))) (.cons 1 (.one (.vs (.rI .u8 []) 0 1)) .nil))))) (.cons 0 (.bool false) .nil))),[])) (cond ((↑(Wire.getInts a0).1.length : Int) != (2 : Int)) (some ((.tup (.cons 0 (.agg 3 (.segs (.cons 1 (.one (.int .i64 (0 : Int))) (.cons 1 (.one (.int .i64 (0 : Int))) (.cons 1 (.one (.vs (.rI .u8 []) 0 1)) .nil))))) (.cons 0 (.bool false) .nil))),[])) (cond (((decide (0 ≤ (Wire.getInts a0).2.1)) && (decide ((Wire.getInts a0).2.1 ≤ (↑a0.length : Int)))) && (decide ((↑a0.length : Int) ≤ (↑a0.length : Int)))) (cond (decide (((a0.drop (Int.toNat (Wire.getInts a0).2.1)).take (a0.length - (Int.toNat (Wire.getInts a0).2.1))).length < 1073741000)) (cond ((Wire.getBytes ((a0.drop (Int.toNat (Wire.getInts a0).2.1)).take (a0.length - (Int.toNat (Wire.getInts a0).2.1)))).2.2 != (0 : Int)) (some ((.tup (.cons 0 (.agg 3 (.segs (.cons 1 (.one (.int .i64 (0 : Int))) (.cons 1 (.one (.int .i64 (0 : Int))) (.cons 1 (.one (.vs (.rI .u8 []) 0 1)) .nil))))) (.cons 0 (.bool false) .nil))),[])) (cond ((IntKind.i64.wrap ((Wire.getInts a0).2.1 + (Wire.getBytes ((a0.drop (Int.toNat (Wire.getInts a0).2.1)).take (a0.length - (Int.toNat (Wire.getInts a0).2.1)))).2.1)) != (↑a0.length : Int)) (some ((.tup (.cons 0 (.agg 3 (.segs (.cons 1 (.one (.int .i64 (0 : Int))) (.cons 1 (.one (.int .i64 (0 : Int))) (.cons 1 (.one (.vs (.rI .u8 []) 0 1)) .nil))))) (.cons 0 (.bool false) .nil))),[])) (cond (decide ((0 : Int) < (↑(Wire.getInts a0).1.length : Int))) (cond (decide ((1 : Int) < (↑(Wire.getInts a0).1.length : Int))) (cond (decide (((Wire.getInts a0).1.getD 0 0) ≥ (0 : Int))) (cond (decide (((Wire.getInts a0).1.getD 1 0) ≥ (0 : Int))) (cond (decide ((↑(Wire.getBytes ((a0.drop (Int.toNat (Wire.getInts a0).2.1)).take (a0.length - (Int.toNat (Wire.getInts a0).2.1)))).1.length : Int) ≤ (65536 : Int))) (cond (decide (((Wire.getInts a0).1.getD 0 0) > (0 : Int))) (some ((.tup (.cons 0 (.agg 3 (.segs (.cons 1 (.one (.int .i64 ((Wire.getInts a0).1.getD 0 0))) (.cons 1 (.one (.int .i64 ((Wire.getInts a0).1.getD 1 0))) (.cons 1 (.one (.vs (.rI .u8 (Wire.getBytes ((a0.drop (Int.toNat (Wire.getInts a0).2.1)).take (a0.length - (Int.toNat (Wire.getInts a0).2.1)))).1) 0 1)) .nil))))) (.cons 0 (.bool true) .nil))),[])) (cond (!((↑(Wire.getBytes ((a0.drop (Int.toNat (Wire.getInts a0).2.1)).take (a0.length - (Int.toNat (Wire.getInts a0).2.1)))).1.length : Int) == (0 : Int))) (some ((.tup (.cons 0 (.agg 3 (.segs (.cons 1 (.one (.int .i64 (0 : Int))) (.cons 1 (.one (.int .i64 (0 : Int))) (.cons 1 (.one (.vs (.rI .u8 []) 0 1)) .nil))))) (.cons 0 (.bool false) .nil))),[])) (some ((.tup (.cons 0 (.agg 3 (.segs (.cons 1 (.one (.int .i64 ((Wire.getInts a0).1.getD 0 0))) (.cons 1 (.one (.int .i64 ((Wire.getInts a0).1.getD 1 0))) (.cons 1 (.one (.vs (.rI .u8 (Wire.getBytes ((a0.drop (Int.toNat (Wire.getInts a0).2.1)).take (a0.length - (Int.toNat (Wire.getInts a0).2.1)))).1) 0 1)) .nil))))) (.cons 0 (.bool true) .nil))),[])))) (some ((.tup (.cons 0 (.agg 3 (.segs (.cons 1 (.one (.int .i64 (0 : Int))) (.cons 1 (.one (.int .i64 (0 : Int))) (.cons 1 (.one (.vs (.rI .u8 []) 0 1)) .nil))))) (.cons 0 (.bool false) .nil))),[]))) (some ((.tup (.cons 0 (.agg 3 (.segs (.cons 1 (.one (.int .i64 (0 : Int))) (.cons 1 (.one (.int .i64 (0 : Int))) (.cons 1 (.one (.vs (.rI .u8 []) 0 1)) .nil))))) (.cons 0 (.bool false) .nil))),[]))) (some ((.tup (.cons 0 (.agg 3 (.segs (.cons 1 (.one (.int .i64 (0 : Int))) (.cons 1 (.one (.int .i64 (0 : Int))) (.cons 1 (.one (.vs (.rI .u8 []) 0 1)) .nil))))) (.cons 0 (.bool false) .nil))),[]))) none) none))) none) none))) none)
theorem f39_1_eq (F : Nat) : ∀ v,aexec VG3439 (Af39 F) (sub (bodyOf Try.f39) []) (ef39_a v) (kFin VG3439 (some [(3,.plain),(2,(.fview 2 5))]) (Try.f39).results.toList) = f39_1 F v := by
  intro a0; kernel_rfl
def f39 (F : Nat) : (List Int) → Rz := f39_1 F
theorem f39_body (F : Nat) (a0 : List Int) : abody VG3439 (Af39 F) Try.f39 [(.vs (.rI .u8 a0) 0 1)] [] = f39 F a0 :=
  (abody_in (c := (sub (bodyOf Try.f39) [])) (by kernel_rfl) (s := ef39_a a0) (by kernel_rfl)).trans (f39_1_eq F a0)
def r39 : CRun := fun X H => match X,H with
  | [(.vs (.rI .u8 a0) 0 1)],[] => some ((decide (a0.length < 1073741000)),(.tup (.cons 0 (.agg 3 (.segs (.cons 1 (.one (.int .i64 (Lk.rrd a0).1)) (.cons 1 (.one (.int .i64 (Lk.rrd a0).2.1)) (.cons 1 (.one (.vs (.rI .u8 (Lk.rrd a0).2.2.1) 0 1)) .nil))))) (.cons 0 (.bool (Lk.rrd a0).2.2.2) .nil))),[])
  | _,_ => none
theorem s39 (a0 : List Int) (hp : ((decide (a0.length < 1073741000))) = true) (h0 : okV (.vs (.rI .u8 a0) 0 1)) : ∃ F,f39 F a0 = some ((.tup (.cons 0 (.agg 3 (.segs (.cons 1 (.one (.int .i64 (Lk.rrd a0).1)) (.cons 1 (.one (.int .i64 (Lk.rrd a0).2.1)) (.cons 1 (.one (.vs (.rI .u8 (Lk.rrd a0).2.2.1) 0 1)) .nil))))) (.cons 0 (.bool (Lk.rrd a0).2.2.2) .nil))),[]) := by
  rw [decide_eq_true_eq] at hp
  have hb : Wire.okBytes a0 := Wire.okB_of h0.1
  refine ⟨0,?_⟩
  simp only [f39,f39_1,int_bne,int_beq,dec_and,Wire.drop_all]
  rw [cond_pos hp]
  by_cases h1 : (Wire.getInts a0).2.2 = 0
  · rw [cond_neg (by simpa using h1)]
    by_cases h2 : (Wire.getInts a0).1.length = 2
    · obtain ⟨q1,q2,_⟩ := Wire.getInts_canon hb h1
      rw [cond_neg (by omega),cond_pos (by omega)]
      obtain ⟨w1,w2,_⟩ := Wire.getBytes_rng (Wire.okBytes_drop hb (Wire.getInts a0).2.1.toNat)
      rw [List.length_drop] at w2
      rw [cond_pos (by rw [List.length_drop]; omega)]
      rw [i64w (by omega) (by omega)]
      by_cases h3 : (Wire.getBytes (a0.drop (Wire.getInts a0).2.1.toNat)).2.2 = 0
      · rw [cond_neg (by simpa using h3)]
        by_cases h4 : (Wire.getInts a0).2.1 + (Wire.getBytes (a0.drop (Wire.getInts a0).2.1.toNat)).2.1 = a0.length
        · rw [cond_neg (by simpa using h4),cond_pos (by omega),cond_pos (by omega)]
          have e : Lk.pread a0 = some ((Wire.getInts a0).1.getD 0 0,(Wire.getInts a0).1.getD 1 0,(Wire.getBytes (a0.drop (Wire.getInts a0).2.1.toNat)).1) := by
            unfold Lk.pread; rw [if_neg (by simp [h1,h2]),if_neg (by simp [h3,h4])]
          simp only [Lk.rrd,Lk.rd,e,Lk.valid]
          generalize (Wire.getInts a0).1.getD 0 0 = s
          generalize (Wire.getInts a0).1.getD 1 0 = a
          generalize (Wire.getBytes (a0.drop (Wire.getInts a0).2.1.toNat)).1 = b
          by_cases c1 : 0 ≤ s
          · rw [cond_pos c1]
            by_cases c2 : 0 ≤ a
            · rw [cond_pos c2]
              by_cases c3 : b.length ≤ 65536
              · rw [cond_pos (by omega)]
                by_cases c4 : 0 < s
                · rw [cond_pos c4]; simp [c1,c2,c3,c4]
                · rw [cond_neg c4]
                  by_cases c5 : b.length = 0
                  · simp [c1,c2,c3,c4,c5]
                  · simp [c1,c2,c3,c4,c5]
              · rw [cond_neg (by omega)]; simp [c3]
            · rw [cond_neg c2]; simp [c2]
          · rw [cond_neg c1]; simp [c1]
        · have e : Lk.pread a0 = none := by
            unfold Lk.pread; rw [if_neg (by simp [h1,h2]),if_pos (.inr h4)]
          rw [cond_pos h4]
          simp [Lk.rrd,Lk.rd,e]
      · have e : Lk.pread a0 = none := by
          unfold Lk.pread; rw [if_neg (by simp [h1,h2]),if_pos (.inl h3)]
        rw [cond_pos h3]
        simp [Lk.rrd,Lk.rd,e]
    · have e : Lk.pread a0 = none := by
        unfold Lk.pread; rw [if_pos (.inr h2)]
      rw [cond_pos (by omega)]
      simp [Lk.rrd,Lk.rd,e]
  · have e : Lk.pread a0 = none := by
      unfold Lk.pread; rw [if_pos (.inl h1)]
    rw [cond_pos h1]
    simp [Lk.rrd,Lk.rd,e]

theorem c39 : CallOk Try.prog G34 39 r39 := callOk_of (V := VG3439) mixed tys eVG3439 (f := 39) (fn := Try.f39) Try.func39 (by kernel_rfl) (c := sub (bodyOf Try.f39) []) (by kernel_rfl) (by
  intro X H r H' h hX hH
  unfold r39 at h; split at h <;> try contradiction
  · simp only [Option.some.injEq,Prod.mk.injEq] at h
    obtain ⟨hp,rfl,rfl⟩ := h
    obtain ⟨F,hF⟩ := s39 _ hp (hX _ (.head _))
    exact ⟨Af39 F,(f39_body F _).trans hF⟩)
def lVG3420 : List CEnt := [(30,[none,some 5],r30),(39,[some 5],r39),(40,[none,none],r40)]
def VG3420 : Env := mkEnv T34 G34 lVG3420
theorem eVG3420 : EOk Try.prog VG3420 := eok_mk (by exact ⟨c30,c39,c40,trivial⟩)
def Af20 (F : Nat) : Cuts := { F := F,at_ := fun n => match n with | 19018 => some sp43 | _ => none,join := fun n => match n with | 1082 => some [(0,.plain),(1,.plain)] | 2080 => some sp44 | 4074 => some sp44 | 6066 => some [(0,.plain),(6,.plain)] | 7064 => some sp45 | 9056 => some [(0,.plain),(8,.plain)] | 11048 => some [(0,.plain),(8,.plain)] | 12046 => some [(0,.plain),(8,.plain)] | 14038 => some [(0,.plain),(8,.plain)] | 15036 => some [(0,.plain),(8,.plain)] | 17028 => some [(0,.plain),(8,.plain)] | 18026 => some [(0,.plain)] | 19024 => some [(0,.plain),(10,.plain)] | 26003 => some [(10,.plain)] | _ => none,fin := (some [(4,(.own 33)),(5,.plain),(0,(.touch 5))]) }
def ef20_a : Ty43 → St := fun (a0w,a0k,a0l,a0a,a0g,a0n,a0h,a0o,a0f,a1) => { tmps := [(0,(.ptr 0 0 8 0 0 0 8)),(1,(.vs (.rI .u8 a1) 0 1))],heap := [(0,(.cells 8 (.segs (.cons 1 (.one (.int .i64 a0w)) (.cons 1 (.one (.int .u64 a0k)) (.cons 1 (.one (.own 1 0 1)) (.cons 1 (.one (.int .i64 a0a)) (.cons 1 (.one (.int .i64 a0g)) (.cons 1 (.one (.own 2 a0n 2)) (.cons 1 (.one (.bool a0o)) (.cons 1 (.one (.int .i64 a0f)) .nil))))))))) true)),(1,(.cells a0l.length (.rL .u8 a0l) true)),(2,(.cells (a0n * 2) (.rT [.int .i64,.sl .u8] a0h) true))],next := 3,nt := 159,m := 3 }
def ef20j1 : Ty47 → St := fun (t1,x2,x3,x4,x5,x6,x7,x8,x9,x10) => { tmps := [(0,(.ptr 0 0 8 0 0 0 8)),(1,(.vs (.rI .u8 t1) 0 1))],heap := [(0,(.cells 8 (.segs (.cons 1 (.one (.int .i64 x2)) (.cons 1 (.one (.int .u64 x3)) (.cons 1 (.one (.own 1 0 1)) (.cons 1 (.one (.int .i64 x4)) (.cons 1 (.one (.int .i64 x5)) (.cons 1 (.one (.own 2 x6 2)) (.cons 1 (.one (.bool x7)) (.cons 1 (.one (.int .i64 x8)) .nil))))))))) true)),(1,(.cells x9.length (.rL .u8 x9) true)),(2,(.cells (x6 * 2) (.rT [.int .i64,.sl .u8] x10) true))],next := 3,nt := 159,m := 3 }
def ef20j2 : Ty48 → St := fun (t6,t7,x3,x4,x5,x6,x7,x8,x9,x10,x11) => { tmps := [(0,(.ptr 0 0 8 0 0 0 8)),(6,(.vs (.rI .u8 t6) 0 1)),(7,(.int .i64 t7))],heap := [(0,(.cells 8 (.segs (.cons 1 (.one (.int .i64 x3)) (.cons 1 (.one (.int .u64 x4)) (.cons 1 (.one (.own 1 0 1)) (.cons 1 (.one (.int .i64 x5)) (.cons 1 (.one (.int .i64 x6)) (.cons 1 (.one (.own 2 x7 2)) (.cons 1 (.one (.bool x8)) (.cons 1 (.one (.int .i64 x9)) .nil))))))))) true)),(1,(.cells x10.length (.rL .u8 x10) true)),(2,(.cells (x7 * 2) (.rT [.int .i64,.sl .u8] x11) true))],next := 3,nt := 159,m := 3 }
def ef20j3 : Ty48 → St := fun (t6,t7,x3,x4,x5,x6,x7,x8,x9,x10,x11) => { tmps := [(0,(.ptr 0 0 8 0 0 0 8)),(6,(.vs (.rI .u8 t6) 0 1)),(7,(.int .i64 t7))],heap := [(0,(.cells 8 (.segs (.cons 1 (.one (.int .i64 x3)) (.cons 1 (.one (.int .u64 x4)) (.cons 1 (.one (.own 1 0 1)) (.cons 1 (.one (.int .i64 x5)) (.cons 1 (.one (.int .i64 x6)) (.cons 1 (.one (.own 2 x7 2)) (.cons 1 (.one (.bool x8)) (.cons 1 (.one (.int .i64 x9)) .nil))))))))) true)),(1,(.cells x10.length (.rL .u8 x10) true)),(2,(.cells (x7 * 2) (.rT [.int .i64,.sl .u8] x11) true))],next := 3,nt := 159,m := 3 }
def ef20j4 : Ty47 → St := fun (t6,x2,x3,x4,x5,x6,x7,x8,x9,x10) => { tmps := [(0,(.ptr 0 0 8 0 0 0 8)),(6,(.vs (.rI .u8 t6) 0 1))],heap := [(0,(.cells 8 (.segs (.cons 1 (.one (.int .i64 x2)) (.cons 1 (.one (.int .u64 x3)) (.cons 1 (.one (.own 1 0 1)) (.cons 1 (.one (.int .i64 x4)) (.cons 1 (.one (.int .i64 x5)) (.cons 1 (.one (.own 2 x6 2)) (.cons 1 (.one (.bool x7)) (.cons 1 (.one (.int .i64 x8)) .nil))))))))) true)),(1,(.cells x9.length (.rL .u8 x9) true)),(2,(.cells (x6 * 2) (.rT [.int .i64,.sl .u8] x10) true))],next := 3,nt := 159,m := 3 }
def ef20j5 : Ty49 → St := fun (t9,x2,x3,x4,x5,x6,x7,x8,x9,x10,x11,x12,x13) => { tmps := [(0,(.ptr 0 0 8 0 0 0 8)),(8,(.ptr 3 0 3 0 0 0 3)),(9,(.bool t9))],heap := [(0,(.cells 8 (.segs (.cons 1 (.one (.int .i64 x2)) (.cons 1 (.one (.int .u64 x3)) (.cons 1 (.one (.own 1 0 1)) (.cons 1 (.one (.int .i64 x4)) (.cons 1 (.one (.int .i64 x5)) (.cons 1 (.one (.own 2 x6 2)) (.cons 1 (.one (.bool x7)) (.cons 1 (.one (.int .i64 x8)) .nil))))))))) true)),(1,(.cells x9.length (.rL .u8 x9) true)),(2,(.cells (x6 * 2) (.rT [.int .i64,.sl .u8] x10) true)),(3,(.cells 3 (.segs (.cons 1 (.one (.int .i64 x11)) (.cons 1 (.one (.int .i64 x12)) (.cons 1 (.one (.vs (.rI .u8 x13) 0 1)) .nil)))) true))],next := 4,nt := 159,m := 3 }
def ef20j6 : Ty50 → St := fun (x1,x2,x3,x4,x5,x6,x7,x8,x9,x10,x11,x12) => { tmps := [(0,(.ptr 0 0 8 0 0 0 8)),(8,(.ptr 3 0 3 0 0 0 3))],heap := [(0,(.cells 8 (.segs (.cons 1 (.one (.int .i64 x1)) (.cons 1 (.one (.int .u64 x2)) (.cons 1 (.one (.own 1 0 1)) (.cons 1 (.one (.int .i64 x3)) (.cons 1 (.one (.int .i64 x4)) (.cons 1 (.one (.own 2 x5 2)) (.cons 1 (.one (.bool x6)) (.cons 1 (.one (.int .i64 x7)) .nil))))))))) true)),(1,(.cells x8.length (.rL .u8 x8) true)),(2,(.cells (x5 * 2) (.rT [.int .i64,.sl .u8] x9) true)),(3,(.cells 3 (.segs (.cons 1 (.one (.int .i64 x10)) (.cons 1 (.one (.int .i64 x11)) (.cons 1 (.one (.vs (.rI .u8 x12) 0 1)) .nil)))) true))],next := 4,nt := 159,m := 3 }
def ef20j7 : Ty50 → St := fun (x1,x2,x3,x4,x5,x6,x7,x8,x9,x10,x11,x12) => { tmps := [(0,(.ptr 0 0 8 0 0 0 8)),(8,(.ptr 3 0 3 0 0 0 3))],heap := [(0,(.cells 8 (.segs (.cons 1 (.one (.int .i64 x1)) (.cons 1 (.one (.int .u64 x2)) (.cons 1 (.one (.own 1 0 1)) (.cons 1 (.one (.int .i64 x3)) (.cons 1 (.one (.int .i64 x4)) (.cons 1 (.one (.own 2 x5 2)) (.cons 1 (.one (.bool x6)) (.cons 1 (.one (.int .i64 x7)) .nil))))))))) true)),(1,(.cells x8.length (.rL .u8 x8) true)),(2,(.cells (x5 * 2) (.rT [.int .i64,.sl .u8] x9) true)),(3,(.cells 3 (.segs (.cons 1 (.one (.int .i64 x10)) (.cons 1 (.one (.int .i64 x11)) (.cons 1 (.one (.vs (.rI .u8 x12) 0 1)) .nil)))) true))],next := 4,nt := 159,m := 3 }
def ef20j8 : Ty50 → St := fun (x1,x2,x3,x4,x5,x6,x7,x8,x9,x10,x11,x12) => { tmps := [(0,(.ptr 0 0 8 0 0 0 8)),(8,(.ptr 3 0 3 0 0 0 3))],heap := [(0,(.cells 8 (.segs (.cons 1 (.one (.int .i64 x1)) (.cons 1 (.one (.int .u64 x2)) (.cons 1 (.one (.own 1 0 1)) (.cons 1 (.one (.int .i64 x3)) (.cons 1 (.one (.int .i64 x4)) (.cons 1 (.one (.own 2 x5 2)) (.cons 1 (.one (.bool x6)) (.cons 1 (.one (.int .i64 x7)) .nil))))))))) true)),(1,(.cells x8.length (.rL .u8 x8) true)),(2,(.cells (x5 * 2) (.rT [.int .i64,.sl .u8] x9) true)),(3,(.cells 3 (.segs (.cons 1 (.one (.int .i64 x10)) (.cons 1 (.one (.int .i64 x11)) (.cons 1 (.one (.vs (.rI .u8 x12) 0 1)) .nil)))) true))],next := 4,nt := 159,m := 3 }
def ef20j9 : Ty50 → St := fun (x1,x2,x3,x4,x5,x6,x7,x8,x9,x10,x11,x12) => { tmps := [(0,(.ptr 0 0 8 0 0 0 8)),(8,(.ptr 3 0 3 0 0 0 3))],heap := [(0,(.cells 8 (.segs (.cons 1 (.one (.int .i64 x1)) (.cons 1 (.one (.int .u64 x2)) (.cons 1 (.one (.own 1 0 1)) (.cons 1 (.one (.int .i64 x3)) (.cons 1 (.one (.int .i64 x4)) (.cons 1 (.one (.own 2 x5 2)) (.cons 1 (.one (.bool x6)) (.cons 1 (.one (.int .i64 x7)) .nil))))))))) true)),(1,(.cells x8.length (.rL .u8 x8) true)),(2,(.cells (x5 * 2) (.rT [.int .i64,.sl .u8] x9) true)),(3,(.cells 3 (.segs (.cons 1 (.one (.int .i64 x10)) (.cons 1 (.one (.int .i64 x11)) (.cons 1 (.one (.vs (.rI .u8 x12) 0 1)) .nil)))) true))],next := 4,nt := 159,m := 3 }
def ef20j10 : Ty50 → St := fun (x1,x2,x3,x4,x5,x6,x7,x8,x9,x10,x11,x12) => { tmps := [(0,(.ptr 0 0 8 0 0 0 8)),(8,(.ptr 3 0 3 0 0 0 3))],heap := [(0,(.cells 8 (.segs (.cons 1 (.one (.int .i64 x1)) (.cons 1 (.one (.int .u64 x2)) (.cons 1 (.one (.own 1 0 1)) (.cons 1 (.one (.int .i64 x3)) (.cons 1 (.one (.int .i64 x4)) (.cons 1 (.one (.own 2 x5 2)) (.cons 1 (.one (.bool x6)) (.cons 1 (.one (.int .i64 x7)) .nil))))))))) true)),(1,(.cells x8.length (.rL .u8 x8) true)),(2,(.cells (x5 * 2) (.rT [.int .i64,.sl .u8] x9) true)),(3,(.cells 3 (.segs (.cons 1 (.one (.int .i64 x10)) (.cons 1 (.one (.int .i64 x11)) (.cons 1 (.one (.vs (.rI .u8 x12) 0 1)) .nil)))) true))],next := 4,nt := 159,m := 3 }
def ef20j11 : Ty50 → St := fun (x1,x2,x3,x4,x5,x6,x7,x8,x9,x10,x11,x12) => { tmps := [(0,(.ptr 0 0 8 0 0 0 8)),(8,(.ptr 3 0 3 0 0 0 3))],heap := [(0,(.cells 8 (.segs (.cons 1 (.one (.int .i64 x1)) (.cons 1 (.one (.int .u64 x2)) (.cons 1 (.one (.own 1 0 1)) (.cons 1 (.one (.int .i64 x3)) (.cons 1 (.one (.int .i64 x4)) (.cons 1 (.one (.own 2 x5 2)) (.cons 1 (.one (.bool x6)) (.cons 1 (.one (.int .i64 x7)) .nil))))))))) true)),(1,(.cells x8.length (.rL .u8 x8) true)),(2,(.cells (x5 * 2) (.rT [.int .i64,.sl .u8] x9) true)),(3,(.cells 3 (.segs (.cons 1 (.one (.int .i64 x10)) (.cons 1 (.one (.int .i64 x11)) (.cons 1 (.one (.vs (.rI .u8 x12) 0 1)) .nil)))) true))],next := 4,nt := 159,m := 3 }
def ef20j12 : Ty42 → St := fun (x1,x2,x3,x4,x5,x6,x7,x8,x9) => { tmps := [(0,(.ptr 0 0 8 0 0 0 8))],heap := [(0,(.cells 8 (.segs (.cons 1 (.one (.int .i64 x1)) (.cons 1 (.one (.int .u64 x2)) (.cons 1 (.one (.own 1 0 1)) (.cons 1 (.one (.int .i64 x3)) (.cons 1 (.one (.int .i64 x4)) (.cons 1 (.one (.own 3 x5 2)) (.cons 1 (.one (.bool x6)) (.cons 1 (.one (.int .i64 x7)) .nil))))))))) true)),(1,(.cells x8.length (.rL .u8 x8) true)),(2,.gone),(3,(.cells (x5 * 2) (.rT [.int .i64,.sl .u8] x9) true))],next := 4,nt := 159,m := 3 }
def ef20j13 : Ty42 → St := fun (x1,x2,x3,x4,x5,x6,x7,x8,x9) => { tmps := [(0,(.ptr 0 0 8 0 0 0 8)),(10,.ns)],heap := [(0,(.cells 8 (.segs (.cons 1 (.one (.int .i64 x1)) (.cons 1 (.one (.int .u64 x2)) (.cons 1 (.one (.own 1 0 1)) (.cons 1 (.one (.int .i64 x3)) (.cons 1 (.one (.int .i64 x4)) (.cons 1 (.one (.own 3 x5 2)) (.cons 1 (.one (.bool x6)) (.cons 1 (.one (.int .i64 x7)) .nil))))))))) true)),(1,(.cells x8.length (.rL .u8 x8) true)),(2,.gone),(3,(.cells (x5 * 2) (.rT [.int .i64,.sl .u8] x9) true))],next := 4,nt := 159,m := 3 }
def ef20l1 : Ty51 → St := fun (x1,x2,x3,x4,x5,x6,x7,x8,x9,x10) => { tmps := [(0,(.ptr 0 0 8 0 0 0 8)),(10,(.own 3 0 1))],heap := [(0,(.cells 8 (.segs (.cons 1 (.one (.int .i64 x1)) (.cons 1 (.one (.int .u64 x2)) (.cons 1 (.one (.own 1 0 1)) (.cons 1 (.one (.int .i64 x3)) (.cons 1 (.one (.int .i64 x4)) (.cons 1 (.one (.own 4 x5 2)) (.cons 1 (.one (.bool x6)) (.cons 1 (.one (.int .i64 x7)) .nil))))))))) true)),(1,(.cells x8.length (.rL .u8 x8) true)),(2,.gone),(3,(.cells x9.length (.rL .u8 x9) true)),(4,(.cells (x5 * 2) (.rT [.int .i64,.sl .u8] x10) true))],next := 5,nt := 159,m := 3 }
def ef20j14 : Ty51 → St := fun (x1,x2,x3,x4,x5,x6,x7,x8,x9,x10) => { tmps := [(10,(.own 3 0 1))],heap := [(0,(.cells 8 (.segs (.cons 1 (.one (.int .i64 x1)) (.cons 1 (.one (.int .u64 x2)) (.cons 1 (.one (.own 1 0 1)) (.cons 1 (.one (.int .i64 x3)) (.cons 1 (.one (.int .i64 x4)) (.cons 1 (.one (.own 4 x5 2)) (.cons 1 (.one (.bool x6)) (.cons 1 (.one (.int .i64 x7)) .nil))))))))) true)),(1,(.cells x8.length (.rL .u8 x8) true)),(2,.gone),(3,(.cells x9.length (.rL .u8 x9) true)),(4,(.cells (x5 * 2) (.rT [.int .i64,.sl .u8] x10) true))],next := 5,nt := 159,m := 3 }
def f20_1 (F : Nat) (kf20j1 : Ty47 → Rz) : Ty43 → Rz := fun (a0w,a0k,a0l,a0a,a0g,a0n,a0h,a0o,a0f,a1) => (kf20j1 (a1,a0w,a0k,a0a,a0g,a0n,a0o,a0f,a0l,a0h))
theorem f20_1_eq (F : Nat) (Rf20j1 : St → Rz) : ∀ v,aexec VG3420 (Af20 F) (bp Try.f20 2) (ef20_a v) (kSeq (kc VG3420 Rf20j1 [(0,.plain),(1,.plain)]) (kFin VG3420 (some [(4,(.own 33)),(5,.plain),(0,(.touch 5))]) (Try.f20).results.toList)) = f20_1 F (Rf20j1 ∘ ef20j1) v := by
  rintro ⟨a0w,a0k,a0l,a0a,a0g,a0n,a0h,a0o,a0f,a1⟩; kernel_rfl
def f20_2 (F : Nat) (kf20j2 : Ty48 → Rz) : Ty47 → Rz := fun (t1,x2,x3,x4,x5,x6,x7,x8,x9,x10) => (cond (decide (t1.length < 1073740000)) (kf20j2 ((Lk.openB x3 t1).1,(Lk.openB x3 t1).2,x2,x3,x4,x5,x6,x7,x8,x9,x10)) none)
theorem f20_2_eq (F : Nat) (Rf20j2 : St → Rz) : ∀ v,aexec VG3420 (Af20 F) (bp Try.f20 6) (ef20j1 v) (kSeq (kc VG3420 Rf20j2 sp44) (kFin VG3420 (some [(4,(.own 33)),(5,.plain),(0,(.touch 5))]) (Try.f20).results.toList)) = f20_2 F (Rf20j2 ∘ ef20j2) v := by
  rintro ⟨t1,x2,x3,x4,x5,x6,x7,x8,x9,x10⟩; kernel_rfl
def f20_3 (F : Nat) (kf20j3 : Ty48 → Rz) : Ty48 → Rz := fun (t6,t7,x3,x4,x5,x6,x7,x8,x9,x10,x11) => (cond (t7 == (9 : Int)) (kf20j3 (t6,t7,x3,x4,x5,x6,x7,x8,(IntKind.i64.wrap (x9 + (1 : Int))),x10,x11)) (kf20j3 (t6,t7,x3,x4,x5,x6,x7,x8,x9,x10,x11)))
theorem f20_3_eq (F : Nat) (Rf20j3 : St → Rz) : ∀ v,aexec VG3420 (Af20 F) (bp Try.f20 14) (ef20j2 v) (kSeq (kc VG3420 Rf20j3 sp44) (kFin VG3420 (some [(4,(.own 33)),(5,.plain),(0,(.touch 5))]) (Try.f20).results.toList)) = f20_3 F (Rf20j3 ∘ ef20j3) v := by
  rintro ⟨t6,t7,x3,x4,x5,x6,x7,x8,x9,x10,x11⟩; kernel_rfl
def f20_4 (F : Nat) (kf20j4 : Ty47 → Rz) : Ty48 → Rz := fun (t6,t7,x3,x4,x5,x6,x7,x8,x9,x10,x11) => (cond (t7 != (0 : Int)) (some ((.tup (.cons 0 (.own 3 0 1) (.cons 0 (.int .i64 t7) .nil))),[(.cells 8 (.segs (.cons 1 (.one (.int .i64 x3)) (.cons 1 (.one (.int .u64 x4)) (.cons 1 (.one (.own 1 0 1)) (.cons 1 (.one (.int .i64 x5)) (.cons 1 (.one (.int .i64 x6)) (.cons 1 (.one (.own 4 x7 2)) (.cons 1 (.one (.bool x8)) (.cons 1 (.one (.int .i64 x9)) .nil))))))))) true),(.cells x10.length (.rL .u8 x10) true),.gone,(.cells 0 (.rL .u8 []) true),(.cells (x7 * 2) (.rT [.int .i64,.sl .u8] x11) true)])) (kf20j4 (t6,x3,x4,x5,x6,x7,x8,x9,x10,x11)))
theorem f20_4_eq (F : Nat) (Rf20j4 : St → Rz) : ∀ v,aexec VG3420 (Af20 F) (bp Try.f20 30) (ef20j3 v) (kSeq (kc VG3420 Rf20j4 [(0,.plain),(6,.plain)]) (kFin VG3420 (some [(4,(.own 33)),(5,.plain),(0,(.touch 5))]) (Try.f20).results.toList)) = f20_4 F (Rf20j4 ∘ ef20j4) v := by
  rintro ⟨t6,t7,x3,x4,x5,x6,x7,x8,x9,x10,x11⟩; kernel_rfl
def f20_5 (F : Nat) (kf20j5 : Ty49 → Rz) : Ty47 → Rz := fun (t6,x2,x3,x4,x5,x6,x7,x8,x9,x10) => (cond (decide (t6.length < 1073741000)) (kf20j5 ((Lk.rrd t6).2.2.2,x2,x3,x4,x5,x6,x7,x8,x9,x10,(Lk.rrd t6).1,(Lk.rrd t6).2.1,(Lk.rrd t6).2.2.1)) none)
theorem f20_5_eq (F : Nat) (Rf20j5 : St → Rz) : ∀ v,aexec VG3420 (Af20 F) (bp Try.f20 62) (ef20j4 v) (kSeq (kc VG3420 Rf20j5 sp45) (kFin VG3420 (some [(4,(.own 33)),(5,.plain),(0,(.touch 5))]) (Try.f20).results.toList)) = f20_5 F (Rf20j5 ∘ ef20j5) v := by
  rintro ⟨t6,x2,x3,x4,x5,x6,x7,x8,x9,x10⟩; kernel_rfl
def f20_6 (F : Nat) (kf20j6 : Ty50 → Rz) : Ty49 → Rz := fun (t9,x2,x3,x4,x5,x6,x7,x8,x9,x10,x11,x12,x13) => (cond (!t9) (some ((.tup (.cons 0 (.own 3 0 1) (.cons 0 (.int .i64 (2 : Int)) .nil))),[(.cells 8 (.segs (.cons 1 (.one (.int .i64 x2)) (.cons 1 (.one (.int .u64 x3)) (.cons 1 (.one (.own 1 0 1)) (.cons 1 (.one (.int .i64 x4)) (.cons 1 (.one (.int .i64 x5)) (.cons 1 (.one (.own 4 x6 2)) (.cons 1 (.one (.bool x7)) (.cons 1 (.one (.int .i64 x8)) .nil))))))))) true),(.cells x9.length (.rL .u8 x9) true),.gone,(.cells 0 (.rL .u8 []) true),(.cells (x6 * 2) (.rT [.int .i64,.sl .u8] x10) true)])) (kf20j6 (x2,x3,x4,x5,x6,x7,x8,x9,x10,x11,x12,x13)))
theorem f20_6_eq (F : Nat) (Rf20j6 : St → Rz) : ∀ v,aexec VG3420 (Af20 F) (bp Try.f20 126) (ef20j5 v) (kSeq (kc VG3420 Rf20j6 [(0,.plain),(8,.plain)]) (kFin VG3420 (some [(4,(.own 33)),(5,.plain),(0,(.touch 5))]) (Try.f20).results.toList)) = f20_6 F (Rf20j6 ∘ ef20j6) v := by
  rintro ⟨t9,x2,x3,x4,x5,x6,x7,x8,x9,x10,x11,x12,x13⟩; kernel_rfl
def f20_7 (F : Nat) (kf20j7 : Ty50 → Rz) : Ty50 → Rz := fun (x1,x2,x3,x4,x5,x6,x7,x8,x9,x10,x11,x12) => (cond (decide (x11 > (↑x8.length : Int))) (some ((.tup (.cons 0 (.own 3 0 1) (.cons 0 (.int .i64 (0 : Int)) .nil))),[(.cells 8 (.segs (.cons 1 (.one (.int .i64 x1)) (.cons 1 (.one (.int .u64 x2)) (.cons 1 (.one (.own 1 0 1)) (.cons 1 (.one (.int .i64 x3)) (.cons 1 (.one (.int .i64 x4)) (.cons 1 (.one (.own 4 x5 2)) (.cons 1 (.one (.bool x6)) (.cons 1 (.one (.int .i64 x7)) .nil))))))))) true),(.cells x8.length (.rL .u8 x8) true),.gone,(.cells 0 (.rL .u8 []) true),(.cells (x5 * 2) (.rT [.int .i64,.sl .u8] x9) true)])) (cond (decide (x10 > (IntKind.i64.wrap (x4 + (16 : Int))))) (some ((.tup (.cons 0 (.own 3 0 1) (.cons 0 (.int .i64 (0 : Int)) .nil))),[(.cells 8 (.segs (.cons 1 (.one (.int .i64 x1)) (.cons 1 (.one (.int .u64 x2)) (.cons 1 (.one (.own 1 0 1)) (.cons 1 (.one (.int .i64 x3)) (.cons 1 (.one (.int .i64 x4)) (.cons 1 (.one (.own 4 x5 2)) (.cons 1 (.one (.bool x6)) (.cons 1 (.one (.int .i64 x7)) .nil))))))))) true),(.cells x8.length (.rL .u8 x8) true),.gone,(.cells 0 (.rL .u8 []) true),(.cells (x5 * 2) (.rT [.int .i64,.sl .u8] x9) true)])) (kf20j7 (x1,x2,x3,x4,x5,x6,x7,x8,x9,x10,x11,x12))))
theorem f20_7_eq (F : Nat) (Rf20j7 : St → Rz) : ∀ v,aexec VG3420 (Af20 F) (bp Try.f20 254) (ef20j6 v) (kSeq (kc VG3420 Rf20j7 [(0,.plain),(8,.plain)]) (kFin VG3420 (some [(4,(.own 33)),(5,.plain),(0,(.touch 5))]) (Try.f20).results.toList)) = f20_7 F (Rf20j7 ∘ ef20j7) v := by
  rintro ⟨x1,x2,x3,x4,x5,x6,x7,x8,x9,x10,x11,x12⟩; kernel_rfl
def f20_8 (F : Nat) (kf20j8 : Ty50 → Rz) : Ty50 → Rz := fun (x1,x2,x3,x4,x5,x6,x7,x8,x9,x10,x11,x12) => (kf20j8 (x1,x2,(if x11 > x3 then x11 else x3),x4,x5,x6,x7,x8,x9,x10,x11,x12))
theorem f20_8_eq (F : Nat) (Rf20j8 : St → Rz) : ∀ v,aexec VG3420 (Af20 F) (bp Try.f20 510) (ef20j7 v) (kSeq (kc VG3420 Rf20j8 [(0,.plain),(8,.plain)]) (kFin VG3420 (some [(4,(.own 33)),(5,.plain),(0,(.touch 5))]) (Try.f20).results.toList)) = f20_8 F (Rf20j8 ∘ ef20j8) v := by
  rintro ⟨x1,x2,x3,x4,x5,x6,x7,x8,x9,x10,x11,x12⟩; kernel_rfl
def f20_9 (F : Nat) (kf20j9 : Ty50 → Rz) : Ty50 → Rz := fun (x1,x2,x3,x4,x5,x6,x7,x8,x9,x10,x11,x12) => (cond (x10 == (0 : Int)) (some ((.tup (.cons 0 (.own 3 0 1) (.cons 0 (.int .i64 (0 : Int)) .nil))),[(.cells 8 (.segs (.cons 1 (.one (.int .i64 x1)) (.cons 1 (.one (.int .u64 x2)) (.cons 1 (.one (.own 1 0 1)) (.cons 1 (.one (.int .i64 x3)) (.cons 1 (.one (.int .i64 x4)) (.cons 1 (.one (.own 4 x5 2)) (.cons 1 (.one (.bool x6)) (.cons 1 (.one (.int .i64 x7)) .nil))))))))) true),(.cells x8.length (.rL .u8 x8) true),.gone,(.cells 0 (.rL .u8 []) true),(.cells (x5 * 2) (.rT [.int .i64,.sl .u8] x9) true)])) (kf20j9 (x1,x2,x3,x4,x5,x6,x7,x8,x9,x10,x11,x12)))
theorem f20_9_eq (F : Nat) (Rf20j9 : St → Rz) : ∀ v,aexec VG3420 (Af20 F) (bp Try.f20 1022) (ef20j8 v) (kSeq (kc VG3420 Rf20j9 [(0,.plain),(8,.plain)]) (kFin VG3420 (some [(4,(.own 33)),(5,.plain),(0,(.touch 5))]) (Try.f20).results.toList)) = f20_9 F (Rf20j9 ∘ ef20j9) v := by
  rintro ⟨x1,x2,x3,x4,x5,x6,x7,x8,x9,x10,x11,x12⟩; kernel_rfl
def f20_10 (F : Nat) (kf20j10 : Ty50 → Rz) : Ty50 → Rz := fun (x1,x2,x3,x4,x5,x6,x7,x8,x9,x10,x11,x12) => (kf20j10 (x1,x2,x3,x4,x5,true,x7,x8,x9,x10,x11,x12))
theorem f20_10_eq (F : Nat) (Rf20j10 : St → Rz) : ∀ v,aexec VG3420 (Af20 F) (bp Try.f20 2046) (ef20j9 v) (kSeq (kc VG3420 Rf20j10 [(0,.plain),(8,.plain)]) (kFin VG3420 (some [(4,(.own 33)),(5,.plain),(0,(.touch 5))]) (Try.f20).results.toList)) = f20_10 F (Rf20j10 ∘ ef20j10) v := by
  rintro ⟨x1,x2,x3,x4,x5,x6,x7,x8,x9,x10,x11,x12⟩; kernel_rfl
def f20_11 (F : Nat) (kf20j11 : Ty50 → Rz) : Ty50 → Rz := fun (x1,x2,x3,x4,x5,x6,x7,x8,x9,x10,x11,x12) => (cond (decide (x10 ≤ x4)) (some ((.tup (.cons 0 (.own 3 0 1) (.cons 0 (.int .i64 (0 : Int)) .nil))),[(.cells 8 (.segs (.cons 1 (.one (.int .i64 x1)) (.cons 1 (.one (.int .u64 x2)) (.cons 1 (.one (.own 1 0 1)) (.cons 1 (.one (.int .i64 x3)) (.cons 1 (.one (.int .i64 x4)) (.cons 1 (.one (.own 4 x5 2)) (.cons 1 (.one (.bool x6)) (.cons 1 (.one (.int .i64 x7)) .nil))))))))) true),(.cells x8.length (.rL .u8 x8) true),.gone,(.cells 0 (.rL .u8 []) true),(.cells (x5 * 2) (.rT [.int .i64,.sl .u8] x9) true)])) (cond (Lk.rfineN 1073741824 x5 (Lk.R.mk x1 x2 x8 x3 x4 x9 x6 x7)) (cond (decide ((Lk.rfind (Lk.R.mk x1 x2 x8 x3 x4 x9 x6 x7).held x10) ≥ (0 : Int))) (some ((.tup (.cons 0 (.own 3 0 1) (.cons 0 (.int .i64 (0 : Int)) .nil))),[(Lk.bR (Lk.R.mk x1 x2 x8 x3 x4 x9 x6 x7) 1 4),(.cells (Lk.R.mk x1 x2 x8 x3 x4 x9 x6 x7).sent.length (.rL .u8 (Lk.R.mk x1 x2 x8 x3 x4 x9 x6 x7).sent) true),.gone,(.cells 0 (.rL .u8 []) true),(.cells ((Lk.R.mk x1 x2 x8 x3 x4 x9 x6 x7).held.length * 2) (.rT [.int .i64,.sl .u8] (Lk.R.mk x1 x2 x8 x3 x4 x9 x6 x7).held) true)])) (kf20j11 ((Lk.R.mk x1 x2 x8 x3 x4 x9 x6 x7).win,(Lk.R.mk x1 x2 x8 x3 x4 x9 x6 x7).key,(Lk.R.mk x1 x2 x8 x3 x4 x9 x6 x7).ack,(Lk.R.mk x1 x2 x8 x3 x4 x9 x6 x7).got,(Lk.R.mk x1 x2 x8 x3 x4 x9 x6 x7).held.length,(Lk.R.mk x1 x2 x8 x3 x4 x9 x6 x7).owes,(Lk.R.mk x1 x2 x8 x3 x4 x9 x6 x7).forged,(Lk.R.mk x1 x2 x8 x3 x4 x9 x6 x7).sent,(Lk.R.mk x1 x2 x8 x3 x4 x9 x6 x7).held,x10,x11,x12))) none))
theorem f20_11_eq (F : Nat) (Rf20j11 : St → Rz) : ∀ v,aexec VG3420 (Af20 F) (bp Try.f20 4094) (ef20j10 v) (kSeq (kc VG3420 Rf20j11 [(0,.plain),(8,.plain)]) (kFin VG3420 (some [(4,(.own 33)),(5,.plain),(0,(.touch 5))]) (Try.f20).results.toList)) = f20_11 F (Rf20j11 ∘ ef20j11) v := by
  rintro ⟨x1,x2,x3,x4,x5,x6,x7,x8,x9,x10,x11,x12⟩; kernel_rfl
def f20_12 (F : Nat) (kf20j12 : Ty42 → Rz) : Ty50 → Rz := fun (x1,x2,x3,x4,x5,x6,x7,x8,x9,x10,x11,x12) => (cond (decide ((x5 + 1) < 1073741824)) (kf20j12 (x1,x2,x3,x4,(x5 + 1),x6,x7,x8,(x9 ++ [[[x10],x12]]))) none)
theorem f20_12_eq (F : Nat) (Rf20j12 : St → Rz) : ∀ v,aexec VG3420 (Af20 F) (bp Try.f20 8190) (ef20j11 v) (kSeq (kc VG3420 Rf20j12 [(0,.plain)]) (kFin VG3420 (some [(4,(.own 33)),(5,.plain),(0,(.touch 5))]) (Try.f20).results.toList)) = f20_12 F (Rf20j12 ∘ ef20j12) v := by
  rintro ⟨x1,x2,x3,x4,x5,x6,x7,x8,x9,x10,x11,x12⟩; kernel_rfl
def f20_13 (F : Nat) (kf20j13 : Ty42 → Rz) : Ty42 → Rz := fun (x1,x2,x3,x4,x5,x6,x7,x8,x9) => (kf20j13 (x1,x2,x3,x4,x5,x6,x7,x8,x9))
theorem f20_13_eq (F : Nat) (Rf20j13 : St → Rz) : ∀ v,aexec VG3420 (Af20 F) (bp Try.f20 16382) (ef20j12 v) (kSeq (kc VG3420 Rf20j13 [(0,.plain),(10,.plain)]) (kFin VG3420 (some [(4,(.own 33)),(5,.plain),(0,(.touch 5))]) (Try.f20).results.toList)) = f20_13 F (Rf20j13 ∘ ef20j13) v := by
  rintro ⟨x1,x2,x3,x4,x5,x6,x7,x8,x9⟩; kernel_rfl
def f20_14 (F : Nat) (kf20l1 : Ty51 → Rz) (kf20j14 : Ty51 → Rz) : Ty51 → Rz := fun (x1,x2,x3,x4,x5,x6,x7,x8,x9,x10) => (cond (Lk.rfineN 1073741824 x5 (Lk.R.mk x1 x2 x8 x3 x4 x10 x6 x7)) (cond (decide ((Lk.rfind (Lk.R.mk x1 x2 x8 x3 x4 x10 x6 x7).held (IntKind.i64.wrap (x4 + (1 : Int)))) ≥ (0 : Int))) (cond (Lk.rfineN 1073741824 (Lk.R.mk x1 x2 x8 x3 x4 x10 x6 x7).held.length (Lk.R.mk x1 x2 x8 x3 x4 x10 x6 x7)) (cond ((decide (0 ≤ (Lk.rfind (Lk.R.mk x1 x2 x8 x3 x4 x10 x6 x7).held (IntKind.i64.wrap ((Lk.R.mk x1 x2 x8 x3 x4 x10 x6 x7).got + (1 : Int)))))) && (decide ((Lk.rfind (Lk.R.mk x1 x2 x8 x3 x4 x10 x6 x7).held (IntKind.i64.wrap ((Lk.R.mk x1 x2 x8 x3 x4 x10 x6 x7).got + (1 : Int)))) < (↑(Lk.R.mk x1 x2 x8 x3 x4 x10 x6 x7).held.length : Int)))) (cond (decide ((x9.length + 1) < 1073741824)) (cond ((decide ((0 : Int) ≤ (Lk.rfind (Lk.R.mk x1 x2 x8 x3 x4 x10 x6 x7).held (IntKind.i64.wrap ((Lk.R.mk x1 x2 x8 x3 x4 x10 x6 x7).got + (1 : Int)))))) && (decide ((Lk.rfind (Lk.R.mk x1 x2 x8 x3 x4 x10 x6 x7).held (IntKind.i64.wrap ((Lk.R.mk x1 x2 x8 x3 x4 x10 x6 x7).got + (1 : Int)))) ≤ (↑(Lk.R.mk x1 x2 x8 x3 x4 x10 x6 x7).held.length : Int)))) (cond (decide ((Int.toNat (Lk.rfind (Lk.R.mk x1 x2 x8 x3 x4 x10 x6 x7).held (IntKind.i64.wrap ((Lk.R.mk x1 x2 x8 x3 x4 x10 x6 x7).got + (1 : Int))))) < 1073741824)) (cond (((decide (0 ≤ (IntKind.i64.wrap ((Lk.rfind (Lk.R.mk x1 x2 x8 x3 x4 x10 x6 x7).held (IntKind.i64.wrap ((Lk.R.mk x1 x2 x8 x3 x4 x10 x6 x7).got + (1 : Int)))) + (1 : Int))))) && (decide ((IntKind.i64.wrap ((Lk.rfind (Lk.R.mk x1 x2 x8 x3 x4 x10 x6 x7).held (IntKind.i64.wrap ((Lk.R.mk x1 x2 x8 x3 x4 x10 x6 x7).got + (1 : Int)))) + (1 : Int))) ≤ (↑(Lk.R.mk x1 x2 x8 x3 x4 x10 x6 x7).held.length : Int)))) && (decide ((↑(Lk.R.mk x1 x2 x8 x3 x4 x10 x6 x7).held.length : Int) ≤ (↑(Lk.R.mk x1 x2 x8 x3 x4 x10 x6 x7).held.length : Int)))) (cond (decide (((Int.toNat (Lk.rfind (Lk.R.mk x1 x2 x8 x3 x4 x10 x6 x7).held (IntKind.i64.wrap ((Lk.R.mk x1 x2 x8 x3 x4 x10 x6 x7).got + (1 : Int))))) + ((Lk.R.mk x1 x2 x8 x3 x4 x10 x6 x7).held.length - (Int.toNat (IntKind.i64.wrap ((Lk.rfind (Lk.R.mk x1 x2 x8 x3 x4 x10 x6 x7).held (IntKind.i64.wrap ((Lk.R.mk x1 x2 x8 x3 x4 x10 x6 x7).got + (1 : Int)))) + (1 : Int)))))) < 1073741824)) (kf20l1 ((Lk.R.mk x1 x2 x8 x3 x4 x10 x6 x7).win,(Lk.R.mk x1 x2 x8 x3 x4 x10 x6 x7).key,(Lk.R.mk x1 x2 x8 x3 x4 x10 x6 x7).ack,(IntKind.i64.wrap ((Lk.R.mk x1 x2 x8 x3 x4 x10 x6 x7).got + (1 : Int))),((Int.toNat (Lk.rfind (Lk.R.mk x1 x2 x8 x3 x4 x10 x6 x7).held (IntKind.i64.wrap ((Lk.R.mk x1 x2 x8 x3 x4 x10 x6 x7).got + (1 : Int))))) + ((Lk.R.mk x1 x2 x8 x3 x4 x10 x6 x7).held.length - (Int.toNat (IntKind.i64.wrap ((Lk.rfind (Lk.R.mk x1 x2 x8 x3 x4 x10 x6 x7).held (IntKind.i64.wrap ((Lk.R.mk x1 x2 x8 x3 x4 x10 x6 x7).got + (1 : Int)))) + (1 : Int)))))),(Lk.R.mk x1 x2 x8 x3 x4 x10 x6 x7).owes,(Lk.R.mk x1 x2 x8 x3 x4 x10 x6 x7).forged,(Lk.R.mk x1 x2 x8 x3 x4 x10 x6 x7).sent,(x9 ++ [(((Lk.R.mk x1 x2 x8 x3 x4 x10 x6 x7).held.getD (Int.toNat (Lk.rfind (Lk.R.mk x1 x2 x8 x3 x4 x10 x6 x7).held (IntKind.i64.wrap ((Lk.R.mk x1 x2 x8 x3 x4 x10 x6 x7).got + (1 : Int))))) []).getD 1 [])]),(([] ++ ((Lk.R.mk x1 x2 x8 x3 x4 x10 x6 x7).held.take (Int.toNat (Lk.rfind (Lk.R.mk x1 x2 x8 x3 x4 x10 x6 x7).held (IntKind.i64.wrap ((Lk.R.mk x1 x2 x8 x3 x4 x10 x6 x7).got + (1 : Int))))))) ++ (((Lk.R.mk x1 x2 x8 x3 x4 x10 x6 x7).held.drop (Int.toNat (IntKind.i64.wrap ((Lk.rfind (Lk.R.mk x1 x2 x8 x3 x4 x10 x6 x7).held (IntKind.i64.wrap ((Lk.R.mk x1 x2 x8 x3 x4 x10 x6 x7).got + (1 : Int)))) + (1 : Int))))).take ((Lk.R.mk x1 x2 x8 x3 x4 x10 x6 x7).held.length - (Int.toNat (IntKind.i64.wrap ((Lk.rfind (Lk.R.mk x1 x2 x8 x3 x4 x10 x6 x7).held (IntKind.i64.wrap ((Lk.R.mk x1 x2 x8 x3 x4 x10 x6 x7).got + (1 : Int)))) + (1 : Int))))))))) none) none) none) none) none) none) none) (kf20j14 ((Lk.R.mk x1 x2 x8 x3 x4 x10 x6 x7).win,(Lk.R.mk x1 x2 x8 x3 x4 x10 x6 x7).key,(Lk.R.mk x1 x2 x8 x3 x4 x10 x6 x7).ack,(Lk.R.mk x1 x2 x8 x3 x4 x10 x6 x7).got,(Lk.R.mk x1 x2 x8 x3 x4 x10 x6 x7).held.length,(Lk.R.mk x1 x2 x8 x3 x4 x10 x6 x7).owes,(Lk.R.mk x1 x2 x8 x3 x4 x10 x6 x7).forged,(Lk.R.mk x1 x2 x8 x3 x4 x10 x6 x7).sent,x9,(Lk.R.mk x1 x2 x8 x3 x4 x10 x6 x7).held))) none)
theorem f20_14_eq (F : Nat) (Rf20l1 : St → Rz) (Rf20j14 : St → Rz) : ∀ v,aexec VG3420 (Af20 F) (bp Try.f20 131064) (ef20l1 v) (kSeq (kc VG3420 Rf20l1 sp43) (kBlock 0 (kSeq (kc VG3420 Rf20j14 [(10,.plain)]) (kFin VG3420 (some [(4,(.own 33)),(5,.plain),(0,(.touch 5))]) (Try.f20).results.toList)))) = f20_14 F (Rf20l1 ∘ ef20l1) (Rf20j14 ∘ ef20j14) v := by
  rintro ⟨x1,x2,x3,x4,x5,x6,x7,x8,x9,x10⟩; kernel_rfl
def f20_15_i : Ty42 → Int × Int × Int × Int × Nat × Bool × Int × (List (List Int)) × (List (List Int)) × (List (List (List Int))) := fun (x1,x2,x3,x4,x5,x6,x7,x8,x9) => (x1,x2,x3,x4,x5,x6,x7,x8,[],x9)
def f20_15 (F : Nat) (kf20j14 : Ty51 → Rz) : Ty42 → Rz := fun v => loopN (fun k => f20_14 F k kf20j14) F (f20_15_i v)
theorem f20_15_eq (F : Nat) (Rf20j14 : St → Rz) : ∀ v,aexec VG3420 (Af20 F) (bp Try.f20 65532) (ef20j13 v) (kBlock 0 (kSeq (kc VG3420 Rf20j14 [(10,.plain)]) (kFin VG3420 (some [(4,(.own 33)),(5,.plain),(0,(.touch 5))]) (Try.f20).results.toList))) = f20_15 F (Rf20j14 ∘ ef20j14) v :=
  loop_cut (by kernel_rfl) (by kernel_rfl) ef20j13 ef20l1 _ f20_15_i (fun k => f20_14 F k (Rf20j14 ∘ ef20j14))
    (by rintro ⟨x1,x2,x3,x4,x5,x6,x7,x8,x9⟩; kernel_rfl) (fun Rf20l1 => f20_14_eq F Rf20l1 Rf20j14)
def f20_16 (F : Nat) (kf20j14 : Ty51 → Rz) : Ty42 → Rz := f20_15 F kf20j14
theorem f20_16_eq (F : Nat) (Rf20j14 : St → Rz) : ∀ v,aexec VG3420 (Af20 F) (bp Try.f20 32766) (ef20j13 v) (kSeq (kc VG3420 Rf20j14 [(10,.plain)]) (kFin VG3420 (some [(4,(.own 33)),(5,.plain),(0,(.touch 5))]) (Try.f20).results.toList)) = f20_16 F (Rf20j14 ∘ ef20j14) v := fun v =>
  (block_in  (by kernel_rfl) _ _).trans (f20_15_eq F Rf20j14 v)
def f20_17 (F : Nat) : Ty51 → Rz := fun (x1,x2,x3,x4,x5,x6,x7,x8,x9,x10) => (some ((.tup (.cons 0 (.own 3 0 1) (.cons 0 (.int .i64 (0 : Int)) .nil))),[(.cells 8 (.segs (.cons 1 (.one (.int .i64 x1)) (.cons 1 (.one (.int .u64 x2)) (.cons 1 (.one (.own 1 0 1)) (.cons 1 (.one (.int .i64 x3)) (.cons 1 (.one (.int .i64 x4)) (.cons 1 (.one (.own 4 x5 2)) (.cons 1 (.one (.bool x6)) (.cons 1 (.one (.int .i64 x7)) .nil))))))))) true),(.cells x8.length (.rL .u8 x8) true),.gone,(.cells x9.length (.rL .u8 x9) true),(.cells (x5 * 2) (.rT [.int .i64,.sl .u8] x10) true)]))
theorem f20_17_eq (F : Nat) : ∀ v,aexec VG3420 (Af20 F) (bp Try.f20 32767) (ef20j14 v) (kFin VG3420 (some [(4,(.own 33)),(5,.plain),(0,(.touch 5))]) (Try.f20).results.toList) = f20_17 F v := by
  rintro ⟨x1,x2,x3,x4,x5,x6,x7,x8,x9,x10⟩; kernel_rfl
def f20_18 (F : Nat) : Ty42 → Rz := fun v => f20_16 F (f20_17 F) v
theorem f20_18_eq (F : Nat) : ∀ v,aexec VG3420 (Af20 F) (bp Try.f20 16383) (ef20j13 v) (kFin VG3420 (some [(4,(.own 33)),(5,.plain),(0,(.touch 5))]) (Try.f20).results.toList) = f20_18 F v :=
  seq_cut (by kernel_rfl) (by kernel_rfl) ef20j13 ef20j14 _ (fun k => f20_16 F k) (f20_17 F)
    (fun Rf20j14 => f20_16_eq F Rf20j14) (f20_17_eq F)
def f20_19 (F : Nat) : Ty42 → Rz := fun v => f20_13 F (f20_18 F) v
theorem f20_19_eq (F : Nat) : ∀ v,aexec VG3420 (Af20 F) (bp Try.f20 8191) (ef20j12 v) (kFin VG3420 (some [(4,(.own 33)),(5,.plain),(0,(.touch 5))]) (Try.f20).results.toList) = f20_19 F v :=
  seq_cut (by kernel_rfl) (by kernel_rfl) ef20j12 ef20j13 _ (fun k => f20_13 F k) (f20_18 F)
    (fun Rf20j13 => f20_13_eq F Rf20j13) (f20_18_eq F)
def f20_20 (F : Nat) : Ty50 → Rz := fun v => f20_12 F (f20_19 F) v
theorem f20_20_eq (F : Nat) : ∀ v,aexec VG3420 (Af20 F) (bp Try.f20 4095) (ef20j11 v) (kFin VG3420 (some [(4,(.own 33)),(5,.plain),(0,(.touch 5))]) (Try.f20).results.toList) = f20_20 F v :=
  seq_cut (by kernel_rfl) (by kernel_rfl) ef20j11 ef20j12 _ (fun k => f20_12 F k) (f20_19 F)
    (fun Rf20j12 => f20_12_eq F Rf20j12) (f20_19_eq F)
def f20_21 (F : Nat) : Ty50 → Rz := fun v => f20_11 F (f20_20 F) v
theorem f20_21_eq (F : Nat) : ∀ v,aexec VG3420 (Af20 F) (bp Try.f20 2047) (ef20j10 v) (kFin VG3420 (some [(4,(.own 33)),(5,.plain),(0,(.touch 5))]) (Try.f20).results.toList) = f20_21 F v :=
  seq_cut (by kernel_rfl) (by kernel_rfl) ef20j10 ef20j11 _ (fun k => f20_11 F k) (f20_20 F)
    (fun Rf20j11 => f20_11_eq F Rf20j11) (f20_20_eq F)
def f20_22 (F : Nat) : Ty50 → Rz := fun v => f20_10 F (f20_21 F) v
theorem f20_22_eq (F : Nat) : ∀ v,aexec VG3420 (Af20 F) (bp Try.f20 1023) (ef20j9 v) (kFin VG3420 (some [(4,(.own 33)),(5,.plain),(0,(.touch 5))]) (Try.f20).results.toList) = f20_22 F v :=
  seq_cut (by kernel_rfl) (by kernel_rfl) ef20j9 ef20j10 _ (fun k => f20_10 F k) (f20_21 F)
    (fun Rf20j10 => f20_10_eq F Rf20j10) (f20_21_eq F)
def f20_23 (F : Nat) : Ty50 → Rz := fun v => f20_9 F (f20_22 F) v
theorem f20_23_eq (F : Nat) : ∀ v,aexec VG3420 (Af20 F) (bp Try.f20 511) (ef20j8 v) (kFin VG3420 (some [(4,(.own 33)),(5,.plain),(0,(.touch 5))]) (Try.f20).results.toList) = f20_23 F v :=
  seq_cut (by kernel_rfl) (by kernel_rfl) ef20j8 ef20j9 _ (fun k => f20_9 F k) (f20_22 F)
    (fun Rf20j9 => f20_9_eq F Rf20j9) (f20_22_eq F)
def f20_24 (F : Nat) : Ty50 → Rz := fun v => f20_8 F (f20_23 F) v
theorem f20_24_eq (F : Nat) : ∀ v,aexec VG3420 (Af20 F) (bp Try.f20 255) (ef20j7 v) (kFin VG3420 (some [(4,(.own 33)),(5,.plain),(0,(.touch 5))]) (Try.f20).results.toList) = f20_24 F v :=
  seq_cut (by kernel_rfl) (by kernel_rfl) ef20j7 ef20j8 _ (fun k => f20_8 F k) (f20_23 F)
    (fun Rf20j8 => f20_8_eq F Rf20j8) (f20_23_eq F)
def f20_25 (F : Nat) : Ty50 → Rz := fun v => f20_7 F (f20_24 F) v
theorem f20_25_eq (F : Nat) : ∀ v,aexec VG3420 (Af20 F) (bp Try.f20 127) (ef20j6 v) (kFin VG3420 (some [(4,(.own 33)),(5,.plain),(0,(.touch 5))]) (Try.f20).results.toList) = f20_25 F v :=
  seq_cut (by kernel_rfl) (by kernel_rfl) ef20j6 ef20j7 _ (fun k => f20_7 F k) (f20_24 F)
    (fun Rf20j7 => f20_7_eq F Rf20j7) (f20_24_eq F)
def f20_26 (F : Nat) : Ty49 → Rz := fun v => f20_6 F (f20_25 F) v
theorem f20_26_eq (F : Nat) : ∀ v,aexec VG3420 (Af20 F) (bp Try.f20 63) (ef20j5 v) (kFin VG3420 (some [(4,(.own 33)),(5,.plain),(0,(.touch 5))]) (Try.f20).results.toList) = f20_26 F v :=
  seq_cut (by kernel_rfl) (by kernel_rfl) ef20j5 ef20j6 _ (fun k => f20_6 F k) (f20_25 F)
    (fun Rf20j6 => f20_6_eq F Rf20j6) (f20_25_eq F)
def f20_27 (F : Nat) : Ty47 → Rz := fun v => f20_5 F (f20_26 F) v
theorem f20_27_eq (F : Nat) : ∀ v,aexec VG3420 (Af20 F) (bp Try.f20 31) (ef20j4 v) (kFin VG3420 (some [(4,(.own 33)),(5,.plain),(0,(.touch 5))]) (Try.f20).results.toList) = f20_27 F v :=
  seq_cut (by kernel_rfl) (by kernel_rfl) ef20j4 ef20j5 _ (fun k => f20_5 F k) (f20_26 F)
    (fun Rf20j5 => f20_5_eq F Rf20j5) (f20_26_eq F)
def f20_28 (F : Nat) : Ty48 → Rz := fun v => f20_4 F (f20_27 F) v
theorem f20_28_eq (F : Nat) : ∀ v,aexec VG3420 (Af20 F) (bp Try.f20 15) (ef20j3 v) (kFin VG3420 (some [(4,(.own 33)),(5,.plain),(0,(.touch 5))]) (Try.f20).results.toList) = f20_28 F v :=
  seq_cut (by kernel_rfl) (by kernel_rfl) ef20j3 ef20j4 _ (fun k => f20_4 F k) (f20_27 F)
    (fun Rf20j4 => f20_4_eq F Rf20j4) (f20_27_eq F)
def f20_29 (F : Nat) : Ty48 → Rz := fun v => f20_3 F (f20_28 F) v
theorem f20_29_eq (F : Nat) : ∀ v,aexec VG3420 (Af20 F) (bp Try.f20 7) (ef20j2 v) (kFin VG3420 (some [(4,(.own 33)),(5,.plain),(0,(.touch 5))]) (Try.f20).results.toList) = f20_29 F v :=
  seq_cut (by kernel_rfl) (by kernel_rfl) ef20j2 ef20j3 _ (fun k => f20_3 F k) (f20_28 F)
    (fun Rf20j3 => f20_3_eq F Rf20j3) (f20_28_eq F)
def f20_30 (F : Nat) : Ty47 → Rz := fun v => f20_2 F (f20_29 F) v
theorem f20_30_eq (F : Nat) : ∀ v,aexec VG3420 (Af20 F) (bp Try.f20 3) (ef20j1 v) (kFin VG3420 (some [(4,(.own 33)),(5,.plain),(0,(.touch 5))]) (Try.f20).results.toList) = f20_30 F v :=
  seq_cut (by kernel_rfl) (by kernel_rfl) ef20j1 ef20j2 _ (fun k => f20_2 F k) (f20_29 F)
    (fun Rf20j2 => f20_2_eq F Rf20j2) (f20_29_eq F)
def f20_31 (F : Nat) : Ty43 → Rz := fun v => f20_1 F (f20_30 F) v
theorem f20_31_eq (F : Nat) : ∀ v,aexec VG3420 (Af20 F) (sub (bodyOf Try.f20) []) (ef20_a v) (kFin VG3420 (some [(4,(.own 33)),(5,.plain),(0,(.touch 5))]) (Try.f20).results.toList) = f20_31 F v :=
  seq_cut (by kernel_rfl) (by kernel_rfl) ef20_a ef20j1 _ (fun k => f20_1 F k) (f20_30 F)
    (fun Rf20j1 => f20_1_eq F Rf20j1) (f20_30_eq F)
def f20 (F : Nat) : Ty43 → Rz := f20_31 F
theorem f20_body (F : Nat) (a0w : Int) (a0k : Int) (a0l : List (List Int)) (a0a : Int) (a0g : Int) (a0n : Nat) (a0h : List (List (List Int))) (a0o : Bool) (a0f : Int) (a1 : List Int) : abody VG3420 (Af20 F) Try.f20 [(.ptr 0 0 8 0 0 0 8),(.vs (.rI .u8 a1) 0 1)] [(.cells 8 (.segs (.cons 1 (.one (.int .i64 a0w)) (.cons 1 (.one (.int .u64 a0k)) (.cons 1 (.one (.own 1 0 1)) (.cons 1 (.one (.int .i64 a0a)) (.cons 1 (.one (.int .i64 a0g)) (.cons 1 (.one (.own 2 a0n 2)) (.cons 1 (.one (.bool a0o)) (.cons 1 (.one (.int .i64 a0f)) .nil))))))))) true),(.cells a0l.length (.rL .u8 a0l) true),(.cells (a0n * 2) (.rT [.int .i64,.sl .u8] a0h) true)] = f20 F (a0w,a0k,a0l,a0a,a0g,a0n,a0h,a0o,a0f,a1) :=
  (abody_in (c := (sub (bodyOf Try.f20) [])) (by kernel_rfl) (s := ef20_a (a0w,a0k,a0l,a0a,a0g,a0n,a0h,a0o,a0f,a1)) (by kernel_rfl)).trans (f20_31_eq F (a0w,a0k,a0l,a0a,a0g,a0n,a0h,a0o,a0f,a1))
def r20 : CRun := fun X H => match X,H with
  | [(.ptr 0 0 8 0 0 0 8),(.vs (.rI .u8 a1) 0 1)],[(.cells 8 (.segs (.cons 1 (.one (.int .i64 a0w)) (.cons 1 (.one (.int .u64 a0k)) (.cons 1 (.one (.own 1 0 1)) (.cons 1 (.one (.int .i64 a0a)) (.cons 1 (.one (.int .i64 a0g)) (.cons 1 (.one (.own 2 a0n 2)) (.cons 1 (.one (.bool a0o)) (.cons 1 (.one (.int .i64 a0f)) .nil))))))))) true),(.cells z1 (.rL .u8 a0l) true),(.cells z2 (.rT [.int .i64,.sl .u8] a0h) true)] => some ((Lk.rfine a0n (Lk.R.mk a0w a0k a0l a0a a0g a0h a0o a0f)) && (decide (a1.length < 1073740000)),(.tup (.cons 0 (.own 3 0 1) (.cons 0 (.int .i64 (Lk.rrecv (Lk.R.mk a0w a0k a0l a0a a0g a0h a0o a0f) a1).2.2) .nil))),[(Lk.bR ((Lk.rrecv (Lk.R.mk a0w a0k a0l a0a a0g a0h a0o a0f) a1).1) 1 4),(.cells (Lk.rrecv (Lk.R.mk a0w a0k a0l a0a a0g a0h a0o a0f) a1).1.sent.length (.rL .u8 (Lk.rrecv (Lk.R.mk a0w a0k a0l a0a a0g a0h a0o a0f) a1).1.sent) true),.gone,(.cells (Lk.rrecv (Lk.R.mk a0w a0k a0l a0a a0g a0h a0o a0f) a1).2.1.length (.rL .u8 (Lk.rrecv (Lk.R.mk a0w a0k a0l a0a a0g a0h a0o a0f) a1).2.1) true),(.cells ((Lk.rrecv (Lk.R.mk a0w a0k a0l a0a a0g a0h a0o a0f) a1).1.held.length * 2) (.rT [.int .i64,.sl .u8] (Lk.rrecv (Lk.R.mk a0w a0k a0l a0a a0g a0h a0o a0f) a1).1.held) true)])
  | _,_ => none
theorem s20 (a0w : Int) (a0k : Int) (a0l : List (List Int)) (a0a : Int) (a0g : Int) (a0n : Nat) (a0h : List (List (List Int))) (a0o : Bool) (a0f : Int) (a1 : List Int) (hp : ((Lk.rfine a0n (Lk.R.mk a0w a0k a0l a0a a0g a0h a0o a0f)) && (decide (a1.length < 1073740000))) = true) (h1 : okV (.vs (.rI .u8 a1) 0 1)) (k0 : okB (.cells 8 (.segs (.cons 1 (.one (.int .i64 a0w)) (.cons 1 (.one (.int .u64 a0k)) (.cons 1 (.one (.own 1 0 1)) (.cons 1 (.one (.int .i64 a0a)) (.cons 1 (.one (.int .i64 a0g)) (.cons 1 (.one (.own 2 a0n 2)) (.cons 1 (.one (.bool a0o)) (.cons 1 (.one (.int .i64 a0f)) .nil))))))))) true)) (k1 : okB (.cells a0l.length (.rL .u8 a0l) true)) (k2 : okB (.cells (a0n * 2) (.rT [.int .i64,.sl .u8] a0h) true)) : ∃ F,f20 F (a0w,a0k,a0l,a0a,a0g,a0n,a0h,a0o,a0f,a1) = some ((.tup (.cons 0 (.own 3 0 1) (.cons 0 (.int .i64 (Lk.rrecv (Lk.R.mk a0w a0k a0l a0a a0g a0h a0o a0f) a1).2.2) .nil))),[(Lk.bR ((Lk.rrecv (Lk.R.mk a0w a0k a0l a0a a0g a0h a0o a0f) a1).1) 1 4),(.cells (Lk.rrecv (Lk.R.mk a0w a0k a0l a0a a0g a0h a0o a0f) a1).1.sent.length (.rL .u8 (Lk.rrecv (Lk.R.mk a0w a0k a0l a0a a0g a0h a0o a0f) a1).1.sent) true),.gone,(.cells (Lk.rrecv (Lk.R.mk a0w a0k a0l a0a a0g a0h a0o a0f) a1).2.1.length (.rL .u8 (Lk.rrecv (Lk.R.mk a0w a0k a0l a0a a0g a0h a0o a0f) a1).2.1) true),(.cells ((Lk.rrecv (Lk.R.mk a0w a0k a0l a0a a0g a0h a0o a0f) a1).1.held.length * 2) (.rT [.int .i64,.sl .u8] (Lk.rrecv (Lk.R.mk a0w a0k a0l a0a a0g a0h a0o a0f) a1).1.held) true)]) := by
  rw [Bool.and_eq_true,decide_eq_true_eq] at hp
  obtain ⟨q0,q1,q2,q3,q4,q5,q6,q7⟩ := Lk.rfineN_iff.1 hp.1
  simp only at q0 q1 q2 q3 q4 q5 q6 q7
  subst q0
  have hol := Lk.openB_len a0k a1
  have hoe : (Lk.openB a0k a1).2 = 0 ∨ (Lk.openB a0k a1).2 = 2 ∨ (Lk.openB a0k a1).2 = 9 := by
    unfold Lk.openB
    split
    · exact .inr (.inl rfl)
    · split
      · exact .inl rfl
      · exact .inr (.inr rfl)
  refine ⟨a0h.length + 10,?_⟩
  simp only [f20,f20_31,f20_1,f20_30,f20_2]
  rw [cond_pos (by omega)]
  simp only [f20_29,f20_3,int_beq]
  by_cases h0 : (Lk.openB a0k a1).2 = 0
  rotate_left
  · by_cases h9 : (Lk.openB a0k a1).2 = 9
    · have e : Lk.rrecv (Lk.R.mk a0w a0k a0l a0a a0g a0h a0o a0f) a1 = (Lk.R.mk a0w a0k a0l a0a a0g a0h a0o (a0f + 1),[],9) := by
        unfold Lk.rrecv
        simp only
        rw [if_neg h0,if_pos h9,h9]
      rw [cond_pos h9,e,i64w (by omega) (by omega)]
      simp only [f20_28,f20_4,int_bne]
      rw [cond_pos h0,h9]
      rfl
    · have e : Lk.rrecv (Lk.R.mk a0w a0k a0l a0a a0g a0h a0o a0f) a1 = (Lk.R.mk a0w a0k a0l a0a a0g a0h a0o a0f,[],(Lk.openB a0k a1).2) := by
        unfold Lk.rrecv
        simp only
        rw [if_neg h0,if_neg h9]
      rw [cond_neg h9,e]
      simp only [f20_28,f20_4,int_bne]
      rw [cond_pos h0]
      rfl
  rw [cond_neg (by omega)]
  simp only [f20_28,f20_4,int_bne]
  rw [cond_neg (by omega)]
  simp only [f20_27,f20_5]
  rw [cond_pos (by omega)]
  cases hv : (Lk.rd (Lk.openB a0k a1).1).2.2.2 with
  | false =>
    have e : Lk.rrecv (Lk.R.mk a0w a0k a0l a0a a0g a0h a0o a0f) a1 = (Lk.R.mk a0w a0k a0l a0a a0g a0h a0o a0f,[],2) := by
      unfold Lk.rrecv
      simp only
      rw [if_pos h0,hv,if_neg (by simp)]
    have e2 : Lk.rrd (Lk.openB a0k a1).1 = (0,0,[],false) := by unfold Lk.rrd; rw [hv,if_neg (by simp)]
    rw [e,e2]
    rfl
  | true =>
    have e2 : Lk.rrd (Lk.openB a0k a1).1 = Lk.rd (Lk.openB a0k a1).1 := by unfold Lk.rrd; rw [if_pos hv]
    have e : Lk.rrecv (Lk.R.mk a0w a0k a0l a0a a0g a0h a0o a0f) a1 = ((Lk.rtake (Lk.R.mk a0w a0k a0l a0a a0g a0h a0o a0f) (Lk.rd (Lk.openB a0k a1).1).1 (Lk.rd (Lk.openB a0k a1).1).2.1 (Lk.rd (Lk.openB a0k a1).1).2.2.1).1,(Lk.rtake (Lk.R.mk a0w a0k a0l a0a a0g a0h a0o a0f) (Lk.rd (Lk.openB a0k a1).1).1 (Lk.rd (Lk.openB a0k a1).1).2.1 (Lk.rd (Lk.openB a0k a1).1).2.2.1).2,0) := by
      unfold Lk.rrecv
      simp only
      rw [if_pos h0,if_pos hv]
    rw [e,e2,hv]
    generalize (Lk.rd (Lk.openB a0k a1).1).1 = s
    generalize (Lk.rd (Lk.openB a0k a1).1).2.1 = a
    generalize (Lk.rd (Lk.openB a0k a1).1).2.2.1 = b
    simp only [f20_26,f20_6,Bool.not_true,cond_false,f20_25,f20_7]
    by_cases hf1 : (a0l.length : Int) < a
    · rw [cond_pos (by omega),show Lk.rtake (Lk.R.mk a0w a0k a0l a0a a0g a0h a0o a0f) s a b = (Lk.R.mk a0w a0k a0l a0a a0g a0h a0o a0f,[]) by unfold Lk.rtake; rw [if_pos (.inl hf1)]]
      rfl
    rw [cond_neg (by omega),i64w (x := a0g + 16) (by omega) (by omega)]
    by_cases hf2 : a0g + 16 < s
    · rw [cond_pos (by omega),show Lk.rtake (Lk.R.mk a0w a0k a0l a0a a0g a0h a0o a0f) s a b = (Lk.R.mk a0w a0k a0l a0a a0g a0h a0o a0f,[]) by unfold Lk.rtake; rw [if_pos (.inr hf2)]]
      rfl
    rw [cond_neg (by omega)]
    simp only [f20_24,f20_8,f20_23,f20_9,int_beq]
    have hack : 0 ≤ (if a > a0a then a else a0a) ∧ (if a > a0a then a else a0a) ≤ (a0l.length : Int) := by split <;> omega
    have hra : Lk.racked (Lk.R.mk a0w a0k a0l a0a a0g a0h a0o a0f) a = Lk.R.mk a0w a0k a0l (if a > a0a then a else a0a) a0g a0h a0o a0f := rfl
    have ht : Lk.rtake (Lk.R.mk a0w a0k a0l a0a a0g a0h a0o a0f) s a b = if s = 0 then (Lk.racked (Lk.R.mk a0w a0k a0l a0a a0g a0h a0o a0f) a,[]) else Lk.rhold { Lk.racked (Lk.R.mk a0w a0k a0l a0a a0g a0h a0o a0f) a with owes := true } s b := by
      unfold Lk.rtake; rw [if_neg (by simp only; omega)]
    rw [ht,hra]
    generalize (if a > a0a then a else a0a) = ac at hack ⊢
    by_cases hs0 : s = 0
    · rw [cond_pos hs0,if_pos hs0] <;> rfl
    rw [cond_neg hs0,if_neg hs0]
    simp only [f20_22,f20_10,f20_21,f20_11]
    have hrh : Lk.rhold (Lk.R.mk a0w a0k a0l ac a0g a0h true a0f) s b = if s ≤ a0g ∨ 0 ≤ Lk.rfind a0h s then (Lk.R.mk a0w a0k a0l ac a0g a0h true a0f,[]) else Lk.rdel (a0h.length + 2) (Lk.R.mk a0w a0k a0l ac a0g (a0h ++ [[[s],b]]) true a0f) [] := rfl
    rw [hrh]
    by_cases hg : s ≤ a0g
    · rw [cond_pos hg,if_pos (.inl hg)] <;> rfl
    have hloose : ∀ (g : Int) (h : List (List (List Int))),0 ≤ g → g < 1073741824 → h.length < 1073741824 → Lk.rfineN 1073741824 h.length (Lk.R.mk a0w a0k a0l ac g h true a0f) = true := fun g h h1 h2 h3 =>
      Lk.rfineN_iff.2 ⟨rfl,q1,hack,⟨h1,h2⟩,⟨q4.1,by simp only; omega⟩,q5,q6,h3⟩
    rw [cond_neg hg,hloose a0g a0h q3.1 (by omega) (by omega),cond_true]
    by_cases hi : 0 ≤ Lk.rfind a0h s
    · rw [cond_pos (by omega),if_pos (.inr hi)] <;> rfl
    rw [cond_neg (by omega),if_neg (by omega)]
    simp only [f20_20,f20_12,f20_19,f20_13]
    rw [cond_pos (by omega)]
    simp only [f20_18,f20_16,f20_15,f20_15_i]
    have hl1 : (a0h ++ [[[s],b]]).length = a0h.length + 1 := by simp
    generalize hfin : Lk.rdel (a0h.length + 2) (Lk.R.mk a0w a0k a0l ac a0g (a0h ++ [[[s],b]]) true a0f) [] = fin
    refine loopN_ind (fun m st => ∃ (g : Int) (h : List (List (List Int))) (l : List (List Int)),st = (a0w,a0k,ac,g,h.length,true,a0f,a0l,l,h) ∧ Lk.rdel m (Lk.R.mk a0w a0k a0l ac g h true a0f) l = fin ∧ h.length < m ∧ 0 ≤ g ∧ g + h.length ≤ a0g + a0h.length + 1 ∧ l.length + h.length ≤ a0h.length + 1) ?_ _ (a0h.length + 2) _ (by omega) ⟨a0g,a0h ++ [[[s],b]],[],by rw [hl1],hfin,by omega,q3.1,by omega,by simp only [List.length_nil]; omega⟩
    rintro m st k ⟨g,h,l,rfl,hd,hm,hg0,hgl,hll⟩ hk
    cases m with
    | zero => omega
    | succ m =>
      rw [Lk.rdel] at hd
      simp only at hd
      have hrg := Lk.rfind_rng h (g + 1)
      simp only [f20_14]
      rw [hloose g h hg0 (by omega) (by omega),cond_true,i64w (x := g + 1) (by omega) (by omega)]
      by_cases hq : 0 ≤ Lk.rfind h (g + 1)
      · rw [if_pos hq] at hd
        obtain ⟨q,hqq⟩ : ∃ q : Nat,Lk.rfind h (g + 1) = q := ⟨(Lk.rfind h (g + 1)).toNat,by omega⟩
        rw [hqq] at hd hrg ⊢
        rw [Int.toNat_natCast] at hd
        rw [cond_pos (by omega),i64w (x := (q : Int) + 1) (by omega) (by omega),Int.toNat_natCast,show Int.toNat ((q : Int) + 1) = q + 1 by omega]
        simp only [dec_and]
        rw [cond_pos (by omega),cond_pos (by omega),cond_pos (by omega),cond_pos (by omega),cond_pos (by omega),cond_pos (by omega),List.nil_append,List.take_of_length_le (i := h.length - (q + 1)) (by rw [List.length_drop]; omega)]
        have hlen : (h.take q ++ h.drop (q + 1)).length = q + (h.length - (q + 1)) := by rw [List.length_append,List.length_take,List.length_drop]; omega
        rw [← hlen]
        refine hk m _ (by omega) ⟨g + 1,_,_,rfl,hd,?_,by omega,?_,?_⟩
        · rw [hlen]; omega
        · rw [hlen]; omega
        · rw [hlen,List.length_append]; simp only [List.length_cons,List.length_nil]; omega
      · rw [if_neg hq] at hd
        rw [cond_neg (by omega),← hd]
        simp only [f20_17]

theorem c20 : CallOk Try.prog G34 20 r20 := callOk_of (V := VG3420) mixed tys eVG3420 (f := 20) (fn := Try.f20) Try.func20 (by kernel_rfl) (c := sub (bodyOf Try.f20) []) (by kernel_rfl) (by
  intro X H r H' h hX hH
  unfold r20 at h; split at h <;> try contradiction
  · simp only [Option.some.injEq,Prod.mk.injEq] at h
    obtain ⟨hp,rfl,rfl⟩ := h
    obtain rfl := okB_size (hH _ (.tail _ (.head _))) rfl
    obtain rfl := okB_size (hH _ (.tail _ (.tail _ (.head _)))) rfl
    obtain rfl := (Lk.rfineN_iff.1 (Bool.and_eq_true_iff.1 hp).1).1
    obtain ⟨F,hF⟩ := s20 _ _ _ _ _ _ _ _ _ _ hp (hX _ (.tail _ (.head _))) (hH _ (.head _)) (hH _ (.tail _ (.head _))) (hH _ (.tail _ (.tail _ (.head _))))
    exact ⟨Af20 F,(f20_body F _ _ _ _ _ _ _ _ _ _).trans hF⟩)
end Go.Am
