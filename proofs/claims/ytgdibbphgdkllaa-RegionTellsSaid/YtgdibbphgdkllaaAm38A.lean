/- Part of a proof about the functions of the given program. -/
import Derived.Test.YtgdibbphgdkllaaAmReg
import Derived.Test.YtgdibbphgdkllaaProg
set_option linter.unusedVariables false
set_option linter.unusedSimpArgs false
namespace Go.Am
open Go Go.Proofs
abbrev sp1 : List (Nat × Md) := [(0,.plain),(1,.plain),(2,.plain)]
abbrev sp2 : List (Nat × Md) := [(0,.plain),(1,.plain),(2,.plain),(7,.plain)]
abbrev sp10 : List (Nat × Md) := [(0,.plain),(1,.plain),(5,.plain)]
abbrev Ty0 := (List Int) × Int × (List Int) × (List Int) × (List Int) × (List Int)
abbrev Ty1 := (List Int) × (List Int) × (List Int) × (List Int)
abbrev Ty3 := (List Int) × (List Int) × (List Int) × (List Int) × (List Int) × (List Int)
abbrev Ty4 := (List Int) × Int × Int × Int
abbrev Ty5 := (List Int) × Int × Int × Int × (List Int)
abbrev Ty6 := Int × Int × Int × (List Bool)
abbrev Ty7 := (List (List Int)) × Int × Int
abbrev Ty8 := (List (List Int)) × Int × Int × Int
abbrev Ty9 := (List (List Int)) × Int × Int × Int × (List (List Int))
abbrev Ty10 := Int × Int × (List (List Int))
abbrev Ty11 := (List Int) × (List Int) × Int
def T38 : Tys := [⟨.other,1,0⟩,⟨.func,1,8⟩,⟨.int .i64,1,8⟩,⟨.int .i64,1,8⟩,⟨.bool,1,1⟩,⟨.int .u8,1,1⟩,⟨.int .u8,1,1⟩,⟨.struct [(2,0),(3,1),(4,2),(6,3)],4,24⟩,⟨.struct [(2,0),(3,1),(4,2),(6,3)],4,24⟩,⟨.str,1,16⟩,⟨.str,1,16⟩,⟨.str,1,16⟩,⟨.int .u64,1,8⟩,⟨.other,0,0⟩,⟨.other,0,0⟩,⟨.ptr 115,1,8⟩,⟨.ptr 118,1,8⟩,⟨.ptr 127,1,8⟩,⟨.other,0,0⟩,⟨.other,0,0⟩,⟨.other,1,16⟩,⟨.int .i32,1,4⟩,⟨.slice 3,1,24⟩,⟨.func,1,8⟩,⟨.slice 22,1,24⟩,⟨.func,1,8⟩,⟨.func,1,8⟩,⟨.slice 4,1,24⟩,⟨.func,1,8⟩,⟨.slice 27,1,24⟩,⟨.func,1,8⟩,⟨.int .i64,1,8⟩,⟨.other,1,0⟩,⟨.func,1,8⟩,⟨.func,1,8⟩,⟨.func,1,8⟩,⟨.func,1,8⟩,⟨.func,1,8⟩,⟨.func,1,8⟩,⟨.func,1,8⟩,⟨.func,1,8⟩,⟨.func,1,8⟩,⟨.func,1,8⟩,⟨.func,1,8⟩,⟨.func,1,8⟩,⟨.func,1,8⟩,⟨.func,1,8⟩,⟨.slice 52,1,24⟩,⟨.func,1,8⟩,⟨.func,1,8⟩,⟨.func,1,8⟩,⟨.func,1,8⟩,⟨.arr 3 3,3,24⟩,⟨.func,1,8⟩,⟨.func,1,8⟩,⟨.func,1,8⟩,⟨.func,1,8⟩,⟨.func,1,8⟩,⟨.func,1,8⟩,⟨.func,1,8⟩,⟨.func,1,8⟩,⟨.func,1,8⟩,⟨.func,1,8⟩,⟨.func,1,8⟩,⟨.func,1,8⟩,⟨.func,1,8⟩,⟨.func,1,8⟩,⟨.func,1,8⟩,⟨.arr 6 3,6,48⟩,⟨.func,1,8⟩,⟨.func,1,8⟩,⟨.func,1,8⟩,⟨.func,1,8⟩,⟨.func,1,8⟩,⟨.func,1,8⟩,⟨.func,1,8⟩,⟨.func,1,8⟩,⟨.func,1,8⟩,⟨.func,1,8⟩,⟨.int .u64,1,8⟩,⟨.map 3 3,1,8⟩,⟨.func,1,8⟩,⟨.other,1,0⟩,⟨.map 3 22,1,8⟩,⟨.func,1,8⟩,⟨.func,1,8⟩,⟨.func,1,8⟩,⟨.func,1,8⟩,⟨.slice 24,1,24⟩,⟨.func,1,8⟩,⟨.func,1,8⟩,⟨.func,1,8⟩,⟨.func,1,8⟩,⟨.int .i64,1,8⟩,⟨.other,1,0⟩,⟨.func,1,8⟩,⟨.func,1,8⟩,⟨.func,1,8⟩,⟨.func,1,8⟩,⟨.func,1,8⟩,⟨.int .u32,1,4⟩,⟨.func,1,8⟩,⟨.int .u64,1,8⟩,⟨.int .u64,1,8⟩,⟨.func,1,8⟩,⟨.func,1,8⟩,⟨.func,1,8⟩,⟨.ptr 3,1,8⟩,⟨.func,1,8⟩,⟨.func,1,8⟩,⟨.ptr 103,1,8⟩,⟨.other,1,0⟩,⟨.func,1,8⟩,⟨.func,1,8⟩,⟨.other,0,0⟩,⟨.other,0,0⟩,⟨.arr 0 16,0,0⟩,⟨.other,0,0⟩,⟨.other,0,0⟩,⟨.func,1,8⟩,⟨.int .u8,1,1⟩,⟨.int .u8,1,1⟩,⟨.func,1,8⟩,⟨.ptr 5,1,8⟩,⟨.int .i32,1,4⟩,⟨.int .i32,1,4⟩,⟨.other,0,0⟩,⟨.other,0,0⟩,⟨.other,1,8⟩]
def G38 : Nat → Option AV := fun _ => none
theorem mixed : Try.prog.follows .mixedOrders = true := by kernel_rfl
theorem tys : TysOk Try.prog T38 := tysB_ok (by kernel_rfl)
def lVG3810 : List CEnt := []
def VG3810 : Env := mkEnv T38 G38 lVG3810
theorem eVG3810 : EOk Try.prog VG3810 := eok_mk (by exact trivial)
def Af10 (F : Nat) : Cuts := { F := F,at_ := fun _ => none,join := fun _ => none }
def ef10_a : Int × Int → St := fun (a0,a1) => { tmps := [(0,(.int .i64 a0)),(1,(.int .i64 a1))],heap := [],next := 0,nt := 13,m := 0 }
def f10_1 (F : Nat) : Int × Int → Rz := fun (a0,a1) => (cond (decide (a0 < (0 : Int))) (cond (!(a1 == 0)) (some ((.int .i64 (Int.tmod (IntKind.i64.wrap (0 - (IntKind.i64.wrap (a0 + (1 : Int))))) a1)),[])) none) (cond (!(a1 == 0)) (some ((.int .i64 (Int.tmod a0 a1)),[])) none))
theorem f10_1_eq (F : Nat) : ∀ v,aexec VG3810 (Af10 F) (sub (bodyOf Try.f10) []) (ef10_a v) (kFin VG3810 none (Try.f10).results.toList) = f10_1 F v := by
  rintro ⟨a0,a1⟩; kernel_rfl
def f10 (F : Nat) : Int × Int → Rz := f10_1 F
theorem f10_body (F : Nat) (a0 : Int) (a1 : Int) : abody VG3810 (Af10 F) Try.f10 [(.int .i64 a0),(.int .i64 a1)] [] = f10 F (a0,a1) :=
  (abody_in (c := (sub (bodyOf Try.f10) [])) (by kernel_rfl) (s := ef10_a (a0,a1)) (by kernel_rfl)).trans (f10_1_eq F (a0,a1))
def r10 : CRun := fun X H => match X,H with
  | [(.int .i64 a0),(.int .i64 a1)],[] => some ((decide (0 < a1)),(.int .i64 (Reg.around a0 a1)),[])
  | _,_ => none
theorem s10 (a0 : Int) (a1 : Int) (hp : ((decide (0 < a1))) = true) (h0 : okV (.int .i64 a0)) (h1 : okV (.int .i64 a1)) : ∃ F,f10 F (a0,a1) = some ((.int .i64 (Reg.around a0 a1)),[]) := by
  have hm : 0 < a1 := of_decide_eq_true hp
  have hn : -9223372036854775808 ≤ a0 ∧ a0 ≤ 9223372036854775807 := h0
  refine ⟨0,?_⟩
  simp only [f10,f10_1,int_beq,dec_not,Reg.around]
  by_cases h : a0 < 0
  · rw [cond_pos h,cond_pos (by omega),i64w (x := a0 + 1) (by omega) (by omega),i64w (by omega) (by omega),if_pos h,Int.zero_sub]
  · rw [cond_neg h,cond_pos (by omega),if_neg h]
theorem c10 : CallOk Try.prog G38 10 r10 := callOk_of (V := VG3810) mixed tys eVG3810 (f := 10) (fn := Try.f10) Try.func10 (by kernel_rfl) (c := sub (bodyOf Try.f10) []) (by kernel_rfl) (by
  intro X H r H' h hX hH
  unfold r10 at h; split at h <;> try contradiction
  · simp only [Option.some.injEq,Prod.mk.injEq] at h
    obtain ⟨hp,rfl,rfl⟩ := h
    obtain ⟨F,hF⟩ := s10 _ _ hp (hX _ (.head _)) (hX _ (.tail _ (.head _)))
    exact ⟨Af10 F,(f10_body F _ _).trans hF⟩)
def lVG3814 : List CEnt := []
def VG3814 : Env := mkEnv T38 G38 lVG3814
theorem eVG3814 : EOk Try.prog VG3814 := eok_mk (by exact trivial)
def Af14 (F : Nat) : Cuts := { F := F,at_ := fun _ => none,join := fun _ => none,fin := (some [(4,(.own 3))]) }
def ef14_a : (List Int) × Int → St := fun (a0,a1) => { tmps := [(0,(.vs (.rI .i64 a0) 0 1)),(1,(.int .i64 a1))],heap := [],next := 0,nt := 14,m := 0 }
def f14_1 (F : Nat) : (List Int) × Int → Rz := fun (a0,a1) => (cond ((decide ((0 : Int) ≤ (if a1 < (↑a0.length : Int) then a1 else (↑a0.length : Int)))) && (decide ((if a1 < (↑a0.length : Int) then a1 else (↑a0.length : Int)) ≤ (↑a0.length : Int)))) (cond (decide ((a0.take (Int.toNat (if a1 < (↑a0.length : Int) then a1 else (↑a0.length : Int)))).length < 1073741824)) (some ((.own 0 0 1),[(.cells ([] ++ (a0.take (Int.toNat (if a1 < (↑a0.length : Int) then a1 else (↑a0.length : Int))))).length (.rI .i64 ([] ++ (a0.take (Int.toNat (if a1 < (↑a0.length : Int) then a1 else (↑a0.length : Int)))))) true)])) none) none)
theorem f14_1_eq (F : Nat) : ∀ v,aexec VG3814 (Af14 F) (sub (bodyOf Try.f14) []) (ef14_a v) (kFin VG3814 (some [(4,(.own 3))]) (Try.f14).results.toList) = f14_1 F v := by
  rintro ⟨a0,a1⟩; kernel_rfl
def f14 (F : Nat) : (List Int) × Int → Rz := f14_1 F
theorem f14_body (F : Nat) (a0 : List Int) (a1 : Int) : abody VG3814 (Af14 F) Try.f14 [(.vs (.rI .i64 a0) 0 1),(.int .i64 a1)] [] = f14 F (a0,a1) :=
  (abody_in (c := (sub (bodyOf Try.f14) [])) (by kernel_rfl) (s := ef14_a (a0,a1)) (by kernel_rfl)).trans (f14_1_eq F (a0,a1))
def r14 : CRun := fun X H => match X,H with
  | [(.vs (.rI .i64 a0) 0 1),(.int .i64 a1)],[] => some (((decide (0 ≤ a1)) && (decide (Int.toNat a1 < 1073741000))),(.own 0 0 1),[(.cells (a0.take (Int.toNat a1)).length (.rI .i64 (a0.take (Int.toNat a1))) true)])
  | _,_ => none
theorem s14 (a0 : List Int) (a1 : Int) (hp : (((decide (0 ≤ a1)) && (decide (Int.toNat a1 < 1073741000)))) = true) (h0 : okV (.vs (.rI .i64 a0) 0 1)) (h1 : okV (.int .i64 a1)) : ∃ F,f14 F (a0,a1) = some ((.own 0 0 1),[(.cells (a0.take (Int.toNat a1)).length (.rI .i64 (a0.take (Int.toNat a1))) true)]) := by
  simp only [Bool.and_eq_true,decide_eq_true_eq] at hp
  refine ⟨0,?_⟩
  simp only [f14,f14_1,dec_and,List.nil_append]
  have e : a0.take (Int.toNat (if a1 < (a0.length : Int) then a1 else (a0.length : Int))) = a0.take (Int.toNat a1) := by
    split
    · rfl
    · rw [Int.toNat_natCast,List.take_length,List.take_of_length_le (by omega)]
  rw [e,cond_pos (by split <;> omega),cond_pos (by rw [List.length_take]; omega)]
theorem c14 : CallOk Try.prog G38 14 r14 := callOk_of (V := VG3814) mixed tys eVG3814 (f := 14) (fn := Try.f14) Try.func14 (by kernel_rfl) (c := sub (bodyOf Try.f14) []) (by kernel_rfl) (by
  intro X H r H' h hX hH
  unfold r14 at h; split at h <;> try contradiction
  · simp only [Option.some.injEq,Prod.mk.injEq] at h
    obtain ⟨hp,rfl,rfl⟩ := h
    obtain ⟨F,hF⟩ := s14 _ _ hp (hX _ (.head _)) (hX _ (.tail _ (.head _)))
    exact ⟨Af14 F,(f14_body F _ _).trans hF⟩)
def f11_1 (F : Nat) (kf11j1 : (List Int) × Int → Rz) : (List Int) × Int → Rz := fun (a0,a1) => (kf11j1 (a0,a1))
def f11_2 (F : Nat) (kf11j2 : Ty0 → Rz) : (List Int) × Int → Rz := fun (t0,t1) => (kf11j2 (t0,t1,[],[],[],[]))
def f11_3 (F : Nat) (kf11j3 : Ty0 → Rz) (kf11j4 : Ty1 → Rz) : Ty0 → Rz := fun (t0,t1,x3,x4,x5,x6) => (kf11j3 (t0,(IntKind.i64.wrap (t1 - (1 : Int))),x3,x4,x5,x6))
def f11_4 (F : Nat) (kf11l1 : Ty0 → Rz) (kf11j4 : Ty1 → Rz) : Ty0 → Rz := fun (t0,t8,x3,x4,x5,x6) => (cond (decide (t8 ≥ (0 : Int))) (cond (decide (0 < (5 : Int))) (cond (decide ((Reg.at_ t0 t8 (5 : Int)) < (4 : Int))) (cond (decide ((Reg.at_ t0 t8 (5 : Int)) = (0 : Int))) (cond (decide ((x3.length + 1) < 1073741824)) (kf11l1 (t0,(IntKind.i64.wrap (t8 - (1 : Int))),(x3 ++ [t8]),x4,x5,x6)) none) (cond (decide ((Reg.at_ t0 t8 (5 : Int)) = (1 : Int))) (cond (decide ((x4.length + 1) < 1073741824)) (kf11l1 (t0,(IntKind.i64.wrap (t8 - (1 : Int))),x3,(x4 ++ [t8]),x5,x6)) none) (cond (decide ((Reg.at_ t0 t8 (5 : Int)) = (2 : Int))) (cond (decide ((x5.length + 1) < 1073741824)) (kf11l1 (t0,(IntKind.i64.wrap (t8 - (1 : Int))),x3,x4,(x5 ++ [t8]),x6)) none) (cond (decide ((Reg.at_ t0 t8 (5 : Int)) = (3 : Int))) (cond (decide ((x6.length + 1) < 1073741824)) (kf11l1 (t0,(IntKind.i64.wrap (t8 - (1 : Int))),x3,x4,x5,(x6 ++ [t8]))) none) none)))) (kf11l1 (t0,(IntKind.i64.wrap (t8 - (1 : Int))),x3,x4,x5,x6))) none) (kf11j4 (x3,x4,x5,x6)))
def f11_5_i : Ty0 → (List Int) × Int × (List Int) × (List Int) × (List Int) × (List Int) := fun (t0,t8,x3,x4,x5,x6) => (t0,t8,x3,x4,x5,x6)
def f11_5 (F : Nat) (kf11j4 : Ty1 → Rz) : Ty0 → Rz := fun v => loopN (fun k => f11_4 F k kf11j4) (F + 6) (f11_5_i v)
def f11_6 (F : Nat) (kf11j4 : Ty1 → Rz) : Ty0 → Rz := f11_5 F kf11j4
def f11_7 (F : Nat) (kf11j4 : Ty1 → Rz) : Ty0 → Rz := fun v => f11_3 F (f11_6 F kf11j4) kf11j4 v
def f11_8 (F : Nat) : Ty1 → Rz := fun (x1,x2,x3,x4) => (cond (decide ((↑x1.length : Int) > (0 : Int))) (cond (decide ((↑x2.length : Int) > (0 : Int))) (cond (decide ((↑x3.length : Int) > (0 : Int))) (cond (decide ((↑x4.length : Int) > (0 : Int))) (some ((.own 0 0 1),[(.cells 4 (.rL .i64 [x1,x2,x3,x4]) true)])) (some ((.own 0 0 1),[(.cells 3 (.rL .i64 [x1,x2,x3]) true)]))) (cond (decide ((↑x4.length : Int) > (0 : Int))) (some ((.own 0 0 1),[(.cells 3 (.rL .i64 [x1,x2,x4]) true)])) (some ((.own 0 0 1),[(.cells 2 (.rL .i64 [x1,x2]) true)])))) (cond (decide ((↑x3.length : Int) > (0 : Int))) (cond (decide ((↑x4.length : Int) > (0 : Int))) (some ((.own 0 0 1),[(.cells 3 (.rL .i64 [x1,x3,x4]) true)])) (some ((.own 0 0 1),[(.cells 2 (.rL .i64 [x1,x3]) true)]))) (cond (decide ((↑x4.length : Int) > (0 : Int))) (some ((.own 0 0 1),[(.cells 2 (.rL .i64 [x1,x4]) true)])) (some ((.own 0 0 1),[(.cells 1 (.rL .i64 [x1]) true)]))))) (cond (decide ((↑x2.length : Int) > (0 : Int))) (cond (decide ((↑x3.length : Int) > (0 : Int))) (cond (decide ((↑x4.length : Int) > (0 : Int))) (some ((.own 0 0 1),[(.cells 3 (.rL .i64 [x2,x3,x4]) true)])) (some ((.own 0 0 1),[(.cells 2 (.rL .i64 [x2,x3]) true)]))) (cond (decide ((↑x4.length : Int) > (0 : Int))) (some ((.own 0 0 1),[(.cells 2 (.rL .i64 [x2,x4]) true)])) (some ((.own 0 0 1),[(.cells 1 (.rL .i64 [x2]) true)])))) (cond (decide ((↑x3.length : Int) > (0 : Int))) (cond (decide ((↑x4.length : Int) > (0 : Int))) (some ((.own 0 0 1),[(.cells 2 (.rL .i64 [x3,x4]) true)])) (some ((.own 0 0 1),[(.cells 1 (.rL .i64 [x3]) true)]))) (cond (decide ((↑x4.length : Int) > (0 : Int))) (some ((.own 0 0 1),[(.cells 1 (.rL .i64 [x4]) true)])) (some ((.own 0 0 1),[(.cells 0 (.rL .i64 []) true)]))))))
def f11_9 (F : Nat) : Ty0 → Rz := fun v => f11_7 F (f11_8 F) v
def f11_10 (F : Nat) : (List Int) × Int → Rz := fun v => f11_2 F (f11_9 F) v
def f11_11 (F : Nat) : (List Int) × Int → Rz := fun v => f11_1 F (f11_10 F) v
def f11 (F : Nat) : (List Int) × Int → Rz := f11_11 F
def f12_1 (F : Nat) (kf12j1 : (List Int) × Int × Int → Rz) : (List Int) × Int × Int → Rz := fun (a0,a1,a2) => (kf12j1 (a0,a1,a2))
def f12_2 (F : Nat) (kf12j2 : (List Int) × Int × Int → Rz) : (List Int) × Int × Int → Rz := fun (t0,t1,t2) => (kf12j2 (t0,t1,t2))
def f12_3 (F : Nat) (kf12j3 : Ty4 → Rz) (kf12j4 : (List Int) → Rz) : (List Int) × Int × Int → Rz := fun (t0,t1,t2) => (kf12j3 (t0,t1,t2,(0 : Int)))
def f12_4 (F : Nat) (kf12l1 : Ty5 → Rz) (kf12j4 : (List Int) → Rz) : Ty5 → Rz := fun (t0,t1,t2,t8,x5) => (cond (decide (t8 < t1)) (cond (decide (0 < (IntKind.i64.wrap (t2 + (1 : Int))))) (cond (decide ((x5.length + 1) < 1073741824)) (kf12l1 (t0,t1,t2,(IntKind.i64.wrap (t8 + (1 : Int))),(x5 ++ [(IntKind.i64.wrap ((Reg.at_ t0 t8 (IntKind.i64.wrap (t2 + (1 : Int)))) - (1 : Int)))]))) none) none) (kf12j4 x5))
def f12_5_i : Ty4 → (List Int) × Int × Int × Int × (List Int) := fun (t0,t1,t2,t8) => (t0,t1,t2,t8,[])
def f12_5 (F : Nat) (kf12j4 : (List Int) → Rz) : Ty4 → Rz := fun v => loopN (fun k => f12_4 F k kf12j4) F (f12_5_i v)
def f12_6 (F : Nat) (kf12j4 : (List Int) → Rz) : Ty4 → Rz := f12_5 F kf12j4
def f12_7 (F : Nat) (kf12j4 : (List Int) → Rz) : (List Int) × Int × Int → Rz := fun v => f12_3 F (f12_6 F kf12j4) kf12j4 v
def f12_8 (F : Nat) : (List Int) → Rz := fun x1 => (some ((.own 0 0 1),[(.cells x1.length (.rI .i64 x1) true)]))
def f12_9 (F : Nat) : (List Int) × Int × Int → Rz := fun v => f12_7 F (f12_8 F) v
def f12_10 (F : Nat) : (List Int) × Int × Int → Rz := fun v => f12_2 F (f12_9 F) v
def f12_11 (F : Nat) : (List Int) × Int × Int → Rz := fun v => f12_1 F (f12_10 F) v
def f12 (F : Nat) : (List Int) × Int × Int → Rz := f12_11 F
def f13_1 (F : Nat) (kf13j1 : Int × Int → Rz) : Int × Int → Rz := fun (a0,a1) => (kf13j1 (a0,a1))
def f13_2 (F : Nat) (kf13j2 : Int × Int → Rz) : Int × Int → Rz := fun (t0,t1) => (cond (decide (0 < (64 : Int))) (kf13j2 (t1,(Reg.around t0 (64 : Int)))) none)
def f13_3 (F : Nat) (kf13j3 : Int × Int → Rz) : Int × Int → Rz := fun (t1,t5) => (kf13j3 (t1,t5))
def f13_4 (F : Nat) (kf13j4 : Int × Int × Int → Rz) (kf13j5 : (List Bool) → Rz) : Int × Int → Rz := fun (t1,t5) => (kf13j4 (t1,t5,(0 : Int)))
def f13_5 (F : Nat) (kf13l1 : Ty6 → Rz) (kf13j5 : (List Bool) → Rz) : Ty6 → Rz := fun (t1,t5,t7,x4) => (cond (decide (t7 < t1)) (cond (decide ((x4.length + 1) < 1073741824)) (kf13l1 (t1,(IntKind.i64.wrap (Int.tdiv t5 (2 : Int))),(IntKind.i64.wrap (t7 + (1 : Int))),(x4 ++ [((Int.tmod t5 (2 : Int)) == (0 : Int))]))) none) (kf13j5 x4))
def f13_6_i : Int × Int × Int → Int × Int × Int × (List Bool) := fun (t1,t5,t7) => (t1,t5,t7,[])
def f13_6 (F : Nat) (kf13j5 : (List Bool) → Rz) : Int × Int × Int → Rz := fun v => loopN (fun k => f13_5 F k kf13j5) F (f13_6_i v)
def f13_7 (F : Nat) (kf13j5 : (List Bool) → Rz) : Int × Int × Int → Rz := f13_6 F kf13j5
def f13_8 (F : Nat) (kf13j5 : (List Bool) → Rz) : Int × Int → Rz := fun v => f13_4 F (f13_7 F kf13j5) kf13j5 v
def f13_9 (F : Nat) : (List Bool) → Rz := fun x1 => (some ((.own 0 0 1),[(.cells x1.length (.rB x1) true)]))
def f13_10 (F : Nat) : Int × Int → Rz := fun v => f13_8 F (f13_9 F) v
def f13_11 (F : Nat) : Int × Int → Rz := fun v => f13_3 F (f13_10 F) v
def f13_12 (F : Nat) : Int × Int → Rz := fun v => f13_2 F (f13_11 F) v
def f13_13 (F : Nat) : Int × Int → Rz := fun v => f13_1 F (f13_12 F) v
def f13 (F : Nat) : Int × Int → Rz := f13_13 F
def f17_1 (F : Nat) (kf17j1 : Ty7 → Rz) : Ty7 → Rz := fun (a0,a1,a2) => (kf17j1 (a0,a1,a2))
def f17_2 (F : Nat) (kf17j2 : Ty7 → Rz) : Ty7 → Rz := fun (t0,t1,t2) => (kf17j2 (t0,t1,t2))
def f17_3 (F : Nat) (kf17j3 : Ty8 → Rz) (kf17j4 : Ty10 → Rz) : Ty7 → Rz := fun (t0,t1,t2) => (kf17j3 (t0,t1,t2,(0 : Int)))
def f17_4 (F : Nat) (kf17l1 : Ty9 → Rz) (kf17j4 : Ty10 → Rz) : Ty9 → Rz := fun (t0,t1,t2,t8,x5) => (cond (decide (t8 < (↑t0.length : Int))) (cond ((decide (0 ≤ t8)) && (decide (t8 < (↑t0.length : Int)))) (cond (decide ((0 + (t0.getD (Int.toNat t8) []).length) < 1073741824)) (cond (decide ((x5.length + 1) < 1073741824)) (kf17l1 (t0,t1,t2,(IntKind.i64.wrap (t8 + (1 : Int))),(x5 ++ [([] ++ (t0.getD (Int.toNat t8) []))]))) none) none) none) (kf17j4 (t1,t2,x5)))
def f17_5_i : Ty8 → (List (List Int)) × Int × Int × Int × (List (List Int)) := fun (t0,t1,t2,t8) => (t0,t1,t2,t8,[])
def f17_5 (F : Nat) (kf17j4 : Ty10 → Rz) : Ty8 → Rz := fun v => loopN (fun k => f17_4 F k kf17j4) F (f17_5_i v)
def f17_6 (F : Nat) (kf17j4 : Ty10 → Rz) : Ty8 → Rz := f17_5 F kf17j4
def f17_7 (F : Nat) (kf17j4 : Ty10 → Rz) : Ty7 → Rz := fun v => f17_3 F (f17_6 F kf17j4) kf17j4 v
def f17_8 (F : Nat) : Ty10 → Rz := fun (t1,t2,x3) => (cond (decide (0 < (4 : Int))) (cond ((Reg.around t1 (4 : Int)) == (0 : Int)) (cond (decide ((x3.length + 1) < 1073741824)) (some ((.own 0 0 1),[(.cells (x3 ++ [[]]).length (.rL .i64 (x3 ++ [[]])) true)])) none) (cond ((Reg.around t1 (4 : Int)) == (1 : Int)) (cond (decide ((x3.length + 1) < 1073741824)) (some ((.own 0 0 1),[(.cells (x3 ++ [[t2]]).length (.rL .i64 (x3 ++ [[t2]])) true)])) none) (cond ((Reg.around t1 (4 : Int)) == (2 : Int)) (cond (decide ((↑x3.length : Int) > (0 : Int))) (cond (decide ((0 : Int) < (↑x3.length : Int))) (cond (decide ((0 : Int) < (↑(x3.getD 0 []).length : Int))) (cond (decide ((x3.length + 1) < 1073741824)) (some ((.own 0 0 1),[(.cells (x3 ++ [[((x3.getD 0 []).getD 0 0)]]).length (.rL .i64 (x3 ++ [[((x3.getD 0 []).getD 0 0)]])) true)])) none) none) none) (some ((.own 0 0 1),[(.cells x3.length (.rL .i64 x3) true)]))) (some ((.own 0 0 1),[(.cells x3.length (.rL .i64 x3) true)]))))) none)
def f17_9 (F : Nat) : Ty7 → Rz := fun v => f17_7 F (f17_8 F) v
def f17_10 (F : Nat) : Ty7 → Rz := fun v => f17_2 F (f17_9 F) v
def f17_11 (F : Nat) : Ty7 → Rz := fun v => f17_1 F (f17_10 F) v
def f17 (F : Nat) : Ty7 → Rz := f17_11 F
def lVG3818 : List CEnt := []
def VG3818 : Env := mkEnv T38 G38 lVG3818
theorem eVG3818 : EOk Try.prog VG3818 := eok_mk (by exact trivial)
def Af18 (F : Nat) : Cuts := { F := F,at_ := fun n => match n with | 4016 => some sp10 | _ => none,join := fun n => match n with | 1032 => some [(0,.plain),(1,.plain)] | 3024 => some [(0,.plain),(1,.plain)] | 4018 => some sp10 | 8003 => some [] | _ => none }
def ef18_a : (List Int) × (List Int) → St := fun (a0,a1) => { tmps := [(0,(.vs (.rI .i64 a0) 0 1)),(1,(.vs (.rI .i64 a1) 0 1))],heap := [],next := 0,nt := 26,m := 0 }
def ef18j1 : (List Int) × (List Int) → St := fun (t0,t1) => { tmps := [(0,(.vs (.rI .i64 t0) 0 1)),(1,(.vs (.rI .i64 t1) 0 1))],heap := [],next := 0,nt := 26,m := 0 }
def ef18j2 : (List Int) × (List Int) → St := fun (t0,t1) => { tmps := [(0,(.vs (.rI .i64 t0) 0 1)),(1,(.vs (.rI .i64 t1) 0 1))],heap := [],next := 0,nt := 26,m := 0 }
def ef18j3 : Ty11 → St := fun (t0,t1,t5) => { tmps := [(0,(.vs (.rI .i64 t0) 0 1)),(1,(.vs (.rI .i64 t1) 0 1)),(5,(.int .i64 t5))],heap := [],next := 0,nt := 26,m := 0 }
def ef18l1 : Ty11 → St := fun (t0,t1,t5) => { tmps := [(0,(.vs (.rI .i64 t0) 0 1)),(1,(.vs (.rI .i64 t1) 0 1)),(5,(.int .i64 t5))],heap := [],next := 0,nt := 26,m := 0 }
def ef18j4 : Unit → St := fun _ => { tmps := [],heap := [],next := 0,nt := 26,m := 0 }
def f18_1 (F : Nat) (kf18j1 : (List Int) × (List Int) → Rz) : (List Int) × (List Int) → Rz := fun (a0,a1) => (kf18j1 (a0,a1))
theorem f18_1_eq (F : Nat) (Rf18j1 : St → Rz) : ∀ v,aexec VG3818 (Af18 F) (bp Try.f18 2) (ef18_a v) (kSeq (kc VG3818 Rf18j1 [(0,.plain),(1,.plain)]) (kFin VG3818 none (Try.f18).results.toList)) = f18_1 F (Rf18j1 ∘ ef18j1) v := by
  rintro ⟨a0,a1⟩; kernel_rfl
def f18_2 (F : Nat) (kf18j2 : (List Int) × (List Int) → Rz) : (List Int) × (List Int) → Rz := fun (t0,t1) => (cond ((↑t0.length : Int) != (↑t1.length : Int)) (some ((.bool false),[])) (kf18j2 (t0,t1)))
theorem f18_2_eq (F : Nat) (Rf18j2 : St → Rz) : ∀ v,aexec VG3818 (Af18 F) (bp Try.f18 6) (ef18j1 v) (kSeq (kc VG3818 Rf18j2 [(0,.plain),(1,.plain)]) (kFin VG3818 none (Try.f18).results.toList)) = f18_2 F (Rf18j2 ∘ ef18j2) v := by
  rintro ⟨t0,t1⟩; kernel_rfl
def f18_3 (F : Nat) (kf18j3 : Ty11 → Rz) (kf18j4 : Unit → Rz) : (List Int) × (List Int) → Rz := fun (t0,t1) => (kf18j3 (t0,t1,(0 : Int)))
theorem f18_3_eq (F : Nat) (Rf18j3 : St → Rz) (Rf18j4 : St → Rz) : ∀ v,aexec VG3818 (Af18 F) (bp Try.f18 28) (ef18j2 v) (kSeq (kc VG3818 Rf18j3 sp10) (kSeq (kc VG3818 Rf18j4 []) (kFin VG3818 none (Try.f18).results.toList))) = f18_3 F (Rf18j3 ∘ ef18j3) (Rf18j4 ∘ ef18j4) v := by
  rintro ⟨t0,t1⟩; kernel_rfl
def f18_4 (F : Nat) (kf18l1 : Ty11 → Rz) (kf18j4 : Unit → Rz) : Ty11 → Rz := fun (t0,t1,t5) => (cond (decide (t5 < (↑t0.length : Int))) (cond ((decide (0 ≤ t5)) && (decide (t5 < (↑t0.length : Int)))) (cond ((decide (0 ≤ t5)) && (decide (t5 < (↑t1.length : Int)))) (cond ((t0.getD (Int.toNat t5) 0) != (t1.getD (Int.toNat t5) 0)) (some ((.bool false),[])) (kf18l1 (t0,t1,(IntKind.i64.wrap (t5 + (1 : Int)))))) none) none) (kf18j4 ()))
theorem f18_4_eq (F : Nat) (Rf18l1 : St → Rz) (Rf18j4 : St → Rz) : ∀ v,aexec VG3818 (Af18 F) (bp Try.f18 116) (ef18l1 v) (kSeq (kc VG3818 Rf18l1 sp10) (kBlock 0 (kSeq (kc VG3818 Rf18j4 []) (kFin VG3818 none (Try.f18).results.toList)))) = f18_4 F (Rf18l1 ∘ ef18l1) (Rf18j4 ∘ ef18j4) v := by
  rintro ⟨t0,t1,t5⟩; kernel_rfl
def f18_5_i : Ty11 → (List Int) × (List Int) × Int := fun (t0,t1,t5) => (t0,t1,t5)
def f18_5 (F : Nat) (kf18j4 : Unit → Rz) : Ty11 → Rz := fun v => loopN (fun k => f18_4 F k kf18j4) F (f18_5_i v)
theorem f18_5_eq (F : Nat) (Rf18j4 : St → Rz) : ∀ v,aexec VG3818 (Af18 F) (bp Try.f18 58) (ef18j3 v) (kBlock 0 (kSeq (kc VG3818 Rf18j4 []) (kFin VG3818 none (Try.f18).results.toList))) = f18_5 F (Rf18j4 ∘ ef18j4) v :=
  loop_cut (by kernel_rfl) (by kernel_rfl) ef18j3 ef18l1 _ f18_5_i (fun k => f18_4 F k (Rf18j4 ∘ ef18j4))
    (by rintro ⟨t0,t1,t5⟩; kernel_rfl) (fun Rf18l1 => f18_4_eq F Rf18l1 Rf18j4)
def f18_6 (F : Nat) (kf18j4 : Unit → Rz) : Ty11 → Rz := f18_5 F kf18j4
theorem f18_6_eq (F : Nat) (Rf18j4 : St → Rz) : ∀ v,aexec VG3818 (Af18 F) (bp Try.f18 29) (ef18j3 v) (kSeq (kc VG3818 Rf18j4 []) (kFin VG3818 none (Try.f18).results.toList)) = f18_6 F (Rf18j4 ∘ ef18j4) v := fun v =>
  (block_in  (by kernel_rfl) _ _).trans (f18_5_eq F Rf18j4 v)
def f18_7 (F : Nat) (kf18j4 : Unit → Rz) : (List Int) × (List Int) → Rz := fun v => f18_3 F (f18_6 F kf18j4) kf18j4 v
theorem f18_7_eq (F : Nat) (Rf18j4 : St → Rz) : ∀ v,aexec VG3818 (Af18 F) (bp Try.f18 14) (ef18j2 v) (kSeq (kc VG3818 Rf18j4 []) (kFin VG3818 none (Try.f18).results.toList)) = f18_7 F (Rf18j4 ∘ ef18j4) v :=
  seq_cut (by kernel_rfl) (by kernel_rfl) ef18j2 ef18j3 _ (fun k => f18_3 F k (Rf18j4 ∘ ef18j4)) (f18_6 F (Rf18j4 ∘ ef18j4))
    (fun Rf18j3 => f18_3_eq F Rf18j3 Rf18j4) (f18_6_eq F Rf18j4)
def f18_8 (F : Nat) : Unit → Rz := fun _ => (some ((.bool true),[]))
theorem f18_8_eq (F : Nat) : ∀ v,aexec VG3818 (Af18 F) (bp Try.f18 15) (ef18j4 v) (kFin VG3818 none (Try.f18).results.toList) = f18_8 F v := by
  intro _; kernel_rfl
def f18_9 (F : Nat) : (List Int) × (List Int) → Rz := fun v => f18_7 F (f18_8 F) v
theorem f18_9_eq (F : Nat) : ∀ v,aexec VG3818 (Af18 F) (bp Try.f18 7) (ef18j2 v) (kFin VG3818 none (Try.f18).results.toList) = f18_9 F v :=
  seq_cut (by kernel_rfl) (by kernel_rfl) ef18j2 ef18j4 _ (fun k => f18_7 F k) (f18_8 F)
    (fun Rf18j4 => f18_7_eq F Rf18j4) (f18_8_eq F)
def f18_10 (F : Nat) : (List Int) × (List Int) → Rz := fun v => f18_2 F (f18_9 F) v
theorem f18_10_eq (F : Nat) : ∀ v,aexec VG3818 (Af18 F) (bp Try.f18 3) (ef18j1 v) (kFin VG3818 none (Try.f18).results.toList) = f18_10 F v :=
  seq_cut (by kernel_rfl) (by kernel_rfl) ef18j1 ef18j2 _ (fun k => f18_2 F k) (f18_9 F)
    (fun Rf18j2 => f18_2_eq F Rf18j2) (f18_9_eq F)
def f18_11 (F : Nat) : (List Int) × (List Int) → Rz := fun v => f18_1 F (f18_10 F) v
theorem f18_11_eq (F : Nat) : ∀ v,aexec VG3818 (Af18 F) (sub (bodyOf Try.f18) []) (ef18_a v) (kFin VG3818 none (Try.f18).results.toList) = f18_11 F v :=
  seq_cut (by kernel_rfl) (by kernel_rfl) ef18_a ef18j1 _ (fun k => f18_1 F k) (f18_10 F)
    (fun Rf18j1 => f18_1_eq F Rf18j1) (f18_10_eq F)
def f18 (F : Nat) : (List Int) × (List Int) → Rz := f18_11 F
theorem f18_body (F : Nat) (a0 : List Int) (a1 : List Int) : abody VG3818 (Af18 F) Try.f18 [(.vs (.rI .i64 a0) 0 1),(.vs (.rI .i64 a1) 0 1)] [] = f18 F (a0,a1) :=
  (abody_in (c := (sub (bodyOf Try.f18) [])) (by kernel_rfl) (s := ef18_a (a0,a1)) (by kernel_rfl)).trans (f18_11_eq F (a0,a1))
def r18 : CRun := fun X H => match X,H with
  | [(.vs (.rI .i64 a0) 0 1),(.vs (.rI .i64 a1) 0 1)],[] => some (true,(.bool (decide (a0 = a1))),[])
  | _,_ => none
theorem s18 (a0 : List Int) (a1 : List Int) (h0 : okV (.vs (.rI .i64 a0) 0 1)) (h1 : okV (.vs (.rI .i64 a1) 0 1)) : ∃ F,f18 F (a0,a1) = some ((.bool (decide (a0 = a1))),[]) := by
  have hl0 := h0.2
  have hl1 := h1.2
  refine ⟨a0.length + 1,?_⟩
  simp only [f18,f18_11,f18_1,f18_10,f18_2,int_bne]
  by_cases hl : a0.length = a1.length
  · rw [cond_neg (by omega)]
    simp only [f18_9,f18_7,f18_3,f18_6,f18_5,f18_5_i]
    refine loopN_ind (fun m s => s.1 = a0 ∧ s.2.1 = a1 ∧ s.2.2 = ((a0.length - m : Nat) : Int) ∧ m ≤ a0.length ∧ ∀ i,i < a0.length - m → a0.getD i 0 = a1.getD i 0) ?_ _ a0.length _ (by omega) ⟨rfl,rfl,by simp,Nat.le_refl _,fun i hi => by omega⟩
    rintro m ⟨t0,t1,t5⟩ k ⟨e1,e2,e3,hm,hi⟩ hk
    simp only at e1 e2 e3 hi
    subst e1; subst e2; subst e3
    simp only [f18_4,dec_and,int_bne,lst_beq,dec_not]
    cases m with
    | zero =>
      rw [cond_neg (by omega),decide_eq_true (list_eq 0 hl fun i h => hi i (by omega))]
      rfl
    | succ m =>
      rw [Int.toNat_natCast,cond_pos (by omega),cond_pos (by omega),cond_pos (by omega)]
      by_cases he : t0.getD (t0.length - (m + 1)) 0 = t1.getD (t0.length - (m + 1)) 0
      · rw [cond_neg (fun h => h he),i64w (by omega) (by omega)]
        refine hk m _ (by omega) ⟨rfl,rfl,by simp only []; omega,by omega,fun i hi' => ?_⟩
        by_cases hh : i < t0.length - (m + 1)
        · exact hi i hh
        · rw [show i = t0.length - (m + 1) by omega]; exact he
      · rw [cond_pos he,decide_eq_false (fun e => he (by rw [e]))]
  · rw [cond_pos (by omega),decide_eq_false (fun e => hl (by rw [e]))]
theorem c18 : CallOk Try.prog G38 18 r18 := callOk_of (V := VG3818) mixed tys eVG3818 (f := 18) (fn := Try.f18) Try.func18 (by kernel_rfl) (c := sub (bodyOf Try.f18) []) (by kernel_rfl) (by
  intro X H r H' h hX hH
  unfold r18 at h; split at h <;> try contradiction
  · simp only [Option.some.injEq,Prod.mk.injEq] at h
    obtain ⟨hp,rfl,rfl⟩ := h
    obtain ⟨F,hF⟩ := s18 _ _ (hX _ (.head _)) (hX _ (.tail _ (.head _)))
    exact ⟨Af18 F,(f18_body F _ _).trans hF⟩)
end Go.Am
