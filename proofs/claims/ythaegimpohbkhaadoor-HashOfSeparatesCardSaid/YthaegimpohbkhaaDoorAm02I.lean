/- Part of a proof about the functions of the given program. -/
import Derived.Test.YthaegimpohbkhaaDoorAm02H
set_option linter.unusedVariables false
set_option linter.unusedSimpArgs false
namespace Go.Am
open Go Go.Proofs

/-! gantry/gantrylaw02.HashSumMatchesSpec -/
def lVG033 : List CEnt := [(10, [], r10), (11, [some 5], r11), (12, [some 5], r12)]
def VG033 : Env := mkEnv T02 G03 lVG033
theorem eVG033 : EOk Tryd.prog VG033 := eok_mk (by exact ⟨c10.more gsub, c11.more gsub, c12, trivial⟩)
def Af3 (F : Nat) : Cuts := { F := F, at_ := fun _ => none, join := fun _ => none }
def ef3_a : (List Int) → St := fun a0 => { tmps := [(0, (.vs (.rI .u8 a0) 0 1))], heap := [], next := 0, nt := 29, m := 0 }
def f3_nt (F : Nat) : (List Int) → Option (AV × List Blk) := fun a0 => (cond (decide ((↑a0.length : Int) > (1000 : Int))) (some ((.bool true), [])) (cond (decide (a0.length < 1073741000)) (cond (((Sha.hash a0) : List Int) == (Sha.hash a0)) (some ((.bool ((a0 : List Int) == (a0 : List Int))), [])) (some ((.bool false), []))) none))
theorem f3_nt_eq (F : Nat) : ∀ v, aexec VG033 (Af3 F) (sub (bodyOf Tryd.f3) []) (ef3_a v) (kFin VG033 0 (Tryd.f3).results.toList) = f3_nt F v := by
  intro a0; kernel_rfl
/-- gantry/gantrylaw02.HashSumMatchesSpec -/
def f3 (F : Nat) : (List Int) → Option (AV × List Blk) := f3_nt F
theorem f3_body (F : Nat) (a0 : List Int) : abody VG033 (Af3 F) Tryd.f3 [(.vs (.rI .u8 a0) 0 1)] [] = f3 F a0 :=
  (abody_in (c := (sub (bodyOf Tryd.f3) [])) (by kernel_rfl) (s := ef3_a a0) (by kernel_rfl)).trans (f3_nt_eq F a0)
def r3 : CRun := fun X H => match X, H with
  | [(.vs (.rI .u8 a0) 0 1)], [] => some (true, (.bool true), [])
  | _, _ => none
theorem beq_rfl (l : List Int) : (l == l) = true := by simp
theorem s3 (a0 : List Int) (h0 : okV (.vs (.rI .u8 a0) 0 1)) : ∃ F, f3 F a0 = some ((.bool true), []) := by
  refine ⟨0, ?_⟩
  simp only [f3, f3_nt, beq_rfl, cond_true]
  by_cases h : (a0.length : Int) > 1000
  · rw [cond_pos h]
  · rw [cond_neg h, cond_pos (by omega)]

theorem c3 : CallOk Tryd.prog G03 3 r3 := callOk_of (V := VG033) mixed tys eVG033 (f := 3) (fn := Tryd.f3) Tryd.func3 (by kernel_rfl) (c := sub (bodyOf Tryd.f3) []) (by kernel_rfl) (by
  intro X H r H' h hX hH
  unfold r3 at h; split at h <;> try contradiction
  simp only [Option.some.injEq, Prod.mk.injEq] at h
  obtain ⟨hp, rfl, rfl⟩ := h
  obtain ⟨F, hF⟩ := s3 _ (hX _ (.head _))
  exact ⟨Af3 F, (f3_body F _).trans hF⟩)
/-! gantry/gantrylaw02.HashStreamsAgree -/
def lVG034 : List CEnt := [(10, [], r10), (11, [some 5], r11), (12, [some 5], r12), (13, [some 9], r13), (14, [], r14), (15, [none, none], r15), (16, [some 9], r16), (17, [none], r17)]
def VG034 : Env := mkEnv T02 G03 lVG034
theorem eVG034 : EOk Tryd.prog VG034 := eok_mk (by exact ⟨c10.more gsub, c11.more gsub, c12, c13.more gsub, c14.more gsub, c15.more gsub, c16.more gsub, c17.more gsub, trivial⟩)
def Af4 (F : Nat) : Cuts := { F := F, at_ := fun n => match n with | 7010 => some [(0, .plain), (1, .plain), (7, .plain), (8, .plain), (9, .plain), (10, .plain)] | 12010 => some [(0, .plain), (1, .plain), (7, .plain), (8, .plain), (9, .plain), (11, .plain), (12, .plain)] | _ => none, join := fun n => match n with | 1055 => some [(0, .plain), (1, .plain), (2, .plain)] | 2053 => some [(0, .plain), (1, .plain), (2, .plain), (7, .plain)] | 4045 => some [(0, .plain), (1, .plain), (2, .plain), (7, .plain)] | 5043 => some [(0, .plain), (1, .plain), (7, .plain), (8, .plain)] | 6041 => some [(0, .plain), (1, .plain), (7, .plain), (8, .plain), (9, .plain)] | 7012 => some [(0, .plain), (1, .plain), (7, .plain), (8, .plain), (9, .plain), (10, .plain)] | 10026 => some [(0, .plain), (1, .plain), (7, .plain), (8, .plain), (9, .plain)] | 11024 => some [(0, .plain), (1, .plain), (7, .plain), (8, .plain), (9, .plain), (11, .plain)] | 12012 => some [(0, .plain), (1, .plain), (7, .plain), (8, .plain), (9, .plain), (11, .plain), (12, .plain)] | 15009 => some [(0, .plain), (1, .plain), (7, .plain), (8, .plain), (9, .plain), (11, .plain)] | _ => none }
def ef4_a : (List (List Int)) × (List Int) × Int → St := fun (a0, a1, a2) => { tmps := [(0, (.vs (.rS a0) 0 1)), (1, (.str a1)), (2, (.int .u8 a2))], heap := [], next := 0, nt := 102, m := 0 }
def ef4_j1055 : (List (List Int)) × (List Int) × Int → St := fun (t0, t1, t2) => { tmps := [(0, (.vs (.rS t0) 0 1)), (1, (.str t1)), (2, (.int .u8 t2))], heap := [], next := 0, nt := 102, m := 0 }
def ef4_j2053 : (List (List Int)) × (List Int) × Int × Bool → St := fun (t0, t1, t2, t7) => { tmps := [(0, (.vs (.rS t0) 0 1)), (1, (.str t1)), (2, (.int .u8 t2)), (7, (.bool t7))], heap := [], next := 0, nt := 102, m := 0 }
def ef4_j4045 : (List (List Int)) × (List Int) × Int × Bool → St := fun (t0, t1, t2, t7) => { tmps := [(0, (.vs (.rS t0) 0 1)), (1, (.str t1)), (2, (.int .u8 t2)), (7, (.bool t7))], heap := [], next := 0, nt := 102, m := 0 }
def ef4_j5043 : (List (List Int)) × (List Int) × Bool × Int → St := fun (t0, t1, t7, t8) => { tmps := [(0, (.vs (.rS t0) 0 1)), (1, (.str t1)), (7, (.bool t7)), (8, (.int .i64 t8))], heap := [], next := 0, nt := 102, m := 0 }
def ef4_j6041 : (List (List Int)) × (List Int) × Bool × Int × (List Int) × (List Int) × Int → St := fun (t0, t1, t7, t8, x5, x6, x7) => { tmps := [(0, (.vs (.rS t0) 0 1)), (1, (.str t1)), (7, (.bool t7)), (8, (.int .i64 t8)), (9, (.ptr 0 0 73 0 0 0 73))], heap := [(0, (.cells 73 (.segs (.cons 8 (.rI .u32 x5) (.cons 64 (.rI .u8 x6) (.cons 1 (.one (.int .u64 x7)) .nil)))) true))], next := 1, nt := 102, m := 0 }
def ef4_j7012 : (List (List Int)) × (List Int) × Bool × Int × Int × (List Int) × (List Int) × Int → St := fun (t0, t1, t7, t8, t10, x6, x7, x8) => { tmps := [(0, (.vs (.rS t0) 0 1)), (1, (.str t1)), (7, (.bool t7)), (8, (.int .i64 t8)), (9, (.ptr 0 0 73 0 0 0 73)), (10, (.int .i64 t10))], heap := [(0, (.cells 73 (.segs (.cons 8 (.rI .u32 x6) (.cons 64 (.rI .u8 x7) (.cons 1 (.one (.int .u64 x8)) .nil)))) true))], next := 1, nt := 102, m := 0 }
def ef4_l7010 : (List (List Int)) × (List Int) × Bool × Int × Int × (List Int) × (List Int) × Int → St := fun (t0, t1, t7, t8, t10, x6, x7, x8) => { tmps := [(0, (.vs (.rS t0) 0 1)), (1, (.str t1)), (7, (.bool t7)), (8, (.int .i64 t8)), (9, (.ptr 0 0 73 0 0 0 73)), (10, (.int .i64 t10))], heap := [(0, (.cells 73 (.segs (.cons 8 (.rI .u32 x6) (.cons 64 (.rI .u8 x7) (.cons 1 (.one (.int .u64 x8)) .nil)))) true))], next := 1, nt := 102, m := 0 }
def ef4_j10026 : (List (List Int)) × (List Int) × Bool × Int × (List Int) × (List Int) × Int → St := fun (t0, t1, t7, t8, x5, x6, x7) => { tmps := [(0, (.vs (.rS t0) 0 1)), (1, (.str t1)), (7, (.bool t7)), (8, (.int .i64 t8)), (9, (.ptr 0 0 73 0 0 0 73))], heap := [(0, (.cells 73 (.segs (.cons 8 (.rI .u32 x5) (.cons 64 (.rI .u8 x6) (.cons 1 (.one (.int .u64 x7)) .nil)))) true))], next := 1, nt := 102, m := 0 }
def ef4_j11024 : (List (List Int)) × (List Int) × Bool × Int × (List Int) × (List Int) × Int × (List Int) × (List Int) × Int → St := fun (t0, t1, t7, t8, x5, x6, x7, x8, x9, x10) => { tmps := [(0, (.vs (.rS t0) 0 1)), (1, (.str t1)), (7, (.bool t7)), (8, (.int .i64 t8)), (9, (.ptr 0 0 73 0 0 0 73)), (11, (.ptr 1 0 73 0 0 0 73))], heap := [(0, (.cells 73 (.segs (.cons 8 (.rI .u32 x5) (.cons 64 (.rI .u8 x6) (.cons 1 (.one (.int .u64 x7)) .nil)))) true)), (1, (.cells 73 (.segs (.cons 8 (.rI .u32 x8) (.cons 64 (.rI .u8 x9) (.cons 1 (.one (.int .u64 x10)) .nil)))) true))], next := 2, nt := 102, m := 0 }
def ef4_j12012 : (List (List Int)) × (List Int) × Bool × Int × Int × (List Int) × (List Int) × Int × (List Int) × (List Int) × Int → St := fun (t0, t1, t7, t8, t12, x6, x7, x8, x9, x10, x11) => { tmps := [(0, (.vs (.rS t0) 0 1)), (1, (.str t1)), (7, (.bool t7)), (8, (.int .i64 t8)), (9, (.ptr 0 0 73 0 0 0 73)), (11, (.ptr 1 0 73 0 0 0 73)), (12, (.int .i64 t12))], heap := [(0, (.cells 73 (.segs (.cons 8 (.rI .u32 x6) (.cons 64 (.rI .u8 x7) (.cons 1 (.one (.int .u64 x8)) .nil)))) true)), (1, (.cells 73 (.segs (.cons 8 (.rI .u32 x9) (.cons 64 (.rI .u8 x10) (.cons 1 (.one (.int .u64 x11)) .nil)))) true))], next := 2, nt := 102, m := 0 }
def ef4_l12010 : (List (List Int)) × (List Int) × Bool × Int × Int × (List Int) × (List Int) × Int × (List Int) × (List Int) × Int → St := fun (t0, t1, t7, t8, t12, x6, x7, x8, x9, x10, x11) => { tmps := [(0, (.vs (.rS t0) 0 1)), (1, (.str t1)), (7, (.bool t7)), (8, (.int .i64 t8)), (9, (.ptr 0 0 73 0 0 0 73)), (11, (.ptr 1 0 73 0 0 0 73)), (12, (.int .i64 t12))], heap := [(0, (.cells 73 (.segs (.cons 8 (.rI .u32 x6) (.cons 64 (.rI .u8 x7) (.cons 1 (.one (.int .u64 x8)) .nil)))) true)), (1, (.cells 73 (.segs (.cons 8 (.rI .u32 x9) (.cons 64 (.rI .u8 x10) (.cons 1 (.one (.int .u64 x11)) .nil)))) true))], next := 2, nt := 102, m := 0 }
def ef4_j15009 : (List (List Int)) × (List Int) × Bool × Int × (List Int) × (List Int) × Int × (List Int) × (List Int) × Int → St := fun (t0, t1, t7, t8, x5, x6, x7, x8, x9, x10) => { tmps := [(0, (.vs (.rS t0) 0 1)), (1, (.str t1)), (7, (.bool t7)), (8, (.int .i64 t8)), (9, (.ptr 0 0 73 0 0 0 73)), (11, (.ptr 1 0 73 0 0 0 73))], heap := [(0, (.cells 73 (.segs (.cons 8 (.rI .u32 x5) (.cons 64 (.rI .u8 x6) (.cons 1 (.one (.int .u64 x7)) .nil)))) true)), (1, (.cells 73 (.segs (.cons 8 (.rI .u32 x8) (.cons 64 (.rI .u8 x9) (.cons 1 (.one (.int .u64 x10)) .nil)))) true))], next := 2, nt := 102, m := 0 }
def f4_n0 (F : Nat) (kf4_j1055 : (List (List Int)) × (List Int) × Int → Option (AV × List Blk)) : (List (List Int)) × (List Int) × Int → Option (AV × List Blk) := fun (a0, a1, a2) => (kf4_j1055 (a0, a1, a2))
theorem f4_n0_eq (F : Nat) (Rf4_j1055 : St → Option (AV × List Blk)) : ∀ v, aexec VG034 (Af4 F) (sub (bodyOf Tryd.f4) [0]) (ef4_a v) (kSeq (fun s => Rf4_j1055 (cutTo VG034 (some [(0, .plain), (1, .plain), (2, .plain)]) s)) (kFin VG034 0 (Tryd.f4).results.toList)) = f4_n0 F (fun w => Rf4_j1055 (ef4_j1055 w)) v := by
  rintro ⟨a0, a1, a2⟩; kernel_rfl
def f4_n10 (F : Nat) (kf4_j2053 : (List (List Int)) × (List Int) × Int × Bool → Option (AV × List Blk)) : (List (List Int)) × (List Int) × Int → Option (AV × List Blk) := fun (t0, t1, t2) => (kf4_j2053 (t0, t1, t2, true))
theorem f4_n10_eq (F : Nat) (Rf4_j2053 : St → Option (AV × List Blk)) : ∀ v, aexec VG034 (Af4 F) (sub (bodyOf Tryd.f4) [1, 0]) (ef4_j1055 v) (kSeq (fun s => Rf4_j2053 (cutTo VG034 (some [(0, .plain), (1, .plain), (2, .plain), (7, .plain)]) s)) (kFin VG034 0 (Tryd.f4).results.toList)) = f4_n10 F (fun w => Rf4_j2053 (ef4_j2053 w)) v := by
  rintro ⟨t0, t1, t2⟩; kernel_rfl
def f4_n110 (F : Nat) (kf4_j4045 : (List (List Int)) × (List Int) × Int × Bool → Option (AV × List Blk)) : (List (List Int)) × (List Int) × Int × Bool → Option (AV × List Blk) := fun (t0, t1, t2, t7) => (cond (!(Sha.few12 t0)) (some ((.bool t7), [])) (cond (decide ((↑t1.length : Int) > (400 : Int))) (some ((.bool t7), [])) (kf4_j4045 (t0, t1, t2, t7))))
theorem f4_n110_eq (F : Nat) (Rf4_j4045 : St → Option (AV × List Blk)) : ∀ v, aexec VG034 (Af4 F) (sub (bodyOf Tryd.f4) [1, 1, 0]) (ef4_j2053 v) (kSeq (fun s => Rf4_j4045 (cutTo VG034 (some [(0, .plain), (1, .plain), (2, .plain), (7, .plain)]) s)) (kFin VG034 0 (Tryd.f4).results.toList)) = f4_n110 F (fun w => Rf4_j4045 (ef4_j4045 w)) v := by
  rintro ⟨t0, t1, t2, t7⟩; kernel_rfl
def f4_n1110 (F : Nat) (kf4_j5043 : (List (List Int)) × (List Int) × Bool × Int → Option (AV × List Blk)) : (List (List Int)) × (List Int) × Int × Bool → Option (AV × List Blk) := fun (t0, t1, t2, t7) => (cond (!((IntKind.i64.wrap ((↑t0.length : Int) + (1 : Int))) == 0)) (kf4_j5043 (t0, t1, t7, (Int.tmod (IntKind.i64.wrap t2) (IntKind.i64.wrap ((↑t0.length : Int) + (1 : Int)))))) none)
theorem f4_n1110_eq (F : Nat) (Rf4_j5043 : St → Option (AV × List Blk)) : ∀ v, aexec VG034 (Af4 F) (sub (bodyOf Tryd.f4) [1, 1, 1, 0]) (ef4_j4045 v) (kSeq (fun s => Rf4_j5043 (cutTo VG034 (some [(0, .plain), (1, .plain), (7, .plain), (8, .plain)]) s)) (kFin VG034 0 (Tryd.f4).results.toList)) = f4_n1110 F (fun w => Rf4_j5043 (ef4_j5043 w)) v := by
  rintro ⟨t0, t1, t2, t7⟩; kernel_rfl
def f4_n11110 (F : Nat) (kf4_j6041 : (List (List Int)) × (List Int) × Bool × Int × (List Int) × (List Int) × Int → Option (AV × List Blk)) : (List (List Int)) × (List Int) × Bool × Int → Option (AV × List Blk) := fun (t0, t1, t7, t8) => (kf4_j6041 (t0, t1, t7, t8, Sha.iv, (List.replicate 64 0), (0 : Int)))
theorem f4_n11110_eq (F : Nat) (Rf4_j6041 : St → Option (AV × List Blk)) : ∀ v, aexec VG034 (Af4 F) (sub (bodyOf Tryd.f4) [1, 1, 1, 1, 0]) (ef4_j5043 v) (kSeq (fun s => Rf4_j6041 (cutTo VG034 (some [(0, .plain), (1, .plain), (7, .plain), (8, .plain), (9, .plain)]) s)) (kFin VG034 0 (Tryd.f4).results.toList)) = f4_n11110 F (fun w => Rf4_j6041 (ef4_j6041 w)) v := by
  rintro ⟨t0, t1, t7, t8⟩; kernel_rfl
def f4_n1111100 (F : Nat) (kf4_j7012 : (List (List Int)) × (List Int) × Bool × Int × Int × (List Int) × (List Int) × Int → Option (AV × List Blk)) (kf4_j10026 : (List (List Int)) × (List Int) × Bool × Int × (List Int) × (List Int) × Int → Option (AV × List Blk)) : (List (List Int)) × (List Int) × Bool × Int × (List Int) × (List Int) × Int → Option (AV × List Blk) := fun (t0, t1, t7, t8, x5, x6, x7) => (kf4_j7012 (t0, t1, t7, t8, (0 : Int), x5, x6, x7))
theorem f4_n1111100_eq (F : Nat) (Rf4_j7012 : St → Option (AV × List Blk)) (Rf4_j10026 : St → Option (AV × List Blk)) : ∀ v, aexec VG034 (Af4 F) (sub (bodyOf Tryd.f4) [1, 1, 1, 1, 1, 0, 0]) (ef4_j6041 v) (kSeq (fun s => Rf4_j7012 (cutTo VG034 (some [(0, .plain), (1, .plain), (7, .plain), (8, .plain), (9, .plain), (10, .plain)]) s)) (kSeq (fun s => Rf4_j10026 (cutTo VG034 (some [(0, .plain), (1, .plain), (7, .plain), (8, .plain), (9, .plain)]) s)) (kFin VG034 0 (Tryd.f4).results.toList))) = f4_n1111100 F (fun w => Rf4_j7012 (ef4_j7012 w)) (fun w => Rf4_j10026 (ef4_j10026 w)) v := by
  rintro ⟨t0, t1, t7, t8, x5, x6, x7⟩; kernel_rfl
def f4_n111110100 (F : Nat) (kf4_l7010 : (List (List Int)) × (List Int) × Bool × Int × Int × (List Int) × (List Int) × Int → Option (AV × List Blk)) (kf4_j10026 : (List (List Int)) × (List Int) × Bool × Int × (List Int) × (List Int) × Int → Option (AV × List Blk)) : (List (List Int)) × (List Int) × Bool × Int × Int × (List Int) × (List Int) × Int → Option (AV × List Blk) := fun (t0, t1, t7, t8, t10, x6, x7, x8) => (cond (decide (t10 < t8)) (cond ((decide (0 ≤ t10)) && (decide (t10 < (↑t0.length : Int)))) (kf4_l7010 (t0, t1, t7, t8, (IntKind.i64.wrap (t10 + (1 : Int))), (Sha.addS (x6, x7, x8) (t0.getD (Int.toNat t10) [])).1, (Sha.addS (x6, x7, x8) (t0.getD (Int.toNat t10) [])).2.1, (Sha.addS (x6, x7, x8) (t0.getD (Int.toNat t10) [])).2.2)) none) (kf4_j10026 (t0, t1, t7, t8, x6, x7, x8)))
theorem f4_n111110100_eq (F : Nat) (Rf4_l7010 : St → Option (AV × List Blk)) (Rf4_j10026 : St → Option (AV × List Blk)) : ∀ v, aexec VG034 (Af4 F) (sub (bodyOf Tryd.f4) [1, 1, 1, 1, 1, 0, 1, 0, 0]) (ef4_l7010 v) (kSeq (fun s => Rf4_l7010 (cutTo VG034 (some [(0, .plain), (1, .plain), (7, .plain), (8, .plain), (9, .plain), (10, .plain)]) s)) (kBlock 0 (kSeq (fun s => Rf4_j10026 (cutTo VG034 (some [(0, .plain), (1, .plain), (7, .plain), (8, .plain), (9, .plain)]) s)) (kFin VG034 0 (Tryd.f4).results.toList)))) = f4_n111110100 F (fun w => Rf4_l7010 (ef4_l7010 w)) (fun w => Rf4_j10026 (ef4_j10026 w)) v := by
  rintro ⟨t0, t1, t7, t8, t10, x6, x7, x8⟩; kernel_rfl
def f4_n11111010_i : (List (List Int)) × (List Int) × Bool × Int × Int × (List Int) × (List Int) × Int → (List (List Int)) × (List Int) × Bool × Int × Int × (List Int) × (List Int) × Int := fun (t0, t1, t7, t8, t10, x6, x7, x8) => (t0, t1, t7, t8, t10, x6, x7, x8)
def f4_n11111010 (F : Nat) (kf4_j10026 : (List (List Int)) × (List Int) × Bool × Int × (List Int) × (List Int) × Int → Option (AV × List Blk)) : (List (List Int)) × (List Int) × Bool × Int × Int × (List Int) × (List Int) × Int → Option (AV × List Blk) := fun v => loopN (fun k => f4_n111110100 F k kf4_j10026) F (f4_n11111010_i v)
theorem f4_n11111010_eq (F : Nat) (Rf4_j10026 : St → Option (AV × List Blk)) : ∀ v, aexec VG034 (Af4 F) (sub (bodyOf Tryd.f4) [1, 1, 1, 1, 1, 0, 1, 0]) (ef4_j7012 v) (kBlock 0 (kSeq (fun s => Rf4_j10026 (cutTo VG034 (some [(0, .plain), (1, .plain), (7, .plain), (8, .plain), (9, .plain)]) s)) (kFin VG034 0 (Tryd.f4).results.toList))) = f4_n11111010 F (fun w => Rf4_j10026 (ef4_j10026 w)) v :=
  loop_cut (c := (sub (bodyOf Tryd.f4) [1, 1, 1, 1, 1, 0, 1, 0])) (d := (sub (bodyOf Tryd.f4) [1, 1, 1, 1, 1, 0, 1, 0, 0])) (by kernel_rfl) (spec := [(0, .plain), (1, .plain), (7, .plain), (8, .plain), (9, .plain), (10, .plain)]) (by kernel_rfl) ef4_j7012 ef4_l7010 (kBlock 0 (kSeq (fun s => Rf4_j10026 (cutTo VG034 (some [(0, .plain), (1, .plain), (7, .plain), (8, .plain), (9, .plain)]) s)) (kFin VG034 0 (Tryd.f4).results.toList))) f4_n11111010_i (fun k => f4_n111110100 F k (fun w => Rf4_j10026 (ef4_j10026 w)))
    (by rintro ⟨t0, t1, t7, t8, t10, x6, x7, x8⟩; kernel_rfl) (fun Rf4_l7010 => f4_n111110100_eq F Rf4_l7010 Rf4_j10026)
def f4_n1111101 (F : Nat) (kf4_j10026 : (List (List Int)) × (List Int) × Bool × Int × (List Int) × (List Int) × Int → Option (AV × List Blk)) : (List (List Int)) × (List Int) × Bool × Int × Int × (List Int) × (List Int) × Int → Option (AV × List Blk) := f4_n11111010 F kf4_j10026
theorem f4_n1111101_eq (F : Nat) (Rf4_j10026 : St → Option (AV × List Blk)) : ∀ v, aexec VG034 (Af4 F) (sub (bodyOf Tryd.f4) [1, 1, 1, 1, 1, 0, 1]) (ef4_j7012 v) (kSeq (fun s => Rf4_j10026 (cutTo VG034 (some [(0, .plain), (1, .plain), (7, .plain), (8, .plain), (9, .plain)]) s)) (kFin VG034 0 (Tryd.f4).results.toList)) = f4_n1111101 F (fun w => Rf4_j10026 (ef4_j10026 w)) v := fun v =>
  (block_in (c := (sub (bodyOf Tryd.f4) [1, 1, 1, 1, 1, 0, 1])) (d := (sub (bodyOf Tryd.f4) [1, 1, 1, 1, 1, 0, 1, 0])) (id := 0) (by kernel_rfl) _ _).trans (f4_n11111010_eq F Rf4_j10026 v)
def f4_n111110 (F : Nat) (kf4_j10026 : (List (List Int)) × (List Int) × Bool × Int × (List Int) × (List Int) × Int → Option (AV × List Blk)) : (List (List Int)) × (List Int) × Bool × Int × (List Int) × (List Int) × Int → Option (AV × List Blk) := fun v => f4_n1111100 F (f4_n1111101 F kf4_j10026) kf4_j10026 v
theorem f4_n111110_eq (F : Nat) (Rf4_j10026 : St → Option (AV × List Blk)) : ∀ v, aexec VG034 (Af4 F) (sub (bodyOf Tryd.f4) [1, 1, 1, 1, 1, 0]) (ef4_j6041 v) (kSeq (fun s => Rf4_j10026 (cutTo VG034 (some [(0, .plain), (1, .plain), (7, .plain), (8, .plain), (9, .plain)]) s)) (kFin VG034 0 (Tryd.f4).results.toList)) = f4_n111110 F (fun w => Rf4_j10026 (ef4_j10026 w)) v :=
  seq_cut (c := (sub (bodyOf Tryd.f4) [1, 1, 1, 1, 1, 0])) (a := (sub (bodyOf Tryd.f4) [1, 1, 1, 1, 1, 0, 0])) (b := (sub (bodyOf Tryd.f4) [1, 1, 1, 1, 1, 0, 1])) (by kernel_rfl) (spec := [(0, .plain), (1, .plain), (7, .plain), (8, .plain), (9, .plain), (10, .plain)]) (by kernel_rfl) ef4_j6041 ef4_j7012 (kSeq (fun s => Rf4_j10026 (cutTo VG034 (some [(0, .plain), (1, .plain), (7, .plain), (8, .plain), (9, .plain)]) s)) (kFin VG034 0 (Tryd.f4).results.toList)) (fun k => f4_n1111100 F k (fun w => Rf4_j10026 (ef4_j10026 w))) (f4_n1111101 F (fun w => Rf4_j10026 (ef4_j10026 w)))
    (fun Rf4_j7012 => f4_n1111100_eq F Rf4_j7012 Rf4_j10026) (f4_n1111101_eq F Rf4_j10026)
def f4_n1111110 (F : Nat) (kf4_j11024 : (List (List Int)) × (List Int) × Bool × Int × (List Int) × (List Int) × Int × (List Int) × (List Int) × Int → Option (AV × List Blk)) : (List (List Int)) × (List Int) × Bool × Int × (List Int) × (List Int) × Int → Option (AV × List Blk) := fun (t0, t1, t7, t8, x5, x6, x7) => (kf4_j11024 (t0, t1, t7, t8, x5, x6, x7, x5, x6, x7))
theorem f4_n1111110_eq (F : Nat) (Rf4_j11024 : St → Option (AV × List Blk)) : ∀ v, aexec VG034 (Af4 F) (sub (bodyOf Tryd.f4) [1, 1, 1, 1, 1, 1, 0]) (ef4_j10026 v) (kSeq (fun s => Rf4_j11024 (cutTo VG034 (some [(0, .plain), (1, .plain), (7, .plain), (8, .plain), (9, .plain), (11, .plain)]) s)) (kFin VG034 0 (Tryd.f4).results.toList)) = f4_n1111110 F (fun w => Rf4_j11024 (ef4_j11024 w)) v := by
  rintro ⟨t0, t1, t7, t8, x5, x6, x7⟩; kernel_rfl
def f4_n111111100 (F : Nat) (kf4_j12012 : (List (List Int)) × (List Int) × Bool × Int × Int × (List Int) × (List Int) × Int × (List Int) × (List Int) × Int → Option (AV × List Blk)) (kf4_j15009 : (List (List Int)) × (List Int) × Bool × Int × (List Int) × (List Int) × Int × (List Int) × (List Int) × Int → Option (AV × List Blk)) : (List (List Int)) × (List Int) × Bool × Int × (List Int) × (List Int) × Int × (List Int) × (List Int) × Int → Option (AV × List Blk) := fun (t0, t1, t7, t8, x5, x6, x7, x8, x9, x10) => (kf4_j12012 (t0, t1, t7, t8, t8, x5, x6, x7, x8, x9, x10))
theorem f4_n111111100_eq (F : Nat) (Rf4_j12012 : St → Option (AV × List Blk)) (Rf4_j15009 : St → Option (AV × List Blk)) : ∀ v, aexec VG034 (Af4 F) (sub (bodyOf Tryd.f4) [1, 1, 1, 1, 1, 1, 1, 0, 0]) (ef4_j11024 v) (kSeq (fun s => Rf4_j12012 (cutTo VG034 (some [(0, .plain), (1, .plain), (7, .plain), (8, .plain), (9, .plain), (11, .plain), (12, .plain)]) s)) (kSeq (fun s => Rf4_j15009 (cutTo VG034 (some [(0, .plain), (1, .plain), (7, .plain), (8, .plain), (9, .plain), (11, .plain)]) s)) (kFin VG034 0 (Tryd.f4).results.toList))) = f4_n111111100 F (fun w => Rf4_j12012 (ef4_j12012 w)) (fun w => Rf4_j15009 (ef4_j15009 w)) v := by
  rintro ⟨t0, t1, t7, t8, x5, x6, x7, x8, x9, x10⟩; kernel_rfl
def f4_n11111110100 (F : Nat) (kf4_l12010 : (List (List Int)) × (List Int) × Bool × Int × Int × (List Int) × (List Int) × Int × (List Int) × (List Int) × Int → Option (AV × List Blk)) (kf4_j15009 : (List (List Int)) × (List Int) × Bool × Int × (List Int) × (List Int) × Int × (List Int) × (List Int) × Int → Option (AV × List Blk)) : (List (List Int)) × (List Int) × Bool × Int × Int × (List Int) × (List Int) × Int × (List Int) × (List Int) × Int → Option (AV × List Blk) := fun (t0, t1, t7, t8, t12, x6, x7, x8, x9, x10, x11) => (cond (decide (t12 < (↑t0.length : Int))) (cond ((decide (0 ≤ t12)) && (decide (t12 < (↑t0.length : Int)))) (kf4_l12010 (t0, t1, t7, t8, (IntKind.i64.wrap (t12 + (1 : Int))), (Sha.addS (x6, x7, x8) (t0.getD (Int.toNat t12) [])).1, (Sha.addS (x6, x7, x8) (t0.getD (Int.toNat t12) [])).2.1, (Sha.addS (x6, x7, x8) (t0.getD (Int.toNat t12) [])).2.2, x9, x10, x11)) none) (kf4_j15009 (t0, t1, t7, t8, x6, x7, x8, x9, x10, x11)))
theorem f4_n11111110100_eq (F : Nat) (Rf4_l12010 : St → Option (AV × List Blk)) (Rf4_j15009 : St → Option (AV × List Blk)) : ∀ v, aexec VG034 (Af4 F) (sub (bodyOf Tryd.f4) [1, 1, 1, 1, 1, 1, 1, 0, 1, 0, 0]) (ef4_l12010 v) (kSeq (fun s => Rf4_l12010 (cutTo VG034 (some [(0, .plain), (1, .plain), (7, .plain), (8, .plain), (9, .plain), (11, .plain), (12, .plain)]) s)) (kBlock 2 (kSeq (fun s => Rf4_j15009 (cutTo VG034 (some [(0, .plain), (1, .plain), (7, .plain), (8, .plain), (9, .plain), (11, .plain)]) s)) (kFin VG034 0 (Tryd.f4).results.toList)))) = f4_n11111110100 F (fun w => Rf4_l12010 (ef4_l12010 w)) (fun w => Rf4_j15009 (ef4_j15009 w)) v := by
  rintro ⟨t0, t1, t7, t8, t12, x6, x7, x8, x9, x10, x11⟩; kernel_rfl
def f4_n1111111010_i : (List (List Int)) × (List Int) × Bool × Int × Int × (List Int) × (List Int) × Int × (List Int) × (List Int) × Int → (List (List Int)) × (List Int) × Bool × Int × Int × (List Int) × (List Int) × Int × (List Int) × (List Int) × Int := fun (t0, t1, t7, t8, t12, x6, x7, x8, x9, x10, x11) => (t0, t1, t7, t8, t12, x6, x7, x8, x9, x10, x11)
def f4_n1111111010 (F : Nat) (kf4_j15009 : (List (List Int)) × (List Int) × Bool × Int × (List Int) × (List Int) × Int × (List Int) × (List Int) × Int → Option (AV × List Blk)) : (List (List Int)) × (List Int) × Bool × Int × Int × (List Int) × (List Int) × Int × (List Int) × (List Int) × Int → Option (AV × List Blk) := fun v => loopN (fun k => f4_n11111110100 F k kf4_j15009) F (f4_n1111111010_i v)
theorem f4_n1111111010_eq (F : Nat) (Rf4_j15009 : St → Option (AV × List Blk)) : ∀ v, aexec VG034 (Af4 F) (sub (bodyOf Tryd.f4) [1, 1, 1, 1, 1, 1, 1, 0, 1, 0]) (ef4_j12012 v) (kBlock 2 (kSeq (fun s => Rf4_j15009 (cutTo VG034 (some [(0, .plain), (1, .plain), (7, .plain), (8, .plain), (9, .plain), (11, .plain)]) s)) (kFin VG034 0 (Tryd.f4).results.toList))) = f4_n1111111010 F (fun w => Rf4_j15009 (ef4_j15009 w)) v :=
  loop_cut (c := (sub (bodyOf Tryd.f4) [1, 1, 1, 1, 1, 1, 1, 0, 1, 0])) (d := (sub (bodyOf Tryd.f4) [1, 1, 1, 1, 1, 1, 1, 0, 1, 0, 0])) (by kernel_rfl) (spec := [(0, .plain), (1, .plain), (7, .plain), (8, .plain), (9, .plain), (11, .plain), (12, .plain)]) (by kernel_rfl) ef4_j12012 ef4_l12010 (kBlock 2 (kSeq (fun s => Rf4_j15009 (cutTo VG034 (some [(0, .plain), (1, .plain), (7, .plain), (8, .plain), (9, .plain), (11, .plain)]) s)) (kFin VG034 0 (Tryd.f4).results.toList))) f4_n1111111010_i (fun k => f4_n11111110100 F k (fun w => Rf4_j15009 (ef4_j15009 w)))
    (by rintro ⟨t0, t1, t7, t8, t12, x6, x7, x8, x9, x10, x11⟩; kernel_rfl) (fun Rf4_l12010 => f4_n11111110100_eq F Rf4_l12010 Rf4_j15009)
def f4_n111111101 (F : Nat) (kf4_j15009 : (List (List Int)) × (List Int) × Bool × Int × (List Int) × (List Int) × Int × (List Int) × (List Int) × Int → Option (AV × List Blk)) : (List (List Int)) × (List Int) × Bool × Int × Int × (List Int) × (List Int) × Int × (List Int) × (List Int) × Int → Option (AV × List Blk) := f4_n1111111010 F kf4_j15009
theorem f4_n111111101_eq (F : Nat) (Rf4_j15009 : St → Option (AV × List Blk)) : ∀ v, aexec VG034 (Af4 F) (sub (bodyOf Tryd.f4) [1, 1, 1, 1, 1, 1, 1, 0, 1]) (ef4_j12012 v) (kSeq (fun s => Rf4_j15009 (cutTo VG034 (some [(0, .plain), (1, .plain), (7, .plain), (8, .plain), (9, .plain), (11, .plain)]) s)) (kFin VG034 0 (Tryd.f4).results.toList)) = f4_n111111101 F (fun w => Rf4_j15009 (ef4_j15009 w)) v := fun v =>
  (block_in (c := (sub (bodyOf Tryd.f4) [1, 1, 1, 1, 1, 1, 1, 0, 1])) (d := (sub (bodyOf Tryd.f4) [1, 1, 1, 1, 1, 1, 1, 0, 1, 0])) (id := 2) (by kernel_rfl) _ _).trans (f4_n1111111010_eq F Rf4_j15009 v)
def f4_n11111110 (F : Nat) (kf4_j15009 : (List (List Int)) × (List Int) × Bool × Int × (List Int) × (List Int) × Int × (List Int) × (List Int) × Int → Option (AV × List Blk)) : (List (List Int)) × (List Int) × Bool × Int × (List Int) × (List Int) × Int × (List Int) × (List Int) × Int → Option (AV × List Blk) := fun v => f4_n111111100 F (f4_n111111101 F kf4_j15009) kf4_j15009 v
theorem f4_n11111110_eq (F : Nat) (Rf4_j15009 : St → Option (AV × List Blk)) : ∀ v, aexec VG034 (Af4 F) (sub (bodyOf Tryd.f4) [1, 1, 1, 1, 1, 1, 1, 0]) (ef4_j11024 v) (kSeq (fun s => Rf4_j15009 (cutTo VG034 (some [(0, .plain), (1, .plain), (7, .plain), (8, .plain), (9, .plain), (11, .plain)]) s)) (kFin VG034 0 (Tryd.f4).results.toList)) = f4_n11111110 F (fun w => Rf4_j15009 (ef4_j15009 w)) v :=
  seq_cut (c := (sub (bodyOf Tryd.f4) [1, 1, 1, 1, 1, 1, 1, 0])) (a := (sub (bodyOf Tryd.f4) [1, 1, 1, 1, 1, 1, 1, 0, 0])) (b := (sub (bodyOf Tryd.f4) [1, 1, 1, 1, 1, 1, 1, 0, 1])) (by kernel_rfl) (spec := [(0, .plain), (1, .plain), (7, .plain), (8, .plain), (9, .plain), (11, .plain), (12, .plain)]) (by kernel_rfl) ef4_j11024 ef4_j12012 (kSeq (fun s => Rf4_j15009 (cutTo VG034 (some [(0, .plain), (1, .plain), (7, .plain), (8, .plain), (9, .plain), (11, .plain)]) s)) (kFin VG034 0 (Tryd.f4).results.toList)) (fun k => f4_n111111100 F k (fun w => Rf4_j15009 (ef4_j15009 w))) (f4_n111111101 F (fun w => Rf4_j15009 (ef4_j15009 w)))
    (fun Rf4_j12012 => f4_n111111100_eq F Rf4_j12012 Rf4_j15009) (f4_n111111101_eq F Rf4_j15009)
def f4_n11111111 (F : Nat) : (List (List Int)) × (List Int) × Bool × Int × (List Int) × (List Int) × Int × (List Int) × (List Int) × Int → Option (AV × List Blk) := fun (t0, t1, t7, t8, x5, x6, x7, x8, x9, x10) => (cond (decide (t0.flatten.length < 4611686018427387904)) (cond ((decide ((0 : Int) ≤ t8)) && (decide (t8 ≤ (↑t0.length : Int)))) (cond (decide ((t0.take (Int.toNat t8)).flatten.length < 4611686018427387904)) (cond t7 (cond (decide (x7 ≤ 9223372036854775000)) (cond (decide ((t0.flatten).length < 1073741000)) (cond (((Sha.fin (x5, x6, x7)) : List Int) == (Sha.hash (t0.flatten))) (cond (decide (x10 ≤ 9223372036854775000)) (cond (decide (((t0.take (Int.toNat t8)).flatten).length < 1073741000)) (cond (((Sha.fin (x8, x9, x10)) : List Int) == (Sha.hash ((t0.take (Int.toNat t8)).flatten))) (cond (decide ((Sha.addS (x8, x9, x10) t1).2.2 ≤ 9223372036854775000)) (cond (decide ((((t0.take (Int.toNat t8)).flatten).length + t1.length) < 4611686018427387904)) (cond (decide ((((t0.take (Int.toNat t8)).flatten) ++ t1).length < 1073741000)) (cond (((Sha.fin ((Sha.addS (x8, x9, x10) t1).1, (Sha.addS (x8, x9, x10) t1).2.1, (Sha.addS (x8, x9, x10) t1).2.2)) : List Int) == (Sha.hash (((t0.take (Int.toNat t8)).flatten) ++ t1))) (cond (decide (x7 ≤ 9223372036854775000)) (some ((.bool (((Sha.fin (x5, x6, x7)) : List Int) == (Sha.hash (t0.flatten)))), [])) none) (some ((.bool false), []))) none) none) none) (some ((.bool false), []))) none) none) (some ((.bool false), []))) none) none) (some ((.bool false), []))) none) none) none)
theorem f4_n11111111_eq (F : Nat) : ∀ v, aexec VG034 (Af4 F) (sub (bodyOf Tryd.f4) [1, 1, 1, 1, 1, 1, 1, 1]) (ef4_j15009 v) (kFin VG034 0 (Tryd.f4).results.toList) = f4_n11111111 F v := by
  rintro ⟨t0, t1, t7, t8, x5, x6, x7, x8, x9, x10⟩; kernel_rfl
def f4_n1111111 (F : Nat) : (List (List Int)) × (List Int) × Bool × Int × (List Int) × (List Int) × Int × (List Int) × (List Int) × Int → Option (AV × List Blk) := fun v => f4_n11111110 F (f4_n11111111 F) v
theorem f4_n1111111_eq (F : Nat) : ∀ v, aexec VG034 (Af4 F) (sub (bodyOf Tryd.f4) [1, 1, 1, 1, 1, 1, 1]) (ef4_j11024 v) (kFin VG034 0 (Tryd.f4).results.toList) = f4_n1111111 F v :=
  seq_cut (c := (sub (bodyOf Tryd.f4) [1, 1, 1, 1, 1, 1, 1])) (a := (sub (bodyOf Tryd.f4) [1, 1, 1, 1, 1, 1, 1, 0])) (b := (sub (bodyOf Tryd.f4) [1, 1, 1, 1, 1, 1, 1, 1])) (by kernel_rfl) (spec := [(0, .plain), (1, .plain), (7, .plain), (8, .plain), (9, .plain), (11, .plain)]) (by kernel_rfl) ef4_j11024 ef4_j15009 (kFin VG034 0 (Tryd.f4).results.toList) (fun k => f4_n11111110 F k) (f4_n11111111 F)
    (fun Rf4_j15009 => f4_n11111110_eq F Rf4_j15009) (f4_n11111111_eq F)
def f4_n111111 (F : Nat) : (List (List Int)) × (List Int) × Bool × Int × (List Int) × (List Int) × Int → Option (AV × List Blk) := fun v => f4_n1111110 F (f4_n1111111 F) v
theorem f4_n111111_eq (F : Nat) : ∀ v, aexec VG034 (Af4 F) (sub (bodyOf Tryd.f4) [1, 1, 1, 1, 1, 1]) (ef4_j10026 v) (kFin VG034 0 (Tryd.f4).results.toList) = f4_n111111 F v :=
  seq_cut (c := (sub (bodyOf Tryd.f4) [1, 1, 1, 1, 1, 1])) (a := (sub (bodyOf Tryd.f4) [1, 1, 1, 1, 1, 1, 0])) (b := (sub (bodyOf Tryd.f4) [1, 1, 1, 1, 1, 1, 1])) (by kernel_rfl) (spec := [(0, .plain), (1, .plain), (7, .plain), (8, .plain), (9, .plain), (11, .plain)]) (by kernel_rfl) ef4_j10026 ef4_j11024 (kFin VG034 0 (Tryd.f4).results.toList) (fun k => f4_n1111110 F k) (f4_n1111111 F)
    (fun Rf4_j11024 => f4_n1111110_eq F Rf4_j11024) (f4_n1111111_eq F)
def f4_n11111 (F : Nat) : (List (List Int)) × (List Int) × Bool × Int × (List Int) × (List Int) × Int → Option (AV × List Blk) := fun v => f4_n111110 F (f4_n111111 F) v
theorem f4_n11111_eq (F : Nat) : ∀ v, aexec VG034 (Af4 F) (sub (bodyOf Tryd.f4) [1, 1, 1, 1, 1]) (ef4_j6041 v) (kFin VG034 0 (Tryd.f4).results.toList) = f4_n11111 F v :=
  seq_cut (c := (sub (bodyOf Tryd.f4) [1, 1, 1, 1, 1])) (a := (sub (bodyOf Tryd.f4) [1, 1, 1, 1, 1, 0])) (b := (sub (bodyOf Tryd.f4) [1, 1, 1, 1, 1, 1])) (by kernel_rfl) (spec := [(0, .plain), (1, .plain), (7, .plain), (8, .plain), (9, .plain)]) (by kernel_rfl) ef4_j6041 ef4_j10026 (kFin VG034 0 (Tryd.f4).results.toList) (fun k => f4_n111110 F k) (f4_n111111 F)
    (fun Rf4_j10026 => f4_n111110_eq F Rf4_j10026) (f4_n111111_eq F)
def f4_n1111 (F : Nat) : (List (List Int)) × (List Int) × Bool × Int → Option (AV × List Blk) := fun v => f4_n11110 F (f4_n11111 F) v
theorem f4_n1111_eq (F : Nat) : ∀ v, aexec VG034 (Af4 F) (sub (bodyOf Tryd.f4) [1, 1, 1, 1]) (ef4_j5043 v) (kFin VG034 0 (Tryd.f4).results.toList) = f4_n1111 F v :=
  seq_cut (c := (sub (bodyOf Tryd.f4) [1, 1, 1, 1])) (a := (sub (bodyOf Tryd.f4) [1, 1, 1, 1, 0])) (b := (sub (bodyOf Tryd.f4) [1, 1, 1, 1, 1])) (by kernel_rfl) (spec := [(0, .plain), (1, .plain), (7, .plain), (8, .plain), (9, .plain)]) (by kernel_rfl) ef4_j5043 ef4_j6041 (kFin VG034 0 (Tryd.f4).results.toList) (fun k => f4_n11110 F k) (f4_n11111 F)
    (fun Rf4_j6041 => f4_n11110_eq F Rf4_j6041) (f4_n11111_eq F)
def f4_n111 (F : Nat) : (List (List Int)) × (List Int) × Int × Bool → Option (AV × List Blk) := fun v => f4_n1110 F (f4_n1111 F) v
theorem f4_n111_eq (F : Nat) : ∀ v, aexec VG034 (Af4 F) (sub (bodyOf Tryd.f4) [1, 1, 1]) (ef4_j4045 v) (kFin VG034 0 (Tryd.f4).results.toList) = f4_n111 F v :=
  seq_cut (c := (sub (bodyOf Tryd.f4) [1, 1, 1])) (a := (sub (bodyOf Tryd.f4) [1, 1, 1, 0])) (b := (sub (bodyOf Tryd.f4) [1, 1, 1, 1])) (by kernel_rfl) (spec := [(0, .plain), (1, .plain), (7, .plain), (8, .plain)]) (by kernel_rfl) ef4_j4045 ef4_j5043 (kFin VG034 0 (Tryd.f4).results.toList) (fun k => f4_n1110 F k) (f4_n1111 F)
    (fun Rf4_j5043 => f4_n1110_eq F Rf4_j5043) (f4_n1111_eq F)
def f4_n11 (F : Nat) : (List (List Int)) × (List Int) × Int × Bool → Option (AV × List Blk) := fun v => f4_n110 F (f4_n111 F) v
theorem f4_n11_eq (F : Nat) : ∀ v, aexec VG034 (Af4 F) (sub (bodyOf Tryd.f4) [1, 1]) (ef4_j2053 v) (kFin VG034 0 (Tryd.f4).results.toList) = f4_n11 F v :=
  seq_cut (c := (sub (bodyOf Tryd.f4) [1, 1])) (a := (sub (bodyOf Tryd.f4) [1, 1, 0])) (b := (sub (bodyOf Tryd.f4) [1, 1, 1])) (by kernel_rfl) (spec := [(0, .plain), (1, .plain), (2, .plain), (7, .plain)]) (by kernel_rfl) ef4_j2053 ef4_j4045 (kFin VG034 0 (Tryd.f4).results.toList) (fun k => f4_n110 F k) (f4_n111 F)
    (fun Rf4_j4045 => f4_n110_eq F Rf4_j4045) (f4_n111_eq F)
def f4_n1 (F : Nat) : (List (List Int)) × (List Int) × Int → Option (AV × List Blk) := fun v => f4_n10 F (f4_n11 F) v
theorem f4_n1_eq (F : Nat) : ∀ v, aexec VG034 (Af4 F) (sub (bodyOf Tryd.f4) [1]) (ef4_j1055 v) (kFin VG034 0 (Tryd.f4).results.toList) = f4_n1 F v :=
  seq_cut (c := (sub (bodyOf Tryd.f4) [1])) (a := (sub (bodyOf Tryd.f4) [1, 0])) (b := (sub (bodyOf Tryd.f4) [1, 1])) (by kernel_rfl) (spec := [(0, .plain), (1, .plain), (2, .plain), (7, .plain)]) (by kernel_rfl) ef4_j1055 ef4_j2053 (kFin VG034 0 (Tryd.f4).results.toList) (fun k => f4_n10 F k) (f4_n11 F)
    (fun Rf4_j2053 => f4_n10_eq F Rf4_j2053) (f4_n11_eq F)
def f4_nt (F : Nat) : (List (List Int)) × (List Int) × Int → Option (AV × List Blk) := fun v => f4_n0 F (f4_n1 F) v
theorem f4_nt_eq (F : Nat) : ∀ v, aexec VG034 (Af4 F) (sub (bodyOf Tryd.f4) []) (ef4_a v) (kFin VG034 0 (Tryd.f4).results.toList) = f4_nt F v :=
  seq_cut (c := (sub (bodyOf Tryd.f4) [])) (a := (sub (bodyOf Tryd.f4) [0])) (b := (sub (bodyOf Tryd.f4) [1])) (by kernel_rfl) (spec := [(0, .plain), (1, .plain), (2, .plain)]) (by kernel_rfl) ef4_a ef4_j1055 (kFin VG034 0 (Tryd.f4).results.toList) (fun k => f4_n0 F k) (f4_n1 F)
    (fun Rf4_j1055 => f4_n0_eq F Rf4_j1055) (f4_n1_eq F)
/-- gantry/gantrylaw02.HashStreamsAgree -/
def f4 (F : Nat) : (List (List Int)) × (List Int) × Int → Option (AV × List Blk) := f4_nt F
theorem f4_body (F : Nat) (a0 : List (List Int)) (a1 : List Int) (a2 : Int) : abody VG034 (Af4 F) Tryd.f4 [(.vs (.rS a0) 0 1), (.str a1), (.int .u8 a2)] [] = f4 F (a0, a1, a2) :=
  (abody_in (c := (sub (bodyOf Tryd.f4) [])) (by kernel_rfl) (s := ef4_a (a0, a1, a2)) (by kernel_rfl)).trans (f4_nt_eq F (a0, a1, a2))
def r4 : CRun := fun X H => match X, H with
  | [(.vs (.rS a0) 0 1), (.str a1), (.int .u8 a2)], [] => some (true, (.bool true), [])
  | _, _ => none
theorem few12_ok {l : List (List Int)} (h : Sha.few12 l = true) : l.length ≤ 12 ∧ (∀ s ∈ l, s.length ≤ 400) ∧ ∀ i, (l.getD i []).length ≤ 400 := by
  simp only [Sha.few12, Bool.and_eq_true, decide_eq_true_eq, List.all_eq_true] at h
  refine ⟨h.1, h.2, fun i => ?_⟩
  by_cases hi : i < l.length
  · rw [List.getD_eq_getElem?_getD, List.getElem?_eq_getElem hi]; exact h.2 _ (List.getElem_mem hi)
  · rw [List.getD_eq_getElem?_getD, List.getElem?_eq_none (by omega)]; simp
theorem flat_len : ∀ (l : List (List Int)), (∀ s ∈ l, s.length ≤ 400) → l.flatten.length ≤ 400 * l.length
  | [], _ => by simp
  | s :: l, h => by
    have h1 := flat_len l (fun x hx => h x (by simp [hx]))
    have h2 := h s (by simp)
    simp only [List.flatten_cons, List.length_append, List.length_cons]; omega
theorem begin_n (m : List Int) (h : m.length < 9223372036854775000) : (Sha.addS Sha.begin m).2.2 ≤ 9223372036854775000 := by
  have : (Sha.addS Sha.begin m).2.2 = _ := Sha.addS_n m Sha.iv (List.replicate 64 0) 0 (by omega) (by omega)
  rw [this, u64w (by omega) (by omega)]; omega
theorem s4 (a0 : List (List Int)) (a1 : List Int) (a2 : Int) (h0 : okV (.vs (.rS a0) 0 1)) (h1 : okV (.str a1)) (h2 : okV (.int .u8 a2)) : ∃ F, f4 F (a0, a1, a2) = some ((.bool true), []) := by
  have ha2 : 0 ≤ a2 ∧ a2 ≤ 255 := h2
  have hl0 := h0.2
  refine ⟨a0.length + 1, ?_⟩
  simp only [f4, f4_nt, f4_n0, f4_n1, f4_n10, f4_n11, f4_n110]
  cases hf : Sha.few12 a0 with
  | false => rfl
  | true =>
    obtain ⟨g1, g2, g3⟩ := few12_ok hf
    simp only [Bool.not_true, cond_false]
    by_cases h4 : (a1.length : Int) > 400
    · rw [cond_pos h4]
    · rw [cond_neg h4]
      simp only [f4_n111, f4_n1110]
      rw [i64w (x := (a0.length : Int) + 1) (by omega) (by omega), i64w (x := a2) (by omega) (by omega)]
      have hne : (!(((a0.length : Int) + 1) == 0)) = true := by rw [int_beq, dec_not, decide_eq_true_eq]; omega
      rw [hne, cond_true, tmod_nn (by omega)]
      obtain ⟨k, hk⟩ : ∃ k : Nat, a2 % ((a0.length : Int) + 1) = (k : Int) := ⟨_, (Int.toNat_of_nonneg (Int.emod_nonneg _ (by omega))).symm⟩
      have hkl : k ≤ a0.length := by
        have := Int.emod_lt_of_pos a2 (show (0 : Int) < (a0.length : Int) + 1 by omega)
        omega
      rw [hk]
      simp only [f4_n1111, f4_n11110, f4_n11111, f4_n111110, f4_n1111100, f4_n1111101, f4_n11111010, f4_n11111010_i]
      refine loopN_from (fun i => (a0, a1, true, (k : Int), (i : Int), (Sha.addS Sha.begin (a0.take i).flatten).1, (Sha.addS Sha.begin (a0.take i).flatten).2.1, (Sha.addS Sha.begin (a0.take i).flatten).2.2)) k (by rfl) (fun i hi kk => ?_) (fun kk => ?_) _ (by omega)
      · simp only [f4_n111110100, dec_and]
        rw [Int.toNat_natCast, cond_pos (by omega), cond_pos (by omega), i64w (x := (i : Int) + 1) (by omega) (by omega), flatten_take a0 i (by omega), Sha.addS_append]
        rfl
      · simp only [f4_n111110100]
        rw [cond_neg (by omega)]
        simp only [f4_n111111, f4_n1111110, f4_n1111111, f4_n11111110, f4_n111111100, f4_n111111101, f4_n1111111010, f4_n1111111010_i]
        generalize hE : Sha.addS Sha.begin (a0.take k).flatten = E0
        obtain ⟨e0, e1, e2⟩ := E0
        refine loopN_from (fun i => (a0, a1, true, (k : Int), ((k + i : Nat) : Int), (Sha.addS Sha.begin (a0.take (k + i)).flatten).1, (Sha.addS Sha.begin (a0.take (k + i)).flatten).2.1, (Sha.addS Sha.begin (a0.take (k + i)).flatten).2.2, e0, e1, e2)) (a0.length - k) ?_ (fun i hi kk => ?_) (fun kk => ?_) _ (by omega)
        · simp only [Nat.add_zero, hE]
        · simp only [f4_n11111110100, dec_and]
          rw [Int.toNat_natCast, cond_pos (by omega), cond_pos (by omega), i64w (x := ((k + i : Nat) : Int) + 1) (by omega) (by omega), ← Nat.add_assoc, flatten_take a0 (k + i) (by omega), Sha.addS_append]
          rfl
        · simp only [f4_n11111110100]
          rw [cond_neg (by omega), show k + (a0.length - k) = a0.length by omega, List.take_length]
          simp only [f4_n11111111]
          have q1 := flat_len a0 g2
          have q2 := flatten_le a0 k
          have q3 := begin_n a0.flatten (by omega)
          have q4 := begin_n (a0.take k).flatten (by omega)
          have q5 := begin_n ((a0.take k).flatten ++ a1) (by rw [List.length_append]; omega)
          rw [hE] at q4
          rw [Sha.addS_append, hE] at q5
          have r1 : Sha.fin (e0, e1, e2) = Sha.hash (a0.take k).flatten := by rw [← hE]; rfl
          have r2 : Sha.fin ((Sha.addS Sha.begin a0.flatten).1, (Sha.addS Sha.begin a0.flatten).2.1, (Sha.addS Sha.begin a0.flatten).2.2) = Sha.hash a0.flatten := rfl
          have r3 : Sha.fin ((Sha.addS (e0, e1, e2) a1).1, (Sha.addS (e0, e1, e2) a1).2.1, (Sha.addS (e0, e1, e2) a1).2.2) = Sha.hash ((a0.take k).flatten ++ a1) := by
            show Sha.fin (Sha.addS (e0, e1, e2) a1) = _
            rw [← hE, ← Sha.addS_append]; rfl
          simp only [Int.toNat_natCast, r1, r2, r3, beq_rfl, cond_true, dec_and, List.length_append]
          rw [cond_pos (by omega), cond_pos (by omega), cond_pos (by omega), cond_pos q3, cond_pos (by omega), cond_pos q4, cond_pos (by omega), cond_pos q5, cond_pos (by omega), cond_pos (by omega), cond_pos q3]

theorem c4 : CallOk Tryd.prog G03 4 r4 := callOk_of (V := VG034) mixed tys eVG034 (f := 4) (fn := Tryd.f4) Tryd.func4 (by kernel_rfl) (c := sub (bodyOf Tryd.f4) []) (by kernel_rfl) (by
  intro X H r H' h hX hH
  unfold r4 at h; split at h <;> try contradiction
  simp only [Option.some.injEq, Prod.mk.injEq] at h
  obtain ⟨hp, rfl, rfl⟩ := h
  obtain ⟨F, hF⟩ := s4 _ _ _ (hX _ (.head _)) (hX _ (.tail _ (.head _))) (hX _ (.tail _ (.tail _ (.head _))))
  exact ⟨Af4 F, (f4_body F _ _ _).trans hF⟩)
/-! gantry/gantrylaw02.HashMacMatchesSpec -/
def lVG035 : List CEnt := [(10, [], r10), (18, [none, none], r18), (19, [none, none], r19)]
def VG035 : Env := mkEnv T02 G03 lVG035
theorem eVG035 : EOk Tryd.prog VG035 := eok_mk (by exact ⟨c10.more gsub, c18.more gsub, c19, trivial⟩)
def Af5 (F : Nat) : Cuts := { F := F, at_ := fun _ => none, join := fun _ => none }
def ef5_a : (List Int) × (List Int) → St := fun (a0, a1) => { tmps := [(0, (.str a0)), (1, (.str a1))], heap := [], next := 0, nt := 26, m := 0 }
def f5_nt (F : Nat) : (List Int) × (List Int) → Option (AV × List Blk) := fun (a0, a1) => (cond (decide ((↑a0.length : Int) > (400 : Int))) (some ((.bool true), [])) (cond (decide ((↑a1.length : Int) > (400 : Int))) (some ((.bool true), [])) (cond ((decide (a0.length < 1073740000)) && (decide (a1.length < 1073740000))) (some ((.bool (((Sha.mac a0 a1) : List Int) == ((Sha.mac a0 a1) : List Int))), [])) none)))
theorem f5_nt_eq (F : Nat) : ∀ v, aexec VG035 (Af5 F) (sub (bodyOf Tryd.f5) []) (ef5_a v) (kFin VG035 0 (Tryd.f5).results.toList) = f5_nt F v := by
  rintro ⟨a0, a1⟩; kernel_rfl
/-- gantry/gantrylaw02.HashMacMatchesSpec -/
def f5 (F : Nat) : (List Int) × (List Int) → Option (AV × List Blk) := f5_nt F
theorem f5_body (F : Nat) (a0 : List Int) (a1 : List Int) : abody VG035 (Af5 F) Tryd.f5 [(.str a0), (.str a1)] [] = f5 F (a0, a1) :=
  (abody_in (c := (sub (bodyOf Tryd.f5) [])) (by kernel_rfl) (s := ef5_a (a0, a1)) (by kernel_rfl)).trans (f5_nt_eq F (a0, a1))
def r5 : CRun := fun X H => match X, H with
  | [(.str a0), (.str a1)], [] => some (true, (.bool true), [])
  | _, _ => none
theorem s5 (a0 : List Int) (a1 : List Int) (h0 : okV (.str a0)) (h1 : okV (.str a1)) : ∃ F, f5 F (a0, a1) = some ((.bool true), []) := by
  refine ⟨0, ?_⟩
  simp only [f5, f5_nt, beq_rfl, dec_and]
  by_cases g0 : (a0.length : Int) > 400
  · rw [cond_pos g0]
  · rw [cond_neg g0]
    by_cases g1 : (a1.length : Int) > 400
    · rw [cond_pos g1]
    · rw [cond_neg g1, cond_pos (by omega)]

theorem c5 : CallOk Tryd.prog G03 5 r5 := callOk_of (V := VG035) mixed tys eVG035 (f := 5) (fn := Tryd.f5) Tryd.func5 (by kernel_rfl) (c := sub (bodyOf Tryd.f5) []) (by kernel_rfl) (by
  intro X H r H' h hX hH
  unfold r5 at h; split at h <;> try contradiction
  simp only [Option.some.injEq, Prod.mk.injEq] at h
  obtain ⟨hp, rfl, rfl⟩ := h
  obtain ⟨F, hF⟩ := s5 _ _ (hX _ (.head _)) (hX _ (.tail _ (.head _)))
  exact ⟨Af5 F, (f5_body F _ _).trans hF⟩)
/-! gantry/gantrylaw02.HashMacKeys -/
def lVG026 : List CEnt := [(10, [], r10), (11, [some 5], r11), (18, [none, none], r18), (20, [none], r20)]
def VG026 : Env := mkEnv T02 G02 lVG026
theorem eVG026 : EOk Tryd.prog VG026 := eok_mk (by exact ⟨c10, c11, c18, c20, trivial⟩)
def Af6 (F : Nat) : Cuts := { F := F, at_ := fun _ => none, join := fun _ => none }
def ef6_a : (List Int) × (List Int) → St := fun (a0, a1) => { tmps := [(0, (.str a0)), (1, (.str a1))], heap := [], next := 0, nt := 54, m := 0 }
def f6_nt (F : Nat) : (List Int) × (List Int) → Option (AV × List Blk) := fun (a0, a1) => (cond (decide ((↑a0.length : Int) > (400 : Int))) (some ((.bool true), [])) (cond (decide ((↑a1.length : Int) > (400 : Int))) (some ((.bool true), [])) (cond (decide ((↑a0.length : Int) > (64 : Int))) (some ((.bool (((Sha.mac a0 a1) : List Int) == ((Sha.mac (Sha.hash a0) a1) : List Int))), [])) (cond (decide ((↑a0.length : Int) < (64 : Int))) (cond (decide ((a0.length + 1) < 4611686018427387904)) (some ((.bool (((Sha.mac a0 a1) : List Int) == ((Sha.mac (a0 ++ [0]) a1) : List Int))), [])) none) (some ((.bool ((↑(Sha.mac a0 a1).length : Int) == (32 : Int))), []))))))
theorem f6_nt_eq (F : Nat) : ∀ v, aexec VG026 (Af6 F) (sub (bodyOf Tryd.f6) []) (ef6_a v) (kFin VG026 0 (Tryd.f6).results.toList) = f6_nt F v := by
  rintro ⟨a0, a1⟩; kernel_rfl
/-- gantry/gantrylaw02.HashMacKeys -/
def f6 (F : Nat) : (List Int) × (List Int) → Option (AV × List Blk) := f6_nt F
theorem f6_body (F : Nat) (a0 : List Int) (a1 : List Int) : abody VG026 (Af6 F) Tryd.f6 [(.str a0), (.str a1)] [] = f6 F (a0, a1) :=
  (abody_in (c := (sub (bodyOf Tryd.f6) [])) (by kernel_rfl) (s := ef6_a (a0, a1)) (by kernel_rfl)).trans (f6_nt_eq F (a0, a1))
def r6 : CRun := fun X H => match X, H with
  | [(.str a0), (.str a1)], [] => some (true, (.bool true), [])
  | _, _ => none
theorem s6 (a0 : List Int) (a1 : List Int) (h0 : okV (.str a0)) (h1 : okV (.str a1)) : ∃ F, f6 F (a0, a1) = some ((.bool true), []) := by
  refine ⟨0, ?_⟩
  simp only [f6, f6_nt]
  by_cases g0 : (a0.length : Int) > 400
  · rw [cond_pos g0]
  · rw [cond_neg g0]
    by_cases g1 : (a1.length : Int) > 400
    · rw [cond_pos g1]
    · rw [cond_neg g1]
      have hm : (Sha.mac a0 a1).length = 32 := Sha.hash_len _
      by_cases g2 : (a0.length : Int) > 64
      · rw [cond_pos g2]
        have : Sha.mac (Sha.hash a0) a1 = Sha.mac a0 a1 := by
          unfold Sha.mac
          rw [if_pos (show a0.length > 64 by omega), if_neg (show ¬ (Sha.hash a0).length > 64 by rw [Sha.hash_len]; omega)]
        rw [this, beq_rfl]
      · rw [cond_neg g2]
        by_cases g3 : (a0.length : Int) < 64
        · rw [cond_pos g3, cond_pos (by omega)]
          have : Sha.mac (a0 ++ [0]) a1 = Sha.mac a0 a1 := by
            have h65 : ¬ ((a0 ++ [(0 : Int)]).length > 64) := by rw [List.length_append]; simp only [List.length_cons, List.length_nil]; omega
            have h64 : ¬ (a0.length > 64) := by omega
            simp only [Sha.mac, if_neg h65, if_neg h64, Sha.xpad_zero]
          rw [this, beq_rfl]
        · rw [cond_neg g3, hm]; rfl

theorem c6 : CallOk Tryd.prog G02 6 r6 := callOk_of (V := VG026) mixed tys eVG026 (f := 6) (fn := Tryd.f6) Tryd.func6 (by kernel_rfl) (c := sub (bodyOf Tryd.f6) []) (by kernel_rfl) (by
  intro X H r H' h hX hH
  unfold r6 at h; split at h <;> try contradiction
  simp only [Option.some.injEq, Prod.mk.injEq] at h
  obtain ⟨hp, rfl, rfl⟩ := h
  obtain ⟨F, hF⟩ := s6 _ _ (hX _ (.head _)) (hX _ (.tail _ (.head _)))
  exact ⟨Af6 F, (f6_body F _ _).trans hF⟩)
/-! gantry/gantrylaw02.HashOfMatchesSpec -/
def lVG037 : List CEnt := [(10, [], r10), (13, [some 9], r13), (21, [none, some 9], r21), (22, [none, some 9], r22)]
def VG037 : Env := mkEnv T02 G03 lVG037
theorem eVG037 : EOk Tryd.prog VG037 := eok_mk (by exact ⟨c10.more gsub, c13.more gsub, c21.more gsub, c22, trivial⟩)
def Af7 (F : Nat) : Cuts := { F := F, at_ := fun _ => none, join := fun _ => none }
def ef7_a : Int × (List (List Int)) → St := fun (a0, a1) => { tmps := [(0, (.int .i64 a0)), (1, (.vs (.rS a1) 0 1))], heap := [], next := 0, nt := 31, m := 0 }
def f7_nt (F : Nat) : Int × (List (List Int)) → Option (AV × List Blk) := fun (a0, a1) => (cond (!(Sha.few12 a1)) (some ((.bool true), [])) (cond (Sha.few a1) (cond (decide ((Sha.input a0 a1).length < 1073741000)) (cond (((Sha.of a0 a1) : List Int) == (Sha.of a0 a1)) (cond (Sha.few a1) (some ((.bool (((Sha.of a0 a1) : List Int) == (Sha.of (ibits .and .i64 a0 (255 : Int)) a1))), [])) none) (some ((.bool false), []))) none) none))
theorem f7_nt_eq (F : Nat) : ∀ v, aexec VG037 (Af7 F) (sub (bodyOf Tryd.f7) []) (ef7_a v) (kFin VG037 0 (Tryd.f7).results.toList) = f7_nt F v := by
  rintro ⟨a0, a1⟩; kernel_rfl
/-- gantry/gantrylaw02.HashOfMatchesSpec -/
def f7 (F : Nat) : Int × (List (List Int)) → Option (AV × List Blk) := f7_nt F
theorem f7_body (F : Nat) (a0 : Int) (a1 : List (List Int)) : abody VG037 (Af7 F) Tryd.f7 [(.int .i64 a0), (.vs (.rS a1) 0 1)] [] = f7 F (a0, a1) :=
  (abody_in (c := (sub (bodyOf Tryd.f7) [])) (by kernel_rfl) (s := ef7_a (a0, a1)) (by kernel_rfl)).trans (f7_nt_eq F (a0, a1))
def r7 : CRun := fun X H => match X, H with
  | [(.int .i64 a0), (.vs (.rS a1) 0 1)], [] => some (true, (.bool true), [])
  | _, _ => none
theorem and255 (x : Int) : ibits .and .i64 x 255 = x % 256 := by
  show IntKind.i64.wrap ((BitVec.ofInt 64 x &&& BitVec.ofInt 64 255).toNat : Int) = _
  rw [BitVec.toNat_and, BitVec.toNat_ofInt, BitVec.toNat_ofInt]
  have e2 : ((255 : Int) % ((2 ^ 64 : Nat) : Int)).toNat = 2 ^ 8 - 1 := by decide
  rw [e2, Nat.and_two_pow_sub_one_eq_mod, i64w (by omega) (by omega)]
  omega
theorem input_mod (t : Int) (l : List (List Int)) : Sha.input (t % 256) l = Sha.input t l := by
  unfold Sha.input; rw [u8mod, u8mod, Int.emod_emod_of_dvd _ (Int.dvd_refl _)]
theorem input_len12 (tag : Int) (l : List (List Int)) (hl : ∀ i, (l.getD i []).length ≤ 400) : ∀ i, i ≤ l.length → (Sha.input tag (l.take i)).length ≤ 1 + i * 409
  | 0, _ => by simp [Sha.input]
  | i + 1, h => by
    rw [input_take tag l i (by omega), List.length_append]
    have := input_len12 tag l hl i (by omega)
    have h2 := bytes_len (l.getD i [])
    have h3 := hl i
    omega
theorem input12 (tag : Int) {l : List (List Int)} (h : Sha.few12 l = true) : (Sha.input tag l).length ≤ 4909 := by
  obtain ⟨h1, _, h3⟩ := few12_ok h
  have := input_len12 tag l h3 l.length (Nat.le_refl _)
  rw [List.take_length] at this; omega
theorem few_of12 {l : List (List Int)} (h : Sha.few12 l = true) : Sha.few l = true := by
  obtain ⟨h1, h2, _⟩ := few12_ok h
  simp only [Sha.few, Bool.and_eq_true, decide_eq_true_eq, List.all_eq_true]
  exact ⟨by omega, fun s hs => by have := h2 s hs; omega⟩
theorem s7 (a0 : Int) (a1 : List (List Int)) (h0 : okV (.int .i64 a0)) (h1 : okV (.vs (.rS a1) 0 1)) : ∃ F, f7 F (a0, a1) = some ((.bool true), []) := by
  refine ⟨0, ?_⟩
  simp only [f7, f7_nt, and255]
  cases hf : Sha.few12 a1 with
  | false => rfl
  | true =>
    have hi := input12 a0 hf
    have : Sha.of (a0 % 256) a1 = Sha.of a0 a1 := by unfold Sha.of; rw [input_mod]
    rw [this, few_of12 hf]
    simp only [Bool.not_true, cond_false, cond_true, beq_rfl]
    rw [cond_pos (by omega)]

theorem c7 : CallOk Tryd.prog G03 7 r7 := callOk_of (V := VG037) mixed tys eVG037 (f := 7) (fn := Tryd.f7) Tryd.func7 (by kernel_rfl) (c := sub (bodyOf Tryd.f7) []) (by kernel_rfl) (by
  intro X H r H' h hX hH
  unfold r7 at h; split at h <;> try contradiction
  simp only [Option.some.injEq, Prod.mk.injEq] at h
  obtain ⟨hp, rfl, rfl⟩ := h
  obtain ⟨F, hF⟩ := s7 _ _ (hX _ (.head _)) (hX _ (.tail _ (.head _)))
  exact ⟨Af7 F, (f7_body F _ _).trans hF⟩)
/-! gantry/gantrylaw02.HashOfSeparates -/
def lVG028 : List CEnt := [(10, [], r10), (11, [some 5], r11), (13, [some 9], r13), (21, [none, some 9], r21), (23, [none, some 9], r23)]
def VG028 : Env := mkEnv T02 G02 lVG028
theorem eVG028 : EOk Tryd.prog VG028 := eok_mk (by exact ⟨c10, c11, c13, c21, c23, trivial⟩)
def Af8 (F : Nat) : Cuts := { F := F, at_ := fun n => match n with | 6010 => some [(1, .plain), (2, .plain), (3, .plain), (7, .plain), (8, .plain), (9, .plain)] | 19010 => some [(7, .plain), (10, .plain), (11, .plain), (12, .plain), (13, .plain), (14, .plain), (15, .plain), (16, .plain), (17, .plain)] | _ => none, join := fun n => match n with | 1067 => some [(1, .plain), (2, .plain), (3, .plain)] | 2065 => some [(1, .plain), (2, .plain), (3, .plain), (7, .plain)] | 4057 => some [(1, .plain), (2, .plain), (3, .plain), (7, .plain)] | 5055 => some [(1, .plain), (2, .plain), (3, .plain), (7, .plain), (8, .plain)] | 6012 => some [(1, .plain), (2, .plain), (3, .plain), (7, .plain), (8, .plain), (9, .plain)] | 9040 => some [(1, .plain), (2, .plain), (3, .plain), (7, .plain), (8, .plain)] | 10038 => some [(1, .plain), (2, .plain), (3, .plain), (7, .plain), (8, .plain), (10, .plain)] | 11036 => some [(1, .plain), (2, .plain), (3, .plain), (7, .plain), (8, .plain), (10, .plain), (11, .plain)] | 13028 => some [(1, .plain), (2, .plain), (3, .plain), (7, .plain), (10, .plain), (11, .plain)] | 14026 => some [(2, .plain), (3, .plain), (7, .plain), (10, .plain), (11, .plain), (12, .plain)] | 15024 => some [(7, .plain), (10, .plain), (11, .plain), (12, .plain), (13, .plain)] | 16022 => some [(7, .plain), (10, .plain), (11, .plain), (12, .plain), (13, .plain), (14, .plain)] | 17020 => some [(7, .plain), (10, .plain), (11, .plain), (12, .plain), (13, .plain), (14, .plain), (15, .plain)] | 18018 => some [(7, .plain), (10, .plain), (11, .plain), (12, .plain), (13, .plain), (14, .plain), (15, .plain), (16, .plain)] | 19012 => some [(7, .plain), (10, .plain), (11, .plain), (12, .plain), (13, .plain), (14, .plain), (15, .plain), (16, .plain), (17, .plain)] | 22003 => some [(7, .plain), (10, .plain), (11, .plain), (12, .plain), (13, .plain), (16, .plain)] | _ => none }
def ef8_a : (List Int) × (List (List Int)) × (List (List Int)) → St := fun (a0, a1, a2) => { tmps := [(0, (.agg 2 (.rI .u8 a0))), (1, (.vs (.rS a1) 0 1)), (2, (.vs (.rS a2) 0 1))], heap := [], next := 0, nt := 120, m := 0 }
def ef8_j1067 : (List (List Int)) × (List (List Int)) × (List Int) → St := fun (t1, t2, x3) => { tmps := [(1, (.vs (.rS t1) 0 1)), (2, (.vs (.rS t2) 0 1)), (3, (.ptr 0 0 2 0 0 0 2))], heap := [(0, (.cells 2 (.rI .u8 x3) true))], next := 1, nt := 120, m := 0 }
def ef8_j2065 : (List (List Int)) × (List (List Int)) × Bool × (List Int) → St := fun (t1, t2, t7, x4) => { tmps := [(1, (.vs (.rS t1) 0 1)), (2, (.vs (.rS t2) 0 1)), (3, (.ptr 0 0 2 0 0 0 2)), (7, (.bool t7))], heap := [(0, (.cells 2 (.rI .u8 x4) true))], next := 1, nt := 120, m := 0 }
def ef8_j4057 : (List (List Int)) × (List (List Int)) × Bool × (List Int) → St := fun (t1, t2, t7, x4) => { tmps := [(1, (.vs (.rS t1) 0 1)), (2, (.vs (.rS t2) 0 1)), (3, (.ptr 0 0 2 0 0 0 2)), (7, (.bool t7))], heap := [(0, (.cells 2 (.rI .u8 x4) true))], next := 1, nt := 120, m := 0 }
def ef8_j5055 : (List (List Int)) × (List (List Int)) × Bool × Bool × (List Int) → St := fun (t1, t2, t7, t8, x5) => { tmps := [(1, (.vs (.rS t1) 0 1)), (2, (.vs (.rS t2) 0 1)), (3, (.ptr 0 0 2 0 0 0 2)), (7, (.bool t7)), (8, (.bool t8))], heap := [(0, (.cells 2 (.rI .u8 x5) true))], next := 1, nt := 120, m := 0 }
def ef8_j6012 : (List (List Int)) × (List (List Int)) × Bool × Bool × Int × (List Int) → St := fun (t1, t2, t7, t8, t9, x6) => { tmps := [(1, (.vs (.rS t1) 0 1)), (2, (.vs (.rS t2) 0 1)), (3, (.ptr 0 0 2 0 0 0 2)), (7, (.bool t7)), (8, (.bool t8)), (9, (.int .i64 t9))], heap := [(0, (.cells 2 (.rI .u8 x6) true))], next := 1, nt := 120, m := 0 }
def ef8_l6010 : (List (List Int)) × (List (List Int)) × Bool × Bool × Int × (List Int) → St := fun (t1, t2, t7, t8, t9, x6) => { tmps := [(1, (.vs (.rS t1) 0 1)), (2, (.vs (.rS t2) 0 1)), (3, (.ptr 0 0 2 0 0 0 2)), (7, (.bool t7)), (8, (.bool t8)), (9, (.int .i64 t9))], heap := [(0, (.cells 2 (.rI .u8 x6) true))], next := 1, nt := 120, m := 0 }
def ef8_j9040 : (List (List Int)) × (List (List Int)) × Bool × Bool × (List Int) → St := fun (t1, t2, t7, t8, x5) => { tmps := [(1, (.vs (.rS t1) 0 1)), (2, (.vs (.rS t2) 0 1)), (3, (.ptr 0 0 2 0 0 0 2)), (7, (.bool t7)), (8, (.bool t8))], heap := [(0, (.cells 2 (.rI .u8 x5) true))], next := 1, nt := 120, m := 0 }
def ef8_j10038 : (List (List Int)) × (List (List Int)) × Bool × Bool × (List Int) × (List Int) → St := fun (t1, t2, t7, t8, x5, x6) => { tmps := [(1, (.vs (.rS t1) 0 1)), (2, (.vs (.rS t2) 0 1)), (3, (.ptr 0 0 2 0 0 0 2)), (7, (.bool t7)), (8, (.bool t8)), (10, (.own 1 0 1))], heap := [(0, (.cells 2 (.rI .u8 x5) true)), (1, (.cells x6.length (.rI .u8 x6) true))], next := 2, nt := 120, m := 0 }
def ef8_j11036 : (List (List Int)) × (List (List Int)) × Bool × Bool × (List Int) × (List Int) × (List Int) → St := fun (t1, t2, t7, t8, x5, x6, x7) => { tmps := [(1, (.vs (.rS t1) 0 1)), (2, (.vs (.rS t2) 0 1)), (3, (.ptr 0 0 2 0 0 0 2)), (7, (.bool t7)), (8, (.bool t8)), (10, (.own 1 0 1)), (11, (.own 2 0 1))], heap := [(0, (.cells 2 (.rI .u8 x5) true)), (1, (.cells x6.length (.rI .u8 x6) true)), (2, (.cells x7.length (.rI .u8 x7) true))], next := 3, nt := 120, m := 0 }
def ef8_j13028 : (List (List Int)) × (List (List Int)) × Bool × (List Int) × (List Int) × (List Int) → St := fun (t1, t2, t7, x4, x5, x6) => { tmps := [(1, (.vs (.rS t1) 0 1)), (2, (.vs (.rS t2) 0 1)), (3, (.ptr 0 0 2 0 0 0 2)), (7, (.bool t7)), (10, (.own 1 0 1)), (11, (.own 2 0 1))], heap := [(0, (.cells 2 (.rI .u8 x4) true)), (1, (.cells x5.length (.rI .u8 x5) true)), (2, (.cells x6.length (.rI .u8 x6) true))], next := 3, nt := 120, m := 0 }
def ef8_j14026 : (List (List Int)) × Bool × (List Int) × (List Int) × (List Int) × (List Int) → St := fun (t2, t7, x3, x4, x5, x6) => { tmps := [(2, (.vs (.rS t2) 0 1)), (3, (.ptr 0 0 2 0 0 0 2)), (7, (.bool t7)), (10, (.own 1 0 1)), (11, (.own 2 0 1)), (12, (.ptr 3 0 16 0 0 0 16))], heap := [(0, (.cells 2 (.rI .u8 x3) true)), (1, (.cells x4.length (.rI .u8 x4) true)), (2, (.cells x5.length (.rI .u8 x5) true)), (3, (.cells 16 (.rI .u8 x6) true))], next := 4, nt := 120, m := 0 }
def ef8_j15024 : Bool × (List Int) × (List Int) × (List Int) × (List Int) → St := fun (t7, x2, x3, x4, x5) => { tmps := [(7, (.bool t7)), (10, (.own 0 0 1)), (11, (.own 1 0 1)), (12, (.ptr 2 0 16 0 0 0 16)), (13, (.ptr 3 0 16 0 0 0 16))], heap := [(0, (.cells x2.length (.rI .u8 x2) true)), (1, (.cells x3.length (.rI .u8 x3) true)), (2, (.cells 16 (.rI .u8 x4) true)), (3, (.cells 16 (.rI .u8 x5) true))], next := 4, nt := 120, m := 0 }
def ef8_j16022 : Bool × (List Int) × (List Int) × (List Int) × (List Int) × (List Int) → St := fun (t7, x2, x3, x4, x5, x6) => { tmps := [(7, (.bool t7)), (10, (.own 0 0 1)), (11, (.own 1 0 1)), (12, (.ptr 2 0 16 0 0 0 16)), (13, (.ptr 3 0 16 0 0 0 16)), (14, (.ptr 4 0 32 0 0 0 32))], heap := [(0, (.cells x2.length (.rI .u8 x2) true)), (1, (.cells x3.length (.rI .u8 x3) true)), (2, (.cells 16 (.rI .u8 x4) true)), (3, (.cells 16 (.rI .u8 x5) true)), (4, (.cells 32 (.rI .u8 x6) true))], next := 5, nt := 120, m := 0 }
def ef8_j17020 : Bool × (List Int) × (List Int) × (List Int) × (List Int) × (List Int) × (List Int) → St := fun (t7, x2, x3, x4, x5, x6, x7) => { tmps := [(7, (.bool t7)), (10, (.own 0 0 1)), (11, (.own 1 0 1)), (12, (.ptr 2 0 16 0 0 0 16)), (13, (.ptr 3 0 16 0 0 0 16)), (14, (.ptr 4 0 32 0 0 0 32)), (15, (.ptr 5 0 32 0 0 0 32))], heap := [(0, (.cells x2.length (.rI .u8 x2) true)), (1, (.cells x3.length (.rI .u8 x3) true)), (2, (.cells 16 (.rI .u8 x4) true)), (3, (.cells 16 (.rI .u8 x5) true)), (4, (.cells 32 (.rI .u8 x6) true)), (5, (.cells 32 (.rI .u8 x7) true))], next := 6, nt := 120, m := 0 }
def ef8_j18018 : Bool × Bool × (List Int) × (List Int) × (List Int) × (List Int) × (List Int) × (List Int) → St := fun (t7, t16, x3, x4, x5, x6, x7, x8) => { tmps := [(7, (.bool t7)), (10, (.own 0 0 1)), (11, (.own 1 0 1)), (12, (.ptr 2 0 16 0 0 0 16)), (13, (.ptr 3 0 16 0 0 0 16)), (14, (.ptr 4 0 32 0 0 0 32)), (15, (.ptr 5 0 32 0 0 0 32)), (16, (.bool t16))], heap := [(0, (.cells x3.length (.rI .u8 x3) true)), (1, (.cells x4.length (.rI .u8 x4) true)), (2, (.cells 16 (.rI .u8 x5) true)), (3, (.cells 16 (.rI .u8 x6) true)), (4, (.cells 32 (.rI .u8 x7) true)), (5, (.cells 32 (.rI .u8 x8) true))], next := 6, nt := 120, m := 0 }
def ef8_j19012 : Bool × Bool × Int × (List Int) × (List Int) × (List Int) × (List Int) × (List Int) × (List Int) → St := fun (t7, t16, t17, x4, x5, x6, x7, x8, x9) => { tmps := [(7, (.bool t7)), (10, (.own 0 0 1)), (11, (.own 1 0 1)), (12, (.ptr 2 0 16 0 0 0 16)), (13, (.ptr 3 0 16 0 0 0 16)), (14, (.ptr 4 0 32 0 0 0 32)), (15, (.ptr 5 0 32 0 0 0 32)), (16, (.bool t16)), (17, (.int .i64 t17))], heap := [(0, (.cells x4.length (.rI .u8 x4) true)), (1, (.cells x5.length (.rI .u8 x5) true)), (2, (.cells 16 (.rI .u8 x6) true)), (3, (.cells 16 (.rI .u8 x7) true)), (4, (.cells 32 (.rI .u8 x8) true)), (5, (.cells 32 (.rI .u8 x9) true))], next := 6, nt := 120, m := 0 }
def ef8_l19010 : Bool × Bool × Int × (List Int) × (List Int) × (List Int) × (List Int) × (List Int) × (List Int) → St := fun (t7, t16, t17, x4, x5, x6, x7, x8, x9) => { tmps := [(7, (.bool t7)), (10, (.own 0 0 1)), (11, (.own 1 0 1)), (12, (.ptr 2 0 16 0 0 0 16)), (13, (.ptr 3 0 16 0 0 0 16)), (14, (.ptr 4 0 32 0 0 0 32)), (15, (.ptr 5 0 32 0 0 0 32)), (16, (.bool t16)), (17, (.int .i64 t17))], heap := [(0, (.cells x4.length (.rI .u8 x4) true)), (1, (.cells x5.length (.rI .u8 x5) true)), (2, (.cells 16 (.rI .u8 x6) true)), (3, (.cells 16 (.rI .u8 x7) true)), (4, (.cells 32 (.rI .u8 x8) true)), (5, (.cells 32 (.rI .u8 x9) true))], next := 6, nt := 120, m := 0 }
def ef8_j22003 : Bool × Bool × (List Int) × (List Int) × (List Int) × (List Int) → St := fun (t7, t16, x3, x4, x5, x6) => { tmps := [(7, (.bool t7)), (10, (.own 0 0 1)), (11, (.own 1 0 1)), (12, (.ptr 2 0 16 0 0 0 16)), (13, (.ptr 3 0 16 0 0 0 16)), (16, (.bool t16))], heap := [(0, (.cells x3.length (.rI .u8 x3) true)), (1, (.cells x4.length (.rI .u8 x4) true)), (2, (.cells 16 (.rI .u8 x5) true)), (3, (.cells 16 (.rI .u8 x6) true))], next := 4, nt := 120, m := 0 }
def f8_n0 (F : Nat) (kf8_j1067 : (List (List Int)) × (List (List Int)) × (List Int) → Option (AV × List Blk)) : (List Int) × (List (List Int)) × (List (List Int)) → Option (AV × List Blk) := fun (a0, a1, a2) => (kf8_j1067 (a1, a2, a0))
theorem f8_n0_eq (F : Nat) (Rf8_j1067 : St → Option (AV × List Blk)) : ∀ v, aexec VG028 (Af8 F) (sub (bodyOf Tryd.f8) [0]) (ef8_a v) (kSeq (fun s => Rf8_j1067 (cutTo VG028 (some [(1, .plain), (2, .plain), (3, .plain)]) s)) (kFin VG028 0 (Tryd.f8).results.toList)) = f8_n0 F (fun w => Rf8_j1067 (ef8_j1067 w)) v := by
  rintro ⟨a0, a1, a2⟩; kernel_rfl
def f8_n10 (F : Nat) (kf8_j2065 : (List (List Int)) × (List (List Int)) × Bool × (List Int) → Option (AV × List Blk)) : (List (List Int)) × (List (List Int)) × (List Int) → Option (AV × List Blk) := fun (t1, t2, x3) => (kf8_j2065 (t1, t2, true, x3))
theorem f8_n10_eq (F : Nat) (Rf8_j2065 : St → Option (AV × List Blk)) : ∀ v, aexec VG028 (Af8 F) (sub (bodyOf Tryd.f8) [1, 0]) (ef8_j1067 v) (kSeq (fun s => Rf8_j2065 (cutTo VG028 (some [(1, .plain), (2, .plain), (3, .plain), (7, .plain)]) s)) (kFin VG028 0 (Tryd.f8).results.toList)) = f8_n10 F (fun w => Rf8_j2065 (ef8_j2065 w)) v := by
  rintro ⟨t1, t2, x3⟩; kernel_rfl
def f8_n110 (F : Nat) (kf8_j4057 : (List (List Int)) × (List (List Int)) × Bool × (List Int) → Option (AV × List Blk)) : (List (List Int)) × (List (List Int)) × Bool × (List Int) → Option (AV × List Blk) := fun (t1, t2, t7, x4) => (cond (!(Sha.few12 t1)) (some ((.bool t7), [])) (cond (!(Sha.few12 t2)) (some ((.bool t7), [])) (kf8_j4057 (t1, t2, t7, x4))))
theorem f8_n110_eq (F : Nat) (Rf8_j4057 : St → Option (AV × List Blk)) : ∀ v, aexec VG028 (Af8 F) (sub (bodyOf Tryd.f8) [1, 1, 0]) (ef8_j2065 v) (kSeq (fun s => Rf8_j4057 (cutTo VG028 (some [(1, .plain), (2, .plain), (3, .plain), (7, .plain)]) s)) (kFin VG028 0 (Tryd.f8).results.toList)) = f8_n110 F (fun w => Rf8_j4057 (ef8_j4057 w)) v := by
  rintro ⟨t1, t2, t7, x4⟩; kernel_rfl
def f8_n1110 (F : Nat) (kf8_j5055 : (List (List Int)) × (List (List Int)) × Bool × Bool × (List Int) → Option (AV × List Blk)) : (List (List Int)) × (List (List Int)) × Bool × (List Int) → Option (AV × List Blk) := fun (t1, t2, t7, x4) => (cond ((x4.getD 0 0) == (x4.getD 1 0)) (kf8_j5055 (t1, t2, t7, ((↑t1.length : Int) == (↑t2.length : Int)), x4)) (kf8_j5055 (t1, t2, t7, false, x4)))
theorem f8_n1110_eq (F : Nat) (Rf8_j5055 : St → Option (AV × List Blk)) : ∀ v, aexec VG028 (Af8 F) (sub (bodyOf Tryd.f8) [1, 1, 1, 0]) (ef8_j4057 v) (kSeq (fun s => Rf8_j5055 (cutTo VG028 (some [(1, .plain), (2, .plain), (3, .plain), (7, .plain), (8, .plain)]) s)) (kFin VG028 0 (Tryd.f8).results.toList)) = f8_n1110 F (fun w => Rf8_j5055 (ef8_j5055 w)) v := by
  rintro ⟨t1, t2, t7, x4⟩; kernel_rfl
def f8_n111100 (F : Nat) (kf8_j6012 : (List (List Int)) × (List (List Int)) × Bool × Bool × Int × (List Int) → Option (AV × List Blk)) (kf8_j9040 : (List (List Int)) × (List (List Int)) × Bool × Bool × (List Int) → Option (AV × List Blk)) : (List (List Int)) × (List (List Int)) × Bool × Bool × (List Int) → Option (AV × List Blk) := fun (t1, t2, t7, t8, x5) => (kf8_j6012 (t1, t2, t7, t8, (0 : Int), x5))
theorem f8_n111100_eq (F : Nat) (Rf8_j6012 : St → Option (AV × List Blk)) (Rf8_j9040 : St → Option (AV × List Blk)) : ∀ v, aexec VG028 (Af8 F) (sub (bodyOf Tryd.f8) [1, 1, 1, 1, 0, 0]) (ef8_j5055 v) (kSeq (fun s => Rf8_j6012 (cutTo VG028 (some [(1, .plain), (2, .plain), (3, .plain), (7, .plain), (8, .plain), (9, .plain)]) s)) (kSeq (fun s => Rf8_j9040 (cutTo VG028 (some [(1, .plain), (2, .plain), (3, .plain), (7, .plain), (8, .plain)]) s)) (kFin VG028 0 (Tryd.f8).results.toList))) = f8_n111100 F (fun w => Rf8_j6012 (ef8_j6012 w)) (fun w => Rf8_j9040 (ef8_j9040 w)) v := by
  rintro ⟨t1, t2, t7, t8, x5⟩; kernel_rfl
def f8_n11110100 (F : Nat) (kf8_l6010 : (List (List Int)) × (List (List Int)) × Bool × Bool × Int × (List Int) → Option (AV × List Blk)) (kf8_j9040 : (List (List Int)) × (List (List Int)) × Bool × Bool × (List Int) → Option (AV × List Blk)) : (List (List Int)) × (List (List Int)) × Bool × Bool × Int × (List Int) → Option (AV × List Blk) := fun (t1, t2, t7, t8, t9, x6) => (cond (decide (t9 < (↑t1.length : Int))) (cond t8 (cond ((decide (0 ≤ t9)) && (decide (t9 < (↑t1.length : Int)))) (cond ((decide (0 ≤ t9)) && (decide (t9 < (↑t2.length : Int)))) (kf8_l6010 (t1, t2, t7, (((t1.getD (Int.toNat t9) []) : List Int) == ((t2.getD (Int.toNat t9) []) : List Int)), (IntKind.i64.wrap (t9 + (1 : Int))), x6)) none) none) (kf8_j9040 (t1, t2, t7, t8, x6))) (kf8_j9040 (t1, t2, t7, t8, x6)))
theorem f8_n11110100_eq (F : Nat) (Rf8_l6010 : St → Option (AV × List Blk)) (Rf8_j9040 : St → Option (AV × List Blk)) : ∀ v, aexec VG028 (Af8 F) (sub (bodyOf Tryd.f8) [1, 1, 1, 1, 0, 1, 0, 0]) (ef8_l6010 v) (kSeq (fun s => Rf8_l6010 (cutTo VG028 (some [(1, .plain), (2, .plain), (3, .plain), (7, .plain), (8, .plain), (9, .plain)]) s)) (kBlock 0 (kSeq (fun s => Rf8_j9040 (cutTo VG028 (some [(1, .plain), (2, .plain), (3, .plain), (7, .plain), (8, .plain)]) s)) (kFin VG028 0 (Tryd.f8).results.toList)))) = f8_n11110100 F (fun w => Rf8_l6010 (ef8_l6010 w)) (fun w => Rf8_j9040 (ef8_j9040 w)) v := by
  rintro ⟨t1, t2, t7, t8, t9, x6⟩; kernel_rfl
def f8_n1111010_i : (List (List Int)) × (List (List Int)) × Bool × Bool × Int × (List Int) → (List (List Int)) × (List (List Int)) × Bool × Bool × Int × (List Int) := fun (t1, t2, t7, t8, t9, x6) => (t1, t2, t7, t8, t9, x6)
def f8_n1111010 (F : Nat) (kf8_j9040 : (List (List Int)) × (List (List Int)) × Bool × Bool × (List Int) → Option (AV × List Blk)) : (List (List Int)) × (List (List Int)) × Bool × Bool × Int × (List Int) → Option (AV × List Blk) := fun v => loopN (fun k => f8_n11110100 F k kf8_j9040) F (f8_n1111010_i v)
theorem f8_n1111010_eq (F : Nat) (Rf8_j9040 : St → Option (AV × List Blk)) : ∀ v, aexec VG028 (Af8 F) (sub (bodyOf Tryd.f8) [1, 1, 1, 1, 0, 1, 0]) (ef8_j6012 v) (kBlock 0 (kSeq (fun s => Rf8_j9040 (cutTo VG028 (some [(1, .plain), (2, .plain), (3, .plain), (7, .plain), (8, .plain)]) s)) (kFin VG028 0 (Tryd.f8).results.toList))) = f8_n1111010 F (fun w => Rf8_j9040 (ef8_j9040 w)) v :=
  loop_cut (c := (sub (bodyOf Tryd.f8) [1, 1, 1, 1, 0, 1, 0])) (d := (sub (bodyOf Tryd.f8) [1, 1, 1, 1, 0, 1, 0, 0])) (by kernel_rfl) (spec := [(1, .plain), (2, .plain), (3, .plain), (7, .plain), (8, .plain), (9, .plain)]) (by kernel_rfl) ef8_j6012 ef8_l6010 (kBlock 0 (kSeq (fun s => Rf8_j9040 (cutTo VG028 (some [(1, .plain), (2, .plain), (3, .plain), (7, .plain), (8, .plain)]) s)) (kFin VG028 0 (Tryd.f8).results.toList))) f8_n1111010_i (fun k => f8_n11110100 F k (fun w => Rf8_j9040 (ef8_j9040 w)))
    (by rintro ⟨t1, t2, t7, t8, t9, x6⟩; kernel_rfl) (fun Rf8_l6010 => f8_n11110100_eq F Rf8_l6010 Rf8_j9040)
def f8_n111101 (F : Nat) (kf8_j9040 : (List (List Int)) × (List (List Int)) × Bool × Bool × (List Int) → Option (AV × List Blk)) : (List (List Int)) × (List (List Int)) × Bool × Bool × Int × (List Int) → Option (AV × List Blk) := f8_n1111010 F kf8_j9040
theorem f8_n111101_eq (F : Nat) (Rf8_j9040 : St → Option (AV × List Blk)) : ∀ v, aexec VG028 (Af8 F) (sub (bodyOf Tryd.f8) [1, 1, 1, 1, 0, 1]) (ef8_j6012 v) (kSeq (fun s => Rf8_j9040 (cutTo VG028 (some [(1, .plain), (2, .plain), (3, .plain), (7, .plain), (8, .plain)]) s)) (kFin VG028 0 (Tryd.f8).results.toList)) = f8_n111101 F (fun w => Rf8_j9040 (ef8_j9040 w)) v := fun v =>
  (block_in (c := (sub (bodyOf Tryd.f8) [1, 1, 1, 1, 0, 1])) (d := (sub (bodyOf Tryd.f8) [1, 1, 1, 1, 0, 1, 0])) (id := 0) (by kernel_rfl) _ _).trans (f8_n1111010_eq F Rf8_j9040 v)
def f8_n11110 (F : Nat) (kf8_j9040 : (List (List Int)) × (List (List Int)) × Bool × Bool × (List Int) → Option (AV × List Blk)) : (List (List Int)) × (List (List Int)) × Bool × Bool × (List Int) → Option (AV × List Blk) := fun v => f8_n111100 F (f8_n111101 F kf8_j9040) kf8_j9040 v
theorem f8_n11110_eq (F : Nat) (Rf8_j9040 : St → Option (AV × List Blk)) : ∀ v, aexec VG028 (Af8 F) (sub (bodyOf Tryd.f8) [1, 1, 1, 1, 0]) (ef8_j5055 v) (kSeq (fun s => Rf8_j9040 (cutTo VG028 (some [(1, .plain), (2, .plain), (3, .plain), (7, .plain), (8, .plain)]) s)) (kFin VG028 0 (Tryd.f8).results.toList)) = f8_n11110 F (fun w => Rf8_j9040 (ef8_j9040 w)) v :=
  seq_cut (c := (sub (bodyOf Tryd.f8) [1, 1, 1, 1, 0])) (a := (sub (bodyOf Tryd.f8) [1, 1, 1, 1, 0, 0])) (b := (sub (bodyOf Tryd.f8) [1, 1, 1, 1, 0, 1])) (by kernel_rfl) (spec := [(1, .plain), (2, .plain), (3, .plain), (7, .plain), (8, .plain), (9, .plain)]) (by kernel_rfl) ef8_j5055 ef8_j6012 (kSeq (fun s => Rf8_j9040 (cutTo VG028 (some [(1, .plain), (2, .plain), (3, .plain), (7, .plain), (8, .plain)]) s)) (kFin VG028 0 (Tryd.f8).results.toList)) (fun k => f8_n111100 F k (fun w => Rf8_j9040 (ef8_j9040 w))) (f8_n111101 F (fun w => Rf8_j9040 (ef8_j9040 w)))
    (fun Rf8_j6012 => f8_n111100_eq F Rf8_j6012 Rf8_j9040) (f8_n111101_eq F Rf8_j9040)
def f8_n111110 (F : Nat) (kf8_j10038 : (List (List Int)) × (List (List Int)) × Bool × Bool × (List Int) × (List Int) → Option (AV × List Blk)) : (List (List Int)) × (List (List Int)) × Bool × Bool × (List Int) → Option (AV × List Blk) := fun (t1, t2, t7, t8, x5) => (cond (decide ((Sha.input (IntKind.i64.wrap (x5.getD 0 0)) t1).length < 1073741000)) (kf8_j10038 (t1, t2, t7, t8, x5, (Sha.input (IntKind.i64.wrap (x5.getD 0 0)) t1))) none)
theorem f8_n111110_eq (F : Nat) (Rf8_j10038 : St → Option (AV × List Blk)) : ∀ v, aexec VG028 (Af8 F) (sub (bodyOf Tryd.f8) [1, 1, 1, 1, 1, 0]) (ef8_j9040 v) (kSeq (fun s => Rf8_j10038 (cutTo VG028 (some [(1, .plain), (2, .plain), (3, .plain), (7, .plain), (8, .plain), (10, .plain)]) s)) (kFin VG028 0 (Tryd.f8).results.toList)) = f8_n111110 F (fun w => Rf8_j10038 (ef8_j10038 w)) v := by
  rintro ⟨t1, t2, t7, t8, x5⟩; kernel_rfl
def f8_n1111110 (F : Nat) (kf8_j11036 : (List (List Int)) × (List (List Int)) × Bool × Bool × (List Int) × (List Int) × (List Int) → Option (AV × List Blk)) : (List (List Int)) × (List (List Int)) × Bool × Bool × (List Int) × (List Int) → Option (AV × List Blk) := fun (t1, t2, t7, t8, x5, x6) => (cond (decide ((Sha.input (IntKind.i64.wrap (x5.getD 1 0)) t2).length < 1073741000)) (kf8_j11036 (t1, t2, t7, t8, x5, x6, (Sha.input (IntKind.i64.wrap (x5.getD 1 0)) t2))) none)
theorem f8_n1111110_eq (F : Nat) (Rf8_j11036 : St → Option (AV × List Blk)) : ∀ v, aexec VG028 (Af8 F) (sub (bodyOf Tryd.f8) [1, 1, 1, 1, 1, 1, 0]) (ef8_j10038 v) (kSeq (fun s => Rf8_j11036 (cutTo VG028 (some [(1, .plain), (2, .plain), (3, .plain), (7, .plain), (8, .plain), (10, .plain), (11, .plain)]) s)) (kFin VG028 0 (Tryd.f8).results.toList)) = f8_n1111110 F (fun w => Rf8_j11036 (ef8_j11036 w)) v := by
  rintro ⟨t1, t2, t7, t8, x5, x6⟩; kernel_rfl
def f8_n11111110 (F : Nat) (kf8_j13028 : (List (List Int)) × (List (List Int)) × Bool × (List Int) × (List Int) × (List Int) → Option (AV × List Blk)) : (List (List Int)) × (List (List Int)) × Bool × Bool × (List Int) × (List Int) × (List Int) → Option (AV × List Blk) := fun (t1, t2, t7, t8, x5, x6, x7) => (cond t8 (cond t7 (some ((.bool ((x6 : List Int) == (x7 : List Int))), [])) (some ((.bool false), []))) (kf8_j13028 (t1, t2, t7, x5, x6, x7)))
theorem f8_n11111110_eq (F : Nat) (Rf8_j13028 : St → Option (AV × List Blk)) : ∀ v, aexec VG028 (Af8 F) (sub (bodyOf Tryd.f8) [1, 1, 1, 1, 1, 1, 1, 0]) (ef8_j11036 v) (kSeq (fun s => Rf8_j13028 (cutTo VG028 (some [(1, .plain), (2, .plain), (3, .plain), (7, .plain), (10, .plain), (11, .plain)]) s)) (kFin VG028 0 (Tryd.f8).results.toList)) = f8_n11111110 F (fun w => Rf8_j13028 (ef8_j13028 w)) v := by
  rintro ⟨t1, t2, t7, t8, x5, x6, x7⟩; kernel_rfl
def f8_n111111110 (F : Nat) (kf8_j14026 : (List (List Int)) × Bool × (List Int) × (List Int) × (List Int) × (List Int) → Option (AV × List Blk)) : (List (List Int)) × (List (List Int)) × Bool × (List Int) × (List Int) × (List Int) → Option (AV × List Blk) := fun (t1, t2, t7, x4, x5, x6) => (cond (Sha.few t1) (kf8_j14026 (t2, t7, x4, x5, x6, (Sha.of (IntKind.i64.wrap (x4.getD 0 0)) t1))) none)
theorem f8_n111111110_eq (F : Nat) (Rf8_j14026 : St → Option (AV × List Blk)) : ∀ v, aexec VG028 (Af8 F) (sub (bodyOf Tryd.f8) [1, 1, 1, 1, 1, 1, 1, 1, 0]) (ef8_j13028 v) (kSeq (fun s => Rf8_j14026 (cutTo VG028 (some [(2, .plain), (3, .plain), (7, .plain), (10, .plain), (11, .plain), (12, .plain)]) s)) (kFin VG028 0 (Tryd.f8).results.toList)) = f8_n111111110 F (fun w => Rf8_j14026 (ef8_j14026 w)) v := by
  rintro ⟨t1, t2, t7, x4, x5, x6⟩; kernel_rfl
def f8_n1111111110 (F : Nat) (kf8_j15024 : Bool × (List Int) × (List Int) × (List Int) × (List Int) → Option (AV × List Blk)) : (List (List Int)) × Bool × (List Int) × (List Int) × (List Int) × (List Int) → Option (AV × List Blk) := fun (t2, t7, x3, x4, x5, x6) => (cond (Sha.few t2) (kf8_j15024 (t7, x4, x5, x6, (Sha.of (IntKind.i64.wrap (x3.getD 1 0)) t2))) none)
theorem f8_n1111111110_eq (F : Nat) (Rf8_j15024 : St → Option (AV × List Blk)) : ∀ v, aexec VG028 (Af8 F) (sub (bodyOf Tryd.f8) [1, 1, 1, 1, 1, 1, 1, 1, 1, 0]) (ef8_j14026 v) (kSeq (fun s => Rf8_j15024 (cutTo VG028 (some [(7, .plain), (10, .plain), (11, .plain), (12, .plain), (13, .plain)]) s)) (kFin VG028 0 (Tryd.f8).results.toList)) = f8_n1111111110 F (fun w => Rf8_j15024 (ef8_j15024 w)) v := by
  rintro ⟨t2, t7, x3, x4, x5, x6⟩; kernel_rfl
def f8_n11111111110 (F : Nat) (kf8_j16022 : Bool × (List Int) × (List Int) × (List Int) × (List Int) × (List Int) → Option (AV × List Blk)) : Bool × (List Int) × (List Int) × (List Int) × (List Int) → Option (AV × List Blk) := fun (t7, x2, x3, x4, x5) => (kf8_j16022 (t7, x2, x3, x4, x5, (Sha.hash x2)))
theorem f8_n11111111110_eq (F : Nat) (Rf8_j16022 : St → Option (AV × List Blk)) : ∀ v, aexec VG028 (Af8 F) (sub (bodyOf Tryd.f8) [1, 1, 1, 1, 1, 1, 1, 1, 1, 1, 0]) (ef8_j15024 v) (kSeq (fun s => Rf8_j16022 (cutTo VG028 (some [(7, .plain), (10, .plain), (11, .plain), (12, .plain), (13, .plain), (14, .plain)]) s)) (kFin VG028 0 (Tryd.f8).results.toList)) = f8_n11111111110 F (fun w => Rf8_j16022 (ef8_j16022 w)) v := by
  rintro ⟨t7, x2, x3, x4, x5⟩; kernel_rfl
def f8_n111111111110 (F : Nat) (kf8_j17020 : Bool × (List Int) × (List Int) × (List Int) × (List Int) × (List Int) × (List Int) → Option (AV × List Blk)) : Bool × (List Int) × (List Int) × (List Int) × (List Int) × (List Int) → Option (AV × List Blk) := fun (t7, x2, x3, x4, x5, x6) => (kf8_j17020 (t7, x2, x3, x4, x5, x6, (Sha.hash x3)))
theorem f8_n111111111110_eq (F : Nat) (Rf8_j17020 : St → Option (AV × List Blk)) : ∀ v, aexec VG028 (Af8 F) (sub (bodyOf Tryd.f8) [1, 1, 1, 1, 1, 1, 1, 1, 1, 1, 1, 0]) (ef8_j16022 v) (kSeq (fun s => Rf8_j17020 (cutTo VG028 (some [(7, .plain), (10, .plain), (11, .plain), (12, .plain), (13, .plain), (14, .plain), (15, .plain)]) s)) (kFin VG028 0 (Tryd.f8).results.toList)) = f8_n111111111110 F (fun w => Rf8_j17020 (ef8_j17020 w)) v := by
  rintro ⟨t7, x2, x3, x4, x5, x6⟩; kernel_rfl
def f8_n1111111111110 (F : Nat) (kf8_j18018 : Bool × Bool × (List Int) × (List Int) × (List Int) × (List Int) × (List Int) × (List Int) → Option (AV × List Blk)) : Bool × (List Int) × (List Int) × (List Int) × (List Int) × (List Int) × (List Int) → Option (AV × List Blk) := fun (t7, x2, x3, x4, x5, x6, x7) => (kf8_j18018 (t7, true, x2, x3, x4, x5, x6, x7))
theorem f8_n1111111111110_eq (F : Nat) (Rf8_j18018 : St → Option (AV × List Blk)) : ∀ v, aexec VG028 (Af8 F) (sub (bodyOf Tryd.f8) [1, 1, 1, 1, 1, 1, 1, 1, 1, 1, 1, 1, 0]) (ef8_j17020 v) (kSeq (fun s => Rf8_j18018 (cutTo VG028 (some [(7, .plain), (10, .plain), (11, .plain), (12, .plain), (13, .plain), (14, .plain), (15, .plain), (16, .plain)]) s)) (kFin VG028 0 (Tryd.f8).results.toList)) = f8_n1111111111110 F (fun w => Rf8_j18018 (ef8_j18018 w)) v := by
  rintro ⟨t7, x2, x3, x4, x5, x6, x7⟩; kernel_rfl
def f8_n111111111111100 (F : Nat) (kf8_j19012 : Bool × Bool × Int × (List Int) × (List Int) × (List Int) × (List Int) × (List Int) × (List Int) → Option (AV × List Blk)) (kf8_j22003 : Bool × Bool × (List Int) × (List Int) × (List Int) × (List Int) → Option (AV × List Blk)) : Bool × Bool × (List Int) × (List Int) × (List Int) × (List Int) × (List Int) × (List Int) → Option (AV × List Blk) := fun (t7, t16, x3, x4, x5, x6, x7, x8) => (kf8_j19012 (t7, t16, (0 : Int), x3, x4, x5, x6, x7, x8))
theorem f8_n111111111111100_eq (F : Nat) (Rf8_j19012 : St → Option (AV × List Blk)) (Rf8_j22003 : St → Option (AV × List Blk)) : ∀ v, aexec VG028 (Af8 F) (sub (bodyOf Tryd.f8) [1, 1, 1, 1, 1, 1, 1, 1, 1, 1, 1, 1, 1, 0, 0]) (ef8_j18018 v) (kSeq (fun s => Rf8_j19012 (cutTo VG028 (some [(7, .plain), (10, .plain), (11, .plain), (12, .plain), (13, .plain), (14, .plain), (15, .plain), (16, .plain), (17, .plain)]) s)) (kSeq (fun s => Rf8_j22003 (cutTo VG028 (some [(7, .plain), (10, .plain), (11, .plain), (12, .plain), (13, .plain), (16, .plain)]) s)) (kFin VG028 0 (Tryd.f8).results.toList))) = f8_n111111111111100 F (fun w => Rf8_j19012 (ef8_j19012 w)) (fun w => Rf8_j22003 (ef8_j22003 w)) v := by
  rintro ⟨t7, t16, x3, x4, x5, x6, x7, x8⟩; kernel_rfl
def f8_n11111111111110100 (F : Nat) (kf8_l19010 : Bool × Bool × Int × (List Int) × (List Int) × (List Int) × (List Int) × (List Int) × (List Int) → Option (AV × List Blk)) (kf8_j22003 : Bool × Bool × (List Int) × (List Int) × (List Int) × (List Int) → Option (AV × List Blk)) : Bool × Bool × Int × (List Int) × (List Int) × (List Int) × (List Int) × (List Int) × (List Int) → Option (AV × List Blk) := fun (t7, t16, t17, x4, x5, x6, x7, x8, x9) => (cond (decide (t17 < (16 : Int))) (cond t16 (cond ((decide (0 ≤ t17)) && (decide (t17 < (32 : Int)))) (cond ((decide (0 ≤ t17)) && (decide (t17 < (32 : Int)))) (kf8_l19010 (t7, ((x8.getD (Int.toNat t17) 0) == (x9.getD (Int.toNat t17) 0)), (IntKind.i64.wrap (t17 + (1 : Int))), x4, x5, x6, x7, x8, x9)) none) none) (kf8_l19010 (t7, false, (IntKind.i64.wrap (t17 + (1 : Int))), x4, x5, x6, x7, x8, x9))) (kf8_j22003 (t7, t16, x4, x5, x6, x7)))
theorem f8_n11111111111110100_eq (F : Nat) (Rf8_l19010 : St → Option (AV × List Blk)) (Rf8_j22003 : St → Option (AV × List Blk)) : ∀ v, aexec VG028 (Af8 F) (sub (bodyOf Tryd.f8) [1, 1, 1, 1, 1, 1, 1, 1, 1, 1, 1, 1, 1, 0, 1, 0, 0]) (ef8_l19010 v) (kSeq (fun s => Rf8_l19010 (cutTo VG028 (some [(7, .plain), (10, .plain), (11, .plain), (12, .plain), (13, .plain), (14, .plain), (15, .plain), (16, .plain), (17, .plain)]) s)) (kBlock 2 (kSeq (fun s => Rf8_j22003 (cutTo VG028 (some [(7, .plain), (10, .plain), (11, .plain), (12, .plain), (13, .plain), (16, .plain)]) s)) (kFin VG028 0 (Tryd.f8).results.toList)))) = f8_n11111111111110100 F (fun w => Rf8_l19010 (ef8_l19010 w)) (fun w => Rf8_j22003 (ef8_j22003 w)) v := by
  rintro ⟨t7, t16, t17, x4, x5, x6, x7, x8, x9⟩; kernel_rfl
def f8_n1111111111111010_i : Bool × Bool × Int × (List Int) × (List Int) × (List Int) × (List Int) × (List Int) × (List Int) → Bool × Bool × Int × (List Int) × (List Int) × (List Int) × (List Int) × (List Int) × (List Int) := fun (t7, t16, t17, x4, x5, x6, x7, x8, x9) => (t7, t16, t17, x4, x5, x6, x7, x8, x9)
def f8_n1111111111111010 (F : Nat) (kf8_j22003 : Bool × Bool × (List Int) × (List Int) × (List Int) × (List Int) → Option (AV × List Blk)) : Bool × Bool × Int × (List Int) × (List Int) × (List Int) × (List Int) × (List Int) × (List Int) → Option (AV × List Blk) := fun v => loopN (fun k => f8_n11111111111110100 F k kf8_j22003) F (f8_n1111111111111010_i v)
theorem f8_n1111111111111010_eq (F : Nat) (Rf8_j22003 : St → Option (AV × List Blk)) : ∀ v, aexec VG028 (Af8 F) (sub (bodyOf Tryd.f8) [1, 1, 1, 1, 1, 1, 1, 1, 1, 1, 1, 1, 1, 0, 1, 0]) (ef8_j19012 v) (kBlock 2 (kSeq (fun s => Rf8_j22003 (cutTo VG028 (some [(7, .plain), (10, .plain), (11, .plain), (12, .plain), (13, .plain), (16, .plain)]) s)) (kFin VG028 0 (Tryd.f8).results.toList))) = f8_n1111111111111010 F (fun w => Rf8_j22003 (ef8_j22003 w)) v :=
  loop_cut (c := (sub (bodyOf Tryd.f8) [1, 1, 1, 1, 1, 1, 1, 1, 1, 1, 1, 1, 1, 0, 1, 0])) (d := (sub (bodyOf Tryd.f8) [1, 1, 1, 1, 1, 1, 1, 1, 1, 1, 1, 1, 1, 0, 1, 0, 0])) (by kernel_rfl) (spec := [(7, .plain), (10, .plain), (11, .plain), (12, .plain), (13, .plain), (14, .plain), (15, .plain), (16, .plain), (17, .plain)]) (by kernel_rfl) ef8_j19012 ef8_l19010 (kBlock 2 (kSeq (fun s => Rf8_j22003 (cutTo VG028 (some [(7, .plain), (10, .plain), (11, .plain), (12, .plain), (13, .plain), (16, .plain)]) s)) (kFin VG028 0 (Tryd.f8).results.toList))) f8_n1111111111111010_i (fun k => f8_n11111111111110100 F k (fun w => Rf8_j22003 (ef8_j22003 w)))
    (by rintro ⟨t7, t16, t17, x4, x5, x6, x7, x8, x9⟩; kernel_rfl) (fun Rf8_l19010 => f8_n11111111111110100_eq F Rf8_l19010 Rf8_j22003)
def f8_n111111111111101 (F : Nat) (kf8_j22003 : Bool × Bool × (List Int) × (List Int) × (List Int) × (List Int) → Option (AV × List Blk)) : Bool × Bool × Int × (List Int) × (List Int) × (List Int) × (List Int) × (List Int) × (List Int) → Option (AV × List Blk) := f8_n1111111111111010 F kf8_j22003
theorem f8_n111111111111101_eq (F : Nat) (Rf8_j22003 : St → Option (AV × List Blk)) : ∀ v, aexec VG028 (Af8 F) (sub (bodyOf Tryd.f8) [1, 1, 1, 1, 1, 1, 1, 1, 1, 1, 1, 1, 1, 0, 1]) (ef8_j19012 v) (kSeq (fun s => Rf8_j22003 (cutTo VG028 (some [(7, .plain), (10, .plain), (11, .plain), (12, .plain), (13, .plain), (16, .plain)]) s)) (kFin VG028 0 (Tryd.f8).results.toList)) = f8_n111111111111101 F (fun w => Rf8_j22003 (ef8_j22003 w)) v := fun v =>
  (block_in (c := (sub (bodyOf Tryd.f8) [1, 1, 1, 1, 1, 1, 1, 1, 1, 1, 1, 1, 1, 0, 1])) (d := (sub (bodyOf Tryd.f8) [1, 1, 1, 1, 1, 1, 1, 1, 1, 1, 1, 1, 1, 0, 1, 0])) (id := 2) (by kernel_rfl) _ _).trans (f8_n1111111111111010_eq F Rf8_j22003 v)
def f8_n11111111111110 (F : Nat) (kf8_j22003 : Bool × Bool × (List Int) × (List Int) × (List Int) × (List Int) → Option (AV × List Blk)) : Bool × Bool × (List Int) × (List Int) × (List Int) × (List Int) × (List Int) × (List Int) → Option (AV × List Blk) := fun v => f8_n111111111111100 F (f8_n111111111111101 F kf8_j22003) kf8_j22003 v
theorem f8_n11111111111110_eq (F : Nat) (Rf8_j22003 : St → Option (AV × List Blk)) : ∀ v, aexec VG028 (Af8 F) (sub (bodyOf Tryd.f8) [1, 1, 1, 1, 1, 1, 1, 1, 1, 1, 1, 1, 1, 0]) (ef8_j18018 v) (kSeq (fun s => Rf8_j22003 (cutTo VG028 (some [(7, .plain), (10, .plain), (11, .plain), (12, .plain), (13, .plain), (16, .plain)]) s)) (kFin VG028 0 (Tryd.f8).results.toList)) = f8_n11111111111110 F (fun w => Rf8_j22003 (ef8_j22003 w)) v :=
  seq_cut (c := (sub (bodyOf Tryd.f8) [1, 1, 1, 1, 1, 1, 1, 1, 1, 1, 1, 1, 1, 0])) (a := (sub (bodyOf Tryd.f8) [1, 1, 1, 1, 1, 1, 1, 1, 1, 1, 1, 1, 1, 0, 0])) (b := (sub (bodyOf Tryd.f8) [1, 1, 1, 1, 1, 1, 1, 1, 1, 1, 1, 1, 1, 0, 1])) (by kernel_rfl) (spec := [(7, .plain), (10, .plain), (11, .plain), (12, .plain), (13, .plain), (14, .plain), (15, .plain), (16, .plain), (17, .plain)]) (by kernel_rfl) ef8_j18018 ef8_j19012 (kSeq (fun s => Rf8_j22003 (cutTo VG028 (some [(7, .plain), (10, .plain), (11, .plain), (12, .plain), (13, .plain), (16, .plain)]) s)) (kFin VG028 0 (Tryd.f8).results.toList)) (fun k => f8_n111111111111100 F k (fun w => Rf8_j22003 (ef8_j22003 w))) (f8_n111111111111101 F (fun w => Rf8_j22003 (ef8_j22003 w)))
    (fun Rf8_j19012 => f8_n111111111111100_eq F Rf8_j19012 Rf8_j22003) (f8_n111111111111101_eq F Rf8_j22003)
def f8_n11111111111111 (F : Nat) : Bool × Bool × (List Int) × (List Int) × (List Int) × (List Int) → Option (AV × List Blk) := fun (t7, t16, x3, x4, x5, x6) => (cond t7 (cond (!((x3 : List Int) == (x4 : List Int))) (some ((.bool (((x5 : List Int) == x6) == t16)), [])) (some ((.bool false), []))) (some ((.bool false), [])))
theorem f8_n11111111111111_eq (F : Nat) : ∀ v, aexec VG028 (Af8 F) (sub (bodyOf Tryd.f8) [1, 1, 1, 1, 1, 1, 1, 1, 1, 1, 1, 1, 1, 1]) (ef8_j22003 v) (kFin VG028 0 (Tryd.f8).results.toList) = f8_n11111111111111 F v := by
  rintro ⟨t7, t16, x3, x4, x5, x6⟩; kernel_rfl
def f8_n1111111111111 (F : Nat) : Bool × Bool × (List Int) × (List Int) × (List Int) × (List Int) × (List Int) × (List Int) → Option (AV × List Blk) := fun v => f8_n11111111111110 F (f8_n11111111111111 F) v
theorem f8_n1111111111111_eq (F : Nat) : ∀ v, aexec VG028 (Af8 F) (sub (bodyOf Tryd.f8) [1, 1, 1, 1, 1, 1, 1, 1, 1, 1, 1, 1, 1]) (ef8_j18018 v) (kFin VG028 0 (Tryd.f8).results.toList) = f8_n1111111111111 F v :=
  seq_cut (c := (sub (bodyOf Tryd.f8) [1, 1, 1, 1, 1, 1, 1, 1, 1, 1, 1, 1, 1])) (a := (sub (bodyOf Tryd.f8) [1, 1, 1, 1, 1, 1, 1, 1, 1, 1, 1, 1, 1, 0])) (b := (sub (bodyOf Tryd.f8) [1, 1, 1, 1, 1, 1, 1, 1, 1, 1, 1, 1, 1, 1])) (by kernel_rfl) (spec := [(7, .plain), (10, .plain), (11, .plain), (12, .plain), (13, .plain), (16, .plain)]) (by kernel_rfl) ef8_j18018 ef8_j22003 (kFin VG028 0 (Tryd.f8).results.toList) (fun k => f8_n11111111111110 F k) (f8_n11111111111111 F)
    (fun Rf8_j22003 => f8_n11111111111110_eq F Rf8_j22003) (f8_n11111111111111_eq F)
def f8_n111111111111 (F : Nat) : Bool × (List Int) × (List Int) × (List Int) × (List Int) × (List Int) × (List Int) → Option (AV × List Blk) := fun v => f8_n1111111111110 F (f8_n1111111111111 F) v
theorem f8_n111111111111_eq (F : Nat) : ∀ v, aexec VG028 (Af8 F) (sub (bodyOf Tryd.f8) [1, 1, 1, 1, 1, 1, 1, 1, 1, 1, 1, 1]) (ef8_j17020 v) (kFin VG028 0 (Tryd.f8).results.toList) = f8_n111111111111 F v :=
  seq_cut (c := (sub (bodyOf Tryd.f8) [1, 1, 1, 1, 1, 1, 1, 1, 1, 1, 1, 1])) (a := (sub (bodyOf Tryd.f8) [1, 1, 1, 1, 1, 1, 1, 1, 1, 1, 1, 1, 0])) (b := (sub (bodyOf Tryd.f8) [1, 1, 1, 1, 1, 1, 1, 1, 1, 1, 1, 1, 1])) (by kernel_rfl) (spec := [(7, .plain), (10, .plain), (11, .plain), (12, .plain), (13, .plain), (14, .plain), (15, .plain), (16, .plain)]) (by kernel_rfl) ef8_j17020 ef8_j18018 (kFin VG028 0 (Tryd.f8).results.toList) (fun k => f8_n1111111111110 F k) (f8_n1111111111111 F)
    (fun Rf8_j18018 => f8_n1111111111110_eq F Rf8_j18018) (f8_n1111111111111_eq F)
def f8_n11111111111 (F : Nat) : Bool × (List Int) × (List Int) × (List Int) × (List Int) × (List Int) → Option (AV × List Blk) := fun v => f8_n111111111110 F (f8_n111111111111 F) v
theorem f8_n11111111111_eq (F : Nat) : ∀ v, aexec VG028 (Af8 F) (sub (bodyOf Tryd.f8) [1, 1, 1, 1, 1, 1, 1, 1, 1, 1, 1]) (ef8_j16022 v) (kFin VG028 0 (Tryd.f8).results.toList) = f8_n11111111111 F v :=
  seq_cut (c := (sub (bodyOf Tryd.f8) [1, 1, 1, 1, 1, 1, 1, 1, 1, 1, 1])) (a := (sub (bodyOf Tryd.f8) [1, 1, 1, 1, 1, 1, 1, 1, 1, 1, 1, 0])) (b := (sub (bodyOf Tryd.f8) [1, 1, 1, 1, 1, 1, 1, 1, 1, 1, 1, 1])) (by kernel_rfl) (spec := [(7, .plain), (10, .plain), (11, .plain), (12, .plain), (13, .plain), (14, .plain), (15, .plain)]) (by kernel_rfl) ef8_j16022 ef8_j17020 (kFin VG028 0 (Tryd.f8).results.toList) (fun k => f8_n111111111110 F k) (f8_n111111111111 F)
    (fun Rf8_j17020 => f8_n111111111110_eq F Rf8_j17020) (f8_n111111111111_eq F)
def f8_n1111111111 (F : Nat) : Bool × (List Int) × (List Int) × (List Int) × (List Int) → Option (AV × List Blk) := fun v => f8_n11111111110 F (f8_n11111111111 F) v
theorem f8_n1111111111_eq (F : Nat) : ∀ v, aexec VG028 (Af8 F) (sub (bodyOf Tryd.f8) [1, 1, 1, 1, 1, 1, 1, 1, 1, 1]) (ef8_j15024 v) (kFin VG028 0 (Tryd.f8).results.toList) = f8_n1111111111 F v :=
  seq_cut (c := (sub (bodyOf Tryd.f8) [1, 1, 1, 1, 1, 1, 1, 1, 1, 1])) (a := (sub (bodyOf Tryd.f8) [1, 1, 1, 1, 1, 1, 1, 1, 1, 1, 0])) (b := (sub (bodyOf Tryd.f8) [1, 1, 1, 1, 1, 1, 1, 1, 1, 1, 1])) (by kernel_rfl) (spec := [(7, .plain), (10, .plain), (11, .plain), (12, .plain), (13, .plain), (14, .plain)]) (by kernel_rfl) ef8_j15024 ef8_j16022 (kFin VG028 0 (Tryd.f8).results.toList) (fun k => f8_n11111111110 F k) (f8_n11111111111 F)
    (fun Rf8_j16022 => f8_n11111111110_eq F Rf8_j16022) (f8_n11111111111_eq F)
def f8_n111111111 (F : Nat) : (List (List Int)) × Bool × (List Int) × (List Int) × (List Int) × (List Int) → Option (AV × List Blk) := fun v => f8_n1111111110 F (f8_n1111111111 F) v
theorem f8_n111111111_eq (F : Nat) : ∀ v, aexec VG028 (Af8 F) (sub (bodyOf Tryd.f8) [1, 1, 1, 1, 1, 1, 1, 1, 1]) (ef8_j14026 v) (kFin VG028 0 (Tryd.f8).results.toList) = f8_n111111111 F v :=
  seq_cut (c := (sub (bodyOf Tryd.f8) [1, 1, 1, 1, 1, 1, 1, 1, 1])) (a := (sub (bodyOf Tryd.f8) [1, 1, 1, 1, 1, 1, 1, 1, 1, 0])) (b := (sub (bodyOf Tryd.f8) [1, 1, 1, 1, 1, 1, 1, 1, 1, 1])) (by kernel_rfl) (spec := [(7, .plain), (10, .plain), (11, .plain), (12, .plain), (13, .plain)]) (by kernel_rfl) ef8_j14026 ef8_j15024 (kFin VG028 0 (Tryd.f8).results.toList) (fun k => f8_n1111111110 F k) (f8_n1111111111 F)
    (fun Rf8_j15024 => f8_n1111111110_eq F Rf8_j15024) (f8_n1111111111_eq F)
def f8_n11111111 (F : Nat) : (List (List Int)) × (List (List Int)) × Bool × (List Int) × (List Int) × (List Int) → Option (AV × List Blk) := fun v => f8_n111111110 F (f8_n111111111 F) v
theorem f8_n11111111_eq (F : Nat) : ∀ v, aexec VG028 (Af8 F) (sub (bodyOf Tryd.f8) [1, 1, 1, 1, 1, 1, 1, 1]) (ef8_j13028 v) (kFin VG028 0 (Tryd.f8).results.toList) = f8_n11111111 F v :=
  seq_cut (c := (sub (bodyOf Tryd.f8) [1, 1, 1, 1, 1, 1, 1, 1])) (a := (sub (bodyOf Tryd.f8) [1, 1, 1, 1, 1, 1, 1, 1, 0])) (b := (sub (bodyOf Tryd.f8) [1, 1, 1, 1, 1, 1, 1, 1, 1])) (by kernel_rfl) (spec := [(2, .plain), (3, .plain), (7, .plain), (10, .plain), (11, .plain), (12, .plain)]) (by kernel_rfl) ef8_j13028 ef8_j14026 (kFin VG028 0 (Tryd.f8).results.toList) (fun k => f8_n111111110 F k) (f8_n111111111 F)
    (fun Rf8_j14026 => f8_n111111110_eq F Rf8_j14026) (f8_n111111111_eq F)
def f8_n1111111 (F : Nat) : (List (List Int)) × (List (List Int)) × Bool × Bool × (List Int) × (List Int) × (List Int) → Option (AV × List Blk) := fun v => f8_n11111110 F (f8_n11111111 F) v
theorem f8_n1111111_eq (F : Nat) : ∀ v, aexec VG028 (Af8 F) (sub (bodyOf Tryd.f8) [1, 1, 1, 1, 1, 1, 1]) (ef8_j11036 v) (kFin VG028 0 (Tryd.f8).results.toList) = f8_n1111111 F v :=
  seq_cut (c := (sub (bodyOf Tryd.f8) [1, 1, 1, 1, 1, 1, 1])) (a := (sub (bodyOf Tryd.f8) [1, 1, 1, 1, 1, 1, 1, 0])) (b := (sub (bodyOf Tryd.f8) [1, 1, 1, 1, 1, 1, 1, 1])) (by kernel_rfl) (spec := [(1, .plain), (2, .plain), (3, .plain), (7, .plain), (10, .plain), (11, .plain)]) (by kernel_rfl) ef8_j11036 ef8_j13028 (kFin VG028 0 (Tryd.f8).results.toList) (fun k => f8_n11111110 F k) (f8_n11111111 F)
    (fun Rf8_j13028 => f8_n11111110_eq F Rf8_j13028) (f8_n11111111_eq F)
def f8_n111111 (F : Nat) : (List (List Int)) × (List (List Int)) × Bool × Bool × (List Int) × (List Int) → Option (AV × List Blk) := fun v => f8_n1111110 F (f8_n1111111 F) v
theorem f8_n111111_eq (F : Nat) : ∀ v, aexec VG028 (Af8 F) (sub (bodyOf Tryd.f8) [1, 1, 1, 1, 1, 1]) (ef8_j10038 v) (kFin VG028 0 (Tryd.f8).results.toList) = f8_n111111 F v :=
  seq_cut (c := (sub (bodyOf Tryd.f8) [1, 1, 1, 1, 1, 1])) (a := (sub (bodyOf Tryd.f8) [1, 1, 1, 1, 1, 1, 0])) (b := (sub (bodyOf Tryd.f8) [1, 1, 1, 1, 1, 1, 1])) (by kernel_rfl) (spec := [(1, .plain), (2, .plain), (3, .plain), (7, .plain), (8, .plain), (10, .plain), (11, .plain)]) (by kernel_rfl) ef8_j10038 ef8_j11036 (kFin VG028 0 (Tryd.f8).results.toList) (fun k => f8_n1111110 F k) (f8_n1111111 F)
    (fun Rf8_j11036 => f8_n1111110_eq F Rf8_j11036) (f8_n1111111_eq F)
def f8_n11111 (F : Nat) : (List (List Int)) × (List (List Int)) × Bool × Bool × (List Int) → Option (AV × List Blk) := fun v => f8_n111110 F (f8_n111111 F) v
theorem f8_n11111_eq (F : Nat) : ∀ v, aexec VG028 (Af8 F) (sub (bodyOf Tryd.f8) [1, 1, 1, 1, 1]) (ef8_j9040 v) (kFin VG028 0 (Tryd.f8).results.toList) = f8_n11111 F v :=
  seq_cut (c := (sub (bodyOf Tryd.f8) [1, 1, 1, 1, 1])) (a := (sub (bodyOf Tryd.f8) [1, 1, 1, 1, 1, 0])) (b := (sub (bodyOf Tryd.f8) [1, 1, 1, 1, 1, 1])) (by kernel_rfl) (spec := [(1, .plain), (2, .plain), (3, .plain), (7, .plain), (8, .plain), (10, .plain)]) (by kernel_rfl) ef8_j9040 ef8_j10038 (kFin VG028 0 (Tryd.f8).results.toList) (fun k => f8_n111110 F k) (f8_n111111 F)
    (fun Rf8_j10038 => f8_n111110_eq F Rf8_j10038) (f8_n111111_eq F)
def f8_n1111 (F : Nat) : (List (List Int)) × (List (List Int)) × Bool × Bool × (List Int) → Option (AV × List Blk) := fun v => f8_n11110 F (f8_n11111 F) v
theorem f8_n1111_eq (F : Nat) : ∀ v, aexec VG028 (Af8 F) (sub (bodyOf Tryd.f8) [1, 1, 1, 1]) (ef8_j5055 v) (kFin VG028 0 (Tryd.f8).results.toList) = f8_n1111 F v :=
  seq_cut (c := (sub (bodyOf Tryd.f8) [1, 1, 1, 1])) (a := (sub (bodyOf Tryd.f8) [1, 1, 1, 1, 0])) (b := (sub (bodyOf Tryd.f8) [1, 1, 1, 1, 1])) (by kernel_rfl) (spec := [(1, .plain), (2, .plain), (3, .plain), (7, .plain), (8, .plain)]) (by kernel_rfl) ef8_j5055 ef8_j9040 (kFin VG028 0 (Tryd.f8).results.toList) (fun k => f8_n11110 F k) (f8_n11111 F)
    (fun Rf8_j9040 => f8_n11110_eq F Rf8_j9040) (f8_n11111_eq F)
def f8_n111 (F : Nat) : (List (List Int)) × (List (List Int)) × Bool × (List Int) → Option (AV × List Blk) := fun v => f8_n1110 F (f8_n1111 F) v
theorem f8_n111_eq (F : Nat) : ∀ v, aexec VG028 (Af8 F) (sub (bodyOf Tryd.f8) [1, 1, 1]) (ef8_j4057 v) (kFin VG028 0 (Tryd.f8).results.toList) = f8_n111 F v :=
  seq_cut (c := (sub (bodyOf Tryd.f8) [1, 1, 1])) (a := (sub (bodyOf Tryd.f8) [1, 1, 1, 0])) (b := (sub (bodyOf Tryd.f8) [1, 1, 1, 1])) (by kernel_rfl) (spec := [(1, .plain), (2, .plain), (3, .plain), (7, .plain), (8, .plain)]) (by kernel_rfl) ef8_j4057 ef8_j5055 (kFin VG028 0 (Tryd.f8).results.toList) (fun k => f8_n1110 F k) (f8_n1111 F)
    (fun Rf8_j5055 => f8_n1110_eq F Rf8_j5055) (f8_n1111_eq F)
def f8_n11 (F : Nat) : (List (List Int)) × (List (List Int)) × Bool × (List Int) → Option (AV × List Blk) := fun v => f8_n110 F (f8_n111 F) v
theorem f8_n11_eq (F : Nat) : ∀ v, aexec VG028 (Af8 F) (sub (bodyOf Tryd.f8) [1, 1]) (ef8_j2065 v) (kFin VG028 0 (Tryd.f8).results.toList) = f8_n11 F v :=
  seq_cut (c := (sub (bodyOf Tryd.f8) [1, 1])) (a := (sub (bodyOf Tryd.f8) [1, 1, 0])) (b := (sub (bodyOf Tryd.f8) [1, 1, 1])) (by kernel_rfl) (spec := [(1, .plain), (2, .plain), (3, .plain), (7, .plain)]) (by kernel_rfl) ef8_j2065 ef8_j4057 (kFin VG028 0 (Tryd.f8).results.toList) (fun k => f8_n110 F k) (f8_n111 F)
    (fun Rf8_j4057 => f8_n110_eq F Rf8_j4057) (f8_n111_eq F)
def f8_n1 (F : Nat) : (List (List Int)) × (List (List Int)) × (List Int) → Option (AV × List Blk) := fun v => f8_n10 F (f8_n11 F) v
theorem f8_n1_eq (F : Nat) : ∀ v, aexec VG028 (Af8 F) (sub (bodyOf Tryd.f8) [1]) (ef8_j1067 v) (kFin VG028 0 (Tryd.f8).results.toList) = f8_n1 F v :=
  seq_cut (c := (sub (bodyOf Tryd.f8) [1])) (a := (sub (bodyOf Tryd.f8) [1, 0])) (b := (sub (bodyOf Tryd.f8) [1, 1])) (by kernel_rfl) (spec := [(1, .plain), (2, .plain), (3, .plain), (7, .plain)]) (by kernel_rfl) ef8_j1067 ef8_j2065 (kFin VG028 0 (Tryd.f8).results.toList) (fun k => f8_n10 F k) (f8_n11 F)
    (fun Rf8_j2065 => f8_n10_eq F Rf8_j2065) (f8_n11_eq F)
def f8_nt (F : Nat) : (List Int) × (List (List Int)) × (List (List Int)) → Option (AV × List Blk) := fun v => f8_n0 F (f8_n1 F) v
theorem f8_nt_eq (F : Nat) : ∀ v, aexec VG028 (Af8 F) (sub (bodyOf Tryd.f8) []) (ef8_a v) (kFin VG028 0 (Tryd.f8).results.toList) = f8_nt F v :=
  seq_cut (c := (sub (bodyOf Tryd.f8) [])) (a := (sub (bodyOf Tryd.f8) [0])) (b := (sub (bodyOf Tryd.f8) [1])) (by kernel_rfl) (spec := [(1, .plain), (2, .plain), (3, .plain)]) (by kernel_rfl) ef8_a ef8_j1067 (kFin VG028 0 (Tryd.f8).results.toList) (fun k => f8_n0 F k) (f8_n1 F)
    (fun Rf8_j1067 => f8_n0_eq F Rf8_j1067) (f8_n1_eq F)
/-- gantry/gantrylaw02.HashOfSeparates -/
def f8 (F : Nat) : (List Int) × (List (List Int)) × (List (List Int)) → Option (AV × List Blk) := f8_nt F
theorem f8_body (F : Nat) (a0 : List Int) (a1 : List (List Int)) (a2 : List (List Int)) : abody VG028 (Af8 F) Tryd.f8 [(.agg 2 (.rI .u8 a0)), (.vs (.rS a1) 0 1), (.vs (.rS a2) 0 1)] [] = f8 F (a0, a1, a2) :=
  (abody_in (c := (sub (bodyOf Tryd.f8) [])) (by kernel_rfl) (s := ef8_a (a0, a1, a2)) (by kernel_rfl)).trans (f8_nt_eq F (a0, a1, a2))
def r8 : CRun := fun X H => match X, H with
  | [(.agg 2 (.rI .u8 a0)), (.vs (.rS a1) 0 1), (.vs (.rS a2) 0 1)], [] => some (true, (.bool true), [])
  | _, _ => none
theorem take_iff {x y : List Int} (hx : x.length = 32) (hy : y.length = 32) : x.take 16 = y.take 16 ↔ ∀ i, i < 16 → x.getD i 0 = y.getD i 0 := by
  constructor
  · intro h i hi
    have : (x.take 16)[i]? = (y.take 16)[i]? := by rw [h]
    rw [List.getElem?_take, List.getElem?_take, if_pos hi, if_pos hi] at this
    rw [List.getD_eq_getElem?_getD, List.getD_eq_getElem?_getD, this]
  · intro h
    refine List.ext_getElem (by simp; omega) fun i h1 h2 => ?_
    rw [List.length_take] at h1
    have := h i (by omega)
    rw [List.getD_eq_getElem?_getD, List.getD_eq_getElem?_getD, List.getElem?_eq_getElem (by omega), List.getElem?_eq_getElem (by omega)] at this
    simpa [List.getElem_take] using this
theorem s8 (a0 : List Int) (a1 : List (List Int)) (a2 : List (List Int)) (h0 : okV (.agg 2 (.rI .u8 a0))) (h1 : okV (.vs (.rS a1) 0 1)) (h2 : okV (.vs (.rS a2) 0 1)) : ∃ F, f8 F (a0, a1, a2) = some ((.bool true), []) := by
  have hl1 := h1.2
  have hl2 := h2.2
  have hb := byte_get (fun x hx => has_u8 ((okR_rI h0).2 x hx))
  have b0 := hb 0
  have b1 := hb 1
  refine ⟨a1.length + 17, ?_⟩
  simp only [f8, f8_nt, f8_n0, f8_n1, f8_n10, f8_n11, f8_n110]
  cases hf1 : Sha.few12 a1 with
  | false => rfl
  | true =>
  cases hf2 : Sha.few12 a2 with
  | false => rfl
  | true =>
  simp only [Bool.not_true, cond_false]
  generalize hFF : a1.length + 17 = F
  -- behind the comparison
  have tail : ∀ t8 : Bool, (t8 = true ↔ (a0.getD 0 0 = a0.getD 1 0 ∧ a1 = a2)) → f8_n11111 F (a1, a2, true, t8, a0) = some ((.bool true), []) := by
    intro t8 ht8
    have i1 := input12 (IntKind.i64.wrap (a0.getD 0 0)) hf1
    have i2 := input12 (IntKind.i64.wrap (a0.getD 1 0)) hf2
    simp only [f8_n11111, f8_n111110, f8_n111111, f8_n1111110, f8_n1111111, f8_n11111110]
    rw [cond_pos (by omega), cond_pos (by omega)]
    cases t8 with
    | true =>
      obtain ⟨e1, e2⟩ := ht8.mp rfl
      rw [cond_true, cond_true, e1, e2, beq_rfl]
    | false =>
      have hne : ¬ (Sha.input (IntKind.i64.wrap (a0.getD 0 0)) a1 = Sha.input (IntKind.i64.wrap (a0.getD 1 0)) a2) := by
        intro he
        unfold Sha.input at he
        injection he with e1 e2
        rw [i64w (x := a0.getD 0 0) (by omega) (by omega), i64w (x := a0.getD 1 0) (by omega) (by omega), u8w b0.1 b0.2, u8w b1.1 b1.2] at e1
        have := ht8.mpr ⟨e1, Wire.flat_inj a1 a2 (fun s hs => by have := (few12_ok hf1).2.1 s hs; omega) (fun s hs => by have := (few12_ok hf2).2.1 s hs; omega) e2⟩
        cases this
      simp only [cond_false, f8_n11111111, f8_n111111110, f8_n111111111, f8_n1111111110, f8_n1111111111, f8_n11111111110, f8_n11111111111, f8_n111111111110, f8_n111111111111, f8_n1111111111110, f8_n1111111111111]
      rw [few_of12 hf1, few_of12 hf2, cond_true, cond_true]
      generalize hX : Sha.input (IntKind.i64.wrap (a0.getD 0 0)) a1 = X at *
      generalize hY : Sha.input (IntKind.i64.wrap (a0.getD 1 0)) a2 = Y at *
      have hd : Sha.of (IntKind.i64.wrap (a0.getD 0 0)) a1 = (Sha.hash X).take 16 := by unfold Sha.of; rw [hX]
      have he : Sha.of (IntKind.i64.wrap (a0.getD 1 0)) a2 = (Sha.hash Y).take 16 := by unfold Sha.of; rw [hY]
      rw [hd, he]
      have l1 := Sha.hash_len X
      have l2 := Sha.hash_len Y
      generalize Sha.hash X = g at *
      generalize Sha.hash Y = h at *
      simp only [f8_n11111111111110, f8_n111111111111100, f8_n111111111111101, f8_n1111111111111010, f8_n1111111111111010_i]
      have tk : ∀ (x : List Int), x.length = 32 → ∀ i, i < 16 → x.take (i + 1) = x.take i ++ [x.getD i 0] := fun x hx i hi => by
        rw [List.take_add_one, List.getElem?_eq_getElem (by omega), List.getD_eq_getElem?_getD, List.getElem?_eq_getElem (by omega)]; rfl
      refine loopN_from (fun i => (true, decide (g.take i = h.take i), (i : Int), X, Y, g.take 16, h.take 16, g, h)) 16 (by simp) (fun i hi k => ?_) (fun k => ?_) F (by omega)
      · simp only [f8_n11111111111110100, dec_and, int_beq]
        rw [cond_pos (by omega), i64w (x := (i : Int) + 1) (by omega) (by omega), tk g l1 i hi, tk h l2 i hi]
        by_cases hh : g.take i = h.take i
        · rw [cond_pos hh, cond_pos (by omega), cond_pos (by omega), Int.toNat_natCast]
          have : decide (g.getD i 0 = h.getD i 0) = decide (g.take i ++ [g.getD i 0] = h.take i ++ [h.getD i 0]) := by
            rw [Bool.eq_iff_iff, decide_eq_true_eq, decide_eq_true_eq]
            constructor
            · intro e; rw [hh, e]
            · intro e
              have := (List.append_inj' e rfl).2
              injection this
          rw [this]; rfl
        · rw [cond_neg hh]
          have : decide (g.take i ++ [g.getD i 0] = h.take i ++ [h.getD i 0]) = false := by
            rw [decide_eq_false_iff_not]; intro e; exact hh (List.append_inj' e rfl).1
          rw [this]; rfl
      · simp only [f8_n11111111111110100]
        rw [cond_neg (by omega)]
        simp only [f8_n11111111111111]
        have e1 : (!(X == Y)) = true := by simp [hne]
        have e2 : (g.take 16 == h.take 16) = decide (g.take 16 = h.take 16) := by
          rw [Bool.eq_iff_iff, beq_iff_eq, decide_eq_true_eq]
        rw [e1, e2]
        simp
  -- the comparison
  have main : ∀ t8 : Bool, (t8 = true ↔ (a0.getD 0 0 = a0.getD 1 0 ∧ a1.length = a2.length)) → f8_n1111 F (a1, a2, true, t8, a0) = some ((.bool true), []) := by
    intro t8 ht8
    simp only [f8_n1111, f8_n11110, f8_n111100, f8_n111101, f8_n1111010, f8_n1111010_i]
    refine loopN_ind (fun m s => s.1 = a1 ∧ s.2.1 = a2 ∧ s.2.2.1 = true ∧ s.2.2.2.2.2 = a0 ∧ s.2.2.2.2.1 = ((a1.length - m : Nat) : Int) ∧ m ≤ a1.length ∧ (s.2.2.2.1 = true ↔ (a0.getD 0 0 = a0.getD 1 0 ∧ a1.length = a2.length ∧ ∀ i, i < a1.length - m → a1.getD i [] = a2.getD i []))) ?_ F a1.length _ (by omega)
      ⟨rfl, rfl, rfl, rfl, by simp, Nat.le_refl _, by simp only []; rw [ht8]; simp⟩
    rintro m ⟨t1, t2, t7, t8, t9, x6⟩ k ⟨e1, e2, e3, e4, e5, hm, hiff⟩ hk
    simp only at e1 e2 e3 e4 e5 hiff
    subst e1; subst e2; subst e3; subst e4; subst e5
    simp only [f8_n11110100, dec_and]
    have fin : (m = 0 ∨ t8 = false) → f8_n11111 F (t1, t2, true, t8, x6) = some ((.bool true), []) := by
      intro hor
      refine tail t8 ?_
      rw [hiff]
      constructor
      · rintro ⟨q1, q2, q3⟩
        refine ⟨q1, List.ext_getElem q2 fun i g1 g2 => ?_⟩
        rcases hor with rfl | hor
        · have := q3 i (by omega)
          rwa [List.getD_eq_getElem?_getD, List.getD_eq_getElem?_getD, List.getElem?_eq_getElem g1, List.getElem?_eq_getElem g2] at this
        · rw [hor] at hiff; exact absurd (hiff.mpr ⟨q1, q2, q3⟩) (by decide)
      · rintro ⟨q1, rfl⟩; exact ⟨q1, rfl, fun _ _ => rfl⟩
    cases m with
    | zero => rw [cond_neg (by omega)]; exact fin (.inl rfl)
    | succ m =>
      rw [cond_pos (by omega)]
      cases t8 with
      | false => rw [cond_false]; exact fin (.inr rfl)
      | true =>
        obtain ⟨q1, q2, q3⟩ := hiff.mp rfl
        rw [cond_true, cond_pos (by omega), cond_pos (by omega), i64w (by omega) (by omega), Int.toNat_natCast]
        refine hk m _ (by omega) ⟨rfl, rfl, rfl, rfl, by simp only []; omega, by omega, ?_⟩
        simp only [beq_iff_eq]
        constructor
        · intro e
          refine ⟨q1, q2, fun i hi => ?_⟩
          by_cases hi' : i < t1.length - (m + 1)
          · exact q3 i hi'
          · rw [show i = t1.length - (m + 1) by omega]; exact e
        · rintro ⟨_, _, e⟩; exact e _ (by omega)
  simp only [f8_n111, f8_n1110, int_beq]
  by_cases ht : a0.getD 0 0 = a0.getD 1 0
  · rw [cond_pos ht]
    refine main _ ?_
    rw [decide_eq_true_eq]
    constructor
    · intro e; exact ⟨ht, by omega⟩
    · rintro ⟨_, e⟩; rw [e]
  · rw [cond_neg ht]
    refine main false ?_
    constructor
    · intro h; cases h
    · intro h; exact absurd h.1 ht

theorem c8 : CallOk Tryd.prog G02 8 r8 := callOk_of (V := VG028) mixed tys eVG028 (f := 8) (fn := Tryd.f8) Tryd.func8 (by kernel_rfl) (c := sub (bodyOf Tryd.f8) []) (by kernel_rfl) (by
  intro X H r H' h hX hH
  unfold r8 at h; split at h <;> try contradiction
  simp only [Option.some.injEq, Prod.mk.injEq] at h
  obtain ⟨hp, rfl, rfl⟩ := h
  obtain ⟨F, hF⟩ := s8 _ _ _ (hX _ (.head _)) (hX _ (.tail _ (.head _))) (hX _ (.tail _ (.tail _ (.head _))))
  exact ⟨Af8 F, (f8_body F _ _ _).trans hF⟩)
end Go.Am
