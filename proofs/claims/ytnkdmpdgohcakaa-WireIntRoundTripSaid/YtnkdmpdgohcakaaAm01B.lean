/- Part of a proof about the functions of the given program. -/
import Derived.Test.YtnkdmpdgohcakaaAm01A
set_option linter.unusedVariables false
set_option linter.unusedSimpArgs false
namespace Go.Am
open Go Go.Proofs

/-! gantry/wire.Ints -/
def lVG0118 : List CEnt := [(14, [none], r14)]
def VG0118 : Env := mkEnv T01 G01 lVG0118
theorem eVG0118 : EOk Try.prog VG0118 := eok_mk (by exact ⟨c14, trivial⟩)
def Af18 (F : Nat) : Cuts := { F := F, at_ := fun n => match n with | 3012 => some [(3, .plain), (9, .plain), (10, .plain), (11, .plain)] | _ => none, join := fun n => match n with | 1022 => some [(0, .plain)] | 2020 => some [(0, .plain), (3, .plain)] | 3014 => some [(3, .plain), (9, .plain), (10, .plain), (11, .plain)] | 7003 => some [(3, .plain)] | _ => none }
def ef18_a : (List Int) → St := fun a0 => { tmps := [(0, (.vs (.rI .i64 a0) 0 1))], heap := [], next := 0, nt := 21, m := 0 }
def ef18_j1022 : (List Int) → St := fun t0 => { tmps := [(0, (.vs (.rI .i64 t0) 0 1))], heap := [], next := 0, nt := 21, m := 0 }
def ef18_j2020 : (List Int) × (List Int) → St := fun (t0, x2) => { tmps := [(0, (.vs (.rI .i64 t0) 0 1)), (3, (.own 0 0 1))], heap := [(0, (.cells x2.length (.rI .u8 x2) true))], next := 1, nt := 21, m := 0 }
def ef18_j3014 : (List Int) × Int × Int × (List Int) → St := fun (t9, t10, t11, x4) => { tmps := [(3, (.own 0 0 1)), (9, (.vs (.rI .i64 t9) 0 1)), (10, (.int .i64 t10)), (11, (.int .i64 t11))], heap := [(0, (.cells x4.length (.rI .u8 x4) true))], next := 1, nt := 21, m := 0 }
def ef18_l3012 : (List Int) × Int × Int × (List Int) → St := fun (t9, t10, t11, x4) => { tmps := [(3, (.own 0 0 1)), (9, (.vs (.rI .i64 t9) 0 1)), (10, (.int .i64 t10)), (11, (.int .i64 t11))], heap := [(0, (.cells x4.length (.rI .u8 x4) true))], next := 1, nt := 21, m := 0 }
def ef18_j7003 : (List Int) → St := fun x1 => { tmps := [(3, (.own 0 0 1))], heap := [(0, (.cells x1.length (.rI .u8 x1) true))], next := 1, nt := 21, m := 0 }
def f18_n0 (F : Nat) (kf18_j1022 : (List Int) → Option (AV × List Blk)) : (List Int) → Option (AV × List Blk) := fun a0 => (kf18_j1022 a0)
theorem f18_n0_eq (F : Nat) (Rf18_j1022 : St → Option (AV × List Blk)) : ∀ v, aexec VG0118 (Af18 F) (sub (bodyOf Try.f18) [0]) (ef18_a v) (kSeq (fun s => Rf18_j1022 (cutTo VG0118 (some [(0, .plain)]) s)) (kFin VG0118 none (Try.f18).results.toList)) = f18_n0 F (fun w => Rf18_j1022 (ef18_j1022 w)) v := by
  intro a0; kernel_rfl
def f18_n10 (F : Nat) (kf18_j2020 : (List Int) × (List Int) → Option (AV × List Blk)) : (List Int) → Option (AV × List Blk) := fun t0 => (kf18_j2020 (t0, (Wire.int (↑t0.length : Int))))
theorem f18_n10_eq (F : Nat) (Rf18_j2020 : St → Option (AV × List Blk)) : ∀ v, aexec VG0118 (Af18 F) (sub (bodyOf Try.f18) [1, 0]) (ef18_j1022 v) (kSeq (fun s => Rf18_j2020 (cutTo VG0118 (some [(0, .plain), (3, .plain)]) s)) (kFin VG0118 none (Try.f18).results.toList)) = f18_n10 F (fun w => Rf18_j2020 (ef18_j2020 w)) v := by
  intro t0; kernel_rfl
def f18_n1100 (F : Nat) (kf18_j3014 : (List Int) × Int × Int × (List Int) → Option (AV × List Blk)) (kf18_j7003 : (List Int) → Option (AV × List Blk)) : (List Int) × (List Int) → Option (AV × List Blk) := fun (t0, x2) => (kf18_j3014 (t0, (↑t0.length : Int), (0 : Int), x2))
theorem f18_n1100_eq (F : Nat) (Rf18_j3014 : St → Option (AV × List Blk)) (Rf18_j7003 : St → Option (AV × List Blk)) : ∀ v, aexec VG0118 (Af18 F) (sub (bodyOf Try.f18) [1, 1, 0, 0]) (ef18_j2020 v) (kSeq (fun s => Rf18_j3014 (cutTo VG0118 (some [(3, .plain), (9, .plain), (10, .plain), (11, .plain)]) s)) (kSeq (fun s => Rf18_j7003 (cutTo VG0118 (some [(3, .plain)]) s)) (kFin VG0118 none (Try.f18).results.toList))) = f18_n1100 F (fun w => Rf18_j3014 (ef18_j3014 w)) (fun w => Rf18_j7003 (ef18_j7003 w)) v := by
  rintro ⟨t0, x2⟩; kernel_rfl
def f18_n110100 (F : Nat) (kf18_l3012 : (List Int) × Int × Int × (List Int) → Option (AV × List Blk)) (kf18_j7003 : (List Int) → Option (AV × List Blk)) : (List Int) × Int × Int × (List Int) → Option (AV × List Blk) := fun (t9, t10, t11, x4) => (cond (decide (t11 < t10)) (cond ((decide (0 ≤ t11)) && (decide (t11 < (↑t9.length : Int)))) (cond (decide ((x4.length + (Wire.int (t9.getD (Int.toNat t11) 0)).length) < 1073741824)) (kf18_l3012 (t9, t10, (IntKind.i64.wrap (t11 + (1 : Int))), (x4 ++ (Wire.int (t9.getD (Int.toNat t11) 0))))) none) none) (kf18_j7003 x4))
theorem f18_n110100_eq (F : Nat) (Rf18_l3012 : St → Option (AV × List Blk)) (Rf18_j7003 : St → Option (AV × List Blk)) : ∀ v, aexec VG0118 (Af18 F) (sub (bodyOf Try.f18) [1, 1, 0, 1, 0, 0]) (ef18_l3012 v) (kSeq (fun s => Rf18_l3012 (cutTo VG0118 (some [(3, .plain), (9, .plain), (10, .plain), (11, .plain)]) s)) (kBlock 0 (kSeq (fun s => Rf18_j7003 (cutTo VG0118 (some [(3, .plain)]) s)) (kFin VG0118 none (Try.f18).results.toList)))) = f18_n110100 F (fun w => Rf18_l3012 (ef18_l3012 w)) (fun w => Rf18_j7003 (ef18_j7003 w)) v := by
  rintro ⟨t9, t10, t11, x4⟩; kernel_rfl
def f18_n11010_i : (List Int) × Int × Int × (List Int) → (List Int) × Int × Int × (List Int) := fun (t9, t10, t11, x4) => (t9, t10, t11, x4)
def f18_n11010 (F : Nat) (kf18_j7003 : (List Int) → Option (AV × List Blk)) : (List Int) × Int × Int × (List Int) → Option (AV × List Blk) := fun v => loopN (fun k => f18_n110100 F k kf18_j7003) F (f18_n11010_i v)
theorem f18_n11010_eq (F : Nat) (Rf18_j7003 : St → Option (AV × List Blk)) : ∀ v, aexec VG0118 (Af18 F) (sub (bodyOf Try.f18) [1, 1, 0, 1, 0]) (ef18_j3014 v) (kBlock 0 (kSeq (fun s => Rf18_j7003 (cutTo VG0118 (some [(3, .plain)]) s)) (kFin VG0118 none (Try.f18).results.toList))) = f18_n11010 F (fun w => Rf18_j7003 (ef18_j7003 w)) v :=
  loop_cut (c := (sub (bodyOf Try.f18) [1, 1, 0, 1, 0])) (d := (sub (bodyOf Try.f18) [1, 1, 0, 1, 0, 0])) (by kernel_rfl) (spec := [(3, .plain), (9, .plain), (10, .plain), (11, .plain)]) (by kernel_rfl) ef18_j3014 ef18_l3012 (kBlock 0 (kSeq (fun s => Rf18_j7003 (cutTo VG0118 (some [(3, .plain)]) s)) (kFin VG0118 none (Try.f18).results.toList))) f18_n11010_i (fun k => f18_n110100 F k (fun w => Rf18_j7003 (ef18_j7003 w)))
    (by rintro ⟨t9, t10, t11, x4⟩; kernel_rfl) (fun Rf18_l3012 => f18_n110100_eq F Rf18_l3012 Rf18_j7003)
def f18_n1101 (F : Nat) (kf18_j7003 : (List Int) → Option (AV × List Blk)) : (List Int) × Int × Int × (List Int) → Option (AV × List Blk) := f18_n11010 F kf18_j7003
theorem f18_n1101_eq (F : Nat) (Rf18_j7003 : St → Option (AV × List Blk)) : ∀ v, aexec VG0118 (Af18 F) (sub (bodyOf Try.f18) [1, 1, 0, 1]) (ef18_j3014 v) (kSeq (fun s => Rf18_j7003 (cutTo VG0118 (some [(3, .plain)]) s)) (kFin VG0118 none (Try.f18).results.toList)) = f18_n1101 F (fun w => Rf18_j7003 (ef18_j7003 w)) v := fun v =>
  (block_in (c := (sub (bodyOf Try.f18) [1, 1, 0, 1])) (d := (sub (bodyOf Try.f18) [1, 1, 0, 1, 0])) (id := 0) (by kernel_rfl) _ _).trans (f18_n11010_eq F Rf18_j7003 v)
def f18_n110 (F : Nat) (kf18_j7003 : (List Int) → Option (AV × List Blk)) : (List Int) × (List Int) → Option (AV × List Blk) := fun v => f18_n1100 F (f18_n1101 F kf18_j7003) kf18_j7003 v
theorem f18_n110_eq (F : Nat) (Rf18_j7003 : St → Option (AV × List Blk)) : ∀ v, aexec VG0118 (Af18 F) (sub (bodyOf Try.f18) [1, 1, 0]) (ef18_j2020 v) (kSeq (fun s => Rf18_j7003 (cutTo VG0118 (some [(3, .plain)]) s)) (kFin VG0118 none (Try.f18).results.toList)) = f18_n110 F (fun w => Rf18_j7003 (ef18_j7003 w)) v :=
  seq_cut (c := (sub (bodyOf Try.f18) [1, 1, 0])) (a := (sub (bodyOf Try.f18) [1, 1, 0, 0])) (b := (sub (bodyOf Try.f18) [1, 1, 0, 1])) (by kernel_rfl) (spec := [(3, .plain), (9, .plain), (10, .plain), (11, .plain)]) (by kernel_rfl) ef18_j2020 ef18_j3014 (kSeq (fun s => Rf18_j7003 (cutTo VG0118 (some [(3, .plain)]) s)) (kFin VG0118 none (Try.f18).results.toList)) (fun k => f18_n1100 F k (fun w => Rf18_j7003 (ef18_j7003 w))) (f18_n1101 F (fun w => Rf18_j7003 (ef18_j7003 w)))
    (fun Rf18_j3014 => f18_n1100_eq F Rf18_j3014 Rf18_j7003) (f18_n1101_eq F Rf18_j7003)
def f18_n111 (F : Nat) : (List Int) → Option (AV × List Blk) := fun x1 => (some ((.own 0 0 1), [(.cells x1.length (.rI .u8 x1) true)]))
theorem f18_n111_eq (F : Nat) : ∀ v, aexec VG0118 (Af18 F) (sub (bodyOf Try.f18) [1, 1, 1]) (ef18_j7003 v) (kFin VG0118 none (Try.f18).results.toList) = f18_n111 F v := by
  intro x1; kernel_rfl
def f18_n11 (F : Nat) : (List Int) × (List Int) → Option (AV × List Blk) := fun v => f18_n110 F (f18_n111 F) v
theorem f18_n11_eq (F : Nat) : ∀ v, aexec VG0118 (Af18 F) (sub (bodyOf Try.f18) [1, 1]) (ef18_j2020 v) (kFin VG0118 none (Try.f18).results.toList) = f18_n11 F v :=
  seq_cut (c := (sub (bodyOf Try.f18) [1, 1])) (a := (sub (bodyOf Try.f18) [1, 1, 0])) (b := (sub (bodyOf Try.f18) [1, 1, 1])) (by kernel_rfl) (spec := [(3, .plain)]) (by kernel_rfl) ef18_j2020 ef18_j7003 (kFin VG0118 none (Try.f18).results.toList) (fun k => f18_n110 F k) (f18_n111 F)
    (fun Rf18_j7003 => f18_n110_eq F Rf18_j7003) (f18_n111_eq F)
def f18_n1 (F : Nat) : (List Int) → Option (AV × List Blk) := fun v => f18_n10 F (f18_n11 F) v
theorem f18_n1_eq (F : Nat) : ∀ v, aexec VG0118 (Af18 F) (sub (bodyOf Try.f18) [1]) (ef18_j1022 v) (kFin VG0118 none (Try.f18).results.toList) = f18_n1 F v :=
  seq_cut (c := (sub (bodyOf Try.f18) [1])) (a := (sub (bodyOf Try.f18) [1, 0])) (b := (sub (bodyOf Try.f18) [1, 1])) (by kernel_rfl) (spec := [(0, .plain), (3, .plain)]) (by kernel_rfl) ef18_j1022 ef18_j2020 (kFin VG0118 none (Try.f18).results.toList) (fun k => f18_n10 F k) (f18_n11 F)
    (fun Rf18_j2020 => f18_n10_eq F Rf18_j2020) (f18_n11_eq F)
def f18_nt (F : Nat) : (List Int) → Option (AV × List Blk) := fun v => f18_n0 F (f18_n1 F) v
theorem f18_nt_eq (F : Nat) : ∀ v, aexec VG0118 (Af18 F) (sub (bodyOf Try.f18) []) (ef18_a v) (kFin VG0118 none (Try.f18).results.toList) = f18_nt F v :=
  seq_cut (c := (sub (bodyOf Try.f18) [])) (a := (sub (bodyOf Try.f18) [0])) (b := (sub (bodyOf Try.f18) [1])) (by kernel_rfl) (spec := [(0, .plain)]) (by kernel_rfl) ef18_a ef18_j1022 (kFin VG0118 none (Try.f18).results.toList) (fun k => f18_n0 F k) (f18_n1 F)
    (fun Rf18_j1022 => f18_n0_eq F Rf18_j1022) (f18_n1_eq F)
/-- gantry/wire.Ints -/
def f18 (F : Nat) : (List Int) → Option (AV × List Blk) := f18_nt F
theorem f18_body (F : Nat) (a0 : List Int) : abody VG0118 (Af18 F) Try.f18 [(.vs (.rI .i64 a0) 0 1)] [] = f18 F a0 :=
  (abody_in (c := (sub (bodyOf Try.f18) [])) (by kernel_rfl) (s := ef18_a a0) (by kernel_rfl)).trans (f18_nt_eq F a0)
def r18 : CRun := fun X H => match X, H with
  | [(.vs (.rI .i64 a0) 0 1)], [] => some ((decide ((Wire.ints a0).length < 1073741000)), (.own 0 0 1), [(.cells (Wire.ints a0).length (.rI .u8 (Wire.ints a0)) true)])
  | _, _ => none
theorem s18 (a0 : List Int) (hp : ((decide ((Wire.ints a0).length < 1073741000))) = true) (h0 : okV (.vs (.rI .i64 a0) 0 1)) : ∃ F, f18 F a0 = some ((.own 0 0 1), [(.cells (Wire.ints a0).length (.rI .u8 (Wire.ints a0)) true)]) := by
  have hl : (Wire.ints a0).length < 1073741000 := of_decide_eq_true hp
  have hl0 := h0.2
  refine ⟨a0.length + 1, ?_⟩
  simp only [f18, f18_nt, f18_n0, f18_n1, f18_n10, f18_n11, f18_n110, f18_n1100, f18_n1101, f18_n11010, f18_n11010_i]
  refine loopN_from (fun i => (a0, (a0.length : Int), (i : Int), Wire.int (a0.length : Int) ++ (a0.take i).flatMap Wire.int)) a0.length (by simp) (fun i hi k => ?_) (fun k => ?_) _ (by omega)
  · have e1 := flatMap_take 0 Wire.int a0 i hi
    have e2 := flatMap_le Wire.int a0 (i + 1)
    rw [e1, List.length_append] at e2
    simp only [Wire.ints, List.length_append] at hl
    simp only [f18_n110100, dec_and, List.length_append]
    rw [Int.toNat_natCast, cond_pos (by omega), cond_pos (by omega), cond_pos (by omega), i64w (x := (i : Int) + 1) (by omega) (by omega), List.append_assoc, ← e1]
    rfl
  · simp only [f18_n110100]
    rw [cond_neg (by omega), List.take_length]
    rfl

theorem c18 : CallOk Try.prog G01 18 r18 := callOk_of (V := VG0118) mixed tys eVG0118 (f := 18) (fn := Try.f18) Try.func18 (by kernel_rfl) (c := sub (bodyOf Try.f18) []) (by kernel_rfl) (by
  intro X H r H' h hX hH
  unfold r18 at h; split at h <;> try contradiction
  simp only [Option.some.injEq, Prod.mk.injEq] at h
  obtain ⟨hp, rfl, rfl⟩ := h
  obtain ⟨F, hF⟩ := s18 _ hp (hX _ (.head _))
  exact ⟨Af18 F, (f18_body F _).trans hF⟩)
/-! gantry/gantryref01.Ints -/
def lVG0119 : List CEnt := [(15, [none], r15)]
def VG0119 : Env := mkEnv T01 G01 lVG0119
theorem eVG0119 : EOk Try.prog VG0119 := eok_mk (by exact ⟨c15, trivial⟩)
def Af19 (F : Nat) : Cuts := { F := F, at_ := fun n => match n with | 3010 => some [(0, .plain), (3, .plain), (4, .plain)] | _ => none, join := fun n => match n with | 1020 => some [(0, .plain)] | 2018 => some [(0, .plain), (3, .plain)] | 3012 => some [(0, .plain), (3, .plain), (4, .plain)] | 6003 => some [(3, .plain)] | _ => none }
def ef19_a : (List Int) → St := fun a0 => { tmps := [(0, (.vs (.rI .i64 a0) 0 1))], heap := [], next := 0, nt := 22, m := 0 }
def ef19_j1020 : (List Int) → St := fun t0 => { tmps := [(0, (.vs (.rI .i64 t0) 0 1))], heap := [], next := 0, nt := 22, m := 0 }
def ef19_j2018 : (List Int) × (List Int) → St := fun (t0, x2) => { tmps := [(0, (.vs (.rI .i64 t0) 0 1)), (3, (.own 0 0 1))], heap := [(0, (.cells x2.length (.rI .u8 x2) true))], next := 1, nt := 22, m := 0 }
def ef19_j3012 : (List Int) × Int × (List Int) → St := fun (t0, t4, x3) => { tmps := [(0, (.vs (.rI .i64 t0) 0 1)), (3, (.own 0 0 1)), (4, (.int .i64 t4))], heap := [(0, (.cells x3.length (.rI .u8 x3) true))], next := 1, nt := 22, m := 0 }
def ef19_l3010 : (List Int) × Int × (List Int) → St := fun (t0, t4, x3) => { tmps := [(0, (.vs (.rI .i64 t0) 0 1)), (3, (.own 0 0 1)), (4, (.int .i64 t4))], heap := [(0, (.cells x3.length (.rI .u8 x3) true))], next := 1, nt := 22, m := 0 }
def ef19_j6003 : (List Int) → St := fun x1 => { tmps := [(3, (.own 0 0 1))], heap := [(0, (.cells x1.length (.rI .u8 x1) true))], next := 1, nt := 22, m := 0 }
def f19_n0 (F : Nat) (kf19_j1020 : (List Int) → Option (AV × List Blk)) : (List Int) → Option (AV × List Blk) := fun a0 => (kf19_j1020 a0)
theorem f19_n0_eq (F : Nat) (Rf19_j1020 : St → Option (AV × List Blk)) : ∀ v, aexec VG0119 (Af19 F) (sub (bodyOf Try.f19) [0]) (ef19_a v) (kSeq (fun s => Rf19_j1020 (cutTo VG0119 (some [(0, .plain)]) s)) (kFin VG0119 none (Try.f19).results.toList)) = f19_n0 F (fun w => Rf19_j1020 (ef19_j1020 w)) v := by
  intro a0; kernel_rfl
def f19_n10 (F : Nat) (kf19_j2018 : (List Int) × (List Int) → Option (AV × List Blk)) : (List Int) → Option (AV × List Blk) := fun t0 => (kf19_j2018 (t0, (Wire.int (↑t0.length : Int))))
theorem f19_n10_eq (F : Nat) (Rf19_j2018 : St → Option (AV × List Blk)) : ∀ v, aexec VG0119 (Af19 F) (sub (bodyOf Try.f19) [1, 0]) (ef19_j1020 v) (kSeq (fun s => Rf19_j2018 (cutTo VG0119 (some [(0, .plain), (3, .plain)]) s)) (kFin VG0119 none (Try.f19).results.toList)) = f19_n10 F (fun w => Rf19_j2018 (ef19_j2018 w)) v := by
  intro t0; kernel_rfl
def f19_n1100 (F : Nat) (kf19_j3012 : (List Int) × Int × (List Int) → Option (AV × List Blk)) (kf19_j6003 : (List Int) → Option (AV × List Blk)) : (List Int) × (List Int) → Option (AV × List Blk) := fun (t0, x2) => (kf19_j3012 (t0, (0 : Int), x2))
theorem f19_n1100_eq (F : Nat) (Rf19_j3012 : St → Option (AV × List Blk)) (Rf19_j6003 : St → Option (AV × List Blk)) : ∀ v, aexec VG0119 (Af19 F) (sub (bodyOf Try.f19) [1, 1, 0, 0]) (ef19_j2018 v) (kSeq (fun s => Rf19_j3012 (cutTo VG0119 (some [(0, .plain), (3, .plain), (4, .plain)]) s)) (kSeq (fun s => Rf19_j6003 (cutTo VG0119 (some [(3, .plain)]) s)) (kFin VG0119 none (Try.f19).results.toList))) = f19_n1100 F (fun w => Rf19_j3012 (ef19_j3012 w)) (fun w => Rf19_j6003 (ef19_j6003 w)) v := by
  rintro ⟨t0, x2⟩; kernel_rfl
def f19_n110100 (F : Nat) (kf19_l3010 : (List Int) × Int × (List Int) → Option (AV × List Blk)) (kf19_j6003 : (List Int) → Option (AV × List Blk)) : (List Int) × Int × (List Int) → Option (AV × List Blk) := fun (t0, t4, x3) => (cond (decide (t4 < (↑t0.length : Int))) (cond ((decide (0 ≤ t4)) && (decide (t4 < (↑t0.length : Int)))) (cond (decide ((x3.length + (Wire.int (t0.getD (Int.toNat t4) 0)).length) < 1073741824)) (kf19_l3010 (t0, (IntKind.i64.wrap (t4 + (1 : Int))), (x3 ++ (Wire.int (t0.getD (Int.toNat t4) 0))))) none) none) (kf19_j6003 x3))
theorem f19_n110100_eq (F : Nat) (Rf19_l3010 : St → Option (AV × List Blk)) (Rf19_j6003 : St → Option (AV × List Blk)) : ∀ v, aexec VG0119 (Af19 F) (sub (bodyOf Try.f19) [1, 1, 0, 1, 0, 0]) (ef19_l3010 v) (kSeq (fun s => Rf19_l3010 (cutTo VG0119 (some [(0, .plain), (3, .plain), (4, .plain)]) s)) (kBlock 0 (kSeq (fun s => Rf19_j6003 (cutTo VG0119 (some [(3, .plain)]) s)) (kFin VG0119 none (Try.f19).results.toList)))) = f19_n110100 F (fun w => Rf19_l3010 (ef19_l3010 w)) (fun w => Rf19_j6003 (ef19_j6003 w)) v := by
  rintro ⟨t0, t4, x3⟩; kernel_rfl
def f19_n11010_i : (List Int) × Int × (List Int) → (List Int) × Int × (List Int) := fun (t0, t4, x3) => (t0, t4, x3)
def f19_n11010 (F : Nat) (kf19_j6003 : (List Int) → Option (AV × List Blk)) : (List Int) × Int × (List Int) → Option (AV × List Blk) := fun v => loopN (fun k => f19_n110100 F k kf19_j6003) F (f19_n11010_i v)
theorem f19_n11010_eq (F : Nat) (Rf19_j6003 : St → Option (AV × List Blk)) : ∀ v, aexec VG0119 (Af19 F) (sub (bodyOf Try.f19) [1, 1, 0, 1, 0]) (ef19_j3012 v) (kBlock 0 (kSeq (fun s => Rf19_j6003 (cutTo VG0119 (some [(3, .plain)]) s)) (kFin VG0119 none (Try.f19).results.toList))) = f19_n11010 F (fun w => Rf19_j6003 (ef19_j6003 w)) v :=
  loop_cut (c := (sub (bodyOf Try.f19) [1, 1, 0, 1, 0])) (d := (sub (bodyOf Try.f19) [1, 1, 0, 1, 0, 0])) (by kernel_rfl) (spec := [(0, .plain), (3, .plain), (4, .plain)]) (by kernel_rfl) ef19_j3012 ef19_l3010 (kBlock 0 (kSeq (fun s => Rf19_j6003 (cutTo VG0119 (some [(3, .plain)]) s)) (kFin VG0119 none (Try.f19).results.toList))) f19_n11010_i (fun k => f19_n110100 F k (fun w => Rf19_j6003 (ef19_j6003 w)))
    (by rintro ⟨t0, t4, x3⟩; kernel_rfl) (fun Rf19_l3010 => f19_n110100_eq F Rf19_l3010 Rf19_j6003)
def f19_n1101 (F : Nat) (kf19_j6003 : (List Int) → Option (AV × List Blk)) : (List Int) × Int × (List Int) → Option (AV × List Blk) := f19_n11010 F kf19_j6003
theorem f19_n1101_eq (F : Nat) (Rf19_j6003 : St → Option (AV × List Blk)) : ∀ v, aexec VG0119 (Af19 F) (sub (bodyOf Try.f19) [1, 1, 0, 1]) (ef19_j3012 v) (kSeq (fun s => Rf19_j6003 (cutTo VG0119 (some [(3, .plain)]) s)) (kFin VG0119 none (Try.f19).results.toList)) = f19_n1101 F (fun w => Rf19_j6003 (ef19_j6003 w)) v := fun v =>
  (block_in (c := (sub (bodyOf Try.f19) [1, 1, 0, 1])) (d := (sub (bodyOf Try.f19) [1, 1, 0, 1, 0])) (id := 0) (by kernel_rfl) _ _).trans (f19_n11010_eq F Rf19_j6003 v)
def f19_n110 (F : Nat) (kf19_j6003 : (List Int) → Option (AV × List Blk)) : (List Int) × (List Int) → Option (AV × List Blk) := fun v => f19_n1100 F (f19_n1101 F kf19_j6003) kf19_j6003 v
theorem f19_n110_eq (F : Nat) (Rf19_j6003 : St → Option (AV × List Blk)) : ∀ v, aexec VG0119 (Af19 F) (sub (bodyOf Try.f19) [1, 1, 0]) (ef19_j2018 v) (kSeq (fun s => Rf19_j6003 (cutTo VG0119 (some [(3, .plain)]) s)) (kFin VG0119 none (Try.f19).results.toList)) = f19_n110 F (fun w => Rf19_j6003 (ef19_j6003 w)) v :=
  seq_cut (c := (sub (bodyOf Try.f19) [1, 1, 0])) (a := (sub (bodyOf Try.f19) [1, 1, 0, 0])) (b := (sub (bodyOf Try.f19) [1, 1, 0, 1])) (by kernel_rfl) (spec := [(0, .plain), (3, .plain), (4, .plain)]) (by kernel_rfl) ef19_j2018 ef19_j3012 (kSeq (fun s => Rf19_j6003 (cutTo VG0119 (some [(3, .plain)]) s)) (kFin VG0119 none (Try.f19).results.toList)) (fun k => f19_n1100 F k (fun w => Rf19_j6003 (ef19_j6003 w))) (f19_n1101 F (fun w => Rf19_j6003 (ef19_j6003 w)))
    (fun Rf19_j3012 => f19_n1100_eq F Rf19_j3012 Rf19_j6003) (f19_n1101_eq F Rf19_j6003)
def f19_n111 (F : Nat) : (List Int) → Option (AV × List Blk) := fun x1 => (some ((.own 0 0 1), [(.cells x1.length (.rI .u8 x1) true)]))
theorem f19_n111_eq (F : Nat) : ∀ v, aexec VG0119 (Af19 F) (sub (bodyOf Try.f19) [1, 1, 1]) (ef19_j6003 v) (kFin VG0119 none (Try.f19).results.toList) = f19_n111 F v := by
  intro x1; kernel_rfl
def f19_n11 (F : Nat) : (List Int) × (List Int) → Option (AV × List Blk) := fun v => f19_n110 F (f19_n111 F) v
theorem f19_n11_eq (F : Nat) : ∀ v, aexec VG0119 (Af19 F) (sub (bodyOf Try.f19) [1, 1]) (ef19_j2018 v) (kFin VG0119 none (Try.f19).results.toList) = f19_n11 F v :=
  seq_cut (c := (sub (bodyOf Try.f19) [1, 1])) (a := (sub (bodyOf Try.f19) [1, 1, 0])) (b := (sub (bodyOf Try.f19) [1, 1, 1])) (by kernel_rfl) (spec := [(3, .plain)]) (by kernel_rfl) ef19_j2018 ef19_j6003 (kFin VG0119 none (Try.f19).results.toList) (fun k => f19_n110 F k) (f19_n111 F)
    (fun Rf19_j6003 => f19_n110_eq F Rf19_j6003) (f19_n111_eq F)
def f19_n1 (F : Nat) : (List Int) → Option (AV × List Blk) := fun v => f19_n10 F (f19_n11 F) v
theorem f19_n1_eq (F : Nat) : ∀ v, aexec VG0119 (Af19 F) (sub (bodyOf Try.f19) [1]) (ef19_j1020 v) (kFin VG0119 none (Try.f19).results.toList) = f19_n1 F v :=
  seq_cut (c := (sub (bodyOf Try.f19) [1])) (a := (sub (bodyOf Try.f19) [1, 0])) (b := (sub (bodyOf Try.f19) [1, 1])) (by kernel_rfl) (spec := [(0, .plain), (3, .plain)]) (by kernel_rfl) ef19_j1020 ef19_j2018 (kFin VG0119 none (Try.f19).results.toList) (fun k => f19_n10 F k) (f19_n11 F)
    (fun Rf19_j2018 => f19_n10_eq F Rf19_j2018) (f19_n11_eq F)
def f19_nt (F : Nat) : (List Int) → Option (AV × List Blk) := fun v => f19_n0 F (f19_n1 F) v
theorem f19_nt_eq (F : Nat) : ∀ v, aexec VG0119 (Af19 F) (sub (bodyOf Try.f19) []) (ef19_a v) (kFin VG0119 none (Try.f19).results.toList) = f19_nt F v :=
  seq_cut (c := (sub (bodyOf Try.f19) [])) (a := (sub (bodyOf Try.f19) [0])) (b := (sub (bodyOf Try.f19) [1])) (by kernel_rfl) (spec := [(0, .plain)]) (by kernel_rfl) ef19_a ef19_j1020 (kFin VG0119 none (Try.f19).results.toList) (fun k => f19_n0 F k) (f19_n1 F)
    (fun Rf19_j1020 => f19_n0_eq F Rf19_j1020) (f19_n1_eq F)
/-- gantry/gantryref01.Ints -/
def f19 (F : Nat) : (List Int) → Option (AV × List Blk) := f19_nt F
theorem f19_body (F : Nat) (a0 : List Int) : abody VG0119 (Af19 F) Try.f19 [(.vs (.rI .i64 a0) 0 1)] [] = f19 F a0 :=
  (abody_in (c := (sub (bodyOf Try.f19) [])) (by kernel_rfl) (s := ef19_a a0) (by kernel_rfl)).trans (f19_nt_eq F a0)
def r19 : CRun := fun X H => match X, H with
  | [(.vs (.rI .i64 a0) 0 1)], [] => some ((decide ((Wire.ints a0).length < 1073741000)), (.own 0 0 1), [(.cells (Wire.ints a0).length (.rI .u8 (Wire.ints a0)) true)])
  | _, _ => none
theorem s19 (a0 : List Int) (hp : ((decide ((Wire.ints a0).length < 1073741000))) = true) (h0 : okV (.vs (.rI .i64 a0) 0 1)) : ∃ F, f19 F a0 = some ((.own 0 0 1), [(.cells (Wire.ints a0).length (.rI .u8 (Wire.ints a0)) true)]) := by
  have hl : (Wire.ints a0).length < 1073741000 := of_decide_eq_true hp
  have hl0 := h0.2
  refine ⟨a0.length + 1, ?_⟩
  simp only [f19, f19_nt, f19_n0, f19_n1, f19_n10, f19_n11, f19_n110, f19_n1100, f19_n1101, f19_n11010, f19_n11010_i]
  refine loopN_from (fun i => (a0, (i : Int), Wire.int (a0.length : Int) ++ (a0.take i).flatMap Wire.int)) a0.length (by simp) (fun i hi k => ?_) (fun k => ?_) _ (by omega)
  · have e1 := flatMap_take 0 Wire.int a0 i hi
    have e2 := flatMap_le Wire.int a0 (i + 1)
    rw [e1, List.length_append] at e2
    simp only [Wire.ints, List.length_append] at hl
    simp only [f19_n110100, dec_and, List.length_append]
    rw [Int.toNat_natCast, cond_pos (by omega), cond_pos (by omega), cond_pos (by omega), i64w (x := (i : Int) + 1) (by omega) (by omega), List.append_assoc, ← e1]
    rfl
  · simp only [f19_n110100]
    rw [cond_neg (by omega), List.take_length]
    rfl

theorem c19 : CallOk Try.prog G01 19 r19 := callOk_of (V := VG0119) mixed tys eVG0119 (f := 19) (fn := Try.f19) Try.func19 (by kernel_rfl) (c := sub (bodyOf Try.f19) []) (by kernel_rfl) (by
  intro X H r H' h hX hH
  unfold r19 at h; split at h <;> try contradiction
  simp only [Option.some.injEq, Prod.mk.injEq] at h
  obtain ⟨hp, rfl, rfl⟩ := h
  obtain ⟨F, hF⟩ := s19 _ hp (hX _ (.head _))
  exact ⟨Af19 F, (f19_body F _).trans hF⟩)
/-! gantry/wire.Strings -/
def lVG0120 : List CEnt := [(14, [none], r14), (16, [none], r16)]
def VG0120 : Env := mkEnv T01 G01 lVG0120
theorem eVG0120 : EOk Try.prog VG0120 := eok_mk (by exact ⟨c14, c16, trivial⟩)
def Af20 (F : Nat) : Cuts := { F := F, at_ := fun n => match n with | 3012 => some [(3, .plain), (9, .plain), (10, .plain), (11, .plain)] | _ => none, join := fun n => match n with | 1022 => some [(0, .plain)] | 2020 => some [(0, .plain), (3, .plain)] | 3014 => some [(3, .plain), (9, .plain), (10, .plain), (11, .plain)] | 7003 => some [(3, .plain)] | _ => none }
def ef20_a : (List (List Int)) → St := fun a0 => { tmps := [(0, (.vs (.rS a0) 0 1))], heap := [], next := 0, nt := 21, m := 0 }
def ef20_j1022 : (List (List Int)) → St := fun t0 => { tmps := [(0, (.vs (.rS t0) 0 1))], heap := [], next := 0, nt := 21, m := 0 }
def ef20_j2020 : (List (List Int)) × (List Int) → St := fun (t0, x2) => { tmps := [(0, (.vs (.rS t0) 0 1)), (3, (.own 0 0 1))], heap := [(0, (.cells x2.length (.rI .u8 x2) true))], next := 1, nt := 21, m := 0 }
def ef20_j3014 : (List (List Int)) × Int × Int × (List Int) → St := fun (t9, t10, t11, x4) => { tmps := [(3, (.own 0 0 1)), (9, (.vs (.rS t9) 0 1)), (10, (.int .i64 t10)), (11, (.int .i64 t11))], heap := [(0, (.cells x4.length (.rI .u8 x4) true))], next := 1, nt := 21, m := 0 }
def ef20_l3012 : (List (List Int)) × Int × Int × (List Int) → St := fun (t9, t10, t11, x4) => { tmps := [(3, (.own 0 0 1)), (9, (.vs (.rS t9) 0 1)), (10, (.int .i64 t10)), (11, (.int .i64 t11))], heap := [(0, (.cells x4.length (.rI .u8 x4) true))], next := 1, nt := 21, m := 0 }
def ef20_j7003 : (List Int) → St := fun x1 => { tmps := [(3, (.own 0 0 1))], heap := [(0, (.cells x1.length (.rI .u8 x1) true))], next := 1, nt := 21, m := 0 }
def f20_n0 (F : Nat) (kf20_j1022 : (List (List Int)) → Option (AV × List Blk)) : (List (List Int)) → Option (AV × List Blk) := fun a0 => (kf20_j1022 a0)
theorem f20_n0_eq (F : Nat) (Rf20_j1022 : St → Option (AV × List Blk)) : ∀ v, aexec VG0120 (Af20 F) (sub (bodyOf Try.f20) [0]) (ef20_a v) (kSeq (fun s => Rf20_j1022 (cutTo VG0120 (some [(0, .plain)]) s)) (kFin VG0120 none (Try.f20).results.toList)) = f20_n0 F (fun w => Rf20_j1022 (ef20_j1022 w)) v := by
  intro a0; kernel_rfl
def f20_n10 (F : Nat) (kf20_j2020 : (List (List Int)) × (List Int) → Option (AV × List Blk)) : (List (List Int)) → Option (AV × List Blk) := fun t0 => (kf20_j2020 (t0, (Wire.int (↑t0.length : Int))))
theorem f20_n10_eq (F : Nat) (Rf20_j2020 : St → Option (AV × List Blk)) : ∀ v, aexec VG0120 (Af20 F) (sub (bodyOf Try.f20) [1, 0]) (ef20_j1022 v) (kSeq (fun s => Rf20_j2020 (cutTo VG0120 (some [(0, .plain), (3, .plain)]) s)) (kFin VG0120 none (Try.f20).results.toList)) = f20_n10 F (fun w => Rf20_j2020 (ef20_j2020 w)) v := by
  intro t0; kernel_rfl
def f20_n1100 (F : Nat) (kf20_j3014 : (List (List Int)) × Int × Int × (List Int) → Option (AV × List Blk)) (kf20_j7003 : (List Int) → Option (AV × List Blk)) : (List (List Int)) × (List Int) → Option (AV × List Blk) := fun (t0, x2) => (kf20_j3014 (t0, (↑t0.length : Int), (0 : Int), x2))
theorem f20_n1100_eq (F : Nat) (Rf20_j3014 : St → Option (AV × List Blk)) (Rf20_j7003 : St → Option (AV × List Blk)) : ∀ v, aexec VG0120 (Af20 F) (sub (bodyOf Try.f20) [1, 1, 0, 0]) (ef20_j2020 v) (kSeq (fun s => Rf20_j3014 (cutTo VG0120 (some [(3, .plain), (9, .plain), (10, .plain), (11, .plain)]) s)) (kSeq (fun s => Rf20_j7003 (cutTo VG0120 (some [(3, .plain)]) s)) (kFin VG0120 none (Try.f20).results.toList))) = f20_n1100 F (fun w => Rf20_j3014 (ef20_j3014 w)) (fun w => Rf20_j7003 (ef20_j7003 w)) v := by
  rintro ⟨t0, x2⟩; kernel_rfl
def f20_n110100 (F : Nat) (kf20_l3012 : (List (List Int)) × Int × Int × (List Int) → Option (AV × List Blk)) (kf20_j7003 : (List Int) → Option (AV × List Blk)) : (List (List Int)) × Int × Int × (List Int) → Option (AV × List Blk) := fun (t9, t10, t11, x4) => (cond (decide (t11 < t10)) (cond ((decide (0 ≤ t11)) && (decide (t11 < (↑t9.length : Int)))) (cond (decide ((t9.getD (Int.toNat t11) []).length < 1073741000)) (cond (decide ((x4.length + (Wire.bytes (t9.getD (Int.toNat t11) [])).length) < 1073741824)) (kf20_l3012 (t9, t10, (IntKind.i64.wrap (t11 + (1 : Int))), (x4 ++ (Wire.bytes (t9.getD (Int.toNat t11) []))))) none) none) none) (kf20_j7003 x4))
theorem f20_n110100_eq (F : Nat) (Rf20_l3012 : St → Option (AV × List Blk)) (Rf20_j7003 : St → Option (AV × List Blk)) : ∀ v, aexec VG0120 (Af20 F) (sub (bodyOf Try.f20) [1, 1, 0, 1, 0, 0]) (ef20_l3012 v) (kSeq (fun s => Rf20_l3012 (cutTo VG0120 (some [(3, .plain), (9, .plain), (10, .plain), (11, .plain)]) s)) (kBlock 0 (kSeq (fun s => Rf20_j7003 (cutTo VG0120 (some [(3, .plain)]) s)) (kFin VG0120 none (Try.f20).results.toList)))) = f20_n110100 F (fun w => Rf20_l3012 (ef20_l3012 w)) (fun w => Rf20_j7003 (ef20_j7003 w)) v := by
  rintro ⟨t9, t10, t11, x4⟩; kernel_rfl
def f20_n11010_i : (List (List Int)) × Int × Int × (List Int) → (List (List Int)) × Int × Int × (List Int) := fun (t9, t10, t11, x4) => (t9, t10, t11, x4)
def f20_n11010 (F : Nat) (kf20_j7003 : (List Int) → Option (AV × List Blk)) : (List (List Int)) × Int × Int × (List Int) → Option (AV × List Blk) := fun v => loopN (fun k => f20_n110100 F k kf20_j7003) F (f20_n11010_i v)
theorem f20_n11010_eq (F : Nat) (Rf20_j7003 : St → Option (AV × List Blk)) : ∀ v, aexec VG0120 (Af20 F) (sub (bodyOf Try.f20) [1, 1, 0, 1, 0]) (ef20_j3014 v) (kBlock 0 (kSeq (fun s => Rf20_j7003 (cutTo VG0120 (some [(3, .plain)]) s)) (kFin VG0120 none (Try.f20).results.toList))) = f20_n11010 F (fun w => Rf20_j7003 (ef20_j7003 w)) v :=
  loop_cut (c := (sub (bodyOf Try.f20) [1, 1, 0, 1, 0])) (d := (sub (bodyOf Try.f20) [1, 1, 0, 1, 0, 0])) (by kernel_rfl) (spec := [(3, .plain), (9, .plain), (10, .plain), (11, .plain)]) (by kernel_rfl) ef20_j3014 ef20_l3012 (kBlock 0 (kSeq (fun s => Rf20_j7003 (cutTo VG0120 (some [(3, .plain)]) s)) (kFin VG0120 none (Try.f20).results.toList))) f20_n11010_i (fun k => f20_n110100 F k (fun w => Rf20_j7003 (ef20_j7003 w)))
    (by rintro ⟨t9, t10, t11, x4⟩; kernel_rfl) (fun Rf20_l3012 => f20_n110100_eq F Rf20_l3012 Rf20_j7003)
def f20_n1101 (F : Nat) (kf20_j7003 : (List Int) → Option (AV × List Blk)) : (List (List Int)) × Int × Int × (List Int) → Option (AV × List Blk) := f20_n11010 F kf20_j7003
theorem f20_n1101_eq (F : Nat) (Rf20_j7003 : St → Option (AV × List Blk)) : ∀ v, aexec VG0120 (Af20 F) (sub (bodyOf Try.f20) [1, 1, 0, 1]) (ef20_j3014 v) (kSeq (fun s => Rf20_j7003 (cutTo VG0120 (some [(3, .plain)]) s)) (kFin VG0120 none (Try.f20).results.toList)) = f20_n1101 F (fun w => Rf20_j7003 (ef20_j7003 w)) v := fun v =>
  (block_in (c := (sub (bodyOf Try.f20) [1, 1, 0, 1])) (d := (sub (bodyOf Try.f20) [1, 1, 0, 1, 0])) (id := 0) (by kernel_rfl) _ _).trans (f20_n11010_eq F Rf20_j7003 v)
def f20_n110 (F : Nat) (kf20_j7003 : (List Int) → Option (AV × List Blk)) : (List (List Int)) × (List Int) → Option (AV × List Blk) := fun v => f20_n1100 F (f20_n1101 F kf20_j7003) kf20_j7003 v
theorem f20_n110_eq (F : Nat) (Rf20_j7003 : St → Option (AV × List Blk)) : ∀ v, aexec VG0120 (Af20 F) (sub (bodyOf Try.f20) [1, 1, 0]) (ef20_j2020 v) (kSeq (fun s => Rf20_j7003 (cutTo VG0120 (some [(3, .plain)]) s)) (kFin VG0120 none (Try.f20).results.toList)) = f20_n110 F (fun w => Rf20_j7003 (ef20_j7003 w)) v :=
  seq_cut (c := (sub (bodyOf Try.f20) [1, 1, 0])) (a := (sub (bodyOf Try.f20) [1, 1, 0, 0])) (b := (sub (bodyOf Try.f20) [1, 1, 0, 1])) (by kernel_rfl) (spec := [(3, .plain), (9, .plain), (10, .plain), (11, .plain)]) (by kernel_rfl) ef20_j2020 ef20_j3014 (kSeq (fun s => Rf20_j7003 (cutTo VG0120 (some [(3, .plain)]) s)) (kFin VG0120 none (Try.f20).results.toList)) (fun k => f20_n1100 F k (fun w => Rf20_j7003 (ef20_j7003 w))) (f20_n1101 F (fun w => Rf20_j7003 (ef20_j7003 w)))
    (fun Rf20_j3014 => f20_n1100_eq F Rf20_j3014 Rf20_j7003) (f20_n1101_eq F Rf20_j7003)
def f20_n111 (F : Nat) : (List Int) → Option (AV × List Blk) := fun x1 => (some ((.own 0 0 1), [(.cells x1.length (.rI .u8 x1) true)]))
theorem f20_n111_eq (F : Nat) : ∀ v, aexec VG0120 (Af20 F) (sub (bodyOf Try.f20) [1, 1, 1]) (ef20_j7003 v) (kFin VG0120 none (Try.f20).results.toList) = f20_n111 F v := by
  intro x1; kernel_rfl
def f20_n11 (F : Nat) : (List (List Int)) × (List Int) → Option (AV × List Blk) := fun v => f20_n110 F (f20_n111 F) v
theorem f20_n11_eq (F : Nat) : ∀ v, aexec VG0120 (Af20 F) (sub (bodyOf Try.f20) [1, 1]) (ef20_j2020 v) (kFin VG0120 none (Try.f20).results.toList) = f20_n11 F v :=
  seq_cut (c := (sub (bodyOf Try.f20) [1, 1])) (a := (sub (bodyOf Try.f20) [1, 1, 0])) (b := (sub (bodyOf Try.f20) [1, 1, 1])) (by kernel_rfl) (spec := [(3, .plain)]) (by kernel_rfl) ef20_j2020 ef20_j7003 (kFin VG0120 none (Try.f20).results.toList) (fun k => f20_n110 F k) (f20_n111 F)
    (fun Rf20_j7003 => f20_n110_eq F Rf20_j7003) (f20_n111_eq F)
def f20_n1 (F : Nat) : (List (List Int)) → Option (AV × List Blk) := fun v => f20_n10 F (f20_n11 F) v
theorem f20_n1_eq (F : Nat) : ∀ v, aexec VG0120 (Af20 F) (sub (bodyOf Try.f20) [1]) (ef20_j1022 v) (kFin VG0120 none (Try.f20).results.toList) = f20_n1 F v :=
  seq_cut (c := (sub (bodyOf Try.f20) [1])) (a := (sub (bodyOf Try.f20) [1, 0])) (b := (sub (bodyOf Try.f20) [1, 1])) (by kernel_rfl) (spec := [(0, .plain), (3, .plain)]) (by kernel_rfl) ef20_j1022 ef20_j2020 (kFin VG0120 none (Try.f20).results.toList) (fun k => f20_n10 F k) (f20_n11 F)
    (fun Rf20_j2020 => f20_n10_eq F Rf20_j2020) (f20_n11_eq F)
def f20_nt (F : Nat) : (List (List Int)) → Option (AV × List Blk) := fun v => f20_n0 F (f20_n1 F) v
theorem f20_nt_eq (F : Nat) : ∀ v, aexec VG0120 (Af20 F) (sub (bodyOf Try.f20) []) (ef20_a v) (kFin VG0120 none (Try.f20).results.toList) = f20_nt F v :=
  seq_cut (c := (sub (bodyOf Try.f20) [])) (a := (sub (bodyOf Try.f20) [0])) (b := (sub (bodyOf Try.f20) [1])) (by kernel_rfl) (spec := [(0, .plain)]) (by kernel_rfl) ef20_a ef20_j1022 (kFin VG0120 none (Try.f20).results.toList) (fun k => f20_n0 F k) (f20_n1 F)
    (fun Rf20_j1022 => f20_n0_eq F Rf20_j1022) (f20_n1_eq F)
/-- gantry/wire.Strings -/
def f20 (F : Nat) : (List (List Int)) → Option (AV × List Blk) := f20_nt F
theorem f20_body (F : Nat) (a0 : List (List Int)) : abody VG0120 (Af20 F) Try.f20 [(.vs (.rS a0) 0 1)] [] = f20 F a0 :=
  (abody_in (c := (sub (bodyOf Try.f20) [])) (by kernel_rfl) (s := ef20_a a0) (by kernel_rfl)).trans (f20_nt_eq F a0)
def r20 : CRun := fun X H => match X, H with
  | [(.vs (.rS a0) 0 1)], [] => some ((decide ((Wire.strs a0).length < 1073741000)), (.own 0 0 1), [(.cells (Wire.strs a0).length (.rI .u8 (Wire.strs a0)) true)])
  | _, _ => none
theorem s20 (a0 : List (List Int)) (hp : ((decide ((Wire.strs a0).length < 1073741000))) = true) (h0 : okV (.vs (.rS a0) 0 1)) : ∃ F, f20 F a0 = some ((.own 0 0 1), [(.cells (Wire.strs a0).length (.rI .u8 (Wire.strs a0)) true)]) := by
  have hl : (Wire.strs a0).length < 1073741000 := of_decide_eq_true hp
  have hl0 := h0.2
  refine ⟨a0.length + 1, ?_⟩
  simp only [f20, f20_nt, f20_n0, f20_n1, f20_n10, f20_n11, f20_n110, f20_n1100, f20_n1101, f20_n11010, f20_n11010_i]
  refine loopN_from (fun i => (a0, (a0.length : Int), (i : Int), Wire.int (a0.length : Int) ++ (a0.take i).flatMap Wire.bytes)) a0.length (by simp) (fun i hi k => ?_) (fun k => ?_) _ (by omega)
  · have e1 := flatMap_take [] Wire.bytes a0 i hi
    have e2 := flatMap_le Wire.bytes a0 (i + 1)
    rw [e1, List.length_append] at e2
    simp only [Wire.strs, List.length_append] at hl
    have e3 : (a0.getD i []).length ≤ (Wire.bytes (a0.getD i [])).length := by simp [Wire.bytes]
    simp only [f20_n110100, dec_and, List.length_append]
    rw [Int.toNat_natCast, cond_pos (by omega), cond_pos (by omega), cond_pos (by omega), cond_pos (by omega), i64w (x := (i : Int) + 1) (by omega) (by omega), List.append_assoc, ← e1]
    rfl
  · simp only [f20_n110100]
    rw [cond_neg (by omega), List.take_length]
    rfl

theorem c20 : CallOk Try.prog G01 20 r20 := callOk_of (V := VG0120) mixed tys eVG0120 (f := 20) (fn := Try.f20) Try.func20 (by kernel_rfl) (c := sub (bodyOf Try.f20) []) (by kernel_rfl) (by
  intro X H r H' h hX hH
  unfold r20 at h; split at h <;> try contradiction
  simp only [Option.some.injEq, Prod.mk.injEq] at h
  obtain ⟨hp, rfl, rfl⟩ := h
  obtain ⟨F, hF⟩ := s20 _ hp (hX _ (.head _))
  exact ⟨Af20 F, (f20_body F _).trans hF⟩)
/-! gantry/gantryref01.Strings -/
def lVG0121 : List CEnt := [(15, [none], r15), (17, [none], r17)]
def VG0121 : Env := mkEnv T01 G01 lVG0121
theorem eVG0121 : EOk Try.prog VG0121 := eok_mk (by exact ⟨c15, c17, trivial⟩)
def Af21 (F : Nat) : Cuts := { F := F, at_ := fun n => match n with | 3010 => some [(0, .plain), (3, .plain), (4, .plain)] | _ => none, join := fun n => match n with | 1020 => some [(0, .plain)] | 2018 => some [(0, .plain), (3, .plain)] | 3012 => some [(0, .plain), (3, .plain), (4, .plain)] | 6003 => some [(3, .plain)] | _ => none }
def ef21_a : (List (List Int)) → St := fun a0 => { tmps := [(0, (.vs (.rS a0) 0 1))], heap := [], next := 0, nt := 22, m := 0 }
def ef21_j1020 : (List (List Int)) → St := fun t0 => { tmps := [(0, (.vs (.rS t0) 0 1))], heap := [], next := 0, nt := 22, m := 0 }
def ef21_j2018 : (List (List Int)) × (List Int) → St := fun (t0, x2) => { tmps := [(0, (.vs (.rS t0) 0 1)), (3, (.own 0 0 1))], heap := [(0, (.cells x2.length (.rI .u8 x2) true))], next := 1, nt := 22, m := 0 }
def ef21_j3012 : (List (List Int)) × Int × (List Int) → St := fun (t0, t4, x3) => { tmps := [(0, (.vs (.rS t0) 0 1)), (3, (.own 0 0 1)), (4, (.int .i64 t4))], heap := [(0, (.cells x3.length (.rI .u8 x3) true))], next := 1, nt := 22, m := 0 }
def ef21_l3010 : (List (List Int)) × Int × (List Int) → St := fun (t0, t4, x3) => { tmps := [(0, (.vs (.rS t0) 0 1)), (3, (.own 0 0 1)), (4, (.int .i64 t4))], heap := [(0, (.cells x3.length (.rI .u8 x3) true))], next := 1, nt := 22, m := 0 }
def ef21_j6003 : (List Int) → St := fun x1 => { tmps := [(3, (.own 0 0 1))], heap := [(0, (.cells x1.length (.rI .u8 x1) true))], next := 1, nt := 22, m := 0 }
def f21_n0 (F : Nat) (kf21_j1020 : (List (List Int)) → Option (AV × List Blk)) : (List (List Int)) → Option (AV × List Blk) := fun a0 => (kf21_j1020 a0)
theorem f21_n0_eq (F : Nat) (Rf21_j1020 : St → Option (AV × List Blk)) : ∀ v, aexec VG0121 (Af21 F) (sub (bodyOf Try.f21) [0]) (ef21_a v) (kSeq (fun s => Rf21_j1020 (cutTo VG0121 (some [(0, .plain)]) s)) (kFin VG0121 none (Try.f21).results.toList)) = f21_n0 F (fun w => Rf21_j1020 (ef21_j1020 w)) v := by
  intro a0; kernel_rfl
def f21_n10 (F : Nat) (kf21_j2018 : (List (List Int)) × (List Int) → Option (AV × List Blk)) : (List (List Int)) → Option (AV × List Blk) := fun t0 => (kf21_j2018 (t0, (Wire.int (↑t0.length : Int))))
theorem f21_n10_eq (F : Nat) (Rf21_j2018 : St → Option (AV × List Blk)) : ∀ v, aexec VG0121 (Af21 F) (sub (bodyOf Try.f21) [1, 0]) (ef21_j1020 v) (kSeq (fun s => Rf21_j2018 (cutTo VG0121 (some [(0, .plain), (3, .plain)]) s)) (kFin VG0121 none (Try.f21).results.toList)) = f21_n10 F (fun w => Rf21_j2018 (ef21_j2018 w)) v := by
  intro t0; kernel_rfl
def f21_n1100 (F : Nat) (kf21_j3012 : (List (List Int)) × Int × (List Int) → Option (AV × List Blk)) (kf21_j6003 : (List Int) → Option (AV × List Blk)) : (List (List Int)) × (List Int) → Option (AV × List Blk) := fun (t0, x2) => (kf21_j3012 (t0, (0 : Int), x2))
theorem f21_n1100_eq (F : Nat) (Rf21_j3012 : St → Option (AV × List Blk)) (Rf21_j6003 : St → Option (AV × List Blk)) : ∀ v, aexec VG0121 (Af21 F) (sub (bodyOf Try.f21) [1, 1, 0, 0]) (ef21_j2018 v) (kSeq (fun s => Rf21_j3012 (cutTo VG0121 (some [(0, .plain), (3, .plain), (4, .plain)]) s)) (kSeq (fun s => Rf21_j6003 (cutTo VG0121 (some [(3, .plain)]) s)) (kFin VG0121 none (Try.f21).results.toList))) = f21_n1100 F (fun w => Rf21_j3012 (ef21_j3012 w)) (fun w => Rf21_j6003 (ef21_j6003 w)) v := by
  rintro ⟨t0, x2⟩; kernel_rfl
def f21_n110100 (F : Nat) (kf21_l3010 : (List (List Int)) × Int × (List Int) → Option (AV × List Blk)) (kf21_j6003 : (List Int) → Option (AV × List Blk)) : (List (List Int)) × Int × (List Int) → Option (AV × List Blk) := fun (t0, t4, x3) => (cond (decide (t4 < (↑t0.length : Int))) (cond ((decide (0 ≤ t4)) && (decide (t4 < (↑t0.length : Int)))) (cond (decide ((t0.getD (Int.toNat t4) []).length < 1073741000)) (cond (decide ((x3.length + (Wire.bytes (t0.getD (Int.toNat t4) [])).length) < 1073741824)) (kf21_l3010 (t0, (IntKind.i64.wrap (t4 + (1 : Int))), (x3 ++ (Wire.bytes (t0.getD (Int.toNat t4) []))))) none) none) none) (kf21_j6003 x3))
theorem f21_n110100_eq (F : Nat) (Rf21_l3010 : St → Option (AV × List Blk)) (Rf21_j6003 : St → Option (AV × List Blk)) : ∀ v, aexec VG0121 (Af21 F) (sub (bodyOf Try.f21) [1, 1, 0, 1, 0, 0]) (ef21_l3010 v) (kSeq (fun s => Rf21_l3010 (cutTo VG0121 (some [(0, .plain), (3, .plain), (4, .plain)]) s)) (kBlock 0 (kSeq (fun s => Rf21_j6003 (cutTo VG0121 (some [(3, .plain)]) s)) (kFin VG0121 none (Try.f21).results.toList)))) = f21_n110100 F (fun w => Rf21_l3010 (ef21_l3010 w)) (fun w => Rf21_j6003 (ef21_j6003 w)) v := by
  rintro ⟨t0, t4, x3⟩; kernel_rfl
def f21_n11010_i : (List (List Int)) × Int × (List Int) → (List (List Int)) × Int × (List Int) := fun (t0, t4, x3) => (t0, t4, x3)
def f21_n11010 (F : Nat) (kf21_j6003 : (List Int) → Option (AV × List Blk)) : (List (List Int)) × Int × (List Int) → Option (AV × List Blk) := fun v => loopN (fun k => f21_n110100 F k kf21_j6003) F (f21_n11010_i v)
theorem f21_n11010_eq (F : Nat) (Rf21_j6003 : St → Option (AV × List Blk)) : ∀ v, aexec VG0121 (Af21 F) (sub (bodyOf Try.f21) [1, 1, 0, 1, 0]) (ef21_j3012 v) (kBlock 0 (kSeq (fun s => Rf21_j6003 (cutTo VG0121 (some [(3, .plain)]) s)) (kFin VG0121 none (Try.f21).results.toList))) = f21_n11010 F (fun w => Rf21_j6003 (ef21_j6003 w)) v :=
  loop_cut (c := (sub (bodyOf Try.f21) [1, 1, 0, 1, 0])) (d := (sub (bodyOf Try.f21) [1, 1, 0, 1, 0, 0])) (by kernel_rfl) (spec := [(0, .plain), (3, .plain), (4, .plain)]) (by kernel_rfl) ef21_j3012 ef21_l3010 (kBlock 0 (kSeq (fun s => Rf21_j6003 (cutTo VG0121 (some [(3, .plain)]) s)) (kFin VG0121 none (Try.f21).results.toList))) f21_n11010_i (fun k => f21_n110100 F k (fun w => Rf21_j6003 (ef21_j6003 w)))
    (by rintro ⟨t0, t4, x3⟩; kernel_rfl) (fun Rf21_l3010 => f21_n110100_eq F Rf21_l3010 Rf21_j6003)
def f21_n1101 (F : Nat) (kf21_j6003 : (List Int) → Option (AV × List Blk)) : (List (List Int)) × Int × (List Int) → Option (AV × List Blk) := f21_n11010 F kf21_j6003
theorem f21_n1101_eq (F : Nat) (Rf21_j6003 : St → Option (AV × List Blk)) : ∀ v, aexec VG0121 (Af21 F) (sub (bodyOf Try.f21) [1, 1, 0, 1]) (ef21_j3012 v) (kSeq (fun s => Rf21_j6003 (cutTo VG0121 (some [(3, .plain)]) s)) (kFin VG0121 none (Try.f21).results.toList)) = f21_n1101 F (fun w => Rf21_j6003 (ef21_j6003 w)) v := fun v =>
  (block_in (c := (sub (bodyOf Try.f21) [1, 1, 0, 1])) (d := (sub (bodyOf Try.f21) [1, 1, 0, 1, 0])) (id := 0) (by kernel_rfl) _ _).trans (f21_n11010_eq F Rf21_j6003 v)
def f21_n110 (F : Nat) (kf21_j6003 : (List Int) → Option (AV × List Blk)) : (List (List Int)) × (List Int) → Option (AV × List Blk) := fun v => f21_n1100 F (f21_n1101 F kf21_j6003) kf21_j6003 v
theorem f21_n110_eq (F : Nat) (Rf21_j6003 : St → Option (AV × List Blk)) : ∀ v, aexec VG0121 (Af21 F) (sub (bodyOf Try.f21) [1, 1, 0]) (ef21_j2018 v) (kSeq (fun s => Rf21_j6003 (cutTo VG0121 (some [(3, .plain)]) s)) (kFin VG0121 none (Try.f21).results.toList)) = f21_n110 F (fun w => Rf21_j6003 (ef21_j6003 w)) v :=
  seq_cut (c := (sub (bodyOf Try.f21) [1, 1, 0])) (a := (sub (bodyOf Try.f21) [1, 1, 0, 0])) (b := (sub (bodyOf Try.f21) [1, 1, 0, 1])) (by kernel_rfl) (spec := [(0, .plain), (3, .plain), (4, .plain)]) (by kernel_rfl) ef21_j2018 ef21_j3012 (kSeq (fun s => Rf21_j6003 (cutTo VG0121 (some [(3, .plain)]) s)) (kFin VG0121 none (Try.f21).results.toList)) (fun k => f21_n1100 F k (fun w => Rf21_j6003 (ef21_j6003 w))) (f21_n1101 F (fun w => Rf21_j6003 (ef21_j6003 w)))
    (fun Rf21_j3012 => f21_n1100_eq F Rf21_j3012 Rf21_j6003) (f21_n1101_eq F Rf21_j6003)
def f21_n111 (F : Nat) : (List Int) → Option (AV × List Blk) := fun x1 => (some ((.own 0 0 1), [(.cells x1.length (.rI .u8 x1) true)]))
theorem f21_n111_eq (F : Nat) : ∀ v, aexec VG0121 (Af21 F) (sub (bodyOf Try.f21) [1, 1, 1]) (ef21_j6003 v) (kFin VG0121 none (Try.f21).results.toList) = f21_n111 F v := by
  intro x1; kernel_rfl
def f21_n11 (F : Nat) : (List (List Int)) × (List Int) → Option (AV × List Blk) := fun v => f21_n110 F (f21_n111 F) v
theorem f21_n11_eq (F : Nat) : ∀ v, aexec VG0121 (Af21 F) (sub (bodyOf Try.f21) [1, 1]) (ef21_j2018 v) (kFin VG0121 none (Try.f21).results.toList) = f21_n11 F v :=
  seq_cut (c := (sub (bodyOf Try.f21) [1, 1])) (a := (sub (bodyOf Try.f21) [1, 1, 0])) (b := (sub (bodyOf Try.f21) [1, 1, 1])) (by kernel_rfl) (spec := [(3, .plain)]) (by kernel_rfl) ef21_j2018 ef21_j6003 (kFin VG0121 none (Try.f21).results.toList) (fun k => f21_n110 F k) (f21_n111 F)
    (fun Rf21_j6003 => f21_n110_eq F Rf21_j6003) (f21_n111_eq F)
def f21_n1 (F : Nat) : (List (List Int)) → Option (AV × List Blk) := fun v => f21_n10 F (f21_n11 F) v
theorem f21_n1_eq (F : Nat) : ∀ v, aexec VG0121 (Af21 F) (sub (bodyOf Try.f21) [1]) (ef21_j1020 v) (kFin VG0121 none (Try.f21).results.toList) = f21_n1 F v :=
  seq_cut (c := (sub (bodyOf Try.f21) [1])) (a := (sub (bodyOf Try.f21) [1, 0])) (b := (sub (bodyOf Try.f21) [1, 1])) (by kernel_rfl) (spec := [(0, .plain), (3, .plain)]) (by kernel_rfl) ef21_j1020 ef21_j2018 (kFin VG0121 none (Try.f21).results.toList) (fun k => f21_n10 F k) (f21_n11 F)
    (fun Rf21_j2018 => f21_n10_eq F Rf21_j2018) (f21_n11_eq F)
def f21_nt (F : Nat) : (List (List Int)) → Option (AV × List Blk) := fun v => f21_n0 F (f21_n1 F) v
theorem f21_nt_eq (F : Nat) : ∀ v, aexec VG0121 (Af21 F) (sub (bodyOf Try.f21) []) (ef21_a v) (kFin VG0121 none (Try.f21).results.toList) = f21_nt F v :=
  seq_cut (c := (sub (bodyOf Try.f21) [])) (a := (sub (bodyOf Try.f21) [0])) (b := (sub (bodyOf Try.f21) [1])) (by kernel_rfl) (spec := [(0, .plain)]) (by kernel_rfl) ef21_a ef21_j1020 (kFin VG0121 none (Try.f21).results.toList) (fun k => f21_n0 F k) (f21_n1 F)
    (fun Rf21_j1020 => f21_n0_eq F Rf21_j1020) (f21_n1_eq F)
/-- gantry/gantryref01.Strings -/
def f21 (F : Nat) : (List (List Int)) → Option (AV × List Blk) := f21_nt F
theorem f21_body (F : Nat) (a0 : List (List Int)) : abody VG0121 (Af21 F) Try.f21 [(.vs (.rS a0) 0 1)] [] = f21 F a0 :=
  (abody_in (c := (sub (bodyOf Try.f21) [])) (by kernel_rfl) (s := ef21_a a0) (by kernel_rfl)).trans (f21_nt_eq F a0)
def r21 : CRun := fun X H => match X, H with
  | [(.vs (.rS a0) 0 1)], [] => some ((decide ((Wire.strs a0).length < 1073741000)), (.own 0 0 1), [(.cells (Wire.strs a0).length (.rI .u8 (Wire.strs a0)) true)])
  | _, _ => none
theorem s21 (a0 : List (List Int)) (hp : ((decide ((Wire.strs a0).length < 1073741000))) = true) (h0 : okV (.vs (.rS a0) 0 1)) : ∃ F, f21 F a0 = some ((.own 0 0 1), [(.cells (Wire.strs a0).length (.rI .u8 (Wire.strs a0)) true)]) := by
  have hl : (Wire.strs a0).length < 1073741000 := of_decide_eq_true hp
  have hl0 := h0.2
  refine ⟨a0.length + 1, ?_⟩
  simp only [f21, f21_nt, f21_n0, f21_n1, f21_n10, f21_n11, f21_n110, f21_n1100, f21_n1101, f21_n11010, f21_n11010_i]
  refine loopN_from (fun i => (a0, (i : Int), Wire.int (a0.length : Int) ++ (a0.take i).flatMap Wire.bytes)) a0.length (by simp) (fun i hi k => ?_) (fun k => ?_) _ (by omega)
  · have e1 := flatMap_take [] Wire.bytes a0 i hi
    have e2 := flatMap_le Wire.bytes a0 (i + 1)
    rw [e1, List.length_append] at e2
    simp only [Wire.strs, List.length_append] at hl
    have e3 : (a0.getD i []).length ≤ (Wire.bytes (a0.getD i [])).length := by simp [Wire.bytes]
    simp only [f21_n110100, dec_and, List.length_append]
    rw [Int.toNat_natCast, cond_pos (by omega), cond_pos (by omega), cond_pos (by omega), cond_pos (by omega), i64w (x := (i : Int) + 1) (by omega) (by omega), List.append_assoc, ← e1]
    rfl
  · simp only [f21_n110100]
    rw [cond_neg (by omega), List.take_length]
    rfl

theorem c21 : CallOk Try.prog G01 21 r21 := callOk_of (V := VG0121) mixed tys eVG0121 (f := 21) (fn := Try.f21) Try.func21 (by kernel_rfl) (c := sub (bodyOf Try.f21) []) (by kernel_rfl) (by
  intro X H r H' h hX hH
  unfold r21 at h; split at h <;> try contradiction
  simp only [Option.some.injEq, Prod.mk.injEq] at h
  obtain ⟨hp, rfl, rfl⟩ := h
  obtain ⟨F, hF⟩ := s21 _ hp (hX _ (.head _))
  exact ⟨Af21 F, (f21_body F _).trans hF⟩)
/-! gantry/wire.Digests -/
def lVG0122 : List CEnt := [(14, [none], r14)]
def VG0122 : Env := mkEnv T01 G01 lVG0122
theorem eVG0122 : EOk Try.prog VG0122 := eok_mk (by exact ⟨c14, trivial⟩)
def Af22 (F : Nat) : Cuts := { F := F, at_ := fun n => match n with | 3012 => some [(3, .plain), (9, .plain), (10, .plain), (11, .plain)] | _ => none, join := fun n => match n with | 1022 => some [(0, .plain)] | 2020 => some [(0, .plain), (3, .plain)] | 3014 => some [(3, .plain), (9, .plain), (10, .plain), (11, .plain)] | 7003 => some [(3, .plain)] | _ => none }
def ef22_a : (List Int) × Nat → St := fun (a0, a0n) => { tmps := [(0, (.vs (.rI .u8 a0) a0n 16))], heap := [], next := 0, nt := 20, m := 0 }
def ef22_j1022 : (List Int) × Nat → St := fun (t0, x2) => { tmps := [(0, (.vs (.rI .u8 t0) x2 16))], heap := [], next := 0, nt := 20, m := 0 }
def ef22_j2020 : (List Int) × Nat × (List Int) → St := fun (t0, x2, x3) => { tmps := [(0, (.vs (.rI .u8 t0) x2 16)), (3, (.own 0 0 1))], heap := [(0, (.cells x3.length (.rI .u8 x3) true))], next := 1, nt := 20, m := 0 }
def ef22_j3014 : (List Int) × Nat × Int × Int × (List Int) → St := fun (t9, x2, t10, t11, x5) => { tmps := [(3, (.own 0 0 1)), (9, (.vs (.rI .u8 t9) x2 16)), (10, (.int .i64 t10)), (11, (.int .i64 t11))], heap := [(0, (.cells x5.length (.rI .u8 x5) true))], next := 1, nt := 20, m := 0 }
def ef22_l3012 : (List Int) × Nat × Int × Int × (List Int) → St := fun (t9, x2, t10, t11, x5) => { tmps := [(3, (.own 0 0 1)), (9, (.vs (.rI .u8 t9) x2 16)), (10, (.int .i64 t10)), (11, (.int .i64 t11))], heap := [(0, (.cells x5.length (.rI .u8 x5) true))], next := 1, nt := 20, m := 0 }
def ef22_j7003 : (List Int) → St := fun x1 => { tmps := [(3, (.own 0 0 1))], heap := [(0, (.cells x1.length (.rI .u8 x1) true))], next := 1, nt := 20, m := 0 }
def f22_n0 (F : Nat) (kf22_j1022 : (List Int) × Nat → Option (AV × List Blk)) : (List Int) × Nat → Option (AV × List Blk) := fun (a0, a0n) => (kf22_j1022 (a0, a0n))
theorem f22_n0_eq (F : Nat) (Rf22_j1022 : St → Option (AV × List Blk)) : ∀ v, aexec VG0122 (Af22 F) (sub (bodyOf Try.f22) [0]) (ef22_a v) (kSeq (fun s => Rf22_j1022 (cutTo VG0122 (some [(0, .plain)]) s)) (kFin VG0122 none (Try.f22).results.toList)) = f22_n0 F (fun w => Rf22_j1022 (ef22_j1022 w)) v := by
  rintro ⟨a0, a0n⟩; kernel_rfl
def f22_n10 (F : Nat) (kf22_j2020 : (List Int) × Nat × (List Int) → Option (AV × List Blk)) : (List Int) × Nat → Option (AV × List Blk) := fun (t0, x2) => (kf22_j2020 (t0, x2, (Wire.int (↑x2 : Int))))
theorem f22_n10_eq (F : Nat) (Rf22_j2020 : St → Option (AV × List Blk)) : ∀ v, aexec VG0122 (Af22 F) (sub (bodyOf Try.f22) [1, 0]) (ef22_j1022 v) (kSeq (fun s => Rf22_j2020 (cutTo VG0122 (some [(0, .plain), (3, .plain)]) s)) (kFin VG0122 none (Try.f22).results.toList)) = f22_n10 F (fun w => Rf22_j2020 (ef22_j2020 w)) v := by
  rintro ⟨t0, x2⟩; kernel_rfl
def f22_n1100 (F : Nat) (kf22_j3014 : (List Int) × Nat × Int × Int × (List Int) → Option (AV × List Blk)) (kf22_j7003 : (List Int) → Option (AV × List Blk)) : (List Int) × Nat × (List Int) → Option (AV × List Blk) := fun (t0, x2, x3) => (kf22_j3014 (t0, x2, (↑x2 : Int), (0 : Int), x3))
theorem f22_n1100_eq (F : Nat) (Rf22_j3014 : St → Option (AV × List Blk)) (Rf22_j7003 : St → Option (AV × List Blk)) : ∀ v, aexec VG0122 (Af22 F) (sub (bodyOf Try.f22) [1, 1, 0, 0]) (ef22_j2020 v) (kSeq (fun s => Rf22_j3014 (cutTo VG0122 (some [(3, .plain), (9, .plain), (10, .plain), (11, .plain)]) s)) (kSeq (fun s => Rf22_j7003 (cutTo VG0122 (some [(3, .plain)]) s)) (kFin VG0122 none (Try.f22).results.toList))) = f22_n1100 F (fun w => Rf22_j3014 (ef22_j3014 w)) (fun w => Rf22_j7003 (ef22_j7003 w)) v := by
  rintro ⟨t0, x2, x3⟩; kernel_rfl
def f22_n110100 (F : Nat) (kf22_l3012 : (List Int) × Nat × Int × Int × (List Int) → Option (AV × List Blk)) (kf22_j7003 : (List Int) → Option (AV × List Blk)) : (List Int) × Nat × Int × Int × (List Int) → Option (AV × List Blk) := fun (t9, x2, t10, t11, x5) => (cond (decide (t11 < t10)) (cond ((decide (0 ≤ t11)) && (decide (t11 < (↑x2 : Int)))) (cond (decide ((x5.length + 16) < 1073741824)) (kf22_l3012 (t9, x2, t10, (IntKind.i64.wrap (t11 + (1 : Int))), (x5 ++ (((t9.drop ((Int.toNat t11) * 16)).take 16).take 16)))) none) none) (kf22_j7003 x5))
theorem f22_n110100_eq (F : Nat) (Rf22_l3012 : St → Option (AV × List Blk)) (Rf22_j7003 : St → Option (AV × List Blk)) : ∀ v, aexec VG0122 (Af22 F) (sub (bodyOf Try.f22) [1, 1, 0, 1, 0, 0]) (ef22_l3012 v) (kSeq (fun s => Rf22_l3012 (cutTo VG0122 (some [(3, .plain), (9, .plain), (10, .plain), (11, .plain)]) s)) (kBlock 0 (kSeq (fun s => Rf22_j7003 (cutTo VG0122 (some [(3, .plain)]) s)) (kFin VG0122 none (Try.f22).results.toList)))) = f22_n110100 F (fun w => Rf22_l3012 (ef22_l3012 w)) (fun w => Rf22_j7003 (ef22_j7003 w)) v := by
  rintro ⟨t9, x2, t10, t11, x5⟩; kernel_rfl
def f22_n11010_i : (List Int) × Nat × Int × Int × (List Int) → (List Int) × Nat × Int × Int × (List Int) := fun (t9, x2, t10, t11, x5) => (t9, x2, t10, t11, x5)
def f22_n11010 (F : Nat) (kf22_j7003 : (List Int) → Option (AV × List Blk)) : (List Int) × Nat × Int × Int × (List Int) → Option (AV × List Blk) := fun v => loopN (fun k => f22_n110100 F k kf22_j7003) F (f22_n11010_i v)
theorem f22_n11010_eq (F : Nat) (Rf22_j7003 : St → Option (AV × List Blk)) : ∀ v, aexec VG0122 (Af22 F) (sub (bodyOf Try.f22) [1, 1, 0, 1, 0]) (ef22_j3014 v) (kBlock 0 (kSeq (fun s => Rf22_j7003 (cutTo VG0122 (some [(3, .plain)]) s)) (kFin VG0122 none (Try.f22).results.toList))) = f22_n11010 F (fun w => Rf22_j7003 (ef22_j7003 w)) v :=
  loop_cut (c := (sub (bodyOf Try.f22) [1, 1, 0, 1, 0])) (d := (sub (bodyOf Try.f22) [1, 1, 0, 1, 0, 0])) (by kernel_rfl) (spec := [(3, .plain), (9, .plain), (10, .plain), (11, .plain)]) (by kernel_rfl) ef22_j3014 ef22_l3012 (kBlock 0 (kSeq (fun s => Rf22_j7003 (cutTo VG0122 (some [(3, .plain)]) s)) (kFin VG0122 none (Try.f22).results.toList))) f22_n11010_i (fun k => f22_n110100 F k (fun w => Rf22_j7003 (ef22_j7003 w)))
    (by rintro ⟨t9, x2, t10, t11, x5⟩; kernel_rfl) (fun Rf22_l3012 => f22_n110100_eq F Rf22_l3012 Rf22_j7003)
def f22_n1101 (F : Nat) (kf22_j7003 : (List Int) → Option (AV × List Blk)) : (List Int) × Nat × Int × Int × (List Int) → Option (AV × List Blk) := f22_n11010 F kf22_j7003
theorem f22_n1101_eq (F : Nat) (Rf22_j7003 : St → Option (AV × List Blk)) : ∀ v, aexec VG0122 (Af22 F) (sub (bodyOf Try.f22) [1, 1, 0, 1]) (ef22_j3014 v) (kSeq (fun s => Rf22_j7003 (cutTo VG0122 (some [(3, .plain)]) s)) (kFin VG0122 none (Try.f22).results.toList)) = f22_n1101 F (fun w => Rf22_j7003 (ef22_j7003 w)) v := fun v =>
  (block_in (c := (sub (bodyOf Try.f22) [1, 1, 0, 1])) (d := (sub (bodyOf Try.f22) [1, 1, 0, 1, 0])) (id := 0) (by kernel_rfl) _ _).trans (f22_n11010_eq F Rf22_j7003 v)
def f22_n110 (F : Nat) (kf22_j7003 : (List Int) → Option (AV × List Blk)) : (List Int) × Nat × (List Int) → Option (AV × List Blk) := fun v => f22_n1100 F (f22_n1101 F kf22_j7003) kf22_j7003 v
theorem f22_n110_eq (F : Nat) (Rf22_j7003 : St → Option (AV × List Blk)) : ∀ v, aexec VG0122 (Af22 F) (sub (bodyOf Try.f22) [1, 1, 0]) (ef22_j2020 v) (kSeq (fun s => Rf22_j7003 (cutTo VG0122 (some [(3, .plain)]) s)) (kFin VG0122 none (Try.f22).results.toList)) = f22_n110 F (fun w => Rf22_j7003 (ef22_j7003 w)) v :=
  seq_cut (c := (sub (bodyOf Try.f22) [1, 1, 0])) (a := (sub (bodyOf Try.f22) [1, 1, 0, 0])) (b := (sub (bodyOf Try.f22) [1, 1, 0, 1])) (by kernel_rfl) (spec := [(3, .plain), (9, .plain), (10, .plain), (11, .plain)]) (by kernel_rfl) ef22_j2020 ef22_j3014 (kSeq (fun s => Rf22_j7003 (cutTo VG0122 (some [(3, .plain)]) s)) (kFin VG0122 none (Try.f22).results.toList)) (fun k => f22_n1100 F k (fun w => Rf22_j7003 (ef22_j7003 w))) (f22_n1101 F (fun w => Rf22_j7003 (ef22_j7003 w)))
    (fun Rf22_j3014 => f22_n1100_eq F Rf22_j3014 Rf22_j7003) (f22_n1101_eq F Rf22_j7003)
def f22_n111 (F : Nat) : (List Int) → Option (AV × List Blk) := fun x1 => (some ((.own 0 0 1), [(.cells x1.length (.rI .u8 x1) true)]))
theorem f22_n111_eq (F : Nat) : ∀ v, aexec VG0122 (Af22 F) (sub (bodyOf Try.f22) [1, 1, 1]) (ef22_j7003 v) (kFin VG0122 none (Try.f22).results.toList) = f22_n111 F v := by
  intro x1; kernel_rfl
def f22_n11 (F : Nat) : (List Int) × Nat × (List Int) → Option (AV × List Blk) := fun v => f22_n110 F (f22_n111 F) v
theorem f22_n11_eq (F : Nat) : ∀ v, aexec VG0122 (Af22 F) (sub (bodyOf Try.f22) [1, 1]) (ef22_j2020 v) (kFin VG0122 none (Try.f22).results.toList) = f22_n11 F v :=
  seq_cut (c := (sub (bodyOf Try.f22) [1, 1])) (a := (sub (bodyOf Try.f22) [1, 1, 0])) (b := (sub (bodyOf Try.f22) [1, 1, 1])) (by kernel_rfl) (spec := [(3, .plain)]) (by kernel_rfl) ef22_j2020 ef22_j7003 (kFin VG0122 none (Try.f22).results.toList) (fun k => f22_n110 F k) (f22_n111 F)
    (fun Rf22_j7003 => f22_n110_eq F Rf22_j7003) (f22_n111_eq F)
def f22_n1 (F : Nat) : (List Int) × Nat → Option (AV × List Blk) := fun v => f22_n10 F (f22_n11 F) v
theorem f22_n1_eq (F : Nat) : ∀ v, aexec VG0122 (Af22 F) (sub (bodyOf Try.f22) [1]) (ef22_j1022 v) (kFin VG0122 none (Try.f22).results.toList) = f22_n1 F v :=
  seq_cut (c := (sub (bodyOf Try.f22) [1])) (a := (sub (bodyOf Try.f22) [1, 0])) (b := (sub (bodyOf Try.f22) [1, 1])) (by kernel_rfl) (spec := [(0, .plain), (3, .plain)]) (by kernel_rfl) ef22_j1022 ef22_j2020 (kFin VG0122 none (Try.f22).results.toList) (fun k => f22_n10 F k) (f22_n11 F)
    (fun Rf22_j2020 => f22_n10_eq F Rf22_j2020) (f22_n11_eq F)
def f22_nt (F : Nat) : (List Int) × Nat → Option (AV × List Blk) := fun v => f22_n0 F (f22_n1 F) v
theorem f22_nt_eq (F : Nat) : ∀ v, aexec VG0122 (Af22 F) (sub (bodyOf Try.f22) []) (ef22_a v) (kFin VG0122 none (Try.f22).results.toList) = f22_nt F v :=
  seq_cut (c := (sub (bodyOf Try.f22) [])) (a := (sub (bodyOf Try.f22) [0])) (b := (sub (bodyOf Try.f22) [1])) (by kernel_rfl) (spec := [(0, .plain)]) (by kernel_rfl) ef22_a ef22_j1022 (kFin VG0122 none (Try.f22).results.toList) (fun k => f22_n0 F k) (f22_n1 F)
    (fun Rf22_j1022 => f22_n0_eq F Rf22_j1022) (f22_n1_eq F)
/-- gantry/wire.Digests -/
def f22 (F : Nat) : (List Int) × Nat → Option (AV × List Blk) := f22_nt F
theorem f22_body (F : Nat) (a0 : List Int) (a0n : Nat) : abody VG0122 (Af22 F) Try.f22 [(.vs (.rI .u8 a0) a0n 16)] [] = f22 F (a0, a0n) :=
  (abody_in (c := (sub (bodyOf Try.f22) [])) (by kernel_rfl) (s := ef22_a (a0, a0n)) (by kernel_rfl)).trans (f22_nt_eq F (a0, a0n))
def r22 : CRun := fun X H => match X, H with
  | [(.vs (.rI .u8 a0) a0n 16)], [] => some ((decide (a0.length < 1073741000)), (.own 0 0 1), [(.cells (Wire.digs a0n a0).length (.rI .u8 (Wire.digs a0n a0)) true)])
  | _, _ => none
theorem s22 (a0 : List Int) (a0n : Nat) (hp : ((decide (a0.length < 1073741000))) = true) (h0 : okV (.vs (.rI .u8 a0) a0n 16)) : ∃ F, f22 F (a0, a0n) = some ((.own 0 0 1), [(.cells (Wire.digs a0n a0).length (.rI .u8 (Wire.digs a0n a0)) true)]) := by
  have hl : a0.length < 1073741000 := of_decide_eq_true hp
  have hn : a0.length = a0n * 16 := h0.2.1
  have hk := Wire.nb_le (Wire.mag (a0n : Int))
  refine ⟨a0n + 1, ?_⟩
  simp only [f22, f22_nt, f22_n0, f22_n1, f22_n10, f22_n11, f22_n110, f22_n1100, f22_n1101, f22_n11010, f22_n11010_i]
  refine loopN_from (fun i => (a0, a0n, (a0n : Int), (i : Int), Wire.int (a0n : Int) ++ a0.take (i * 16))) a0n (by simp) (fun i hi k => ?_) (fun k => ?_) _ (by omega)
  · simp only [f22_n110100, dec_and, List.length_append, List.length_take, Wire.int_len]
    have e1 : a0.take ((i + 1) * 16) = a0.take (i * 16) ++ (a0.drop (i * 16)).take 16 := by rw [show (i + 1) * 16 = i * 16 + 16 by omega, List.take_add]
    rw [Int.toNat_natCast, cond_pos (by omega), cond_pos (by omega), cond_pos (by omega), i64w (x := (i : Int) + 1) (by omega) (by omega), List.take_take, Nat.min_self, List.append_assoc, ← e1]
    rfl
  · simp only [f22_n110100]
    rw [cond_neg (by omega), List.take_of_length_le (by omega)]
    rfl

theorem c22 : CallOk Try.prog G01 22 r22 := callOk_of (V := VG0122) mixed tys eVG0122 (f := 22) (fn := Try.f22) Try.func22 (by kernel_rfl) (c := sub (bodyOf Try.f22) []) (by kernel_rfl) (by
  intro X H r H' h hX hH
  unfold r22 at h; split at h <;> try contradiction
  simp only [Option.some.injEq, Prod.mk.injEq] at h
  obtain ⟨hp, rfl, rfl⟩ := h
  obtain ⟨F, hF⟩ := s22 _ _ hp (hX _ (.head _))
  exact ⟨Af22 F, (f22_body F _ _).trans hF⟩)
/-! gantry/gantryref01.Digests -/
def lVG0123 : List CEnt := [(15, [none], r15)]
def VG0123 : Env := mkEnv T01 G01 lVG0123
theorem eVG0123 : EOk Try.prog VG0123 := eok_mk (by exact ⟨c15, trivial⟩)
def Af23 (F : Nat) : Cuts := { F := F, at_ := fun n => match n with | 3023 => some [(0, .plain), (3, .plain), (4, .plain)] | 6010 => some [(0, .plain), (3, .plain), (4, .plain), (5, .plain)] | _ => none, join := fun n => match n with | 1033 => some [(0, .plain)] | 2031 => some [(0, .plain), (3, .plain)] | 3025 => some [(0, .plain), (3, .plain), (4, .plain)] | 4001 => some [(0, .plain), (3, .plain), (4, .plain)] | 5017 => some [(0, .plain), (3, .plain), (4, .plain)] | 6012 => some [(0, .plain), (3, .plain), (4, .plain), (5, .plain)] | 9003 => some [(3, .plain)] | _ => none }
def ef23_a : (List Int) × Nat → St := fun (a0, a0n) => { tmps := [(0, (.vs (.rI .u8 a0) a0n 16))], heap := [], next := 0, nt := 29, m := 0 }
def ef23_j1033 : (List Int) × Nat → St := fun (t0, x2) => { tmps := [(0, (.vs (.rI .u8 t0) x2 16))], heap := [], next := 0, nt := 29, m := 0 }
def ef23_j2031 : (List Int) × Nat × (List Int) → St := fun (t0, x2, x3) => { tmps := [(0, (.vs (.rI .u8 t0) x2 16)), (3, (.own 0 0 1))], heap := [(0, (.cells x3.length (.rI .u8 x3) true))], next := 1, nt := 29, m := 0 }
def ef23_j3025 : (List Int) × Nat × Int × (List Int) → St := fun (t0, x2, t4, x4) => { tmps := [(0, (.vs (.rI .u8 t0) x2 16)), (3, (.own 0 0 1)), (4, (.int .i64 t4))], heap := [(0, (.cells x4.length (.rI .u8 x4) true))], next := 1, nt := 29, m := 0 }
def ef23_l3023 : (List Int) × Nat × Int × (List Int) → St := fun (t0, x2, t4, x4) => { tmps := [(0, (.vs (.rI .u8 t0) x2 16)), (3, (.own 0 0 1)), (4, (.int .i64 t4))], heap := [(0, (.cells x4.length (.rI .u8 x4) true))], next := 1, nt := 29, m := 0 }
def ef23_j5017 : (List Int) × Nat × Int × (List Int) → St := fun (t0, x2, t4, x4) => { tmps := [(0, (.vs (.rI .u8 t0) x2 16)), (3, (.own 0 0 1)), (4, (.int .i64 t4))], heap := [(0, (.cells x4.length (.rI .u8 x4) true))], next := 1, nt := 29, m := 0 }
def ef23_j6012 : (List Int) × Nat × Int × Int × (List Int) → St := fun (t0, x2, t4, t5, x5) => { tmps := [(0, (.vs (.rI .u8 t0) x2 16)), (3, (.own 0 0 1)), (4, (.int .i64 t4)), (5, (.int .i64 t5))], heap := [(0, (.cells x5.length (.rI .u8 x5) true))], next := 1, nt := 29, m := 0 }
def ef23_l6010 : (List Int) × Nat × Int × Int × (List Int) → St := fun (t0, x2, t4, t5, x5) => { tmps := [(0, (.vs (.rI .u8 t0) x2 16)), (3, (.own 0 0 1)), (4, (.int .i64 t4)), (5, (.int .i64 t5))], heap := [(0, (.cells x5.length (.rI .u8 x5) true))], next := 1, nt := 29, m := 0 }
def ef23_j4001 : (List Int) × Nat × Int × (List Int) → St := fun (t0, x2, t4, x4) => { tmps := [(0, (.vs (.rI .u8 t0) x2 16)), (3, (.own 0 0 1)), (4, (.int .i64 t4))], heap := [(0, (.cells x4.length (.rI .u8 x4) true))], next := 1, nt := 29, m := 0 }
def ef23_j9003 : (List Int) → St := fun x1 => { tmps := [(3, (.own 0 0 1))], heap := [(0, (.cells x1.length (.rI .u8 x1) true))], next := 1, nt := 29, m := 0 }
def f23_n0 (F : Nat) (kf23_j1033 : (List Int) × Nat → Option (AV × List Blk)) : (List Int) × Nat → Option (AV × List Blk) := fun (a0, a0n) => (kf23_j1033 (a0, a0n))
theorem f23_n0_eq (F : Nat) (Rf23_j1033 : St → Option (AV × List Blk)) : ∀ v, aexec VG0123 (Af23 F) (sub (bodyOf Try.f23) [0]) (ef23_a v) (kSeq (fun s => Rf23_j1033 (cutTo VG0123 (some [(0, .plain)]) s)) (kFin VG0123 none (Try.f23).results.toList)) = f23_n0 F (fun w => Rf23_j1033 (ef23_j1033 w)) v := by
  rintro ⟨a0, a0n⟩; kernel_rfl
def f23_n10 (F : Nat) (kf23_j2031 : (List Int) × Nat × (List Int) → Option (AV × List Blk)) : (List Int) × Nat → Option (AV × List Blk) := fun (t0, x2) => (kf23_j2031 (t0, x2, (Wire.int (↑x2 : Int))))
theorem f23_n10_eq (F : Nat) (Rf23_j2031 : St → Option (AV × List Blk)) : ∀ v, aexec VG0123 (Af23 F) (sub (bodyOf Try.f23) [1, 0]) (ef23_j1033 v) (kSeq (fun s => Rf23_j2031 (cutTo VG0123 (some [(0, .plain), (3, .plain)]) s)) (kFin VG0123 none (Try.f23).results.toList)) = f23_n10 F (fun w => Rf23_j2031 (ef23_j2031 w)) v := by
  rintro ⟨t0, x2⟩; kernel_rfl
def f23_n1100 (F : Nat) (kf23_j3025 : (List Int) × Nat × Int × (List Int) → Option (AV × List Blk)) (kf23_j9003 : (List Int) → Option (AV × List Blk)) : (List Int) × Nat × (List Int) → Option (AV × List Blk) := fun (t0, x2, x3) => (kf23_j3025 (t0, x2, (0 : Int), x3))
theorem f23_n1100_eq (F : Nat) (Rf23_j3025 : St → Option (AV × List Blk)) (Rf23_j9003 : St → Option (AV × List Blk)) : ∀ v, aexec VG0123 (Af23 F) (sub (bodyOf Try.f23) [1, 1, 0, 0]) (ef23_j2031 v) (kSeq (fun s => Rf23_j3025 (cutTo VG0123 (some [(0, .plain), (3, .plain), (4, .plain)]) s)) (kSeq (fun s => Rf23_j9003 (cutTo VG0123 (some [(3, .plain)]) s)) (kFin VG0123 none (Try.f23).results.toList))) = f23_n1100 F (fun w => Rf23_j3025 (ef23_j3025 w)) (fun w => Rf23_j9003 (ef23_j9003 w)) v := by
  rintro ⟨t0, x2, x3⟩; kernel_rfl
def f23_n1101000 (F : Nat) (kf23_j5017 : (List Int) × Nat × Int × (List Int) → Option (AV × List Blk)) (kf23_l3023 : (List Int) × Nat × Int × (List Int) → Option (AV × List Blk)) (kf23_j9003 : (List Int) → Option (AV × List Blk)) : (List Int) × Nat × Int × (List Int) → Option (AV × List Blk) := fun (t0, x2, t4, x4) => (cond (decide (t4 < (↑x2 : Int))) (kf23_j5017 (t0, x2, t4, x4)) (kf23_j9003 x4))
theorem f23_n1101000_eq (F : Nat) (Rf23_j5017 : St → Option (AV × List Blk)) (Rf23_l3023 : St → Option (AV × List Blk)) (Rf23_j9003 : St → Option (AV × List Blk)) : ∀ v, aexec VG0123 (Af23 F) (sub (bodyOf Try.f23) [1, 1, 0, 1, 0, 0, 0]) (ef23_l3023 v) (kSeq (fun s => Rf23_j5017 (cutTo VG0123 (some [(0, .plain), (3, .plain), (4, .plain)]) s)) (kSeq (fun s => Rf23_l3023 (cutTo VG0123 (some [(0, .plain), (3, .plain), (4, .plain)]) s)) (kBlock 0 (kSeq (fun s => Rf23_j9003 (cutTo VG0123 (some [(3, .plain)]) s)) (kFin VG0123 none (Try.f23).results.toList))))) = f23_n1101000 F (fun w => Rf23_j5017 (ef23_j5017 w)) (fun w => Rf23_l3023 (ef23_l3023 w)) (fun w => Rf23_j9003 (ef23_j9003 w)) v := by
  rintro ⟨t0, x2, t4, x4⟩; kernel_rfl
def f23_n1101001000 (F : Nat) (kf23_j6012 : (List Int) × Nat × Int × Int × (List Int) → Option (AV × List Blk)) (kf23_j4001 : (List Int) × Nat × Int × (List Int) → Option (AV × List Blk)) (kf23_l3023 : (List Int) × Nat × Int × (List Int) → Option (AV × List Blk)) (kf23_j9003 : (List Int) → Option (AV × List Blk)) : (List Int) × Nat × Int × (List Int) → Option (AV × List Blk) := fun (t0, x2, t4, x4) => (kf23_j6012 (t0, x2, t4, (0 : Int), x4))
theorem f23_n1101001000_eq (F : Nat) (Rf23_j6012 : St → Option (AV × List Blk)) (Rf23_j4001 : St → Option (AV × List Blk)) (Rf23_l3023 : St → Option (AV × List Blk)) (Rf23_j9003 : St → Option (AV × List Blk)) : ∀ v, aexec VG0123 (Af23 F) (sub (bodyOf Try.f23) [1, 1, 0, 1, 0, 0, 1, 0, 0, 0]) (ef23_j5017 v) (kSeq (fun s => Rf23_j6012 (cutTo VG0123 (some [(0, .plain), (3, .plain), (4, .plain), (5, .plain)]) s)) (kBlock 1 (kSeq (fun s => Rf23_j4001 (cutTo VG0123 (some [(0, .plain), (3, .plain), (4, .plain)]) s)) (kSeq (fun s => Rf23_l3023 (cutTo VG0123 (some [(0, .plain), (3, .plain), (4, .plain)]) s)) (kBlock 0 (kSeq (fun s => Rf23_j9003 (cutTo VG0123 (some [(3, .plain)]) s)) (kFin VG0123 none (Try.f23).results.toList))))))) = f23_n1101001000 F (fun w => Rf23_j6012 (ef23_j6012 w)) (fun w => Rf23_j4001 (ef23_j4001 w)) (fun w => Rf23_l3023 (ef23_l3023 w)) (fun w => Rf23_j9003 (ef23_j9003 w)) v := by
  rintro ⟨t0, x2, t4, x4⟩; kernel_rfl
def f23_n110100100100 (F : Nat) (kf23_l6010 : (List Int) × Nat × Int × Int × (List Int) → Option (AV × List Blk)) (kf23_j4001 : (List Int) × Nat × Int × (List Int) → Option (AV × List Blk)) (kf23_l3023 : (List Int) × Nat × Int × (List Int) → Option (AV × List Blk)) (kf23_j9003 : (List Int) → Option (AV × List Blk)) : (List Int) × Nat × Int × Int × (List Int) → Option (AV × List Blk) := fun (t0, x2, t4, t5, x5) => (cond (decide (t5 < (16 : Int))) (cond ((decide (0 ≤ t4)) && (decide (t4 < (↑x2 : Int)))) (cond ((decide (0 ≤ t5)) && (decide (t5 < (16 : Int)))) (cond (decide ((x5.length + 1) < 1073741824)) (kf23_l6010 (t0, x2, t4, (IntKind.i64.wrap (t5 + (1 : Int))), (x5 ++ [(t0.getD ((Int.toNat t5) + ((Int.toNat t4) * 16)) 0)]))) none) none) none) (kf23_j4001 (t0, x2, t4, x5)))
theorem f23_n110100100100_eq (F : Nat) (Rf23_l6010 : St → Option (AV × List Blk)) (Rf23_j4001 : St → Option (AV × List Blk)) (Rf23_l3023 : St → Option (AV × List Blk)) (Rf23_j9003 : St → Option (AV × List Blk)) : ∀ v, aexec VG0123 (Af23 F) (sub (bodyOf Try.f23) [1, 1, 0, 1, 0, 0, 1, 0, 0, 1, 0, 0]) (ef23_l6010 v) (kSeq (fun s => Rf23_l6010 (cutTo VG0123 (some [(0, .plain), (3, .plain), (4, .plain), (5, .plain)]) s)) (kBlock 2 (kBlock 1 (kSeq (fun s => Rf23_j4001 (cutTo VG0123 (some [(0, .plain), (3, .plain), (4, .plain)]) s)) (kSeq (fun s => Rf23_l3023 (cutTo VG0123 (some [(0, .plain), (3, .plain), (4, .plain)]) s)) (kBlock 0 (kSeq (fun s => Rf23_j9003 (cutTo VG0123 (some [(3, .plain)]) s)) (kFin VG0123 none (Try.f23).results.toList)))))))) = f23_n110100100100 F (fun w => Rf23_l6010 (ef23_l6010 w)) (fun w => Rf23_j4001 (ef23_j4001 w)) (fun w => Rf23_l3023 (ef23_l3023 w)) (fun w => Rf23_j9003 (ef23_j9003 w)) v := by
  rintro ⟨t0, x2, t4, t5, x5⟩; kernel_rfl
def f23_n11010010010_i : (List Int) × Nat × Int × Int × (List Int) → (List Int) × Nat × Int × Int × (List Int) := fun (t0, x2, t4, t5, x5) => (t0, x2, t4, t5, x5)
def f23_n11010010010 (F : Nat) (kf23_j4001 : (List Int) × Nat × Int × (List Int) → Option (AV × List Blk)) (kf23_l3023 : (List Int) × Nat × Int × (List Int) → Option (AV × List Blk)) (kf23_j9003 : (List Int) → Option (AV × List Blk)) : (List Int) × Nat × Int × Int × (List Int) → Option (AV × List Blk) := fun v => loopN (fun k => f23_n110100100100 F k kf23_j4001 kf23_l3023 kf23_j9003) F (f23_n11010010010_i v)
theorem f23_n11010010010_eq (F : Nat) (Rf23_j4001 : St → Option (AV × List Blk)) (Rf23_l3023 : St → Option (AV × List Blk)) (Rf23_j9003 : St → Option (AV × List Blk)) : ∀ v, aexec VG0123 (Af23 F) (sub (bodyOf Try.f23) [1, 1, 0, 1, 0, 0, 1, 0, 0, 1, 0]) (ef23_j6012 v) (kBlock 2 (kBlock 1 (kSeq (fun s => Rf23_j4001 (cutTo VG0123 (some [(0, .plain), (3, .plain), (4, .plain)]) s)) (kSeq (fun s => Rf23_l3023 (cutTo VG0123 (some [(0, .plain), (3, .plain), (4, .plain)]) s)) (kBlock 0 (kSeq (fun s => Rf23_j9003 (cutTo VG0123 (some [(3, .plain)]) s)) (kFin VG0123 none (Try.f23).results.toList))))))) = f23_n11010010010 F (fun w => Rf23_j4001 (ef23_j4001 w)) (fun w => Rf23_l3023 (ef23_l3023 w)) (fun w => Rf23_j9003 (ef23_j9003 w)) v :=
  loop_cut (c := (sub (bodyOf Try.f23) [1, 1, 0, 1, 0, 0, 1, 0, 0, 1, 0])) (d := (sub (bodyOf Try.f23) [1, 1, 0, 1, 0, 0, 1, 0, 0, 1, 0, 0])) (by kernel_rfl) (spec := [(0, .plain), (3, .plain), (4, .plain), (5, .plain)]) (by kernel_rfl) ef23_j6012 ef23_l6010 (kBlock 2 (kBlock 1 (kSeq (fun s => Rf23_j4001 (cutTo VG0123 (some [(0, .plain), (3, .plain), (4, .plain)]) s)) (kSeq (fun s => Rf23_l3023 (cutTo VG0123 (some [(0, .plain), (3, .plain), (4, .plain)]) s)) (kBlock 0 (kSeq (fun s => Rf23_j9003 (cutTo VG0123 (some [(3, .plain)]) s)) (kFin VG0123 none (Try.f23).results.toList))))))) f23_n11010010010_i (fun k => f23_n110100100100 F k (fun w => Rf23_j4001 (ef23_j4001 w)) (fun w => Rf23_l3023 (ef23_l3023 w)) (fun w => Rf23_j9003 (ef23_j9003 w)))
    (by rintro ⟨t0, x2, t4, t5, x5⟩; kernel_rfl) (fun Rf23_l6010 => f23_n110100100100_eq F Rf23_l6010 Rf23_j4001 Rf23_l3023 Rf23_j9003)
def f23_n1101001001 (F : Nat) (kf23_j4001 : (List Int) × Nat × Int × (List Int) → Option (AV × List Blk)) (kf23_l3023 : (List Int) × Nat × Int × (List Int) → Option (AV × List Blk)) (kf23_j9003 : (List Int) → Option (AV × List Blk)) : (List Int) × Nat × Int × Int × (List Int) → Option (AV × List Blk) := f23_n11010010010 F kf23_j4001 kf23_l3023 kf23_j9003
theorem f23_n1101001001_eq (F : Nat) (Rf23_j4001 : St → Option (AV × List Blk)) (Rf23_l3023 : St → Option (AV × List Blk)) (Rf23_j9003 : St → Option (AV × List Blk)) : ∀ v, aexec VG0123 (Af23 F) (sub (bodyOf Try.f23) [1, 1, 0, 1, 0, 0, 1, 0, 0, 1]) (ef23_j6012 v) (kBlock 1 (kSeq (fun s => Rf23_j4001 (cutTo VG0123 (some [(0, .plain), (3, .plain), (4, .plain)]) s)) (kSeq (fun s => Rf23_l3023 (cutTo VG0123 (some [(0, .plain), (3, .plain), (4, .plain)]) s)) (kBlock 0 (kSeq (fun s => Rf23_j9003 (cutTo VG0123 (some [(3, .plain)]) s)) (kFin VG0123 none (Try.f23).results.toList)))))) = f23_n1101001001 F (fun w => Rf23_j4001 (ef23_j4001 w)) (fun w => Rf23_l3023 (ef23_l3023 w)) (fun w => Rf23_j9003 (ef23_j9003 w)) v := fun v =>
  (block_in (c := (sub (bodyOf Try.f23) [1, 1, 0, 1, 0, 0, 1, 0, 0, 1])) (d := (sub (bodyOf Try.f23) [1, 1, 0, 1, 0, 0, 1, 0, 0, 1, 0])) (id := 2) (by kernel_rfl) _ _).trans (f23_n11010010010_eq F Rf23_j4001 Rf23_l3023 Rf23_j9003 v)
def f23_n110100100 (F : Nat) (kf23_j4001 : (List Int) × Nat × Int × (List Int) → Option (AV × List Blk)) (kf23_l3023 : (List Int) × Nat × Int × (List Int) → Option (AV × List Blk)) (kf23_j9003 : (List Int) → Option (AV × List Blk)) : (List Int) × Nat × Int × (List Int) → Option (AV × List Blk) := fun v => f23_n1101001000 F (f23_n1101001001 F kf23_j4001 kf23_l3023 kf23_j9003) kf23_j4001 kf23_l3023 kf23_j9003 v
theorem f23_n110100100_eq (F : Nat) (Rf23_j4001 : St → Option (AV × List Blk)) (Rf23_l3023 : St → Option (AV × List Blk)) (Rf23_j9003 : St → Option (AV × List Blk)) : ∀ v, aexec VG0123 (Af23 F) (sub (bodyOf Try.f23) [1, 1, 0, 1, 0, 0, 1, 0, 0]) (ef23_j5017 v) (kBlock 1 (kSeq (fun s => Rf23_j4001 (cutTo VG0123 (some [(0, .plain), (3, .plain), (4, .plain)]) s)) (kSeq (fun s => Rf23_l3023 (cutTo VG0123 (some [(0, .plain), (3, .plain), (4, .plain)]) s)) (kBlock 0 (kSeq (fun s => Rf23_j9003 (cutTo VG0123 (some [(3, .plain)]) s)) (kFin VG0123 none (Try.f23).results.toList)))))) = f23_n110100100 F (fun w => Rf23_j4001 (ef23_j4001 w)) (fun w => Rf23_l3023 (ef23_l3023 w)) (fun w => Rf23_j9003 (ef23_j9003 w)) v :=
  seq_cut (c := (sub (bodyOf Try.f23) [1, 1, 0, 1, 0, 0, 1, 0, 0])) (a := (sub (bodyOf Try.f23) [1, 1, 0, 1, 0, 0, 1, 0, 0, 0])) (b := (sub (bodyOf Try.f23) [1, 1, 0, 1, 0, 0, 1, 0, 0, 1])) (by kernel_rfl) (spec := [(0, .plain), (3, .plain), (4, .plain), (5, .plain)]) (by kernel_rfl) ef23_j5017 ef23_j6012 (kBlock 1 (kSeq (fun s => Rf23_j4001 (cutTo VG0123 (some [(0, .plain), (3, .plain), (4, .plain)]) s)) (kSeq (fun s => Rf23_l3023 (cutTo VG0123 (some [(0, .plain), (3, .plain), (4, .plain)]) s)) (kBlock 0 (kSeq (fun s => Rf23_j9003 (cutTo VG0123 (some [(3, .plain)]) s)) (kFin VG0123 none (Try.f23).results.toList)))))) (fun k => f23_n1101001000 F k (fun w => Rf23_j4001 (ef23_j4001 w)) (fun w => Rf23_l3023 (ef23_l3023 w)) (fun w => Rf23_j9003 (ef23_j9003 w))) (f23_n1101001001 F (fun w => Rf23_j4001 (ef23_j4001 w)) (fun w => Rf23_l3023 (ef23_l3023 w)) (fun w => Rf23_j9003 (ef23_j9003 w)))
    (fun Rf23_j6012 => f23_n1101001000_eq F Rf23_j6012 Rf23_j4001 Rf23_l3023 Rf23_j9003) (f23_n1101001001_eq F Rf23_j4001 Rf23_l3023 Rf23_j9003)
def f23_n11010010 (F : Nat) (kf23_j4001 : (List Int) × Nat × Int × (List Int) → Option (AV × List Blk)) (kf23_l3023 : (List Int) × Nat × Int × (List Int) → Option (AV × List Blk)) (kf23_j9003 : (List Int) → Option (AV × List Blk)) : (List Int) × Nat × Int × (List Int) → Option (AV × List Blk) := f23_n110100100 F kf23_j4001 kf23_l3023 kf23_j9003
theorem f23_n11010010_eq (F : Nat) (Rf23_j4001 : St → Option (AV × List Blk)) (Rf23_l3023 : St → Option (AV × List Blk)) (Rf23_j9003 : St → Option (AV × List Blk)) : ∀ v, aexec VG0123 (Af23 F) (sub (bodyOf Try.f23) [1, 1, 0, 1, 0, 0, 1, 0]) (ef23_j5017 v) (kSeq (fun s => Rf23_j4001 (cutTo VG0123 (some [(0, .plain), (3, .plain), (4, .plain)]) s)) (kSeq (fun s => Rf23_l3023 (cutTo VG0123 (some [(0, .plain), (3, .plain), (4, .plain)]) s)) (kBlock 0 (kSeq (fun s => Rf23_j9003 (cutTo VG0123 (some [(3, .plain)]) s)) (kFin VG0123 none (Try.f23).results.toList))))) = f23_n11010010 F (fun w => Rf23_j4001 (ef23_j4001 w)) (fun w => Rf23_l3023 (ef23_l3023 w)) (fun w => Rf23_j9003 (ef23_j9003 w)) v := fun v =>
  (block_in (c := (sub (bodyOf Try.f23) [1, 1, 0, 1, 0, 0, 1, 0])) (d := (sub (bodyOf Try.f23) [1, 1, 0, 1, 0, 0, 1, 0, 0])) (id := 1) (by kernel_rfl) _ _).trans (f23_n110100100_eq F Rf23_j4001 Rf23_l3023 Rf23_j9003 v)
def f23_n11010011 (F : Nat) (kf23_l3023 : (List Int) × Nat × Int × (List Int) → Option (AV × List Blk)) (kf23_j9003 : (List Int) → Option (AV × List Blk)) : (List Int) × Nat × Int × (List Int) → Option (AV × List Blk) := fun (t0, x2, t4, x4) => (kf23_l3023 (t0, x2, (IntKind.i64.wrap (t4 + (1 : Int))), x4))
theorem f23_n11010011_eq (F : Nat) (Rf23_l3023 : St → Option (AV × List Blk)) (Rf23_j9003 : St → Option (AV × List Blk)) : ∀ v, aexec VG0123 (Af23 F) (sub (bodyOf Try.f23) [1, 1, 0, 1, 0, 0, 1, 1]) (ef23_j4001 v) (kSeq (fun s => Rf23_l3023 (cutTo VG0123 (some [(0, .plain), (3, .plain), (4, .plain)]) s)) (kBlock 0 (kSeq (fun s => Rf23_j9003 (cutTo VG0123 (some [(3, .plain)]) s)) (kFin VG0123 none (Try.f23).results.toList)))) = f23_n11010011 F (fun w => Rf23_l3023 (ef23_l3023 w)) (fun w => Rf23_j9003 (ef23_j9003 w)) v := by
  rintro ⟨t0, x2, t4, x4⟩; kernel_rfl
def f23_n1101001 (F : Nat) (kf23_l3023 : (List Int) × Nat × Int × (List Int) → Option (AV × List Blk)) (kf23_j9003 : (List Int) → Option (AV × List Blk)) : (List Int) × Nat × Int × (List Int) → Option (AV × List Blk) := fun v => f23_n11010010 F (f23_n11010011 F kf23_l3023 kf23_j9003) kf23_l3023 kf23_j9003 v
theorem f23_n1101001_eq (F : Nat) (Rf23_l3023 : St → Option (AV × List Blk)) (Rf23_j9003 : St → Option (AV × List Blk)) : ∀ v, aexec VG0123 (Af23 F) (sub (bodyOf Try.f23) [1, 1, 0, 1, 0, 0, 1]) (ef23_j5017 v) (kSeq (fun s => Rf23_l3023 (cutTo VG0123 (some [(0, .plain), (3, .plain), (4, .plain)]) s)) (kBlock 0 (kSeq (fun s => Rf23_j9003 (cutTo VG0123 (some [(3, .plain)]) s)) (kFin VG0123 none (Try.f23).results.toList)))) = f23_n1101001 F (fun w => Rf23_l3023 (ef23_l3023 w)) (fun w => Rf23_j9003 (ef23_j9003 w)) v :=
  seq_cut (c := (sub (bodyOf Try.f23) [1, 1, 0, 1, 0, 0, 1])) (a := (sub (bodyOf Try.f23) [1, 1, 0, 1, 0, 0, 1, 0])) (b := (sub (bodyOf Try.f23) [1, 1, 0, 1, 0, 0, 1, 1])) (by kernel_rfl) (spec := [(0, .plain), (3, .plain), (4, .plain)]) (by kernel_rfl) ef23_j5017 ef23_j4001 (kSeq (fun s => Rf23_l3023 (cutTo VG0123 (some [(0, .plain), (3, .plain), (4, .plain)]) s)) (kBlock 0 (kSeq (fun s => Rf23_j9003 (cutTo VG0123 (some [(3, .plain)]) s)) (kFin VG0123 none (Try.f23).results.toList)))) (fun k => f23_n11010010 F k (fun w => Rf23_l3023 (ef23_l3023 w)) (fun w => Rf23_j9003 (ef23_j9003 w))) (f23_n11010011 F (fun w => Rf23_l3023 (ef23_l3023 w)) (fun w => Rf23_j9003 (ef23_j9003 w)))
    (fun Rf23_j4001 => f23_n11010010_eq F Rf23_j4001 Rf23_l3023 Rf23_j9003) (f23_n11010011_eq F Rf23_l3023 Rf23_j9003)
def f23_n110100 (F : Nat) (kf23_l3023 : (List Int) × Nat × Int × (List Int) → Option (AV × List Blk)) (kf23_j9003 : (List Int) → Option (AV × List Blk)) : (List Int) × Nat × Int × (List Int) → Option (AV × List Blk) := fun v => f23_n1101000 F (f23_n1101001 F kf23_l3023 kf23_j9003) kf23_l3023 kf23_j9003 v
theorem f23_n110100_eq (F : Nat) (Rf23_l3023 : St → Option (AV × List Blk)) (Rf23_j9003 : St → Option (AV × List Blk)) : ∀ v, aexec VG0123 (Af23 F) (sub (bodyOf Try.f23) [1, 1, 0, 1, 0, 0]) (ef23_l3023 v) (kSeq (fun s => Rf23_l3023 (cutTo VG0123 (some [(0, .plain), (3, .plain), (4, .plain)]) s)) (kBlock 0 (kSeq (fun s => Rf23_j9003 (cutTo VG0123 (some [(3, .plain)]) s)) (kFin VG0123 none (Try.f23).results.toList)))) = f23_n110100 F (fun w => Rf23_l3023 (ef23_l3023 w)) (fun w => Rf23_j9003 (ef23_j9003 w)) v :=
  seq_cut (c := (sub (bodyOf Try.f23) [1, 1, 0, 1, 0, 0])) (a := (sub (bodyOf Try.f23) [1, 1, 0, 1, 0, 0, 0])) (b := (sub (bodyOf Try.f23) [1, 1, 0, 1, 0, 0, 1])) (by kernel_rfl) (spec := [(0, .plain), (3, .plain), (4, .plain)]) (by kernel_rfl) ef23_l3023 ef23_j5017 (kSeq (fun s => Rf23_l3023 (cutTo VG0123 (some [(0, .plain), (3, .plain), (4, .plain)]) s)) (kBlock 0 (kSeq (fun s => Rf23_j9003 (cutTo VG0123 (some [(3, .plain)]) s)) (kFin VG0123 none (Try.f23).results.toList)))) (fun k => f23_n1101000 F k (fun w => Rf23_l3023 (ef23_l3023 w)) (fun w => Rf23_j9003 (ef23_j9003 w))) (f23_n1101001 F (fun w => Rf23_l3023 (ef23_l3023 w)) (fun w => Rf23_j9003 (ef23_j9003 w)))
    (fun Rf23_j5017 => f23_n1101000_eq F Rf23_j5017 Rf23_l3023 Rf23_j9003) (f23_n1101001_eq F Rf23_l3023 Rf23_j9003)
def f23_n11010_i : (List Int) × Nat × Int × (List Int) → (List Int) × Nat × Int × (List Int) := fun (t0, x2, t4, x4) => (t0, x2, t4, x4)
def f23_n11010 (F : Nat) (kf23_j9003 : (List Int) → Option (AV × List Blk)) : (List Int) × Nat × Int × (List Int) → Option (AV × List Blk) := fun v => loopN (fun k => f23_n110100 F k kf23_j9003) F (f23_n11010_i v)
theorem f23_n11010_eq (F : Nat) (Rf23_j9003 : St → Option (AV × List Blk)) : ∀ v, aexec VG0123 (Af23 F) (sub (bodyOf Try.f23) [1, 1, 0, 1, 0]) (ef23_j3025 v) (kBlock 0 (kSeq (fun s => Rf23_j9003 (cutTo VG0123 (some [(3, .plain)]) s)) (kFin VG0123 none (Try.f23).results.toList))) = f23_n11010 F (fun w => Rf23_j9003 (ef23_j9003 w)) v :=
  loop_cut (c := (sub (bodyOf Try.f23) [1, 1, 0, 1, 0])) (d := (sub (bodyOf Try.f23) [1, 1, 0, 1, 0, 0])) (by kernel_rfl) (spec := [(0, .plain), (3, .plain), (4, .plain)]) (by kernel_rfl) ef23_j3025 ef23_l3023 (kBlock 0 (kSeq (fun s => Rf23_j9003 (cutTo VG0123 (some [(3, .plain)]) s)) (kFin VG0123 none (Try.f23).results.toList))) f23_n11010_i (fun k => f23_n110100 F k (fun w => Rf23_j9003 (ef23_j9003 w)))
    (by rintro ⟨t0, x2, t4, x4⟩; kernel_rfl) (fun Rf23_l3023 => f23_n110100_eq F Rf23_l3023 Rf23_j9003)
def f23_n1101 (F : Nat) (kf23_j9003 : (List Int) → Option (AV × List Blk)) : (List Int) × Nat × Int × (List Int) → Option (AV × List Blk) := f23_n11010 F kf23_j9003
theorem f23_n1101_eq (F : Nat) (Rf23_j9003 : St → Option (AV × List Blk)) : ∀ v, aexec VG0123 (Af23 F) (sub (bodyOf Try.f23) [1, 1, 0, 1]) (ef23_j3025 v) (kSeq (fun s => Rf23_j9003 (cutTo VG0123 (some [(3, .plain)]) s)) (kFin VG0123 none (Try.f23).results.toList)) = f23_n1101 F (fun w => Rf23_j9003 (ef23_j9003 w)) v := fun v =>
  (block_in (c := (sub (bodyOf Try.f23) [1, 1, 0, 1])) (d := (sub (bodyOf Try.f23) [1, 1, 0, 1, 0])) (id := 0) (by kernel_rfl) _ _).trans (f23_n11010_eq F Rf23_j9003 v)
def f23_n110 (F : Nat) (kf23_j9003 : (List Int) → Option (AV × List Blk)) : (List Int) × Nat × (List Int) → Option (AV × List Blk) := fun v => f23_n1100 F (f23_n1101 F kf23_j9003) kf23_j9003 v
theorem f23_n110_eq (F : Nat) (Rf23_j9003 : St → Option (AV × List Blk)) : ∀ v, aexec VG0123 (Af23 F) (sub (bodyOf Try.f23) [1, 1, 0]) (ef23_j2031 v) (kSeq (fun s => Rf23_j9003 (cutTo VG0123 (some [(3, .plain)]) s)) (kFin VG0123 none (Try.f23).results.toList)) = f23_n110 F (fun w => Rf23_j9003 (ef23_j9003 w)) v :=
  seq_cut (c := (sub (bodyOf Try.f23) [1, 1, 0])) (a := (sub (bodyOf Try.f23) [1, 1, 0, 0])) (b := (sub (bodyOf Try.f23) [1, 1, 0, 1])) (by kernel_rfl) (spec := [(0, .plain), (3, .plain), (4, .plain)]) (by kernel_rfl) ef23_j2031 ef23_j3025 (kSeq (fun s => Rf23_j9003 (cutTo VG0123 (some [(3, .plain)]) s)) (kFin VG0123 none (Try.f23).results.toList)) (fun k => f23_n1100 F k (fun w => Rf23_j9003 (ef23_j9003 w))) (f23_n1101 F (fun w => Rf23_j9003 (ef23_j9003 w)))
    (fun Rf23_j3025 => f23_n1100_eq F Rf23_j3025 Rf23_j9003) (f23_n1101_eq F Rf23_j9003)
def f23_n111 (F : Nat) : (List Int) → Option (AV × List Blk) := fun x1 => (some ((.own 0 0 1), [(.cells x1.length (.rI .u8 x1) true)]))
theorem f23_n111_eq (F : Nat) : ∀ v, aexec VG0123 (Af23 F) (sub (bodyOf Try.f23) [1, 1, 1]) (ef23_j9003 v) (kFin VG0123 none (Try.f23).results.toList) = f23_n111 F v := by
  intro x1; kernel_rfl
def f23_n11 (F : Nat) : (List Int) × Nat × (List Int) → Option (AV × List Blk) := fun v => f23_n110 F (f23_n111 F) v
theorem f23_n11_eq (F : Nat) : ∀ v, aexec VG0123 (Af23 F) (sub (bodyOf Try.f23) [1, 1]) (ef23_j2031 v) (kFin VG0123 none (Try.f23).results.toList) = f23_n11 F v :=
  seq_cut (c := (sub (bodyOf Try.f23) [1, 1])) (a := (sub (bodyOf Try.f23) [1, 1, 0])) (b := (sub (bodyOf Try.f23) [1, 1, 1])) (by kernel_rfl) (spec := [(3, .plain)]) (by kernel_rfl) ef23_j2031 ef23_j9003 (kFin VG0123 none (Try.f23).results.toList) (fun k => f23_n110 F k) (f23_n111 F)
    (fun Rf23_j9003 => f23_n110_eq F Rf23_j9003) (f23_n111_eq F)
def f23_n1 (F : Nat) : (List Int) × Nat → Option (AV × List Blk) := fun v => f23_n10 F (f23_n11 F) v
theorem f23_n1_eq (F : Nat) : ∀ v, aexec VG0123 (Af23 F) (sub (bodyOf Try.f23) [1]) (ef23_j1033 v) (kFin VG0123 none (Try.f23).results.toList) = f23_n1 F v :=
  seq_cut (c := (sub (bodyOf Try.f23) [1])) (a := (sub (bodyOf Try.f23) [1, 0])) (b := (sub (bodyOf Try.f23) [1, 1])) (by kernel_rfl) (spec := [(0, .plain), (3, .plain)]) (by kernel_rfl) ef23_j1033 ef23_j2031 (kFin VG0123 none (Try.f23).results.toList) (fun k => f23_n10 F k) (f23_n11 F)
    (fun Rf23_j2031 => f23_n10_eq F Rf23_j2031) (f23_n11_eq F)
def f23_nt (F : Nat) : (List Int) × Nat → Option (AV × List Blk) := fun v => f23_n0 F (f23_n1 F) v
theorem f23_nt_eq (F : Nat) : ∀ v, aexec VG0123 (Af23 F) (sub (bodyOf Try.f23) []) (ef23_a v) (kFin VG0123 none (Try.f23).results.toList) = f23_nt F v :=
  seq_cut (c := (sub (bodyOf Try.f23) [])) (a := (sub (bodyOf Try.f23) [0])) (b := (sub (bodyOf Try.f23) [1])) (by kernel_rfl) (spec := [(0, .plain)]) (by kernel_rfl) ef23_a ef23_j1033 (kFin VG0123 none (Try.f23).results.toList) (fun k => f23_n0 F k) (f23_n1 F)
    (fun Rf23_j1033 => f23_n0_eq F Rf23_j1033) (f23_n1_eq F)
/-- gantry/gantryref01.Digests -/
def f23 (F : Nat) : (List Int) × Nat → Option (AV × List Blk) := f23_nt F
theorem f23_body (F : Nat) (a0 : List Int) (a0n : Nat) : abody VG0123 (Af23 F) Try.f23 [(.vs (.rI .u8 a0) a0n 16)] [] = f23 F (a0, a0n) :=
  (abody_in (c := (sub (bodyOf Try.f23) [])) (by kernel_rfl) (s := ef23_a (a0, a0n)) (by kernel_rfl)).trans (f23_nt_eq F (a0, a0n))
def r23 : CRun := fun X H => match X, H with
  | [(.vs (.rI .u8 a0) a0n 16)], [] => some ((decide (a0.length < 1073741000)), (.own 0 0 1), [(.cells (Wire.digs a0n a0).length (.rI .u8 (Wire.digs a0n a0)) true)])
  | _, _ => none
theorem s23 (a0 : List Int) (a0n : Nat) (hp : ((decide (a0.length < 1073741000))) = true) (h0 : okV (.vs (.rI .u8 a0) a0n 16)) : ∃ F, f23 F (a0, a0n) = some ((.own 0 0 1), [(.cells (Wire.digs a0n a0).length (.rI .u8 (Wire.digs a0n a0)) true)]) := by
  have hl : a0.length < 1073741000 := of_decide_eq_true hp
  have hn : a0.length = a0n * 16 := h0.2.1
  have hk := Wire.nb_le (Wire.mag (a0n : Int))
  refine ⟨a0n + 17, ?_⟩
  simp only [f23, f23_nt, f23_n0, f23_n1, f23_n10, f23_n11, f23_n110, f23_n1100, f23_n1101, f23_n11010, f23_n11010_i]
  refine loopN_from (fun i => (a0, a0n, (i : Int), Wire.int (a0n : Int) ++ a0.take (i * 16))) a0n (by simp) (fun i hi k => ?_) (fun k => ?_) _ (by omega)
  · simp only [f23_n110100, f23_n1101000, f23_n1101001, f23_n11010010, f23_n110100100, f23_n1101001000, f23_n1101001001, f23_n11010010010, f23_n11010010010_i]
    rw [cond_pos (by omega)]
    refine loopN_from (fun j => (a0, a0n, (i : Int), (j : Int), Wire.int (a0n : Int) ++ a0.take (i * 16 + j))) 16 (by rfl) (fun j hj k' => ?_) (fun k' => ?_) _ (by omega)
    · simp only [f23_n110100100100, dec_and, List.length_append, List.length_take, Wire.int_len]
      rw [Int.toNat_natCast, Int.toNat_natCast, cond_pos (by omega), cond_pos (by omega), cond_pos (by omega), cond_pos (by omega), i64w (x := (j : Int) + 1) (by omega) (by omega), show j + i * 16 = i * 16 + j by omega, List.append_assoc, ← take_one a0 _ (by omega)]
      rfl
    · simp only [f23_n110100100100]
      rw [cond_neg (by omega)]
      simp only [f23_n11010011]
      rw [i64w (x := (i : Int) + 1) (by omega) (by omega), show i * 16 + 16 = (i + 1) * 16 by omega]
      rfl
  · simp only [f23_n110100, f23_n1101000]
    rw [cond_neg (by omega), List.take_of_length_le (by omega)]
    rfl

theorem c23 : CallOk Try.prog G01 23 r23 := callOk_of (V := VG0123) mixed tys eVG0123 (f := 23) (fn := Try.f23) Try.func23 (by kernel_rfl) (c := sub (bodyOf Try.f23) []) (by kernel_rfl) (by
  intro X H r H' h hX hH
  unfold r23 at h; split at h <;> try contradiction
  simp only [Option.some.injEq, Prod.mk.injEq] at h
  obtain ⟨hp, rfl, rfl⟩ := h
  obtain ⟨F, hF⟩ := s23 _ _ hp (hX _ (.head _))
  exact ⟨Af23 F, (f23_body F _ _).trans hF⟩)
/-! gantry/gantryref01.Same -/
def lVG0113 : List CEnt := []
def VG0113 : Env := mkEnv T01 G01 lVG0113
theorem eVG0113 : EOk Try.prog VG0113 := eok_mk (by exact trivial)
def Af13 (F : Nat) : Cuts := { F := F, at_ := fun n => match n with | 4016 => some [(0, .plain), (1, .plain), (5, .plain)] | _ => none, join := fun n => match n with | 1032 => some [(0, .plain), (1, .plain)] | 3024 => some [(0, .plain), (1, .plain)] | 4018 => some [(0, .plain), (1, .plain), (5, .plain)] | 8003 => some [] | _ => none }
def ef13_a : (List Int) × (List Int) → St := fun (a0, a1) => { tmps := [(0, (.vs (.rI .u8 a0) 0 1)), (1, (.vs (.rI .u8 a1) 0 1))], heap := [], next := 0, nt := 26, m := 0 }
def ef13_j1032 : (List Int) × (List Int) → St := fun (t0, t1) => { tmps := [(0, (.vs (.rI .u8 t0) 0 1)), (1, (.vs (.rI .u8 t1) 0 1))], heap := [], next := 0, nt := 26, m := 0 }
def ef13_j3024 : (List Int) × (List Int) → St := fun (t0, t1) => { tmps := [(0, (.vs (.rI .u8 t0) 0 1)), (1, (.vs (.rI .u8 t1) 0 1))], heap := [], next := 0, nt := 26, m := 0 }
def ef13_j4018 : (List Int) × (List Int) × Int → St := fun (t0, t1, t5) => { tmps := [(0, (.vs (.rI .u8 t0) 0 1)), (1, (.vs (.rI .u8 t1) 0 1)), (5, (.int .i64 t5))], heap := [], next := 0, nt := 26, m := 0 }
def ef13_l4016 : (List Int) × (List Int) × Int → St := fun (t0, t1, t5) => { tmps := [(0, (.vs (.rI .u8 t0) 0 1)), (1, (.vs (.rI .u8 t1) 0 1)), (5, (.int .i64 t5))], heap := [], next := 0, nt := 26, m := 0 }
def ef13_j8003 : Unit → St := fun _ => { tmps := [], heap := [], next := 0, nt := 26, m := 0 }
def f13_n0 (F : Nat) (kf13_j1032 : (List Int) × (List Int) → Option (AV × List Blk)) : (List Int) × (List Int) → Option (AV × List Blk) := fun (a0, a1) => (kf13_j1032 (a0, a1))
theorem f13_n0_eq (F : Nat) (Rf13_j1032 : St → Option (AV × List Blk)) : ∀ v, aexec VG0113 (Af13 F) (sub (bodyOf Try.f13) [0]) (ef13_a v) (kSeq (fun s => Rf13_j1032 (cutTo VG0113 (some [(0, .plain), (1, .plain)]) s)) (kFin VG0113 none (Try.f13).results.toList)) = f13_n0 F (fun w => Rf13_j1032 (ef13_j1032 w)) v := by
  rintro ⟨a0, a1⟩; kernel_rfl
def f13_n10 (F : Nat) (kf13_j3024 : (List Int) × (List Int) → Option (AV × List Blk)) : (List Int) × (List Int) → Option (AV × List Blk) := fun (t0, t1) => (cond ((↑t0.length : Int) != (↑t1.length : Int)) (some ((.bool false), [])) (kf13_j3024 (t0, t1)))
theorem f13_n10_eq (F : Nat) (Rf13_j3024 : St → Option (AV × List Blk)) : ∀ v, aexec VG0113 (Af13 F) (sub (bodyOf Try.f13) [1, 0]) (ef13_j1032 v) (kSeq (fun s => Rf13_j3024 (cutTo VG0113 (some [(0, .plain), (1, .plain)]) s)) (kFin VG0113 none (Try.f13).results.toList)) = f13_n10 F (fun w => Rf13_j3024 (ef13_j3024 w)) v := by
  rintro ⟨t0, t1⟩; kernel_rfl
def f13_n1100 (F : Nat) (kf13_j4018 : (List Int) × (List Int) × Int → Option (AV × List Blk)) (kf13_j8003 : Unit → Option (AV × List Blk)) : (List Int) × (List Int) → Option (AV × List Blk) := fun (t0, t1) => (kf13_j4018 (t0, t1, (0 : Int)))
theorem f13_n1100_eq (F : Nat) (Rf13_j4018 : St → Option (AV × List Blk)) (Rf13_j8003 : St → Option (AV × List Blk)) : ∀ v, aexec VG0113 (Af13 F) (sub (bodyOf Try.f13) [1, 1, 0, 0]) (ef13_j3024 v) (kSeq (fun s => Rf13_j4018 (cutTo VG0113 (some [(0, .plain), (1, .plain), (5, .plain)]) s)) (kSeq (fun s => Rf13_j8003 (cutTo VG0113 (some []) s)) (kFin VG0113 none (Try.f13).results.toList))) = f13_n1100 F (fun w => Rf13_j4018 (ef13_j4018 w)) (fun w => Rf13_j8003 (ef13_j8003 w)) v := by
  rintro ⟨t0, t1⟩; kernel_rfl
def f13_n110100 (F : Nat) (kf13_l4016 : (List Int) × (List Int) × Int → Option (AV × List Blk)) (kf13_j8003 : Unit → Option (AV × List Blk)) : (List Int) × (List Int) × Int → Option (AV × List Blk) := fun (t0, t1, t5) => (cond (decide (t5 < (↑t0.length : Int))) (cond ((decide (0 ≤ t5)) && (decide (t5 < (↑t0.length : Int)))) (cond ((decide (0 ≤ t5)) && (decide (t5 < (↑t1.length : Int)))) (cond ((t0.getD (Int.toNat t5) 0) != (t1.getD (Int.toNat t5) 0)) (some ((.bool false), [])) (kf13_l4016 (t0, t1, (IntKind.i64.wrap (t5 + (1 : Int)))))) none) none) (kf13_j8003 ()))
theorem f13_n110100_eq (F : Nat) (Rf13_l4016 : St → Option (AV × List Blk)) (Rf13_j8003 : St → Option (AV × List Blk)) : ∀ v, aexec VG0113 (Af13 F) (sub (bodyOf Try.f13) [1, 1, 0, 1, 0, 0]) (ef13_l4016 v) (kSeq (fun s => Rf13_l4016 (cutTo VG0113 (some [(0, .plain), (1, .plain), (5, .plain)]) s)) (kBlock 0 (kSeq (fun s => Rf13_j8003 (cutTo VG0113 (some []) s)) (kFin VG0113 none (Try.f13).results.toList)))) = f13_n110100 F (fun w => Rf13_l4016 (ef13_l4016 w)) (fun w => Rf13_j8003 (ef13_j8003 w)) v := by
  rintro ⟨t0, t1, t5⟩; kernel_rfl
def f13_n11010_i : (List Int) × (List Int) × Int → (List Int) × (List Int) × Int := fun (t0, t1, t5) => (t0, t1, t5)
def f13_n11010 (F : Nat) (kf13_j8003 : Unit → Option (AV × List Blk)) : (List Int) × (List Int) × Int → Option (AV × List Blk) := fun v => loopN (fun k => f13_n110100 F k kf13_j8003) F (f13_n11010_i v)
theorem f13_n11010_eq (F : Nat) (Rf13_j8003 : St → Option (AV × List Blk)) : ∀ v, aexec VG0113 (Af13 F) (sub (bodyOf Try.f13) [1, 1, 0, 1, 0]) (ef13_j4018 v) (kBlock 0 (kSeq (fun s => Rf13_j8003 (cutTo VG0113 (some []) s)) (kFin VG0113 none (Try.f13).results.toList))) = f13_n11010 F (fun w => Rf13_j8003 (ef13_j8003 w)) v :=
  loop_cut (c := (sub (bodyOf Try.f13) [1, 1, 0, 1, 0])) (d := (sub (bodyOf Try.f13) [1, 1, 0, 1, 0, 0])) (by kernel_rfl) (spec := [(0, .plain), (1, .plain), (5, .plain)]) (by kernel_rfl) ef13_j4018 ef13_l4016 (kBlock 0 (kSeq (fun s => Rf13_j8003 (cutTo VG0113 (some []) s)) (kFin VG0113 none (Try.f13).results.toList))) f13_n11010_i (fun k => f13_n110100 F k (fun w => Rf13_j8003 (ef13_j8003 w)))
    (by rintro ⟨t0, t1, t5⟩; kernel_rfl) (fun Rf13_l4016 => f13_n110100_eq F Rf13_l4016 Rf13_j8003)
def f13_n1101 (F : Nat) (kf13_j8003 : Unit → Option (AV × List Blk)) : (List Int) × (List Int) × Int → Option (AV × List Blk) := f13_n11010 F kf13_j8003
theorem f13_n1101_eq (F : Nat) (Rf13_j8003 : St → Option (AV × List Blk)) : ∀ v, aexec VG0113 (Af13 F) (sub (bodyOf Try.f13) [1, 1, 0, 1]) (ef13_j4018 v) (kSeq (fun s => Rf13_j8003 (cutTo VG0113 (some []) s)) (kFin VG0113 none (Try.f13).results.toList)) = f13_n1101 F (fun w => Rf13_j8003 (ef13_j8003 w)) v := fun v =>
  (block_in (c := (sub (bodyOf Try.f13) [1, 1, 0, 1])) (d := (sub (bodyOf Try.f13) [1, 1, 0, 1, 0])) (id := 0) (by kernel_rfl) _ _).trans (f13_n11010_eq F Rf13_j8003 v)
def f13_n110 (F : Nat) (kf13_j8003 : Unit → Option (AV × List Blk)) : (List Int) × (List Int) → Option (AV × List Blk) := fun v => f13_n1100 F (f13_n1101 F kf13_j8003) kf13_j8003 v
theorem f13_n110_eq (F : Nat) (Rf13_j8003 : St → Option (AV × List Blk)) : ∀ v, aexec VG0113 (Af13 F) (sub (bodyOf Try.f13) [1, 1, 0]) (ef13_j3024 v) (kSeq (fun s => Rf13_j8003 (cutTo VG0113 (some []) s)) (kFin VG0113 none (Try.f13).results.toList)) = f13_n110 F (fun w => Rf13_j8003 (ef13_j8003 w)) v :=
  seq_cut (c := (sub (bodyOf Try.f13) [1, 1, 0])) (a := (sub (bodyOf Try.f13) [1, 1, 0, 0])) (b := (sub (bodyOf Try.f13) [1, 1, 0, 1])) (by kernel_rfl) (spec := [(0, .plain), (1, .plain), (5, .plain)]) (by kernel_rfl) ef13_j3024 ef13_j4018 (kSeq (fun s => Rf13_j8003 (cutTo VG0113 (some []) s)) (kFin VG0113 none (Try.f13).results.toList)) (fun k => f13_n1100 F k (fun w => Rf13_j8003 (ef13_j8003 w))) (f13_n1101 F (fun w => Rf13_j8003 (ef13_j8003 w)))
    (fun Rf13_j4018 => f13_n1100_eq F Rf13_j4018 Rf13_j8003) (f13_n1101_eq F Rf13_j8003)
def f13_n111 (F : Nat) : Unit → Option (AV × List Blk) := fun _ => (some ((.bool true), []))
theorem f13_n111_eq (F : Nat) : ∀ v, aexec VG0113 (Af13 F) (sub (bodyOf Try.f13) [1, 1, 1]) (ef13_j8003 v) (kFin VG0113 none (Try.f13).results.toList) = f13_n111 F v := by
  intro _; kernel_rfl
def f13_n11 (F : Nat) : (List Int) × (List Int) → Option (AV × List Blk) := fun v => f13_n110 F (f13_n111 F) v
theorem f13_n11_eq (F : Nat) : ∀ v, aexec VG0113 (Af13 F) (sub (bodyOf Try.f13) [1, 1]) (ef13_j3024 v) (kFin VG0113 none (Try.f13).results.toList) = f13_n11 F v :=
  seq_cut (c := (sub (bodyOf Try.f13) [1, 1])) (a := (sub (bodyOf Try.f13) [1, 1, 0])) (b := (sub (bodyOf Try.f13) [1, 1, 1])) (by kernel_rfl) (spec := []) (by kernel_rfl) ef13_j3024 ef13_j8003 (kFin VG0113 none (Try.f13).results.toList) (fun k => f13_n110 F k) (f13_n111 F)
    (fun Rf13_j8003 => f13_n110_eq F Rf13_j8003) (f13_n111_eq F)
def f13_n1 (F : Nat) : (List Int) × (List Int) → Option (AV × List Blk) := fun v => f13_n10 F (f13_n11 F) v
theorem f13_n1_eq (F : Nat) : ∀ v, aexec VG0113 (Af13 F) (sub (bodyOf Try.f13) [1]) (ef13_j1032 v) (kFin VG0113 none (Try.f13).results.toList) = f13_n1 F v :=
  seq_cut (c := (sub (bodyOf Try.f13) [1])) (a := (sub (bodyOf Try.f13) [1, 0])) (b := (sub (bodyOf Try.f13) [1, 1])) (by kernel_rfl) (spec := [(0, .plain), (1, .plain)]) (by kernel_rfl) ef13_j1032 ef13_j3024 (kFin VG0113 none (Try.f13).results.toList) (fun k => f13_n10 F k) (f13_n11 F)
    (fun Rf13_j3024 => f13_n10_eq F Rf13_j3024) (f13_n11_eq F)
def f13_nt (F : Nat) : (List Int) × (List Int) → Option (AV × List Blk) := fun v => f13_n0 F (f13_n1 F) v
theorem f13_nt_eq (F : Nat) : ∀ v, aexec VG0113 (Af13 F) (sub (bodyOf Try.f13) []) (ef13_a v) (kFin VG0113 none (Try.f13).results.toList) = f13_nt F v :=
  seq_cut (c := (sub (bodyOf Try.f13) [])) (a := (sub (bodyOf Try.f13) [0])) (b := (sub (bodyOf Try.f13) [1])) (by kernel_rfl) (spec := [(0, .plain), (1, .plain)]) (by kernel_rfl) ef13_a ef13_j1032 (kFin VG0113 none (Try.f13).results.toList) (fun k => f13_n0 F k) (f13_n1 F)
    (fun Rf13_j1032 => f13_n0_eq F Rf13_j1032) (f13_n1_eq F)
/-- gantry/gantryref01.Same -/
def f13 (F : Nat) : (List Int) × (List Int) → Option (AV × List Blk) := f13_nt F
theorem f13_body (F : Nat) (a0 : List Int) (a1 : List Int) : abody VG0113 (Af13 F) Try.f13 [(.vs (.rI .u8 a0) 0 1), (.vs (.rI .u8 a1) 0 1)] [] = f13 F (a0, a1) :=
  (abody_in (c := (sub (bodyOf Try.f13) [])) (by kernel_rfl) (s := ef13_a (a0, a1)) (by kernel_rfl)).trans (f13_nt_eq F (a0, a1))
def r13 : CRun := fun X H => match X, H with
  | [(.vs (.rI .u8 a0) 0 1), (.vs (.rI .u8 a1) 0 1)], [] => some (true, (.bool (decide (a0 = a1))), [])
  | _, _ => none
theorem s13 (a0 : List Int) (a1 : List Int) (h0 : okV (.vs (.rI .u8 a0) 0 1)) (h1 : okV (.vs (.rI .u8 a1) 0 1)) : ∃ F, f13 F (a0, a1) = some ((.bool (decide (a0 = a1))), []) := by
  have hl0 := h0.2
  have hl1 := h1.2
  refine ⟨a0.length + 1, ?_⟩
  simp only [f13, f13_nt, f13_n0, f13_n1, f13_n10, int_bne]
  by_cases hl : a0.length = a1.length
  · rw [cond_neg (by omega)]
    simp only [f13_n11, f13_n110, f13_n1100, f13_n1101, f13_n11010, f13_n11010_i]
    refine loopN_ind (fun m s => s.1 = a0 ∧ s.2.1 = a1 ∧ s.2.2 = ((a0.length - m : Nat) : Int) ∧ m ≤ a0.length ∧ ∀ i, i < a0.length - m → a0.getD i 0 = a1.getD i 0) ?_ _ a0.length _ (by omega) ⟨rfl, rfl, by simp, Nat.le_refl _, fun i hi => by omega⟩
    rintro m ⟨t0, t1, t5⟩ k ⟨e1, e2, e3, hm, hi⟩ hk
    simp only at e1 e2 e3 hi
    subst e1; subst e2; subst e3
    simp only [f13_n110100, dec_and, int_bne, lst_beq, dec_not]
    cases m with
    | zero =>
      rw [cond_neg (by omega), decide_eq_true (list_eq 0 hl fun i h => hi i (by omega))]
      rfl
    | succ m =>
      rw [Int.toNat_natCast, cond_pos (by omega), cond_pos (by omega), cond_pos (by omega)]
      by_cases he : t0.getD (t0.length - (m + 1)) 0 = t1.getD (t0.length - (m + 1)) 0
      · rw [cond_neg (fun h => h he), i64w (by omega) (by omega)]
        refine hk m _ (by omega) ⟨rfl, rfl, by simp only []; omega, by omega, fun i hi' => ?_⟩
        by_cases hh : i < t0.length - (m + 1)
        · exact hi i hh
        · rw [show i = t0.length - (m + 1) by omega]; exact he
      · rw [cond_pos he, decide_eq_false (fun e => he (by rw [e]))]
  · rw [cond_pos (by omega), decide_eq_false (fun e => hl (by rw [e]))]

theorem c13 : CallOk Try.prog G01 13 r13 := callOk_of (V := VG0113) mixed tys eVG0113 (f := 13) (fn := Try.f13) Try.func13 (by kernel_rfl) (c := sub (bodyOf Try.f13) []) (by kernel_rfl) (by
  intro X H r H' h hX hH
  unfold r13 at h; split at h <;> try contradiction
  simp only [Option.some.injEq, Prod.mk.injEq] at h
  obtain ⟨hp, rfl, rfl⟩ := h
  obtain ⟨F, hF⟩ := s13 _ _ (hX _ (.head _)) (hX _ (.tail _ (.head _)))
  exact ⟨Af13 F, (f13_body F _ _).trans hF⟩)
/-! gantry/gantryref01.SameInts -/
def lVG0130 : List CEnt := []
def VG0130 : Env := mkEnv T01 G01 lVG0130
theorem eVG0130 : EOk Try.prog VG0130 := eok_mk (by exact trivial)
def Af30 (F : Nat) : Cuts := { F := F, at_ := fun n => match n with | 4016 => some [(0, .plain), (1, .plain), (5, .plain)] | _ => none, join := fun n => match n with | 1032 => some [(0, .plain), (1, .plain)] | 3024 => some [(0, .plain), (1, .plain)] | 4018 => some [(0, .plain), (1, .plain), (5, .plain)] | 8003 => some [] | _ => none }
def ef30_a : (List Int) × (List Int) → St := fun (a0, a1) => { tmps := [(0, (.vs (.rI .i64 a0) 0 1)), (1, (.vs (.rI .i64 a1) 0 1))], heap := [], next := 0, nt := 26, m := 0 }
def ef30_j1032 : (List Int) × (List Int) → St := fun (t0, t1) => { tmps := [(0, (.vs (.rI .i64 t0) 0 1)), (1, (.vs (.rI .i64 t1) 0 1))], heap := [], next := 0, nt := 26, m := 0 }
def ef30_j3024 : (List Int) × (List Int) → St := fun (t0, t1) => { tmps := [(0, (.vs (.rI .i64 t0) 0 1)), (1, (.vs (.rI .i64 t1) 0 1))], heap := [], next := 0, nt := 26, m := 0 }
def ef30_j4018 : (List Int) × (List Int) × Int → St := fun (t0, t1, t5) => { tmps := [(0, (.vs (.rI .i64 t0) 0 1)), (1, (.vs (.rI .i64 t1) 0 1)), (5, (.int .i64 t5))], heap := [], next := 0, nt := 26, m := 0 }
def ef30_l4016 : (List Int) × (List Int) × Int → St := fun (t0, t1, t5) => { tmps := [(0, (.vs (.rI .i64 t0) 0 1)), (1, (.vs (.rI .i64 t1) 0 1)), (5, (.int .i64 t5))], heap := [], next := 0, nt := 26, m := 0 }
def ef30_j8003 : Unit → St := fun _ => { tmps := [], heap := [], next := 0, nt := 26, m := 0 }
def f30_n0 (F : Nat) (kf30_j1032 : (List Int) × (List Int) → Option (AV × List Blk)) : (List Int) × (List Int) → Option (AV × List Blk) := fun (a0, a1) => (kf30_j1032 (a0, a1))
theorem f30_n0_eq (F : Nat) (Rf30_j1032 : St → Option (AV × List Blk)) : ∀ v, aexec VG0130 (Af30 F) (sub (bodyOf Try.f30) [0]) (ef30_a v) (kSeq (fun s => Rf30_j1032 (cutTo VG0130 (some [(0, .plain), (1, .plain)]) s)) (kFin VG0130 none (Try.f30).results.toList)) = f30_n0 F (fun w => Rf30_j1032 (ef30_j1032 w)) v := by
  rintro ⟨a0, a1⟩; kernel_rfl
def f30_n10 (F : Nat) (kf30_j3024 : (List Int) × (List Int) → Option (AV × List Blk)) : (List Int) × (List Int) → Option (AV × List Blk) := fun (t0, t1) => (cond ((↑t0.length : Int) != (↑t1.length : Int)) (some ((.bool false), [])) (kf30_j3024 (t0, t1)))
theorem f30_n10_eq (F : Nat) (Rf30_j3024 : St → Option (AV × List Blk)) : ∀ v, aexec VG0130 (Af30 F) (sub (bodyOf Try.f30) [1, 0]) (ef30_j1032 v) (kSeq (fun s => Rf30_j3024 (cutTo VG0130 (some [(0, .plain), (1, .plain)]) s)) (kFin VG0130 none (Try.f30).results.toList)) = f30_n10 F (fun w => Rf30_j3024 (ef30_j3024 w)) v := by
  rintro ⟨t0, t1⟩; kernel_rfl
def f30_n1100 (F : Nat) (kf30_j4018 : (List Int) × (List Int) × Int → Option (AV × List Blk)) (kf30_j8003 : Unit → Option (AV × List Blk)) : (List Int) × (List Int) → Option (AV × List Blk) := fun (t0, t1) => (kf30_j4018 (t0, t1, (0 : Int)))
theorem f30_n1100_eq (F : Nat) (Rf30_j4018 : St → Option (AV × List Blk)) (Rf30_j8003 : St → Option (AV × List Blk)) : ∀ v, aexec VG0130 (Af30 F) (sub (bodyOf Try.f30) [1, 1, 0, 0]) (ef30_j3024 v) (kSeq (fun s => Rf30_j4018 (cutTo VG0130 (some [(0, .plain), (1, .plain), (5, .plain)]) s)) (kSeq (fun s => Rf30_j8003 (cutTo VG0130 (some []) s)) (kFin VG0130 none (Try.f30).results.toList))) = f30_n1100 F (fun w => Rf30_j4018 (ef30_j4018 w)) (fun w => Rf30_j8003 (ef30_j8003 w)) v := by
  rintro ⟨t0, t1⟩; kernel_rfl
def f30_n110100 (F : Nat) (kf30_l4016 : (List Int) × (List Int) × Int → Option (AV × List Blk)) (kf30_j8003 : Unit → Option (AV × List Blk)) : (List Int) × (List Int) × Int → Option (AV × List Blk) := fun (t0, t1, t5) => (cond (decide (t5 < (↑t0.length : Int))) (cond ((decide (0 ≤ t5)) && (decide (t5 < (↑t0.length : Int)))) (cond ((decide (0 ≤ t5)) && (decide (t5 < (↑t1.length : Int)))) (cond ((t0.getD (Int.toNat t5) 0) != (t1.getD (Int.toNat t5) 0)) (some ((.bool false), [])) (kf30_l4016 (t0, t1, (IntKind.i64.wrap (t5 + (1 : Int)))))) none) none) (kf30_j8003 ()))
theorem f30_n110100_eq (F : Nat) (Rf30_l4016 : St → Option (AV × List Blk)) (Rf30_j8003 : St → Option (AV × List Blk)) : ∀ v, aexec VG0130 (Af30 F) (sub (bodyOf Try.f30) [1, 1, 0, 1, 0, 0]) (ef30_l4016 v) (kSeq (fun s => Rf30_l4016 (cutTo VG0130 (some [(0, .plain), (1, .plain), (5, .plain)]) s)) (kBlock 0 (kSeq (fun s => Rf30_j8003 (cutTo VG0130 (some []) s)) (kFin VG0130 none (Try.f30).results.toList)))) = f30_n110100 F (fun w => Rf30_l4016 (ef30_l4016 w)) (fun w => Rf30_j8003 (ef30_j8003 w)) v := by
  rintro ⟨t0, t1, t5⟩; kernel_rfl
def f30_n11010_i : (List Int) × (List Int) × Int → (List Int) × (List Int) × Int := fun (t0, t1, t5) => (t0, t1, t5)
def f30_n11010 (F : Nat) (kf30_j8003 : Unit → Option (AV × List Blk)) : (List Int) × (List Int) × Int → Option (AV × List Blk) := fun v => loopN (fun k => f30_n110100 F k kf30_j8003) F (f30_n11010_i v)
theorem f30_n11010_eq (F : Nat) (Rf30_j8003 : St → Option (AV × List Blk)) : ∀ v, aexec VG0130 (Af30 F) (sub (bodyOf Try.f30) [1, 1, 0, 1, 0]) (ef30_j4018 v) (kBlock 0 (kSeq (fun s => Rf30_j8003 (cutTo VG0130 (some []) s)) (kFin VG0130 none (Try.f30).results.toList))) = f30_n11010 F (fun w => Rf30_j8003 (ef30_j8003 w)) v :=
  loop_cut (c := (sub (bodyOf Try.f30) [1, 1, 0, 1, 0])) (d := (sub (bodyOf Try.f30) [1, 1, 0, 1, 0, 0])) (by kernel_rfl) (spec := [(0, .plain), (1, .plain), (5, .plain)]) (by kernel_rfl) ef30_j4018 ef30_l4016 (kBlock 0 (kSeq (fun s => Rf30_j8003 (cutTo VG0130 (some []) s)) (kFin VG0130 none (Try.f30).results.toList))) f30_n11010_i (fun k => f30_n110100 F k (fun w => Rf30_j8003 (ef30_j8003 w)))
    (by rintro ⟨t0, t1, t5⟩; kernel_rfl) (fun Rf30_l4016 => f30_n110100_eq F Rf30_l4016 Rf30_j8003)
def f30_n1101 (F : Nat) (kf30_j8003 : Unit → Option (AV × List Blk)) : (List Int) × (List Int) × Int → Option (AV × List Blk) := f30_n11010 F kf30_j8003
theorem f30_n1101_eq (F : Nat) (Rf30_j8003 : St → Option (AV × List Blk)) : ∀ v, aexec VG0130 (Af30 F) (sub (bodyOf Try.f30) [1, 1, 0, 1]) (ef30_j4018 v) (kSeq (fun s => Rf30_j8003 (cutTo VG0130 (some []) s)) (kFin VG0130 none (Try.f30).results.toList)) = f30_n1101 F (fun w => Rf30_j8003 (ef30_j8003 w)) v := fun v =>
  (block_in (c := (sub (bodyOf Try.f30) [1, 1, 0, 1])) (d := (sub (bodyOf Try.f30) [1, 1, 0, 1, 0])) (id := 0) (by kernel_rfl) _ _).trans (f30_n11010_eq F Rf30_j8003 v)
def f30_n110 (F : Nat) (kf30_j8003 : Unit → Option (AV × List Blk)) : (List Int) × (List Int) → Option (AV × List Blk) := fun v => f30_n1100 F (f30_n1101 F kf30_j8003) kf30_j8003 v
theorem f30_n110_eq (F : Nat) (Rf30_j8003 : St → Option (AV × List Blk)) : ∀ v, aexec VG0130 (Af30 F) (sub (bodyOf Try.f30) [1, 1, 0]) (ef30_j3024 v) (kSeq (fun s => Rf30_j8003 (cutTo VG0130 (some []) s)) (kFin VG0130 none (Try.f30).results.toList)) = f30_n110 F (fun w => Rf30_j8003 (ef30_j8003 w)) v :=
  seq_cut (c := (sub (bodyOf Try.f30) [1, 1, 0])) (a := (sub (bodyOf Try.f30) [1, 1, 0, 0])) (b := (sub (bodyOf Try.f30) [1, 1, 0, 1])) (by kernel_rfl) (spec := [(0, .plain), (1, .plain), (5, .plain)]) (by kernel_rfl) ef30_j3024 ef30_j4018 (kSeq (fun s => Rf30_j8003 (cutTo VG0130 (some []) s)) (kFin VG0130 none (Try.f30).results.toList)) (fun k => f30_n1100 F k (fun w => Rf30_j8003 (ef30_j8003 w))) (f30_n1101 F (fun w => Rf30_j8003 (ef30_j8003 w)))
    (fun Rf30_j4018 => f30_n1100_eq F Rf30_j4018 Rf30_j8003) (f30_n1101_eq F Rf30_j8003)
def f30_n111 (F : Nat) : Unit → Option (AV × List Blk) := fun _ => (some ((.bool true), []))
theorem f30_n111_eq (F : Nat) : ∀ v, aexec VG0130 (Af30 F) (sub (bodyOf Try.f30) [1, 1, 1]) (ef30_j8003 v) (kFin VG0130 none (Try.f30).results.toList) = f30_n111 F v := by
  intro _; kernel_rfl
def f30_n11 (F : Nat) : (List Int) × (List Int) → Option (AV × List Blk) := fun v => f30_n110 F (f30_n111 F) v
theorem f30_n11_eq (F : Nat) : ∀ v, aexec VG0130 (Af30 F) (sub (bodyOf Try.f30) [1, 1]) (ef30_j3024 v) (kFin VG0130 none (Try.f30).results.toList) = f30_n11 F v :=
  seq_cut (c := (sub (bodyOf Try.f30) [1, 1])) (a := (sub (bodyOf Try.f30) [1, 1, 0])) (b := (sub (bodyOf Try.f30) [1, 1, 1])) (by kernel_rfl) (spec := []) (by kernel_rfl) ef30_j3024 ef30_j8003 (kFin VG0130 none (Try.f30).results.toList) (fun k => f30_n110 F k) (f30_n111 F)
    (fun Rf30_j8003 => f30_n110_eq F Rf30_j8003) (f30_n111_eq F)
def f30_n1 (F : Nat) : (List Int) × (List Int) → Option (AV × List Blk) := fun v => f30_n10 F (f30_n11 F) v
theorem f30_n1_eq (F : Nat) : ∀ v, aexec VG0130 (Af30 F) (sub (bodyOf Try.f30) [1]) (ef30_j1032 v) (kFin VG0130 none (Try.f30).results.toList) = f30_n1 F v :=
  seq_cut (c := (sub (bodyOf Try.f30) [1])) (a := (sub (bodyOf Try.f30) [1, 0])) (b := (sub (bodyOf Try.f30) [1, 1])) (by kernel_rfl) (spec := [(0, .plain), (1, .plain)]) (by kernel_rfl) ef30_j1032 ef30_j3024 (kFin VG0130 none (Try.f30).results.toList) (fun k => f30_n10 F k) (f30_n11 F)
    (fun Rf30_j3024 => f30_n10_eq F Rf30_j3024) (f30_n11_eq F)
def f30_nt (F : Nat) : (List Int) × (List Int) → Option (AV × List Blk) := fun v => f30_n0 F (f30_n1 F) v
theorem f30_nt_eq (F : Nat) : ∀ v, aexec VG0130 (Af30 F) (sub (bodyOf Try.f30) []) (ef30_a v) (kFin VG0130 none (Try.f30).results.toList) = f30_nt F v :=
  seq_cut (c := (sub (bodyOf Try.f30) [])) (a := (sub (bodyOf Try.f30) [0])) (b := (sub (bodyOf Try.f30) [1])) (by kernel_rfl) (spec := [(0, .plain), (1, .plain)]) (by kernel_rfl) ef30_a ef30_j1032 (kFin VG0130 none (Try.f30).results.toList) (fun k => f30_n0 F k) (f30_n1 F)
    (fun Rf30_j1032 => f30_n0_eq F Rf30_j1032) (f30_n1_eq F)
/-- gantry/gantryref01.SameInts -/
def f30 (F : Nat) : (List Int) × (List Int) → Option (AV × List Blk) := f30_nt F
theorem f30_body (F : Nat) (a0 : List Int) (a1 : List Int) : abody VG0130 (Af30 F) Try.f30 [(.vs (.rI .i64 a0) 0 1), (.vs (.rI .i64 a1) 0 1)] [] = f30 F (a0, a1) :=
  (abody_in (c := (sub (bodyOf Try.f30) [])) (by kernel_rfl) (s := ef30_a (a0, a1)) (by kernel_rfl)).trans (f30_nt_eq F (a0, a1))
def r30 : CRun := fun X H => match X, H with
  | [(.vs (.rI .i64 a0) 0 1), (.vs (.rI .i64 a1) 0 1)], [] => some (true, (.bool (decide (a0 = a1))), [])
  | _, _ => none
theorem s30 (a0 : List Int) (a1 : List Int) (h0 : okV (.vs (.rI .i64 a0) 0 1)) (h1 : okV (.vs (.rI .i64 a1) 0 1)) : ∃ F, f30 F (a0, a1) = some ((.bool (decide (a0 = a1))), []) := by
  have hl0 := h0.2
  have hl1 := h1.2
  refine ⟨a0.length + 1, ?_⟩
  simp only [f30, f30_nt, f30_n0, f30_n1, f30_n10, int_bne]
  by_cases hl : a0.length = a1.length
  · rw [cond_neg (by omega)]
    simp only [f30_n11, f30_n110, f30_n1100, f30_n1101, f30_n11010, f30_n11010_i]
    refine loopN_ind (fun m s => s.1 = a0 ∧ s.2.1 = a1 ∧ s.2.2 = ((a0.length - m : Nat) : Int) ∧ m ≤ a0.length ∧ ∀ i, i < a0.length - m → a0.getD i 0 = a1.getD i 0) ?_ _ a0.length _ (by omega) ⟨rfl, rfl, by simp, Nat.le_refl _, fun i hi => by omega⟩
    rintro m ⟨t0, t1, t5⟩ k ⟨e1, e2, e3, hm, hi⟩ hk
    simp only at e1 e2 e3 hi
    subst e1; subst e2; subst e3
    simp only [f30_n110100, dec_and, int_bne, lst_beq, dec_not]
    cases m with
    | zero =>
      rw [cond_neg (by omega), decide_eq_true (list_eq 0 hl fun i h => hi i (by omega))]
      rfl
    | succ m =>
      rw [Int.toNat_natCast, cond_pos (by omega), cond_pos (by omega), cond_pos (by omega)]
      by_cases he : t0.getD (t0.length - (m + 1)) 0 = t1.getD (t0.length - (m + 1)) 0
      · rw [cond_neg (fun h => h he), i64w (by omega) (by omega)]
        refine hk m _ (by omega) ⟨rfl, rfl, by simp only []; omega, by omega, fun i hi' => ?_⟩
        by_cases hh : i < t0.length - (m + 1)
        · exact hi i hh
        · rw [show i = t0.length - (m + 1) by omega]; exact he
      · rw [cond_pos he, decide_eq_false (fun e => he (by rw [e]))]
  · rw [cond_pos (by omega), decide_eq_false (fun e => hl (by rw [e]))]

theorem c30 : CallOk Try.prog G01 30 r30 := callOk_of (V := VG0130) mixed tys eVG0130 (f := 30) (fn := Try.f30) Try.func30 (by kernel_rfl) (c := sub (bodyOf Try.f30) []) (by kernel_rfl) (by
  intro X H r H' h hX hH
  unfold r30 at h; split at h <;> try contradiction
  simp only [Option.some.injEq, Prod.mk.injEq] at h
  obtain ⟨hp, rfl, rfl⟩ := h
  obtain ⟨F, hF⟩ := s30 _ _ (hX _ (.head _)) (hX _ (.tail _ (.head _)))
  exact ⟨Af30 F, (f30_body F _ _).trans hF⟩)
/-! gantry/gantryref01.SameTexts -/
def lVG0133 : List CEnt := []
def VG0133 : Env := mkEnv T01 G01 lVG0133
theorem eVG0133 : EOk Try.prog VG0133 := eok_mk (by exact trivial)
def Af33 (F : Nat) : Cuts := { F := F, at_ := fun n => match n with | 4016 => some [(0, .plain), (1, .plain), (5, .plain)] | _ => none, join := fun n => match n with | 1032 => some [(0, .plain), (1, .plain)] | 3024 => some [(0, .plain), (1, .plain)] | 4018 => some [(0, .plain), (1, .plain), (5, .plain)] | 8003 => some [] | _ => none }
def ef33_a : (List (List Int)) × (List (List Int)) → St := fun (a0, a1) => { tmps := [(0, (.vs (.rS a0) 0 1)), (1, (.vs (.rS a1) 0 1))], heap := [], next := 0, nt := 26, m := 0 }
def ef33_j1032 : (List (List Int)) × (List (List Int)) → St := fun (t0, t1) => { tmps := [(0, (.vs (.rS t0) 0 1)), (1, (.vs (.rS t1) 0 1))], heap := [], next := 0, nt := 26, m := 0 }
def ef33_j3024 : (List (List Int)) × (List (List Int)) → St := fun (t0, t1) => { tmps := [(0, (.vs (.rS t0) 0 1)), (1, (.vs (.rS t1) 0 1))], heap := [], next := 0, nt := 26, m := 0 }
def ef33_j4018 : (List (List Int)) × (List (List Int)) × Int → St := fun (t0, t1, t5) => { tmps := [(0, (.vs (.rS t0) 0 1)), (1, (.vs (.rS t1) 0 1)), (5, (.int .i64 t5))], heap := [], next := 0, nt := 26, m := 0 }
def ef33_l4016 : (List (List Int)) × (List (List Int)) × Int → St := fun (t0, t1, t5) => { tmps := [(0, (.vs (.rS t0) 0 1)), (1, (.vs (.rS t1) 0 1)), (5, (.int .i64 t5))], heap := [], next := 0, nt := 26, m := 0 }
def ef33_j8003 : Unit → St := fun _ => { tmps := [], heap := [], next := 0, nt := 26, m := 0 }
def f33_n0 (F : Nat) (kf33_j1032 : (List (List Int)) × (List (List Int)) → Option (AV × List Blk)) : (List (List Int)) × (List (List Int)) → Option (AV × List Blk) := fun (a0, a1) => (kf33_j1032 (a0, a1))
theorem f33_n0_eq (F : Nat) (Rf33_j1032 : St → Option (AV × List Blk)) : ∀ v, aexec VG0133 (Af33 F) (sub (bodyOf Try.f33) [0]) (ef33_a v) (kSeq (fun s => Rf33_j1032 (cutTo VG0133 (some [(0, .plain), (1, .plain)]) s)) (kFin VG0133 none (Try.f33).results.toList)) = f33_n0 F (fun w => Rf33_j1032 (ef33_j1032 w)) v := by
  rintro ⟨a0, a1⟩; kernel_rfl
def f33_n10 (F : Nat) (kf33_j3024 : (List (List Int)) × (List (List Int)) → Option (AV × List Blk)) : (List (List Int)) × (List (List Int)) → Option (AV × List Blk) := fun (t0, t1) => (cond ((↑t0.length : Int) != (↑t1.length : Int)) (some ((.bool false), [])) (kf33_j3024 (t0, t1)))
theorem f33_n10_eq (F : Nat) (Rf33_j3024 : St → Option (AV × List Blk)) : ∀ v, aexec VG0133 (Af33 F) (sub (bodyOf Try.f33) [1, 0]) (ef33_j1032 v) (kSeq (fun s => Rf33_j3024 (cutTo VG0133 (some [(0, .plain), (1, .plain)]) s)) (kFin VG0133 none (Try.f33).results.toList)) = f33_n10 F (fun w => Rf33_j3024 (ef33_j3024 w)) v := by
  rintro ⟨t0, t1⟩; kernel_rfl
def f33_n1100 (F : Nat) (kf33_j4018 : (List (List Int)) × (List (List Int)) × Int → Option (AV × List Blk)) (kf33_j8003 : Unit → Option (AV × List Blk)) : (List (List Int)) × (List (List Int)) → Option (AV × List Blk) := fun (t0, t1) => (kf33_j4018 (t0, t1, (0 : Int)))
theorem f33_n1100_eq (F : Nat) (Rf33_j4018 : St → Option (AV × List Blk)) (Rf33_j8003 : St → Option (AV × List Blk)) : ∀ v, aexec VG0133 (Af33 F) (sub (bodyOf Try.f33) [1, 1, 0, 0]) (ef33_j3024 v) (kSeq (fun s => Rf33_j4018 (cutTo VG0133 (some [(0, .plain), (1, .plain), (5, .plain)]) s)) (kSeq (fun s => Rf33_j8003 (cutTo VG0133 (some []) s)) (kFin VG0133 none (Try.f33).results.toList))) = f33_n1100 F (fun w => Rf33_j4018 (ef33_j4018 w)) (fun w => Rf33_j8003 (ef33_j8003 w)) v := by
  rintro ⟨t0, t1⟩; kernel_rfl
def f33_n110100 (F : Nat) (kf33_l4016 : (List (List Int)) × (List (List Int)) × Int → Option (AV × List Blk)) (kf33_j8003 : Unit → Option (AV × List Blk)) : (List (List Int)) × (List (List Int)) × Int → Option (AV × List Blk) := fun (t0, t1, t5) => (cond (decide (t5 < (↑t0.length : Int))) (cond ((decide (0 ≤ t5)) && (decide (t5 < (↑t0.length : Int)))) (cond ((decide (0 ≤ t5)) && (decide (t5 < (↑t1.length : Int)))) (cond (!(((t0.getD (Int.toNat t5) []) : List Int) == ((t1.getD (Int.toNat t5) []) : List Int))) (some ((.bool false), [])) (kf33_l4016 (t0, t1, (IntKind.i64.wrap (t5 + (1 : Int)))))) none) none) (kf33_j8003 ()))
theorem f33_n110100_eq (F : Nat) (Rf33_l4016 : St → Option (AV × List Blk)) (Rf33_j8003 : St → Option (AV × List Blk)) : ∀ v, aexec VG0133 (Af33 F) (sub (bodyOf Try.f33) [1, 1, 0, 1, 0, 0]) (ef33_l4016 v) (kSeq (fun s => Rf33_l4016 (cutTo VG0133 (some [(0, .plain), (1, .plain), (5, .plain)]) s)) (kBlock 0 (kSeq (fun s => Rf33_j8003 (cutTo VG0133 (some []) s)) (kFin VG0133 none (Try.f33).results.toList)))) = f33_n110100 F (fun w => Rf33_l4016 (ef33_l4016 w)) (fun w => Rf33_j8003 (ef33_j8003 w)) v := by
  rintro ⟨t0, t1, t5⟩; kernel_rfl
def f33_n11010_i : (List (List Int)) × (List (List Int)) × Int → (List (List Int)) × (List (List Int)) × Int := fun (t0, t1, t5) => (t0, t1, t5)
def f33_n11010 (F : Nat) (kf33_j8003 : Unit → Option (AV × List Blk)) : (List (List Int)) × (List (List Int)) × Int → Option (AV × List Blk) := fun v => loopN (fun k => f33_n110100 F k kf33_j8003) F (f33_n11010_i v)
theorem f33_n11010_eq (F : Nat) (Rf33_j8003 : St → Option (AV × List Blk)) : ∀ v, aexec VG0133 (Af33 F) (sub (bodyOf Try.f33) [1, 1, 0, 1, 0]) (ef33_j4018 v) (kBlock 0 (kSeq (fun s => Rf33_j8003 (cutTo VG0133 (some []) s)) (kFin VG0133 none (Try.f33).results.toList))) = f33_n11010 F (fun w => Rf33_j8003 (ef33_j8003 w)) v :=
  loop_cut (c := (sub (bodyOf Try.f33) [1, 1, 0, 1, 0])) (d := (sub (bodyOf Try.f33) [1, 1, 0, 1, 0, 0])) (by kernel_rfl) (spec := [(0, .plain), (1, .plain), (5, .plain)]) (by kernel_rfl) ef33_j4018 ef33_l4016 (kBlock 0 (kSeq (fun s => Rf33_j8003 (cutTo VG0133 (some []) s)) (kFin VG0133 none (Try.f33).results.toList))) f33_n11010_i (fun k => f33_n110100 F k (fun w => Rf33_j8003 (ef33_j8003 w)))
    (by rintro ⟨t0, t1, t5⟩; kernel_rfl) (fun Rf33_l4016 => f33_n110100_eq F Rf33_l4016 Rf33_j8003)
def f33_n1101 (F : Nat) (kf33_j8003 : Unit → Option (AV × List Blk)) : (List (List Int)) × (List (List Int)) × Int → Option (AV × List Blk) := f33_n11010 F kf33_j8003
theorem f33_n1101_eq (F : Nat) (Rf33_j8003 : St → Option (AV × List Blk)) : ∀ v, aexec VG0133 (Af33 F) (sub (bodyOf Try.f33) [1, 1, 0, 1]) (ef33_j4018 v) (kSeq (fun s => Rf33_j8003 (cutTo VG0133 (some []) s)) (kFin VG0133 none (Try.f33).results.toList)) = f33_n1101 F (fun w => Rf33_j8003 (ef33_j8003 w)) v := fun v =>
  (block_in (c := (sub (bodyOf Try.f33) [1, 1, 0, 1])) (d := (sub (bodyOf Try.f33) [1, 1, 0, 1, 0])) (id := 0) (by kernel_rfl) _ _).trans (f33_n11010_eq F Rf33_j8003 v)
def f33_n110 (F : Nat) (kf33_j8003 : Unit → Option (AV × List Blk)) : (List (List Int)) × (List (List Int)) → Option (AV × List Blk) := fun v => f33_n1100 F (f33_n1101 F kf33_j8003) kf33_j8003 v
theorem f33_n110_eq (F : Nat) (Rf33_j8003 : St → Option (AV × List Blk)) : ∀ v, aexec VG0133 (Af33 F) (sub (bodyOf Try.f33) [1, 1, 0]) (ef33_j3024 v) (kSeq (fun s => Rf33_j8003 (cutTo VG0133 (some []) s)) (kFin VG0133 none (Try.f33).results.toList)) = f33_n110 F (fun w => Rf33_j8003 (ef33_j8003 w)) v :=
  seq_cut (c := (sub (bodyOf Try.f33) [1, 1, 0])) (a := (sub (bodyOf Try.f33) [1, 1, 0, 0])) (b := (sub (bodyOf Try.f33) [1, 1, 0, 1])) (by kernel_rfl) (spec := [(0, .plain), (1, .plain), (5, .plain)]) (by kernel_rfl) ef33_j3024 ef33_j4018 (kSeq (fun s => Rf33_j8003 (cutTo VG0133 (some []) s)) (kFin VG0133 none (Try.f33).results.toList)) (fun k => f33_n1100 F k (fun w => Rf33_j8003 (ef33_j8003 w))) (f33_n1101 F (fun w => Rf33_j8003 (ef33_j8003 w)))
    (fun Rf33_j4018 => f33_n1100_eq F Rf33_j4018 Rf33_j8003) (f33_n1101_eq F Rf33_j8003)
def f33_n111 (F : Nat) : Unit → Option (AV × List Blk) := fun _ => (some ((.bool true), []))
theorem f33_n111_eq (F : Nat) : ∀ v, aexec VG0133 (Af33 F) (sub (bodyOf Try.f33) [1, 1, 1]) (ef33_j8003 v) (kFin VG0133 none (Try.f33).results.toList) = f33_n111 F v := by
  intro _; kernel_rfl
def f33_n11 (F : Nat) : (List (List Int)) × (List (List Int)) → Option (AV × List Blk) := fun v => f33_n110 F (f33_n111 F) v
theorem f33_n11_eq (F : Nat) : ∀ v, aexec VG0133 (Af33 F) (sub (bodyOf Try.f33) [1, 1]) (ef33_j3024 v) (kFin VG0133 none (Try.f33).results.toList) = f33_n11 F v :=
  seq_cut (c := (sub (bodyOf Try.f33) [1, 1])) (a := (sub (bodyOf Try.f33) [1, 1, 0])) (b := (sub (bodyOf Try.f33) [1, 1, 1])) (by kernel_rfl) (spec := []) (by kernel_rfl) ef33_j3024 ef33_j8003 (kFin VG0133 none (Try.f33).results.toList) (fun k => f33_n110 F k) (f33_n111 F)
    (fun Rf33_j8003 => f33_n110_eq F Rf33_j8003) (f33_n111_eq F)
def f33_n1 (F : Nat) : (List (List Int)) × (List (List Int)) → Option (AV × List Blk) := fun v => f33_n10 F (f33_n11 F) v
theorem f33_n1_eq (F : Nat) : ∀ v, aexec VG0133 (Af33 F) (sub (bodyOf Try.f33) [1]) (ef33_j1032 v) (kFin VG0133 none (Try.f33).results.toList) = f33_n1 F v :=
  seq_cut (c := (sub (bodyOf Try.f33) [1])) (a := (sub (bodyOf Try.f33) [1, 0])) (b := (sub (bodyOf Try.f33) [1, 1])) (by kernel_rfl) (spec := [(0, .plain), (1, .plain)]) (by kernel_rfl) ef33_j1032 ef33_j3024 (kFin VG0133 none (Try.f33).results.toList) (fun k => f33_n10 F k) (f33_n11 F)
    (fun Rf33_j3024 => f33_n10_eq F Rf33_j3024) (f33_n11_eq F)
def f33_nt (F : Nat) : (List (List Int)) × (List (List Int)) → Option (AV × List Blk) := fun v => f33_n0 F (f33_n1 F) v
theorem f33_nt_eq (F : Nat) : ∀ v, aexec VG0133 (Af33 F) (sub (bodyOf Try.f33) []) (ef33_a v) (kFin VG0133 none (Try.f33).results.toList) = f33_nt F v :=
  seq_cut (c := (sub (bodyOf Try.f33) [])) (a := (sub (bodyOf Try.f33) [0])) (b := (sub (bodyOf Try.f33) [1])) (by kernel_rfl) (spec := [(0, .plain), (1, .plain)]) (by kernel_rfl) ef33_a ef33_j1032 (kFin VG0133 none (Try.f33).results.toList) (fun k => f33_n0 F k) (f33_n1 F)
    (fun Rf33_j1032 => f33_n0_eq F Rf33_j1032) (f33_n1_eq F)
/-- gantry/gantryref01.SameTexts -/
def f33 (F : Nat) : (List (List Int)) × (List (List Int)) → Option (AV × List Blk) := f33_nt F
theorem f33_body (F : Nat) (a0 : List (List Int)) (a1 : List (List Int)) : abody VG0133 (Af33 F) Try.f33 [(.vs (.rS a0) 0 1), (.vs (.rS a1) 0 1)] [] = f33 F (a0, a1) :=
  (abody_in (c := (sub (bodyOf Try.f33) [])) (by kernel_rfl) (s := ef33_a (a0, a1)) (by kernel_rfl)).trans (f33_nt_eq F (a0, a1))
def r33 : CRun := fun X H => match X, H with
  | [(.vs (.rS a0) 0 1), (.vs (.rS a1) 0 1)], [] => some (true, (.bool (decide (a0 = a1))), [])
  | _, _ => none
theorem s33 (a0 : List (List Int)) (a1 : List (List Int)) (h0 : okV (.vs (.rS a0) 0 1)) (h1 : okV (.vs (.rS a1) 0 1)) : ∃ F, f33 F (a0, a1) = some ((.bool (decide (a0 = a1))), []) := by
  have hl0 := h0.2
  have hl1 := h1.2
  refine ⟨a0.length + 1, ?_⟩
  simp only [f33, f33_nt, f33_n0, f33_n1, f33_n10, int_bne]
  by_cases hl : a0.length = a1.length
  · rw [cond_neg (by omega)]
    simp only [f33_n11, f33_n110, f33_n1100, f33_n1101, f33_n11010, f33_n11010_i]
    refine loopN_ind (fun m s => s.1 = a0 ∧ s.2.1 = a1 ∧ s.2.2 = ((a0.length - m : Nat) : Int) ∧ m ≤ a0.length ∧ ∀ i, i < a0.length - m → a0.getD i [] = a1.getD i []) ?_ _ a0.length _ (by omega) ⟨rfl, rfl, by simp, Nat.le_refl _, fun i hi => by omega⟩
    rintro m ⟨t0, t1, t5⟩ k ⟨e1, e2, e3, hm, hi⟩ hk
    simp only at e1 e2 e3 hi
    subst e1; subst e2; subst e3
    simp only [f33_n110100, dec_and, int_bne, lst_beq, dec_not]
    cases m with
    | zero =>
      rw [cond_neg (by omega), decide_eq_true (list_eq [] hl fun i h => hi i (by omega))]
      rfl
    | succ m =>
      rw [Int.toNat_natCast, cond_pos (by omega), cond_pos (by omega), cond_pos (by omega)]
      by_cases he : t0.getD (t0.length - (m + 1)) [] = t1.getD (t0.length - (m + 1)) []
      · rw [cond_neg (fun h => h he), i64w (by omega) (by omega)]
        refine hk m _ (by omega) ⟨rfl, rfl, by simp only []; omega, by omega, fun i hi' => ?_⟩
        by_cases hh : i < t0.length - (m + 1)
        · exact hi i hh
        · rw [show i = t0.length - (m + 1) by omega]; exact he
      · rw [cond_pos he, decide_eq_false (fun e => he (by rw [e]))]
  · rw [cond_pos (by omega), decide_eq_false (fun e => hl (by rw [e]))]

theorem c33 : CallOk Try.prog G01 33 r33 := callOk_of (V := VG0133) mixed tys eVG0133 (f := 33) (fn := Try.f33) Try.func33 (by kernel_rfl) (c := sub (bodyOf Try.f33) []) (by kernel_rfl) (by
  intro X H r H' h hX hH
  unfold r33 at h; split at h <;> try contradiction
  simp only [Option.some.injEq, Prod.mk.injEq] at h
  obtain ⟨hp, rfl, rfl⟩ := h
  obtain ⟨F, hF⟩ := s33 _ _ (hX _ (.head _)) (hX _ (.tail _ (.head _)))
  exact ⟨Af33 F, (f33_body F _ _).trans hF⟩)
/-! gantry/gantryref01.SameDigests -/
def lVG0136 : List CEnt := []
def VG0136 : Env := mkEnv T01 G01 lVG0136
theorem eVG0136 : EOk Try.prog VG0136 := eok_mk (by exact trivial)
def Af36 (F : Nat) : Cuts := { F := F, at_ := fun n => match n with | 4016 => some [(0, .plain), (1, .plain), (5, .plain)] | _ => none, join := fun n => match n with | 1032 => some [(0, .plain), (1, .plain)] | 3024 => some [(0, .plain), (1, .plain)] | 4018 => some [(0, .plain), (1, .plain), (5, .plain)] | 8003 => some [] | _ => none }
def ef36_a : (List Int) × Nat × (List Int) × Nat → St := fun (a0, a0n, a1, a1n) => { tmps := [(0, (.vs (.rI .u8 a0) a0n 16)), (1, (.vs (.rI .u8 a1) a1n 16))], heap := [], next := 0, nt := 26, m := 0 }
def ef36_j1032 : (List Int) × Nat × (List Int) × Nat → St := fun (t0, x2, t1, x4) => { tmps := [(0, (.vs (.rI .u8 t0) x2 16)), (1, (.vs (.rI .u8 t1) x4 16))], heap := [], next := 0, nt := 26, m := 0 }
def ef36_j3024 : (List Int) × Nat × (List Int) × Nat → St := fun (t0, x2, t1, x4) => { tmps := [(0, (.vs (.rI .u8 t0) x2 16)), (1, (.vs (.rI .u8 t1) x4 16))], heap := [], next := 0, nt := 26, m := 0 }
def ef36_j4018 : (List Int) × Nat × (List Int) × Nat × Int → St := fun (t0, x2, t1, x4, t5) => { tmps := [(0, (.vs (.rI .u8 t0) x2 16)), (1, (.vs (.rI .u8 t1) x4 16)), (5, (.int .i64 t5))], heap := [], next := 0, nt := 26, m := 0 }
def ef36_l4016 : (List Int) × Nat × (List Int) × Nat × Int → St := fun (t0, x2, t1, x4, t5) => { tmps := [(0, (.vs (.rI .u8 t0) x2 16)), (1, (.vs (.rI .u8 t1) x4 16)), (5, (.int .i64 t5))], heap := [], next := 0, nt := 26, m := 0 }
def ef36_j8003 : Unit → St := fun _ => { tmps := [], heap := [], next := 0, nt := 26, m := 0 }
def f36_n0 (F : Nat) (kf36_j1032 : (List Int) × Nat × (List Int) × Nat → Option (AV × List Blk)) : (List Int) × Nat × (List Int) × Nat → Option (AV × List Blk) := fun (a0, a0n, a1, a1n) => (kf36_j1032 (a0, a0n, a1, a1n))
theorem f36_n0_eq (F : Nat) (Rf36_j1032 : St → Option (AV × List Blk)) : ∀ v, aexec VG0136 (Af36 F) (sub (bodyOf Try.f36) [0]) (ef36_a v) (kSeq (fun s => Rf36_j1032 (cutTo VG0136 (some [(0, .plain), (1, .plain)]) s)) (kFin VG0136 none (Try.f36).results.toList)) = f36_n0 F (fun w => Rf36_j1032 (ef36_j1032 w)) v := by
  rintro ⟨a0, a0n, a1, a1n⟩; kernel_rfl
def f36_n10 (F : Nat) (kf36_j3024 : (List Int) × Nat × (List Int) × Nat → Option (AV × List Blk)) : (List Int) × Nat × (List Int) × Nat → Option (AV × List Blk) := fun (t0, x2, t1, x4) => (cond ((↑x2 : Int) != (↑x4 : Int)) (some ((.bool false), [])) (kf36_j3024 (t0, x2, t1, x4)))
theorem f36_n10_eq (F : Nat) (Rf36_j3024 : St → Option (AV × List Blk)) : ∀ v, aexec VG0136 (Af36 F) (sub (bodyOf Try.f36) [1, 0]) (ef36_j1032 v) (kSeq (fun s => Rf36_j3024 (cutTo VG0136 (some [(0, .plain), (1, .plain)]) s)) (kFin VG0136 none (Try.f36).results.toList)) = f36_n10 F (fun w => Rf36_j3024 (ef36_j3024 w)) v := by
  rintro ⟨t0, x2, t1, x4⟩; kernel_rfl
def f36_n1100 (F : Nat) (kf36_j4018 : (List Int) × Nat × (List Int) × Nat × Int → Option (AV × List Blk)) (kf36_j8003 : Unit → Option (AV × List Blk)) : (List Int) × Nat × (List Int) × Nat → Option (AV × List Blk) := fun (t0, x2, t1, x4) => (kf36_j4018 (t0, x2, t1, x4, (0 : Int)))
theorem f36_n1100_eq (F : Nat) (Rf36_j4018 : St → Option (AV × List Blk)) (Rf36_j8003 : St → Option (AV × List Blk)) : ∀ v, aexec VG0136 (Af36 F) (sub (bodyOf Try.f36) [1, 1, 0, 0]) (ef36_j3024 v) (kSeq (fun s => Rf36_j4018 (cutTo VG0136 (some [(0, .plain), (1, .plain), (5, .plain)]) s)) (kSeq (fun s => Rf36_j8003 (cutTo VG0136 (some []) s)) (kFin VG0136 none (Try.f36).results.toList))) = f36_n1100 F (fun w => Rf36_j4018 (ef36_j4018 w)) (fun w => Rf36_j8003 (ef36_j8003 w)) v := by
  rintro ⟨t0, x2, t1, x4⟩; kernel_rfl
def f36_n110100 (F : Nat) (kf36_l4016 : (List Int) × Nat × (List Int) × Nat × Int → Option (AV × List Blk)) (kf36_j8003 : Unit → Option (AV × List Blk)) : (List Int) × Nat × (List Int) × Nat × Int → Option (AV × List Blk) := fun (t0, x2, t1, x4, t5) => (cond (decide (t5 < (↑x2 : Int))) (cond ((decide (0 ≤ t5)) && (decide (t5 < (↑x2 : Int)))) (cond ((decide (0 ≤ t5)) && (decide (t5 < (↑x4 : Int)))) (cond (!((((t0.drop ((Int.toNat t5) * 16)).take 16) : List Int) == ((t1.drop ((Int.toNat t5) * 16)).take 16))) (some ((.bool false), [])) (kf36_l4016 (t0, x2, t1, x4, (IntKind.i64.wrap (t5 + (1 : Int)))))) none) none) (kf36_j8003 ()))
theorem f36_n110100_eq (F : Nat) (Rf36_l4016 : St → Option (AV × List Blk)) (Rf36_j8003 : St → Option (AV × List Blk)) : ∀ v, aexec VG0136 (Af36 F) (sub (bodyOf Try.f36) [1, 1, 0, 1, 0, 0]) (ef36_l4016 v) (kSeq (fun s => Rf36_l4016 (cutTo VG0136 (some [(0, .plain), (1, .plain), (5, .plain)]) s)) (kBlock 0 (kSeq (fun s => Rf36_j8003 (cutTo VG0136 (some []) s)) (kFin VG0136 none (Try.f36).results.toList)))) = f36_n110100 F (fun w => Rf36_l4016 (ef36_l4016 w)) (fun w => Rf36_j8003 (ef36_j8003 w)) v := by
  rintro ⟨t0, x2, t1, x4, t5⟩; kernel_rfl
def f36_n11010_i : (List Int) × Nat × (List Int) × Nat × Int → (List Int) × Nat × (List Int) × Nat × Int := fun (t0, x2, t1, x4, t5) => (t0, x2, t1, x4, t5)
def f36_n11010 (F : Nat) (kf36_j8003 : Unit → Option (AV × List Blk)) : (List Int) × Nat × (List Int) × Nat × Int → Option (AV × List Blk) := fun v => loopN (fun k => f36_n110100 F k kf36_j8003) F (f36_n11010_i v)
theorem f36_n11010_eq (F : Nat) (Rf36_j8003 : St → Option (AV × List Blk)) : ∀ v, aexec VG0136 (Af36 F) (sub (bodyOf Try.f36) [1, 1, 0, 1, 0]) (ef36_j4018 v) (kBlock 0 (kSeq (fun s => Rf36_j8003 (cutTo VG0136 (some []) s)) (kFin VG0136 none (Try.f36).results.toList))) = f36_n11010 F (fun w => Rf36_j8003 (ef36_j8003 w)) v :=
  loop_cut (c := (sub (bodyOf Try.f36) [1, 1, 0, 1, 0])) (d := (sub (bodyOf Try.f36) [1, 1, 0, 1, 0, 0])) (by kernel_rfl) (spec := [(0, .plain), (1, .plain), (5, .plain)]) (by kernel_rfl) ef36_j4018 ef36_l4016 (kBlock 0 (kSeq (fun s => Rf36_j8003 (cutTo VG0136 (some []) s)) (kFin VG0136 none (Try.f36).results.toList))) f36_n11010_i (fun k => f36_n110100 F k (fun w => Rf36_j8003 (ef36_j8003 w)))
    (by rintro ⟨t0, x2, t1, x4, t5⟩; kernel_rfl) (fun Rf36_l4016 => f36_n110100_eq F Rf36_l4016 Rf36_j8003)
def f36_n1101 (F : Nat) (kf36_j8003 : Unit → Option (AV × List Blk)) : (List Int) × Nat × (List Int) × Nat × Int → Option (AV × List Blk) := f36_n11010 F kf36_j8003
theorem f36_n1101_eq (F : Nat) (Rf36_j8003 : St → Option (AV × List Blk)) : ∀ v, aexec VG0136 (Af36 F) (sub (bodyOf Try.f36) [1, 1, 0, 1]) (ef36_j4018 v) (kSeq (fun s => Rf36_j8003 (cutTo VG0136 (some []) s)) (kFin VG0136 none (Try.f36).results.toList)) = f36_n1101 F (fun w => Rf36_j8003 (ef36_j8003 w)) v := fun v =>
  (block_in (c := (sub (bodyOf Try.f36) [1, 1, 0, 1])) (d := (sub (bodyOf Try.f36) [1, 1, 0, 1, 0])) (id := 0) (by kernel_rfl) _ _).trans (f36_n11010_eq F Rf36_j8003 v)
def f36_n110 (F : Nat) (kf36_j8003 : Unit → Option (AV × List Blk)) : (List Int) × Nat × (List Int) × Nat → Option (AV × List Blk) := fun v => f36_n1100 F (f36_n1101 F kf36_j8003) kf36_j8003 v
theorem f36_n110_eq (F : Nat) (Rf36_j8003 : St → Option (AV × List Blk)) : ∀ v, aexec VG0136 (Af36 F) (sub (bodyOf Try.f36) [1, 1, 0]) (ef36_j3024 v) (kSeq (fun s => Rf36_j8003 (cutTo VG0136 (some []) s)) (kFin VG0136 none (Try.f36).results.toList)) = f36_n110 F (fun w => Rf36_j8003 (ef36_j8003 w)) v :=
  seq_cut (c := (sub (bodyOf Try.f36) [1, 1, 0])) (a := (sub (bodyOf Try.f36) [1, 1, 0, 0])) (b := (sub (bodyOf Try.f36) [1, 1, 0, 1])) (by kernel_rfl) (spec := [(0, .plain), (1, .plain), (5, .plain)]) (by kernel_rfl) ef36_j3024 ef36_j4018 (kSeq (fun s => Rf36_j8003 (cutTo VG0136 (some []) s)) (kFin VG0136 none (Try.f36).results.toList)) (fun k => f36_n1100 F k (fun w => Rf36_j8003 (ef36_j8003 w))) (f36_n1101 F (fun w => Rf36_j8003 (ef36_j8003 w)))
    (fun Rf36_j4018 => f36_n1100_eq F Rf36_j4018 Rf36_j8003) (f36_n1101_eq F Rf36_j8003)
def f36_n111 (F : Nat) : Unit → Option (AV × List Blk) := fun _ => (some ((.bool true), []))
theorem f36_n111_eq (F : Nat) : ∀ v, aexec VG0136 (Af36 F) (sub (bodyOf Try.f36) [1, 1, 1]) (ef36_j8003 v) (kFin VG0136 none (Try.f36).results.toList) = f36_n111 F v := by
  intro _; kernel_rfl
def f36_n11 (F : Nat) : (List Int) × Nat × (List Int) × Nat → Option (AV × List Blk) := fun v => f36_n110 F (f36_n111 F) v
theorem f36_n11_eq (F : Nat) : ∀ v, aexec VG0136 (Af36 F) (sub (bodyOf Try.f36) [1, 1]) (ef36_j3024 v) (kFin VG0136 none (Try.f36).results.toList) = f36_n11 F v :=
  seq_cut (c := (sub (bodyOf Try.f36) [1, 1])) (a := (sub (bodyOf Try.f36) [1, 1, 0])) (b := (sub (bodyOf Try.f36) [1, 1, 1])) (by kernel_rfl) (spec := []) (by kernel_rfl) ef36_j3024 ef36_j8003 (kFin VG0136 none (Try.f36).results.toList) (fun k => f36_n110 F k) (f36_n111 F)
    (fun Rf36_j8003 => f36_n110_eq F Rf36_j8003) (f36_n111_eq F)
def f36_n1 (F : Nat) : (List Int) × Nat × (List Int) × Nat → Option (AV × List Blk) := fun v => f36_n10 F (f36_n11 F) v
theorem f36_n1_eq (F : Nat) : ∀ v, aexec VG0136 (Af36 F) (sub (bodyOf Try.f36) [1]) (ef36_j1032 v) (kFin VG0136 none (Try.f36).results.toList) = f36_n1 F v :=
  seq_cut (c := (sub (bodyOf Try.f36) [1])) (a := (sub (bodyOf Try.f36) [1, 0])) (b := (sub (bodyOf Try.f36) [1, 1])) (by kernel_rfl) (spec := [(0, .plain), (1, .plain)]) (by kernel_rfl) ef36_j1032 ef36_j3024 (kFin VG0136 none (Try.f36).results.toList) (fun k => f36_n10 F k) (f36_n11 F)
    (fun Rf36_j3024 => f36_n10_eq F Rf36_j3024) (f36_n11_eq F)
def f36_nt (F : Nat) : (List Int) × Nat × (List Int) × Nat → Option (AV × List Blk) := fun v => f36_n0 F (f36_n1 F) v
theorem f36_nt_eq (F : Nat) : ∀ v, aexec VG0136 (Af36 F) (sub (bodyOf Try.f36) []) (ef36_a v) (kFin VG0136 none (Try.f36).results.toList) = f36_nt F v :=
  seq_cut (c := (sub (bodyOf Try.f36) [])) (a := (sub (bodyOf Try.f36) [0])) (b := (sub (bodyOf Try.f36) [1])) (by kernel_rfl) (spec := [(0, .plain), (1, .plain)]) (by kernel_rfl) ef36_a ef36_j1032 (kFin VG0136 none (Try.f36).results.toList) (fun k => f36_n0 F k) (f36_n1 F)
    (fun Rf36_j1032 => f36_n0_eq F Rf36_j1032) (f36_n1_eq F)
/-- gantry/gantryref01.SameDigests -/
def f36 (F : Nat) : (List Int) × Nat × (List Int) × Nat → Option (AV × List Blk) := f36_nt F
theorem f36_body (F : Nat) (a0 : List Int) (a0n : Nat) (a1 : List Int) (a1n : Nat) : abody VG0136 (Af36 F) Try.f36 [(.vs (.rI .u8 a0) a0n 16), (.vs (.rI .u8 a1) a1n 16)] [] = f36 F (a0, a0n, a1, a1n) :=
  (abody_in (c := (sub (bodyOf Try.f36) [])) (by kernel_rfl) (s := ef36_a (a0, a0n, a1, a1n)) (by kernel_rfl)).trans (f36_nt_eq F (a0, a0n, a1, a1n))
def r36 : CRun := fun X H => match X, H with
  | [(.vs (.rI .u8 a0) a0n 16), (.vs (.rI .u8 a1) a1n 16)], [] => some (true, (.bool (decide (a0 = a1))), [])
  | _, _ => none
theorem s36 (a0 : List Int) (a0n : Nat) (a1 : List Int) (a1n : Nat) (h0 : okV (.vs (.rI .u8 a0) a0n 16)) (h1 : okV (.vs (.rI .u8 a1) a1n 16)) : ∃ F, f36 F (a0, a0n, a1, a1n) = some ((.bool (decide (a0 = a1))), []) := by
  have hn0 : a0.length = a0n * 16 := h0.2.1
  have hn1 : a1.length = a1n * 16 := h1.2.1
  have hl0 := h0.2.2
  have hl1 := h1.2.2
  refine ⟨a0n + 1, ?_⟩
  simp only [f36, f36_nt, f36_n0, f36_n1, f36_n10, int_bne]
  by_cases hl : a0n = a1n
  · subst hl
    rw [cond_neg (by omega)]
    simp only [f36_n11, f36_n110, f36_n1100, f36_n1101, f36_n11010, f36_n11010_i]
    refine loopN_ind (fun m s => s.1 = a0 ∧ s.2.1 = a0n ∧ s.2.2.1 = a1 ∧ s.2.2.2.1 = a0n ∧ s.2.2.2.2 = ((a0n - m : Nat) : Int) ∧ m ≤ a0n ∧ ∀ i, i < a0n - m → (a0.drop (i * 16)).take 16 = (a1.drop (i * 16)).take 16) ?_ _ a0n _ (by omega) ⟨rfl, rfl, rfl, rfl, by simp, Nat.le_refl _, fun i hi => by omega⟩
    rintro m ⟨t0, n0, t1, n1, t5⟩ k ⟨e1, e2, e3, e4, e5, hm, hi⟩ hk
    simp only at e1 e2 e3 e4 e5 hi
    subst e1; subst e2; subst e3; subst e4; subst e5
    simp only [f36_n110100, dec_and, lst_beq, dec_not]
    cases m with
    | zero =>
      rw [cond_neg (by omega), decide_eq_true (chunk_eq hn0 hn1 fun i h => hi i (by omega))]
      rfl
    | succ m =>
      rw [Int.toNat_natCast, cond_pos (by omega), cond_pos (by omega), cond_pos (by omega)]
      by_cases he : (t0.drop ((n1 - (m + 1)) * 16)).take 16 = (t1.drop ((n1 - (m + 1)) * 16)).take 16
      · rw [cond_neg (fun h => h he), i64w (by omega) (by omega)]
        refine hk m _ (by omega) ⟨rfl, rfl, rfl, rfl, by simp only []; omega, by omega, fun i hi' => ?_⟩
        by_cases hh : i < n1 - (m + 1)
        · exact hi i hh
        · rw [show i = n1 - (m + 1) by omega]; exact he
      · rw [cond_pos he, decide_eq_false (fun e => he (by rw [e]))]
  · rw [cond_pos (by omega), decide_eq_false (fun e => hl (by rw [e] at hn0; omega))]

theorem c36 : CallOk Try.prog G01 36 r36 := callOk_of (V := VG0136) mixed tys eVG0136 (f := 36) (fn := Try.f36) Try.func36 (by kernel_rfl) (c := sub (bodyOf Try.f36) []) (by kernel_rfl) (by
  intro X H r H' h hX hH
  unfold r36 at h; split at h <;> try contradiction
  simp only [Option.some.injEq, Prod.mk.injEq] at h
  obtain ⟨hp, rfl, rfl⟩ := h
  obtain ⟨F, hF⟩ := s36 _ _ _ _ (hX _ (.head _)) (hX _ (.tail _ (.head _)))
  exact ⟨Af36 F, (f36_body F _ _ _ _).trans hF⟩)
end Go.Am
