/- Part of a proof about the functions of the given program. -/
import Derived.Test.YthaegimpohbkhaaDoorAm02E
set_option linter.unusedVariables false
set_option linter.unusedSimpArgs false
namespace Go.Am
open Go Go.Proofs
def G03 : Nat → Option AV := fun g => match g with | 0 => some (.rI .u32 Sha.K) | 1 => some (.rI .u32 Sha.K) | _ => none
theorem gsub : ∀ g r, G02 g = some r → G03 g = some r := by
  intro g r h; unfold G02 at h; split at h
  · exact h
  · contradiction

/-! gantry/gantryref02.rotr -/
def lVG0229 : List CEnt := []
def VG0229 : Env := mkEnv T02 G02 lVG0229
theorem eVG0229 : EOk Tryd.prog VG0229 := eok_mk (by exact trivial)
def Af29 (F : Nat) : Cuts := { F := F, at_ := fun _ => none, join := fun _ => none }
def ef29_a : Int × Int → St := fun (a0, a1) => { tmps := [(0, (.int .u32 a0)), (1, (.int .i64 a1))], heap := [], next := 0, nt := 13, m := 0 }
def f29_nt (F : Nat) : Int × Int → Option (AV × List Blk) := fun (a0, a1) => (cond (decide (0 ≤ a1)) (cond (decide (0 ≤ (IntKind.i64.wrap ((32 : Int) - a1)))) (some ((.int .u32 (ibits .or .u32 (Int.fdiv a0 (2 ^ (min (Int.toNat a1) 32))) (IntKind.u32.wrap (a0 * 2 ^ (min (Int.toNat (IntKind.i64.wrap ((32 : Int) - a1))) 32))))), [])) none) none)
theorem f29_nt_eq (F : Nat) : ∀ v, aexec VG0229 (Af29 F) (sub (bodyOf Tryd.f29) []) (ef29_a v) (kFin VG0229 0 (Tryd.f29).results.toList) = f29_nt F v := by
  rintro ⟨a0, a1⟩; kernel_rfl
/-- gantry/gantryref02.rotr -/
def f29 (F : Nat) : Int × Int → Option (AV × List Blk) := f29_nt F
theorem f29_body (F : Nat) (a0 : Int) (a1 : Int) : abody VG0229 (Af29 F) Tryd.f29 [(.int .u32 a0), (.int .i64 a1)] [] = f29 F (a0, a1) :=
  (abody_in (c := (sub (bodyOf Tryd.f29) [])) (by kernel_rfl) (s := ef29_a (a0, a1)) (by kernel_rfl)).trans (f29_nt_eq F (a0, a1))
def r29 : CRun := fun X H => match X, H with
  | [(.int .u32 a0), (.int .i64 a1)], [] => some (((decide (0 ≤ a1)) && (decide (a1 ≤ 32))), (.int .u32 (Sha.rotr a0 (Int.toNat a1))), [])
  | _, _ => none
theorem s29 (a0 : Int) (a1 : Int) (hp : (((decide (0 ≤ a1)) && (decide (a1 ≤ 32)))) = true) (h0 : okV (.int .u32 a0)) (h1 : okV (.int .i64 a1)) : ∃ F, f29 F (a0, a1) = some ((.int .u32 (Sha.rotr a0 (Int.toNat a1))), []) := by
  rw [dec_and, decide_eq_true_eq] at hp
  refine ⟨0, ?_⟩
  simp only [f29, f29_nt]
  rw [i64w (by omega) (by omega), cond_pos (by omega), cond_pos (by omega), show min a1.toNat 32 = a1.toNat by omega, show min (32 - a1).toNat 32 = 32 - a1.toNat by omega]
  rfl

theorem c29 : CallOk Tryd.prog G02 29 r29 := callOk_of (V := VG0229) mixed tys eVG0229 (f := 29) (fn := Tryd.f29) Tryd.func29 (by kernel_rfl) (c := sub (bodyOf Tryd.f29) []) (by kernel_rfl) (by
  intro X H r H' h hX hH
  unfold r29 at h; split at h <;> try contradiction
  simp only [Option.some.injEq, Prod.mk.injEq] at h
  obtain ⟨hp, rfl, rfl⟩ := h
  obtain ⟨F, hF⟩ := s29 _ _ hp (hX _ (.head _)) (hX _ (.tail _ (.head _)))
  exact ⟨Af29 F, (f29_body F _ _).trans hF⟩)
/-! gantry/gantryref02.words -/
def lVG0228 : List CEnt := [(29, [none, none], r29)]
def VG0228 : Env := mkEnv T02 G02 lVG0228
theorem eVG0228 : EOk Tryd.prog VG0228 := eok_mk (by exact ⟨c29, trivial⟩)
def Af28 (F : Nat) : Cuts := { F := F, at_ := fun n => match n with | 3010 => some [(0, .plain), (2, .plain), (3, .plain), (4, .plain)] | 7014 => some [(2, .plain), (3, .plain), (5, .plain)] | _ => none, join := fun n => match n with | 1039 => some [(0, .plain), (2, .plain)] | 2037 => some [(0, .plain), (2, .plain), (3, .plain)] | 3012 => some [(0, .plain), (2, .plain), (3, .plain), (4, .plain)] | 6022 => some [(2, .plain), (3, .plain)] | 7016 => some [(2, .plain), (3, .plain), (5, .plain)] | 12003 => some [(2, .plain), (3, .plain)] | _ => none }
def ef28_a : (List Int) → St := fun a0 => { tmps := [(0, (.vs (.rI .u8 a0) 0 1))], heap := [], next := 0, nt := 101, m := 0 }
def ef28_j1039 : (List Int) × (List Int) → St := fun (t0, x2) => { tmps := [(0, (.vs (.rI .u8 t0) 0 1)), (2, (.ptr 0 0 64 0 0 0 64))], heap := [(0, (.cells 64 (.rI .u32 x2) true))], next := 1, nt := 101, m := 0 }
def ef28_j2037 : (List Int) × (List Int) × (List Int) → St := fun (t0, x2, x3) => { tmps := [(0, (.vs (.rI .u8 t0) 0 1)), (2, (.ptr 0 0 64 0 0 0 64)), (3, (.ptr 1 0 64 0 0 0 64))], heap := [(0, (.cells 64 (.rI .u32 x2) true)), (1, (.cells 64 (.rI .u32 x3) true))], next := 2, nt := 101, m := 0 }
def ef28_j3012 : (List Int) × Int × (List Int) × (List Int) → St := fun (t0, t4, x3, x4) => { tmps := [(0, (.vs (.rI .u8 t0) 0 1)), (2, (.ptr 0 0 64 0 0 0 64)), (3, (.ptr 1 0 64 0 0 0 64)), (4, (.int .i64 t4))], heap := [(0, (.cells 64 (.rI .u32 x3) true)), (1, (.cells 64 (.rI .u32 x4) true))], next := 2, nt := 101, m := 0 }
def ef28_l3010 : (List Int) × Int × (List Int) × (List Int) → St := fun (t0, t4, x3, x4) => { tmps := [(0, (.vs (.rI .u8 t0) 0 1)), (2, (.ptr 0 0 64 0 0 0 64)), (3, (.ptr 1 0 64 0 0 0 64)), (4, (.int .i64 t4))], heap := [(0, (.cells 64 (.rI .u32 x3) true)), (1, (.cells 64 (.rI .u32 x4) true))], next := 2, nt := 101, m := 0 }
def ef28_j6022 : (List Int) × (List Int) → St := fun (x1, x2) => { tmps := [(2, (.ptr 0 0 64 0 0 0 64)), (3, (.ptr 1 0 64 0 0 0 64))], heap := [(0, (.cells 64 (.rI .u32 x1) true)), (1, (.cells 64 (.rI .u32 x2) true))], next := 2, nt := 101, m := 0 }
def ef28_j7016 : Int × (List Int) × (List Int) → St := fun (t5, x2, x3) => { tmps := [(2, (.ptr 0 0 64 0 0 0 64)), (3, (.ptr 1 0 64 0 0 0 64)), (5, (.int .i64 t5))], heap := [(0, (.cells 64 (.rI .u32 x2) true)), (1, (.cells 64 (.rI .u32 x3) true))], next := 2, nt := 101, m := 0 }
def ef28_l7014 : Int × (List Int) × (List Int) → St := fun (t5, x2, x3) => { tmps := [(2, (.ptr 0 0 64 0 0 0 64)), (3, (.ptr 1 0 64 0 0 0 64)), (5, (.int .i64 t5))], heap := [(0, (.cells 64 (.rI .u32 x2) true)), (1, (.cells 64 (.rI .u32 x3) true))], next := 2, nt := 101, m := 0 }
def ef28_j12003 : (List Int) × (List Int) → St := fun (x1, x2) => { tmps := [(2, (.ptr 0 0 64 0 0 0 64)), (3, (.ptr 1 0 64 0 0 0 64))], heap := [(0, (.cells 64 (.rI .u32 x1) true)), (1, (.cells 64 (.rI .u32 x2) true))], next := 2, nt := 101, m := 0 }
def f28_n0 (F : Nat) (kf28_j1039 : (List Int) × (List Int) → Option (AV × List Blk)) : (List Int) → Option (AV × List Blk) := fun a0 => (kf28_j1039 (a0, (List.replicate 64 0)))
theorem f28_n0_eq (F : Nat) (Rf28_j1039 : St → Option (AV × List Blk)) : ∀ v, aexec VG0228 (Af28 F) (sub (bodyOf Tryd.f28) [0]) (ef28_a v) (kSeq (fun s => Rf28_j1039 (cutTo VG0228 (some [(0, .plain), (2, .plain)]) s)) (kFin VG0228 0 (Tryd.f28).results.toList)) = f28_n0 F (fun w => Rf28_j1039 (ef28_j1039 w)) v := by
  intro a0; kernel_rfl
def f28_n10 (F : Nat) (kf28_j2037 : (List Int) × (List Int) × (List Int) → Option (AV × List Blk)) : (List Int) × (List Int) → Option (AV × List Blk) := fun (t0, x2) => (kf28_j2037 (t0, x2, (List.replicate 64 0)))
theorem f28_n10_eq (F : Nat) (Rf28_j2037 : St → Option (AV × List Blk)) : ∀ v, aexec VG0228 (Af28 F) (sub (bodyOf Tryd.f28) [1, 0]) (ef28_j1039 v) (kSeq (fun s => Rf28_j2037 (cutTo VG0228 (some [(0, .plain), (2, .plain), (3, .plain)]) s)) (kFin VG0228 0 (Tryd.f28).results.toList)) = f28_n10 F (fun w => Rf28_j2037 (ef28_j2037 w)) v := by
  rintro ⟨t0, x2⟩; kernel_rfl
def f28_n1100 (F : Nat) (kf28_j3012 : (List Int) × Int × (List Int) × (List Int) → Option (AV × List Blk)) (kf28_j6022 : (List Int) × (List Int) → Option (AV × List Blk)) : (List Int) × (List Int) × (List Int) → Option (AV × List Blk) := fun (t0, x2, x3) => (kf28_j3012 (t0, (0 : Int), x2, x3))
theorem f28_n1100_eq (F : Nat) (Rf28_j3012 : St → Option (AV × List Blk)) (Rf28_j6022 : St → Option (AV × List Blk)) : ∀ v, aexec VG0228 (Af28 F) (sub (bodyOf Tryd.f28) [1, 1, 0, 0]) (ef28_j2037 v) (kSeq (fun s => Rf28_j3012 (cutTo VG0228 (some [(0, .plain), (2, .plain), (3, .plain), (4, .plain)]) s)) (kSeq (fun s => Rf28_j6022 (cutTo VG0228 (some [(2, .plain), (3, .plain)]) s)) (kFin VG0228 0 (Tryd.f28).results.toList))) = f28_n1100 F (fun w => Rf28_j3012 (ef28_j3012 w)) (fun w => Rf28_j6022 (ef28_j6022 w)) v := by
  rintro ⟨t0, x2, x3⟩; kernel_rfl
def f28_n110100 (F : Nat) (kf28_l3010 : (List Int) × Int × (List Int) × (List Int) → Option (AV × List Blk)) (kf28_j6022 : (List Int) × (List Int) → Option (AV × List Blk)) : (List Int) × Int × (List Int) × (List Int) → Option (AV × List Blk) := fun (t0, t4, x3, x4) => (cond (decide (t4 < (16 : Int))) (cond ((decide (0 ≤ (IntKind.i64.wrap ((4 : Int) * t4)))) && (decide ((IntKind.i64.wrap ((4 : Int) * t4)) < (↑t0.length : Int)))) (cond ((decide (0 ≤ (IntKind.i64.wrap ((IntKind.i64.wrap ((4 : Int) * t4)) + (1 : Int))))) && (decide ((IntKind.i64.wrap ((IntKind.i64.wrap ((4 : Int) * t4)) + (1 : Int))) < (↑t0.length : Int)))) (cond ((decide (0 ≤ (IntKind.i64.wrap ((IntKind.i64.wrap ((4 : Int) * t4)) + (2 : Int))))) && (decide ((IntKind.i64.wrap ((IntKind.i64.wrap ((4 : Int) * t4)) + (2 : Int))) < (↑t0.length : Int)))) (cond ((decide (0 ≤ (IntKind.i64.wrap ((IntKind.i64.wrap ((4 : Int) * t4)) + (3 : Int))))) && (decide ((IntKind.i64.wrap ((IntKind.i64.wrap ((4 : Int) * t4)) + (3 : Int))) < (↑t0.length : Int)))) (cond ((decide (0 ≤ t4)) && (decide (t4 < (64 : Int)))) (kf28_l3010 (t0, (IntKind.i64.wrap (t4 + (1 : Int))), x3, (x4.set (Int.toNat t4) (ibits .or .u32 (ibits .or .u32 (ibits .or .u32 (IntKind.u32.wrap ((IntKind.u32.wrap (t0.getD (Int.toNat (IntKind.i64.wrap ((4 : Int) * t4))) 0)) * 2 ^ 24)) (IntKind.u32.wrap ((IntKind.u32.wrap (t0.getD (Int.toNat (IntKind.i64.wrap ((IntKind.i64.wrap ((4 : Int) * t4)) + (1 : Int)))) 0)) * 2 ^ 16))) (IntKind.u32.wrap ((IntKind.u32.wrap (t0.getD (Int.toNat (IntKind.i64.wrap ((IntKind.i64.wrap ((4 : Int) * t4)) + (2 : Int)))) 0)) * 2 ^ 8))) (IntKind.u32.wrap (t0.getD (Int.toNat (IntKind.i64.wrap ((IntKind.i64.wrap ((4 : Int) * t4)) + (3 : Int)))) 0)))))) none) none) none) none) none) (kf28_j6022 (x3, x4)))
theorem f28_n110100_eq (F : Nat) (Rf28_l3010 : St → Option (AV × List Blk)) (Rf28_j6022 : St → Option (AV × List Blk)) : ∀ v, aexec VG0228 (Af28 F) (sub (bodyOf Tryd.f28) [1, 1, 0, 1, 0, 0]) (ef28_l3010 v) (kSeq (fun s => Rf28_l3010 (cutTo VG0228 (some [(0, .plain), (2, .plain), (3, .plain), (4, .plain)]) s)) (kBlock 0 (kSeq (fun s => Rf28_j6022 (cutTo VG0228 (some [(2, .plain), (3, .plain)]) s)) (kFin VG0228 0 (Tryd.f28).results.toList)))) = f28_n110100 F (fun w => Rf28_l3010 (ef28_l3010 w)) (fun w => Rf28_j6022 (ef28_j6022 w)) v := by
  rintro ⟨t0, t4, x3, x4⟩; kernel_rfl
def f28_n11010_i : (List Int) × Int × (List Int) × (List Int) → (List Int) × Int × (List Int) × (List Int) := fun (t0, t4, x3, x4) => (t0, t4, x3, x4)
def f28_n11010 (F : Nat) (kf28_j6022 : (List Int) × (List Int) → Option (AV × List Blk)) : (List Int) × Int × (List Int) × (List Int) → Option (AV × List Blk) := fun v => loopN (fun k => f28_n110100 F k kf28_j6022) F (f28_n11010_i v)
theorem f28_n11010_eq (F : Nat) (Rf28_j6022 : St → Option (AV × List Blk)) : ∀ v, aexec VG0228 (Af28 F) (sub (bodyOf Tryd.f28) [1, 1, 0, 1, 0]) (ef28_j3012 v) (kBlock 0 (kSeq (fun s => Rf28_j6022 (cutTo VG0228 (some [(2, .plain), (3, .plain)]) s)) (kFin VG0228 0 (Tryd.f28).results.toList))) = f28_n11010 F (fun w => Rf28_j6022 (ef28_j6022 w)) v :=
  loop_cut (c := (sub (bodyOf Tryd.f28) [1, 1, 0, 1, 0])) (d := (sub (bodyOf Tryd.f28) [1, 1, 0, 1, 0, 0])) (by kernel_rfl) (spec := [(0, .plain), (2, .plain), (3, .plain), (4, .plain)]) (by kernel_rfl) ef28_j3012 ef28_l3010 (kBlock 0 (kSeq (fun s => Rf28_j6022 (cutTo VG0228 (some [(2, .plain), (3, .plain)]) s)) (kFin VG0228 0 (Tryd.f28).results.toList))) f28_n11010_i (fun k => f28_n110100 F k (fun w => Rf28_j6022 (ef28_j6022 w)))
    (by rintro ⟨t0, t4, x3, x4⟩; kernel_rfl) (fun Rf28_l3010 => f28_n110100_eq F Rf28_l3010 Rf28_j6022)
def f28_n1101 (F : Nat) (kf28_j6022 : (List Int) × (List Int) → Option (AV × List Blk)) : (List Int) × Int × (List Int) × (List Int) → Option (AV × List Blk) := f28_n11010 F kf28_j6022
theorem f28_n1101_eq (F : Nat) (Rf28_j6022 : St → Option (AV × List Blk)) : ∀ v, aexec VG0228 (Af28 F) (sub (bodyOf Tryd.f28) [1, 1, 0, 1]) (ef28_j3012 v) (kSeq (fun s => Rf28_j6022 (cutTo VG0228 (some [(2, .plain), (3, .plain)]) s)) (kFin VG0228 0 (Tryd.f28).results.toList)) = f28_n1101 F (fun w => Rf28_j6022 (ef28_j6022 w)) v := fun v =>
  (block_in (c := (sub (bodyOf Tryd.f28) [1, 1, 0, 1])) (d := (sub (bodyOf Tryd.f28) [1, 1, 0, 1, 0])) (id := 0) (by kernel_rfl) _ _).trans (f28_n11010_eq F Rf28_j6022 v)
def f28_n110 (F : Nat) (kf28_j6022 : (List Int) × (List Int) → Option (AV × List Blk)) : (List Int) × (List Int) × (List Int) → Option (AV × List Blk) := fun v => f28_n1100 F (f28_n1101 F kf28_j6022) kf28_j6022 v
theorem f28_n110_eq (F : Nat) (Rf28_j6022 : St → Option (AV × List Blk)) : ∀ v, aexec VG0228 (Af28 F) (sub (bodyOf Tryd.f28) [1, 1, 0]) (ef28_j2037 v) (kSeq (fun s => Rf28_j6022 (cutTo VG0228 (some [(2, .plain), (3, .plain)]) s)) (kFin VG0228 0 (Tryd.f28).results.toList)) = f28_n110 F (fun w => Rf28_j6022 (ef28_j6022 w)) v :=
  seq_cut (c := (sub (bodyOf Tryd.f28) [1, 1, 0])) (a := (sub (bodyOf Tryd.f28) [1, 1, 0, 0])) (b := (sub (bodyOf Tryd.f28) [1, 1, 0, 1])) (by kernel_rfl) (spec := [(0, .plain), (2, .plain), (3, .plain), (4, .plain)]) (by kernel_rfl) ef28_j2037 ef28_j3012 (kSeq (fun s => Rf28_j6022 (cutTo VG0228 (some [(2, .plain), (3, .plain)]) s)) (kFin VG0228 0 (Tryd.f28).results.toList)) (fun k => f28_n1100 F k (fun w => Rf28_j6022 (ef28_j6022 w))) (f28_n1101 F (fun w => Rf28_j6022 (ef28_j6022 w)))
    (fun Rf28_j3012 => f28_n1100_eq F Rf28_j3012 Rf28_j6022) (f28_n1101_eq F Rf28_j6022)
def f28_n11100 (F : Nat) (kf28_j7016 : Int × (List Int) × (List Int) → Option (AV × List Blk)) (kf28_j12003 : (List Int) × (List Int) → Option (AV × List Blk)) : (List Int) × (List Int) → Option (AV × List Blk) := fun (x1, x2) => (kf28_j7016 ((16 : Int), x1, x2))
theorem f28_n11100_eq (F : Nat) (Rf28_j7016 : St → Option (AV × List Blk)) (Rf28_j12003 : St → Option (AV × List Blk)) : ∀ v, aexec VG0228 (Af28 F) (sub (bodyOf Tryd.f28) [1, 1, 1, 0, 0]) (ef28_j6022 v) (kSeq (fun s => Rf28_j7016 (cutTo VG0228 (some [(2, .plain), (3, .plain), (5, .plain)]) s)) (kSeq (fun s => Rf28_j12003 (cutTo VG0228 (some [(2, .plain), (3, .plain)]) s)) (kFin VG0228 0 (Tryd.f28).results.toList))) = f28_n11100 F (fun w => Rf28_j7016 (ef28_j7016 w)) (fun w => Rf28_j12003 (ef28_j12003 w)) v := by
  rintro ⟨x1, x2⟩; kernel_rfl
def f28_n1110100 (F : Nat) (kf28_l7014 : Int × (List Int) × (List Int) → Option (AV × List Blk)) (kf28_j12003 : (List Int) × (List Int) → Option (AV × List Blk)) : Int × (List Int) × (List Int) → Option (AV × List Blk) := fun (t5, x2, x3) => (cond (decide (t5 < (64 : Int))) (cond ((decide (0 ≤ (IntKind.i64.wrap (t5 - (15 : Int))))) && (decide ((IntKind.i64.wrap (t5 - (15 : Int))) < (64 : Int)))) (cond ((decide (0 ≤ (7 : Int))) && (decide ((7 : Int) ≤ 32))) (cond ((decide (0 ≤ (IntKind.i64.wrap (t5 - (15 : Int))))) && (decide ((IntKind.i64.wrap (t5 - (15 : Int))) < (64 : Int)))) (cond ((decide (0 ≤ (18 : Int))) && (decide ((18 : Int) ≤ 32))) (cond ((decide (0 ≤ (IntKind.i64.wrap (t5 - (15 : Int))))) && (decide ((IntKind.i64.wrap (t5 - (15 : Int))) < (64 : Int)))) (cond ((decide (0 ≤ (IntKind.i64.wrap (t5 - (2 : Int))))) && (decide ((IntKind.i64.wrap (t5 - (2 : Int))) < (64 : Int)))) (cond ((decide (0 ≤ (17 : Int))) && (decide ((17 : Int) ≤ 32))) (cond ((decide (0 ≤ (IntKind.i64.wrap (t5 - (2 : Int))))) && (decide ((IntKind.i64.wrap (t5 - (2 : Int))) < (64 : Int)))) (cond ((decide (0 ≤ (19 : Int))) && (decide ((19 : Int) ≤ 32))) (cond ((decide (0 ≤ (IntKind.i64.wrap (t5 - (2 : Int))))) && (decide ((IntKind.i64.wrap (t5 - (2 : Int))) < (64 : Int)))) (cond ((decide (0 ≤ (IntKind.i64.wrap (t5 - (16 : Int))))) && (decide ((IntKind.i64.wrap (t5 - (16 : Int))) < (64 : Int)))) (cond ((decide (0 ≤ (IntKind.i64.wrap (t5 - (7 : Int))))) && (decide ((IntKind.i64.wrap (t5 - (7 : Int))) < (64 : Int)))) (cond ((decide (0 ≤ t5)) && (decide (t5 < (64 : Int)))) (kf28_l7014 ((IntKind.i64.wrap (t5 + (1 : Int))), x2, (x3.set (Int.toNat t5) (IntKind.u32.wrap ((IntKind.u32.wrap ((IntKind.u32.wrap ((x3.getD (Int.toNat (IntKind.i64.wrap (t5 - (16 : Int)))) 0) + (ibits .xor .u32 (ibits .xor .u32 (Sha.rotr (x3.getD (Int.toNat (IntKind.i64.wrap (t5 - (15 : Int)))) 0) (Int.toNat (7 : Int))) (Sha.rotr (x3.getD (Int.toNat (IntKind.i64.wrap (t5 - (15 : Int)))) 0) (Int.toNat (18 : Int)))) (Int.fdiv (x3.getD (Int.toNat (IntKind.i64.wrap (t5 - (15 : Int)))) 0) (2 ^ 3))))) + (x3.getD (Int.toNat (IntKind.i64.wrap (t5 - (7 : Int)))) 0))) + (ibits .xor .u32 (ibits .xor .u32 (Sha.rotr (x3.getD (Int.toNat (IntKind.i64.wrap (t5 - (2 : Int)))) 0) (Int.toNat (17 : Int))) (Sha.rotr (x3.getD (Int.toNat (IntKind.i64.wrap (t5 - (2 : Int)))) 0) (Int.toNat (19 : Int)))) (Int.fdiv (x3.getD (Int.toNat (IntKind.i64.wrap (t5 - (2 : Int)))) 0) (2 ^ 10)))))))) none) none) none) none) none) none) none) none) none) none) none) none) none) (kf28_j12003 (x2, x3)))
theorem f28_n1110100_eq (F : Nat) (Rf28_l7014 : St → Option (AV × List Blk)) (Rf28_j12003 : St → Option (AV × List Blk)) : ∀ v, aexec VG0228 (Af28 F) (sub (bodyOf Tryd.f28) [1, 1, 1, 0, 1, 0, 0]) (ef28_l7014 v) (kSeq (fun s => Rf28_l7014 (cutTo VG0228 (some [(2, .plain), (3, .plain), (5, .plain)]) s)) (kBlock 2 (kSeq (fun s => Rf28_j12003 (cutTo VG0228 (some [(2, .plain), (3, .plain)]) s)) (kFin VG0228 0 (Tryd.f28).results.toList)))) = f28_n1110100 F (fun w => Rf28_l7014 (ef28_l7014 w)) (fun w => Rf28_j12003 (ef28_j12003 w)) v := by
  rintro ⟨t5, x2, x3⟩; kernel_rfl
def f28_n111010_i : Int × (List Int) × (List Int) → Int × (List Int) × (List Int) := fun (t5, x2, x3) => (t5, x2, x3)
def f28_n111010 (F : Nat) (kf28_j12003 : (List Int) × (List Int) → Option (AV × List Blk)) : Int × (List Int) × (List Int) → Option (AV × List Blk) := fun v => loopN (fun k => f28_n1110100 F k kf28_j12003) F (f28_n111010_i v)
theorem f28_n111010_eq (F : Nat) (Rf28_j12003 : St → Option (AV × List Blk)) : ∀ v, aexec VG0228 (Af28 F) (sub (bodyOf Tryd.f28) [1, 1, 1, 0, 1, 0]) (ef28_j7016 v) (kBlock 2 (kSeq (fun s => Rf28_j12003 (cutTo VG0228 (some [(2, .plain), (3, .plain)]) s)) (kFin VG0228 0 (Tryd.f28).results.toList))) = f28_n111010 F (fun w => Rf28_j12003 (ef28_j12003 w)) v :=
  loop_cut (c := (sub (bodyOf Tryd.f28) [1, 1, 1, 0, 1, 0])) (d := (sub (bodyOf Tryd.f28) [1, 1, 1, 0, 1, 0, 0])) (by kernel_rfl) (spec := [(2, .plain), (3, .plain), (5, .plain)]) (by kernel_rfl) ef28_j7016 ef28_l7014 (kBlock 2 (kSeq (fun s => Rf28_j12003 (cutTo VG0228 (some [(2, .plain), (3, .plain)]) s)) (kFin VG0228 0 (Tryd.f28).results.toList))) f28_n111010_i (fun k => f28_n1110100 F k (fun w => Rf28_j12003 (ef28_j12003 w)))
    (by rintro ⟨t5, x2, x3⟩; kernel_rfl) (fun Rf28_l7014 => f28_n1110100_eq F Rf28_l7014 Rf28_j12003)
def f28_n11101 (F : Nat) (kf28_j12003 : (List Int) × (List Int) → Option (AV × List Blk)) : Int × (List Int) × (List Int) → Option (AV × List Blk) := f28_n111010 F kf28_j12003
theorem f28_n11101_eq (F : Nat) (Rf28_j12003 : St → Option (AV × List Blk)) : ∀ v, aexec VG0228 (Af28 F) (sub (bodyOf Tryd.f28) [1, 1, 1, 0, 1]) (ef28_j7016 v) (kSeq (fun s => Rf28_j12003 (cutTo VG0228 (some [(2, .plain), (3, .plain)]) s)) (kFin VG0228 0 (Tryd.f28).results.toList)) = f28_n11101 F (fun w => Rf28_j12003 (ef28_j12003 w)) v := fun v =>
  (block_in (c := (sub (bodyOf Tryd.f28) [1, 1, 1, 0, 1])) (d := (sub (bodyOf Tryd.f28) [1, 1, 1, 0, 1, 0])) (id := 2) (by kernel_rfl) _ _).trans (f28_n111010_eq F Rf28_j12003 v)
def f28_n1110 (F : Nat) (kf28_j12003 : (List Int) × (List Int) → Option (AV × List Blk)) : (List Int) × (List Int) → Option (AV × List Blk) := fun v => f28_n11100 F (f28_n11101 F kf28_j12003) kf28_j12003 v
theorem f28_n1110_eq (F : Nat) (Rf28_j12003 : St → Option (AV × List Blk)) : ∀ v, aexec VG0228 (Af28 F) (sub (bodyOf Tryd.f28) [1, 1, 1, 0]) (ef28_j6022 v) (kSeq (fun s => Rf28_j12003 (cutTo VG0228 (some [(2, .plain), (3, .plain)]) s)) (kFin VG0228 0 (Tryd.f28).results.toList)) = f28_n1110 F (fun w => Rf28_j12003 (ef28_j12003 w)) v :=
  seq_cut (c := (sub (bodyOf Tryd.f28) [1, 1, 1, 0])) (a := (sub (bodyOf Tryd.f28) [1, 1, 1, 0, 0])) (b := (sub (bodyOf Tryd.f28) [1, 1, 1, 0, 1])) (by kernel_rfl) (spec := [(2, .plain), (3, .plain), (5, .plain)]) (by kernel_rfl) ef28_j6022 ef28_j7016 (kSeq (fun s => Rf28_j12003 (cutTo VG0228 (some [(2, .plain), (3, .plain)]) s)) (kFin VG0228 0 (Tryd.f28).results.toList)) (fun k => f28_n11100 F k (fun w => Rf28_j12003 (ef28_j12003 w))) (f28_n11101 F (fun w => Rf28_j12003 (ef28_j12003 w)))
    (fun Rf28_j7016 => f28_n11100_eq F Rf28_j7016 Rf28_j12003) (f28_n11101_eq F Rf28_j12003)
def f28_n1111 (F : Nat) : (List Int) × (List Int) → Option (AV × List Blk) := fun (x1, x2) => (some ((.agg 64 (.rI .u32 x2)), []))
theorem f28_n1111_eq (F : Nat) : ∀ v, aexec VG0228 (Af28 F) (sub (bodyOf Tryd.f28) [1, 1, 1, 1]) (ef28_j12003 v) (kFin VG0228 0 (Tryd.f28).results.toList) = f28_n1111 F v := by
  rintro ⟨x1, x2⟩; kernel_rfl
def f28_n111 (F : Nat) : (List Int) × (List Int) → Option (AV × List Blk) := fun v => f28_n1110 F (f28_n1111 F) v
theorem f28_n111_eq (F : Nat) : ∀ v, aexec VG0228 (Af28 F) (sub (bodyOf Tryd.f28) [1, 1, 1]) (ef28_j6022 v) (kFin VG0228 0 (Tryd.f28).results.toList) = f28_n111 F v :=
  seq_cut (c := (sub (bodyOf Tryd.f28) [1, 1, 1])) (a := (sub (bodyOf Tryd.f28) [1, 1, 1, 0])) (b := (sub (bodyOf Tryd.f28) [1, 1, 1, 1])) (by kernel_rfl) (spec := [(2, .plain), (3, .plain)]) (by kernel_rfl) ef28_j6022 ef28_j12003 (kFin VG0228 0 (Tryd.f28).results.toList) (fun k => f28_n1110 F k) (f28_n1111 F)
    (fun Rf28_j12003 => f28_n1110_eq F Rf28_j12003) (f28_n1111_eq F)
def f28_n11 (F : Nat) : (List Int) × (List Int) × (List Int) → Option (AV × List Blk) := fun v => f28_n110 F (f28_n111 F) v
theorem f28_n11_eq (F : Nat) : ∀ v, aexec VG0228 (Af28 F) (sub (bodyOf Tryd.f28) [1, 1]) (ef28_j2037 v) (kFin VG0228 0 (Tryd.f28).results.toList) = f28_n11 F v :=
  seq_cut (c := (sub (bodyOf Tryd.f28) [1, 1])) (a := (sub (bodyOf Tryd.f28) [1, 1, 0])) (b := (sub (bodyOf Tryd.f28) [1, 1, 1])) (by kernel_rfl) (spec := [(2, .plain), (3, .plain)]) (by kernel_rfl) ef28_j2037 ef28_j6022 (kFin VG0228 0 (Tryd.f28).results.toList) (fun k => f28_n110 F k) (f28_n111 F)
    (fun Rf28_j6022 => f28_n110_eq F Rf28_j6022) (f28_n111_eq F)
def f28_n1 (F : Nat) : (List Int) × (List Int) → Option (AV × List Blk) := fun v => f28_n10 F (f28_n11 F) v
theorem f28_n1_eq (F : Nat) : ∀ v, aexec VG0228 (Af28 F) (sub (bodyOf Tryd.f28) [1]) (ef28_j1039 v) (kFin VG0228 0 (Tryd.f28).results.toList) = f28_n1 F v :=
  seq_cut (c := (sub (bodyOf Tryd.f28) [1])) (a := (sub (bodyOf Tryd.f28) [1, 0])) (b := (sub (bodyOf Tryd.f28) [1, 1])) (by kernel_rfl) (spec := [(0, .plain), (2, .plain), (3, .plain)]) (by kernel_rfl) ef28_j1039 ef28_j2037 (kFin VG0228 0 (Tryd.f28).results.toList) (fun k => f28_n10 F k) (f28_n11 F)
    (fun Rf28_j2037 => f28_n10_eq F Rf28_j2037) (f28_n11_eq F)
def f28_nt (F : Nat) : (List Int) → Option (AV × List Blk) := fun v => f28_n0 F (f28_n1 F) v
theorem f28_nt_eq (F : Nat) : ∀ v, aexec VG0228 (Af28 F) (sub (bodyOf Tryd.f28) []) (ef28_a v) (kFin VG0228 0 (Tryd.f28).results.toList) = f28_nt F v :=
  seq_cut (c := (sub (bodyOf Tryd.f28) [])) (a := (sub (bodyOf Tryd.f28) [0])) (b := (sub (bodyOf Tryd.f28) [1])) (by kernel_rfl) (spec := [(0, .plain), (2, .plain)]) (by kernel_rfl) ef28_a ef28_j1039 (kFin VG0228 0 (Tryd.f28).results.toList) (fun k => f28_n0 F k) (f28_n1 F)
    (fun Rf28_j1039 => f28_n0_eq F Rf28_j1039) (f28_n1_eq F)
/-- gantry/gantryref02.words -/
def f28 (F : Nat) : (List Int) → Option (AV × List Blk) := f28_nt F
theorem f28_body (F : Nat) (a0 : List Int) : abody VG0228 (Af28 F) Tryd.f28 [(.vs (.rI .u8 a0) 0 1)] [] = f28 F a0 :=
  (abody_in (c := (sub (bodyOf Tryd.f28) [])) (by kernel_rfl) (s := ef28_a a0) (by kernel_rfl)).trans (f28_nt_eq F a0)
def r28 : CRun := fun X H => match X, H with
  | [(.vs (.rI .u8 a0) 0 1)], [] => some ((decide (64 ≤ a0.length)), (.agg 64 (.rI .u32 (Sha.sched a0 64))), [])
  | _, _ => none
theorem or_add (i a b : Nat) (h : b < 2 ^ i) (h2 : a * 2 ^ i + b < 4294967296) : ibits .or .u32 ((a * 2 ^ i : Nat) : Int) (b : Int) = ((a * 2 ^ i + b : Nat) : Int) := by
  show IntKind.u32.wrap (((BitVec.ofInt 32 ((a * 2 ^ i : Nat) : Int)) ||| (BitVec.ofInt 32 (b : Int))).toNat : Int) = _
  rw [BitVec.toNat_or, BitVec.toNat_ofInt, BitVec.toNat_ofInt]
  generalize hx : a * 2 ^ i = x at *
  have e1 : ((x : Int) % ((2 ^ 32 : Nat) : Int)).toNat = x := by omega
  have e2 : ((b : Int) % ((2 ^ 32 : Nat) : Int)).toNat = b := by omega
  rw [e1, e2, ← hx, ← Nat.shiftLeft_eq, ← Nat.shiftLeft_add_eq_or_of_lt h, Nat.shiftLeft_eq, hx, u32w (by omega) (by omega)]
theorem or4 (a b c d : Int) (ha : 0 ≤ a ∧ a ≤ 255) (hb : 0 ≤ b ∧ b ≤ 255) (hc : 0 ≤ c ∧ c ≤ 255) (hd : 0 ≤ d ∧ d ≤ 255) :
    ibits .or .u32 (ibits .or .u32 (ibits .or .u32 (IntKind.u32.wrap ((IntKind.u32.wrap a) * 2 ^ 24)) (IntKind.u32.wrap ((IntKind.u32.wrap b) * 2 ^ 16))) (IntKind.u32.wrap ((IntKind.u32.wrap c) * 2 ^ 8))) (IntKind.u32.wrap d) = Sha.word a b c d := by
  obtain ⟨a, rfl⟩ := Int.eq_ofNat_of_zero_le ha.1
  obtain ⟨b, rfl⟩ := Int.eq_ofNat_of_zero_le hb.1
  obtain ⟨c, rfl⟩ := Int.eq_ofNat_of_zero_le hc.1
  obtain ⟨d, rfl⟩ := Int.eq_ofNat_of_zero_le hd.1
  rw [u32w (x := (a : Int)) (by omega) (by omega), u32w (x := (b : Int)) (by omega) (by omega), u32w (x := (c : Int)) (by omega) (by omega), u32w (x := (d : Int)) (by omega) (by omega),
    u32w (x := (a : Int) * 2 ^ 24) (by omega) (by omega), u32w (x := (b : Int) * 2 ^ 16) (by omega) (by omega), u32w (x := (c : Int) * 2 ^ 8) (by omega) (by omega)]
  have e1 : ibits .or .u32 ((a : Int) * 2 ^ 24) ((b : Int) * 2 ^ 16) = (((a * 256 + b) * 2 ^ 16 : Nat) : Int) := by
    have := or_add 24 a (b * 2 ^ 16) (by omega) (by omega)
    rw [show ((a : Int) * 2 ^ 24) = ((a * 2 ^ 24 : Nat) : Int) by omega, show ((b : Int) * 2 ^ 16) = ((b * 2 ^ 16 : Nat) : Int) by omega, this]; omega
  have e2 : ibits .or .u32 (((a * 256 + b) * 2 ^ 16 : Nat) : Int) ((c : Int) * 2 ^ 8) = ((((a * 256 + b) * 256 + c) * 2 ^ 8 : Nat) : Int) := by
    have := or_add 16 (a * 256 + b) (c * 2 ^ 8) (by omega) (by omega)
    rw [show ((c : Int) * 2 ^ 8) = ((c * 2 ^ 8 : Nat) : Int) by omega, this]; omega
  rw [e1, e2, or_add 8 _ d (by omega) (by omega)]
  unfold Sha.word; omega
theorem s28 (a0 : List Int) (hp : ((decide (64 ≤ a0.length))) = true) (h0 : okV (.vs (.rI .u8 a0) 0 1)) : ∃ F, f28 F a0 = some ((.agg 64 (.rI .u32 (Sha.sched a0 64))), []) := by
  have hl : 64 ≤ a0.length := of_decide_eq_true hp
  have hl2 := h0.2
  have hb : ∀ i, 0 ≤ a0.getD i 0 ∧ a0.getD i 0 ≤ 255 := byte_get (fun x hx => has_u8 (h0.1 x hx))
  refine ⟨65, ?_⟩
  simp only [f28, f28_nt, f28_n0, f28_n1, f28_n10, f28_n11, f28_n110, f28_n1100, f28_n1101, f28_n11010, f28_n11010_i]
  refine loopN_from (fun i => (a0, (i : Int), List.replicate 64 0, Sha.sched a0 i ++ List.replicate (64 - i) 0)) 16 (by rfl) (fun i hi k => ?_) (fun k => ?_) 65 (by omega)
  · simp only [f28_n110100, dec_and]
    rw [i64w (x := 4 * (i : Int)) (by omega) (by omega), i64w (x := 4 * (i : Int) + 1) (by omega) (by omega), i64w (x := 4 * (i : Int) + 2) (by omega) (by omega), i64w (x := 4 * (i : Int) + 3) (by omega) (by omega), i64w (x := (i : Int) + 1) (by omega) (by omega),
      cond_pos (by omega), cond_pos (by omega), cond_pos (by omega), cond_pos (by omega), cond_pos (by omega), cond_pos (by omega)]
    rw [show (4 * (i : Int)).toNat = 4 * i by omega, show (4 * (i : Int) + 1).toNat = 4 * i + 1 by omega, show (4 * (i : Int) + 2).toNat = 4 * i + 2 by omega, show (4 * (i : Int) + 3).toNat = 4 * i + 3 by omega, Int.toNat_natCast,
      or4 _ _ _ _ (hb _) (hb _) (hb _) (hb _), sched_set a0 i _ (by omega) (by simp only [Sha.sched, if_pos hi])]
    rfl
  · simp only [f28_n110100]
    rw [cond_neg (by omega)]
    simp only [f28_n111, f28_n1110, f28_n11100, f28_n11101, f28_n111010, f28_n111010_i]
    refine loopN_from (fun i => (((i + 16 : Nat) : Int), List.replicate 64 0, Sha.sched a0 (i + 16) ++ List.replicate (64 - (i + 16)) 0)) 48 (by rfl) (fun i hi k' => ?_) (fun k' => ?_) 65 (by omega)
    · simp only [f28_n1110100, dec_and]
      generalize hj : i + 16 = j
      have h16 : ¬ j < 16 := by omega
      rw [i64w (x := (j : Int) - 15) (by omega) (by omega), i64w (x := (j : Int) - 2) (by omega) (by omega), i64w (x := (j : Int) - 16) (by omega) (by omega), i64w (x := (j : Int) - 7) (by omega) (by omega), i64w (x := (j : Int) + 1) (by omega) (by omega)]
      repeat rw [cond_pos (by omega)]
      rw [show ((j : Int) - 15).toNat = j - 15 by omega, show ((j : Int) - 2).toNat = j - 2 by omega, show ((j : Int) - 16).toNat = j - 16 by omega, show ((j : Int) - 7).toNat = j - 7 by omega, Int.toNat_natCast]
      rw [sched_get a0 j (j - 15) _ (by omega), sched_get a0 j (j - 2) _ (by omega), sched_get a0 j (j - 16) _ (by omega), sched_get a0 j (j - 7) _ (by omega)]
      rw [sched_set a0 j _ (by omega) (by simp only [Sha.sched, if_neg h16]; rfl), show i + 1 + 16 = j + 1 by omega]
      rfl
    · simp only [f28_n1110100]
      rw [cond_neg (by omega)]
      simp only [f28_n1111]
      rw [Nat.sub_self, List.replicate_zero, List.append_nil]

theorem c28 : CallOk Tryd.prog G02 28 r28 := callOk_of (V := VG0228) mixed tys eVG0228 (f := 28) (fn := Tryd.f28) Tryd.func28 (by kernel_rfl) (c := sub (bodyOf Tryd.f28) []) (by kernel_rfl) (by
  intro X H r H' h hX hH
  unfold r28 at h; split at h <;> try contradiction
  simp only [Option.some.injEq, Prod.mk.injEq] at h
  obtain ⟨hp, rfl, rfl⟩ := h
  obtain ⟨F, hF⟩ := s28 _ hp (hX _ (.head _))
  exact ⟨Af28 F, (f28_body F _).trans hF⟩)
/-! gantry/gantryref02.padded -/
def lVG0227 : List CEnt := []
def VG0227 : Env := mkEnv T02 G02 lVG0227
theorem eVG0227 : EOk Tryd.prog VG0227 := eok_mk (by exact trivial)
def Af27 (F : Nat) : Cuts := { F := F, at_ := fun n => match n with | 3008 => some [(0, .plain), (3, .plain)] | 7010 => some [(3, .plain), (4, .plain), (5, .plain)] | _ => none, join := fun n => match n with | 1035 => some [(0, .plain)] | 2033 => some [(0, .plain), (3, .plain)] | 3031 => some [(0, .plain), (3, .plain)] | 5020 => some [(0, .plain), (3, .plain)] | 6018 => some [(3, .plain), (4, .plain)] | 7012 => some [(3, .plain), (4, .plain), (5, .plain)] | 10003 => some [(3, .plain)] | _ => none }
def ef27_a : (List Int) → St := fun a0 => { tmps := [(0, (.vs (.rI .u8 a0) 0 1))], heap := [], next := 0, nt := 37, m := 0 }
def ef27_j1035 : (List Int) → St := fun t0 => { tmps := [(0, (.vs (.rI .u8 t0) 0 1))], heap := [], next := 0, nt := 37, m := 0 }
def ef27_j2033 : (List Int) × (List Int) → St := fun (t0, x2) => { tmps := [(0, (.vs (.rI .u8 t0) 0 1)), (3, (.own 0 0 1))], heap := [(0, (.cells x2.length (.rI .u8 x2) true))], next := 1, nt := 37, m := 0 }
def ef27_j3031 : (List Int) × (List Int) → St := fun (t0, x2) => { tmps := [(0, (.vs (.rI .u8 t0) 0 1)), (3, (.own 0 0 1))], heap := [(0, (.cells x2.length (.rI .u8 x2) true))], next := 1, nt := 37, m := 0 }
def ef27_l3008 : (List Int) × (List Int) → St := fun (t0, x2) => { tmps := [(0, (.vs (.rI .u8 t0) 0 1)), (3, (.own 0 0 1))], heap := [(0, (.cells x2.length (.rI .u8 x2) true))], next := 1, nt := 37, m := 0 }
def ef27_j5020 : (List Int) × (List Int) → St := fun (t0, x2) => { tmps := [(0, (.vs (.rI .u8 t0) 0 1)), (3, (.own 0 0 1))], heap := [(0, (.cells x2.length (.rI .u8 x2) true))], next := 1, nt := 37, m := 0 }
def ef27_j6018 : Int × (List Int) → St := fun (t4, x2) => { tmps := [(3, (.own 0 0 1)), (4, (.int .u64 t4))], heap := [(0, (.cells x2.length (.rI .u8 x2) true))], next := 1, nt := 37, m := 0 }
def ef27_j7012 : Int × Int × (List Int) → St := fun (t4, t5, x3) => { tmps := [(3, (.own 0 0 1)), (4, (.int .u64 t4)), (5, (.int .i64 t5))], heap := [(0, (.cells x3.length (.rI .u8 x3) true))], next := 1, nt := 37, m := 0 }
def ef27_l7010 : Int × Int × (List Int) → St := fun (t4, t5, x3) => { tmps := [(3, (.own 0 0 1)), (4, (.int .u64 t4)), (5, (.int .i64 t5))], heap := [(0, (.cells x3.length (.rI .u8 x3) true))], next := 1, nt := 37, m := 0 }
def ef27_j10003 : (List Int) → St := fun x1 => { tmps := [(3, (.own 0 0 1))], heap := [(0, (.cells x1.length (.rI .u8 x1) true))], next := 1, nt := 37, m := 0 }
def f27_n0 (F : Nat) (kf27_j1035 : (List Int) → Option (AV × List Blk)) : (List Int) → Option (AV × List Blk) := fun a0 => (kf27_j1035 a0)
theorem f27_n0_eq (F : Nat) (Rf27_j1035 : St → Option (AV × List Blk)) : ∀ v, aexec VG0227 (Af27 F) (sub (bodyOf Tryd.f27) [0]) (ef27_a v) (kSeq (fun s => Rf27_j1035 (cutTo VG0227 (some [(0, .plain)]) s)) (kFin VG0227 0 (Tryd.f27).results.toList)) = f27_n0 F (fun w => Rf27_j1035 (ef27_j1035 w)) v := by
  intro a0; kernel_rfl
def f27_n10 (F : Nat) (kf27_j2033 : (List Int) × (List Int) → Option (AV × List Blk)) : (List Int) → Option (AV × List Blk) := fun t0 => (cond (decide ((0 + t0.length) < 1073741824)) (kf27_j2033 (t0, ([] ++ t0))) none)
theorem f27_n10_eq (F : Nat) (Rf27_j2033 : St → Option (AV × List Blk)) : ∀ v, aexec VG0227 (Af27 F) (sub (bodyOf Tryd.f27) [1, 0]) (ef27_j1035 v) (kSeq (fun s => Rf27_j2033 (cutTo VG0227 (some [(0, .plain), (3, .plain)]) s)) (kFin VG0227 0 (Tryd.f27).results.toList)) = f27_n10 F (fun w => Rf27_j2033 (ef27_j2033 w)) v := by
  intro t0; kernel_rfl
def f27_n110 (F : Nat) (kf27_j3031 : (List Int) × (List Int) → Option (AV × List Blk)) : (List Int) × (List Int) → Option (AV × List Blk) := fun (t0, x2) => (cond (decide ((x2.length + 1) < 1073741824)) (kf27_j3031 (t0, (x2 ++ [(128 : Int)]))) none)
theorem f27_n110_eq (F : Nat) (Rf27_j3031 : St → Option (AV × List Blk)) : ∀ v, aexec VG0227 (Af27 F) (sub (bodyOf Tryd.f27) [1, 1, 0]) (ef27_j2033 v) (kSeq (fun s => Rf27_j3031 (cutTo VG0227 (some [(0, .plain), (3, .plain)]) s)) (kFin VG0227 0 (Tryd.f27).results.toList)) = f27_n110 F (fun w => Rf27_j3031 (ef27_j3031 w)) v := by
  rintro ⟨t0, x2⟩; kernel_rfl
def f27_n111000 (F : Nat) (kf27_l3008 : (List Int) × (List Int) → Option (AV × List Blk)) (kf27_j5020 : (List Int) × (List Int) → Option (AV × List Blk)) : (List Int) × (List Int) → Option (AV × List Blk) := fun (t0, x2) => (cond ((Int.tmod (↑x2.length : Int) (64 : Int)) != (56 : Int)) (cond (decide ((x2.length + 1) < 1073741824)) (kf27_l3008 (t0, (x2 ++ [(0 : Int)]))) none) (kf27_j5020 (t0, x2)))
theorem f27_n111000_eq (F : Nat) (Rf27_l3008 : St → Option (AV × List Blk)) (Rf27_j5020 : St → Option (AV × List Blk)) : ∀ v, aexec VG0227 (Af27 F) (sub (bodyOf Tryd.f27) [1, 1, 1, 0, 0, 0]) (ef27_l3008 v) (kSeq (fun s => Rf27_l3008 (cutTo VG0227 (some [(0, .plain), (3, .plain)]) s)) (kBlock 0 (kSeq (fun s => Rf27_j5020 (cutTo VG0227 (some [(0, .plain), (3, .plain)]) s)) (kFin VG0227 0 (Tryd.f27).results.toList)))) = f27_n111000 F (fun w => Rf27_l3008 (ef27_l3008 w)) (fun w => Rf27_j5020 (ef27_j5020 w)) v := by
  rintro ⟨t0, x2⟩; kernel_rfl
def f27_n11100_i : (List Int) × (List Int) → (List Int) × (List Int) := fun (t0, x2) => (t0, x2)
def f27_n11100 (F : Nat) (kf27_j5020 : (List Int) × (List Int) → Option (AV × List Blk)) : (List Int) × (List Int) → Option (AV × List Blk) := fun v => loopN (fun k => f27_n111000 F k kf27_j5020) F (f27_n11100_i v)
theorem f27_n11100_eq (F : Nat) (Rf27_j5020 : St → Option (AV × List Blk)) : ∀ v, aexec VG0227 (Af27 F) (sub (bodyOf Tryd.f27) [1, 1, 1, 0, 0]) (ef27_j3031 v) (kBlock 0 (kSeq (fun s => Rf27_j5020 (cutTo VG0227 (some [(0, .plain), (3, .plain)]) s)) (kFin VG0227 0 (Tryd.f27).results.toList))) = f27_n11100 F (fun w => Rf27_j5020 (ef27_j5020 w)) v :=
  loop_cut (c := (sub (bodyOf Tryd.f27) [1, 1, 1, 0, 0])) (d := (sub (bodyOf Tryd.f27) [1, 1, 1, 0, 0, 0])) (by kernel_rfl) (spec := [(0, .plain), (3, .plain)]) (by kernel_rfl) ef27_j3031 ef27_l3008 (kBlock 0 (kSeq (fun s => Rf27_j5020 (cutTo VG0227 (some [(0, .plain), (3, .plain)]) s)) (kFin VG0227 0 (Tryd.f27).results.toList))) f27_n11100_i (fun k => f27_n111000 F k (fun w => Rf27_j5020 (ef27_j5020 w)))
    (by rintro ⟨t0, x2⟩; kernel_rfl) (fun Rf27_l3008 => f27_n111000_eq F Rf27_l3008 Rf27_j5020)
def f27_n1110 (F : Nat) (kf27_j5020 : (List Int) × (List Int) → Option (AV × List Blk)) : (List Int) × (List Int) → Option (AV × List Blk) := f27_n11100 F kf27_j5020
theorem f27_n1110_eq (F : Nat) (Rf27_j5020 : St → Option (AV × List Blk)) : ∀ v, aexec VG0227 (Af27 F) (sub (bodyOf Tryd.f27) [1, 1, 1, 0]) (ef27_j3031 v) (kSeq (fun s => Rf27_j5020 (cutTo VG0227 (some [(0, .plain), (3, .plain)]) s)) (kFin VG0227 0 (Tryd.f27).results.toList)) = f27_n1110 F (fun w => Rf27_j5020 (ef27_j5020 w)) v := fun v =>
  (block_in (c := (sub (bodyOf Tryd.f27) [1, 1, 1, 0])) (d := (sub (bodyOf Tryd.f27) [1, 1, 1, 0, 0])) (id := 0) (by kernel_rfl) _ _).trans (f27_n11100_eq F Rf27_j5020 v)
def f27_n11110 (F : Nat) (kf27_j6018 : Int × (List Int) → Option (AV × List Blk)) : (List Int) × (List Int) → Option (AV × List Blk) := fun (t0, x2) => (kf27_j6018 ((IntKind.u64.wrap ((8 : Int) * (IntKind.u64.wrap (↑t0.length : Int)))), x2))
theorem f27_n11110_eq (F : Nat) (Rf27_j6018 : St → Option (AV × List Blk)) : ∀ v, aexec VG0227 (Af27 F) (sub (bodyOf Tryd.f27) [1, 1, 1, 1, 0]) (ef27_j5020 v) (kSeq (fun s => Rf27_j6018 (cutTo VG0227 (some [(3, .plain), (4, .plain)]) s)) (kFin VG0227 0 (Tryd.f27).results.toList)) = f27_n11110 F (fun w => Rf27_j6018 (ef27_j6018 w)) v := by
  rintro ⟨t0, x2⟩; kernel_rfl
def f27_n1111100 (F : Nat) (kf27_j7012 : Int × Int × (List Int) → Option (AV × List Blk)) (kf27_j10003 : (List Int) → Option (AV × List Blk)) : Int × (List Int) → Option (AV × List Blk) := fun (t4, x2) => (kf27_j7012 (t4, (0 : Int), x2))
theorem f27_n1111100_eq (F : Nat) (Rf27_j7012 : St → Option (AV × List Blk)) (Rf27_j10003 : St → Option (AV × List Blk)) : ∀ v, aexec VG0227 (Af27 F) (sub (bodyOf Tryd.f27) [1, 1, 1, 1, 1, 0, 0]) (ef27_j6018 v) (kSeq (fun s => Rf27_j7012 (cutTo VG0227 (some [(3, .plain), (4, .plain), (5, .plain)]) s)) (kSeq (fun s => Rf27_j10003 (cutTo VG0227 (some [(3, .plain)]) s)) (kFin VG0227 0 (Tryd.f27).results.toList))) = f27_n1111100 F (fun w => Rf27_j7012 (ef27_j7012 w)) (fun w => Rf27_j10003 (ef27_j10003 w)) v := by
  rintro ⟨t4, x2⟩; kernel_rfl
def f27_n111110100 (F : Nat) (kf27_l7010 : Int × Int × (List Int) → Option (AV × List Blk)) (kf27_j10003 : (List Int) → Option (AV × List Blk)) : Int × Int × (List Int) → Option (AV × List Blk) := fun (t4, t5, x3) => (cond (decide (t5 < (8 : Int))) (cond (decide (0 ≤ (IntKind.i64.wrap ((56 : Int) - (IntKind.i64.wrap ((8 : Int) * t5)))))) (cond (decide ((x3.length + 1) < 1073741824)) (kf27_l7010 (t4, (IntKind.i64.wrap (t5 + (1 : Int))), (x3 ++ [(IntKind.u8.wrap (Int.fdiv t4 (2 ^ (min (Int.toNat (IntKind.i64.wrap ((56 : Int) - (IntKind.i64.wrap ((8 : Int) * t5))))) 64))))]))) none) none) (kf27_j10003 x3))
theorem f27_n111110100_eq (F : Nat) (Rf27_l7010 : St → Option (AV × List Blk)) (Rf27_j10003 : St → Option (AV × List Blk)) : ∀ v, aexec VG0227 (Af27 F) (sub (bodyOf Tryd.f27) [1, 1, 1, 1, 1, 0, 1, 0, 0]) (ef27_l7010 v) (kSeq (fun s => Rf27_l7010 (cutTo VG0227 (some [(3, .plain), (4, .plain), (5, .plain)]) s)) (kBlock 2 (kSeq (fun s => Rf27_j10003 (cutTo VG0227 (some [(3, .plain)]) s)) (kFin VG0227 0 (Tryd.f27).results.toList)))) = f27_n111110100 F (fun w => Rf27_l7010 (ef27_l7010 w)) (fun w => Rf27_j10003 (ef27_j10003 w)) v := by
  rintro ⟨t4, t5, x3⟩; kernel_rfl
def f27_n11111010_i : Int × Int × (List Int) → Int × Int × (List Int) := fun (t4, t5, x3) => (t4, t5, x3)
def f27_n11111010 (F : Nat) (kf27_j10003 : (List Int) → Option (AV × List Blk)) : Int × Int × (List Int) → Option (AV × List Blk) := fun v => loopN (fun k => f27_n111110100 F k kf27_j10003) F (f27_n11111010_i v)
theorem f27_n11111010_eq (F : Nat) (Rf27_j10003 : St → Option (AV × List Blk)) : ∀ v, aexec VG0227 (Af27 F) (sub (bodyOf Tryd.f27) [1, 1, 1, 1, 1, 0, 1, 0]) (ef27_j7012 v) (kBlock 2 (kSeq (fun s => Rf27_j10003 (cutTo VG0227 (some [(3, .plain)]) s)) (kFin VG0227 0 (Tryd.f27).results.toList))) = f27_n11111010 F (fun w => Rf27_j10003 (ef27_j10003 w)) v :=
  loop_cut (c := (sub (bodyOf Tryd.f27) [1, 1, 1, 1, 1, 0, 1, 0])) (d := (sub (bodyOf Tryd.f27) [1, 1, 1, 1, 1, 0, 1, 0, 0])) (by kernel_rfl) (spec := [(3, .plain), (4, .plain), (5, .plain)]) (by kernel_rfl) ef27_j7012 ef27_l7010 (kBlock 2 (kSeq (fun s => Rf27_j10003 (cutTo VG0227 (some [(3, .plain)]) s)) (kFin VG0227 0 (Tryd.f27).results.toList))) f27_n11111010_i (fun k => f27_n111110100 F k (fun w => Rf27_j10003 (ef27_j10003 w)))
    (by rintro ⟨t4, t5, x3⟩; kernel_rfl) (fun Rf27_l7010 => f27_n111110100_eq F Rf27_l7010 Rf27_j10003)
def f27_n1111101 (F : Nat) (kf27_j10003 : (List Int) → Option (AV × List Blk)) : Int × Int × (List Int) → Option (AV × List Blk) := f27_n11111010 F kf27_j10003
theorem f27_n1111101_eq (F : Nat) (Rf27_j10003 : St → Option (AV × List Blk)) : ∀ v, aexec VG0227 (Af27 F) (sub (bodyOf Tryd.f27) [1, 1, 1, 1, 1, 0, 1]) (ef27_j7012 v) (kSeq (fun s => Rf27_j10003 (cutTo VG0227 (some [(3, .plain)]) s)) (kFin VG0227 0 (Tryd.f27).results.toList)) = f27_n1111101 F (fun w => Rf27_j10003 (ef27_j10003 w)) v := fun v =>
  (block_in (c := (sub (bodyOf Tryd.f27) [1, 1, 1, 1, 1, 0, 1])) (d := (sub (bodyOf Tryd.f27) [1, 1, 1, 1, 1, 0, 1, 0])) (id := 2) (by kernel_rfl) _ _).trans (f27_n11111010_eq F Rf27_j10003 v)
def f27_n111110 (F : Nat) (kf27_j10003 : (List Int) → Option (AV × List Blk)) : Int × (List Int) → Option (AV × List Blk) := fun v => f27_n1111100 F (f27_n1111101 F kf27_j10003) kf27_j10003 v
theorem f27_n111110_eq (F : Nat) (Rf27_j10003 : St → Option (AV × List Blk)) : ∀ v, aexec VG0227 (Af27 F) (sub (bodyOf Tryd.f27) [1, 1, 1, 1, 1, 0]) (ef27_j6018 v) (kSeq (fun s => Rf27_j10003 (cutTo VG0227 (some [(3, .plain)]) s)) (kFin VG0227 0 (Tryd.f27).results.toList)) = f27_n111110 F (fun w => Rf27_j10003 (ef27_j10003 w)) v :=
  seq_cut (c := (sub (bodyOf Tryd.f27) [1, 1, 1, 1, 1, 0])) (a := (sub (bodyOf Tryd.f27) [1, 1, 1, 1, 1, 0, 0])) (b := (sub (bodyOf Tryd.f27) [1, 1, 1, 1, 1, 0, 1])) (by kernel_rfl) (spec := [(3, .plain), (4, .plain), (5, .plain)]) (by kernel_rfl) ef27_j6018 ef27_j7012 (kSeq (fun s => Rf27_j10003 (cutTo VG0227 (some [(3, .plain)]) s)) (kFin VG0227 0 (Tryd.f27).results.toList)) (fun k => f27_n1111100 F k (fun w => Rf27_j10003 (ef27_j10003 w))) (f27_n1111101 F (fun w => Rf27_j10003 (ef27_j10003 w)))
    (fun Rf27_j7012 => f27_n1111100_eq F Rf27_j7012 Rf27_j10003) (f27_n1111101_eq F Rf27_j10003)
def f27_n111111 (F : Nat) : (List Int) → Option (AV × List Blk) := fun x1 => (some ((.own 0 0 1), [(.cells x1.length (.rI .u8 x1) true)]))
theorem f27_n111111_eq (F : Nat) : ∀ v, aexec VG0227 (Af27 F) (sub (bodyOf Tryd.f27) [1, 1, 1, 1, 1, 1]) (ef27_j10003 v) (kFin VG0227 0 (Tryd.f27).results.toList) = f27_n111111 F v := by
  intro x1; kernel_rfl
def f27_n11111 (F : Nat) : Int × (List Int) → Option (AV × List Blk) := fun v => f27_n111110 F (f27_n111111 F) v
theorem f27_n11111_eq (F : Nat) : ∀ v, aexec VG0227 (Af27 F) (sub (bodyOf Tryd.f27) [1, 1, 1, 1, 1]) (ef27_j6018 v) (kFin VG0227 0 (Tryd.f27).results.toList) = f27_n11111 F v :=
  seq_cut (c := (sub (bodyOf Tryd.f27) [1, 1, 1, 1, 1])) (a := (sub (bodyOf Tryd.f27) [1, 1, 1, 1, 1, 0])) (b := (sub (bodyOf Tryd.f27) [1, 1, 1, 1, 1, 1])) (by kernel_rfl) (spec := [(3, .plain)]) (by kernel_rfl) ef27_j6018 ef27_j10003 (kFin VG0227 0 (Tryd.f27).results.toList) (fun k => f27_n111110 F k) (f27_n111111 F)
    (fun Rf27_j10003 => f27_n111110_eq F Rf27_j10003) (f27_n111111_eq F)
def f27_n1111 (F : Nat) : (List Int) × (List Int) → Option (AV × List Blk) := fun v => f27_n11110 F (f27_n11111 F) v
theorem f27_n1111_eq (F : Nat) : ∀ v, aexec VG0227 (Af27 F) (sub (bodyOf Tryd.f27) [1, 1, 1, 1]) (ef27_j5020 v) (kFin VG0227 0 (Tryd.f27).results.toList) = f27_n1111 F v :=
  seq_cut (c := (sub (bodyOf Tryd.f27) [1, 1, 1, 1])) (a := (sub (bodyOf Tryd.f27) [1, 1, 1, 1, 0])) (b := (sub (bodyOf Tryd.f27) [1, 1, 1, 1, 1])) (by kernel_rfl) (spec := [(3, .plain), (4, .plain)]) (by kernel_rfl) ef27_j5020 ef27_j6018 (kFin VG0227 0 (Tryd.f27).results.toList) (fun k => f27_n11110 F k) (f27_n11111 F)
    (fun Rf27_j6018 => f27_n11110_eq F Rf27_j6018) (f27_n11111_eq F)
def f27_n111 (F : Nat) : (List Int) × (List Int) → Option (AV × List Blk) := fun v => f27_n1110 F (f27_n1111 F) v
theorem f27_n111_eq (F : Nat) : ∀ v, aexec VG0227 (Af27 F) (sub (bodyOf Tryd.f27) [1, 1, 1]) (ef27_j3031 v) (kFin VG0227 0 (Tryd.f27).results.toList) = f27_n111 F v :=
  seq_cut (c := (sub (bodyOf Tryd.f27) [1, 1, 1])) (a := (sub (bodyOf Tryd.f27) [1, 1, 1, 0])) (b := (sub (bodyOf Tryd.f27) [1, 1, 1, 1])) (by kernel_rfl) (spec := [(0, .plain), (3, .plain)]) (by kernel_rfl) ef27_j3031 ef27_j5020 (kFin VG0227 0 (Tryd.f27).results.toList) (fun k => f27_n1110 F k) (f27_n1111 F)
    (fun Rf27_j5020 => f27_n1110_eq F Rf27_j5020) (f27_n1111_eq F)
def f27_n11 (F : Nat) : (List Int) × (List Int) → Option (AV × List Blk) := fun v => f27_n110 F (f27_n111 F) v
theorem f27_n11_eq (F : Nat) : ∀ v, aexec VG0227 (Af27 F) (sub (bodyOf Tryd.f27) [1, 1]) (ef27_j2033 v) (kFin VG0227 0 (Tryd.f27).results.toList) = f27_n11 F v :=
  seq_cut (c := (sub (bodyOf Tryd.f27) [1, 1])) (a := (sub (bodyOf Tryd.f27) [1, 1, 0])) (b := (sub (bodyOf Tryd.f27) [1, 1, 1])) (by kernel_rfl) (spec := [(0, .plain), (3, .plain)]) (by kernel_rfl) ef27_j2033 ef27_j3031 (kFin VG0227 0 (Tryd.f27).results.toList) (fun k => f27_n110 F k) (f27_n111 F)
    (fun Rf27_j3031 => f27_n110_eq F Rf27_j3031) (f27_n111_eq F)
def f27_n1 (F : Nat) : (List Int) → Option (AV × List Blk) := fun v => f27_n10 F (f27_n11 F) v
theorem f27_n1_eq (F : Nat) : ∀ v, aexec VG0227 (Af27 F) (sub (bodyOf Tryd.f27) [1]) (ef27_j1035 v) (kFin VG0227 0 (Tryd.f27).results.toList) = f27_n1 F v :=
  seq_cut (c := (sub (bodyOf Tryd.f27) [1])) (a := (sub (bodyOf Tryd.f27) [1, 0])) (b := (sub (bodyOf Tryd.f27) [1, 1])) (by kernel_rfl) (spec := [(0, .plain), (3, .plain)]) (by kernel_rfl) ef27_j1035 ef27_j2033 (kFin VG0227 0 (Tryd.f27).results.toList) (fun k => f27_n10 F k) (f27_n11 F)
    (fun Rf27_j2033 => f27_n10_eq F Rf27_j2033) (f27_n11_eq F)
def f27_nt (F : Nat) : (List Int) → Option (AV × List Blk) := fun v => f27_n0 F (f27_n1 F) v
theorem f27_nt_eq (F : Nat) : ∀ v, aexec VG0227 (Af27 F) (sub (bodyOf Tryd.f27) []) (ef27_a v) (kFin VG0227 0 (Tryd.f27).results.toList) = f27_nt F v :=
  seq_cut (c := (sub (bodyOf Tryd.f27) [])) (a := (sub (bodyOf Tryd.f27) [0])) (b := (sub (bodyOf Tryd.f27) [1])) (by kernel_rfl) (spec := [(0, .plain)]) (by kernel_rfl) ef27_a ef27_j1035 (kFin VG0227 0 (Tryd.f27).results.toList) (fun k => f27_n0 F k) (f27_n1 F)
    (fun Rf27_j1035 => f27_n0_eq F Rf27_j1035) (f27_n1_eq F)
/-- gantry/gantryref02.padded -/
def f27 (F : Nat) : (List Int) → Option (AV × List Blk) := f27_nt F
theorem f27_body (F : Nat) (a0 : List Int) : abody VG0227 (Af27 F) Tryd.f27 [(.vs (.rI .u8 a0) 0 1)] [] = f27 F a0 :=
  (abody_in (c := (sub (bodyOf Tryd.f27) [])) (by kernel_rfl) (s := ef27_a a0) (by kernel_rfl)).trans (f27_nt_eq F a0)
def r27 : CRun := fun X H => match X, H with
  | [(.vs (.rI .u8 a0) 0 1)], [] => some ((decide (a0.length < 1073741000)), (.own 0 0 1), [(.cells (Sha.padded a0).length (.rI .u8 (Sha.padded a0)) true)])
  | _, _ => none
theorem s27 (a0 : List Int) (hp : ((decide (a0.length < 1073741000))) = true) (h0 : okV (.vs (.rI .u8 a0) 0 1)) : ∃ F, f27 F a0 = some ((.own 0 0 1), [(.cells (Sha.padded a0).length (.rI .u8 (Sha.padded a0)) true)]) := by
  have hl : a0.length < 1073741000 := of_decide_eq_true hp
  refine ⟨65, ?_⟩
  simp only [f27, f27_nt, f27_n0, f27_n1, f27_n10, f27_n11, f27_n110, f27_n111, f27_n1110, f27_n11100, f27_n11100_i, List.nil_append]
  rw [cond_pos (by omega), cond_pos (by omega)]
  generalize hN : a0.length = N at *
  refine loopN_from (fun i => (a0, a0 ++ 128 :: List.replicate i 0)) ((55 - (N : Int)) % 64).toNat (by rfl) (fun i hi k => ?_) (fun k => ?_) 65 (by omega)
  · simp only [f27_n111000, List.length_append, List.length_cons, List.length_replicate, int_bne, hN]
    rw [tmod_nn (by omega), cond_pos (by omega), cond_pos (by omega)]
    rw [show List.replicate (i + 1) (0 : Int) = List.replicate i 0 ++ [0] from List.replicate_succ', List.append_assoc]; rfl
  · simp only [f27_n111000, List.length_append, List.length_cons, List.length_replicate, int_bne, hN]
    rw [tmod_nn (by omega), cond_neg (by omega)]
    generalize hP : a0 ++ (128 : Int) :: List.replicate ((55 - (N : Int)) % 64).toNat 0 = P
    have hPl : P.length ≤ N + 64 := by rw [← hP, ← hN]; simp; omega
    simp only [f27_n1111, f27_n11110, f27_n11111, f27_n111110, f27_n1111100, f27_n1111101, f27_n11111010, f27_n11111010_i, hN]
    rw [u64w (x := (N : Int)) (by omega) (by omega)]
    generalize hM : IntKind.u64.wrap (8 * (N : Int)) = M
    refine loopN_from (fun j => (M, (j : Int), P ++ (List.range j).map fun i => IntKind.u8.wrap (M.fdiv (2 ^ (56 - 8 * i))))) 8 (by simp) (fun j hj k' => ?_) (fun k' => ?_) 65 (by omega)
    · simp only [f27_n111110100, List.length_append, List.length_map, List.length_range]
      rw [i64w (x := 8 * (j : Int)) (by omega) (by omega), i64w (x := 56 - 8 * (j : Int)) (by omega) (by omega), i64w (x := (j : Int) + 1) (by omega) (by omega), cond_pos (by omega), cond_pos (by omega), cond_pos (by omega)]
      rw [show min (56 - 8 * (j : Int)).toNat 64 = 56 - 8 * j by omega, List.range_succ, List.map_append, List.append_assoc]
      rfl
    · simp only [f27_n111110100]
      rw [cond_neg (by omega)]
      simp only [f27_n111111]
      have hpad : P ++ (List.range 8).map (fun i => IntKind.u8.wrap (M.fdiv (2 ^ (56 - 8 * i)))) = Sha.padded a0 := by
        rw [← hP, ← hM, List.append_assoc]; unfold Sha.padded; rw [hN]; rfl
      rw [hpad]

theorem c27 : CallOk Tryd.prog G02 27 r27 := callOk_of (V := VG0227) mixed tys eVG0227 (f := 27) (fn := Tryd.f27) Tryd.func27 (by kernel_rfl) (c := sub (bodyOf Tryd.f27) []) (by kernel_rfl) (by
  intro X H r H' h hX hH
  unfold r27 at h; split at h <;> try contradiction
  simp only [Option.some.injEq, Prod.mk.injEq] at h
  obtain ⟨hp, rfl, rfl⟩ := h
  obtain ⟨F, hF⟩ := s27 _ hp (hX _ (.head _))
  exact ⟨Af27 F, (f27_body F _).trans hF⟩)
/-! gantry/gantryref02.Few -/
def lVG0213 : List CEnt := []
def VG0213 : Env := mkEnv T02 G02 lVG0213
theorem eVG0213 : EOk Tryd.prog VG0213 := eok_mk (by exact trivial)
def Af13 (F : Nat) : Cuts := { F := F, at_ := fun n => match n with | 4016 => some [(0, .plain), (3, .plain)] | _ => none, join := fun n => match n with | 1032 => some [(0, .plain)] | 3024 => some [(0, .plain)] | 4018 => some [(0, .plain), (3, .plain)] | 8003 => some [] | _ => none }
def ef13_a : (List (List Int)) → St := fun a0 => { tmps := [(0, (.vs (.rS a0) 0 1))], heap := [], next := 0, nt := 19, m := 0 }
def ef13_j1032 : (List (List Int)) → St := fun t0 => { tmps := [(0, (.vs (.rS t0) 0 1))], heap := [], next := 0, nt := 19, m := 0 }
def ef13_j3024 : (List (List Int)) → St := fun t0 => { tmps := [(0, (.vs (.rS t0) 0 1))], heap := [], next := 0, nt := 19, m := 0 }
def ef13_j4018 : (List (List Int)) × Int → St := fun (t0, t3) => { tmps := [(0, (.vs (.rS t0) 0 1)), (3, (.int .i64 t3))], heap := [], next := 0, nt := 19, m := 0 }
def ef13_l4016 : (List (List Int)) × Int → St := fun (t0, t3) => { tmps := [(0, (.vs (.rS t0) 0 1)), (3, (.int .i64 t3))], heap := [], next := 0, nt := 19, m := 0 }
def ef13_j8003 : Unit → St := fun _ => { tmps := [], heap := [], next := 0, nt := 19, m := 0 }
def f13_n0 (F : Nat) (kf13_j1032 : (List (List Int)) → Option (AV × List Blk)) : (List (List Int)) → Option (AV × List Blk) := fun a0 => (kf13_j1032 a0)
theorem f13_n0_eq (F : Nat) (Rf13_j1032 : St → Option (AV × List Blk)) : ∀ v, aexec VG0213 (Af13 F) (sub (bodyOf Tryd.f13) [0]) (ef13_a v) (kSeq (fun s => Rf13_j1032 (cutTo VG0213 (some [(0, .plain)]) s)) (kFin VG0213 0 (Tryd.f13).results.toList)) = f13_n0 F (fun w => Rf13_j1032 (ef13_j1032 w)) v := by
  intro a0; kernel_rfl
def f13_n10 (F : Nat) (kf13_j3024 : (List (List Int)) → Option (AV × List Blk)) : (List (List Int)) → Option (AV × List Blk) := fun t0 => (cond (decide ((↑t0.length : Int) > (12 : Int))) (some ((.bool false), [])) (kf13_j3024 t0))
theorem f13_n10_eq (F : Nat) (Rf13_j3024 : St → Option (AV × List Blk)) : ∀ v, aexec VG0213 (Af13 F) (sub (bodyOf Tryd.f13) [1, 0]) (ef13_j1032 v) (kSeq (fun s => Rf13_j3024 (cutTo VG0213 (some [(0, .plain)]) s)) (kFin VG0213 0 (Tryd.f13).results.toList)) = f13_n10 F (fun w => Rf13_j3024 (ef13_j3024 w)) v := by
  intro t0; kernel_rfl
def f13_n1100 (F : Nat) (kf13_j4018 : (List (List Int)) × Int → Option (AV × List Blk)) (kf13_j8003 : Unit → Option (AV × List Blk)) : (List (List Int)) → Option (AV × List Blk) := fun t0 => (kf13_j4018 (t0, (0 : Int)))
theorem f13_n1100_eq (F : Nat) (Rf13_j4018 : St → Option (AV × List Blk)) (Rf13_j8003 : St → Option (AV × List Blk)) : ∀ v, aexec VG0213 (Af13 F) (sub (bodyOf Tryd.f13) [1, 1, 0, 0]) (ef13_j3024 v) (kSeq (fun s => Rf13_j4018 (cutTo VG0213 (some [(0, .plain), (3, .plain)]) s)) (kSeq (fun s => Rf13_j8003 (cutTo VG0213 (some []) s)) (kFin VG0213 0 (Tryd.f13).results.toList))) = f13_n1100 F (fun w => Rf13_j4018 (ef13_j4018 w)) (fun w => Rf13_j8003 (ef13_j8003 w)) v := by
  intro t0; kernel_rfl
def f13_n110100 (F : Nat) (kf13_l4016 : (List (List Int)) × Int → Option (AV × List Blk)) (kf13_j8003 : Unit → Option (AV × List Blk)) : (List (List Int)) × Int → Option (AV × List Blk) := fun (t0, t3) => (cond (decide (t3 < (↑t0.length : Int))) (cond ((decide (0 ≤ t3)) && (decide (t3 < (↑t0.length : Int)))) (cond (decide ((↑(t0.getD (Int.toNat t3) []).length : Int) > (400 : Int))) (some ((.bool false), [])) (kf13_l4016 (t0, (IntKind.i64.wrap (t3 + (1 : Int)))))) none) (kf13_j8003 ()))
theorem f13_n110100_eq (F : Nat) (Rf13_l4016 : St → Option (AV × List Blk)) (Rf13_j8003 : St → Option (AV × List Blk)) : ∀ v, aexec VG0213 (Af13 F) (sub (bodyOf Tryd.f13) [1, 1, 0, 1, 0, 0]) (ef13_l4016 v) (kSeq (fun s => Rf13_l4016 (cutTo VG0213 (some [(0, .plain), (3, .plain)]) s)) (kBlock 0 (kSeq (fun s => Rf13_j8003 (cutTo VG0213 (some []) s)) (kFin VG0213 0 (Tryd.f13).results.toList)))) = f13_n110100 F (fun w => Rf13_l4016 (ef13_l4016 w)) (fun w => Rf13_j8003 (ef13_j8003 w)) v := by
  rintro ⟨t0, t3⟩; kernel_rfl
def f13_n11010_i : (List (List Int)) × Int → (List (List Int)) × Int := fun (t0, t3) => (t0, t3)
def f13_n11010 (F : Nat) (kf13_j8003 : Unit → Option (AV × List Blk)) : (List (List Int)) × Int → Option (AV × List Blk) := fun v => loopN (fun k => f13_n110100 F k kf13_j8003) F (f13_n11010_i v)
theorem f13_n11010_eq (F : Nat) (Rf13_j8003 : St → Option (AV × List Blk)) : ∀ v, aexec VG0213 (Af13 F) (sub (bodyOf Tryd.f13) [1, 1, 0, 1, 0]) (ef13_j4018 v) (kBlock 0 (kSeq (fun s => Rf13_j8003 (cutTo VG0213 (some []) s)) (kFin VG0213 0 (Tryd.f13).results.toList))) = f13_n11010 F (fun w => Rf13_j8003 (ef13_j8003 w)) v :=
  loop_cut (c := (sub (bodyOf Tryd.f13) [1, 1, 0, 1, 0])) (d := (sub (bodyOf Tryd.f13) [1, 1, 0, 1, 0, 0])) (by kernel_rfl) (spec := [(0, .plain), (3, .plain)]) (by kernel_rfl) ef13_j4018 ef13_l4016 (kBlock 0 (kSeq (fun s => Rf13_j8003 (cutTo VG0213 (some []) s)) (kFin VG0213 0 (Tryd.f13).results.toList))) f13_n11010_i (fun k => f13_n110100 F k (fun w => Rf13_j8003 (ef13_j8003 w)))
    (by rintro ⟨t0, t3⟩; kernel_rfl) (fun Rf13_l4016 => f13_n110100_eq F Rf13_l4016 Rf13_j8003)
def f13_n1101 (F : Nat) (kf13_j8003 : Unit → Option (AV × List Blk)) : (List (List Int)) × Int → Option (AV × List Blk) := f13_n11010 F kf13_j8003
theorem f13_n1101_eq (F : Nat) (Rf13_j8003 : St → Option (AV × List Blk)) : ∀ v, aexec VG0213 (Af13 F) (sub (bodyOf Tryd.f13) [1, 1, 0, 1]) (ef13_j4018 v) (kSeq (fun s => Rf13_j8003 (cutTo VG0213 (some []) s)) (kFin VG0213 0 (Tryd.f13).results.toList)) = f13_n1101 F (fun w => Rf13_j8003 (ef13_j8003 w)) v := fun v =>
  (block_in (c := (sub (bodyOf Tryd.f13) [1, 1, 0, 1])) (d := (sub (bodyOf Tryd.f13) [1, 1, 0, 1, 0])) (id := 0) (by kernel_rfl) _ _).trans (f13_n11010_eq F Rf13_j8003 v)
def f13_n110 (F : Nat) (kf13_j8003 : Unit → Option (AV × List Blk)) : (List (List Int)) → Option (AV × List Blk) := fun v => f13_n1100 F (f13_n1101 F kf13_j8003) kf13_j8003 v
theorem f13_n110_eq (F : Nat) (Rf13_j8003 : St → Option (AV × List Blk)) : ∀ v, aexec VG0213 (Af13 F) (sub (bodyOf Tryd.f13) [1, 1, 0]) (ef13_j3024 v) (kSeq (fun s => Rf13_j8003 (cutTo VG0213 (some []) s)) (kFin VG0213 0 (Tryd.f13).results.toList)) = f13_n110 F (fun w => Rf13_j8003 (ef13_j8003 w)) v :=
  seq_cut (c := (sub (bodyOf Tryd.f13) [1, 1, 0])) (a := (sub (bodyOf Tryd.f13) [1, 1, 0, 0])) (b := (sub (bodyOf Tryd.f13) [1, 1, 0, 1])) (by kernel_rfl) (spec := [(0, .plain), (3, .plain)]) (by kernel_rfl) ef13_j3024 ef13_j4018 (kSeq (fun s => Rf13_j8003 (cutTo VG0213 (some []) s)) (kFin VG0213 0 (Tryd.f13).results.toList)) (fun k => f13_n1100 F k (fun w => Rf13_j8003 (ef13_j8003 w))) (f13_n1101 F (fun w => Rf13_j8003 (ef13_j8003 w)))
    (fun Rf13_j4018 => f13_n1100_eq F Rf13_j4018 Rf13_j8003) (f13_n1101_eq F Rf13_j8003)
def f13_n111 (F : Nat) : Unit → Option (AV × List Blk) := fun _ => (some ((.bool true), []))
theorem f13_n111_eq (F : Nat) : ∀ v, aexec VG0213 (Af13 F) (sub (bodyOf Tryd.f13) [1, 1, 1]) (ef13_j8003 v) (kFin VG0213 0 (Tryd.f13).results.toList) = f13_n111 F v := by
  intro _; kernel_rfl
def f13_n11 (F : Nat) : (List (List Int)) → Option (AV × List Blk) := fun v => f13_n110 F (f13_n111 F) v
theorem f13_n11_eq (F : Nat) : ∀ v, aexec VG0213 (Af13 F) (sub (bodyOf Tryd.f13) [1, 1]) (ef13_j3024 v) (kFin VG0213 0 (Tryd.f13).results.toList) = f13_n11 F v :=
  seq_cut (c := (sub (bodyOf Tryd.f13) [1, 1])) (a := (sub (bodyOf Tryd.f13) [1, 1, 0])) (b := (sub (bodyOf Tryd.f13) [1, 1, 1])) (by kernel_rfl) (spec := []) (by kernel_rfl) ef13_j3024 ef13_j8003 (kFin VG0213 0 (Tryd.f13).results.toList) (fun k => f13_n110 F k) (f13_n111 F)
    (fun Rf13_j8003 => f13_n110_eq F Rf13_j8003) (f13_n111_eq F)
def f13_n1 (F : Nat) : (List (List Int)) → Option (AV × List Blk) := fun v => f13_n10 F (f13_n11 F) v
theorem f13_n1_eq (F : Nat) : ∀ v, aexec VG0213 (Af13 F) (sub (bodyOf Tryd.f13) [1]) (ef13_j1032 v) (kFin VG0213 0 (Tryd.f13).results.toList) = f13_n1 F v :=
  seq_cut (c := (sub (bodyOf Tryd.f13) [1])) (a := (sub (bodyOf Tryd.f13) [1, 0])) (b := (sub (bodyOf Tryd.f13) [1, 1])) (by kernel_rfl) (spec := [(0, .plain)]) (by kernel_rfl) ef13_j1032 ef13_j3024 (kFin VG0213 0 (Tryd.f13).results.toList) (fun k => f13_n10 F k) (f13_n11 F)
    (fun Rf13_j3024 => f13_n10_eq F Rf13_j3024) (f13_n11_eq F)
def f13_nt (F : Nat) : (List (List Int)) → Option (AV × List Blk) := fun v => f13_n0 F (f13_n1 F) v
theorem f13_nt_eq (F : Nat) : ∀ v, aexec VG0213 (Af13 F) (sub (bodyOf Tryd.f13) []) (ef13_a v) (kFin VG0213 0 (Tryd.f13).results.toList) = f13_nt F v :=
  seq_cut (c := (sub (bodyOf Tryd.f13) [])) (a := (sub (bodyOf Tryd.f13) [0])) (b := (sub (bodyOf Tryd.f13) [1])) (by kernel_rfl) (spec := [(0, .plain)]) (by kernel_rfl) ef13_a ef13_j1032 (kFin VG0213 0 (Tryd.f13).results.toList) (fun k => f13_n0 F k) (f13_n1 F)
    (fun Rf13_j1032 => f13_n0_eq F Rf13_j1032) (f13_n1_eq F)
/-- gantry/gantryref02.Few -/
def f13 (F : Nat) : (List (List Int)) → Option (AV × List Blk) := f13_nt F
theorem f13_body (F : Nat) (a0 : List (List Int)) : abody VG0213 (Af13 F) Tryd.f13 [(.vs (.rS a0) 0 1)] [] = f13 F a0 :=
  (abody_in (c := (sub (bodyOf Tryd.f13) [])) (by kernel_rfl) (s := ef13_a a0) (by kernel_rfl)).trans (f13_nt_eq F a0)
def r13 : CRun := fun X H => match X, H with
  | [(.vs (.rS a0) 0 1)], [] => some (true, (.bool (Sha.few12 a0)), [])
  | _, _ => none
theorem s13 (a0 : List (List Int)) (h0 : okV (.vs (.rS a0) 0 1)) : ∃ F, f13 F a0 = some ((.bool (Sha.few12 a0)), []) := by
  refine ⟨a0.length + 1, ?_⟩
  simp only [f13, f13_nt, f13_n0, f13_n1, f13_n10]
  by_cases h12 : a0.length ≤ 12
  · rw [cond_neg (by omega)]
    simp only [f13_n11, f13_n110, f13_n111, f13_n1100, f13_n1101, f13_n11010, f13_n11010_i]
    refine loopN_ind (fun m s => s.1 = a0 ∧ s.2 = ((a0.length - m : Nat) : Int) ∧ m ≤ a0.length ∧ ∀ i, i < a0.length - m → (a0.getD i []).length ≤ 400) ?_ _ a0.length _ (by omega) ⟨rfl, by simp, Nat.le_refl _, fun i hi => by omega⟩
    rintro m ⟨t0, t3⟩ k ⟨e1, e2, hm, hi⟩ hk
    simp only at e1 e2 hi
    subst e1; subst e2
    simp only [f13_n110100, dec_and]
    cases m with
    | zero =>
      rw [cond_neg (by omega)]
      have : Sha.few12 t0 = true := by
        simp only [Sha.few12, Bool.and_eq_true, decide_eq_true_eq, List.all_eq_true]
        refine ⟨h12, fun s hs => ?_⟩
        obtain ⟨j, hj, rfl⟩ := List.mem_iff_getElem.mp hs
        have := hi j (by omega)
        rwa [List.getD_eq_getElem?_getD, List.getElem?_eq_getElem hj] at this
      rw [this]; rfl
    | succ m =>
      rw [cond_pos (by omega), cond_pos (by omega), i64w (by omega) (by omega), Int.toNat_natCast]
      by_cases h4 : (t0.getD (t0.length - (m + 1)) []).length ≤ 400
      · rw [cond_neg (by omega)]
        refine hk m _ (by omega) ⟨rfl, by simp only []; omega, by omega, fun i hi' => ?_⟩
        by_cases he : i < t0.length - (m + 1)
        · exact hi i he
        · rw [show i = t0.length - (m + 1) by omega]; exact h4
      · rw [cond_pos (by omega)]
        have : Sha.few12 t0 = false := by
          rw [Bool.eq_false_iff]
          intro h
          simp only [Sha.few12, Bool.and_eq_true, decide_eq_true_eq, List.all_eq_true] at h
          refine h4 ?_
          rw [List.getD_eq_getElem?_getD, List.getElem?_eq_getElem (show t0.length - (m + 1) < t0.length by omega)]
          exact h.2 _ (List.getElem_mem _)
        rw [this]
  · rw [cond_pos (by omega)]
    have : Sha.few12 a0 = false := by simp [Sha.few12, h12]
    rw [this]

theorem c13 : CallOk Tryd.prog G02 13 r13 := callOk_of (V := VG0213) mixed tys eVG0213 (f := 13) (fn := Tryd.f13) Tryd.func13 (by kernel_rfl) (c := sub (bodyOf Tryd.f13) []) (by kernel_rfl) (by
  intro X H r H' h hX hH
  unfold r13 at h; split at h <;> try contradiction
  simp only [Option.some.injEq, Prod.mk.injEq] at h
  obtain ⟨hp, rfl, rfl⟩ := h
  obtain ⟨F, hF⟩ := s13 _ (hX _ (.head _))
  exact ⟨Af13 F, (f13_body F _).trans hF⟩)
/-! gantry/gantryref02.Joined -/
def lVG0216 : List CEnt := []
def VG0216 : Env := mkEnv T02 G02 lVG0216
theorem eVG0216 : EOk Tryd.prog VG0216 := eok_mk (by exact trivial)
def Af16 (F : Nat) : Cuts := { F := F, at_ := fun n => match n with | 3010 => some [(0, .plain), (3, .plain), (4, .plain)] | _ => none, join := fun n => match n with | 1020 => some [(0, .plain)] | 2018 => some [(0, .plain), (3, .plain)] | 3012 => some [(0, .plain), (3, .plain), (4, .plain)] | 6003 => some [(3, .plain)] | _ => none }
def ef16_a : (List (List Int)) → St := fun a0 => { tmps := [(0, (.vs (.rS a0) 0 1))], heap := [], next := 0, nt := 18, m := 0 }
def ef16_j1020 : (List (List Int)) → St := fun t0 => { tmps := [(0, (.vs (.rS t0) 0 1))], heap := [], next := 0, nt := 18, m := 0 }
def ef16_j2018 : (List (List Int)) × (List Int) → St := fun (t0, t3) => { tmps := [(0, (.vs (.rS t0) 0 1)), (3, (.str t3))], heap := [], next := 0, nt := 18, m := 0 }
def ef16_j3012 : (List (List Int)) × (List Int) × Int → St := fun (t0, t3, t4) => { tmps := [(0, (.vs (.rS t0) 0 1)), (3, (.str t3)), (4, (.int .i64 t4))], heap := [], next := 0, nt := 18, m := 0 }
def ef16_l3010 : (List (List Int)) × (List Int) × Int → St := fun (t0, t3, t4) => { tmps := [(0, (.vs (.rS t0) 0 1)), (3, (.str t3)), (4, (.int .i64 t4))], heap := [], next := 0, nt := 18, m := 0 }
def ef16_j6003 : (List Int) → St := fun t3 => { tmps := [(3, (.str t3))], heap := [], next := 0, nt := 18, m := 0 }
def f16_n0 (F : Nat) (kf16_j1020 : (List (List Int)) → Option (AV × List Blk)) : (List (List Int)) → Option (AV × List Blk) := fun a0 => (kf16_j1020 a0)
theorem f16_n0_eq (F : Nat) (Rf16_j1020 : St → Option (AV × List Blk)) : ∀ v, aexec VG0216 (Af16 F) (sub (bodyOf Tryd.f16) [0]) (ef16_a v) (kSeq (fun s => Rf16_j1020 (cutTo VG0216 (some [(0, .plain)]) s)) (kFin VG0216 0 (Tryd.f16).results.toList)) = f16_n0 F (fun w => Rf16_j1020 (ef16_j1020 w)) v := by
  intro a0; kernel_rfl
def f16_n10 (F : Nat) (kf16_j2018 : (List (List Int)) × (List Int) → Option (AV × List Blk)) : (List (List Int)) → Option (AV × List Blk) := fun t0 => (kf16_j2018 (t0, []))
theorem f16_n10_eq (F : Nat) (Rf16_j2018 : St → Option (AV × List Blk)) : ∀ v, aexec VG0216 (Af16 F) (sub (bodyOf Tryd.f16) [1, 0]) (ef16_j1020 v) (kSeq (fun s => Rf16_j2018 (cutTo VG0216 (some [(0, .plain), (3, .plain)]) s)) (kFin VG0216 0 (Tryd.f16).results.toList)) = f16_n10 F (fun w => Rf16_j2018 (ef16_j2018 w)) v := by
  intro t0; kernel_rfl
def f16_n1100 (F : Nat) (kf16_j3012 : (List (List Int)) × (List Int) × Int → Option (AV × List Blk)) (kf16_j6003 : (List Int) → Option (AV × List Blk)) : (List (List Int)) × (List Int) → Option (AV × List Blk) := fun (t0, t3) => (kf16_j3012 (t0, t3, (0 : Int)))
theorem f16_n1100_eq (F : Nat) (Rf16_j3012 : St → Option (AV × List Blk)) (Rf16_j6003 : St → Option (AV × List Blk)) : ∀ v, aexec VG0216 (Af16 F) (sub (bodyOf Tryd.f16) [1, 1, 0, 0]) (ef16_j2018 v) (kSeq (fun s => Rf16_j3012 (cutTo VG0216 (some [(0, .plain), (3, .plain), (4, .plain)]) s)) (kSeq (fun s => Rf16_j6003 (cutTo VG0216 (some [(3, .plain)]) s)) (kFin VG0216 0 (Tryd.f16).results.toList))) = f16_n1100 F (fun w => Rf16_j3012 (ef16_j3012 w)) (fun w => Rf16_j6003 (ef16_j6003 w)) v := by
  rintro ⟨t0, t3⟩; kernel_rfl
def f16_n110100 (F : Nat) (kf16_l3010 : (List (List Int)) × (List Int) × Int → Option (AV × List Blk)) (kf16_j6003 : (List Int) → Option (AV × List Blk)) : (List (List Int)) × (List Int) × Int → Option (AV × List Blk) := fun (t0, t3, t4) => (cond (decide (t4 < (↑t0.length : Int))) (cond ((decide (0 ≤ t4)) && (decide (t4 < (↑t0.length : Int)))) (cond (decide ((t3.length + (t0.getD (Int.toNat t4) []).length) < 4611686018427387904)) (kf16_l3010 (t0, (t3 ++ (t0.getD (Int.toNat t4) [])), (IntKind.i64.wrap (t4 + (1 : Int))))) none) none) (kf16_j6003 t3))
theorem f16_n110100_eq (F : Nat) (Rf16_l3010 : St → Option (AV × List Blk)) (Rf16_j6003 : St → Option (AV × List Blk)) : ∀ v, aexec VG0216 (Af16 F) (sub (bodyOf Tryd.f16) [1, 1, 0, 1, 0, 0]) (ef16_l3010 v) (kSeq (fun s => Rf16_l3010 (cutTo VG0216 (some [(0, .plain), (3, .plain), (4, .plain)]) s)) (kBlock 0 (kSeq (fun s => Rf16_j6003 (cutTo VG0216 (some [(3, .plain)]) s)) (kFin VG0216 0 (Tryd.f16).results.toList)))) = f16_n110100 F (fun w => Rf16_l3010 (ef16_l3010 w)) (fun w => Rf16_j6003 (ef16_j6003 w)) v := by
  rintro ⟨t0, t3, t4⟩; kernel_rfl
def f16_n11010_i : (List (List Int)) × (List Int) × Int → (List (List Int)) × (List Int) × Int := fun (t0, t3, t4) => (t0, t3, t4)
def f16_n11010 (F : Nat) (kf16_j6003 : (List Int) → Option (AV × List Blk)) : (List (List Int)) × (List Int) × Int → Option (AV × List Blk) := fun v => loopN (fun k => f16_n110100 F k kf16_j6003) F (f16_n11010_i v)
theorem f16_n11010_eq (F : Nat) (Rf16_j6003 : St → Option (AV × List Blk)) : ∀ v, aexec VG0216 (Af16 F) (sub (bodyOf Tryd.f16) [1, 1, 0, 1, 0]) (ef16_j3012 v) (kBlock 0 (kSeq (fun s => Rf16_j6003 (cutTo VG0216 (some [(3, .plain)]) s)) (kFin VG0216 0 (Tryd.f16).results.toList))) = f16_n11010 F (fun w => Rf16_j6003 (ef16_j6003 w)) v :=
  loop_cut (c := (sub (bodyOf Tryd.f16) [1, 1, 0, 1, 0])) (d := (sub (bodyOf Tryd.f16) [1, 1, 0, 1, 0, 0])) (by kernel_rfl) (spec := [(0, .plain), (3, .plain), (4, .plain)]) (by kernel_rfl) ef16_j3012 ef16_l3010 (kBlock 0 (kSeq (fun s => Rf16_j6003 (cutTo VG0216 (some [(3, .plain)]) s)) (kFin VG0216 0 (Tryd.f16).results.toList))) f16_n11010_i (fun k => f16_n110100 F k (fun w => Rf16_j6003 (ef16_j6003 w)))
    (by rintro ⟨t0, t3, t4⟩; kernel_rfl) (fun Rf16_l3010 => f16_n110100_eq F Rf16_l3010 Rf16_j6003)
def f16_n1101 (F : Nat) (kf16_j6003 : (List Int) → Option (AV × List Blk)) : (List (List Int)) × (List Int) × Int → Option (AV × List Blk) := f16_n11010 F kf16_j6003
theorem f16_n1101_eq (F : Nat) (Rf16_j6003 : St → Option (AV × List Blk)) : ∀ v, aexec VG0216 (Af16 F) (sub (bodyOf Tryd.f16) [1, 1, 0, 1]) (ef16_j3012 v) (kSeq (fun s => Rf16_j6003 (cutTo VG0216 (some [(3, .plain)]) s)) (kFin VG0216 0 (Tryd.f16).results.toList)) = f16_n1101 F (fun w => Rf16_j6003 (ef16_j6003 w)) v := fun v =>
  (block_in (c := (sub (bodyOf Tryd.f16) [1, 1, 0, 1])) (d := (sub (bodyOf Tryd.f16) [1, 1, 0, 1, 0])) (id := 0) (by kernel_rfl) _ _).trans (f16_n11010_eq F Rf16_j6003 v)
def f16_n110 (F : Nat) (kf16_j6003 : (List Int) → Option (AV × List Blk)) : (List (List Int)) × (List Int) → Option (AV × List Blk) := fun v => f16_n1100 F (f16_n1101 F kf16_j6003) kf16_j6003 v
theorem f16_n110_eq (F : Nat) (Rf16_j6003 : St → Option (AV × List Blk)) : ∀ v, aexec VG0216 (Af16 F) (sub (bodyOf Tryd.f16) [1, 1, 0]) (ef16_j2018 v) (kSeq (fun s => Rf16_j6003 (cutTo VG0216 (some [(3, .plain)]) s)) (kFin VG0216 0 (Tryd.f16).results.toList)) = f16_n110 F (fun w => Rf16_j6003 (ef16_j6003 w)) v :=
  seq_cut (c := (sub (bodyOf Tryd.f16) [1, 1, 0])) (a := (sub (bodyOf Tryd.f16) [1, 1, 0, 0])) (b := (sub (bodyOf Tryd.f16) [1, 1, 0, 1])) (by kernel_rfl) (spec := [(0, .plain), (3, .plain), (4, .plain)]) (by kernel_rfl) ef16_j2018 ef16_j3012 (kSeq (fun s => Rf16_j6003 (cutTo VG0216 (some [(3, .plain)]) s)) (kFin VG0216 0 (Tryd.f16).results.toList)) (fun k => f16_n1100 F k (fun w => Rf16_j6003 (ef16_j6003 w))) (f16_n1101 F (fun w => Rf16_j6003 (ef16_j6003 w)))
    (fun Rf16_j3012 => f16_n1100_eq F Rf16_j3012 Rf16_j6003) (f16_n1101_eq F Rf16_j6003)
def f16_n111 (F : Nat) : (List Int) → Option (AV × List Blk) := fun t3 => (some ((.str t3), []))
theorem f16_n111_eq (F : Nat) : ∀ v, aexec VG0216 (Af16 F) (sub (bodyOf Tryd.f16) [1, 1, 1]) (ef16_j6003 v) (kFin VG0216 0 (Tryd.f16).results.toList) = f16_n111 F v := by
  intro t3; kernel_rfl
def f16_n11 (F : Nat) : (List (List Int)) × (List Int) → Option (AV × List Blk) := fun v => f16_n110 F (f16_n111 F) v
theorem f16_n11_eq (F : Nat) : ∀ v, aexec VG0216 (Af16 F) (sub (bodyOf Tryd.f16) [1, 1]) (ef16_j2018 v) (kFin VG0216 0 (Tryd.f16).results.toList) = f16_n11 F v :=
  seq_cut (c := (sub (bodyOf Tryd.f16) [1, 1])) (a := (sub (bodyOf Tryd.f16) [1, 1, 0])) (b := (sub (bodyOf Tryd.f16) [1, 1, 1])) (by kernel_rfl) (spec := [(3, .plain)]) (by kernel_rfl) ef16_j2018 ef16_j6003 (kFin VG0216 0 (Tryd.f16).results.toList) (fun k => f16_n110 F k) (f16_n111 F)
    (fun Rf16_j6003 => f16_n110_eq F Rf16_j6003) (f16_n111_eq F)
def f16_n1 (F : Nat) : (List (List Int)) → Option (AV × List Blk) := fun v => f16_n10 F (f16_n11 F) v
theorem f16_n1_eq (F : Nat) : ∀ v, aexec VG0216 (Af16 F) (sub (bodyOf Tryd.f16) [1]) (ef16_j1020 v) (kFin VG0216 0 (Tryd.f16).results.toList) = f16_n1 F v :=
  seq_cut (c := (sub (bodyOf Tryd.f16) [1])) (a := (sub (bodyOf Tryd.f16) [1, 0])) (b := (sub (bodyOf Tryd.f16) [1, 1])) (by kernel_rfl) (spec := [(0, .plain), (3, .plain)]) (by kernel_rfl) ef16_j1020 ef16_j2018 (kFin VG0216 0 (Tryd.f16).results.toList) (fun k => f16_n10 F k) (f16_n11 F)
    (fun Rf16_j2018 => f16_n10_eq F Rf16_j2018) (f16_n11_eq F)
def f16_nt (F : Nat) : (List (List Int)) → Option (AV × List Blk) := fun v => f16_n0 F (f16_n1 F) v
theorem f16_nt_eq (F : Nat) : ∀ v, aexec VG0216 (Af16 F) (sub (bodyOf Tryd.f16) []) (ef16_a v) (kFin VG0216 0 (Tryd.f16).results.toList) = f16_nt F v :=
  seq_cut (c := (sub (bodyOf Tryd.f16) [])) (a := (sub (bodyOf Tryd.f16) [0])) (b := (sub (bodyOf Tryd.f16) [1])) (by kernel_rfl) (spec := [(0, .plain)]) (by kernel_rfl) ef16_a ef16_j1020 (kFin VG0216 0 (Tryd.f16).results.toList) (fun k => f16_n0 F k) (f16_n1 F)
    (fun Rf16_j1020 => f16_n0_eq F Rf16_j1020) (f16_n1_eq F)
/-- gantry/gantryref02.Joined -/
def f16 (F : Nat) : (List (List Int)) → Option (AV × List Blk) := f16_nt F
theorem f16_body (F : Nat) (a0 : List (List Int)) : abody VG0216 (Af16 F) Tryd.f16 [(.vs (.rS a0) 0 1)] [] = f16 F a0 :=
  (abody_in (c := (sub (bodyOf Tryd.f16) [])) (by kernel_rfl) (s := ef16_a a0) (by kernel_rfl)).trans (f16_nt_eq F a0)
def r16 : CRun := fun X H => match X, H with
  | [(.vs (.rS a0) 0 1)], [] => some ((decide (a0.flatten.length < 4611686018427387904)), (.str (a0.flatten)), [])
  | _, _ => none
theorem flatten_take (l : List (List Int)) (i : Nat) (h : i < l.length) : (l.take (i + 1)).flatten = (l.take i).flatten ++ l.getD i [] := by
  rw [List.take_add_one, List.getElem?_eq_getElem h, List.getD_eq_getElem?_getD, List.getElem?_eq_getElem h, List.flatten_append]
  simp only [Option.toList_some, List.flatten_cons, List.flatten_nil, List.append_nil, Option.getD_some]
theorem flatten_le (l : List (List Int)) (i : Nat) : (l.take i).flatten.length ≤ l.flatten.length := by
  have : l.flatten = (l.take i).flatten ++ (l.drop i).flatten := by rw [← List.flatten_append, List.take_append_drop]
  rw [this, List.length_append]; omega
theorem s16 (a0 : List (List Int)) (hp : ((decide (a0.flatten.length < 4611686018427387904))) = true) (h0 : okV (.vs (.rS a0) 0 1)) : ∃ F, f16 F a0 = some ((.str (a0.flatten)), []) := by
  have hf : a0.flatten.length < 4611686018427387904 := of_decide_eq_true hp
  have hl := h0.2
  refine ⟨a0.length + 1, ?_⟩
  simp only [f16, f16_nt, f16_n0, f16_n1, f16_n10, f16_n11, f16_n110, f16_n1100, f16_n1101, f16_n11010, f16_n11010_i]
  refine loopN_from (fun i => (a0, (a0.take i).flatten, (i : Int))) a0.length (by rfl) (fun i hi k => ?_) (fun k => ?_) _ (by omega)
  · have h1 := flatten_take a0 i hi
    have h2 := flatten_le a0 (i + 1)
    rw [h1, List.length_append] at h2
    simp only [f16_n110100, dec_and]
    rw [Int.toNat_natCast, cond_pos (by omega), cond_pos (by omega), cond_pos (by omega), i64w (x := (i : Int) + 1) (by omega) (by omega), ← h1]
    rfl
  · simp only [f16_n110100]
    rw [cond_neg (by omega), List.take_length]
    rfl

theorem c16 : CallOk Tryd.prog G02 16 r16 := callOk_of (V := VG0216) mixed tys eVG0216 (f := 16) (fn := Tryd.f16) Tryd.func16 (by kernel_rfl) (c := sub (bodyOf Tryd.f16) []) (by kernel_rfl) (by
  intro X H r H' h hX hH
  unfold r16 at h; split at h <;> try contradiction
  simp only [Option.some.injEq, Prod.mk.injEq] at h
  obtain ⟨hp, rfl, rfl⟩ := h
  obtain ⟨F, hF⟩ := s16 _ hp (hX _ (.head _))
  exact ⟨Af16 F, (f16_body F _).trans hF⟩)
/-! gantry/gantryref01.Int -/
def lVG0239 : List CEnt := []
def VG0239 : Env := mkEnv T02 G02 lVG0239
theorem eVG0239 : EOk Tryd.prog VG0239 := eok_mk (by exact trivial)
def Af39 (F : Nat) : Cuts := { F := F, at_ := fun n => match n with | 5010 => some [(0, .plain), (3, .plain), (4, .own 5)] | 14018 => some [(0, .plain), (4, .plain), (6, .plain), (7, .plain)] | _ => none, join := fun n => match n with | 1059 => some [(0, .plain)] | 2057 => some [(0, .plain), (3, .plain)] | 4051 => some [(0, .plain), (3, .plain)] | 5049 => some [(0, .plain), (3, .plain), (4, .plain)] | 8036 => some [(0, .plain), (4, .plain)] | 9034 => some [(0, .plain), (4, .plain), (5, .plain)] | 10032 => some [(0, .plain), (4, .plain), (5, .plain), (6, .plain)] | 13026 => some [(0, .plain), (4, .plain), (5, .plain), (6, .plain)] | 14020 => some [(0, .plain), (4, .plain), (6, .plain), (7, .plain)] | 20003 => some [(6, .plain)] | _ => none }
def ef39_a : Int → St := fun a0 => { tmps := [(0, (.int .i64 a0))], heap := [], next := 0, nt := 59, m := 0 }
def ef39_j1059 : Int → St := fun t0 => { tmps := [(0, (.int .i64 t0))], heap := [], next := 0, nt := 59, m := 0 }
def ef39_j2057 : Int × Int → St := fun (t0, t3) => { tmps := [(0, (.int .i64 t0)), (3, (.int .i64 t3))], heap := [], next := 0, nt := 59, m := 0 }
def ef39_j4051 : Int × Int → St := fun (t0, t3) => { tmps := [(0, (.int .i64 t0)), (3, (.int .i64 t3))], heap := [], next := 0, nt := 59, m := 0 }
def ef39_j5049 : Int × Int → St := fun (t0, t3) => { tmps := [(0, (.int .i64 t0)), (3, (.int .i64 t3)), (4, .ns)], heap := [], next := 0, nt := 59, m := 0 }
def ef39_l5010 : Int × Int × (List Int) → St := fun (t0, t3, x3) => { tmps := [(0, (.int .i64 t0)), (3, (.int .i64 t3)), (4, (.own 0 0 1))], heap := [(0, (.cells x3.length (.rI .u8 x3) true))], next := 1, nt := 59, m := 0 }
def ef39_j8036 : Int × (List Int) → St := fun (t0, x2) => { tmps := [(0, (.int .i64 t0)), (4, (.own 0 0 1))], heap := [(0, (.cells x2.length (.rI .u8 x2) true))], next := 1, nt := 59, m := 0 }
def ef39_j9034 : Int × Int × (List Int) → St := fun (t0, t5, x3) => { tmps := [(0, (.int .i64 t0)), (4, (.own 0 0 1)), (5, (.int .i64 t5))], heap := [(0, (.cells x3.length (.rI .u8 x3) true))], next := 1, nt := 59, m := 0 }
def ef39_j10032 : Int × Int × (List Int) → St := fun (t0, t5, x3) => { tmps := [(0, (.int .i64 t0)), (4, (.own 0 0 1)), (5, (.int .i64 t5)), (6, .ns)], heap := [(0, (.cells x3.length (.rI .u8 x3) true))], next := 1, nt := 59, m := 0 }
def ef39_j13026 : Int × Int × (List Int) × (List Int) → St := fun (t0, t5, x3, x4) => { tmps := [(0, (.int .i64 t0)), (4, (.own 0 0 1)), (5, (.int .i64 t5)), (6, (.own 1 0 1))], heap := [(0, (.cells x3.length (.rI .u8 x3) true)), (1, (.cells x4.length (.rI .u8 x4) true))], next := 2, nt := 59, m := 0 }
def ef39_j14020 : Int × Int × (List Int) × (List Int) → St := fun (t0, t7, x3, x4) => { tmps := [(0, (.int .i64 t0)), (4, (.own 0 0 1)), (6, (.own 1 0 1)), (7, (.int .i64 t7))], heap := [(0, (.cells x3.length (.rI .u8 x3) true)), (1, (.cells x4.length (.rI .u8 x4) true))], next := 2, nt := 59, m := 0 }
def ef39_l14018 : Int × Int × (List Int) × (List Int) → St := fun (t0, t7, x3, x4) => { tmps := [(0, (.int .i64 t0)), (4, (.own 0 0 1)), (6, (.own 1 0 1)), (7, (.int .i64 t7))], heap := [(0, (.cells x3.length (.rI .u8 x3) true)), (1, (.cells x4.length (.rI .u8 x4) true))], next := 2, nt := 59, m := 0 }
def ef39_j20003 : (List Int) → St := fun x1 => { tmps := [(6, (.own 0 0 1))], heap := [(0, (.cells x1.length (.rI .u8 x1) true))], next := 1, nt := 59, m := 0 }
def f39_n0 (F : Nat) (kf39_j1059 : Int → Option (AV × List Blk)) : Int → Option (AV × List Blk) := fun a0 => (kf39_j1059 a0)
theorem f39_n0_eq (F : Nat) (Rf39_j1059 : St → Option (AV × List Blk)) : ∀ v, aexec VG0239 (Af39 F) (sub (bodyOf Tryd.f39) [0]) (ef39_a v) (kSeq (fun s => Rf39_j1059 (cutTo VG0239 (some [(0, .plain)]) s)) (kFin VG0239 0 (Tryd.f39).results.toList)) = f39_n0 F (fun w => Rf39_j1059 (ef39_j1059 w)) v := by
  intro a0; kernel_rfl
def f39_n10 (F : Nat) (kf39_j2057 : Int × Int → Option (AV × List Blk)) : Int → Option (AV × List Blk) := fun t0 => (kf39_j2057 (t0, t0))
theorem f39_n10_eq (F : Nat) (Rf39_j2057 : St → Option (AV × List Blk)) : ∀ v, aexec VG0239 (Af39 F) (sub (bodyOf Tryd.f39) [1, 0]) (ef39_j1059 v) (kSeq (fun s => Rf39_j2057 (cutTo VG0239 (some [(0, .plain), (3, .plain)]) s)) (kFin VG0239 0 (Tryd.f39).results.toList)) = f39_n10 F (fun w => Rf39_j2057 (ef39_j2057 w)) v := by
  intro t0; kernel_rfl
def f39_n110 (F : Nat) (kf39_j4051 : Int × Int → Option (AV × List Blk)) : Int × Int → Option (AV × List Blk) := fun (t0, t3) => (cond (decide (t0 < (0 : Int))) (kf39_j4051 (t0, (IntKind.i64.wrap ((-1 : Int) - t0)))) (kf39_j4051 (t0, t3)))
theorem f39_n110_eq (F : Nat) (Rf39_j4051 : St → Option (AV × List Blk)) : ∀ v, aexec VG0239 (Af39 F) (sub (bodyOf Tryd.f39) [1, 1, 0]) (ef39_j2057 v) (kSeq (fun s => Rf39_j4051 (cutTo VG0239 (some [(0, .plain), (3, .plain)]) s)) (kFin VG0239 0 (Tryd.f39).results.toList)) = f39_n110 F (fun w => Rf39_j4051 (ef39_j4051 w)) v := by
  rintro ⟨t0, t3⟩; kernel_rfl
def f39_n1110 (F : Nat) (kf39_j5049 : Int × Int → Option (AV × List Blk)) : Int × Int → Option (AV × List Blk) := fun (t0, t3) => (kf39_j5049 (t0, t3))
theorem f39_n1110_eq (F : Nat) (Rf39_j5049 : St → Option (AV × List Blk)) : ∀ v, aexec VG0239 (Af39 F) (sub (bodyOf Tryd.f39) [1, 1, 1, 0]) (ef39_j4051 v) (kSeq (fun s => Rf39_j5049 (cutTo VG0239 (some [(0, .plain), (3, .plain), (4, .plain)]) s)) (kFin VG0239 0 (Tryd.f39).results.toList)) = f39_n1110 F (fun w => Rf39_j5049 (ef39_j5049 w)) v := by
  rintro ⟨t0, t3⟩; kernel_rfl
def f39_n1111000 (F : Nat) (kf39_l5010 : Int × Int × (List Int) → Option (AV × List Blk)) (kf39_j8036 : Int × (List Int) → Option (AV × List Blk)) : Int × Int × (List Int) → Option (AV × List Blk) := fun (t0, t3, x3) => (cond (decide (t3 > (0 : Int))) (cond (decide ((x3.length + 1) < 1073741824)) (kf39_l5010 (t0, (IntKind.i64.wrap (Int.tdiv t3 (256 : Int))), (x3 ++ [(IntKind.u8.wrap (Int.tmod t3 (256 : Int)))]))) none) (kf39_j8036 (t0, x3)))
theorem f39_n1111000_eq (F : Nat) (Rf39_l5010 : St → Option (AV × List Blk)) (Rf39_j8036 : St → Option (AV × List Blk)) : ∀ v, aexec VG0239 (Af39 F) (sub (bodyOf Tryd.f39) [1, 1, 1, 1, 0, 0, 0]) (ef39_l5010 v) (kSeq (fun s => Rf39_l5010 (cutTo VG0239 (some [(0, .plain), (3, .plain), (4, .own 5)]) s)) (kBlock 0 (kSeq (fun s => Rf39_j8036 (cutTo VG0239 (some [(0, .plain), (4, .plain)]) s)) (kFin VG0239 0 (Tryd.f39).results.toList)))) = f39_n1111000 F (fun w => Rf39_l5010 (ef39_l5010 w)) (fun w => Rf39_j8036 (ef39_j8036 w)) v := by
  rintro ⟨t0, t3, x3⟩; kernel_rfl
def f39_n111100_i : Int × Int → Int × Int × (List Int) := fun (t0, t3) => (t0, t3, [])
def f39_n111100 (F : Nat) (kf39_j8036 : Int × (List Int) → Option (AV × List Blk)) : Int × Int → Option (AV × List Blk) := fun v => loopN (fun k => f39_n1111000 F k kf39_j8036) F (f39_n111100_i v)
theorem f39_n111100_eq (F : Nat) (Rf39_j8036 : St → Option (AV × List Blk)) : ∀ v, aexec VG0239 (Af39 F) (sub (bodyOf Tryd.f39) [1, 1, 1, 1, 0, 0]) (ef39_j5049 v) (kBlock 0 (kSeq (fun s => Rf39_j8036 (cutTo VG0239 (some [(0, .plain), (4, .plain)]) s)) (kFin VG0239 0 (Tryd.f39).results.toList))) = f39_n111100 F (fun w => Rf39_j8036 (ef39_j8036 w)) v :=
  loop_cut (c := (sub (bodyOf Tryd.f39) [1, 1, 1, 1, 0, 0])) (d := (sub (bodyOf Tryd.f39) [1, 1, 1, 1, 0, 0, 0])) (by kernel_rfl) (spec := [(0, .plain), (3, .plain), (4, .own 5)]) (by kernel_rfl) ef39_j5049 ef39_l5010 (kBlock 0 (kSeq (fun s => Rf39_j8036 (cutTo VG0239 (some [(0, .plain), (4, .plain)]) s)) (kFin VG0239 0 (Tryd.f39).results.toList))) f39_n111100_i (fun k => f39_n1111000 F k (fun w => Rf39_j8036 (ef39_j8036 w)))
    (by rintro ⟨t0, t3⟩; kernel_rfl) (fun Rf39_l5010 => f39_n1111000_eq F Rf39_l5010 Rf39_j8036)
def f39_n11110 (F : Nat) (kf39_j8036 : Int × (List Int) → Option (AV × List Blk)) : Int × Int → Option (AV × List Blk) := f39_n111100 F kf39_j8036
theorem f39_n11110_eq (F : Nat) (Rf39_j8036 : St → Option (AV × List Blk)) : ∀ v, aexec VG0239 (Af39 F) (sub (bodyOf Tryd.f39) [1, 1, 1, 1, 0]) (ef39_j5049 v) (kSeq (fun s => Rf39_j8036 (cutTo VG0239 (some [(0, .plain), (4, .plain)]) s)) (kFin VG0239 0 (Tryd.f39).results.toList)) = f39_n11110 F (fun w => Rf39_j8036 (ef39_j8036 w)) v := fun v =>
  (block_in (c := (sub (bodyOf Tryd.f39) [1, 1, 1, 1, 0])) (d := (sub (bodyOf Tryd.f39) [1, 1, 1, 1, 0, 0])) (id := 0) (by kernel_rfl) _ _).trans (f39_n111100_eq F Rf39_j8036 v)
def f39_n111110 (F : Nat) (kf39_j9034 : Int × Int × (List Int) → Option (AV × List Blk)) : Int × (List Int) → Option (AV × List Blk) := fun (t0, x2) => (kf39_j9034 (t0, (↑x2.length : Int), x2))
theorem f39_n111110_eq (F : Nat) (Rf39_j9034 : St → Option (AV × List Blk)) : ∀ v, aexec VG0239 (Af39 F) (sub (bodyOf Tryd.f39) [1, 1, 1, 1, 1, 0]) (ef39_j8036 v) (kSeq (fun s => Rf39_j9034 (cutTo VG0239 (some [(0, .plain), (4, .plain), (5, .plain)]) s)) (kFin VG0239 0 (Tryd.f39).results.toList)) = f39_n111110 F (fun w => Rf39_j9034 (ef39_j9034 w)) v := by
  rintro ⟨t0, x2⟩; kernel_rfl
def f39_n1111110 (F : Nat) (kf39_j10032 : Int × Int × (List Int) → Option (AV × List Blk)) : Int × Int × (List Int) → Option (AV × List Blk) := fun (t0, t5, x3) => (kf39_j10032 (t0, t5, x3))
theorem f39_n1111110_eq (F : Nat) (Rf39_j10032 : St → Option (AV × List Blk)) : ∀ v, aexec VG0239 (Af39 F) (sub (bodyOf Tryd.f39) [1, 1, 1, 1, 1, 1, 0]) (ef39_j9034 v) (kSeq (fun s => Rf39_j10032 (cutTo VG0239 (some [(0, .plain), (4, .plain), (5, .plain), (6, .plain)]) s)) (kFin VG0239 0 (Tryd.f39).results.toList)) = f39_n1111110 F (fun w => Rf39_j10032 (ef39_j10032 w)) v := by
  rintro ⟨t0, t5, x3⟩; kernel_rfl
def f39_n11111110 (F : Nat) (kf39_j13026 : Int × Int × (List Int) × (List Int) → Option (AV × List Blk)) : Int × Int × (List Int) → Option (AV × List Blk) := fun (t0, t5, x3) => (cond (decide (t0 ≥ (0 : Int))) (kf39_j13026 (t0, t5, x3, [(IntKind.u8.wrap (IntKind.i64.wrap ((128 : Int) + t5)))])) (kf39_j13026 (t0, t5, x3, [(IntKind.u8.wrap (IntKind.i64.wrap ((127 : Int) - t5)))])))
theorem f39_n11111110_eq (F : Nat) (Rf39_j13026 : St → Option (AV × List Blk)) : ∀ v, aexec VG0239 (Af39 F) (sub (bodyOf Tryd.f39) [1, 1, 1, 1, 1, 1, 1, 0]) (ef39_j10032 v) (kSeq (fun s => Rf39_j13026 (cutTo VG0239 (some [(0, .plain), (4, .plain), (5, .plain), (6, .plain)]) s)) (kFin VG0239 0 (Tryd.f39).results.toList)) = f39_n11111110 F (fun w => Rf39_j13026 (ef39_j13026 w)) v := by
  rintro ⟨t0, t5, x3⟩; kernel_rfl
def f39_n1111111100 (F : Nat) (kf39_j14020 : Int × Int × (List Int) × (List Int) → Option (AV × List Blk)) (kf39_j20003 : (List Int) → Option (AV × List Blk)) : Int × Int × (List Int) × (List Int) → Option (AV × List Blk) := fun (t0, t5, x3, x4) => (kf39_j14020 (t0, (IntKind.i64.wrap (t5 - (1 : Int))), x3, x4))
theorem f39_n1111111100_eq (F : Nat) (Rf39_j14020 : St → Option (AV × List Blk)) (Rf39_j20003 : St → Option (AV × List Blk)) : ∀ v, aexec VG0239 (Af39 F) (sub (bodyOf Tryd.f39) [1, 1, 1, 1, 1, 1, 1, 1, 0, 0]) (ef39_j13026 v) (kSeq (fun s => Rf39_j14020 (cutTo VG0239 (some [(0, .plain), (4, .plain), (6, .plain), (7, .plain)]) s)) (kSeq (fun s => Rf39_j20003 (cutTo VG0239 (some [(6, .plain)]) s)) (kFin VG0239 0 (Tryd.f39).results.toList))) = f39_n1111111100 F (fun w => Rf39_j14020 (ef39_j14020 w)) (fun w => Rf39_j20003 (ef39_j20003 w)) v := by
  rintro ⟨t0, t5, x3, x4⟩; kernel_rfl
def f39_n111111110100 (F : Nat) (kf39_l14018 : Int × Int × (List Int) × (List Int) → Option (AV × List Blk)) (kf39_j20003 : (List Int) → Option (AV × List Blk)) : Int × Int × (List Int) × (List Int) → Option (AV × List Blk) := fun (t0, t7, x3, x4) => (cond (decide (t7 ≥ (0 : Int))) (cond ((decide (0 ≤ t7)) && (decide (t7 < (↑x3.length : Int)))) (cond (decide (t0 < (0 : Int))) (cond (decide ((x4.length + 1) < 1073741824)) (kf39_l14018 (t0, (IntKind.i64.wrap (t7 - (1 : Int))), x3, (x4 ++ [(IntKind.u8.wrap ((255 : Int) - (x3.getD (Int.toNat t7) 0)))]))) none) (cond (decide ((x4.length + 1) < 1073741824)) (kf39_l14018 (t0, (IntKind.i64.wrap (t7 - (1 : Int))), x3, (x4 ++ [(x3.getD (Int.toNat t7) 0)]))) none)) none) (kf39_j20003 x4))
theorem f39_n111111110100_eq (F : Nat) (Rf39_l14018 : St → Option (AV × List Blk)) (Rf39_j20003 : St → Option (AV × List Blk)) : ∀ v, aexec VG0239 (Af39 F) (sub (bodyOf Tryd.f39) [1, 1, 1, 1, 1, 1, 1, 1, 0, 1, 0, 0]) (ef39_l14018 v) (kSeq (fun s => Rf39_l14018 (cutTo VG0239 (some [(0, .plain), (4, .plain), (6, .plain), (7, .plain)]) s)) (kBlock 2 (kSeq (fun s => Rf39_j20003 (cutTo VG0239 (some [(6, .plain)]) s)) (kFin VG0239 0 (Tryd.f39).results.toList)))) = f39_n111111110100 F (fun w => Rf39_l14018 (ef39_l14018 w)) (fun w => Rf39_j20003 (ef39_j20003 w)) v := by
  rintro ⟨t0, t7, x3, x4⟩; kernel_rfl
def f39_n11111111010_i : Int × Int × (List Int) × (List Int) → Int × Int × (List Int) × (List Int) := fun (t0, t7, x3, x4) => (t0, t7, x3, x4)
def f39_n11111111010 (F : Nat) (kf39_j20003 : (List Int) → Option (AV × List Blk)) : Int × Int × (List Int) × (List Int) → Option (AV × List Blk) := fun v => loopN (fun k => f39_n111111110100 F k kf39_j20003) F (f39_n11111111010_i v)
theorem f39_n11111111010_eq (F : Nat) (Rf39_j20003 : St → Option (AV × List Blk)) : ∀ v, aexec VG0239 (Af39 F) (sub (bodyOf Tryd.f39) [1, 1, 1, 1, 1, 1, 1, 1, 0, 1, 0]) (ef39_j14020 v) (kBlock 2 (kSeq (fun s => Rf39_j20003 (cutTo VG0239 (some [(6, .plain)]) s)) (kFin VG0239 0 (Tryd.f39).results.toList))) = f39_n11111111010 F (fun w => Rf39_j20003 (ef39_j20003 w)) v :=
  loop_cut (c := (sub (bodyOf Tryd.f39) [1, 1, 1, 1, 1, 1, 1, 1, 0, 1, 0])) (d := (sub (bodyOf Tryd.f39) [1, 1, 1, 1, 1, 1, 1, 1, 0, 1, 0, 0])) (by kernel_rfl) (spec := [(0, .plain), (4, .plain), (6, .plain), (7, .plain)]) (by kernel_rfl) ef39_j14020 ef39_l14018 (kBlock 2 (kSeq (fun s => Rf39_j20003 (cutTo VG0239 (some [(6, .plain)]) s)) (kFin VG0239 0 (Tryd.f39).results.toList))) f39_n11111111010_i (fun k => f39_n111111110100 F k (fun w => Rf39_j20003 (ef39_j20003 w)))
    (by rintro ⟨t0, t7, x3, x4⟩; kernel_rfl) (fun Rf39_l14018 => f39_n111111110100_eq F Rf39_l14018 Rf39_j20003)
def f39_n1111111101 (F : Nat) (kf39_j20003 : (List Int) → Option (AV × List Blk)) : Int × Int × (List Int) × (List Int) → Option (AV × List Blk) := f39_n11111111010 F kf39_j20003
theorem f39_n1111111101_eq (F : Nat) (Rf39_j20003 : St → Option (AV × List Blk)) : ∀ v, aexec VG0239 (Af39 F) (sub (bodyOf Tryd.f39) [1, 1, 1, 1, 1, 1, 1, 1, 0, 1]) (ef39_j14020 v) (kSeq (fun s => Rf39_j20003 (cutTo VG0239 (some [(6, .plain)]) s)) (kFin VG0239 0 (Tryd.f39).results.toList)) = f39_n1111111101 F (fun w => Rf39_j20003 (ef39_j20003 w)) v := fun v =>
  (block_in (c := (sub (bodyOf Tryd.f39) [1, 1, 1, 1, 1, 1, 1, 1, 0, 1])) (d := (sub (bodyOf Tryd.f39) [1, 1, 1, 1, 1, 1, 1, 1, 0, 1, 0])) (id := 2) (by kernel_rfl) _ _).trans (f39_n11111111010_eq F Rf39_j20003 v)
def f39_n111111110 (F : Nat) (kf39_j20003 : (List Int) → Option (AV × List Blk)) : Int × Int × (List Int) × (List Int) → Option (AV × List Blk) := fun v => f39_n1111111100 F (f39_n1111111101 F kf39_j20003) kf39_j20003 v
theorem f39_n111111110_eq (F : Nat) (Rf39_j20003 : St → Option (AV × List Blk)) : ∀ v, aexec VG0239 (Af39 F) (sub (bodyOf Tryd.f39) [1, 1, 1, 1, 1, 1, 1, 1, 0]) (ef39_j13026 v) (kSeq (fun s => Rf39_j20003 (cutTo VG0239 (some [(6, .plain)]) s)) (kFin VG0239 0 (Tryd.f39).results.toList)) = f39_n111111110 F (fun w => Rf39_j20003 (ef39_j20003 w)) v :=
  seq_cut (c := (sub (bodyOf Tryd.f39) [1, 1, 1, 1, 1, 1, 1, 1, 0])) (a := (sub (bodyOf Tryd.f39) [1, 1, 1, 1, 1, 1, 1, 1, 0, 0])) (b := (sub (bodyOf Tryd.f39) [1, 1, 1, 1, 1, 1, 1, 1, 0, 1])) (by kernel_rfl) (spec := [(0, .plain), (4, .plain), (6, .plain), (7, .plain)]) (by kernel_rfl) ef39_j13026 ef39_j14020 (kSeq (fun s => Rf39_j20003 (cutTo VG0239 (some [(6, .plain)]) s)) (kFin VG0239 0 (Tryd.f39).results.toList)) (fun k => f39_n1111111100 F k (fun w => Rf39_j20003 (ef39_j20003 w))) (f39_n1111111101 F (fun w => Rf39_j20003 (ef39_j20003 w)))
    (fun Rf39_j14020 => f39_n1111111100_eq F Rf39_j14020 Rf39_j20003) (f39_n1111111101_eq F Rf39_j20003)
def f39_n111111111 (F : Nat) : (List Int) → Option (AV × List Blk) := fun x1 => (some ((.own 0 0 1), [(.cells x1.length (.rI .u8 x1) true)]))
theorem f39_n111111111_eq (F : Nat) : ∀ v, aexec VG0239 (Af39 F) (sub (bodyOf Tryd.f39) [1, 1, 1, 1, 1, 1, 1, 1, 1]) (ef39_j20003 v) (kFin VG0239 0 (Tryd.f39).results.toList) = f39_n111111111 F v := by
  intro x1; kernel_rfl
def f39_n11111111 (F : Nat) : Int × Int × (List Int) × (List Int) → Option (AV × List Blk) := fun v => f39_n111111110 F (f39_n111111111 F) v
theorem f39_n11111111_eq (F : Nat) : ∀ v, aexec VG0239 (Af39 F) (sub (bodyOf Tryd.f39) [1, 1, 1, 1, 1, 1, 1, 1]) (ef39_j13026 v) (kFin VG0239 0 (Tryd.f39).results.toList) = f39_n11111111 F v :=
  seq_cut (c := (sub (bodyOf Tryd.f39) [1, 1, 1, 1, 1, 1, 1, 1])) (a := (sub (bodyOf Tryd.f39) [1, 1, 1, 1, 1, 1, 1, 1, 0])) (b := (sub (bodyOf Tryd.f39) [1, 1, 1, 1, 1, 1, 1, 1, 1])) (by kernel_rfl) (spec := [(6, .plain)]) (by kernel_rfl) ef39_j13026 ef39_j20003 (kFin VG0239 0 (Tryd.f39).results.toList) (fun k => f39_n111111110 F k) (f39_n111111111 F)
    (fun Rf39_j20003 => f39_n111111110_eq F Rf39_j20003) (f39_n111111111_eq F)
def f39_n1111111 (F : Nat) : Int × Int × (List Int) → Option (AV × List Blk) := fun v => f39_n11111110 F (f39_n11111111 F) v
theorem f39_n1111111_eq (F : Nat) : ∀ v, aexec VG0239 (Af39 F) (sub (bodyOf Tryd.f39) [1, 1, 1, 1, 1, 1, 1]) (ef39_j10032 v) (kFin VG0239 0 (Tryd.f39).results.toList) = f39_n1111111 F v :=
  seq_cut (c := (sub (bodyOf Tryd.f39) [1, 1, 1, 1, 1, 1, 1])) (a := (sub (bodyOf Tryd.f39) [1, 1, 1, 1, 1, 1, 1, 0])) (b := (sub (bodyOf Tryd.f39) [1, 1, 1, 1, 1, 1, 1, 1])) (by kernel_rfl) (spec := [(0, .plain), (4, .plain), (5, .plain), (6, .plain)]) (by kernel_rfl) ef39_j10032 ef39_j13026 (kFin VG0239 0 (Tryd.f39).results.toList) (fun k => f39_n11111110 F k) (f39_n11111111 F)
    (fun Rf39_j13026 => f39_n11111110_eq F Rf39_j13026) (f39_n11111111_eq F)
def f39_n111111 (F : Nat) : Int × Int × (List Int) → Option (AV × List Blk) := fun v => f39_n1111110 F (f39_n1111111 F) v
theorem f39_n111111_eq (F : Nat) : ∀ v, aexec VG0239 (Af39 F) (sub (bodyOf Tryd.f39) [1, 1, 1, 1, 1, 1]) (ef39_j9034 v) (kFin VG0239 0 (Tryd.f39).results.toList) = f39_n111111 F v :=
  seq_cut (c := (sub (bodyOf Tryd.f39) [1, 1, 1, 1, 1, 1])) (a := (sub (bodyOf Tryd.f39) [1, 1, 1, 1, 1, 1, 0])) (b := (sub (bodyOf Tryd.f39) [1, 1, 1, 1, 1, 1, 1])) (by kernel_rfl) (spec := [(0, .plain), (4, .plain), (5, .plain), (6, .plain)]) (by kernel_rfl) ef39_j9034 ef39_j10032 (kFin VG0239 0 (Tryd.f39).results.toList) (fun k => f39_n1111110 F k) (f39_n1111111 F)
    (fun Rf39_j10032 => f39_n1111110_eq F Rf39_j10032) (f39_n1111111_eq F)
def f39_n11111 (F : Nat) : Int × (List Int) → Option (AV × List Blk) := fun v => f39_n111110 F (f39_n111111 F) v
theorem f39_n11111_eq (F : Nat) : ∀ v, aexec VG0239 (Af39 F) (sub (bodyOf Tryd.f39) [1, 1, 1, 1, 1]) (ef39_j8036 v) (kFin VG0239 0 (Tryd.f39).results.toList) = f39_n11111 F v :=
  seq_cut (c := (sub (bodyOf Tryd.f39) [1, 1, 1, 1, 1])) (a := (sub (bodyOf Tryd.f39) [1, 1, 1, 1, 1, 0])) (b := (sub (bodyOf Tryd.f39) [1, 1, 1, 1, 1, 1])) (by kernel_rfl) (spec := [(0, .plain), (4, .plain), (5, .plain)]) (by kernel_rfl) ef39_j8036 ef39_j9034 (kFin VG0239 0 (Tryd.f39).results.toList) (fun k => f39_n111110 F k) (f39_n111111 F)
    (fun Rf39_j9034 => f39_n111110_eq F Rf39_j9034) (f39_n111111_eq F)
def f39_n1111 (F : Nat) : Int × Int → Option (AV × List Blk) := fun v => f39_n11110 F (f39_n11111 F) v
theorem f39_n1111_eq (F : Nat) : ∀ v, aexec VG0239 (Af39 F) (sub (bodyOf Tryd.f39) [1, 1, 1, 1]) (ef39_j5049 v) (kFin VG0239 0 (Tryd.f39).results.toList) = f39_n1111 F v :=
  seq_cut (c := (sub (bodyOf Tryd.f39) [1, 1, 1, 1])) (a := (sub (bodyOf Tryd.f39) [1, 1, 1, 1, 0])) (b := (sub (bodyOf Tryd.f39) [1, 1, 1, 1, 1])) (by kernel_rfl) (spec := [(0, .plain), (4, .plain)]) (by kernel_rfl) ef39_j5049 ef39_j8036 (kFin VG0239 0 (Tryd.f39).results.toList) (fun k => f39_n11110 F k) (f39_n11111 F)
    (fun Rf39_j8036 => f39_n11110_eq F Rf39_j8036) (f39_n11111_eq F)
def f39_n111 (F : Nat) : Int × Int → Option (AV × List Blk) := fun v => f39_n1110 F (f39_n1111 F) v
theorem f39_n111_eq (F : Nat) : ∀ v, aexec VG0239 (Af39 F) (sub (bodyOf Tryd.f39) [1, 1, 1]) (ef39_j4051 v) (kFin VG0239 0 (Tryd.f39).results.toList) = f39_n111 F v :=
  seq_cut (c := (sub (bodyOf Tryd.f39) [1, 1, 1])) (a := (sub (bodyOf Tryd.f39) [1, 1, 1, 0])) (b := (sub (bodyOf Tryd.f39) [1, 1, 1, 1])) (by kernel_rfl) (spec := [(0, .plain), (3, .plain), (4, .plain)]) (by kernel_rfl) ef39_j4051 ef39_j5049 (kFin VG0239 0 (Tryd.f39).results.toList) (fun k => f39_n1110 F k) (f39_n1111 F)
    (fun Rf39_j5049 => f39_n1110_eq F Rf39_j5049) (f39_n1111_eq F)
def f39_n11 (F : Nat) : Int × Int → Option (AV × List Blk) := fun v => f39_n110 F (f39_n111 F) v
theorem f39_n11_eq (F : Nat) : ∀ v, aexec VG0239 (Af39 F) (sub (bodyOf Tryd.f39) [1, 1]) (ef39_j2057 v) (kFin VG0239 0 (Tryd.f39).results.toList) = f39_n11 F v :=
  seq_cut (c := (sub (bodyOf Tryd.f39) [1, 1])) (a := (sub (bodyOf Tryd.f39) [1, 1, 0])) (b := (sub (bodyOf Tryd.f39) [1, 1, 1])) (by kernel_rfl) (spec := [(0, .plain), (3, .plain)]) (by kernel_rfl) ef39_j2057 ef39_j4051 (kFin VG0239 0 (Tryd.f39).results.toList) (fun k => f39_n110 F k) (f39_n111 F)
    (fun Rf39_j4051 => f39_n110_eq F Rf39_j4051) (f39_n111_eq F)
def f39_n1 (F : Nat) : Int → Option (AV × List Blk) := fun v => f39_n10 F (f39_n11 F) v
theorem f39_n1_eq (F : Nat) : ∀ v, aexec VG0239 (Af39 F) (sub (bodyOf Tryd.f39) [1]) (ef39_j1059 v) (kFin VG0239 0 (Tryd.f39).results.toList) = f39_n1 F v :=
  seq_cut (c := (sub (bodyOf Tryd.f39) [1])) (a := (sub (bodyOf Tryd.f39) [1, 0])) (b := (sub (bodyOf Tryd.f39) [1, 1])) (by kernel_rfl) (spec := [(0, .plain), (3, .plain)]) (by kernel_rfl) ef39_j1059 ef39_j2057 (kFin VG0239 0 (Tryd.f39).results.toList) (fun k => f39_n10 F k) (f39_n11 F)
    (fun Rf39_j2057 => f39_n10_eq F Rf39_j2057) (f39_n11_eq F)
def f39_nt (F : Nat) : Int → Option (AV × List Blk) := fun v => f39_n0 F (f39_n1 F) v
theorem f39_nt_eq (F : Nat) : ∀ v, aexec VG0239 (Af39 F) (sub (bodyOf Tryd.f39) []) (ef39_a v) (kFin VG0239 0 (Tryd.f39).results.toList) = f39_nt F v :=
  seq_cut (c := (sub (bodyOf Tryd.f39) [])) (a := (sub (bodyOf Tryd.f39) [0])) (b := (sub (bodyOf Tryd.f39) [1])) (by kernel_rfl) (spec := [(0, .plain)]) (by kernel_rfl) ef39_a ef39_j1059 (kFin VG0239 0 (Tryd.f39).results.toList) (fun k => f39_n0 F k) (f39_n1 F)
    (fun Rf39_j1059 => f39_n0_eq F Rf39_j1059) (f39_n1_eq F)
/-- gantry/gantryref01.Int -/
def f39 (F : Nat) : Int → Option (AV × List Blk) := f39_nt F
theorem f39_body (F : Nat) (a0 : Int) : abody VG0239 (Af39 F) Tryd.f39 [(.int .i64 a0)] [] = f39 F a0 :=
  (abody_in (c := (sub (bodyOf Tryd.f39) [])) (by kernel_rfl) (s := ef39_a a0) (by kernel_rfl)).trans (f39_nt_eq F a0)
def r39 : CRun := fun X H => match X, H with
  | [(.int .i64 a0)], [] => some (true, (.own 0 0 1), [(.cells (Wire.int a0).length (.rI .u8 (Wire.int a0)) true)])
  | _, _ => none
theorem s39 (a0 : Int) (h0 : okV (.int .i64 a0)) : ∃ F, f39 F a0 = some ((.own 0 0 1), [(.cells (Wire.int a0).length (.rI .u8 (Wire.int a0)) true)]) := by
  have hm := Wire.mag_lt h0
  have h0' : -9223372036854775808 ≤ a0 ∧ a0 ≤ 9223372036854775807 := h0
  have hk8 := Wire.nb_le (Wire.mag a0)
  refine ⟨10, ?_⟩
  simp only [f39, f39_nt, f39_n0, f39_n1, f39_n10, f39_n11, f39_n110]
  have key : f39_n111 10 (a0, ((Wire.mag a0 : Nat) : Int)) = some ((.own 0 0 1), [(.cells (Wire.int a0).length (.rI .u8 (Wire.int a0)) true)]) := by
    simp only [f39_n111, f39_n1110, f39_n1111, f39_n11110, f39_n111100, f39_n111100_i]
    generalize hM : Wire.mag a0 = m at *
    refine loopN_from (fun j => (a0, ((m / 256 ^ j : Nat) : Int), (List.range j).map fun i => ((m / 256 ^ i % 256 : Nat) : Int))) (Wire.nb m) (by simp) (fun j hj k => ?_) (fun k => ?_) 10 (by omega)
    · have hne : ¬ (m / 256 ^ j = 0) := by rw [Wire.nb_shift (show m < 18446744073709551616 by omega)]; omega
      have hle : m / 256 ^ j ≤ m := Nat.div_le_self _ _
      simp only [f39_n1111000, List.length_map, List.length_range]
      have e : m / 256 ^ (j + 1) = m / 256 ^ j / 256 := by rw [Nat.pow_succ, Nat.div_div_eq_div_mul]
      rw [List.range_succ, List.map_append, e]
      simp only [List.map_cons, List.map_nil]
      generalize m / 256 ^ j = q at *
      rw [tdiv_nn (by omega), tmod_nn (by omega), i64w (by omega) (by omega), u8w (by omega) (by omega), cond_pos (by omega), cond_pos (by omega)]
      simp
    · have hz : m / 256 ^ Wire.nb m = 0 := (Wire.nb_shift (show m < 18446744073709551616 by omega)).mpr (Nat.le_refl _)
      simp only [f39_n1111000]
      rw [hz, cond_neg (by decide)]
      simp only [f39_n11111, f39_n111110, f39_n111111, f39_n1111110, f39_n1111111, f39_n11111110, List.length_map, List.length_range]
      generalize hK : Wire.nb m = kk at *
      have fin : f39_n11111111 10 (a0, (kk : Int), (List.range kk).map (fun i => ((m / 256 ^ i % 256 : Nat) : Int)), [Wire.head a0]) = some ((.own 0 0 1), [(.cells (Wire.int a0).length (.rI .u8 (Wire.int a0)) true)]) := by
        simp only [f39_n11111111, f39_n111111110, f39_n111111111, f39_n1111111100, f39_n1111111101, f39_n11111111010, f39_n11111111010_i]
        rw [i64w (x := (kk : Int) - 1) (by omega) (by omega)]
        refine loopN_from (fun j => (a0, (kk : Int) - 1 - j, (List.range kk).map (fun i => ((m / 256 ^ i % 256 : Nat) : Int)), Wire.head a0 :: (List.range j).map fun j => Wire.dig a0 (kk - 1 - j))) kk (by simp) (fun j hj k' => ?_) (fun k' => ?_) 10 (by omega)
        · simp only [f39_n111111110100, dec_and, List.length_cons, List.length_map, List.length_range]
          rw [i64w (x := (kk : Int) - 1 - (j : Int) - 1) (by omega) (by omega), cond_pos (by omega), cond_pos (by omega), show ((kk : Int) - 1 - j).toNat = kk - 1 - j by omega]
          have hg : ((List.range kk).map (fun i => ((m / 256 ^ i % 256 : Nat) : Int))).getD (kk - 1 - j) 0 = ((m / 256 ^ (kk - 1 - j) % 256 : Nat) : Int) := by
            rw [List.getD_eq_getElem?_getD, List.getElem?_map, List.getElem?_range (by omega)]; rfl
          have hd : Wire.dig a0 (kk - 1 - j) = if a0 < 0 then 255 - ((m / 256 ^ (kk - 1 - j) % 256 : Nat) : Int) else ((m / 256 ^ (kk - 1 - j) % 256 : Nat) : Int) := by unfold Wire.dig; rw [hM]
          rw [hg, List.range_succ, List.map_append]
          simp only [List.map_cons, List.map_nil, hd]
          rw [show (kk : Int) - 1 - (j : Int) - 1 = (kk : Int) - 1 - ((j + 1 : Nat) : Int) by omega]
          have hq : m / 256 ^ (kk - 1 - j) % 256 < 256 := Nat.mod_lt _ (by decide)
          generalize m / 256 ^ (kk - 1 - j) % 256 = q at *
          by_cases hn : a0 < 0
          · rw [cond_pos hn, cond_pos (by omega), if_pos hn, u8w (by omega) (by omega)]; rfl
          · rw [cond_neg hn, cond_pos (by omega), if_neg hn]; rfl
        · simp only [f39_n111111110100]
          rw [cond_neg (by omega)]
          have : Wire.int a0 = Wire.head a0 :: (List.range kk).map fun j => Wire.dig a0 (kk - 1 - j) := by unfold Wire.int; rw [hM, hK]
          rw [this]; rfl
      by_cases hn : a0 ≥ 0
      · rw [cond_pos hn]
        have : IntKind.u8.wrap (IntKind.i64.wrap (128 + (kk : Int))) = Wire.head a0 := by
          unfold Wire.head; rw [hM, hK, if_neg (by omega), i64w (by omega) (by omega), u8w (by omega) (by omega)]
        rw [this]; exact fin
      · rw [cond_neg hn]
        have : IntKind.u8.wrap (IntKind.i64.wrap (127 - (kk : Int))) = Wire.head a0 := by
          unfold Wire.head; rw [hM, hK, if_pos (by omega), i64w (by omega) (by omega), u8w (by omega) (by omega)]
        rw [this]; exact fin
  by_cases hn : a0 < 0
  · rw [cond_pos hn]
    have : IntKind.i64.wrap (-1 - a0) = ((Wire.mag a0 : Nat) : Int) := by
      rw [i64w (by omega) (by omega)]; unfold Wire.mag; rw [if_pos hn]; omega
    rw [this]; exact key
  · rw [cond_neg hn]
    have : a0 = ((Wire.mag a0 : Nat) : Int) := by unfold Wire.mag; rw [if_neg hn]; omega
    rw [← this] at key; exact key

theorem c39 : CallOk Tryd.prog G02 39 r39 := callOk_of (V := VG0239) mixed tys eVG0239 (f := 39) (fn := Tryd.f39) Tryd.func39 (by kernel_rfl) (c := sub (bodyOf Tryd.f39) []) (by kernel_rfl) (by
  intro X H r H' h hX hH
  unfold r39 at h; split at h <;> try contradiction
  simp only [Option.some.injEq, Prod.mk.injEq] at h
  obtain ⟨hp, rfl, rfl⟩ := h
  obtain ⟨F, hF⟩ := s39 _ (hX _ (.head _))
  exact ⟨Af39 F, (f39_body F _).trans hF⟩)
/-! gantry/gantryref01.Bytes -/
def lVG0235 : List CEnt := [(39, [none], r39)]
def VG0235 : Env := mkEnv T02 G02 lVG0235
theorem eVG0235 : EOk Tryd.prog VG0235 := eok_mk (by exact ⟨c39, trivial⟩)
def Af35 (F : Nat) : Cuts := { F := F, at_ := fun _ => none, join := fun _ => none }
def ef35_a : (List Int) → St := fun a0 => { tmps := [(0, (.str a0))], heap := [], next := 0, nt := 9, m := 0 }
def f35_nt (F : Nat) : (List Int) → Option (AV × List Blk) := fun a0 => (cond (decide (((Wire.int (↑a0.length : Int)).length + a0.length) < 1073741824)) (some ((.own 0 0 1), [(.cells ((Wire.int (↑a0.length : Int)) ++ a0).length (.rI .u8 ((Wire.int (↑a0.length : Int)) ++ a0)) true)])) none)
theorem f35_nt_eq (F : Nat) : ∀ v, aexec VG0235 (Af35 F) (sub (bodyOf Tryd.f35) []) (ef35_a v) (kFin VG0235 0 (Tryd.f35).results.toList) = f35_nt F v := by
  intro a0; kernel_rfl
/-- gantry/gantryref01.Bytes -/
def f35 (F : Nat) : (List Int) → Option (AV × List Blk) := f35_nt F
theorem f35_body (F : Nat) (a0 : List Int) : abody VG0235 (Af35 F) Tryd.f35 [(.str a0)] [] = f35 F a0 :=
  (abody_in (c := (sub (bodyOf Tryd.f35) [])) (by kernel_rfl) (s := ef35_a a0) (by kernel_rfl)).trans (f35_nt_eq F a0)
def r35 : CRun := fun X H => match X, H with
  | [(.str a0)], [] => some ((decide (a0.length < 1073741000)), (.own 0 0 1), [(.cells (Wire.bytes a0).length (.rI .u8 (Wire.bytes a0)) true)])
  | _, _ => none
theorem s35 (a0 : List Int) (hp : ((decide (a0.length < 1073741000))) = true) (h0 : okV (.str a0)) : ∃ F, f35 F a0 = some ((.own 0 0 1), [(.cells (Wire.bytes a0).length (.rI .u8 (Wire.bytes a0)) true)]) := by
  have hl : a0.length < 1073741000 := of_decide_eq_true hp
  have := Wire.nb_le (Wire.mag (a0.length : Int))
  refine ⟨0, ?_⟩
  simp only [f35, f35_nt]
  rw [cond_pos (by rw [Wire.int_len]; omega)]
  rfl

theorem c35 : CallOk Tryd.prog G02 35 r35 := callOk_of (V := VG0235) mixed tys eVG0235 (f := 35) (fn := Tryd.f35) Tryd.func35 (by kernel_rfl) (c := sub (bodyOf Tryd.f35) []) (by kernel_rfl) (by
  intro X H r H' h hX hH
  unfold r35 at h; split at h <;> try contradiction
  simp only [Option.some.injEq, Prod.mk.injEq] at h
  obtain ⟨hp, rfl, rfl⟩ := h
  obtain ⟨F, hF⟩ := s35 _ hp (hX _ (.head _))
  exact ⟨Af35 F, (f35_body F _).trans hF⟩)
/-! gantry/gantryref02.Input -/
def lVG0223 : List CEnt := [(35, [none], r35)]
def VG0223 : Env := mkEnv T02 G02 lVG0223
theorem eVG0223 : EOk Tryd.prog VG0223 := eok_mk (by exact ⟨c35, trivial⟩)
def Af23 (F : Nat) : Cuts := { F := F, at_ := fun n => match n with | 3010 => some [(1, .plain), (5, .plain), (6, .plain)] | _ => none, join := fun n => match n with | 1020 => some [(0, .plain), (1, .plain)] | 2018 => some [(1, .plain), (5, .plain)] | 3012 => some [(1, .plain), (5, .plain), (6, .plain)] | 6003 => some [(5, .plain)] | _ => none }
def ef23_a : Int × (List (List Int)) → St := fun (a0, a1) => { tmps := [(0, (.int .i64 a0)), (1, (.vs (.rS a1) 0 1))], heap := [], next := 0, nt := 24, m := 0 }
def ef23_j1020 : Int × (List (List Int)) → St := fun (t0, t1) => { tmps := [(0, (.int .i64 t0)), (1, (.vs (.rS t1) 0 1))], heap := [], next := 0, nt := 24, m := 0 }
def ef23_j2018 : (List (List Int)) × (List Int) → St := fun (t1, x2) => { tmps := [(1, (.vs (.rS t1) 0 1)), (5, (.own 0 0 1))], heap := [(0, (.cells x2.length (.rI .u8 x2) true))], next := 1, nt := 24, m := 0 }
def ef23_j3012 : (List (List Int)) × Int × (List Int) → St := fun (t1, t6, x3) => { tmps := [(1, (.vs (.rS t1) 0 1)), (5, (.own 0 0 1)), (6, (.int .i64 t6))], heap := [(0, (.cells x3.length (.rI .u8 x3) true))], next := 1, nt := 24, m := 0 }
def ef23_l3010 : (List (List Int)) × Int × (List Int) → St := fun (t1, t6, x3) => { tmps := [(1, (.vs (.rS t1) 0 1)), (5, (.own 0 0 1)), (6, (.int .i64 t6))], heap := [(0, (.cells x3.length (.rI .u8 x3) true))], next := 1, nt := 24, m := 0 }
def ef23_j6003 : (List Int) → St := fun x1 => { tmps := [(5, (.own 0 0 1))], heap := [(0, (.cells x1.length (.rI .u8 x1) true))], next := 1, nt := 24, m := 0 }
def f23_n0 (F : Nat) (kf23_j1020 : Int × (List (List Int)) → Option (AV × List Blk)) : Int × (List (List Int)) → Option (AV × List Blk) := fun (a0, a1) => (kf23_j1020 (a0, a1))
theorem f23_n0_eq (F : Nat) (Rf23_j1020 : St → Option (AV × List Blk)) : ∀ v, aexec VG0223 (Af23 F) (sub (bodyOf Tryd.f23) [0]) (ef23_a v) (kSeq (fun s => Rf23_j1020 (cutTo VG0223 (some [(0, .plain), (1, .plain)]) s)) (kFin VG0223 0 (Tryd.f23).results.toList)) = f23_n0 F (fun w => Rf23_j1020 (ef23_j1020 w)) v := by
  rintro ⟨a0, a1⟩; kernel_rfl
def f23_n10 (F : Nat) (kf23_j2018 : (List (List Int)) × (List Int) → Option (AV × List Blk)) : Int × (List (List Int)) → Option (AV × List Blk) := fun (t0, t1) => (kf23_j2018 (t1, [(IntKind.u8.wrap t0)]))
theorem f23_n10_eq (F : Nat) (Rf23_j2018 : St → Option (AV × List Blk)) : ∀ v, aexec VG0223 (Af23 F) (sub (bodyOf Tryd.f23) [1, 0]) (ef23_j1020 v) (kSeq (fun s => Rf23_j2018 (cutTo VG0223 (some [(1, .plain), (5, .plain)]) s)) (kFin VG0223 0 (Tryd.f23).results.toList)) = f23_n10 F (fun w => Rf23_j2018 (ef23_j2018 w)) v := by
  rintro ⟨t0, t1⟩; kernel_rfl
def f23_n1100 (F : Nat) (kf23_j3012 : (List (List Int)) × Int × (List Int) → Option (AV × List Blk)) (kf23_j6003 : (List Int) → Option (AV × List Blk)) : (List (List Int)) × (List Int) → Option (AV × List Blk) := fun (t1, x2) => (kf23_j3012 (t1, (0 : Int), x2))
theorem f23_n1100_eq (F : Nat) (Rf23_j3012 : St → Option (AV × List Blk)) (Rf23_j6003 : St → Option (AV × List Blk)) : ∀ v, aexec VG0223 (Af23 F) (sub (bodyOf Tryd.f23) [1, 1, 0, 0]) (ef23_j2018 v) (kSeq (fun s => Rf23_j3012 (cutTo VG0223 (some [(1, .plain), (5, .plain), (6, .plain)]) s)) (kSeq (fun s => Rf23_j6003 (cutTo VG0223 (some [(5, .plain)]) s)) (kFin VG0223 0 (Tryd.f23).results.toList))) = f23_n1100 F (fun w => Rf23_j3012 (ef23_j3012 w)) (fun w => Rf23_j6003 (ef23_j6003 w)) v := by
  rintro ⟨t1, x2⟩; kernel_rfl
def f23_n110100 (F : Nat) (kf23_l3010 : (List (List Int)) × Int × (List Int) → Option (AV × List Blk)) (kf23_j6003 : (List Int) → Option (AV × List Blk)) : (List (List Int)) × Int × (List Int) → Option (AV × List Blk) := fun (t1, t6, x3) => (cond (decide (t6 < (↑t1.length : Int))) (cond ((decide (0 ≤ t6)) && (decide (t6 < (↑t1.length : Int)))) (cond (decide ((t1.getD (Int.toNat t6) []).length < 1073741000)) (cond (decide ((x3.length + (Wire.bytes (t1.getD (Int.toNat t6) [])).length) < 1073741824)) (kf23_l3010 (t1, (IntKind.i64.wrap (t6 + (1 : Int))), (x3 ++ (Wire.bytes (t1.getD (Int.toNat t6) []))))) none) none) none) (kf23_j6003 x3))
theorem f23_n110100_eq (F : Nat) (Rf23_l3010 : St → Option (AV × List Blk)) (Rf23_j6003 : St → Option (AV × List Blk)) : ∀ v, aexec VG0223 (Af23 F) (sub (bodyOf Tryd.f23) [1, 1, 0, 1, 0, 0]) (ef23_l3010 v) (kSeq (fun s => Rf23_l3010 (cutTo VG0223 (some [(1, .plain), (5, .plain), (6, .plain)]) s)) (kBlock 0 (kSeq (fun s => Rf23_j6003 (cutTo VG0223 (some [(5, .plain)]) s)) (kFin VG0223 0 (Tryd.f23).results.toList)))) = f23_n110100 F (fun w => Rf23_l3010 (ef23_l3010 w)) (fun w => Rf23_j6003 (ef23_j6003 w)) v := by
  rintro ⟨t1, t6, x3⟩; kernel_rfl
def f23_n11010_i : (List (List Int)) × Int × (List Int) → (List (List Int)) × Int × (List Int) := fun (t1, t6, x3) => (t1, t6, x3)
def f23_n11010 (F : Nat) (kf23_j6003 : (List Int) → Option (AV × List Blk)) : (List (List Int)) × Int × (List Int) → Option (AV × List Blk) := fun v => loopN (fun k => f23_n110100 F k kf23_j6003) F (f23_n11010_i v)
theorem f23_n11010_eq (F : Nat) (Rf23_j6003 : St → Option (AV × List Blk)) : ∀ v, aexec VG0223 (Af23 F) (sub (bodyOf Tryd.f23) [1, 1, 0, 1, 0]) (ef23_j3012 v) (kBlock 0 (kSeq (fun s => Rf23_j6003 (cutTo VG0223 (some [(5, .plain)]) s)) (kFin VG0223 0 (Tryd.f23).results.toList))) = f23_n11010 F (fun w => Rf23_j6003 (ef23_j6003 w)) v :=
  loop_cut (c := (sub (bodyOf Tryd.f23) [1, 1, 0, 1, 0])) (d := (sub (bodyOf Tryd.f23) [1, 1, 0, 1, 0, 0])) (by kernel_rfl) (spec := [(1, .plain), (5, .plain), (6, .plain)]) (by kernel_rfl) ef23_j3012 ef23_l3010 (kBlock 0 (kSeq (fun s => Rf23_j6003 (cutTo VG0223 (some [(5, .plain)]) s)) (kFin VG0223 0 (Tryd.f23).results.toList))) f23_n11010_i (fun k => f23_n110100 F k (fun w => Rf23_j6003 (ef23_j6003 w)))
    (by rintro ⟨t1, t6, x3⟩; kernel_rfl) (fun Rf23_l3010 => f23_n110100_eq F Rf23_l3010 Rf23_j6003)
def f23_n1101 (F : Nat) (kf23_j6003 : (List Int) → Option (AV × List Blk)) : (List (List Int)) × Int × (List Int) → Option (AV × List Blk) := f23_n11010 F kf23_j6003
theorem f23_n1101_eq (F : Nat) (Rf23_j6003 : St → Option (AV × List Blk)) : ∀ v, aexec VG0223 (Af23 F) (sub (bodyOf Tryd.f23) [1, 1, 0, 1]) (ef23_j3012 v) (kSeq (fun s => Rf23_j6003 (cutTo VG0223 (some [(5, .plain)]) s)) (kFin VG0223 0 (Tryd.f23).results.toList)) = f23_n1101 F (fun w => Rf23_j6003 (ef23_j6003 w)) v := fun v =>
  (block_in (c := (sub (bodyOf Tryd.f23) [1, 1, 0, 1])) (d := (sub (bodyOf Tryd.f23) [1, 1, 0, 1, 0])) (id := 0) (by kernel_rfl) _ _).trans (f23_n11010_eq F Rf23_j6003 v)
def f23_n110 (F : Nat) (kf23_j6003 : (List Int) → Option (AV × List Blk)) : (List (List Int)) × (List Int) → Option (AV × List Blk) := fun v => f23_n1100 F (f23_n1101 F kf23_j6003) kf23_j6003 v
theorem f23_n110_eq (F : Nat) (Rf23_j6003 : St → Option (AV × List Blk)) : ∀ v, aexec VG0223 (Af23 F) (sub (bodyOf Tryd.f23) [1, 1, 0]) (ef23_j2018 v) (kSeq (fun s => Rf23_j6003 (cutTo VG0223 (some [(5, .plain)]) s)) (kFin VG0223 0 (Tryd.f23).results.toList)) = f23_n110 F (fun w => Rf23_j6003 (ef23_j6003 w)) v :=
  seq_cut (c := (sub (bodyOf Tryd.f23) [1, 1, 0])) (a := (sub (bodyOf Tryd.f23) [1, 1, 0, 0])) (b := (sub (bodyOf Tryd.f23) [1, 1, 0, 1])) (by kernel_rfl) (spec := [(1, .plain), (5, .plain), (6, .plain)]) (by kernel_rfl) ef23_j2018 ef23_j3012 (kSeq (fun s => Rf23_j6003 (cutTo VG0223 (some [(5, .plain)]) s)) (kFin VG0223 0 (Tryd.f23).results.toList)) (fun k => f23_n1100 F k (fun w => Rf23_j6003 (ef23_j6003 w))) (f23_n1101 F (fun w => Rf23_j6003 (ef23_j6003 w)))
    (fun Rf23_j3012 => f23_n1100_eq F Rf23_j3012 Rf23_j6003) (f23_n1101_eq F Rf23_j6003)
def f23_n111 (F : Nat) : (List Int) → Option (AV × List Blk) := fun x1 => (some ((.own 0 0 1), [(.cells x1.length (.rI .u8 x1) true)]))
theorem f23_n111_eq (F : Nat) : ∀ v, aexec VG0223 (Af23 F) (sub (bodyOf Tryd.f23) [1, 1, 1]) (ef23_j6003 v) (kFin VG0223 0 (Tryd.f23).results.toList) = f23_n111 F v := by
  intro x1; kernel_rfl
def f23_n11 (F : Nat) : (List (List Int)) × (List Int) → Option (AV × List Blk) := fun v => f23_n110 F (f23_n111 F) v
theorem f23_n11_eq (F : Nat) : ∀ v, aexec VG0223 (Af23 F) (sub (bodyOf Tryd.f23) [1, 1]) (ef23_j2018 v) (kFin VG0223 0 (Tryd.f23).results.toList) = f23_n11 F v :=
  seq_cut (c := (sub (bodyOf Tryd.f23) [1, 1])) (a := (sub (bodyOf Tryd.f23) [1, 1, 0])) (b := (sub (bodyOf Tryd.f23) [1, 1, 1])) (by kernel_rfl) (spec := [(5, .plain)]) (by kernel_rfl) ef23_j2018 ef23_j6003 (kFin VG0223 0 (Tryd.f23).results.toList) (fun k => f23_n110 F k) (f23_n111 F)
    (fun Rf23_j6003 => f23_n110_eq F Rf23_j6003) (f23_n111_eq F)
def f23_n1 (F : Nat) : Int × (List (List Int)) → Option (AV × List Blk) := fun v => f23_n10 F (f23_n11 F) v
theorem f23_n1_eq (F : Nat) : ∀ v, aexec VG0223 (Af23 F) (sub (bodyOf Tryd.f23) [1]) (ef23_j1020 v) (kFin VG0223 0 (Tryd.f23).results.toList) = f23_n1 F v :=
  seq_cut (c := (sub (bodyOf Tryd.f23) [1])) (a := (sub (bodyOf Tryd.f23) [1, 0])) (b := (sub (bodyOf Tryd.f23) [1, 1])) (by kernel_rfl) (spec := [(1, .plain), (5, .plain)]) (by kernel_rfl) ef23_j1020 ef23_j2018 (kFin VG0223 0 (Tryd.f23).results.toList) (fun k => f23_n10 F k) (f23_n11 F)
    (fun Rf23_j2018 => f23_n10_eq F Rf23_j2018) (f23_n11_eq F)
def f23_nt (F : Nat) : Int × (List (List Int)) → Option (AV × List Blk) := fun v => f23_n0 F (f23_n1 F) v
theorem f23_nt_eq (F : Nat) : ∀ v, aexec VG0223 (Af23 F) (sub (bodyOf Tryd.f23) []) (ef23_a v) (kFin VG0223 0 (Tryd.f23).results.toList) = f23_nt F v :=
  seq_cut (c := (sub (bodyOf Tryd.f23) [])) (a := (sub (bodyOf Tryd.f23) [0])) (b := (sub (bodyOf Tryd.f23) [1])) (by kernel_rfl) (spec := [(0, .plain), (1, .plain)]) (by kernel_rfl) ef23_a ef23_j1020 (kFin VG0223 0 (Tryd.f23).results.toList) (fun k => f23_n0 F k) (f23_n1 F)
    (fun Rf23_j1020 => f23_n0_eq F Rf23_j1020) (f23_n1_eq F)
/-- gantry/gantryref02.Input -/
def f23 (F : Nat) : Int × (List (List Int)) → Option (AV × List Blk) := f23_nt F
theorem f23_body (F : Nat) (a0 : Int) (a1 : List (List Int)) : abody VG0223 (Af23 F) Tryd.f23 [(.int .i64 a0), (.vs (.rS a1) 0 1)] [] = f23 F (a0, a1) :=
  (abody_in (c := (sub (bodyOf Tryd.f23) [])) (by kernel_rfl) (s := ef23_a (a0, a1)) (by kernel_rfl)).trans (f23_nt_eq F (a0, a1))
def r23 : CRun := fun X H => match X, H with
  | [(.int .i64 a0), (.vs (.rS a1) 0 1)], [] => some ((decide ((Sha.input a0 a1).length < 1073741000)), (.own 0 0 1), [(.cells (Sha.input a0 a1).length (.rI .u8 (Sha.input a0 a1)) true)])
  | _, _ => none
theorem input_le (tag : Int) (l : List (List Int)) (i : Nat) : (Sha.input tag (l.take i)).length ≤ (Sha.input tag l).length := by
  have : Sha.input tag l = Sha.input tag (l.take i) ++ (l.drop i).flatMap Wire.bytes := by
    simp only [Sha.input]; rw [List.cons_append, ← List.flatMap_append, List.take_append_drop]
  rw [this, List.length_append]; omega
theorem s23 (a0 : Int) (a1 : List (List Int)) (hp : ((decide ((Sha.input a0 a1).length < 1073741000))) = true) (h0 : okV (.int .i64 a0)) (h1 : okV (.vs (.rS a1) 0 1)) : ∃ F, f23 F (a0, a1) = some ((.own 0 0 1), [(.cells (Sha.input a0 a1).length (.rI .u8 (Sha.input a0 a1)) true)]) := by
  have hl : (Sha.input a0 a1).length < 1073741000 := of_decide_eq_true hp
  have hl1 := h1.2
  refine ⟨a1.length + 1, ?_⟩
  simp only [f23, f23_nt, f23_n0, f23_n1, f23_n10, f23_n11, f23_n110, f23_n1100, f23_n1101, f23_n11010, f23_n11010_i]
  refine loopN_from (fun i => (a1, (i : Int), Sha.input a0 (a1.take i))) a1.length (by rfl) (fun i hi k => ?_) (fun k => ?_) _ (by omega)
  · have e1 := input_take a0 a1 i hi
    have e2 := input_le a0 a1 (i + 1)
    rw [e1, List.length_append] at e2
    have e3 : (a1.getD i []).length ≤ (Wire.bytes (a1.getD i [])).length := by simp [Wire.bytes]
    simp only [f23_n110100, dec_and]
    rw [Int.toNat_natCast, cond_pos (by omega), cond_pos (by omega), cond_pos (by omega), cond_pos (by omega), i64w (x := (i : Int) + 1) (by omega) (by omega), ← e1]
    rfl
  · simp only [f23_n110100]
    rw [cond_neg (by omega), List.take_length]
    rfl

theorem c23 : CallOk Tryd.prog G02 23 r23 := callOk_of (V := VG0223) mixed tys eVG0223 (f := 23) (fn := Tryd.f23) Tryd.func23 (by kernel_rfl) (c := sub (bodyOf Tryd.f23) []) (by kernel_rfl) (by
  intro X H r H' h hX hH
  unfold r23 at h; split at h <;> try contradiction
  simp only [Option.some.injEq, Prod.mk.injEq] at h
  obtain ⟨hp, rfl, rfl⟩ := h
  obtain ⟨F, hF⟩ := s23 _ _ hp (hX _ (.head _)) (hX _ (.tail _ (.head _)))
  exact ⟨Af23 F, (f23_body F _ _).trans hF⟩)
end Go.Am
