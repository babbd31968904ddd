/- Part of a proof about the functions of the given program. -/
import Derived.Test.YthaegimpohbkhaaDoorAmWire
import Derived.Test.YthaegimpohbkhaaDoorAm02C
set_option linter.unusedVariables false
set_option linter.unusedSimpArgs false
namespace Go.Am
open Go Go.Proofs

/-! gantry/wire.Int -/
def lVG0238 : List CEnt := []
def VG0238 : Env := mkEnv T02 G02 lVG0238
theorem eVG0238 : EOk Tryd.prog VG0238 := eok_mk (by exact trivial)
def Af38 (F : Nat) : Cuts := { F := F, at_ := fun n => match n with | 5014 => some [(3, .plain), (4, .plain), (5, .plain)] | 10010 => some [(3, .plain), (4, .plain), (6, .plain), (7, .plain)] | _ => none, join := fun n => match n with | 1050 => some [(0, .plain)] | 2047 => some [(0, .plain), (3, .plain), (4, .plain)] | 4041 => some [(3, .plain), (4, .plain)] | 5037 => some [(3, .plain), (4, .plain), (5, .plain)] | 5039 => some [(3, .plain), (4, .plain), (5, .plain)] | 8020 => some [(3, .plain), (4, .plain), (5, .plain)] | 9018 => some [(3, .plain), (4, .plain), (5, .plain), (6, .plain)] | 10012 => some [(3, .plain), (4, .plain), (6, .plain), (7, .plain)] | 13003 => some [(6, .plain)] | _ => none }
def ef38_a : Int → St := fun a0 => { tmps := [(0, (.int .i64 a0))], heap := [], next := 0, nt := 47, m := 0 }
def ef38_j1050 : Int → St := fun t0 => { tmps := [(0, (.int .i64 t0))], heap := [], next := 0, nt := 47, m := 0 }
def ef38_j2047 : Int × Int × Int → St := fun (t0, t3, t4) => { tmps := [(0, (.int .i64 t0)), (3, (.int .u64 t3)), (4, (.int .u8 t4))], heap := [], next := 0, nt := 47, m := 0 }
def ef38_j4041 : Int × Int → St := fun (t3, t4) => { tmps := [(3, (.int .u64 t3)), (4, (.int .u8 t4))], heap := [], next := 0, nt := 47, m := 0 }
def ef38_j5039 : Int × Int × Int → St := fun (t3, t4, t5) => { tmps := [(3, (.int .u64 t3)), (4, (.int .u8 t4)), (5, (.int .i64 t5))], heap := [], next := 0, nt := 47, m := 0 }
def ef38_j5037 : Int × Int × Int → St := fun (t3, t4, t5) => { tmps := [(3, (.int .u64 t3)), (4, (.int .u8 t4)), (5, (.int .i64 t5))], heap := [], next := 0, nt := 47, m := 0 }
def ef38_l5014 : Int × Int × Int → St := fun (t3, t4, t5) => { tmps := [(3, (.int .u64 t3)), (4, (.int .u8 t4)), (5, (.int .i64 t5))], heap := [], next := 0, nt := 47, m := 0 }
def ef38_j8020 : Int × Int × Int → St := fun (t3, t4, t5) => { tmps := [(3, (.int .u64 t3)), (4, (.int .u8 t4)), (5, (.int .i64 t5))], heap := [], next := 0, nt := 47, m := 0 }
def ef38_j9018 : Int × Int × Int × (List Int) → St := fun (t3, t4, t5, x4) => { tmps := [(3, (.int .u64 t3)), (4, (.int .u8 t4)), (5, (.int .i64 t5)), (6, (.own 0 0 1))], heap := [(0, (.cells x4.length (.rI .u8 x4) true))], next := 1, nt := 47, m := 0 }
def ef38_j10012 : Int × Int × Int × (List Int) → St := fun (t3, t4, t7, x4) => { tmps := [(3, (.int .u64 t3)), (4, (.int .u8 t4)), (6, (.own 0 0 1)), (7, (.int .i64 t7))], heap := [(0, (.cells x4.length (.rI .u8 x4) true))], next := 1, nt := 47, m := 0 }
def ef38_l10010 : Int × Int × Int × (List Int) → St := fun (t3, t4, t7, x4) => { tmps := [(3, (.int .u64 t3)), (4, (.int .u8 t4)), (6, (.own 0 0 1)), (7, (.int .i64 t7))], heap := [(0, (.cells x4.length (.rI .u8 x4) true))], next := 1, nt := 47, m := 0 }
def ef38_j13003 : (List Int) → St := fun x1 => { tmps := [(6, (.own 0 0 1))], heap := [(0, (.cells x1.length (.rI .u8 x1) true))], next := 1, nt := 47, m := 0 }
def f38_n0 (F : Nat) (kf38_j1050 : Int → Option (AV × List Blk)) : Int → Option (AV × List Blk) := fun a0 => (kf38_j1050 a0)
theorem f38_n0_eq (F : Nat) (Rf38_j1050 : St → Option (AV × List Blk)) : ∀ v, aexec VG0238 (Af38 F) (sub (bodyOf Tryd.f38) [0]) (ef38_a v) (kSeq (fun s => Rf38_j1050 (cutTo VG0238 (some [(0, .plain)]) s)) (kFin VG0238 0 (Tryd.f38).results.toList)) = f38_n0 F (fun w => Rf38_j1050 (ef38_j1050 w)) v := by
  intro a0; kernel_rfl
def f38_n100 (F : Nat) (kf38_j2047 : Int × Int × Int → Option (AV × List Blk)) : Int → Option (AV × List Blk) := fun t0 => (kf38_j2047 (t0, (IntKind.u64.wrap t0), (0 : Int)))
theorem f38_n100_eq (F : Nat) (Rf38_j2047 : St → Option (AV × List Blk)) : ∀ v, aexec VG0238 (Af38 F) (sub (bodyOf Tryd.f38) [1, 0, 0]) (ef38_j1050 v) (kSeq (fun s => Rf38_j2047 (cutTo VG0238 (some [(0, .plain), (3, .plain), (4, .plain)]) s)) (kFin VG0238 0 (Tryd.f38).results.toList)) = f38_n100 F (fun w => Rf38_j2047 (ef38_j2047 w)) v := by
  intro t0; kernel_rfl
def f38_n1010 (F : Nat) (kf38_j4041 : Int × Int → Option (AV × List Blk)) : Int × Int × Int → Option (AV × List Blk) := fun (t0, t3, t4) => (cond (decide (t0 < (0 : Int))) (kf38_j4041 ((ibits .xor .u64 (18446744073709551615 : Int) t3), (255 : Int))) (kf38_j4041 (t3, t4)))
theorem f38_n1010_eq (F : Nat) (Rf38_j4041 : St → Option (AV × List Blk)) : ∀ v, aexec VG0238 (Af38 F) (sub (bodyOf Tryd.f38) [1, 0, 1, 0]) (ef38_j2047 v) (kSeq (fun s => Rf38_j4041 (cutTo VG0238 (some [(3, .plain), (4, .plain)]) s)) (kFin VG0238 0 (Tryd.f38).results.toList)) = f38_n1010 F (fun w => Rf38_j4041 (ef38_j4041 w)) v := by
  rintro ⟨t0, t3, t4⟩; kernel_rfl
def f38_n10110 (F : Nat) (kf38_j5039 : Int × Int × Int → Option (AV × List Blk)) : Int × Int → Option (AV × List Blk) := fun (t3, t4) => (kf38_j5039 (t3, t4, (8 : Int)))
theorem f38_n10110_eq (F : Nat) (Rf38_j5039 : St → Option (AV × List Blk)) : ∀ v, aexec VG0238 (Af38 F) (sub (bodyOf Tryd.f38) [1, 0, 1, 1, 0]) (ef38_j4041 v) (kSeq (fun s => Rf38_j5039 (cutTo VG0238 (some [(3, .plain), (4, .plain), (5, .plain)]) s)) (kFin VG0238 0 (Tryd.f38).results.toList)) = f38_n10110 F (fun w => Rf38_j5039 (ef38_j5039 w)) v := by
  rintro ⟨t3, t4⟩; kernel_rfl
def f38_n101110 (F : Nat) (kf38_j5037 : Int × Int × Int → Option (AV × List Blk)) : Int × Int × Int → Option (AV × List Blk) := fun (t3, t4, t5) => (kf38_j5037 (t3, t4, t5))
theorem f38_n101110_eq (F : Nat) (Rf38_j5037 : St → Option (AV × List Blk)) : ∀ v, aexec VG0238 (Af38 F) (sub (bodyOf Tryd.f38) [1, 0, 1, 1, 1, 0]) (ef38_j5039 v) (kSeq (fun s => Rf38_j5037 (cutTo VG0238 (some [(3, .plain), (4, .plain), (5, .plain)]) s)) (kFin VG0238 0 (Tryd.f38).results.toList)) = f38_n101110 F (fun w => Rf38_j5037 (ef38_j5037 w)) v := by
  rintro ⟨t3, t4, t5⟩; kernel_rfl
def f38_n101111000 (F : Nat) (kf38_l5014 : Int × Int × Int → Option (AV × List Blk)) (kf38_j8020 : Int × Int × Int → Option (AV × List Blk)) : Int × Int × Int → Option (AV × List Blk) := fun (t3, t4, t5) => (cond (decide (t5 > (0 : Int))) (cond (decide (0 ≤ (IntKind.i64.wrap ((8 : Int) * (IntKind.i64.wrap (t5 - (1 : Int))))))) (cond (decide ((Int.fdiv t3 (2 ^ (min (Int.toNat (IntKind.i64.wrap ((8 : Int) * (IntKind.i64.wrap (t5 - (1 : Int)))))) 64))) > (0 : Int))) (kf38_j8020 (t3, t4, t5)) (kf38_l5014 (t3, t4, (IntKind.i64.wrap (t5 - (1 : Int)))))) none) (kf38_j8020 (t3, t4, t5)))
theorem f38_n101111000_eq (F : Nat) (Rf38_l5014 : St → Option (AV × List Blk)) (Rf38_j8020 : St → Option (AV × List Blk)) : ∀ v, aexec VG0238 (Af38 F) (sub (bodyOf Tryd.f38) [1, 0, 1, 1, 1, 1, 0, 0, 0]) (ef38_l5014 v) (kSeq (fun s => Rf38_l5014 (cutTo VG0238 (some [(3, .plain), (4, .plain), (5, .plain)]) s)) (kBlock 0 (kSeq (fun s => Rf38_j8020 (cutTo VG0238 (some [(3, .plain), (4, .plain), (5, .plain)]) s)) (kFin VG0238 0 (Tryd.f38).results.toList)))) = f38_n101111000 F (fun w => Rf38_l5014 (ef38_l5014 w)) (fun w => Rf38_j8020 (ef38_j8020 w)) v := by
  rintro ⟨t3, t4, t5⟩; kernel_rfl
def f38_n10111100_i : Int × Int × Int → Int × Int × Int := fun (t3, t4, t5) => (t3, t4, t5)
def f38_n10111100 (F : Nat) (kf38_j8020 : Int × Int × Int → Option (AV × List Blk)) : Int × Int × Int → Option (AV × List Blk) := fun v => loopN (fun k => f38_n101111000 F k kf38_j8020) F (f38_n10111100_i v)
theorem f38_n10111100_eq (F : Nat) (Rf38_j8020 : St → Option (AV × List Blk)) : ∀ v, aexec VG0238 (Af38 F) (sub (bodyOf Tryd.f38) [1, 0, 1, 1, 1, 1, 0, 0]) (ef38_j5037 v) (kBlock 0 (kSeq (fun s => Rf38_j8020 (cutTo VG0238 (some [(3, .plain), (4, .plain), (5, .plain)]) s)) (kFin VG0238 0 (Tryd.f38).results.toList))) = f38_n10111100 F (fun w => Rf38_j8020 (ef38_j8020 w)) v :=
  loop_cut (c := (sub (bodyOf Tryd.f38) [1, 0, 1, 1, 1, 1, 0, 0])) (d := (sub (bodyOf Tryd.f38) [1, 0, 1, 1, 1, 1, 0, 0, 0])) (by kernel_rfl) (spec := [(3, .plain), (4, .plain), (5, .plain)]) (by kernel_rfl) ef38_j5037 ef38_l5014 (kBlock 0 (kSeq (fun s => Rf38_j8020 (cutTo VG0238 (some [(3, .plain), (4, .plain), (5, .plain)]) s)) (kFin VG0238 0 (Tryd.f38).results.toList))) f38_n10111100_i (fun k => f38_n101111000 F k (fun w => Rf38_j8020 (ef38_j8020 w)))
    (by rintro ⟨t3, t4, t5⟩; kernel_rfl) (fun Rf38_l5014 => f38_n101111000_eq F Rf38_l5014 Rf38_j8020)
def f38_n1011110 (F : Nat) (kf38_j8020 : Int × Int × Int → Option (AV × List Blk)) : Int × Int × Int → Option (AV × List Blk) := f38_n10111100 F kf38_j8020
theorem f38_n1011110_eq (F : Nat) (Rf38_j8020 : St → Option (AV × List Blk)) : ∀ v, aexec VG0238 (Af38 F) (sub (bodyOf Tryd.f38) [1, 0, 1, 1, 1, 1, 0]) (ef38_j5037 v) (kSeq (fun s => Rf38_j8020 (cutTo VG0238 (some [(3, .plain), (4, .plain), (5, .plain)]) s)) (kFin VG0238 0 (Tryd.f38).results.toList)) = f38_n1011110 F (fun w => Rf38_j8020 (ef38_j8020 w)) v := fun v =>
  (block_in (c := (sub (bodyOf Tryd.f38) [1, 0, 1, 1, 1, 1, 0])) (d := (sub (bodyOf Tryd.f38) [1, 0, 1, 1, 1, 1, 0, 0])) (id := 0) (by kernel_rfl) _ _).trans (f38_n10111100_eq F Rf38_j8020 v)
def f38_n10111110 (F : Nat) (kf38_j9018 : Int × Int × Int × (List Int) → Option (AV × List Blk)) : Int × Int × Int → Option (AV × List Blk) := fun (t3, t4, t5) => (kf38_j9018 (t3, t4, t5, [(ibits .xor .u8 (IntKind.u8.wrap (IntKind.i64.wrap ((128 : Int) + t5))) t4)]))
theorem f38_n10111110_eq (F : Nat) (Rf38_j9018 : St → Option (AV × List Blk)) : ∀ v, aexec VG0238 (Af38 F) (sub (bodyOf Tryd.f38) [1, 0, 1, 1, 1, 1, 1, 0]) (ef38_j8020 v) (kSeq (fun s => Rf38_j9018 (cutTo VG0238 (some [(3, .plain), (4, .plain), (5, .plain), (6, .plain)]) s)) (kFin VG0238 0 (Tryd.f38).results.toList)) = f38_n10111110 F (fun w => Rf38_j9018 (ef38_j9018 w)) v := by
  rintro ⟨t3, t4, t5⟩; kernel_rfl
def f38_n1011111100 (F : Nat) (kf38_j10012 : Int × Int × Int × (List Int) → Option (AV × List Blk)) (kf38_j13003 : (List Int) → Option (AV × List Blk)) : Int × Int × Int × (List Int) → Option (AV × List Blk) := fun (t3, t4, t5, x4) => (kf38_j10012 (t3, t4, (IntKind.i64.wrap (t5 - (1 : Int))), x4))
theorem f38_n1011111100_eq (F : Nat) (Rf38_j10012 : St → Option (AV × List Blk)) (Rf38_j13003 : St → Option (AV × List Blk)) : ∀ v, aexec VG0238 (Af38 F) (sub (bodyOf Tryd.f38) [1, 0, 1, 1, 1, 1, 1, 1, 0, 0]) (ef38_j9018 v) (kSeq (fun s => Rf38_j10012 (cutTo VG0238 (some [(3, .plain), (4, .plain), (6, .plain), (7, .plain)]) s)) (kSeq (fun s => Rf38_j13003 (cutTo VG0238 (some [(6, .plain)]) s)) (kFin VG0238 0 (Tryd.f38).results.toList))) = f38_n1011111100 F (fun w => Rf38_j10012 (ef38_j10012 w)) (fun w => Rf38_j13003 (ef38_j13003 w)) v := by
  rintro ⟨t3, t4, t5, x4⟩; kernel_rfl
def f38_n101111110100 (F : Nat) (kf38_l10010 : Int × Int × Int × (List Int) → Option (AV × List Blk)) (kf38_j13003 : (List Int) → Option (AV × List Blk)) : Int × Int × Int × (List Int) → Option (AV × List Blk) := fun (t3, t4, t7, x4) => (cond (decide (t7 ≥ (0 : Int))) (cond (decide (0 ≤ (IntKind.i64.wrap ((8 : Int) * t7)))) (cond (decide ((x4.length + 1) < 1073741824)) (kf38_l10010 (t3, t4, (IntKind.i64.wrap (t7 - (1 : Int))), (x4 ++ [(ibits .xor .u8 (IntKind.u8.wrap (Int.fdiv t3 (2 ^ (min (Int.toNat (IntKind.i64.wrap ((8 : Int) * t7))) 64)))) t4)]))) none) none) (kf38_j13003 x4))
theorem f38_n101111110100_eq (F : Nat) (Rf38_l10010 : St → Option (AV × List Blk)) (Rf38_j13003 : St → Option (AV × List Blk)) : ∀ v, aexec VG0238 (Af38 F) (sub (bodyOf Tryd.f38) [1, 0, 1, 1, 1, 1, 1, 1, 0, 1, 0, 0]) (ef38_l10010 v) (kSeq (fun s => Rf38_l10010 (cutTo VG0238 (some [(3, .plain), (4, .plain), (6, .plain), (7, .plain)]) s)) (kBlock 2 (kSeq (fun s => Rf38_j13003 (cutTo VG0238 (some [(6, .plain)]) s)) (kFin VG0238 0 (Tryd.f38).results.toList)))) = f38_n101111110100 F (fun w => Rf38_l10010 (ef38_l10010 w)) (fun w => Rf38_j13003 (ef38_j13003 w)) v := by
  rintro ⟨t3, t4, t7, x4⟩; kernel_rfl
def f38_n10111111010_i : Int × Int × Int × (List Int) → Int × Int × Int × (List Int) := fun (t3, t4, t7, x4) => (t3, t4, t7, x4)
def f38_n10111111010 (F : Nat) (kf38_j13003 : (List Int) → Option (AV × List Blk)) : Int × Int × Int × (List Int) → Option (AV × List Blk) := fun v => loopN (fun k => f38_n101111110100 F k kf38_j13003) F (f38_n10111111010_i v)
theorem f38_n10111111010_eq (F : Nat) (Rf38_j13003 : St → Option (AV × List Blk)) : ∀ v, aexec VG0238 (Af38 F) (sub (bodyOf Tryd.f38) [1, 0, 1, 1, 1, 1, 1, 1, 0, 1, 0]) (ef38_j10012 v) (kBlock 2 (kSeq (fun s => Rf38_j13003 (cutTo VG0238 (some [(6, .plain)]) s)) (kFin VG0238 0 (Tryd.f38).results.toList))) = f38_n10111111010 F (fun w => Rf38_j13003 (ef38_j13003 w)) v :=
  loop_cut (c := (sub (bodyOf Tryd.f38) [1, 0, 1, 1, 1, 1, 1, 1, 0, 1, 0])) (d := (sub (bodyOf Tryd.f38) [1, 0, 1, 1, 1, 1, 1, 1, 0, 1, 0, 0])) (by kernel_rfl) (spec := [(3, .plain), (4, .plain), (6, .plain), (7, .plain)]) (by kernel_rfl) ef38_j10012 ef38_l10010 (kBlock 2 (kSeq (fun s => Rf38_j13003 (cutTo VG0238 (some [(6, .plain)]) s)) (kFin VG0238 0 (Tryd.f38).results.toList))) f38_n10111111010_i (fun k => f38_n101111110100 F k (fun w => Rf38_j13003 (ef38_j13003 w)))
    (by rintro ⟨t3, t4, t7, x4⟩; kernel_rfl) (fun Rf38_l10010 => f38_n101111110100_eq F Rf38_l10010 Rf38_j13003)
def f38_n1011111101 (F : Nat) (kf38_j13003 : (List Int) → Option (AV × List Blk)) : Int × Int × Int × (List Int) → Option (AV × List Blk) := f38_n10111111010 F kf38_j13003
theorem f38_n1011111101_eq (F : Nat) (Rf38_j13003 : St → Option (AV × List Blk)) : ∀ v, aexec VG0238 (Af38 F) (sub (bodyOf Tryd.f38) [1, 0, 1, 1, 1, 1, 1, 1, 0, 1]) (ef38_j10012 v) (kSeq (fun s => Rf38_j13003 (cutTo VG0238 (some [(6, .plain)]) s)) (kFin VG0238 0 (Tryd.f38).results.toList)) = f38_n1011111101 F (fun w => Rf38_j13003 (ef38_j13003 w)) v := fun v =>
  (block_in (c := (sub (bodyOf Tryd.f38) [1, 0, 1, 1, 1, 1, 1, 1, 0, 1])) (d := (sub (bodyOf Tryd.f38) [1, 0, 1, 1, 1, 1, 1, 1, 0, 1, 0])) (id := 2) (by kernel_rfl) _ _).trans (f38_n10111111010_eq F Rf38_j13003 v)
def f38_n101111110 (F : Nat) (kf38_j13003 : (List Int) → Option (AV × List Blk)) : Int × Int × Int × (List Int) → Option (AV × List Blk) := fun v => f38_n1011111100 F (f38_n1011111101 F kf38_j13003) kf38_j13003 v
theorem f38_n101111110_eq (F : Nat) (Rf38_j13003 : St → Option (AV × List Blk)) : ∀ v, aexec VG0238 (Af38 F) (sub (bodyOf Tryd.f38) [1, 0, 1, 1, 1, 1, 1, 1, 0]) (ef38_j9018 v) (kSeq (fun s => Rf38_j13003 (cutTo VG0238 (some [(6, .plain)]) s)) (kFin VG0238 0 (Tryd.f38).results.toList)) = f38_n101111110 F (fun w => Rf38_j13003 (ef38_j13003 w)) v :=
  seq_cut (c := (sub (bodyOf Tryd.f38) [1, 0, 1, 1, 1, 1, 1, 1, 0])) (a := (sub (bodyOf Tryd.f38) [1, 0, 1, 1, 1, 1, 1, 1, 0, 0])) (b := (sub (bodyOf Tryd.f38) [1, 0, 1, 1, 1, 1, 1, 1, 0, 1])) (by kernel_rfl) (spec := [(3, .plain), (4, .plain), (6, .plain), (7, .plain)]) (by kernel_rfl) ef38_j9018 ef38_j10012 (kSeq (fun s => Rf38_j13003 (cutTo VG0238 (some [(6, .plain)]) s)) (kFin VG0238 0 (Tryd.f38).results.toList)) (fun k => f38_n1011111100 F k (fun w => Rf38_j13003 (ef38_j13003 w))) (f38_n1011111101 F (fun w => Rf38_j13003 (ef38_j13003 w)))
    (fun Rf38_j10012 => f38_n1011111100_eq F Rf38_j10012 Rf38_j13003) (f38_n1011111101_eq F Rf38_j13003)
def f38_n101111111 (F : Nat) : (List Int) → Option (AV × List Blk) := fun x1 => (some ((.own 0 0 1), [(.cells x1.length (.rI .u8 x1) true)]))
theorem f38_n101111111_eq (F : Nat) : ∀ v, aexec VG0238 (Af38 F) (sub (bodyOf Tryd.f38) [1, 0, 1, 1, 1, 1, 1, 1, 1]) (ef38_j13003 v) (kFin VG0238 0 (Tryd.f38).results.toList) = f38_n101111111 F v := by
  intro x1; kernel_rfl
def f38_n10111111 (F : Nat) : Int × Int × Int × (List Int) → Option (AV × List Blk) := fun v => f38_n101111110 F (f38_n101111111 F) v
theorem f38_n10111111_eq (F : Nat) : ∀ v, aexec VG0238 (Af38 F) (sub (bodyOf Tryd.f38) [1, 0, 1, 1, 1, 1, 1, 1]) (ef38_j9018 v) (kFin VG0238 0 (Tryd.f38).results.toList) = f38_n10111111 F v :=
  seq_cut (c := (sub (bodyOf Tryd.f38) [1, 0, 1, 1, 1, 1, 1, 1])) (a := (sub (bodyOf Tryd.f38) [1, 0, 1, 1, 1, 1, 1, 1, 0])) (b := (sub (bodyOf Tryd.f38) [1, 0, 1, 1, 1, 1, 1, 1, 1])) (by kernel_rfl) (spec := [(6, .plain)]) (by kernel_rfl) ef38_j9018 ef38_j13003 (kFin VG0238 0 (Tryd.f38).results.toList) (fun k => f38_n101111110 F k) (f38_n101111111 F)
    (fun Rf38_j13003 => f38_n101111110_eq F Rf38_j13003) (f38_n101111111_eq F)
def f38_n1011111 (F : Nat) : Int × Int × Int → Option (AV × List Blk) := fun v => f38_n10111110 F (f38_n10111111 F) v
theorem f38_n1011111_eq (F : Nat) : ∀ v, aexec VG0238 (Af38 F) (sub (bodyOf Tryd.f38) [1, 0, 1, 1, 1, 1, 1]) (ef38_j8020 v) (kFin VG0238 0 (Tryd.f38).results.toList) = f38_n1011111 F v :=
  seq_cut (c := (sub (bodyOf Tryd.f38) [1, 0, 1, 1, 1, 1, 1])) (a := (sub (bodyOf Tryd.f38) [1, 0, 1, 1, 1, 1, 1, 0])) (b := (sub (bodyOf Tryd.f38) [1, 0, 1, 1, 1, 1, 1, 1])) (by kernel_rfl) (spec := [(3, .plain), (4, .plain), (5, .plain), (6, .plain)]) (by kernel_rfl) ef38_j8020 ef38_j9018 (kFin VG0238 0 (Tryd.f38).results.toList) (fun k => f38_n10111110 F k) (f38_n10111111 F)
    (fun Rf38_j9018 => f38_n10111110_eq F Rf38_j9018) (f38_n10111111_eq F)
def f38_n101111 (F : Nat) : Int × Int × Int → Option (AV × List Blk) := fun v => f38_n1011110 F (f38_n1011111 F) v
theorem f38_n101111_eq (F : Nat) : ∀ v, aexec VG0238 (Af38 F) (sub (bodyOf Tryd.f38) [1, 0, 1, 1, 1, 1]) (ef38_j5037 v) (kFin VG0238 0 (Tryd.f38).results.toList) = f38_n101111 F v :=
  seq_cut (c := (sub (bodyOf Tryd.f38) [1, 0, 1, 1, 1, 1])) (a := (sub (bodyOf Tryd.f38) [1, 0, 1, 1, 1, 1, 0])) (b := (sub (bodyOf Tryd.f38) [1, 0, 1, 1, 1, 1, 1])) (by kernel_rfl) (spec := [(3, .plain), (4, .plain), (5, .plain)]) (by kernel_rfl) ef38_j5037 ef38_j8020 (kFin VG0238 0 (Tryd.f38).results.toList) (fun k => f38_n1011110 F k) (f38_n1011111 F)
    (fun Rf38_j8020 => f38_n1011110_eq F Rf38_j8020) (f38_n1011111_eq F)
def f38_n10111 (F : Nat) : Int × Int × Int → Option (AV × List Blk) := fun v => f38_n101110 F (f38_n101111 F) v
theorem f38_n10111_eq (F : Nat) : ∀ v, aexec VG0238 (Af38 F) (sub (bodyOf Tryd.f38) [1, 0, 1, 1, 1]) (ef38_j5039 v) (kFin VG0238 0 (Tryd.f38).results.toList) = f38_n10111 F v :=
  seq_cut (c := (sub (bodyOf Tryd.f38) [1, 0, 1, 1, 1])) (a := (sub (bodyOf Tryd.f38) [1, 0, 1, 1, 1, 0])) (b := (sub (bodyOf Tryd.f38) [1, 0, 1, 1, 1, 1])) (by kernel_rfl) (spec := [(3, .plain), (4, .plain), (5, .plain)]) (by kernel_rfl) ef38_j5039 ef38_j5037 (kFin VG0238 0 (Tryd.f38).results.toList) (fun k => f38_n101110 F k) (f38_n101111 F)
    (fun Rf38_j5037 => f38_n101110_eq F Rf38_j5037) (f38_n101111_eq F)
def f38_n1011 (F : Nat) : Int × Int → Option (AV × List Blk) := fun v => f38_n10110 F (f38_n10111 F) v
theorem f38_n1011_eq (F : Nat) : ∀ v, aexec VG0238 (Af38 F) (sub (bodyOf Tryd.f38) [1, 0, 1, 1]) (ef38_j4041 v) (kFin VG0238 0 (Tryd.f38).results.toList) = f38_n1011 F v :=
  seq_cut (c := (sub (bodyOf Tryd.f38) [1, 0, 1, 1])) (a := (sub (bodyOf Tryd.f38) [1, 0, 1, 1, 0])) (b := (sub (bodyOf Tryd.f38) [1, 0, 1, 1, 1])) (by kernel_rfl) (spec := [(3, .plain), (4, .plain), (5, .plain)]) (by kernel_rfl) ef38_j4041 ef38_j5039 (kFin VG0238 0 (Tryd.f38).results.toList) (fun k => f38_n10110 F k) (f38_n10111 F)
    (fun Rf38_j5039 => f38_n10110_eq F Rf38_j5039) (f38_n10111_eq F)
def f38_n101 (F : Nat) : Int × Int × Int → Option (AV × List Blk) := fun v => f38_n1010 F (f38_n1011 F) v
theorem f38_n101_eq (F : Nat) : ∀ v, aexec VG0238 (Af38 F) (sub (bodyOf Tryd.f38) [1, 0, 1]) (ef38_j2047 v) (kFin VG0238 0 (Tryd.f38).results.toList) = f38_n101 F v :=
  seq_cut (c := (sub (bodyOf Tryd.f38) [1, 0, 1])) (a := (sub (bodyOf Tryd.f38) [1, 0, 1, 0])) (b := (sub (bodyOf Tryd.f38) [1, 0, 1, 1])) (by kernel_rfl) (spec := [(3, .plain), (4, .plain)]) (by kernel_rfl) ef38_j2047 ef38_j4041 (kFin VG0238 0 (Tryd.f38).results.toList) (fun k => f38_n1010 F k) (f38_n1011 F)
    (fun Rf38_j4041 => f38_n1010_eq F Rf38_j4041) (f38_n1011_eq F)
def f38_n10 (F : Nat) : Int → Option (AV × List Blk) := fun v => f38_n100 F (f38_n101 F) v
theorem f38_n10_eq (F : Nat) : ∀ v, aexec VG0238 (Af38 F) (sub (bodyOf Tryd.f38) [1, 0]) (ef38_j1050 v) (kFin VG0238 0 (Tryd.f38).results.toList) = f38_n10 F v :=
  seq_cut (c := (sub (bodyOf Tryd.f38) [1, 0])) (a := (sub (bodyOf Tryd.f38) [1, 0, 0])) (b := (sub (bodyOf Tryd.f38) [1, 0, 1])) (by kernel_rfl) (spec := [(0, .plain), (3, .plain), (4, .plain)]) (by kernel_rfl) ef38_j1050 ef38_j2047 (kFin VG0238 0 (Tryd.f38).results.toList) (fun k => f38_n100 F k) (f38_n101 F)
    (fun Rf38_j2047 => f38_n100_eq F Rf38_j2047) (f38_n101_eq F)
def f38_n1 (F : Nat) : Int → Option (AV × List Blk) := f38_n10 F
theorem f38_n1_eq (F : Nat) : ∀ v, aexec VG0238 (Af38 F) (sub (bodyOf Tryd.f38) [1]) (ef38_j1050 v) (kFin VG0238 0 (Tryd.f38).results.toList) = f38_n1 F v := fun v =>
  (scope_in (c := (sub (bodyOf Tryd.f38) [1])) (d := (sub (bodyOf Tryd.f38) [1, 0])) (by kernel_rfl) _ _).trans (f38_n10_eq F v)
def f38_nt (F : Nat) : Int → Option (AV × List Blk) := fun v => f38_n0 F (f38_n1 F) v
theorem f38_nt_eq (F : Nat) : ∀ v, aexec VG0238 (Af38 F) (sub (bodyOf Tryd.f38) []) (ef38_a v) (kFin VG0238 0 (Tryd.f38).results.toList) = f38_nt F v :=
  seq_cut (c := (sub (bodyOf Tryd.f38) [])) (a := (sub (bodyOf Tryd.f38) [0])) (b := (sub (bodyOf Tryd.f38) [1])) (by kernel_rfl) (spec := [(0, .plain)]) (by kernel_rfl) ef38_a ef38_j1050 (kFin VG0238 0 (Tryd.f38).results.toList) (fun k => f38_n0 F k) (f38_n1 F)
    (fun Rf38_j1050 => f38_n0_eq F Rf38_j1050) (f38_n1_eq F)
/-- gantry/wire.Int -/
def f38 (F : Nat) : Int → Option (AV × List Blk) := f38_nt F
theorem f38_body (F : Nat) (a0 : Int) : abody VG0238 (Af38 F) Tryd.f38 [(.int .i64 a0)] [] = f38 F a0 :=
  (abody_in (c := (sub (bodyOf Tryd.f38) [])) (by kernel_rfl) (s := ef38_a a0) (by kernel_rfl)).trans (f38_nt_eq F a0)
def r38 : CRun := fun X H => match X, H with
  | [(.int .i64 a0)], [] => some (true, (.own 0 0 1), [(.cells (Wire.int a0).length (.rI .u8 (Wire.int a0)) true)])
  | _, _ => none
theorem s38 (a0 : Int) (h0 : okV (.int .i64 a0)) : ∃ F, f38 F a0 = some ((.own 0 0 1), [(.cells (Wire.int a0).length (.rI .u8 (Wire.int a0)) true)]) := by
  have hm := Wire.mag_lt h0
  have h0' : -9223372036854775808 ≤ a0 ∧ a0 ≤ 9223372036854775807 := h0
  have hk8 := Wire.nb_le (Wire.mag a0)
  refine ⟨10, ?_⟩
  simp only [f38, f38_nt, f38_n0, f38_n1, f38_n10, f38_n100, f38_n101, f38_n1010]
  -- the number and the mask
  have key : ∀ fl : Int, fl = (if a0 < 0 then 255 else 0) → f38_n1011 10 ((Wire.mag a0 : Nat), fl) = some ((.own 0 0 1), [(.cells (Wire.int a0).length (.rI .u8 (Wire.int a0)) true)]) := by
    intro fl hfl
    simp only [f38_n1011, f38_n10110, f38_n10111, f38_n101110, f38_n101111, f38_n1011110, f38_n10111100, f38_n10111100_i]
    generalize hM : Wire.mag a0 = m at *
    refine loopN_from (fun i => ((m : Int), fl, (8 : Int) - i)) (8 - Wire.nb m) (by rfl) (fun i hi k => ?_) (fun k => ?_) 10 (by omega)
    · simp only [f38_n101111000]
      rw [i64w (x := 8 - (i : Int) - 1) (by omega) (by omega), i64w (x := 8 * (8 - (i : Int) - 1)) (by omega) (by omega), cond_pos (by omega), cond_pos (by omega),
        show min (8 * (8 - (i : Int) - 1)).toNat 64 = 8 * (7 - i) by omega, shr_nat, pow256, (Wire.nb_shift (show m < 18446744073709551616 by omega)).mpr (show Wire.nb m ≤ 7 - i by omega), cond_neg (by decide)]
      rw [show (8 : Int) - (i : Int) - 1 = 8 - ((i + 1 : Nat) : Int) by omega]
    · have hkk : (8 : Int) - ((8 - Wire.nb m : Nat) : Int) = (Wire.nb m : Int) := by omega
      rw [hkk]
      generalize hK : Wire.nb m = kk at *
      have e1 : f38_n101111000 10 k (f38_n1011111 10) ((m : Int), fl, (kk : Int)) = f38_n1011111 10 ((m : Int), fl, (kk : Int)) := by
        simp only [f38_n101111000]
        by_cases hz : kk = 0
        · rw [cond_neg (by omega)]
        · rw [i64w (x := (kk : Int) - 1) (by omega) (by omega), i64w (x := 8 * ((kk : Int) - 1)) (by omega) (by omega), cond_pos (by omega), cond_pos (by omega),
            show min (8 * ((kk : Int) - 1)).toNat 64 = 8 * (kk - 1) by omega, shr_nat, pow256]
          have : ¬ (m / 256 ^ (kk - 1) = 0) := by
            rw [Wire.nb_shift (show m < 18446744073709551616 by omega), hK]; omega
          generalize m / 256 ^ (kk - 1) = q at *
          rw [cond_pos (by omega)]
      rw [e1]
      simp only [f38_n1011111, f38_n10111110, f38_n10111111, f38_n101111110, f38_n1011111100, f38_n1011111101, f38_n10111111010, f38_n10111111010_i]
      have hd : ∀ i, ibits .xor .u8 (IntKind.u8.wrap ((m / 256 ^ i : Nat) : Int)) fl = Wire.dig a0 i := by
        intro i
        unfold Wire.dig
        rw [hM, u8mod, hfl]
        split
        · rw [xor8_255 _ (by omega) (by omega)]; omega
        · rw [xor8_0 _ (by omega) (by omega)]; omega
      have hh : ibits .xor .u8 (IntKind.u8.wrap (IntKind.i64.wrap (128 + (kk : Int)))) fl = Wire.head a0 := by
        unfold Wire.head
        rw [hM, hK, i64w (by omega) (by omega), u8w (by omega) (by omega), hfl]
        split
        · rw [xor8_255 _ (by omega) (by omega)]; omega
        · rw [xor8_0 _ (by omega) (by omega)]
      rw [hh, i64w (x := (kk : Int) - 1) (by omega) (by omega)]
      refine loopN_from (fun j => ((m : Int), fl, (kk : Int) - 1 - j, Wire.head a0 :: (List.range j).map fun j => Wire.dig a0 (kk - 1 - j))) kk (by simp) (fun j hj k' => ?_) (fun k' => ?_) 10 (by omega)
      · simp only [f38_n101111110100, List.length_cons, List.length_map, List.length_range]
        rw [i64w (x := 8 * ((kk : Int) - 1 - j)) (by omega) (by omega), i64w (x := (kk : Int) - 1 - (j : Int) - 1) (by omega) (by omega), cond_pos (by omega), cond_pos (by omega), cond_pos (by omega),
          show min (8 * ((kk : Int) - 1 - j)).toNat 64 = 8 * (kk - 1 - j) by omega, shr_nat, pow256, hd, List.range_succ, List.map_append]
        rw [show (kk : Int) - 1 - (j : Int) - 1 = (kk : Int) - 1 - ((j + 1 : Nat) : Int) by omega]
        rfl
      · simp only [f38_n101111110100]
        rw [cond_neg (by omega)]
        simp only [f38_n101111111]
        have : Wire.int a0 = Wire.head a0 :: (List.range kk).map fun j => Wire.dig a0 (kk - 1 - j) := by unfold Wire.int; rw [hM, hK]
        rw [this]
  by_cases hn : a0 < 0
  · rw [cond_pos hn]
    have : ibits .xor .u64 (18446744073709551615 : Int) (IntKind.u64.wrap a0) = ((Wire.mag a0 : Nat) : Int) := by
      rw [not64 _ (by rw [u64mod]; omega) (by rw [u64mod]; omega), u64mod]
      unfold Wire.mag; rw [if_pos hn]; omega
    rw [this]
    exact key 255 (by rw [if_pos hn])
  · rw [cond_neg hn]
    have : IntKind.u64.wrap a0 = ((Wire.mag a0 : Nat) : Int) := by
      rw [u64w (by omega) (by omega)]; unfold Wire.mag; rw [if_neg hn]; omega
    rw [this]
    exact key 0 (by rw [if_neg hn])

theorem c38 : CallOk Tryd.prog G02 38 r38 := callOk_of (V := VG0238) mixed tys eVG0238 (f := 38) (fn := Tryd.f38) Tryd.func38 (by kernel_rfl) (c := sub (bodyOf Tryd.f38) []) (by kernel_rfl) (by
  intro X H r H' h hX hH
  unfold r38 at h; split at h <;> try contradiction
  simp only [Option.some.injEq, Prod.mk.injEq] at h
  obtain ⟨hp, rfl, rfl⟩ := h
  obtain ⟨F, hF⟩ := s38 _ (hX _ (.head _))
  exact ⟨Af38 F, (f38_body F _).trans hF⟩)
/-! gantry/wire.Bytes -/
def lVG0233 : List CEnt := [(38, [none], r38)]
def VG0233 : Env := mkEnv T02 G02 lVG0233
theorem eVG0233 : EOk Tryd.prog VG0233 := eok_mk (by exact ⟨c38, trivial⟩)
def Af33 (F : Nat) : Cuts := { F := F, at_ := fun _ => none, join := fun _ => none }
def ef33_a : (List Int) → St := fun a0 => { tmps := [(0, (.str a0))], heap := [], next := 0, nt := 8, m := 0 }
def f33_nt (F : Nat) : (List Int) → Option (AV × List Blk) := fun a0 => (cond (decide (((Wire.int (↑a0.length : Int)).length + a0.length) < 1073741824)) (some ((.own 0 0 1), [(.cells ((Wire.int (↑a0.length : Int)) ++ a0).length (.rI .u8 ((Wire.int (↑a0.length : Int)) ++ a0)) true)])) none)
theorem f33_nt_eq (F : Nat) : ∀ v, aexec VG0233 (Af33 F) (sub (bodyOf Tryd.f33) []) (ef33_a v) (kFin VG0233 0 (Tryd.f33).results.toList) = f33_nt F v := by
  intro a0; kernel_rfl
/-- gantry/wire.Bytes -/
def f33 (F : Nat) : (List Int) → Option (AV × List Blk) := f33_nt F
theorem f33_body (F : Nat) (a0 : List Int) : abody VG0233 (Af33 F) Tryd.f33 [(.str a0)] [] = f33 F a0 :=
  (abody_in (c := (sub (bodyOf Tryd.f33) [])) (by kernel_rfl) (s := ef33_a a0) (by kernel_rfl)).trans (f33_nt_eq F a0)
def r33 : CRun := fun X H => match X, H with
  | [(.str a0)], [] => some ((decide (a0.length < 1073741800)), (.own 0 0 1), [(.cells (Wire.bytes a0).length (.rI .u8 (Wire.bytes a0)) true)])
  | _, _ => none
theorem s33 (a0 : List Int) (hp : ((decide (a0.length < 1073741800))) = true) (h0 : okV (.str a0)) : ∃ F, f33 F a0 = some ((.own 0 0 1), [(.cells (Wire.bytes a0).length (.rI .u8 (Wire.bytes a0)) true)]) := by
  have hl : a0.length < 1073741800 := of_decide_eq_true hp
  have := Wire.nb_le (Wire.mag (a0.length : Int))
  refine ⟨0, ?_⟩
  simp only [f33, f33_nt]
  rw [cond_pos (by rw [Wire.int_len]; omega)]
  rfl

theorem c33 : CallOk Tryd.prog G02 33 r33 := callOk_of (V := VG0233) mixed tys eVG0233 (f := 33) (fn := Tryd.f33) Tryd.func33 (by kernel_rfl) (c := sub (bodyOf Tryd.f33) []) (by kernel_rfl) (by
  intro X H r H' h hX hH
  unfold r33 at h; split at h <;> try contradiction
  simp only [Option.some.injEq, Prod.mk.injEq] at h
  obtain ⟨hp, rfl, rfl⟩ := h
  obtain ⟨F, hF⟩ := s33 _ hp (hX _ (.head _))
  exact ⟨Af33 F, (f33_body F _).trans hF⟩)
/-! gantry/hash.Mac$1 -/
def lVG0231 : List CEnt := []
def VG0231 : Env := mkEnv T02 G02 lVG0231
theorem eVG0231 : EOk Tryd.prog VG0231 := eok_mk (by exact trivial)
def Af31 (F : Nat) : Cuts := { F := F, at_ := fun n => match n with | 4012 => some [(0, .plain), (4, .plain), (9, .plain)] | _ => none, join := fun n => match n with | 1024 => some [(0, .plain), (1, .plain)] | 2022 => some [(0, .plain), (1, .plain), (4, .plain)] | 3020 => some [(0, .plain), (4, .plain)] | 4014 => some [(0, .plain), (4, .plain), (9, .plain)] | 8003 => some [(4, .plain)] | _ => none }
def ef31_a : Int × (List Int) → St := fun (a0, a1) => { tmps := [(0, (.int .u8 a0)), (1, (.ptr 0 0 1 0 0 0 1))], heap := [(0, (.cells 1 (.one (.str a1)) true))], next := 1, nt := 21, m := 1 }
def ef31_j1024 : Int × (List Int) → St := fun (t0, x2) => { tmps := [(0, (.int .u8 t0)), (1, (.ptr 0 0 1 0 0 0 1))], heap := [(0, (.cells 1 (.one (.str x2)) true))], next := 1, nt := 21, m := 1 }
def ef31_j2022 : Int × (List Int) × (List Int) → St := fun (t0, x2, x3) => { tmps := [(0, (.int .u8 t0)), (1, (.ptr 0 0 1 0 0 0 1)), (4, (.ptr 1 0 64 0 0 0 64))], heap := [(0, (.cells 1 (.one (.str x2)) true)), (1, (.cells 64 (.rI .u8 x3) true))], next := 2, nt := 21, m := 1 }
def ef31_j3020 : Int × (List Int) × (List Int) → St := fun (t0, x2, x3) => { tmps := [(0, (.int .u8 t0)), (4, (.ptr 1 0 64 0 0 0 64))], heap := [(0, (.cells 1 (.one (.str x2)) true)), (1, (.cells 64 (.rI .u8 x3) true))], next := 2, nt := 21, m := 1 }
def ef31_j4014 : Int × Int × (List Int) × (List Int) → St := fun (t0, t9, x3, x4) => { tmps := [(0, (.int .u8 t0)), (4, (.ptr 1 0 64 0 0 0 64)), (9, (.int .i64 t9))], heap := [(0, (.cells 1 (.one (.str x3)) true)), (1, (.cells 64 (.rI .u8 x4) true))], next := 2, nt := 21, m := 1 }
def ef31_l4012 : Int × Int × (List Int) × (List Int) → St := fun (t0, t9, x3, x4) => { tmps := [(0, (.int .u8 t0)), (4, (.ptr 1 0 64 0 0 0 64)), (9, (.int .i64 t9))], heap := [(0, (.cells 1 (.one (.str x3)) true)), (1, (.cells 64 (.rI .u8 x4) true))], next := 2, nt := 21, m := 1 }
def ef31_j8003 : (List Int) × (List Int) → St := fun (x1, x2) => { tmps := [(4, (.ptr 1 0 64 0 0 0 64))], heap := [(0, (.cells 1 (.one (.str x1)) true)), (1, (.cells 64 (.rI .u8 x2) true))], next := 2, nt := 21, m := 1 }
def f31_n0 (F : Nat) (kf31_j1024 : Int × (List Int) → Option (AV × List Blk)) : Int × (List Int) → Option (AV × List Blk) := fun (a0, a1) => (kf31_j1024 (a0, a1))
theorem f31_n0_eq (F : Nat) (Rf31_j1024 : St → Option (AV × List Blk)) : ∀ v, aexec VG0231 (Af31 F) (sub (bodyOf Tryd.f31) [0]) (ef31_a v) (kSeq (fun s => Rf31_j1024 (cutTo VG0231 (some [(0, .plain), (1, .plain)]) s)) (kFin VG0231 1 (Tryd.f31).results.toList)) = f31_n0 F (fun w => Rf31_j1024 (ef31_j1024 w)) v := by
  rintro ⟨a0, a1⟩; kernel_rfl
def f31_n10 (F : Nat) (kf31_j2022 : Int × (List Int) × (List Int) → Option (AV × List Blk)) : Int × (List Int) → Option (AV × List Blk) := fun (t0, x2) => (kf31_j2022 (t0, x2, (List.replicate 64 0)))
theorem f31_n10_eq (F : Nat) (Rf31_j2022 : St → Option (AV × List Blk)) : ∀ v, aexec VG0231 (Af31 F) (sub (bodyOf Tryd.f31) [1, 0]) (ef31_j1024 v) (kSeq (fun s => Rf31_j2022 (cutTo VG0231 (some [(0, .plain), (1, .plain), (4, .plain)]) s)) (kFin VG0231 1 (Tryd.f31).results.toList)) = f31_n10 F (fun w => Rf31_j2022 (ef31_j2022 w)) v := by
  rintro ⟨t0, x2⟩; kernel_rfl
def f31_n110 (F : Nat) (kf31_j3020 : Int × (List Int) × (List Int) → Option (AV × List Blk)) : Int × (List Int) × (List Int) → Option (AV × List Blk) := fun (t0, x2, x3) => (kf31_j3020 (t0, x2, (x3.take 0 ++ (x2.take (min x2.length 64)) ++ x3.drop (0 + (min x2.length 64)))))
theorem f31_n110_eq (F : Nat) (Rf31_j3020 : St → Option (AV × List Blk)) : ∀ v, aexec VG0231 (Af31 F) (sub (bodyOf Tryd.f31) [1, 1, 0]) (ef31_j2022 v) (kSeq (fun s => Rf31_j3020 (cutTo VG0231 (some [(0, .plain), (4, .plain)]) s)) (kFin VG0231 1 (Tryd.f31).results.toList)) = f31_n110 F (fun w => Rf31_j3020 (ef31_j3020 w)) v := by
  rintro ⟨t0, x2, x3⟩; kernel_rfl
def f31_n11100 (F : Nat) (kf31_j4014 : Int × Int × (List Int) × (List Int) → Option (AV × List Blk)) (kf31_j8003 : (List Int) × (List Int) → Option (AV × List Blk)) : Int × (List Int) × (List Int) → Option (AV × List Blk) := fun (t0, x2, x3) => (kf31_j4014 (t0, (0 : Int), x2, x3))
theorem f31_n11100_eq (F : Nat) (Rf31_j4014 : St → Option (AV × List Blk)) (Rf31_j8003 : St → Option (AV × List Blk)) : ∀ v, aexec VG0231 (Af31 F) (sub (bodyOf Tryd.f31) [1, 1, 1, 0, 0]) (ef31_j3020 v) (kSeq (fun s => Rf31_j4014 (cutTo VG0231 (some [(0, .plain), (4, .plain), (9, .plain)]) s)) (kSeq (fun s => Rf31_j8003 (cutTo VG0231 (some [(4, .plain)]) s)) (kFin VG0231 1 (Tryd.f31).results.toList))) = f31_n11100 F (fun w => Rf31_j4014 (ef31_j4014 w)) (fun w => Rf31_j8003 (ef31_j8003 w)) v := by
  rintro ⟨t0, x2, x3⟩; kernel_rfl
def f31_n1110100 (F : Nat) (kf31_l4012 : Int × Int × (List Int) × (List Int) → Option (AV × List Blk)) (kf31_j8003 : (List Int) × (List Int) → Option (AV × List Blk)) : Int × Int × (List Int) × (List Int) → Option (AV × List Blk) := fun (t0, t9, x3, x4) => (cond (decide (t9 < (64 : Int))) (cond ((decide (0 ≤ t9)) && (decide (t9 < (64 : Int)))) (cond ((decide (0 ≤ t9)) && (decide (t9 < (64 : Int)))) (kf31_l4012 (t0, (IntKind.i64.wrap (t9 + (1 : Int))), x3, (x4.set (Int.toNat t9) (ibits .xor .u8 (x4.getD (Int.toNat t9) 0) t0)))) none) none) (kf31_j8003 (x3, x4)))
theorem f31_n1110100_eq (F : Nat) (Rf31_l4012 : St → Option (AV × List Blk)) (Rf31_j8003 : St → Option (AV × List Blk)) : ∀ v, aexec VG0231 (Af31 F) (sub (bodyOf Tryd.f31) [1, 1, 1, 0, 1, 0, 0]) (ef31_l4012 v) (kSeq (fun s => Rf31_l4012 (cutTo VG0231 (some [(0, .plain), (4, .plain), (9, .plain)]) s)) (kBlock 0 (kSeq (fun s => Rf31_j8003 (cutTo VG0231 (some [(4, .plain)]) s)) (kFin VG0231 1 (Tryd.f31).results.toList)))) = f31_n1110100 F (fun w => Rf31_l4012 (ef31_l4012 w)) (fun w => Rf31_j8003 (ef31_j8003 w)) v := by
  rintro ⟨t0, t9, x3, x4⟩; kernel_rfl
def f31_n111010_i : Int × Int × (List Int) × (List Int) → Int × Int × (List Int) × (List Int) := fun (t0, t9, x3, x4) => (t0, t9, x3, x4)
def f31_n111010 (F : Nat) (kf31_j8003 : (List Int) × (List Int) → Option (AV × List Blk)) : Int × Int × (List Int) × (List Int) → Option (AV × List Blk) := fun v => loopN (fun k => f31_n1110100 F k kf31_j8003) F (f31_n111010_i v)
theorem f31_n111010_eq (F : Nat) (Rf31_j8003 : St → Option (AV × List Blk)) : ∀ v, aexec VG0231 (Af31 F) (sub (bodyOf Tryd.f31) [1, 1, 1, 0, 1, 0]) (ef31_j4014 v) (kBlock 0 (kSeq (fun s => Rf31_j8003 (cutTo VG0231 (some [(4, .plain)]) s)) (kFin VG0231 1 (Tryd.f31).results.toList))) = f31_n111010 F (fun w => Rf31_j8003 (ef31_j8003 w)) v :=
  loop_cut (c := (sub (bodyOf Tryd.f31) [1, 1, 1, 0, 1, 0])) (d := (sub (bodyOf Tryd.f31) [1, 1, 1, 0, 1, 0, 0])) (by kernel_rfl) (spec := [(0, .plain), (4, .plain), (9, .plain)]) (by kernel_rfl) ef31_j4014 ef31_l4012 (kBlock 0 (kSeq (fun s => Rf31_j8003 (cutTo VG0231 (some [(4, .plain)]) s)) (kFin VG0231 1 (Tryd.f31).results.toList))) f31_n111010_i (fun k => f31_n1110100 F k (fun w => Rf31_j8003 (ef31_j8003 w)))
    (by rintro ⟨t0, t9, x3, x4⟩; kernel_rfl) (fun Rf31_l4012 => f31_n1110100_eq F Rf31_l4012 Rf31_j8003)
def f31_n11101 (F : Nat) (kf31_j8003 : (List Int) × (List Int) → Option (AV × List Blk)) : Int × Int × (List Int) × (List Int) → Option (AV × List Blk) := f31_n111010 F kf31_j8003
theorem f31_n11101_eq (F : Nat) (Rf31_j8003 : St → Option (AV × List Blk)) : ∀ v, aexec VG0231 (Af31 F) (sub (bodyOf Tryd.f31) [1, 1, 1, 0, 1]) (ef31_j4014 v) (kSeq (fun s => Rf31_j8003 (cutTo VG0231 (some [(4, .plain)]) s)) (kFin VG0231 1 (Tryd.f31).results.toList)) = f31_n11101 F (fun w => Rf31_j8003 (ef31_j8003 w)) v := fun v =>
  (block_in (c := (sub (bodyOf Tryd.f31) [1, 1, 1, 0, 1])) (d := (sub (bodyOf Tryd.f31) [1, 1, 1, 0, 1, 0])) (id := 0) (by kernel_rfl) _ _).trans (f31_n111010_eq F Rf31_j8003 v)
def f31_n1110 (F : Nat) (kf31_j8003 : (List Int) × (List Int) → Option (AV × List Blk)) : Int × (List Int) × (List Int) → Option (AV × List Blk) := fun v => f31_n11100 F (f31_n11101 F kf31_j8003) kf31_j8003 v
theorem f31_n1110_eq (F : Nat) (Rf31_j8003 : St → Option (AV × List Blk)) : ∀ v, aexec VG0231 (Af31 F) (sub (bodyOf Tryd.f31) [1, 1, 1, 0]) (ef31_j3020 v) (kSeq (fun s => Rf31_j8003 (cutTo VG0231 (some [(4, .plain)]) s)) (kFin VG0231 1 (Tryd.f31).results.toList)) = f31_n1110 F (fun w => Rf31_j8003 (ef31_j8003 w)) v :=
  seq_cut (c := (sub (bodyOf Tryd.f31) [1, 1, 1, 0])) (a := (sub (bodyOf Tryd.f31) [1, 1, 1, 0, 0])) (b := (sub (bodyOf Tryd.f31) [1, 1, 1, 0, 1])) (by kernel_rfl) (spec := [(0, .plain), (4, .plain), (9, .plain)]) (by kernel_rfl) ef31_j3020 ef31_j4014 (kSeq (fun s => Rf31_j8003 (cutTo VG0231 (some [(4, .plain)]) s)) (kFin VG0231 1 (Tryd.f31).results.toList)) (fun k => f31_n11100 F k (fun w => Rf31_j8003 (ef31_j8003 w))) (f31_n11101 F (fun w => Rf31_j8003 (ef31_j8003 w)))
    (fun Rf31_j4014 => f31_n11100_eq F Rf31_j4014 Rf31_j8003) (f31_n11101_eq F Rf31_j8003)
def f31_n1111 (F : Nat) : (List Int) × (List Int) → Option (AV × List Blk) := fun (x1, x2) => (some ((.str (x2.take 64)), [(.cells 1 (.one (.str x1)) true)]))
theorem f31_n1111_eq (F : Nat) : ∀ v, aexec VG0231 (Af31 F) (sub (bodyOf Tryd.f31) [1, 1, 1, 1]) (ef31_j8003 v) (kFin VG0231 1 (Tryd.f31).results.toList) = f31_n1111 F v := by
  rintro ⟨x1, x2⟩; kernel_rfl
def f31_n111 (F : Nat) : Int × (List Int) × (List Int) → Option (AV × List Blk) := fun v => f31_n1110 F (f31_n1111 F) v
theorem f31_n111_eq (F : Nat) : ∀ v, aexec VG0231 (Af31 F) (sub (bodyOf Tryd.f31) [1, 1, 1]) (ef31_j3020 v) (kFin VG0231 1 (Tryd.f31).results.toList) = f31_n111 F v :=
  seq_cut (c := (sub (bodyOf Tryd.f31) [1, 1, 1])) (a := (sub (bodyOf Tryd.f31) [1, 1, 1, 0])) (b := (sub (bodyOf Tryd.f31) [1, 1, 1, 1])) (by kernel_rfl) (spec := [(4, .plain)]) (by kernel_rfl) ef31_j3020 ef31_j8003 (kFin VG0231 1 (Tryd.f31).results.toList) (fun k => f31_n1110 F k) (f31_n1111 F)
    (fun Rf31_j8003 => f31_n1110_eq F Rf31_j8003) (f31_n1111_eq F)
def f31_n11 (F : Nat) : Int × (List Int) × (List Int) → Option (AV × List Blk) := fun v => f31_n110 F (f31_n111 F) v
theorem f31_n11_eq (F : Nat) : ∀ v, aexec VG0231 (Af31 F) (sub (bodyOf Tryd.f31) [1, 1]) (ef31_j2022 v) (kFin VG0231 1 (Tryd.f31).results.toList) = f31_n11 F v :=
  seq_cut (c := (sub (bodyOf Tryd.f31) [1, 1])) (a := (sub (bodyOf Tryd.f31) [1, 1, 0])) (b := (sub (bodyOf Tryd.f31) [1, 1, 1])) (by kernel_rfl) (spec := [(0, .plain), (4, .plain)]) (by kernel_rfl) ef31_j2022 ef31_j3020 (kFin VG0231 1 (Tryd.f31).results.toList) (fun k => f31_n110 F k) (f31_n111 F)
    (fun Rf31_j3020 => f31_n110_eq F Rf31_j3020) (f31_n111_eq F)
def f31_n1 (F : Nat) : Int × (List Int) → Option (AV × List Blk) := fun v => f31_n10 F (f31_n11 F) v
theorem f31_n1_eq (F : Nat) : ∀ v, aexec VG0231 (Af31 F) (sub (bodyOf Tryd.f31) [1]) (ef31_j1024 v) (kFin VG0231 1 (Tryd.f31).results.toList) = f31_n1 F v :=
  seq_cut (c := (sub (bodyOf Tryd.f31) [1])) (a := (sub (bodyOf Tryd.f31) [1, 0])) (b := (sub (bodyOf Tryd.f31) [1, 1])) (by kernel_rfl) (spec := [(0, .plain), (1, .plain), (4, .plain)]) (by kernel_rfl) ef31_j1024 ef31_j2022 (kFin VG0231 1 (Tryd.f31).results.toList) (fun k => f31_n10 F k) (f31_n11 F)
    (fun Rf31_j2022 => f31_n10_eq F Rf31_j2022) (f31_n11_eq F)
def f31_nt (F : Nat) : Int × (List Int) → Option (AV × List Blk) := fun v => f31_n0 F (f31_n1 F) v
theorem f31_nt_eq (F : Nat) : ∀ v, aexec VG0231 (Af31 F) (sub (bodyOf Tryd.f31) []) (ef31_a v) (kFin VG0231 1 (Tryd.f31).results.toList) = f31_nt F v :=
  seq_cut (c := (sub (bodyOf Tryd.f31) [])) (a := (sub (bodyOf Tryd.f31) [0])) (b := (sub (bodyOf Tryd.f31) [1])) (by kernel_rfl) (spec := [(0, .plain), (1, .plain)]) (by kernel_rfl) ef31_a ef31_j1024 (kFin VG0231 1 (Tryd.f31).results.toList) (fun k => f31_n0 F k) (f31_n1 F)
    (fun Rf31_j1024 => f31_n0_eq F Rf31_j1024) (f31_n1_eq F)
/-- gantry/hash.Mac$1 -/
def f31 (F : Nat) : Int × (List Int) → Option (AV × List Blk) := f31_nt F
theorem f31_body (F : Nat) (a0 : Int) (a1 : List Int) : abody VG0231 (Af31 F) Tryd.f31 [(.int .u8 a0), (.ptr 0 0 1 0 0 0 1)] [(.cells 1 (.one (.str a1)) true)] = f31 F (a0, a1) :=
  (abody_in (c := (sub (bodyOf Tryd.f31) [])) (by kernel_rfl) (s := ef31_a (a0, a1)) (by kernel_rfl)).trans (f31_nt_eq F (a0, a1))
def r31 : CRun := fun X H => match X, H with
  | [(.int .u8 a0), (.ptr 0 0 1 0 0 0 1)], [(.cells 1 (.one (.str a1)) true)] => some (true, (.str (Sha.xpad a1 a0)), [(.cells 1 (.one (.str a1)) true)])
  | _, _ => none
theorem s31 (a0 : Int) (a1 : List Int) (h0 : okV (.int .u8 a0)) (k0 : okB (.cells 1 (.one (.str a1)) true)) : ∃ F, f31 F (a0, a1) = some ((.str (Sha.xpad a1 a0)), [(.cells 1 (.one (.str a1)) true)]) := by
  refine ⟨65, ?_⟩
  simp only [f31, f31_nt, f31_n0, f31_n1, f31_n10, f31_n11, f31_n110, f31_n111, f31_n1110, f31_n11100, f31_n11101, f31_n111010, f31_n111010_i]
  simp only [List.take_zero, List.nil_append, Nat.zero_add]
  have hx : ∀ i, i < 64 → (a1.take (min a1.length 64) ++ (List.replicate 64 (0 : Int)).drop (min a1.length 64)).getD i 0 = a1.getD i 0 := by
    intro i hi
    simp only [List.getD_eq_getElem?_getD, List.getElem?_append, List.getElem?_take, List.length_take, List.getElem?_drop, List.getElem?_replicate]
    by_cases h : i < a1.length
    · rw [if_pos (by omega), if_pos (by omega)]
    · rw [if_neg (by omega), if_pos (by omega), List.getElem?_eq_none (by omega)]; rfl
  have hlen : (a1.take (min a1.length 64) ++ (List.replicate 64 (0 : Int)).drop (min a1.length 64)).length = 64 := by simp; omega
  generalize a1.take (min a1.length 64) ++ (List.replicate 64 (0 : Int)).drop (min a1.length 64) = x at hx hlen
  refine loopN_from (fun i => (a0, (i : Int), a1, ((List.range i).map fun i => ibits .xor .u8 (a1.getD i 0) a0) ++ x.drop i)) 64 (by rfl) (fun i hi k => ?_) (fun k => ?_) 65 (by omega)
  · simp only [f31_n1110100, dec_and]
    rw [cond_pos (by omega), cond_pos (by omega), cond_pos (by omega), i64w (x := (i : Int) + 1) (by omega) (by omega), Int.toNat_natCast]
    have hd : x.drop i = a1.getD i 0 :: x.drop (i + 1) := by
      rw [← hx i hi, List.drop_eq_getElem_cons (show i < x.length by omega), List.getD_eq_getElem?_getD, List.getElem?_eq_getElem (by omega)]; rfl
    have hg : (((List.range i).map fun i => ibits .xor .u8 (a1.getD i 0) a0) ++ x.drop i).getD i 0 = a1.getD i 0 := by
      rw [hd, List.getD_eq_getElem?_getD, List.getElem?_append_right (by simp)]; simp
    rw [hg, hd, List.set_append_right _ _ (by simp), List.range_succ, List.map_append]
    simp
  · simp only [f31_n1110100]
    rw [cond_neg (by omega)]
    simp only [f31_n1111]
    rw [List.drop_of_length_le (by omega), List.append_nil, List.take_of_length_le (by simp)]
    rfl

theorem c31 : CallOk Tryd.prog G02 31 r31 := callOk_of (V := VG0231) mixed tys eVG0231 (f := 31) (fn := Tryd.f31) Tryd.func31 (by kernel_rfl) (c := sub (bodyOf Tryd.f31) []) (by kernel_rfl) (by
  intro X H r H' h hX hH
  unfold r31 at h; split at h <;> try contradiction
  simp only [Option.some.injEq, Prod.mk.injEq] at h
  obtain ⟨hp, rfl, rfl⟩ := h
  obtain ⟨F, hF⟩ := s31 _ _ (hX _ (.head _)) (hH _ (.head _))
  exact ⟨Af31 F, (f31_body F _ _).trans hF⟩)
/-! gantry/hash.Mac -/
def lVG0218 : List CEnt := [(11, [some 5], r11), (14, [], r14), (15, [none, none], r15), (17, [none], r17), (31, [none, none], r31)]
def VG0218 : Env := mkEnv T02 G02 lVG0218
theorem eVG0218 : EOk Tryd.prog VG0218 := eok_mk (by exact ⟨c11, c14, c15, c17, c31, trivial⟩)
def Af18 (F : Nat) : Cuts := { F := F, at_ := fun _ => none, join := fun _ => none }
def ef18_a : (List Int) × (List Int) → St := fun (a0, a1) => { tmps := [(0, (.str a0)), (1, (.str a1))], heap := [], next := 0, nt := 35, m := 0 }
def f18_nt (F : Nat) : (List Int) × (List Int) → Option (AV × List Blk) := fun (a0, a1) => (cond (decide ((↑a0.length : Int) > (64 : Int))) (cond (decide ((Sha.addS ((Sha.addS (Sha.iv, (List.replicate 64 0), (0 : Int)) (Sha.xpad ((Sha.hash a0).take 32) (54 : Int))).1, (Sha.addS (Sha.iv, (List.replicate 64 0), (0 : Int)) (Sha.xpad ((Sha.hash a0).take 32) (54 : Int))).2.1, (Sha.addS (Sha.iv, (List.replicate 64 0), (0 : Int)) (Sha.xpad ((Sha.hash a0).take 32) (54 : Int))).2.2) a1).2.2 ≤ 9223372036854775000)) (cond (decide ((Sha.addS ((Sha.addS (Sha.iv, (List.replicate 64 0), (0 : Int)) (Sha.xpad ((Sha.hash a0).take 32) (92 : Int))).1, (Sha.addS (Sha.iv, (List.replicate 64 0), (0 : Int)) (Sha.xpad ((Sha.hash a0).take 32) (92 : Int))).2.1, (Sha.addS (Sha.iv, (List.replicate 64 0), (0 : Int)) (Sha.xpad ((Sha.hash a0).take 32) (92 : Int))).2.2) ((Sha.fin ((Sha.addS ((Sha.addS (Sha.iv, (List.replicate 64 0), (0 : Int)) (Sha.xpad ((Sha.hash a0).take 32) (54 : Int))).1, (Sha.addS (Sha.iv, (List.replicate 64 0), (0 : Int)) (Sha.xpad ((Sha.hash a0).take 32) (54 : Int))).2.1, (Sha.addS (Sha.iv, (List.replicate 64 0), (0 : Int)) (Sha.xpad ((Sha.hash a0).take 32) (54 : Int))).2.2) a1).1, (Sha.addS ((Sha.addS (Sha.iv, (List.replicate 64 0), (0 : Int)) (Sha.xpad ((Sha.hash a0).take 32) (54 : Int))).1, (Sha.addS (Sha.iv, (List.replicate 64 0), (0 : Int)) (Sha.xpad ((Sha.hash a0).take 32) (54 : Int))).2.1, (Sha.addS (Sha.iv, (List.replicate 64 0), (0 : Int)) (Sha.xpad ((Sha.hash a0).take 32) (54 : Int))).2.2) a1).2.1, (Sha.addS ((Sha.addS (Sha.iv, (List.replicate 64 0), (0 : Int)) (Sha.xpad ((Sha.hash a0).take 32) (54 : Int))).1, (Sha.addS (Sha.iv, (List.replicate 64 0), (0 : Int)) (Sha.xpad ((Sha.hash a0).take 32) (54 : Int))).2.1, (Sha.addS (Sha.iv, (List.replicate 64 0), (0 : Int)) (Sha.xpad ((Sha.hash a0).take 32) (54 : Int))).2.2) a1).2.2)).take 32)).2.2 ≤ 9223372036854775000)) (some ((.str ((Sha.fin ((Sha.addS ((Sha.addS (Sha.iv, (List.replicate 64 0), (0 : Int)) (Sha.xpad ((Sha.hash a0).take 32) (92 : Int))).1, (Sha.addS (Sha.iv, (List.replicate 64 0), (0 : Int)) (Sha.xpad ((Sha.hash a0).take 32) (92 : Int))).2.1, (Sha.addS (Sha.iv, (List.replicate 64 0), (0 : Int)) (Sha.xpad ((Sha.hash a0).take 32) (92 : Int))).2.2) ((Sha.fin ((Sha.addS ((Sha.addS (Sha.iv, (List.replicate 64 0), (0 : Int)) (Sha.xpad ((Sha.hash a0).take 32) (54 : Int))).1, (Sha.addS (Sha.iv, (List.replicate 64 0), (0 : Int)) (Sha.xpad ((Sha.hash a0).take 32) (54 : Int))).2.1, (Sha.addS (Sha.iv, (List.replicate 64 0), (0 : Int)) (Sha.xpad ((Sha.hash a0).take 32) (54 : Int))).2.2) a1).1, (Sha.addS ((Sha.addS (Sha.iv, (List.replicate 64 0), (0 : Int)) (Sha.xpad ((Sha.hash a0).take 32) (54 : Int))).1, (Sha.addS (Sha.iv, (List.replicate 64 0), (0 : Int)) (Sha.xpad ((Sha.hash a0).take 32) (54 : Int))).2.1, (Sha.addS (Sha.iv, (List.replicate 64 0), (0 : Int)) (Sha.xpad ((Sha.hash a0).take 32) (54 : Int))).2.2) a1).2.1, (Sha.addS ((Sha.addS (Sha.iv, (List.replicate 64 0), (0 : Int)) (Sha.xpad ((Sha.hash a0).take 32) (54 : Int))).1, (Sha.addS (Sha.iv, (List.replicate 64 0), (0 : Int)) (Sha.xpad ((Sha.hash a0).take 32) (54 : Int))).2.1, (Sha.addS (Sha.iv, (List.replicate 64 0), (0 : Int)) (Sha.xpad ((Sha.hash a0).take 32) (54 : Int))).2.2) a1).2.2)).take 32)).1, (Sha.addS ((Sha.addS (Sha.iv, (List.replicate 64 0), (0 : Int)) (Sha.xpad ((Sha.hash a0).take 32) (92 : Int))).1, (Sha.addS (Sha.iv, (List.replicate 64 0), (0 : Int)) (Sha.xpad ((Sha.hash a0).take 32) (92 : Int))).2.1, (Sha.addS (Sha.iv, (List.replicate 64 0), (0 : Int)) (Sha.xpad ((Sha.hash a0).take 32) (92 : Int))).2.2) ((Sha.fin ((Sha.addS ((Sha.addS (Sha.iv, (List.replicate 64 0), (0 : Int)) (Sha.xpad ((Sha.hash a0).take 32) (54 : Int))).1, (Sha.addS (Sha.iv, (List.replicate 64 0), (0 : Int)) (Sha.xpad ((Sha.hash a0).take 32) (54 : Int))).2.1, (Sha.addS (Sha.iv, (List.replicate 64 0), (0 : Int)) (Sha.xpad ((Sha.hash a0).take 32) (54 : Int))).2.2) a1).1, (Sha.addS ((Sha.addS (Sha.iv, (List.replicate 64 0), (0 : Int)) (Sha.xpad ((Sha.hash a0).take 32) (54 : Int))).1, (Sha.addS (Sha.iv, (List.replicate 64 0), (0 : Int)) (Sha.xpad ((Sha.hash a0).take 32) (54 : Int))).2.1, (Sha.addS (Sha.iv, (List.replicate 64 0), (0 : Int)) (Sha.xpad ((Sha.hash a0).take 32) (54 : Int))).2.2) a1).2.1, (Sha.addS ((Sha.addS (Sha.iv, (List.replicate 64 0), (0 : Int)) (Sha.xpad ((Sha.hash a0).take 32) (54 : Int))).1, (Sha.addS (Sha.iv, (List.replicate 64 0), (0 : Int)) (Sha.xpad ((Sha.hash a0).take 32) (54 : Int))).2.1, (Sha.addS (Sha.iv, (List.replicate 64 0), (0 : Int)) (Sha.xpad ((Sha.hash a0).take 32) (54 : Int))).2.2) a1).2.2)).take 32)).2.1, (Sha.addS ((Sha.addS (Sha.iv, (List.replicate 64 0), (0 : Int)) (Sha.xpad ((Sha.hash a0).take 32) (92 : Int))).1, (Sha.addS (Sha.iv, (List.replicate 64 0), (0 : Int)) (Sha.xpad ((Sha.hash a0).take 32) (92 : Int))).2.1, (Sha.addS (Sha.iv, (List.replicate 64 0), (0 : Int)) (Sha.xpad ((Sha.hash a0).take 32) (92 : Int))).2.2) ((Sha.fin ((Sha.addS ((Sha.addS (Sha.iv, (List.replicate 64 0), (0 : Int)) (Sha.xpad ((Sha.hash a0).take 32) (54 : Int))).1, (Sha.addS (Sha.iv, (List.replicate 64 0), (0 : Int)) (Sha.xpad ((Sha.hash a0).take 32) (54 : Int))).2.1, (Sha.addS (Sha.iv, (List.replicate 64 0), (0 : Int)) (Sha.xpad ((Sha.hash a0).take 32) (54 : Int))).2.2) a1).1, (Sha.addS ((Sha.addS (Sha.iv, (List.replicate 64 0), (0 : Int)) (Sha.xpad ((Sha.hash a0).take 32) (54 : Int))).1, (Sha.addS (Sha.iv, (List.replicate 64 0), (0 : Int)) (Sha.xpad ((Sha.hash a0).take 32) (54 : Int))).2.1, (Sha.addS (Sha.iv, (List.replicate 64 0), (0 : Int)) (Sha.xpad ((Sha.hash a0).take 32) (54 : Int))).2.2) a1).2.1, (Sha.addS ((Sha.addS (Sha.iv, (List.replicate 64 0), (0 : Int)) (Sha.xpad ((Sha.hash a0).take 32) (54 : Int))).1, (Sha.addS (Sha.iv, (List.replicate 64 0), (0 : Int)) (Sha.xpad ((Sha.hash a0).take 32) (54 : Int))).2.1, (Sha.addS (Sha.iv, (List.replicate 64 0), (0 : Int)) (Sha.xpad ((Sha.hash a0).take 32) (54 : Int))).2.2) a1).2.2)).take 32)).2.2)).take 32)), [])) none) none) (cond (decide ((Sha.addS ((Sha.addS (Sha.iv, (List.replicate 64 0), (0 : Int)) (Sha.xpad a0 (54 : Int))).1, (Sha.addS (Sha.iv, (List.replicate 64 0), (0 : Int)) (Sha.xpad a0 (54 : Int))).2.1, (Sha.addS (Sha.iv, (List.replicate 64 0), (0 : Int)) (Sha.xpad a0 (54 : Int))).2.2) a1).2.2 ≤ 9223372036854775000)) (cond (decide ((Sha.addS ((Sha.addS (Sha.iv, (List.replicate 64 0), (0 : Int)) (Sha.xpad a0 (92 : Int))).1, (Sha.addS (Sha.iv, (List.replicate 64 0), (0 : Int)) (Sha.xpad a0 (92 : Int))).2.1, (Sha.addS (Sha.iv, (List.replicate 64 0), (0 : Int)) (Sha.xpad a0 (92 : Int))).2.2) ((Sha.fin ((Sha.addS ((Sha.addS (Sha.iv, (List.replicate 64 0), (0 : Int)) (Sha.xpad a0 (54 : Int))).1, (Sha.addS (Sha.iv, (List.replicate 64 0), (0 : Int)) (Sha.xpad a0 (54 : Int))).2.1, (Sha.addS (Sha.iv, (List.replicate 64 0), (0 : Int)) (Sha.xpad a0 (54 : Int))).2.2) a1).1, (Sha.addS ((Sha.addS (Sha.iv, (List.replicate 64 0), (0 : Int)) (Sha.xpad a0 (54 : Int))).1, (Sha.addS (Sha.iv, (List.replicate 64 0), (0 : Int)) (Sha.xpad a0 (54 : Int))).2.1, (Sha.addS (Sha.iv, (List.replicate 64 0), (0 : Int)) (Sha.xpad a0 (54 : Int))).2.2) a1).2.1, (Sha.addS ((Sha.addS (Sha.iv, (List.replicate 64 0), (0 : Int)) (Sha.xpad a0 (54 : Int))).1, (Sha.addS (Sha.iv, (List.replicate 64 0), (0 : Int)) (Sha.xpad a0 (54 : Int))).2.1, (Sha.addS (Sha.iv, (List.replicate 64 0), (0 : Int)) (Sha.xpad a0 (54 : Int))).2.2) a1).2.2)).take 32)).2.2 ≤ 9223372036854775000)) (some ((.str ((Sha.fin ((Sha.addS ((Sha.addS (Sha.iv, (List.replicate 64 0), (0 : Int)) (Sha.xpad a0 (92 : Int))).1, (Sha.addS (Sha.iv, (List.replicate 64 0), (0 : Int)) (Sha.xpad a0 (92 : Int))).2.1, (Sha.addS (Sha.iv, (List.replicate 64 0), (0 : Int)) (Sha.xpad a0 (92 : Int))).2.2) ((Sha.fin ((Sha.addS ((Sha.addS (Sha.iv, (List.replicate 64 0), (0 : Int)) (Sha.xpad a0 (54 : Int))).1, (Sha.addS (Sha.iv, (List.replicate 64 0), (0 : Int)) (Sha.xpad a0 (54 : Int))).2.1, (Sha.addS (Sha.iv, (List.replicate 64 0), (0 : Int)) (Sha.xpad a0 (54 : Int))).2.2) a1).1, (Sha.addS ((Sha.addS (Sha.iv, (List.replicate 64 0), (0 : Int)) (Sha.xpad a0 (54 : Int))).1, (Sha.addS (Sha.iv, (List.replicate 64 0), (0 : Int)) (Sha.xpad a0 (54 : Int))).2.1, (Sha.addS (Sha.iv, (List.replicate 64 0), (0 : Int)) (Sha.xpad a0 (54 : Int))).2.2) a1).2.1, (Sha.addS ((Sha.addS (Sha.iv, (List.replicate 64 0), (0 : Int)) (Sha.xpad a0 (54 : Int))).1, (Sha.addS (Sha.iv, (List.replicate 64 0), (0 : Int)) (Sha.xpad a0 (54 : Int))).2.1, (Sha.addS (Sha.iv, (List.replicate 64 0), (0 : Int)) (Sha.xpad a0 (54 : Int))).2.2) a1).2.2)).take 32)).1, (Sha.addS ((Sha.addS (Sha.iv, (List.replicate 64 0), (0 : Int)) (Sha.xpad a0 (92 : Int))).1, (Sha.addS (Sha.iv, (List.replicate 64 0), (0 : Int)) (Sha.xpad a0 (92 : Int))).2.1, (Sha.addS (Sha.iv, (List.replicate 64 0), (0 : Int)) (Sha.xpad a0 (92 : Int))).2.2) ((Sha.fin ((Sha.addS ((Sha.addS (Sha.iv, (List.replicate 64 0), (0 : Int)) (Sha.xpad a0 (54 : Int))).1, (Sha.addS (Sha.iv, (List.replicate 64 0), (0 : Int)) (Sha.xpad a0 (54 : Int))).2.1, (Sha.addS (Sha.iv, (List.replicate 64 0), (0 : Int)) (Sha.xpad a0 (54 : Int))).2.2) a1).1, (Sha.addS ((Sha.addS (Sha.iv, (List.replicate 64 0), (0 : Int)) (Sha.xpad a0 (54 : Int))).1, (Sha.addS (Sha.iv, (List.replicate 64 0), (0 : Int)) (Sha.xpad a0 (54 : Int))).2.1, (Sha.addS (Sha.iv, (List.replicate 64 0), (0 : Int)) (Sha.xpad a0 (54 : Int))).2.2) a1).2.1, (Sha.addS ((Sha.addS (Sha.iv, (List.replicate 64 0), (0 : Int)) (Sha.xpad a0 (54 : Int))).1, (Sha.addS (Sha.iv, (List.replicate 64 0), (0 : Int)) (Sha.xpad a0 (54 : Int))).2.1, (Sha.addS (Sha.iv, (List.replicate 64 0), (0 : Int)) (Sha.xpad a0 (54 : Int))).2.2) a1).2.2)).take 32)).2.1, (Sha.addS ((Sha.addS (Sha.iv, (List.replicate 64 0), (0 : Int)) (Sha.xpad a0 (92 : Int))).1, (Sha.addS (Sha.iv, (List.replicate 64 0), (0 : Int)) (Sha.xpad a0 (92 : Int))).2.1, (Sha.addS (Sha.iv, (List.replicate 64 0), (0 : Int)) (Sha.xpad a0 (92 : Int))).2.2) ((Sha.fin ((Sha.addS ((Sha.addS (Sha.iv, (List.replicate 64 0), (0 : Int)) (Sha.xpad a0 (54 : Int))).1, (Sha.addS (Sha.iv, (List.replicate 64 0), (0 : Int)) (Sha.xpad a0 (54 : Int))).2.1, (Sha.addS (Sha.iv, (List.replicate 64 0), (0 : Int)) (Sha.xpad a0 (54 : Int))).2.2) a1).1, (Sha.addS ((Sha.addS (Sha.iv, (List.replicate 64 0), (0 : Int)) (Sha.xpad a0 (54 : Int))).1, (Sha.addS (Sha.iv, (List.replicate 64 0), (0 : Int)) (Sha.xpad a0 (54 : Int))).2.1, (Sha.addS (Sha.iv, (List.replicate 64 0), (0 : Int)) (Sha.xpad a0 (54 : Int))).2.2) a1).2.1, (Sha.addS ((Sha.addS (Sha.iv, (List.replicate 64 0), (0 : Int)) (Sha.xpad a0 (54 : Int))).1, (Sha.addS (Sha.iv, (List.replicate 64 0), (0 : Int)) (Sha.xpad a0 (54 : Int))).2.1, (Sha.addS (Sha.iv, (List.replicate 64 0), (0 : Int)) (Sha.xpad a0 (54 : Int))).2.2) a1).2.2)).take 32)).2.2)).take 32)), [])) none) none))
theorem f18_nt_eq (F : Nat) : ∀ v, aexec VG0218 (Af18 F) (sub (bodyOf Tryd.f18) []) (ef18_a v) (kFin VG0218 0 (Tryd.f18).results.toList) = f18_nt F v := by
  rintro ⟨a0, a1⟩; kernel_rfl
/-- gantry/hash.Mac -/
def f18 (F : Nat) : (List Int) × (List Int) → Option (AV × List Blk) := f18_nt F
theorem f18_body (F : Nat) (a0 : List Int) (a1 : List Int) : abody VG0218 (Af18 F) Tryd.f18 [(.str a0), (.str a1)] [] = f18 F (a0, a1) :=
  (abody_in (c := (sub (bodyOf Tryd.f18) [])) (by kernel_rfl) (s := ef18_a (a0, a1)) (by kernel_rfl)).trans (f18_nt_eq F (a0, a1))
def r18 : CRun := fun X H => match X, H with
  | [(.str a0), (.str a1)], [] => some (true, (.str (Sha.mac a0 a1)), [])
  | _, _ => none
theorem mac_half (st bl : List Int) (n : Int) (t : List Int) (h0 : 0 ≤ n) (h1 : n ≤ 9000000000000000000) (ht : t.length < 4611686018427387904) (hn : n + t.length ≤ 9223372036854775000) : (decide ((Sha.addS (st, bl, n) t).2.2 ≤ 9223372036854775000)) = true := by
  rw [Sha.addS_n _ _ _ _ h0 (by omega), u64w (by omega) (by omega)]; exact decide_eq_true hn
theorem s18 (a0 : List Int) (a1 : List Int) (h0 : okV (.str a0)) (h1 : okV (.str a1)) : ∃ F, f18 F (a0, a1) = some ((.str (Sha.mac a0 a1)), []) := by
  have hl1 := h1.1
  have hxl : ∀ k w, (Sha.xpad k w).length = 64 := fun k w => by simp [Sha.xpad]
  have hsmall : ∀ (x t : List Int), x.length = 64 → t.length < 4611686018427387904 → (decide ((Sha.addS ((Sha.addS (Sha.iv, (List.replicate 64 0), (0 : Int)) x).1, (Sha.addS (Sha.iv, (List.replicate 64 0), (0 : Int)) x).2.1, (Sha.addS (Sha.iv, (List.replicate 64 0), (0 : Int)) x).2.2) t).2.2 ≤ 9223372036854775000)) = true := by
    intro x t hx ht
    refine mac_half _ _ _ _ ?_ ?_ ht ?_ <;> rw [Sha.addS_n _ _ _ _ (by omega) (by omega), u64w (by omega) (by omega)] <;> omega
  refine ⟨0, ?_⟩
  simp only [f18, f18_nt]
  by_cases h : a0.length > 64
  · rw [cond_pos (show ((a0.length : Int) > 64) by omega), hsmall _ _ (hxl _ _) hl1, cond_true, hsmall _ _ (hxl _ _) (by rw [List.length_take]; exact Nat.lt_of_le_of_lt (Nat.min_le_left _ _) (by decide)), cond_true]
    have e : ∀ x, (Sha.fin x).take 32 = Sha.fin x := fun x => List.take_of_length_le (Nat.le_of_eq (Sha.out_len _))
    simp only [Sha.mac, if_pos h, Sha.hash, Sha.begin, Sha.addS_append, e]
  · rw [cond_neg (show ¬ ((a0.length : Int) > 64) by omega), hsmall _ _ (hxl _ _) hl1, cond_true, hsmall _ _ (hxl _ _) (by rw [List.length_take]; exact Nat.lt_of_le_of_lt (Nat.min_le_left _ _) (by decide)), cond_true]
    have e : ∀ x, (Sha.fin x).take 32 = Sha.fin x := fun x => List.take_of_length_le (Nat.le_of_eq (Sha.out_len _))
    simp only [Sha.mac, if_neg h, Sha.hash, Sha.begin, Sha.addS_append, e]

theorem c18 : CallOk Tryd.prog G02 18 r18 := callOk_of (V := VG0218) mixed tys eVG0218 (f := 18) (fn := Tryd.f18) Tryd.func18 (by kernel_rfl) (c := sub (bodyOf Tryd.f18) []) (by kernel_rfl) (by
  intro X H r H' h hX hH
  unfold r18 at h; split at h <;> try contradiction
  simp only [Option.some.injEq, Prod.mk.injEq] at h
  obtain ⟨hp, rfl, rfl⟩ := h
  obtain ⟨F, hF⟩ := s18 _ _ (hX _ (.head _)) (hX _ (.tail _ (.head _)))
  exact ⟨Af18 F, (f18_body F _ _).trans hF⟩)
/-! gantry/hash.Of -/
def lVG0221 : List CEnt := [(14, [], r14), (15, [none, none], r15), (17, [none], r17), (33, [none], r33)]
def VG0221 : Env := mkEnv T02 G02 lVG0221
theorem eVG0221 : EOk Tryd.prog VG0221 := eok_mk (by exact ⟨c14, c15, c17, c33, trivial⟩)
def Af21 (F : Nat) : Cuts := { F := F, at_ := fun n => match n with | 3012 => some [(4, .plain), (5, .plain), (15, .plain), (16, .plain), (17, .plain)] | _ => none, join := fun n => match n with | 1024 => some [(0, .plain), (1, .plain), (4, .plain)] | 2022 => some [(1, .plain), (4, .plain), (5, .plain)] | 3014 => some [(4, .plain), (5, .plain), (15, .plain), (16, .plain), (17, .plain)] | 7005 => some [(4, .plain), (5, .plain)] | _ => none }
def ef21_a : Int × (List (List Int)) → St := fun (a0, a1) => { tmps := [(0, (.int .i64 a0)), (1, (.vs (.rS a1) 0 1))], heap := [], next := 0, nt := 32, m := 0 }
def ef21_j1024 : Int × (List (List Int)) × (List Int) → St := fun (t0, t1, x3) => { tmps := [(0, (.int .i64 t0)), (1, (.vs (.rS t1) 0 1)), (4, (.ptr 0 0 16 0 0 0 16))], heap := [(0, (.cells 16 (.rI .u8 x3) true))], next := 1, nt := 32, m := 0 }
def ef21_j2022 : (List (List Int)) × (List Int) × (List Int) × (List Int) × Int → St := fun (t1, x2, x3, x4, x5) => { tmps := [(1, (.vs (.rS t1) 0 1)), (4, (.ptr 0 0 16 0 0 0 16)), (5, (.ptr 1 0 73 0 0 0 73))], heap := [(0, (.cells 16 (.rI .u8 x2) true)), (1, (.cells 73 (.segs (.cons 8 (.rI .u32 x3) (.cons 64 (.rI .u8 x4) (.cons 1 (.one (.int .u64 x5)) .nil)))) true))], next := 2, nt := 32, m := 0 }
def ef21_j3014 : (List (List Int)) × Int × Int × (List Int) × (List Int) × (List Int) × Int → St := fun (t15, t16, t17, x4, x5, x6, x7) => { tmps := [(4, (.ptr 0 0 16 0 0 0 16)), (5, (.ptr 1 0 73 0 0 0 73)), (15, (.vs (.rS t15) 0 1)), (16, (.int .i64 t16)), (17, (.int .i64 t17))], heap := [(0, (.cells 16 (.rI .u8 x4) true)), (1, (.cells 73 (.segs (.cons 8 (.rI .u32 x5) (.cons 64 (.rI .u8 x6) (.cons 1 (.one (.int .u64 x7)) .nil)))) true))], next := 2, nt := 32, m := 0 }
def ef21_l3012 : (List (List Int)) × Int × Int × (List Int) × (List Int) × (List Int) × Int → St := fun (t15, t16, t17, x4, x5, x6, x7) => { tmps := [(4, (.ptr 0 0 16 0 0 0 16)), (5, (.ptr 1 0 73 0 0 0 73)), (15, (.vs (.rS t15) 0 1)), (16, (.int .i64 t16)), (17, (.int .i64 t17))], heap := [(0, (.cells 16 (.rI .u8 x4) true)), (1, (.cells 73 (.segs (.cons 8 (.rI .u32 x5) (.cons 64 (.rI .u8 x6) (.cons 1 (.one (.int .u64 x7)) .nil)))) true))], next := 2, nt := 32, m := 0 }
def ef21_j7005 : (List Int) × (List Int) × (List Int) × Int → St := fun (x1, x2, x3, x4) => { tmps := [(4, (.ptr 0 0 16 0 0 0 16)), (5, (.ptr 1 0 73 0 0 0 73))], heap := [(0, (.cells 16 (.rI .u8 x1) true)), (1, (.cells 73 (.segs (.cons 8 (.rI .u32 x2) (.cons 64 (.rI .u8 x3) (.cons 1 (.one (.int .u64 x4)) .nil)))) true))], next := 2, nt := 32, m := 0 }
def f21_n0 (F : Nat) (kf21_j1024 : Int × (List (List Int)) × (List Int) → Option (AV × List Blk)) : Int × (List (List Int)) → Option (AV × List Blk) := fun (a0, a1) => (kf21_j1024 (a0, a1, (List.replicate 16 0)))
theorem f21_n0_eq (F : Nat) (Rf21_j1024 : St → Option (AV × List Blk)) : ∀ v, aexec VG0221 (Af21 F) (sub (bodyOf Tryd.f21) [0]) (ef21_a v) (kSeq (fun s => Rf21_j1024 (cutTo VG0221 (some [(0, .plain), (1, .plain), (4, .plain)]) s)) (kFin VG0221 0 (Tryd.f21).results.toList)) = f21_n0 F (fun w => Rf21_j1024 (ef21_j1024 w)) v := by
  rintro ⟨a0, a1⟩; kernel_rfl
def f21_n10 (F : Nat) (kf21_j2022 : (List (List Int)) × (List Int) × (List Int) × (List Int) × Int → Option (AV × List Blk)) : Int × (List (List Int)) × (List Int) → Option (AV × List Blk) := fun (t0, t1, x3) => (kf21_j2022 (t1, x3, (Sha.addS (Sha.iv, (List.replicate 64 0), (0 : Int)) [(IntKind.u8.wrap t0)]).1, (Sha.addS (Sha.iv, (List.replicate 64 0), (0 : Int)) [(IntKind.u8.wrap t0)]).2.1, (Sha.addS (Sha.iv, (List.replicate 64 0), (0 : Int)) [(IntKind.u8.wrap t0)]).2.2))
theorem f21_n10_eq (F : Nat) (Rf21_j2022 : St → Option (AV × List Blk)) : ∀ v, aexec VG0221 (Af21 F) (sub (bodyOf Tryd.f21) [1, 0]) (ef21_j1024 v) (kSeq (fun s => Rf21_j2022 (cutTo VG0221 (some [(1, .plain), (4, .plain), (5, .plain)]) s)) (kFin VG0221 0 (Tryd.f21).results.toList)) = f21_n10 F (fun w => Rf21_j2022 (ef21_j2022 w)) v := by
  rintro ⟨t0, t1, x3⟩; kernel_rfl
def f21_n1100 (F : Nat) (kf21_j3014 : (List (List Int)) × Int × Int × (List Int) × (List Int) × (List Int) × Int → Option (AV × List Blk)) (kf21_j7005 : (List Int) × (List Int) × (List Int) × Int → Option (AV × List Blk)) : (List (List Int)) × (List Int) × (List Int) × (List Int) × Int → Option (AV × List Blk) := fun (t1, x2, x3, x4, x5) => (kf21_j3014 (t1, (↑t1.length : Int), (0 : Int), x2, x3, x4, x5))
theorem f21_n1100_eq (F : Nat) (Rf21_j3014 : St → Option (AV × List Blk)) (Rf21_j7005 : St → Option (AV × List Blk)) : ∀ v, aexec VG0221 (Af21 F) (sub (bodyOf Tryd.f21) [1, 1, 0, 0]) (ef21_j2022 v) (kSeq (fun s => Rf21_j3014 (cutTo VG0221 (some [(4, .plain), (5, .plain), (15, .plain), (16, .plain), (17, .plain)]) s)) (kSeq (fun s => Rf21_j7005 (cutTo VG0221 (some [(4, .plain), (5, .plain)]) s)) (kFin VG0221 0 (Tryd.f21).results.toList))) = f21_n1100 F (fun w => Rf21_j3014 (ef21_j3014 w)) (fun w => Rf21_j7005 (ef21_j7005 w)) v := by
  rintro ⟨t1, x2, x3, x4, x5⟩; kernel_rfl
def f21_n110100 (F : Nat) (kf21_l3012 : (List (List Int)) × Int × Int × (List Int) × (List Int) × (List Int) × Int → Option (AV × List Blk)) (kf21_j7005 : (List Int) × (List Int) × (List Int) × Int → Option (AV × List Blk)) : (List (List Int)) × Int × Int × (List Int) × (List Int) × (List Int) × Int → Option (AV × List Blk) := fun (t15, t16, t17, x4, x5, x6, x7) => (cond (decide (t17 < t16)) (cond ((decide (0 ≤ t17)) && (decide (t17 < (↑t15.length : Int)))) (cond (decide ((t15.getD (Int.toNat t17) []).length < 1073741800)) (kf21_l3012 (t15, t16, (IntKind.i64.wrap (t17 + (1 : Int))), x4, (Sha.addS (x5, x6, x7) (Wire.bytes (t15.getD (Int.toNat t17) []))).1, (Sha.addS (x5, x6, x7) (Wire.bytes (t15.getD (Int.toNat t17) []))).2.1, (Sha.addS (x5, x6, x7) (Wire.bytes (t15.getD (Int.toNat t17) []))).2.2)) none) none) (kf21_j7005 (x4, x5, x6, x7)))
theorem f21_n110100_eq (F : Nat) (Rf21_l3012 : St → Option (AV × List Blk)) (Rf21_j7005 : St → Option (AV × List Blk)) : ∀ v, aexec VG0221 (Af21 F) (sub (bodyOf Tryd.f21) [1, 1, 0, 1, 0, 0]) (ef21_l3012 v) (kSeq (fun s => Rf21_l3012 (cutTo VG0221 (some [(4, .plain), (5, .plain), (15, .plain), (16, .plain), (17, .plain)]) s)) (kBlock 0 (kSeq (fun s => Rf21_j7005 (cutTo VG0221 (some [(4, .plain), (5, .plain)]) s)) (kFin VG0221 0 (Tryd.f21).results.toList)))) = f21_n110100 F (fun w => Rf21_l3012 (ef21_l3012 w)) (fun w => Rf21_j7005 (ef21_j7005 w)) v := by
  rintro ⟨t15, t16, t17, x4, x5, x6, x7⟩; kernel_rfl
def f21_n11010_i : (List (List Int)) × Int × Int × (List Int) × (List Int) × (List Int) × Int → (List (List Int)) × Int × Int × (List Int) × (List Int) × (List Int) × Int := fun (t15, t16, t17, x4, x5, x6, x7) => (t15, t16, t17, x4, x5, x6, x7)
def f21_n11010 (F : Nat) (kf21_j7005 : (List Int) × (List Int) × (List Int) × Int → Option (AV × List Blk)) : (List (List Int)) × Int × Int × (List Int) × (List Int) × (List Int) × Int → Option (AV × List Blk) := fun v => loopN (fun k => f21_n110100 F k kf21_j7005) F (f21_n11010_i v)
theorem f21_n11010_eq (F : Nat) (Rf21_j7005 : St → Option (AV × List Blk)) : ∀ v, aexec VG0221 (Af21 F) (sub (bodyOf Tryd.f21) [1, 1, 0, 1, 0]) (ef21_j3014 v) (kBlock 0 (kSeq (fun s => Rf21_j7005 (cutTo VG0221 (some [(4, .plain), (5, .plain)]) s)) (kFin VG0221 0 (Tryd.f21).results.toList))) = f21_n11010 F (fun w => Rf21_j7005 (ef21_j7005 w)) v :=
  loop_cut (c := (sub (bodyOf Tryd.f21) [1, 1, 0, 1, 0])) (d := (sub (bodyOf Tryd.f21) [1, 1, 0, 1, 0, 0])) (by kernel_rfl) (spec := [(4, .plain), (5, .plain), (15, .plain), (16, .plain), (17, .plain)]) (by kernel_rfl) ef21_j3014 ef21_l3012 (kBlock 0 (kSeq (fun s => Rf21_j7005 (cutTo VG0221 (some [(4, .plain), (5, .plain)]) s)) (kFin VG0221 0 (Tryd.f21).results.toList))) f21_n11010_i (fun k => f21_n110100 F k (fun w => Rf21_j7005 (ef21_j7005 w)))
    (by rintro ⟨t15, t16, t17, x4, x5, x6, x7⟩; kernel_rfl) (fun Rf21_l3012 => f21_n110100_eq F Rf21_l3012 Rf21_j7005)
def f21_n1101 (F : Nat) (kf21_j7005 : (List Int) × (List Int) × (List Int) × Int → Option (AV × List Blk)) : (List (List Int)) × Int × Int × (List Int) × (List Int) × (List Int) × Int → Option (AV × List Blk) := f21_n11010 F kf21_j7005
theorem f21_n1101_eq (F : Nat) (Rf21_j7005 : St → Option (AV × List Blk)) : ∀ v, aexec VG0221 (Af21 F) (sub (bodyOf Tryd.f21) [1, 1, 0, 1]) (ef21_j3014 v) (kSeq (fun s => Rf21_j7005 (cutTo VG0221 (some [(4, .plain), (5, .plain)]) s)) (kFin VG0221 0 (Tryd.f21).results.toList)) = f21_n1101 F (fun w => Rf21_j7005 (ef21_j7005 w)) v := fun v =>
  (block_in (c := (sub (bodyOf Tryd.f21) [1, 1, 0, 1])) (d := (sub (bodyOf Tryd.f21) [1, 1, 0, 1, 0])) (id := 0) (by kernel_rfl) _ _).trans (f21_n11010_eq F Rf21_j7005 v)
def f21_n110 (F : Nat) (kf21_j7005 : (List Int) × (List Int) × (List Int) × Int → Option (AV × List Blk)) : (List (List Int)) × (List Int) × (List Int) × (List Int) × Int → Option (AV × List Blk) := fun v => f21_n1100 F (f21_n1101 F kf21_j7005) kf21_j7005 v
theorem f21_n110_eq (F : Nat) (Rf21_j7005 : St → Option (AV × List Blk)) : ∀ v, aexec VG0221 (Af21 F) (sub (bodyOf Tryd.f21) [1, 1, 0]) (ef21_j2022 v) (kSeq (fun s => Rf21_j7005 (cutTo VG0221 (some [(4, .plain), (5, .plain)]) s)) (kFin VG0221 0 (Tryd.f21).results.toList)) = f21_n110 F (fun w => Rf21_j7005 (ef21_j7005 w)) v :=
  seq_cut (c := (sub (bodyOf Tryd.f21) [1, 1, 0])) (a := (sub (bodyOf Tryd.f21) [1, 1, 0, 0])) (b := (sub (bodyOf Tryd.f21) [1, 1, 0, 1])) (by kernel_rfl) (spec := [(4, .plain), (5, .plain), (15, .plain), (16, .plain), (17, .plain)]) (by kernel_rfl) ef21_j2022 ef21_j3014 (kSeq (fun s => Rf21_j7005 (cutTo VG0221 (some [(4, .plain), (5, .plain)]) s)) (kFin VG0221 0 (Tryd.f21).results.toList)) (fun k => f21_n1100 F k (fun w => Rf21_j7005 (ef21_j7005 w))) (f21_n1101 F (fun w => Rf21_j7005 (ef21_j7005 w)))
    (fun Rf21_j3014 => f21_n1100_eq F Rf21_j3014 Rf21_j7005) (f21_n1101_eq F Rf21_j7005)
def f21_n111 (F : Nat) : (List Int) × (List Int) × (List Int) × Int → Option (AV × List Blk) := fun (x1, x2, x3, x4) => (cond (decide (x4 ≤ 9223372036854775000)) (some ((.agg 16 (.rI .u8 ((Sha.fin (x2, x3, x4)).take 16))), [])) none)
theorem f21_n111_eq (F : Nat) : ∀ v, aexec VG0221 (Af21 F) (sub (bodyOf Tryd.f21) [1, 1, 1]) (ef21_j7005 v) (kFin VG0221 0 (Tryd.f21).results.toList) = f21_n111 F v := by
  rintro ⟨x1, x2, x3, x4⟩; kernel_rfl
def f21_n11 (F : Nat) : (List (List Int)) × (List Int) × (List Int) × (List Int) × Int → Option (AV × List Blk) := fun v => f21_n110 F (f21_n111 F) v
theorem f21_n11_eq (F : Nat) : ∀ v, aexec VG0221 (Af21 F) (sub (bodyOf Tryd.f21) [1, 1]) (ef21_j2022 v) (kFin VG0221 0 (Tryd.f21).results.toList) = f21_n11 F v :=
  seq_cut (c := (sub (bodyOf Tryd.f21) [1, 1])) (a := (sub (bodyOf Tryd.f21) [1, 1, 0])) (b := (sub (bodyOf Tryd.f21) [1, 1, 1])) (by kernel_rfl) (spec := [(4, .plain), (5, .plain)]) (by kernel_rfl) ef21_j2022 ef21_j7005 (kFin VG0221 0 (Tryd.f21).results.toList) (fun k => f21_n110 F k) (f21_n111 F)
    (fun Rf21_j7005 => f21_n110_eq F Rf21_j7005) (f21_n111_eq F)
def f21_n1 (F : Nat) : Int × (List (List Int)) × (List Int) → Option (AV × List Blk) := fun v => f21_n10 F (f21_n11 F) v
theorem f21_n1_eq (F : Nat) : ∀ v, aexec VG0221 (Af21 F) (sub (bodyOf Tryd.f21) [1]) (ef21_j1024 v) (kFin VG0221 0 (Tryd.f21).results.toList) = f21_n1 F v :=
  seq_cut (c := (sub (bodyOf Tryd.f21) [1])) (a := (sub (bodyOf Tryd.f21) [1, 0])) (b := (sub (bodyOf Tryd.f21) [1, 1])) (by kernel_rfl) (spec := [(1, .plain), (4, .plain), (5, .plain)]) (by kernel_rfl) ef21_j1024 ef21_j2022 (kFin VG0221 0 (Tryd.f21).results.toList) (fun k => f21_n10 F k) (f21_n11 F)
    (fun Rf21_j2022 => f21_n10_eq F Rf21_j2022) (f21_n11_eq F)
def f21_nt (F : Nat) : Int × (List (List Int)) → Option (AV × List Blk) := fun v => f21_n0 F (f21_n1 F) v
theorem f21_nt_eq (F : Nat) : ∀ v, aexec VG0221 (Af21 F) (sub (bodyOf Tryd.f21) []) (ef21_a v) (kFin VG0221 0 (Tryd.f21).results.toList) = f21_nt F v :=
  seq_cut (c := (sub (bodyOf Tryd.f21) [])) (a := (sub (bodyOf Tryd.f21) [0])) (b := (sub (bodyOf Tryd.f21) [1])) (by kernel_rfl) (spec := [(0, .plain), (1, .plain), (4, .plain)]) (by kernel_rfl) ef21_a ef21_j1024 (kFin VG0221 0 (Tryd.f21).results.toList) (fun k => f21_n0 F k) (f21_n1 F)
    (fun Rf21_j1024 => f21_n0_eq F Rf21_j1024) (f21_n1_eq F)
/-- gantry/hash.Of -/
def f21 (F : Nat) : Int × (List (List Int)) → Option (AV × List Blk) := f21_nt F
theorem f21_body (F : Nat) (a0 : Int) (a1 : List (List Int)) : abody VG0221 (Af21 F) Tryd.f21 [(.int .i64 a0), (.vs (.rS a1) 0 1)] [] = f21 F (a0, a1) :=
  (abody_in (c := (sub (bodyOf Tryd.f21) [])) (by kernel_rfl) (s := ef21_a (a0, a1)) (by kernel_rfl)).trans (f21_nt_eq F (a0, a1))
def r21 : CRun := fun X H => match X, H with
  | [(.int .i64 a0), (.vs (.rS a1) 0 1)], [] => some ((Sha.few a1), (.agg 16 (.rI .u8 (Sha.of a0 a1))), [])
  | _, _ => none
theorem few_ok {l : List (List Int)} (h : Sha.few l = true) : l.length < 1073741824 ∧ ∀ i, (l.getD i []).length < 1073741800 := by
  simp only [Sha.few, Bool.and_eq_true, decide_eq_true_eq, List.all_eq_true] at h
  refine ⟨h.1, fun i => ?_⟩
  by_cases hi : i < l.length
  · rw [List.getD_eq_getElem?_getD, List.getElem?_eq_getElem hi]; exact h.2 _ (List.getElem_mem hi)
  · rw [List.getD_eq_getElem?_getD, List.getElem?_eq_none (by omega)]; simp
theorem bytes_len (t : List Int) : (Wire.bytes t).length ≤ t.length + 9 := by
  have := Wire.nb_le (Wire.mag (t.length : Int))
  simp only [Wire.bytes, List.length_append, Wire.int_len]; omega
theorem input_take (tag : Int) (l : List (List Int)) (i : Nat) (h : i < l.length) : Sha.input tag (l.take (i + 1)) = Sha.input tag (l.take i) ++ Wire.bytes (l.getD i []) := by
  simp only [Sha.input]
  rw [List.take_add_one, List.getElem?_eq_getElem h, List.getD_eq_getElem?_getD, List.getElem?_eq_getElem h, List.flatMap_append, List.cons_append]
  simp only [Option.toList_some, List.flatMap_cons, List.flatMap_nil, List.append_nil, Option.getD_some]
theorem input_len (tag : Int) (l : List (List Int)) (hl : ∀ i, (l.getD i []).length < 1073741800) : ∀ i, i ≤ l.length → (Sha.input tag (l.take i)).length ≤ 1 + i * 1073741824
  | 0, _ => by simp [Sha.input]
  | i + 1, h => by
    rw [input_take tag l i (by omega), List.length_append]
    have := input_len tag l hl i (by omega)
    have h2 := bytes_len (l.getD i [])
    have h3 := hl i
    omega
theorem s21 (a0 : Int) (a1 : List (List Int)) (hp : ((Sha.few a1)) = true) (h0 : okV (.int .i64 a0)) (h1 : okV (.vs (.rS a1) 0 1)) : ∃ F, f21 F (a0, a1) = some ((.agg 16 (.rI .u8 (Sha.of a0 a1))), []) := by
  obtain ⟨g1, g2⟩ := few_ok hp
  refine ⟨a1.length + 1, ?_⟩
  simp only [f21, f21_nt, f21_n0, f21_n1, f21_n10, f21_n11, f21_n110, f21_n1100, f21_n1101, f21_n11010, f21_n11010_i]
  have hin : ∀ i, i ≤ a1.length → (Sha.addS Sha.begin (Sha.input a0 (a1.take i))).2.2 ≤ 9223372036854775000 := by
    intro i hi
    have := input_len a0 a1 g2 i hi
    have e : Sha.begin = (Sha.iv, List.replicate 64 0, 0) := rfl
    rw [e, Sha.addS_n _ _ _ _ (by omega) (by omega), u64w (by omega) (by omega)]
    omega
  refine loopN_from (fun i => (a1, (a1.length : Int), (i : Int), List.replicate 16 0, (Sha.addS Sha.begin (Sha.input a0 (a1.take i))).1, (Sha.addS Sha.begin (Sha.input a0 (a1.take i))).2.1, (Sha.addS Sha.begin (Sha.input a0 (a1.take i))).2.2)) a1.length (by rfl) (fun i hi k => ?_) (fun k => ?_) _ (by omega)
  · simp only [f21_n110100, dec_and]
    rw [cond_pos (by omega), cond_pos (by omega), Int.toNat_natCast, cond_pos (g2 i), i64w (x := (i : Int) + 1) (by omega) (by omega), input_take a0 a1 i hi, Sha.addS_append]
    rfl
  · simp only [f21_n110100]
    rw [cond_neg (by omega)]
    simp only [f21_n111]
    rw [cond_pos (hin _ (Nat.le_refl _)), List.take_length]
    rfl

theorem c21 : CallOk Tryd.prog G02 21 r21 := callOk_of (V := VG0221) mixed tys eVG0221 (f := 21) (fn := Tryd.f21) Tryd.func21 (by kernel_rfl) (c := sub (bodyOf Tryd.f21) []) (by kernel_rfl) (by
  intro X H r H' h hX hH
  unfold r21 at h; split at h <;> try contradiction
  simp only [Option.some.injEq, Prod.mk.injEq] at h
  obtain ⟨hp, rfl, rfl⟩ := h
  obtain ⟨F, hF⟩ := s21 _ _ hp (hX _ (.head _)) (hX _ (.tail _ (.head _)))
  exact ⟨Af21 F, (f21_body F _ _).trans hF⟩)
/-! gantry/hash.Equal -/
def lVG0224 : List CEnt := []
def VG0224 : Env := mkEnv T02 G02 lVG0224
theorem eVG0224 : EOk Tryd.prog VG0224 := eok_mk (by exact trivial)
def Af24 (F : Nat) : Cuts := { F := F, at_ := fun n => match n with | 5012 => some [(0, .plain), (1, .plain), (5, .plain), (13, .plain), (14, .plain)] | _ => none, join := fun n => match n with | 1030 => some [(0, .plain), (1, .plain)] | 3022 => some [(0, .plain), (1, .plain)] | 4020 => some [(0, .plain), (1, .plain), (5, .plain)] | 5014 => some [(0, .plain), (1, .plain), (5, .plain), (13, .plain), (14, .plain)] | 9003 => some [(5, .plain)] | _ => none }
def ef24_a : (List Int) × (List Int) → St := fun (a0, a1) => { tmps := [(0, (.str a0)), (1, (.str a1))], heap := [], next := 0, nt := 29, m := 0 }
def ef24_j1030 : (List Int) × (List Int) → St := fun (t0, t1) => { tmps := [(0, (.str t0)), (1, (.str t1))], heap := [], next := 0, nt := 29, m := 0 }
def ef24_j3022 : (List Int) × (List Int) → St := fun (t0, t1) => { tmps := [(0, (.str t0)), (1, (.str t1))], heap := [], next := 0, nt := 29, m := 0 }
def ef24_j4020 : (List Int) × (List Int) × Int → St := fun (t0, t1, t5) => { tmps := [(0, (.str t0)), (1, (.str t1)), (5, (.int .u8 t5))], heap := [], next := 0, nt := 29, m := 0 }
def ef24_j5014 : (List Int) × (List Int) × Int × Int × Int → St := fun (t0, t1, t5, t13, t14) => { tmps := [(0, (.str t0)), (1, (.str t1)), (5, (.int .u8 t5)), (13, (.int .i64 t13)), (14, (.int .i64 t14))], heap := [], next := 0, nt := 29, m := 0 }
def ef24_l5012 : (List Int) × (List Int) × Int × Int × Int → St := fun (t0, t1, t5, t13, t14) => { tmps := [(0, (.str t0)), (1, (.str t1)), (5, (.int .u8 t5)), (13, (.int .i64 t13)), (14, (.int .i64 t14))], heap := [], next := 0, nt := 29, m := 0 }
def ef24_j9003 : Int → St := fun t5 => { tmps := [(5, (.int .u8 t5))], heap := [], next := 0, nt := 29, m := 0 }
def f24_n0 (F : Nat) (kf24_j1030 : (List Int) × (List Int) → Option (AV × List Blk)) : (List Int) × (List Int) → Option (AV × List Blk) := fun (a0, a1) => (kf24_j1030 (a0, a1))
theorem f24_n0_eq (F : Nat) (Rf24_j1030 : St → Option (AV × List Blk)) : ∀ v, aexec VG0224 (Af24 F) (sub (bodyOf Tryd.f24) [0]) (ef24_a v) (kSeq (fun s => Rf24_j1030 (cutTo VG0224 (some [(0, .plain), (1, .plain)]) s)) (kFin VG0224 0 (Tryd.f24).results.toList)) = f24_n0 F (fun w => Rf24_j1030 (ef24_j1030 w)) v := by
  rintro ⟨a0, a1⟩; kernel_rfl
def f24_n10 (F : Nat) (kf24_j3022 : (List Int) × (List Int) → Option (AV × List Blk)) : (List Int) × (List Int) → Option (AV × List Blk) := fun (t0, t1) => (cond ((↑t0.length : Int) != (↑t1.length : Int)) (some ((.bool false), [])) (kf24_j3022 (t0, t1)))
theorem f24_n10_eq (F : Nat) (Rf24_j3022 : St → Option (AV × List Blk)) : ∀ v, aexec VG0224 (Af24 F) (sub (bodyOf Tryd.f24) [1, 0]) (ef24_j1030 v) (kSeq (fun s => Rf24_j3022 (cutTo VG0224 (some [(0, .plain), (1, .plain)]) s)) (kFin VG0224 0 (Tryd.f24).results.toList)) = f24_n10 F (fun w => Rf24_j3022 (ef24_j3022 w)) v := by
  rintro ⟨t0, t1⟩; kernel_rfl
def f24_n110 (F : Nat) (kf24_j4020 : (List Int) × (List Int) × Int → Option (AV × List Blk)) : (List Int) × (List Int) → Option (AV × List Blk) := fun (t0, t1) => (kf24_j4020 (t0, t1, (0 : Int)))
theorem f24_n110_eq (F : Nat) (Rf24_j4020 : St → Option (AV × List Blk)) : ∀ v, aexec VG0224 (Af24 F) (sub (bodyOf Tryd.f24) [1, 1, 0]) (ef24_j3022 v) (kSeq (fun s => Rf24_j4020 (cutTo VG0224 (some [(0, .plain), (1, .plain), (5, .plain)]) s)) (kFin VG0224 0 (Tryd.f24).results.toList)) = f24_n110 F (fun w => Rf24_j4020 (ef24_j4020 w)) v := by
  rintro ⟨t0, t1⟩; kernel_rfl
def f24_n11100 (F : Nat) (kf24_j5014 : (List Int) × (List Int) × Int × Int × Int → Option (AV × List Blk)) (kf24_j9003 : Int → Option (AV × List Blk)) : (List Int) × (List Int) × Int → Option (AV × List Blk) := fun (t0, t1, t5) => (kf24_j5014 (t0, t1, t5, (↑t0.length : Int), (0 : Int)))
theorem f24_n11100_eq (F : Nat) (Rf24_j5014 : St → Option (AV × List Blk)) (Rf24_j9003 : St → Option (AV × List Blk)) : ∀ v, aexec VG0224 (Af24 F) (sub (bodyOf Tryd.f24) [1, 1, 1, 0, 0]) (ef24_j4020 v) (kSeq (fun s => Rf24_j5014 (cutTo VG0224 (some [(0, .plain), (1, .plain), (5, .plain), (13, .plain), (14, .plain)]) s)) (kSeq (fun s => Rf24_j9003 (cutTo VG0224 (some [(5, .plain)]) s)) (kFin VG0224 0 (Tryd.f24).results.toList))) = f24_n11100 F (fun w => Rf24_j5014 (ef24_j5014 w)) (fun w => Rf24_j9003 (ef24_j9003 w)) v := by
  rintro ⟨t0, t1, t5⟩; kernel_rfl
def f24_n1110100 (F : Nat) (kf24_l5012 : (List Int) × (List Int) × Int × Int × Int → Option (AV × List Blk)) (kf24_j9003 : Int → Option (AV × List Blk)) : (List Int) × (List Int) × Int × Int × Int → Option (AV × List Blk) := fun (t0, t1, t5, t13, t14) => (cond (decide (t14 < t13)) (cond ((decide (0 ≤ t14)) && (decide (t14 < (↑t0.length : Int)))) (cond ((decide (0 ≤ t14)) && (decide (t14 < (↑t1.length : Int)))) (kf24_l5012 (t0, t1, (ibits .or .u8 t5 (ibits .xor .u8 (t0.getD (Int.toNat t14) 0) (t1.getD (Int.toNat t14) 0))), t13, (IntKind.i64.wrap (t14 + (1 : Int))))) none) none) (kf24_j9003 t5))
theorem f24_n1110100_eq (F : Nat) (Rf24_l5012 : St → Option (AV × List Blk)) (Rf24_j9003 : St → Option (AV × List Blk)) : ∀ v, aexec VG0224 (Af24 F) (sub (bodyOf Tryd.f24) [1, 1, 1, 0, 1, 0, 0]) (ef24_l5012 v) (kSeq (fun s => Rf24_l5012 (cutTo VG0224 (some [(0, .plain), (1, .plain), (5, .plain), (13, .plain), (14, .plain)]) s)) (kBlock 0 (kSeq (fun s => Rf24_j9003 (cutTo VG0224 (some [(5, .plain)]) s)) (kFin VG0224 0 (Tryd.f24).results.toList)))) = f24_n1110100 F (fun w => Rf24_l5012 (ef24_l5012 w)) (fun w => Rf24_j9003 (ef24_j9003 w)) v := by
  rintro ⟨t0, t1, t5, t13, t14⟩; kernel_rfl
def f24_n111010_i : (List Int) × (List Int) × Int × Int × Int → (List Int) × (List Int) × Int × Int × Int := fun (t0, t1, t5, t13, t14) => (t0, t1, t5, t13, t14)
def f24_n111010 (F : Nat) (kf24_j9003 : Int → Option (AV × List Blk)) : (List Int) × (List Int) × Int × Int × Int → Option (AV × List Blk) := fun v => loopN (fun k => f24_n1110100 F k kf24_j9003) F (f24_n111010_i v)
theorem f24_n111010_eq (F : Nat) (Rf24_j9003 : St → Option (AV × List Blk)) : ∀ v, aexec VG0224 (Af24 F) (sub (bodyOf Tryd.f24) [1, 1, 1, 0, 1, 0]) (ef24_j5014 v) (kBlock 0 (kSeq (fun s => Rf24_j9003 (cutTo VG0224 (some [(5, .plain)]) s)) (kFin VG0224 0 (Tryd.f24).results.toList))) = f24_n111010 F (fun w => Rf24_j9003 (ef24_j9003 w)) v :=
  loop_cut (c := (sub (bodyOf Tryd.f24) [1, 1, 1, 0, 1, 0])) (d := (sub (bodyOf Tryd.f24) [1, 1, 1, 0, 1, 0, 0])) (by kernel_rfl) (spec := [(0, .plain), (1, .plain), (5, .plain), (13, .plain), (14, .plain)]) (by kernel_rfl) ef24_j5014 ef24_l5012 (kBlock 0 (kSeq (fun s => Rf24_j9003 (cutTo VG0224 (some [(5, .plain)]) s)) (kFin VG0224 0 (Tryd.f24).results.toList))) f24_n111010_i (fun k => f24_n1110100 F k (fun w => Rf24_j9003 (ef24_j9003 w)))
    (by rintro ⟨t0, t1, t5, t13, t14⟩; kernel_rfl) (fun Rf24_l5012 => f24_n1110100_eq F Rf24_l5012 Rf24_j9003)
def f24_n11101 (F : Nat) (kf24_j9003 : Int → Option (AV × List Blk)) : (List Int) × (List Int) × Int × Int × Int → Option (AV × List Blk) := f24_n111010 F kf24_j9003
theorem f24_n11101_eq (F : Nat) (Rf24_j9003 : St → Option (AV × List Blk)) : ∀ v, aexec VG0224 (Af24 F) (sub (bodyOf Tryd.f24) [1, 1, 1, 0, 1]) (ef24_j5014 v) (kSeq (fun s => Rf24_j9003 (cutTo VG0224 (some [(5, .plain)]) s)) (kFin VG0224 0 (Tryd.f24).results.toList)) = f24_n11101 F (fun w => Rf24_j9003 (ef24_j9003 w)) v := fun v =>
  (block_in (c := (sub (bodyOf Tryd.f24) [1, 1, 1, 0, 1])) (d := (sub (bodyOf Tryd.f24) [1, 1, 1, 0, 1, 0])) (id := 0) (by kernel_rfl) _ _).trans (f24_n111010_eq F Rf24_j9003 v)
def f24_n1110 (F : Nat) (kf24_j9003 : Int → Option (AV × List Blk)) : (List Int) × (List Int) × Int → Option (AV × List Blk) := fun v => f24_n11100 F (f24_n11101 F kf24_j9003) kf24_j9003 v
theorem f24_n1110_eq (F : Nat) (Rf24_j9003 : St → Option (AV × List Blk)) : ∀ v, aexec VG0224 (Af24 F) (sub (bodyOf Tryd.f24) [1, 1, 1, 0]) (ef24_j4020 v) (kSeq (fun s => Rf24_j9003 (cutTo VG0224 (some [(5, .plain)]) s)) (kFin VG0224 0 (Tryd.f24).results.toList)) = f24_n1110 F (fun w => Rf24_j9003 (ef24_j9003 w)) v :=
  seq_cut (c := (sub (bodyOf Tryd.f24) [1, 1, 1, 0])) (a := (sub (bodyOf Tryd.f24) [1, 1, 1, 0, 0])) (b := (sub (bodyOf Tryd.f24) [1, 1, 1, 0, 1])) (by kernel_rfl) (spec := [(0, .plain), (1, .plain), (5, .plain), (13, .plain), (14, .plain)]) (by kernel_rfl) ef24_j4020 ef24_j5014 (kSeq (fun s => Rf24_j9003 (cutTo VG0224 (some [(5, .plain)]) s)) (kFin VG0224 0 (Tryd.f24).results.toList)) (fun k => f24_n11100 F k (fun w => Rf24_j9003 (ef24_j9003 w))) (f24_n11101 F (fun w => Rf24_j9003 (ef24_j9003 w)))
    (fun Rf24_j5014 => f24_n11100_eq F Rf24_j5014 Rf24_j9003) (f24_n11101_eq F Rf24_j9003)
def f24_n1111 (F : Nat) : Int → Option (AV × List Blk) := fun t5 => (some ((.bool (t5 == (0 : Int))), []))
theorem f24_n1111_eq (F : Nat) : ∀ v, aexec VG0224 (Af24 F) (sub (bodyOf Tryd.f24) [1, 1, 1, 1]) (ef24_j9003 v) (kFin VG0224 0 (Tryd.f24).results.toList) = f24_n1111 F v := by
  intro t5; kernel_rfl
def f24_n111 (F : Nat) : (List Int) × (List Int) × Int → Option (AV × List Blk) := fun v => f24_n1110 F (f24_n1111 F) v
theorem f24_n111_eq (F : Nat) : ∀ v, aexec VG0224 (Af24 F) (sub (bodyOf Tryd.f24) [1, 1, 1]) (ef24_j4020 v) (kFin VG0224 0 (Tryd.f24).results.toList) = f24_n111 F v :=
  seq_cut (c := (sub (bodyOf Tryd.f24) [1, 1, 1])) (a := (sub (bodyOf Tryd.f24) [1, 1, 1, 0])) (b := (sub (bodyOf Tryd.f24) [1, 1, 1, 1])) (by kernel_rfl) (spec := [(5, .plain)]) (by kernel_rfl) ef24_j4020 ef24_j9003 (kFin VG0224 0 (Tryd.f24).results.toList) (fun k => f24_n1110 F k) (f24_n1111 F)
    (fun Rf24_j9003 => f24_n1110_eq F Rf24_j9003) (f24_n1111_eq F)
def f24_n11 (F : Nat) : (List Int) × (List Int) → Option (AV × List Blk) := fun v => f24_n110 F (f24_n111 F) v
theorem f24_n11_eq (F : Nat) : ∀ v, aexec VG0224 (Af24 F) (sub (bodyOf Tryd.f24) [1, 1]) (ef24_j3022 v) (kFin VG0224 0 (Tryd.f24).results.toList) = f24_n11 F v :=
  seq_cut (c := (sub (bodyOf Tryd.f24) [1, 1])) (a := (sub (bodyOf Tryd.f24) [1, 1, 0])) (b := (sub (bodyOf Tryd.f24) [1, 1, 1])) (by kernel_rfl) (spec := [(0, .plain), (1, .plain), (5, .plain)]) (by kernel_rfl) ef24_j3022 ef24_j4020 (kFin VG0224 0 (Tryd.f24).results.toList) (fun k => f24_n110 F k) (f24_n111 F)
    (fun Rf24_j4020 => f24_n110_eq F Rf24_j4020) (f24_n111_eq F)
def f24_n1 (F : Nat) : (List Int) × (List Int) → Option (AV × List Blk) := fun v => f24_n10 F (f24_n11 F) v
theorem f24_n1_eq (F : Nat) : ∀ v, aexec VG0224 (Af24 F) (sub (bodyOf Tryd.f24) [1]) (ef24_j1030 v) (kFin VG0224 0 (Tryd.f24).results.toList) = f24_n1 F v :=
  seq_cut (c := (sub (bodyOf Tryd.f24) [1])) (a := (sub (bodyOf Tryd.f24) [1, 0])) (b := (sub (bodyOf Tryd.f24) [1, 1])) (by kernel_rfl) (spec := [(0, .plain), (1, .plain)]) (by kernel_rfl) ef24_j1030 ef24_j3022 (kFin VG0224 0 (Tryd.f24).results.toList) (fun k => f24_n10 F k) (f24_n11 F)
    (fun Rf24_j3022 => f24_n10_eq F Rf24_j3022) (f24_n11_eq F)
def f24_nt (F : Nat) : (List Int) × (List Int) → Option (AV × List Blk) := fun v => f24_n0 F (f24_n1 F) v
theorem f24_nt_eq (F : Nat) : ∀ v, aexec VG0224 (Af24 F) (sub (bodyOf Tryd.f24) []) (ef24_a v) (kFin VG0224 0 (Tryd.f24).results.toList) = f24_nt F v :=
  seq_cut (c := (sub (bodyOf Tryd.f24) [])) (a := (sub (bodyOf Tryd.f24) [0])) (b := (sub (bodyOf Tryd.f24) [1])) (by kernel_rfl) (spec := [(0, .plain), (1, .plain)]) (by kernel_rfl) ef24_a ef24_j1030 (kFin VG0224 0 (Tryd.f24).results.toList) (fun k => f24_n0 F k) (f24_n1 F)
    (fun Rf24_j1030 => f24_n0_eq F Rf24_j1030) (f24_n1_eq F)
/-- gantry/hash.Equal -/
def f24 (F : Nat) : (List Int) × (List Int) → Option (AV × List Blk) := f24_nt F
theorem f24_body (F : Nat) (a0 : List Int) (a1 : List Int) : abody VG0224 (Af24 F) Tryd.f24 [(.str a0), (.str a1)] [] = f24 F (a0, a1) :=
  (abody_in (c := (sub (bodyOf Tryd.f24) [])) (by kernel_rfl) (s := ef24_a (a0, a1)) (by kernel_rfl)).trans (f24_nt_eq F (a0, a1))
def r24 : CRun := fun X H => match X, H with
  | [(.str a0), (.str a1)], [] => some (true, (.bool (decide (a0 = a1))), [])
  | _, _ => none
theorem or8_nn (x y : Int) : 0 ≤ ibits .or .u8 x y := by simp only [ibits, u8mod]; omega
theorem or8_zero (x y : Int) (hx : 0 ≤ x ∧ x ≤ 255) (hy : 0 ≤ y ∧ y ≤ 255) : ibits .or .u8 x y = 0 ↔ x = 0 ∧ y = 0 := by
  obtain ⟨a, rfl⟩ := Int.eq_ofNat_of_zero_le hx.1
  obtain ⟨b, rfl⟩ := Int.eq_ofNat_of_zero_le hy.1
  have e : ibits .or .u8 (a : Int) (b : Int) = ((a ||| b : Nat) : Int) := by
    show IntKind.u8.wrap (((BitVec.ofInt 8 (a : Int)) ||| (BitVec.ofInt 8 (b : Int))).toNat : Int) = _
    rw [BitVec.toNat_or, BitVec.toNat_ofInt, BitVec.toNat_ofInt]
    have e1 : ((a : Int) % ((2 ^ 8 : Nat) : Int)).toNat = a := by omega
    have e2 : ((b : Int) % ((2 ^ 8 : Nat) : Int)).toNat = b := by omega
    rw [e1, e2]
    have := Nat.or_lt_two_pow (show a < 2 ^ 8 by omega) (show b < 2 ^ 8 by omega)
    rw [u8w (by omega) (by omega)]
  rw [e]
  constructor
  · intro h
    have h0 : a ||| b = 0 := by omega
    have h1 := (Nat.left_le_or : a ≤ a ||| b)
    have h2 := (Nat.right_le_or : b ≤ a ||| b)
    omega
  · rintro ⟨h1, h2⟩
    have : a = 0 := by omega
    have : b = 0 := by omega
    subst a; subst b; rfl
theorem or8_le (x y : Int) : ibits .or .u8 x y ≤ 255 := by simp only [ibits, u8mod]; omega
theorem xor8_nn (x y : Int) : 0 ≤ ibits .xor .u8 x y ∧ ibits .xor .u8 x y ≤ 255 := by simp only [ibits, u8mod]; omega
theorem xor8_zero (x y : Int) (hx : 0 ≤ x ∧ x ≤ 255) (hy : 0 ≤ y ∧ y ≤ 255) : ibits .xor .u8 x y = 0 ↔ x = y := by
  obtain ⟨a, rfl⟩ := Int.eq_ofNat_of_zero_le hx.1
  obtain ⟨b, rfl⟩ := Int.eq_ofNat_of_zero_le hy.1
  have e : ibits .xor .u8 (a : Int) (b : Int) = ((a ^^^ b : Nat) : Int) := by
    show IntKind.u8.wrap (((BitVec.ofInt 8 (a : Int)) ^^^ (BitVec.ofInt 8 (b : Int))).toNat : Int) = _
    rw [BitVec.toNat_xor, BitVec.toNat_ofInt, BitVec.toNat_ofInt]
    have e1 : ((a : Int) % ((2 ^ 8 : Nat) : Int)).toNat = a := by omega
    have e2 : ((b : Int) % ((2 ^ 8 : Nat) : Int)).toNat = b := by omega
    rw [e1, e2]
    have := Nat.xor_lt_two_pow (show a < 2 ^ 8 by omega) (show b < 2 ^ 8 by omega)
    rw [u8w (by omega) (by omega)]
  rw [e]
  constructor
  · intro h
    have h0 : a ^^^ b = 0 := by omega
    have h1 : a ^^^ b ^^^ b = 0 ^^^ b := by rw [h0]
    rw [Nat.xor_assoc, Nat.xor_self, Nat.xor_zero, Nat.zero_xor] at h1
    rw [h1]
  · intro h
    have : a = b := by omega
    subst this
    rw [Nat.xor_self]; rfl
theorem byte_get {l : List Int} (h : ∀ x ∈ l, 0 ≤ x ∧ x ≤ 255) (i : Nat) : 0 ≤ l.getD i 0 ∧ l.getD i 0 ≤ 255 := by
  by_cases hi : i < l.length
  · rw [List.getD_eq_getElem?_getD, List.getElem?_eq_getElem hi]; exact h _ (List.getElem_mem hi)
  · rw [List.getD_eq_getElem?_getD, List.getElem?_eq_none (by omega)]; simp
theorem s24 (a0 : List Int) (a1 : List Int) (h0 : okV (.str a0)) (h1 : okV (.str a1)) : ∃ F, f24 F (a0, a1) = some ((.bool (decide (a0 = a1))), []) := by
  refine ⟨a0.length + 1, ?_⟩
  have hl0 := h0.1
  have hl1 := h1.1
  simp only [f24, f24_nt, f24_n0, f24_n1, f24_n10, int_bne]
  by_cases hl : a0.length = a1.length
  · rw [cond_neg (by omega)]
    simp only [f24_n11, f24_n110, f24_n111, f24_n1110, f24_n11100, f24_n11101, f24_n111010, f24_n111010_i]
    refine loopN_ind (fun m s => s.1 = a0 ∧ s.2.1 = a1 ∧ s.2.2.2.1 = (a0.length : Int) ∧ s.2.2.2.2 = ((a0.length - m : Nat) : Int) ∧ m ≤ a0.length ∧ (0 ≤ s.2.2.1 ∧ s.2.2.1 ≤ 255) ∧ (s.2.2.1 = 0 ↔ ∀ i, i < a0.length - m → a0.getD i 0 = a1.getD i 0)) ?_ _ a0.length _ (by omega)
      ⟨rfl, rfl, rfl, by simp, Nat.le_refl _, ⟨by simp, by simp⟩, by simp⟩
    rintro m ⟨t0, t1, t5, t13, t14⟩ k ⟨e1, e2, e3, e4, hm, hb, hiff⟩ hk
    simp only at e1 e2 e3 e4 hm hb hiff
    subst e1; subst e2; subst e3; subst e4
    simp only [f24_n1110100, dec_and]
    cases m with
    | zero =>
      rw [cond_neg (by omega)]
      simp only [f24_n1111, int_beq]
      rw [Nat.sub_zero] at hiff
      congr 3
      rw [Bool.eq_iff_iff, decide_eq_true_eq, decide_eq_true_eq, hiff]
      constructor
      · intro h
        refine List.ext_getElem hl fun i h1 h2 => ?_
        have := h i h1
        rwa [List.getD_eq_getElem?_getD, List.getElem?_eq_getElem h1, List.getD_eq_getElem?_getD, List.getElem?_eq_getElem h2] at this
      · intro h i _; rw [h]
    | succ m =>
      rw [cond_pos (by omega), cond_pos (by omega), cond_pos (by omega), i64w (by omega) (by omega), Int.toNat_natCast]
      have b0 := byte_get h0.2 (t0.length - (m + 1))
      have b1 := byte_get h1.2 (t0.length - (m + 1))
      refine hk m _ (by omega) ⟨rfl, rfl, rfl, by simp only []; omega, by omega, ⟨or8_nn _ _, or8_le _ _⟩, ?_⟩
      simp only []
      rw [or8_zero _ _ hb (xor8_nn _ _), xor8_zero _ _ b0 b1, hiff]
      constructor
      · rintro ⟨h1, h2⟩ i hi
        by_cases hi' : i < t0.length - (m + 1)
        · exact h1 i hi'
        · rw [show i = t0.length - (m + 1) by omega]; exact h2
      · intro h
        exact ⟨fun i hi => h i (by omega), h _ (by omega)⟩
  · rw [cond_pos (by omega)]
    have : ¬ a0 = a1 := fun e => hl (by rw [e])
    simp [this]

theorem c24 : CallOk Tryd.prog G02 24 r24 := callOk_of (V := VG0224) mixed tys eVG0224 (f := 24) (fn := Tryd.f24) Tryd.func24 (by kernel_rfl) (c := sub (bodyOf Tryd.f24) []) (by kernel_rfl) (by
  intro X H r H' h hX hH
  unfold r24 at h; split at h <;> try contradiction
  simp only [Option.some.injEq, Prod.mk.injEq] at h
  obtain ⟨hp, rfl, rfl⟩ := h
  obtain ⟨F, hF⟩ := s24 _ _ (hX _ (.head _)) (hX _ (.tail _ (.head _)))
  exact ⟨Af24 F, (f24_body F _ _).trans hF⟩)
/-! gantry/gantrylaw02.hex -/
def lVG0225 : List CEnt := []
def VG0225 : Env := mkEnv T02 G02 lVG0225
theorem eVG0225 : EOk Tryd.prog VG0225 := eok_mk (by exact trivial)
def Af25 (F : Nat) : Cuts := { F := F, at_ := fun n => match n with | 4010 => some [(0, .plain), (3, .plain), (4, .own 5), (5, .plain)] | _ => none, join := fun n => match n with | 1022 => some [(0, .plain)] | 2020 => some [(0, .plain), (3, .plain)] | 3018 => some [(0, .plain), (3, .plain), (4, .plain)] | 4012 => some [(0, .plain), (3, .plain), (4, .plain), (5, .plain)] | 7003 => some [(4, .plain)] | _ => none }
def ef25_a : (List Int) → St := fun a0 => { tmps := [(0, (.str a0))], heap := [], next := 0, nt := 29, m := 0 }
def ef25_j1022 : (List Int) → St := fun t0 => { tmps := [(0, (.str t0))], heap := [], next := 0, nt := 29, m := 0 }
def ef25_j2020 : (List Int) × (List Int) → St := fun (t0, t3) => { tmps := [(0, (.str t0)), (3, (.str t3))], heap := [], next := 0, nt := 29, m := 0 }
def ef25_j3018 : (List Int) × (List Int) → St := fun (t0, t3) => { tmps := [(0, (.str t0)), (3, (.str t3)), (4, .ns)], heap := [], next := 0, nt := 29, m := 0 }
def ef25_j4012 : (List Int) × (List Int) × Int → St := fun (t0, t3, t5) => { tmps := [(0, (.str t0)), (3, (.str t3)), (4, .ns), (5, (.int .i64 t5))], heap := [], next := 0, nt := 29, m := 0 }
def ef25_l4010 : (List Int) × (List Int) × Int × (List Int) → St := fun (t0, t3, t5, x4) => { tmps := [(0, (.str t0)), (3, (.str t3)), (4, (.own 0 0 1)), (5, (.int .i64 t5))], heap := [(0, (.cells x4.length (.rI .u8 x4) true))], next := 1, nt := 29, m := 0 }
def ef25_j7003 : (List Int) → St := fun x1 => { tmps := [(4, (.own 0 0 1))], heap := [(0, (.cells x1.length (.rI .u8 x1) true))], next := 1, nt := 29, m := 0 }
def f25_n0 (F : Nat) (kf25_j1022 : (List Int) → Option (AV × List Blk)) : (List Int) → Option (AV × List Blk) := fun a0 => (kf25_j1022 a0)
theorem f25_n0_eq (F : Nat) (Rf25_j1022 : St → Option (AV × List Blk)) : ∀ v, aexec VG0225 (Af25 F) (sub (bodyOf Tryd.f25) [0]) (ef25_a v) (kSeq (fun s => Rf25_j1022 (cutTo VG0225 (some [(0, .plain)]) s)) (kFin VG0225 0 (Tryd.f25).results.toList)) = f25_n0 F (fun w => Rf25_j1022 (ef25_j1022 w)) v := by
  intro a0; kernel_rfl
def f25_n10 (F : Nat) (kf25_j2020 : (List Int) × (List Int) → Option (AV × List Blk)) : (List Int) → Option (AV × List Blk) := fun t0 => (kf25_j2020 (t0, [48, 49, 50, 51, 52, 53, 54, 55, 56, 57, 97, 98, 99, 100, 101, 102]))
theorem f25_n10_eq (F : Nat) (Rf25_j2020 : St → Option (AV × List Blk)) : ∀ v, aexec VG0225 (Af25 F) (sub (bodyOf Tryd.f25) [1, 0]) (ef25_j1022 v) (kSeq (fun s => Rf25_j2020 (cutTo VG0225 (some [(0, .plain), (3, .plain)]) s)) (kFin VG0225 0 (Tryd.f25).results.toList)) = f25_n10 F (fun w => Rf25_j2020 (ef25_j2020 w)) v := by
  intro t0; kernel_rfl
def f25_n110 (F : Nat) (kf25_j3018 : (List Int) × (List Int) → Option (AV × List Blk)) : (List Int) × (List Int) → Option (AV × List Blk) := fun (t0, t3) => (kf25_j3018 (t0, t3))
theorem f25_n110_eq (F : Nat) (Rf25_j3018 : St → Option (AV × List Blk)) : ∀ v, aexec VG0225 (Af25 F) (sub (bodyOf Tryd.f25) [1, 1, 0]) (ef25_j2020 v) (kSeq (fun s => Rf25_j3018 (cutTo VG0225 (some [(0, .plain), (3, .plain), (4, .plain)]) s)) (kFin VG0225 0 (Tryd.f25).results.toList)) = f25_n110 F (fun w => Rf25_j3018 (ef25_j3018 w)) v := by
  rintro ⟨t0, t3⟩; kernel_rfl
def f25_n11100 (F : Nat) (kf25_j4012 : (List Int) × (List Int) × Int → Option (AV × List Blk)) (kf25_j7003 : (List Int) → Option (AV × List Blk)) : (List Int) × (List Int) → Option (AV × List Blk) := fun (t0, t3) => (kf25_j4012 (t0, t3, (0 : Int)))
theorem f25_n11100_eq (F : Nat) (Rf25_j4012 : St → Option (AV × List Blk)) (Rf25_j7003 : St → Option (AV × List Blk)) : ∀ v, aexec VG0225 (Af25 F) (sub (bodyOf Tryd.f25) [1, 1, 1, 0, 0]) (ef25_j3018 v) (kSeq (fun s => Rf25_j4012 (cutTo VG0225 (some [(0, .plain), (3, .plain), (4, .plain), (5, .plain)]) s)) (kSeq (fun s => Rf25_j7003 (cutTo VG0225 (some [(4, .plain)]) s)) (kFin VG0225 0 (Tryd.f25).results.toList))) = f25_n11100 F (fun w => Rf25_j4012 (ef25_j4012 w)) (fun w => Rf25_j7003 (ef25_j7003 w)) v := by
  rintro ⟨t0, t3⟩; kernel_rfl
def f25_n1110100 (F : Nat) (kf25_l4010 : (List Int) × (List Int) × Int × (List Int) → Option (AV × List Blk)) (kf25_j7003 : (List Int) → Option (AV × List Blk)) : (List Int) × (List Int) × Int × (List Int) → Option (AV × List Blk) := fun (t0, t3, t5, x4) => (cond (decide (t5 < (↑t0.length : Int))) (cond ((decide (0 ≤ t5)) && (decide (t5 < (↑t0.length : Int)))) (cond ((decide (0 ≤ (IntKind.u8.wrap (Int.tdiv (t0.getD (Int.toNat t5) 0) (16 : Int))))) && (decide ((IntKind.u8.wrap (Int.tdiv (t0.getD (Int.toNat t5) 0) (16 : Int))) < (↑t3.length : Int)))) (cond ((decide (0 ≤ t5)) && (decide (t5 < (↑t0.length : Int)))) (cond ((decide (0 ≤ (Int.tmod (t0.getD (Int.toNat t5) 0) (16 : Int)))) && (decide ((Int.tmod (t0.getD (Int.toNat t5) 0) (16 : Int)) < (↑t3.length : Int)))) (cond (decide ((x4.length + 2) < 1073741824)) (kf25_l4010 (t0, t3, (IntKind.i64.wrap (t5 + (1 : Int))), (x4 ++ [(t3.getD (Int.toNat (IntKind.u8.wrap (Int.tdiv (t0.getD (Int.toNat t5) 0) (16 : Int)))) 0), (t3.getD (Int.toNat (Int.tmod (t0.getD (Int.toNat t5) 0) (16 : Int))) 0)]))) none) none) none) none) none) (kf25_j7003 x4))
theorem f25_n1110100_eq (F : Nat) (Rf25_l4010 : St → Option (AV × List Blk)) (Rf25_j7003 : St → Option (AV × List Blk)) : ∀ v, aexec VG0225 (Af25 F) (sub (bodyOf Tryd.f25) [1, 1, 1, 0, 1, 0, 0]) (ef25_l4010 v) (kSeq (fun s => Rf25_l4010 (cutTo VG0225 (some [(0, .plain), (3, .plain), (4, .own 5), (5, .plain)]) s)) (kBlock 0 (kSeq (fun s => Rf25_j7003 (cutTo VG0225 (some [(4, .plain)]) s)) (kFin VG0225 0 (Tryd.f25).results.toList)))) = f25_n1110100 F (fun w => Rf25_l4010 (ef25_l4010 w)) (fun w => Rf25_j7003 (ef25_j7003 w)) v := by
  rintro ⟨t0, t3, t5, x4⟩; kernel_rfl
def f25_n111010_i : (List Int) × (List Int) × Int → (List Int) × (List Int) × Int × (List Int) := fun (t0, t3, t5) => (t0, t3, t5, [])
def f25_n111010 (F : Nat) (kf25_j7003 : (List Int) → Option (AV × List Blk)) : (List Int) × (List Int) × Int → Option (AV × List Blk) := fun v => loopN (fun k => f25_n1110100 F k kf25_j7003) F (f25_n111010_i v)
theorem f25_n111010_eq (F : Nat) (Rf25_j7003 : St → Option (AV × List Blk)) : ∀ v, aexec VG0225 (Af25 F) (sub (bodyOf Tryd.f25) [1, 1, 1, 0, 1, 0]) (ef25_j4012 v) (kBlock 0 (kSeq (fun s => Rf25_j7003 (cutTo VG0225 (some [(4, .plain)]) s)) (kFin VG0225 0 (Tryd.f25).results.toList))) = f25_n111010 F (fun w => Rf25_j7003 (ef25_j7003 w)) v :=
  loop_cut (c := (sub (bodyOf Tryd.f25) [1, 1, 1, 0, 1, 0])) (d := (sub (bodyOf Tryd.f25) [1, 1, 1, 0, 1, 0, 0])) (by kernel_rfl) (spec := [(0, .plain), (3, .plain), (4, .own 5), (5, .plain)]) (by kernel_rfl) ef25_j4012 ef25_l4010 (kBlock 0 (kSeq (fun s => Rf25_j7003 (cutTo VG0225 (some [(4, .plain)]) s)) (kFin VG0225 0 (Tryd.f25).results.toList))) f25_n111010_i (fun k => f25_n1110100 F k (fun w => Rf25_j7003 (ef25_j7003 w)))
    (by rintro ⟨t0, t3, t5⟩; kernel_rfl) (fun Rf25_l4010 => f25_n1110100_eq F Rf25_l4010 Rf25_j7003)
def f25_n11101 (F : Nat) (kf25_j7003 : (List Int) → Option (AV × List Blk)) : (List Int) × (List Int) × Int → Option (AV × List Blk) := f25_n111010 F kf25_j7003
theorem f25_n11101_eq (F : Nat) (Rf25_j7003 : St → Option (AV × List Blk)) : ∀ v, aexec VG0225 (Af25 F) (sub (bodyOf Tryd.f25) [1, 1, 1, 0, 1]) (ef25_j4012 v) (kSeq (fun s => Rf25_j7003 (cutTo VG0225 (some [(4, .plain)]) s)) (kFin VG0225 0 (Tryd.f25).results.toList)) = f25_n11101 F (fun w => Rf25_j7003 (ef25_j7003 w)) v := fun v =>
  (block_in (c := (sub (bodyOf Tryd.f25) [1, 1, 1, 0, 1])) (d := (sub (bodyOf Tryd.f25) [1, 1, 1, 0, 1, 0])) (id := 0) (by kernel_rfl) _ _).trans (f25_n111010_eq F Rf25_j7003 v)
def f25_n1110 (F : Nat) (kf25_j7003 : (List Int) → Option (AV × List Blk)) : (List Int) × (List Int) → Option (AV × List Blk) := fun v => f25_n11100 F (f25_n11101 F kf25_j7003) kf25_j7003 v
theorem f25_n1110_eq (F : Nat) (Rf25_j7003 : St → Option (AV × List Blk)) : ∀ v, aexec VG0225 (Af25 F) (sub (bodyOf Tryd.f25) [1, 1, 1, 0]) (ef25_j3018 v) (kSeq (fun s => Rf25_j7003 (cutTo VG0225 (some [(4, .plain)]) s)) (kFin VG0225 0 (Tryd.f25).results.toList)) = f25_n1110 F (fun w => Rf25_j7003 (ef25_j7003 w)) v :=
  seq_cut (c := (sub (bodyOf Tryd.f25) [1, 1, 1, 0])) (a := (sub (bodyOf Tryd.f25) [1, 1, 1, 0, 0])) (b := (sub (bodyOf Tryd.f25) [1, 1, 1, 0, 1])) (by kernel_rfl) (spec := [(0, .plain), (3, .plain), (4, .plain), (5, .plain)]) (by kernel_rfl) ef25_j3018 ef25_j4012 (kSeq (fun s => Rf25_j7003 (cutTo VG0225 (some [(4, .plain)]) s)) (kFin VG0225 0 (Tryd.f25).results.toList)) (fun k => f25_n11100 F k (fun w => Rf25_j7003 (ef25_j7003 w))) (f25_n11101 F (fun w => Rf25_j7003 (ef25_j7003 w)))
    (fun Rf25_j4012 => f25_n11100_eq F Rf25_j4012 Rf25_j7003) (f25_n11101_eq F Rf25_j7003)
def f25_n1111 (F : Nat) : (List Int) → Option (AV × List Blk) := fun x1 => (some ((.str x1), []))
theorem f25_n1111_eq (F : Nat) : ∀ v, aexec VG0225 (Af25 F) (sub (bodyOf Tryd.f25) [1, 1, 1, 1]) (ef25_j7003 v) (kFin VG0225 0 (Tryd.f25).results.toList) = f25_n1111 F v := by
  intro x1; kernel_rfl
def f25_n111 (F : Nat) : (List Int) × (List Int) → Option (AV × List Blk) := fun v => f25_n1110 F (f25_n1111 F) v
theorem f25_n111_eq (F : Nat) : ∀ v, aexec VG0225 (Af25 F) (sub (bodyOf Tryd.f25) [1, 1, 1]) (ef25_j3018 v) (kFin VG0225 0 (Tryd.f25).results.toList) = f25_n111 F v :=
  seq_cut (c := (sub (bodyOf Tryd.f25) [1, 1, 1])) (a := (sub (bodyOf Tryd.f25) [1, 1, 1, 0])) (b := (sub (bodyOf Tryd.f25) [1, 1, 1, 1])) (by kernel_rfl) (spec := [(4, .plain)]) (by kernel_rfl) ef25_j3018 ef25_j7003 (kFin VG0225 0 (Tryd.f25).results.toList) (fun k => f25_n1110 F k) (f25_n1111 F)
    (fun Rf25_j7003 => f25_n1110_eq F Rf25_j7003) (f25_n1111_eq F)
def f25_n11 (F : Nat) : (List Int) × (List Int) → Option (AV × List Blk) := fun v => f25_n110 F (f25_n111 F) v
theorem f25_n11_eq (F : Nat) : ∀ v, aexec VG0225 (Af25 F) (sub (bodyOf Tryd.f25) [1, 1]) (ef25_j2020 v) (kFin VG0225 0 (Tryd.f25).results.toList) = f25_n11 F v :=
  seq_cut (c := (sub (bodyOf Tryd.f25) [1, 1])) (a := (sub (bodyOf Tryd.f25) [1, 1, 0])) (b := (sub (bodyOf Tryd.f25) [1, 1, 1])) (by kernel_rfl) (spec := [(0, .plain), (3, .plain), (4, .plain)]) (by kernel_rfl) ef25_j2020 ef25_j3018 (kFin VG0225 0 (Tryd.f25).results.toList) (fun k => f25_n110 F k) (f25_n111 F)
    (fun Rf25_j3018 => f25_n110_eq F Rf25_j3018) (f25_n111_eq F)
def f25_n1 (F : Nat) : (List Int) → Option (AV × List Blk) := fun v => f25_n10 F (f25_n11 F) v
theorem f25_n1_eq (F : Nat) : ∀ v, aexec VG0225 (Af25 F) (sub (bodyOf Tryd.f25) [1]) (ef25_j1022 v) (kFin VG0225 0 (Tryd.f25).results.toList) = f25_n1 F v :=
  seq_cut (c := (sub (bodyOf Tryd.f25) [1])) (a := (sub (bodyOf Tryd.f25) [1, 0])) (b := (sub (bodyOf Tryd.f25) [1, 1])) (by kernel_rfl) (spec := [(0, .plain), (3, .plain)]) (by kernel_rfl) ef25_j1022 ef25_j2020 (kFin VG0225 0 (Tryd.f25).results.toList) (fun k => f25_n10 F k) (f25_n11 F)
    (fun Rf25_j2020 => f25_n10_eq F Rf25_j2020) (f25_n11_eq F)
def f25_nt (F : Nat) : (List Int) → Option (AV × List Blk) := fun v => f25_n0 F (f25_n1 F) v
theorem f25_nt_eq (F : Nat) : ∀ v, aexec VG0225 (Af25 F) (sub (bodyOf Tryd.f25) []) (ef25_a v) (kFin VG0225 0 (Tryd.f25).results.toList) = f25_nt F v :=
  seq_cut (c := (sub (bodyOf Tryd.f25) [])) (a := (sub (bodyOf Tryd.f25) [0])) (b := (sub (bodyOf Tryd.f25) [1])) (by kernel_rfl) (spec := [(0, .plain)]) (by kernel_rfl) ef25_a ef25_j1022 (kFin VG0225 0 (Tryd.f25).results.toList) (fun k => f25_n0 F k) (f25_n1 F)
    (fun Rf25_j1022 => f25_n0_eq F Rf25_j1022) (f25_n1_eq F)
/-- gantry/gantrylaw02.hex -/
def f25 (F : Nat) : (List Int) → Option (AV × List Blk) := f25_nt F
theorem f25_body (F : Nat) (a0 : List Int) : abody VG0225 (Af25 F) Tryd.f25 [(.str a0)] [] = f25 F a0 :=
  (abody_in (c := (sub (bodyOf Tryd.f25) [])) (by kernel_rfl) (s := ef25_a a0) (by kernel_rfl)).trans (f25_nt_eq F a0)
def r25 : CRun := fun X H => match X, H with
  | [(.str a0)], [] => some ((decide (a0.length < 536870000)), (.str (Sha.hex a0)), [])
  | _, _ => none
theorem s25 (a0 : List Int) (hp : ((decide (a0.length < 536870000))) = true) (h0 : okV (.str a0)) : ∃ F, f25 F a0 = some ((.str (Sha.hex a0)), []) := by
  have hl : a0.length < 536870000 := of_decide_eq_true hp
  refine ⟨a0.length + 1, ?_⟩
  simp only [f25, f25_nt, f25_n0, f25_n1, f25_n10, f25_n11, f25_n110, f25_n111, f25_n1110, f25_n11100, f25_n11101, f25_n111010, f25_n111010_i]
  have hx : ∀ i, (Sha.hex (a0.take i)).length = 2 * (a0.take i).length := by
    intro i; generalize a0.take i = l
    induction l with
    | nil => rfl
    | cons x l ih => simp only [Sha.hex, List.flatMap_cons, List.length_append] at ih ⊢; rw [ih]; simp; omega
  refine loopN_from (fun i => (a0, Sha.hexd, (i : Int), Sha.hex (a0.take i))) a0.length (by rfl) (fun i hi k => ?_) (fun k => ?_) _ (by omega)
  · have hb := byte_get h0.2 i
    have hln : ((Sha.hexd.length : Nat) : Int) = 16 := rfl
    simp only [f25_n1110100, dec_and, hln]
    rw [Int.toNat_natCast, tdiv_nn hb.1, tmod_nn hb.1, u8w (by omega) (by omega), i64w (x := (i : Int) + 1) (by omega) (by omega), cond_pos (by omega), cond_pos (by omega), cond_pos (by omega), cond_pos (by omega), cond_pos (by omega), cond_pos (by rw [hx, List.length_take]; omega)]
    have : Sha.hex (a0.take (i + 1)) = Sha.hex (a0.take i) ++ [Sha.hexd.getD (a0.getD i 0 / 16).toNat 0, Sha.hexd.getD (a0.getD i 0 % 16).toNat 0] := by
      simp only [Sha.hex]
      have e : a0.getD i 0 = a0[i] := by rw [List.getD_eq_getElem?_getD, List.getElem?_eq_getElem hi]; rfl
      rw [e, List.take_add_one, List.getElem?_eq_getElem hi, List.flatMap_append]
      simp only [Option.toList_some, List.flatMap_cons, List.flatMap_nil, List.append_nil]
    rw [this]; rfl
  · simp only [f25_n1110100]
    rw [cond_neg (by omega), List.take_length]
    rfl

theorem c25 : CallOk Tryd.prog G02 25 r25 := callOk_of (V := VG0225) mixed tys eVG0225 (f := 25) (fn := Tryd.f25) Tryd.func25 (by kernel_rfl) (c := sub (bodyOf Tryd.f25) []) (by kernel_rfl) (by
  intro X H r H' h hX hH
  unfold r25 at h; split at h <;> try contradiction
  simp only [Option.some.injEq, Prod.mk.injEq] at h
  obtain ⟨hp, rfl, rfl⟩ := h
  obtain ⟨F, hF⟩ := s25 _ hp (hX _ (.head _))
  exact ⟨Af25 F, (f25_body F _).trans hF⟩)
/-! gantry/gantryref02.Bytes32 -/
def lVG0220 : List CEnt := []
def VG0220 : Env := mkEnv T02 G02 lVG0220
theorem eVG0220 : EOk Tryd.prog VG0220 := eok_mk (by exact trivial)
def Af20 (F : Nat) : Cuts := { F := F, at_ := fun n => match n with | 3010 => some [(1, .plain), (3, .own 5), (4, .plain)] | _ => none, join := fun n => match n with | 1020 => some [(1, .plain)] | 2018 => some [(1, .plain), (3, .plain)] | 3012 => some [(1, .plain), (3, .plain), (4, .plain)] | 6003 => some [(3, .plain)] | _ => none }
def ef20_a : (List Int) → St := fun a0 => { tmps := [(0, (.agg 32 (.rI .u8 a0)))], heap := [], next := 0, nt := 17, m := 0 }
def ef20_j1020 : (List Int) → St := fun x1 => { tmps := [(1, (.ptr 0 0 32 0 0 0 32))], heap := [(0, (.cells 32 (.rI .u8 x1) true))], next := 1, nt := 17, m := 0 }
def ef20_j2018 : (List Int) → St := fun x1 => { tmps := [(1, (.ptr 0 0 32 0 0 0 32)), (3, .ns)], heap := [(0, (.cells 32 (.rI .u8 x1) true))], next := 1, nt := 17, m := 0 }
def ef20_j3012 : Int × (List Int) → St := fun (t4, x2) => { tmps := [(1, (.ptr 0 0 32 0 0 0 32)), (3, .ns), (4, (.int .i64 t4))], heap := [(0, (.cells 32 (.rI .u8 x2) true))], next := 1, nt := 17, m := 0 }
def ef20_l3010 : Int × (List Int) × (List Int) → St := fun (t4, x2, x3) => { tmps := [(1, (.ptr 0 0 32 0 0 0 32)), (3, (.own 1 0 1)), (4, (.int .i64 t4))], heap := [(0, (.cells 32 (.rI .u8 x2) true)), (1, (.cells x3.length (.rI .u8 x3) true))], next := 2, nt := 17, m := 0 }
def ef20_j6003 : (List Int) → St := fun x1 => { tmps := [(3, (.own 0 0 1))], heap := [(0, (.cells x1.length (.rI .u8 x1) true))], next := 1, nt := 17, m := 0 }
def f20_n0 (F : Nat) (kf20_j1020 : (List Int) → Option (AV × List Blk)) : (List Int) → Option (AV × List Blk) := fun a0 => (kf20_j1020 a0)
theorem f20_n0_eq (F : Nat) (Rf20_j1020 : St → Option (AV × List Blk)) : ∀ v, aexec VG0220 (Af20 F) (sub (bodyOf Tryd.f20) [0]) (ef20_a v) (kSeq (fun s => Rf20_j1020 (cutTo VG0220 (some [(1, .plain)]) s)) (kFin VG0220 0 (Tryd.f20).results.toList)) = f20_n0 F (fun w => Rf20_j1020 (ef20_j1020 w)) v := by
  intro a0; kernel_rfl
def f20_n10 (F : Nat) (kf20_j2018 : (List Int) → Option (AV × List Blk)) : (List Int) → Option (AV × List Blk) := fun x1 => (kf20_j2018 x1)
theorem f20_n10_eq (F : Nat) (Rf20_j2018 : St → Option (AV × List Blk)) : ∀ v, aexec VG0220 (Af20 F) (sub (bodyOf Tryd.f20) [1, 0]) (ef20_j1020 v) (kSeq (fun s => Rf20_j2018 (cutTo VG0220 (some [(1, .plain), (3, .plain)]) s)) (kFin VG0220 0 (Tryd.f20).results.toList)) = f20_n10 F (fun w => Rf20_j2018 (ef20_j2018 w)) v := by
  intro x1; kernel_rfl
def f20_n1100 (F : Nat) (kf20_j3012 : Int × (List Int) → Option (AV × List Blk)) (kf20_j6003 : (List Int) → Option (AV × List Blk)) : (List Int) → Option (AV × List Blk) := fun x1 => (kf20_j3012 ((0 : Int), x1))
theorem f20_n1100_eq (F : Nat) (Rf20_j3012 : St → Option (AV × List Blk)) (Rf20_j6003 : St → Option (AV × List Blk)) : ∀ v, aexec VG0220 (Af20 F) (sub (bodyOf Tryd.f20) [1, 1, 0, 0]) (ef20_j2018 v) (kSeq (fun s => Rf20_j3012 (cutTo VG0220 (some [(1, .plain), (3, .plain), (4, .plain)]) s)) (kSeq (fun s => Rf20_j6003 (cutTo VG0220 (some [(3, .plain)]) s)) (kFin VG0220 0 (Tryd.f20).results.toList))) = f20_n1100 F (fun w => Rf20_j3012 (ef20_j3012 w)) (fun w => Rf20_j6003 (ef20_j6003 w)) v := by
  intro x1; kernel_rfl
def f20_n110100 (F : Nat) (kf20_l3010 : Int × (List Int) × (List Int) → Option (AV × List Blk)) (kf20_j6003 : (List Int) → Option (AV × List Blk)) : Int × (List Int) × (List Int) → Option (AV × List Blk) := fun (t4, x2, x3) => (cond (decide (t4 < (32 : Int))) (cond ((decide (0 ≤ t4)) && (decide (t4 < (32 : Int)))) (cond (decide ((x3.length + 1) < 1073741824)) (kf20_l3010 ((IntKind.i64.wrap (t4 + (1 : Int))), x2, (x3 ++ [(x2.getD (Int.toNat t4) 0)]))) none) none) (kf20_j6003 x3))
theorem f20_n110100_eq (F : Nat) (Rf20_l3010 : St → Option (AV × List Blk)) (Rf20_j6003 : St → Option (AV × List Blk)) : ∀ v, aexec VG0220 (Af20 F) (sub (bodyOf Tryd.f20) [1, 1, 0, 1, 0, 0]) (ef20_l3010 v) (kSeq (fun s => Rf20_l3010 (cutTo VG0220 (some [(1, .plain), (3, .own 5), (4, .plain)]) s)) (kBlock 0 (kSeq (fun s => Rf20_j6003 (cutTo VG0220 (some [(3, .plain)]) s)) (kFin VG0220 0 (Tryd.f20).results.toList)))) = f20_n110100 F (fun w => Rf20_l3010 (ef20_l3010 w)) (fun w => Rf20_j6003 (ef20_j6003 w)) v := by
  rintro ⟨t4, x2, x3⟩; kernel_rfl
def f20_n11010_i : Int × (List Int) → Int × (List Int) × (List Int) := fun (t4, x2) => (t4, x2, [])
def f20_n11010 (F : Nat) (kf20_j6003 : (List Int) → Option (AV × List Blk)) : Int × (List Int) → Option (AV × List Blk) := fun v => loopN (fun k => f20_n110100 F k kf20_j6003) F (f20_n11010_i v)
theorem f20_n11010_eq (F : Nat) (Rf20_j6003 : St → Option (AV × List Blk)) : ∀ v, aexec VG0220 (Af20 F) (sub (bodyOf Tryd.f20) [1, 1, 0, 1, 0]) (ef20_j3012 v) (kBlock 0 (kSeq (fun s => Rf20_j6003 (cutTo VG0220 (some [(3, .plain)]) s)) (kFin VG0220 0 (Tryd.f20).results.toList))) = f20_n11010 F (fun w => Rf20_j6003 (ef20_j6003 w)) v :=
  loop_cut (c := (sub (bodyOf Tryd.f20) [1, 1, 0, 1, 0])) (d := (sub (bodyOf Tryd.f20) [1, 1, 0, 1, 0, 0])) (by kernel_rfl) (spec := [(1, .plain), (3, .own 5), (4, .plain)]) (by kernel_rfl) ef20_j3012 ef20_l3010 (kBlock 0 (kSeq (fun s => Rf20_j6003 (cutTo VG0220 (some [(3, .plain)]) s)) (kFin VG0220 0 (Tryd.f20).results.toList))) f20_n11010_i (fun k => f20_n110100 F k (fun w => Rf20_j6003 (ef20_j6003 w)))
    (by rintro ⟨t4, x2⟩; kernel_rfl) (fun Rf20_l3010 => f20_n110100_eq F Rf20_l3010 Rf20_j6003)
def f20_n1101 (F : Nat) (kf20_j6003 : (List Int) → Option (AV × List Blk)) : Int × (List Int) → Option (AV × List Blk) := f20_n11010 F kf20_j6003
theorem f20_n1101_eq (F : Nat) (Rf20_j6003 : St → Option (AV × List Blk)) : ∀ v, aexec VG0220 (Af20 F) (sub (bodyOf Tryd.f20) [1, 1, 0, 1]) (ef20_j3012 v) (kSeq (fun s => Rf20_j6003 (cutTo VG0220 (some [(3, .plain)]) s)) (kFin VG0220 0 (Tryd.f20).results.toList)) = f20_n1101 F (fun w => Rf20_j6003 (ef20_j6003 w)) v := fun v =>
  (block_in (c := (sub (bodyOf Tryd.f20) [1, 1, 0, 1])) (d := (sub (bodyOf Tryd.f20) [1, 1, 0, 1, 0])) (id := 0) (by kernel_rfl) _ _).trans (f20_n11010_eq F Rf20_j6003 v)
def f20_n110 (F : Nat) (kf20_j6003 : (List Int) → Option (AV × List Blk)) : (List Int) → Option (AV × List Blk) := fun v => f20_n1100 F (f20_n1101 F kf20_j6003) kf20_j6003 v
theorem f20_n110_eq (F : Nat) (Rf20_j6003 : St → Option (AV × List Blk)) : ∀ v, aexec VG0220 (Af20 F) (sub (bodyOf Tryd.f20) [1, 1, 0]) (ef20_j2018 v) (kSeq (fun s => Rf20_j6003 (cutTo VG0220 (some [(3, .plain)]) s)) (kFin VG0220 0 (Tryd.f20).results.toList)) = f20_n110 F (fun w => Rf20_j6003 (ef20_j6003 w)) v :=
  seq_cut (c := (sub (bodyOf Tryd.f20) [1, 1, 0])) (a := (sub (bodyOf Tryd.f20) [1, 1, 0, 0])) (b := (sub (bodyOf Tryd.f20) [1, 1, 0, 1])) (by kernel_rfl) (spec := [(1, .plain), (3, .plain), (4, .plain)]) (by kernel_rfl) ef20_j2018 ef20_j3012 (kSeq (fun s => Rf20_j6003 (cutTo VG0220 (some [(3, .plain)]) s)) (kFin VG0220 0 (Tryd.f20).results.toList)) (fun k => f20_n1100 F k (fun w => Rf20_j6003 (ef20_j6003 w))) (f20_n1101 F (fun w => Rf20_j6003 (ef20_j6003 w)))
    (fun Rf20_j3012 => f20_n1100_eq F Rf20_j3012 Rf20_j6003) (f20_n1101_eq F Rf20_j6003)
def f20_n111 (F : Nat) : (List Int) → Option (AV × List Blk) := fun x1 => (some ((.str x1), []))
theorem f20_n111_eq (F : Nat) : ∀ v, aexec VG0220 (Af20 F) (sub (bodyOf Tryd.f20) [1, 1, 1]) (ef20_j6003 v) (kFin VG0220 0 (Tryd.f20).results.toList) = f20_n111 F v := by
  intro x1; kernel_rfl
def f20_n11 (F : Nat) : (List Int) → Option (AV × List Blk) := fun v => f20_n110 F (f20_n111 F) v
theorem f20_n11_eq (F : Nat) : ∀ v, aexec VG0220 (Af20 F) (sub (bodyOf Tryd.f20) [1, 1]) (ef20_j2018 v) (kFin VG0220 0 (Tryd.f20).results.toList) = f20_n11 F v :=
  seq_cut (c := (sub (bodyOf Tryd.f20) [1, 1])) (a := (sub (bodyOf Tryd.f20) [1, 1, 0])) (b := (sub (bodyOf Tryd.f20) [1, 1, 1])) (by kernel_rfl) (spec := [(3, .plain)]) (by kernel_rfl) ef20_j2018 ef20_j6003 (kFin VG0220 0 (Tryd.f20).results.toList) (fun k => f20_n110 F k) (f20_n111 F)
    (fun Rf20_j6003 => f20_n110_eq F Rf20_j6003) (f20_n111_eq F)
def f20_n1 (F : Nat) : (List Int) → Option (AV × List Blk) := fun v => f20_n10 F (f20_n11 F) v
theorem f20_n1_eq (F : Nat) : ∀ v, aexec VG0220 (Af20 F) (sub (bodyOf Tryd.f20) [1]) (ef20_j1020 v) (kFin VG0220 0 (Tryd.f20).results.toList) = f20_n1 F v :=
  seq_cut (c := (sub (bodyOf Tryd.f20) [1])) (a := (sub (bodyOf Tryd.f20) [1, 0])) (b := (sub (bodyOf Tryd.f20) [1, 1])) (by kernel_rfl) (spec := [(1, .plain), (3, .plain)]) (by kernel_rfl) ef20_j1020 ef20_j2018 (kFin VG0220 0 (Tryd.f20).results.toList) (fun k => f20_n10 F k) (f20_n11 F)
    (fun Rf20_j2018 => f20_n10_eq F Rf20_j2018) (f20_n11_eq F)
def f20_nt (F : Nat) : (List Int) → Option (AV × List Blk) := fun v => f20_n0 F (f20_n1 F) v
theorem f20_nt_eq (F : Nat) : ∀ v, aexec VG0220 (Af20 F) (sub (bodyOf Tryd.f20) []) (ef20_a v) (kFin VG0220 0 (Tryd.f20).results.toList) = f20_nt F v :=
  seq_cut (c := (sub (bodyOf Tryd.f20) [])) (a := (sub (bodyOf Tryd.f20) [0])) (b := (sub (bodyOf Tryd.f20) [1])) (by kernel_rfl) (spec := [(1, .plain)]) (by kernel_rfl) ef20_a ef20_j1020 (kFin VG0220 0 (Tryd.f20).results.toList) (fun k => f20_n0 F k) (f20_n1 F)
    (fun Rf20_j1020 => f20_n0_eq F Rf20_j1020) (f20_n1_eq F)
/-- gantry/gantryref02.Bytes32 -/
def f20 (F : Nat) : (List Int) → Option (AV × List Blk) := f20_nt F
theorem f20_body (F : Nat) (a0 : List Int) : abody VG0220 (Af20 F) Tryd.f20 [(.agg 32 (.rI .u8 a0))] [] = f20 F a0 :=
  (abody_in (c := (sub (bodyOf Tryd.f20) [])) (by kernel_rfl) (s := ef20_a a0) (by kernel_rfl)).trans (f20_nt_eq F a0)
def r20 : CRun := fun X H => match X, H with
  | [(.agg 32 (.rI .u8 a0))], [] => some (true, (.str a0), [])
  | _, _ => none
theorem s20 (a0 : List Int) (h0 : okV (.agg 32 (.rI .u8 a0))) : ∃ F, f20 F a0 = some ((.str a0), []) := by
  have hl := (okR_rI h0).1
  refine ⟨33, ?_⟩
  simp only [f20, f20_nt, f20_n0, f20_n1, f20_n10, f20_n11, f20_n110, f20_n1100, f20_n1101, f20_n11010, f20_n11010_i]
  refine loopN_from (fun i => ((i : Int), a0, a0.take i)) 32 (by rfl) (fun i hi k => ?_) (fun k => ?_) _ (by omega)
  · simp only [f20_n110100, dec_and, List.length_take]
    rw [cond_pos (by omega), cond_pos (by omega), cond_pos (by omega), i64w (x := (i : Int) + 1) (by omega) (by omega), Int.toNat_natCast, List.take_add_one, List.getElem?_eq_getElem (by omega), List.getD_eq_getElem?_getD, List.getElem?_eq_getElem (by omega)]
    rfl
  · simp only [f20_n110100]
    rw [cond_neg (by omega), List.take_of_length_le (by omega)]
    rfl

theorem c20 : CallOk Tryd.prog G02 20 r20 := callOk_of (V := VG0220) mixed tys eVG0220 (f := 20) (fn := Tryd.f20) Tryd.func20 (by kernel_rfl) (c := sub (bodyOf Tryd.f20) []) (by kernel_rfl) (by
  intro X H r H' h hX hH
  unfold r20 at h; split at h <;> try contradiction
  simp only [Option.some.injEq, Prod.mk.injEq] at h
  obtain ⟨hp, rfl, rfl⟩ := h
  obtain ⟨F, hF⟩ := s20 _ (hX _ (.head _))
  exact ⟨Af20 F, (f20_body F _).trans hF⟩)
/-! gantry/gantryref02.Text -/
def lVG0226 : List CEnt := []
def VG0226 : Env := mkEnv T02 G02 lVG0226
theorem eVG0226 : EOk Tryd.prog VG0226 := eok_mk (by exact trivial)
def Af26 (F : Nat) : Cuts := { F := F, at_ := fun n => match n with | 3010 => some [(1, .plain), (3, .own 5), (4, .plain)] | _ => none, join := fun n => match n with | 1020 => some [(1, .plain)] | 2018 => some [(1, .plain), (3, .plain)] | 3012 => some [(1, .plain), (3, .plain), (4, .plain)] | 6003 => some [(3, .plain)] | _ => none }
def ef26_a : (List Int) → St := fun a0 => { tmps := [(0, (.agg 16 (.rI .u8 a0)))], heap := [], next := 0, nt := 17, m := 0 }
def ef26_j1020 : (List Int) → St := fun x1 => { tmps := [(1, (.ptr 0 0 16 0 0 0 16))], heap := [(0, (.cells 16 (.rI .u8 x1) true))], next := 1, nt := 17, m := 0 }
def ef26_j2018 : (List Int) → St := fun x1 => { tmps := [(1, (.ptr 0 0 16 0 0 0 16)), (3, .ns)], heap := [(0, (.cells 16 (.rI .u8 x1) true))], next := 1, nt := 17, m := 0 }
def ef26_j3012 : Int × (List Int) → St := fun (t4, x2) => { tmps := [(1, (.ptr 0 0 16 0 0 0 16)), (3, .ns), (4, (.int .i64 t4))], heap := [(0, (.cells 16 (.rI .u8 x2) true))], next := 1, nt := 17, m := 0 }
def ef26_l3010 : Int × (List Int) × (List Int) → St := fun (t4, x2, x3) => { tmps := [(1, (.ptr 0 0 16 0 0 0 16)), (3, (.own 1 0 1)), (4, (.int .i64 t4))], heap := [(0, (.cells 16 (.rI .u8 x2) true)), (1, (.cells x3.length (.rI .u8 x3) true))], next := 2, nt := 17, m := 0 }
def ef26_j6003 : (List Int) → St := fun x1 => { tmps := [(3, (.own 0 0 1))], heap := [(0, (.cells x1.length (.rI .u8 x1) true))], next := 1, nt := 17, m := 0 }
def f26_n0 (F : Nat) (kf26_j1020 : (List Int) → Option (AV × List Blk)) : (List Int) → Option (AV × List Blk) := fun a0 => (kf26_j1020 a0)
theorem f26_n0_eq (F : Nat) (Rf26_j1020 : St → Option (AV × List Blk)) : ∀ v, aexec VG0226 (Af26 F) (sub (bodyOf Tryd.f26) [0]) (ef26_a v) (kSeq (fun s => Rf26_j1020 (cutTo VG0226 (some [(1, .plain)]) s)) (kFin VG0226 0 (Tryd.f26).results.toList)) = f26_n0 F (fun w => Rf26_j1020 (ef26_j1020 w)) v := by
  intro a0; kernel_rfl
def f26_n10 (F : Nat) (kf26_j2018 : (List Int) → Option (AV × List Blk)) : (List Int) → Option (AV × List Blk) := fun x1 => (kf26_j2018 x1)
theorem f26_n10_eq (F : Nat) (Rf26_j2018 : St → Option (AV × List Blk)) : ∀ v, aexec VG0226 (Af26 F) (sub (bodyOf Tryd.f26) [1, 0]) (ef26_j1020 v) (kSeq (fun s => Rf26_j2018 (cutTo VG0226 (some [(1, .plain), (3, .plain)]) s)) (kFin VG0226 0 (Tryd.f26).results.toList)) = f26_n10 F (fun w => Rf26_j2018 (ef26_j2018 w)) v := by
  intro x1; kernel_rfl
def f26_n1100 (F : Nat) (kf26_j3012 : Int × (List Int) → Option (AV × List Blk)) (kf26_j6003 : (List Int) → Option (AV × List Blk)) : (List Int) → Option (AV × List Blk) := fun x1 => (kf26_j3012 ((0 : Int), x1))
theorem f26_n1100_eq (F : Nat) (Rf26_j3012 : St → Option (AV × List Blk)) (Rf26_j6003 : St → Option (AV × List Blk)) : ∀ v, aexec VG0226 (Af26 F) (sub (bodyOf Tryd.f26) [1, 1, 0, 0]) (ef26_j2018 v) (kSeq (fun s => Rf26_j3012 (cutTo VG0226 (some [(1, .plain), (3, .plain), (4, .plain)]) s)) (kSeq (fun s => Rf26_j6003 (cutTo VG0226 (some [(3, .plain)]) s)) (kFin VG0226 0 (Tryd.f26).results.toList))) = f26_n1100 F (fun w => Rf26_j3012 (ef26_j3012 w)) (fun w => Rf26_j6003 (ef26_j6003 w)) v := by
  intro x1; kernel_rfl
def f26_n110100 (F : Nat) (kf26_l3010 : Int × (List Int) × (List Int) → Option (AV × List Blk)) (kf26_j6003 : (List Int) → Option (AV × List Blk)) : Int × (List Int) × (List Int) → Option (AV × List Blk) := fun (t4, x2, x3) => (cond (decide (t4 < (16 : Int))) (cond ((decide (0 ≤ t4)) && (decide (t4 < (16 : Int)))) (cond (decide ((x3.length + 1) < 1073741824)) (kf26_l3010 ((IntKind.i64.wrap (t4 + (1 : Int))), x2, (x3 ++ [(x2.getD (Int.toNat t4) 0)]))) none) none) (kf26_j6003 x3))
theorem f26_n110100_eq (F : Nat) (Rf26_l3010 : St → Option (AV × List Blk)) (Rf26_j6003 : St → Option (AV × List Blk)) : ∀ v, aexec VG0226 (Af26 F) (sub (bodyOf Tryd.f26) [1, 1, 0, 1, 0, 0]) (ef26_l3010 v) (kSeq (fun s => Rf26_l3010 (cutTo VG0226 (some [(1, .plain), (3, .own 5), (4, .plain)]) s)) (kBlock 0 (kSeq (fun s => Rf26_j6003 (cutTo VG0226 (some [(3, .plain)]) s)) (kFin VG0226 0 (Tryd.f26).results.toList)))) = f26_n110100 F (fun w => Rf26_l3010 (ef26_l3010 w)) (fun w => Rf26_j6003 (ef26_j6003 w)) v := by
  rintro ⟨t4, x2, x3⟩; kernel_rfl
def f26_n11010_i : Int × (List Int) → Int × (List Int) × (List Int) := fun (t4, x2) => (t4, x2, [])
def f26_n11010 (F : Nat) (kf26_j6003 : (List Int) → Option (AV × List Blk)) : Int × (List Int) → Option (AV × List Blk) := fun v => loopN (fun k => f26_n110100 F k kf26_j6003) F (f26_n11010_i v)
theorem f26_n11010_eq (F : Nat) (Rf26_j6003 : St → Option (AV × List Blk)) : ∀ v, aexec VG0226 (Af26 F) (sub (bodyOf Tryd.f26) [1, 1, 0, 1, 0]) (ef26_j3012 v) (kBlock 0 (kSeq (fun s => Rf26_j6003 (cutTo VG0226 (some [(3, .plain)]) s)) (kFin VG0226 0 (Tryd.f26).results.toList))) = f26_n11010 F (fun w => Rf26_j6003 (ef26_j6003 w)) v :=
  loop_cut (c := (sub (bodyOf Tryd.f26) [1, 1, 0, 1, 0])) (d := (sub (bodyOf Tryd.f26) [1, 1, 0, 1, 0, 0])) (by kernel_rfl) (spec := [(1, .plain), (3, .own 5), (4, .plain)]) (by kernel_rfl) ef26_j3012 ef26_l3010 (kBlock 0 (kSeq (fun s => Rf26_j6003 (cutTo VG0226 (some [(3, .plain)]) s)) (kFin VG0226 0 (Tryd.f26).results.toList))) f26_n11010_i (fun k => f26_n110100 F k (fun w => Rf26_j6003 (ef26_j6003 w)))
    (by rintro ⟨t4, x2⟩; kernel_rfl) (fun Rf26_l3010 => f26_n110100_eq F Rf26_l3010 Rf26_j6003)
def f26_n1101 (F : Nat) (kf26_j6003 : (List Int) → Option (AV × List Blk)) : Int × (List Int) → Option (AV × List Blk) := f26_n11010 F kf26_j6003
theorem f26_n1101_eq (F : Nat) (Rf26_j6003 : St → Option (AV × List Blk)) : ∀ v, aexec VG0226 (Af26 F) (sub (bodyOf Tryd.f26) [1, 1, 0, 1]) (ef26_j3012 v) (kSeq (fun s => Rf26_j6003 (cutTo VG0226 (some [(3, .plain)]) s)) (kFin VG0226 0 (Tryd.f26).results.toList)) = f26_n1101 F (fun w => Rf26_j6003 (ef26_j6003 w)) v := fun v =>
  (block_in (c := (sub (bodyOf Tryd.f26) [1, 1, 0, 1])) (d := (sub (bodyOf Tryd.f26) [1, 1, 0, 1, 0])) (id := 0) (by kernel_rfl) _ _).trans (f26_n11010_eq F Rf26_j6003 v)
def f26_n110 (F : Nat) (kf26_j6003 : (List Int) → Option (AV × List Blk)) : (List Int) → Option (AV × List Blk) := fun v => f26_n1100 F (f26_n1101 F kf26_j6003) kf26_j6003 v
theorem f26_n110_eq (F : Nat) (Rf26_j6003 : St → Option (AV × List Blk)) : ∀ v, aexec VG0226 (Af26 F) (sub (bodyOf Tryd.f26) [1, 1, 0]) (ef26_j2018 v) (kSeq (fun s => Rf26_j6003 (cutTo VG0226 (some [(3, .plain)]) s)) (kFin VG0226 0 (Tryd.f26).results.toList)) = f26_n110 F (fun w => Rf26_j6003 (ef26_j6003 w)) v :=
  seq_cut (c := (sub (bodyOf Tryd.f26) [1, 1, 0])) (a := (sub (bodyOf Tryd.f26) [1, 1, 0, 0])) (b := (sub (bodyOf Tryd.f26) [1, 1, 0, 1])) (by kernel_rfl) (spec := [(1, .plain), (3, .plain), (4, .plain)]) (by kernel_rfl) ef26_j2018 ef26_j3012 (kSeq (fun s => Rf26_j6003 (cutTo VG0226 (some [(3, .plain)]) s)) (kFin VG0226 0 (Tryd.f26).results.toList)) (fun k => f26_n1100 F k (fun w => Rf26_j6003 (ef26_j6003 w))) (f26_n1101 F (fun w => Rf26_j6003 (ef26_j6003 w)))
    (fun Rf26_j3012 => f26_n1100_eq F Rf26_j3012 Rf26_j6003) (f26_n1101_eq F Rf26_j6003)
def f26_n111 (F : Nat) : (List Int) → Option (AV × List Blk) := fun x1 => (some ((.str x1), []))
theorem f26_n111_eq (F : Nat) : ∀ v, aexec VG0226 (Af26 F) (sub (bodyOf Tryd.f26) [1, 1, 1]) (ef26_j6003 v) (kFin VG0226 0 (Tryd.f26).results.toList) = f26_n111 F v := by
  intro x1; kernel_rfl
def f26_n11 (F : Nat) : (List Int) → Option (AV × List Blk) := fun v => f26_n110 F (f26_n111 F) v
theorem f26_n11_eq (F : Nat) : ∀ v, aexec VG0226 (Af26 F) (sub (bodyOf Tryd.f26) [1, 1]) (ef26_j2018 v) (kFin VG0226 0 (Tryd.f26).results.toList) = f26_n11 F v :=
  seq_cut (c := (sub (bodyOf Tryd.f26) [1, 1])) (a := (sub (bodyOf Tryd.f26) [1, 1, 0])) (b := (sub (bodyOf Tryd.f26) [1, 1, 1])) (by kernel_rfl) (spec := [(3, .plain)]) (by kernel_rfl) ef26_j2018 ef26_j6003 (kFin VG0226 0 (Tryd.f26).results.toList) (fun k => f26_n110 F k) (f26_n111 F)
    (fun Rf26_j6003 => f26_n110_eq F Rf26_j6003) (f26_n111_eq F)
def f26_n1 (F : Nat) : (List Int) → Option (AV × List Blk) := fun v => f26_n10 F (f26_n11 F) v
theorem f26_n1_eq (F : Nat) : ∀ v, aexec VG0226 (Af26 F) (sub (bodyOf Tryd.f26) [1]) (ef26_j1020 v) (kFin VG0226 0 (Tryd.f26).results.toList) = f26_n1 F v :=
  seq_cut (c := (sub (bodyOf Tryd.f26) [1])) (a := (sub (bodyOf Tryd.f26) [1, 0])) (b := (sub (bodyOf Tryd.f26) [1, 1])) (by kernel_rfl) (spec := [(1, .plain), (3, .plain)]) (by kernel_rfl) ef26_j1020 ef26_j2018 (kFin VG0226 0 (Tryd.f26).results.toList) (fun k => f26_n10 F k) (f26_n11 F)
    (fun Rf26_j2018 => f26_n10_eq F Rf26_j2018) (f26_n11_eq F)
def f26_nt (F : Nat) : (List Int) → Option (AV × List Blk) := fun v => f26_n0 F (f26_n1 F) v
theorem f26_nt_eq (F : Nat) : ∀ v, aexec VG0226 (Af26 F) (sub (bodyOf Tryd.f26) []) (ef26_a v) (kFin VG0226 0 (Tryd.f26).results.toList) = f26_nt F v :=
  seq_cut (c := (sub (bodyOf Tryd.f26) [])) (a := (sub (bodyOf Tryd.f26) [0])) (b := (sub (bodyOf Tryd.f26) [1])) (by kernel_rfl) (spec := [(1, .plain)]) (by kernel_rfl) ef26_a ef26_j1020 (kFin VG0226 0 (Tryd.f26).results.toList) (fun k => f26_n0 F k) (f26_n1 F)
    (fun Rf26_j1020 => f26_n0_eq F Rf26_j1020) (f26_n1_eq F)
/-- gantry/gantryref02.Text -/
def f26 (F : Nat) : (List Int) → Option (AV × List Blk) := f26_nt F
theorem f26_body (F : Nat) (a0 : List Int) : abody VG0226 (Af26 F) Tryd.f26 [(.agg 16 (.rI .u8 a0))] [] = f26 F a0 :=
  (abody_in (c := (sub (bodyOf Tryd.f26) [])) (by kernel_rfl) (s := ef26_a a0) (by kernel_rfl)).trans (f26_nt_eq F a0)
def r26 : CRun := fun X H => match X, H with
  | [(.agg 16 (.rI .u8 a0))], [] => some (true, (.str a0), [])
  | _, _ => none
theorem s26 (a0 : List Int) (h0 : okV (.agg 16 (.rI .u8 a0))) : ∃ F, f26 F a0 = some ((.str a0), []) := by
  have hl := (okR_rI h0).1
  refine ⟨33, ?_⟩
  simp only [f26, f26_nt, f26_n0, f26_n1, f26_n10, f26_n11, f26_n110, f26_n1100, f26_n1101, f26_n11010, f26_n11010_i]
  refine loopN_from (fun i => ((i : Int), a0, a0.take i)) 16 (by rfl) (fun i hi k => ?_) (fun k => ?_) _ (by omega)
  · simp only [f26_n110100, dec_and, List.length_take]
    rw [cond_pos (by omega), cond_pos (by omega), cond_pos (by omega), i64w (x := (i : Int) + 1) (by omega) (by omega), Int.toNat_natCast, List.take_add_one, List.getElem?_eq_getElem (by omega), List.getD_eq_getElem?_getD, List.getElem?_eq_getElem (by omega)]
    rfl
  · simp only [f26_n110100]
    rw [cond_neg (by omega), List.take_of_length_le (by omega)]
    rfl

theorem c26 : CallOk Tryd.prog G02 26 r26 := callOk_of (V := VG0226) mixed tys eVG0226 (f := 26) (fn := Tryd.f26) Tryd.func26 (by kernel_rfl) (c := sub (bodyOf Tryd.f26) []) (by kernel_rfl) (by
  intro X H r H' h hX hH
  unfold r26 at h; split at h <;> try contradiction
  simp only [Option.some.injEq, Prod.mk.injEq] at h
  obtain ⟨hp, rfl, rfl⟩ := h
  obtain ⟨F, hF⟩ := s26 _ (hX _ (.head _))
  exact ⟨Af26 F, (f26_body F _).trans hF⟩)
end Go.Am
