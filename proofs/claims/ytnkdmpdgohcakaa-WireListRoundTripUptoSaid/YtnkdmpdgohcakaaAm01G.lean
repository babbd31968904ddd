/- Part of a proof about the functions of the given program. -/
import Derived.Test.YtnkdmpdgohcakaaAm01F
import Derived.Test.YtnkdmpdgohcakaaAmWire6
set_option linter.unusedVariables false
set_option linter.unusedSimpArgs false
namespace Go.Am
open Go Go.Proofs

/-! gantry/gantrylaw01.WireEncodeMatchesSpec -/
def lVG013 : List CEnt := [(11, [some 9], r11), (12, [], r12), (13, [some 5, some 5], r13), (14, [none], r14), (15, [none], r15), (16, [none], r16), (17, [none], r17), (18, [some 3], r18), (19, [some 3], r19), (20, [some 9], r20), (21, [some 9], r21), (22, [some 57], r22), (23, [some 57], r23)]
def VG013 : Env := mkEnv T01 G01 lVG013
theorem eVG013 : EOk Try.prog VG013 := eok_mk (by exact ⟨c11, c12, c13, c14, c15, c16, c17, c18, c19, c20, c21, c22, c23, trivial⟩)
def Af3 (F : Nat) : Cuts := { F := F, at_ := fun _ => none, join := fun _ => none }
def ef3_a : Int × (List Int) × (List Int) × (List (List Int)) × (List Int) × Nat → St := fun (a0, a1, a2, a3, a4, a4n) => { tmps := [(0, (.int .i64 a0)), (1, (.str a1)), (2, (.vs (.rI .i64 a2) 0 1)), (3, (.vs (.rS a3) 0 1)), (4, (.vs (.rI .u8 a4) a4n 16))], heap := [], next := 0, nt := 62, m := 0 }
def f3_nt (F : Nat) : Int × (List Int) × (List Int) × (List (List Int)) × (List Int) × Nat → Option (AV × List Blk) := fun (a0, a1, a2, a3, a4, a4n) => (cond (decide ((IntKind.i64.wrap ((IntKind.i64.wrap ((↑a1.length : Int) + (↑a2.length : Int))) + (↑a4n : Int))) > (2000 : Int))) (some ((.bool true), [])) (cond (decide (Wire.total a3 < 4611686018427387904)) (cond (!(Wire.few a3)) (some ((.bool true), [])) (cond (decide ((Wire.int a0) = (Wire.int a0))) (cond (decide (a1.length < 1073741000)) (cond (decide (a1.length < 1073741000)) (cond (decide ((Wire.bytes a1) = (Wire.bytes a1))) (cond (decide ((Wire.ints a2).length < 1073741000)) (cond (decide ((Wire.ints a2).length < 1073741000)) (cond (decide ((Wire.ints a2) = (Wire.ints a2))) (cond (decide ((Wire.strs a3).length < 1073741000)) (cond (decide ((Wire.strs a3).length < 1073741000)) (cond (decide ((Wire.strs a3) = (Wire.strs a3))) (cond (decide (a4.length < 1073741000)) (cond (decide (a4.length < 1073741000)) (some ((.bool (decide ((Wire.digs a4n a4) = (Wire.digs a4n a4)))), [])) none) none) (some ((.bool false), []))) none) none) (some ((.bool false), []))) none) none) (some ((.bool false), []))) none) none) (some ((.bool false), [])))) none))
theorem f3_nt_eq (F : Nat) : ∀ v, aexec VG013 (Af3 F) (sub (bodyOf Try.f3) []) (ef3_a v) (kFin VG013 none (Try.f3).results.toList) = f3_nt F v := by
  rintro ⟨a0, a1, a2, a3, a4, a4n⟩; kernel_rfl
/-- gantry/gantrylaw01.WireEncodeMatchesSpec -/
def f3 (F : Nat) : Int × (List Int) × (List Int) × (List (List Int)) × (List Int) × Nat → Option (AV × List Blk) := f3_nt F
theorem f3_body (F : Nat) (a0 : Int) (a1 : List Int) (a2 : List Int) (a3 : List (List Int)) (a4 : List Int) (a4n : Nat) : abody VG013 (Af3 F) Try.f3 [(.int .i64 a0), (.str a1), (.vs (.rI .i64 a2) 0 1), (.vs (.rS a3) 0 1), (.vs (.rI .u8 a4) a4n 16)] [] = f3 F (a0, a1, a2, a3, a4, a4n) :=
  (abody_in (c := (sub (bodyOf Try.f3) [])) (by kernel_rfl) (s := ef3_a (a0, a1, a2, a3, a4, a4n)) (by kernel_rfl)).trans (f3_nt_eq F (a0, a1, a2, a3, a4, a4n))
def r3 : CRun := fun X H => match X, H with
  | [(.int .i64 a0), (.str a1), (.vs (.rI .i64 a2) 0 1), (.vs (.rS a3) 0 1), (.vs (.rI .u8 a4) a4n 16)], [] => some ((Wire.small a1 a2 a3 a4n), (.bool true), [])
  | _, _ => none
theorem s3 (a0 : Int) (a1 : List Int) (a2 : List Int) (a3 : List (List Int)) (a4 : List Int) (a4n : Nat) (hp : ((Wire.small a1 a2 a3 a4n)) = true) (h0 : okV (.int .i64 a0)) (h1 : okV (.str a1)) (h2 : okV (.vs (.rI .i64 a2) 0 1)) (h3 : okV (.vs (.rS a3) 0 1)) (h4 : okV (.vs (.rI .u8 a4) a4n 16)) : ∃ F, f3 F (a0, a1, a2, a3, a4, a4n) = some ((.bool true), []) := by
  obtain ⟨g1, g2, g3, g4⟩ := Wire.small_ok hp
  have hn : a4.length = a4n * 16 := h4.2.1
  have i1 := Wire.ints_le a2
  have i2 := Wire.strs_le a3
  have i3 : a3.length + a3.flatten.length ≤ 1048576 := g3
  refine ⟨0, ?_⟩
  simp only [f3, f3_nt, decide_true, cond_true]
  rw [i64w (x := (a1.length : Int) + (a2.length : Int)) (by omega) (by omega), i64w (x := (a1.length : Int) + (a2.length : Int) + (a4n : Int)) (by omega) (by omega)]
  by_cases h : (a1.length : Int) + (a2.length : Int) + (a4n : Int) > 2000
  · rw [cond_pos h]
  · rw [cond_neg h, cond_pos (by omega)]
    cases Wire.few a3 with
    | false => rfl
    | true =>
      rw [Bool.not_true, cond_false, cond_pos (by omega), cond_pos (by omega), cond_pos (by omega), cond_pos (by omega), cond_pos (by omega), cond_pos (by omega), cond_pos (by omega), cond_pos (by omega)]

theorem c3 : CallOk Try.prog G01 3 r3 := callOk_of (V := VG013) mixed tys eVG013 (f := 3) (fn := Try.f3) Try.func3 (by kernel_rfl) (c := sub (bodyOf Try.f3) []) (by kernel_rfl) (by
  intro X H r H' h hX hH
  unfold r3 at h; split at h <;> try contradiction
  simp only [Option.some.injEq, Prod.mk.injEq] at h
  obtain ⟨hp, rfl, rfl⟩ := h
  obtain ⟨F, hF⟩ := s3 _ _ _ _ _ _ hp (hX _ (.head _)) (hX _ (.tail _ (.head _))) (hX _ (.tail _ (.tail _ (.head _)))) (hX _ (.tail _ (.tail _ (.tail _ (.head _))))) (hX _ (.tail _ (.tail _ (.tail _ (.tail _ (.head _))))))
  exact ⟨Af3 F, (f3_body F _ _ _ _ _ _).trans hF⟩)
/-! gantry/gantrylaw01.WireTruncated -/
def lVG019 : List CEnt := [(11, [some 9], r11), (12, [], r12), (14, [none], r14), (16, [none], r16), (18, [some 3], r18), (20, [some 9], r20), (22, [some 57], r22), (24, [some 5], r24), (26, [some 5], r26), (28, [some 5], r28), (31, [some 5], r31), (34, [some 5], r34)]
def VG019 : Env := mkEnv T01 G01 lVG019
theorem eVG019 : EOk Try.prog VG019 := eok_mk (by exact ⟨c11, c12, c14, c16, c18, c20, c22, c24, c26, c28, c31, c34, trivial⟩)
def Af9 (F : Nat) : Cuts := { F := F, at_ := fun n => match n with | 4056 => some [(47, .plain), (48, .plain), (49, .plain)] | 7041 => some [(11, .plain), (12, .plain), (47, .plain), (48, .plain), (49, .plain), (56, .plain), (57, .plain)] | _ => none, join := fun n => match n with | 1072 => some [(0, .plain), (1, .plain), (2, .plain), (3, .plain), (4, .plain)] | 3064 => some [(0, .plain), (1, .plain), (2, .plain), (3, .plain), (4, .plain)] | 4058 => some [(47, .plain), (48, .plain), (49, .plain)] | 5050 => some [(47, .plain), (48, .plain), (49, .plain)] | 5054 => some [(47, .plain), (48, .plain), (49, .plain), (50, .plain)] | 6045 => some [(11, .plain), (12, .plain), (47, .plain), (48, .plain), (49, .plain)] | 7043 => some [(11, .plain), (12, .plain), (47, .plain), (48, .plain), (49, .plain), (56, .plain), (57, .plain)] | 23001 => some [(47, .plain), (48, .plain), (49, .plain)] | 24003 => some [] | _ => none }
def ef9_a : Int × (List Int) × (List Int) × (List (List Int)) × (List Int) × Nat → St := fun (a0, a1, a2, a3, a4, a4n) => { tmps := [(0, (.int .i64 a0)), (1, (.str a1)), (2, (.vs (.rI .i64 a2) 0 1)), (3, (.vs (.rS a3) 0 1)), (4, (.vs (.rI .u8 a4) a4n 16))], heap := [], next := 0, nt := 114, m := 0 }
def ef9_j1072 : Int × (List Int) × (List Int) × (List (List Int)) × (List Int) × Nat → St := fun (t0, t1, t2, t3, t4, x6) => { tmps := [(0, (.int .i64 t0)), (1, (.str t1)), (2, (.vs (.rI .i64 t2) 0 1)), (3, (.vs (.rS t3) 0 1)), (4, (.vs (.rI .u8 t4) x6 16))], heap := [], next := 0, nt := 114, m := 0 }
def ef9_j3064 : Int × (List Int) × (List Int) × (List (List Int)) × (List Int) × Nat → St := fun (t0, t1, t2, t3, t4, x6) => { tmps := [(0, (.int .i64 t0)), (1, (.str t1)), (2, (.vs (.rI .i64 t2) 0 1)), (3, (.vs (.rS t3) 0 1)), (4, (.vs (.rI .u8 t4) x6 16))], heap := [], next := 0, nt := 114, m := 0 }
def ef9_j4058 : Int × Int × (List (List Int)) → St := fun (t48, t49, x3) => { tmps := [(47, (.own 0 0 1)), (48, (.int .i64 t48)), (49, (.int .i64 t49))], heap := [(0, (.cells x3.length (.rL .u8 x3) true))], next := 1, nt := 114, m := 0 }
def ef9_l4056 : Int × Int × (List (List Int)) → St := fun (t48, t49, x3) => { tmps := [(47, (.own 0 0 1)), (48, (.int .i64 t48)), (49, (.int .i64 t49))], heap := [(0, (.cells x3.length (.rL .u8 x3) true))], next := 1, nt := 114, m := 0 }
def ef9_j5054 : Int × Int × Bool × (List (List Int)) → St := fun (t48, t49, t50, x4) => { tmps := [(47, (.own 0 0 1)), (48, (.int .i64 t48)), (49, (.int .i64 t49)), (50, (.bool t50))], heap := [(0, (.cells x4.length (.rL .u8 x4) true))], next := 1, nt := 114, m := 0 }
def ef9_j5050 : Int × Int × (List (List Int)) → St := fun (t48, t49, x3) => { tmps := [(47, (.own 0 0 1)), (48, (.int .i64 t48)), (49, (.int .i64 t49))], heap := [(0, (.cells x3.length (.rL .u8 x3) true))], next := 1, nt := 114, m := 0 }
def ef9_j6045 : Int × (List Int) × Int × Int × (List (List Int)) → St := fun (t11, t12, t48, t49, x5) => { tmps := [(11, (.int .i64 t11)), (12, (.vs (.rI .u8 t12) 0 1)), (47, (.own 0 0 1)), (48, (.int .i64 t48)), (49, (.int .i64 t49))], heap := [(0, (.cells x5.length (.rL .u8 x5) true))], next := 1, nt := 114, m := 0 }
def ef9_j7043 : Int × (List Int) × Int × Int × Int × Int × (List (List Int)) → St := fun (t11, t12, t48, t49, t56, t57, x7) => { tmps := [(11, (.int .i64 t11)), (12, (.vs (.rI .u8 t12) 0 1)), (47, (.own 0 0 1)), (48, (.int .i64 t48)), (49, (.int .i64 t49)), (56, (.int .i64 t56)), (57, (.int .i64 t57))], heap := [(0, (.cells x7.length (.rL .u8 x7) true))], next := 1, nt := 114, m := 0 }
def ef9_l7041 : Int × (List Int) × Int × Int × Int × Int × (List (List Int)) → St := fun (t11, t12, t48, t49, t56, t57, x7) => { tmps := [(11, (.int .i64 t11)), (12, (.vs (.rI .u8 t12) 0 1)), (47, (.own 0 0 1)), (48, (.int .i64 t48)), (49, (.int .i64 t49)), (56, (.int .i64 t56)), (57, (.int .i64 t57))], heap := [(0, (.cells x7.length (.rL .u8 x7) true))], next := 1, nt := 114, m := 0 }
def ef9_j23001 : Int × Int × (List (List Int)) → St := fun (t48, t49, x3) => { tmps := [(47, (.own 0 0 1)), (48, (.int .i64 t48)), (49, (.int .i64 t49))], heap := [(0, (.cells x3.length (.rL .u8 x3) true))], next := 1, nt := 114, m := 0 }
def ef9_j24003 : Unit → St := fun _ => { tmps := [], heap := [], next := 0, nt := 114, m := 0 }
def f9_n0 (F : Nat) (kf9_j1072 : Int × (List Int) × (List Int) × (List (List Int)) × (List Int) × Nat → Option (AV × List Blk)) : Int × (List Int) × (List Int) × (List (List Int)) × (List Int) × Nat → Option (AV × List Blk) := fun (a0, a1, a2, a3, a4, a4n) => (kf9_j1072 (a0, a1, a2, a3, a4, a4n))
theorem f9_n0_eq (F : Nat) (Rf9_j1072 : St → Option (AV × List Blk)) : ∀ v, aexec VG019 (Af9 F) (sub (bodyOf Try.f9) [0]) (ef9_a v) (kSeq (fun s => Rf9_j1072 (cutTo VG019 (some [(0, .plain), (1, .plain), (2, .plain), (3, .plain), (4, .plain)]) s)) (kFin VG019 none (Try.f9).results.toList)) = f9_n0 F (fun w => Rf9_j1072 (ef9_j1072 w)) v := by
  rintro ⟨a0, a1, a2, a3, a4, a4n⟩; kernel_rfl
def f9_n10 (F : Nat) (kf9_j3064 : Int × (List Int) × (List Int) × (List (List Int)) × (List Int) × Nat → Option (AV × List Blk)) : Int × (List Int) × (List Int) × (List (List Int)) × (List Int) × Nat → Option (AV × List Blk) := fun (t0, t1, t2, t3, t4, x6) => (cond (decide ((IntKind.i64.wrap ((IntKind.i64.wrap ((↑t1.length : Int) + (IntKind.i64.wrap ((9 : Int) * (↑t2.length : Int))))) + (IntKind.i64.wrap ((16 : Int) * (↑x6 : Int))))) > (400 : Int))) (some ((.bool true), [])) (cond (decide ((↑t3.length : Int) > (40 : Int))) (some ((.bool true), [])) (cond (decide (Wire.total t3 < 4611686018427387904)) (cond (!(Wire.few t3)) (some ((.bool true), [])) (kf9_j3064 (t0, t1, t2, t3, t4, x6))) none)))
theorem f9_n10_eq (F : Nat) (Rf9_j3064 : St → Option (AV × List Blk)) : ∀ v, aexec VG019 (Af9 F) (sub (bodyOf Try.f9) [1, 0]) (ef9_j1072 v) (kSeq (fun s => Rf9_j3064 (cutTo VG019 (some [(0, .plain), (1, .plain), (2, .plain), (3, .plain), (4, .plain)]) s)) (kFin VG019 none (Try.f9).results.toList)) = f9_n10 F (fun w => Rf9_j3064 (ef9_j3064 w)) v := by
  rintro ⟨t0, t1, t2, t3, t4, x6⟩; kernel_rfl
def f9_n1100 (F : Nat) (kf9_j4058 : Int × Int × (List (List Int)) → Option (AV × List Blk)) (kf9_j24003 : Unit → Option (AV × List Blk)) : Int × (List Int) × (List Int) × (List (List Int)) × (List Int) × Nat → Option (AV × List Blk) := fun (t0, t1, t2, t3, t4, x6) => (cond (decide (t1.length < 1073741000)) (cond (decide ((Wire.ints t2).length < 1073741000)) (cond (decide ((Wire.strs t3).length < 1073741000)) (cond (decide (t4.length < 1073741000)) (kf9_j4058 ((5 : Int), (0 : Int), [(Wire.int t0), (Wire.bytes t1), (Wire.ints t2), (Wire.strs t3), (Wire.digs x6 t4)])) none) none) none) none)
theorem f9_n1100_eq (F : Nat) (Rf9_j4058 : St → Option (AV × List Blk)) (Rf9_j24003 : St → Option (AV × List Blk)) : ∀ v, aexec VG019 (Af9 F) (sub (bodyOf Try.f9) [1, 1, 0, 0]) (ef9_j3064 v) (kSeq (fun s => Rf9_j4058 (cutTo VG019 (some [(47, .plain), (48, .plain), (49, .plain)]) s)) (kSeq (fun s => Rf9_j24003 (cutTo VG019 (some []) s)) (kFin VG019 none (Try.f9).results.toList))) = f9_n1100 F (fun w => Rf9_j4058 (ef9_j4058 w)) (fun w => Rf9_j24003 (ef9_j24003 w)) v := by
  rintro ⟨t0, t1, t2, t3, t4, x6⟩; kernel_rfl
def f9_n1101000 (F : Nat) (kf9_j5054 : Int × Int × Bool × (List (List Int)) → Option (AV × List Blk)) (kf9_l4056 : Int × Int × (List (List Int)) → Option (AV × List Blk)) (kf9_j24003 : Unit → Option (AV × List Blk)) : Int × Int × (List (List Int)) → Option (AV × List Blk) := fun (t48, t49, x3) => (kf9_j5054 (t48, t49, (decide (t49 < t48)), x3))
theorem f9_n1101000_eq (F : Nat) (Rf9_j5054 : St → Option (AV × List Blk)) (Rf9_l4056 : St → Option (AV × List Blk)) (Rf9_j24003 : St → Option (AV × List Blk)) : ∀ v, aexec VG019 (Af9 F) (sub (bodyOf Try.f9) [1, 1, 0, 1, 0, 0, 0]) (ef9_l4056 v) (kSeq (fun s => Rf9_j5054 (cutTo VG019 (some [(47, .plain), (48, .plain), (49, .plain), (50, .plain)]) s)) (kSeq (fun s => Rf9_l4056 (cutTo VG019 (some [(47, .plain), (48, .plain), (49, .plain)]) s)) (kBlock 0 (kSeq (fun s => Rf9_j24003 (cutTo VG019 (some []) s)) (kFin VG019 none (Try.f9).results.toList))))) = f9_n1101000 F (fun w => Rf9_j5054 (ef9_j5054 w)) (fun w => Rf9_l4056 (ef9_l4056 w)) (fun w => Rf9_j24003 (ef9_j24003 w)) v := by
  rintro ⟨t48, t49, x3⟩; kernel_rfl
def f9_n11010010 (F : Nat) (kf9_j5050 : Int × Int × (List (List Int)) → Option (AV × List Blk)) (kf9_l4056 : Int × Int × (List (List Int)) → Option (AV × List Blk)) (kf9_j24003 : Unit → Option (AV × List Blk)) : Int × Int × Bool × (List (List Int)) → Option (AV × List Blk) := fun (t48, t49, t50, x4) => (cond t50 (kf9_j5050 (t48, t49, x4)) (kf9_j24003 ()))
theorem f9_n11010010_eq (F : Nat) (Rf9_j5050 : St → Option (AV × List Blk)) (Rf9_l4056 : St → Option (AV × List Blk)) (Rf9_j24003 : St → Option (AV × List Blk)) : ∀ v, aexec VG019 (Af9 F) (sub (bodyOf Try.f9) [1, 1, 0, 1, 0, 0, 1, 0]) (ef9_j5054 v) (kSeq (fun s => Rf9_j5050 (cutTo VG019 (some [(47, .plain), (48, .plain), (49, .plain)]) s)) (kSeq (fun s => Rf9_l4056 (cutTo VG019 (some [(47, .plain), (48, .plain), (49, .plain)]) s)) (kBlock 0 (kSeq (fun s => Rf9_j24003 (cutTo VG019 (some []) s)) (kFin VG019 none (Try.f9).results.toList))))) = f9_n11010010 F (fun w => Rf9_j5050 (ef9_j5050 w)) (fun w => Rf9_l4056 (ef9_l4056 w)) (fun w => Rf9_j24003 (ef9_j24003 w)) v := by
  rintro ⟨t48, t49, t50, x4⟩; kernel_rfl
def f9_n11010011000 (F : Nat) (kf9_j6045 : Int × (List Int) × Int × Int × (List (List Int)) → Option (AV × List Blk)) (kf9_j23001 : Int × Int × (List (List Int)) → Option (AV × List Blk)) (kf9_l4056 : Int × Int × (List (List Int)) → Option (AV × List Blk)) (kf9_j24003 : Unit → Option (AV × List Blk)) : Int × Int × (List (List Int)) → Option (AV × List Blk) := fun (t48, t49, x3) => (cond ((decide (0 ≤ t49)) && (decide (t49 < (↑x3.length : Int)))) (kf9_j6045 (t49, (x3.getD (Int.toNat t49) []), t48, t49, x3)) none)
theorem f9_n11010011000_eq (F : Nat) (Rf9_j6045 : St → Option (AV × List Blk)) (Rf9_j23001 : St → Option (AV × List Blk)) (Rf9_l4056 : St → Option (AV × List Blk)) (Rf9_j24003 : St → Option (AV × List Blk)) : ∀ v, aexec VG019 (Af9 F) (sub (bodyOf Try.f9) [1, 1, 0, 1, 0, 0, 1, 1, 0, 0, 0]) (ef9_j5050 v) (kSeq (fun s => Rf9_j6045 (cutTo VG019 (some [(11, .plain), (12, .plain), (47, .plain), (48, .plain), (49, .plain)]) s)) (kBlock 1 (kSeq (fun s => Rf9_j23001 (cutTo VG019 (some [(47, .plain), (48, .plain), (49, .plain)]) s)) (kSeq (fun s => Rf9_l4056 (cutTo VG019 (some [(47, .plain), (48, .plain), (49, .plain)]) s)) (kBlock 0 (kSeq (fun s => Rf9_j24003 (cutTo VG019 (some []) s)) (kFin VG019 none (Try.f9).results.toList))))))) = f9_n11010011000 F (fun w => Rf9_j6045 (ef9_j6045 w)) (fun w => Rf9_j23001 (ef9_j23001 w)) (fun w => Rf9_l4056 (ef9_l4056 w)) (fun w => Rf9_j24003 (ef9_j24003 w)) v := by
  rintro ⟨t48, t49, x3⟩; kernel_rfl
def f9_n110100110010 (F : Nat) (kf9_j7043 : Int × (List Int) × Int × Int × Int × Int × (List (List Int)) → Option (AV × List Blk)) (kf9_j23001 : Int × Int × (List (List Int)) → Option (AV × List Blk)) (kf9_l4056 : Int × Int × (List (List Int)) → Option (AV × List Blk)) (kf9_j24003 : Unit → Option (AV × List Blk)) : Int × (List Int) × Int × Int × (List (List Int)) → Option (AV × List Blk) := fun (t11, t12, t48, t49, x5) => (kf9_j7043 (t11, t12, t48, t49, (if (500 : Int) < (↑t12.length : Int) then (500 : Int) else (↑t12.length : Int)), (0 : Int), x5))
theorem f9_n110100110010_eq (F : Nat) (Rf9_j7043 : St → Option (AV × List Blk)) (Rf9_j23001 : St → Option (AV × List Blk)) (Rf9_l4056 : St → Option (AV × List Blk)) (Rf9_j24003 : St → Option (AV × List Blk)) : ∀ v, aexec VG019 (Af9 F) (sub (bodyOf Try.f9) [1, 1, 0, 1, 0, 0, 1, 1, 0, 0, 1, 0]) (ef9_j6045 v) (kSeq (fun s => Rf9_j7043 (cutTo VG019 (some [(11, .plain), (12, .plain), (47, .plain), (48, .plain), (49, .plain), (56, .plain), (57, .plain)]) s)) (kBlock 1 (kSeq (fun s => Rf9_j23001 (cutTo VG019 (some [(47, .plain), (48, .plain), (49, .plain)]) s)) (kSeq (fun s => Rf9_l4056 (cutTo VG019 (some [(47, .plain), (48, .plain), (49, .plain)]) s)) (kBlock 0 (kSeq (fun s => Rf9_j24003 (cutTo VG019 (some []) s)) (kFin VG019 none (Try.f9).results.toList))))))) = f9_n110100110010 F (fun w => Rf9_j7043 (ef9_j7043 w)) (fun w => Rf9_j23001 (ef9_j23001 w)) (fun w => Rf9_l4056 (ef9_l4056 w)) (fun w => Rf9_j24003 (ef9_j24003 w)) v := by
  rintro ⟨t11, t12, t48, t49, x5⟩; kernel_rfl
def f9_n11010011001100 (F : Nat) (kf9_l7041 : Int × (List Int) × Int × Int × Int × Int × (List (List Int)) → Option (AV × List Blk)) (kf9_j23001 : Int × Int × (List (List Int)) → Option (AV × List Blk)) (kf9_l4056 : Int × Int × (List (List Int)) → Option (AV × List Blk)) (kf9_j24003 : Unit → Option (AV × List Blk)) : Int × (List Int) × Int × Int × Int × Int × (List (List Int)) → Option (AV × List Blk) := fun (t11, t12, t48, t49, t56, t57, x7) => (cond (decide (t57 < t56)) (cond (t11 == (0 : Int)) (cond ((decide ((0 : Int) ≤ t57)) && (decide (t57 ≤ (↑t12.length : Int)))) (cond ((Wire.getInt (t12.take (Int.toNat t57))).2.2 != (3 : Int)) (some ((.bool false), [])) (kf9_l7041 (t11, t12, t48, t49, t56, (IntKind.i64.wrap (t57 + (1 : Int))), x7))) none) (cond (t11 == (1 : Int)) (cond ((decide ((0 : Int) ≤ t57)) && (decide (t57 ≤ (↑t12.length : Int)))) (cond ((Wire.getBytes (t12.take (Int.toNat t57))).2.2 != (3 : Int)) (some ((.bool false), [])) (kf9_l7041 (t11, t12, t48, t49, t56, (IntKind.i64.wrap (t57 + (1 : Int))), x7))) none) (cond (t11 == (2 : Int)) (cond ((decide ((0 : Int) ≤ t57)) && (decide (t57 ≤ (↑t12.length : Int)))) (cond (decide ((t12.take (Int.toNat t57)).length < 1073741000)) (cond ((Wire.getInts (t12.take (Int.toNat t57))).2.2 != (3 : Int)) (some ((.bool false), [])) (kf9_l7041 (t11, t12, t48, t49, t56, (IntKind.i64.wrap (t57 + (1 : Int))), x7))) none) none) (cond (t11 == (3 : Int)) (cond ((decide ((0 : Int) ≤ t57)) && (decide (t57 ≤ (↑t12.length : Int)))) (cond (decide ((t12.take (Int.toNat t57)).length < 1073741000)) (cond ((Wire.getStrs (t12.take (Int.toNat t57))).2.2 != (3 : Int)) (some ((.bool false), [])) (kf9_l7041 (t11, t12, t48, t49, t56, (IntKind.i64.wrap (t57 + (1 : Int))), x7))) none) none) (cond ((decide ((0 : Int) ≤ t57)) && (decide (t57 ≤ (↑t12.length : Int)))) (cond (decide ((t12.take (Int.toNat t57)).length < 1073741000)) (cond ((Wire.getDigs (t12.take (Int.toNat t57))).2.2.2 != (3 : Int)) (some ((.bool false), [])) (kf9_l7041 (t11, t12, t48, t49, t56, (IntKind.i64.wrap (t57 + (1 : Int))), x7))) none) none))))) (kf9_j23001 (t48, t49, x7)))
theorem f9_n11010011001100_eq (F : Nat) (Rf9_l7041 : St → Option (AV × List Blk)) (Rf9_j23001 : St → Option (AV × List Blk)) (Rf9_l4056 : St → Option (AV × List Blk)) (Rf9_j24003 : St → Option (AV × List Blk)) : ∀ v, aexec VG019 (Af9 F) (sub (bodyOf Try.f9) [1, 1, 0, 1, 0, 0, 1, 1, 0, 0, 1, 1, 0, 0]) (ef9_l7041 v) (kSeq (fun s => Rf9_l7041 (cutTo VG019 (some [(11, .plain), (12, .plain), (47, .plain), (48, .plain), (49, .plain), (56, .plain), (57, .plain)]) s)) (kBlock 2 (kBlock 1 (kSeq (fun s => Rf9_j23001 (cutTo VG019 (some [(47, .plain), (48, .plain), (49, .plain)]) s)) (kSeq (fun s => Rf9_l4056 (cutTo VG019 (some [(47, .plain), (48, .plain), (49, .plain)]) s)) (kBlock 0 (kSeq (fun s => Rf9_j24003 (cutTo VG019 (some []) s)) (kFin VG019 none (Try.f9).results.toList)))))))) = f9_n11010011001100 F (fun w => Rf9_l7041 (ef9_l7041 w)) (fun w => Rf9_j23001 (ef9_j23001 w)) (fun w => Rf9_l4056 (ef9_l4056 w)) (fun w => Rf9_j24003 (ef9_j24003 w)) v := by
  rintro ⟨t11, t12, t48, t49, t56, t57, x7⟩; kernel_rfl
def f9_n1101001100110_i : Int × (List Int) × Int × Int × Int × Int × (List (List Int)) → Int × (List Int) × Int × Int × Int × Int × (List (List Int)) := fun (t11, t12, t48, t49, t56, t57, x7) => (t11, t12, t48, t49, t56, t57, x7)
def f9_n1101001100110 (F : Nat) (kf9_j23001 : Int × Int × (List (List Int)) → Option (AV × List Blk)) (kf9_l4056 : Int × Int × (List (List Int)) → Option (AV × List Blk)) (kf9_j24003 : Unit → Option (AV × List Blk)) : Int × (List Int) × Int × Int × Int × Int × (List (List Int)) → Option (AV × List Blk) := fun v => loopN (fun k => f9_n11010011001100 F k kf9_j23001 kf9_l4056 kf9_j24003) F (f9_n1101001100110_i v)
theorem f9_n1101001100110_eq (F : Nat) (Rf9_j23001 : St → Option (AV × List Blk)) (Rf9_l4056 : St → Option (AV × List Blk)) (Rf9_j24003 : St → Option (AV × List Blk)) : ∀ v, aexec VG019 (Af9 F) (sub (bodyOf Try.f9) [1, 1, 0, 1, 0, 0, 1, 1, 0, 0, 1, 1, 0]) (ef9_j7043 v) (kBlock 2 (kBlock 1 (kSeq (fun s => Rf9_j23001 (cutTo VG019 (some [(47, .plain), (48, .plain), (49, .plain)]) s)) (kSeq (fun s => Rf9_l4056 (cutTo VG019 (some [(47, .plain), (48, .plain), (49, .plain)]) s)) (kBlock 0 (kSeq (fun s => Rf9_j24003 (cutTo VG019 (some []) s)) (kFin VG019 none (Try.f9).results.toList))))))) = f9_n1101001100110 F (fun w => Rf9_j23001 (ef9_j23001 w)) (fun w => Rf9_l4056 (ef9_l4056 w)) (fun w => Rf9_j24003 (ef9_j24003 w)) v :=
  loop_cut (c := (sub (bodyOf Try.f9) [1, 1, 0, 1, 0, 0, 1, 1, 0, 0, 1, 1, 0])) (d := (sub (bodyOf Try.f9) [1, 1, 0, 1, 0, 0, 1, 1, 0, 0, 1, 1, 0, 0])) (by kernel_rfl) (spec := [(11, .plain), (12, .plain), (47, .plain), (48, .plain), (49, .plain), (56, .plain), (57, .plain)]) (by kernel_rfl) ef9_j7043 ef9_l7041 (kBlock 2 (kBlock 1 (kSeq (fun s => Rf9_j23001 (cutTo VG019 (some [(47, .plain), (48, .plain), (49, .plain)]) s)) (kSeq (fun s => Rf9_l4056 (cutTo VG019 (some [(47, .plain), (48, .plain), (49, .plain)]) s)) (kBlock 0 (kSeq (fun s => Rf9_j24003 (cutTo VG019 (some []) s)) (kFin VG019 none (Try.f9).results.toList))))))) f9_n1101001100110_i (fun k => f9_n11010011001100 F k (fun w => Rf9_j23001 (ef9_j23001 w)) (fun w => Rf9_l4056 (ef9_l4056 w)) (fun w => Rf9_j24003 (ef9_j24003 w)))
    (by rintro ⟨t11, t12, t48, t49, t56, t57, x7⟩; kernel_rfl) (fun Rf9_l7041 => f9_n11010011001100_eq F Rf9_l7041 Rf9_j23001 Rf9_l4056 Rf9_j24003)
def f9_n110100110011 (F : Nat) (kf9_j23001 : Int × Int × (List (List Int)) → Option (AV × List Blk)) (kf9_l4056 : Int × Int × (List (List Int)) → Option (AV × List Blk)) (kf9_j24003 : Unit → Option (AV × List Blk)) : Int × (List Int) × Int × Int × Int × Int × (List (List Int)) → Option (AV × List Blk) := f9_n1101001100110 F kf9_j23001 kf9_l4056 kf9_j24003
theorem f9_n110100110011_eq (F : Nat) (Rf9_j23001 : St → Option (AV × List Blk)) (Rf9_l4056 : St → Option (AV × List Blk)) (Rf9_j24003 : St → Option (AV × List Blk)) : ∀ v, aexec VG019 (Af9 F) (sub (bodyOf Try.f9) [1, 1, 0, 1, 0, 0, 1, 1, 0, 0, 1, 1]) (ef9_j7043 v) (kBlock 1 (kSeq (fun s => Rf9_j23001 (cutTo VG019 (some [(47, .plain), (48, .plain), (49, .plain)]) s)) (kSeq (fun s => Rf9_l4056 (cutTo VG019 (some [(47, .plain), (48, .plain), (49, .plain)]) s)) (kBlock 0 (kSeq (fun s => Rf9_j24003 (cutTo VG019 (some []) s)) (kFin VG019 none (Try.f9).results.toList)))))) = f9_n110100110011 F (fun w => Rf9_j23001 (ef9_j23001 w)) (fun w => Rf9_l4056 (ef9_l4056 w)) (fun w => Rf9_j24003 (ef9_j24003 w)) v := fun v =>
  (block_in (c := (sub (bodyOf Try.f9) [1, 1, 0, 1, 0, 0, 1, 1, 0, 0, 1, 1])) (d := (sub (bodyOf Try.f9) [1, 1, 0, 1, 0, 0, 1, 1, 0, 0, 1, 1, 0])) (id := 2) (by kernel_rfl) _ _).trans (f9_n1101001100110_eq F Rf9_j23001 Rf9_l4056 Rf9_j24003 v)
def f9_n11010011001 (F : Nat) (kf9_j23001 : Int × Int × (List (List Int)) → Option (AV × List Blk)) (kf9_l4056 : Int × Int × (List (List Int)) → Option (AV × List Blk)) (kf9_j24003 : Unit → Option (AV × List Blk)) : Int × (List Int) × Int × Int × (List (List Int)) → Option (AV × List Blk) := fun v => f9_n110100110010 F (f9_n110100110011 F kf9_j23001 kf9_l4056 kf9_j24003) kf9_j23001 kf9_l4056 kf9_j24003 v
theorem f9_n11010011001_eq (F : Nat) (Rf9_j23001 : St → Option (AV × List Blk)) (Rf9_l4056 : St → Option (AV × List Blk)) (Rf9_j24003 : St → Option (AV × List Blk)) : ∀ v, aexec VG019 (Af9 F) (sub (bodyOf Try.f9) [1, 1, 0, 1, 0, 0, 1, 1, 0, 0, 1]) (ef9_j6045 v) (kBlock 1 (kSeq (fun s => Rf9_j23001 (cutTo VG019 (some [(47, .plain), (48, .plain), (49, .plain)]) s)) (kSeq (fun s => Rf9_l4056 (cutTo VG019 (some [(47, .plain), (48, .plain), (49, .plain)]) s)) (kBlock 0 (kSeq (fun s => Rf9_j24003 (cutTo VG019 (some []) s)) (kFin VG019 none (Try.f9).results.toList)))))) = f9_n11010011001 F (fun w => Rf9_j23001 (ef9_j23001 w)) (fun w => Rf9_l4056 (ef9_l4056 w)) (fun w => Rf9_j24003 (ef9_j24003 w)) v :=
  seq_cut (c := (sub (bodyOf Try.f9) [1, 1, 0, 1, 0, 0, 1, 1, 0, 0, 1])) (a := (sub (bodyOf Try.f9) [1, 1, 0, 1, 0, 0, 1, 1, 0, 0, 1, 0])) (b := (sub (bodyOf Try.f9) [1, 1, 0, 1, 0, 0, 1, 1, 0, 0, 1, 1])) (by kernel_rfl) (spec := [(11, .plain), (12, .plain), (47, .plain), (48, .plain), (49, .plain), (56, .plain), (57, .plain)]) (by kernel_rfl) ef9_j6045 ef9_j7043 (kBlock 1 (kSeq (fun s => Rf9_j23001 (cutTo VG019 (some [(47, .plain), (48, .plain), (49, .plain)]) s)) (kSeq (fun s => Rf9_l4056 (cutTo VG019 (some [(47, .plain), (48, .plain), (49, .plain)]) s)) (kBlock 0 (kSeq (fun s => Rf9_j24003 (cutTo VG019 (some []) s)) (kFin VG019 none (Try.f9).results.toList)))))) (fun k => f9_n110100110010 F k (fun w => Rf9_j23001 (ef9_j23001 w)) (fun w => Rf9_l4056 (ef9_l4056 w)) (fun w => Rf9_j24003 (ef9_j24003 w))) (f9_n110100110011 F (fun w => Rf9_j23001 (ef9_j23001 w)) (fun w => Rf9_l4056 (ef9_l4056 w)) (fun w => Rf9_j24003 (ef9_j24003 w)))
    (fun Rf9_j7043 => f9_n110100110010_eq F Rf9_j7043 Rf9_j23001 Rf9_l4056 Rf9_j24003) (f9_n110100110011_eq F Rf9_j23001 Rf9_l4056 Rf9_j24003)
def f9_n1101001100 (F : Nat) (kf9_j23001 : Int × Int × (List (List Int)) → Option (AV × List Blk)) (kf9_l4056 : Int × Int × (List (List Int)) → Option (AV × List Blk)) (kf9_j24003 : Unit → Option (AV × List Blk)) : Int × Int × (List (List Int)) → Option (AV × List Blk) := fun v => f9_n11010011000 F (f9_n11010011001 F kf9_j23001 kf9_l4056 kf9_j24003) kf9_j23001 kf9_l4056 kf9_j24003 v
theorem f9_n1101001100_eq (F : Nat) (Rf9_j23001 : St → Option (AV × List Blk)) (Rf9_l4056 : St → Option (AV × List Blk)) (Rf9_j24003 : St → Option (AV × List Blk)) : ∀ v, aexec VG019 (Af9 F) (sub (bodyOf Try.f9) [1, 1, 0, 1, 0, 0, 1, 1, 0, 0]) (ef9_j5050 v) (kBlock 1 (kSeq (fun s => Rf9_j23001 (cutTo VG019 (some [(47, .plain), (48, .plain), (49, .plain)]) s)) (kSeq (fun s => Rf9_l4056 (cutTo VG019 (some [(47, .plain), (48, .plain), (49, .plain)]) s)) (kBlock 0 (kSeq (fun s => Rf9_j24003 (cutTo VG019 (some []) s)) (kFin VG019 none (Try.f9).results.toList)))))) = f9_n1101001100 F (fun w => Rf9_j23001 (ef9_j23001 w)) (fun w => Rf9_l4056 (ef9_l4056 w)) (fun w => Rf9_j24003 (ef9_j24003 w)) v :=
  seq_cut (c := (sub (bodyOf Try.f9) [1, 1, 0, 1, 0, 0, 1, 1, 0, 0])) (a := (sub (bodyOf Try.f9) [1, 1, 0, 1, 0, 0, 1, 1, 0, 0, 0])) (b := (sub (bodyOf Try.f9) [1, 1, 0, 1, 0, 0, 1, 1, 0, 0, 1])) (by kernel_rfl) (spec := [(11, .plain), (12, .plain), (47, .plain), (48, .plain), (49, .plain)]) (by kernel_rfl) ef9_j5050 ef9_j6045 (kBlock 1 (kSeq (fun s => Rf9_j23001 (cutTo VG019 (some [(47, .plain), (48, .plain), (49, .plain)]) s)) (kSeq (fun s => Rf9_l4056 (cutTo VG019 (some [(47, .plain), (48, .plain), (49, .plain)]) s)) (kBlock 0 (kSeq (fun s => Rf9_j24003 (cutTo VG019 (some []) s)) (kFin VG019 none (Try.f9).results.toList)))))) (fun k => f9_n11010011000 F k (fun w => Rf9_j23001 (ef9_j23001 w)) (fun w => Rf9_l4056 (ef9_l4056 w)) (fun w => Rf9_j24003 (ef9_j24003 w))) (f9_n11010011001 F (fun w => Rf9_j23001 (ef9_j23001 w)) (fun w => Rf9_l4056 (ef9_l4056 w)) (fun w => Rf9_j24003 (ef9_j24003 w)))
    (fun Rf9_j6045 => f9_n11010011000_eq F Rf9_j6045 Rf9_j23001 Rf9_l4056 Rf9_j24003) (f9_n11010011001_eq F Rf9_j23001 Rf9_l4056 Rf9_j24003)
def f9_n110100110 (F : Nat) (kf9_j23001 : Int × Int × (List (List Int)) → Option (AV × List Blk)) (kf9_l4056 : Int × Int × (List (List Int)) → Option (AV × List Blk)) (kf9_j24003 : Unit → Option (AV × List Blk)) : Int × Int × (List (List Int)) → Option (AV × List Blk) := f9_n1101001100 F kf9_j23001 kf9_l4056 kf9_j24003
theorem f9_n110100110_eq (F : Nat) (Rf9_j23001 : St → Option (AV × List Blk)) (Rf9_l4056 : St → Option (AV × List Blk)) (Rf9_j24003 : St → Option (AV × List Blk)) : ∀ v, aexec VG019 (Af9 F) (sub (bodyOf Try.f9) [1, 1, 0, 1, 0, 0, 1, 1, 0]) (ef9_j5050 v) (kSeq (fun s => Rf9_j23001 (cutTo VG019 (some [(47, .plain), (48, .plain), (49, .plain)]) s)) (kSeq (fun s => Rf9_l4056 (cutTo VG019 (some [(47, .plain), (48, .plain), (49, .plain)]) s)) (kBlock 0 (kSeq (fun s => Rf9_j24003 (cutTo VG019 (some []) s)) (kFin VG019 none (Try.f9).results.toList))))) = f9_n110100110 F (fun w => Rf9_j23001 (ef9_j23001 w)) (fun w => Rf9_l4056 (ef9_l4056 w)) (fun w => Rf9_j24003 (ef9_j24003 w)) v := fun v =>
  (block_in (c := (sub (bodyOf Try.f9) [1, 1, 0, 1, 0, 0, 1, 1, 0])) (d := (sub (bodyOf Try.f9) [1, 1, 0, 1, 0, 0, 1, 1, 0, 0])) (id := 1) (by kernel_rfl) _ _).trans (f9_n1101001100_eq F Rf9_j23001 Rf9_l4056 Rf9_j24003 v)
def f9_n110100111 (F : Nat) (kf9_l4056 : Int × Int × (List (List Int)) → Option (AV × List Blk)) (kf9_j24003 : Unit → Option (AV × List Blk)) : Int × Int × (List (List Int)) → Option (AV × List Blk) := fun (t48, t49, x3) => (kf9_l4056 (t48, (IntKind.i64.wrap (t49 + (1 : Int))), x3))
theorem f9_n110100111_eq (F : Nat) (Rf9_l4056 : St → Option (AV × List Blk)) (Rf9_j24003 : St → Option (AV × List Blk)) : ∀ v, aexec VG019 (Af9 F) (sub (bodyOf Try.f9) [1, 1, 0, 1, 0, 0, 1, 1, 1]) (ef9_j23001 v) (kSeq (fun s => Rf9_l4056 (cutTo VG019 (some [(47, .plain), (48, .plain), (49, .plain)]) s)) (kBlock 0 (kSeq (fun s => Rf9_j24003 (cutTo VG019 (some []) s)) (kFin VG019 none (Try.f9).results.toList)))) = f9_n110100111 F (fun w => Rf9_l4056 (ef9_l4056 w)) (fun w => Rf9_j24003 (ef9_j24003 w)) v := by
  rintro ⟨t48, t49, x3⟩; kernel_rfl
def f9_n11010011 (F : Nat) (kf9_l4056 : Int × Int × (List (List Int)) → Option (AV × List Blk)) (kf9_j24003 : Unit → Option (AV × List Blk)) : Int × Int × (List (List Int)) → Option (AV × List Blk) := fun v => f9_n110100110 F (f9_n110100111 F kf9_l4056 kf9_j24003) kf9_l4056 kf9_j24003 v
theorem f9_n11010011_eq (F : Nat) (Rf9_l4056 : St → Option (AV × List Blk)) (Rf9_j24003 : St → Option (AV × List Blk)) : ∀ v, aexec VG019 (Af9 F) (sub (bodyOf Try.f9) [1, 1, 0, 1, 0, 0, 1, 1]) (ef9_j5050 v) (kSeq (fun s => Rf9_l4056 (cutTo VG019 (some [(47, .plain), (48, .plain), (49, .plain)]) s)) (kBlock 0 (kSeq (fun s => Rf9_j24003 (cutTo VG019 (some []) s)) (kFin VG019 none (Try.f9).results.toList)))) = f9_n11010011 F (fun w => Rf9_l4056 (ef9_l4056 w)) (fun w => Rf9_j24003 (ef9_j24003 w)) v :=
  seq_cut (c := (sub (bodyOf Try.f9) [1, 1, 0, 1, 0, 0, 1, 1])) (a := (sub (bodyOf Try.f9) [1, 1, 0, 1, 0, 0, 1, 1, 0])) (b := (sub (bodyOf Try.f9) [1, 1, 0, 1, 0, 0, 1, 1, 1])) (by kernel_rfl) (spec := [(47, .plain), (48, .plain), (49, .plain)]) (by kernel_rfl) ef9_j5050 ef9_j23001 (kSeq (fun s => Rf9_l4056 (cutTo VG019 (some [(47, .plain), (48, .plain), (49, .plain)]) s)) (kBlock 0 (kSeq (fun s => Rf9_j24003 (cutTo VG019 (some []) s)) (kFin VG019 none (Try.f9).results.toList)))) (fun k => f9_n110100110 F k (fun w => Rf9_l4056 (ef9_l4056 w)) (fun w => Rf9_j24003 (ef9_j24003 w))) (f9_n110100111 F (fun w => Rf9_l4056 (ef9_l4056 w)) (fun w => Rf9_j24003 (ef9_j24003 w)))
    (fun Rf9_j23001 => f9_n110100110_eq F Rf9_j23001 Rf9_l4056 Rf9_j24003) (f9_n110100111_eq F Rf9_l4056 Rf9_j24003)
def f9_n1101001 (F : Nat) (kf9_l4056 : Int × Int × (List (List Int)) → Option (AV × List Blk)) (kf9_j24003 : Unit → Option (AV × List Blk)) : Int × Int × Bool × (List (List Int)) → Option (AV × List Blk) := fun v => f9_n11010010 F (f9_n11010011 F kf9_l4056 kf9_j24003) kf9_l4056 kf9_j24003 v
theorem f9_n1101001_eq (F : Nat) (Rf9_l4056 : St → Option (AV × List Blk)) (Rf9_j24003 : St → Option (AV × List Blk)) : ∀ v, aexec VG019 (Af9 F) (sub (bodyOf Try.f9) [1, 1, 0, 1, 0, 0, 1]) (ef9_j5054 v) (kSeq (fun s => Rf9_l4056 (cutTo VG019 (some [(47, .plain), (48, .plain), (49, .plain)]) s)) (kBlock 0 (kSeq (fun s => Rf9_j24003 (cutTo VG019 (some []) s)) (kFin VG019 none (Try.f9).results.toList)))) = f9_n1101001 F (fun w => Rf9_l4056 (ef9_l4056 w)) (fun w => Rf9_j24003 (ef9_j24003 w)) v :=
  seq_cut (c := (sub (bodyOf Try.f9) [1, 1, 0, 1, 0, 0, 1])) (a := (sub (bodyOf Try.f9) [1, 1, 0, 1, 0, 0, 1, 0])) (b := (sub (bodyOf Try.f9) [1, 1, 0, 1, 0, 0, 1, 1])) (by kernel_rfl) (spec := [(47, .plain), (48, .plain), (49, .plain)]) (by kernel_rfl) ef9_j5054 ef9_j5050 (kSeq (fun s => Rf9_l4056 (cutTo VG019 (some [(47, .plain), (48, .plain), (49, .plain)]) s)) (kBlock 0 (kSeq (fun s => Rf9_j24003 (cutTo VG019 (some []) s)) (kFin VG019 none (Try.f9).results.toList)))) (fun k => f9_n11010010 F k (fun w => Rf9_l4056 (ef9_l4056 w)) (fun w => Rf9_j24003 (ef9_j24003 w))) (f9_n11010011 F (fun w => Rf9_l4056 (ef9_l4056 w)) (fun w => Rf9_j24003 (ef9_j24003 w)))
    (fun Rf9_j5050 => f9_n11010010_eq F Rf9_j5050 Rf9_l4056 Rf9_j24003) (f9_n11010011_eq F Rf9_l4056 Rf9_j24003)
def f9_n110100 (F : Nat) (kf9_l4056 : Int × Int × (List (List Int)) → Option (AV × List Blk)) (kf9_j24003 : Unit → Option (AV × List Blk)) : Int × Int × (List (List Int)) → Option (AV × List Blk) := fun v => f9_n1101000 F (f9_n1101001 F kf9_l4056 kf9_j24003) kf9_l4056 kf9_j24003 v
theorem f9_n110100_eq (F : Nat) (Rf9_l4056 : St → Option (AV × List Blk)) (Rf9_j24003 : St → Option (AV × List Blk)) : ∀ v, aexec VG019 (Af9 F) (sub (bodyOf Try.f9) [1, 1, 0, 1, 0, 0]) (ef9_l4056 v) (kSeq (fun s => Rf9_l4056 (cutTo VG019 (some [(47, .plain), (48, .plain), (49, .plain)]) s)) (kBlock 0 (kSeq (fun s => Rf9_j24003 (cutTo VG019 (some []) s)) (kFin VG019 none (Try.f9).results.toList)))) = f9_n110100 F (fun w => Rf9_l4056 (ef9_l4056 w)) (fun w => Rf9_j24003 (ef9_j24003 w)) v :=
  seq_cut (c := (sub (bodyOf Try.f9) [1, 1, 0, 1, 0, 0])) (a := (sub (bodyOf Try.f9) [1, 1, 0, 1, 0, 0, 0])) (b := (sub (bodyOf Try.f9) [1, 1, 0, 1, 0, 0, 1])) (by kernel_rfl) (spec := [(47, .plain), (48, .plain), (49, .plain), (50, .plain)]) (by kernel_rfl) ef9_l4056 ef9_j5054 (kSeq (fun s => Rf9_l4056 (cutTo VG019 (some [(47, .plain), (48, .plain), (49, .plain)]) s)) (kBlock 0 (kSeq (fun s => Rf9_j24003 (cutTo VG019 (some []) s)) (kFin VG019 none (Try.f9).results.toList)))) (fun k => f9_n1101000 F k (fun w => Rf9_l4056 (ef9_l4056 w)) (fun w => Rf9_j24003 (ef9_j24003 w))) (f9_n1101001 F (fun w => Rf9_l4056 (ef9_l4056 w)) (fun w => Rf9_j24003 (ef9_j24003 w)))
    (fun Rf9_j5054 => f9_n1101000_eq F Rf9_j5054 Rf9_l4056 Rf9_j24003) (f9_n1101001_eq F Rf9_l4056 Rf9_j24003)
def f9_n11010_i : Int × Int × (List (List Int)) → Int × Int × (List (List Int)) := fun (t48, t49, x3) => (t48, t49, x3)
def f9_n11010 (F : Nat) (kf9_j24003 : Unit → Option (AV × List Blk)) : Int × Int × (List (List Int)) → Option (AV × List Blk) := fun v => loopN (fun k => f9_n110100 F k kf9_j24003) F (f9_n11010_i v)
theorem f9_n11010_eq (F : Nat) (Rf9_j24003 : St → Option (AV × List Blk)) : ∀ v, aexec VG019 (Af9 F) (sub (bodyOf Try.f9) [1, 1, 0, 1, 0]) (ef9_j4058 v) (kBlock 0 (kSeq (fun s => Rf9_j24003 (cutTo VG019 (some []) s)) (kFin VG019 none (Try.f9).results.toList))) = f9_n11010 F (fun w => Rf9_j24003 (ef9_j24003 w)) v :=
  loop_cut (c := (sub (bodyOf Try.f9) [1, 1, 0, 1, 0])) (d := (sub (bodyOf Try.f9) [1, 1, 0, 1, 0, 0])) (by kernel_rfl) (spec := [(47, .plain), (48, .plain), (49, .plain)]) (by kernel_rfl) ef9_j4058 ef9_l4056 (kBlock 0 (kSeq (fun s => Rf9_j24003 (cutTo VG019 (some []) s)) (kFin VG019 none (Try.f9).results.toList))) f9_n11010_i (fun k => f9_n110100 F k (fun w => Rf9_j24003 (ef9_j24003 w)))
    (by rintro ⟨t48, t49, x3⟩; kernel_rfl) (fun Rf9_l4056 => f9_n110100_eq F Rf9_l4056 Rf9_j24003)
def f9_n1101 (F : Nat) (kf9_j24003 : Unit → Option (AV × List Blk)) : Int × Int × (List (List Int)) → Option (AV × List Blk) := f9_n11010 F kf9_j24003
theorem f9_n1101_eq (F : Nat) (Rf9_j24003 : St → Option (AV × List Blk)) : ∀ v, aexec VG019 (Af9 F) (sub (bodyOf Try.f9) [1, 1, 0, 1]) (ef9_j4058 v) (kSeq (fun s => Rf9_j24003 (cutTo VG019 (some []) s)) (kFin VG019 none (Try.f9).results.toList)) = f9_n1101 F (fun w => Rf9_j24003 (ef9_j24003 w)) v := fun v =>
  (block_in (c := (sub (bodyOf Try.f9) [1, 1, 0, 1])) (d := (sub (bodyOf Try.f9) [1, 1, 0, 1, 0])) (id := 0) (by kernel_rfl) _ _).trans (f9_n11010_eq F Rf9_j24003 v)
def f9_n110 (F : Nat) (kf9_j24003 : Unit → Option (AV × List Blk)) : Int × (List Int) × (List Int) × (List (List Int)) × (List Int) × Nat → Option (AV × List Blk) := fun v => f9_n1100 F (f9_n1101 F kf9_j24003) kf9_j24003 v
theorem f9_n110_eq (F : Nat) (Rf9_j24003 : St → Option (AV × List Blk)) : ∀ v, aexec VG019 (Af9 F) (sub (bodyOf Try.f9) [1, 1, 0]) (ef9_j3064 v) (kSeq (fun s => Rf9_j24003 (cutTo VG019 (some []) s)) (kFin VG019 none (Try.f9).results.toList)) = f9_n110 F (fun w => Rf9_j24003 (ef9_j24003 w)) v :=
  seq_cut (c := (sub (bodyOf Try.f9) [1, 1, 0])) (a := (sub (bodyOf Try.f9) [1, 1, 0, 0])) (b := (sub (bodyOf Try.f9) [1, 1, 0, 1])) (by kernel_rfl) (spec := [(47, .plain), (48, .plain), (49, .plain)]) (by kernel_rfl) ef9_j3064 ef9_j4058 (kSeq (fun s => Rf9_j24003 (cutTo VG019 (some []) s)) (kFin VG019 none (Try.f9).results.toList)) (fun k => f9_n1100 F k (fun w => Rf9_j24003 (ef9_j24003 w))) (f9_n1101 F (fun w => Rf9_j24003 (ef9_j24003 w)))
    (fun Rf9_j4058 => f9_n1100_eq F Rf9_j4058 Rf9_j24003) (f9_n1101_eq F Rf9_j24003)
def f9_n111 (F : Nat) : Unit → Option (AV × List Blk) := fun _ => (some ((.bool true), []))
theorem f9_n111_eq (F : Nat) : ∀ v, aexec VG019 (Af9 F) (sub (bodyOf Try.f9) [1, 1, 1]) (ef9_j24003 v) (kFin VG019 none (Try.f9).results.toList) = f9_n111 F v := by
  intro _; kernel_rfl
def f9_n11 (F : Nat) : Int × (List Int) × (List Int) × (List (List Int)) × (List Int) × Nat → Option (AV × List Blk) := fun v => f9_n110 F (f9_n111 F) v
theorem f9_n11_eq (F : Nat) : ∀ v, aexec VG019 (Af9 F) (sub (bodyOf Try.f9) [1, 1]) (ef9_j3064 v) (kFin VG019 none (Try.f9).results.toList) = f9_n11 F v :=
  seq_cut (c := (sub (bodyOf Try.f9) [1, 1])) (a := (sub (bodyOf Try.f9) [1, 1, 0])) (b := (sub (bodyOf Try.f9) [1, 1, 1])) (by kernel_rfl) (spec := []) (by kernel_rfl) ef9_j3064 ef9_j24003 (kFin VG019 none (Try.f9).results.toList) (fun k => f9_n110 F k) (f9_n111 F)
    (fun Rf9_j24003 => f9_n110_eq F Rf9_j24003) (f9_n111_eq F)
def f9_n1 (F : Nat) : Int × (List Int) × (List Int) × (List (List Int)) × (List Int) × Nat → Option (AV × List Blk) := fun v => f9_n10 F (f9_n11 F) v
theorem f9_n1_eq (F : Nat) : ∀ v, aexec VG019 (Af9 F) (sub (bodyOf Try.f9) [1]) (ef9_j1072 v) (kFin VG019 none (Try.f9).results.toList) = f9_n1 F v :=
  seq_cut (c := (sub (bodyOf Try.f9) [1])) (a := (sub (bodyOf Try.f9) [1, 0])) (b := (sub (bodyOf Try.f9) [1, 1])) (by kernel_rfl) (spec := [(0, .plain), (1, .plain), (2, .plain), (3, .plain), (4, .plain)]) (by kernel_rfl) ef9_j1072 ef9_j3064 (kFin VG019 none (Try.f9).results.toList) (fun k => f9_n10 F k) (f9_n11 F)
    (fun Rf9_j3064 => f9_n10_eq F Rf9_j3064) (f9_n11_eq F)
def f9_nt (F : Nat) : Int × (List Int) × (List Int) × (List (List Int)) × (List Int) × Nat → Option (AV × List Blk) := fun v => f9_n0 F (f9_n1 F) v
theorem f9_nt_eq (F : Nat) : ∀ v, aexec VG019 (Af9 F) (sub (bodyOf Try.f9) []) (ef9_a v) (kFin VG019 none (Try.f9).results.toList) = f9_nt F v :=
  seq_cut (c := (sub (bodyOf Try.f9) [])) (a := (sub (bodyOf Try.f9) [0])) (b := (sub (bodyOf Try.f9) [1])) (by kernel_rfl) (spec := [(0, .plain), (1, .plain), (2, .plain), (3, .plain), (4, .plain)]) (by kernel_rfl) ef9_a ef9_j1072 (kFin VG019 none (Try.f9).results.toList) (fun k => f9_n0 F k) (f9_n1 F)
    (fun Rf9_j1072 => f9_n0_eq F Rf9_j1072) (f9_n1_eq F)
/-- gantry/gantrylaw01.WireTruncated -/
def f9 (F : Nat) : Int × (List Int) × (List Int) × (List (List Int)) × (List Int) × Nat → Option (AV × List Blk) := f9_nt F
theorem f9_body (F : Nat) (a0 : Int) (a1 : List Int) (a2 : List Int) (a3 : List (List Int)) (a4 : List Int) (a4n : Nat) : abody VG019 (Af9 F) Try.f9 [(.int .i64 a0), (.str a1), (.vs (.rI .i64 a2) 0 1), (.vs (.rS a3) 0 1), (.vs (.rI .u8 a4) a4n 16)] [] = f9 F (a0, a1, a2, a3, a4, a4n) :=
  (abody_in (c := (sub (bodyOf Try.f9) [])) (by kernel_rfl) (s := ef9_a (a0, a1, a2, a3, a4, a4n)) (by kernel_rfl)).trans (f9_nt_eq F (a0, a1, a2, a3, a4, a4n))
def r9 : CRun := fun X H => match X, H with
  | [(.int .i64 a0), (.str a1), (.vs (.rI .i64 a2) 0 1), (.vs (.rS a3) 0 1), (.vs (.rI .u8 a4) a4n 16)], [] => some ((Wire.reach a1 a2 a3 a4n), (.bool true), [])
  | _, _ => none
theorem s9 (a0 : Int) (a1 : List Int) (a2 : List Int) (a3 : List (List Int)) (a4 : List Int) (a4n : Nat) (hp : ((Wire.reach a1 a2 a3 a4n)) = true) (h0 : okV (.int .i64 a0)) (h1 : okV (.str a1)) (h2 : okV (.vs (.rI .i64 a2) 0 1)) (h3 : okV (.vs (.rS a3) 0 1)) (h4 : okV (.vs (.rI .u8 a4) a4n 16)) : ∃ F, f9 F (a0, a1, a2, a3, a4, a4n) = some ((.bool true), []) := by
  obtain ⟨g1, g2, g3, g4⟩ := Wire.reach_ok hp
  have hn : a4.length = a4n * 16 := h4.2.1
  have i0 := Wire.int_le9 a0
  have i1 := Wire.ints_le a2
  have i2 := Wire.strs_le a3
  have i6 := Wire.flatten_bd a3 g3
  have i4 := Wire.bytes_le a1
  have i5 : (Wire.digs a4n a4).length ≤ 9 + a4.length := by
    have := Wire.int_le9 (a4n : Int)
    simp only [Wire.digs, List.length_append]; omega
  have hin : ∀ x ∈ a2, IntKind.i64.has x := h2.1
  refine ⟨501, ?_⟩
  simp only [f9, f9_nt, f9_n0, f9_n1, f9_n10]
  rw [i64w (x := 9 * (a2.length : Int)) (by omega) (by omega), i64w (x := 16 * (a4n : Int)) (by omega) (by omega), i64w (x := (a1.length : Int) + 9 * (a2.length : Int)) (by omega) (by omega), i64w (x := (a1.length : Int) + 9 * (a2.length : Int) + 16 * (a4n : Int)) (by omega) (by omega)]
  by_cases h : (a1.length : Int) + 9 * (a2.length : Int) + 16 * (a4n : Int) > 400
  · rw [cond_pos h]
  rw [cond_neg h]
  by_cases h' : (a3.length : Int) > 40
  · rw [cond_pos h']
  have i7 : Wire.total a3 < 4611686018427387904 := by unfold Wire.total; omega
  rw [cond_neg h', cond_pos i7]
  cases hf : Wire.few a3 with
  | false => rfl
  | true =>
  have i3 : a3.length + a3.flatten.length ≤ 2000 := of_decide_eq_true hf
  rw [Bool.not_true, cond_false]
  simp only [f9_n11, f9_n110, f9_n1100, f9_n1101, f9_n11010, f9_n11010_i]
  rw [cond_pos (by omega), cond_pos (by omega), cond_pos (by omega), cond_pos (by omega)]
  have e0 : ∀ j, j < (Wire.int a0).length → (Wire.getInt ((Wire.int a0).take j)).2.2 = 3 := fun j hj => Wire.int_more a0 hj
  have e1 : ∀ j, j < (Wire.bytes a1).length → (Wire.getBytes ((Wire.bytes a1).take j)).2.2 = 3 := fun j hj => Wire.getBytes_more (by omega) hj
  have e2 : ∀ j, j < (Wire.ints a2).length → (Wire.getInts ((Wire.ints a2).take j)).2.2 = 3 := fun j hj => Wire.getInts_more hin (by omega) hj
  have e3 : ∀ j, j < (Wire.strs a3).length → (Wire.getStrs ((Wire.strs a3).take j)).2.2 = 3 := fun j hj => Wire.getStrs_more (fun x hx => by have := Wire.mem_le_total hx; omega) (by omega) hj
  have e4 : ∀ j, j < (Wire.digs a4n a4).length → (Wire.getDigs ((Wire.digs a4n a4).take j)).2.2.2 = 3 := fun j hj => Wire.getDigs_more hn (by omega) hj
  generalize Wire.int a0 = x0 at *
  generalize Wire.bytes a1 = x1 at *
  generalize Wire.ints a2 = x2 at *
  generalize Wire.strs a3 = x3 at *
  generalize Wire.digs a4n a4 = x4 at *
  refine loopN_from (fun i => ((5 : Int), (i : Int), [x0, x1, x2, x3, x4])) 5 (by rfl) (fun i hi k => ?_) (fun k => ?_) _ (by omega)
  · simp only [f9_n110100, f9_n1101000, f9_n1101001, f9_n11010010, f9_n11010011, f9_n110100110, f9_n110100111, f9_n1101001100, f9_n11010011000, f9_n11010011001, f9_n110100110010, f9_n110100110011, f9_n1101001100110, f9_n1101001100110_i, dec_and, List.length_cons, List.length_nil]
    rw [cond_pos (by omega), cond_pos (by omega), Int.toNat_natCast]
    have hmin : ∀ x : List Int, (if (500 : Int) < (x.length : Int) then (500 : Int) else (x.length : Int)) = ((min x.length 500 : Nat) : Int) := fun x => by split <;> omega
    rw [hmin]
    generalize hX : [x0, x1, x2, x3, x4].getD i [] = X
    refine loopN_from (fun j => ((i : Int), X, (5 : Int), (i : Int), ((min X.length 500 : Nat) : Int), (j : Int), [x0, x1, x2, x3, x4])) (min X.length 500) (by rfl) (fun j hj k' => ?_) (fun k' => ?_) _ (by omega)
    · simp only [f9_n11010011001100, dec_and, int_beq, int_bne]
      rw [cond_pos (by omega), Int.toNat_natCast, i64w (x := (j : Int) + 1) (by omega) (by omega)]
      have hi' : i = 0 ∨ i = 1 ∨ i = 2 ∨ i = 3 ∨ i = 4 := by omega
      rcases hi' with rfl | rfl | rfl | rfl | rfl
      · subst hX
        simp only [List.getD_cons_zero] at hj ⊢
        rw [cond_pos (by omega), cond_pos (by omega), cond_neg (not_not_intro (e0 j (by omega)))]
        rfl
      · subst hX
        simp only [List.getD_cons_succ, List.getD_cons_zero] at hj ⊢
        rw [cond_neg (by omega), cond_pos (by omega), cond_pos (by omega), cond_neg (not_not_intro (e1 j (by omega)))]
        rfl
      · subst hX
        simp only [List.getD_cons_succ, List.getD_cons_zero] at hj ⊢
        rw [cond_neg (by omega), cond_neg (by omega), cond_pos (by omega), cond_pos (by omega), cond_pos (by rw [List.length_take]; omega), cond_neg (not_not_intro (e2 j (by omega)))]
        rfl
      · subst hX
        simp only [List.getD_cons_succ, List.getD_cons_zero] at hj ⊢
        rw [cond_neg (by omega), cond_neg (by omega), cond_neg (by omega), cond_pos (by omega), cond_pos (by omega), cond_pos (by rw [List.length_take]; omega), cond_neg (not_not_intro (e3 j (by omega)))]
        rfl
      · subst hX
        simp only [List.getD_cons_succ, List.getD_cons_zero] at hj ⊢
        rw [cond_neg (by omega), cond_neg (by omega), cond_neg (by omega), cond_neg (by omega), cond_pos (by omega), cond_pos (by rw [List.length_take]; omega), cond_neg (not_not_intro (e4 j (by omega)))]
        rfl
    · simp only [f9_n11010011001100]
      rw [cond_neg (by omega)]
      simp only [f9_n110100111]
      rw [i64w (x := (i : Int) + 1) (by omega) (by omega)]
      rfl
  · simp only [f9_n110100, f9_n1101000, f9_n1101001, f9_n11010010]
    rw [cond_neg (by omega)]
    rfl

theorem c9 : CallOk Try.prog G01 9 r9 := callOk_of (V := VG019) mixed tys eVG019 (f := 9) (fn := Try.f9) Try.func9 (by kernel_rfl) (c := sub (bodyOf Try.f9) []) (by kernel_rfl) (by
  intro X H r H' h hX hH
  unfold r9 at h; split at h <;> try contradiction
  simp only [Option.some.injEq, Prod.mk.injEq] at h
  obtain ⟨hp, rfl, rfl⟩ := h
  obtain ⟨F, hF⟩ := s9 _ _ _ _ _ _ hp (hX _ (.head _)) (hX _ (.tail _ (.head _))) (hX _ (.tail _ (.tail _ (.head _)))) (hX _ (.tail _ (.tail _ (.tail _ (.head _))))) (hX _ (.tail _ (.tail _ (.tail _ (.tail _ (.head _))))))
  exact ⟨Af9 F, (f9_body F _ _ _ _ _ _).trans hF⟩)
end Go.Am
