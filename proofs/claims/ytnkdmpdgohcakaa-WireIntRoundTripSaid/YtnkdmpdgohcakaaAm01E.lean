/- Part of a proof about the functions of the given program. -/
import Derived.Test.YtnkdmpdgohcakaaAm01D
set_option linter.unusedVariables false
set_option linter.unusedSimpArgs false
namespace Go.Am
open Go Go.Proofs

/-! gantry/gantrylaw01.sanity -/
def lVG0112 : List CEnt := [(13, [some 5, some 5], r13), (14, [none], r14), (16, [none], r16), (18, [some 3], r18), (20, [some 9], r20), (22, [some 57], r22), (24, [some 5], r24), (26, [some 5], r26), (28, [some 5], r28), (30, [some 3, some 3], r30), (31, [some 5], r31), (33, [some 9, some 9], r33), (34, [some 5], r34), (36, [some 57, some 57], r36)]
def VG0112 : Env := mkEnv T01 G01 lVG0112
theorem eVG0112 : EOk Try.prog VG0112 := eok_mk (by exact ⟨c13, c14, c16, c18, c20, c22, c24, c26, c28, c30, c31, c33, c34, c36, trivial⟩)
def Af12 (F : Nat) : Cuts := { F := F, at_ := fun _ => none, join := fun _ => none }
def ef12_a : Unit → St := fun _ => { tmps := [], heap := [], next := 0, nt := 162, m := 0 }
def f12_nt (F : Nat) : Unit → Option (AV × List Blk) := fun _ => (cond (decide ([(129 : Int), (2 : Int), (129 : Int), (1 : Int), (127 : Int)].length < 1073741000)) (cond (decide ((((List.replicate 16 0).set 0 (1 : Int)).set 1 (2 : Int)).length < 1073741000)) (cond (decide ((Wire.digs 1 (((List.replicate 16 0).set 0 (1 : Int)).set 1 (2 : Int))).length < 1073741000)) (cond (decide ([(129 : Int), (2 : Int), (128 : Int), (129 : Int), (1 : Int), (97 : Int), (5 : Int)].length < 1073741000)) (cond (decide ((Wire.getStrs [(129 : Int), (2 : Int), (128 : Int), (129 : Int), (1 : Int), (97 : Int), (5 : Int)]).1 = [[], [97]])) (cond ((Wire.getStrs [(129 : Int), (2 : Int), (128 : Int), (129 : Int), (1 : Int), (97 : Int), (5 : Int)]).2.1 == (6 : Int)) (cond ((Wire.getStrs [(129 : Int), (2 : Int), (128 : Int), (129 : Int), (1 : Int), (97 : Int), (5 : Int)]).2.2 == (0 : Int)) (cond (decide ((Wire.strs [[], [97]]).length < 1073741000)) (cond (decide ((Wire.strs [[], [97]]) = [(129 : Int), (2 : Int), (128 : Int), (129 : Int), (1 : Int), (97 : Int)])) (cond (decide ((Wire.int (-257 : Int)) = [(125 : Int), (254 : Int), (255 : Int)])) (cond ((Wire.getInt [(130 : Int), (1 : Int), (0 : Int), (9 : Int)]).1 == (256 : Int)) (cond ((Wire.getInt [(130 : Int), (1 : Int), (0 : Int), (9 : Int)]).2.1 == (3 : Int)) (cond ((Wire.getInt [(130 : Int), (1 : Int), (0 : Int), (9 : Int)]).2.2 == (0 : Int)) (cond ((Wire.getInt [(130 : Int), (1 : Int)]).2.2 == (3 : Int)) (cond ((Wire.getInt [(129 : Int), (0 : Int)]).2.2 == (2 : Int)) (cond (((Wire.getBytes [(129 : Int), (2 : Int), (97 : Int), (98 : Int), (7 : Int)]).1 : List Int) == ([97, 98] : List Int)) (cond ((Wire.getBytes [(129 : Int), (2 : Int), (97 : Int), (98 : Int), (7 : Int)]).2.1 == (4 : Int)) (cond ((Wire.getBytes [(129 : Int), (2 : Int), (97 : Int), (98 : Int), (7 : Int)]).2.2 == (0 : Int)) (cond (decide ((Wire.getInts [(129 : Int), (2 : Int), (129 : Int), (1 : Int), (127 : Int)]).1 = [(1 : Int), (-1 : Int)])) (cond ((Wire.getInts [(129 : Int), (2 : Int), (129 : Int), (1 : Int), (127 : Int)]).2.1 == (5 : Int)) (cond ((Wire.getInts [(129 : Int), (2 : Int), (129 : Int), (1 : Int), (127 : Int)]).2.2 == (0 : Int)) (cond (decide ([97, 98].length < 1073741000)) (cond (decide ((Wire.bytes [97, 98]) = [(129 : Int), (2 : Int), (97 : Int), (98 : Int)])) (cond (decide ((Wire.ints [(1 : Int), (-1 : Int)]).length < 1073741000)) (cond (decide ((Wire.ints [(1 : Int), (-1 : Int)]) = [(129 : Int), (2 : Int), (129 : Int), (1 : Int), (127 : Int)])) (cond (decide ((Wire.getDigs (Wire.digs 1 (((List.replicate 16 0).set 0 (1 : Int)).set 1 (2 : Int)))).2.1 = (((List.replicate 16 0).set 0 (1 : Int)).set 1 (2 : Int)))) (cond ((Wire.getDigs (Wire.digs 1 (((List.replicate 16 0).set 0 (1 : Int)).set 1 (2 : Int)))).2.2.1 == (18 : Int)) (some ((.bool ((Wire.getDigs (Wire.digs 1 (((List.replicate 16 0).set 0 (1 : Int)).set 1 (2 : Int)))).2.2.2 == (0 : Int))), [])) (some ((.bool false), []))) (some ((.bool false), []))) (some ((.bool false), []))) none) (some ((.bool false), []))) none) (some ((.bool false), []))) (some ((.bool false), []))) (some ((.bool false), []))) (some ((.bool false), []))) (some ((.bool false), []))) (some ((.bool false), []))) (some ((.bool false), []))) (some ((.bool false), []))) (some ((.bool false), []))) (some ((.bool false), []))) (some ((.bool false), []))) (some ((.bool false), []))) (some ((.bool false), []))) none) (some ((.bool false), []))) (some ((.bool false), []))) (some ((.bool false), []))) none) none) none) none)
theorem f12_nt_eq (F : Nat) : ∀ v, aexec VG0112 (Af12 F) (sub (bodyOf Try.f12) []) (ef12_a v) (kFin VG0112 none (Try.f12).results.toList) = f12_nt F v := by
  intro _; kernel_rfl
/-- gantry/gantrylaw01.sanity -/
def f12 (F : Nat) : Unit → Option (AV × List Blk) := f12_nt F
theorem f12_body (F : Nat)  : abody VG0112 (Af12 F) Try.f12 [] [] = f12 F () :=
  (abody_in (c := (sub (bodyOf Try.f12) [])) (by kernel_rfl) (s := ef12_a ()) (by kernel_rfl)).trans (f12_nt_eq F ())
def r12 : CRun := fun X H => match X, H with
  | [], [] => some (true, (.bool true), [])
  | _, _ => none
theorem s12 : ∃ F, f12 F () = some ((.bool true), []) := ⟨0, by kernel_rfl⟩

theorem c12 : CallOk Try.prog G01 12 r12 := callOk_of (V := VG0112) mixed tys eVG0112 (f := 12) (fn := Try.f12) Try.func12 (by kernel_rfl) (c := sub (bodyOf Try.f12) []) (by kernel_rfl) (by
  intro X H r H' h hX hH
  unfold r12 at h; split at h <;> try contradiction
  simp only [Option.some.injEq, Prod.mk.injEq] at h
  obtain ⟨hp, rfl, rfl⟩ := h
  obtain ⟨F, hF⟩ := s12 
  exact ⟨Af12 F, (f12_body F).trans hF⟩)
end Go.Am
