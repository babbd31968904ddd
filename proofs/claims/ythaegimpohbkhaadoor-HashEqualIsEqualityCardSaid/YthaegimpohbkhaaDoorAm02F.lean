/- Part of a proof about the functions of the given program. -/
import Derived.Test.YthaegimpohbkhaaDoorAm02E
set_option linter.unusedVariables false
set_option linter.unusedSimpArgs false
namespace Go.Am
open Go Go.Proofs

/-! gantry/gantrylaw02.HashEqualIsEquality -/
def lVG029 : List CEnt := [(10, [], r10), (24, [none, none], r24)]
def VG029 : Env := mkEnv T02 G02 lVG029
theorem eVG029 : EOk Tryd.prog VG029 := eok_mk (by exact ⟨c10, c24, trivial⟩)
def Af9 (F : Nat) : Cuts := { F := F, at_ := fun _ => none, join := fun _ => none }
def ef9_a : (List Int) × (List Int) → St := fun (a0, a1) => { tmps := [(0, (.str a0)), (1, (.str a1))], heap := [], next := 0, nt := 45, m := 0 }
def f9_nt (F : Nat) : (List Int) × (List Int) → Option (AV × List Blk) := fun (a0, a1) => (cond (decide ((↑a0.length : Int) > (400 : Int))) (some ((.bool true), [])) (cond (decide ((↑a1.length : Int) > (400 : Int))) (some ((.bool true), [])) (cond (decide (a0.length < 4611686018427387904)) (cond ((decide (a0 = a1)) == ((a0 : List Int) == (a1 : List Int))) (cond ((decide (a1 = a0)) == (decide (a0 = a1))) (some ((.bool (decide (a0 = (a0 ++ [])))), [])) (some ((.bool false), []))) (some ((.bool false), []))) none)))
theorem f9_nt_eq (F : Nat) : ∀ v, aexec VG029 (Af9 F) (sub (bodyOf Tryd.f9) []) (ef9_a v) (kFin VG029 0 (Tryd.f9).results.toList) = f9_nt F v := by
  rintro ⟨a0, a1⟩; kernel_rfl
/-- gantry/gantrylaw02.HashEqualIsEquality -/
def f9 (F : Nat) : (List Int) × (List Int) → Option (AV × List Blk) := f9_nt F
theorem f9_body (F : Nat) (a0 : List Int) (a1 : List Int) : abody VG029 (Af9 F) Tryd.f9 [(.str a0), (.str a1)] [] = f9 F (a0, a1) :=
  (abody_in (c := (sub (bodyOf Tryd.f9) [])) (by kernel_rfl) (s := ef9_a (a0, a1)) (by kernel_rfl)).trans (f9_nt_eq F (a0, a1))
def r9 : CRun := fun X H => match X, H with
  | [(.str a0), (.str a1)], [] => some (true, (.bool true), [])
  | _, _ => none
theorem s9 (a0 : List Int) (a1 : List Int) (h0 : okV (.str a0)) (h1 : okV (.str a1)) : ∃ F, f9 F (a0, a1) = some ((.bool true), []) := by
  refine ⟨0, ?_⟩
  have e : (a0 == a1) = decide (a0 = a1) := by rw [Bool.eq_iff_iff]; simp
  have e2 : decide (a1 = a0) = decide (a0 = a1) := by simp [eq_comm]
  have e3 : ((decide (a0 = a1)) == (decide (a0 = a1))) = true := by simp
  simp only [f9, f9_nt, List.append_nil, e, e2, e3, cond_true, decide_true]
  rw [cond_pos h0.1]
  cases decide ((a0.length : Int) > 400) <;> cases decide ((a1.length : Int) > 400) <;> rfl

theorem c9 : CallOk Tryd.prog G02 9 r9 := callOk_of (V := VG029) mixed tys eVG029 (f := 9) (fn := Tryd.f9) Tryd.func9 (by kernel_rfl) (c := sub (bodyOf Tryd.f9) []) (by kernel_rfl) (by
  intro X H r H' h hX hH
  unfold r9 at h; split at h <;> try contradiction
  simp only [Option.some.injEq, Prod.mk.injEq] at h
  obtain ⟨hp, rfl, rfl⟩ := h
  obtain ⟨F, hF⟩ := s9 _ _ (hX _ (.head _)) (hX _ (.tail _ (.head _)))
  exact ⟨Af9 F, (f9_body F _ _).trans hF⟩)
end Go.Am
