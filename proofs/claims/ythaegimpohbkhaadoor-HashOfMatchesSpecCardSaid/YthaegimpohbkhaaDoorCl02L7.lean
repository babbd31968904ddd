/- HashOfMatchesSpec: for every tag and all parts (at most 12, of at most 400 bytes), Of returns the digest that the specification defines, and depends on the tag modulo 256 only. -/
import Derived.Test.YthaegimpohbkhaaDoorCl02
set_option linter.unusedVariables false
set_option linter.unusedSimpArgs false
namespace Go.Proofs.YthaegimpohbkhaaDoor
open Go Go.Am Go.ChangeShapes Go.WideShapes Go.ChangeAt Go.WideMaps Go.WideElems Go.RowKit

set_option maxRecDepth 100000 in
theorem hashOfMatchesSpec_lifted (os : Os) (started : os.Started) (H : Type) (enc : TypeId × Value → H) :
    ReturnsInHanded {} Tryd.checked os 7 .any (fun w args => (Rows.hashOfMatchesSpecSpec.pre enc Tryd.prog Tryd.f7 [] false w args ∧ laidMetH Tryd.prog lBoth w) ∧ sizedMet enc Tryd.prog Tryd.f7 (OpenSpec.ofChange Rows.hashOfMatchesSpecSpec) false w args)
      (Rows.hashOfMatchesSpecSpec.post enc Tryd.prog Tryd.f7 false true false false) := by
  refine returnsInHanded_of_change_and (C := Tryd.checked) (X := fun w _ => laidMetH Tryd.prog lBoth w) (fun _ _ _ hh h => h.of_heap hh) own started (by kernel_rfl) Tryd.func7
    (ChangeSpec.witness_shaped (enc := enc) (C := Tryd.checked) (os := os) (X := fun w _ => laidMetH Tryd.prog lBoth w) false (World.doorLaid Tryd.prog 400 os) #[.int .i64 0, .slice none 0 0] 8 rfl (World.shaped_of_RefB (by kernel_rfl) (by kernel_rfl)) (by kernel_rfl) (by kernel_rfl) (by kernel_rfl) (door_met2 os _)) ?_
  intro W base args ds gs before hval hW _ hsz hL _
  exact law_calls (P := Tryd.prog) (fn := Tryd.f7) (l := [isInt .i64, isStrs]) c7 (gok2 hL) (by exact ⟨opens_int (by kernel_rfl), opens_strs (e := 9) (by kernel_rfl) (by kernel_rfl) (by kernel_rfl) (by kernel_rfl), trivial⟩)
    (fun X h => by match X, h with | [_, _], ⟨⟨_, rfl⟩, ⟨_, rfl⟩, trivial⟩ => rfl) laidOut (by kernel_rfl) (tb := 4) (by kernel_rfl) (by kernel_rfl) rfl
    (fun ds h => by have h2 : ds.length = 2 := h; match ds, h2 with | [_, _], _ => rfl) hval hW hsz

theorem hashOfMatchesSpec_said : Rows.HashOfMatchesSpecSaid :=
  OpenClaim.holds_of_wide 7 Tryd.f7 rfl rfl rfl rfl rfl rfl rfl ⟨rfl, rfl, rfl, rfl, rfl⟩ rfl rfl rfl rfl rfl (by kernel_rfl) Tryd.func7 (by kernel_rfl)
    (of_decide_eq_true (by kernel_rfl)) (by unfold Func.isWrapper; first | (rw [if_pos (by decide +kernel)]; kernel_rfl) | (rw [if_neg (by decide +kernel)]; exact ⟨rfl, rfl⟩))
    (fun os started H enc _ => hashOfMatchesSpec_lifted os started H enc)

theorem hashOfMatchesSpec_card : Rows.HashOfMatchesSpecCardSaid :=
  Claim7.holds_tied_plain_at .later [] [.data, .data] true (true, "0dd90470bcfc09eeb8e56b6b8041690b05bc71eefbf44c1971ec0e0a8785d202") false
    hashOfMatchesSpec_said (fun _ h => by cases h) (by kernel_rfl) (fun _ h => by cases h) hashOfMatchesSpec_row_tie rfl ⟨rfl, rfl⟩ (by kernel_rfl) rfl
    (fun f fn hf hfn => by
      obtain rfl : f = 7 := Option.some.inj ((show Tryd.prog.funcNamed "gantry/gantrylaw02.HashOfMatchesSpec" = some 7 by kernel_rfl).symm.trans hf) |>.symm
      obtain rfl : fn = Tryd.f7 := (Option.some.inj (Tryd.func7.symm.trans hfn)).symm
      exact ⟨by kernel_rfl, fun j t ht => by
        rw [Tryd.params7] at ht
        have hm : t ∈ [3, 27] := by simpa using Array.mem_of_getElem? ht
        have hall : ([3, 27].all fun u => !Tryd.prog.wantsStandIn u) = true := by kernel_rfl
        exact (show Tryd.prog.wantsStandIn t = false by simpa using List.all_eq_true.1 hall t hm)⟩)
    (by kernel_rfl)
end Go.Proofs.YthaegimpohbkhaaDoor
