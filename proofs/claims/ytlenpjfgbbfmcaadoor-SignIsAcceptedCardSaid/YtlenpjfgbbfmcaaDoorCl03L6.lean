/- SignIsAccepted: for every byte that determines a seed, every height up to 2, every index of the tree and every message of at most 200 bytes, Verify accepts what Sign returns, with its index; and it accepts neither a shorter nor a longer signature. -/
import Derived.Test.YtlenpjfgbbfmcaaDoorCl03
set_option linter.unusedVariables false
set_option linter.unusedSimpArgs false
namespace Go.Proofs.YtlenpjfgbbfmcaaDoor
open Go Go.Am Go.ChangeShapes Go.WideShapes Go.ChangeAt Go.WideMaps Go.WideElems Go.RowKit
set_option maxRecDepth 100000 in
theorem signIsAccepted_lifted (os : Os) (started : os.Started) (H : Type) (enc : TypeId × Value → H) :
  ReturnsInHanded {} Tryd.checked os 6 .any (fun w args => (Rows.signIsAcceptedSpec.pre enc Tryd.prog Tryd.f6 [] false w args ∧ laidMetH Tryd.prog lHash w) ∧ sizedMet enc Tryd.prog Tryd.f6 (OpenSpec.ofChange Rows.signIsAcceptedSpec) false w args)
   (Rows.signIsAcceptedSpec.post enc Tryd.prog Tryd.f6 false true false false) := by
 refine returnsInHanded_of_change_and (C := Tryd.checked) (X := fun w _ => laidMetH Tryd.prog lHash w) (fun _ _ _ hh h => h.of_heap hh) own started (by kernel_rfl) Tryd.func6
  (ChangeSpec.witness_shaped (enc := enc) (C := Tryd.checked) (os := os) (X := fun w _ => laidMetH Tryd.prog lHash w) false (World.doorLaid Tryd.prog 400 os) #[.int .u8 0, .int .u8 0, .int .u8 0, .string ⟨#[]⟩] 8 rfl (World.shaped_of_RefB (by kernel_rfl) (by kernel_rfl)) (by kernel_rfl) (by kernel_rfl) (by kernel_rfl) (door_met1 os _)) ?_
 intro W base args ds gs before hval hW _ hsz hL _
 exact law_calls (P := Tryd.prog) (fn := Tryd.f6) (l := [isInt .u8, isInt .u8, isInt .u8, isStr]) c6 (gok1 hL) (by exact ⟨opens_int (by kernel_rfl), opens_int (by kernel_rfl), opens_int (by kernel_rfl), opens_str (by kernel_rfl), trivial⟩)
  (fun X h => by match X, h with | [_, _, _, _], ⟨⟨_, rfl⟩, ⟨_, rfl⟩, ⟨_, rfl⟩, ⟨_, rfl⟩, trivial⟩ => rfl) laidOut (by kernel_rfl) (tb := 4) (by kernel_rfl) (by kernel_rfl) rfl
  (fun ds h => by have h2 : ds.length = 4 := h; match ds, h2 with | [_, _, _, _], _ => rfl) hval hW hsz
theorem signIsAccepted_said : Rows.SignIsAcceptedSaid :=
 OpenClaim.holds_of_wide 6 Tryd.f6 rfl rfl rfl rfl rfl rfl rfl ⟨rfl, rfl, rfl, rfl, rfl⟩ rfl rfl rfl rfl rfl (by kernel_rfl) Tryd.func6 (by kernel_rfl)
  (of_decide_eq_true (by kernel_rfl)) (by unfold Func.isWrapper; first | (rw [if_pos (by decide +kernel)]; kernel_rfl) | (rw [if_neg (by decide +kernel)]; exact ⟨rfl, rfl⟩))
  (fun os started H enc _ => signIsAccepted_lifted os started H enc)
theorem signIsAccepted_card : Rows.SignIsAcceptedCardSaid :=
 Claim7.holds_tied_plain_at .later [] [.data] true (true, "bff7fcd2e651d752e7afa25692debb552e315651a2f0fc8fa9ac043313a16242") false
  signIsAccepted_said (fun _ h => by cases h) (by kernel_rfl) (fun _ h => by cases h) signIsAccepted_row_tie rfl ⟨rfl, rfl⟩ (by kernel_rfl) rfl
  (fun f fn hf hfn => by
   obtain rfl : f = 6 := Option.some.inj ((show Tryd.prog.funcNamed "gantry/gantrylaw03.SignIsAccepted" = some 6 by kernel_rfl).symm.trans hf) |>.symm
   obtain rfl : fn = Tryd.f6 := (Option.some.inj (Tryd.func6.symm.trans hfn)).symm
   exact ⟨by kernel_rfl, fun j t ht => by
    rw [Tryd.params6] at ht
    have hm : t ∈ [5, 5, 5, 9] := by simpa using Array.mem_of_getElem? ht
    have hall : ([5, 5, 5, 9].all fun u => !Tryd.prog.wantsStandIn u) = true := by kernel_rfl
    exact (show Tryd.prog.wantsStandIn t = false by simpa using List.all_eq_true.1 hall t hm)⟩)
  (by kernel_rfl)
end Go.Proofs.YtlenpjfgbbfmcaaDoor
