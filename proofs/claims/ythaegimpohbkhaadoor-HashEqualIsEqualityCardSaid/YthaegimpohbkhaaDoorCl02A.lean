/- HashEqualIsEquality: for all strings of at most 400 bytes, Equal reports whether they are the same. -/
import Derived.Test.YthaegimpohbkhaaDoorAm02F
import Derived.Test.YthaegimpohbkhaaDoorTie
import Derived.Test.YthaegimpohbkhaaDoorCards
import Derived.LaidMore
import Derived.OpenShut
import Derived.Stop.Joined
import Derived.SevenTiedAt
import Derived.ProofKit
set_option linter.unusedVariables false
set_option linter.unusedSimpArgs false
namespace Go.Proofs.YthaegimpohbkhaaDoor
open Go Go.Am Go.ChangeShapes Go.WideShapes Go.ChangeAt Go.WideMaps Go.WideElems Go.RowKit

theorem own : ownKnob Tryd.prog.godebug = none := by kernel_rfl
theorem laidOut : laidOutB Tryd.prog = true := by kernel_rfl
abbrev lHash : List (String × DataW Unit) := [("gantry/hash.constants", Rows.laid_gantry_hash_constants)]
theorem door_met1 (os : Os) (args : Array Value) : laidMetH Tryd.prog lHash ((World.doorLaid Tryd.prog 400 os).forCall (fun _ _ => 0) ⟨#[], args, []⟩).memory :=
  laidMetH_of_parts3 (fuel := 8) (laidMet_of_run' 8 (by kernel_rfl) (by kernel_rfl)) (by kernel_rfl) (by kernel_rfl)
theorem gok1 {W : World} (h : laidMetH Tryd.prog lHash W) : GOk G02 W W0 := by
  rw [MakeChecks.laidMetH_plain _ _ _ (by kernel_rfl)] at h
  obtain ⟨ps, h, _⟩ := h
  obtain ⟨hc, _⟩ := laid_cells (g := 1) (t := 54) (m := 64) (e := 29) (k := .u32) (zs := Sha.K) h (by kernel_rfl) (by kernel_rfl) (by kernel_rfl) (by kernel_rfl) (by kernel_rfl) rfl
  refine gok_arr fun g r hg => ?_
  unfold G02 at hg
  split at hg
  · injection hg with hg
    exact ⟨.u32, Sha.K, hg.symm, by decide, hc⟩
  · contradiction

set_option maxRecDepth 100000 in
theorem equal_lifted (os : Os) (started : os.Started) (H : Type) (enc : TypeId × Value → H) :
    ReturnsInHanded {} Tryd.checked os 9 .any (fun w args => (Rows.hashEqualIsEqualitySpec.pre enc Tryd.prog Tryd.f9 [] false w args ∧ laidMetH Tryd.prog lHash w) ∧ sizedMet enc Tryd.prog Tryd.f9 (OpenSpec.ofChange Rows.hashEqualIsEqualitySpec) false w args)
      (Rows.hashEqualIsEqualitySpec.post enc Tryd.prog Tryd.f9 false true false false) := by
  refine returnsInHanded_of_change_and (C := Tryd.checked) (X := fun w _ => laidMetH Tryd.prog lHash w) (fun _ _ _ hh h => h.of_heap hh) own started (by kernel_rfl) Tryd.func9
    (ChangeSpec.witness_shaped (enc := enc) (C := Tryd.checked) (os := os) (X := fun w _ => laidMetH Tryd.prog lHash w) false (World.doorLaid Tryd.prog 400 os) #[.string ⟨#[]⟩, .string ⟨#[]⟩] 8 rfl (World.shaped_of_RefB (by kernel_rfl) (by kernel_rfl)) (by kernel_rfl) (by kernel_rfl) (by kernel_rfl) (door_met1 os _)) ?_
  intro W base args ds gs before hval0 hW _ hsz hL _
  have hval : ∀ (j : Nat) t v, Tryd.f9.params[j]? = some t → args[j]? = some v → Value.okWide Tryd.prog W .any base t v := hval0
  have hW' := hW
  obtain ⟨p, q, hA0, hV, rfl, hfz, hnd⟩ := hW
  have hA : DataW.TrodAll enc Tryd.prog W 0 (fun _ => true) true Tryd.f9.params.toList args.toList ds p := hA0
  have hsz' : (DataW.weightsEach Tryd.prog (Tryd.f9.params.toList ++ Rows.hashEqualIsEqualitySpec.plain.varTypes Tryd.prog) (ds ++ gs)).all (· ≤ reachBytes) = true := hsz
  rw [Tryd.params9] at hA hval hsz'
  obtain ⟨v0, v1, d0, d1, p0, p1, rfl, rfl, rfl, h0, h1⟩ := trodAll_two hA
  obtain ⟨rfl, rfl⟩ := trodVars_none hV
  have hw : ∀ n ∈ d0.weights Tryd.prog 9 ++ d1.weights Tryd.prog 9, n ≤ reachBytes := by
    intro n hn
    have := List.all_eq_true.1 hsz' n (by simp [DataW.weightsEach] at hn ⊢; exact hn)
    simpa using this
  obtain ⟨s0, o0, l0, r0⟩ := open_str' Tryd.underlying9 (hval 0 9 v0 rfl rfl) h0 (fun n hn => hw n (List.mem_append_left _ hn))
  obtain ⟨s1, o1, l1, r1⟩ := open_str' Tryd.underlying9 (hval 1 9 v1 rfl rfl) h1 (fun n hn => hw n (List.mem_append_right _ hn))
  refine (enter c9 (X := [.str s0, .str s1]) (args := #[v0, v1]) rfl (gok1 hL) ⟨r0 _ _ _, r1 _ _ _, trivial⟩).mono ?_
  rintro e W' ⟨rfl, hB⟩
  exact ⟨_, rfl, post_true laidOut (by kernel_rfl) (tb := 4) (by kernel_rfl) (by kernel_rfl) hW' rfl rfl hB⟩

theorem equal_said : Rows.HashEqualIsEqualitySaid :=
  OpenClaim.holds_of_wide 9 Tryd.f9 rfl rfl rfl rfl rfl rfl rfl ⟨rfl, rfl, rfl, rfl, rfl⟩ rfl rfl rfl rfl rfl (by kernel_rfl) Tryd.func9 (by kernel_rfl)
    (of_decide_eq_true (by kernel_rfl)) (by unfold Func.isWrapper; first | (rw [if_pos (by decide +kernel)]; kernel_rfl) | (rw [if_neg (by decide +kernel)]; exact ⟨rfl, rfl⟩))
    (fun os started H enc _ => equal_lifted os started H enc)

theorem hashEqualIsEquality_card : Rows.HashEqualIsEqualityCardSaid :=
  Claim7.holds_tied_plain_at .later [] [.data] true (true, "0dd90470bcfc09eeb8e56b6b8041690b05bc71eefbf44c1971ec0e0a8785d202") false
    equal_said (fun _ h => by cases h) (by kernel_rfl) (fun _ h => by cases h) hashEqualIsEquality_row_tie rfl ⟨rfl, rfl⟩ (by kernel_rfl) rfl
    (fun f fn hf hfn => by
      obtain rfl : f = 9 := Option.some.inj ((show Tryd.prog.funcNamed "gantry/gantrylaw02.HashEqualIsEquality" = some 9 by kernel_rfl).symm.trans hf) |>.symm
      obtain rfl : fn = Tryd.f9 := (Option.some.inj (Tryd.func9.symm.trans hfn)).symm
      exact ⟨by kernel_rfl, fun j t ht => by
        rw [Tryd.params9] at ht
        have hm : t ∈ [9, 9] := by simpa using Array.mem_of_getElem? ht
        have hall : ([9, 9].all fun u => !Tryd.prog.wantsStandIn u) = true := by kernel_rfl
        exact (show Tryd.prog.wantsStandIn t = false by simpa using List.all_eq_true.1 hall t hm)⟩)
    (by kernel_rfl)
end Go.Proofs.YthaegimpohbkhaaDoor
