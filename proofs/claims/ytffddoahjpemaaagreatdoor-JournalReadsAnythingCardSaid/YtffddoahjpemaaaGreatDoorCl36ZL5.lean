/- JournalReadsAnything: for any at most 40 texts that are written to the sectors of a disk, Open finds the records that are specified. -/
import Derived.Test.YtffddoahjpemaaaGreatDoorAm36ZB
import Derived.Test.YtffddoahjpemaaaGreatDoorAm36ZW
set_option linter.unusedVariables false
set_option linter.unusedSimpArgs false
namespace Go.Proofs.YtffddoahjpemaaaGreatDoor
open Go Go.Am Go.ChangeShapes Go.WideShapes Go.ChangeAt Go.WideMaps Go.WideElems Go.RowKit
set_option maxRecDepth 100000 in
theorem journalReadsAnything_lifted(os:Os)(started:os.Started)(H:Type)(enc:TypeId×Value→H):
  ReturnsInHanded {} Tryz.checked os 5 .any (fun w args=>(Rows.journalReadsAnythingSpec.pre enc Tryz.prog Tryz.f5 [] false w args∧laidMetH Tryz.prog lBoth w)∧sizedMet enc Tryz.prog Tryz.f5 (OpenSpec.ofChange Rows.journalReadsAnythingSpec) false w args)
   (Rows.journalReadsAnythingSpec.post enc Tryz.prog Tryz.f5 false true false false):=by
 refine returnsInHanded_of_change_and (C:=Tryz.checked) (X:=fun w _=>laidMetH Tryz.prog lBoth w) (fun _ _ _ hh h=>h.of_heap hh) own started (by kernel_rfl) Tryz.func5
  (ChangeSpec.witness_shaped (enc:=enc) (C:=Tryz.checked) (os:=os) (X:=fun w _=>laidMetH Tryz.prog lBoth w) false (World.doorLaid Tryz.prog 400 os) #[.slice none 0 0] 8 rfl (World.shaped_of_RefB (by kernel_rfl) (by kernel_rfl)) (by kernel_rfl) (by kernel_rfl) (by kernel_rfl) (door_met2 os _)) ?_
 intro W base args ds gs before hval hW _ hsz hL _
 exact law_calls2 (P:=Tryz.prog) (fn:=Tryz.f5) (l:=[strsR]) (C:=fun ds=>True) c5 (gok2 hL) (by exact⟨opensR_strs (e:=9) (by kernel_rfl) (by kernel_rfl) (opens2_strs (e:=9) (by kernel_rfl) (by kernel_rfl) (by kernel_rfl) (by kernel_rfl)),trivial⟩)
  (fun X ds h hC=>by obtain⟨_,_,_,_,rfl,rfl,h0,h⟩:=h.inv;obtain⟨rfl,rfl⟩:=h.inv0;obtain⟨_,rfl,_⟩:=h0;exact rfl) laidOut (by kernel_rfl) (tb:=4) (by kernel_rfl) (by kernel_rfl) rfl
  (fun ds h=>by have h2:ds.length=1:=h;match ds,h2 with | [_],_=>rfl) hval hW hsz trivial
theorem journalReadsAnything_said:Rows.JournalReadsAnythingSaid:=
 OpenClaim.holds_of_wide 5 Tryz.f5 rfl rfl rfl rfl rfl rfl rfl ⟨rfl,rfl,rfl,rfl,rfl⟩ rfl rfl rfl rfl rfl (by kernel_rfl) Tryz.func5 (by kernel_rfl)
  (of_decide_eq_true (by kernel_rfl)) (by unfold Func.isWrapper;first | (rw [if_pos (by decide +kernel)];kernel_rfl) | (rw [if_neg (by decide +kernel)];exact⟨rfl,rfl⟩))
  (fun os started H enc _=>journalReadsAnything_lifted os started H enc)
theorem journalReadsAnything_card:Rows.JournalReadsAnythingCardSaid:=
 Claim7.holds_tied_plain_at .later [] [.data, .data] true (true, "6de3af2952849e959ba5bdcd34562471ca4164f109e147fc98fcc83c03d6c923") false
  journalReadsAnything_said (fun _ h=>by cases h) (by kernel_rfl) (fun _ h=>by cases h) journalReadsAnything_row_tie rfl ⟨rfl,rfl⟩ (by kernel_rfl) rfl
  (fun f fn hf hfn=>by
   obtain rfl : f = 5 := Option.some.inj ((show Tryz.prog.funcNamed "gantry/gantrylaw36.JournalReadsAnything" = some 5 by kernel_rfl).symm.trans hf) |>.symm
   obtain rfl:fn=Tryz.f5:=(Option.some.inj (Tryz.func5.symm.trans hfn)).symm
   exact⟨by kernel_rfl,fun j t ht=>by
    rw [Tryz.params5] at ht
    have hm:t∈[28]:=by simpa using Array.mem_of_getElem? ht
    have hall:([28].all fun u=>!Tryz.prog.wantsStandIn u)=true:=by kernel_rfl
    exact(show Tryz.prog.wantsStandIn t=false by simpa using List.all_eq_true.1 hall t hm)⟩)
  (by kernel_rfl)
end Go.Proofs.YtffddoahjpemaaaGreatDoor
