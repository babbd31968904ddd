/- JournalSectors: for every number and text of at most 9000 bytes, and every sector: Count, Pack and Unpack return what is specified. -/
import Derived.Test.YtffddoahjpemaaaDoorAm36B
import Derived.Test.YtffddoahjpemaaaDoorAm36N
set_option linter.unusedVariables false
set_option linter.unusedSimpArgs false
namespace Go.Proofs.YtffddoahjpemaaaDoor
open Go Go.Am Go.ChangeShapes Go.WideShapes Go.ChangeAt Go.WideMaps Go.WideElems Go.RowKit
set_option maxRecDepth 100000 in
theorem journalSectors_lifted(os:Os)(started:os.Started)(H:Type)(enc:TypeId×Value→H):
  ReturnsInHanded {} Tryd.checked os 3 .any (fun w args=>(Rows.journalSectorsSpec.pre enc Tryd.prog Tryd.f3 [] false w args∧laidMetH Tryd.prog lBoth w)∧sizedMet enc Tryd.prog Tryd.f3 (OpenSpec.ofChange Rows.journalSectorsSpec) false w args)
   (Rows.journalSectorsSpec.post enc Tryd.prog Tryd.f3 false true false false):=by
 refine returnsInHanded_of_change_and (C:=Tryd.checked) (X:=fun w _=>laidMetH Tryd.prog lBoth w) (fun _ _ _ hh h=>h.of_heap hh) own started (by kernel_rfl) Tryd.func3
  (ChangeSpec.witness_shaped (enc:=enc) (C:=Tryd.checked) (os:=os) (X:=fun w _=>laidMetH Tryd.prog lBoth w) false (World.doorLaid Tryd.prog 400 os) #[.int .i64 0,.string ⟨#[]⟩,.string ⟨#[]⟩] 8 rfl (World.shaped_of_RefB (by kernel_rfl) (by kernel_rfl)) (by kernel_rfl) (by kernel_rfl) (by kernel_rfl) (door_met2 os _)) ?_
 intro W base args ds gs before hval hW _ hsz hL _
 exact law_calls (P:=Tryd.prog) (fn:=Tryd.f3) (l:=[isInt .i64,isStr,isStr]) c3 (gok2 hL) (by exact⟨opens_int (by kernel_rfl),opens_str (by kernel_rfl),opens_str (by kernel_rfl),trivial⟩)
  (fun X h=>by match X,h with | [_,_,_],⟨⟨_,rfl⟩,⟨_,rfl⟩,⟨_,rfl⟩,trivial⟩=>rfl) laidOut (by kernel_rfl) (tb:=4) (by kernel_rfl) (by kernel_rfl) rfl
  (fun ds h=>by have h2:ds.length=3:=h;match ds,h2 with | [_,_,_],_=>rfl) hval hW hsz
theorem journalSectors_said:Rows.JournalSectorsSaid:=
 OpenClaim.holds_of_wide 3 Tryd.f3 rfl rfl rfl rfl rfl rfl rfl ⟨rfl,rfl,rfl,rfl,rfl⟩ rfl rfl rfl rfl rfl (by kernel_rfl) Tryd.func3 (by kernel_rfl)
  (of_decide_eq_true (by kernel_rfl)) (by unfold Func.isWrapper;first | (rw [if_pos (by decide +kernel)];kernel_rfl) | (rw [if_neg (by decide +kernel)];exact⟨rfl,rfl⟩))
  (fun os started H enc _=>journalSectors_lifted os started H enc)
theorem journalSectors_card:Rows.JournalSectorsCardSaid:=
 Claim7.holds_tied_plain_at .later [] [.data, .data] true (true, "f15330bc27604c97b97d57c8b71d8c908ceb5f38a4ba34a15c57924923039c8b") false
  journalSectors_said (fun _ h=>by cases h) (by kernel_rfl) (fun _ h=>by cases h) journalSectors_row_tie rfl ⟨rfl,rfl⟩ (by kernel_rfl) rfl
  (fun f fn hf hfn=>by
   obtain rfl : f = 3 := Option.some.inj ((show Tryd.prog.funcNamed "gantry/gantrylaw36.JournalSectors" = some 3 by kernel_rfl).symm.trans hf) |>.symm
   obtain rfl:fn=Tryd.f3:=(Option.some.inj (Tryd.func3.symm.trans hfn)).symm
   exact⟨by kernel_rfl,fun j t ht=>by
    rw [Tryd.params3] at ht
    have hm:t∈[3,9,9]:=by simpa using Array.mem_of_getElem? ht
    have hall:([3,9,9].all fun u=>!Tryd.prog.wantsStandIn u)=true:=by kernel_rfl
    exact(show Tryd.prog.wantsStandIn t=false by simpa using List.all_eq_true.1 hall t hm)⟩)
  (by kernel_rfl)
end Go.Proofs.YtffddoahjpemaaaDoor
