/- JournalGoesOn: for every disk with at most 200 sectors, at most 20 records and at most 8 worn sectors: each record for which Append returned OK is found again in order, with increasing numbers, and one for which it returned ErrWorn is not. -/
import Derived.Test.YtffddoahjpemaaaDoorAm36C
import Derived.Test.YtffddoahjpemaaaDoorAm36M
set_option linter.unusedVariables false
set_option linter.unusedSimpArgs false
namespace Go.Proofs.YtffddoahjpemaaaDoor
open Go Go.Am Go.ChangeShapes Go.WideShapes Go.ChangeAt Go.WideMaps Go.WideElems Go.RowKit
set_option maxRecDepth 100000 in
theorem journalGoesOn_lifted(os:Os)(started:os.Started)(H:Type)(enc:TypeId×Value→H):
  ReturnsInHanded {} Tryd.checked os 4 .any (fun w args=>(Rows.journalGoesOnSpec.pre enc Tryd.prog Tryd.f4 [] false w args∧laidMetH Tryd.prog lHash w)∧sizedMet enc Tryd.prog Tryd.f4 (OpenSpec.ofChange Rows.journalGoesOnSpec) false w args)
   (Rows.journalGoesOnSpec.post enc Tryd.prog Tryd.f4 false true false false):=by
 refine returnsInHanded_of_change_and (C:=Tryd.checked) (X:=fun w _=>laidMetH Tryd.prog lHash w) (fun _ _ _ hh h=>h.of_heap hh) own started (by kernel_rfl) Tryd.func4
  (ChangeSpec.witness_shaped (enc:=enc) (C:=Tryd.checked) (os:=os) (X:=fun w _=>laidMetH Tryd.prog lHash w) false (World.doorLaid Tryd.prog 400 os) #[.int .i64 0,.slice none 0 0,.slice none 0 0] 8 rfl (World.shaped_of_RefB (by kernel_rfl) (by kernel_rfl)) (by kernel_rfl) (by kernel_rfl) (by kernel_rfl) (door_met1 os _)) ?_
 intro W base args ds gs before hval hW _ hsz hL _
 exact law_calls2 (P:=Tryd.prog) (fn:=Tryd.f4) (l:=[any2 (isInt .i64),recsR [.int .i64,.int .i64,.int .i64,.int .i64,.int .u8,.sl .i64],intsR .u8]) (C:=fun ds=>True) c4 (gok1 hL) (by exact⟨opens2_any (opens_int (by kernel_rfl)),opensR_recs (e:=46) (by kernel_rfl) Tryd.underlying46 (by exact⟨by kernel_rfl,by kernel_rfl,fopens_int (by kernel_rfl),by kernel_rfl,by kernel_rfl,fopens_int (by kernel_rfl),by kernel_rfl,by kernel_rfl,fopens_int (by kernel_rfl),by kernel_rfl,by kernel_rfl,fopens_int (by kernel_rfl),by kernel_rfl,by kernel_rfl,fopens_int (by kernel_rfl),by kernel_rfl,by kernel_rfl,fopens_sl (e:=3) (by kernel_rfl) (by kernel_rfl) (by kernel_rfl) (by kernel_rfl),trivial⟩) (by kernel_rfl) (by kernel_rfl) (by kernel_rfl),opensR_ints (e:=5) (by kernel_rfl) (by kernel_rfl) (opens2_ints (e:=5) (by kernel_rfl) (by kernel_rfl) (by kernel_rfl) (by kernel_rfl)),trivial⟩)
  (fun X ds h hC=>by obtain⟨_,_,_,_,rfl,rfl,h0,h⟩:=h.inv;obtain⟨_,_,_,_,rfl,rfl,h1,h⟩:=h.inv;obtain⟨_,_,_,_,rfl,rfl,h2,h⟩:=h.inv;obtain⟨rfl,rfl⟩:=h.inv0;obtain⟨_,rfl⟩:=h0;obtain⟨_,_,rfl,_⟩:=h1;obtain⟨_,rfl,_⟩:=h2;exact rfl) laidOut (by kernel_rfl) (tb:=4) (by kernel_rfl) (by kernel_rfl) rfl
  (fun ds h=>by have h2:ds.length=3:=h;match ds,h2 with | [_,_,_],_=>rfl) hval hW hsz trivial
theorem journalGoesOn_said:Rows.JournalGoesOnSaid:=
 OpenClaim.holds_of_wide 4 Tryd.f4 rfl rfl rfl rfl rfl rfl rfl ⟨rfl,rfl,rfl,rfl,rfl⟩ rfl rfl rfl rfl rfl (by kernel_rfl) Tryd.func4 (by kernel_rfl)
  (of_decide_eq_true (by kernel_rfl)) (by unfold Func.isWrapper;first | (rw [if_pos (by decide +kernel)];kernel_rfl) | (rw [if_neg (by decide +kernel)];exact⟨rfl,rfl⟩))
  (fun os started H enc _=>journalGoesOn_lifted os started H enc)
theorem journalGoesOn_card:Rows.JournalGoesOnCardSaid:=
 Claim7.holds_tied_plain_at .later [] [.data] true (true, "f15330bc27604c97b97d57c8b71d8c908ceb5f38a4ba34a15c57924923039c8b") false
  journalGoesOn_said (fun _ h=>by cases h) (by kernel_rfl) (fun _ h=>by cases h) journalGoesOn_row_tie rfl ⟨rfl,rfl⟩ (by kernel_rfl) rfl
  (fun f fn hf hfn=>by
   obtain rfl : f = 4 := Option.some.inj ((show Tryd.prog.funcNamed "gantry/gantrylaw36.JournalGoesOn" = some 4 by kernel_rfl).symm.trans hf) |>.symm
   obtain rfl:fn=Tryd.f4:=(Option.some.inj (Tryd.func4.symm.trans hfn)).symm
   exact⟨by kernel_rfl,fun j t ht=>by
    rw [Tryd.params4] at ht
    have hm:t∈[3,35,36]:=by simpa using Array.mem_of_getElem? ht
    have hall:([3,35,36].all fun u=>!Tryd.prog.wantsStandIn u)=true:=by kernel_rfl
    exact(show Tryd.prog.wantsStandIn t=false by simpa using List.all_eq_true.1 hall t hm)⟩)
  (by kernel_rfl)
end Go.Proofs.YtffddoahjpemaaaDoor
