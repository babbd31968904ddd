/- JournalMatchesSpec: for every disk with at most 200 sectors, and every script of at most 30 records, failures of the power, rot, worn sectors and openings: the numbers, the errors, the journal after each step and the content of the disk are those of the specification. -/
import Derived.Test.YtffddoahjpemaaaGreatDoorAm36ZC
import Derived.Test.YtffddoahjpemaaaGreatDoorAm36ZX
set_option linter.unusedVariables false
set_option linter.unusedSimpArgs false
namespace Go.Proofs.YtffddoahjpemaaaGreatDoor
open Go Go.Am Go.ChangeShapes Go.WideShapes Go.ChangeAt Go.WideMaps Go.WideElems Go.RowKit
set_option maxRecDepth 100000 in
theorem V0(os:Os)(started:os.Started)(H:Type)(enc:TypeId×Value→H):
  ReturnsInHanded {} Tryz.checked os 4 .any (fun w args=>(Rows.journalMatchesSpecSpec.pre enc Tryz.prog Tryz.f4 [] false w args∧laidMetH Tryz.prog lBoth w)∧sizedMet enc Tryz.prog Tryz.f4 (OpenSpec.ofChange Rows.journalMatchesSpecSpec) false w args)
   (Rows.journalMatchesSpecSpec.post enc Tryz.prog Tryz.f4 false true false false):=by
 refine returnsInHanded_of_change_and (C:=Tryz.checked) (X:=fun w _=>laidMetH Tryz.prog lBoth w) (fun _ _ _ hh h=>h.of_heap hh) own started (by kernel_rfl) Tryz.func4
  (ChangeSpec.witness_shaped (enc:=enc) (C:=Tryz.checked) (os:=os) (X:=fun w _=>laidMetH Tryz.prog lBoth w) false (World.doorLaid Tryz.prog 400 os) #[.int .i64 0,.slice none 0 0] 8 rfl (World.shaped_of_RefB (by kernel_rfl) (by kernel_rfl)) (by kernel_rfl) (by kernel_rfl) (by kernel_rfl) (aH6 os _)) ?_
 intro W base args ds gs before hval hW _ hsz hL _
 exact aCo (P:=Tryz.prog) (fn:=Tryz.f4) (l:=[a8b (aYo .i64),aYp [.int .i64,.int .i64,.int .i64,.int .i64,.int .u8,.sl .i64]]) (C:=fun ds=>True) c4 (baI hL) (by exact⟨aCn (aH4 (by kernel_rfl)),azu (e:=25) (by kernel_rfl) Tryz.underlying25 (by exact⟨by kernel_rfl,by kernel_rfl,PY (by kernel_rfl),by kernel_rfl,by kernel_rfl,PY (by kernel_rfl),by kernel_rfl,by kernel_rfl,PY (by kernel_rfl),by kernel_rfl,by kernel_rfl,PY (by kernel_rfl),by kernel_rfl,by kernel_rfl,PY (by kernel_rfl),by kernel_rfl,by kernel_rfl,aH7 (e:=3) (by kernel_rfl) (by kernel_rfl) (by kernel_rfl) (by kernel_rfl),trivial⟩) (by kernel_rfl) (by kernel_rfl) (by kernel_rfl),trivial⟩)
  (fun X ds h hC=>by obtain⟨_,_,_,_,rfl,rfl,h0,h⟩:=h.inv;obtain⟨_,_,_,_,rfl,rfl,h1,h⟩:=h.inv;obtain⟨rfl,rfl⟩:=h.inv0;obtain⟨_,rfl⟩:=h0;obtain⟨_,_,rfl,_⟩:=h1;exact rfl) a7j (by kernel_rfl) (tb:=4) (by kernel_rfl) (by kernel_rfl) rfl
  (fun ds h=>by have h2:ds.length=2:=h;match ds,h2 with | [_,_],_=>rfl) hval hW hsz trivial
theorem WM:Rows.JournalMatchesSpecSaid:=
 OpenClaim.holds_of_wide 4 Tryz.f4 rfl rfl rfl rfl rfl rfl rfl ⟨rfl,rfl,rfl,rfl,rfl⟩ rfl rfl rfl rfl rfl (by kernel_rfl) Tryz.func4 (by kernel_rfl)
  (of_decide_eq_true (by kernel_rfl)) (by unfold Func.isWrapper;first | (rw [if_pos (by decide +kernel)];kernel_rfl) | (rw [if_neg (by decide +kernel)];exact⟨rfl,rfl⟩))
  (fun os started H enc _=>V0 os started H enc)
theorem journalMatchesSpec_card:Rows.JournalMatchesSpecCardSaid:=
 Claim7.holds_tied_plain_at .later [] [.data, .data] true (true, "6de3af2952849e959ba5bdcd34562471ca4164f109e147fc98fcc83c03d6c923") false
  WM (fun _ h=>by cases h) (by kernel_rfl) (fun _ h=>by cases h) journalMatchesSpec_row_tie rfl ⟨rfl,rfl⟩ (by kernel_rfl) rfl
  (fun f fn hf hfn=>by
   obtain rfl : f = 4 := Option.some.inj ((show Tryz.prog.funcNamed "gantry/gantrylaw36.JournalMatchesSpec" = some 4 by kernel_rfl).symm.trans hf) |>.symm
   obtain rfl:fn=Tryz.f4:=(Option.some.inj (Tryz.func4.symm.trans hfn)).symm
   exact⟨by kernel_rfl,fun j t ht=>by
    rw [Tryz.params4] at ht
    have hm:t∈[3,22]:=by simpa using Array.mem_of_getElem? ht
    have hall:([3,22].all fun u=>!Tryz.prog.wantsStandIn u)=true:=by kernel_rfl
    exact(show Tryz.prog.wantsStandIn t=false by simpa using List.all_eq_true.1 hall t hm)⟩)
  (by kernel_rfl)
end Go.Proofs.YtffddoahjpemaaaGreatDoor
