/- JournalSurvives: for every disk with at most 200 sectors and at most 12 records, and one more during which the power fails after any number of steps: unless a bW sector is good by chance, Open finds the records that were there before, or these and the new one; and if Append returned OK, it is found. -/
import Derived.Test.YtffddoahjpemaaaGreatDoorAm36ZC
import Derived.Test.YtffddoahjpemaaaGreatDoorAm36ZY
set_option linter.unusedVariables false
set_option linter.unusedSimpArgs false
namespace Go.Proofs.YtffddoahjpemaaaGreatDoor
open Go Go.Am Go.ChangeShapes Go.WideShapes Go.ChangeAt Go.WideMaps Go.WideElems Go.RowKit
set_option maxRecDepth 100000 in
theorem kZ(os:Os)(started:os.Started)(H:Type)(enc:TypeId×Value→H):
  ReturnsInHanded {} Tryz.checked os 3 .any (fun w args=>(Rows.journalSurvivesSpec.pre enc Tryz.prog Tryz.f3 [] false w args∧laidMetH Tryz.prog lBoth w)∧sizedMet enc Tryz.prog Tryz.f3 (OpenSpec.ofChange Rows.journalSurvivesSpec) false w args)
   (Rows.journalSurvivesSpec.post enc Tryz.prog Tryz.f3 false true false false):=by
 refine returnsInHanded_of_change_and (C:=Tryz.checked) (X:=fun w _=>laidMetH Tryz.prog lBoth w) (fun _ _ _ hh h=>h.of_heap hh) own started (by kernel_rfl) Tryz.func3
  (ChangeSpec.witness_shaped (enc:=enc) (C:=Tryz.checked) (os:=os) (X:=fun w _=>laidMetH Tryz.prog lBoth w) false (World.doorLaid Tryz.prog 400 os) #[.int .i64 0,.slice none 0 0,.agg #[.int .i64 0,.int .i64 0,.int .i64 0,.int .i64 0,.int .u8 0,.slice none 0 0],.int .u8 0,.slice none 0 0] 8 rfl (World.shaped_of_RefB (by kernel_rfl) (by kernel_rfl)) (by kernel_rfl) (by kernel_rfl) (by kernel_rfl) (Ru os _)) ?_
 intro W base args ds gs before hval hW _ hsz hL _
 exact Lz (P:=Tryz.prog) (fn:=Tryz.f3) (l:=[Ly (Lv .i64),aeD [.int .i64,.int .i64,.int .i64,.int .i64,.int .u8,.sl .i64],Ly (aeE [.int .i64,.int .i64,.int .i64,.int .i64,.int .u8,.sl .i64]),Ly (Lv .u8),aeC .i64]) (C:=fun ds=>True) c3 (a2N hL) (by exact⟨mA (zg (by kernel_rfl)),Ip (e:=25) (by kernel_rfl) Tryz.underlying25 (by exact⟨by kernel_rfl,by kernel_rfl,cF (by kernel_rfl),by kernel_rfl,by kernel_rfl,cF (by kernel_rfl),by kernel_rfl,by kernel_rfl,cF (by kernel_rfl),by kernel_rfl,by kernel_rfl,cF (by kernel_rfl),by kernel_rfl,by kernel_rfl,cF (by kernel_rfl),by kernel_rfl,by kernel_rfl,zj (e:=3) (by kernel_rfl) (by kernel_rfl) (by kernel_rfl) (by kernel_rfl),trivial⟩) (by kernel_rfl) (by kernel_rfl) (by kernel_rfl),mA (Rv Tryz.underlying25 (by exact⟨by kernel_rfl,by kernel_rfl,cF (by kernel_rfl),by kernel_rfl,by kernel_rfl,cF (by kernel_rfl),by kernel_rfl,by kernel_rfl,cF (by kernel_rfl),by kernel_rfl,by kernel_rfl,cF (by kernel_rfl),by kernel_rfl,by kernel_rfl,cF (by kernel_rfl),by kernel_rfl,by kernel_rfl,zj (e:=3) (by kernel_rfl) (by kernel_rfl) (by kernel_rfl) (by kernel_rfl),trivial⟩) (by kernel_rfl)),mA (zg (by kernel_rfl)),Io (e:=3) (by kernel_rfl) (by kernel_rfl) (Im (e:=3) (by kernel_rfl) (by kernel_rfl) (by kernel_rfl) (by kernel_rfl)),trivial⟩)
  (fun X ds h hC=>by obtain⟨_,_,_,_,rfl,rfl,h0,h⟩:=h.inv;obtain⟨_,_,_,_,rfl,rfl,h1,h⟩:=h.inv;obtain⟨_,_,_,_,rfl,rfl,h2,h⟩:=h.inv;obtain⟨_,_,_,_,rfl,rfl,h3,h⟩:=h.inv;obtain⟨_,_,_,_,rfl,rfl,h4,h⟩:=h.inv;obtain⟨rfl,rfl⟩:=h.inv0;obtain⟨_,rfl⟩:=h0;obtain⟨_,_,rfl,_⟩:=h1;obtain⟨_,rfl⟩:=h2;obtain⟨_,rfl⟩:=h3;obtain⟨_,rfl,_⟩:=h4;exact rfl) afF (by kernel_rfl) (tb:=4) (by kernel_rfl) (by kernel_rfl) rfl
  (fun ds h=>by have h2:ds.length=5:=h;match ds,h2 with | [_,_,_,_,_],_=>rfl) hval hW hsz trivial
theorem mT:Rows.JournalSurvivesSaid:=
 OpenClaim.holds_of_wide 3 Tryz.f3 rfl rfl rfl rfl rfl rfl rfl ⟨rfl,rfl,rfl,rfl,rfl⟩ rfl rfl rfl rfl rfl (by kernel_rfl) Tryz.func3 (by kernel_rfl)
  (of_decide_eq_true (by kernel_rfl)) (by unfold Func.isWrapper;first | (rw [if_pos (by decide +kernel)];kernel_rfl) | (rw [if_neg (by decide +kernel)];exact⟨rfl,rfl⟩))
  (fun os started H enc _=>kZ os started H enc)
theorem journalSurvives_card:Rows.JournalSurvivesCardSaid:=
 Claim7.holds_tied_plain_at .later [] [.data, .data] true (true, "6de3af2952849e959ba5bdcd34562471ca4164f109e147fc98fcc83c03d6c923") false
  mT (fun _ h=>by cases h) (by kernel_rfl) (fun _ h=>by cases h) journalSurvives_row_tie rfl ⟨rfl,rfl⟩ (by kernel_rfl) rfl
  (fun f fn hf hfn=>by
   obtain rfl : f = 3 := Option.some.inj ((show Tryz.prog.funcNamed "gantry/gantrylaw36.JournalSurvives" = some 3 by kernel_rfl).symm.trans hf) |>.symm
   obtain rfl:fn=Tryz.f3:=(Option.some.inj (Tryz.func3.symm.trans hfn)).symm
   exact⟨by kernel_rfl,fun j t ht=>by
    rw [Tryz.params3] at ht
    have hm:t∈[3,22,25,5,23]:=by simpa using Array.mem_of_getElem? ht
    have hall:([3,22,25,5,23].all fun u=>!Tryz.prog.wantsStandIn u)=true:=by kernel_rfl
    exact(show Tryz.prog.wantsStandIn t=false by simpa using List.all_eq_true.1 hall t hm)⟩)
  (by kernel_rfl)
end Go.Proofs.YtffddoahjpemaaaGreatDoor
