/- RegionMerged: (Merged.) For all groups, links and owners, the owner of a group that has merged is one of the hosts that Need returns for it, if one of these is up; joined with package island. -/
import Derived.Test.YtgdibbphgdkllaaAmReg3
import Derived.Test.YtgdibbphgdkllaaAm38Jd
set_option linter.unusedVariables false
set_option linter.unusedSimpArgs false
namespace Go.Proofs.Ytgdibbphgdkllaa
open Go Go.Am Go.ChangeShapes Go.WideShapes Go.ChangeAt Go.RowKit
theorem regionMerged_laid(os:Os):laidMet Try.prog Rows.regionMergedRow.laid ((World.holding Try.prog os ⟨#[],#[],[]⟩).forCall (fun _ _=>0) ⟨#[],#[.slice none 0 0,.slice none 0 0,.int .i64 0,.int .i64 0,.int .i64 0,.slice none 0 0],[]⟩).memory:=laidMet_of_run' 8 (by kernel_rfl) (by kernel_rfl)
theorem regionMerged_reads(os:Os){H:Type}(enc:TypeId×Value→H):∃ places,DataW.whole enc Try.prog ((World.holding Try.prog os ⟨#[],#[],[]⟩).forCall (fun _ _=>0) ⟨#[],#[.slice none 0 0,.slice none 0 0,.int .i64 0,.int .i64 0,.int .i64 0,.slice none 0 0],[]⟩).memory Try.f9.params.toList Rows.regionMergedSpec.vars false (#[.slice none 0 0,.slice none 0 0,.int .i64 0,.int .i64 0,.int .i64 0,.slice none 0 0]:Array Value).toList 8=some ([.nil,.nil,.lit (.int .i64 0),.lit (.int .i64 0),.lit (.int .i64 0),.nil],[],places):=
 ⟨[],by kernel_rfl⟩
set_option maxRecDepth 100000 in
theorem regionMerged_lifted(os:Os)(started:os.Started)(H:Type)(enc:TypeId×Value→H)(F:Stop.Interp):
  ReturnsInHanded {} Try.checked os 9 .any ((OpenSpec.ofChange Rows.regionMergedSpec).preRow enc Try.prog Try.f9 Rows.regionMergedRow.domain false Rows.regionMergedRow.laid) (((OpenSpec.ofChange Rows.regionMergedSpec).at F).post enc Try.prog Try.f9 false true false false):=by
 obtain⟨places,hx⟩:=regionMerged_reads os enc
 refine returnsInHanded_of_row (C:=Try.checked) (s:=OpenSpec.ofChange Rows.regionMergedSpec) own started (by kernel_rfl) Try.func9
  (witness_row_at (enc:=enc) (C:=Try.checked) false (World.holding Try.prog os ⟨#[],#[],[]⟩) #[.slice none 0 0,.slice none 0 0,.int .i64 0,.int .i64 0,.int .i64 0,.slice none 0 0] rfl (by kernel_rfl) (by kernel_rfl) (by kernel_rfl)
   (OpenSpec.preRow_of_cond 8 hx (by kernel_rfl) (fun k hk=>by cases hk) (by kernel_rfl) (regionMerged_laid os))) ?_
 intro W base args ds gs before hval hW _ _ hsz _ _ _
 exact law_calls (P:=Try.prog) (fn:=Try.f9) (s:=Rows.regionMergedSpec) (l:=[isInts .i64,isInts .i64,isInt .i64,isInt .i64,isInt .i64,isInts .i64]) c9 gok0 (by exact⟨opens_ints (e:=3) (by kernel_rfl) (by kernel_rfl) (by kernel_rfl) (by kernel_rfl),opens_ints (e:=3) (by kernel_rfl) (by kernel_rfl) (by kernel_rfl) (by kernel_rfl),opens_int (by kernel_rfl),opens_int (by kernel_rfl),opens_int (by kernel_rfl),opens_ints (e:=3) (by kernel_rfl) (by kernel_rfl) (by kernel_rfl) (by kernel_rfl),trivial⟩)
  (fun X h=>by match X,h with | [_,_,_,_,_,_],⟨⟨_,rfl⟩,⟨_,rfl⟩,⟨_,rfl⟩,⟨_,rfl⟩,⟨_,rfl⟩,⟨_,rfl⟩,trivial⟩=>rfl) laidOut (by kernel_rfl) (tb:=4) (by kernel_rfl) (by kernel_rfl) rfl
  (fun ds h=>by have h2:ds.length=6:=h;match ds,h2 with | [_,_,_,_,_,_],_=>rfl) hval hW hsz
theorem regionMerged_said:Rows.RegionMergedSaid:=
 OpenClaim.holds_of_cond 9 Try.f9 rfl rfl rfl rfl rfl rfl rfl ⟨rfl,rfl,rfl,rfl,rfl⟩ rfl rfl rfl rfl rfl (by kernel_rfl) Try.func9 (by kernel_rfl)
  (of_decide_eq_true (by kernel_rfl)) (by unfold Func.isWrapper;first | (rw [if_pos (by decide +kernel)];kernel_rfl) | (rw [if_neg (by decide +kernel)];exact⟨rfl,rfl⟩))
  (fun os started H enc _ F=>by rw [OpenClaim.pre_eq_preRow];exact regionMerged_lifted os started H enc F)
end Go.Proofs.Ytgdibbphgdkllaa
