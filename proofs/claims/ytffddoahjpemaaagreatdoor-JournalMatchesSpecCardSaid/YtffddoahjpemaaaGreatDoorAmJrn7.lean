/- Part of a proof. -/
import Derived.Test.YtffddoahjpemaaaGreatDoorAm36ZD
import Derived.Test.YtffddoahjpemaaaGreatDoorProg
set_option linter.unusedSimpArgs false
set_option linter.unusedVariables false
section
/- The numbers at which the kit's contracts of maps.Keys, slices.Sorted and slices.Sort hold in this program (printed by laykeys.py). -/
namespace Go.Proofs
open Go.RowKit Go.Maps Go.Sort Go.Shelf
def Tryz.keys81_ren:Go.Shelf.Ren:=⟨fun | 7=>81 | 10=>98 | n=>n,fun | 23=>90 | 26=>3 | 3=>99 | 28=>132 | 0=>0 | 27=>131 | 33=>108 | 4=>4 | n=>n,fun | n=>n⟩
theorem Tryz.keys81:Go.Proofs.SlLaysZI.n7 Tryz.prog Tryz.keys81_ren:={
 mixed:=by kernel_rfl,
 f7:=⟨Tryz.f81.name,by decide,Tryz.func81.trans (congrArg some (by kernel_rfl))⟩,
 f10:=⟨Tryz.f98.name,by decide,Tryz.func98.trans (congrArg some (by kernel_rfl))⟩,
 t0:=Tryz.underlying0,
 a0:=Tryz.isAgg0,
 z0:=Tryz.sizeOf0,
 v0:=Tryz.zeroValue0,
 t4:=Tryz.underlying4,
 a4:=Tryz.isAgg4,
 z4:=Tryz.sizeOf4,
 v4:=Tryz.zeroValue4,
 t23:=Tryz.underlying90,
 a23:=Tryz.isAgg90,
 z23:=Tryz.sizeOf90,
 v23:=Tryz.zeroValue90,
 t26:=Tryz.underlying3,
 a26:=Tryz.isAgg3,
 z26:=Tryz.sizeOf3,
 v26:=Tryz.zeroValue3,
 t27:=Tryz.underlying131,
 a27:=Tryz.isAgg131,
 z27:=Tryz.sizeOf131,
 v27:=Tryz.zeroValue131,
 t28:=Tryz.underlying132,
 a28:=Tryz.isAgg132,
 z28:=Tryz.sizeOf132,
 v28:=Tryz.zeroValue132,
 t33:=Tryz.underlying108,
 a33:=Tryz.isAgg108,
 z33:=Tryz.sizeOf108,
 v33:=Tryz.zeroValue108 }
def Tryz.sortedA_ren:Go.Shelf.Ren:=⟨fun | 6=>80 | 8=>96 | 9=>97 | 11=>104 | 13=>106 | 12=>105 | 23=>121 | 24=>122 | 14=>112 | 15=>113 | 16=>114 | 17=>115 | 18=>116 | 19=>117 | 20=>118 | 21=>119 | 22=>120 | 25=>124 | 26=>125 | 27=>126 | 28=>127 | 29=>128 | 30=>129 | 31=>130 | n=>n,fun | 26=>3 | 28=>132 | 24=>23 | 0=>0 | 3=>3 | 37=>65 | 48=>137 | 50=>140 | 4=>4 | 40=>172 | 39=>171 | 45=>177 | 5=>5 | 9=>9 | 51=>181 | 55=>185 | 57=>187 | 58=>188 | 33=>108 | n=>n,fun | n=>n⟩
theorem Tryz.sortedA:Go.Proofs.SlLaysZI.n6 Tryz.prog Tryz.sortedA_ren:={
 mixed:=by kernel_rfl,
 f6:=⟨Tryz.f80.name,by decide,Tryz.func80.trans (congrArg some (by kernel_rfl))⟩,
 f8:=⟨Tryz.f96.name,by decide,Tryz.func96.trans (congrArg some (by kernel_rfl))⟩,
 f11:=⟨Tryz.f104.name,by decide,Tryz.func104.trans (congrArg some (by kernel_rfl))⟩,
 t0:=Tryz.underlying0,
 a0:=Tryz.isAgg0,
 z0:=Tryz.sizeOf0,
 v0:=Tryz.zeroValue0,
 t24:=Tryz.underlying23,
 a24:=Tryz.isAgg23,
 z24:=Tryz.sizeOf23,
 v24:=Tryz.zeroValue23,
 t26:=Tryz.underlying3,
 a26:=Tryz.isAgg3,
 z26:=Tryz.sizeOf3,
 v26:=Tryz.zeroValue3,
 t28:=Tryz.underlying132,
 a28:=Tryz.isAgg132,
 z28:=Tryz.sizeOf132,
 v28:=Tryz.zeroValue132,
 i26:=by kernel_rfl }
def Tryz.sortA_ren:Go.Shelf.Ren:=⟨fun | 5=>97 | 8=>106 | 7=>105 | 19=>121 | 20=>122 | 10=>112 | 11=>113 | 12=>114 | 13=>115 | 14=>116 | 15=>117 | 16=>118 | 17=>119 | 18=>120 | 30=>124 | 31=>125 | 32=>126 | 33=>127 | 34=>128 | 35=>129 | 40=>130 | n=>n,fun | 23=>23 | 25=>3 | 3=>3 | 32=>65 | 22=>23 | 0=>0 | 44=>137 | 46=>140 | 4=>4 | 36=>172 | 35=>171 | 41=>177 | 5=>5 | 9=>9 | 53=>181 | 57=>185 | 63=>187 | 64=>188 | n=>n,fun | n=>n⟩
theorem Tryz.sortA:Go.Proofs.SlLaysM.n5 Tryz.prog Tryz.sortA_ren:={
 mixed:=by kernel_rfl,
 f5:=⟨Tryz.f97.name,by decide,Tryz.func97.trans (congrArg some (by kernel_rfl))⟩,
 f7:=⟨Tryz.f105.name,by decide,Tryz.func105.trans (congrArg some (by kernel_rfl))⟩,
 f8:=Tryz.func106.trans (congrArg some (by kernel_rfl)),
 f10:=⟨Tryz.f112.name,by decide,Tryz.func112.trans (congrArg some (by kernel_rfl))⟩,
 f11:=⟨Tryz.f113.name,by decide,Tryz.func113.trans (congrArg some (by kernel_rfl))⟩,
 f12:=⟨Tryz.f114.name,by decide,Tryz.func114.trans (congrArg some (by kernel_rfl))⟩,
 f13:=⟨Tryz.f115.name,by decide,Tryz.func115.trans (congrArg some (by kernel_rfl))⟩,
 f14:=⟨Tryz.f116.name,by decide,Tryz.func116.trans (congrArg some (by kernel_rfl))⟩,
 f15:=⟨Tryz.f117.name,by decide,Tryz.func117.trans (congrArg some (by kernel_rfl))⟩,
 f16:=⟨Tryz.f118.name,by decide,Tryz.func118.trans (congrArg some (by kernel_rfl))⟩,
 f17:=⟨Tryz.f119.name,by decide,Tryz.func119.trans (congrArg some (by kernel_rfl))⟩,
 f18:=⟨Tryz.f120.name,by decide,Tryz.func120.trans (congrArg some (by kernel_rfl))⟩,
 f19:=Tryz.func121.trans (congrArg some (by kernel_rfl)),
 f20:=Tryz.func122.trans (congrArg some (by kernel_rfl)),
 f30:=⟨Tryz.f124.name,by decide,Tryz.func124.trans (congrArg some (by kernel_rfl))⟩,
 f31:=Tryz.func125.trans (congrArg some (by kernel_rfl)),
 f32:=Tryz.func126.trans (congrArg some (by kernel_rfl)),
 f33:=⟨Tryz.f127.name,by decide,Tryz.func127.trans (congrArg some (by kernel_rfl))⟩,
 f34:=⟨Tryz.f128.name,by decide,Tryz.func128.trans (congrArg some (by kernel_rfl))⟩,
 f35:=⟨Tryz.f129.name,by decide,Tryz.func129.trans (congrArg some (by kernel_rfl))⟩,
 f40:=⟨Tryz.f130.name,by decide,Tryz.func130.trans (congrArg some (by kernel_rfl))⟩,
 t0:=Tryz.underlying0,
 a0:=Tryz.isAgg0,
 z0:=Tryz.sizeOf0,
 v0:=Tryz.zeroValue0,
 t3:=Tryz.underlying3,
 a3:=Tryz.isAgg3,
 z3:=Tryz.sizeOf3,
 v3:=Tryz.zeroValue3,
 t4:=Tryz.underlying4,
 a4:=Tryz.isAgg4,
 z4:=Tryz.sizeOf4,
 v4:=Tryz.zeroValue4,
 t5:=Tryz.underlying5,
 a5:=Tryz.isAgg5,
 z5:=Tryz.sizeOf5,
 v5:=Tryz.zeroValue5,
 t9:=Tryz.underlying9,
 a9:=Tryz.isAgg9,
 z9:=Tryz.sizeOf9,
 v9:=Tryz.zeroValue9,
 t22:=Tryz.underlying23,
 a22:=Tryz.isAgg23,
 z22:=Tryz.sizeOf23,
 v22:=Tryz.zeroValue23,
 t23:=Tryz.underlying23,
 a23:=Tryz.isAgg23,
 z23:=Tryz.sizeOf23,
 v23:=Tryz.zeroValue23,
 t25:=Tryz.underlying3,
 a25:=Tryz.isAgg3,
 z25:=Tryz.sizeOf3,
 v25:=Tryz.zeroValue3,
 t32:=Tryz.underlying65,
 a32:=Tryz.isAgg65,
 z32:=Tryz.sizeOf65,
 v32:=Tryz.zeroValue65,
 t35:=Tryz.underlying171,
 a35:=Tryz.isAgg171,
 z35:=Tryz.sizeOf171,
 v35:=Tryz.zeroValue171,
 t36:=Tryz.underlying172,
 a36:=Tryz.isAgg172,
 z36:=Tryz.sizeOf172,
 v36:=Tryz.zeroValue172,
 t41:=Tryz.underlying177,
 a41:=Tryz.isAgg177,
 z41:=Tryz.sizeOf177,
 v41:=Tryz.zeroValue177,
 t44:=Tryz.underlying137,
 a44:=Tryz.isAgg137,
 z44:=Tryz.sizeOf137,
 v44:=Tryz.zeroValue137,
 t46:=Tryz.underlying140,
 a46:=Tryz.isAgg140,
 z46:=Tryz.sizeOf140,
 v46:=Tryz.zeroValue140,
 t53:=Tryz.underlying181,
 a53:=Tryz.isAgg181,
 z53:=Tryz.sizeOf181,
 v53:=Tryz.zeroValue181,
 t57:=Tryz.underlying185,
 a57:=Tryz.isAgg185,
 z57:=Tryz.sizeOf185,
 v57:=Tryz.zeroValue185,
 t63:=Tryz.underlying187,
 a63:=Tryz.isAgg187,
 z63:=Tryz.sizeOf187,
 v63:=Tryz.zeroValue187,
 t64:=Tryz.underlying188,
 a64:=Tryz.isAgg188,
 z64:=Tryz.sizeOf188,
 v64:=Tryz.zeroValue188 }
theorem Tryz.sortsA(m:Nat):AnyZI.SortsIn Tryz.prog Tryz.sortedA_ren Fence.wide m:=
 ⟨fun blk off cap ss W hH hblk hsz=>callsIn_wide.2 (AnyM.slices_Sort_int Tryz.sortA blk off cap ss W hH hblk hsz),
  fun p cap W=>callsIn_wide.2 (AnyM.slices_Sort_int_none Tryz.sortA p cap W)⟩
end Go.Proofs
end
section
namespace Go.Am
open Go Go.Proofs
abbrev aDx:List (Nat×Md):=[(0,.plain),(18,.plain),(19,.plain),(20,.plain)]
abbrev Ep:=Nat×Li×(Lp)×(Lp)×Bool×Int
abbrev VP:=Nat×Li×(Lp)×(Lp)×Bool×Int×Int
abbrev aSx:=(Lp)
abbrev aoy:=Nat×Li×(Lp)×(Lp)×Bool×Int×Int×Int
abbrev aSy:=Nat×Li×(Lp)×(Lp)×Bool×Int×Int×Li
abbrev ajl:=Li×Int×Int×(Dk.D)
def bbQ:List hI:=[]
def V43:Env:=dL fP dM bbQ
noncomputable abbrev bbR:=ij V43 none (Tryz.f43).results.toList
theorem bbS:EOk Tryz.prog V43:=bL (by exact trivial)
def bbT(F:Nat):Cuts:={ F:=F,at_:=fun _=>none,join:=fun _=>none }
abbrev bbU(F n:Nat){σ:Type}(e:σ→St)(K:Ex→St→Rz)(N:σ→Rz):=Qe V43 (bbT F) (bp Tryz.f43 n) e K N
def a8w:Ep→St:=fun (a,b,c,d,e,f)=>hS [pS 0 0 5] [dB 1 a 2 3 e f,bB b,pB c,wB d] 8 4
def aYN(F:Nat):Ep→Rz:=fun (a,b,c,d,e,f)=>(some ((.int .i64 (↑a:Int)),[(dB 1 a 2 3 e f),(bB b),(pB c),(wB d)]))
theorem aSz F:bbU F 1 a8w bbR (aYN F):=fun _=>by kernel_rfl
def f43(F:Nat):Ep→Rz:=aYN F
def r43:eP:=fun X H=>match X,H with
 | [(.ptr 0 0 5 0 0 0 5)],[(.cells 5 (.segs (.cons 1 (.one (.own 1 a0n 64)) (.cons 1 (.one (.mp 2)) (.cons 1 (.one (.mp 3)) (.cons 1 (.one (.bool a0o)) (.cons 1 (.one (.int .i64 a0l)) .nil)))))) true),(.cells z1 (.rI .u8 a0b) true),(.cells 0 (.rM .i64 0 (.arr .u8 64) a0p) true),(.cells 0 (.rM .i64 0 .bool a0w) true)]=>some (true,(.int .i64 ((Dk.D.mk a0n a0b a0p a0w a0o a0l).n:Int)),[(dE 1 (Dk.D.mk a0n a0b a0p a0w a0o a0l) 2 3),(.cells (Dk.D.mk a0n a0b a0p a0w a0o a0l).blk.length (.rI .u8 (Dk.D.mk a0n a0b a0p a0w a0o a0l).blk) true),(pB (Dk.D.mk a0n a0b a0p a0w a0o a0l).pend),(wB (Dk.D.mk a0n a0b a0p a0w a0o a0l).worn)])
 | _,_=>none
theorem s43(a0n:Nat)(a0b:Li)(a0p a0w:Lp)(a0o:Bool)(a0l:Int)(k0:okB (dB 1 a0n 2 3 a0o a0l))(k1:okB (bB a0b))(k2:okB (pB a0p))(k3:okB (wB a0w)):∃ F,f43 F (a0n,a0b,a0p,a0w,a0o,a0l)=some ((.int .i64 ((Dk.D.mk a0n a0b a0p a0w a0o a0l).n:Int)),[(dE 1 (Dk.D.mk a0n a0b a0p a0w a0o a0l) 2 3),(.cells (Dk.D.mk a0n a0b a0p a0w a0o a0l).blk.length (.rI .u8 (Dk.D.mk a0n a0b a0p a0w a0o a0l).blk) true),(pB (Dk.D.mk a0n a0b a0p a0w a0o a0l).pend),(wB (Dk.D.mk a0n a0b a0p a0w a0o a0l).worn)]):=by exact⟨0,rfl⟩
theorem c43:Ck 43 r43:=ck bbS Tryz.func43 (by
 intro X H r H' h hX hH
 unfold r43 at h;split at h <;> try contradiction
 ·obtain⟨hp,rfl,rfl⟩:=ik h
  obtain rfl:=bh (hH _ hm1) rfl
  obtain⟨F,hF⟩:=s43 _ _ _ _ _ _ (hH _ hm0) (hH _ hm1) (hH _ hm2) (hH _ hm3)
  exact⟨_,abC (aSz F) hF⟩)
def bbV:List hI:=[]
def V64:Env:=dL fP dM bbV
noncomputable abbrev bbW:=ij V64 none (Tryz.f64).results.toList
theorem bbX:EOk Tryz.prog V64:=bL (by exact trivial)
def bbY(F:Nat):Cuts:={ F:=F,at_:=fun _=>none,join:=fun _=>none }
abbrev bbZ(F n:Nat){σ:Type}(e:σ→St)(K:Ex→St→Rz)(N:σ→Rz):=Qe V64 (bbY F) (bp Tryz.f64 n) e K N
def a8x:VP→St:=fun (a,b,c,d,e,f,g)=>hS [pS 0 0 5,iS 1 g] [dB 1 a 2 3 e f,bB b,pB c,wB d] 22 4
def aDy(F:Nat):VP→Rz:=fun (a,c,d,e,b,f,g)=>(cond b (some ((.int .i64 22),[(dB 1 a 2 3 b f),(bB c),(pB d),(wB e)])) (cond (decide (g < (0:Int))) (some ((.int .i64 1),[(dB 1 a 2 3 b f),(bB c),(pB d),(wB e)])) (cond (decide (g≥(↑a:Int))) (some ((.int .i64 1),[(dB 1 a 2 3 b f),(bB c),(pB d),(wB e)])) (some ((.int .i64 0),[(dB 1 a 2 3 b f),(bB c),(pB d),(wB e)])))))
theorem aSA F:bbZ F 1 a8x bbW (aDy F):=fun _=>by kernel_rfl
def f64(F:Nat):VP→Rz:=aDy F
def r64:eP:=fun X H=>match X,H with
 | [(.ptr 0 0 5 0 0 0 5),.int .i64 a1],[(.cells 5 (.segs (.cons 1 (.one (.own 1 a0n 64)) (.cons 1 (.one (.mp 2)) (.cons 1 (.one (.mp 3)) (.cons 1 (.one (.bool a0o)) (.cons 1 (.one (.int .i64 a0l)) .nil)))))) true),(.cells z1 (.rI .u8 a0b) true),(.cells 0 (.rM .i64 0 (.arr .u8 64) a0p) true),(.cells 0 (.rM .i64 0 .bool a0w) true)]=>some (true,(.int .i64 (Dk.check (Dk.D.mk a0n a0b a0p a0w a0o a0l) a1)),[(dE 1 (Dk.D.mk a0n a0b a0p a0w a0o a0l) 2 3),(.cells (Dk.D.mk a0n a0b a0p a0w a0o a0l).blk.length (.rI .u8 (Dk.D.mk a0n a0b a0p a0w a0o a0l).blk) true),(pB (Dk.D.mk a0n a0b a0p a0w a0o a0l).pend),(wB (Dk.D.mk a0n a0b a0p a0w a0o a0l).worn)])
 | _,_=>none
theorem s64(a0n:Nat)(a0b:Li)(a0p a0w:Lp)(a0o:Bool)(a0l a1:Int)(h1:okV (.int .i64 a1))(k0:okB (dB 1 a0n 2 3 a0o a0l))(k1:okB (bB a0b))(k2:okB (pB a0p))(k3:okB (wB a0w)):∃ F,f64 F (a0n,a0b,a0p,a0w,a0o,a0l,a1)=some ((.int .i64 (Dk.check (Dk.D.mk a0n a0b a0p a0w a0o a0l) a1)),[(dE 1 (Dk.D.mk a0n a0b a0p a0w a0o a0l) 2 3),(.cells (Dk.D.mk a0n a0b a0p a0w a0o a0l).blk.length (.rI .u8 (Dk.D.mk a0n a0b a0p a0w a0o a0l).blk) true),(pB (Dk.D.mk a0n a0b a0p a0w a0o a0l).pend),(wB (Dk.D.mk a0n a0b a0p a0w a0o a0l).worn)]):=by
 refine⟨0,?_⟩
 simp only [f64,aDy,Dk.check]
 cases a0o
 ·cases (decide (a1 < 0))
  ·cases (decide (a1≥(a0n:Int))) <;> rfl
  ·rfl
 ·rfl
theorem c64:Ck 64 r64:=ck bbX Tryz.func64 (by
 intro X H r H' h hX hH
 unfold r64 at h;split at h <;> try contradiction
 ·obtain⟨hp,rfl,rfl⟩:=ik h
  obtain rfl:=bh (hH _ hm1) rfl
  obtain⟨F,hF⟩:=s64 _ _ _ _ _ _ _ (hX _ hm1) (hH _ hm0) (hH _ hm1) (hH _ hm2) (hH _ hm3)
  exact⟨_,abC (aSA F) hF⟩)
def bb4:List hI:=[]
def V65:Env:=dL fP dM bb4
noncomputable abbrev bb5:=ij V65 none (Tryz.f65).results.toList
theorem bb6:EOk Tryz.prog V65:=bL (by exact trivial)
def bb7(F:Nat):Cuts:={ F:=F,at_:=fun _=>none,join:=fun _=>none }
abbrev bb8(F n:Nat){σ:Type}(e:σ→St)(K:Ex→St→Rz)(N:σ→Rz):=Qe V65 (bb7 F) (bp Tryz.f65 n) e K N
def a8y:Ep→St:=fun (a,b,c,d,e,f)=>hS [pS 0 0 5] [dB 1 a 2 3 e f,bB b,pB c,wB d] 25 4
def aDz(F:Nat):Ep→Rz:=fun (b,c,d,e,f,a)=>(cond (a==(0:Int)) (some ((.int .i64 22),[(dB 1 b 2 3 true a),(bB c),(pB d),(wB e)])) (cond (decide (a > (0:Int))) (some ((.int .i64 0),[(dB 1 b 2 3 f (IntKind.i64.wrap (a-(1:Int)))),(bB c),(pB d),(wB e)])) (some ((.int .i64 0),[(dB 1 b 2 3 f a),(bB c),(pB d),(wB e)]))))
theorem aSB F:bb8 F 1 a8y bb5 (aDz F):=fun _=>by kernel_rfl
def f65(F:Nat):Ep→Rz:=aDz F
def r65:eP:=fun X H=>match X,H with
 | [(.ptr 0 0 5 0 0 0 5)],[(.cells 5 (.segs (.cons 1 (.one (.own 1 a0n 64)) (.cons 1 (.one (.mp 2)) (.cons 1 (.one (.mp 3)) (.cons 1 (.one (.bool a0o)) (.cons 1 (.one (.int .i64 a0l)) .nil)))))) true),(.cells z1 (.rI .u8 a0b) true),(.cells 0 (.rM .i64 0 (.arr .u8 64) a0p) true),(.cells 0 (.rM .i64 0 .bool a0w) true)]=>some (true,(.int .i64 (Dk.step (Dk.D.mk a0n a0b a0p a0w a0o a0l)).2),[(dE 1 (Dk.step (Dk.D.mk a0n a0b a0p a0w a0o a0l)).1 2 3),(.cells (Dk.step (Dk.D.mk a0n a0b a0p a0w a0o a0l)).1.blk.length (.rI .u8 (Dk.step (Dk.D.mk a0n a0b a0p a0w a0o a0l)).1.blk) true),(pB (Dk.step (Dk.D.mk a0n a0b a0p a0w a0o a0l)).1.pend),(wB (Dk.step (Dk.D.mk a0n a0b a0p a0w a0o a0l)).1.worn)])
 | _,_=>none
theorem s65(a0n:Nat)(a0b:Li)(a0p a0w:Lp)(a0o:Bool)(a0l:Int)(k0:okB (dB 1 a0n 2 3 a0o a0l))(k1:okB (bB a0b))(k2:okB (pB a0p))(k3:okB (wB a0w)):∃ F,f65 F (a0n,a0b,a0p,a0w,a0o,a0l)=some ((.int .i64 (Dk.step (Dk.D.mk a0n a0b a0p a0w a0o a0l)).2),[(dE 1 (Dk.step (Dk.D.mk a0n a0b a0p a0w a0o a0l)).1 2 3),(.cells (Dk.step (Dk.D.mk a0n a0b a0p a0w a0o a0l)).1.blk.length (.rI .u8 (Dk.step (Dk.D.mk a0n a0b a0p a0w a0o a0l)).1.blk) true),(pB (Dk.step (Dk.D.mk a0n a0b a0p a0w a0o a0l)).1.pend),(wB (Dk.step (Dk.D.mk a0n a0b a0p a0w a0o a0l)).1.worn)]):=by
 refine⟨0,?_⟩
 simp only [f65,aDz,Dk.step]
 cases (a0l==0)
 ·cases (decide (a0l > 0)) <;> rfl
 ·rfl
theorem c65:Ck 65 r65:=ck bb6 Tryz.func65 (by
 intro X H r H' h hX hH
 unfold r65 at h;split at h <;> try contradiction
 ·obtain⟨hp,rfl,rfl⟩:=ik h
  obtain rfl:=bh (hH _ hm1) rfl
  obtain⟨F,hF⟩:=s65 _ _ _ _ _ _ (hH _ hm0) (hH _ hm1) (hH _ hm2) (hH _ hm3)
  exact⟨_,abC (aSB F) hF⟩)
def bb9:List hI:=[]
def V81:Env:=dL fP dM bb9
noncomputable abbrev bca:=ij V81 none (Tryz.f81).results.toList
theorem bcb:EOk Tryz.prog V81:=bL (by exact trivial)
def bcc(F:Nat):Cuts:={ F:=F,at_:=fun _=>none,join:=fun _=>none }
abbrev bcd(F n:Nat){σ:Type}(e:σ→St)(K:Ex→St→Rz)(N:σ→Rz):=Qe V81 (bcc F) (bp Tryz.f81 n) e K N
def a8z:aSx→St:=fun a=>hS [(0,.mp 0)] [pB a] 4 1
def aYO(F:Nat):aSx→Rz:=fun a=>(some ((.fn 98 (.cons 0 (.ptr 1 0 1 0 0 0 1) .nil)),[(pB a),(.cells 1 (.one (.mp 0)) true)]))
theorem aSC F:bcd F 1 a8z bca (aYO F):=fun _=>by kernel_rfl
def f81(F:Nat):aSx→Rz:=aYO F
def r81:eP:=fun X H=>match X,H with
 | [(.mp 0)],[(.cells 0 (.rM .i64 0 (.arr .u8 64) a0) true)]=>some (true,(.fn 98 (.cons 0 (.ptr 1 0 1 0 0 0 1) .nil)),[(pB a0),(.cells 1 (.one (.mp 0)) true)])
 | _,_=>none
theorem s81(a0:Lp)(k0:okB (pB a0)):∃ F,f81 F a0=some ((.fn 98 (.cons 0 (.ptr 1 0 1 0 0 0 1) .nil)),[(pB a0),(.cells 1 (.one (.mp 0)) true)]):=by exact⟨0,rfl⟩
theorem c81:Ck 81 r81:=ck bcb Tryz.func81 (by
 intro X H r H' h hX hH
 unfold r81 at h;split at h <;> try contradiction
 ·obtain⟨hp,rfl,rfl⟩:=ik h
  obtain⟨F,hF⟩:=s81 _ (hH _ hm0)
  exact⟨_,abC (aSC F) hF⟩)
def r80:eP:=ag3 [98]
theorem c80:CallOk Tryz.prog dM 80 r80:=aJw Tryz.sortedA Tryz.sortsA (enters_of Tryz.func97 (by kernel_rfl) rfl) fun f hf=>by
 simp only [List.mem_cons,List.not_mem_nil,or_false] at hf
 subst hf
 exact⟨enters_of Tryz.func98 (by kernel_rfl) rfl,Tryz.keys81_ren,{ Tryz.keys81 with },rfl,rfl⟩
def bce:List hI:=[(80,[none],r80),(81,[none],r81)]
def V50:Env:=dL fP dM bce
noncomputable abbrev bcf:=ij V50 none (Tryz.f50).results.toList
theorem bcg:EOk Tryz.prog V50:=bL (by exact⟨c80,c81,trivial⟩)
def bch(F:Nat):Cuts:={ F:=F,at_:=fun _=>none,join:=fun _=>none }
abbrev bci(F n:Nat){σ:Type}(e:σ→St)(K:Ex→St→Rz)(N:σ→Rz):=Qe V50 (bch F) (bp Tryz.f50 n) e K N
def a8A:Ep→St:=fun (a,b,c,d,e,f)=>hS [pS 0 0 5] [dB 1 a 2 3 e f,bB b,pB c,wB d] 9 4
def aDA(F:Nat):Ep→Rz:=fun (b,c,a,d,e,f)=>(cond (decide (a.length < 1073741824)) (some ((.vs (.rI .i64 (P1 (pr a))) 0 1),[(dB 1 b 2 3 e f),(bB c),(pB a),(wB d)])) none)
theorem aSD F:bci F 1 a8A bcf (aDA F):=fun _=>by kernel_rfl
def f50(F:Nat):Ep→Rz:=aDA F
def r50:eP:=fun X H=>match X,H with
 | [(.ptr 0 0 5 0 0 0 5)],[(.cells 5 (.segs (.cons 1 (.one (.own 1 a0n 64)) (.cons 1 (.one (.mp 2)) (.cons 1 (.one (.mp 3)) (.cons 1 (.one (.bool a0o)) (.cons 1 (.one (.int .i64 a0l)) .nil)))))) true),(.cells z1 (.rI .u8 a0b) true),(.cells 0 (.rM .i64 0 (.arr .u8 64) a0p) true),(.cells 0 (.rM .i64 0 .bool a0w) true)]=>some ((decide ((Dk.D.mk a0n a0b a0p a0w a0o a0l).pend.length < 1073741824)),(.vs (.rI .i64 (Dk.pending (Dk.D.mk a0n a0b a0p a0w a0o a0l))) 0 1),[(dE 1 (Dk.D.mk a0n a0b a0p a0w a0o a0l) 2 3),(.cells (Dk.D.mk a0n a0b a0p a0w a0o a0l).blk.length (.rI .u8 (Dk.D.mk a0n a0b a0p a0w a0o a0l).blk) true),(pB (Dk.D.mk a0n a0b a0p a0w a0o a0l).pend),(wB (Dk.D.mk a0n a0b a0p a0w a0o a0l).worn)])
 | _,_=>none
theorem s50(a0n:Nat)(a0b:Li)(a0p a0w:Lp)(a0o:Bool)(a0l:Int)(hp:((decide ((Dk.D.mk a0n a0b a0p a0w a0o a0l).pend.length < 1073741824)))=true)(k0:okB (dB 1 a0n 2 3 a0o a0l))(k1:okB (bB a0b))(k2:okB (pB a0p))(k3:okB (wB a0w)):∃ F,f50 F (a0n,a0b,a0p,a0w,a0o,a0l)=some ((.vs (.rI .i64 (Dk.pending (Dk.D.mk a0n a0b a0p a0w a0o a0l))) 0 1),[(dE 1 (Dk.D.mk a0n a0b a0p a0w a0o a0l) 2 3),(.cells (Dk.D.mk a0n a0b a0p a0w a0o a0l).blk.length (.rI .u8 (Dk.D.mk a0n a0b a0p a0w a0o a0l).blk) true),(pB (Dk.D.mk a0n a0b a0p a0w a0o a0l).pend),(wB (Dk.D.mk a0n a0b a0p a0w a0o a0l).worn)]):=by exact⟨0,by simp only [f50,aDA];rw [hp];rfl⟩
theorem c50:Ck 50 r50:=ck bcg Tryz.func50 (by
 intro X H r H' h hX hH
 unfold r50 at h;split at h <;> try contradiction
 ·obtain⟨hp,rfl,rfl⟩:=ik h
  obtain rfl:=bh (hH _ hm1) rfl
  obtain⟨F,hF⟩:=s50 _ _ _ _ _ _ hp (hH _ hm0) (hH _ hm1) (hH _ hm2) (hH _ hm3)
  exact⟨_,abC (aSD F) hF⟩)
def bcj:List hI:=[]
def V51:Env:=dL fP dM bcj
noncomputable abbrev bck:=ij V51 none (Tryz.f51).results.toList
theorem bcl:EOk Tryz.prog V51:=bL (by exact trivial)
def bcm(F:Nat):Cuts:={ F:=F,at_:=fun _=>none,join:=fun _=>none }
abbrev bcn(F n:Nat){σ:Type}(e:σ→St)(K:Ex→St→Rz)(N:σ→Rz):=Qe V51 (bcm F) (bp Tryz.f51 n) e K N
def a8B:aoy→St:=fun (a,b,c,d,e,f,g,h)=>hS [pS 0 0 5,iS 1 g,iS 2 h] [dB 1 a 2 3 e f,bB b,pB c,wB d] 48 4
def aDB(F:Nat):aoy→Rz:=fun (d,c,e,f,g,h,b,a)=>(cond (!((u5 (EO .bool) f [b]).getD 0 0==1)) (cond ((decide (0≤b))&&(decide (b < (↑d:Int)))) (cond (!(((u5 (EO (.arr .u8 64)) e [b]):Li)==((c.drop ((Int.toNat b)*64)).take 64))) (cond ((decide (0≤b))&&(decide (b < (↑d:Int)))) (cond ((decide ((0:Int)≤(if (if (64:Int) < a then (64:Int) else a) > (0:Int) then (if (64:Int) < a then (64:Int) else a) else (0:Int))))&&(decide ((if (if (64:Int) < a then (64:Int) else a) > (0:Int) then (if (64:Int) < a then (64:Int) else a) else (0:Int))≤(64:Int)))) (some ((.tup .nil),[(dB 1 d 2 3 g h),(.cells c.length (.rI .u8 (c.take (0+(0+((Int.toNat b)*64)))++(((u5 (EO (.arr .u8 64)) e [b]).take 64).take (min 64 (Int.toNat (if (if (64:Int) < a then (64:Int) else a) > (0:Int) then (if (64:Int) < a then (64:Int) else a) else (0:Int)))))++c.drop ((0+(0+((Int.toNat b)*64)))+(min 64 (Int.toNat (if (if (64:Int) < a then (64:Int) else a) > (0:Int) then (if (64:Int) < a then (64:Int) else a) else (0:Int))))))) true),(pB (zV e [b])),(wB f)])) none) none) (some ((.tup .nil),[(dB 1 d 2 3 g h),(bB c),(pB (zV e [b])),(wB f)]))) none) (some ((.tup .nil),[(dB 1 d 2 3 g h),(bB c),(pB (zV e [b])),(wB f)])))
theorem aSE F:bcn F 1 a8B bck (aDB F):=fun _=>by kernel_rfl
def f51(F:Nat):aoy→Rz:=aDB F
def r51:eP:=fun X H=>match X,H with
 | [(.ptr 0 0 5 0 0 0 5),.int .i64 a1,.int .i64 a2],[(.cells 5 (.segs (.cons 1 (.one (.own 1 a0n 64)) (.cons 1 (.one (.mp 2)) (.cons 1 (.one (.mp 3)) (.cons 1 (.one (.bool a0o)) (.cons 1 (.one (.int .i64 a0l)) .nil)))))) true),(.cells z1 (.rI .u8 a0b) true),(.cells 0 (.rM .i64 0 (.arr .u8 64) a0p) true),(.cells 0 (.rM .i64 0 .bool a0w) true)]=>some ((Dk.inD (Dk.D.mk a0n a0b a0p a0w a0o a0l) a1)&&(decide ((Dk.D.mk a0n a0b a0p a0w a0o a0l).blk.length=(Dk.D.mk a0n a0b a0p a0w a0o a0l).n*64)),.tup .nil,[(dE 1 (Dk.settle (Dk.D.mk a0n a0b a0p a0w a0o a0l) a1 a2) 2 3),(.cells (Dk.settle (Dk.D.mk a0n a0b a0p a0w a0o a0l) a1 a2).blk.length (.rI .u8 (Dk.settle (Dk.D.mk a0n a0b a0p a0w a0o a0l) a1 a2).blk) true),(pB (Dk.settle (Dk.D.mk a0n a0b a0p a0w a0o a0l) a1 a2).pend),(wB (Dk.settle (Dk.D.mk a0n a0b a0p a0w a0o a0l) a1 a2).worn)])
 | _,_=>none
theorem s51(a0n:Nat)(a0b:Li)(a0p a0w:Lp)(a0o:Bool)(a0l a1 a2:Int)(hp:((Dk.inD (Dk.D.mk a0n a0b a0p a0w a0o a0l) a1)&&(decide ((Dk.D.mk a0n a0b a0p a0w a0o a0l).blk.length=(Dk.D.mk a0n a0b a0p a0w a0o a0l).n*64)))=true)(h1:okV (.int .i64 a1))(h2:okV (.int .i64 a2))(k0:okB (dB 1 a0n 2 3 a0o a0l))(k1:okB (bB a0b))(k2:okB (pB a0p))(k3:okB (wB a0w)):∃ F,f51 F (a0n,a0b,a0p,a0w,a0o,a0l,a1,a2)=some ((.tup .nil),[(dE 1 (Dk.settle (Dk.D.mk a0n a0b a0p a0w a0o a0l) a1 a2) 2 3),(.cells (Dk.settle (Dk.D.mk a0n a0b a0p a0w a0o a0l) a1 a2).blk.length (.rI .u8 (Dk.settle (Dk.D.mk a0n a0b a0p a0w a0o a0l) a1 a2).blk) true),(pB (Dk.settle (Dk.D.mk a0n a0b a0p a0w a0o a0l) a1 a2).pend),(wB (Dk.settle (Dk.D.mk a0n a0b a0p a0w a0o a0l) a1 a2).worn)]):=by
 refine⟨0,?_⟩
 have hin:(decide (0≤a1)&&decide (a1 < (a0n:Int)))=true:=(Bool.and_eq_true_iff.1 hp).1
 have hl:a0b.length=a0n*64:=of_decide_eq_true (Bool.and_eq_true_iff.1 hp).2
 have hi:=hin
 rw [cH,decide_eq_true_iff] at hi
 have hz:=Dk.putsec_len (b:=a0b) (i:=a1.toNat) (m:=min 64 (Dk.clamp a2)) (Dk.mget64 (Dk.vals64 k2) [a1]) (by omega) (by omega)
 simp only [f51,aDB,Dk.settle,Dk.isW,Dk.nxt,Dk.sec,Dk.putsec,Nat.zero_add,EO]
 rw [hin]
 cases (!((u5 [0] a0w [a1]).getD 0 0==1))
 ·rfl
 ·cases (!(u5 (List.replicate 64 0) a0p [a1]==List.take 64 (List.drop (a1.toNat*64) a0b)))
  ·rfl
  ·have e:(decide (0≤(if (if 64 < a2 then 64 else a2) > 0 then (if 64 < a2 then 64 else a2) else 0))&&decide ((if (if 64 < a2 then 64 else a2) > 0 then (if 64 < a2 then 64 else a2) else 0)≤64))=true:=by
    rw [cH,decide_eq_true_iff];constructor <;> (split <;> (try split) <;> omega)
   simp only [cond_true]
   rw [e]
   simp only [cond_true]
   simp only [Dk.putsec] at hz
   rw [hz];rfl
theorem c51:Ck 51 r51:=ck bcl Tryz.func51 (by
 intro X H r H' h hX hH
 unfold r51 at h;split at h <;> try contradiction
 ·obtain⟨hp,rfl,rfl⟩:=ik h
  obtain rfl:=bh (hH _ hm1) rfl
  obtain⟨F,hF⟩:=s51 _ _ _ _ _ _ _ _ hp (hX _ hm1) (hX _ hm2) (hH _ hm0) (hH _ hm1) (hH _ hm2) (hH _ hm3)
  exact⟨_,abC (aSE F) hF⟩)
def bco:List hI:=[(64,[none,none],r64)]
def V44:Env:=dL fP dM bco
noncomputable abbrev bcp:=ij V44 none (Tryz.f44).results.toList
theorem bcq:EOk Tryz.prog V44:=bL (by exact⟨c64,trivial⟩)
def bcr(F:Nat):Cuts:={ F:=F,at_:=fun _=>none,join:=fun _=>none }
abbrev bcs(F n:Nat){σ:Type}(e:σ→St)(K:Ex→St→Rz)(N:σ→Rz):=Qe V44 (bcr F) (bp Tryz.f44 n) e K N
def a8C:VP→St:=fun (a,b,c,d,e,f,g)=>hS [pS 0 0 5,iS 1 g] [dB 1 a 2 3 e f,bB b,pB c,wB d] 35 4
def aDC(F:Nat):VP→Rz:=fun (a,b,c,d,e,f,g)=>(cond ((Dk.check (Dk.D.mk a b c d e f) g) != (0:Int)) (some ((.tup (.cons 0 (.str []) (.cons 0 (.int .i64 (Dk.check (Dk.D.mk a b c d e f) g)) .nil))),[(dE 1 (Dk.D.mk a b c d e f) 2 3),(.cells (Dk.D.mk a b c d e f).blk.length (.rI .u8 (Dk.D.mk a b c d e f).blk) true),(pB (Dk.D.mk a b c d e f).pend),(wB (Dk.D.mk a b c d e f).worn)])) (cond (u7 (Dk.D.mk a b c d e f).pend [g]) (some ((.tup (.cons 0 (.str ((u5 (EO (.arr .u8 64)) (Dk.D.mk a b c d e f).pend [g]).take 64)) (.cons 0 (.int .i64 0) .nil))),[(dE 1 (Dk.D.mk a b c d e f) 2 3),(.cells (Dk.D.mk a b c d e f).blk.length (.rI .u8 (Dk.D.mk a b c d e f).blk) true),(pB (Dk.D.mk a b c d e f).pend),(wB (Dk.D.mk a b c d e f).worn)])) (cond ((decide (0≤g))&&(decide (g < (↑(Dk.D.mk a b c d e f).n:Int)))) (some ((.tup (.cons 0 (.str (((Dk.D.mk a b c d e f).blk.drop (0+(0+((Int.toNat g)*64)))).take 64)) (.cons 0 (.int .i64 0) .nil))),[(dE 1 (Dk.D.mk a b c d e f) 2 3),(.cells (Dk.D.mk a b c d e f).blk.length (.rI .u8 (Dk.D.mk a b c d e f).blk) true),(pB (Dk.D.mk a b c d e f).pend),(wB (Dk.D.mk a b c d e f).worn)])) none)))
theorem aSF F:bcs F 1 a8C bcp (aDC F):=fun _=>by kernel_rfl
def f44(F:Nat):VP→Rz:=aDC F
def r44:eP:=fun X H=>match X,H with
 | [(.ptr 0 0 5 0 0 0 5),.int .i64 a1],[(.cells 5 (.segs (.cons 1 (.one (.own 1 a0n 64)) (.cons 1 (.one (.mp 2)) (.cons 1 (.one (.mp 3)) (.cons 1 (.one (.bool a0o)) (.cons 1 (.one (.int .i64 a0l)) .nil)))))) true),(.cells z1 (.rI .u8 a0b) true),(.cells 0 (.rM .i64 0 (.arr .u8 64) a0p) true),(.cells 0 (.rM .i64 0 .bool a0w) true)]=>some (true,(.tup (.cons 0 (.str (Dk.read (Dk.D.mk a0n a0b a0p a0w a0o a0l) a1).1) (.cons 0 (.int .i64 (Dk.read (Dk.D.mk a0n a0b a0p a0w a0o a0l) a1).2) .nil))),[(dE 1 (Dk.D.mk a0n a0b a0p a0w a0o a0l) 2 3),(.cells (Dk.D.mk a0n a0b a0p a0w a0o a0l).blk.length (.rI .u8 (Dk.D.mk a0n a0b a0p a0w a0o a0l).blk) true),(pB (Dk.D.mk a0n a0b a0p a0w a0o a0l).pend),(wB (Dk.D.mk a0n a0b a0p a0w a0o a0l).worn)])
 | _,_=>none
theorem s44(a0n:Nat)(a0b:Li)(a0p a0w:Lp)(a0o:Bool)(a0l a1:Int)(h1:okV (.int .i64 a1))(k0:okB (dB 1 a0n 2 3 a0o a0l))(k1:okB (bB a0b))(k2:okB (pB a0p))(k3:okB (wB a0w)):∃ F,f44 F (a0n,a0b,a0p,a0w,a0o,a0l,a1)=some ((.tup (.cons 0 (.str (Dk.read (Dk.D.mk a0n a0b a0p a0w a0o a0l) a1).1) (.cons 0 (.int .i64 (Dk.read (Dk.D.mk a0n a0b a0p a0w a0o a0l) a1).2) .nil))),[(dE 1 (Dk.D.mk a0n a0b a0p a0w a0o a0l) 2 3),(.cells (Dk.D.mk a0n a0b a0p a0w a0o a0l).blk.length (.rI .u8 (Dk.D.mk a0n a0b a0p a0w a0o a0l).blk) true),(pB (Dk.D.mk a0n a0b a0p a0w a0o a0l).pend),(wB (Dk.D.mk a0n a0b a0p a0w a0o a0l).worn)]):=by
 refine⟨0,?_⟩
 simp only [f44,aDC,Dk.read,Dk.isP,Dk.nxt,Dk.sec,Nat.zero_add,EO]
 by_cases hc:Dk.check (Dk.D.mk a0n a0b a0p a0w a0o a0l) a1=0
 ·obtain⟨h1,h2,h3⟩:=Dk.check_ok hc
  have e:(decide (0≤a1)&&decide (a1 < (a0n:Int)))=true:=by simp;exact⟨h2,h3⟩
  rw [hc,e]
  cases u7 a0p [a1] <;> rfl
 ·have e:(Dk.check (Dk.D.mk a0n a0b a0p a0w a0o a0l) a1 != 0)=true:=by simp [hc]
  rw [e];rfl
theorem c44:Ck 44 r44:=ck bcq Tryz.func44 (by
 intro X H r H' h hX hH
 unfold r44 at h;split at h <;> try contradiction
 ·obtain⟨hp,rfl,rfl⟩:=ik h
  obtain rfl:=bh (hH _ hm1) rfl
  obtain⟨F,hF⟩:=s44 _ _ _ _ _ _ _ (hX _ hm1) (hH _ hm0) (hH _ hm1) (hH _ hm2) (hH _ hm3)
  exact⟨_,abC (aSF F) hF⟩)
def bct:List hI:=[(64,[none,none],r64),(65,[none],r65)]
def V32:Env:=dL fP dM bct
noncomputable abbrev bcu:=ij V32 none (Tryz.f32).results.toList
theorem bcv:EOk Tryz.prog V32:=bL (by exact⟨c64,c65,trivial⟩)
def bcw(F:Nat):Cuts:={ F:=F,at_:=fun _=>none,join:=fun _=>none }
abbrev bcx(F n:Nat){σ:Type}(e:σ→St)(K:Ex→St→Rz)(N:σ→Rz):=Qe V32 (bcw F) (bp Tryz.f32 n) e K N
def a8D:aSy→St:=fun (a,b,c,d,e,f,g,h)=>hS [pS 0 0 5,iS 1 g,(2,.str h)] [dB 1 a 2 3 e f,bB b,pB c,wB d] 32 4
def aDD(F:Nat):aSy→Rz:=fun (a,b,c,d,e,f,g,h)=>(cond ((Dk.check (Dk.D.mk a b c d e f) g) != (0:Int)) (some ((.int .i64 (Dk.check (Dk.D.mk a b c d e f) g)),[(dE 1 (Dk.D.mk a b c d e f) 2 3),(.cells (Dk.D.mk a b c d e f).blk.length (.rI .u8 (Dk.D.mk a b c d e f).blk) true),(pB (Dk.D.mk a b c d e f).pend),(wB (Dk.D.mk a b c d e f).worn)])) (cond ((↑h.length:Int) != (64:Int)) (some ((.int .i64 1),[(dE 1 (Dk.D.mk a b c d e f) 2 3),(.cells (Dk.D.mk a b c d e f).blk.length (.rI .u8 (Dk.D.mk a b c d e f).blk) true),(pB (Dk.D.mk a b c d e f).pend),(wB (Dk.D.mk a b c d e f).worn)])) (cond ((Dk.step (Dk.D.mk a b c d e f)).2 != (0:Int)) (some ((.int .i64 (Dk.step (Dk.D.mk a b c d e f)).2),[(dE 1 (Dk.step (Dk.D.mk a b c d e f)).1 2 3),(.cells (Dk.step (Dk.D.mk a b c d e f)).1.blk.length (.rI .u8 (Dk.step (Dk.D.mk a b c d e f)).1.blk) true),(pB (Dk.step (Dk.D.mk a b c d e f)).1.pend),(wB (Dk.step (Dk.D.mk a b c d e f)).1.worn)])) (cond (decide (64≤h.length)) (some ((.int .i64 0),[(dE 1 (Dk.step (Dk.D.mk a b c d e f)).1 2 3),(.cells (Dk.step (Dk.D.mk a b c d e f)).1.blk.length (.rI .u8 (Dk.step (Dk.D.mk a b c d e f)).1.blk) true),(pB (u9 (Dk.step (Dk.D.mk a b c d e f)).1.pend [g] (h.take 64))),(wB (Dk.step (Dk.D.mk a b c d e f)).1.worn)])) none))))
theorem aSG F:bcx F 1 a8D bcu (aDD F):=fun _=>by kernel_rfl
def f32(F:Nat):aSy→Rz:=aDD F
def r32:eP:=fun X H=>match X,H with
 | [(.ptr 0 0 5 0 0 0 5),.int .i64 a1,.str a2],[(.cells 5 (.segs (.cons 1 (.one (.own 1 a0n 64)) (.cons 1 (.one (.mp 2)) (.cons 1 (.one (.mp 3)) (.cons 1 (.one (.bool a0o)) (.cons 1 (.one (.int .i64 a0l)) .nil)))))) true),(.cells z1 (.rI .u8 a0b) true),(.cells 0 (.rM .i64 0 (.arr .u8 64) a0p) true),(.cells 0 (.rM .i64 0 .bool a0w) true)]=>some (true,(.int .i64 (Dk.write (Dk.D.mk a0n a0b a0p a0w a0o a0l) a1 a2).2),[(dE 1 (Dk.write (Dk.D.mk a0n a0b a0p a0w a0o a0l) a1 a2).1 2 3),(.cells (Dk.write (Dk.D.mk a0n a0b a0p a0w a0o a0l) a1 a2).1.blk.length (.rI .u8 (Dk.write (Dk.D.mk a0n a0b a0p a0w a0o a0l) a1 a2).1.blk) true),(pB (Dk.write (Dk.D.mk a0n a0b a0p a0w a0o a0l) a1 a2).1.pend),(wB (Dk.write (Dk.D.mk a0n a0b a0p a0w a0o a0l) a1 a2).1.worn)])
 | _,_=>none
theorem s32(a0n:Nat)(a0b:Li)(a0p a0w:Lp)(a0o:Bool)(a0l a1:Int)(a2:Li)(h1:okV (.int .i64 a1))(h2:okV (.str a2))(k0:okB (dB 1 a0n 2 3 a0o a0l))(k1:okB (bB a0b))(k2:okB (pB a0p))(k3:okB (wB a0w)):∃ F,f32 F (a0n,a0b,a0p,a0w,a0o,a0l,a1,a2)=some ((.int .i64 (Dk.write (Dk.D.mk a0n a0b a0p a0w a0o a0l) a1 a2).2),[(dE 1 (Dk.write (Dk.D.mk a0n a0b a0p a0w a0o a0l) a1 a2).1 2 3),(.cells (Dk.write (Dk.D.mk a0n a0b a0p a0w a0o a0l) a1 a2).1.blk.length (.rI .u8 (Dk.write (Dk.D.mk a0n a0b a0p a0w a0o a0l) a1 a2).1.blk) true),(pB (Dk.write (Dk.D.mk a0n a0b a0p a0w a0o a0l) a1 a2).1.pend),(wB (Dk.write (Dk.D.mk a0n a0b a0p a0w a0o a0l) a1 a2).1.worn)]):=by
 refine⟨0,?_⟩
 simp only [f32,aDD,Dk.write]
 cases hc:(Dk.check (Dk.D.mk a0n a0b a0p a0w a0o a0l) a1 != 0)
 ·cases hl:((a2.length:Int) != 64)
  ·cases hs:((Dk.step (Dk.D.mk a0n a0b a0p a0w a0o a0l)).2 != 0)
   ·have e:decide (64≤a2.length)=true:=by
     rw [decide_eq_true_iff]
     have:(a2.length:Int)=64:=by simpa using hl
     omega
    rw [e];rfl
   ·rfl
  ·rfl
 ·rfl
theorem c32:Ck 32 r32:=ck bcv Tryz.func32 (by
 intro X H r H' h hX hH
 unfold r32 at h;split at h <;> try contradiction
 ·obtain⟨hp,rfl,rfl⟩:=ik h
  obtain rfl:=bh (hH _ hm1) rfl
  obtain⟨F,hF⟩:=s32 _ _ _ _ _ _ _ _ (hX _ hm1) (hX _ hm2) (hH _ hm0) (hH _ hm1) (hH _ hm2) (hH _ hm3)
  exact⟨_,abC (aSG F) hF⟩)
def bcy:List hI:=[]
def V27:Env:=dL fP dM bcy
noncomputable abbrev bcz:=ij V27 none (Tryz.f27).results.toList
theorem bcA:EOk Tryz.prog V27:=bL (by exact trivial)
def bcB(F:Nat):Cuts:={ F:=F,at_:=fun _=>none,join:=fun _=>none }
abbrev bcC(F n:Nat){σ:Type}(e:σ→St)(K:Ex→St→Rz)(N:σ→Rz):=Qe V27 (bcB F) (bp Tryz.f27 n) e K N
def a8E:aoy→St:=fun (a,b,c,d,e,f,g,h)=>hS [pS 0 0 5,iS 1 g,iS 2 h] [dB 1 a 2 3 e f,bB b,pB c,wB d] 42 4
def aDE(F:Nat):aoy→Rz:=fun (b,d,e,f,g,h,c,a)=>(cond (decide (c < (0:Int))) (some ((.int .i64 1),[(dB 1 b 2 3 g h),(bB d),(pB e),(wB f)])) (cond (decide (c≥(↑b:Int))) (some ((.int .i64 1),[(dB 1 b 2 3 g h),(bB d),(pB e),(wB f)])) (cond (decide (a < (0:Int))) (some ((.int .i64 1),[(dB 1 b 2 3 g h),(bB d),(pB e),(wB f)])) (cond (decide (a≥(512:Int))) (some ((.int .i64 1),[(dB 1 b 2 3 g h),(bB d),(pB e),(wB f)])) (cond ((decide (0≤c))&&(decide (c < (↑b:Int)))) (cond ((decide (0≤(IntKind.i64.wrap (Int.tdiv a (8:Int)))))&&(decide ((IntKind.i64.wrap (Int.tdiv a (8:Int))) < (64:Int)))) (cond (decide (0≤(Int.tmod a (8:Int)))) (cond ((decide (0≤c))&&(decide (c < (↑b:Int)))) (cond ((decide (0≤(IntKind.i64.wrap (Int.tdiv a (8:Int)))))&&(decide ((IntKind.i64.wrap (Int.tdiv a (8:Int))) < (64:Int)))) (some ((.int .i64 0),[(dB 1 b 2 3 g h),(.cells d.length (.rI .u8 (d.set ((Int.toNat (IntKind.i64.wrap (Int.tdiv a (8:Int))))+((Int.toNat c)*64)) (bK .xor .u8 (d.getD ((Int.toNat (IntKind.i64.wrap (Int.tdiv a (8:Int))))+((Int.toNat c)*64)) 0) (IntKind.u8.wrap ((1:Int)*2^(min (Int.toNat (Int.tmod a (8:Int))) 8)))))) true),(pB e),(wB f)])) none) none) none) none) none)))))
theorem aSH F:bcC F 1 a8E bcz (aDE F):=fun _=>by kernel_rfl
def f27(F:Nat):aoy→Rz:=aDE F
def r27:eP:=fun X H=>match X,H with
 | [(.ptr 0 0 5 0 0 0 5),.int .i64 a1,.int .i64 a2],[(.cells 5 (.segs (.cons 1 (.one (.own 1 a0n 64)) (.cons 1 (.one (.mp 2)) (.cons 1 (.one (.mp 3)) (.cons 1 (.one (.bool a0o)) (.cons 1 (.one (.int .i64 a0l)) .nil)))))) true),(.cells z1 (.rI .u8 a0b) true),(.cells 0 (.rM .i64 0 (.arr .u8 64) a0p) true),(.cells 0 (.rM .i64 0 .bool a0w) true)]=>some (true,(.int .i64 (Dk.rot (Dk.D.mk a0n a0b a0p a0w a0o a0l) a1 a2).2),[(dE 1 (Dk.rot (Dk.D.mk a0n a0b a0p a0w a0o a0l) a1 a2).1 2 3),(.cells (Dk.rot (Dk.D.mk a0n a0b a0p a0w a0o a0l) a1 a2).1.blk.length (.rI .u8 (Dk.rot (Dk.D.mk a0n a0b a0p a0w a0o a0l) a1 a2).1.blk) true),(pB (Dk.rot (Dk.D.mk a0n a0b a0p a0w a0o a0l) a1 a2).1.pend),(wB (Dk.rot (Dk.D.mk a0n a0b a0p a0w a0o a0l) a1 a2).1.worn)])
 | _,_=>none
theorem s27(a0n:Nat)(a0b:Li)(a0p a0w:Lp)(a0o:Bool)(a0l a1 a2:Int)(h1:okV (.int .i64 a1))(h2:okV (.int .i64 a2))(k0:okB (dB 1 a0n 2 3 a0o a0l))(k1:okB (bB a0b))(k2:okB (pB a0p))(k3:okB (wB a0w)):∃ F,f27 F (a0n,a0b,a0p,a0w,a0o,a0l,a1,a2)=some ((.int .i64 (Dk.rot (Dk.D.mk a0n a0b a0p a0w a0o a0l) a1 a2).2),[(dE 1 (Dk.rot (Dk.D.mk a0n a0b a0p a0w a0o a0l) a1 a2).1 2 3),(.cells (Dk.rot (Dk.D.mk a0n a0b a0p a0w a0o a0l) a1 a2).1.blk.length (.rI .u8 (Dk.rot (Dk.D.mk a0n a0b a0p a0w a0o a0l) a1 a2).1.blk) true),(pB (Dk.rot (Dk.D.mk a0n a0b a0p a0w a0o a0l) a1 a2).1.pend),(wB (Dk.rot (Dk.D.mk a0n a0b a0p a0w a0o a0l) a1 a2).1.worn)]):=by
 refine⟨0,?_⟩
 simp only [f27,aDE,Dk.rot]
 by_cases h1:a1 < 0
 ·simp only [aK h1]
 ·by_cases h2:a1≥(a0n:Int)
  ·simp only [ba h1,aK h2]
  ·by_cases h3:a2 < 0
   ·simp only [ba h1,ba h2,aK h3]
   ·by_cases h4:a2≥512
    ·simp only [ba h1,ba h2,ba h3,aK h4]
    ·have e8:Int.tdiv a2 8=a2 / 8:=Kx (by omega)
     have ew:IntKind.i64.wrap (Int.tdiv a2 8)=Int.tdiv a2 8:=bM (by omega) (by omega)
     have em:0≤Int.tmod a2 8:=by rw [JY (by omega)];omega
     have ec:(decide (0≤a1)&&decide (a1 < (a0n:Int)))=true:=by simp;omega
     have ed:(decide (0≤Int.tdiv a2 8)&&decide (Int.tdiv a2 8 < 64))=true:=by rw [cH,decide_eq_true_iff];omega
     simp only [ba h1,ba h2,ba h3,ba h4,ew,ec,ed,aK em,cond_true,Dk.place,Dk.bit,List.length_set]
theorem c27:Ck 27 r27:=ck bcA Tryz.func27 (by
 intro X H r H' h hX hH
 unfold r27 at h;split at h <;> try contradiction
 ·obtain⟨hp,rfl,rfl⟩:=ik h
  obtain rfl:=bh (hH _ hm1) rfl
  obtain⟨F,hF⟩:=s27 _ _ _ _ _ _ _ _ (hX _ hm1) (hX _ hm2) (hH _ hm0) (hH _ hm1) (hH _ hm2) (hH _ hm3)
  exact⟨_,abC (aSH F) hF⟩)
def bcD:List hI:=[]
def V29:Env:=dL fP dM bcD
noncomputable abbrev bcE:=ij V29 none (Tryz.f29).results.toList
theorem bcF:EOk Tryz.prog V29:=bL (by exact trivial)
def bcG(F:Nat):Cuts:={ F:=F,at_:=fun _=>none,join:=fun _=>none }
abbrev bcH(F n:Nat){σ:Type}(e:σ→St)(K:Ex→St→Rz)(N:σ→Rz):=Qe V29 (bcG F) (bp Tryz.f29 n) e K N
def a8F:VP→St:=fun (a,b,c,d,e,f,g)=>hS [pS 0 0 5,iS 1 g] [dB 1 a 2 3 e f,bB b,pB c,wB d] 21 4
def aDF(F:Nat):VP→Rz:=fun (a,b,c,d,e,f,g)=>(cond (decide (g < (0:Int))) (some ((.int .i64 1),[(dB 1 a 2 3 e f),(bB b),(pB c),(wB d)])) (cond (decide (g≥(↑a:Int))) (some ((.int .i64 1),[(dB 1 a 2 3 e f),(bB b),(pB c),(wB d)])) (some ((.int .i64 0),[(dB 1 a 2 3 e f),(bB b),(pB c),(wB (u9 d [g] [(cond true 1 0)]))]))))
theorem aSI F:bcH F 1 a8F bcE (aDF F):=fun _=>by kernel_rfl
def f29(F:Nat):VP→Rz:=aDF F
def r29:eP:=fun X H=>match X,H with
 | [(.ptr 0 0 5 0 0 0 5),.int .i64 a1],[(.cells 5 (.segs (.cons 1 (.one (.own 1 a0n 64)) (.cons 1 (.one (.mp 2)) (.cons 1 (.one (.mp 3)) (.cons 1 (.one (.bool a0o)) (.cons 1 (.one (.int .i64 a0l)) .nil)))))) true),(.cells z1 (.rI .u8 a0b) true),(.cells 0 (.rM .i64 0 (.arr .u8 64) a0p) true),(.cells 0 (.rM .i64 0 .bool a0w) true)]=>some (true,(.int .i64 (Dk.wear (Dk.D.mk a0n a0b a0p a0w a0o a0l) a1).2),[(dE 1 (Dk.wear (Dk.D.mk a0n a0b a0p a0w a0o a0l) a1).1 2 3),(.cells (Dk.wear (Dk.D.mk a0n a0b a0p a0w a0o a0l) a1).1.blk.length (.rI .u8 (Dk.wear (Dk.D.mk a0n a0b a0p a0w a0o a0l) a1).1.blk) true),(pB (Dk.wear (Dk.D.mk a0n a0b a0p a0w a0o a0l) a1).1.pend),(wB (Dk.wear (Dk.D.mk a0n a0b a0p a0w a0o a0l) a1).1.worn)])
 | _,_=>none
theorem s29(a0n:Nat)(a0b:Li)(a0p a0w:Lp)(a0o:Bool)(a0l a1:Int)(h1:okV (.int .i64 a1))(k0:okB (dB 1 a0n 2 3 a0o a0l))(k1:okB (bB a0b))(k2:okB (pB a0p))(k3:okB (wB a0w)):∃ F,f29 F (a0n,a0b,a0p,a0w,a0o,a0l,a1)=some ((.int .i64 (Dk.wear (Dk.D.mk a0n a0b a0p a0w a0o a0l) a1).2),[(dE 1 (Dk.wear (Dk.D.mk a0n a0b a0p a0w a0o a0l) a1).1 2 3),(.cells (Dk.wear (Dk.D.mk a0n a0b a0p a0w a0o a0l) a1).1.blk.length (.rI .u8 (Dk.wear (Dk.D.mk a0n a0b a0p a0w a0o a0l) a1).1.blk) true),(pB (Dk.wear (Dk.D.mk a0n a0b a0p a0w a0o a0l) a1).1.pend),(wB (Dk.wear (Dk.D.mk a0n a0b a0p a0w a0o a0l) a1).1.worn)]):=by
 refine⟨0,?_⟩
 simp only [f29,aDF,Dk.wear]
 cases (decide (a1 < 0))
 ·cases (decide (a1≥(a0n:Int))) <;> rfl
 ·rfl
theorem c29:Ck 29 r29:=ck bcF Tryz.func29 (by
 intro X H r H' h hX hH
 unfold r29 at h;split at h <;> try contradiction
 ·obtain⟨hp,rfl,rfl⟩:=ik h
  obtain rfl:=bh (hH _ hm1) rfl
  obtain⟨F,hF⟩:=s29 _ _ _ _ _ _ _ (hX _ hm1) (hH _ hm0) (hH _ hm1) (hH _ hm2) (hH _ hm3)
  exact⟨_,abC (aSI F) hF⟩)
def bcI:List hI:=[(50,[none],r50),(51,[none,none,none],r51),(64,[none,none],r64),(65,[none],r65)]
def V79:Env:=dL fP dM bcI
noncomputable abbrev Qo:=ij V79 none (Tryz.f79).results.toList
theorem bcJ:EOk Tryz.prog V79:=bL (by exact⟨c50,c51,c64,c65,trivial⟩)
def bcK(F:Nat):Cuts:={ F:=F,at_:=fun n=>match n with | 8012=>some aDx | _=>none,join:=fun n=>match n with | 1040=>some [(0,.plain)] | 4030=>some [(0,.plain)] | 7020=>some [(0,.plain)] | 8014=>some aDx | 12003=>some [] | _=>none }
abbrev Qp(F n:Nat){σ:Type}(e:σ→St)(K:Ex→St→Rz)(N:σ→Rz):=Qe V79 (bcK F) (bp Tryz.f79 n) e K N
def aJS:Ep→St:=fun (a,b,c,d,e,f)=>hS [pS 0 0 5] [dB 1 a 2 3 e f,bB b,pB c,wB d] 28 4
def ag9:(Dk.D)→St:=fun a=>hS [pS 0 0 5] [dE 1 a 2 3,bB a.blk,pB a.pend,wB a.worn] 28 4
def avA:(Dk.D)→St:=ag9
def aly:(Dk.D)→St:=ag9
def alz:ajl→St:=fun (b,c,d,a)=>hS [pS 0 0 5,lS 18 b,iS 19 c,iS 20 d] [dE 1 a 2 3,bB a.blk,pB a.pend,wB a.worn] 28 4
def aJT:ajl→St:=alz
def Vr:(Dk.D)→St:=fun a=>hS [] [dE 1 a 2 3,bB a.blk,pB a.pend,wB a.worn] 28 4
def aqE(F:Nat)(a:(Dk.D)→Rz):Ep→Rz:=fun (b,c,d,e,f,g)=>(a (Dk.D.mk b c d e f g))
theorem aSJ F Rj1:Qp F 2 aJS (kq V79 Rj1 [(0,.plain)] Qo) (aqE F (Rj1∘ag9)):=fun _=>by kernel_rfl
def aqF(F:Nat)(b:(Dk.D)→Rz):(Dk.D)→Rz:=fun a=>(cond ((Dk.check a (0:Int)) != (0:Int)) (some ((.int .i64 (Dk.check a (0:Int))),[(dE 1 a 2 3),(bB a.blk),(pB a.pend),(wB a.worn)])) (b a))
theorem aSK F Rj2:Qp F 6 ag9 (kq V79 Rj2 [(0,.plain)] Qo) (aqF F (Rj2∘avA)):=fun _=>by kernel_rfl
def aqG(F:Nat)(b:(Dk.D)→Rz):(Dk.D)→Rz:=fun a=>(cond ((Dk.step a).2 != (0:Int)) (some ((.int .i64 (Dk.step a).2),[(dE 1 (Dk.step a).1 2 3),(.cells (Dk.step a).1.blk.length (.rI .u8 (Dk.step a).1.blk) true),(pB (Dk.step a).1.pend),(wB (Dk.step a).1.worn)])) (b (Dk.step a).1))
theorem aSL F Rj3:Qp F 14 avA (kq V79 Rj3 [(0,.plain)] Qo) (aqG F (Rj3∘aly)):=fun _=>by kernel_rfl
def aqH(F:Nat)(b:ajl→Rz)(c:(Dk.D)→Rz):(Dk.D)→Rz:=fun a=>(cond (decide (a.pend.length < 1073741824)) (b ((Dk.pending a),(↑(Dk.pending a).length:Int),(0:Int),a)) none)
theorem aSM F Rj4 Rj5:Qp F 60 aly (kq V79 Rj4 aDx (kq V79 Rj5 [] Qo)) (aqH F (Rj4∘alz) (Rj5∘Vr)):=fun _=>by kernel_rfl
def alA(F:Nat)(e:ajl→Rz)(f:(Dk.D)→Rz):ajl→Rz:=fun (c,d,a,b)=>(cond (decide (a < d)) (cond ((decide (0≤a))&&(decide (a < (↑c.length:Int)))) (cond ((Dk.inD b (c.getD (Int.toNat a) 0))&&(decide (b.blk.length=b.n*64))) (e (c,d,(IntKind.i64.wrap (a+(1:Int))),(Dk.settle b (c.getD (Int.toNat a) 0) (64:Int)))) none) none) (f b))
theorem aSN F Rl1 Rj5:Qp F 244 aJT (kq V79 Rl1 aDx (aV 0 (kq V79 Rj5 [] Qo))) (alA F (Rl1∘aJT) (Rj5∘Vr)):=fun _=>by kernel_rfl
def aoz:ajl→Li×Int×Int×(Dk.D):=fun (a,b,c,d)=>(a,b,c,d)
def aDG(F:Nat)(a:(Dk.D)→Rz):ajl→Rz:=fun v=>eT (fun k=>alA F k a) F (aoz v)
theorem aSO F Rj5:Qp F 122 alz (aV 0 (kq V79 Rj5 [] Qo)) (aDG F (Rj5∘Vr)):=lpC aoz (fun k=>alA F k (Rj5∘Vr)) (fun Rl1=>aSN F Rl1 Rj5)
def aDH(F:Nat)(a):=aDG F a
theorem aSP F Rj5:Qp F 61 alz (kq V79 Rj5 [] Qo) (aDH F (Rj5∘Vr)):=biC (aSO F Rj5)
def aqI(F:Nat)(a):=aqH F (aDH F a) a
theorem aSQ F Rj5:Qp F 30 aly (kq V79 Rj5 [] Qo) (aqI F (Rj5∘Vr)):=sqC (fun k=>aqH F k (Rj5∘Vr)) (fun Rj4=>aSM F Rj4 Rj5) (aSP F Rj5)
def aYP(F:Nat):(Dk.D)→Rz:=fun a=>(some ((.int .i64 0),[(dE 1 a 2 3),(bB a.blk),(pB a.pend),(wB a.worn)]))
theorem aSR F:Qp F 31 Vr Qo (aYP F):=fun _=>by kernel_rfl
def avB(F:Nat):=aqI F (aYP F)
theorem aJU F:Qp F 15 aly Qo (avB F):=sqC (aqI F) (fun Rj5=>aSQ F Rj5) (aSR F)
def avC(F:Nat):=aqG F (avB F)
theorem aJV F:Qp F 7 avA Qo (avC F):=sqC (aqG F) (fun Rj3=>aSL F Rj3) (aJU F)
def avD(F:Nat):=aqF F (avC F)
theorem aJW F:Qp F 3 ag9 Qo (avD F):=sqC (aqF F) (fun Rj2=>aSK F Rj2) (aJV F)
def avE(F:Nat):=aqE F (avD F)
theorem aJX F:Qp F 1 aJS Qo (avE F):=sqC (aqE F) (fun Rj1=>aSJ F Rj1) (aJW F)
def f79(F:Nat):Ep→Rz:=avE F
def r79:eP:=fun X H=>match X,H with
 | [(.ptr 0 0 5 0 0 0 5)],[(.cells 5 (.segs (.cons 1 (.one (.own 1 a0n 64)) (.cons 1 (.one (.mp 2)) (.cons 1 (.one (.mp 3)) (.cons 1 (.one (.bool a0o)) (.cons 1 (.one (.int .i64 a0l)) .nil)))))) true),(.cells z1 (.rI .u8 a0b) true),(.cells 0 (.rM .i64 0 (.arr .u8 64) a0p) true),(.cells 0 (.rM .i64 0 .bool a0w) true)]=>some ((Dk.fine (Dk.D.mk a0n a0b a0p a0w a0o a0l)),(.int .i64 (Dk.flush (Dk.D.mk a0n a0b a0p a0w a0o a0l)).2),[(dE 1 (Dk.flush (Dk.D.mk a0n a0b a0p a0w a0o a0l)).1 2 3),(.cells (Dk.flush (Dk.D.mk a0n a0b a0p a0w a0o a0l)).1.blk.length (.rI .u8 (Dk.flush (Dk.D.mk a0n a0b a0p a0w a0o a0l)).1.blk) true),(pB (Dk.flush (Dk.D.mk a0n a0b a0p a0w a0o a0l)).1.pend),(wB (Dk.flush (Dk.D.mk a0n a0b a0p a0w a0o a0l)).1.worn)])
 | _,_=>none
theorem s79(a0n:Nat)(a0b:Li)(a0p a0w:Lp)(a0o:Bool)(a0l:Int)(hp:((Dk.fine (Dk.D.mk a0n a0b a0p a0w a0o a0l)))=true)(k0:okB (dB 1 a0n 2 3 a0o a0l))(k1:okB (bB a0b))(k2:okB (pB a0p))(k3:okB (wB a0w)):∃ F,f79 F (a0n,a0b,a0p,a0w,a0o,a0l)=some ((.int .i64 (Dk.flush (Dk.D.mk a0n a0b a0p a0w a0o a0l)).2),[(dE 1 (Dk.flush (Dk.D.mk a0n a0b a0p a0w a0o a0l)).1 2 3),(.cells (Dk.flush (Dk.D.mk a0n a0b a0p a0w a0o a0l)).1.blk.length (.rI .u8 (Dk.flush (Dk.D.mk a0n a0b a0p a0w a0o a0l)).1.blk) true),(pB (Dk.flush (Dk.D.mk a0n a0b a0p a0w a0o a0l)).1.pend),(wB (Dk.flush (Dk.D.mk a0n a0b a0p a0w a0o a0l)).1.worn)]):=by
 obtain⟨⟨hn,hl,hpl,hwl⟩,hin⟩:=Dk.fine_iff hp
 have hok0:Dk.Ok (Dk.D.mk a0n a0b a0p a0w a0o a0l):=⟨hl,Dk.vals64 k2⟩
 revert hin hok0 hp
 generalize hd:Dk.D.mk a0n a0b a0p a0w a0o a0l=d
 intro hp hin0 hok0
 have hpl':d.pend.length < 8000:=by rw [← hd];exact hpl
 refine⟨d.pend.length+1,?_⟩
 simp only [f79,avE,aqE,avD,aqF,avC,aqG,avB,aqI,aqH,aDH,aDG,aoz,hd]
 by_cases hc:Dk.check d 0=0
 ·have ec:(Dk.check d 0 != 0)=false:=by simp [hc]
  simp only [ec,cond_false]
  by_cases hs:(Dk.step d).2=0
  ·have es:((Dk.step d).2 != 0)=false:=by simp [hs]
   simp only [es,cond_false]
   obtain⟨s1,s2,s3,s4⟩:=Dk.step_same d
   have hpe:Dk.pending (Dk.step d).1=Dk.pending d:=by simp only [Dk.pending,s3]
   have hin:∀ i∈Dk.pending (Dk.step d).1,Dk.inD (Dk.step d).1 i=true:=fun i hi=>by rw [Dk.inD_n s1];exact hin0 i (by rw [← hpe];exact hi)
   have hok:Dk.Ok (Dk.step d).1:=⟨by rw [s2,s1];exact hok0.len,by rw [s3];exact hok0.vals⟩
   have hlen:=Dk.pending_len (Dk.step d).1
   have ef:Dk.flush d=((Dk.pending (Dk.step d).1).foldl (fun e i=>Dk.settle e i 64) (Dk.step d).1,0):=by
    simp only [Dk.flush,ec,es,cond_false,hpe]
   rw [ef]
   have hpl2:(Dk.step d).1.pend.length < 8000:=by rw [s3];exact hpl'
   generalize (Dk.step d).1=e at hin hok hlen s3 hpl2
   rw [aK (show e.pend.length < 1073741824 by omega),← s3]
   refine iR (fun k=>(Dk.pending e,((Dk.pending e).length:Int),(k:Int),Dk.flushK (Dk.pending e) k e)) e.pend.length (by rfl) (fun k hk K=>?_) (fun K=>?_) (e.pend.length+1) (by omega)
   ·have hk':k < (Dk.pending e).length:=by omega
    obtain⟨q1,q2⟩:=Dk.flushK_ok hok hin k (by omega)
    have e1:(decide (0≤(k:Int))&&decide ((k:Int) < ((Dk.pending e).length:Int)))=true:=by rw [cH,decide_eq_true_iff];omega
    have e2:(Dk.inD (Dk.flushK (Dk.pending e) k e) ((Dk.pending e).getD k 0)&&decide ((Dk.flushK (Dk.pending e) k e).blk.length=(Dk.flushK (Dk.pending e) k e).n*64))=true:=by
     rw [Dk.inD_n q2,hin _ (Dk.mem_at hk')];simp [q1.len]
    simp only [alA,Int.toNat_natCast,e1,e2,cond_true,bM (show -9223372036854775808≤(k:Int)+1 by omega) (by omega)]
    rw [aK (show(k:Int) < ((Dk.pending e).length:Int) by omega),Dk.flushK_succ hk']
    rfl
   ·simp only [alA]
    rw [ba (show ¬ ((e.pend.length:Nat):Int) < ((Dk.pending e).length:Int) by omega)]
    have e0:Dk.flushK (Dk.pending e) e.pend.length e=(Dk.pending e).foldl (fun e i=>Dk.settle e i 64) e:=by rw [← hlen];simp [Dk.flushK]
    rw [e0]
    rfl
  ·have es:((Dk.step d).2 != 0)=true:=by simp [hs]
   have ef:Dk.flush d=Dk.step d:=by simp only [Dk.flush,ec,es,cond_false,cond_true]
   simp only [es,cond_true,ef]
 ·have ec:(Dk.check d 0 != 0)=true:=by simp [hc]
  have ef:Dk.flush d=(d,Dk.check d 0):=by simp only [Dk.flush,ec,cond_true]
  simp only [ec,cond_true,ef]
  subst hd;rfl
theorem c79:Ck 79 r79:=ck bcJ Tryz.func79 (by
 intro X H r H' h hX hH
 unfold r79 at h;split at h <;> try contradiction
 ·obtain⟨hp,rfl,rfl⟩:=ik h
  obtain rfl:=bh (hH _ hm1) rfl
  obtain⟨F,hF⟩:=s79 _ _ _ _ _ _ hp (hH _ hm0) (hH _ hm1) (hH _ hm2) (hH _ hm3)
  exact⟨_,abC (aJX F) hF⟩)
def bcL:List hI:=[]
def V20:Env:=dL fP dM bcL
noncomputable abbrev bcM:=ij V20 none (Tryz.f20).results.toList
theorem bcN:EOk Tryz.prog V20:=bL (by exact trivial)
def bcO(F:Nat):Cuts:={ F:=F,at_:=fun _=>none,join:=fun _=>none }
abbrev bcP(F n:Nat){σ:Type}(e:σ→St)(K:Ex→St→Rz)(N:σ→Rz):=Qe V20 (bcO F) (bp Tryz.f20 n) e K N
def aJY:Int→St:=fun a=>hS [iS 0 a] [] 16 0
def aDI(F:Nat):Int→Rz:=fun a=>(cond (decide (a < (1:Int))) (some ((.tup (.cons 0 .nilp (.cons 0 (.int .i64 1) .nil))),[])) (cond (decide (a > (4096:Int))) (some ((.tup (.cons 0 .nilp (.cons 0 (.int .i64 1) .nil))),[])) (cond (((decide (0≤a))&&(decide (a≤a)))&&(decide (a < 1073741824))) (some ((.tup (.cons 0 (.ptr 0 0 5 0 0 0 5) (.cons 0 (.int .i64 0) .nil))),[(dB 1 (Int.toNat a) 2 3 false (-1:Int)),(.cells ((Int.toNat a)*64) (.rI .u8 (List.replicate ((Int.toNat a)*64) 0)) true),(pB []),(wB [])])) none)))
theorem aSS F:bcP F 1 aJY bcM (aDI F):=fun _=>by kernel_rfl
def f20(F:Nat):Int→Rz:=aDI F
def r20:eP:=fun X H=>match X,H with
 | [(.int .i64 a0)],[]=>some ((decide (0 < a0))&&(decide (a0 < 4097)),(.tup (.cons 0 (.ptr 0 0 5 0 0 0 5) (.cons 0 (.int .i64 0) .nil))),[(dE 1 (Dk.new a0) 2 3),(.cells (Dk.new a0).blk.length (.rI .u8 (Dk.new a0).blk) true),(pB (Dk.new a0).pend),(wB (Dk.new a0).worn)])
 | _,_=>none
theorem s20(a0:Int)(hp:((decide (0 < a0))&&(decide (a0 < 4097)))=true)(h0:okV (.int .i64 a0)):∃ F,f20 F a0=some ((.tup (.cons 0 (.ptr 0 0 5 0 0 0 5) (.cons 0 (.int .i64 0) .nil))),[(dE 1 (Dk.new a0) 2 3),(.cells (Dk.new a0).blk.length (.rI .u8 (Dk.new a0).blk) true),(pB (Dk.new a0).pend),(wB (Dk.new a0).worn)]):=by
 refine⟨0,?_⟩
 rw [cH,decide_eq_true_iff] at hp
 have e:((decide (0≤a0)&&decide (a0≤a0))&&decide (a0 < 1073741824))=true:=by simp;omega
 simp only [f20,aDI,e,cond_true]
 rw [ba (show ¬ a0 < 1 by omega),ba (show ¬ a0 > 4096 by omega)]
 simp only [Dk.new,List.length_replicate]
theorem c20:Ck 20 r20:=ck bcN Tryz.func20 (by
 intro X H r H' h hX hH
 unfold r20 at h;split at h <;> try contradiction
 ·obtain⟨hp,rfl,rfl⟩:=ik h
  obtain⟨F,hF⟩:=s20 _ hp (hX _ hm0)
  exact⟨_,abC (aSS F) hF⟩)
def bag:List hI:=[]
def aST:Env:=dL fP dM bag
noncomputable abbrev bcQ:=ij aST none (Tryz.f20).results.toList
theorem bah:EOk Tryz.prog aST:=bL (by exact trivial)
def bai(F:Nat):Cuts:={ F:=F,at_:=fun _=>none,join:=fun _=>none }
abbrev baj(F n:Nat){σ:Type}(e:σ→St)(K:Ex→St→Rz)(N:σ→Rz):=Qe aST (bai F) (bp Tryz.f20 n) e K N
def a7q:Int→St:=aJY
def avF(F:Nat):Int→Rz:=fun a=>(cond (decide (a < (1:Int))) (some ((.tup (.cons 0 .nilp (.cons 0 (.int .i64 1) .nil))),[])) (cond (decide (a > (4096:Int))) (some ((.tup (.cons 0 .nilp (.cons 0 (.int .i64 1) .nil))),[])) (cond (((decide (0≤a))&&(decide (a≤a)))&&(decide (a < 1073741824))) (some ((.tup (.cons 0 (.ptr 0 0 5 0 0 0 5) (.cons 0 (.int .i64 0) .nil))),[(dB 1 (Int.toNat a) 2 3 false (-1:Int)),(.cells ((Int.toNat a)*64) (.rI .u8 (List.replicate ((Int.toNat a)*64) 0)) true),(pB []),(wB [])])) none)))
theorem aJZ F:baj F 1 a7q bcQ (avF F):=fun _=>by kernel_rfl
def a8G(F:Nat):Int→Rz:=avF F
def aSU:eP:=fun X H=>match X,H with
 | [(.int .i64 a0)],[]=>some ((!((decide (0 < a0))&&(decide (a0 < 4097)))),(.tup (.cons 0 .nilp (.cons 0 (.int .i64 1) .nil))),[])
 | _,_=>none
theorem bcR(a0:Int)(hp:((!((decide (0 < a0))&&(decide (a0 < 4097)))))=true)(h0:okV (.int .i64 a0)):∃ F,a8G F a0=some ((.tup (.cons 0 .nilp (.cons 0 (.int .i64 1) .nil))),[]):=by
 refine⟨0,?_⟩
 rw [cH,aA1,decide_eq_true_iff] at hp
 simp only [a8G,avF]
 by_cases h:a0 < 1
 ·rw [aK h]
 ·rw [ba h,aK (show a0 > 4096 by omega)]
theorem c20i:Ck 20 aSU:=ck bah Tryz.func20 (by
 intro X H r H' h hX hH
 unfold aSU at h;split at h <;> try contradiction
 ·obtain⟨hp,rfl,rfl⟩:=ik h
  obtain⟨F,hF⟩:=bcR _ hp (hX _ hm0)
  exact⟨_,abC (aJZ F) hF⟩)
end Go.Am
end
section
/- What Flush and Mount make of the specification's disk; what stays of what was written. -/
namespace Go.Dk
open Go Go.Am
theorem J9(r:R):∀ k,(rflushK r k).s.length=r.s.length∧(rflushK r k).off=r.off∧(rflushK r k).left=r.left
 | 0=>⟨rfl,rfl,rfl⟩
 | k+1=>by
  obtain⟨h1,h2,h3⟩:=J9 r k
  rw [rflushK_succ]
  cases fD ((rflushK r k).at k)
  ·exact⟨h1,h2,h3⟩
  ·exact⟨by rw [cond_true,QA,h1],h2,h3⟩
theorem YS(r:R)(j:Nat)(hj:j < r.s.length):∀ k,k≤r.s.length→(rflushK r k).s.getD j []=if j < k∧fD (r.s.getD j [])=true then settled (r.s.getD j []) 64 else r.s.getD j []
 | 0,_=>by rw [if_neg (by omega)];rfl
 | k+1,hk=>by
  have ih:=YS r j hj k (by omega)
  have hl:=(J9 r k).1
  rw [rflushK_succ]
  by_cases hjk:j=k
  ·subst hjk
   rw [if_neg (by omega)] at ih
   have e:fD ((rflushK r j).at (j:Int))=fD (r.s.getD j []):=by rw [R.at,Int.toNat_natCast,ih]
   rw [e]
   cases hd:fD (r.s.getD j [])
   ·rw [if_neg (by simp),cond_false,ih]
   ·rw [if_pos ⟨by omega,rfl⟩,cond_true,Ae _ _ (by omega),if_pos rfl,ih]
  ·have e:(j < k+1∧fD (r.s.getD j [])=true)=(j < k∧fD (r.s.getD j [])=true):=by
    apply propext;constructor <;> rintro⟨h1,h2⟩ <;> exact⟨by omega,h2⟩
   simp only [e]
   rw [← ih]
   cases fD ((rflushK r k).at (k:Int))
   ·rfl
   ·rw [cond_true,Ae _ _ (by omega),if_neg (Ne.symm hjk)]
def V(x:List Li):List Int:=if fD x=true then fN x else fT x
theorem a7r:clamp 64=64:=by decide
theorem apI{x:List Li}(h:ald x)(hd:fD x=true)(hw:fW x=false):fT (settled x 64)=fN x:=by
 simp only [settled,fT,List.getD_cons_zero,hw,Bool.not_false,cond_true,a7r]
 rw [List.take_of_length_le (by rw [h.2 hd];exact Nat.le_refl _),List.drop_of_length_le,List.append_nil]
 have:=h.1
 simp only [fT] at this
 omega
structure Kept (r:R) (last:List Li):Prop where
 off:r.off=false
 left:r.left < 0
 worn:∀ i,i < r.s.length→fW (r.s.getD i [])=false
 len:last.length=r.s.length
 val:∀ i,i < r.s.length→last.getD i []=V (r.s.getD i [])
theorem W2{r:R}(h:r.left < 0):rstep r=(r,0):=by
 unfold rstep
 rw [show(r.left==0)=false by simp;omega,cond_false,ba (by omega)]
theorem Kept.flush{r:R}{last:List Li}(h:Kept r last)(hg:RGood r):(rflush r).2=0∧Kept (rflush r).1 last∧(∀ i,i < (rflush r).1.s.length→fD ((rflush r).1.s.getD i [])=false)∧rimage (rflush r).1=last:=by
 have e:rflush r=(rflushK r r.s.length,0):=by
  simp only [rflush,h.off,W2 h.left,cond_false,bne_self_eq_false]
 obtain⟨l1,l2,l3⟩:=J9 r r.s.length
 rw [e]
 have get:∀ i,i < r.s.length→(fT ((rflushK r r.s.length).s.getD i [])=V (r.s.getD i [])∧fD ((rflushK r r.s.length).s.getD i [])=false∧fW ((rflushK r r.s.length).s.getD i [])=false):=fun i hi=>by
  rw [YS r i hi _ (Nat.le_refl _)]
  by_cases hd:fD (r.s.getD i [])=true
  ·rw [if_pos ⟨hi,hd⟩,apI (hg.2 i hi) hd (h.worn i hi),V,if_pos hd]
   refine⟨rfl,rfl,?_⟩
   have:=h.worn i hi
   simp only [settled,fW,List.getD_cons_succ,List.getD_cons_zero] at this ⊢
   rw [this];rfl
  ·rw [if_neg (fun h=>hd h.2),V,if_neg hd]
   exact⟨rfl,by simpa using hd,h.worn i hi⟩
 refine⟨rfl,⟨by rw [l2];exact h.off,by rw [l3];exact h.left,fun i hi=>(get i (by rw [← l1];exact hi)).2.2,by rw [l1];exact h.len,fun i hi=>?_⟩,fun i hi=>(get i (by rw [← l1];exact hi)).2.1,?_⟩
 ·have hi':i < r.s.length:=by rw [← l1];exact hi
  rw [h.val i hi',V,V]
  simp only [(get i hi').2.1]
  rw [if_neg (by simp:¬ (false=true)),(get i hi').1,V]
 ·refine ahK [] (by simp [rimage,l1,h.len]) fun i hi=>?_
  simp only [rimage,List.length_map,l1] at hi
  rw [h.val i hi,← (get i hi).1]
  simp only [rimage,List.getD_eq_getElem?_getD,List.getElem?_map]
  rw [List.getElem?_eq_getElem (by rw [l1];exact hi)];rfl
theorem Kept.other{r:R}{last:List Li}(h:Kept r last)(hg:RGood r){k i b:Int}{t p:List Int}(h4:k≠4)(h5:k≠5)(h6:k≠6)(h7:k≠7)(h1:k≠1):Kept (rop r k i b t p).1 last:=by
 simp only [rop]
 rw [show(k==1)=false by simpa using h1,show(k==4)=false by simpa using h4,show(k==5)=false by simpa using h5,show(k==6)=false by simpa using h6,show(k==7)=false by simpa using h7]
 cases (k==2)
 ·cases (k==3)
  ·exact h
  ·exact(h.flush hg).2.1
 ·exact h
theorem Kept.write{r:R}{last:List Li}(h:Kept r last)(i:Int)(t:Li):
  ((rwrite r i t).2=0∧(0≤i∧i < (last.length:Int))∧Kept (rwrite r i t).1 (last.set i.toNat t))∨((rwrite r i t).2≠0∧Kept (rwrite r i t).1 last):=by
 simp only [rwrite,h.off,cond_false,W2 h.left,bne_self_eq_false]
 cases hi:ris r i
 ·exact .inr ⟨(by show(1:Int)≠0;decide),h⟩
 ·simp only [Bool.not_true,cond_false]
  cases hl:((t.length:Int) != 64)
  ·simp only [cond_false]
   have hr:=ris_iff.1 hi
   obtain⟨q,rfl⟩:∃ q:Nat,i=(q:Int):=⟨i.toNat,by omega⟩
   have hq:q < r.s.length:=by omega
   rw [Int.toNat_natCast]
   refine .inl ⟨trivial,⟨by omega,by rw [h.len];omega⟩,rfl,h.left,fun j hj=>?_,by simp only [List.length_set,wput];exact h.len,fun j hj=>?_⟩
   ·simp only [wput,List.length_set] at hj
    rw [EH t hq]
    by_cases hji:q=j
    ·subst hji
     rw [if_pos rfl]
     have:=h.worn q hj
     simp only [fW] at this ⊢
     rw [iV,if_neg (by decide),iV,if_neg (by decide)];exact this
    ·rw [if_neg hji];exact h.worn j hj
   ·simp only [wput,List.length_set] at hj
    rw [EH t hq,D9]
    by_cases hji:q=j
    ·subst hji
     rw [if_pos ⟨rfl,by rw [h.len];exact hj⟩,if_pos rfl,V]
     have e:fD (pu (pu (r.s.getD q []) 1 t) 2 [1])=true:=by simp only [fD];rw [iV,if_pos rfl];rfl
     rw [if_pos e];simp only [fN];rw [iV,if_neg (by decide),iV,if_pos rfl]
    ·rw [if_neg (fun h'=>hji h'.1),if_neg hji];exact h.val j hj
  ·exact .inr ⟨(by show(1:Int)≠0;decide),h⟩
end Go.Dk
end
section
/- Rot, twice. -/
namespace Go.Dk
open Go Go.Am
def Ad(l:Li):Prop:=∀ y∈l,0≤y∧y≤255
theorem Ad.app{a b:List Int}(h:Ad a)(h':Ad b):Ad (a++b):=fun y hy=>(List.mem_append.1 hy).elim (h y) (h' y)
theorem Ad.take{a:List Int}(h:Ad a)(n:Nat):Ad (a.take n):=fun y hy=>h y (List.mem_of_mem_take hy)
theorem Ad.drop{a:List Int}(h:Ad a)(n:Nat):Ad (a.drop n):=fun y hy=>h y (List.mem_of_mem_drop hy)
theorem Ad.set{a:List Int}(h:Ad a)(n:Nat){v:Int}(hv:0≤v∧v≤255):Ad (a.set n v):=fun y hy=>by
 rcases List.mem_or_eq_of_mem_set hy with h1 | h1
 ·exact h y h1
 ·rw [h1];exact hv
theorem Ad.getD{a:List Int}(h:Ad a)(n:Nat):0≤a.getD n 0∧a.getD n 0≤255:=by
 rw [List.getD_eq_getElem?_getD]
 by_cases hn:n < a.length
 ·rw [List.getElem?_eq_getElem hn];exact h _ (List.getElem_mem _)
 ·rw [List.getElem?_eq_none (by omega)];decide
theorem Ad.text{t:List Int}(h:Ad t):Ad (text t):=by
 unfold Dk.text
 cases decide (0 < t.length)
 ·exact h
 ·exact h.app fun y hy=>by rw [List.eq_of_mem_replicate hy];exact h.getD _
theorem aSV(x:Int):0≤IntKind.u8.wrap x∧IntKind.u8.wrap x≤255:=by rw [ahJ];omega
theorem aDJ(x y:Int):0≤bK .xor .u8 x y∧bK .xor .u8 x y≤255:=aSV _
def BX(x:List Li):Prop:=Ad (fT x)∧Ad (fN x)
def BR(r:R):Prop:=∀ i,BX (r.s.getD i [])
theorem BX.settled{x:List Li}(h:BX x)(p:Int):BX (settled x p):=by
 refine⟨?_,fun y hy=>by cases hy⟩
 simp only [Dk.settled,fT,List.getD_cons_zero]
 cases (!fW x)
 ·exact h.1
 ·exact(h.2.take _).app (h.1.drop _)
theorem BR.set{r:R}(h:BR r)(i:Nat){x:List Li}(hx:BX x):BR { r with s:=r.s.set i x }:=fun j=>by
 simp only [D9]
 split
 ·exact hx
 ·exact h j
theorem BX.put{x:List Li}(h:BX x)(c:Nat){f:List Int}(hf:Ad f):BX (pu x c f):=by
 refine⟨?_,?_⟩
 ·simp only [fT];rw [iV];split
  ·exact hf
  ·exact h.1
 ·simp only [fN];rw [iV];split
  ·exact hf
  ·exact h.2
theorem BR.same{r r':R}(h:BR r)(e:r'.s=r.s):BR r':=fun i=>by rw [e];exact h i
theorem BR.settle{r:R}(h:BR r)(i p:Int):BR (rsettle r i p):=h.set _ ((h _).settled p)
theorem BR.flushK{r:R}(h:BR r):∀ k,BR (rflushK r k)
 | 0=>h
 | k+1=>by
  have ih:=h.flushK k
  rw [rflushK_succ]
  cases fD ((rflushK r k).at k)
  ·exact ih
  ·exact ih.settle _ _
theorem BR.mountK{r:R}(h:BR r)(p:Li):∀ k,BR (rmountK p r k).1
 | 0=>h
 | k+1=>by
  have ih:=h.mountK p k
  rw [rmountK_succ]
  cases fD ((rmountK p r k).1.at k)
  ·exact ih
  ·exact ih.settle _ _
theorem apJ:Ad [1]:=fun y hy=>by rw [List.mem_singleton] at hy;rw [hy];decide
theorem BR.write{r:R}(h:BR r)(i:Int){t:List Int}(ht:Ad t):BR (rwrite r i t).1:=by
 have h1:BR (rstep r).1:=h.same (rstep_same r)
 simp only [rwrite]
 cases r.off
 ·cases (!ris r i)
  ·cases ((t.length:Int) != 64)
   ·cases ((rstep r).2 != 0)
    ·have h2:=h1.set i.toNat ((h1 i.toNat).put 1 ht)
     exact(h2.set i.toNat ((h2 i.toNat).put 2 apJ))
    ·exact h1
   ·exact h
  ·exact h
 ·exact h
theorem BR.op{r:R}(h:BR r)(k i b:Int){t:List Int}(p:Li)(ht:Ad t):BR (rop r k i b t p).1:=by
 simp only [rop]
 cases (k==1)
 ·cases (k==2)
  ·cases (k==3)
   ·cases (k==4)
    ·cases (k==5)
     ·cases (k==6)
      ·cases (k==7)
       ·exact h
       ·simp only [cond_true,cond_false,rwear]
        cases (!ris r i)
        ·exact h.set _ ((h i.toNat).put 3 apJ)
        ·exact h
      ·simp only [cond_true,cond_false,rrot]
       cases (!ris r i)
       ·cases decide (b < 0)
        ·cases decide (b > 511)
         ·exact h.set _ ((h i.toNat).put 0 ((h i.toNat).1.set _ (aDJ _ _)))
         ·exact h
        ·exact h
       ·exact h
     ·exact(h.mountK p r.s.length).same rfl
    ·exact h.same rfl
   ·simp only [cond_true,cond_false,rflush]
    have h1:BR (rstep r).1:=h.same (rstep_same r)
    cases r.off
    ·cases ((rstep r).2 != 0)
     ·exact h1.flushK _
     ·exact h1
    ·exact h
  ·exact h
 ·exact h.write i ht.text
theorem BR.run{r:R}(h:BR r){xs:List (List Li)}{n:Nat}(hx:∀ k,k < n→Ad ((xs.getD k []).getD 3 [])):∀ k,k≤n→BR (rAt xs k r)
 | 0,_=>h
 | k+1,hk=>(h.run hx k (by omega)).op _ _ _ _ (hx k (by omega))
theorem image_len(d:D):(image d).length=d.n:=by simp [image]
end Go.Dk
end
section
/- What Mount leaves, sector by sector. -/
namespace Go.Dk
open Go Go.Am
theorem mount_n(d:D)(p:Li):(mount d p).n=d.n:=afJ p _ 0 d
end Go.Dk
end
section
/- A journal on a disk of the program and one on the specification's disk: the same. -/
namespace Go.Jr
open Go Go.Am Go.Dk
def DV:Dev D:=⟨fun d=>(d.n:Int),write,flush,Dk.read⟩
def RV:Dev R:=⟨fun r=>(r.s.length:Int),rwrite,rflush,rread⟩
structure DevRel {δ ε:Type} (V:Dev δ) (U:Dev ε) (Q:δ→ε→Prop):Prop where
 n:∀ d r,Q d r→V.n d=U.n r
 write:∀ d r i s,Q d r→(V.write d i s).2=(U.write r i s).2∧Q (V.write d i s).1 (U.write r i s).1
 flush:∀ d r,Q d r→(V.flush d).2=(U.flush r).2∧Q (V.flush d).1 (U.flush r).1
 read:∀ d r i,Q d r→V.read d i=U.read r i
variable {δ ε : Type} {V : Dev δ} {U : Dev ε} {Q : δ → ε → Prop} {d : δ} {r : ε}
theorem alB(h:DevRel V U Q)(hq:Q d r)(a:Int)(L:List Li):∀ k,(writes V a L k d).2=(writes U a L k r).2∧Q (writes V a L k d).1 (writes U a L k r).1
 | 0=>⟨rfl,hq⟩
 | k+1=>by
  obtain⟨e,q⟩:=alB h hq a L k
  rw [writes,writes,e]
  cases (writes U a L k r).2 != 0
  ·exact h.write _ _ _ _ q
  ·exact⟨e,q⟩
theorem apK(h:DevRel V U Q)(hq:Q d r)(a:Int)(L:List Li):∀ k,reads V d a L k=reads U r a L k
 | 0=>rfl
 | k+1=>by rw [reads,reads,apK h hq a L k,h.read _ _ _ hq]
theorem avG(h:DevRel V U Q)(hq:Q d r)(a:Int)(L:List Li):(writeAll V d a L).2=(writeAll U r a L).2∧Q (writeAll V d a L).1 (writeAll U r a L).1:=by
 obtain⟨e,q⟩:=alB h hq a L L.length
 obtain⟨e2,q2⟩:=h.flush _ _ q
 rw [writeAll,writeAll,e,e2,apK h q2]
 cases (writes U a L L.length r).2 != 0
 ·cases (U.flush (writes U a L L.length r).1).2 != 0
  ·exact⟨rfl,q2⟩
  ·exact⟨rfl,q2⟩
 ·exact⟨rfl,q⟩
theorem append_rel(h:DevRel V U Q)(hq:Q d r)(j:J)(t:Li):(append V d j t).2=(append U r j t).2∧Q (append V d j t).1 (append U r j t).1:=by
 obtain⟨e,q⟩:=avG h hq j.fin (sectors j.next t)
 simp only [append,h.n _ _ hq,e]
 cases j.closed
 ·cases decide ((8000:Int) < t.length)
  ·cases decide (j.next > 4096)
   ·cases decide (count t.length > U.n r-j.fin)
    ·cases ((writeAll U r j.fin (sectors j.next t)).2.1 != 0)
     ·cases (!(writeAll U r j.fin (sectors j.next t)).2.2) <;> exact⟨rfl,q⟩
     ·exact⟨rfl,q⟩
    ·exact⟨rfl,hq⟩
   ·exact⟨rfl,hq⟩
  ·exact⟨rfl,hq⟩
 ·exact⟨rfl,hq⟩
theorem aBh(d:D)(i:Int)(s:Li):(write d i s).1.n=d.n:=by
 have hs:=(step_same d).1
 simp only [write]
 cases (check d i != 0)
 ·cases ((s.length:Int) != 64)
  ·cases ((Dk.step d).2 != 0) <;> exact hs
  ·rfl
 ·rfl
theorem aoA(d:D):(flush d).1.n=d.n:=by
 have hs:=(step_same d).1
 simp only [flush]
 cases (check d 0 != 0)
 ·cases ((Dk.step d).2 != 0)
  ·exact(aBg _ _).trans hs
  ·exact hs
 ·rfl
def DR(d:D)(r:R):Prop:=Rel d r∧0 < d.n
theorem devs:DevRel DV RV DR where
 n:=fun d r h=>by show(d.n:Int)=(r.s.length:Int);rw [h.1.n]
 write:=fun d r i s h=>⟨(h.1.write i s).1,(h.1.write i s).2,by rw [show(DV.write d i s).1.n=d.n from aBh d i s];exact h.2⟩
 flush:=fun d r h=>⟨(h.1.flush h.2).1,(h.1.flush h.2).2,by rw [show(DV.flush d).1.n=d.n from aoA d];exact h.2⟩
 read:=fun d r i h=>h.1.read i
def secsD(d:D):List Li:=(List.range d.n).map fun i:Nat=>(Dk.read d i).1
def secsR(r:R):List Li:=(List.range r.s.length).map fun i:Nat=>(rread r i).1
theorem secs_rel{d:D}{r:R}(h:Rel d r):secsD d=secsR r:=by
 rw [secsD,secsR,h.n]
 exact List.map_congr_left fun i _=>by rw [h.read]
end Go.Jr
end
section
/- What Open finds among Ka and spoiled records. -/
namespace Go.Jr
open Go Go.Am
structure Seg where
 num:Int
 text:List Int
 L:List Li
structure Seg.Ok (g:Seg):Prop where
 lo:1≤g.num
 hi:g.num≤4096
 text:g.text.length≤8000
 len:g.L.length=(count g.text.length).toNat
 at_:∀ i,i < g.L.length→g.L.getD i []=sector g.num g.text i∨(unpack (g.L.getD i [])).ok=false
def Seg.full(g:Seg):Bool:=g.L==sectors g.num g.text
theorem YT{n:Int}{t:List Int}{i:Nat}(h:i < (count t.length).toNat):(sectors n t).getD i []=sector n t i:=by
 simp [sectors,List.getD_eq_getElem?_getD,List.getElem?_map,List.getElem?_range h]
theorem Seg.Ok.full{g:Seg}(h:g.Ok)(hf:g.full=true){i:Nat}(hi:i < g.L.length):g.L.getD i []=sector g.num g.text i:=by
 have e:g.L=sectors g.num g.text:=by simpa [Seg.full] using hf
 rw [e,YT (by rw [← h.len];exact hi)]
theorem Seg.Ok.spoiled{g:Seg}(h:g.Ok)(hf:g.full=false):∃ i,i < g.L.length∧(unpack (g.L.getD i [])).ok=false:=by
 apply Classical.byContradiction
 intro hn
 have:g.L=sectors g.num g.text:=by
  apply List.ext_getElem?
  intro i
  by_cases hi:i < g.L.length
  ·have h1:=(h.at_ i hi).resolve_right fun hk=>hn ⟨i,hi,hk⟩
   have hi':i < (sectors g.num g.text).length:=by rw [sectors_len,← h.len];exact hi
   rw [List.getD_eq_getElem?_getD,List.getElem?_eq_getElem hi] at h1
   have h2:=YT (n:=g.num) (t:=g.text) (i:=i) (by rw [← h.len];exact hi)
   rw [List.getD_eq_getElem?_getD,List.getElem?_eq_getElem hi'] at h2
   rw [List.getElem?_eq_getElem hi,List.getElem?_eq_getElem hi']
   simp only [Option.getD_some] at h1 h2
   rw [h1,h2]
  ·have hi':¬ i < (sectors g.num g.text).length:=by rw [sectors_len,← h.len];exact hi
   rw [List.getElem?_eq_none (by omega),List.getElem?_eq_none (by omega)]
 rw [Seg.full,this] at hf
 simp at hf
theorem aSW:(unpack (List.replicate 64 0)).ok=false:=by
 have:zS (List.replicate 64 0)=false:=by
  have e:fNum (List.replicate 64 0)=0:=by decide
  simp only [zS,e]
  simp
 rw [unpack,this];rfl
theorem apL{S:List Li}{M:Int}(h0:0≤M):∀ n,(∀ i,i < n→(unpack (S.getD i [])).number≤M)→nextOf S n≤M+1
 | 0,_=>by simp only [nextOf];omega
 | n+1,h=>by
  have ih:=apL h0 n fun i hi=>h i (by omega)
  have:=h n (by omega)
  simp only [nextOf]
  split <;> omega
theorem azD(S:List Li)(n:Nat):nextOf S n≤nextOf S (n+1)∧(unpack (S.getD n [])).number+1≤nextOf S (n+1):=by
 simp only [nextOf]
 split <;> omega
theorem alC(S:List Li):∀ n,1≤nextOf S n
 | 0=>by simp [nextOf]
 | n+1=>by have:=azD S n;have:=alC S n;omega
end Go.Jr
end
section
/- What the other functions of package journal compute, in plain terms. -/
namespace Go.Jr
open Go Go.Am Go.Dk
def idxGo(n:Int):List Int→Nat→Int
 | [],_=>-1
 | x :: l,k=>cond (n==x) (k:Int) (idxGo n l (k+1))
def idx(l:Li)(n:Int):Int:=idxGo n l 0
theorem idx_contains(n:Int):∀ (l:Li) (k:Nat),decide (idxGo n l k≥0)=l.contains n
 | [],k=>rfl
 | x :: l,k=>by
  rw [idxGo,List.contains_cons]
  cases h:(n==x)
  ·rw [cond_false,idx_contains n l,Bool.false_or]
  ·rw [cond_true,Bool.true_or,decide_eq_true_iff];omega
theorem idxGo_drop{n:Int}{l:List Int}{k:Nat}(h:k < l.length):idxGo n (l.drop k) k=cond (n==l.getD k 0) (k:Int) (idxGo n (l.drop (k+1)) (k+1)):=by
 rw [List.drop_eq_getElem_cons h,idxGo,List.getD_eq_getElem?_getD,List.getElem?_eq_getElem h];rfl
def unrow(r:List Li):Part:=⟨(r.getD 0 []).getD 0 0,(r.getD 1 []).getD 0 0,(r.getD 2 []).getD 0 0,r.getD 3 [],(r.getD 4 []).getD 0 0==1⟩
theorem aJ0(p:Part):unrow p.row=p:=by
 obtain⟨a,b,c,d,e⟩:=p
 cases e <;> rfl
abbrev RL:=List (List Li)
def rec(a:RL):List Int×Int×Bool:=cond (recOk (a.map unrow) 0) (recText (a.map unrow) 0 (recN (a.map unrow) 0),(recN (a.map unrow) 0:Int),true) ([],0,false)
def shortR(a:RL):Bool:=a.all fun r=>decide ((r.getD 3 []).length≤64)
theorem pt_map{a:RL}{i:Nat}(h:i < a.length):pt (a.map unrow) i=unrow (a.getD i []):=by
 rw [pt,List.getD_eq_getElem?_getD,List.getElem?_map,List.getElem?_eq_getElem h,List.getD_eq_getElem?_getD,List.getElem?_eq_getElem h];rfl
theorem aic(l:List Part)(k i:Nat):pt (l.drop k) i=pt l (k+i):=by
 rw [pt,pt,List.getD_eq_getElem?_getD,List.getD_eq_getElem?_getD,List.getElem?_drop]
theorem apM(l:List Part)(k:Nat):recN (l.drop k) 0=recN l k:=by rw [recN,recN,aic];rfl
theorem avH(l:List Part)(k n:Nat):recText (l.drop k) 0 n=recText l k n:=by
 rw [recText,recText]
 congr 1
 funext i
 rw [aic,Nat.zero_add]
theorem azE(l:List Part)(k i:Nat):partOk (l.drop k) 0 i=partOk l k i:=by
 simp only [partOk,aic,Nat.zero_add,Nat.add_zero]
theorem aDK{l:List Part}{k:Nat}(h:k≤l.length):recOk (l.drop k) 0=recOk l k:=by
 simp only [recOk,aic,Nat.add_zero,apM,List.length_drop]
 rw [show partOk (l.drop k) 0=partOk l k from funext fun i=>azE l k i]
 congr 2
 rw [decide_eq_decide]
 constructor <;> rintro⟨h1,h2⟩ <;> exact⟨h1,by omega⟩
theorem recText_succ(l:List Part)(k i:Nat):recText l k (i+1)=recText l k i++(pt l (k+i)).payload:=by
 rw [recText,List.range_succ,List.flatMap_append,List.flatMap_singleton];rfl
theorem recText_len{l:List Part}{c:Nat}(h:∀ i,(pt l i).payload.length≤c)(k:Nat):∀ n,(recText l k n).length≤c*n
 | 0=>by simp [recText]
 | n+1=>by
  rw [recText_succ,List.length_append]
  have:=recText_len h k n
  have:=h (k+n)
  rw [Nat.mul_succ];omega
theorem short_pt{a:RL}(h:shortR a=true)(i:Nat):(pt (a.map unrow) i).payload.length≤64:=by
 rcases Nat.lt_or_ge i a.length with hi | hi
 ·rw [pt_map hi,List.getD_eq_getElem?_getD,List.getElem?_eq_getElem hi]
  simp only [shortR,List.all_eq_true,decide_eq_true_eq] at h
  exact h _ (List.getElem_mem hi)
 ·rw [pt,List.getD_eq_getElem?_getD,List.getElem?_eq_none (by simpa using hi)];exact Nat.zero_le _
theorem unpack_left(s:Li)(hb:∀ x∈s,0≤x):(unpack s).ok=true→0≤(unpack s).left∧(unpack s).left≤8000:=by
 intro h
 unfold unpack at h ⊢
 cases hg:zS s with
 | false=>rw [hg] at h;cases h
 | true=>
  have hn:∀ (b:Li),(∀ x∈b,0≤x)→0≤num b:=fun b=>by
   induction b with
   | nil=>intro _;exact Int.le_refl _
   | cons x b ih=>
    intro hx
    rw [num_cons]
    have:=ih fun y hy=>hx y (.tail _ hy)
    have:=hx x (.head _)
    omega
  simp only [zS,Bool.and_eq_true,decide_eq_true_eq] at hg
  have h1:=hn ((s.drop 6).take 2) fun x hx=>hb x (List.mem_of_mem_drop (List.mem_of_mem_take hx))
  have h2:=hn ((s.drop 4).take 2) fun x hx=>hb x (List.mem_of_mem_drop (List.mem_of_mem_take hx))
  have h3:=hg.1.2
  simp only [fPart,fLeft] at h3
  simp only [cond_true,fLeft]
  omega
theorem unpack_short(s:Li):(unpack s).payload.length≤48:=by
 unfold unpack
 cases zS s with
 | false=>exact Nat.zero_le _
 | true=>simp only [cond_true,List.length_take,fN];omega
theorem unpack_num(s:Li)(hb:∀ x∈s,0≤x):0≤(unpack s).number∧(unpack s).number≤4096:=by
 unfold unpack
 cases hg:zS s with
 | false=>exact⟨Int.le_refl (0:Int),(by decide:(0:Int)≤4096)⟩
 | true=>
  simp only [zS,Bool.and_eq_true,decide_eq_true_eq] at hg
  simp only [cond_true]
  omega
variable {δ : Type} {V : Dev δ} {d : δ} {a : Int} {L : List Li}
theorem writes_succ{k:Nat}(h:(writes V a L k d).2=0):writes V a L (k+1) d=V.write (writes V a L k d).1 (a+k) (L.getD k []):=by
 rw [writes,h];rfl
theorem writes_stop{k:Nat}(h:(writes V a L k d).2≠0):∀ m,writes V a L (k+m) d=writes V a L k d
 | 0=>rfl
 | m+1=>by
  rw [← Nat.add_assoc,writes,writes_stop h m]
  rw [show((writes V a L k d).2 != 0)=true by simpa using h];rfl
theorem reads_succ{k:Nat}(h:(reads V d a L k).2=0):reads V d a L (k+1)=cond ((V.read d (a+k)).2 != 0) (false,(V.read d (a+k)).2) ((reads V d a L k).1&&(L.getD k []==(V.read d (a+k)).1),0):=by
 rw [reads,h];rfl
theorem reads_stop{k:Nat}(h:(reads V d a L k).2≠0):∀ m,reads V d a L (k+m)=reads V d a L k
 | 0=>rfl
 | m+1=>by
  rw [← Nat.add_assoc,reads,reads_stop h m]
  rw [show((reads V d a L k).2 != 0)=true by simpa using h];rfl
theorem aDL{d:D}{i:Int}{s:List Int}(h:Dk.fine d=true)(hp:d.pend.length < 7999):Dk.fine (Dk.write d i s).1=true∧(Dk.write d i s).1.pend.length≤d.pend.length+1:=by
 obtain⟨s1,s2,s3,s4⟩:=step_same d
 have hst:Dk.fine (Dk.step d).1=true:=by
  have:∀ i,inD (Dk.step d).1 i=inD d i:=fun i=>inD_n s1 i
  simp only [Dk.fine,s1,s2,s3,s4,this];exact h
 simp only [Dk.write]
 cases hc:(check d i != 0) with
 | true=>exact⟨h,by simp only [cond_true];omega⟩
 | false=>
  cases ((s.length:Int) != 64) with
  | true=>exact⟨h,by simp only [cond_false,cond_true];omega⟩
  | false=>
   cases ((Dk.step d).2 != 0) with
   | true=>exact⟨hst,by simp only [cond_false,cond_true,s3];omega⟩
   | false=>
    have hi:inD d i=true:=by
     have:=check_ok (d:=d) (i:=i) (by simpa using hc)
     simp only [inD,Bool.and_eq_true,decide_eq_true_eq];exact⟨this.2.1,this.2.2⟩
    have hl:=mput_len' (Dk.step d).1.pend [i] (s.take 64)
    simp only [cond_false]
    refine⟨?_,by rw [s3] at hl ⊢;exact hl⟩
    simp only [Dk.fine,Bool.and_eq_true,decide_eq_true_eq] at hst ⊢
    rw [s3] at hl hst ⊢
    refine⟨⟨hst.1.1,hst.1.2.1,by omega,hst.1.2.2.2⟩,?_⟩
    rw [List.all_eq_true]
    refine Wq (p:=fun e=>inD _ (e.1.getD 0 0)=true) ?_ ?_
    ·show inD _ i=true
     simp only [inD] at hi ⊢
     rw [s1];exact hi
    ·intro e he
     exact List.all_eq_true.1 hst.2 e he
where mput_len':∀ (es:Es) (k v:Li),(u9 es k v).length≤es.length+1
 | [],k,v=>by simp [u9]
 | e :: es,k,v=>by
  simp only [u9]
  cases (e.1==k)
  ·simp only [cond_false,List.length_cons];have:=mput_len' es k v;omega
  ·simp
theorem writes_fine{d:D}(h:Dk.fine d=true)(hp:d.pend.length < 4000){a:Int}{L:List Li}:∀ k,k < 3000→Dk.fine (writes DV a L k d).1=true∧(writes DV a L k d).1.pend.length≤d.pend.length+k
 | 0,_=>⟨h,Nat.le_refl _⟩
 | k+1,hk=>by
  obtain⟨h1,h2⟩:=writes_fine h hp (a:=a) (L:=L) k (by omega)
  rw [writes]
  cases ((writes DV a L k d).2 != 0) with
  | true=>exact⟨h1,by simp only [cond_true];omega⟩
  | false=>
   obtain⟨g1,g2⟩:=aDL (i:=a+k) (s:=L.getD k []) h1 (by omega)
   exact⟨g1,Nat.le_trans g2 (by omega)⟩
structure DOk (d:D):Prop where
 n:d.n < 8000
 len:d.blk.length=d.n*64
 on:d.off=false
 vals:∀ e∈d.pend,e.2.length=64
 b1:∀ x∈d.blk,0≤x∧x < 256
 b2:∀ e∈d.pend,∀ x∈e.2,0≤x∧x < 256
theorem aSX{es:Es}{z:List Int}{p:List Int→Prop}(hz:p z)(h:∀ e∈es,p e.2)(k:Li):p (u5 z es k):=by
 induction es with
 | nil=>exact hz
 | cons e es ih=>
  simp only [u5]
  cases e.1==k
  ·exact ih fun x hx=>h x (.tail _ hx)
  ·exact h e (.head _)
theorem read_ok{d:D}(h:DOk d){i:Nat}(hi:i < d.n):(Dk.read d i).2=0∧(Dk.read d i).1.length=64∧(∀ x∈(Dk.read d i).1,0≤x∧x < 256)∧(Dk.read d i).1=(secsD d).getD i []:=by
 have hc:check d i=0:=by
  simp only [check,h.on,cond_false]
  rw [ba (by omega),ba (by omega)]
 have hS:(Dk.read d i).1=(secsD d).getD i []:=by
  rw [secsD,List.getD_eq_getElem?_getD,List.getElem?_map,List.getElem?_range hi];rfl
 refine⟨?_,?_,?_,hS⟩
 ·simp only [Dk.read,hc]
  cases isP d i <;> rfl
 ·simp only [Dk.read,hc]
  cases isP d i with
  | true=>
   show((nxt d i).take 64).length=64
   rw [List.length_take,nxt,mget64 h.vals];rfl
  | false=>exact aot (by have:=h.len;simp only [Int.toNat_natCast];omega)
 ·simp only [Dk.read,hc]
  cases isP d i with
  | true=>
   intro x hx
   exact aSX (p:=fun l=>∀ x∈l,0≤x∧x < 256) (fun x hx=>by rw [(List.mem_replicate.1 hx).2];decide) h.b2 [(i:Int)] x (List.mem_of_mem_take hx)
  | false=>intro x hx;exact h.b1 x (List.mem_of_mem_drop (List.mem_of_mem_take hx))
theorem blank64{s:List Int}(h:s.length=64):(s.take 64==List.replicate 64 0)=blank s:=by
 rw [List.take_of_length_le (by omega),Bool.eq_iff_iff,beq_iff_eq,blank,List.all_eq_true]
 constructor
 ·intro e x hx;rw [e] at hx;rw [(List.mem_replicate.1 hx).2];rfl
 ·intro hx
  exact List.eq_replicate_iff.2 ⟨h,fun b hb=>by simpa using hx b hb⟩
theorem badOf_succ(S:List Li)(k:Nat):badOf S (k+1)=badOf S k++cond (!blank (S.getD k []) && !(unpack (S.getD k [])).ok) [(k:Int)] []:=by
 rw [badOf,List.range_succ,List.filter_append,List.map_append,badOf]
 congr 1
 simp only [List.filter_cons,List.filter_nil]
 cases (!blank (S.getD k []) && !(unpack (S.getD k [])).ok) <;> rfl
theorem badOf_len(S:List Li)(k:Nat):(badOf S k).length≤k:=by
 rw [badOf,List.length_map]
 exact Nat.le_trans (List.length_filter_le _ _) (by simp)
def rowsOf(S:List Li):RL:=S.map fun s=>(unpack s).row
theorem aDM(S:List Li):(rowsOf S).map unrow=S.map unpack:=by
 rw [rowsOf,List.map_map]
 exact List.map_congr_left fun s _=>aJ0 _
theorem rec_rows{S:List Li}{k:Nat}(h:k≤S.length):rec ((rowsOf S).drop k)=cond (recOk (S.map unpack) k) (recText (S.map unpack) k (recN (S.map unpack) k),(recN (S.map unpack) k:Int),true) ([],0,false):=by
 rw [rec,List.map_drop,aDM,aDK (by simpa using h),apM,avH]
theorem short_rows(S:List Li)(k:Nat):shortR ((rowsOf S).drop k)=true:=by
 rw [shortR,List.all_eq_true]
 intro r hr
 have:=List.mem_of_mem_drop hr
 simp only [rowsOf,List.mem_map] at this
 obtain⟨s,_,rfl⟩:=this
 rw [decide_eq_true_iff]
 exact Nat.le_trans (unpack_short s) (by decide)
theorem recN_pos{S:List Li}(hS:∀ s∈S,∀ x∈s,0≤x){k:Nat}(h:recOk (S.map unpack) k=true):1≤recN (S.map unpack) k∧k+recN (S.map unpack) k≤S.length:=by
 simp only [recOk,Bool.and_eq_true,decide_eq_true_eq,List.length_map] at h
 refine⟨?_,h.1.2.2⟩
 have hok:=h.1.1
 rcases Nat.lt_or_ge k S.length with hk | hk
 ·have e:pt (S.map unpack) k=unpack S[k]:=by
   rw [pt,List.getD_eq_getElem?_getD,List.getElem?_map,List.getElem?_eq_getElem hk];rfl
  rw [recN,e]
  rw [e] at hok
  have:=unpack_left S[k] (hS _ (List.getElem_mem hk)) hok
  have hc:=count_ok (n:=(unpack S[k]).left.toNat) (by omega)
  rw [Int.toNat_of_nonneg this.1] at hc
  omega
 ·rw [pt,List.getD_eq_getElem?_getD,List.getElem?_eq_none (by simpa using hk)] at hok;cases hok
theorem dam_step(l:Li)(k:Nat):(((List.range (k+1)).filter fun i:Nat=>!l.contains ((i:Int)+1)).map fun i:Nat=>(i:Int)+1) =
  (((List.range k).filter fun i:Nat=>!l.contains ((i:Int)+1)).map fun i:Nat=>(i:Int)+1)++cond (!l.contains ((k:Int)+1)) [(k:Int)+1] []:=by
 rw [List.range_succ,List.filter_append,List.map_append]
 congr 1
 simp only [List.filter_cons,List.filter_nil]
 cases (!l.contains ((k:Int)+1)) <;> rfl
theorem there_get(t:Int):∀ (l:Li) (es:Es),(∀ e∈es,e.2=[1])→((u5 [0] (l.foldl (fun m n=>u9 m [n] [1]) es) [t]).getD 0 0==1)=(l.contains t || u7 es [t])
 | [],es,h=>by rw [List.foldl_nil,apH h];rfl
 | n :: l,es,h=>by
  rw [List.foldl_cons,there_get t l _ (Wq (p:=fun e=>e.2=[1]) rfl h),ajg,List.contains_cons]
  have:(([n]:Li)==[t])=(t==n):=by
   rw [Bool.eq_iff_iff,beq_iff_eq,beq_iff_eq];simp [eq_comm]
  rw [this]
  cases (t==n) <;> cases l.contains t <;> rfl
def okJ(d:D)(j:J):Bool:=decide (d.pend.length < 4000∧0≤j.fin∧j.fin < 100000∧0 < j.next∧j.next < 100000∧j.nums.length < 100000∧j.texts.length < 100000)
def repeat_(t:Li)(n:Int):List Int:=(List.replicate n.toNat t).flatten
def textN(size:Int):Int:=if (8100:Int) < (if (0:Int) > size then (0:Int) else size) then (8100:Int) else (if (0:Int) > size then (0:Int) else size)
def text(size fill:Int):List Int:=(List.range (textN size).toNat).map fun k:Nat=>IntKind.u8.wrap (fill+IntKind.u8.wrap (k:Int))
theorem textN_le(size:Int):0≤textN size∧textN size≤8100:=by
 unfold textN
 split <;> split <;> omega
end Go.Jr
end