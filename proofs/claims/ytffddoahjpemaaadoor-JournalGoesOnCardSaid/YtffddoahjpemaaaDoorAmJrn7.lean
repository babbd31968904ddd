/- Part of a proof. -/
import Derived.Test.YtffddoahjpemaaaDoorAm36D
import Derived.Test.YtffddoahjpemaaaDoorProg
set_option linter.unusedSimpArgs false
set_option linter.unusedVariables false
section
/- The numbers at which the kit's contracts of maps.Keys, slices.Sorted and slices.Sort hold in this program (printed by laykeys.py). -/
namespace Go.Proofs
open Go.RowKit Go.Maps Go.Sort Go.Shelf
def Tryd.keys75_ren:Go.Shelf.Ren:=⟨fun | 7=>75 | 10=>80 | n=>n,fun | 23=>69 | 26=>3 | 3=>98 | 28=>137 | 0=>0 | 27=>136 | 33=>143 | 4=>4 | n=>n,fun | n=>n⟩
theorem Tryd.keys75:Go.Proofs.SlLaysZI.n7 Tryd.prog Tryd.keys75_ren:={
 mixed:=by kernel_rfl,
 f7:=⟨Tryd.f75.name,by decide,Tryd.func75.trans (congrArg some (by kernel_rfl))⟩,
 f10:=⟨Tryd.f80.name,by decide,Tryd.func80.trans (congrArg some (by kernel_rfl))⟩,
 t0:=Tryd.underlying0,
 a0:=Tryd.isAgg0,
 z0:=Tryd.sizeOf0,
 v0:=Tryd.zeroValue0,
 t4:=Tryd.underlying4,
 a4:=Tryd.isAgg4,
 z4:=Tryd.sizeOf4,
 v4:=Tryd.zeroValue4,
 t23:=Tryd.underlying69,
 a23:=Tryd.isAgg69,
 z23:=Tryd.sizeOf69,
 v23:=Tryd.zeroValue69,
 t26:=Tryd.underlying3,
 a26:=Tryd.isAgg3,
 z26:=Tryd.sizeOf3,
 v26:=Tryd.zeroValue3,
 t27:=Tryd.underlying136,
 a27:=Tryd.isAgg136,
 z27:=Tryd.sizeOf136,
 v27:=Tryd.zeroValue136,
 t28:=Tryd.underlying137,
 a28:=Tryd.isAgg137,
 z28:=Tryd.sizeOf137,
 v28:=Tryd.zeroValue137,
 t33:=Tryd.underlying143,
 a33:=Tryd.isAgg143,
 z33:=Tryd.sizeOf143,
 v33:=Tryd.zeroValue143 }
def Tryd.sortedA_ren:Go.Shelf.Ren:=⟨fun | 6=>74 | 8=>78 | 9=>79 | 11=>82 | 13=>84 | 12=>83 | 23=>94 | 24=>95 | 14=>85 | 15=>86 | 16=>87 | 17=>88 | 18=>89 | 19=>90 | 20=>91 | 21=>92 | 22=>93 | 25=>96 | 26=>97 | 27=>98 | 28=>99 | 29=>100 | 30=>101 | 31=>102 | n=>n,fun | 26=>3 | 28=>137 | 24=>44 | 0=>0 | 3=>3 | 37=>85 | 48=>109 | 50=>112 | 4=>4 | 40=>149 | 39=>148 | 45=>154 | 5=>5 | 9=>9 | 51=>158 | 55=>162 | 57=>164 | 58=>165 | 33=>143 | n=>n,fun | n=>n⟩
theorem Tryd.sortedA:Go.Proofs.SlLaysZI.n6 Tryd.prog Tryd.sortedA_ren:={
 mixed:=by kernel_rfl,
 f6:=⟨Tryd.f74.name,by decide,Tryd.func74.trans (congrArg some (by kernel_rfl))⟩,
 f8:=⟨Tryd.f78.name,by decide,Tryd.func78.trans (congrArg some (by kernel_rfl))⟩,
 f11:=⟨Tryd.f82.name,by decide,Tryd.func82.trans (congrArg some (by kernel_rfl))⟩,
 t0:=Tryd.underlying0,
 a0:=Tryd.isAgg0,
 z0:=Tryd.sizeOf0,
 v0:=Tryd.zeroValue0,
 t24:=Tryd.underlying44,
 a24:=Tryd.isAgg44,
 z24:=Tryd.sizeOf44,
 v24:=Tryd.zeroValue44,
 t26:=Tryd.underlying3,
 a26:=Tryd.isAgg3,
 z26:=Tryd.sizeOf3,
 v26:=Tryd.zeroValue3,
 t28:=Tryd.underlying137,
 a28:=Tryd.isAgg137,
 z28:=Tryd.sizeOf137,
 v28:=Tryd.zeroValue137,
 i26:=by kernel_rfl }
def Tryd.sortA_ren:Go.Shelf.Ren:=⟨fun | 5=>79 | 8=>84 | 7=>83 | 19=>94 | 20=>95 | 10=>85 | 11=>86 | 12=>87 | 13=>88 | 14=>89 | 15=>90 | 16=>91 | 17=>92 | 18=>93 | 30=>96 | 31=>97 | 32=>98 | 33=>99 | 34=>100 | 35=>101 | 40=>102 | n=>n,fun | 23=>44 | 25=>3 | 3=>3 | 32=>85 | 22=>44 | 0=>0 | 44=>109 | 46=>112 | 4=>4 | 36=>149 | 35=>148 | 41=>154 | 5=>5 | 9=>9 | 53=>158 | 57=>162 | 63=>164 | 64=>165 | n=>n,fun | n=>n⟩
theorem Tryd.sortA:Go.Proofs.SlLaysM.n5 Tryd.prog Tryd.sortA_ren:={
 mixed:=by kernel_rfl,
 f5:=⟨Tryd.f79.name,by decide,Tryd.func79.trans (congrArg some (by kernel_rfl))⟩,
 f7:=⟨Tryd.f83.name,by decide,Tryd.func83.trans (congrArg some (by kernel_rfl))⟩,
 f8:=Tryd.func84.trans (congrArg some (by kernel_rfl)),
 f10:=⟨Tryd.f85.name,by decide,Tryd.func85.trans (congrArg some (by kernel_rfl))⟩,
 f11:=⟨Tryd.f86.name,by decide,Tryd.func86.trans (congrArg some (by kernel_rfl))⟩,
 f12:=⟨Tryd.f87.name,by decide,Tryd.func87.trans (congrArg some (by kernel_rfl))⟩,
 f13:=⟨Tryd.f88.name,by decide,Tryd.func88.trans (congrArg some (by kernel_rfl))⟩,
 f14:=⟨Tryd.f89.name,by decide,Tryd.func89.trans (congrArg some (by kernel_rfl))⟩,
 f15:=⟨Tryd.f90.name,by decide,Tryd.func90.trans (congrArg some (by kernel_rfl))⟩,
 f16:=⟨Tryd.f91.name,by decide,Tryd.func91.trans (congrArg some (by kernel_rfl))⟩,
 f17:=⟨Tryd.f92.name,by decide,Tryd.func92.trans (congrArg some (by kernel_rfl))⟩,
 f18:=⟨Tryd.f93.name,by decide,Tryd.func93.trans (congrArg some (by kernel_rfl))⟩,
 f19:=Tryd.func94.trans (congrArg some (by kernel_rfl)),
 f20:=Tryd.func95.trans (congrArg some (by kernel_rfl)),
 f30:=⟨Tryd.f96.name,by decide,Tryd.func96.trans (congrArg some (by kernel_rfl))⟩,
 f31:=Tryd.func97.trans (congrArg some (by kernel_rfl)),
 f32:=Tryd.func98.trans (congrArg some (by kernel_rfl)),
 f33:=⟨Tryd.f99.name,by decide,Tryd.func99.trans (congrArg some (by kernel_rfl))⟩,
 f34:=⟨Tryd.f100.name,by decide,Tryd.func100.trans (congrArg some (by kernel_rfl))⟩,
 f35:=⟨Tryd.f101.name,by decide,Tryd.func101.trans (congrArg some (by kernel_rfl))⟩,
 f40:=⟨Tryd.f102.name,by decide,Tryd.func102.trans (congrArg some (by kernel_rfl))⟩,
 t0:=Tryd.underlying0,
 a0:=Tryd.isAgg0,
 z0:=Tryd.sizeOf0,
 v0:=Tryd.zeroValue0,
 t3:=Tryd.underlying3,
 a3:=Tryd.isAgg3,
 z3:=Tryd.sizeOf3,
 v3:=Tryd.zeroValue3,
 t4:=Tryd.underlying4,
 a4:=Tryd.isAgg4,
 z4:=Tryd.sizeOf4,
 v4:=Tryd.zeroValue4,
 t5:=Tryd.underlying5,
 a5:=Tryd.isAgg5,
 z5:=Tryd.sizeOf5,
 v5:=Tryd.zeroValue5,
 t9:=Tryd.underlying9,
 a9:=Tryd.isAgg9,
 z9:=Tryd.sizeOf9,
 v9:=Tryd.zeroValue9,
 t22:=Tryd.underlying44,
 a22:=Tryd.isAgg44,
 z22:=Tryd.sizeOf44,
 v22:=Tryd.zeroValue44,
 t23:=Tryd.underlying44,
 a23:=Tryd.isAgg44,
 z23:=Tryd.sizeOf44,
 v23:=Tryd.zeroValue44,
 t25:=Tryd.underlying3,
 a25:=Tryd.isAgg3,
 z25:=Tryd.sizeOf3,
 v25:=Tryd.zeroValue3,
 t32:=Tryd.underlying85,
 a32:=Tryd.isAgg85,
 z32:=Tryd.sizeOf85,
 v32:=Tryd.zeroValue85,
 t35:=Tryd.underlying148,
 a35:=Tryd.isAgg148,
 z35:=Tryd.sizeOf148,
 v35:=Tryd.zeroValue148,
 t36:=Tryd.underlying149,
 a36:=Tryd.isAgg149,
 z36:=Tryd.sizeOf149,
 v36:=Tryd.zeroValue149,
 t41:=Tryd.underlying154,
 a41:=Tryd.isAgg154,
 z41:=Tryd.sizeOf154,
 v41:=Tryd.zeroValue154,
 t44:=Tryd.underlying109,
 a44:=Tryd.isAgg109,
 z44:=Tryd.sizeOf109,
 v44:=Tryd.zeroValue109,
 t46:=Tryd.underlying112,
 a46:=Tryd.isAgg112,
 z46:=Tryd.sizeOf112,
 v46:=Tryd.zeroValue112,
 t53:=Tryd.underlying158,
 a53:=Tryd.isAgg158,
 z53:=Tryd.sizeOf158,
 v53:=Tryd.zeroValue158,
 t57:=Tryd.underlying162,
 a57:=Tryd.isAgg162,
 z57:=Tryd.sizeOf162,
 v57:=Tryd.zeroValue162,
 t63:=Tryd.underlying164,
 a63:=Tryd.isAgg164,
 z63:=Tryd.sizeOf164,
 v63:=Tryd.zeroValue164,
 t64:=Tryd.underlying165,
 a64:=Tryd.isAgg165,
 z64:=Tryd.sizeOf165,
 v64:=Tryd.zeroValue165 }
theorem Tryd.sortsA(m:Nat):AnyZI.SortsIn Tryd.prog Tryd.sortedA_ren Fence.wide m:=
 ⟨fun blk off cap ss W hH hblk hsz=>callsIn_wide.2 (AnyM.slices_Sort_int Tryd.sortA blk off cap ss W hH hblk hsz),
  fun p cap W=>callsIn_wide.2 (AnyM.slices_Sort_int_none Tryd.sortA p cap W)⟩
end Go.Proofs
end
section
namespace Go.Am
open Go Go.Proofs
abbrev sp40:List (Nat×Md):=[(0,.plain),(18,.plain),(19,.plain),(20,.plain)]
abbrev Ty26:=Nat×Li×(Lp)×(Lp)×Bool×Int
abbrev Ty27:=Nat×Li×(Lp)×(Lp)×Bool×Int×Int
abbrev Ty28:=(Lp)
abbrev Ty29:=Nat×Li×(Lp)×(Lp)×Bool×Int×Int×Int
abbrev Ty30:=Nat×Li×(Lp)×(Lp)×Bool×Int×Int×Li
abbrev Ty31:=Li×Int×Int×(Dk.D)
def lV32:List CEnt:=[]
def V32:Env:=mkEnv T36 G36 lV32
noncomputable abbrev Kf23:=kFin V32 none (Tryd.f32).results.toList
theorem eV32:EOk Tryd.prog V32:=eok_mk (by exact trivial)
def Af32(F:Nat):Cuts:={ F:=F,at_:=fun _=>none,join:=fun _=>none }
def ef32_a:Ty26→St:=fun (a0n,a0b,a0p,a0w,a0o,a0l)=>⟨[(0,.ptr 0 0 5 0 0 0 5)],[(0,(dB 1 a0n 2 3 a0o a0l)),(1,(bB a0b)),(2,(pB a0p)),(3,(wB a0w))],4,8,4⟩
def f32_1(F:Nat):Ty26→Rz:=fun (a0n,a0b,a0p,a0w,a0o,a0l)=>(some ((.int .i64 (↑a0n:Int)),[(dB 1 a0n 2 3 a0o a0l),(bB a0b),(pB a0p),(wB a0w)]))
theorem f32_1_eq(F:Nat):∀ v,aexec V32 (Af32 F) (sub (bodyOf Tryd.f32) []) (ef32_a v) Kf23=f32_1 F v:=by
 rintro⟨a0n,a0b,a0p,a0w,a0o,a0l⟩;kernel_rfl
def f32(F:Nat):Ty26→Rz:=f32_1 F
theorem f32_body(F a0n:Nat)(a0b:Li)(a0p a0w:Lp)(a0o:Bool)(a0l:Int):abody V32 (Af32 F) Tryd.f32 [(.ptr 0 0 5 0 0 0 5)] [(dB 1 a0n 2 3 a0o a0l),(bB a0b),(pB a0p),(wB a0w)]=f32 F (a0n,a0b,a0p,a0w,a0o,a0l):=
 (abody_in (by kernel_rfl) (by kernel_rfl)).trans (f32_1_eq F (a0n,a0b,a0p,a0w,a0o,a0l))
def r32:CRun:=fun X H=>match X,H with
 | [(.ptr 0 0 5 0 0 0 5)],[(.cells 5 (.segs (.cons 1 (.one (.own 1 a0n 64)) (.cons 1 (.one (.mp 2)) (.cons 1 (.one (.mp 3)) (.cons 1 (.one (.bool a0o)) (.cons 1 (.one (.int .i64 a0l)) .nil)))))) true),(.cells z1 (.rI .u8 a0b) true),(.cells 0 (.rM .i64 0 (.arr .u8 64) a0p) true),(.cells 0 (.rM .i64 0 .bool a0w) true)]=>some (true,(.int .i64 ((Dk.D.mk a0n a0b a0p a0w a0o a0l).n:Int)),[(dE 1 (Dk.D.mk a0n a0b a0p a0w a0o a0l) 2 3),(.cells (Dk.D.mk a0n a0b a0p a0w a0o a0l).blk.length (.rI .u8 (Dk.D.mk a0n a0b a0p a0w a0o a0l).blk) true),(pB (Dk.D.mk a0n a0b a0p a0w a0o a0l).pend),(wB (Dk.D.mk a0n a0b a0p a0w a0o a0l).worn)])
 | _,_=>none
theorem s32(a0n:Nat)(a0b:Li)(a0p a0w:Lp)(a0o:Bool)(a0l:Int)(k0:okB (dB 1 a0n 2 3 a0o a0l))(k1:okB (bB a0b))(k2:okB (pB a0p))(k3:okB (wB a0w)):∃ F,f32 F (a0n,a0b,a0p,a0w,a0o,a0l)=some ((.int .i64 ((Dk.D.mk a0n a0b a0p a0w a0o a0l).n:Int)),[(dE 1 (Dk.D.mk a0n a0b a0p a0w a0o a0l) 2 3),(.cells (Dk.D.mk a0n a0b a0p a0w a0o a0l).blk.length (.rI .u8 (Dk.D.mk a0n a0b a0p a0w a0o a0l).blk) true),(pB (Dk.D.mk a0n a0b a0p a0w a0o a0l).pend),(wB (Dk.D.mk a0n a0b a0p a0w a0o a0l).worn)]):=by exact⟨0,rfl⟩
theorem c32:CallOk Tryd.prog G36 32 r32:=callOk_of mixed tys eV32 Tryd.func32 (by kernel_rfl) (c:=sub (bodyOf Tryd.f32) []) (by kernel_rfl) (by
 intro X H r H' h hX hH
 unfold r32 at h;split at h <;> try contradiction
 ·obtain⟨hp,rfl,rfl⟩:=inj3 h
  obtain rfl:=okB_size (hH _ hm1) rfl
  obtain⟨F,hF⟩:=s32 _ _ _ _ _ _ (hH _ hm0) (hH _ hm1) (hH _ hm2) (hH _ hm3)
  exact⟨Af32 F,(f32_body F _ _ _ _ _ _).trans hF⟩)
def lV51:List CEnt:=[]
def V51:Env:=mkEnv T36 G36 lV51
noncomputable abbrev Kf24:=kFin V51 none (Tryd.f51).results.toList
theorem eV51:EOk Tryd.prog V51:=eok_mk (by exact trivial)
def Af51(F:Nat):Cuts:={ F:=F,at_:=fun _=>none,join:=fun _=>none }
def ef51_a:Ty27→St:=fun (a0n,a0b,a0p,a0w,a0o,a0l,a1)=>⟨[(0,.ptr 0 0 5 0 0 0 5),(1,.int .i64 a1)],[(0,(dB 1 a0n 2 3 a0o a0l)),(1,(bB a0b)),(2,(pB a0p)),(3,(wB a0w))],4,22,4⟩
def f51_1(F:Nat):Ty27→Rz:=fun (a0n,a0b,a0p,a0w,a0o,a0l,a1)=>(cond a0o (some ((.int .i64 22),[(dB 1 a0n 2 3 a0o a0l),(bB a0b),(pB a0p),(wB a0w)])) (cond (decide (a1 < (0:Int))) (some ((.int .i64 1),[(dB 1 a0n 2 3 a0o a0l),(bB a0b),(pB a0p),(wB a0w)])) (cond (decide (a1≥(↑a0n:Int))) (some ((.int .i64 1),[(dB 1 a0n 2 3 a0o a0l),(bB a0b),(pB a0p),(wB a0w)])) (some ((.int .i64 0),[(dB 1 a0n 2 3 a0o a0l),(bB a0b),(pB a0p),(wB a0w)])))))
theorem f51_1_eq(F:Nat):∀ v,aexec V51 (Af51 F) (sub (bodyOf Tryd.f51) []) (ef51_a v) Kf24=f51_1 F v:=by
 rintro⟨a0n,a0b,a0p,a0w,a0o,a0l,a1⟩;kernel_rfl
def f51(F:Nat):Ty27→Rz:=f51_1 F
theorem f51_body(F a0n:Nat)(a0b:Li)(a0p a0w:Lp)(a0o:Bool)(a0l a1:Int):abody V51 (Af51 F) Tryd.f51 [(.ptr 0 0 5 0 0 0 5),.int .i64 a1] [(dB 1 a0n 2 3 a0o a0l),(bB a0b),(pB a0p),(wB a0w)]=f51 F (a0n,a0b,a0p,a0w,a0o,a0l,a1):=
 (abody_in (by kernel_rfl) (by kernel_rfl)).trans (f51_1_eq F (a0n,a0b,a0p,a0w,a0o,a0l,a1))
def r51:CRun:=fun X H=>match X,H with
 | [(.ptr 0 0 5 0 0 0 5),.int .i64 a1],[(.cells 5 (.segs (.cons 1 (.one (.own 1 a0n 64)) (.cons 1 (.one (.mp 2)) (.cons 1 (.one (.mp 3)) (.cons 1 (.one (.bool a0o)) (.cons 1 (.one (.int .i64 a0l)) .nil)))))) true),(.cells z1 (.rI .u8 a0b) true),(.cells 0 (.rM .i64 0 (.arr .u8 64) a0p) true),(.cells 0 (.rM .i64 0 .bool a0w) true)]=>some (true,(.int .i64 (Dk.check (Dk.D.mk a0n a0b a0p a0w a0o a0l) a1)),[(dE 1 (Dk.D.mk a0n a0b a0p a0w a0o a0l) 2 3),(.cells (Dk.D.mk a0n a0b a0p a0w a0o a0l).blk.length (.rI .u8 (Dk.D.mk a0n a0b a0p a0w a0o a0l).blk) true),(pB (Dk.D.mk a0n a0b a0p a0w a0o a0l).pend),(wB (Dk.D.mk a0n a0b a0p a0w a0o a0l).worn)])
 | _,_=>none
theorem s51(a0n:Nat)(a0b:Li)(a0p a0w:Lp)(a0o:Bool)(a0l a1:Int)(h1:okV (.int .i64 a1))(k0:okB (dB 1 a0n 2 3 a0o a0l))(k1:okB (bB a0b))(k2:okB (pB a0p))(k3:okB (wB a0w)):∃ F,f51 F (a0n,a0b,a0p,a0w,a0o,a0l,a1)=some ((.int .i64 (Dk.check (Dk.D.mk a0n a0b a0p a0w a0o a0l) a1)),[(dE 1 (Dk.D.mk a0n a0b a0p a0w a0o a0l) 2 3),(.cells (Dk.D.mk a0n a0b a0p a0w a0o a0l).blk.length (.rI .u8 (Dk.D.mk a0n a0b a0p a0w a0o a0l).blk) true),(pB (Dk.D.mk a0n a0b a0p a0w a0o a0l).pend),(wB (Dk.D.mk a0n a0b a0p a0w a0o a0l).worn)]):=by
 refine⟨0,?_⟩
 simp only [f51,f51_1,Dk.check]
 cases a0o
 ·cases (decide (a1 < 0))
  ·cases (decide (a1≥(a0n:Int))) <;> rfl
  ·rfl
 ·rfl
theorem c51:CallOk Tryd.prog G36 51 r51:=callOk_of mixed tys eV51 Tryd.func51 (by kernel_rfl) (c:=sub (bodyOf Tryd.f51) []) (by kernel_rfl) (by
 intro X H r H' h hX hH
 unfold r51 at h;split at h <;> try contradiction
 ·obtain⟨hp,rfl,rfl⟩:=inj3 h
  obtain rfl:=okB_size (hH _ hm1) rfl
  obtain⟨F,hF⟩:=s51 _ _ _ _ _ _ _ (hX _ hm1) (hH _ hm0) (hH _ hm1) (hH _ hm2) (hH _ hm3)
  exact⟨Af51 F,(f51_body F _ _ _ _ _ _ _).trans hF⟩)
def lV67:List CEnt:=[]
def V67:Env:=mkEnv T36 G36 lV67
noncomputable abbrev Kf25:=kFin V67 none (Tryd.f67).results.toList
theorem eV67:EOk Tryd.prog V67:=eok_mk (by exact trivial)
def Af67(F:Nat):Cuts:={ F:=F,at_:=fun _=>none,join:=fun _=>none }
def ef67_a:Ty26→St:=fun (a0n,a0b,a0p,a0w,a0o,a0l)=>⟨[(0,.ptr 0 0 5 0 0 0 5)],[(0,(dB 1 a0n 2 3 a0o a0l)),(1,(bB a0b)),(2,(pB a0p)),(3,(wB a0w))],4,25,4⟩
def f67_1(F:Nat):Ty26→Rz:=fun (a0n,a0b,a0p,a0w,a0o,a0l)=>(cond (a0l==(0:Int)) (some ((.int .i64 22),[(dB 1 a0n 2 3 true a0l),(bB a0b),(pB a0p),(wB a0w)])) (cond (decide (a0l > (0:Int))) (some ((.int .i64 0),[(dB 1 a0n 2 3 a0o (IntKind.i64.wrap (a0l-(1:Int)))),(bB a0b),(pB a0p),(wB a0w)])) (some ((.int .i64 0),[(dB 1 a0n 2 3 a0o a0l),(bB a0b),(pB a0p),(wB a0w)]))))
theorem f67_1_eq(F:Nat):∀ v,aexec V67 (Af67 F) (sub (bodyOf Tryd.f67) []) (ef67_a v) Kf25=f67_1 F v:=by
 rintro⟨a0n,a0b,a0p,a0w,a0o,a0l⟩;kernel_rfl
def f67(F:Nat):Ty26→Rz:=f67_1 F
theorem f67_body(F a0n:Nat)(a0b:Li)(a0p a0w:Lp)(a0o:Bool)(a0l:Int):abody V67 (Af67 F) Tryd.f67 [(.ptr 0 0 5 0 0 0 5)] [(dB 1 a0n 2 3 a0o a0l),(bB a0b),(pB a0p),(wB a0w)]=f67 F (a0n,a0b,a0p,a0w,a0o,a0l):=
 (abody_in (by kernel_rfl) (by kernel_rfl)).trans (f67_1_eq F (a0n,a0b,a0p,a0w,a0o,a0l))
def r67:CRun:=fun X H=>match X,H with
 | [(.ptr 0 0 5 0 0 0 5)],[(.cells 5 (.segs (.cons 1 (.one (.own 1 a0n 64)) (.cons 1 (.one (.mp 2)) (.cons 1 (.one (.mp 3)) (.cons 1 (.one (.bool a0o)) (.cons 1 (.one (.int .i64 a0l)) .nil)))))) true),(.cells z1 (.rI .u8 a0b) true),(.cells 0 (.rM .i64 0 (.arr .u8 64) a0p) true),(.cells 0 (.rM .i64 0 .bool a0w) true)]=>some (true,(.int .i64 (Dk.step (Dk.D.mk a0n a0b a0p a0w a0o a0l)).2),[(dE 1 (Dk.step (Dk.D.mk a0n a0b a0p a0w a0o a0l)).1 2 3),(.cells (Dk.step (Dk.D.mk a0n a0b a0p a0w a0o a0l)).1.blk.length (.rI .u8 (Dk.step (Dk.D.mk a0n a0b a0p a0w a0o a0l)).1.blk) true),(pB (Dk.step (Dk.D.mk a0n a0b a0p a0w a0o a0l)).1.pend),(wB (Dk.step (Dk.D.mk a0n a0b a0p a0w a0o a0l)).1.worn)])
 | _,_=>none
theorem s67(a0n:Nat)(a0b:Li)(a0p a0w:Lp)(a0o:Bool)(a0l:Int)(k0:okB (dB 1 a0n 2 3 a0o a0l))(k1:okB (bB a0b))(k2:okB (pB a0p))(k3:okB (wB a0w)):∃ F,f67 F (a0n,a0b,a0p,a0w,a0o,a0l)=some ((.int .i64 (Dk.step (Dk.D.mk a0n a0b a0p a0w a0o a0l)).2),[(dE 1 (Dk.step (Dk.D.mk a0n a0b a0p a0w a0o a0l)).1 2 3),(.cells (Dk.step (Dk.D.mk a0n a0b a0p a0w a0o a0l)).1.blk.length (.rI .u8 (Dk.step (Dk.D.mk a0n a0b a0p a0w a0o a0l)).1.blk) true),(pB (Dk.step (Dk.D.mk a0n a0b a0p a0w a0o a0l)).1.pend),(wB (Dk.step (Dk.D.mk a0n a0b a0p a0w a0o a0l)).1.worn)]):=by
 refine⟨0,?_⟩
 simp only [f67,f67_1,Dk.step]
 cases (a0l==0)
 ·cases (decide (a0l > 0)) <;> rfl
 ·rfl
theorem c67:CallOk Tryd.prog G36 67 r67:=callOk_of mixed tys eV67 Tryd.func67 (by kernel_rfl) (c:=sub (bodyOf Tryd.f67) []) (by kernel_rfl) (by
 intro X H r H' h hX hH
 unfold r67 at h;split at h <;> try contradiction
 ·obtain⟨hp,rfl,rfl⟩:=inj3 h
  obtain rfl:=okB_size (hH _ hm1) rfl
  obtain⟨F,hF⟩:=s67 _ _ _ _ _ _ (hH _ hm0) (hH _ hm1) (hH _ hm2) (hH _ hm3)
  exact⟨Af67 F,(f67_body F _ _ _ _ _ _).trans hF⟩)
def lV75:List CEnt:=[]
def V75:Env:=mkEnv T36 G36 lV75
noncomputable abbrev Kf26:=kFin V75 none (Tryd.f75).results.toList
theorem eV75:EOk Tryd.prog V75:=eok_mk (by exact trivial)
def Af75(F:Nat):Cuts:={ F:=F,at_:=fun _=>none,join:=fun _=>none }
def ef75_a:Ty28→St:=fun a0=>⟨[(0,.mp 0)],[(0,(pB a0))],1,4,1⟩
def f75_1(F:Nat):Ty28→Rz:=fun a0=>(some ((.fn 80 (.cons 0 (.ptr 1 0 1 0 0 0 1) .nil)),[(pB a0),(.cells 1 (.one (.mp 0)) true)]))
theorem f75_1_eq(F:Nat):∀ v,aexec V75 (Af75 F) (sub (bodyOf Tryd.f75) []) (ef75_a v) Kf26=f75_1 F v:=by
 intro a0;kernel_rfl
def f75(F:Nat):Ty28→Rz:=f75_1 F
theorem f75_body(F:Nat)(a0:Lp):abody V75 (Af75 F) Tryd.f75 [(.mp 0)] [(pB a0)]=f75 F a0:=
 (abody_in (c:=(sub (bodyOf Tryd.f75) [])) (by kernel_rfl) (s:=ef75_a a0) (by kernel_rfl)).trans (f75_1_eq F a0)
def r75:CRun:=fun X H=>match X,H with
 | [(.mp 0)],[(.cells 0 (.rM .i64 0 (.arr .u8 64) a0) true)]=>some (true,(.fn 80 (.cons 0 (.ptr 1 0 1 0 0 0 1) .nil)),[(pB a0),(.cells 1 (.one (.mp 0)) true)])
 | _,_=>none
theorem s75(a0:Lp)(k0:okB (pB a0)):∃ F,f75 F a0=some ((.fn 80 (.cons 0 (.ptr 1 0 1 0 0 0 1) .nil)),[(pB a0),(.cells 1 (.one (.mp 0)) true)]):=by exact⟨0,rfl⟩
theorem c75:CallOk Tryd.prog G36 75 r75:=callOk_of mixed tys eV75 Tryd.func75 (by kernel_rfl) (c:=sub (bodyOf Tryd.f75) []) (by kernel_rfl) (by
 intro X H r H' h hX hH
 unfold r75 at h;split at h <;> try contradiction
 ·obtain⟨hp,rfl,rfl⟩:=inj3 h
  obtain⟨F,hF⟩:=s75 _ (hH _ hm0)
  exact⟨Af75 F,(f75_body F _).trans hF⟩)
def r74:CRun:=runSorted [80]
theorem c74:CallOk Tryd.prog G36 74 r74:=sorted_ok Tryd.sortedA Tryd.sortsA (enters_of Tryd.func79 (by kernel_rfl) rfl) fun f hf=>by
 simp only [List.mem_cons,List.not_mem_nil,or_false] at hf
 subst hf
 exact⟨enters_of Tryd.func80 (by kernel_rfl) rfl,Tryd.keys75_ren,{ Tryd.keys75 with },rfl,rfl⟩
def lV68:List CEnt:=[(74,[none],r74),(75,[none],r75)]
def V68:Env:=mkEnv T36 G36 lV68
noncomputable abbrev Kf27:=kFin V68 none (Tryd.f68).results.toList
theorem eV68:EOk Tryd.prog V68:=eok_mk (by exact⟨c74,c75,trivial⟩)
def Af68(F:Nat):Cuts:={ F:=F,at_:=fun _=>none,join:=fun _=>none }
def ef68_a:Ty26→St:=fun (a0n,a0b,a0p,a0w,a0o,a0l)=>⟨[(0,.ptr 0 0 5 0 0 0 5)],[(0,(dB 1 a0n 2 3 a0o a0l)),(1,(bB a0b)),(2,(pB a0p)),(3,(wB a0w))],4,9,4⟩
def f68_1(F:Nat):Ty26→Rz:=fun (a0n,a0b,a0p,a0w,a0o,a0l)=>(cond (decide (a0p.length < 1073741824)) (some ((.vs (.rI .i64 (sortI (keyInts a0p))) 0 1),[(dB 1 a0n 2 3 a0o a0l),(bB a0b),(pB a0p),(wB a0w)])) none)
theorem f68_1_eq(F:Nat):∀ v,aexec V68 (Af68 F) (sub (bodyOf Tryd.f68) []) (ef68_a v) Kf27=f68_1 F v:=by
 rintro⟨a0n,a0b,a0p,a0w,a0o,a0l⟩;kernel_rfl
def f68(F:Nat):Ty26→Rz:=f68_1 F
theorem f68_body(F a0n:Nat)(a0b:Li)(a0p a0w:Lp)(a0o:Bool)(a0l:Int):abody V68 (Af68 F) Tryd.f68 [(.ptr 0 0 5 0 0 0 5)] [(dB 1 a0n 2 3 a0o a0l),(bB a0b),(pB a0p),(wB a0w)]=f68 F (a0n,a0b,a0p,a0w,a0o,a0l):=
 (abody_in (by kernel_rfl) (by kernel_rfl)).trans (f68_1_eq F (a0n,a0b,a0p,a0w,a0o,a0l))
def r68:CRun:=fun X H=>match X,H with
 | [(.ptr 0 0 5 0 0 0 5)],[(.cells 5 (.segs (.cons 1 (.one (.own 1 a0n 64)) (.cons 1 (.one (.mp 2)) (.cons 1 (.one (.mp 3)) (.cons 1 (.one (.bool a0o)) (.cons 1 (.one (.int .i64 a0l)) .nil)))))) true),(.cells z1 (.rI .u8 a0b) true),(.cells 0 (.rM .i64 0 (.arr .u8 64) a0p) true),(.cells 0 (.rM .i64 0 .bool a0w) true)]=>some ((decide ((Dk.D.mk a0n a0b a0p a0w a0o a0l).pend.length < 1073741824)),(.vs (.rI .i64 (Dk.pending (Dk.D.mk a0n a0b a0p a0w a0o a0l))) 0 1),[(dE 1 (Dk.D.mk a0n a0b a0p a0w a0o a0l) 2 3),(.cells (Dk.D.mk a0n a0b a0p a0w a0o a0l).blk.length (.rI .u8 (Dk.D.mk a0n a0b a0p a0w a0o a0l).blk) true),(pB (Dk.D.mk a0n a0b a0p a0w a0o a0l).pend),(wB (Dk.D.mk a0n a0b a0p a0w a0o a0l).worn)])
 | _,_=>none
theorem s68(a0n:Nat)(a0b:Li)(a0p a0w:Lp)(a0o:Bool)(a0l:Int)(hp:((decide ((Dk.D.mk a0n a0b a0p a0w a0o a0l).pend.length < 1073741824)))=true)(k0:okB (dB 1 a0n 2 3 a0o a0l))(k1:okB (bB a0b))(k2:okB (pB a0p))(k3:okB (wB a0w)):∃ F,f68 F (a0n,a0b,a0p,a0w,a0o,a0l)=some ((.vs (.rI .i64 (Dk.pending (Dk.D.mk a0n a0b a0p a0w a0o a0l))) 0 1),[(dE 1 (Dk.D.mk a0n a0b a0p a0w a0o a0l) 2 3),(.cells (Dk.D.mk a0n a0b a0p a0w a0o a0l).blk.length (.rI .u8 (Dk.D.mk a0n a0b a0p a0w a0o a0l).blk) true),(pB (Dk.D.mk a0n a0b a0p a0w a0o a0l).pend),(wB (Dk.D.mk a0n a0b a0p a0w a0o a0l).worn)]):=by exact⟨0,by simp only [f68,f68_1];rw [hp];rfl⟩
theorem c68:CallOk Tryd.prog G36 68 r68:=callOk_of mixed tys eV68 Tryd.func68 (by kernel_rfl) (c:=sub (bodyOf Tryd.f68) []) (by kernel_rfl) (by
 intro X H r H' h hX hH
 unfold r68 at h;split at h <;> try contradiction
 ·obtain⟨hp,rfl,rfl⟩:=inj3 h
  obtain rfl:=okB_size (hH _ hm1) rfl
  obtain⟨F,hF⟩:=s68 _ _ _ _ _ _ hp (hH _ hm0) (hH _ hm1) (hH _ hm2) (hH _ hm3)
  exact⟨Af68 F,(f68_body F _ _ _ _ _ _).trans hF⟩)
def lV69:List CEnt:=[]
def V69:Env:=mkEnv T36 G36 lV69
noncomputable abbrev Kf28:=kFin V69 none (Tryd.f69).results.toList
theorem eV69:EOk Tryd.prog V69:=eok_mk (by exact trivial)
def Af69(F:Nat):Cuts:={ F:=F,at_:=fun _=>none,join:=fun _=>none }
def ef69_a:Ty29→St:=fun (a0n,a0b,a0p,a0w,a0o,a0l,a1,a2)=>⟨[(0,.ptr 0 0 5 0 0 0 5),(1,.int .i64 a1),(2,.int .i64 a2)],[(0,(dB 1 a0n 2 3 a0o a0l)),(1,(bB a0b)),(2,(pB a0p)),(3,(wB a0w))],4,48,4⟩
def f69_1(F:Nat):Ty29→Rz:=fun (a0n,a0b,a0p,a0w,a0o,a0l,a1,a2)=>(cond (!((mget (mzero .bool) a0w [a1]).getD 0 0==1)) (cond ((decide (0≤a1))&&(decide (a1 < (↑a0n:Int)))) (cond (!(((mget (mzero (.arr .u8 64)) a0p [a1]):Li)==((a0b.drop ((Int.toNat a1)*64)).take 64))) (cond ((decide (0≤a1))&&(decide (a1 < (↑a0n:Int)))) (cond ((decide ((0:Int)≤(if (if (64:Int) < a2 then (64:Int) else a2) > (0:Int) then (if (64:Int) < a2 then (64:Int) else a2) else (0:Int))))&&(decide ((if (if (64:Int) < a2 then (64:Int) else a2) > (0:Int) then (if (64:Int) < a2 then (64:Int) else a2) else (0:Int))≤(64:Int)))) (some ((.tup .nil),[(dB 1 a0n 2 3 a0o a0l),(.cells a0b.length (.rI .u8 (a0b.take (0+(0+((Int.toNat a1)*64)))++(((mget (mzero (.arr .u8 64)) a0p [a1]).take 64).take (min 64 (Int.toNat (if (if (64:Int) < a2 then (64:Int) else a2) > (0:Int) then (if (64:Int) < a2 then (64:Int) else a2) else (0:Int)))))++a0b.drop ((0+(0+((Int.toNat a1)*64)))+(min 64 (Int.toNat (if (if (64:Int) < a2 then (64:Int) else a2) > (0:Int) then (if (64:Int) < a2 then (64:Int) else a2) else (0:Int))))))) true),(pB (mdel a0p [a1])),(wB a0w)])) none) none) (some ((.tup .nil),[(dB 1 a0n 2 3 a0o a0l),(bB a0b),(pB (mdel a0p [a1])),(wB a0w)]))) none) (some ((.tup .nil),[(dB 1 a0n 2 3 a0o a0l),(bB a0b),(pB (mdel a0p [a1])),(wB a0w)])))
theorem f69_1_eq(F:Nat):∀ v,aexec V69 (Af69 F) (sub (bodyOf Tryd.f69) []) (ef69_a v) Kf28=f69_1 F v:=by
 rintro⟨a0n,a0b,a0p,a0w,a0o,a0l,a1,a2⟩;kernel_rfl
def f69(F:Nat):Ty29→Rz:=f69_1 F
theorem f69_body(F a0n:Nat)(a0b:Li)(a0p a0w:Lp)(a0o:Bool)(a0l a1 a2:Int):abody V69 (Af69 F) Tryd.f69 [(.ptr 0 0 5 0 0 0 5),.int .i64 a1,.int .i64 a2] [(dB 1 a0n 2 3 a0o a0l),(bB a0b),(pB a0p),(wB a0w)]=f69 F (a0n,a0b,a0p,a0w,a0o,a0l,a1,a2):=
 (abody_in (by kernel_rfl) (by kernel_rfl)).trans (f69_1_eq F (a0n,a0b,a0p,a0w,a0o,a0l,a1,a2))
def r69:CRun:=fun X H=>match X,H with
 | [(.ptr 0 0 5 0 0 0 5),.int .i64 a1,.int .i64 a2],[(.cells 5 (.segs (.cons 1 (.one (.own 1 a0n 64)) (.cons 1 (.one (.mp 2)) (.cons 1 (.one (.mp 3)) (.cons 1 (.one (.bool a0o)) (.cons 1 (.one (.int .i64 a0l)) .nil)))))) true),(.cells z1 (.rI .u8 a0b) true),(.cells 0 (.rM .i64 0 (.arr .u8 64) a0p) true),(.cells 0 (.rM .i64 0 .bool a0w) true)]=>some ((Dk.inD (Dk.D.mk a0n a0b a0p a0w a0o a0l) a1)&&(decide ((Dk.D.mk a0n a0b a0p a0w a0o a0l).blk.length=(Dk.D.mk a0n a0b a0p a0w a0o a0l).n*64)),.tup .nil,[(dE 1 (Dk.settle (Dk.D.mk a0n a0b a0p a0w a0o a0l) a1 a2) 2 3),(.cells (Dk.settle (Dk.D.mk a0n a0b a0p a0w a0o a0l) a1 a2).blk.length (.rI .u8 (Dk.settle (Dk.D.mk a0n a0b a0p a0w a0o a0l) a1 a2).blk) true),(pB (Dk.settle (Dk.D.mk a0n a0b a0p a0w a0o a0l) a1 a2).pend),(wB (Dk.settle (Dk.D.mk a0n a0b a0p a0w a0o a0l) a1 a2).worn)])
 | _,_=>none
theorem s69(a0n:Nat)(a0b:Li)(a0p a0w:Lp)(a0o:Bool)(a0l a1 a2:Int)(hp:((Dk.inD (Dk.D.mk a0n a0b a0p a0w a0o a0l) a1)&&(decide ((Dk.D.mk a0n a0b a0p a0w a0o a0l).blk.length=(Dk.D.mk a0n a0b a0p a0w a0o a0l).n*64)))=true)(h1:okV (.int .i64 a1))(h2:okV (.int .i64 a2))(k0:okB (dB 1 a0n 2 3 a0o a0l))(k1:okB (bB a0b))(k2:okB (pB a0p))(k3:okB (wB a0w)):∃ F,f69 F (a0n,a0b,a0p,a0w,a0o,a0l,a1,a2)=some ((.tup .nil),[(dE 1 (Dk.settle (Dk.D.mk a0n a0b a0p a0w a0o a0l) a1 a2) 2 3),(.cells (Dk.settle (Dk.D.mk a0n a0b a0p a0w a0o a0l) a1 a2).blk.length (.rI .u8 (Dk.settle (Dk.D.mk a0n a0b a0p a0w a0o a0l) a1 a2).blk) true),(pB (Dk.settle (Dk.D.mk a0n a0b a0p a0w a0o a0l) a1 a2).pend),(wB (Dk.settle (Dk.D.mk a0n a0b a0p a0w a0o a0l) a1 a2).worn)]):=by
 refine⟨0,?_⟩
 have hin:(decide (0≤a1)&&decide (a1 < (a0n:Int)))=true:=(Bool.and_eq_true_iff.1 hp).1
 have hl:a0b.length=a0n*64:=of_decide_eq_true (Bool.and_eq_true_iff.1 hp).2
 have hi:=hin
 rw [dec_and,decide_eq_true_iff] at hi
 have hz:=Dk.putsec_len (b:=a0b) (i:=a1.toNat) (m:=min 64 (Dk.clamp a2)) (Dk.mget64 (Dk.vals64 k2) [a1]) (by omega) (by omega)
 simp only [f69,f69_1,Dk.settle,Dk.isW,Dk.nxt,Dk.sec,Dk.putsec,Nat.zero_add,mzero]
 rw [hin]
 cases (!((mget [0] a0w [a1]).getD 0 0==1))
 ·rfl
 ·cases (!(mget (List.replicate 64 0) a0p [a1]==List.take 64 (List.drop (a1.toNat*64) a0b)))
  ·rfl
  ·have e:(decide (0≤(if (if 64 < a2 then 64 else a2) > 0 then (if 64 < a2 then 64 else a2) else 0))&&decide ((if (if 64 < a2 then 64 else a2) > 0 then (if 64 < a2 then 64 else a2) else 0)≤64))=true:=by
    rw [dec_and,decide_eq_true_iff];constructor <;> (split <;> (try split) <;> omega)
   simp only [cond_true]
   rw [e]
   simp only [cond_true]
   simp only [Dk.putsec] at hz
   rw [hz];rfl
theorem c69:CallOk Tryd.prog G36 69 r69:=callOk_of mixed tys eV69 Tryd.func69 (by kernel_rfl) (c:=sub (bodyOf Tryd.f69) []) (by kernel_rfl) (by
 intro X H r H' h hX hH
 unfold r69 at h;split at h <;> try contradiction
 ·obtain⟨hp,rfl,rfl⟩:=inj3 h
  obtain rfl:=okB_size (hH _ hm1) rfl
  obtain⟨F,hF⟩:=s69 _ _ _ _ _ _ _ _ hp (hX _ hm1) (hX _ hm2) (hH _ hm0) (hH _ hm1) (hH _ hm2) (hH _ hm3)
  exact⟨Af69 F,(f69_body F _ _ _ _ _ _ _ _).trans hF⟩)
def lV33:List CEnt:=[(51,[none,none],r51)]
def V33:Env:=mkEnv T36 G36 lV33
noncomputable abbrev Kf29:=kFin V33 none (Tryd.f33).results.toList
theorem eV33:EOk Tryd.prog V33:=eok_mk (by exact⟨c51,trivial⟩)
def Af33(F:Nat):Cuts:={ F:=F,at_:=fun _=>none,join:=fun _=>none }
def ef33_a:Ty27→St:=fun (a0n,a0b,a0p,a0w,a0o,a0l,a1)=>⟨[(0,.ptr 0 0 5 0 0 0 5),(1,.int .i64 a1)],[(0,(dB 1 a0n 2 3 a0o a0l)),(1,(bB a0b)),(2,(pB a0p)),(3,(wB a0w))],4,35,4⟩
def f33_1(F:Nat):Ty27→Rz:=fun (a0n,a0b,a0p,a0w,a0o,a0l,a1)=>(cond ((Dk.check (Dk.D.mk a0n a0b a0p a0w a0o a0l) a1) != (0:Int)) (some ((.tup (.cons 0 (.str []) (.cons 0 (.int .i64 (Dk.check (Dk.D.mk a0n a0b a0p a0w a0o a0l) a1)) .nil))),[(dE 1 (Dk.D.mk a0n a0b a0p a0w a0o a0l) 2 3),(.cells (Dk.D.mk a0n a0b a0p a0w a0o a0l).blk.length (.rI .u8 (Dk.D.mk a0n a0b a0p a0w a0o a0l).blk) true),(pB (Dk.D.mk a0n a0b a0p a0w a0o a0l).pend),(wB (Dk.D.mk a0n a0b a0p a0w a0o a0l).worn)])) (cond (mhas (Dk.D.mk a0n a0b a0p a0w a0o a0l).pend [a1]) (some ((.tup (.cons 0 (.str ((mget (mzero (.arr .u8 64)) (Dk.D.mk a0n a0b a0p a0w a0o a0l).pend [a1]).take 64)) (.cons 0 (.int .i64 0) .nil))),[(dE 1 (Dk.D.mk a0n a0b a0p a0w a0o a0l) 2 3),(.cells (Dk.D.mk a0n a0b a0p a0w a0o a0l).blk.length (.rI .u8 (Dk.D.mk a0n a0b a0p a0w a0o a0l).blk) true),(pB (Dk.D.mk a0n a0b a0p a0w a0o a0l).pend),(wB (Dk.D.mk a0n a0b a0p a0w a0o a0l).worn)])) (cond ((decide (0≤a1))&&(decide (a1 < (↑(Dk.D.mk a0n a0b a0p a0w a0o a0l).n:Int)))) (some ((.tup (.cons 0 (.str (((Dk.D.mk a0n a0b a0p a0w a0o a0l).blk.drop (0+(0+((Int.toNat a1)*64)))).take 64)) (.cons 0 (.int .i64 0) .nil))),[(dE 1 (Dk.D.mk a0n a0b a0p a0w a0o a0l) 2 3),(.cells (Dk.D.mk a0n a0b a0p a0w a0o a0l).blk.length (.rI .u8 (Dk.D.mk a0n a0b a0p a0w a0o a0l).blk) true),(pB (Dk.D.mk a0n a0b a0p a0w a0o a0l).pend),(wB (Dk.D.mk a0n a0b a0p a0w a0o a0l).worn)])) none)))
theorem f33_1_eq(F:Nat):∀ v,aexec V33 (Af33 F) (sub (bodyOf Tryd.f33) []) (ef33_a v) Kf29=f33_1 F v:=by
 rintro⟨a0n,a0b,a0p,a0w,a0o,a0l,a1⟩;kernel_rfl
def f33(F:Nat):Ty27→Rz:=f33_1 F
theorem f33_body(F a0n:Nat)(a0b:Li)(a0p a0w:Lp)(a0o:Bool)(a0l a1:Int):abody V33 (Af33 F) Tryd.f33 [(.ptr 0 0 5 0 0 0 5),.int .i64 a1] [(dB 1 a0n 2 3 a0o a0l),(bB a0b),(pB a0p),(wB a0w)]=f33 F (a0n,a0b,a0p,a0w,a0o,a0l,a1):=
 (abody_in (by kernel_rfl) (by kernel_rfl)).trans (f33_1_eq F (a0n,a0b,a0p,a0w,a0o,a0l,a1))
def r33:CRun:=fun X H=>match X,H with
 | [(.ptr 0 0 5 0 0 0 5),.int .i64 a1],[(.cells 5 (.segs (.cons 1 (.one (.own 1 a0n 64)) (.cons 1 (.one (.mp 2)) (.cons 1 (.one (.mp 3)) (.cons 1 (.one (.bool a0o)) (.cons 1 (.one (.int .i64 a0l)) .nil)))))) true),(.cells z1 (.rI .u8 a0b) true),(.cells 0 (.rM .i64 0 (.arr .u8 64) a0p) true),(.cells 0 (.rM .i64 0 .bool a0w) true)]=>some (true,(.tup (.cons 0 (.str (Dk.read (Dk.D.mk a0n a0b a0p a0w a0o a0l) a1).1) (.cons 0 (.int .i64 (Dk.read (Dk.D.mk a0n a0b a0p a0w a0o a0l) a1).2) .nil))),[(dE 1 (Dk.D.mk a0n a0b a0p a0w a0o a0l) 2 3),(.cells (Dk.D.mk a0n a0b a0p a0w a0o a0l).blk.length (.rI .u8 (Dk.D.mk a0n a0b a0p a0w a0o a0l).blk) true),(pB (Dk.D.mk a0n a0b a0p a0w a0o a0l).pend),(wB (Dk.D.mk a0n a0b a0p a0w a0o a0l).worn)])
 | _,_=>none
theorem s33(a0n:Nat)(a0b:Li)(a0p a0w:Lp)(a0o:Bool)(a0l a1:Int)(h1:okV (.int .i64 a1))(k0:okB (dB 1 a0n 2 3 a0o a0l))(k1:okB (bB a0b))(k2:okB (pB a0p))(k3:okB (wB a0w)):∃ F,f33 F (a0n,a0b,a0p,a0w,a0o,a0l,a1)=some ((.tup (.cons 0 (.str (Dk.read (Dk.D.mk a0n a0b a0p a0w a0o a0l) a1).1) (.cons 0 (.int .i64 (Dk.read (Dk.D.mk a0n a0b a0p a0w a0o a0l) a1).2) .nil))),[(dE 1 (Dk.D.mk a0n a0b a0p a0w a0o a0l) 2 3),(.cells (Dk.D.mk a0n a0b a0p a0w a0o a0l).blk.length (.rI .u8 (Dk.D.mk a0n a0b a0p a0w a0o a0l).blk) true),(pB (Dk.D.mk a0n a0b a0p a0w a0o a0l).pend),(wB (Dk.D.mk a0n a0b a0p a0w a0o a0l).worn)]):=by
 refine⟨0,?_⟩
 simp only [f33,f33_1,Dk.read,Dk.isP,Dk.nxt,Dk.sec,Nat.zero_add,mzero]
 by_cases hc:Dk.check (Dk.D.mk a0n a0b a0p a0w a0o a0l) a1=0
 ·obtain⟨h1,h2,h3⟩:=Dk.check_ok hc
  have e:(decide (0≤a1)&&decide (a1 < (a0n:Int)))=true:=by simp;exact⟨h2,h3⟩
  rw [hc,e]
  cases mhas a0p [a1] <;> rfl
 ·have e:(Dk.check (Dk.D.mk a0n a0b a0p a0w a0o a0l) a1 != 0)=true:=by simp [hc]
  rw [e];rfl
theorem c33:CallOk Tryd.prog G36 33 r33:=callOk_of mixed tys eV33 Tryd.func33 (by kernel_rfl) (c:=sub (bodyOf Tryd.f33) []) (by kernel_rfl) (by
 intro X H r H' h hX hH
 unfold r33 at h;split at h <;> try contradiction
 ·obtain⟨hp,rfl,rfl⟩:=inj3 h
  obtain rfl:=okB_size (hH _ hm1) rfl
  obtain⟨F,hF⟩:=s33 _ _ _ _ _ _ _ (hX _ hm1) (hH _ hm0) (hH _ hm1) (hH _ hm2) (hH _ hm3)
  exact⟨Af33 F,(f33_body F _ _ _ _ _ _ _).trans hF⟩)
def lV53:List CEnt:=[(51,[none,none],r51),(67,[none],r67)]
def V53:Env:=mkEnv T36 G36 lV53
noncomputable abbrev Kf30:=kFin V53 none (Tryd.f53).results.toList
theorem eV53:EOk Tryd.prog V53:=eok_mk (by exact⟨c51,c67,trivial⟩)
def Af53(F:Nat):Cuts:={ F:=F,at_:=fun _=>none,join:=fun _=>none }
def ef53_a:Ty30→St:=fun (a0n,a0b,a0p,a0w,a0o,a0l,a1,a2)=>⟨[(0,.ptr 0 0 5 0 0 0 5),(1,.int .i64 a1),(2,.str a2)],[(0,(dB 1 a0n 2 3 a0o a0l)),(1,(bB a0b)),(2,(pB a0p)),(3,(wB a0w))],4,32,4⟩
def f53_1(F:Nat):Ty30→Rz:=fun (a0n,a0b,a0p,a0w,a0o,a0l,a1,a2)=>(cond ((Dk.check (Dk.D.mk a0n a0b a0p a0w a0o a0l) a1) != (0:Int)) (some ((.int .i64 (Dk.check (Dk.D.mk a0n a0b a0p a0w a0o a0l) a1)),[(dE 1 (Dk.D.mk a0n a0b a0p a0w a0o a0l) 2 3),(.cells (Dk.D.mk a0n a0b a0p a0w a0o a0l).blk.length (.rI .u8 (Dk.D.mk a0n a0b a0p a0w a0o a0l).blk) true),(pB (Dk.D.mk a0n a0b a0p a0w a0o a0l).pend),(wB (Dk.D.mk a0n a0b a0p a0w a0o a0l).worn)])) (cond ((↑a2.length:Int) != (64:Int)) (some ((.int .i64 1),[(dE 1 (Dk.D.mk a0n a0b a0p a0w a0o a0l) 2 3),(.cells (Dk.D.mk a0n a0b a0p a0w a0o a0l).blk.length (.rI .u8 (Dk.D.mk a0n a0b a0p a0w a0o a0l).blk) true),(pB (Dk.D.mk a0n a0b a0p a0w a0o a0l).pend),(wB (Dk.D.mk a0n a0b a0p a0w a0o a0l).worn)])) (cond ((Dk.step (Dk.D.mk a0n a0b a0p a0w a0o a0l)).2 != (0:Int)) (some ((.int .i64 (Dk.step (Dk.D.mk a0n a0b a0p a0w a0o a0l)).2),[(dE 1 (Dk.step (Dk.D.mk a0n a0b a0p a0w a0o a0l)).1 2 3),(.cells (Dk.step (Dk.D.mk a0n a0b a0p a0w a0o a0l)).1.blk.length (.rI .u8 (Dk.step (Dk.D.mk a0n a0b a0p a0w a0o a0l)).1.blk) true),(pB (Dk.step (Dk.D.mk a0n a0b a0p a0w a0o a0l)).1.pend),(wB (Dk.step (Dk.D.mk a0n a0b a0p a0w a0o a0l)).1.worn)])) (cond (decide (64≤a2.length)) (some ((.int .i64 0),[(dE 1 (Dk.step (Dk.D.mk a0n a0b a0p a0w a0o a0l)).1 2 3),(.cells (Dk.step (Dk.D.mk a0n a0b a0p a0w a0o a0l)).1.blk.length (.rI .u8 (Dk.step (Dk.D.mk a0n a0b a0p a0w a0o a0l)).1.blk) true),(pB (mput (Dk.step (Dk.D.mk a0n a0b a0p a0w a0o a0l)).1.pend [a1] (a2.take 64))),(wB (Dk.step (Dk.D.mk a0n a0b a0p a0w a0o a0l)).1.worn)])) none))))
theorem f53_1_eq(F:Nat):∀ v,aexec V53 (Af53 F) (sub (bodyOf Tryd.f53) []) (ef53_a v) Kf30=f53_1 F v:=by
 rintro⟨a0n,a0b,a0p,a0w,a0o,a0l,a1,a2⟩;kernel_rfl
def f53(F:Nat):Ty30→Rz:=f53_1 F
theorem f53_body(F a0n:Nat)(a0b:Li)(a0p a0w:Lp)(a0o:Bool)(a0l a1:Int)(a2:Li):abody V53 (Af53 F) Tryd.f53 [(.ptr 0 0 5 0 0 0 5),.int .i64 a1,.str a2] [(dB 1 a0n 2 3 a0o a0l),(bB a0b),(pB a0p),(wB a0w)]=f53 F (a0n,a0b,a0p,a0w,a0o,a0l,a1,a2):=
 (abody_in (by kernel_rfl) (by kernel_rfl)).trans (f53_1_eq F (a0n,a0b,a0p,a0w,a0o,a0l,a1,a2))
def r53:CRun:=fun X H=>match X,H with
 | [(.ptr 0 0 5 0 0 0 5),.int .i64 a1,.str a2],[(.cells 5 (.segs (.cons 1 (.one (.own 1 a0n 64)) (.cons 1 (.one (.mp 2)) (.cons 1 (.one (.mp 3)) (.cons 1 (.one (.bool a0o)) (.cons 1 (.one (.int .i64 a0l)) .nil)))))) true),(.cells z1 (.rI .u8 a0b) true),(.cells 0 (.rM .i64 0 (.arr .u8 64) a0p) true),(.cells 0 (.rM .i64 0 .bool a0w) true)]=>some (true,(.int .i64 (Dk.write (Dk.D.mk a0n a0b a0p a0w a0o a0l) a1 a2).2),[(dE 1 (Dk.write (Dk.D.mk a0n a0b a0p a0w a0o a0l) a1 a2).1 2 3),(.cells (Dk.write (Dk.D.mk a0n a0b a0p a0w a0o a0l) a1 a2).1.blk.length (.rI .u8 (Dk.write (Dk.D.mk a0n a0b a0p a0w a0o a0l) a1 a2).1.blk) true),(pB (Dk.write (Dk.D.mk a0n a0b a0p a0w a0o a0l) a1 a2).1.pend),(wB (Dk.write (Dk.D.mk a0n a0b a0p a0w a0o a0l) a1 a2).1.worn)])
 | _,_=>none
theorem s53(a0n:Nat)(a0b:Li)(a0p a0w:Lp)(a0o:Bool)(a0l a1:Int)(a2:Li)(h1:okV (.int .i64 a1))(h2:okV (.str a2))(k0:okB (dB 1 a0n 2 3 a0o a0l))(k1:okB (bB a0b))(k2:okB (pB a0p))(k3:okB (wB a0w)):∃ F,f53 F (a0n,a0b,a0p,a0w,a0o,a0l,a1,a2)=some ((.int .i64 (Dk.write (Dk.D.mk a0n a0b a0p a0w a0o a0l) a1 a2).2),[(dE 1 (Dk.write (Dk.D.mk a0n a0b a0p a0w a0o a0l) a1 a2).1 2 3),(.cells (Dk.write (Dk.D.mk a0n a0b a0p a0w a0o a0l) a1 a2).1.blk.length (.rI .u8 (Dk.write (Dk.D.mk a0n a0b a0p a0w a0o a0l) a1 a2).1.blk) true),(pB (Dk.write (Dk.D.mk a0n a0b a0p a0w a0o a0l) a1 a2).1.pend),(wB (Dk.write (Dk.D.mk a0n a0b a0p a0w a0o a0l) a1 a2).1.worn)]):=by
 refine⟨0,?_⟩
 simp only [f53,f53_1,Dk.write]
 cases hc:(Dk.check (Dk.D.mk a0n a0b a0p a0w a0o a0l) a1 != 0)
 ·cases hl:((a2.length:Int) != 64)
  ·cases hs:((Dk.step (Dk.D.mk a0n a0b a0p a0w a0o a0l)).2 != 0)
   ·have e:decide (64≤a2.length)=true:=by
     rw [decide_eq_true_iff]
     have:(a2.length:Int)=64:=by simpa using hl
     omega
    rw [e];rfl
   ·rfl
  ·rfl
 ·rfl
theorem c53:CallOk Tryd.prog G36 53 r53:=callOk_of mixed tys eV53 Tryd.func53 (by kernel_rfl) (c:=sub (bodyOf Tryd.f53) []) (by kernel_rfl) (by
 intro X H r H' h hX hH
 unfold r53 at h;split at h <;> try contradiction
 ·obtain⟨hp,rfl,rfl⟩:=inj3 h
  obtain rfl:=okB_size (hH _ hm1) rfl
  obtain⟨F,hF⟩:=s53 _ _ _ _ _ _ _ _ (hX _ hm1) (hX _ hm2) (hH _ hm0) (hH _ hm1) (hH _ hm2) (hH _ hm3)
  exact⟨Af53 F,(f53_body F _ _ _ _ _ _ _ _).trans hF⟩)
def lV24:List CEnt:=[]
def V24:Env:=mkEnv T36 G36 lV24
noncomputable abbrev Kf31:=kFin V24 none (Tryd.f24).results.toList
theorem eV24:EOk Tryd.prog V24:=eok_mk (by exact trivial)
def Af24(F:Nat):Cuts:={ F:=F,at_:=fun _=>none,join:=fun _=>none }
def ef24_a:Ty29→St:=fun (a0n,a0b,a0p,a0w,a0o,a0l,a1,a2)=>⟨[(0,.ptr 0 0 5 0 0 0 5),(1,.int .i64 a1),(2,.int .i64 a2)],[(0,(dB 1 a0n 2 3 a0o a0l)),(1,(bB a0b)),(2,(pB a0p)),(3,(wB a0w))],4,42,4⟩
def f24_1(F:Nat):Ty29→Rz:=fun (a0n,a0b,a0p,a0w,a0o,a0l,a1,a2)=>(cond (decide (a1 < (0:Int))) (some ((.int .i64 1),[(dB 1 a0n 2 3 a0o a0l),(bB a0b),(pB a0p),(wB a0w)])) (cond (decide (a1≥(↑a0n:Int))) (some ((.int .i64 1),[(dB 1 a0n 2 3 a0o a0l),(bB a0b),(pB a0p),(wB a0w)])) (cond (decide (a2 < (0:Int))) (some ((.int .i64 1),[(dB 1 a0n 2 3 a0o a0l),(bB a0b),(pB a0p),(wB a0w)])) (cond (decide (a2≥(512:Int))) (some ((.int .i64 1),[(dB 1 a0n 2 3 a0o a0l),(bB a0b),(pB a0p),(wB a0w)])) (cond ((decide (0≤a1))&&(decide (a1 < (↑a0n:Int)))) (cond ((decide (0≤(IntKind.i64.wrap (Int.tdiv a2 (8:Int)))))&&(decide ((IntKind.i64.wrap (Int.tdiv a2 (8:Int))) < (64:Int)))) (cond (decide (0≤(Int.tmod a2 (8:Int)))) (cond ((decide (0≤a1))&&(decide (a1 < (↑a0n:Int)))) (cond ((decide (0≤(IntKind.i64.wrap (Int.tdiv a2 (8:Int)))))&&(decide ((IntKind.i64.wrap (Int.tdiv a2 (8:Int))) < (64:Int)))) (some ((.int .i64 0),[(dB 1 a0n 2 3 a0o a0l),(.cells a0b.length (.rI .u8 (a0b.set ((Int.toNat (IntKind.i64.wrap (Int.tdiv a2 (8:Int))))+((Int.toNat a1)*64)) (ibits .xor .u8 (a0b.getD ((Int.toNat (IntKind.i64.wrap (Int.tdiv a2 (8:Int))))+((Int.toNat a1)*64)) 0) (IntKind.u8.wrap ((1:Int)*2^(min (Int.toNat (Int.tmod a2 (8:Int))) 8)))))) true),(pB a0p),(wB a0w)])) none) none) none) none) none)))))
theorem f24_1_eq(F:Nat):∀ v,aexec V24 (Af24 F) (sub (bodyOf Tryd.f24) []) (ef24_a v) Kf31=f24_1 F v:=by
 rintro⟨a0n,a0b,a0p,a0w,a0o,a0l,a1,a2⟩;kernel_rfl
def f24(F:Nat):Ty29→Rz:=f24_1 F
theorem f24_body(F a0n:Nat)(a0b:Li)(a0p a0w:Lp)(a0o:Bool)(a0l a1 a2:Int):abody V24 (Af24 F) Tryd.f24 [(.ptr 0 0 5 0 0 0 5),.int .i64 a1,.int .i64 a2] [(dB 1 a0n 2 3 a0o a0l),(bB a0b),(pB a0p),(wB a0w)]=f24 F (a0n,a0b,a0p,a0w,a0o,a0l,a1,a2):=
 (abody_in (by kernel_rfl) (by kernel_rfl)).trans (f24_1_eq F (a0n,a0b,a0p,a0w,a0o,a0l,a1,a2))
def r24:CRun:=fun X H=>match X,H with
 | [(.ptr 0 0 5 0 0 0 5),.int .i64 a1,.int .i64 a2],[(.cells 5 (.segs (.cons 1 (.one (.own 1 a0n 64)) (.cons 1 (.one (.mp 2)) (.cons 1 (.one (.mp 3)) (.cons 1 (.one (.bool a0o)) (.cons 1 (.one (.int .i64 a0l)) .nil)))))) true),(.cells z1 (.rI .u8 a0b) true),(.cells 0 (.rM .i64 0 (.arr .u8 64) a0p) true),(.cells 0 (.rM .i64 0 .bool a0w) true)]=>some (true,(.int .i64 (Dk.rot (Dk.D.mk a0n a0b a0p a0w a0o a0l) a1 a2).2),[(dE 1 (Dk.rot (Dk.D.mk a0n a0b a0p a0w a0o a0l) a1 a2).1 2 3),(.cells (Dk.rot (Dk.D.mk a0n a0b a0p a0w a0o a0l) a1 a2).1.blk.length (.rI .u8 (Dk.rot (Dk.D.mk a0n a0b a0p a0w a0o a0l) a1 a2).1.blk) true),(pB (Dk.rot (Dk.D.mk a0n a0b a0p a0w a0o a0l) a1 a2).1.pend),(wB (Dk.rot (Dk.D.mk a0n a0b a0p a0w a0o a0l) a1 a2).1.worn)])
 | _,_=>none
theorem s24(a0n:Nat)(a0b:Li)(a0p a0w:Lp)(a0o:Bool)(a0l a1 a2:Int)(h1:okV (.int .i64 a1))(h2:okV (.int .i64 a2))(k0:okB (dB 1 a0n 2 3 a0o a0l))(k1:okB (bB a0b))(k2:okB (pB a0p))(k3:okB (wB a0w)):∃ F,f24 F (a0n,a0b,a0p,a0w,a0o,a0l,a1,a2)=some ((.int .i64 (Dk.rot (Dk.D.mk a0n a0b a0p a0w a0o a0l) a1 a2).2),[(dE 1 (Dk.rot (Dk.D.mk a0n a0b a0p a0w a0o a0l) a1 a2).1 2 3),(.cells (Dk.rot (Dk.D.mk a0n a0b a0p a0w a0o a0l) a1 a2).1.blk.length (.rI .u8 (Dk.rot (Dk.D.mk a0n a0b a0p a0w a0o a0l) a1 a2).1.blk) true),(pB (Dk.rot (Dk.D.mk a0n a0b a0p a0w a0o a0l) a1 a2).1.pend),(wB (Dk.rot (Dk.D.mk a0n a0b a0p a0w a0o a0l) a1 a2).1.worn)]):=by
 refine⟨0,?_⟩
 simp only [f24,f24_1,Dk.rot]
 by_cases h1:a1 < 0
 ·simp only [cond_pos h1]
 ·by_cases h2:a1≥(a0n:Int)
  ·simp only [cond_neg h1,cond_pos h2]
  ·by_cases h3:a2 < 0
   ·simp only [cond_neg h1,cond_neg h2,cond_pos h3]
   ·by_cases h4:a2≥512
    ·simp only [cond_neg h1,cond_neg h2,cond_neg h3,cond_pos h4]
    ·have e8:Int.tdiv a2 8=a2 / 8:=tdiv_nn (by omega)
     have ew:IntKind.i64.wrap (Int.tdiv a2 8)=Int.tdiv a2 8:=i64w (by omega) (by omega)
     have em:0≤Int.tmod a2 8:=by rw [tmod_nn (by omega)];omega
     have ec:(decide (0≤a1)&&decide (a1 < (a0n:Int)))=true:=by simp;omega
     have ed:(decide (0≤Int.tdiv a2 8)&&decide (Int.tdiv a2 8 < 64))=true:=by rw [dec_and,decide_eq_true_iff];omega
     simp only [cond_neg h1,cond_neg h2,cond_neg h3,cond_neg h4,ew,ec,ed,cond_pos em,cond_true,Dk.place,Dk.bit,List.length_set]
theorem c24:CallOk Tryd.prog G36 24 r24:=callOk_of mixed tys eV24 Tryd.func24 (by kernel_rfl) (c:=sub (bodyOf Tryd.f24) []) (by kernel_rfl) (by
 intro X H r H' h hX hH
 unfold r24 at h;split at h <;> try contradiction
 ·obtain⟨hp,rfl,rfl⟩:=inj3 h
  obtain rfl:=okB_size (hH _ hm1) rfl
  obtain⟨F,hF⟩:=s24 _ _ _ _ _ _ _ _ (hX _ hm1) (hX _ hm2) (hH _ hm0) (hH _ hm1) (hH _ hm2) (hH _ hm3)
  exact⟨Af24 F,(f24_body F _ _ _ _ _ _ _ _).trans hF⟩)
def lV14:List CEnt:=[]
def V14:Env:=mkEnv T36 G36 lV14
noncomputable abbrev Kf32:=kFin V14 none (Tryd.f14).results.toList
theorem eV14:EOk Tryd.prog V14:=eok_mk (by exact trivial)
def Af14(F:Nat):Cuts:={ F:=F,at_:=fun _=>none,join:=fun _=>none }
def ef14_a:Ty27→St:=fun (a0n,a0b,a0p,a0w,a0o,a0l,a1)=>⟨[(0,.ptr 0 0 5 0 0 0 5),(1,.int .i64 a1)],[(0,(dB 1 a0n 2 3 a0o a0l)),(1,(bB a0b)),(2,(pB a0p)),(3,(wB a0w))],4,21,4⟩
def f14_1(F:Nat):Ty27→Rz:=fun (a0n,a0b,a0p,a0w,a0o,a0l,a1)=>(cond (decide (a1 < (0:Int))) (some ((.int .i64 1),[(dB 1 a0n 2 3 a0o a0l),(bB a0b),(pB a0p),(wB a0w)])) (cond (decide (a1≥(↑a0n:Int))) (some ((.int .i64 1),[(dB 1 a0n 2 3 a0o a0l),(bB a0b),(pB a0p),(wB a0w)])) (some ((.int .i64 0),[(dB 1 a0n 2 3 a0o a0l),(bB a0b),(pB a0p),(wB (mput a0w [a1] [(cond true 1 0)]))]))))
theorem f14_1_eq(F:Nat):∀ v,aexec V14 (Af14 F) (sub (bodyOf Tryd.f14) []) (ef14_a v) Kf32=f14_1 F v:=by
 rintro⟨a0n,a0b,a0p,a0w,a0o,a0l,a1⟩;kernel_rfl
def f14(F:Nat):Ty27→Rz:=f14_1 F
theorem f14_body(F a0n:Nat)(a0b:Li)(a0p a0w:Lp)(a0o:Bool)(a0l a1:Int):abody V14 (Af14 F) Tryd.f14 [(.ptr 0 0 5 0 0 0 5),.int .i64 a1] [(dB 1 a0n 2 3 a0o a0l),(bB a0b),(pB a0p),(wB a0w)]=f14 F (a0n,a0b,a0p,a0w,a0o,a0l,a1):=
 (abody_in (by kernel_rfl) (by kernel_rfl)).trans (f14_1_eq F (a0n,a0b,a0p,a0w,a0o,a0l,a1))
def r14:CRun:=fun X H=>match X,H with
 | [(.ptr 0 0 5 0 0 0 5),.int .i64 a1],[(.cells 5 (.segs (.cons 1 (.one (.own 1 a0n 64)) (.cons 1 (.one (.mp 2)) (.cons 1 (.one (.mp 3)) (.cons 1 (.one (.bool a0o)) (.cons 1 (.one (.int .i64 a0l)) .nil)))))) true),(.cells z1 (.rI .u8 a0b) true),(.cells 0 (.rM .i64 0 (.arr .u8 64) a0p) true),(.cells 0 (.rM .i64 0 .bool a0w) true)]=>some (true,(.int .i64 (Dk.wear (Dk.D.mk a0n a0b a0p a0w a0o a0l) a1).2),[(dE 1 (Dk.wear (Dk.D.mk a0n a0b a0p a0w a0o a0l) a1).1 2 3),(.cells (Dk.wear (Dk.D.mk a0n a0b a0p a0w a0o a0l) a1).1.blk.length (.rI .u8 (Dk.wear (Dk.D.mk a0n a0b a0p a0w a0o a0l) a1).1.blk) true),(pB (Dk.wear (Dk.D.mk a0n a0b a0p a0w a0o a0l) a1).1.pend),(wB (Dk.wear (Dk.D.mk a0n a0b a0p a0w a0o a0l) a1).1.worn)])
 | _,_=>none
theorem s14(a0n:Nat)(a0b:Li)(a0p a0w:Lp)(a0o:Bool)(a0l a1:Int)(h1:okV (.int .i64 a1))(k0:okB (dB 1 a0n 2 3 a0o a0l))(k1:okB (bB a0b))(k2:okB (pB a0p))(k3:okB (wB a0w)):∃ F,f14 F (a0n,a0b,a0p,a0w,a0o,a0l,a1)=some ((.int .i64 (Dk.wear (Dk.D.mk a0n a0b a0p a0w a0o a0l) a1).2),[(dE 1 (Dk.wear (Dk.D.mk a0n a0b a0p a0w a0o a0l) a1).1 2 3),(.cells (Dk.wear (Dk.D.mk a0n a0b a0p a0w a0o a0l) a1).1.blk.length (.rI .u8 (Dk.wear (Dk.D.mk a0n a0b a0p a0w a0o a0l) a1).1.blk) true),(pB (Dk.wear (Dk.D.mk a0n a0b a0p a0w a0o a0l) a1).1.pend),(wB (Dk.wear (Dk.D.mk a0n a0b a0p a0w a0o a0l) a1).1.worn)]):=by
 refine⟨0,?_⟩
 simp only [f14,f14_1,Dk.wear]
 cases (decide (a1 < 0))
 ·cases (decide (a1≥(a0n:Int))) <;> rfl
 ·rfl
theorem c14:CallOk Tryd.prog G36 14 r14:=callOk_of mixed tys eV14 Tryd.func14 (by kernel_rfl) (c:=sub (bodyOf Tryd.f14) []) (by kernel_rfl) (by
 intro X H r H' h hX hH
 unfold r14 at h;split at h <;> try contradiction
 ·obtain⟨hp,rfl,rfl⟩:=inj3 h
  obtain rfl:=okB_size (hH _ hm1) rfl
  obtain⟨F,hF⟩:=s14 _ _ _ _ _ _ _ (hX _ hm1) (hH _ hm0) (hH _ hm1) (hH _ hm2) (hH _ hm3)
  exact⟨Af14 F,(f14_body F _ _ _ _ _ _ _).trans hF⟩)
def lV54:List CEnt:=[(51,[none,none],r51),(67,[none],r67),(68,[none],r68),(69,[none,none,none],r69)]
def V54:Env:=mkEnv T36 G36 lV54
noncomputable abbrev Kf33:=kFin V54 none (Tryd.f54).results.toList
theorem eV54:EOk Tryd.prog V54:=eok_mk (by exact⟨c51,c67,c68,c69,trivial⟩)
def Af54(F:Nat):Cuts:={ F:=F,at_:=fun n=>match n with | 8012=>some sp40 | _=>none,join:=fun n=>match n with | 1040=>some [(0,.plain)] | 4030=>some [(0,.plain)] | 7020=>some [(0,.plain)] | 8014=>some sp40 | 12003=>some [] | _=>none }
noncomputable abbrev XAf54(F:Nat){α:Type}:=@aexec α V54 (Af54 F)
def ef54_a:Ty26→St:=fun (a0n,a0b,a0p,a0w,a0o,a0l)=>⟨[(0,.ptr 0 0 5 0 0 0 5)],[(0,(dB 1 a0n 2 3 a0o a0l)),(1,(bB a0b)),(2,(pB a0p)),(3,(wB a0w))],4,28,4⟩
def ef54j1:(Dk.D)→St:=fun e1=>⟨[(0,.ptr 0 0 5 0 0 0 5)],[(0,(dE 1 e1 2 3)),(1,(bB e1.blk)),(2,(pB e1.pend)),(3,(wB e1.worn))],4,28,4⟩
def ef54j2:(Dk.D)→St:=ef54j1
def ef54j3:(Dk.D)→St:=ef54j1
def ef54j4:Ty31→St:=fun (t18,t19,t20,e1)=>⟨[(0,.ptr 0 0 5 0 0 0 5),(18,(.vs (.rI .i64 t18) 0 1)),(19,.int .i64 t19),(20,.int .i64 t20)],[(0,(dE 1 e1 2 3)),(1,(bB e1.blk)),(2,(pB e1.pend)),(3,(wB e1.worn))],4,28,4⟩
def ef54l1:Ty31→St:=ef54j4
def ef54j5:(Dk.D)→St:=fun e1=>⟨[],[(0,(dE 1 e1 2 3)),(1,(bB e1.blk)),(2,(pB e1.pend)),(3,(wB e1.worn))],4,28,4⟩
def f54_1(F:Nat)(kj1:(Dk.D)→Rz):Ty26→Rz:=fun (a0n,a0b,a0p,a0w,a0o,a0l)=>(kj1 (Dk.D.mk a0n a0b a0p a0w a0o a0l))
theorem f54_1_eq(F:Nat)(Rj1:St→Rz):∀ v,XAf54 F (bp Tryd.f54 2) (ef54_a v) (kSeq (kc V54 Rj1 [(0,.plain)]) Kf33)=f54_1 F (Rj1∘ef54j1) v:=by
 rintro⟨a0n,a0b,a0p,a0w,a0o,a0l⟩;kernel_rfl
def f54_2(F:Nat)(kj2:(Dk.D)→Rz):(Dk.D)→Rz:=fun e1=>(cond ((Dk.check e1 (0:Int)) != (0:Int)) (some ((.int .i64 (Dk.check e1 (0:Int))),[(dE 1 e1 2 3),(bB e1.blk),(pB e1.pend),(wB e1.worn)])) (kj2 e1))
theorem f54_2_eq(F:Nat)(Rj2:St→Rz):∀ v,XAf54 F (bp Tryd.f54 6) (ef54j1 v) (kSeq (kc V54 Rj2 [(0,.plain)]) Kf33)=f54_2 F (Rj2∘ef54j2) v:=by
 intro e1;kernel_rfl
def f54_3(F:Nat)(kj3:(Dk.D)→Rz):(Dk.D)→Rz:=fun e1=>(cond ((Dk.step e1).2 != (0:Int)) (some ((.int .i64 (Dk.step e1).2),[(dE 1 (Dk.step e1).1 2 3),(.cells (Dk.step e1).1.blk.length (.rI .u8 (Dk.step e1).1.blk) true),(pB (Dk.step e1).1.pend),(wB (Dk.step e1).1.worn)])) (kj3 (Dk.step e1).1))
theorem f54_3_eq(F:Nat)(Rj3:St→Rz):∀ v,XAf54 F (bp Tryd.f54 14) (ef54j2 v) (kSeq (kc V54 Rj3 [(0,.plain)]) Kf33)=f54_3 F (Rj3∘ef54j3) v:=by
 intro e1;kernel_rfl
def f54_4(F:Nat)(kj4:Ty31→Rz)(kj5:(Dk.D)→Rz):(Dk.D)→Rz:=fun e1=>(cond (decide (e1.pend.length < 1073741824)) (kj4 ((Dk.pending e1),(↑(Dk.pending e1).length:Int),(0:Int),e1)) none)
theorem f54_4_eq(F:Nat)(Rj4 Rj5:St→Rz):∀ v,XAf54 F (bp Tryd.f54 60) (ef54j3 v) (kSeq (kc V54 Rj4 sp40) (kSeq (kc V54 Rj5 []) Kf33))=f54_4 F (Rj4∘ef54j4) (Rj5∘ef54j5) v:=by
 intro e1;kernel_rfl
def f54_5(F:Nat)(kl1:Ty31→Rz)(kj5:(Dk.D)→Rz):Ty31→Rz:=fun (t18,t19,t20,e1)=>(cond (decide (t20 < t19)) (cond ((decide (0≤t20))&&(decide (t20 < (↑t18.length:Int)))) (cond ((Dk.inD e1 (t18.getD (Int.toNat t20) 0))&&(decide (e1.blk.length=e1.n*64))) (kl1 (t18,t19,(IntKind.i64.wrap (t20+(1:Int))),(Dk.settle e1 (t18.getD (Int.toNat t20) 0) (64:Int)))) none) none) (kj5 e1))
theorem f54_5_eq(F:Nat)(Rl1 Rj5:St→Rz):∀ v,XAf54 F (bp Tryd.f54 244) (ef54l1 v) (kSeq (kc V54 Rl1 sp40) (kBlock 0 (kSeq (kc V54 Rj5 []) Kf33)))=f54_5 F (Rl1∘ef54l1) (Rj5∘ef54j5) v:=by
 rintro⟨t18,t19,t20,e1⟩;kernel_rfl
def f54_6_i:Ty31→Li×Int×Int×(Dk.D):=fun (t18,t19,t20,e1)=>(t18,t19,t20,e1)
def f54_6(F:Nat)(kj5:(Dk.D)→Rz):Ty31→Rz:=fun v=>loopN (fun k=>f54_5 F k kj5) F (f54_6_i v)
theorem f54_6_eq(F:Nat)(Rj5:St→Rz):∀ v,XAf54 F (bp Tryd.f54 122) (ef54j4 v) (kBlock 0 (kSeq (kc V54 Rj5 []) Kf33))=f54_6 F (Rj5∘ef54j5) v:=
 loop_cut (by kernel_rfl) (by kernel_rfl) ef54j4 ef54l1 _ f54_6_i (fun k=>f54_5 F k (Rj5∘ef54j5))
  (by rintro⟨t18,t19,t20,e1⟩;kernel_rfl) (fun Rl1=>f54_5_eq F Rl1 Rj5)
def f54_7(F:Nat)(kj5:(Dk.D)→Rz):Ty31→Rz:=f54_6 F kj5
theorem f54_7_eq(F:Nat)(Rj5:St→Rz):∀ v,XAf54 F (bp Tryd.f54 61) (ef54j4 v) (kSeq (kc V54 Rj5 []) Kf33)=f54_7 F (Rj5∘ef54j5) v:=fun v=>
 (block_in  (by kernel_rfl) _ _).trans (f54_6_eq F Rj5 v)
def f54_8(F:Nat)(kj5:(Dk.D)→Rz):(Dk.D)→Rz:=fun v=>f54_4 F (f54_7 F kj5) kj5 v
theorem f54_8_eq(F:Nat)(Rj5:St→Rz):∀ v,XAf54 F (bp Tryd.f54 30) (ef54j3 v) (kSeq (kc V54 Rj5 []) Kf33)=f54_8 F (Rj5∘ef54j5) v:=
 seq_cut (by kernel_rfl) (by kernel_rfl) ef54j3 ef54j4 _ (fun k=>f54_4 F k (Rj5∘ef54j5)) (f54_7 F (Rj5∘ef54j5))
  (fun Rj4=>f54_4_eq F Rj4 Rj5) (f54_7_eq F Rj5)
def f54_9(F:Nat):(Dk.D)→Rz:=fun e1=>(some ((.int .i64 0),[(dE 1 e1 2 3),(bB e1.blk),(pB e1.pend),(wB e1.worn)]))
theorem f54_9_eq(F:Nat):∀ v,XAf54 F (bp Tryd.f54 31) (ef54j5 v) Kf33=f54_9 F v:=by
 intro e1;kernel_rfl
def f54_10(F:Nat):(Dk.D)→Rz:=fun v=>f54_8 F (f54_9 F) v
theorem f54_10_eq(F:Nat):∀ v,XAf54 F (bp Tryd.f54 15) (ef54j3 v) Kf33=f54_10 F v:=
 seq_cut (by kernel_rfl) (by kernel_rfl) ef54j3 ef54j5 _ (fun k=>f54_8 F k) (f54_9 F)
  (fun Rj5=>f54_8_eq F Rj5) (f54_9_eq F)
def f54_11(F:Nat):(Dk.D)→Rz:=fun v=>f54_3 F (f54_10 F) v
theorem f54_11_eq(F:Nat):∀ v,XAf54 F (bp Tryd.f54 7) (ef54j2 v) Kf33=f54_11 F v:=
 seq_cut (by kernel_rfl) (by kernel_rfl) ef54j2 ef54j3 _ (fun k=>f54_3 F k) (f54_10 F)
  (fun Rj3=>f54_3_eq F Rj3) (f54_10_eq F)
def f54_12(F:Nat):(Dk.D)→Rz:=fun v=>f54_2 F (f54_11 F) v
theorem f54_12_eq(F:Nat):∀ v,XAf54 F (bp Tryd.f54 3) (ef54j1 v) Kf33=f54_12 F v:=
 seq_cut (by kernel_rfl) (by kernel_rfl) ef54j1 ef54j2 _ (fun k=>f54_2 F k) (f54_11 F)
  (fun Rj2=>f54_2_eq F Rj2) (f54_11_eq F)
def f54_13(F:Nat):Ty26→Rz:=fun v=>f54_1 F (f54_12 F) v
theorem f54_13_eq(F:Nat):∀ v,XAf54 F (sub (bodyOf Tryd.f54) []) (ef54_a v) Kf33=f54_13 F v:=
 seq_cut (by kernel_rfl) (by kernel_rfl) ef54_a ef54j1 _ (fun k=>f54_1 F k) (f54_12 F)
  (fun Rj1=>f54_1_eq F Rj1) (f54_12_eq F)
def f54(F:Nat):Ty26→Rz:=f54_13 F
theorem f54_body(F a0n:Nat)(a0b:Li)(a0p a0w:Lp)(a0o:Bool)(a0l:Int):abody V54 (Af54 F) Tryd.f54 [(.ptr 0 0 5 0 0 0 5)] [(dB 1 a0n 2 3 a0o a0l),(bB a0b),(pB a0p),(wB a0w)]=f54 F (a0n,a0b,a0p,a0w,a0o,a0l):=
 (abody_in (by kernel_rfl) (by kernel_rfl)).trans (f54_13_eq F (a0n,a0b,a0p,a0w,a0o,a0l))
def r54:CRun:=fun X H=>match X,H with
 | [(.ptr 0 0 5 0 0 0 5)],[(.cells 5 (.segs (.cons 1 (.one (.own 1 a0n 64)) (.cons 1 (.one (.mp 2)) (.cons 1 (.one (.mp 3)) (.cons 1 (.one (.bool a0o)) (.cons 1 (.one (.int .i64 a0l)) .nil)))))) true),(.cells z1 (.rI .u8 a0b) true),(.cells 0 (.rM .i64 0 (.arr .u8 64) a0p) true),(.cells 0 (.rM .i64 0 .bool a0w) true)]=>some ((Dk.fine (Dk.D.mk a0n a0b a0p a0w a0o a0l)),(.int .i64 (Dk.flush (Dk.D.mk a0n a0b a0p a0w a0o a0l)).2),[(dE 1 (Dk.flush (Dk.D.mk a0n a0b a0p a0w a0o a0l)).1 2 3),(.cells (Dk.flush (Dk.D.mk a0n a0b a0p a0w a0o a0l)).1.blk.length (.rI .u8 (Dk.flush (Dk.D.mk a0n a0b a0p a0w a0o a0l)).1.blk) true),(pB (Dk.flush (Dk.D.mk a0n a0b a0p a0w a0o a0l)).1.pend),(wB (Dk.flush (Dk.D.mk a0n a0b a0p a0w a0o a0l)).1.worn)])
 | _,_=>none
theorem s54(a0n:Nat)(a0b:Li)(a0p a0w:Lp)(a0o:Bool)(a0l:Int)(hp:((Dk.fine (Dk.D.mk a0n a0b a0p a0w a0o a0l)))=true)(k0:okB (dB 1 a0n 2 3 a0o a0l))(k1:okB (bB a0b))(k2:okB (pB a0p))(k3:okB (wB a0w)):∃ F,f54 F (a0n,a0b,a0p,a0w,a0o,a0l)=some ((.int .i64 (Dk.flush (Dk.D.mk a0n a0b a0p a0w a0o a0l)).2),[(dE 1 (Dk.flush (Dk.D.mk a0n a0b a0p a0w a0o a0l)).1 2 3),(.cells (Dk.flush (Dk.D.mk a0n a0b a0p a0w a0o a0l)).1.blk.length (.rI .u8 (Dk.flush (Dk.D.mk a0n a0b a0p a0w a0o a0l)).1.blk) true),(pB (Dk.flush (Dk.D.mk a0n a0b a0p a0w a0o a0l)).1.pend),(wB (Dk.flush (Dk.D.mk a0n a0b a0p a0w a0o a0l)).1.worn)]):=by
 obtain⟨⟨hn,hl,hpl,hwl⟩,hin⟩:=Dk.fine_iff hp
 have hok0:Dk.Ok (Dk.D.mk a0n a0b a0p a0w a0o a0l):=⟨hl,Dk.vals64 k2⟩
 revert hin hok0 hp
 generalize hd:Dk.D.mk a0n a0b a0p a0w a0o a0l=d
 intro hp hin0 hok0
 have hpl':d.pend.length < 8000:=by rw [← hd];exact hpl
 refine⟨d.pend.length+1,?_⟩
 simp only [f54,f54_13,f54_1,f54_12,f54_2,f54_11,f54_3,f54_10,f54_8,f54_4,f54_7,f54_6,f54_6_i,hd]
 by_cases hc:Dk.check d 0=0
 ·have ec:(Dk.check d 0 != 0)=false:=by simp [hc]
  simp only [ec,cond_false]
  by_cases hs:(Dk.step d).2=0
  ·have es:((Dk.step d).2 != 0)=false:=by simp [hs]
   simp only [es,cond_false]
   obtain⟨s1,s2,s3,s4⟩:=Dk.step_same d
   have hpe:Dk.pending (Dk.step d).1=Dk.pending d:=by simp only [Dk.pending,s3]
   have hin:∀ i∈Dk.pending (Dk.step d).1,Dk.inD (Dk.step d).1 i=true:=fun i hi=>by rw [Dk.inD_n s1];exact hin0 i (by rw [← hpe];exact hi)
   have hok:Dk.Ok (Dk.step d).1:=⟨by rw [s2,s1];exact hok0.len,by rw [s3];exact hok0.vals⟩
   have hlen:=Dk.pending_len (Dk.step d).1
   have ef:Dk.flush d=((Dk.pending (Dk.step d).1).foldl (fun e i=>Dk.settle e i 64) (Dk.step d).1,0):=by
    simp only [Dk.flush,ec,es,cond_false,hpe]
   rw [ef]
   have hpl2:(Dk.step d).1.pend.length < 8000:=by rw [s3];exact hpl'
   generalize (Dk.step d).1=e at hin hok hlen s3 hpl2
   rw [cond_pos (show e.pend.length < 1073741824 by omega),← s3]
   refine loopN_from (fun k=>(Dk.pending e,((Dk.pending e).length:Int),(k:Int),Dk.flushK (Dk.pending e) k e)) e.pend.length (by rfl) (fun k hk K=>?_) (fun K=>?_) (e.pend.length+1) (by omega)
   ·have hk':k < (Dk.pending e).length:=by omega
    obtain⟨q1,q2⟩:=Dk.flushK_ok hok hin k (by omega)
    have e1:(decide (0≤(k:Int))&&decide ((k:Int) < ((Dk.pending e).length:Int)))=true:=by rw [dec_and,decide_eq_true_iff];omega
    have e2:(Dk.inD (Dk.flushK (Dk.pending e) k e) ((Dk.pending e).getD k 0)&&decide ((Dk.flushK (Dk.pending e) k e).blk.length=(Dk.flushK (Dk.pending e) k e).n*64))=true:=by
     rw [Dk.inD_n q2,hin _ (Dk.mem_at hk')];simp [q1.len]
    simp only [f54_5,Int.toNat_natCast,e1,e2,cond_true,i64w (show -9223372036854775808≤(k:Int)+1 by omega) (by omega)]
    rw [cond_pos (show(k:Int) < ((Dk.pending e).length:Int) by omega),Dk.flushK_succ hk']
    rfl
   ·simp only [f54_5]
    rw [cond_neg (show ¬ ((e.pend.length:Nat):Int) < ((Dk.pending e).length:Int) by omega)]
    have e0:Dk.flushK (Dk.pending e) e.pend.length e=(Dk.pending e).foldl (fun e i=>Dk.settle e i 64) e:=by rw [← hlen];simp [Dk.flushK]
    rw [e0]
    rfl
  ·have es:((Dk.step d).2 != 0)=true:=by simp [hs]
   have ef:Dk.flush d=Dk.step d:=by simp only [Dk.flush,ec,es,cond_false,cond_true]
   simp only [es,cond_true,ef]
 ·have ec:(Dk.check d 0 != 0)=true:=by simp [hc]
  have ef:Dk.flush d=(d,Dk.check d 0):=by simp only [Dk.flush,ec,cond_true]
  simp only [ec,cond_true,ef]
  subst hd;rfl
theorem c54:CallOk Tryd.prog G36 54 r54:=callOk_of mixed tys eV54 Tryd.func54 (by kernel_rfl) (c:=sub (bodyOf Tryd.f54) []) (by kernel_rfl) (by
 intro X H r H' h hX hH
 unfold r54 at h;split at h <;> try contradiction
 ·obtain⟨hp,rfl,rfl⟩:=inj3 h
  obtain rfl:=okB_size (hH _ hm1) rfl
  obtain⟨F,hF⟩:=s54 _ _ _ _ _ _ hp (hH _ hm0) (hH _ hm1) (hH _ hm2) (hH _ hm3)
  exact⟨Af54 F,(f54_body F _ _ _ _ _ _).trans hF⟩)
def lV13:List CEnt:=[]
def V13:Env:=mkEnv T36 G36 lV13
noncomputable abbrev Kf34:=kFin V13 none (Tryd.f13).results.toList
theorem eV13:EOk Tryd.prog V13:=eok_mk (by exact trivial)
def Af13(F:Nat):Cuts:={ F:=F,at_:=fun _=>none,join:=fun _=>none }
def ef13_a:Int→St:=fun a0=>⟨[(0,.int .i64 a0)],[],0,16,0⟩
def f13_1(F:Nat):Int→Rz:=fun a0=>(cond (decide (a0 < (1:Int))) (some ((.tup (.cons 0 .nilp (.cons 0 (.int .i64 1) .nil))),[])) (cond (decide (a0 > (4096:Int))) (some ((.tup (.cons 0 .nilp (.cons 0 (.int .i64 1) .nil))),[])) (cond (((decide (0≤a0))&&(decide (a0≤a0)))&&(decide (a0 < 1073741824))) (some ((.tup (.cons 0 (.ptr 0 0 5 0 0 0 5) (.cons 0 (.int .i64 0) .nil))),[(dB 1 (Int.toNat a0) 2 3 false (-1:Int)),(.cells ((Int.toNat a0)*64) (.rI .u8 (List.replicate ((Int.toNat a0)*64) 0)) true),(pB []),(wB [])])) none)))
theorem f13_1_eq(F:Nat):∀ v,aexec V13 (Af13 F) (sub (bodyOf Tryd.f13) []) (ef13_a v) Kf34=f13_1 F v:=by
 intro a0;kernel_rfl
def f13(F:Nat):Int→Rz:=f13_1 F
theorem f13_body(F:Nat)(a0:Int):abody V13 (Af13 F) Tryd.f13 [(.int .i64 a0)] []=f13 F a0:=
 (abody_in (c:=(sub (bodyOf Tryd.f13) [])) (by kernel_rfl) (s:=ef13_a a0) (by kernel_rfl)).trans (f13_1_eq F a0)
def r13:CRun:=fun X H=>match X,H with
 | [(.int .i64 a0)],[]=>some ((decide (0 < a0))&&(decide (a0 < 4097)),(.tup (.cons 0 (.ptr 0 0 5 0 0 0 5) (.cons 0 (.int .i64 0) .nil))),[(dE 1 (Dk.new a0) 2 3),(.cells (Dk.new a0).blk.length (.rI .u8 (Dk.new a0).blk) true),(pB (Dk.new a0).pend),(wB (Dk.new a0).worn)])
 | _,_=>none
theorem s13(a0:Int)(hp:((decide (0 < a0))&&(decide (a0 < 4097)))=true)(h0:okV (.int .i64 a0)):∃ F,f13 F a0=some ((.tup (.cons 0 (.ptr 0 0 5 0 0 0 5) (.cons 0 (.int .i64 0) .nil))),[(dE 1 (Dk.new a0) 2 3),(.cells (Dk.new a0).blk.length (.rI .u8 (Dk.new a0).blk) true),(pB (Dk.new a0).pend),(wB (Dk.new a0).worn)]):=by
 refine⟨0,?_⟩
 rw [dec_and,decide_eq_true_iff] at hp
 have e:((decide (0≤a0)&&decide (a0≤a0))&&decide (a0 < 1073741824))=true:=by simp;omega
 simp only [f13,f13_1,e,cond_true]
 rw [cond_neg (show ¬ a0 < 1 by omega),cond_neg (show ¬ a0 > 4096 by omega)]
 simp only [Dk.new,List.length_replicate]
theorem c13:CallOk Tryd.prog G36 13 r13:=callOk_of mixed tys eV13 Tryd.func13 (by kernel_rfl) (c:=sub (bodyOf Tryd.f13) []) (by kernel_rfl) (by
 intro X H r H' h hX hH
 unfold r13 at h;split at h <;> try contradiction
 ·obtain⟨hp,rfl,rfl⟩:=inj3 h
  obtain⟨F,hF⟩:=s13 _ hp (hX _ hm0)
  exact⟨Af13 F,(f13_body F _).trans hF⟩)
def lV13i:List CEnt:=[]
def V13i:Env:=mkEnv T36 G36 lV13i
noncomputable abbrev Kf35:=kFin V13i none (Tryd.f13).results.toList
theorem eV13i:EOk Tryd.prog V13i:=eok_mk (by exact trivial)
def Af13i(F:Nat):Cuts:={ F:=F,at_:=fun _=>none,join:=fun _=>none }
def ef13i_a:Int→St:=ef13_a
def f13i_1(F:Nat):Int→Rz:=fun a0=>(cond (decide (a0 < (1:Int))) (some ((.tup (.cons 0 .nilp (.cons 0 (.int .i64 1) .nil))),[])) (cond (decide (a0 > (4096:Int))) (some ((.tup (.cons 0 .nilp (.cons 0 (.int .i64 1) .nil))),[])) (cond (((decide (0≤a0))&&(decide (a0≤a0)))&&(decide (a0 < 1073741824))) (some ((.tup (.cons 0 (.ptr 0 0 5 0 0 0 5) (.cons 0 (.int .i64 0) .nil))),[(dB 1 (Int.toNat a0) 2 3 false (-1:Int)),(.cells ((Int.toNat a0)*64) (.rI .u8 (List.replicate ((Int.toNat a0)*64) 0)) true),(pB []),(wB [])])) none)))
theorem f13i_1_eq(F:Nat):∀ v,aexec V13i (Af13i F) (sub (bodyOf Tryd.f13) []) (ef13i_a v) Kf35=f13i_1 F v:=by
 intro a0;kernel_rfl
def f13i(F:Nat):Int→Rz:=f13i_1 F
theorem f13i_body(F:Nat)(a0:Int):abody V13i (Af13i F) Tryd.f13 [(.int .i64 a0)] []=f13i F a0:=
 (abody_in (c:=(sub (bodyOf Tryd.f13) [])) (by kernel_rfl) (s:=ef13i_a a0) (by kernel_rfl)).trans (f13i_1_eq F a0)
def r13i:CRun:=fun X H=>match X,H with
 | [(.int .i64 a0)],[]=>some ((!((decide (0 < a0))&&(decide (a0 < 4097)))),(.tup (.cons 0 .nilp (.cons 0 (.int .i64 1) .nil))),[])
 | _,_=>none
theorem s13i(a0:Int)(hp:((!((decide (0 < a0))&&(decide (a0 < 4097)))))=true)(h0:okV (.int .i64 a0)):∃ F,f13i F a0=some ((.tup (.cons 0 .nilp (.cons 0 (.int .i64 1) .nil))),[]):=by
 refine⟨0,?_⟩
 rw [dec_and,dec_not,decide_eq_true_iff] at hp
 simp only [f13i,f13i_1]
 by_cases h:a0 < 1
 ·rw [cond_pos h]
 ·rw [cond_neg h,cond_pos (show a0 > 4096 by omega)]
theorem c13i:CallOk Tryd.prog G36 13 r13i:=callOk_of mixed tys eV13i Tryd.func13 (by kernel_rfl) (c:=sub (bodyOf Tryd.f13) []) (by kernel_rfl) (by
 intro X H r H' h hX hH
 unfold r13i at h;split at h <;> try contradiction
 ·obtain⟨hp,rfl,rfl⟩:=inj3 h
  obtain⟨F,hF⟩:=s13i _ hp (hX _ hm0)
  exact⟨Af13i F,(f13i_body F _).trans hF⟩)
end Go.Am
end
section
/- What Flush and Mount make of the specification's disk; what stays of what was written. -/
namespace Go.Dk
open Go Go.Am
theorem rflushK_len(r:R):∀ k,(rflushK r k).s.length=r.s.length∧(rflushK r k).off=r.off∧(rflushK r k).left=r.left
 | 0=>⟨rfl,rfl,rfl⟩
 | k+1=>by
  obtain⟨h1,h2,h3⟩:=rflushK_len r k
  rw [rflushK_succ]
  cases fD ((rflushK r k).at k)
  ·exact⟨h1,h2,h3⟩
  ·exact⟨by rw [cond_true,rsettle_len,h1],h2,h3⟩
theorem rflushK_get(r:R)(j:Nat)(hj:j < r.s.length):∀ k,k≤r.s.length→(rflushK r k).s.getD j []=if j < k∧fD (r.s.getD j [])=true then settled (r.s.getD j []) 64 else r.s.getD j []
 | 0,_=>by rw [if_neg (by omega)];rfl
 | k+1,hk=>by
  have ih:=rflushK_get r j hj k (by omega)
  have hl:=(rflushK_len r k).1
  rw [rflushK_succ]
  by_cases hjk:j=k
  ·subst hjk
   rw [if_neg (by omega)] at ih
   have e:fD ((rflushK r j).at (j:Int))=fD (r.s.getD j []):=by rw [R.at,Int.toNat_natCast,ih]
   rw [e]
   cases hd:fD (r.s.getD j [])
   ·rw [if_neg (by simp),cond_false,ih]
   ·rw [if_pos ⟨by omega,rfl⟩,cond_true,getD_settle _ _ (by omega),if_pos rfl,ih]
  ·have e:(j < k+1∧fD (r.s.getD j [])=true)=(j < k∧fD (r.s.getD j [])=true):=by
    apply propext;constructor <;> rintro⟨h1,h2⟩ <;> exact⟨by omega,h2⟩
   simp only [e]
   rw [← ih]
   cases fD ((rflushK r k).at (k:Int))
   ·rfl
   ·rw [cond_true,getD_settle _ _ (by omega),if_neg (Ne.symm hjk)]
def V(x:List Li):List Int:=if fD x=true then fN x else fT x
theorem clamp64:clamp 64=64:=by decide
theorem settled_T{x:List Li}(h:GoodX x)(hd:fD x=true)(hw:fW x=false):fT (settled x 64)=fN x:=by
 simp only [settled,fT,List.getD_cons_zero,hw,Bool.not_false,cond_true,clamp64]
 rw [List.take_of_length_le (by rw [h.2 hd];exact Nat.le_refl _),List.drop_of_length_le,List.append_nil]
 have:=h.1
 simp only [fT] at this
 omega
structure Kept (r:R) (last:List Li):Prop where
 off:r.off=false
 left:r.left < 0
 worn:∀ i,i < r.s.length→fW (r.s.getD i [])=false
 len:last.length=r.s.length
 val:∀ i,i < r.s.length→last.getD i []=V (r.s.getD i [])
theorem rstep_neg{r:R}(h:r.left < 0):rstep r=(r,0):=by
 unfold rstep
 rw [show(r.left==0)=false by simp;omega,cond_false,cond_neg (by omega)]
theorem Kept.flush{r:R}{last:List Li}(h:Kept r last)(hg:RGood r):(rflush r).2=0∧Kept (rflush r).1 last∧(∀ i,i < (rflush r).1.s.length→fD ((rflush r).1.s.getD i [])=false)∧rimage (rflush r).1=last:=by
 have e:rflush r=(rflushK r r.s.length,0):=by
  simp only [rflush,h.off,rstep_neg h.left,cond_false,bne_self_eq_false]
 obtain⟨l1,l2,l3⟩:=rflushK_len r r.s.length
 rw [e]
 have get:∀ i,i < r.s.length→(fT ((rflushK r r.s.length).s.getD i [])=V (r.s.getD i [])∧fD ((rflushK r r.s.length).s.getD i [])=false∧fW ((rflushK r r.s.length).s.getD i [])=false):=fun i hi=>by
  rw [rflushK_get r i hi _ (Nat.le_refl _)]
  by_cases hd:fD (r.s.getD i [])=true
  ·rw [if_pos ⟨hi,hd⟩,settled_T (hg.2 i hi) hd (h.worn i hi),V,if_pos hd]
   refine⟨rfl,rfl,?_⟩
   have:=h.worn i hi
   simp only [settled,fW,List.getD_cons_succ,List.getD_cons_zero] at this ⊢
   rw [this];rfl
  ·rw [if_neg (fun h=>hd h.2),V,if_neg hd]
   exact⟨rfl,by simpa using hd,h.worn i hi⟩
 refine⟨rfl,⟨by rw [l2];exact h.off,by rw [l3];exact h.left,fun i hi=>(get i (by rw [← l1];exact hi)).2.2,by rw [l1];exact h.len,fun i hi=>?_⟩,fun i hi=>(get i (by rw [← l1];exact hi)).2.1,?_⟩
 ·have hi':i < r.s.length:=by rw [← l1];exact hi
  rw [h.val i hi',V,V]
  simp only [(get i hi').2.1]
  rw [if_neg (by simp:¬ (false=true)),(get i hi').1,V]
 ·refine list_eq [] (by simp [rimage,l1,h.len]) fun i hi=>?_
  simp only [rimage,List.length_map,l1] at hi
  rw [h.val i hi,← (get i hi).1]
  simp only [rimage,List.getD_eq_getElem?_getD,List.getElem?_map]
  rw [List.getElem?_eq_getElem (by rw [l1];exact hi)];rfl
theorem Kept.other{r:R}{last:List Li}(h:Kept r last)(hg:RGood r){k i b:Int}{t p:List Int}(h4:k≠4)(h5:k≠5)(h6:k≠6)(h7:k≠7)(h1:k≠1):Kept (rop r k i b t p).1 last:=by
 simp only [rop]
 rw [show(k==1)=false by simpa using h1,show(k==4)=false by simpa using h4,show(k==5)=false by simpa using h5,show(k==6)=false by simpa using h6,show(k==7)=false by simpa using h7]
 cases (k==2)
 ·cases (k==3)
  ·exact h
  ·exact(h.flush hg).2.1
 ·exact h
theorem Kept.write{r:R}{last:List Li}(h:Kept r last)(i:Int)(t:Li):
  ((rwrite r i t).2=0∧(0≤i∧i < (last.length:Int))∧Kept (rwrite r i t).1 (last.set i.toNat t))∨((rwrite r i t).2≠0∧Kept (rwrite r i t).1 last):=by
 simp only [rwrite,h.off,cond_false,rstep_neg h.left,bne_self_eq_false]
 cases hi:ris r i
 ·exact .inr ⟨(by show(1:Int)≠0;decide),h⟩
 ·simp only [Bool.not_true,cond_false]
  cases hl:((t.length:Int) != 64)
  ·simp only [cond_false]
   have hr:=ris_iff.1 hi
   obtain⟨q,rfl⟩:∃ q:Nat,i=(q:Int):=⟨i.toNat,by omega⟩
   have hq:q < r.s.length:=by omega
   rw [Int.toNat_natCast]
   refine .inl ⟨trivial,⟨by omega,by rw [h.len];omega⟩,rfl,h.left,fun j hj=>?_,by simp only [List.length_set,wput];exact h.len,fun j hj=>?_⟩
   ·simp only [wput,List.length_set] at hj
    rw [wput_get t hq]
    by_cases hji:q=j
    ·subst hji
     rw [if_pos rfl]
     have:=h.worn q hj
     simp only [fW] at this ⊢
     rw [tput_get,if_neg (by decide),tput_get,if_neg (by decide)];exact this
    ·rw [if_neg hji];exact h.worn j hj
   ·simp only [wput,List.length_set] at hj
    rw [wput_get t hq,getD_set]
    by_cases hji:q=j
    ·subst hji
     rw [if_pos ⟨rfl,by rw [h.len];exact hj⟩,if_pos rfl,V]
     have e:fD (tput (tput (r.s.getD q []) 1 t) 2 [1])=true:=by simp only [fD];rw [tput_get,if_pos rfl];rfl
     rw [if_pos e];simp only [fN];rw [tput_get,if_neg (by decide),tput_get,if_pos rfl]
    ·rw [if_neg (fun h'=>hji h'.1),if_neg hji];exact h.val j hj
  ·exact .inr ⟨(by show(1:Int)≠0;decide),h⟩
end Go.Dk
end
section
/- Rot, twice. -/
namespace Go.Dk
open Go Go.Am
def Bytes(l:Li):Prop:=∀ y∈l,0≤y∧y≤255
theorem Bytes.app{a b:List Int}(h:Bytes a)(h':Bytes b):Bytes (a++b):=fun y hy=>(List.mem_append.1 hy).elim (h y) (h' y)
theorem Bytes.take{a:List Int}(h:Bytes a)(n:Nat):Bytes (a.take n):=fun y hy=>h y (List.mem_of_mem_take hy)
theorem Bytes.drop{a:List Int}(h:Bytes a)(n:Nat):Bytes (a.drop n):=fun y hy=>h y (List.mem_of_mem_drop hy)
theorem Bytes.set{a:List Int}(h:Bytes a)(n:Nat){v:Int}(hv:0≤v∧v≤255):Bytes (a.set n v):=fun y hy=>by
 rcases List.mem_or_eq_of_mem_set hy with h1 | h1
 ·exact h y h1
 ·rw [h1];exact hv
theorem Bytes.getD{a:List Int}(h:Bytes a)(n:Nat):0≤a.getD n 0∧a.getD n 0≤255:=by
 rw [List.getD_eq_getElem?_getD]
 by_cases hn:n < a.length
 ·rw [List.getElem?_eq_getElem hn];exact h _ (List.getElem_mem _)
 ·rw [List.getElem?_eq_none (by omega)];decide
theorem Bytes.text{t:List Int}(h:Bytes t):Bytes (text t):=by
 unfold Dk.text
 cases decide (0 < t.length)
 ·exact h
 ·exact h.app fun y hy=>by rw [List.eq_of_mem_replicate hy];exact h.getD _
theorem u8_range(x:Int):0≤IntKind.u8.wrap x∧IntKind.u8.wrap x≤255:=by rw [u8mod];omega
theorem xor8_range(x y:Int):0≤ibits .xor .u8 x y∧ibits .xor .u8 x y≤255:=u8_range _
def BX(x:List Li):Prop:=Bytes (fT x)∧Bytes (fN x)
def BR(r:R):Prop:=∀ i,BX (r.s.getD i [])
theorem BX.settled{x:List Li}(h:BX x)(p:Int):BX (settled x p):=by
 refine⟨?_,fun y hy=>by cases hy⟩
 simp only [Dk.settled,fT,List.getD_cons_zero]
 cases (!fW x)
 ·exact h.1
 ·exact(h.2.take _).app (h.1.drop _)
theorem BR.set{r:R}(h:BR r)(i:Nat){x:List Li}(hx:BX x):BR { r with s:=r.s.set i x }:=fun j=>by
 simp only [getD_set]
 split
 ·exact hx
 ·exact h j
theorem BX.put{x:List Li}(h:BX x)(c:Nat){f:List Int}(hf:Bytes f):BX (tput x c f):=by
 refine⟨?_,?_⟩
 ·simp only [fT];rw [tput_get];split
  ·exact hf
  ·exact h.1
 ·simp only [fN];rw [tput_get];split
  ·exact hf
  ·exact h.2
theorem BR.same{r r':R}(h:BR r)(e:r'.s=r.s):BR r':=fun i=>by rw [e];exact h i
theorem BR.settle{r:R}(h:BR r)(i p:Int):BR (rsettle r i p):=h.set _ ((h _).settled p)
theorem BR.flushK{r:R}(h:BR r):∀ k,BR (rflushK r k)
 | 0=>h
 | k+1=>by
  have ih:=h.flushK k
  rw [rflushK_succ]
  cases fD ((rflushK r k).at k)
  ·exact ih
  ·exact ih.settle _ _
theorem BR.mountK{r:R}(h:BR r)(p:Li):∀ k,BR (rmountK p r k).1
 | 0=>h
 | k+1=>by
  have ih:=h.mountK p k
  rw [rmountK_succ]
  cases fD ((rmountK p r k).1.at k)
  ·exact ih
  ·exact ih.settle _ _
theorem one_bytes:Bytes [1]:=fun y hy=>by rw [List.mem_singleton] at hy;rw [hy];decide
theorem BR.write{r:R}(h:BR r)(i:Int){t:List Int}(ht:Bytes t):BR (rwrite r i t).1:=by
 have h1:BR (rstep r).1:=h.same (rstep_same r)
 simp only [rwrite]
 cases r.off
 ·cases (!ris r i)
  ·cases ((t.length:Int) != 64)
   ·cases ((rstep r).2 != 0)
    ·have h2:=h1.set i.toNat ((h1 i.toNat).put 1 ht)
     exact(h2.set i.toNat ((h2 i.toNat).put 2 one_bytes))
    ·exact h1
   ·exact h
  ·exact h
 ·exact h
theorem BR.op{r:R}(h:BR r)(k i b:Int){t:List Int}(p:Li)(ht:Bytes t):BR (rop r k i b t p).1:=by
 simp only [rop]
 cases (k==1)
 ·cases (k==2)
  ·cases (k==3)
   ·cases (k==4)
    ·cases (k==5)
     ·cases (k==6)
      ·cases (k==7)
       ·exact h
       ·simp only [cond_true,cond_false,rwear]
        cases (!ris r i)
        ·exact h.set _ ((h i.toNat).put 3 one_bytes)
        ·exact h
      ·simp only [cond_true,cond_false,rrot]
       cases (!ris r i)
       ·cases decide (b < 0)
        ·cases decide (b > 511)
         ·exact h.set _ ((h i.toNat).put 0 ((h i.toNat).1.set _ (xor8_range _ _)))
         ·exact h
        ·exact h
       ·exact h
     ·exact(h.mountK p r.s.length).same rfl
    ·exact h.same rfl
   ·simp only [cond_true,cond_false,rflush]
    have h1:BR (rstep r).1:=h.same (rstep_same r)
    cases r.off
    ·cases ((rstep r).2 != 0)
     ·exact h1.flushK _
     ·exact h1
    ·exact h
  ·exact h
 ·exact h.write i ht.text
theorem BR.run{r:R}(h:BR r){xs:List (List Li)}{n:Nat}(hx:∀ k,k < n→Bytes ((xs.getD k []).getD 3 [])):∀ k,k≤n→BR (rAt xs k r)
 | 0,_=>h
 | k+1,hk=>(h.run hx k (by omega)).op _ _ _ _ (hx k (by omega))
end Go.Dk
end
section
/- What Mount leaves, sector by sector. -/
namespace Go.Dk
open Go Go.Am
end Go.Dk
end
section
/- A journal on a disk of the program and one on the specification's disk: the same. -/
namespace Go.Jr
open Go Go.Am Go.Dk
def DV:Dev D:=⟨fun d=>(d.n:Int),write,flush,Dk.read⟩
def RV:Dev R:=⟨fun r=>(r.s.length:Int),rwrite,rflush,rread⟩
structure DevRel {δ ε:Type} (V:Dev δ) (U:Dev ε) (Q:δ→ε→Prop):Prop where
 n:∀ d r,Q d r→V.n d=U.n r
 write:∀ d r i s,Q d r→(V.write d i s).2=(U.write r i s).2∧Q (V.write d i s).1 (U.write r i s).1
 flush:∀ d r,Q d r→(V.flush d).2=(U.flush r).2∧Q (V.flush d).1 (U.flush r).1
 read:∀ d r i,Q d r→V.read d i=U.read r i
variable {δ ε : Type} {V : Dev δ} {U : Dev ε} {Q : δ → ε → Prop} {d : δ} {r : ε}
theorem writes_rel(h:DevRel V U Q)(hq:Q d r)(a:Int)(L:List Li):∀ k,(writes V a L k d).2=(writes U a L k r).2∧Q (writes V a L k d).1 (writes U a L k r).1
 | 0=>⟨rfl,hq⟩
 | k+1=>by
  obtain⟨e,q⟩:=writes_rel h hq a L k
  rw [writes,writes,e]
  cases (writes U a L k r).2 != 0
  ·exact h.write _ _ _ _ q
  ·exact⟨e,q⟩
theorem reads_rel(h:DevRel V U Q)(hq:Q d r)(a:Int)(L:List Li):∀ k,reads V d a L k=reads U r a L k
 | 0=>rfl
 | k+1=>by rw [reads,reads,reads_rel h hq a L k,h.read _ _ _ hq]
theorem writeAll_rel(h:DevRel V U Q)(hq:Q d r)(a:Int)(L:List Li):(writeAll V d a L).2=(writeAll U r a L).2∧Q (writeAll V d a L).1 (writeAll U r a L).1:=by
 obtain⟨e,q⟩:=writes_rel h hq a L L.length
 obtain⟨e2,q2⟩:=h.flush _ _ q
 rw [writeAll,writeAll,e,e2,reads_rel h q2]
 cases (writes U a L L.length r).2 != 0
 ·cases (U.flush (writes U a L L.length r).1).2 != 0
  ·exact⟨rfl,q2⟩
  ·exact⟨rfl,q2⟩
 ·exact⟨rfl,q⟩
theorem append_rel(h:DevRel V U Q)(hq:Q d r)(j:J)(t:Li):(append V d j t).2=(append U r j t).2∧Q (append V d j t).1 (append U r j t).1:=by
 obtain⟨e,q⟩:=writeAll_rel h hq j.fin (sectors j.next t)
 simp only [append,h.n _ _ hq,e]
 cases j.closed
 ·cases decide ((8000:Int) < t.length)
  ·cases decide (j.next > 4096)
   ·cases decide (count t.length > U.n r-j.fin)
    ·cases ((writeAll U r j.fin (sectors j.next t)).2.1 != 0)
     ·cases (!(writeAll U r j.fin (sectors j.next t)).2.2) <;> exact⟨rfl,q⟩
     ·exact⟨rfl,q⟩
    ·exact⟨rfl,hq⟩
   ·exact⟨rfl,hq⟩
  ·exact⟨rfl,hq⟩
 ·exact⟨rfl,hq⟩
theorem write_n(d:D)(i:Int)(s:Li):(write d i s).1.n=d.n:=by
 have hs:=(step_same d).1
 simp only [write]
 cases (check d i != 0)
 ·cases ((s.length:Int) != 64)
  ·cases ((Dk.step d).2 != 0) <;> exact hs
  ·rfl
 ·rfl
theorem flush_n(d:D):(flush d).1.n=d.n:=by
 have hs:=(step_same d).1
 simp only [flush]
 cases (check d 0 != 0)
 ·cases ((Dk.step d).2 != 0)
  ·exact(foldl_n _ _).trans hs
  ·exact hs
 ·rfl
def DR(d:D)(r:R):Prop:=Rel d r∧0 < d.n
theorem devs:DevRel DV RV DR where
 n:=fun d r h=>by show(d.n:Int)=(r.s.length:Int);rw [h.1.n]
 write:=fun d r i s h=>⟨(h.1.write i s).1,(h.1.write i s).2,by rw [show(DV.write d i s).1.n=d.n from write_n d i s];exact h.2⟩
 flush:=fun d r h=>⟨(h.1.flush h.2).1,(h.1.flush h.2).2,by rw [show(DV.flush d).1.n=d.n from flush_n d];exact h.2⟩
 read:=fun d r i h=>h.1.read i
def secsD(d:D):List Li:=(List.range d.n).map fun i:Nat=>(Dk.read d i).1
def secsR(r:R):List Li:=(List.range r.s.length).map fun i:Nat=>(rread r i).1
theorem secs_rel{d:D}{r:R}(h:Rel d r):secsD d=secsR r:=by
 rw [secsD,secsR,h.n]
 exact List.map_congr_left fun i _=>by rw [h.read]
end Go.Jr
end
section
/- What Open finds among whole and spoiled records. -/
namespace Go.Jr
open Go Go.Am
structure Seg where
 num:Int
 text:List Int
 L:List Li
structure Seg.Ok (g:Seg):Prop where
 lo:1≤g.num
 hi:g.num≤4096
 text:g.text.length≤8000
 len:g.L.length=(count g.text.length).toNat
 at_:∀ i,i < g.L.length→g.L.getD i []=sector g.num g.text i∨(unpack (g.L.getD i [])).ok=false
def Seg.full(g:Seg):Bool:=g.L==sectors g.num g.text
theorem sectors_get{n:Int}{t:List Int}{i:Nat}(h:i < (count t.length).toNat):(sectors n t).getD i []=sector n t i:=by
 simp [sectors,List.getD_eq_getElem?_getD,List.getElem?_map,List.getElem?_range h]
theorem Seg.Ok.full{g:Seg}(h:g.Ok)(hf:g.full=true){i:Nat}(hi:i < g.L.length):g.L.getD i []=sector g.num g.text i:=by
 have e:g.L=sectors g.num g.text:=by simpa [Seg.full] using hf
 rw [e,sectors_get (by rw [← h.len];exact hi)]
theorem Seg.Ok.spoiled{g:Seg}(h:g.Ok)(hf:g.full=false):∃ i,i < g.L.length∧(unpack (g.L.getD i [])).ok=false:=by
 apply Classical.byContradiction
 intro hn
 have:g.L=sectors g.num g.text:=by
  apply List.ext_getElem?
  intro i
  by_cases hi:i < g.L.length
  ·have h1:=(h.at_ i hi).resolve_right fun hk=>hn ⟨i,hi,hk⟩
   have hi':i < (sectors g.num g.text).length:=by rw [sectors_len,← h.len];exact hi
   rw [List.getD_eq_getElem?_getD,List.getElem?_eq_getElem hi] at h1
   have h2:=sectors_get (n:=g.num) (t:=g.text) (i:=i) (by rw [← h.len];exact hi)
   rw [List.getD_eq_getElem?_getD,List.getElem?_eq_getElem hi'] at h2
   rw [List.getElem?_eq_getElem hi,List.getElem?_eq_getElem hi']
   simp only [Option.getD_some] at h1 h2
   rw [h1,h2]
  ·have hi':¬ i < (sectors g.num g.text).length:=by rw [sectors_len,← h.len];exact hi
   rw [List.getElem?_eq_none (by omega),List.getElem?_eq_none (by omega)]
 rw [Seg.full,this] at hf
 simp at hf
theorem pt_at(A X B:List Li){i:Nat}(h:i < X.length):pt ((A++X++B).map unpack) (A.length+i)=unpack (X.getD i []):=by
 have e:(A++X++B)[A.length+i]?=X[i]?:=by
  rw [List.append_assoc,List.getElem?_append_right (by omega),Nat.add_sub_cancel_left,List.getElem?_append_left h]
 simp only [pt,List.getD_eq_getElem?_getD,List.getElem?_map,e,List.getElem?_eq_getElem h]
 rfl
theorem collect_none(l:List Part)(a:List Int×List Li):∀ (f k:Nat),(∀ i,k≤i→i < l.length→(pt l i).ok=false)→collect l f k a=a
 | 0,_,_=>rfl
 | f+1,k,h=>by
  simp only [collect]
  by_cases hk:k < l.length
  ·rw [decide_eq_true hk,cond_true]
   have:recOk l k=false:=by simp only [recOk,h k (Nat.le_refl _) hk,Bool.false_and]
   rw [this,cond_false]
   exact collect_none l a f (k+1) fun i hi=>h i (by omega)
  ·rw [decide_eq_false hk,cond_false]
theorem collect_skip(l:List Part)(a:List Int×List Li)(k:Nat):∀ (n f:Nat),n≤f→k+n≤l.length→(∀ i,i < n→recOk l (k+i)=false)→collect l f k a=collect l (f-n) (k+n) a
 | 0,f,_,_,_=>rfl
 | n+1,f,hf,hl,h=>by
  rw [collect_skip l a k n f (by omega) (by omega) fun i hi=>h i (by omega)]
  obtain⟨q,hq⟩:∃ q,f-n=q+1:=⟨f-n-1,by omega⟩
  rw [hq]
  simp only [collect]
  rw [decide_eq_true (by omega),cond_true,h n (by omega),cond_false,show f-(n+1)=q by omega]
  rfl
theorem rec_full{g:Seg}(h:g.Ok)(hf:g.full=true)(A B:List Li):
  recOk ((A++g.L++B).map unpack) A.length=true∧recN ((A++g.L++B).map unpack) A.length=g.L.length∧recText ((A++g.L++B).map unpack) A.length g.L.length=g.text∧(pt ((A++g.L++B).map unpack) A.length).number=g.num:=by
 obtain⟨c1,c2,c3,c4,c5⟩:=count_ok h.text
 have hlen:=h.len
 have key:∀ i,i < g.L.length→pt ((A++g.L++B).map unpack) (A.length+i)=⟨g.num,i,(g.text.length:Int)-48*i,(rest g.text i).take 48,true⟩:=fun i hi=>by
  rw [pt_at A g.L B hi,h.full hf hi,unpack_sector h.lo h.hi h.text (by omega)]
 have k0:=key 0 (by omega)
 rw [Nat.add_zero] at k0
 have hN:recN ((A++g.L++B).map unpack) A.length=g.L.length:=by
  rw [recN,k0,hlen];simp
 refine⟨?_,hN,?_,by rw [k0]⟩
 ·simp only [recOk,hN,Bool.and_eq_true,decide_eq_true_eq,List.all_eq_true,List.mem_range]
  refine⟨⟨by rw [k0],by rw [k0];rfl,by simp⟩,fun i hi=>?_⟩
  simp only [partOk,key i hi,k0,Bool.and_eq_true,decide_eq_true_eq]
  exact⟨trivial,trivial,trivial,by omega⟩
 ·rw [recText,← text_all h.text,← hlen]
  have:∀ n,n≤g.L.length→((List.range n).flatMap fun i=>(pt ((A++g.L++B).map unpack) (A.length+i)).payload)=(List.range n).flatMap fun k=>(rest g.text k).take 48:=by
   intro n
   induction n with
   | zero=>intro _;rfl
   | succ n ih=>
    intro hn
    rw [List.range_succ,List.flatMap_append,List.flatMap_append,ih (by omega)]
    simp only [List.flatMap_cons,List.flatMap_nil,List.append_nil,key n (by omega)]
  exact this _ (Nat.le_refl _)
theorem rec_spoiled{g:Seg}(h:g.Ok)(hf:g.full=false)(A B:List Li){i:Nat}(hi:i < g.L.length):recOk ((A++g.L++B).map unpack) (A.length+i)=false:=by
 obtain⟨c1,c2,c3,c4,c5⟩:=count_ok h.text
 have hlen:=h.len
 have e:=pt_at A g.L B hi
 rcases h.at_ i hi with hs | hs
 ·have e2:=unpack_sector h.lo h.hi h.text (k:=i) (by omega)
  rw [hs,e2] at e
  by_cases h0:i=0
  ·subst h0
   obtain⟨q,hq,hqo⟩:=h.spoiled hf
   have hN:recN ((A++g.L++B).map unpack) (A.length+0)=g.L.length:=by rw [recN,e,hlen];simp
   have hp:partOk ((A++g.L++B).map unpack) (A.length+0) q=false:=by
    simp only [partOk,Nat.add_zero,pt_at A g.L B hq,hqo,Bool.false_and]
   cases hr:recOk ((A++g.L++B).map unpack) (A.length+0) with
   | false=>rfl
   | true=>
    simp only [recOk,hN,Bool.and_eq_true,List.all_eq_true,List.mem_range] at hr
    rw [hr.2 q hq] at hp;cases hp
  ·simp only [recOk,e,Bool.true_and]
   rw [decide_eq_false (by omega),Bool.false_and]
 ·simp only [recOk,e,hs,Bool.false_and]
theorem collect_segs(T:List Li)(hT:∀ s∈T,(unpack s).ok=false):∀ (gs:List Seg) (A:List Li) (f:Nat) (a:List Int×List Li),(∀ g∈gs,g.Ok)→(gs.flatMap Seg.L).length≤f →
  (∀ g∈gs,g.num∉a.1)→(gs.map Seg.num).Nodup →
  collect ((A++(gs.flatMap Seg.L++T)).map unpack) f A.length a=(a.1++(gs.filter Seg.full).map Seg.num,a.2++(gs.filter Seg.full).map Seg.text)
 | [],A,f,a,_,_,_,_=>by
  rw [collect_none]
  ·simp
  ·intro i hi hl
   simp only [List.flatMap_nil,List.nil_append,List.length_map,List.length_append] at hl ⊢
   have hm:(A++T)[i]?=T[i-A.length]?:=List.getElem?_append_right hi
   have hlt:i-A.length < T.length:=by omega
   simp only [pt,List.getD_eq_getElem?_getD,List.getElem?_map,hm,List.getElem?_eq_getElem hlt,Option.map_some,Option.getD_some]
   exact hT _ (List.getElem_mem _)
 | g :: gs,A,f,a,hok,hf,hna,hnd=>by
  have hg:=hok g (.head _)
  have eL:A++((g :: gs).flatMap Seg.L++T)=A++g.L++(gs.flatMap Seg.L++T):=by simp only [List.flatMap_cons,List.append_assoc]
  have eA:A++g.L++(gs.flatMap Seg.L++T)=(A++g.L)++(gs.flatMap Seg.L++T):=rfl
  rw [eL]
  simp only [List.flatMap_cons,List.length_append] at hf
  have hlen:(A++g.L).length=A.length+g.L.length:=List.length_append
  obtain⟨c1,_,_,_,_⟩:=count_ok hg.text
  have hpos:0 < g.L.length:=by rw [hg.len];omega
  rw [List.map_cons,List.nodup_cons] at hnd
  cases hfull:g.full with
  | true=>
   obtain⟨r1,r2,r3,r4⟩:=rec_full hg hfull A (gs.flatMap Seg.L++T)
   obtain⟨q,rfl⟩:∃ q,f=q+1:=⟨f-1,by omega⟩
   have hnc:a.1.contains g.num=false:=by
    cases hc:a.1.contains g.num with
    | false=>rfl
    | true=>exact absurd (by simpa using hc) (hna g (.head _))
   rw [collect,decide_eq_true (by simp only [List.length_map,List.length_append];omega),cond_true,r1,cond_true,r2,r3,r4,put1,hnc,cond_false,← hlen,eA,
    collect_segs T hT gs (A++g.L) q (a.1++[g.num],a.2++[g.text]) (fun x hx=>hok x (.tail _ hx)) (by omega) (fun x hx=>by
     rw [List.mem_append,not_or]
     refine⟨hna x (.tail _ hx),fun hm=>hnd.1 ?_⟩
     rw [List.mem_singleton] at hm
     exact List.mem_map.2 ⟨x,hx,hm⟩) hnd.2]
   simp only [List.filter_cons,hfull,if_true,List.map_cons,List.append_assoc,List.singleton_append]
  | false=>
   rw [collect_skip _ a A.length g.L.length f (by omega) (by simp only [List.length_map,List.length_append];omega) (fun i hi=>rec_spoiled hg hfull A _ hi),← hlen,eA,
    collect_segs T hT gs (A++g.L) (f-g.L.length) a (fun x hx=>hok x (.tail _ hx)) (by omega) (fun x hx=>hna x (.tail _ hx)) hnd.2]
   simp only [List.filter_cons,hfull,Bool.false_eq_true,if_false]
theorem openS_segs{T:List Li}(hT:∀ s∈T,(unpack s).ok=false){gs:List Seg}(hok:∀ g∈gs,g.Ok)(hnd:(gs.map Seg.num).Nodup):
  (openS (gs.flatMap Seg.L++T)).nums=(gs.filter Seg.full).map Seg.num∧(openS (gs.flatMap Seg.L++T)).texts=(gs.filter Seg.full).map Seg.text:=by
 have:=collect_segs T hT gs [] (gs.flatMap Seg.L++T).length ([],[]) hok (by rw [List.length_append];omega) (fun _ _ h=>by cases h) hnd
 simp only [List.nil_append,List.length_nil] at this
 simp only [openS,this]
 exact⟨trivial,trivial⟩
theorem zero_bad:(unpack (List.replicate 64 0)).ok=false:=by
 have:isGood (List.replicate 64 0)=false:=by
  have e:fNum (List.replicate 64 0)=0:=by decide
  simp only [isGood,e]
  simp
 rw [unpack,this];rfl
theorem unpack_bad{s:List Int}(h:(unpack s).ok=false):unpack s=Part.zero:=by
 unfold unpack at h ⊢
 cases hg:isGood s with
 | true=>rw [hg] at h;cases h
 | false=>rfl
theorem nextOf_le{S:List Li}{M:Int}(h0:0≤M):∀ n,(∀ i,i < n→(unpack (S.getD i [])).number≤M)→nextOf S n≤M+1
 | 0,_=>by simp only [nextOf];omega
 | n+1,h=>by
  have ih:=nextOf_le h0 n fun i hi=>h i (by omega)
  have:=h n (by omega)
  simp only [nextOf]
  split <;> omega
theorem nextOf_mono(S:List Li)(n:Nat):nextOf S n≤nextOf S (n+1)∧(unpack (S.getD n [])).number+1≤nextOf S (n+1):=by
 simp only [nextOf]
 split <;> omega
theorem nextOf_one(S:List Li):∀ n,1≤nextOf S n
 | 0=>by simp [nextOf]
 | n+1=>by have:=nextOf_mono S n;have:=nextOf_one S n;omega
theorem finOf_tail{S:List Li}{m:Nat}:∀ n,m≤n→(∀ i,m≤i→i < n→blank (S.getD i [])=true)→finOf S n=finOf S m
 | 0,h,_=>by rw [show m=0 by omega]
 | n+1,h,hb=>by
  by_cases e:m=n+1
  ·rw [e]
  ·rw [finOf,hb n (by omega) (by omega),cond_true,finOf_tail n (by omega) fun i h1 h2=>hb i h1 (by omega)]
theorem finOf_none{S:List Li}{n:Nat}(hb:∀ i,i < n→blank (S.getD i [])=true):finOf S n=0:=by
 rw [finOf_tail (m:=0) n (by omega) fun i _ h2=>hb i h2,finOf]
end Go.Jr
end
section
/- What the other functions of package journal compute, in plain terms. -/
namespace Go.Jr
open Go Go.Am Go.Dk
def idxGo(n:Int):List Int→Nat→Int
 | [],_=>-1
 | x :: l,k=>cond (n==x) (k:Int) (idxGo n l (k+1))
def idx(l:Li)(n:Int):Int:=idxGo n l 0
theorem idx_contains(n:Int):∀ (l:Li) (k:Nat),decide (idxGo n l k≥0)=l.contains n
 | [],k=>rfl
 | x :: l,k=>by
  rw [idxGo,List.contains_cons]
  cases h:(n==x)
  ·rw [cond_false,idx_contains n l,Bool.false_or]
  ·rw [cond_true,Bool.true_or,decide_eq_true_iff];omega
theorem idxGo_drop{n:Int}{l:List Int}{k:Nat}(h:k < l.length):idxGo n (l.drop k) k=cond (n==l.getD k 0) (k:Int) (idxGo n (l.drop (k+1)) (k+1)):=by
 rw [List.drop_eq_getElem_cons h,idxGo,List.getD_eq_getElem?_getD,List.getElem?_eq_getElem h];rfl
def unrow(r:List Li):Part:=⟨(r.getD 0 []).getD 0 0,(r.getD 1 []).getD 0 0,(r.getD 2 []).getD 0 0,r.getD 3 [],(r.getD 4 []).getD 0 0==1⟩
theorem unrow_row(p:Part):unrow p.row=p:=by
 obtain⟨a,b,c,d,e⟩:=p
 cases e <;> rfl
abbrev RL:=List (List Li)
def rec(a:RL):List Int×Int×Bool:=cond (recOk (a.map unrow) 0) (recText (a.map unrow) 0 (recN (a.map unrow) 0),(recN (a.map unrow) 0:Int),true) ([],0,false)
def shortR(a:RL):Bool:=a.all fun r=>decide ((r.getD 3 []).length≤64)
theorem pt_map{a:RL}{i:Nat}(h:i < a.length):pt (a.map unrow) i=unrow (a.getD i []):=by
 rw [pt,List.getD_eq_getElem?_getD,List.getElem?_map,List.getElem?_eq_getElem h,List.getD_eq_getElem?_getD,List.getElem?_eq_getElem h];rfl
theorem pt_drop(l:List Part)(k i:Nat):pt (l.drop k) i=pt l (k+i):=by
 rw [pt,pt,List.getD_eq_getElem?_getD,List.getD_eq_getElem?_getD,List.getElem?_drop]
theorem recN_drop(l:List Part)(k:Nat):recN (l.drop k) 0=recN l k:=by rw [recN,recN,pt_drop];rfl
theorem recText_drop(l:List Part)(k n:Nat):recText (l.drop k) 0 n=recText l k n:=by
 rw [recText,recText]
 congr 1
 funext i
 rw [pt_drop,Nat.zero_add]
theorem partOk_drop(l:List Part)(k i:Nat):partOk (l.drop k) 0 i=partOk l k i:=by
 simp only [partOk,pt_drop,Nat.zero_add,Nat.add_zero]
theorem recOk_drop{l:List Part}{k:Nat}(h:k≤l.length):recOk (l.drop k) 0=recOk l k:=by
 simp only [recOk,pt_drop,Nat.add_zero,recN_drop,List.length_drop]
 rw [show partOk (l.drop k) 0=partOk l k from funext fun i=>partOk_drop l k i]
 congr 2
 rw [decide_eq_decide]
 constructor <;> rintro⟨h1,h2⟩ <;> exact⟨h1,by omega⟩
theorem recText_succ(l:List Part)(k i:Nat):recText l k (i+1)=recText l k i++(pt l (k+i)).payload:=by
 rw [recText,List.range_succ,List.flatMap_append,List.flatMap_singleton];rfl
theorem recText_len{l:List Part}{c:Nat}(h:∀ i,(pt l i).payload.length≤c)(k:Nat):∀ n,(recText l k n).length≤c*n
 | 0=>by simp [recText]
 | n+1=>by
  rw [recText_succ,List.length_append]
  have:=recText_len h k n
  have:=h (k+n)
  rw [Nat.mul_succ];omega
theorem short_pt{a:RL}(h:shortR a=true)(i:Nat):(pt (a.map unrow) i).payload.length≤64:=by
 rcases Nat.lt_or_ge i a.length with hi | hi
 ·rw [pt_map hi,List.getD_eq_getElem?_getD,List.getElem?_eq_getElem hi]
  simp only [shortR,List.all_eq_true,decide_eq_true_eq] at h
  exact h _ (List.getElem_mem hi)
 ·rw [pt,List.getD_eq_getElem?_getD,List.getElem?_eq_none (by simpa using hi)];exact Nat.zero_le _
theorem unpack_left(s:Li)(hb:∀ x∈s,0≤x):(unpack s).ok=true→0≤(unpack s).left∧(unpack s).left≤8000:=by
 intro h
 unfold unpack at h ⊢
 cases hg:isGood s with
 | false=>rw [hg] at h;cases h
 | true=>
  have hn:∀ (b:Li),(∀ x∈b,0≤x)→0≤num b:=fun b=>by
   induction b with
   | nil=>intro _;exact Int.le_refl _
   | cons x b ih=>
    intro hx
    rw [num_cons]
    have:=ih fun y hy=>hx y (.tail _ hy)
    have:=hx x (.head _)
    omega
  simp only [isGood,Bool.and_eq_true,decide_eq_true_eq] at hg
  have h1:=hn ((s.drop 6).take 2) fun x hx=>hb x (List.mem_of_mem_drop (List.mem_of_mem_take hx))
  have h2:=hn ((s.drop 4).take 2) fun x hx=>hb x (List.mem_of_mem_drop (List.mem_of_mem_take hx))
  have h3:=hg.1.2
  simp only [fPart,fLeft] at h3
  simp only [cond_true,fLeft]
  omega
theorem unpack_short(s:Li):(unpack s).payload.length≤48:=by
 unfold unpack
 cases isGood s with
 | false=>exact Nat.zero_le _
 | true=>simp only [cond_true,List.length_take,fN];omega
theorem unpack_num(s:Li)(hb:∀ x∈s,0≤x):0≤(unpack s).number∧(unpack s).number≤4096:=by
 unfold unpack
 cases hg:isGood s with
 | false=>exact⟨Int.le_refl (0:Int),(by decide:(0:Int)≤4096)⟩
 | true=>
  simp only [isGood,Bool.and_eq_true,decide_eq_true_eq] at hg
  simp only [cond_true]
  omega
variable {δ : Type} {V : Dev δ} {d : δ} {a : Int} {L : List Li}
theorem writes_succ{k:Nat}(h:(writes V a L k d).2=0):writes V a L (k+1) d=V.write (writes V a L k d).1 (a+k) (L.getD k []):=by
 rw [writes,h];rfl
theorem writes_stop{k:Nat}(h:(writes V a L k d).2≠0):∀ m,writes V a L (k+m) d=writes V a L k d
 | 0=>rfl
 | m+1=>by
  rw [← Nat.add_assoc,writes,writes_stop h m]
  rw [show((writes V a L k d).2 != 0)=true by simpa using h];rfl
theorem reads_succ{k:Nat}(h:(reads V d a L k).2=0):reads V d a L (k+1)=cond ((V.read d (a+k)).2 != 0) (false,(V.read d (a+k)).2) ((reads V d a L k).1&&(L.getD k []==(V.read d (a+k)).1),0):=by
 rw [reads,h];rfl
theorem reads_stop{k:Nat}(h:(reads V d a L k).2≠0):∀ m,reads V d a L (k+m)=reads V d a L k
 | 0=>rfl
 | m+1=>by
  rw [← Nat.add_assoc,reads,reads_stop h m]
  rw [show((reads V d a L k).2 != 0)=true by simpa using h];rfl
theorem write_fine{d:D}{i:Int}{s:List Int}(h:Dk.fine d=true)(hp:d.pend.length < 7999):Dk.fine (Dk.write d i s).1=true∧(Dk.write d i s).1.pend.length≤d.pend.length+1:=by
 obtain⟨s1,s2,s3,s4⟩:=step_same d
 have hst:Dk.fine (Dk.step d).1=true:=by
  have:∀ i,inD (Dk.step d).1 i=inD d i:=fun i=>inD_n s1 i
  simp only [Dk.fine,s1,s2,s3,s4,this];exact h
 simp only [Dk.write]
 cases hc:(check d i != 0) with
 | true=>exact⟨h,by simp only [cond_true];omega⟩
 | false=>
  cases ((s.length:Int) != 64) with
  | true=>exact⟨h,by simp only [cond_false,cond_true];omega⟩
  | false=>
   cases ((Dk.step d).2 != 0) with
   | true=>exact⟨hst,by simp only [cond_false,cond_true,s3];omega⟩
   | false=>
    have hi:inD d i=true:=by
     have:=check_ok (d:=d) (i:=i) (by simpa using hc)
     simp only [inD,Bool.and_eq_true,decide_eq_true_eq];exact⟨this.2.1,this.2.2⟩
    have hl:=mput_len' (Dk.step d).1.pend [i] (s.take 64)
    simp only [cond_false]
    refine⟨?_,by rw [s3] at hl ⊢;exact hl⟩
    simp only [Dk.fine,Bool.and_eq_true,decide_eq_true_eq] at hst ⊢
    rw [s3] at hl hst ⊢
    refine⟨⟨hst.1.1,hst.1.2.1,by omega,hst.1.2.2.2⟩,?_⟩
    rw [List.all_eq_true]
    refine mput_all (p:=fun e=>inD _ (e.1.getD 0 0)=true) ?_ ?_
    ·show inD _ i=true
     simp only [inD] at hi ⊢
     rw [s1];exact hi
    ·intro e he
     exact List.all_eq_true.1 hst.2 e he
where mput_len':∀ (es:Es) (k v:Li),(mput es k v).length≤es.length+1
 | [],k,v=>by simp [mput]
 | e :: es,k,v=>by
  simp only [mput]
  cases (e.1==k)
  ·simp only [cond_false,List.length_cons];have:=mput_len' es k v;omega
  ·simp
theorem writes_fine{d:D}(h:Dk.fine d=true)(hp:d.pend.length < 4000){a:Int}{L:List Li}:∀ k,k < 3000→Dk.fine (writes DV a L k d).1=true∧(writes DV a L k d).1.pend.length≤d.pend.length+k
 | 0,_=>⟨h,Nat.le_refl _⟩
 | k+1,hk=>by
  obtain⟨h1,h2⟩:=writes_fine h hp (a:=a) (L:=L) k (by omega)
  rw [writes]
  cases ((writes DV a L k d).2 != 0) with
  | true=>exact⟨h1,by simp only [cond_true];omega⟩
  | false=>
   obtain⟨g1,g2⟩:=write_fine (i:=a+k) (s:=L.getD k []) h1 (by omega)
   exact⟨g1,Nat.le_trans g2 (by omega)⟩
structure DOk (d:D):Prop where
 n:d.n < 8000
 len:d.blk.length=d.n*64
 on:d.off=false
 vals:∀ e∈d.pend,e.2.length=64
 b1:∀ x∈d.blk,0≤x∧x < 256
 b2:∀ e∈d.pend,∀ x∈e.2,0≤x∧x < 256
theorem mget_all{es:Es}{z:List Int}{p:List Int→Prop}(hz:p z)(h:∀ e∈es,p e.2)(k:Li):p (mget z es k):=by
 induction es with
 | nil=>exact hz
 | cons e es ih=>
  simp only [mget]
  cases e.1==k
  ·exact ih fun x hx=>h x (.tail _ hx)
  ·exact h e (.head _)
theorem read_ok{d:D}(h:DOk d){i:Nat}(hi:i < d.n):(Dk.read d i).2=0∧(Dk.read d i).1.length=64∧(∀ x∈(Dk.read d i).1,0≤x∧x < 256)∧(Dk.read d i).1=(secsD d).getD i []:=by
 have hc:check d i=0:=by
  simp only [check,h.on,cond_false]
  rw [cond_neg (by omega),cond_neg (by omega)]
 have hS:(Dk.read d i).1=(secsD d).getD i []:=by
  rw [secsD,List.getD_eq_getElem?_getD,List.getElem?_map,List.getElem?_range hi];rfl
 refine⟨?_,?_,?_,hS⟩
 ·simp only [Dk.read,hc]
  cases isP d i <;> rfl
 ·simp only [Dk.read,hc]
  cases isP d i with
  | true=>
   show((nxt d i).take 64).length=64
   rw [List.length_take,nxt,mget64 h.vals];rfl
  | false=>exact sec_len (by have:=h.len;simp only [Int.toNat_natCast];omega)
 ·simp only [Dk.read,hc]
  cases isP d i with
  | true=>
   intro x hx
   exact mget_all (p:=fun l=>∀ x∈l,0≤x∧x < 256) (fun x hx=>by rw [(List.mem_replicate.1 hx).2];decide) h.b2 [(i:Int)] x (List.mem_of_mem_take hx)
  | false=>intro x hx;exact h.b1 x (List.mem_of_mem_drop (List.mem_of_mem_take hx))
theorem blank64{s:List Int}(h:s.length=64):(s.take 64==List.replicate 64 0)=blank s:=by
 rw [List.take_of_length_le (by omega),Bool.eq_iff_iff,beq_iff_eq,blank,List.all_eq_true]
 constructor
 ·intro e x hx;rw [e] at hx;rw [(List.mem_replicate.1 hx).2];rfl
 ·intro hx
  exact List.eq_replicate_iff.2 ⟨h,fun b hb=>by simpa using hx b hb⟩
theorem badOf_succ(S:List Li)(k:Nat):badOf S (k+1)=badOf S k++cond (!blank (S.getD k []) && !(unpack (S.getD k [])).ok) [(k:Int)] []:=by
 rw [badOf,List.range_succ,List.filter_append,List.map_append,badOf]
 congr 1
 simp only [List.filter_cons,List.filter_nil]
 cases (!blank (S.getD k []) && !(unpack (S.getD k [])).ok) <;> rfl
theorem badOf_len(S:List Li)(k:Nat):(badOf S k).length≤k:=by
 rw [badOf,List.length_map]
 exact Nat.le_trans (List.length_filter_le _ _) (by simp)
def rowsOf(S:List Li):RL:=S.map fun s=>(unpack s).row
theorem rows_unrow(S:List Li):(rowsOf S).map unrow=S.map unpack:=by
 rw [rowsOf,List.map_map]
 exact List.map_congr_left fun s _=>unrow_row _
theorem rec_rows{S:List Li}{k:Nat}(h:k≤S.length):rec ((rowsOf S).drop k)=cond (recOk (S.map unpack) k) (recText (S.map unpack) k (recN (S.map unpack) k),(recN (S.map unpack) k:Int),true) ([],0,false):=by
 rw [rec,List.map_drop,rows_unrow,recOk_drop (by simpa using h),recN_drop,recText_drop]
theorem short_rows(S:List Li)(k:Nat):shortR ((rowsOf S).drop k)=true:=by
 rw [shortR,List.all_eq_true]
 intro r hr
 have:=List.mem_of_mem_drop hr
 simp only [rowsOf,List.mem_map] at this
 obtain⟨s,_,rfl⟩:=this
 rw [decide_eq_true_iff]
 exact Nat.le_trans (unpack_short s) (by decide)
theorem recN_pos{S:List Li}(hS:∀ s∈S,∀ x∈s,0≤x){k:Nat}(h:recOk (S.map unpack) k=true):1≤recN (S.map unpack) k∧k+recN (S.map unpack) k≤S.length:=by
 simp only [recOk,Bool.and_eq_true,decide_eq_true_eq,List.length_map] at h
 refine⟨?_,h.1.2.2⟩
 have hok:=h.1.1
 rcases Nat.lt_or_ge k S.length with hk | hk
 ·have e:pt (S.map unpack) k=unpack S[k]:=by
   rw [pt,List.getD_eq_getElem?_getD,List.getElem?_map,List.getElem?_eq_getElem hk];rfl
  rw [recN,e]
  rw [e] at hok
  have:=unpack_left S[k] (hS _ (List.getElem_mem hk)) hok
  have hc:=count_ok (n:=(unpack S[k]).left.toNat) (by omega)
  rw [Int.toNat_of_nonneg this.1] at hc
  omega
 ·rw [pt,List.getD_eq_getElem?_getD,List.getElem?_eq_none (by simpa using hk)] at hok;cases hok
theorem dam_step(l:Li)(k:Nat):(((List.range (k+1)).filter fun i:Nat=>!l.contains ((i:Int)+1)).map fun i:Nat=>(i:Int)+1) =
  (((List.range k).filter fun i:Nat=>!l.contains ((i:Int)+1)).map fun i:Nat=>(i:Int)+1)++cond (!l.contains ((k:Int)+1)) [(k:Int)+1] []:=by
 rw [List.range_succ,List.filter_append,List.map_append]
 congr 1
 simp only [List.filter_cons,List.filter_nil]
 cases (!l.contains ((k:Int)+1)) <;> rfl
theorem there_get(t:Int):∀ (l:Li) (es:Es),(∀ e∈es,e.2=[1])→((mget [0] (l.foldl (fun m n=>mput m [n] [1]) es) [t]).getD 0 0==1)=(l.contains t || mhas es [t])
 | [],es,h=>by rw [List.foldl_nil,mget_ones h];rfl
 | n :: l,es,h=>by
  rw [List.foldl_cons,there_get t l _ (mput_all (p:=fun e=>e.2=[1]) rfl h),mhas_put,List.contains_cons]
  have:(([n]:Li)==[t])=(t==n):=by
   rw [Bool.eq_iff_iff,beq_iff_eq,beq_iff_eq];simp [eq_comm]
  rw [this]
  cases (t==n) <;> cases l.contains t <;> rfl
def okJ(d:D)(j:J):Bool:=decide (d.pend.length < 4000∧0≤j.fin∧j.fin < 100000∧0 < j.next∧j.next < 100000∧j.nums.length < 100000∧j.texts.length < 100000)
def repeat_(t:Li)(n:Int):List Int:=(List.replicate n.toNat t).flatten
def textN(size:Int):Int:=if (8100:Int) < (if (0:Int) > size then (0:Int) else size) then (8100:Int) else (if (0:Int) > size then (0:Int) else size)
def text(size fill:Int):List Int:=(List.range (textN size).toNat).map fun k:Nat=>IntKind.u8.wrap (fill+IntKind.u8.wrap (k:Int))
theorem textN_le(size:Int):0≤textN size∧textN size≤8100:=by
 unfold textN
 split <;> split <;> omega
end Go.Jr
end