/- Part of a proof. -/
import Derived.Test.YtgdibbphgdkllaaAm38D
import Derived.Test.YtgdibbphgdkllaaProg
import Derived.Test.YtgdibbphgdkllaaAm38W
set_option linter.unusedSimpArgs false
set_option linter.unusedVariables false
section
/- The numbers at which the kit's contracts of maps.Keys, slices.Sorted and slices.Sort hold in this program (printed by laykeys.py). -/
namespace Go.Proofs
open Go.RowKit Go.Maps Go.Sort Go.Shelf
def Try.sortA_ren:Go.Shelf.Ren:=⟨fun | 5=>50 | 8=>62 | 7=>61 | 19=>79 | 20=>80 | 10=>70 | 11=>71 | 12=>72 | 13=>73 | 14=>74 | 15=>75 | 16=>76 | 17=>77 | 18=>78 | 30=>84 | 31=>85 | 32=>86 | 33=>87 | 34=>88 | 35=>89 | 40=>92 | n=>n,fun | 23=>22 | 25=>3 | 3=>3 | 32=>79 | 22=>22 | 0=>0 | 44=>100 | 46=>102 | 4=>4 | 36=>94 | 35=>93 | 41=>82 | 5=>5 | 9=>9 | 53=>103 | 57=>107 | 63=>110 | 64=>111 | n=>n,fun | n=>n⟩
theorem Try.sortA:Go.Proofs.SlLaysM.n5 Try.prog Try.sortA_ren:={
 mixed:=by kernel_rfl,
 f5:=⟨Try.f50.name,by decide,Try.func50.trans (congrArg some (by kernel_rfl))⟩,
 f7:=⟨Try.f61.name,by decide,Try.func61.trans (congrArg some (by kernel_rfl))⟩,
 f8:=Try.func62.trans (congrArg some (by kernel_rfl)),
 f10:=⟨Try.f70.name,by decide,Try.func70.trans (congrArg some (by kernel_rfl))⟩,
 f11:=⟨Try.f71.name,by decide,Try.func71.trans (congrArg some (by kernel_rfl))⟩,
 f12:=⟨Try.f72.name,by decide,Try.func72.trans (congrArg some (by kernel_rfl))⟩,
 f13:=⟨Try.f73.name,by decide,Try.func73.trans (congrArg some (by kernel_rfl))⟩,
 f14:=⟨Try.f74.name,by decide,Try.func74.trans (congrArg some (by kernel_rfl))⟩,
 f15:=⟨Try.f75.name,by decide,Try.func75.trans (congrArg some (by kernel_rfl))⟩,
 f16:=⟨Try.f76.name,by decide,Try.func76.trans (congrArg some (by kernel_rfl))⟩,
 f17:=⟨Try.f77.name,by decide,Try.func77.trans (congrArg some (by kernel_rfl))⟩,
 f18:=⟨Try.f78.name,by decide,Try.func78.trans (congrArg some (by kernel_rfl))⟩,
 f19:=Try.func79.trans (congrArg some (by kernel_rfl)),
 f20:=Try.func80.trans (congrArg some (by kernel_rfl)),
 f30:=⟨Try.f84.name,by decide,Try.func84.trans (congrArg some (by kernel_rfl))⟩,
 f31:=Try.func85.trans (congrArg some (by kernel_rfl)),
 f32:=Try.func86.trans (congrArg some (by kernel_rfl)),
 f33:=⟨Try.f87.name,by decide,Try.func87.trans (congrArg some (by kernel_rfl))⟩,
 f34:=⟨Try.f88.name,by decide,Try.func88.trans (congrArg some (by kernel_rfl))⟩,
 f35:=⟨Try.f89.name,by decide,Try.func89.trans (congrArg some (by kernel_rfl))⟩,
 f40:=⟨Try.f92.name,by decide,Try.func92.trans (congrArg some (by kernel_rfl))⟩,
 t0:=Try.underlying0,
 a0:=Try.isAgg0,
 z0:=Try.sizeOf0,
 v0:=Try.zeroValue0,
 t3:=Try.underlying3,
 a3:=Try.isAgg3,
 z3:=Try.sizeOf3,
 v3:=Try.zeroValue3,
 t4:=Try.underlying4,
 a4:=Try.isAgg4,
 z4:=Try.sizeOf4,
 v4:=Try.zeroValue4,
 t5:=Try.underlying5,
 a5:=Try.isAgg5,
 z5:=Try.sizeOf5,
 v5:=Try.zeroValue5,
 t9:=Try.underlying9,
 a9:=Try.isAgg9,
 z9:=Try.sizeOf9,
 v9:=Try.zeroValue9,
 t22:=Try.underlying22,
 a22:=Try.isAgg22,
 z22:=Try.sizeOf22,
 v22:=Try.zeroValue22,
 t23:=Try.underlying22,
 a23:=Try.isAgg22,
 z23:=Try.sizeOf22,
 v23:=Try.zeroValue22,
 t25:=Try.underlying3,
 a25:=Try.isAgg3,
 z25:=Try.sizeOf3,
 v25:=Try.zeroValue3,
 t32:=Try.underlying79,
 a32:=Try.isAgg79,
 z32:=Try.sizeOf79,
 v32:=Try.zeroValue79,
 t35:=Try.underlying93,
 a35:=Try.isAgg93,
 z35:=Try.sizeOf93,
 v35:=Try.zeroValue93,
 t36:=Try.underlying94,
 a36:=Try.isAgg94,
 z36:=Try.sizeOf94,
 v36:=Try.zeroValue94,
 t41:=Try.underlying82,
 a41:=Try.isAgg82,
 z41:=Try.sizeOf82,
 v41:=Try.zeroValue82,
 t44:=Try.underlying100,
 a44:=Try.isAgg100,
 z44:=Try.sizeOf100,
 v44:=Try.zeroValue100,
 t46:=Try.underlying102,
 a46:=Try.isAgg102,
 z46:=Try.sizeOf102,
 v46:=Try.zeroValue102,
 t53:=Try.underlying103,
 a53:=Try.isAgg103,
 z53:=Try.sizeOf103,
 v53:=Try.zeroValue103,
 t57:=Try.underlying107,
 a57:=Try.isAgg107,
 z57:=Try.sizeOf107,
 v57:=Try.zeroValue107,
 t63:=Try.underlying110,
 a63:=Try.isAgg110,
 z63:=Try.sizeOf110,
 v63:=Try.zeroValue110,
 t64:=Try.underlying111,
 a64:=Try.isAgg111,
 z64:=Try.sizeOf111,
 v64:=Try.zeroValue111 }
end Go.Proofs
end
section
namespace Go.Am
open Go Go.Proofs
abbrev sp65:List (Nat×Md):=[(0,.plain),(3,.plain)]
abbrev sp66:List (Nat×Md):=[(0,.plain),(3,.plain),(4,.plain),(5,.plain)]
abbrev sp67:List (Nat×Md):=[(0,.plain)]
abbrev sp68:List (Nat×Md):=[(0,.plain),(3,.plain),(25,.plain)]
abbrev sp69:List (Nat×Md):=[(0,.plain),(3,.plain),(4,.plain)]
abbrev sp70:List (Nat×Md):=[(1,.plain),(5,.own 2),(8,.plain),(9,.plain),(10,.plain)]
abbrev sp71:List (Nat×Md):=[(1,.plain),(5,.plain),(8,.plain),(9,.plain),(10,.plain)]
abbrev Ty87:=Int×Nat×Nat×Nat×Li
abbrev Ty88:=Int×Nat×Nat×Nat×Int×Li
abbrev Ty89:=Int×Nat×Nat×Nat×Int×Li×Nat
abbrev Ty90:=Li×Li×Int×Int×Li
abbrev Ty91:=Li×Li×Int×Li
abbrev Ty92:=Li×Li×Int×Int×Int×Li
def r50:CRun:=runSort
theorem c50:CallOk Try.prog G38 50 r50:=sort_ok Try.sortA
def lVG3851:List CEnt:=[]
def VG3851:Env:=mkEnv T38 G38 lVG3851
noncomputable abbrev Kf37:=kFin VG3851 (some [(2,.view 3)]) (Try.f51).results.toList
theorem eVG3851:EOk Try.prog VG3851:=eok_mk (by exact trivial)
def Af51(F:Nat):Cuts:={ F:=F,at_:=fun n=>match n with | 4041=>some sp65 | 9016=>some sp66 | _=>none,join:=fun n=>match n with | 1057=>some sp67 | 3049=>some sp67 | 4043=>some sp65 | 5001=>some sp65 | 6035=>some sp65 | 7030=>some sp68 | 8026=>some sp69 | 9018=>some sp66 | 14005=>some sp65 | 16003=>some sp67 | _=>none,fin:=(some [(2,.view 3)]) }
noncomputable abbrev XAf51(F:Nat){α:Type}:=@aexec α VG3851 (Af51 F)
def ef51_a:Li→St:=fun a0=>⟨[(0,.own 0 0 1)],[(0,(.cells a0.length (.rI .i64 a0) true))],1,61,1⟩
def ef51j1:Li→St:=fun x1=>⟨[(0,.own 0 0 1)],[(0,(.cells x1.length (.rI .i64 x1) true))],1,61,1⟩
def ef51j2:Li→St:=ef51j1
def ef51j3:Int×Li→St:=fun (t3,x2)=>⟨[(0,.own 0 0 1),(3,.int .i64 t3)],[(0,(.cells x2.length (.rI .i64 x2) true))],1,61,1⟩
def ef51l1:Int×Li→St:=ef51j3
def ef51j4:Int×Li→St:=ef51j3
def ef51j5:Int×Bool×Li→St:=fun (t3,t25,x3)=>⟨[(0,.own 0 0 1),(3,.int .i64 t3),(25,.bool t25)],[(0,(.cells x3.length (.rI .i64 x3) true))],1,61,1⟩
def ef51j6:Ty87→St:=fun (t3,x2,x3,x4,x5)=>⟨[(0,.own 0 0 1),(3,.int .i64 t3),(4,.sl 0 0 x2 x3 x4 1)],[(0,(.cells x5.length (.rI .i64 x5) true))],1,61,1⟩
def ef51j7:Ty88→St:=fun (t3,x2,x3,x4,t5,x6)=>⟨[(0,.own 0 0 1),(3,.int .i64 t3),(4,.sl 0 0 x2 x3 x4 1),(5,.int .i64 t5)],[(0,(.cells x6.length (.rI .i64 x6) true))],1,61,1⟩
def ef51l2:Ty89→St:=fun (t3,x2,x3,x4,t5,x6,x7)=>⟨[(0,.own 0 0 1),(3,.int .i64 t3),(4,.sl 0 0 x2 x3 x4 1),(5,.int .i64 t5)],[(0,(.cells x7 (.rI .i64 x6) true))],1,61,1⟩
def ef51j8:Int×Li×Nat→St:=fun (t3,x2,x3)=>⟨[(0,.own 0 0 1),(3,.int .i64 t3)],[(0,(.cells x3 (.rI .i64 x2) true))],1,61,1⟩
def ef51j9:Int×Li→St:=ef51j3
def ef51j10:Li→St:=ef51j1
def f51_1(F:Nat)(kf51j1:Li→Rz):Li→Rz:=fun a0=>(kf51j1 a0)
theorem f51_1_eq(F:Nat)(Rf51j1:St→Rz):∀ v,XAf51 F (bp Try.f51 2) (ef51_a v) (kSeq (kc VG3851 Rf51j1 sp67) Kf37)=f51_1 F (Rf51j1∘ef51j1) v:=by
 intro a0;kernel_rfl
def f51_2(F:Nat)(kf51j2:Li→Rz):Li→Rz:=fun x1=>(cond (decide ((↑x1.length:Int) < (2:Int))) (some ((.vs (.rI .i64 x1) 0 1),[(.cells x1.length (.rI .i64 x1) false)])) (kf51j2 x1))
theorem f51_2_eq(F:Nat)(Rf51j2:St→Rz):∀ v,XAf51 F (bp Try.f51 6) (ef51j1 v) (kSeq (kc VG3851 Rf51j2 sp67) Kf37)=f51_2 F (Rf51j2∘ef51j2) v:=by
 intro x1;kernel_rfl
def f51_3(F:Nat)(kf51j3:Int×Li→Rz)(kf51j10:Li→Rz):Li→Rz:=fun x1=>(kf51j3 ((1:Int),x1))
theorem f51_3_eq(F:Nat)(Rf51j3:St→Rz)(Rf51j10:St→Rz):∀ v,XAf51 F (bp Try.f51 28) (ef51j2 v) (kSeq (kc VG3851 Rf51j3 sp65) (kSeq (kc VG3851 Rf51j10 sp67) Kf37))=f51_3 F (Rf51j3∘ef51j3) (Rf51j10∘ef51j10) v:=by
 intro x1;kernel_rfl
def f51_4(F:Nat)(kf51j4:Int×Li→Rz)(kf51l1:Int×Li→Rz)(kf51j10:Li→Rz):Int×Li→Rz:=fun (t3,x2)=>(cond (decide (t3 < (↑x2.length:Int))) (kf51j4 (t3,x2)) (kf51j10 x2))
theorem f51_4_eq(F:Nat)(Rf51j4:St→Rz)(Rf51l1:St→Rz)(Rf51j10:St→Rz):∀ v,XAf51 F (bp Try.f51 232) (ef51l1 v) (kSeq (kc VG3851 Rf51j4 sp65) (kSeq (kc VG3851 Rf51l1 sp65) (kBlock 0 (kSeq (kc VG3851 Rf51j10 sp67) Kf37))))=f51_4 F (Rf51j4∘ef51j4) (Rf51l1∘ef51l1) (Rf51j10∘ef51j10) v:=by
 rintro⟨t3,x2⟩;kernel_rfl
def f51_5(F:Nat)(kf51j5:Int×Bool×Li→Rz)(kf51j9:Int×Li→Rz)(kf51l1:Int×Li→Rz)(kf51j10:Li→Rz):Int×Li→Rz:=fun (t3,x2)=>(cond ((decide (0≤t3))&&(decide (t3 < (↑x2.length:Int)))) (cond ((decide (0≤(IntKind.i64.wrap (t3-(1:Int)))))&&(decide ((IntKind.i64.wrap (t3-(1:Int))) < (↑x2.length:Int)))) (kf51j5 (t3,((x2.getD (Int.toNat t3) 0)==(x2.getD (Int.toNat (IntKind.i64.wrap (t3-(1:Int)))) 0)),x2)) none) none)
theorem f51_5_eq(F:Nat)(Rf51j5:St→Rz)(Rf51j9:St→Rz)(Rf51l1:St→Rz)(Rf51j10:St→Rz):∀ v,XAf51 F (bp Try.f51 1864) (ef51j4 v) (kSeq (kc VG3851 Rf51j5 sp68) (kBlock 1 (kSeq (kc VG3851 Rf51j9 sp65) (kSeq (kc VG3851 Rf51l1 sp65) (kBlock 0 (kSeq (kc VG3851 Rf51j10 sp67) Kf37))))))=f51_5 F (Rf51j5∘ef51j5) (Rf51j9∘ef51j9) (Rf51l1∘ef51l1) (Rf51j10∘ef51j10) v:=by
 rintro⟨t3,x2⟩;kernel_rfl
def f51_6(F:Nat)(kf51j6:Ty87→Rz)(kf51j9:Int×Li→Rz)(kf51l1:Int×Li→Rz)(kf51j10:Li→Rz):Int×Bool×Li→Rz:=fun (t3,t25,x3)=>(cond (((decide (0≤t3))&&(decide (t3≤(↑x3.length:Int))))&&(decide ((↑x3.length:Int)≤(↑x3.length:Int)))) (kf51j6 (t3,x3.length,(Int.toNat t3),(x3.length-(Int.toNat t3)),x3)) none)
theorem f51_6_eq(F:Nat)(Rf51j6:St→Rz)(Rf51j9:St→Rz)(Rf51l1:St→Rz)(Rf51j10:St→Rz):∀ v,XAf51 F (bp Try.f51 7460) (ef51j5 v) (kSeq (kc VG3851 Rf51j6 sp69) (kBlock 1 (kSeq (kc VG3851 Rf51j9 sp65) (kSeq (kc VG3851 Rf51l1 sp65) (kBlock 0 (kSeq (kc VG3851 Rf51j10 sp67) Kf37))))))=f51_6 F (Rf51j6∘ef51j6) (Rf51j9∘ef51j9) (Rf51l1∘ef51l1) (Rf51j10∘ef51j10) v:=by
 rintro⟨t3,t25,x3⟩;kernel_rfl
def f51_7(F:Nat)(kf51j7:Ty88→Rz)(kf51j8:Int×Li×Nat→Rz)(kf51j9:Int×Li→Rz)(kf51l1:Int×Li→Rz)(kf51j10:Li→Rz):Ty87→Rz:=fun (t3,x2,x3,x4,x5)=>(kf51j7 (t3,x2,x3,x4,(1:Int),x5))
theorem f51_7_eq(F:Nat)(Rf51j7:St→Rz)(Rf51j8:St→Rz)(Rf51j9:St→Rz)(Rf51l1:St→Rz)(Rf51j10:St→Rz):∀ v,XAf51 F (bp Try.f51 29844) (ef51j6 v) (kSeq (kc VG3851 Rf51j7 sp66) (kSeq (kc VG3851 Rf51j8 sp65) (kBlock 1 (kSeq (kc VG3851 Rf51j9 sp65) (kSeq (kc VG3851 Rf51l1 sp65) (kBlock 0 (kSeq (kc VG3851 Rf51j10 sp67) Kf37)))))))=f51_7 F (Rf51j7∘ef51j7) (Rf51j8∘ef51j8) (Rf51j9∘ef51j9) (Rf51l1∘ef51l1) (Rf51j10∘ef51j10) v:=by
 rintro⟨t3,x2,x3,x4,x5⟩;kernel_rfl
def f51_8(F:Nat)(kf51l2:Ty89→Rz)(kf51j8:Int×Li×Nat→Rz)(kf51j9:Int×Li→Rz)(kf51l1:Int×Li→Rz)(kf51j10:Li→Rz):Ty89→Rz:=fun (t3,x2,x3,x4,t5,x6,x7)=>(cond (decide (t5 < (↑x4:Int))) (cond ((decide (0≤t5))&&(decide (t5 < (↑x4:Int)))) (cond ((decide (0≤(IntKind.i64.wrap (t5-(1:Int)))))&&(decide ((IntKind.i64.wrap (t5-(1:Int))) < (↑x4:Int)))) (cond ((x6.getD ((Int.toNat t5)+x3) 0) != (x6.getD ((Int.toNat (IntKind.i64.wrap (t5-(1:Int))))+x3) 0)) (cond ((decide (0≤t5))&&(decide (t5 < (↑x4:Int)))) (cond ((decide (0≤t3))&&(decide (t3 < (↑x6.length:Int)))) (kf51l2 ((IntKind.i64.wrap (t3+(1:Int))),x2,x3,x4,(IntKind.i64.wrap (t5+(1:Int))),(x6.set (Int.toNat t3) (x6.getD ((Int.toNat t5)+x3) 0)),x7)) none) none) (kf51l2 (t3,x2,x3,x4,(IntKind.i64.wrap (t5+(1:Int))),x6,x7))) none) none) (kf51j8 (t3,x6,x7)))
theorem f51_8_eq(F:Nat)(Rf51l2:St→Rz)(Rf51j8:St→Rz)(Rf51j9:St→Rz)(Rf51l1:St→Rz)(Rf51j10:St→Rz):∀ v,XAf51 F (bp Try.f51 119380) (ef51l2 v) (kSeq (kc VG3851 Rf51l2 sp66) (kBlock 2 (kSeq (kc VG3851 Rf51j8 sp65) (kBlock 1 (kSeq (kc VG3851 Rf51j9 sp65) (kSeq (kc VG3851 Rf51l1 sp65) (kBlock 0 (kSeq (kc VG3851 Rf51j10 sp67) Kf37))))))))=f51_8 F (Rf51l2∘ef51l2) (Rf51j8∘ef51j8) (Rf51j9∘ef51j9) (Rf51l1∘ef51l1) (Rf51j10∘ef51j10) v:=by
 rintro⟨t3,x2,x3,x4,t5,x6,x7⟩;kernel_rfl
def f51_9_i:Ty88→Int×Nat×Nat×Nat×Int×Li×Nat:=fun (t3,x2,x3,x4,t5,x6)=>(t3,x2,x3,x4,t5,x6,x6.length)
def f51_9(F:Nat)(kf51j8:Int×Li×Nat→Rz)(kf51j9:Int×Li→Rz)(kf51l1:Int×Li→Rz)(kf51j10:Li→Rz):Ty88→Rz:=fun v=>loopN (fun k=>f51_8 F k kf51j8 kf51j9 kf51l1 kf51j10) F (f51_9_i v)
theorem f51_9_eq(F:Nat)(Rf51j8:St→Rz)(Rf51j9:St→Rz)(Rf51l1:St→Rz)(Rf51j10:St→Rz):∀ v,XAf51 F (bp Try.f51 59690) (ef51j7 v) (kBlock 2 (kSeq (kc VG3851 Rf51j8 sp65) (kBlock 1 (kSeq (kc VG3851 Rf51j9 sp65) (kSeq (kc VG3851 Rf51l1 sp65) (kBlock 0 (kSeq (kc VG3851 Rf51j10 sp67) Kf37)))))))=f51_9 F (Rf51j8∘ef51j8) (Rf51j9∘ef51j9) (Rf51l1∘ef51l1) (Rf51j10∘ef51j10) v:=
 loop_cut (by kernel_rfl) (by kernel_rfl) ef51j7 ef51l2 _ f51_9_i (fun k=>f51_8 F k (Rf51j8∘ef51j8) (Rf51j9∘ef51j9) (Rf51l1∘ef51l1) (Rf51j10∘ef51j10))
  (by rintro⟨t3,x2,x3,x4,t5,x6⟩;kernel_rfl) (fun Rf51l2=>f51_8_eq F Rf51l2 Rf51j8 Rf51j9 Rf51l1 Rf51j10)
def f51_10(F:Nat)(kf51j8:Int×Li×Nat→Rz)(kf51j9:Int×Li→Rz)(kf51l1:Int×Li→Rz)(kf51j10:Li→Rz):Ty88→Rz:=f51_9 F kf51j8 kf51j9 kf51l1 kf51j10
theorem f51_10_eq(F:Nat)(Rf51j8:St→Rz)(Rf51j9:St→Rz)(Rf51l1:St→Rz)(Rf51j10:St→Rz):∀ v,XAf51 F (bp Try.f51 29845) (ef51j7 v) (kSeq (kc VG3851 Rf51j8 sp65) (kBlock 1 (kSeq (kc VG3851 Rf51j9 sp65) (kSeq (kc VG3851 Rf51l1 sp65) (kBlock 0 (kSeq (kc VG3851 Rf51j10 sp67) Kf37))))))=f51_10 F (Rf51j8∘ef51j8) (Rf51j9∘ef51j9) (Rf51l1∘ef51l1) (Rf51j10∘ef51j10) v:=fun v=>
 (block_in  (by kernel_rfl) _ _).trans (f51_9_eq F Rf51j8 Rf51j9 Rf51l1 Rf51j10 v)
def f51_11(F:Nat)(kf51j8:Int×Li×Nat→Rz)(kf51j9:Int×Li→Rz)(kf51l1:Int×Li→Rz)(kf51j10:Li→Rz):Ty87→Rz:=fun v=>f51_7 F (f51_10 F kf51j8 kf51j9 kf51l1 kf51j10) kf51j8 kf51j9 kf51l1 kf51j10 v
theorem f51_11_eq(F:Nat)(Rf51j8:St→Rz)(Rf51j9:St→Rz)(Rf51l1:St→Rz)(Rf51j10:St→Rz):∀ v,XAf51 F (bp Try.f51 14922) (ef51j6 v) (kSeq (kc VG3851 Rf51j8 sp65) (kBlock 1 (kSeq (kc VG3851 Rf51j9 sp65) (kSeq (kc VG3851 Rf51l1 sp65) (kBlock 0 (kSeq (kc VG3851 Rf51j10 sp67) Kf37))))))=f51_11 F (Rf51j8∘ef51j8) (Rf51j9∘ef51j9) (Rf51l1∘ef51l1) (Rf51j10∘ef51j10) v:=
 seq_cut (by kernel_rfl) (by kernel_rfl) ef51j6 ef51j7 _ (fun k=>f51_7 F k (Rf51j8∘ef51j8) (Rf51j9∘ef51j9) (Rf51l1∘ef51l1) (Rf51j10∘ef51j10)) (f51_10 F (Rf51j8∘ef51j8) (Rf51j9∘ef51j9) (Rf51l1∘ef51l1) (Rf51j10∘ef51j10))
  (fun Rf51j7=>f51_7_eq F Rf51j7 Rf51j8 Rf51j9 Rf51l1 Rf51j10) (f51_10_eq F Rf51j8 Rf51j9 Rf51l1 Rf51j10)
def f51_12(F:Nat)(kf51j9:Int×Li→Rz)(kf51l1:Int×Li→Rz)(kf51j10:Li→Rz):Int×Li×Nat→Rz:=fun (t3,x2,x3)=>(cond (((decide (0≤t3))&&(decide (t3≤(↑x2.length:Int))))&&(decide ((↑x2.length:Int)≤(↑x2.length:Int)))) (cond ((decide ((0:Int)≤t3))&&(decide (t3≤(↑(x2.take (Int.toNat t3)++((List.replicate (x2.length-(Int.toNat t3)) 0).take (min (x2.length-(Int.toNat t3)) (x2.length-(Int.toNat t3))))++x2.drop ((Int.toNat t3)+(min (x2.length-(Int.toNat t3)) (x2.length-(Int.toNat t3))))).length:Int)))) (some ((.vs (.rI .i64 ((x2.take (Int.toNat t3)++((List.replicate (x2.length-(Int.toNat t3)) 0).take (min (x2.length-(Int.toNat t3)) (x2.length-(Int.toNat t3))))++x2.drop ((Int.toNat t3)+(min (x2.length-(Int.toNat t3)) (x2.length-(Int.toNat t3))))).take (Int.toNat t3))) 0 1),[(.cells x3 (.rI .i64 (x2.take (Int.toNat t3)++((List.replicate (x2.length-(Int.toNat t3)) 0).take (min (x2.length-(Int.toNat t3)) (x2.length-(Int.toNat t3))))++x2.drop ((Int.toNat t3)+(min (x2.length-(Int.toNat t3)) (x2.length-(Int.toNat t3)))))) false)])) none) none)
theorem f51_12_eq(F:Nat)(Rf51j9:St→Rz)(Rf51l1:St→Rz)(Rf51j10:St→Rz):∀ v,XAf51 F (bp Try.f51 14923) (ef51j8 v) (kBlock 1 (kSeq (kc VG3851 Rf51j9 sp65) (kSeq (kc VG3851 Rf51l1 sp65) (kBlock 0 (kSeq (kc VG3851 Rf51j10 sp67) Kf37)))))=f51_12 F (Rf51j9∘ef51j9) (Rf51l1∘ef51l1) (Rf51j10∘ef51j10) v:=by
 rintro⟨t3,x2,x3⟩;kernel_rfl
def f51_13(F:Nat)(kf51j9:Int×Li→Rz)(kf51l1:Int×Li→Rz)(kf51j10:Li→Rz):Ty87→Rz:=fun v=>f51_11 F (f51_12 F kf51j9 kf51l1 kf51j10) kf51j9 kf51l1 kf51j10 v
theorem f51_13_eq(F:Nat)(Rf51j9:St→Rz)(Rf51l1:St→Rz)(Rf51j10:St→Rz):∀ v,XAf51 F (bp Try.f51 7461) (ef51j6 v) (kBlock 1 (kSeq (kc VG3851 Rf51j9 sp65) (kSeq (kc VG3851 Rf51l1 sp65) (kBlock 0 (kSeq (kc VG3851 Rf51j10 sp67) Kf37)))))=f51_13 F (Rf51j9∘ef51j9) (Rf51l1∘ef51l1) (Rf51j10∘ef51j10) v:=
 seq_cut (by kernel_rfl) (by kernel_rfl) ef51j6 ef51j8 _ (fun k=>f51_11 F k (Rf51j9∘ef51j9) (Rf51l1∘ef51l1) (Rf51j10∘ef51j10)) (f51_12 F (Rf51j9∘ef51j9) (Rf51l1∘ef51l1) (Rf51j10∘ef51j10))
  (fun Rf51j8=>f51_11_eq F Rf51j8 Rf51j9 Rf51l1 Rf51j10) (f51_12_eq F Rf51j9 Rf51l1 Rf51j10)
def f51_14(F:Nat)(kf51j9:Int×Li→Rz)(kf51l1:Int×Li→Rz)(kf51j10:Li→Rz):Int×Bool×Li→Rz:=fun v=>f51_6 F (f51_13 F kf51j9 kf51l1 kf51j10) kf51j9 kf51l1 kf51j10 v
theorem f51_14_eq(F:Nat)(Rf51j9:St→Rz)(Rf51l1:St→Rz)(Rf51j10:St→Rz):∀ v,XAf51 F (bp Try.f51 3730) (ef51j5 v) (kBlock 1 (kSeq (kc VG3851 Rf51j9 sp65) (kSeq (kc VG3851 Rf51l1 sp65) (kBlock 0 (kSeq (kc VG3851 Rf51j10 sp67) Kf37)))))=f51_14 F (Rf51j9∘ef51j9) (Rf51l1∘ef51l1) (Rf51j10∘ef51j10) v:=
 seq_cut (by kernel_rfl) (by kernel_rfl) ef51j5 ef51j6 _ (fun k=>f51_6 F k (Rf51j9∘ef51j9) (Rf51l1∘ef51l1) (Rf51j10∘ef51j10)) (f51_13 F (Rf51j9∘ef51j9) (Rf51l1∘ef51l1) (Rf51j10∘ef51j10))
  (fun Rf51j6=>f51_6_eq F Rf51j6 Rf51j9 Rf51l1 Rf51j10) (f51_13_eq F Rf51j9 Rf51l1 Rf51j10)
def f51_15(F:Nat)(kf51j9:Int×Li→Rz)(kf51l1:Int×Li→Rz)(kf51j10:Li→Rz):Int×Bool×Li→Rz:=fun (t3,t25,x3)=>(kf51j9 (t3,x3))
theorem f51_15_eq(F:Nat)(Rf51j9:St→Rz)(Rf51l1:St→Rz)(Rf51j10:St→Rz):∀ v,XAf51 F (bp Try.f51 3731) (ef51j5 v) (kBlock 1 (kSeq (kc VG3851 Rf51j9 sp65) (kSeq (kc VG3851 Rf51l1 sp65) (kBlock 0 (kSeq (kc VG3851 Rf51j10 sp67) Kf37)))))=f51_15 F (Rf51j9∘ef51j9) (Rf51l1∘ef51l1) (Rf51j10∘ef51j10) v:=by
 rintro⟨t3,t25,x3⟩;kernel_rfl
def f51_16(F:Nat)(kf51j9:Int×Li→Rz)(kf51l1:Int×Li→Rz)(kf51j10:Li→Rz):Int×Bool×Li→Rz:=fun v=>cond ((fun (t3,t25,x3)=>t25) v) (f51_14 F kf51j9 kf51l1 kf51j10 v) (f51_15 F kf51j9 kf51l1 kf51j10 v)
theorem f51_16_eq(F:Nat)(Rf51j9:St→Rz)(Rf51l1:St→Rz)(Rf51j10:St→Rz):∀ v,XAf51 F (bp Try.f51 1865) (ef51j5 v) (kBlock 1 (kSeq (kc VG3851 Rf51j9 sp65) (kSeq (kc VG3851 Rf51l1 sp65) (kBlock 0 (kSeq (kc VG3851 Rf51j10 sp67) Kf37)))))=f51_16 F (Rf51j9∘ef51j9) (Rf51l1∘ef51l1) (Rf51j10∘ef51j10) v:=
 cond_in (o:=.tmp 25) (by kernel_rfl) ef51j5 _ (fun (t3,t25,x3)=>t25) (by rintro⟨t3,t25,x3⟩;kernel_rfl) _ _ (f51_14_eq F Rf51j9 Rf51l1 Rf51j10) (f51_15_eq F Rf51j9 Rf51l1 Rf51j10)
def f51_17(F:Nat)(kf51j9:Int×Li→Rz)(kf51l1:Int×Li→Rz)(kf51j10:Li→Rz):Int×Li→Rz:=fun v=>f51_5 F (f51_16 F kf51j9 kf51l1 kf51j10) kf51j9 kf51l1 kf51j10 v
theorem f51_17_eq(F:Nat)(Rf51j9:St→Rz)(Rf51l1:St→Rz)(Rf51j10:St→Rz):∀ v,XAf51 F (bp Try.f51 932) (ef51j4 v) (kBlock 1 (kSeq (kc VG3851 Rf51j9 sp65) (kSeq (kc VG3851 Rf51l1 sp65) (kBlock 0 (kSeq (kc VG3851 Rf51j10 sp67) Kf37)))))=f51_17 F (Rf51j9∘ef51j9) (Rf51l1∘ef51l1) (Rf51j10∘ef51j10) v:=
 seq_cut (by kernel_rfl) (by kernel_rfl) ef51j4 ef51j5 _ (fun k=>f51_5 F k (Rf51j9∘ef51j9) (Rf51l1∘ef51l1) (Rf51j10∘ef51j10)) (f51_16 F (Rf51j9∘ef51j9) (Rf51l1∘ef51l1) (Rf51j10∘ef51j10))
  (fun Rf51j5=>f51_5_eq F Rf51j5 Rf51j9 Rf51l1 Rf51j10) (f51_16_eq F Rf51j9 Rf51l1 Rf51j10)
def f51_18(F:Nat)(kf51j9:Int×Li→Rz)(kf51l1:Int×Li→Rz)(kf51j10:Li→Rz):Int×Li→Rz:=f51_17 F kf51j9 kf51l1 kf51j10
theorem f51_18_eq(F:Nat)(Rf51j9:St→Rz)(Rf51l1:St→Rz)(Rf51j10:St→Rz):∀ v,XAf51 F (bp Try.f51 466) (ef51j4 v) (kSeq (kc VG3851 Rf51j9 sp65) (kSeq (kc VG3851 Rf51l1 sp65) (kBlock 0 (kSeq (kc VG3851 Rf51j10 sp67) Kf37))))=f51_18 F (Rf51j9∘ef51j9) (Rf51l1∘ef51l1) (Rf51j10∘ef51j10) v:=fun v=>
 (block_in  (by kernel_rfl) _ _).trans (f51_17_eq F Rf51j9 Rf51l1 Rf51j10 v)
def f51_19(F:Nat)(kf51l1:Int×Li→Rz)(kf51j10:Li→Rz):Int×Li→Rz:=fun (t3,x2)=>(kf51l1 ((IntKind.i64.wrap (t3+(1:Int))),x2))
theorem f51_19_eq(F:Nat)(Rf51l1:St→Rz)(Rf51j10:St→Rz):∀ v,XAf51 F (bp Try.f51 467) (ef51j9 v) (kSeq (kc VG3851 Rf51l1 sp65) (kBlock 0 (kSeq (kc VG3851 Rf51j10 sp67) Kf37)))=f51_19 F (Rf51l1∘ef51l1) (Rf51j10∘ef51j10) v:=by
 rintro⟨t3,x2⟩;kernel_rfl
def f51_20(F:Nat)(kf51l1:Int×Li→Rz)(kf51j10:Li→Rz):Int×Li→Rz:=fun v=>f51_18 F (f51_19 F kf51l1 kf51j10) kf51l1 kf51j10 v
theorem f51_20_eq(F:Nat)(Rf51l1:St→Rz)(Rf51j10:St→Rz):∀ v,XAf51 F (bp Try.f51 233) (ef51j4 v) (kSeq (kc VG3851 Rf51l1 sp65) (kBlock 0 (kSeq (kc VG3851 Rf51j10 sp67) Kf37)))=f51_20 F (Rf51l1∘ef51l1) (Rf51j10∘ef51j10) v:=
 seq_cut (by kernel_rfl) (by kernel_rfl) ef51j4 ef51j9 _ (fun k=>f51_18 F k (Rf51l1∘ef51l1) (Rf51j10∘ef51j10)) (f51_19 F (Rf51l1∘ef51l1) (Rf51j10∘ef51j10))
  (fun Rf51j9=>f51_18_eq F Rf51j9 Rf51l1 Rf51j10) (f51_19_eq F Rf51l1 Rf51j10)
def f51_21(F:Nat)(kf51l1:Int×Li→Rz)(kf51j10:Li→Rz):Int×Li→Rz:=fun v=>f51_4 F (f51_20 F kf51l1 kf51j10) kf51l1 kf51j10 v
theorem f51_21_eq(F:Nat)(Rf51l1:St→Rz)(Rf51j10:St→Rz):∀ v,XAf51 F (bp Try.f51 116) (ef51l1 v) (kSeq (kc VG3851 Rf51l1 sp65) (kBlock 0 (kSeq (kc VG3851 Rf51j10 sp67) Kf37)))=f51_21 F (Rf51l1∘ef51l1) (Rf51j10∘ef51j10) v:=
 seq_cut (by kernel_rfl) (by kernel_rfl) ef51l1 ef51j4 _ (fun k=>f51_4 F k (Rf51l1∘ef51l1) (Rf51j10∘ef51j10)) (f51_20 F (Rf51l1∘ef51l1) (Rf51j10∘ef51j10))
  (fun Rf51j4=>f51_4_eq F Rf51j4 Rf51l1 Rf51j10) (f51_20_eq F Rf51l1 Rf51j10)
def f51_22_i:Int×Li→Int×Li:=fun (t3,x2)=>(t3,x2)
def f51_22(F:Nat)(kf51j10:Li→Rz):Int×Li→Rz:=fun v=>loopN (fun k=>f51_21 F k kf51j10) F (f51_22_i v)
theorem f51_22_eq(F:Nat)(Rf51j10:St→Rz):∀ v,XAf51 F (bp Try.f51 58) (ef51j3 v) (kBlock 0 (kSeq (kc VG3851 Rf51j10 sp67) Kf37))=f51_22 F (Rf51j10∘ef51j10) v:=
 loop_cut (by kernel_rfl) (by kernel_rfl) ef51j3 ef51l1 _ f51_22_i (fun k=>f51_21 F k (Rf51j10∘ef51j10))
  (by rintro⟨t3,x2⟩;kernel_rfl) (fun Rf51l1=>f51_21_eq F Rf51l1 Rf51j10)
def f51_23(F:Nat)(kf51j10:Li→Rz):Int×Li→Rz:=f51_22 F kf51j10
theorem f51_23_eq(F:Nat)(Rf51j10:St→Rz):∀ v,XAf51 F (bp Try.f51 29) (ef51j3 v) (kSeq (kc VG3851 Rf51j10 sp67) Kf37)=f51_23 F (Rf51j10∘ef51j10) v:=fun v=>
 (block_in  (by kernel_rfl) _ _).trans (f51_22_eq F Rf51j10 v)
def f51_24(F:Nat)(kf51j10:Li→Rz):Li→Rz:=fun v=>f51_3 F (f51_23 F kf51j10) kf51j10 v
theorem f51_24_eq(F:Nat)(Rf51j10:St→Rz):∀ v,XAf51 F (bp Try.f51 14) (ef51j2 v) (kSeq (kc VG3851 Rf51j10 sp67) Kf37)=f51_24 F (Rf51j10∘ef51j10) v:=
 seq_cut (by kernel_rfl) (by kernel_rfl) ef51j2 ef51j3 _ (fun k=>f51_3 F k (Rf51j10∘ef51j10)) (f51_23 F (Rf51j10∘ef51j10))
  (fun Rf51j3=>f51_3_eq F Rf51j3 Rf51j10) (f51_23_eq F Rf51j10)
def f51_25(F:Nat):Li→Rz:=fun x1=>(some ((.vs (.rI .i64 x1) 0 1),[(.cells x1.length (.rI .i64 x1) false)]))
theorem f51_25_eq(F:Nat):∀ v,XAf51 F (bp Try.f51 15) (ef51j10 v) Kf37=f51_25 F v:=by
 intro x1;kernel_rfl
def f51_26(F:Nat):Li→Rz:=fun v=>f51_24 F (f51_25 F) v
theorem f51_26_eq(F:Nat):∀ v,XAf51 F (bp Try.f51 7) (ef51j2 v) Kf37=f51_26 F v:=
 seq_cut (by kernel_rfl) (by kernel_rfl) ef51j2 ef51j10 _ (fun k=>f51_24 F k) (f51_25 F)
  (fun Rf51j10=>f51_24_eq F Rf51j10) (f51_25_eq F)
def f51_27(F:Nat):Li→Rz:=fun v=>f51_2 F (f51_26 F) v
theorem f51_27_eq(F:Nat):∀ v,XAf51 F (bp Try.f51 3) (ef51j1 v) Kf37=f51_27 F v:=
 seq_cut (by kernel_rfl) (by kernel_rfl) ef51j1 ef51j2 _ (fun k=>f51_2 F k) (f51_26 F)
  (fun Rf51j2=>f51_2_eq F Rf51j2) (f51_26_eq F)
def f51_28(F:Nat):Li→Rz:=fun v=>f51_1 F (f51_27 F) v
theorem f51_28_eq(F:Nat):∀ v,XAf51 F (sub (bodyOf Try.f51) []) (ef51_a v) Kf37=f51_28 F v:=
 seq_cut (by kernel_rfl) (by kernel_rfl) ef51_a ef51j1 _ (fun k=>f51_1 F k) (f51_27 F)
  (fun Rf51j1=>f51_1_eq F Rf51j1) (f51_27_eq F)
def f51(F:Nat):Li→Rz:=f51_28 F
theorem f51_body(F:Nat)(a0:List Int):abody VG3851 (Af51 F) Try.f51 [(.own 0 0 1)] [(.cells a0.length (.rI .i64 a0) true)]=f51 F a0:=
 (abody_in (c:=(sub (bodyOf Try.f51) [])) (by kernel_rfl) (s:=ef51_a a0) (by kernel_rfl)).trans (f51_28_eq F a0)
def r51:CRun:=fun X H=>match X,H with
 | [(.own 0 0 1)],[(.cells z0 (.rI .i64 a0) true)]=>some ((decide (a0.length < 1073741824)),(.vs (.rI .i64 (Reg.compact a0)) 0 1),[(.cells a0.length (.rI .i64 (Reg.compactZ a0)) false)])
 | _,_=>none
theorem s51(a0:List Int)(hp:((decide (a0.length < 1073741824)))=true)(k0:okB (.cells a0.length (.rI .i64 a0) true)):∃ F,f51 F a0=some ((.vs (.rI .i64 (Reg.compact a0)) 0 1),[(.cells a0.length (.rI .i64 (Reg.compactZ a0)) false)]):=by
 simp only [decide_eq_true_eq] at hp
 obtain⟨F,hF⟩:∃ F,F=a0.length+1:=⟨_,rfl⟩
 refine⟨F,?_⟩
 simp only [f51,f51_28,f51_1,f51_27,f51_2]
 by_cases h2:a0.length < 2
 ·rw [cond_pos (by omega)]
  have hc:Reg.compact a0=a0:=by
   match a0,h2 with
   | [],_=>rfl
   | [_],_=>rfl
  rw [Reg.compactZ_self hc,hc]
 rw [cond_neg (by omega)]
 simp only [f51_26,f51_24,f51_3,f51_23,f51_22,f51_22_i]
 refine loopN_ind (fun m s=>∃ k:Nat,s=((k:Int),a0)∧m=a0.length-k∧1≤k∧k≤a0.length∧Reg.compact (a0.take k)=a0.take k) ?_ _ (a0.length-1) _ (by omega) ⟨1,rfl,rfl,Nat.le_refl _,by omega,by
  match a0,h2 with
  | [],h2=>exact absurd (by simp) h2
  | _ :: _,_=>rfl⟩
 rintro m s K ⟨k,rfl,hm,hk1,hkl,hck⟩ hk
 simp only [f51_21,f51_4,f51_20,f51_18,f51_17,f51_5,f51_16,dec_and]
 by_cases hkL:k < a0.length
 ·rw [cond_pos (by omega),cond_pos (by omega),i64w (by omega) (by omega),cond_pos (by omega),show(k:Int)-1=((k-1:Nat):Int) by omega]
  simp only [Int.toNat_natCast]
  have hstep:=Reg.compact_take (a:=a0) (i:=k) (by omega) hkL
  by_cases he:a0.getD k 0=a0.getD (k-1) 0
  ·have hb:(a0.getD k 0==a0.getD (k-1) 0)=true:=by rw [he];simp
   rw [hb,cond_true]
   simp only [f51_14,f51_6,f51_13,f51_11,f51_7,f51_10,f51_9,f51_9_i,dec_and,Int.toNat_natCast]
   rw [cond_pos (by omega)]
   rw [if_pos he,List.append_nil,hck] at hstep
   refine loopN_ind (fun m s=>∃ (q t:Nat) (x:List Int),s=((t:Int),a0.length,k,a0.length-k,(q:Int),x,a0.length)∧m=a0.length-k-q∧1≤q∧q≤a0.length-k∧x.length=a0.length∧t+1≤k+q ∧
    t=(Reg.compact (a0.take (k+q))).length∧x.take t=Reg.compact (a0.take (k+q)) ∧ ∀ j,k+q≤j+1→x.getD j 0=a0.getD j 0) ?_ _ (a0.length-k-1) _ (by omega)
    ⟨1,k,a0,rfl,rfl,Nat.le_refl _,by omega,rfl,by omega,by rw [hstep,List.length_take];omega,hstep.symm,fun _ _=>rfl⟩
   rintro m s K2 ⟨q,t,x,rfl,hm,hq1,hql,hxl,htq,htc,hxt,hxj⟩ hk2
   simp only [f51_8,f51_12,dec_and,int_bne]
   by_cases hqL:q < a0.length-k
   ·rw [cond_pos (by omega),cond_pos (by omega),i64w (by omega) (by omega),cond_pos (by omega),show(q:Int)-1=((q-1:Nat):Int) by omega]
    simp only [Int.toNat_natCast]
    simp only [hxj (q+k) (by omega),hxj (q-1+k) (by omega)]
    have hst:=Reg.compact_take (a:=a0) (i:=k+q) (by omega) (by omega)
    rw [show k+q-1=q-1+k by omega,show k+q=q+k by omega] at hst
    by_cases hn:a0.getD (q+k) 0=a0.getD (q-1+k) 0
    ·rw [cond_neg (fun h=>h hn),i64w (by omega) (by omega)]
     rw [if_pos hn,List.append_nil] at hst
     refine hk2 (m-1) _ (by omega) ⟨q+1,t,x,rfl,by omega,by omega,by omega,hxl,by omega,?_,?_,fun j hj=>hxj j (by omega)⟩
     ·rw [show k+(q+1)=q+k+1 by omega,hst,show q+k=k+q by omega];exact htc
     ·rw [show k+(q+1)=q+k+1 by omega,hst,show q+k=k+q by omega];exact hxt
    ·rw [cond_pos hn,cond_pos (by omega),cond_pos (by omega),i64w (by omega) (by omega),i64w (by omega) (by omega)]
     rw [if_neg hn] at hst
     have hx2:(x.set t (a0.getD (q+k) 0)).take (t+1)=Reg.compact (a0.take (k+(q+1))):=by
      rw [show k+(q+1)=q+k+1 by omega,hst,show q+k=k+q by omega,← hxt,Reg.take_snoc (by rw [List.length_set];omega),List.take_set_of_le (Nat.le_refl _)]
      congr 2
      rw [List.getD_eq_getElem?_getD,List.getElem?_set_self (by omega)];rfl
     refine hk2 (m-1) _ (by omega) ⟨q+1,t+1,x.set t (a0.getD (q+k) 0),rfl,by omega,by omega,by omega,by rw [List.length_set];exact hxl,by omega,?_,hx2,fun j hj=>?_⟩
     ·rw [← hx2,List.length_take,List.length_set];omega
     ·rw [List.getD_eq_getElem?_getD,List.getElem?_set_ne (by omega),← List.getD_eq_getElem?_getD]
      exact hxj j (by omega)
   ·have hqe:k+q=a0.length:=by omega
    rw [hqe,List.take_length] at htc hxt
    rw [cond_neg (by omega)]
    have hz:=Reg.compactZ_of hxl htc hxt
    simp only [Int.toNat_natCast,hz]
    rw [cond_pos (by omega),cond_pos (by rw [Reg.compactZ_len];omega),Reg.compactZ_take htc]
  ·have hb:(a0.getD k 0==a0.getD (k-1) 0)=false:=by rw [Bool.eq_false_iff];intro h;exact he (by simpa using h)
   rw [hb,cond_false]
   simp only [f51_15,f51_19]
   rw [i64w (by omega) (by omega)]
   rw [if_neg he,hck,← Reg.take_snoc hkL] at hstep
   exact hk (m-1) _ (by omega) ⟨k+1,rfl,by omega,by omega,by omega,hstep⟩
 ·have hc:Reg.compact a0=a0:=by
   have e:k=a0.length:=by omega
   rw [e,List.take_length] at hck;exact hck
  rw [cond_neg (by omega)]
  simp only [f51_25]
  rw [Reg.compactZ_self hc,hc]
theorem c51:CallOk Try.prog G38 51 r51:=callOk_of (V:=VG3851) mixed tys eVG3851 (f:=51) (fn:=Try.f51) Try.func51 (by kernel_rfl) (c:=sub (bodyOf Try.f51) []) (by kernel_rfl) (by
 intro X H r H' h hX hH
 unfold r51 at h;split at h <;> try contradiction
 ·simp only [Option.some.injEq,Prod.mk.injEq] at h
  obtain⟨hp,rfl,rfl⟩:=h
  obtain rfl:=okB_size (hH _ (.head _)) rfl
  obtain⟨F,hF⟩:=s51 _ hp (hH _ (.head _))
  exact⟨Af51 F,(f51_body F _).trans hF⟩)
def lVG3832:List CEnt:=[(50,[none],r50),(51,[none],r51)]
def VG3832:Env:=mkEnv T38 G38 lVG3832
noncomputable abbrev Kf38:=kFin VG3832 none (Try.f32).results.toList
theorem eVG3832:EOk Try.prog VG3832:=eok_mk (by exact⟨c50,c51,trivial⟩)
def Af32(F:Nat):Cuts:={ F:=F,at_:=fun n=>match n with | 3016=>some sp70 | _=>none,join:=fun n=>match n with | 1028=>some sp7 | 2026=>some sp12 | 3018=>some sp71 | 8005=>some sp16 | _=>none }
noncomputable abbrev XAf32(F:Nat){α:Type}:=@aexec α VG3832 (Af32 F)
def ef32_a:Li×Li→St:=fun (a0,a1)=>⟨[(0,(.vs (.rI .i64 a0) 0 1)),(1,(.vs (.rI .i64 a1) 0 1))],[],0,41,0⟩
def ef32j1:Li×Li→St:=fun (t0,t1)=>⟨[(0,(.vs (.rI .i64 t0) 0 1)),(1,(.vs (.rI .i64 t1) 0 1))],[],0,41,0⟩
def ef32j2:Li×Li→St:=fun (t0,t1)=>⟨[(0,(.vs (.rI .i64 t0) 0 1)),(1,(.vs (.rI .i64 t1) 0 1)),(5,.ns)],[],0,41,0⟩
def ef32j3:Ty15→St:=fun (t1,t8,t9,t10)=>⟨[(1,(.vs (.rI .i64 t1) 0 1)),(5,.ns),(8,(.vs (.rI .i64 t8) 0 1)),(9,.int .i64 t9),(10,.int .i64 t10)],[],0,41,0⟩
def ef32l1:Ty90→St:=fun (t1,t8,t9,t10,x5)=>⟨[(1,(.vs (.rI .i64 t1) 0 1)),(5,.own 0 0 1),(8,(.vs (.rI .i64 t8) 0 1)),(9,.int .i64 t9),(10,.int .i64 t10)],[(0,(.cells x5.length (.rI .i64 x5) true))],1,41,0⟩
def ef32j4:Li→St:=fun x1=>⟨[(5,.own 0 0 1)],[(0,(.cells x1.length (.rI .i64 x1) true))],1,41,0⟩
def f32_1(F:Nat)(kf32j1:Li×Li→Rz):Li×Li→Rz:=fun (a0,a1)=>(kf32j1 (a0,a1))
theorem f32_1_eq(F:Nat)(Rf32j1:St→Rz):∀ v,XAf32 F (bp Try.f32 2) (ef32_a v) (kSeq (kc VG3832 Rf32j1 sp7) Kf38)=f32_1 F (Rf32j1∘ef32j1) v:=by
 rintro⟨a0,a1⟩;kernel_rfl
def f32_2(F:Nat)(kf32j2:Li×Li→Rz):Li×Li→Rz:=fun (t0,t1)=>(kf32j2 (t0,t1))
theorem f32_2_eq(F:Nat)(Rf32j2:St→Rz):∀ v,XAf32 F (bp Try.f32 6) (ef32j1 v) (kSeq (kc VG3832 Rf32j2 sp12) Kf38)=f32_2 F (Rf32j2∘ef32j2) v:=by
 rintro⟨t0,t1⟩;kernel_rfl
def f32_3(F:Nat)(kf32j3:Ty15→Rz)(kf32j4:Li→Rz):Li×Li→Rz:=fun (t0,t1)=>(kf32j3 (t1,t0,(↑t0.length:Int),(0:Int)))
theorem f32_3_eq(F:Nat)(Rf32j3:St→Rz)(Rf32j4:St→Rz):∀ v,XAf32 F (bp Try.f32 28) (ef32j2 v) (kSeq (kc VG3832 Rf32j3 sp71) (kSeq (kc VG3832 Rf32j4 sp16) Kf38))=f32_3 F (Rf32j3∘ef32j3) (Rf32j4∘ef32j4) v:=by
 rintro⟨t0,t1⟩;kernel_rfl
def f32_4(F:Nat)(kf32l1:Ty90→Rz)(kf32j4:Li→Rz):Ty90→Rz:=fun (t1,t8,t9,t10,x5)=>(cond (decide (t10 < t9)) (cond ((decide (0≤t10))&&(decide (t10 < (↑t8.length:Int)))) (cond (decide ((t8.getD (Int.toNat t10) 0)≥(0:Int))) (cond (decide ((t8.getD (Int.toNat t10) 0) < (↑t1.length:Int))) (cond ((decide (0≤(t8.getD (Int.toNat t10) 0)))&&(decide ((t8.getD (Int.toNat t10) 0) < (↑t1.length:Int)))) (cond (decide ((t1.getD (Int.toNat (t8.getD (Int.toNat t10) 0)) 0)≥(0:Int))) (cond ((decide (0≤(t8.getD (Int.toNat t10) 0)))&&(decide ((t8.getD (Int.toNat t10) 0) < (↑t1.length:Int)))) (cond (decide ((x5.length+1) < 1073741824)) (kf32l1 (t1,t8,t9,(IntKind.i64.wrap (t10+(1:Int))),(x5++[(t1.getD (Int.toNat (t8.getD (Int.toNat t10) 0)) 0)]))) none) none) (kf32l1 (t1,t8,t9,(IntKind.i64.wrap (t10+(1:Int))),x5))) none) (kf32l1 (t1,t8,t9,(IntKind.i64.wrap (t10+(1:Int))),x5))) (kf32l1 (t1,t8,t9,(IntKind.i64.wrap (t10+(1:Int))),x5))) none) (kf32j4 x5))
theorem f32_4_eq(F:Nat)(Rf32l1:St→Rz)(Rf32j4:St→Rz):∀ v,XAf32 F (bp Try.f32 116) (ef32l1 v) (kSeq (kc VG3832 Rf32l1 sp70) (kBlock 0 (kSeq (kc VG3832 Rf32j4 sp16) Kf38)))=f32_4 F (Rf32l1∘ef32l1) (Rf32j4∘ef32j4) v:=by
 rintro⟨t1,t8,t9,t10,x5⟩;kernel_rfl
def f32_5_i:Ty15→Li×Li×Int×Int×Li:=fun (t1,t8,t9,t10)=>(t1,t8,t9,t10,[])
def f32_5(F:Nat)(kf32j4:Li→Rz):Ty15→Rz:=fun v=>loopN (fun k=>f32_4 F k kf32j4) F (f32_5_i v)
theorem f32_5_eq(F:Nat)(Rf32j4:St→Rz):∀ v,XAf32 F (bp Try.f32 58) (ef32j3 v) (kBlock 0 (kSeq (kc VG3832 Rf32j4 sp16) Kf38))=f32_5 F (Rf32j4∘ef32j4) v:=
 loop_cut (by kernel_rfl) (by kernel_rfl) ef32j3 ef32l1 _ f32_5_i (fun k=>f32_4 F k (Rf32j4∘ef32j4))
  (by rintro⟨t1,t8,t9,t10⟩;kernel_rfl) (fun Rf32l1=>f32_4_eq F Rf32l1 Rf32j4)
def f32_6(F:Nat)(kf32j4:Li→Rz):Ty15→Rz:=f32_5 F kf32j4
theorem f32_6_eq(F:Nat)(Rf32j4:St→Rz):∀ v,XAf32 F (bp Try.f32 29) (ef32j3 v) (kSeq (kc VG3832 Rf32j4 sp16) Kf38)=f32_6 F (Rf32j4∘ef32j4) v:=fun v=>
 (block_in  (by kernel_rfl) _ _).trans (f32_5_eq F Rf32j4 v)
def f32_7(F:Nat)(kf32j4:Li→Rz):Li×Li→Rz:=fun v=>f32_3 F (f32_6 F kf32j4) kf32j4 v
theorem f32_7_eq(F:Nat)(Rf32j4:St→Rz):∀ v,XAf32 F (bp Try.f32 14) (ef32j2 v) (kSeq (kc VG3832 Rf32j4 sp16) Kf38)=f32_7 F (Rf32j4∘ef32j4) v:=
 seq_cut (by kernel_rfl) (by kernel_rfl) ef32j2 ef32j3 _ (fun k=>f32_3 F k (Rf32j4∘ef32j4)) (f32_6 F (Rf32j4∘ef32j4))
  (fun Rf32j3=>f32_3_eq F Rf32j3 Rf32j4) (f32_6_eq F Rf32j4)
def f32_8(F:Nat):Li→Rz:=fun x1=>(cond (decide (x1.length < 1073741824)) (cond (decide ((sortI x1).length < 1073741824)) (some ((.vs (.rI .i64 (Reg.compact (sortI x1))) 0 1),[])) none) none)
theorem f32_8_eq(F:Nat):∀ v,XAf32 F (bp Try.f32 15) (ef32j4 v) Kf38=f32_8 F v:=by
 intro x1;kernel_rfl
def f32_9(F:Nat):Li×Li→Rz:=fun v=>f32_7 F (f32_8 F) v
theorem f32_9_eq(F:Nat):∀ v,XAf32 F (bp Try.f32 7) (ef32j2 v) Kf38=f32_9 F v:=
 seq_cut (by kernel_rfl) (by kernel_rfl) ef32j2 ef32j4 _ (fun k=>f32_7 F k) (f32_8 F)
  (fun Rf32j4=>f32_7_eq F Rf32j4) (f32_8_eq F)
def f32_10(F:Nat):Li×Li→Rz:=fun v=>f32_2 F (f32_9 F) v
theorem f32_10_eq(F:Nat):∀ v,XAf32 F (bp Try.f32 3) (ef32j1 v) Kf38=f32_10 F v:=
 seq_cut (by kernel_rfl) (by kernel_rfl) ef32j1 ef32j2 _ (fun k=>f32_2 F k) (f32_9 F)
  (fun Rf32j2=>f32_2_eq F Rf32j2) (f32_9_eq F)
def f32_11(F:Nat):Li×Li→Rz:=fun v=>f32_1 F (f32_10 F) v
theorem f32_11_eq(F:Nat):∀ v,XAf32 F (sub (bodyOf Try.f32) []) (ef32_a v) Kf38=f32_11 F v:=
 seq_cut (by kernel_rfl) (by kernel_rfl) ef32_a ef32j1 _ (fun k=>f32_1 F k) (f32_10 F)
  (fun Rf32j1=>f32_1_eq F Rf32j1) (f32_10_eq F)
def f32(F:Nat):Li×Li→Rz:=f32_11 F
theorem f32_body(F:Nat)(a0:List Int)(a1:List Int):abody VG3832 (Af32 F) Try.f32 [(.vs (.rI .i64 a0) 0 1),(.vs (.rI .i64 a1) 0 1)] []=f32 F (a0,a1):=
 (abody_in (c:=(sub (bodyOf Try.f32) [])) (by kernel_rfl) (s:=ef32_a (a0,a1)) (by kernel_rfl)).trans (f32_11_eq F (a0,a1))
def r32:CRun:=fun X H=>match X,H with
 | [(.vs (.rI .i64 a0) 0 1),(.vs (.rI .i64 a1) 0 1)],[]=>some ((decide (a0.length < 1073741000)),(.vs (.rI .i64 (Reg.need a0 a1)) 0 1),[])
 | _,_=>none
theorem s32(a0:List Int)(a1:List Int)(hp:((decide (a0.length < 1073741000)))=true)(h0:okV (.vs (.rI .i64 a0) 0 1))(h1:okV (.vs (.rI .i64 a1) 0 1)):∃ F,f32 F (a0,a1)=some ((.vs (.rI .i64 (Reg.need a0 a1)) 0 1),[]):=by
 simp only [decide_eq_true_eq] at hp
 refine⟨a0.length+1,?_⟩
 simp only [f32,f32_11,f32_1,f32_10,f32_2,f32_9,f32_7,f32_3,f32_6,f32_5,f32_5_i]
 refine loopN_from (fun i=>(a1,a0,(a0.length:Int),(i:Int),Reg.owned (a0.take i) a1)) a0.length (by rfl) (fun i hi k=>?_) (fun k=>?_) _ (by omega)
 ·have hle:=Reg.owned_le (a0.take i) a1
  rw [List.length_take] at hle
  simp only [f32_4,dec_and,Int.toNat_natCast,Reg.owned_succ a1 hi]
  rw [cond_pos (by omega),cond_pos (by omega),i64w (by omega) (by omega)]
  by_cases g0:(a0.getD i 0)≥0
  ·rw [cond_pos g0]
   by_cases g1:(a0.getD i 0) < (a1.length:Int)
   ·rw [cond_pos g1,cond_pos ⟨g0,g1⟩]
    by_cases g2:a1.getD (a0.getD i 0).toNat 0≥0
    ·rw [cond_pos g2,cond_pos ⟨g0,g1⟩,cond_pos (by omega),if_pos ⟨g0,g1,g2⟩];rfl
    ·rw [cond_neg g2,if_neg (fun h=>g2 h.2.2),List.append_nil];rfl
   ·rw [cond_neg g1,if_neg (fun h=>g1 h.2.1),List.append_nil];rfl
  ·rw [cond_neg g0,if_neg (fun h=>g0 h.1),List.append_nil];rfl
 ·have hle:=Reg.owned_le a0 a1
  simp only [f32_4,f32_8,List.take_length]
  rw [cond_neg (by omega),cond_pos (by omega),cond_pos (by rw [sortI_len];omega)]
  rfl
theorem c32:CallOk Try.prog G38 32 r32:=callOk_of (V:=VG3832) mixed tys eVG3832 (f:=32) (fn:=Try.f32) Try.func32 (by kernel_rfl) (c:=sub (bodyOf Try.f32) []) (by kernel_rfl) (by
 intro X H r H' h hX hH
 unfold r32 at h;split at h <;> try contradiction
 ·simp only [Option.some.injEq,Prod.mk.injEq] at h
  obtain⟨hp,rfl,rfl⟩:=h
  obtain⟨F,hF⟩:=s32 _ _ hp (hX _ (.head _)) (hX _ (.tail _ (.head _)))
  exact⟨Af32 F,(f32_body F _ _).trans hF⟩)
def f33_1(F:Nat)(kf33j1:Li×Li→Rz):Li×Li→Rz:=fun (a0,a1)=>(kf33j1 (a0,a1))
def f33_2(F:Nat)(kf33j2:Ty79→Rz):Li×Li→Rz:=fun (t0,t1)=>(kf33j2 (t0,t1,[]))
def f33_3(F:Nat)(kf33j3:Ty91→Rz)(kf33j10:Li→Rz):Ty79→Rz:=fun (t0,t1,x3)=>(kf33j3 (t0,t1,(0:Int),x3))
def f33_4(F:Nat)(kf33j4:Ty91→Rz)(kf33l1:Ty91→Rz)(kf33j10:Li→Rz):Ty91→Rz:=fun (t0,t1,t6,x4)=>(cond (decide (t6 < (↑t0.length:Int))) (kf33j4 (t0,t1,t6,x4)) (kf33j10 x4))
def f33_5(F:Nat)(kf33j5:Ty91→Rz)(kf33j9:Ty91→Rz)(kf33l1:Ty91→Rz)(kf33j10:Li→Rz):Ty91→Rz:=fun (t0,t1,t6,x4)=>(cond ((decide (0≤t6))&&(decide (t6 < (↑t0.length:Int)))) (cond (decide ((t0.getD (Int.toNat t6) 0) < (0:Int))) (kf33j9 (t0,t1,t6,x4)) (cond ((decide (0≤t6))&&(decide (t6 < (↑t0.length:Int)))) (cond (decide ((t0.getD (Int.toNat t6) 0)≥(↑t1.length:Int))) (kf33j9 (t0,t1,t6,x4)) (cond ((decide (0≤t6))&&(decide (t6 < (↑t0.length:Int)))) (cond ((decide (0≤(t0.getD (Int.toNat t6) 0)))&&(decide ((t0.getD (Int.toNat t6) 0) < (↑t1.length:Int)))) (cond (decide ((t1.getD (Int.toNat (t0.getD (Int.toNat t6) 0)) 0) < (0:Int))) (kf33j9 (t0,t1,t6,x4)) (kf33j5 (t0,t1,t6,x4))) none) none)) none)) none)
def f33_6(F:Nat)(kf33j6:Ty90→Rz)(kf33j9:Ty91→Rz)(kf33l1:Ty91→Rz)(kf33j10:Li→Rz):Ty91→Rz:=fun (t0,t1,t6,x4)=>(cond ((decide (0≤t6))&&(decide (t6 < (↑t0.length:Int)))) (cond ((decide (0≤(t0.getD (Int.toNat t6) 0)))&&(decide ((t0.getD (Int.toNat t6) 0) < (↑t1.length:Int)))) (kf33j6 (t0,t1,t6,(t1.getD (Int.toNat (t0.getD (Int.toNat t6) 0)) 0),x4)) none) none)
def f33_7(F:Nat)(kf33j7:Ty92→Rz)(kf33j9:Ty91→Rz)(kf33l1:Ty91→Rz)(kf33j10:Li→Rz):Ty90→Rz:=fun (t0,t1,t6,t7,x5)=>(kf33j7 (t0,t1,t6,t7,(0:Int),x5))
def f33_8(F:Nat)(kf33l2:Ty92→Rz)(kf33j8:Ty92→Rz)(kf33j9:Ty91→Rz)(kf33l1:Ty91→Rz)(kf33j10:Li→Rz):Ty92→Rz:=fun (t0,t1,t6,t7,t8,x6)=>(cond (decide (t8 < (↑x6.length:Int))) (cond ((decide (0≤(if (IntKind.i64.wrap ((↑x6.length:Int)-(1:Int))) < t8 then (IntKind.i64.wrap ((↑x6.length:Int)-(1:Int))) else t8)))&&(decide ((if (IntKind.i64.wrap ((↑x6.length:Int)-(1:Int))) < t8 then (IntKind.i64.wrap ((↑x6.length:Int)-(1:Int))) else t8) < (↑x6.length:Int)))) (cond (decide ((x6.getD (Int.toNat (if (IntKind.i64.wrap ((↑x6.length:Int)-(1:Int))) < t8 then (IntKind.i64.wrap ((↑x6.length:Int)-(1:Int))) else t8)) 0) < t7)) (kf33l2 (t0,t1,t6,t7,(IntKind.i64.wrap (t8+(1:Int))),x6)) (kf33j8 (t0,t1,t6,t7,t8,x6))) none) (kf33j8 (t0,t1,t6,t7,t8,x6)))
def f33_9_i:Ty92→Li×Li×Int×Int×Int×Li:=fun (t0,t1,t6,t7,t8,x6)=>(t0,t1,t6,t7,t8,x6)
def f33_9(F:Nat)(kf33j8:Ty92→Rz)(kf33j9:Ty91→Rz)(kf33l1:Ty91→Rz)(kf33j10:Li→Rz):Ty92→Rz:=fun v=>loopN (fun k=>f33_8 F k kf33j8 kf33j9 kf33l1 kf33j10) F (f33_9_i v)
def f33_10(F:Nat)(kf33j8:Ty92→Rz)(kf33j9:Ty91→Rz)(kf33l1:Ty91→Rz)(kf33j10:Li→Rz):Ty92→Rz:=f33_9 F kf33j8 kf33j9 kf33l1 kf33j10
def f33_11(F:Nat)(kf33j9:Ty91→Rz)(kf33l1:Ty91→Rz)(kf33j10:Li→Rz):Ty92→Rz:=fun (t0,t1,t6,t7,t8,x6)=>(cond (decide (t8 < (↑x6.length:Int))) (cond ((decide (0≤(if (IntKind.i64.wrap ((↑x6.length:Int)-(1:Int))) < t8 then (IntKind.i64.wrap ((↑x6.length:Int)-(1:Int))) else t8)))&&(decide ((if (IntKind.i64.wrap ((↑x6.length:Int)-(1:Int))) < t8 then (IntKind.i64.wrap ((↑x6.length:Int)-(1:Int))) else t8) < (↑x6.length:Int)))) (cond ((x6.getD (Int.toNat (if (IntKind.i64.wrap ((↑x6.length:Int)-(1:Int))) < t8 then (IntKind.i64.wrap ((↑x6.length:Int)-(1:Int))) else t8)) 0)==t7) (kf33j9 (t0,t1,t6,x6)) (cond ((decide ((0:Int)≤t8))&&(decide (t8≤(↑x6.length:Int)))) (cond (decide ((0+(Int.toNat t8)) < 1073741824)) (cond (decide ((([]++(x6.take (Int.toNat t8))).length+1) < 1073741824)) (cond (((decide (0≤t8))&&(decide (t8≤(↑x6.length:Int))))&&(decide ((↑x6.length:Int)≤(↑x6.length:Int)))) (cond (decide (((([]++(x6.take (Int.toNat t8)))++[t7]).length+(x6.length-(Int.toNat t8))) < 1073741824)) (kf33j9 (t0,t1,t6,((([]++(x6.take (Int.toNat t8)))++[t7])++((x6.drop (Int.toNat t8)).take (x6.length-(Int.toNat t8)))))) none) none) none) none) none)) none) (cond ((decide ((0:Int)≤t8))&&(decide (t8≤(↑x6.length:Int)))) (cond (decide ((0+(Int.toNat t8)) < 1073741824)) (cond (decide ((([]++(x6.take (Int.toNat t8))).length+1) < 1073741824)) (cond (((decide (0≤t8))&&(decide (t8≤(↑x6.length:Int))))&&(decide ((↑x6.length:Int)≤(↑x6.length:Int)))) (cond (decide (((([]++(x6.take (Int.toNat t8)))++[t7]).length+(x6.length-(Int.toNat t8))) < 1073741824)) (kf33j9 (t0,t1,t6,((([]++(x6.take (Int.toNat t8)))++[t7])++((x6.drop (Int.toNat t8)).take (x6.length-(Int.toNat t8)))))) none) none) none) none) none))
def f33_12(F:Nat)(kf33j9:Ty91→Rz)(kf33l1:Ty91→Rz)(kf33j10:Li→Rz):Ty92→Rz:=fun v=>f33_10 F (f33_11 F kf33j9 kf33l1 kf33j10) kf33j9 kf33l1 kf33j10 v
def f33_13(F:Nat)(kf33j9:Ty91→Rz)(kf33l1:Ty91→Rz)(kf33j10:Li→Rz):Ty90→Rz:=fun v=>f33_7 F (f33_12 F kf33j9 kf33l1 kf33j10) kf33j9 kf33l1 kf33j10 v
def f33_14(F:Nat)(kf33j9:Ty91→Rz)(kf33l1:Ty91→Rz)(kf33j10:Li→Rz):Ty91→Rz:=fun v=>f33_6 F (f33_13 F kf33j9 kf33l1 kf33j10) kf33j9 kf33l1 kf33j10 v
def f33_15(F:Nat)(kf33j9:Ty91→Rz)(kf33l1:Ty91→Rz)(kf33j10:Li→Rz):Ty91→Rz:=fun v=>f33_5 F (f33_14 F kf33j9 kf33l1 kf33j10) kf33j9 kf33l1 kf33j10 v
def f33_16(F:Nat)(kf33j9:Ty91→Rz)(kf33l1:Ty91→Rz)(kf33j10:Li→Rz):Ty91→Rz:=f33_15 F kf33j9 kf33l1 kf33j10
def f33_17(F:Nat)(kf33l1:Ty91→Rz)(kf33j10:Li→Rz):Ty91→Rz:=fun (t0,t1,t6,x4)=>(kf33l1 (t0,t1,(IntKind.i64.wrap (t6+(1:Int))),x4))
def f33_18(F:Nat)(kf33l1:Ty91→Rz)(kf33j10:Li→Rz):Ty91→Rz:=fun v=>f33_16 F (f33_17 F kf33l1 kf33j10) kf33l1 kf33j10 v
def f33_19(F:Nat)(kf33l1:Ty91→Rz)(kf33j10:Li→Rz):Ty91→Rz:=fun v=>f33_4 F (f33_18 F kf33l1 kf33j10) kf33l1 kf33j10 v
def f33_20_i:Ty91→Li×Li×Int×Li:=fun (t0,t1,t6,x4)=>(t0,t1,t6,x4)
def f33_20(F:Nat)(kf33j10:Li→Rz):Ty91→Rz:=fun v=>loopN (fun k=>f33_19 F k kf33j10) F (f33_20_i v)
def f33_21(F:Nat)(kf33j10:Li→Rz):Ty91→Rz:=f33_20 F kf33j10
def f33_22(F:Nat)(kf33j10:Li→Rz):Ty79→Rz:=fun v=>f33_3 F (f33_21 F kf33j10) kf33j10 v
def f33_23(F:Nat):Li→Rz:=fun x1=>(some ((.own 0 0 1),[(.cells x1.length (.rI .i64 x1) true)]))
def f33_24(F:Nat):Ty79→Rz:=fun v=>f33_22 F (f33_23 F) v
def f33_25(F:Nat):Li×Li→Rz:=fun v=>f33_2 F (f33_24 F) v
def f33_26(F:Nat):Li×Li→Rz:=fun v=>f33_1 F (f33_25 F) v
def f33(F:Nat):Li×Li→Rz:=f33_26 F
end Go.Am
end
section
/- Package island: what its functions compute, in plain Lean. -/
namespace Go.Am.Isl
open Go Go.Am
def pos(l:List Int)(n:Int):Nat→Nat
 | 0=>0
 | k+1=>if l.getD k 0 > n then pos l n k else k+1
def ins(l:List Int)(n:Int):List Int:=if l.any (fun y=>y==n)=true then l else l.take (pos l n l.length)++[n]++l.drop (pos l n l.length)
def set(l:List Int):List Int:=l.foldl ins []
def meets(l link:List Int):Bool:=link.any fun x=>l.any fun y=>y==x
def step1(s link out:List Int):List Int:=link.foldl (fun out x=>if meets out link=true∧s.any (fun y=>y==x)=true then ins out x else out) out
def round(s:List Int)(links:List (List Int))(out:List Int):List Int:=links.foldl (fun out l=>step1 s l out) out
def clsN(s:List Int)(links:List (List Int)):Nat→List Int→List Int
 | 0,out=>out
 | n+1,out=>if (round s links out).length=out.length then round s links out else clsN s links n (round s links out)
def cls(s:List Int)(links:List (List Int))(x:Int):List Int:=clsN s links s.length [x]
def clssF(s:List Int)(links:List (List Int))(st:List (List Int)×List Int)(x:Int):List (List Int)×List Int:=
 if st.2.any (fun y=>y==x)=true then st else (st.1++[cls s links x],(cls s links x).foldl ins st.2)
def clss(s:List Int)(links:List (List Int)):List (List Int):=(s.foldl (clssF s links) ([],[])).1
def nums(n:Nat):List Int:=(List.range n).map fun (i:Nat)=>(i:Int)
def idxL(i:Int)(l:List (List Int)):Int:=Reg.idx (fun g=>g.any fun y=>y==i) l
def groups(n:Int)(links:List (List Int)):List (List Int):=if n < 1∨n > 4096 then [] else clss (nums n.toNat) links
def of(n:Int)(g:List (List Int)):List Int:=if n < 1∨n > 4096 then [] else (List.range n.toNat).map fun (i:Nat)=>idxL (i:Int) g
def merge(g links:List (List Int)):List (List Int):=clss (set g.flatten) (g++links)
def split(g:List Int)(links:List (List Int)):List (List Int):=clss (set g) links
def link(l:List Int)(n:Int)(i:Nat):List Int:=(List.range (1+Reg.at_ l (4*(i:Int)) 3).toNat).map fun (k:Nat)=>
 if Reg.at_ l (4*(i:Int)+1+(k:Int)) (n+2) > n then -1 else Reg.at_ l (4*(i:Int)+1+(k:Int)) (n+2)
def some(l:List Int)(n:Int):List (List Int):=(List.range (min ((l.length+3) / 4) 10)).map fun (i:Nat)=>link l n i
def inc:List Int→Bool
 | x :: y :: l=>decide (x < y)&&inc (y :: l)
 | _=>true
theorem pos_le(l:List Int)(n:Int):∀ k,pos l n k≤k
 | 0=>Nat.le_refl _
 | k+1=>by
  unfold pos;split
  ·exact Nat.le_succ_of_le (pos_le l n k)
  ·exact Nat.le_refl _
theorem nums_len(n:Nat):(nums n).length=n:=by simp [nums]
abbrev Ents:=List (List Int×List Int)
def par(es:Ents)(x:Int):Int:=(mget (mzero (.one .i64)) es [x]).getD 0 0
inductive Steps:Ents→Int→Ents→Int→Prop
 | base (es:Ents) (x:Int) (h:par es x=x):Steps es x es x
 | step (es:Ents) (x:Int) (es':Ents) (r:Int) (h:par es x≠x) (ht:Steps (mput es [x] [par es (par es x)]) (par (mput es [x] [par es (par es x)]) x) es' r):Steps es x es' r
open Classical in
noncomputable def fok(es:Ents)(x:Int):Bool:=decide (∃ es' r,Steps es x es' r)
open Classical in
noncomputable def fe(es:Ents)(x:Int):Ents:=if h:∃ es' r,Steps es x es' r then h.choose else es
open Classical in
noncomputable def fv(es:Ents)(x:Int):Int:=if h:∃ es' r,Steps es x es' r then h.choose_spec.choose else x
theorem Steps.det{es:Ents}{x:Int}{e1 e2:Ents}{r1 r2:Int}(h1:Steps es x e1 r1)(h2:Steps es x e2 r2):e1=e2∧r1=r2:=by
 induction h1 with
 | base es x h=>cases h2 with
  | base=>exact⟨rfl,rfl⟩
  | step _ _ _ _ h'=>exact absurd h h'
 | step es x es' r h ht ih=>cases h2 with
  | base _ _ h'=>exact absurd h' h
  | step _ _ _ _ _ ht'=>exact ih ht'
theorem Steps.eqs{es:Ents}{x:Int}{e1:Ents}{r1:Int}(h:Steps es x e1 r1):fe es x=e1∧fv es x=r1∧fok es x=true:=by
 have he:∃ es' r,Steps es x es' r:=⟨e1,r1,h⟩
 refine⟨?_,?_,?_⟩
 ·unfold fe;rw [dif_pos he];exact(he.choose_spec.choose_spec.det h).1
 ·unfold fv;rw [dif_pos he];exact(he.choose_spec.choose_spec.det h).2
 ·unfold fok;simp [he]
end Go.Am.Isl
end
section
/- Package island: classes of numbers that links connect. -/
namespace Go.Am.Isl
open Go Go.Am
abbrev Lt(l:List Int):Prop:=l.Pairwise (· < ·)
theorem Lt.nodup{l:List Int}(h:Lt l):l.Nodup:=h.imp fun h e=>by omega
theorem nodup_len:∀ {l m:List Int},l.Nodup→(∀ x∈l,x∈m)→l.length≤m.length
 | [],_,_,_=>Nat.zero_le _
 | x :: l,m,h,hm=>by
  rw [List.nodup_cons] at h
  have hx:=hm x (List.mem_cons_self ..)
  have ih:=nodup_len (m:=m.erase x) h.2 fun y hy=>(List.mem_erase_of_ne (fun (e:y=x)=>h.1 (e▸hy))).2 (hm y (List.mem_cons_of_mem _ hy))
  rw [List.length_erase_of_mem hx] at ih
  have:=List.length_pos_of_mem hx
  simp only [List.length_cons];omega
theorem inc_iff:∀ {l:List Int},inc l=true↔Lt l
 | []=>by simp [inc]
 | [x]=>by simp [inc]
 | x :: y :: l=>by
  rw [inc,Bool.and_eq_true,decide_eq_true_eq,inc_iff]
  show _↔List.Pairwise (· < ·) (x :: y :: l)
  rw [List.pairwise_cons (a:=x)]
  constructor
  ·rintro⟨h1,h2⟩
   refine⟨fun z hz=>?_,h2⟩
   rcases List.mem_cons.1 hz with rfl | hz
   ·exact h1
   ·have:=(List.pairwise_cons.1 h2).1 z hz;omega
  ·rintro⟨h1,h2⟩
   exact⟨h1 y (List.mem_cons_self ..),h2⟩
theorem getD_mem{l:List Int}{j:Nat}(h:j < l.length):l.getD j 0∈l:=by
 rw [List.getD_eq_getElem?_getD,List.getElem?_eq_getElem h];exact List.getElem_mem h
theorem Lt.get{l:List Int}(h:Lt l){i j:Nat}(hij:i < j)(hj:j < l.length):l.getD i 0 < l.getD j 0:=by
 rw [List.getD_eq_getElem?_getD,List.getElem?_eq_getElem (by omega),List.getD_eq_getElem?_getD,List.getElem?_eq_getElem hj]
 exact List.pairwise_iff_getElem.1 h i j (by omega) hj hij
theorem pos_ok{l:List Int}{n:Int}(hl:Lt l)(hn:n∉l):∀ k,k≤l.length→(∀ j,k≤j→j < l.length→n < l.getD j 0)→(∀ j,j < pos l n k→l.getD j 0 < n)∧(pos l n k < l.length→n < l.getD (pos l n k) 0)
 | 0,_,h=>⟨fun j hj=>by simp [pos] at hj,fun h0=>h 0 (Nat.le_refl _) h0⟩
 | k+1,hk,h=>by
  unfold pos
  by_cases hg:l.getD k 0 > n
  ·rw [if_pos hg]
   exact pos_ok hl hn k (by omega) fun j h1 h2=>by
    rcases Nat.lt_or_ge k j with h3 | h3
    ·exact h j h3 h2
    ·obtain rfl:j=k:=by omega
     exact hg
  ·rw [if_neg hg]
   refine⟨fun j hj=>?_,fun hlt=>h _ (Nat.le_refl _) hlt⟩
   have hne:l.getD k 0≠n:=fun e=>hn (e▸getD_mem (by omega))
   rcases Nat.lt_or_ge j k with h3 | h3
   ·have:=hl.get h3 (by omega);omega
   ·obtain rfl:j=k:=by omega
    omega
theorem any_iff{l:List Int}{n:Int}:l.any (fun y=>y==n)=true↔n∈l:=by
 rw [List.any_eq_true]
 constructor
 ·rintro⟨x,hx,h⟩;rw [beq_iff_eq] at h;exact h▸hx
 ·intro h;exact⟨n,h,by simp⟩
theorem any_false{l:List Int}{n:Int}:l.any (fun y=>y==n)=false↔n∉l:=by
 cases h:l.any fun y=>y==n with
 | true=>simp [any_iff.1 h]
 | false=>simp only [true_iff];intro h';rw [any_iff.2 h'] at h;cases h
theorem ins_lt{l:List Int}(hl:Lt l)(n:Int):Lt (ins l n):=by
 unfold ins
 split
 ·exact hl
 ·rename_i h
  have hn:n∉l:=fun h'=>h (any_iff.2 h')
  obtain⟨h1,h2⟩:=pos_ok hl hn l.length (Nat.le_refl _) (fun j h1 h2=>by omega)
  exact Reg.ins_at hl (pos_le _ _ _) h1 h2
theorem mem_ins{l:List Int}{n x:Int}:x∈ins l n↔x=n∨x∈l:=by
 unfold ins
 split
 ·rename_i h
  have:=any_iff.1 h
  constructor
  ·exact .inr
  ·rintro(rfl | h)
   ·exact this
   ·exact h
 ·have e:x∈l↔x∈l.take (pos l n l.length)∨x∈l.drop (pos l n l.length):=by
   rw [← List.mem_append,List.take_append_drop]
  simp only [List.mem_append,List.mem_singleton,e]
  constructor
  ·rintro((h | h) | h)
   ·exact .inr (.inl h)
   ·exact .inl h
   ·exact .inr (.inr h)
  ·rintro(h | h | h)
   ·exact .inl (.inr h)
   ·exact .inl (.inl h)
   ·exact .inr h
theorem foldl_ins_lt(l:List Int):∀ {o:List Int},Lt o→Lt (l.foldl ins o):=by
 induction l with
 | nil=>exact fun h=>h
 | cons x l ih=>exact fun h=>ih (ins_lt h x)
theorem mem_foldl_ins(l:List Int):∀ {o:List Int} {x:Int},x∈l.foldl ins o↔x∈o∨x∈l:=by
 induction l with
 | nil=>intro o x;simp
 | cons y l ih=>
  intro o x
  rw [List.foldl_cons,ih,mem_ins,List.mem_cons]
  constructor
  ·rintro((h | h) | h)
   ·exact .inr (.inl h)
   ·exact .inl h
   ·exact .inr (.inr h)
  ·rintro(h | h | h)
   ·exact .inl (.inr h)
   ·exact .inl (.inl h)
   ·exact .inr h
theorem set_lt(l:List Int):Lt (set l):=foldl_ins_lt l .nil
theorem mem_set{l:List Int}{x:Int}:x∈set l↔x∈l:=by unfold set;rw [mem_foldl_ins];simp
theorem set_len(l:List Int):(set l).length≤l.length:=nodup_len (set_lt l).nodup fun x hx=>mem_set.1 hx
theorem set_eq(l:List Int):Reg.compact (sortI l)=set l:=
 Reg.lt_unique (Reg.compact_lt (Reg.sortI_le l)) (set_lt l) fun x=>by rw [Reg.mem_compact,(sortI_perm l).mem_iff,mem_set]
theorem mem_nums{n:Nat}{x:Int}:x∈nums n↔0≤x∧x < (n:Int):=by
 unfold nums
 rw [List.mem_map]
 constructor
 ·rintro⟨i,hi,rfl⟩;have:=List.mem_range.1 hi;omega
 ·rintro⟨h1,h2⟩;exact⟨x.toNat,List.mem_range.2 (by omega),by omega⟩
inductive Conn (s:List Int) (links:List (List Int)) (x:Int):Int→Prop
 | refl:Conn s links x x
 | step (y z:Int) (l:List Int) (h:Conn s links x y) (hl:l∈links) (hy:y∈l) (hz:z∈l) (hs:z∈s):Conn s links x z
variable {s : List Int} {links : List (List Int)} {x y z : Int}
theorem Conn.mem(h:Conn s links x y)(hx:x∈s):y∈s:=by
 cases h with
 | refl=>exact hx
 | step _ _ _ _ _ _ _ hs=>exact hs
theorem Conn.trans(h1:Conn s links x y)(h2:Conn s links y z):Conn s links x z:=by
 induction h2 with
 | refl=>exact h1
 | step y z l _ hl hy hz hs ih=>exact .step y z l ih hl hy hz hs
theorem Conn.symm(h:Conn s links x y)(hx:x∈s):Conn s links y x:=by
 induction h with
 | refl=>exact .refl
 | step y z l h hl hy hz hs ih=>exact(Conn.step z y l .refl hl hz hy (h.mem hx)).trans ih
theorem Conn.mono{s':List Int}{links':List (List Int)}(h:Conn s links x y)(hs:∀ z∈s,z∈s')(hl:∀ l∈links,∀ y∈l,∀ z∈l,y∈s'→z∈s→Conn s' links' y z)(hx:x∈s'):Conn s' links' x y:=by
 induction h with
 | refl=>exact .refl
 | step y z l h hl' hy hz hs' ih=>
  refine ih.trans (hl l hl' y hy z hz ?_ hs')
  cases h with
  | refl=>exact hx
  | step _ _ _ _ _ _ _ h=>exact hs _ h
theorem meets_iff{o l:List Int}:meets o l=true ↔ ∃ y∈l,y∈o:=by
 unfold meets
 rw [List.any_eq_true]
 constructor
 ·rintro⟨y,h1,h2⟩;exact⟨y,h1,any_iff.1 h2⟩
 ·rintro⟨y,h1,h2⟩;exact⟨y,h1,any_iff.2 h2⟩
theorem meets_mono{o o' l:List Int}(h:meets o l=true)(hs:∀ x∈o,x∈o'):meets o' l=true:=by
 obtain⟨y,h1,h2⟩:=meets_iff.1 h
 exact meets_iff.2 ⟨y,h1,hs y h2⟩
structure Grows (s:List Int) (links:List (List Int)) (x:Int) (o o':List Int):Prop where
 lt:Lt o'
 sub:∀ y∈o,y∈o'
 conn:∀ y∈o',Conn s links x y
theorem step1_part(l:List Int)(hl:l∈links):∀ (m:List Int) {o:List Int},(∀ z∈m,z∈l)→Lt o→(∀ y∈o,Conn s links x y) →
  Grows s links x o (m.foldl (fun out z=>if meets out l=true∧s.any (fun y=>y==z)=true then ins out z else out) o) ∧
  (meets o l=true → ∀ z∈m,z∈s→z∈m.foldl (fun out z=>if meets out l=true∧s.any (fun y=>y==z)=true then ins out z else out) o)
 | [],o,_,h1,h2=>⟨⟨h1,fun _ h=>h,h2⟩,fun _ _ h=>by simp at h⟩
 | z :: m,o,hm,h1,h2=>by
  rw [List.foldl_cons]
  by_cases hc:meets o l=true∧s.any (fun y=>y==z)=true
  ·rw [if_pos hc]
   obtain⟨y,hy1,hy2⟩:=meets_iff.1 hc.1
   have hz:=any_iff.1 hc.2
   have h2':∀ w∈ins o z,Conn s links x w:=fun w hw=>by
    rcases mem_ins.1 hw with rfl | hw
    ·exact .step y w l (h2 y hy2) hl hy1 (hm w (List.mem_cons_self ..)) hz
    ·exact h2 w hw
   obtain⟨g,g2⟩:=step1_part l hl m (fun w hw=>hm w (List.mem_cons_of_mem _ hw)) (ins_lt h1 z) h2'
   refine⟨⟨g.lt,fun w hw=>g.sub w (mem_ins.2 (.inr hw)),g.conn⟩,fun hmt w hw hws=>?_⟩
   rcases List.mem_cons.1 hw with rfl | hw
   ·exact g.sub _ (mem_ins.2 (.inl rfl))
   ·exact g2 (meets_mono hmt fun v hv=>mem_ins.2 (.inr hv)) w hw hws
  ·rw [if_neg hc]
   obtain⟨g,g2⟩:=step1_part l hl m (fun w hw=>hm w (List.mem_cons_of_mem _ hw)) h1 h2
   refine⟨g,fun hmt w hw hws=>?_⟩
   rcases List.mem_cons.1 hw with rfl | hw
   ·exact absurd ⟨hmt,any_iff.2 hws⟩ hc
   ·exact g2 hmt w hw hws
theorem step1_ok{l o:List Int}(hl:l∈links)(h1:Lt o)(h2:∀ y∈o,Conn s links x y):Grows s links x o (step1 s l o)∧(meets o l=true → ∀ z∈l,z∈s→z∈step1 s l o):=
 step1_part l hl l (fun _ h=>h) h1 h2
theorem round_part:∀ (ls:List (List Int)) {o:List Int},(∀ l∈ls,l∈links)→Lt o→(∀ y∈o,Conn s links x y) →
  Grows s links x o (ls.foldl (fun out l=>step1 s l out) o) ∧ ∀ l∈ls,meets o l=true → ∀ z∈l,z∈s→z∈ls.foldl (fun out l=>step1 s l out) o
 | [],o,_,h1,h2=>⟨⟨h1,fun _ h=>h,h2⟩,fun _ h=>by simp at h⟩
 | l :: ls,o,hl,h1,h2=>by
  rw [List.foldl_cons]
  obtain⟨g,g2⟩:=step1_ok (hl l (List.mem_cons_self ..)) h1 h2
  obtain⟨k,k2⟩:=round_part ls (fun w hw=>hl w (List.mem_cons_of_mem _ hw)) g.lt g.conn
  refine⟨⟨k.lt,fun w hw=>k.sub w (g.sub w hw),k.conn⟩,fun w hw hmt z hz hs=>?_⟩
  rcases List.mem_cons.1 hw with rfl | hw
  ·exact k.sub z (g2 hmt z hz hs)
  ·exact k2 w hw (meets_mono hmt g.sub) z hz hs
theorem round_ok{o:List Int}(h1:Lt o)(h2:∀ y∈o,Conn s links x y):Grows s links x o (round s links o) ∧ ∀ l∈links,meets o l=true → ∀ z∈l,z∈s→z∈round s links o:=
 round_part links (fun _ h=>h) h1 h2
theorem lt_same{a b:List Int}(ha:Lt a)(hb:Lt b)(hs:∀ x∈a,x∈b)(hl:b.length≤a.length):a=b:=by
 refine Reg.lt_unique ha hb fun z=>⟨hs z,fun hz=>?_⟩
 refine Classical.byContradiction fun hn=>?_
 have:=nodup_len (l:=z :: a) (m:=b) (List.nodup_cons.2 ⟨hn,ha.nodup⟩) fun w hw=>by
  rcases List.mem_cons.1 hw with rfl | hw
  ·exact hz
  ·exact hs w hw
 simp only [List.length_cons] at this;omega
theorem clsN_ok:∀ (n:Nat) {o:List Int},Lt o→(∀ y∈o,Conn s links x y)→Grows s links x o (clsN s links n o) ∧
  ((∀ l∈links,meets (clsN s links n o) l=true → ∀ z∈l,z∈s→z∈clsN s links n o)∨o.length+n≤(clsN s links n o).length)
 | 0,o,h1,h2=>⟨⟨h1,fun _ h=>h,h2⟩,.inr (by simp [clsN])⟩
 | n+1,o,h1,h2=>by
  obtain⟨g,g2⟩:=round_ok (links:=links) h1 h2
  unfold clsN
  by_cases he:(round s links o).length=o.length
  ·rw [if_pos he]
   have e:=lt_same h1 g.lt g.sub (by omega)
   refine⟨g,.inl ?_⟩
   rw [← e] at g2 ⊢
   exact g2
  ·rw [if_neg he]
   obtain⟨k,k2⟩:=clsN_ok n g.lt g.conn
   refine⟨⟨k.lt,fun w hw=>k.sub w (g.sub w hw),k.conn⟩,?_⟩
   rcases k2 with k2 | k2
   ·exact .inl k2
   ·have:=nodup_len h1.nodup g.sub
    exact .inr (by omega)
theorem cls_ok(hx:x∈s):Lt (cls s links x) ∧ ∀ y,y∈cls s links x↔Conn s links x y:=by
 obtain⟨g,g2⟩:=clsN_ok (s:=s) (links:=links) (x:=x) s.length (o:=[x]) (List.pairwise_singleton _ _) (fun y hy=>by rw [List.mem_singleton.1 hy];exact .refl)
 have hc:∀ l∈links,meets (cls s links x) l=true → ∀ z∈l,z∈s→z∈cls s links x:=by
  rcases g2 with g2 | g2
  ·exact g2
  ·have:=nodup_len (m:=s) g.lt.nodup fun y hy=>(g.conn y hy).mem hx
   simp only [List.length_singleton] at g2;omega
 refine⟨g.lt,fun y=>⟨g.conn y,fun h=>?_⟩⟩
 induction h with
 | refl=>exact g.sub x (by simp)
 | step y z l h hl hy hz hs ih=>exact hc l hl (meets_iff.2 ⟨y,hy,ih⟩) z hz hs
theorem drop_get{l:List Int}{i:Nat}(h:i < l.length):l.drop i=l.getD i 0 :: l.drop (i+1):=by
 rw [List.drop_eq_getElem_cons h,List.getD_eq_getElem?_getD,List.getElem?_eq_getElem h];rfl
open Classical in
noncomputable def part(s:List Int)(links:List (List Int))(x:Int):List Int:=s.filter fun y=>decide (Conn s links x y)
open Classical in
noncomputable def isRep(s:List Int)(links:List (List Int))(x:Int):Bool:=decide (∀ y∈s,y < x→¬ Conn s links y x)
theorem cls_part(hs:Lt s)(hx:x∈s):cls s links x=part s links x:=by
 obtain⟨h1,h2⟩:=cls_ok (links:=links) hx
 refine Reg.lt_unique h1 (hs.filter _) fun y=>?_
 unfold part
 rw [h2,List.mem_filter]
 simp only [decide_eq_true_eq]
 exact⟨fun h=>⟨h.mem hx,h⟩,fun h=>h.2⟩
theorem clssF_ok(hs:Lt s):∀ (rest p:List Int) (st:List (List Int)×List Int),s=p++rest→st.1=(p.filter (isRep s links)).map (part s links)→(∀ z,z∈st.2 ↔ ∃ y∈p,Conn s links y z) →
  (rest.foldl (clssF s links) st).1=(s.filter (isRep s links)).map (part s links)
 | [],p,st,hp,h1,_=>by rw [List.append_nil] at hp;rw [hp];rw [hp] at h1;exact h1
 | x :: rest,p,st,hp,h1,h2=>by
  have hx:x∈s:=by rw [hp];simp
  have hlt:∀ y∈s,y < x↔y∈p:=fun y hy=>by
   rw [hp] at hs hy
   obtain⟨a1,a2,a3⟩:=List.pairwise_append.1 hs
   constructor
   ·intro h
    rcases List.mem_append.1 hy with hy | hy
    ·exact hy
    ·rcases List.mem_cons.1 hy with rfl | hy
     ·omega
     ·have:=(List.pairwise_cons.1 a2).1 y hy;omega
   ·intro h;exact a3 y h x (List.mem_cons_self ..)
  have hps:∀ y∈p,y∈s:=fun y hy=>by rw [hp];exact List.mem_append_left _ hy
  have hrep:isRep s links x=true↔x∉st.2:=by
   unfold isRep
   rw [h2]
   simp only [decide_eq_true_eq]
   constructor
   ·rintro h ⟨y,hy,hc⟩;exact h y (hps y hy) ((hlt y (hps y hy)).2 hy) hc
   ·intro h y hy hyx hc;exact h ⟨y,(hlt y hy).1 hyx,hc⟩
  rw [List.foldl_cons]
  refine clssF_ok hs rest (p++[x]) _ (by rw [hp];simp) ?_ fun z=>?_
  ·unfold clssF
   rw [List.filter_append,List.map_append]
   by_cases hd:st.2.any (fun y=>y==x)=true
   ·rw [if_pos hd]
    have:isRep s links x=false:=by
     cases hr:isRep s links x with
     | false=>rfl
     | true=>exact absurd (any_iff.1 hd) (hrep.1 hr)
    rw [h1,List.filter_cons,this];simp
   ·rw [if_neg hd]
    have:isRep s links x=true:=hrep.2 fun h=>hd (any_iff.2 h)
    rw [List.filter_cons,this,h1,cls_part hs hx];simp
  ·unfold clssF
   by_cases hd:st.2.any (fun y=>y==x)=true
   ·rw [if_pos hd,h2]
    obtain⟨y,hy,hc⟩:=(h2 x).1 (any_iff.1 hd)
    constructor
    ·rintro⟨y,hy,hc⟩;exact⟨y,List.mem_append_left _ hy,hc⟩
    ·rintro⟨w,hw,hcw⟩
     rcases List.mem_append.1 hw with hw | hw
     ·exact⟨w,hw,hcw⟩
     ·rw [List.mem_singleton.1 hw] at hcw;exact⟨y,hy,hc.trans hcw⟩
   ·rw [if_neg hd]
    show z∈(cls s links x).foldl ins st.2↔_
    rw [mem_foldl_ins,h2,(cls_ok hx).2]
    constructor
    ·rintro(⟨y,hy,hc⟩ | h)
     ·exact⟨y,List.mem_append_left _ hy,hc⟩
     ·exact⟨x,by simp,h⟩
    ·rintro⟨w,hw,hcw⟩
     rcases List.mem_append.1 hw with hw | hw
     ·exact .inl ⟨w,hw,hcw⟩
     ·rw [List.mem_singleton.1 hw] at hcw;exact .inr hcw
theorem clss_eq(hs:Lt s)(links:List (List Int)):clss s links=(s.filter (isRep s links)).map (part s links):=
 clssF_ok hs s [] ([],[]) rfl rfl fun z=>by simp
def back(i:Int)(l:List (List Int)):Nat→Int→Int
 | 0,g=>g
 | m+1,g=>if (l.getD m []).any (fun y=>y==i)=true then back i l m (m:Int) else back i l m g
theorem flatten_take_le(l:List (List Int))(i:Nat):(l.take i).flatten.length≤l.flatten.length:=by
 have:l.flatten=(l.take i).flatten++(l.drop i).flatten:=by rw [← List.flatten_append,List.take_append_drop]
 rw [this,List.length_append];omega
end Go.Am.Isl
end
section
/- Package island: the map of parents. -/
namespace Go.Am.Isl
open Go Go.Am
def tab(s:List Int)(p:Int→Int):Ents:=s.map fun x=>([x],[p x])
def upd(p:Int→Int)(x v:Int):Int→Int:=fun y=>if y=x then v else p y
theorem one_beq(x y:Int):(([x]:List Int)==[y])=decide (x=y):=by rw [Bool.eq_iff_iff];simp
theorem mget_tab(z:List Int)(p:Int→Int){x:Int}:∀ {s:List Int},x∈s→mget z (tab s p) [x]=[p x]
 | y :: s,h=>by
  show cond ([y]==[x]) [p y] (mget z (tab s p) [x])=_
  rw [one_beq]
  by_cases e:y=x
  ·subst e;simp
  ·rw [decide_eq_false e,cond_false]
   exact mget_tab z p ((List.mem_cons.1 h).resolve_left fun h=>e h.symm)
theorem par_tab{s:List Int}(p:Int→Int){x:Int}(h:x∈s):par (tab s p) x=p x:=by
 unfold par;rw [mget_tab _ p h];rfl
theorem tab_congr{p q:Int→Int}:∀ {s:List Int},(∀ y∈s,p y=q y)→tab s p=tab s q
 | [],_=>rfl
 | y :: s,h=>by
  show([y],[p y]) :: tab s p=([y],[q y]) :: tab s q
  rw [h y (List.mem_cons_self ..),tab_congr fun z hz=>h z (List.mem_cons_of_mem _ hz)]
theorem mput_tab(p:Int→Int)(v:Int){x:Int}:∀ {s:List Int},s.Nodup→x∈s→mput (tab s p) [x] [v]=tab s (upd p x v)
 | y :: s,hn,h=>by
  rw [List.nodup_cons] at hn
  show cond ([y]==[x]) (([x],[v]) :: tab s p) (([y],[p y]) :: mput (tab s p) [x] [v])=([y],[upd p x v y]) :: tab s (upd p x v)
  rw [one_beq]
  by_cases e:y=x
  ·subst e
   rw [decide_eq_true rfl,cond_true]
   have:tab s p=tab s (upd p y v):=tab_congr fun z hz=>by
    unfold upd;rw [if_neg fun (e:z=y)=>hn.1 (e▸hz)]
   rw [this];simp [upd]
  ·rw [decide_eq_false e,cond_false,mput_tab p v hn.2 ((List.mem_cons.1 h).resolve_left fun h=>e h.symm)]
   simp [upd,e]
theorem mput_new(k v:List Int):∀ {es:Ents},(∀ e∈es,e.1≠k)→mput es k v=es++[(k,v)]
 | [],_=>rfl
 | e :: es,h=>by
  show cond (e.1==k) ((k,v) :: es) (e :: mput es k v)=_
  have:(e.1==k)=false:=by simpa using h e (List.mem_cons_self ..)
  rw [this,cond_false,mput_new k v fun e' he=>h e' (List.mem_cons_of_mem _ he)];rfl
theorem tab_snoc{s:List Int}(p:Int→Int){x:Int}(h:x∉s):mput (tab s p) [x] [p x]=tab (s++[x]) p:=by
 rw [mput_new]
 ·simp [tab]
 ·intro e he
  simp only [tab,List.mem_map] at he
  obtain⟨y,hy,rfl⟩:=he
  intro e;injection e with e _;exact h (e▸hy)
theorem mhas_tab(p:Int→Int)(x:Int):∀ s:List Int,mhas (tab s p) [x]=s.any fun y=>y==x
 | []=>rfl
 | y :: s=>by
  show(([y]==[x]) || mhas (tab s p) [x])=((y==x) || s.any fun y=>y==x)
  rw [mhas_tab p x s,one_beq,int_beq]
theorem tab_len(s:List Int)(p:Int→Int):(tab s p).length=s.length:=by simp [tab]
theorem mget_mput(z k v q:List Int):∀ es:Ents,mget z (mput es k v) q=if q=k then v else mget z es q
 | []=>by
  show cond (k==q) v z=_
  by_cases h:q=k
  ·subst h;simp [mget]
  ·have:(k==q)=false:=by simpa using Ne.symm h
   rw [if_neg h,this];rfl
 | e :: es=>by
  have ih:=mget_mput z k v q es
  show mget z (cond (e.1==k) ((k,v) :: es) (e :: mput es k v)) q=if q=k then v else cond (e.1==q) e.2 (mget z es q)
  by_cases h:e.1=k
  ·rw [beq_iff_eq.2 h,cond_true]
   show cond (k==q) v (mget z es q)=_
   by_cases hq:q=k
   ·subst hq;simp
   ·have:(k==q)=false:=by simpa using Ne.symm hq
    rw [if_neg hq,h,this];rfl
  ·have:(e.1==k)=false:=by simpa using h
   rw [this,cond_false]
   show cond (e.1==q) e.2 (mget z (mput es k v) q)=_
   rw [ih]
   by_cases hq:q=k
   ·subst hq;simp [this]
   ·rw [if_neg hq,if_neg hq]
def Fr(s:List Int)(p:Int→Int)(rk:Int→Nat):Prop:=∀ x∈s,p x∈s∧(p x≠x→rk (p x) < rk x)
inductive RootOf (p:Int→Int):Int→Int→Prop
 | base (x:Int) (h:p x=x):RootOf p x x
 | step (x r:Int) (h:p x≠x) (ht:RootOf p (p x) r):RootOf p x r
variable {s : List Int} {links : List (List Int)} {p : Int → Int} {rk : Int → Nat} {x y r q : Int}
theorem RootOf.det(h:RootOf p x r)(h':RootOf p x q):r=q:=by
 induction h with
 | base x h=>cases h' with
  | base=>rfl
  | step _ _ h'=>exact absurd h h'
 | step x r h ht ih=>cases h' with
  | base _ h'=>exact absurd h' h
  | step _ _ _ ht'=>exact ih ht'
theorem RootOf.fix(h:RootOf p x r):p r=r:=by
 induction h with
 | base x h=>exact h
 | step x r h ht ih=>exact ih
theorem root_ex(h:Fr s p rk):∀ (n:Nat) (x:Int),rk x < n→x∈s → ∃ r∈s,RootOf p x r
 | 0,x,hn,_=>by omega
 | n+1,x,hn,hx=>by
  obtain⟨h1,h2⟩:=h x hx
  by_cases e:p x=x
  ·exact⟨x,hx,.base x e⟩
  ·obtain⟨r,hr,ht⟩:=root_ex h n (p x) (by have:=h2 e;omega) h1
   exact⟨r,hr,.step x r e ht⟩
open Classical in
noncomputable def rt(p:Int→Int)(x:Int):Int:=if h:∃ r,RootOf p x r then h.choose else x
theorem rt_eq(h:RootOf p x r):rt p x=r:=by
 have he:∃ r,RootOf p x r:=⟨r,h⟩
 unfold rt;rw [dif_pos he];exact he.choose_spec.det h
theorem rt_ok(h:Fr s p rk)(hx:x∈s):RootOf p x (rt p x)∧rt p x∈s:=by
 obtain⟨r,hr,ht⟩:=root_ex h (rk x+1) x (by omega) hx
 rw [rt_eq ht];exact⟨ht,hr⟩
theorem halve_ok(h:Fr s p rk)(hx:x∈s)(hne:p x≠x):Fr s (upd p x (p (p x))) rk∧(p (p x)∈s∧rk (p (p x)) < rk x) ∧ ∀ y q,RootOf p y q→RootOf (upd p x (p (p x))) y q:=by
 obtain⟨h1,h2⟩:=h x hx
 obtain⟨g1,g2⟩:=h (p x) h1
 have hlt:rk (p (p x)) < rk x:=by
  have:=h2 hne
  by_cases e:p (p x)=p x
  ·rw [e];exact this
  ·have:=g2 e;omega
 have hux:upd p x (p (p x)) x=p (p x):=by simp [upd]
 have huy:∀ y,y≠x→upd p x (p (p x)) y=p y:=fun y hy=>by simp [upd,hy]
 refine⟨fun y hy=>?_,⟨g1,hlt⟩,fun y q hr=>?_⟩
 ·by_cases e:y=x
  ·subst e;rw [hux];exact⟨g1,fun _=>hlt⟩
  ·rw [huy y e];exact h y hy
 ·have hnx:p (p x)≠x:=fun e=>by rw [e] at hlt;omega
  induction hr with
  | base y hy=>exact .base y (by rw [huy y (fun e=>hne (e▸hy))];exact hy)
  | step y q hy ht ih=>
   by_cases e:y=x
   ·subst e
    refine .step y q (by rw [hux];exact hnx) ?_
    rw [hux]
    by_cases e2:p (p y)=p y
    ·rw [e2] at ih ⊢;exact ih
    ·cases ih with
     | base _ hb=>rw [huy _ hne] at hb;exact absurd hb e2
     | step _ _ hb hb2=>rw [huy _ hne] at hb2;exact hb2
   ·exact .step y q (by rw [huy y e];exact hy) (by rw [huy y e];exact ih)
theorem steps_ok(hs:s.Nodup):∀ (n:Nat) (p:Int→Int) (x:Int),rk x < n→Fr s p rk→x∈s →
  ∃ p' r,Steps (tab s p) x (tab s p') r∧Fr s p' rk∧RootOf p x r ∧ ∀ y q,RootOf p y q→RootOf p' y q
 | 0,p,x,hn,_,_=>by omega
 | n+1,p,x,hn,h,hx=>by
  by_cases e:p x=x
  ·exact⟨p,x,.base _ _ (by rw [par_tab p hx];exact e),h,.base x e,fun _ _ h=>h⟩
  ·obtain⟨h1,⟨h2,h3⟩,h4⟩:=halve_ok h hx e
   have hpx:=(h x hx).1
   obtain⟨p',r,g1,g2,g3,g4⟩:=steps_ok hs n (upd p x (p (p x))) (p (p x)) (by omega) h1 h2
   have hux:upd p x (p (p x)) x=p (p x):=by simp [upd]
   have hnx:p (p x)≠x:=fun e=>by rw [e] at h3;omega
   refine⟨p',r,?_,g2,?_,fun y q hr=>g4 y q (h4 y q hr)⟩
   ·refine .step _ _ _ _ (by rw [par_tab p hx];exact e) ?_
    rw [par_tab p hx,par_tab p hpx,mput_tab p _ hs hx,par_tab _ hx,hux]
    exact g1
   ·obtain⟨r',hr',ht⟩:=root_ex h (rk x+1) x (by omega) hx
    have:=h4 x r' ht
    have h5:RootOf (upd p x (p (p x))) x r:=.step x r (by rw [hux];exact hnx) (by rw [hux];exact g3)
    rw [h5.det this];exact ht
theorem find_ok(hs:s.Nodup)(h:∃ rk,Fr s p rk)(hx:x∈s):∃ p',fe (tab s p) x=tab s p'∧fv (tab s p) x=rt p x∧fok (tab s p) x=true∧(∃ rk,Fr s p' rk)∧(∀ y∈s,rt p' y=rt p y)∧rt p x∈s∧p' (rt p x)=rt p x:=by
 obtain⟨rk,h⟩:=h
 obtain⟨p',r,g1,g2,g3,g4⟩:=steps_ok hs (rk x+1) p x (by omega) h hx
 obtain⟨e1,e2,e3⟩:=g1.eqs
 have hr:=rt_ok h hx
 refine⟨p',e1,by rw [e2,rt_eq g3],e3,⟨rk,g2⟩,fun y hy=>rt_eq (g4 y _ (rt_ok h hy).1),hr.2,(g4 x _ hr.1).fix⟩
theorem union_ok(h:∃ rk,Fr s p rk){a b:Int}(ha:a∈s)(hb:b∈s)(ra:p a=a)(rb:p b=b):
  (∃ rk,Fr s (upd p a b) rk) ∧ ∀ y∈s,rt (upd p a b) y=if rt p y=a then b else rt p y:=by
 obtain⟨rk,h⟩:=h
 by_cases e:a=b
 ·subst e
  have:upd p a a=p:=by
   funext y;unfold upd;split
   ·rename_i h;rw [h];exact ra.symm
   ·rfl
  rw [this]
  refine⟨⟨rk,h⟩,fun y _=>?_⟩
  split
  ·assumption
  ·rfl
 have hua:upd p a b a=b:=by simp [upd]
 have huy:∀ y,y≠a→upd p a b y=p y:=fun y hy=>by simp [upd,hy]
 have key:∀ y q,RootOf p y q→RootOf (upd p a b) y (if q=a then b else q):=fun y q hr=>by
  have hbb:RootOf (upd p a b) b b:=.base b (by rw [huy b (Ne.symm e)];exact rb)
  induction hr with
  | base y hy=>
   by_cases hya:y=a
   ·subst hya
    rw [if_pos rfl]
    exact .step _ _ (by rw [hua];exact Ne.symm e) (by rw [hua];exact hbb)
   ·rw [if_neg hya]
    exact .base y (by rw [huy y hya];exact hy)
  | step y q hy ht ih=>
   have hya:y≠a:=fun h=>hy (h▸ra)
   exact .step _ _ (by rw [huy y hya];exact hy) (by rw [huy y hya];exact ih)
 refine⟨⟨fun y=>if rt p y=a then rk y+rk b+1 else rk y,fun y hy=>?_⟩,fun y hy=>rt_eq (key y _ (rt_ok h hy).1)⟩
 by_cases hya:y=a
 ·subst hya
  rw [hua]
  refine⟨hb,fun _=>?_⟩
  have e1:rt p y=y:=rt_eq (.base y ra)
  have e2:rt p b=b:=rt_eq (.base b rb)
  simp only [e1,e2,if_neg (Ne.symm e),if_true];omega
 ·rw [huy y hya]
  obtain⟨h1,h2⟩:=h y hy
  refine⟨h1,fun hne=>?_⟩
  have e1:rt p (p y)=rt p y:=by
   have:=(rt_ok h h1).1
   exact(rt_eq (.step y _ hne this)).symm
  have:=h2 hne
  simp only [e1]
  split <;> omega
structure UF (s:List Int) (links done:List (List Int)) (p:Int→Int):Prop where
 fr:∃ rk,Fr s p rk
 snd:∀ x∈s,∀ y∈s,rt p x=rt p y→Conn s links x y
 cpl:∀ l∈done,∀ y∈l,∀ z∈l,y∈s→z∈s→rt p y=rt p z
theorem UF.start:UF s links [] (fun x=>x) where
 fr:=⟨fun _=>0,fun x hx=>⟨hx,fun h=>absurd rfl h⟩⟩
 snd:=fun x _ y _ h=>by
  rw [rt_eq (.base x rfl),rt_eq (.base y rfl)] at h;rw [h];exact .refl
 cpl:=fun l h=>by simp at h
structure InL (s:List Int) (links done:List (List Int)) (l pre:List Int) (p:Int→Int) (first:Int) (has:Bool):Prop where
 uf:UF s links done p
 none:has=false → ∀ y∈pre,y∉s
 some:has=true→first∈s∧first∈l ∧ ∀ y∈pre,y∈s→rt p y=rt p first
theorem InL.skip{done:List (List Int)}{l pre:List Int}{f:Int}{b:Bool}(h:InL s links done l pre p f b)(hy:y∉s):InL s links done l (pre++[y]) p f b where
 uf:=h.uf
 none:=fun hb z hz=>by
  rcases List.mem_append.1 hz with hz | hz
  ·exact h.none hb z hz
  ·rw [List.mem_singleton.1 hz];exact hy
 some:=fun hb=>by
  obtain⟨h1,h2,h3⟩:=h.some hb
  refine⟨h1,h2,fun z hz hs=>?_⟩
  rcases List.mem_append.1 hz with hz | hz
  ·exact h3 z hz hs
  ·rw [List.mem_singleton.1 hz] at hs;exact absurd hs hy
theorem InL.first{done:List (List Int)}{l pre:List Int}{f:Int}(h:InL s links done l pre p f false)(hy:y∈s)(hl:y∈l):InL s links done l (pre++[y]) p y true where
 uf:=h.uf
 none:=fun hb=>by cases hb
 some:=fun _=>⟨hy,hl,fun z hz hs=>by
  rcases List.mem_append.1 hz with hz | hz
  ·exact absurd hs (h.none rfl z hz)
  ·rw [List.mem_singleton.1 hz]⟩
theorem InL.join(hs:s.Nodup){done:List (List Int)}{l pre:List Int}{f:Int}(h:InL s links done l pre p f true)(hll:l∈links)(hy:y∈s)(hl:y∈l):
  ∃ p',fok (tab s p) y=true∧fok (fe (tab s p) y) f=true∧mput (fe (fe (tab s p) y) f) [fv (tab s p) y] [fv (fe (tab s p) y) f]=tab s p'∧InL s links done l (pre++[y]) p' f true:=by
 obtain⟨f1,f2,f3⟩:=h.some rfl
 obtain⟨p1,a1,a2,a3,a4,a5,a6,a7⟩:=find_ok hs h.uf.fr hy
 obtain⟨p2,b1,b2,b3,b4,b5,b6,b7⟩:=find_ok hs a4 f1
 rw [a1,a2,b1,b2,mput_tab p2 _ hs a6]
 have e5:∀ z∈s,rt p2 z=rt p z:=fun z hz=>(b5 z hz).trans (a5 z hz)
 have ra:p2 (rt p y)=rt p y:=by
  obtain⟨rk,hr⟩:=b4
  have h1:=(rt_ok hr a6).1
  have h2:rt p2 (rt p y)=rt p y:=by
   rw [e5 _ a6]
   obtain⟨rk0,hr0⟩:=h.uf.fr
   exact rt_eq (.base _ (rt_ok hr0 hy).1.fix)
  have:=h1.fix
  rwa [h2] at this
 rw [a5 f f1]
 rw [a5 f f1] at b6 b7
 obtain⟨c1,c2⟩:=union_ok b4 a6 b6 ra b7
 refine⟨_,a3,b3,rfl,⟨c1,fun u hu v hv huv=>?_,fun l' hl' u hu v hv us vs=>?_⟩,(fun hb=>by cases hb),fun _=>⟨f1,f2,fun z hz hzs=>?_⟩⟩
 ·rw [c2 u hu,c2 v hv,e5 u hu,e5 v hv] at huv
  have hyf:Conn s links y f:=.step y f l .refl hll hl f2 f1
  by_cases h1:rt p u=rt p y <;> by_cases h2:rt p v=rt p y
  ·exact h.uf.snd u hu v hv (h1.trans h2.symm)
  ·rw [if_pos h1,if_neg h2] at huv
   exact((h.uf.snd u hu y hy h1).trans hyf).trans (h.uf.snd f f1 v hv huv)
  ·rw [if_neg h1,if_pos h2] at huv
   exact((h.uf.snd u hu f f1 huv).trans (hyf.symm hy)).trans (h.uf.snd y hy v hv h2.symm)
  ·rw [if_neg h1,if_neg h2] at huv
   exact h.uf.snd u hu v hv huv
 ·rw [c2 u us,c2 v vs,e5 u us,e5 v vs,h.uf.cpl l' hl' u hu v hv us vs]
 ·rw [c2 z hzs,c2 f f1,e5 z hzs,e5 f f1]
  have hff:(if rt p f=rt p y then rt p f else rt p f)=rt p f:=by split <;> rfl
  rw [hff]
  rcases List.mem_append.1 hz with hz | hz
  ·rw [f3 z hz hzs,hff]
  ·rw [List.mem_singleton.1 hz,if_pos rfl]
theorem InL.done{done:List (List Int)}{l:List Int}{f:Int}{b:Bool}(h:InL s links done l l p f b):UF s links (done++[l]) p where
 fr:=h.uf.fr
 snd:=h.uf.snd
 cpl:=fun l' hl' y hy z hz ys zs=>by
  rcases List.mem_append.1 hl' with hl' | hl'
  ·exact h.uf.cpl l' hl' y hy z hz ys zs
  ·rw [List.mem_singleton.1 hl'] at hy hz
   cases b with
   | false=>exact absurd ys (h.none rfl y hy)
   | true=>
    obtain⟨_,_,h3⟩:=h.some rfl
    rw [h3 y hy ys,h3 z hz zs]
theorem InL.alone{done:List (List Int)}{l pre:List Int}{f:Int}{b:Bool}(h:InL s links done l pre p f b)(h1:s.length=1):UF s links (done++[l]) p where
 fr:=h.uf.fr
 snd:=h.uf.snd
 cpl:=fun l' hl' y hy z hz ys zs=>by
  match s,h1 with
  | [a],_=>rw [List.mem_singleton.1 ys,List.mem_singleton.1 zs]
theorem UF.conn(h:UF s links links p)(hx:x∈s)(hy:y∈s):rt p x=rt p y↔Conn s links x y:=by
 refine⟨h.snd x hx y hy,fun hc=>?_⟩
 induction hc with
 | refl=>rfl
 | step y z l hc hl hyl hz hs ih=>exact(ih (hc.mem hx)).trans (h.cpl l hl y hyl z hz (hc.mem hx) hs)
def gOf(ρ:Int→Int)(pre:List Int)(q:Int):List Int:=pre.filter fun y=>decide (ρ y=q)
def oOf(ρ:Int→Int):List Int→List Int→List Int
 | _,[]=>[]
 | pre,x :: l=>if (gOf ρ pre (ρ x)).length=0 then ρ x :: oOf ρ (pre++[x]) l else oOf ρ (pre++[x]) l
theorem oOf_eq(hs:Lt s){ρ:Int→Int}(hc:∀ x∈s,∀ y∈s,ρ x=ρ y↔Conn s links x y):∀ (rest pre:List Int),s=pre++rest→oOf ρ pre rest=(rest.filter (isRep s links)).map ρ
 | [],_,_=>rfl
 | x :: rest,pre,hp=>by
  have hx:x∈s:=by rw [hp];simp
  have ih:=oOf_eq hs hc rest (pre++[x]) (by rw [hp];simp)
  have hrep:(gOf ρ pre (ρ x)).length=0↔isRep s links x=true:=by
   rw [List.length_eq_zero_iff,gOf,List.filter_eq_nil_iff]
   unfold isRep
   simp only [decide_eq_true_eq]
   constructor
   ·intro h y hy hyx hcn
    have:y∈pre:=by
     rw [hp] at hs hy
     obtain⟨a1,a2,a3⟩:=List.pairwise_append.1 hs
     rcases List.mem_append.1 hy with hy | hy
     ·exact hy
     ·rcases List.mem_cons.1 hy with rfl | hy
      ·omega
      ·have:=(List.pairwise_cons.1 a2).1 y hy;omega
    exact h y this ((hc y hy x hx).2 hcn)
   ·intro h y hy he
    have hys:y∈s:=by rw [hp];exact List.mem_append_left _ hy
    have hlt:y < x:=by
     rw [hp] at hs
     exact(List.pairwise_append.1 hs).2.2 y hy x (List.mem_cons_self ..)
    exact h y hys hlt ((hc y hys x hx).1 he)
  rw [oOf,ih,List.filter_cons]
  by_cases h:(gOf ρ pre (ρ x)).length=0
  ·rw [if_pos h,hrep.1 h];rfl
  ·rw [if_neg h]
   have:isRep s links x=false:=by
    cases hr:isRep s links x with
    | false=>rfl
    | true=>exact absurd (hrep.2 hr) h
   rw [this];rfl
theorem groups_eq(hs:Lt s){ρ:Int→Int}(hc:∀ x∈s,∀ y∈s,ρ x=ρ y↔Conn s links x y):(oOf ρ [] s).map (gOf ρ s)=clss s links:=by
 rw [oOf_eq hs hc s [] rfl,clss_eq hs,List.map_map]
 apply List.map_congr_left
 intro x hx
 have hxs:=(List.mem_filter.1 hx).1
 show gOf ρ s (ρ x)=part s links x
 unfold gOf part
 apply List.filter_congr
 intro y hy
 rw [Bool.eq_iff_iff]
 simp only [decide_eq_true_eq]
 exact⟨fun h=>(hc x hxs y hy).1 h.symm,fun h=>((hc x hxs y hy).2 h).symm⟩
theorem gOf_snoc(ρ:Int→Int)(pre:List Int)(x q:Int):gOf ρ (pre++[x]) q=if q=ρ x then gOf ρ pre q++[x] else gOf ρ pre q:=by
 unfold gOf
 rw [List.filter_append,List.filter_cons]
 by_cases h:q=ρ x
 ·rw [if_pos h];simp [h]
 ·rw [if_neg h];simp [Ne.symm h]
theorem oOf_snoc(ρ:Int→Int)(x:Int):∀ (l pre:List Int),oOf ρ pre (l++[x])=oOf ρ pre l++(if (gOf ρ (pre++l) (ρ x)).length=0 then [ρ x] else [])
 | [],pre=>by
  rw [List.nil_append,List.append_nil]
  simp only [oOf]
  split <;> rfl
 | y :: l,pre=>by
  rw [List.cons_append,oOf,oOf,oOf_snoc ρ x l (pre++[y])]
  have:pre++[y]++l=pre++y :: l:=by simp
  rw [this]
  split <;> simp
theorem oOf_len(ρ:Int→Int):∀ (l pre:List Int),(oOf ρ pre l).length≤l.length
 | [],_=>Nat.le_refl _
 | x :: l,pre=>by
  have:=oOf_len ρ l (pre++[x])
  rw [oOf];split
  ·simp;exact this
  ·simp;omega
end Go.Am.Isl
end