/- Part of a proof. -/
import Derived.Test.YtgdibbphgdkllaaAm38D
set_option linter.unusedVariables false
set_option linter.unusedSimpArgs false
namespace Go.Am
open Go Go.Proofs
abbrev sp38:List (Nat×Md):=[(4,.plain),(6,.plain),(10,.plain),(11,.plain),(51,.plain),(52,.plain),(53,.plain)]
abbrev sp39:List (Nat×Md):=[(4,.plain),(6,.plain),(10,.plain),(11,.plain),(14,.plain),(51,.plain),(52,.plain),(53,.plain),(65,.plain),(66,.plain),(67,.plain)]
abbrev sp40:List (Nat×Md):=[(6,.plain),(10,.plain),(11,.plain),(77,.plain),(78,.plain),(79,.plain)]
abbrev sp41:List (Nat×Md):=[(1,.plain),(3,.plain),(4,.plain),(6,.plain)]
abbrev sp42:List (Nat×Md):=[(1,.plain),(4,.plain),(6,.plain),(10,.plain)]
abbrev sp43:List (Nat×Md):=[(1,.plain),(4,.plain),(6,.plain),(10,.plain),(11,.plain)]
abbrev sp44:List (Nat×Md):=[(4,.plain),(6,.plain),(10,.plain),(11,.plain),(51,.plain),(52,.plain),(53,.plain),(54,.plain)]
abbrev sp45:List (Nat×Md):=[(4,.plain),(6,.plain),(10,.plain),(11,.plain),(13,.plain),(51,.plain),(52,.plain),(53,.plain)]
abbrev sp46:List (Nat×Md):=[(4,.plain),(6,.plain),(10,.plain),(11,.plain),(13,.plain),(14,.plain),(51,.plain),(52,.plain),(53,.plain)]
abbrev sp47:List (Nat×Md):=[(6,.plain),(10,.plain),(11,.plain)]
abbrev Ty46:=Li×(List Li)×Int×(List Bool)
abbrev Ty47:=(List Li)×(List Bool)×Li×Int
abbrev Ty48:=(List Li)×Li×Int×(List Bool)
abbrev Ty49:=(List Li)×Li×Int×(List Bool)×Nat
abbrev Ty50:=(List Li)×Li×Int×(List Bool)×Nat×Li
abbrev Ty51:=(List Li)×Int×Int×Li×Int×(List Bool)×Nat×Li
abbrev Ty52:=(List Li)×Int×Int×Li×Int×(List Bool)×Nat×Li×Nat
abbrev Ty53:=(List Li)×Int×Int×Bool×Li×Int×(List Bool)×Nat×Li×Nat
abbrev Ty54:=Li×(List Li)×Int×Int×Li×Int×(List Bool)×Nat×Li×Nat
abbrev Ty55:=Li×Int×(List Li)×Int×Int×Li×Int×(List Bool)×Nat×Li×Nat
abbrev Ty56:=Int×(List Li)×Int×Int×Li×Int×Int×Li×Int×(List Bool)×Nat×Li×Nat
abbrev Ty57:=Int×(List Bool)×Nat×Li×Nat
abbrev Ty58:=Int×Int×Int×(List Bool)×Nat×Li×Nat
def lVG3820:List CEnt:=[(37,[some 22,none,some 3,some 4],r37),(38,[some 4],r38),(39,[some 3],r39),(40,[some 3,some 3,some 4],r40),(43,[some 4],r43),(44,[some 3,none],r44),(45,[some 3,none],r45)]
def VG3820:Env:=mkEnv T38 G38 lVG3820
noncomputable abbrev Kf28:=kFin VG3820 (some [(8,.own 3),(9,.plain)]) (Try.f20).results.toList
theorem eVG3820:EOk Try.prog VG3820:=eok_mk (by exact⟨c37,c38,c39,c40,c43,c44,c45,trivial⟩)
def Af20(F:Nat):Cuts:={ F:=F,at_:=fun n=>match n with | 9035=>some sp38 | 14012=>some sp39 | 20016=>some sp40 | _=>none,join:=fun n=>match n with | 1086=>some sp41 | 3078=>some sp41 | 4076=>some sp42 | 5074=>some sp42 | 7066=>some sp42 | 8064=>some sp43 | 9037=>some sp38 | 10029=>some sp38 | 10033=>some sp44 | 11024=>some sp45 | 12018=>some sp45 | 13016=>some sp46 | 14014=>some sp39 | 18001=>some sp38 | 19024=>some sp47 | 20018=>some sp40 | 25003=>some [(11,.plain)] | _=>none,fin:=(some [(8,.own 3),(9,.plain)]) }
noncomputable abbrev XAf20(F:Nat){α:Type}:=@aexec α VG3820 (Af20 F)
def ef20_a:Ty46→St:=fun (a0,a1,a2,a3)=>⟨[(0,(.vs (.rI .i64 a0) 0 1)),(1,(.vs (.rL .i64 a1) 0 1)),(2,.int .i64 a2),(3,(.vs (.rB a3) 0 1))],[],0,94,0⟩
def ef20j1:Ty47→St:=fun (t1,t3,x3,x4)=>⟨[(1,(.vs (.rL .i64 t1) 0 1)),(3,(.vs (.rB t3) 0 1)),(4,.ptr 0 0 1 0 0 0 1),(6,.ptr 1 0 1 0 0 0 1)],[(0,(.cells 1 (.one (.vs (.rI .i64 x3) 0 1)) true)),(1,(.cells 1 (.one (.int .i64 x4)) true))],2,94,0⟩
def ef20j2:Ty47→St:=ef20j1
def ef20j3:Ty48→St:=fun (t1,x2,x3,x4)=>⟨[(1,(.vs (.rL .i64 t1) 0 1)),(4,.ptr 0 0 1 0 0 0 1),(6,.ptr 1 0 1 0 0 0 1),(10,.own 2 0 1)],[(0,(.cells 1 (.one (.vs (.rI .i64 x2) 0 1)) true)),(1,(.cells 1 (.one (.int .i64 x3)) true)),(2,(.cells x4.length (.rB x4) true))],3,94,0⟩
def ef20j4:Ty49→St:=fun (t1,x2,x3,x4,x5)=>⟨[(1,(.vs (.rL .i64 t1) 0 1)),(4,.ptr 0 0 1 0 0 0 1),(6,.ptr 1 0 1 0 0 0 1),(10,.own 2 0 1)],[(0,(.cells 1 (.one (.vs (.rI .i64 x2) 0 1)) true)),(1,(.cells 1 (.one (.int .i64 x3)) true)),(2,(.cells x5 (.rB x4) true))],3,94,0⟩
def ef20j5:Ty49→St:=ef20j4
def ef20j6:Ty50→St:=fun (t1,x2,x3,x4,x5,x6)=>⟨[(1,(.vs (.rL .i64 t1) 0 1)),(4,.ptr 0 0 1 0 0 0 1),(6,.ptr 1 0 1 0 0 0 1),(10,.own 2 0 1),(11,.own 3 0 1)],[(0,(.cells 1 (.one (.vs (.rI .i64 x2) 0 1)) true)),(1,(.cells 1 (.one (.int .i64 x3)) true)),(2,(.cells x5 (.rB x4) true)),(3,(.cells x6.length (.rI .i64 x6) true))],4,94,0⟩
def ef20j7:Ty51→St:=fun (t51,t52,t53,x4,x5,x6,x7,x8)=>⟨[(4,.ptr 0 0 1 0 0 0 1),(6,.ptr 1 0 1 0 0 0 1),(10,.own 2 0 1),(11,.own 3 0 1),(51,(.vs (.rL .i64 t51) 0 1)),(52,.int .i64 t52),(53,.int .i64 t53)],[(0,(.cells 1 (.one (.vs (.rI .i64 x4) 0 1)) true)),(1,(.cells 1 (.one (.int .i64 x5)) true)),(2,(.cells x7 (.rB x6) true)),(3,(.cells x8.length (.rI .i64 x8) true))],4,94,0⟩
def ef20l1:Ty52→St:=fun (t51,t52,t53,x4,x5,x6,x7,x8,x9)=>⟨[(4,.ptr 0 0 1 0 0 0 1),(6,.ptr 1 0 1 0 0 0 1),(10,.own 2 0 1),(11,.own 3 0 1),(51,(.vs (.rL .i64 t51) 0 1)),(52,.int .i64 t52),(53,.int .i64 t53)],[(0,(.cells 1 (.one (.vs (.rI .i64 x4) 0 1)) true)),(1,(.cells 1 (.one (.int .i64 x5)) true)),(2,(.cells x7 (.rB x6) true)),(3,(.cells x9 (.rI .i64 x8) true))],4,94,0⟩
def ef20j8:Ty53→St:=fun (t51,t52,t53,t54,x5,x6,x7,x8,x9,x10)=>⟨[(4,.ptr 0 0 1 0 0 0 1),(6,.ptr 1 0 1 0 0 0 1),(10,.own 2 0 1),(11,.own 3 0 1),(51,(.vs (.rL .i64 t51) 0 1)),(52,.int .i64 t52),(53,.int .i64 t53),(54,.bool t54)],[(0,(.cells 1 (.one (.vs (.rI .i64 x5) 0 1)) true)),(1,(.cells 1 (.one (.int .i64 x6)) true)),(2,(.cells x8 (.rB x7) true)),(3,(.cells x10 (.rI .i64 x9) true))],4,94,0⟩
def ef20j9:Ty52→St:=ef20l1
def ef20j10:Ty54→St:=fun (t13,t51,t52,t53,x5,x6,x7,x8,x9,x10)=>⟨[(4,.ptr 0 0 1 0 0 0 1),(6,.ptr 1 0 1 0 0 0 1),(10,.own 2 0 1),(11,.own 3 0 1),(13,(.vs (.rI .i64 t13) 0 1)),(51,(.vs (.rL .i64 t51) 0 1)),(52,.int .i64 t52),(53,.int .i64 t53)],[(0,(.cells 1 (.one (.vs (.rI .i64 x5) 0 1)) true)),(1,(.cells 1 (.one (.int .i64 x6)) true)),(2,(.cells x8 (.rB x7) true)),(3,(.cells x10 (.rI .i64 x9) true))],4,94,0⟩
def ef20j11:Ty54→St:=ef20j10
def ef20j12:Ty55→St:=fun (t13,t14,t51,t52,t53,x6,x7,x8,x9,x10,x11)=>⟨[(4,.ptr 0 0 1 0 0 0 1),(6,.ptr 1 0 1 0 0 0 1),(10,.own 2 0 1),(11,.own 3 0 1),(13,(.vs (.rI .i64 t13) 0 1)),(14,.int .i64 t14),(51,(.vs (.rL .i64 t51) 0 1)),(52,.int .i64 t52),(53,.int .i64 t53)],[(0,(.cells 1 (.one (.vs (.rI .i64 x6) 0 1)) true)),(1,(.cells 1 (.one (.int .i64 x7)) true)),(2,(.cells x9 (.rB x8) true)),(3,(.cells x11 (.rI .i64 x10) true))],4,94,0⟩
def ef20j13:Ty56→St:=fun (t14,t51,t52,t53,t65,t66,t67,x8,x9,x10,x11,x12,x13)=>⟨[(4,.ptr 0 0 1 0 0 0 1),(6,.ptr 1 0 1 0 0 0 1),(10,.own 2 0 1),(11,.own 3 0 1),(14,.int .i64 t14),(51,(.vs (.rL .i64 t51) 0 1)),(52,.int .i64 t52),(53,.int .i64 t53),(65,(.vs (.rI .i64 t65) 0 1)),(66,.int .i64 t66),(67,.int .i64 t67)],[(0,(.cells 1 (.one (.vs (.rI .i64 x8) 0 1)) true)),(1,(.cells 1 (.one (.int .i64 x9)) true)),(2,(.cells x11 (.rB x10) true)),(3,(.cells x13 (.rI .i64 x12) true))],4,94,0⟩
def ef20l2:Ty56→St:=ef20j13
def ef20j14:Ty52→St:=ef20l1
def ef20j15:Ty57→St:=fun (x1,x2,x3,x4,x5)=>⟨[(6,.ptr 0 0 1 0 0 0 1),(10,.own 1 0 1),(11,.own 2 0 1)],[(0,(.cells 1 (.one (.int .i64 x1)) true)),(1,(.cells x3 (.rB x2) true)),(2,(.cells x5 (.rI .i64 x4) true))],3,94,0⟩
def ef20j16:Ty58→St:=fun (t78,t79,x3,x4,x5,x6,x7)=>⟨[(6,.ptr 0 0 1 0 0 0 1),(10,.own 1 0 1),(11,.own 2 0 1),(77,.own 2 0 1),(78,.int .i64 t78),(79,.int .i64 t79)],[(0,(.cells 1 (.one (.int .i64 x3)) true)),(1,(.cells x5 (.rB x4) true)),(2,(.cells x7 (.rI .i64 x6) true))],3,94,0⟩
def ef20l3:Ty58→St:=ef20j16
def ef20j17:Li×Nat→St:=fun (x1,x2)=>⟨[(11,.own 0 0 1)],[(0,(.cells x2 (.rI .i64 x1) true))],1,94,0⟩
def f20_1(F:Nat)(kf20j1:Ty47→Rz):Ty46→Rz:=fun (a0,a1,a2,a3)=>(kf20j1 (a1,a3,a0,a2))
theorem f20_1_eq(F:Nat)(Rf20j1:St→Rz):∀ v,XAf20 F (bp Try.f20 2) (ef20_a v) (kSeq (kc VG3820 Rf20j1 sp41) Kf28)=f20_1 F (Rf20j1∘ef20j1) v:=by
 rintro⟨a0,a1,a2,a3⟩;kernel_rfl
def f20_2(F:Nat)(kf20j2:Ty47→Rz):Ty47→Rz:=fun (t1,t3,x3,x4)=>(cond ((decide (0≤(↑x3.length:Int)))&&(decide (Int.toNat (↑x3.length:Int) < 1073741000))) (cond (!(Reg.valid t1 (Int.toNat (↑x3.length:Int)) x3 t3)) (some ((.tup (.cons 0 (.own 0 0 1) (.cons 0 (.int .i64 1) .nil))),[(.cells 0 (.rI .i64 []) true)])) (cond (decide (x4 < (0:Int))) (some ((.tup (.cons 0 (.own 0 0 1) (.cons 0 (.int .i64 1) .nil))),[(.cells 0 (.rI .i64 []) true)])) (cond (decide (x4≥(↑t3.length:Int))) (some ((.tup (.cons 0 (.own 0 0 1) (.cons 0 (.int .i64 1) .nil))),[(.cells 0 (.rI .i64 []) true)])) (kf20j2 (t1,t3,x3,x4))))) none)
theorem f20_2_eq(F:Nat)(Rf20j2:St→Rz):∀ v,XAf20 F (bp Try.f20 6) (ef20j1 v) (kSeq (kc VG3820 Rf20j2 sp41) Kf28)=f20_2 F (Rf20j2∘ef20j2) v:=by
 rintro⟨t1,t3,x3,x4⟩;kernel_rfl
def f20_3(F:Nat)(kf20j3:Ty48→Rz):Ty47→Rz:=fun (t1,t3,x3,x4)=>(cond (decide (t3.length < 1073741000)) (kf20j3 (t1,x3,x4,t3)) none)
theorem f20_3_eq(F:Nat)(Rf20j3:St→Rz):∀ v,XAf20 F (bp Try.f20 14) (ef20j2 v) (kSeq (kc VG3820 Rf20j3 sp42) Kf28)=f20_3 F (Rf20j3∘ef20j3) v:=by
 rintro⟨t1,t3,x3,x4⟩;kernel_rfl
def f20_4(F:Nat)(kf20j4:Ty49→Rz):Ty48→Rz:=fun (t1,x2,x3,x4)=>(cond ((decide (0≤x3))&&(decide (x3 < (↑x4.length:Int)))) (kf20j4 (t1,x2,x3,(x4.set (Int.toNat x3) false),x4.length)) none)
theorem f20_4_eq(F:Nat)(Rf20j4:St→Rz):∀ v,XAf20 F (bp Try.f20 30) (ef20j3 v) (kSeq (kc VG3820 Rf20j4 sp42) Kf28)=f20_4 F (Rf20j4∘ef20j4) v:=by
 rintro⟨t1,x2,x3,x4⟩;kernel_rfl
def f20_5(F:Nat)(kf20j5:Ty49→Rz):Ty49→Rz:=fun (t1,x2,x3,x4,x5)=>(cond (x2.any (fun y=>y==x3)) (cond (decide ((Reg.first x4) < (0:Int))) (some ((.tup (.cons 0 (.own 0 0 1) (.cons 0 (.int .i64 6) .nil))),[(.cells 0 (.rI .i64 []) true)])) (kf20j5 (t1,x2,x3,x4,x5))) (kf20j5 (t1,x2,x3,x4,x5)))
theorem f20_5_eq(F:Nat)(Rf20j5:St→Rz):∀ v,XAf20 F (bp Try.f20 62) (ef20j4 v) (kSeq (kc VG3820 Rf20j5 sp42) Kf28)=f20_5 F (Rf20j5∘ef20j5) v:=by
 rintro⟨t1,x2,x3,x4,x5⟩;kernel_rfl
def f20_6(F:Nat)(kf20j6:Ty50→Rz):Ty49→Rz:=fun (t1,x2,x3,x4,x5)=>(cond (decide (x2.length < 1073741000)) (kf20j6 (t1,x2,x3,x4,x5,x2)) none)
theorem f20_6_eq(F:Nat)(Rf20j6:St→Rz):∀ v,XAf20 F (bp Try.f20 126) (ef20j5 v) (kSeq (kc VG3820 Rf20j6 sp43) Kf28)=f20_6 F (Rf20j6∘ef20j6) v:=by
 rintro⟨t1,x2,x3,x4,x5⟩;kernel_rfl
def f20_7(F:Nat)(kf20j7:Ty51→Rz)(kf20j15:Ty57→Rz):Ty50→Rz:=fun (t1,x2,x3,x4,x5,x6)=>(kf20j7 (t1,(↑t1.length:Int),(0:Int),x2,x3,x4,x5,x6))
theorem f20_7_eq(F:Nat)(Rf20j7:St→Rz)(Rf20j15:St→Rz):∀ v,XAf20 F (bp Try.f20 508) (ef20j6 v) (kSeq (kc VG3820 Rf20j7 sp38) (kSeq (kc VG3820 Rf20j15 sp47) Kf28))=f20_7 F (Rf20j7∘ef20j7) (Rf20j15∘ef20j15) v:=by
 rintro⟨t1,x2,x3,x4,x5,x6⟩;kernel_rfl
def f20_8(F:Nat)(kf20j8:Ty53→Rz)(kf20l1:Ty52→Rz)(kf20j15:Ty57→Rz):Ty52→Rz:=fun (t51,t52,t53,x4,x5,x6,x7,x8,x9)=>(kf20j8 (t51,t52,t53,(decide (t53 < t52)),x4,x5,x6,x7,x8,x9))
theorem f20_8_eq(F:Nat)(Rf20j8:St→Rz)(Rf20l1:St→Rz)(Rf20j15:St→Rz):∀ v,XAf20 F (bp Try.f20 4072) (ef20l1 v) (kSeq (kc VG3820 Rf20j8 sp44) (kSeq (kc VG3820 Rf20l1 sp38) (kBlock 0 (kSeq (kc VG3820 Rf20j15 sp47) Kf28))))=f20_8 F (Rf20j8∘ef20j8) (Rf20l1∘ef20l1) (Rf20j15∘ef20j15) v:=by
 rintro⟨t51,t52,t53,x4,x5,x6,x7,x8,x9⟩;kernel_rfl
def f20_9(F:Nat)(kf20j9:Ty52→Rz)(kf20l1:Ty52→Rz)(kf20j15:Ty57→Rz):Ty53→Rz:=fun (t51,t52,t53,t54,x5,x6,x7,x8,x9,x10)=>(cond t54 (kf20j9 (t51,t52,t53,x5,x6,x7,x8,x9,x10)) (kf20j15 (x6,x7,x8,x9,x10)))
theorem f20_9_eq(F:Nat)(Rf20j9:St→Rz)(Rf20l1:St→Rz)(Rf20j15:St→Rz):∀ v,XAf20 F (bp Try.f20 8146) (ef20j8 v) (kSeq (kc VG3820 Rf20j9 sp38) (kSeq (kc VG3820 Rf20l1 sp38) (kBlock 0 (kSeq (kc VG3820 Rf20j15 sp47) Kf28))))=f20_9 F (Rf20j9∘ef20j9) (Rf20l1∘ef20l1) (Rf20j15∘ef20j15) v:=by
 rintro⟨t51,t52,t53,t54,x5,x6,x7,x8,x9,x10⟩;kernel_rfl
def f20_10(F:Nat)(kf20j10:Ty54→Rz)(kf20j14:Ty52→Rz)(kf20l1:Ty52→Rz)(kf20j15:Ty57→Rz):Ty52→Rz:=fun (t51,t52,t53,x4,x5,x6,x7,x8,x9)=>(cond ((decide (0≤t53))&&(decide (t53 < (↑t51.length:Int)))) (kf20j10 ((t51.getD (Int.toNat t53) []),t51,t52,t53,x4,x5,x6,x7,x8,x9)) none)
theorem f20_10_eq(F:Nat)(Rf20j10:St→Rz)(Rf20j14:St→Rz)(Rf20l1:St→Rz)(Rf20j15:St→Rz):∀ v,XAf20 F (bp Try.f20 65176) (ef20j9 v) (kSeq (kc VG3820 Rf20j10 sp45) (kBlock 1 (kSeq (kc VG3820 Rf20j14 sp38) (kSeq (kc VG3820 Rf20l1 sp38) (kBlock 0 (kSeq (kc VG3820 Rf20j15 sp47) Kf28))))))=f20_10 F (Rf20j10∘ef20j10) (Rf20j14∘ef20j14) (Rf20l1∘ef20l1) (Rf20j15∘ef20j15) v:=by
 rintro⟨t51,t52,t53,x4,x5,x6,x7,x8,x9⟩;kernel_rfl
def f20_11(F:Nat)(kf20j11:Ty54→Rz)(kf20j14:Ty52→Rz)(kf20l1:Ty52→Rz)(kf20j15:Ty57→Rz):Ty54→Rz:=fun (t13,t51,t52,t53,x5,x6,x7,x8,x9,x10)=>(cond (Reg.inr x5.length t13) (cond (!(t13.any (fun d=>x5.getD (Int.toNat d) 0==x6))) (kf20j14 (t51,t52,t53,x5,x6,x7,x8,x9,x10)) (kf20j11 (t13,t51,t52,t53,x5,x6,x7,x8,x9,x10))) none)
theorem f20_11_eq(F:Nat)(Rf20j11:St→Rz)(Rf20j14:St→Rz)(Rf20l1:St→Rz)(Rf20j15:St→Rz):∀ v,XAf20 F (bp Try.f20 130354) (ef20j10 v) (kSeq (kc VG3820 Rf20j11 sp45) (kBlock 1 (kSeq (kc VG3820 Rf20j14 sp38) (kSeq (kc VG3820 Rf20l1 sp38) (kBlock 0 (kSeq (kc VG3820 Rf20j15 sp47) Kf28))))))=f20_11 F (Rf20j11∘ef20j11) (Rf20j14∘ef20j14) (Rf20l1∘ef20l1) (Rf20j15∘ef20j15) v:=by
 rintro⟨t13,t51,t52,t53,x5,x6,x7,x8,x9,x10⟩;kernel_rfl
def f20_12(F:Nat)(kf20j12:Ty55→Rz)(kf20j14:Ty52→Rz)(kf20l1:Ty52→Rz)(kf20j15:Ty57→Rz):Ty54→Rz:=fun (t13,t51,t52,t53,x5,x6,x7,x8,x9,x10)=>(cond (((Reg.inr x5.length t13)&&(decide (x7.length≤6)))&&(Reg.lt6 x5)) (kf20j12 (t13,(Reg.best t13 x5 x7),t51,t52,t53,x5,x6,x7,x8,x9,x10)) none)
theorem f20_12_eq(F:Nat)(Rf20j12:St→Rz)(Rf20j14:St→Rz)(Rf20l1:St→Rz)(Rf20j15:St→Rz):∀ v,XAf20 F (bp Try.f20 260710) (ef20j11 v) (kSeq (kc VG3820 Rf20j12 sp46) (kBlock 1 (kSeq (kc VG3820 Rf20j14 sp38) (kSeq (kc VG3820 Rf20l1 sp38) (kBlock 0 (kSeq (kc VG3820 Rf20j15 sp47) Kf28))))))=f20_12 F (Rf20j12∘ef20j12) (Rf20j14∘ef20j14) (Rf20l1∘ef20l1) (Rf20j15∘ef20j15) v:=by
 rintro⟨t13,t51,t52,t53,x5,x6,x7,x8,x9,x10⟩;kernel_rfl
def f20_13(F:Nat)(kf20j13:Ty56→Rz)(kf20j14:Ty52→Rz)(kf20l1:Ty52→Rz)(kf20j15:Ty57→Rz):Ty55→Rz:=fun (t13,t14,t51,t52,t53,x6,x7,x8,x9,x10,x11)=>(kf20j13 (t14,t51,t52,t53,t13,(↑t13.length:Int),(0:Int),x6,x7,x8,x9,x10,x11))
theorem f20_13_eq(F:Nat)(Rf20j13:St→Rz)(Rf20j14:St→Rz)(Rf20l1:St→Rz)(Rf20j15:St→Rz):∀ v,XAf20 F (bp Try.f20 521422) (ef20j12 v) (kSeq (kc VG3820 Rf20j13 sp39) (kBlock 1 (kSeq (kc VG3820 Rf20j14 sp38) (kSeq (kc VG3820 Rf20l1 sp38) (kBlock 0 (kSeq (kc VG3820 Rf20j15 sp47) Kf28))))))=f20_13 F (Rf20j13∘ef20j13) (Rf20j14∘ef20j14) (Rf20l1∘ef20l1) (Rf20j15∘ef20j15) v:=by
 rintro⟨t13,t14,t51,t52,t53,x6,x7,x8,x9,x10,x11⟩;kernel_rfl
def f20_14(F:Nat)(kf20l2:Ty56→Rz)(kf20j14:Ty52→Rz)(kf20l1:Ty52→Rz)(kf20j15:Ty57→Rz):Ty56→Rz:=fun (t14,t51,t52,t53,t65,t66,t67,x8,x9,x10,x11,x12,x13)=>(cond (decide (t67 < t66)) (cond ((decide (0≤t67))&&(decide (t67 < (↑t65.length:Int)))) (cond ((decide (0≤(t65.getD (Int.toNat t67) 0)))&&(decide ((t65.getD (Int.toNat t67) 0) < (↑x12.length:Int)))) (kf20l2 (t14,t51,t52,t53,t65,t66,(IntKind.i64.wrap (t67+(1:Int))),x8,x9,x10,x11,(x12.set (Int.toNat (t65.getD (Int.toNat t67) 0)) t14),x13)) none) none) (kf20j14 (t51,t52,t53,x8,x9,x10,x11,x12,x13)))
theorem f20_14_eq(F:Nat)(Rf20l2:St→Rz)(Rf20j14:St→Rz)(Rf20l1:St→Rz)(Rf20j15:St→Rz):∀ v,XAf20 F (bp Try.f20 2085692) (ef20l2 v) (kSeq (kc VG3820 Rf20l2 sp39) (kBlock 2 (kBlock 1 (kSeq (kc VG3820 Rf20j14 sp38) (kSeq (kc VG3820 Rf20l1 sp38) (kBlock 0 (kSeq (kc VG3820 Rf20j15 sp47) Kf28)))))))=f20_14 F (Rf20l2∘ef20l2) (Rf20j14∘ef20j14) (Rf20l1∘ef20l1) (Rf20j15∘ef20j15) v:=by
 rintro⟨t14,t51,t52,t53,t65,t66,t67,x8,x9,x10,x11,x12,x13⟩;kernel_rfl
def f20_15_i:Ty56→Int×(List Li)×Int×Int×Li×Int×Int×Li×Int×(List Bool)×Nat×Li×Nat:=fun (t14,t51,t52,t53,t65,t66,t67,x8,x9,x10,x11,x12,x13)=>(t14,t51,t52,t53,t65,t66,t67,x8,x9,x10,x11,x12,x13)
def f20_15(F:Nat)(kf20j14:Ty52→Rz)(kf20l1:Ty52→Rz)(kf20j15:Ty57→Rz):Ty56→Rz:=fun v=>loopN (fun k=>f20_14 F k kf20j14 kf20l1 kf20j15) F (f20_15_i v)
theorem f20_15_eq(F:Nat)(Rf20j14:St→Rz)(Rf20l1:St→Rz)(Rf20j15:St→Rz):∀ v,XAf20 F (bp Try.f20 1042846) (ef20j13 v) (kBlock 2 (kBlock 1 (kSeq (kc VG3820 Rf20j14 sp38) (kSeq (kc VG3820 Rf20l1 sp38) (kBlock 0 (kSeq (kc VG3820 Rf20j15 sp47) Kf28))))))=f20_15 F (Rf20j14∘ef20j14) (Rf20l1∘ef20l1) (Rf20j15∘ef20j15) v:=
 loop_cut (by kernel_rfl) (by kernel_rfl) ef20j13 ef20l2 _ f20_15_i (fun k=>f20_14 F k (Rf20j14∘ef20j14) (Rf20l1∘ef20l1) (Rf20j15∘ef20j15))
  (by rintro⟨t14,t51,t52,t53,t65,t66,t67,x8,x9,x10,x11,x12,x13⟩;kernel_rfl) (fun Rf20l2=>f20_14_eq F Rf20l2 Rf20j14 Rf20l1 Rf20j15)
def f20_16(F:Nat)(kf20j14:Ty52→Rz)(kf20l1:Ty52→Rz)(kf20j15:Ty57→Rz):Ty56→Rz:=f20_15 F kf20j14 kf20l1 kf20j15
theorem f20_16_eq(F:Nat)(Rf20j14:St→Rz)(Rf20l1:St→Rz)(Rf20j15:St→Rz):∀ v,XAf20 F (bp Try.f20 521423) (ef20j13 v) (kBlock 1 (kSeq (kc VG3820 Rf20j14 sp38) (kSeq (kc VG3820 Rf20l1 sp38) (kBlock 0 (kSeq (kc VG3820 Rf20j15 sp47) Kf28)))))=f20_16 F (Rf20j14∘ef20j14) (Rf20l1∘ef20l1) (Rf20j15∘ef20j15) v:=fun v=>
 (block_in  (by kernel_rfl) _ _).trans (f20_15_eq F Rf20j14 Rf20l1 Rf20j15 v)
def f20_17(F:Nat)(kf20j14:Ty52→Rz)(kf20l1:Ty52→Rz)(kf20j15:Ty57→Rz):Ty55→Rz:=fun v=>f20_13 F (f20_16 F kf20j14 kf20l1 kf20j15) kf20j14 kf20l1 kf20j15 v
theorem f20_17_eq(F:Nat)(Rf20j14:St→Rz)(Rf20l1:St→Rz)(Rf20j15:St→Rz):∀ v,XAf20 F (bp Try.f20 260711) (ef20j12 v) (kBlock 1 (kSeq (kc VG3820 Rf20j14 sp38) (kSeq (kc VG3820 Rf20l1 sp38) (kBlock 0 (kSeq (kc VG3820 Rf20j15 sp47) Kf28)))))=f20_17 F (Rf20j14∘ef20j14) (Rf20l1∘ef20l1) (Rf20j15∘ef20j15) v:=
 seq_cut (by kernel_rfl) (by kernel_rfl) ef20j12 ef20j13 _ (fun k=>f20_13 F k (Rf20j14∘ef20j14) (Rf20l1∘ef20l1) (Rf20j15∘ef20j15)) (f20_16 F (Rf20j14∘ef20j14) (Rf20l1∘ef20l1) (Rf20j15∘ef20j15))
  (fun Rf20j13=>f20_13_eq F Rf20j13 Rf20j14 Rf20l1 Rf20j15) (f20_16_eq F Rf20j14 Rf20l1 Rf20j15)
def f20_18(F:Nat)(kf20j14:Ty52→Rz)(kf20l1:Ty52→Rz)(kf20j15:Ty57→Rz):Ty54→Rz:=fun v=>f20_12 F (f20_17 F kf20j14 kf20l1 kf20j15) kf20j14 kf20l1 kf20j15 v
theorem f20_18_eq(F:Nat)(Rf20j14:St→Rz)(Rf20l1:St→Rz)(Rf20j15:St→Rz):∀ v,XAf20 F (bp Try.f20 130355) (ef20j11 v) (kBlock 1 (kSeq (kc VG3820 Rf20j14 sp38) (kSeq (kc VG3820 Rf20l1 sp38) (kBlock 0 (kSeq (kc VG3820 Rf20j15 sp47) Kf28)))))=f20_18 F (Rf20j14∘ef20j14) (Rf20l1∘ef20l1) (Rf20j15∘ef20j15) v:=
 seq_cut (by kernel_rfl) (by kernel_rfl) ef20j11 ef20j12 _ (fun k=>f20_12 F k (Rf20j14∘ef20j14) (Rf20l1∘ef20l1) (Rf20j15∘ef20j15)) (f20_17 F (Rf20j14∘ef20j14) (Rf20l1∘ef20l1) (Rf20j15∘ef20j15))
  (fun Rf20j12=>f20_12_eq F Rf20j12 Rf20j14 Rf20l1 Rf20j15) (f20_17_eq F Rf20j14 Rf20l1 Rf20j15)
def f20_19(F:Nat)(kf20j14:Ty52→Rz)(kf20l1:Ty52→Rz)(kf20j15:Ty57→Rz):Ty54→Rz:=fun v=>f20_11 F (f20_18 F kf20j14 kf20l1 kf20j15) kf20j14 kf20l1 kf20j15 v
theorem f20_19_eq(F:Nat)(Rf20j14:St→Rz)(Rf20l1:St→Rz)(Rf20j15:St→Rz):∀ v,XAf20 F (bp Try.f20 65177) (ef20j10 v) (kBlock 1 (kSeq (kc VG3820 Rf20j14 sp38) (kSeq (kc VG3820 Rf20l1 sp38) (kBlock 0 (kSeq (kc VG3820 Rf20j15 sp47) Kf28)))))=f20_19 F (Rf20j14∘ef20j14) (Rf20l1∘ef20l1) (Rf20j15∘ef20j15) v:=
 seq_cut (by kernel_rfl) (by kernel_rfl) ef20j10 ef20j11 _ (fun k=>f20_11 F k (Rf20j14∘ef20j14) (Rf20l1∘ef20l1) (Rf20j15∘ef20j15)) (f20_18 F (Rf20j14∘ef20j14) (Rf20l1∘ef20l1) (Rf20j15∘ef20j15))
  (fun Rf20j11=>f20_11_eq F Rf20j11 Rf20j14 Rf20l1 Rf20j15) (f20_18_eq F Rf20j14 Rf20l1 Rf20j15)
def f20_20(F:Nat)(kf20j14:Ty52→Rz)(kf20l1:Ty52→Rz)(kf20j15:Ty57→Rz):Ty52→Rz:=fun v=>f20_10 F (f20_19 F kf20j14 kf20l1 kf20j15) kf20j14 kf20l1 kf20j15 v
theorem f20_20_eq(F:Nat)(Rf20j14:St→Rz)(Rf20l1:St→Rz)(Rf20j15:St→Rz):∀ v,XAf20 F (bp Try.f20 32588) (ef20j9 v) (kBlock 1 (kSeq (kc VG3820 Rf20j14 sp38) (kSeq (kc VG3820 Rf20l1 sp38) (kBlock 0 (kSeq (kc VG3820 Rf20j15 sp47) Kf28)))))=f20_20 F (Rf20j14∘ef20j14) (Rf20l1∘ef20l1) (Rf20j15∘ef20j15) v:=
 seq_cut (by kernel_rfl) (by kernel_rfl) ef20j9 ef20j10 _ (fun k=>f20_10 F k (Rf20j14∘ef20j14) (Rf20l1∘ef20l1) (Rf20j15∘ef20j15)) (f20_19 F (Rf20j14∘ef20j14) (Rf20l1∘ef20l1) (Rf20j15∘ef20j15))
  (fun Rf20j10=>f20_10_eq F Rf20j10 Rf20j14 Rf20l1 Rf20j15) (f20_19_eq F Rf20j14 Rf20l1 Rf20j15)
def f20_21(F:Nat)(kf20j14:Ty52→Rz)(kf20l1:Ty52→Rz)(kf20j15:Ty57→Rz):Ty52→Rz:=f20_20 F kf20j14 kf20l1 kf20j15
theorem f20_21_eq(F:Nat)(Rf20j14:St→Rz)(Rf20l1:St→Rz)(Rf20j15:St→Rz):∀ v,XAf20 F (bp Try.f20 16294) (ef20j9 v) (kSeq (kc VG3820 Rf20j14 sp38) (kSeq (kc VG3820 Rf20l1 sp38) (kBlock 0 (kSeq (kc VG3820 Rf20j15 sp47) Kf28))))=f20_21 F (Rf20j14∘ef20j14) (Rf20l1∘ef20l1) (Rf20j15∘ef20j15) v:=fun v=>
 (block_in  (by kernel_rfl) _ _).trans (f20_20_eq F Rf20j14 Rf20l1 Rf20j15 v)
def f20_22(F:Nat)(kf20l1:Ty52→Rz)(kf20j15:Ty57→Rz):Ty52→Rz:=fun (t51,t52,t53,x4,x5,x6,x7,x8,x9)=>(kf20l1 (t51,t52,(IntKind.i64.wrap (t53+(1:Int))),x4,x5,x6,x7,x8,x9))
theorem f20_22_eq(F:Nat)(Rf20l1:St→Rz)(Rf20j15:St→Rz):∀ v,XAf20 F (bp Try.f20 16295) (ef20j14 v) (kSeq (kc VG3820 Rf20l1 sp38) (kBlock 0 (kSeq (kc VG3820 Rf20j15 sp47) Kf28)))=f20_22 F (Rf20l1∘ef20l1) (Rf20j15∘ef20j15) v:=by
 rintro⟨t51,t52,t53,x4,x5,x6,x7,x8,x9⟩;kernel_rfl
def f20_23(F:Nat)(kf20l1:Ty52→Rz)(kf20j15:Ty57→Rz):Ty52→Rz:=fun v=>f20_21 F (f20_22 F kf20l1 kf20j15) kf20l1 kf20j15 v
theorem f20_23_eq(F:Nat)(Rf20l1:St→Rz)(Rf20j15:St→Rz):∀ v,XAf20 F (bp Try.f20 8147) (ef20j9 v) (kSeq (kc VG3820 Rf20l1 sp38) (kBlock 0 (kSeq (kc VG3820 Rf20j15 sp47) Kf28)))=f20_23 F (Rf20l1∘ef20l1) (Rf20j15∘ef20j15) v:=
 seq_cut (by kernel_rfl) (by kernel_rfl) ef20j9 ef20j14 _ (fun k=>f20_21 F k (Rf20l1∘ef20l1) (Rf20j15∘ef20j15)) (f20_22 F (Rf20l1∘ef20l1) (Rf20j15∘ef20j15))
  (fun Rf20j14=>f20_21_eq F Rf20j14 Rf20l1 Rf20j15) (f20_22_eq F Rf20l1 Rf20j15)
def f20_24(F:Nat)(kf20l1:Ty52→Rz)(kf20j15:Ty57→Rz):Ty53→Rz:=fun v=>f20_9 F (f20_23 F kf20l1 kf20j15) kf20l1 kf20j15 v
theorem f20_24_eq(F:Nat)(Rf20l1:St→Rz)(Rf20j15:St→Rz):∀ v,XAf20 F (bp Try.f20 4073) (ef20j8 v) (kSeq (kc VG3820 Rf20l1 sp38) (kBlock 0 (kSeq (kc VG3820 Rf20j15 sp47) Kf28)))=f20_24 F (Rf20l1∘ef20l1) (Rf20j15∘ef20j15) v:=
 seq_cut (by kernel_rfl) (by kernel_rfl) ef20j8 ef20j9 _ (fun k=>f20_9 F k (Rf20l1∘ef20l1) (Rf20j15∘ef20j15)) (f20_23 F (Rf20l1∘ef20l1) (Rf20j15∘ef20j15))
  (fun Rf20j9=>f20_9_eq F Rf20j9 Rf20l1 Rf20j15) (f20_23_eq F Rf20l1 Rf20j15)
def f20_25(F:Nat)(kf20l1:Ty52→Rz)(kf20j15:Ty57→Rz):Ty52→Rz:=fun v=>f20_8 F (f20_24 F kf20l1 kf20j15) kf20l1 kf20j15 v
theorem f20_25_eq(F:Nat)(Rf20l1:St→Rz)(Rf20j15:St→Rz):∀ v,XAf20 F (bp Try.f20 2036) (ef20l1 v) (kSeq (kc VG3820 Rf20l1 sp38) (kBlock 0 (kSeq (kc VG3820 Rf20j15 sp47) Kf28)))=f20_25 F (Rf20l1∘ef20l1) (Rf20j15∘ef20j15) v:=
 seq_cut (by kernel_rfl) (by kernel_rfl) ef20l1 ef20j8 _ (fun k=>f20_8 F k (Rf20l1∘ef20l1) (Rf20j15∘ef20j15)) (f20_24 F (Rf20l1∘ef20l1) (Rf20j15∘ef20j15))
  (fun Rf20j8=>f20_8_eq F Rf20j8 Rf20l1 Rf20j15) (f20_24_eq F Rf20l1 Rf20j15)
def f20_26_i:Ty51→(List Li)×Int×Int×Li×Int×(List Bool)×Nat×Li×Nat:=fun (t51,t52,t53,x4,x5,x6,x7,x8)=>(t51,t52,t53,x4,x5,x6,x7,x8,x8.length)
def f20_26(F:Nat)(kf20j15:Ty57→Rz):Ty51→Rz:=fun v=>loopN (fun k=>f20_25 F k kf20j15) F (f20_26_i v)
theorem f20_26_eq(F:Nat)(Rf20j15:St→Rz):∀ v,XAf20 F (bp Try.f20 1018) (ef20j7 v) (kBlock 0 (kSeq (kc VG3820 Rf20j15 sp47) Kf28))=f20_26 F (Rf20j15∘ef20j15) v:=
 loop_cut (by kernel_rfl) (by kernel_rfl) ef20j7 ef20l1 _ f20_26_i (fun k=>f20_25 F k (Rf20j15∘ef20j15))
  (by rintro⟨t51,t52,t53,x4,x5,x6,x7,x8⟩;kernel_rfl) (fun Rf20l1=>f20_25_eq F Rf20l1 Rf20j15)
def f20_27(F:Nat)(kf20j15:Ty57→Rz):Ty51→Rz:=f20_26 F kf20j15
theorem f20_27_eq(F:Nat)(Rf20j15:St→Rz):∀ v,XAf20 F (bp Try.f20 509) (ef20j7 v) (kSeq (kc VG3820 Rf20j15 sp47) Kf28)=f20_27 F (Rf20j15∘ef20j15) v:=fun v=>
 (block_in  (by kernel_rfl) _ _).trans (f20_26_eq F Rf20j15 v)
def f20_28(F:Nat)(kf20j15:Ty57→Rz):Ty50→Rz:=fun v=>f20_7 F (f20_27 F kf20j15) kf20j15 v
theorem f20_28_eq(F:Nat)(Rf20j15:St→Rz):∀ v,XAf20 F (bp Try.f20 254) (ef20j6 v) (kSeq (kc VG3820 Rf20j15 sp47) Kf28)=f20_28 F (Rf20j15∘ef20j15) v:=
 seq_cut (by kernel_rfl) (by kernel_rfl) ef20j6 ef20j7 _ (fun k=>f20_7 F k (Rf20j15∘ef20j15)) (f20_27 F (Rf20j15∘ef20j15))
  (fun Rf20j7=>f20_7_eq F Rf20j7 Rf20j15) (f20_27_eq F Rf20j15)
def f20_29(F:Nat)(kf20j16:Ty58→Rz)(kf20j17:Li×Nat→Rz):Ty57→Rz:=fun (x1,x2,x3,x4,x5)=>(kf20j16 ((↑x4.length:Int),(0:Int),x1,x2,x3,x4,x5))
theorem f20_29_eq(F:Nat)(Rf20j16:St→Rz)(Rf20j17:St→Rz):∀ v,XAf20 F (bp Try.f20 1020) (ef20j15 v) (kSeq (kc VG3820 Rf20j16 sp40) (kSeq (kc VG3820 Rf20j17 [(11,.plain)]) Kf28))=f20_29 F (Rf20j16∘ef20j16) (Rf20j17∘ef20j17) v:=by
 rintro⟨x1,x2,x3,x4,x5⟩;kernel_rfl
def f20_30(F:Nat)(kf20l3:Ty58→Rz)(kf20j17:Li×Nat→Rz):Ty58→Rz:=fun (t78,t79,x3,x4,x5,x6,x7)=>(cond (decide (t79 < t78)) (cond ((decide (0≤t79))&&(decide (t79 < (↑x6.length:Int)))) (cond ((x6.getD (Int.toNat t79) 0)==x3) (cond ((decide (0≤t79))&&(decide (t79 < (↑x6.length:Int)))) (kf20l3 (t78,(IntKind.i64.wrap (t79+(1:Int))),x3,x4,x5,(x6.set (Int.toNat t79) (Reg.first x4)),x7)) none) (kf20l3 (t78,(IntKind.i64.wrap (t79+(1:Int))),x3,x4,x5,x6,x7))) none) (kf20j17 (x6,x7)))
theorem f20_30_eq(F:Nat)(Rf20l3:St→Rz)(Rf20j17:St→Rz):∀ v,XAf20 F (bp Try.f20 4084) (ef20l3 v) (kSeq (kc VG3820 Rf20l3 sp40) (kBlock 4 (kSeq (kc VG3820 Rf20j17 [(11,.plain)]) Kf28)))=f20_30 F (Rf20l3∘ef20l3) (Rf20j17∘ef20j17) v:=by
 rintro⟨t78,t79,x3,x4,x5,x6,x7⟩;kernel_rfl
def f20_31_i:Ty58→Int×Int×Int×(List Bool)×Nat×Li×Nat:=fun (t78,t79,x3,x4,x5,x6,x7)=>(t78,t79,x3,x4,x5,x6,x7)
def f20_31(F:Nat)(kf20j17:Li×Nat→Rz):Ty58→Rz:=fun v=>loopN (fun k=>f20_30 F k kf20j17) F (f20_31_i v)
theorem f20_31_eq(F:Nat)(Rf20j17:St→Rz):∀ v,XAf20 F (bp Try.f20 2042) (ef20j16 v) (kBlock 4 (kSeq (kc VG3820 Rf20j17 [(11,.plain)]) Kf28))=f20_31 F (Rf20j17∘ef20j17) v:=
 loop_cut (by kernel_rfl) (by kernel_rfl) ef20j16 ef20l3 _ f20_31_i (fun k=>f20_30 F k (Rf20j17∘ef20j17))
  (by rintro⟨t78,t79,x3,x4,x5,x6,x7⟩;kernel_rfl) (fun Rf20l3=>f20_30_eq F Rf20l3 Rf20j17)
def f20_32(F:Nat)(kf20j17:Li×Nat→Rz):Ty58→Rz:=f20_31 F kf20j17
theorem f20_32_eq(F:Nat)(Rf20j17:St→Rz):∀ v,XAf20 F (bp Try.f20 1021) (ef20j16 v) (kSeq (kc VG3820 Rf20j17 [(11,.plain)]) Kf28)=f20_32 F (Rf20j17∘ef20j17) v:=fun v=>
 (block_in  (by kernel_rfl) _ _).trans (f20_31_eq F Rf20j17 v)
def f20_33(F:Nat)(kf20j17:Li×Nat→Rz):Ty57→Rz:=fun v=>f20_29 F (f20_32 F kf20j17) kf20j17 v
theorem f20_33_eq(F:Nat)(Rf20j17:St→Rz):∀ v,XAf20 F (bp Try.f20 510) (ef20j15 v) (kSeq (kc VG3820 Rf20j17 [(11,.plain)]) Kf28)=f20_33 F (Rf20j17∘ef20j17) v:=
 seq_cut (by kernel_rfl) (by kernel_rfl) ef20j15 ef20j16 _ (fun k=>f20_29 F k (Rf20j17∘ef20j17)) (f20_32 F (Rf20j17∘ef20j17))
  (fun Rf20j16=>f20_29_eq F Rf20j16 Rf20j17) (f20_32_eq F Rf20j17)
def f20_34(F:Nat):Li×Nat→Rz:=fun (x1,x2)=>(some ((.tup (.cons 0 (.own 0 0 1) (.cons 0 (.int .i64 0) .nil))),[(.cells x2 (.rI .i64 x1) true)]))
theorem f20_34_eq(F:Nat):∀ v,XAf20 F (bp Try.f20 511) (ef20j17 v) Kf28=f20_34 F v:=by
 rintro⟨x1,x2⟩;kernel_rfl
def f20_35(F:Nat):Ty57→Rz:=fun v=>f20_33 F (f20_34 F) v
theorem f20_35_eq(F:Nat):∀ v,XAf20 F (bp Try.f20 255) (ef20j15 v) Kf28=f20_35 F v:=
 seq_cut (by kernel_rfl) (by kernel_rfl) ef20j15 ef20j17 _ (fun k=>f20_33 F k) (f20_34 F)
  (fun Rf20j17=>f20_33_eq F Rf20j17) (f20_34_eq F)
def f20_36(F:Nat):Ty50→Rz:=fun v=>f20_28 F (f20_35 F) v
theorem f20_36_eq(F:Nat):∀ v,XAf20 F (bp Try.f20 127) (ef20j6 v) Kf28=f20_36 F v:=
 seq_cut (by kernel_rfl) (by kernel_rfl) ef20j6 ef20j15 _ (fun k=>f20_28 F k) (f20_35 F)
  (fun Rf20j15=>f20_28_eq F Rf20j15) (f20_35_eq F)
def f20_37(F:Nat):Ty49→Rz:=fun v=>f20_6 F (f20_36 F) v
theorem f20_37_eq(F:Nat):∀ v,XAf20 F (bp Try.f20 63) (ef20j5 v) Kf28=f20_37 F v:=
 seq_cut (by kernel_rfl) (by kernel_rfl) ef20j5 ef20j6 _ (fun k=>f20_6 F k) (f20_36 F)
  (fun Rf20j6=>f20_6_eq F Rf20j6) (f20_36_eq F)
def f20_38(F:Nat):Ty49→Rz:=fun v=>f20_5 F (f20_37 F) v
theorem f20_38_eq(F:Nat):∀ v,XAf20 F (bp Try.f20 31) (ef20j4 v) Kf28=f20_38 F v:=
 seq_cut (by kernel_rfl) (by kernel_rfl) ef20j4 ef20j5 _ (fun k=>f20_5 F k) (f20_37 F)
  (fun Rf20j5=>f20_5_eq F Rf20j5) (f20_37_eq F)
def f20_39(F:Nat):Ty48→Rz:=fun v=>f20_4 F (f20_38 F) v
theorem f20_39_eq(F:Nat):∀ v,XAf20 F (bp Try.f20 15) (ef20j3 v) Kf28=f20_39 F v:=
 seq_cut (by kernel_rfl) (by kernel_rfl) ef20j3 ef20j4 _ (fun k=>f20_4 F k) (f20_38 F)
  (fun Rf20j4=>f20_4_eq F Rf20j4) (f20_38_eq F)
def f20_40(F:Nat):Ty47→Rz:=fun v=>f20_3 F (f20_39 F) v
theorem f20_40_eq(F:Nat):∀ v,XAf20 F (bp Try.f20 7) (ef20j2 v) Kf28=f20_40 F v:=
 seq_cut (by kernel_rfl) (by kernel_rfl) ef20j2 ef20j3 _ (fun k=>f20_3 F k) (f20_39 F)
  (fun Rf20j3=>f20_3_eq F Rf20j3) (f20_39_eq F)
def f20_41(F:Nat):Ty47→Rz:=fun v=>f20_2 F (f20_40 F) v
theorem f20_41_eq(F:Nat):∀ v,XAf20 F (bp Try.f20 3) (ef20j1 v) Kf28=f20_41 F v:=
 seq_cut (by kernel_rfl) (by kernel_rfl) ef20j1 ef20j2 _ (fun k=>f20_2 F k) (f20_40 F)
  (fun Rf20j2=>f20_2_eq F Rf20j2) (f20_40_eq F)
def f20_42(F:Nat):Ty46→Rz:=fun v=>f20_1 F (f20_41 F) v
theorem f20_42_eq(F:Nat):∀ v,XAf20 F (sub (bodyOf Try.f20) []) (ef20_a v) Kf28=f20_42 F v:=
 seq_cut (by kernel_rfl) (by kernel_rfl) ef20_a ef20j1 _ (fun k=>f20_1 F k) (f20_41 F)
  (fun Rf20j1=>f20_1_eq F Rf20j1) (f20_41_eq F)
def f20(F:Nat):Ty46→Rz:=f20_42 F
theorem f20_body(F:Nat)(a0:List Int)(a1:List Li)(a2:Int)(a3:List Bool):abody VG3820 (Af20 F) Try.f20 [(.vs (.rI .i64 a0) 0 1),(.vs (.rL .i64 a1) 0 1),.int .i64 a2,(.vs (.rB a3) 0 1)] []=f20 F (a0,a1,a2,a3):=
 (abody_in (c:=(sub (bodyOf Try.f20) [])) (by kernel_rfl) (s:=ef20_a (a0,a1,a2,a3)) (by kernel_rfl)).trans (f20_42_eq F (a0,a1,a2,a3))
def r20:CRun:=fun X H=>match X,H with
 | [(.vs (.rI .i64 a0) 0 1),(.vs (.rL .i64 a1) 0 1),.int .i64 a2,(.vs (.rB a3) 0 1)],[]=>some ((decide (a0.length < 1073741000)),(.tup (.cons 0 (.own 0 0 1) (.cons 0 (.int .i64 (Reg.take a0 a1 a2 a3).2) .nil))),[(.cells (Reg.take a0 a1 a2 a3).1.length (.rI .i64 (Reg.take a0 a1 a2 a3).1) true)])
 | _,_=>none
theorem s20(a0:List Int)(a1:List Li)(a2:Int)(a3:List Bool)(hp:((decide (a0.length < 1073741000)))=true)(h0:okV (.vs (.rI .i64 a0) 0 1))(h1:okV (.vs (.rL .i64 a1) 0 1))(h2:okV (.int .i64 a2))(h3:okV (.vs (.rB a3) 0 1)):∃ F,f20 F (a0,a1,a2,a3)=some ((.tup (.cons 0 (.own 0 0 1) (.cons 0 (.int .i64 (Reg.take a0 a1 a2 a3).2) .nil))),[(.cells (Reg.take a0 a1 a2 a3).1.length (.rI .i64 (Reg.take a0 a1 a2 a3).1) true)]):=by
 simp only [decide_eq_true_eq] at hp
 have hl0:a1.length < 4611686018427387904:=h1.2
 have hlx:=Reg.getD_ok (fun x hx=>(h1.1 x hx).2)
 have hF:=Reg.getD_flat a1
 refine⟨a1.length+a1.flatten.length+a0.length+1,?_⟩
 simp only [f20,f20_42,f20_1,f20_41,f20_2,dec_and]
 rw [cond_pos (by omega),Int.toNat_natCast]
 by_cases hb:Reg.valid a1 a0.length a0 a3=false∨a2 < 0∨(a3.length:Int)≤a2
 ·rw [show Reg.take a0 a1 a2 a3=([],1) by unfold Reg.take;rw [if_pos hb]]
  rcases hb with hb | hb | hb
  ·rw [hb];rfl
  ·rw [cond_pos hb];cases Reg.valid a1 a0.length a0 a3 <;> rfl
  ·rw [cond_pos (show a2≥(a3.length:Int) from hb)];by_cases q:a2 < 0
   ·rw [cond_pos q];cases Reg.valid a1 a0.length a0 a3 <;> rfl
   ·rw [cond_neg q];cases Reg.valid a1 a0.length a0 a3 <;> rfl
 have hv:Reg.valid a1 a0.length a0 a3=true:=by
  cases h:Reg.valid a1 a0.length a0 a3 with
  | true=>rfl
  | false=>exact absurd (.inl h) hb
 obtain⟨hu,hg,ho⟩:=Reg.valid_iff hv
 have h6:=Reg.valid_lt6 hv
 rw [hv,cond_neg (by omega),cond_neg (by omega)]
 simp only [f20_40,f20_3,f20_39,f20_4,f20_38,f20_5,Bool.not_true,cond_false,dec_and]
 rw [cond_pos (by omega),cond_pos (by omega)]
 have htk:Reg.take a0 a1 a2 a3=if a0.any (fun y=>y==a2)=true∧Reg.first (a3.set a2.toNat false) < 0 then ([],6) else
   ((Reg.tkTo a0 a1 a2 (a3.set a2.toNat false) a0 a1.length).map (Reg.swp a2 (Reg.first (a3.set a2.toNat false))),0):=by unfold Reg.take;rw [if_neg hb]
 rw [htk]
 have hlu:(a3.set a2.toNat false).length=a3.length:=List.length_set
 generalize hleft:a3.set a2.toNat false=left at *
 by_cases q:a0.any (fun y=>y==a2)=true∧Reg.first left < 0
 ·rw [if_pos q,q.1,cond_true,cond_pos q.2];rfl
 have hc:∀ {α:Type} (X Y:α),cond (a0.any (fun y=>y==a2)) (cond (decide (Reg.first left < 0)) X Y) Y=Y:=by
  intro α X Y
  cases h:a0.any (fun y=>y==a2) with
  | false=>rfl
  | true=>rw [cond_true,cond_neg (fun h'=>q ⟨h,h'⟩)]
 rw [if_neg q,hc]
 simp only [f20_37,f20_6,f20_36,f20_28,f20_7,f20_27,f20_26,f20_26_i]
 rw [cond_pos (by omega)]
 refine loopN_from (fun i=>(a1,(a1.length:Int),(i:Int),a0,a2,left,a3.length,Reg.tkTo a0 a1 a2 left a0 i,a0.length)) a1.length (by rfl) (fun i hi k=>?_) (fun k=>?_) _ (by omega)
 ·simp only [f20_25,f20_8,f20_24,f20_9,f20_23,f20_21,f20_20,f20_10,f20_19,f20_11,dec_and]
  rw [cond_pos (by omega),cond_pos (by omega),Int.toNat_natCast]
  have hlx':=hlx i
  have hF':=hF i
  have hgi:=hg _ (Reg.getD_mem hi)
  have hs:=Reg.tkTo_succ (o:=a0) (h:=a2) (left:=left) (out:=a0) hi
  rw [hs]
  have hol:=Reg.tkTo_len a0 a1 a2 left a0 i
  generalize Reg.tkTo a0 a1 a2 left a0 i=out at *
  generalize a1.getD i []=x at *
  rw [hgi.1,cond_true]
  unfold Reg.tk
  cases hany:x.any (fun d=>a0.getD (Int.toNat d) 0==a2) with
  | false=>
   simp only [Bool.not_false,cond_true,f20_22]
   rw [i64w (by omega) (by omega),if_neg (by simp)]
   rfl
  | true=>
   simp only [Bool.not_true,cond_false,f20_18,f20_12,f20_17]
   rw [hgi.1,h6,decide_eq_true (show left.length≤6 by omega)]
   simp only [Bool.and_self,cond_true,if_true,f20_13,f20_16,f20_15,f20_15_i]
   generalize Reg.best x a0 left=h
   refine loopN_from (fun j=>(h,a1,(a1.length:Int),(i:Int),x,(x.length:Int),(j:Int),a0,a2,left,a3.length,Reg.put h (x.take j) out,a0.length)) x.length (by rfl) (fun j hj k'=>?_) (fun k'=>?_) _ (by omega)
   ·simp only [f20_14,dec_and]
    have hr:=Reg.inr_getD hgi.1 hj
    have hpl:=Reg.put_len h (x.take j) out
    rw [cond_pos (by omega),cond_pos (by omega),Int.toNat_natCast,cond_pos (by omega),i64w (by omega) (by omega),← Reg.put_succ hj]
    rfl
   ·simp only [f20_14,f20_22]
    rw [cond_neg (by omega),List.take_length,i64w (by omega) (by omega)]
    rfl
 ·simp only [f20_25,f20_8,f20_24,f20_9]
  rw [cond_neg (by omega)]
  simp only [f20_35,f20_33,f20_29,f20_32,f20_31,f20_31_i]
  have hol:=Reg.tkTo_len a0 a1 a2 left a0 a1.length
  generalize Reg.tkTo a0 a1 a2 left a0 a1.length=out at *
  refine loopN_from (fun i=>((out.length:Int),(i:Int),a2,left,a3.length,Reg.mapTo (Reg.swp a2 (Reg.first left)) out i,a0.length)) out.length (by rfl) (fun i hi k'=>?_) (fun k'=>?_) _ (by omega)
  ·simp only [f20_30,dec_and]
   have hml:=Reg.mapTo_len (Reg.swp a2 (Reg.first left)) out i
   rw [cond_pos (by omega),cond_pos (by omega),Int.toNat_natCast,cond_pos (by omega),Reg.mapTo_get _ _ _ _ hi,i64w (by omega) (by omega)]
   by_cases hd:out.getD i 0=a2
   ·rw [show(out.getD i 0==a2)=true by simpa using hd,cond_true,← Reg.mapTo_succ _ _ 0 _ hi]
    unfold Reg.swp;rw [if_pos hd];rfl
   ·rw [show(out.getD i 0==a2)=false by simpa using hd,cond_false,Reg.mapTo_same _ _ 0 _ hi (by unfold Reg.swp;rw [if_neg hd])]
    rfl
  ·simp only [f20_30,f20_34]
   rw [cond_neg (by omega),Reg.mapTo_full,List.length_map,hol]
theorem c20:CallOk Try.prog G38 20 r20:=callOk_of (V:=VG3820) mixed tys eVG3820 (f:=20) (fn:=Try.f20) Try.func20 (by kernel_rfl) (c:=sub (bodyOf Try.f20) []) (by kernel_rfl) (by
 intro X H r H' h hX hH
 unfold r20 at h;split at h <;> try contradiction
 ·simp only [Option.some.injEq,Prod.mk.injEq] at h
  obtain⟨hp,rfl,rfl⟩:=h
  obtain⟨F,hF⟩:=s20 _ _ _ _ hp (hX _ (.head _)) (hX _ (.tail _ (.head _))) (hX _ (.tail _ (.tail _ (.head _)))) (hX _ (.tail _ (.tail _ (.tail _ (.head _)))))
  exact⟨Af20 F,(f20_body F _ _ _ _).trans hF⟩)
end Go.Am
