/- Part of a proof. -/
import Derived.Test.YtgdibbphgdkllaaAm38A
import Derived.Test.YtgdibbphgdkllaaAmClaim
import Derived.Test.YtgdibbphgdkllaaRows
import Derived.WalkKit
import Derived.ProofKit
import Derived.OpenShut
import Derived.LaidMore
import Derived.LaidLaws
import Derived.Deep.DeepHandedRow
import Derived.Test.YtgdibbphgdkllaaAmReg
set_option linter.unusedSimpArgs false
set_option linter.unusedVariables false
section
/- What the claims of this seat share. -/
namespace Go.Proofs.Ytgdibbphgdkllaa
open Go Go.Am
theorem own:ownKnob Try.prog.godebug=none:=by kernel_rfl
theorem laidOut:laidOutB Try.prog=true:=by kernel_rfl
theorem gok0{W:World}:GOk G38 W W0:=fun g r h=>by cases h
end Go.Proofs.Ytgdibbphgdkllaa
end
section
namespace Go.Am
open Go Go.Proofs
abbrev sp13:List (Nat×Md):=[(0,.plain),(1,.plain),(7,.plain),(8,.plain)]
abbrev Ty12:=Li×Int×Int×(List Bool)
abbrev Ty13:=Li×Int×Int×Li×Int
abbrev Ty14:=(List Bool)×Bool×Int×Int
def lVG3856:List CEnt:=[]
def VG3856:Env:=mkEnv T38 G38 lVG3856
noncomputable abbrev Kf9:=kFin VG3856 none (Try.f56).results.toList
theorem eVG3856:EOk Try.prog VG3856:=eok_mk (by exact trivial)
def Af56(F:Nat):Cuts:={ F:=F,at_:=fun _=>none,join:=fun _=>none }
def ef56_a:Int×(List Bool)→St:=fun (a0,a1)=>⟨[(0,.int .i64 a0),(1,.ptr 0 0 1 0 0 0 1)],[(0,(.cells 1 (.one (.vs (.rB a1) 0 1)) true))],1,12,1⟩
def f56_1(F:Nat):Int×(List Bool)→Rz:=fun (a0,a1)=>(cond (decide (a0 < (-1:Int))) (some ((.bool true),[(.cells 1 (.one (.vs (.rB a1) 0 1)) true)])) (some ((.bool (decide (a0≥(↑a1.length:Int)))),[(.cells 1 (.one (.vs (.rB a1) 0 1)) true)])))
theorem f56_1_eq(F:Nat):∀ v,aexec VG3856 (Af56 F) (sub (bodyOf Try.f56) []) (ef56_a v) Kf9=f56_1 F v:=by
 rintro⟨a0,a1⟩;kernel_rfl
def f56(F:Nat):Int×(List Bool)→Rz:=f56_1 F
theorem f56_body(F:Nat)(a0:Int)(a1:List Bool):abody VG3856 (Af56 F) Try.f56 [(.int .i64 a0),.ptr 0 0 1 0 0 0 1] [(.cells 1 (.one (.vs (.rB a1) 0 1)) true)]=f56 F (a0,a1):=
 (abody_in (c:=(sub (bodyOf Try.f56) [])) (by kernel_rfl) (s:=ef56_a (a0,a1)) (by kernel_rfl)).trans (f56_1_eq F (a0,a1))
def r56:CRun:=fun X H=>match X,H with
 | [(.int .i64 a0),.ptr 0 0 1 0 0 0 1],[(.cells 1 (.one (.vs (.rB a1) 0 1)) true)]=>some (true,(.bool (!(Reg.okO a1.length a0))),[(.cells 1 (.one (.vs (.rB a1) 0 1)) true)])
 | _,_=>none
theorem s56(a0:Int)(a1:List Bool)(h0:okV (.int .i64 a0))(k0:okB (.cells 1 (.one (.vs (.rB a1) 0 1)) true)):∃ F,f56 F (a0,a1)=some ((.bool (!(Reg.okO a1.length a0))),[(.cells 1 (.one (.vs (.rB a1) 0 1)) true)]):=by
 refine⟨0,?_⟩
 simp only [f56,f56_1,Reg.okO,dec_and,dec_not]
 by_cases h:a0 < -1
 ·rw [cond_pos h,decide_eq_true (by omega)]
 ·rw [cond_neg h]
  have e:decide (a0≥(a1.length:Int))=decide (¬ (-1≤a0∧a0 < (a1.length:Int))):=by rw [Bool.eq_iff_iff];simp only [decide_eq_true_eq];omega
  rw [e]
theorem c56:CallOk Try.prog G38 56 r56:=callOk_of (V:=VG3856) mixed tys eVG3856 (f:=56) (fn:=Try.f56) Try.func56 (by kernel_rfl) (c:=sub (bodyOf Try.f56) []) (by kernel_rfl) (by
 intro X H r H' h hX hH
 unfold r56 at h;split at h <;> try contradiction
 ·simp only [Option.some.injEq,Prod.mk.injEq] at h
  obtain⟨hp,rfl,rfl⟩:=h
  obtain⟨F,hF⟩:=s56 _ _ (hX _ (.head _)) (hH _ (.head _))
  exact⟨Af56 F,(f56_body F _ _).trans hF⟩)
def lVG3846:List CEnt:=[]
def VG3846:Env:=mkEnv T38 G38 lVG3846
noncomputable abbrev Kf10:=kFin VG3846 none (Try.f46).results.toList
theorem eVG3846:EOk Try.prog VG3846:=eok_mk (by exact trivial)
def Af46(F:Nat):Cuts:={ F:=F,at_:=fun _=>none,join:=fun _=>none }
def ef46_a:Int×Li×Int→St:=fun (a0,a1,a2)=>⟨[(0,.int .i64 a0),(1,.ptr 0 0 1 0 0 0 1),(2,.ptr 1 0 1 0 0 0 1)],[(0,(.cells 1 (.one (.vs (.rI .i64 a1) 0 1)) true)),(1,(.cells 1 (.one (.int .i64 a2)) true))],2,11,2⟩
def f46_1(F:Nat):Int×Li×Int→Rz:=fun (a0,a1,a2)=>(cond ((decide (0≤a0))&&(decide (a0 < (↑a1.length:Int)))) (some ((.bool ((a1.getD (Int.toNat a0) 0)==a2)),[(.cells 1 (.one (.vs (.rI .i64 a1) 0 1)) true),(.cells 1 (.one (.int .i64 a2)) true)])) none)
theorem f46_1_eq(F:Nat):∀ v,aexec VG3846 (Af46 F) (sub (bodyOf Try.f46) []) (ef46_a v) Kf10=f46_1 F v:=by
 rintro⟨a0,a1,a2⟩;kernel_rfl
def f46(F:Nat):Int×Li×Int→Rz:=f46_1 F
theorem f46_body(F:Nat)(a0:Int)(a1:List Int)(a2:Int):abody VG3846 (Af46 F) Try.f46 [(.int .i64 a0),.ptr 0 0 1 0 0 0 1,.ptr 1 0 1 0 0 0 1] [(.cells 1 (.one (.vs (.rI .i64 a1) 0 1)) true),(.cells 1 (.one (.int .i64 a2)) true)]=f46 F (a0,a1,a2):=
 (abody_in (c:=(sub (bodyOf Try.f46) [])) (by kernel_rfl) (s:=ef46_a (a0,a1,a2)) (by kernel_rfl)).trans (f46_1_eq F (a0,a1,a2))
def r46:CRun:=fun X H=>match X,H with
 | [(.int .i64 a0),.ptr 0 0 1 0 0 0 1,.ptr 1 0 1 0 0 0 1],[(.cells 1 (.one (.vs (.rI .i64 a1) 0 1)) true),(.cells 1 (.one (.int .i64 a2)) true)]=>some (((decide (0≤a0))&&(decide (a0 < (a1.length:Int)))),(.bool (a1.getD (Int.toNat a0) 0==a2)),[(.cells 1 (.one (.vs (.rI .i64 a1) 0 1)) true),(.cells 1 (.one (.int .i64 a2)) true)])
 | _,_=>none
theorem s46(a0:Int)(a1:List Int)(a2:Int)(hp:(((decide (0≤a0))&&(decide (a0 < (a1.length:Int)))))=true)(h0:okV (.int .i64 a0))(k0:okB (.cells 1 (.one (.vs (.rI .i64 a1) 0 1)) true))(k1:okB (.cells 1 (.one (.int .i64 a2)) true)):∃ F,f46 F (a0,a1,a2)=some ((.bool (a1.getD (Int.toNat a0) 0==a2)),[(.cells 1 (.one (.vs (.rI .i64 a1) 0 1)) true),(.cells 1 (.one (.int .i64 a2)) true)]):=by
 refine⟨0,?_⟩
 simp only [f46,f46_1,hp,cond_true]
theorem c46:CallOk Try.prog G38 46 r46:=callOk_of (V:=VG3846) mixed tys eVG3846 (f:=46) (fn:=Try.f46) Try.func46 (by kernel_rfl) (c:=sub (bodyOf Try.f46) []) (by kernel_rfl) (by
 intro X H r H' h hX hH
 unfold r46 at h;split at h <;> try contradiction
 ·simp only [Option.some.injEq,Prod.mk.injEq] at h
  obtain⟨hp,rfl,rfl⟩:=h
  obtain⟨F,hF⟩:=s46 _ _ _ hp (hX _ (.head _)) (hH _ (.head _)) (hH _ (.tail _ (.head _)))
  exact⟨Af46 F,(f46_body F _ _ _).trans hF⟩)
def lVG3859:List CEnt:=[(46,[none,none,none],r46),(56,[none,none],r56)]
def VG3859:Env:=mkEnv T38 G38 lVG3859
noncomputable abbrev Kf11:=kFin VG3859 none (Try.f59).results.toList
theorem eVG3859:EOk Try.prog VG3859:=eok_mk (by exact⟨c46,c56,trivial⟩)
def Af59(F:Nat):Cuts:={ F:=F,at_:=fun n=>match n with | 2018=>some sp13 | _=>none,join:=fun n=>match n with | 1026=>some sp7 | 2020=>some sp13 | 7003=>some [] | _=>none }
noncomputable abbrev XAf59(F:Nat){α:Type}:=@aexec α VG3859 (Af59 F)
def ef59_a:Li×(List Bool)→St:=fun (a0,a1)=>⟨[(0,(.vs (.rI .i64 a0) 0 1)),(1,(.fn 56 (.cons 0 (.ptr 0 0 1 0 0 0 1) .nil)))],[(0,(.cells 1 (.one (.vs (.rB a1) 0 1)) true))],1,19,1⟩
def ef59j1:Li×(List Bool)→St:=fun (t0,x2)=>⟨[(0,(.vs (.rI .i64 t0) 0 1)),(1,(.fn 56 (.cons 0 (.ptr 0 0 1 0 0 0 1) .nil)))],[(0,(.cells 1 (.one (.vs (.rB x2) 0 1)) true))],1,19,1⟩
def ef59j2:Ty12→St:=fun (t0,t7,t8,x4)=>⟨[(0,(.vs (.rI .i64 t0) 0 1)),(1,(.fn 56 (.cons 0 (.ptr 0 0 1 0 0 0 1) .nil))),(7,.int .i64 t7),(8,.int .i64 t8)],[(0,(.cells 1 (.one (.vs (.rB x4) 0 1)) true))],1,19,1⟩
def ef59l1:Ty12→St:=ef59j2
def ef59j3:(List Bool)→St:=fun x1=>⟨[],[(0,(.cells 1 (.one (.vs (.rB x1) 0 1)) true))],1,19,1⟩
def f59_1(F:Nat)(kf59j1:Li×(List Bool)→Rz):Li×(List Bool)→Rz:=fun (a0,a1)=>(kf59j1 (a0,a1))
theorem f59_1_eq(F:Nat)(Rf59j1:St→Rz):∀ v,XAf59 F (bp Try.f59 2) (ef59_a v) (kSeq (kc VG3859 Rf59j1 sp7) Kf11)=f59_1 F (Rf59j1∘ef59j1) v:=by
 rintro⟨a0,a1⟩;kernel_rfl
def f59_2(F:Nat)(kf59j2:Ty12→Rz)(kf59j3:(List Bool)→Rz):Li×(List Bool)→Rz:=fun (t0,x2)=>(kf59j2 (t0,(↑t0.length:Int),(0:Int),x2))
theorem f59_2_eq(F:Nat)(Rf59j2:St→Rz)(Rf59j3:St→Rz):∀ v,XAf59 F (bp Try.f59 12) (ef59j1 v) (kSeq (kc VG3859 Rf59j2 sp13) (kSeq (kc VG3859 Rf59j3 []) Kf11))=f59_2 F (Rf59j2∘ef59j2) (Rf59j3∘ef59j3) v:=by
 rintro⟨t0,x2⟩;kernel_rfl
def f59_3(F:Nat)(kf59l1:Ty12→Rz)(kf59j3:(List Bool)→Rz):Ty12→Rz:=fun (t0,t7,t8,x4)=>(cond (decide (t8 < t7)) (cond ((decide (0≤t8))&&(decide (t8 < (↑t0.length:Int)))) (cond (!(Reg.okO x4.length (t0.getD (Int.toNat t8) 0))) (some ((.int .i64 t8),[(.cells 1 (.one (.vs (.rB x4) 0 1)) true)])) (kf59l1 (t0,t7,(IntKind.i64.wrap (t8+(1:Int))),x4))) none) (kf59j3 x4))
theorem f59_3_eq(F:Nat)(Rf59l1:St→Rz)(Rf59j3:St→Rz):∀ v,XAf59 F (bp Try.f59 52) (ef59l1 v) (kSeq (kc VG3859 Rf59l1 sp13) (kBlock 0 (kSeq (kc VG3859 Rf59j3 []) Kf11)))=f59_3 F (Rf59l1∘ef59l1) (Rf59j3∘ef59j3) v:=by
 rintro⟨t0,t7,t8,x4⟩;kernel_rfl
def f59_4_i:Ty12→Li×Int×Int×(List Bool):=fun (t0,t7,t8,x4)=>(t0,t7,t8,x4)
def f59_4(F:Nat)(kf59j3:(List Bool)→Rz):Ty12→Rz:=fun v=>loopN (fun k=>f59_3 F k kf59j3) F (f59_4_i v)
theorem f59_4_eq(F:Nat)(Rf59j3:St→Rz):∀ v,XAf59 F (bp Try.f59 26) (ef59j2 v) (kBlock 0 (kSeq (kc VG3859 Rf59j3 []) Kf11))=f59_4 F (Rf59j3∘ef59j3) v:=
 loop_cut (by kernel_rfl) (by kernel_rfl) ef59j2 ef59l1 _ f59_4_i (fun k=>f59_3 F k (Rf59j3∘ef59j3))
  (by rintro⟨t0,t7,t8,x4⟩;kernel_rfl) (fun Rf59l1=>f59_3_eq F Rf59l1 Rf59j3)
def f59_5(F:Nat)(kf59j3:(List Bool)→Rz):Ty12→Rz:=f59_4 F kf59j3
theorem f59_5_eq(F:Nat)(Rf59j3:St→Rz):∀ v,XAf59 F (bp Try.f59 13) (ef59j2 v) (kSeq (kc VG3859 Rf59j3 []) Kf11)=f59_5 F (Rf59j3∘ef59j3) v:=fun v=>
 (block_in  (by kernel_rfl) _ _).trans (f59_4_eq F Rf59j3 v)
def f59_6(F:Nat)(kf59j3:(List Bool)→Rz):Li×(List Bool)→Rz:=fun v=>f59_2 F (f59_5 F kf59j3) kf59j3 v
theorem f59_6_eq(F:Nat)(Rf59j3:St→Rz):∀ v,XAf59 F (bp Try.f59 6) (ef59j1 v) (kSeq (kc VG3859 Rf59j3 []) Kf11)=f59_6 F (Rf59j3∘ef59j3) v:=
 seq_cut (by kernel_rfl) (by kernel_rfl) ef59j1 ef59j2 _ (fun k=>f59_2 F k (Rf59j3∘ef59j3)) (f59_5 F (Rf59j3∘ef59j3))
  (fun Rf59j2=>f59_2_eq F Rf59j2 Rf59j3) (f59_5_eq F Rf59j3)
def f59_7(F:Nat):(List Bool)→Rz:=fun x1=>(some ((.int .i64 (-1:Int)),[(.cells 1 (.one (.vs (.rB x1) 0 1)) true)]))
theorem f59_7_eq(F:Nat):∀ v,XAf59 F (bp Try.f59 7) (ef59j3 v) Kf11=f59_7 F v:=by
 intro x1;kernel_rfl
def f59_8(F:Nat):Li×(List Bool)→Rz:=fun v=>f59_6 F (f59_7 F) v
theorem f59_8_eq(F:Nat):∀ v,XAf59 F (bp Try.f59 3) (ef59j1 v) Kf11=f59_8 F v:=
 seq_cut (by kernel_rfl) (by kernel_rfl) ef59j1 ef59j3 _ (fun k=>f59_6 F k) (f59_7 F)
  (fun Rf59j3=>f59_6_eq F Rf59j3) (f59_7_eq F)
def f59_9(F:Nat):Li×(List Bool)→Rz:=fun v=>f59_1 F (f59_8 F) v
theorem f59_9_eq(F:Nat):∀ v,XAf59 F (sub (bodyOf Try.f59) []) (ef59_a v) Kf11=f59_9 F v:=
 seq_cut (by kernel_rfl) (by kernel_rfl) ef59_a ef59j1 _ (fun k=>f59_1 F k) (f59_8 F)
  (fun Rf59j1=>f59_1_eq F Rf59j1) (f59_8_eq F)
def f59(F:Nat):Li×(List Bool)→Rz:=f59_9 F
theorem f59_body(F:Nat)(a0:List Int)(a1:List Bool):abody VG3859 (Af59 F) Try.f59 [(.vs (.rI .i64 a0) 0 1),(.fn 56 (.cons 0 (.ptr 0 0 1 0 0 0 1) .nil))] [(.cells 1 (.one (.vs (.rB a1) 0 1)) true)]=f59 F (a0,a1):=
 (abody_in (c:=(sub (bodyOf Try.f59) [])) (by kernel_rfl) (s:=ef59_a (a0,a1)) (by kernel_rfl)).trans (f59_9_eq F (a0,a1))
def Af59b(F:Nat):Cuts:={ F:=F,at_:=fun n=>match n with | 2018=>some sp13 | _=>none,join:=fun n=>match n with | 1026=>some sp7 | 2020=>some sp13 | 7003=>some [] | _=>none }
noncomputable abbrev XAf59b(F:Nat){α:Type}:=@aexec α VG3859 (Af59b F)
def ef59b_a:Ty11→St:=fun (a0,a1,a2)=>⟨[(0,(.vs (.rI .i64 a0) 0 1)),(1,(.fn 46 (.cons 0 (.ptr 0 0 1 0 0 0 1) (.cons 0 (.ptr 1 0 1 0 0 0 1) .nil))))],[(0,(.cells 1 (.one (.vs (.rI .i64 a1) 0 1)) true)),(1,(.cells 1 (.one (.int .i64 a2)) true))],2,19,2⟩
def ef59bj1:Ty11→St:=fun (t0,x2,x3)=>⟨[(0,(.vs (.rI .i64 t0) 0 1)),(1,(.fn 46 (.cons 0 (.ptr 0 0 1 0 0 0 1) (.cons 0 (.ptr 1 0 1 0 0 0 1) .nil))))],[(0,(.cells 1 (.one (.vs (.rI .i64 x2) 0 1)) true)),(1,(.cells 1 (.one (.int .i64 x3)) true))],2,19,2⟩
def ef59bj2:Ty13→St:=fun (t0,t7,t8,x4,x5)=>⟨[(0,(.vs (.rI .i64 t0) 0 1)),(1,(.fn 46 (.cons 0 (.ptr 0 0 1 0 0 0 1) (.cons 0 (.ptr 1 0 1 0 0 0 1) .nil)))),(7,.int .i64 t7),(8,.int .i64 t8)],[(0,(.cells 1 (.one (.vs (.rI .i64 x4) 0 1)) true)),(1,(.cells 1 (.one (.int .i64 x5)) true))],2,19,2⟩
def ef59bl1:Ty13→St:=ef59bj2
def ef59bj3:Li×Int→St:=fun (x1,x2)=>⟨[],[(0,(.cells 1 (.one (.vs (.rI .i64 x1) 0 1)) true)),(1,(.cells 1 (.one (.int .i64 x2)) true))],2,19,2⟩
def f59b_1(F:Nat)(kf59bj1:Ty11→Rz):Ty11→Rz:=fun (a0,a1,a2)=>(kf59bj1 (a0,a1,a2))
theorem f59b_1_eq(F:Nat)(Rf59bj1:St→Rz):∀ v,XAf59b F (bp Try.f59 2) (ef59b_a v) (kSeq (kc VG3859 Rf59bj1 sp7) Kf11)=f59b_1 F (Rf59bj1∘ef59bj1) v:=by
 rintro⟨a0,a1,a2⟩;kernel_rfl
def f59b_2(F:Nat)(kf59bj2:Ty13→Rz)(kf59bj3:Li×Int→Rz):Ty11→Rz:=fun (t0,x2,x3)=>(kf59bj2 (t0,(↑t0.length:Int),(0:Int),x2,x3))
theorem f59b_2_eq(F:Nat)(Rf59bj2:St→Rz)(Rf59bj3:St→Rz):∀ v,XAf59b F (bp Try.f59 12) (ef59bj1 v) (kSeq (kc VG3859 Rf59bj2 sp13) (kSeq (kc VG3859 Rf59bj3 []) Kf11))=f59b_2 F (Rf59bj2∘ef59bj2) (Rf59bj3∘ef59bj3) v:=by
 rintro⟨t0,x2,x3⟩;kernel_rfl
def f59b_3(F:Nat)(kf59bl1:Ty13→Rz)(kf59bj3:Li×Int→Rz):Ty13→Rz:=fun (t0,t7,t8,x4,x5)=>(cond (decide (t8 < t7)) (cond ((decide (0≤t8))&&(decide (t8 < (↑t0.length:Int)))) (cond ((decide (0≤(t0.getD (Int.toNat t8) 0)))&&(decide ((t0.getD (Int.toNat t8) 0) < (x4.length:Int)))) (cond (x4.getD (Int.toNat (t0.getD (Int.toNat t8) 0)) 0==x5) (some ((.int .i64 t8),[(.cells 1 (.one (.vs (.rI .i64 x4) 0 1)) true),(.cells 1 (.one (.int .i64 x5)) true)])) (kf59bl1 (t0,t7,(IntKind.i64.wrap (t8+(1:Int))),x4,x5))) none) none) (kf59bj3 (x4,x5)))
theorem f59b_3_eq(F:Nat)(Rf59bl1:St→Rz)(Rf59bj3:St→Rz):∀ v,XAf59b F (bp Try.f59 52) (ef59bl1 v) (kSeq (kc VG3859 Rf59bl1 sp13) (kBlock 0 (kSeq (kc VG3859 Rf59bj3 []) Kf11)))=f59b_3 F (Rf59bl1∘ef59bl1) (Rf59bj3∘ef59bj3) v:=by
 rintro⟨t0,t7,t8,x4,x5⟩;kernel_rfl
def f59b_4_i:Ty13→Li×Int×Int×Li×Int:=fun (t0,t7,t8,x4,x5)=>(t0,t7,t8,x4,x5)
def f59b_4(F:Nat)(kf59bj3:Li×Int→Rz):Ty13→Rz:=fun v=>loopN (fun k=>f59b_3 F k kf59bj3) F (f59b_4_i v)
theorem f59b_4_eq(F:Nat)(Rf59bj3:St→Rz):∀ v,XAf59b F (bp Try.f59 26) (ef59bj2 v) (kBlock 0 (kSeq (kc VG3859 Rf59bj3 []) Kf11))=f59b_4 F (Rf59bj3∘ef59bj3) v:=
 loop_cut (by kernel_rfl) (by kernel_rfl) ef59bj2 ef59bl1 _ f59b_4_i (fun k=>f59b_3 F k (Rf59bj3∘ef59bj3))
  (by rintro⟨t0,t7,t8,x4,x5⟩;kernel_rfl) (fun Rf59bl1=>f59b_3_eq F Rf59bl1 Rf59bj3)
def f59b_5(F:Nat)(kf59bj3:Li×Int→Rz):Ty13→Rz:=f59b_4 F kf59bj3
theorem f59b_5_eq(F:Nat)(Rf59bj3:St→Rz):∀ v,XAf59b F (bp Try.f59 13) (ef59bj2 v) (kSeq (kc VG3859 Rf59bj3 []) Kf11)=f59b_5 F (Rf59bj3∘ef59bj3) v:=fun v=>
 (block_in  (by kernel_rfl) _ _).trans (f59b_4_eq F Rf59bj3 v)
def f59b_6(F:Nat)(kf59bj3:Li×Int→Rz):Ty11→Rz:=fun v=>f59b_2 F (f59b_5 F kf59bj3) kf59bj3 v
theorem f59b_6_eq(F:Nat)(Rf59bj3:St→Rz):∀ v,XAf59b F (bp Try.f59 6) (ef59bj1 v) (kSeq (kc VG3859 Rf59bj3 []) Kf11)=f59b_6 F (Rf59bj3∘ef59bj3) v:=
 seq_cut (by kernel_rfl) (by kernel_rfl) ef59bj1 ef59bj2 _ (fun k=>f59b_2 F k (Rf59bj3∘ef59bj3)) (f59b_5 F (Rf59bj3∘ef59bj3))
  (fun Rf59bj2=>f59b_2_eq F Rf59bj2 Rf59bj3) (f59b_5_eq F Rf59bj3)
def f59b_7(F:Nat):Li×Int→Rz:=fun (x1,x2)=>(some ((.int .i64 (-1:Int)),[(.cells 1 (.one (.vs (.rI .i64 x1) 0 1)) true),(.cells 1 (.one (.int .i64 x2)) true)]))
theorem f59b_7_eq(F:Nat):∀ v,XAf59b F (bp Try.f59 7) (ef59bj3 v) Kf11=f59b_7 F v:=by
 rintro⟨x1,x2⟩;kernel_rfl
def f59b_8(F:Nat):Ty11→Rz:=fun v=>f59b_6 F (f59b_7 F) v
theorem f59b_8_eq(F:Nat):∀ v,XAf59b F (bp Try.f59 3) (ef59bj1 v) Kf11=f59b_8 F v:=
 seq_cut (by kernel_rfl) (by kernel_rfl) ef59bj1 ef59bj3 _ (fun k=>f59b_6 F k) (f59b_7 F)
  (fun Rf59bj3=>f59b_6_eq F Rf59bj3) (f59b_7_eq F)
def f59b_9(F:Nat):Ty11→Rz:=fun v=>f59b_1 F (f59b_8 F) v
theorem f59b_9_eq(F:Nat):∀ v,XAf59b F (sub (bodyOf Try.f59) []) (ef59b_a v) Kf11=f59b_9 F v:=
 seq_cut (by kernel_rfl) (by kernel_rfl) ef59b_a ef59bj1 _ (fun k=>f59b_1 F k) (f59b_8 F)
  (fun Rf59bj1=>f59b_1_eq F Rf59bj1) (f59b_8_eq F)
def f59b(F:Nat):Ty11→Rz:=f59b_9 F
theorem f59b_body(F:Nat)(a0:List Int)(a1:List Int)(a2:Int):abody VG3859 (Af59b F) Try.f59 [(.vs (.rI .i64 a0) 0 1),(.fn 46 (.cons 0 (.ptr 0 0 1 0 0 0 1) (.cons 0 (.ptr 1 0 1 0 0 0 1) .nil)))] [(.cells 1 (.one (.vs (.rI .i64 a1) 0 1)) true),(.cells 1 (.one (.int .i64 a2)) true)]=f59b F (a0,a1,a2):=
 (abody_in (c:=(sub (bodyOf Try.f59) [])) (by kernel_rfl) (s:=ef59b_a (a0,a1,a2)) (by kernel_rfl)).trans (f59b_9_eq F (a0,a1,a2))
def r59:CRun:=fun X H=>match X,H with
 | [(.vs (.rI .i64 a0) 0 1),(.fn 56 (.cons 0 (.ptr 0 0 1 0 0 0 1) .nil))],[(.cells 1 (.one (.vs (.rB a1) 0 1)) true)]=>some (true,(.int .i64 (Reg.idx (fun o=>!(Reg.okO a1.length o)) a0)),[(.cells 1 (.one (.vs (.rB a1) 0 1)) true)])
 | [(.vs (.rI .i64 a0) 0 1),(.fn 46 (.cons 0 (.ptr 0 0 1 0 0 0 1) (.cons 0 (.ptr 1 0 1 0 0 0 1) .nil)))],[(.cells 1 (.one (.vs (.rI .i64 a1) 0 1)) true),(.cells 1 (.one (.int .i64 a2)) true)]=>some ((Reg.inr a1.length a0),(.int .i64 (Reg.idx (fun d=>a1.getD (Int.toNat d) 0==a2) a0)),[(.cells 1 (.one (.vs (.rI .i64 a1) 0 1)) true),(.cells 1 (.one (.int .i64 a2)) true)])
 | _,_=>none
theorem s59(a0:List Int)(a1:List Bool)(h0:okV (.vs (.rI .i64 a0) 0 1))(k0:okB (.cells 1 (.one (.vs (.rB a1) 0 1)) true)):∃ F,f59 F (a0,a1)=some ((.int .i64 (Reg.idx (fun o=>!(Reg.okO a1.length o)) a0)),[(.cells 1 (.one (.vs (.rB a1) 0 1)) true)]):=by
 have hlen:=h0.2
 refine⟨a0.length+1,?_⟩
 simp only [f59,f59_9,f59_1,f59_8,f59_6,f59_2,f59_5,f59_4,f59_4_i]
 have hb:a0.length < 4611686018427387904:=hlen
 refine(loopN_scan (fun i=>(a0,(a0.length:Int),(i:Int),a1)) a0.length (fun i=>if (!(Reg.okO a1.length (a0.getD i 0)))=true then some (some (AV.int .i64 (i:Int),[(Blk.cells 1 (.one (.vs (.rB a1) 0 1)) true)])) else none) (some (AV.int .i64 (-1),[(Blk.cells 1 (.one (.vs (.rB a1) 0 1)) true)])) (by rfl) (fun i hi k=>?_) (fun k=>?_) _ (by omega)).trans ?_
 ·simp only [f59_3,dec_and]
  rw [cond_pos (by omega),cond_pos (by omega),Int.toNat_natCast,i64w (by omega) (by omega)]
  cases (!(Reg.okO a1.length (a0.getD i 0))) <;> rfl
 ·simp only [f59_3]
  rw [cond_neg (by omega)]
  rfl
 ·rw [scan_idx (fun x=>(!(Reg.okO a1.length x))) a0 0 (fun i=>some (AV.int .i64 (i:Int),[(Blk.cells 1 (.one (.vs (.rB a1) 0 1)) true)]))]
  unfold Reg.idx
  cases a0.findIdx? _ <;> rfl
theorem s59b(a0:List Int)(a1:List Int)(a2:Int)(hp:((Reg.inr a1.length a0))=true)(h0:okV (.vs (.rI .i64 a0) 0 1))(k0:okB (.cells 1 (.one (.vs (.rI .i64 a1) 0 1)) true))(k1:okB (.cells 1 (.one (.int .i64 a2)) true)):∃ F,f59b F (a0,a1,a2)=some ((.int .i64 (Reg.idx (fun d=>a1.getD (Int.toNat d) 0==a2) a0)),[(.cells 1 (.one (.vs (.rI .i64 a1) 0 1)) true),(.cells 1 (.one (.int .i64 a2)) true)]):=by
 have hlen:=h0.2
 refine⟨a0.length+1,?_⟩
 simp only [f59b,f59b_9,f59b_1,f59b_8,f59b_6,f59b_2,f59b_5,f59b_4,f59b_4_i]
 have hb:a0.length < 4611686018427387904:=hlen
 refine(loopN_scan (fun i=>(a0,(a0.length:Int),(i:Int),a1,a2)) a0.length (fun i=>if (a1.getD (Int.toNat (a0.getD i 0)) 0==a2)=true then some (some (AV.int .i64 (i:Int),[(Blk.cells 1 (.one (.vs (.rI .i64 a1) 0 1)) true),(Blk.cells 1 (.one (.int .i64 a2)) true)])) else none) (some (AV.int .i64 (-1),[(Blk.cells 1 (.one (.vs (.rI .i64 a1) 0 1)) true),(Blk.cells 1 (.one (.int .i64 a2)) true)])) (by rfl) (fun i hi k=>?_) (fun k=>?_) _ (by omega)).trans ?_
 ·simp only [f59b_3,dec_and]
  have hr:=Reg.inr_getD hp hi
  rw [cond_pos (by omega),cond_pos (by omega),Int.toNat_natCast,cond_pos (by omega),i64w (by omega) (by omega)]
  cases (a1.getD (Int.toNat (a0.getD i 0)) 0==a2) <;> rfl
 ·simp only [f59b_3]
  rw [cond_neg (by omega)]
  rfl
 ·rw [scan_idx (fun x=>(a1.getD (Int.toNat x) 0==a2)) a0 0 (fun i=>some (AV.int .i64 (i:Int),[(Blk.cells 1 (.one (.vs (.rI .i64 a1) 0 1)) true),(Blk.cells 1 (.one (.int .i64 a2)) true)]))]
  unfold Reg.idx
  cases a0.findIdx? _ <;> rfl
theorem c59:CallOk Try.prog G38 59 r59:=callOk_of (V:=VG3859) mixed tys eVG3859 (f:=59) (fn:=Try.f59) Try.func59 (by kernel_rfl) (c:=sub (bodyOf Try.f59) []) (by kernel_rfl) (by
 intro X H r H' h hX hH
 unfold r59 at h;split at h <;> try contradiction
 ·simp only [Option.some.injEq,Prod.mk.injEq] at h
  obtain⟨hp,rfl,rfl⟩:=h
  obtain⟨F,hF⟩:=s59 _ _ (hX _ (.head _)) (hH _ (.head _))
  exact⟨Af59 F,(f59_body F _ _).trans hF⟩
 ·simp only [Option.some.injEq,Prod.mk.injEq] at h
  obtain⟨hp,rfl,rfl⟩:=h
  obtain⟨F,hF⟩:=s59b _ _ _ hp (hX _ (.head _)) (hH _ (.head _)) (hH _ (.tail _ (.head _)))
  exact⟨Af59b F,(f59b_body F _ _ _).trans hF⟩)
def lVG3845:List CEnt:=[(59,[some 3,none],r59)]
def VG3845:Env:=mkEnv T38 G38 lVG3845
noncomputable abbrev Kf12:=kFin VG3845 none (Try.f45).results.toList
theorem eVG3845:EOk Try.prog VG3845:=eok_mk (by exact⟨c59,trivial⟩)
def Af45(F:Nat):Cuts:={ F:=F,at_:=fun _=>none,join:=fun _=>none }
def ef45_a:Li×(List Bool)→St:=fun (a0,a1)=>⟨[(0,(.vs (.rI .i64 a0) 0 1)),(1,(.fn 56 (.cons 0 (.ptr 0 0 1 0 0 0 1) .nil)))],[(0,(.cells 1 (.one (.vs (.rB a1) 0 1)) true))],1,9,1⟩
def f45_1(F:Nat):Li×(List Bool)→Rz:=fun (a0,a1)=>(some ((.bool (decide ((Reg.idx (fun o=>!(Reg.okO a1.length o)) a0)≥(0:Int)))),[(.cells 1 (.one (.vs (.rB a1) 0 1)) true)]))
theorem f45_1_eq(F:Nat):∀ v,aexec VG3845 (Af45 F) (sub (bodyOf Try.f45) []) (ef45_a v) Kf12=f45_1 F v:=by
 rintro⟨a0,a1⟩;kernel_rfl
def f45(F:Nat):Li×(List Bool)→Rz:=f45_1 F
theorem f45_body(F:Nat)(a0:List Int)(a1:List Bool):abody VG3845 (Af45 F) Try.f45 [(.vs (.rI .i64 a0) 0 1),(.fn 56 (.cons 0 (.ptr 0 0 1 0 0 0 1) .nil))] [(.cells 1 (.one (.vs (.rB a1) 0 1)) true)]=f45 F (a0,a1):=
 (abody_in (c:=(sub (bodyOf Try.f45) [])) (by kernel_rfl) (s:=ef45_a (a0,a1)) (by kernel_rfl)).trans (f45_1_eq F (a0,a1))
def Af45b(F:Nat):Cuts:={ F:=F,at_:=fun _=>none,join:=fun _=>none }
def ef45b_a:Ty11→St:=fun (a0,a1,a2)=>⟨[(0,(.vs (.rI .i64 a0) 0 1)),(1,(.fn 46 (.cons 0 (.ptr 0 0 1 0 0 0 1) (.cons 0 (.ptr 1 0 1 0 0 0 1) .nil))))],[(0,(.cells 1 (.one (.vs (.rI .i64 a1) 0 1)) true)),(1,(.cells 1 (.one (.int .i64 a2)) true))],2,9,2⟩
def f45b_1(F:Nat):Ty11→Rz:=fun (a0,a1,a2)=>(cond (Reg.inr a1.length a0) (some ((.bool (decide ((Reg.idx (fun d=>a1.getD (Int.toNat d) 0==a2) a0)≥(0:Int)))),[(.cells 1 (.one (.vs (.rI .i64 a1) 0 1)) true),(.cells 1 (.one (.int .i64 a2)) true)])) none)
theorem f45b_1_eq(F:Nat):∀ v,aexec VG3845 (Af45b F) (sub (bodyOf Try.f45) []) (ef45b_a v) Kf12=f45b_1 F v:=by
 rintro⟨a0,a1,a2⟩;kernel_rfl
def f45b(F:Nat):Ty11→Rz:=f45b_1 F
theorem f45b_body(F:Nat)(a0:List Int)(a1:List Int)(a2:Int):abody VG3845 (Af45b F) Try.f45 [(.vs (.rI .i64 a0) 0 1),(.fn 46 (.cons 0 (.ptr 0 0 1 0 0 0 1) (.cons 0 (.ptr 1 0 1 0 0 0 1) .nil)))] [(.cells 1 (.one (.vs (.rI .i64 a1) 0 1)) true),(.cells 1 (.one (.int .i64 a2)) true)]=f45b F (a0,a1,a2):=
 (abody_in (c:=(sub (bodyOf Try.f45) [])) (by kernel_rfl) (s:=ef45b_a (a0,a1,a2)) (by kernel_rfl)).trans (f45b_1_eq F (a0,a1,a2))
def r45:CRun:=fun X H=>match X,H with
 | [(.vs (.rI .i64 a0) 0 1),(.fn 56 (.cons 0 (.ptr 0 0 1 0 0 0 1) .nil))],[(.cells 1 (.one (.vs (.rB a1) 0 1)) true)]=>some (true,(.bool (!(a0.all (Reg.okO a1.length)))),[(.cells 1 (.one (.vs (.rB a1) 0 1)) true)])
 | [(.vs (.rI .i64 a0) 0 1),(.fn 46 (.cons 0 (.ptr 0 0 1 0 0 0 1) (.cons 0 (.ptr 1 0 1 0 0 0 1) .nil)))],[(.cells 1 (.one (.vs (.rI .i64 a1) 0 1)) true),(.cells 1 (.one (.int .i64 a2)) true)]=>some ((Reg.inr a1.length a0),(.bool (a0.any (fun d=>a1.getD (Int.toNat d) 0==a2))),[(.cells 1 (.one (.vs (.rI .i64 a1) 0 1)) true),(.cells 1 (.one (.int .i64 a2)) true)])
 | _,_=>none
theorem s45(a0:List Int)(a1:List Bool)(h0:okV (.vs (.rI .i64 a0) 0 1))(k0:okB (.cells 1 (.one (.vs (.rB a1) 0 1)) true)):∃ F,f45 F (a0,a1)=some ((.bool (!(a0.all (Reg.okO a1.length)))),[(.cells 1 (.one (.vs (.rB a1) 0 1)) true)]):=by
 refine⟨0,?_⟩
 simp only [f45,f45_1,Reg.idx_neg]
 rw [List.not_all_eq_any_not]
theorem s45b(a0:List Int)(a1:List Int)(a2:Int)(hp:((Reg.inr a1.length a0))=true)(h0:okV (.vs (.rI .i64 a0) 0 1))(k0:okB (.cells 1 (.one (.vs (.rI .i64 a1) 0 1)) true))(k1:okB (.cells 1 (.one (.int .i64 a2)) true)):∃ F,f45b F (a0,a1,a2)=some ((.bool (a0.any (fun d=>a1.getD (Int.toNat d) 0==a2))),[(.cells 1 (.one (.vs (.rI .i64 a1) 0 1)) true),(.cells 1 (.one (.int .i64 a2)) true)]):=by
 refine⟨0,?_⟩
 simp only [f45b,f45b_1,hp,cond_true,Reg.idx_neg]
theorem c45:CallOk Try.prog G38 45 r45:=callOk_of (V:=VG3845) mixed tys eVG3845 (f:=45) (fn:=Try.f45) Try.func45 (by kernel_rfl) (c:=sub (bodyOf Try.f45) []) (by kernel_rfl) (by
 intro X H r H' h hX hH
 unfold r45 at h;split at h <;> try contradiction
 ·simp only [Option.some.injEq,Prod.mk.injEq] at h
  obtain⟨hp,rfl,rfl⟩:=h
  obtain⟨F,hF⟩:=s45 _ _ (hX _ (.head _)) (hH _ (.head _))
  exact⟨Af45 F,(f45_body F _ _).trans hF⟩
 ·simp only [Option.some.injEq,Prod.mk.injEq] at h
  obtain⟨hp,rfl,rfl⟩:=h
  obtain⟨F,hF⟩:=s45b _ _ _ hp (hX _ (.head _)) (hH _ (.head _)) (hH _ (.tail _ (.head _)))
  exact⟨Af45b F,(f45b_body F _ _ _).trans hF⟩)
def lVG3857:List CEnt:=[]
def VG3857:Env:=mkEnv T38 G38 lVG3857
noncomputable abbrev Kf13:=kFin VG3857 none (Try.f57).results.toList
theorem eVG3857:EOk Try.prog VG3857:=eok_mk (by exact trivial)
def Af57(F:Nat):Cuts:={ F:=F,at_:=fun n=>match n with | 2018=>some sp13 | _=>none,join:=fun n=>match n with | 1026=>some sp7 | 2020=>some sp13 | 7003=>some [] | _=>none }
noncomputable abbrev XAf57(F:Nat){α:Type}:=@aexec α VG3857 (Af57 F)
def ef57_a:(List Bool)×Bool→St:=fun (a0,a1)=>⟨[(0,(.vs (.rB a0) 0 1)),(1,.bool a1)],[],0,19,0⟩
def ef57j1:(List Bool)×Bool→St:=fun (t0,t1)=>⟨[(0,(.vs (.rB t0) 0 1)),(1,.bool t1)],[],0,19,0⟩
def ef57j2:Ty14→St:=fun (t0,t1,t7,t8)=>⟨[(0,(.vs (.rB t0) 0 1)),(1,.bool t1),(7,.int .i64 t7),(8,.int .i64 t8)],[],0,19,0⟩
def ef57l1:Ty14→St:=ef57j2
def ef57j3:Unit→St:=fun _=>⟨[],[],0,19,0⟩
def f57_1(F:Nat)(kf57j1:(List Bool)×Bool→Rz):(List Bool)×Bool→Rz:=fun (a0,a1)=>(kf57j1 (a0,a1))
theorem f57_1_eq(F:Nat)(Rf57j1:St→Rz):∀ v,XAf57 F (bp Try.f57 2) (ef57_a v) (kSeq (kc VG3857 Rf57j1 sp7) Kf13)=f57_1 F (Rf57j1∘ef57j1) v:=by
 rintro⟨a0,a1⟩;kernel_rfl
def f57_2(F:Nat)(kf57j2:Ty14→Rz)(kf57j3:Unit→Rz):(List Bool)×Bool→Rz:=fun (t0,t1)=>(kf57j2 (t0,t1,(↑t0.length:Int),(0:Int)))
theorem f57_2_eq(F:Nat)(Rf57j2:St→Rz)(Rf57j3:St→Rz):∀ v,XAf57 F (bp Try.f57 12) (ef57j1 v) (kSeq (kc VG3857 Rf57j2 sp13) (kSeq (kc VG3857 Rf57j3 []) Kf13))=f57_2 F (Rf57j2∘ef57j2) (Rf57j3∘ef57j3) v:=by
 rintro⟨t0,t1⟩;kernel_rfl
def f57_3(F:Nat)(kf57l1:Ty14→Rz)(kf57j3:Unit→Rz):Ty14→Rz:=fun (t0,t1,t7,t8)=>(cond (decide (t8 < t7)) (cond ((decide (0≤t8))&&(decide (t8 < (↑t0.length:Int)))) (cond (t1==(t0.getD (Int.toNat t8) false)) (some ((.int .i64 t8),[])) (kf57l1 (t0,t1,t7,(IntKind.i64.wrap (t8+(1:Int)))))) none) (kf57j3 ()))
theorem f57_3_eq(F:Nat)(Rf57l1:St→Rz)(Rf57j3:St→Rz):∀ v,XAf57 F (bp Try.f57 52) (ef57l1 v) (kSeq (kc VG3857 Rf57l1 sp13) (kBlock 0 (kSeq (kc VG3857 Rf57j3 []) Kf13)))=f57_3 F (Rf57l1∘ef57l1) (Rf57j3∘ef57j3) v:=by
 rintro⟨t0,t1,t7,t8⟩;kernel_rfl
def f57_4_i:Ty14→(List Bool)×Bool×Int×Int:=fun (t0,t1,t7,t8)=>(t0,t1,t7,t8)
def f57_4(F:Nat)(kf57j3:Unit→Rz):Ty14→Rz:=fun v=>loopN (fun k=>f57_3 F k kf57j3) F (f57_4_i v)
theorem f57_4_eq(F:Nat)(Rf57j3:St→Rz):∀ v,XAf57 F (bp Try.f57 26) (ef57j2 v) (kBlock 0 (kSeq (kc VG3857 Rf57j3 []) Kf13))=f57_4 F (Rf57j3∘ef57j3) v:=
 loop_cut (by kernel_rfl) (by kernel_rfl) ef57j2 ef57l1 _ f57_4_i (fun k=>f57_3 F k (Rf57j3∘ef57j3))
  (by rintro⟨t0,t1,t7,t8⟩;kernel_rfl) (fun Rf57l1=>f57_3_eq F Rf57l1 Rf57j3)
def f57_5(F:Nat)(kf57j3:Unit→Rz):Ty14→Rz:=f57_4 F kf57j3
theorem f57_5_eq(F:Nat)(Rf57j3:St→Rz):∀ v,XAf57 F (bp Try.f57 13) (ef57j2 v) (kSeq (kc VG3857 Rf57j3 []) Kf13)=f57_5 F (Rf57j3∘ef57j3) v:=fun v=>
 (block_in  (by kernel_rfl) _ _).trans (f57_4_eq F Rf57j3 v)
def f57_6(F:Nat)(kf57j3:Unit→Rz):(List Bool)×Bool→Rz:=fun v=>f57_2 F (f57_5 F kf57j3) kf57j3 v
theorem f57_6_eq(F:Nat)(Rf57j3:St→Rz):∀ v,XAf57 F (bp Try.f57 6) (ef57j1 v) (kSeq (kc VG3857 Rf57j3 []) Kf13)=f57_6 F (Rf57j3∘ef57j3) v:=
 seq_cut (by kernel_rfl) (by kernel_rfl) ef57j1 ef57j2 _ (fun k=>f57_2 F k (Rf57j3∘ef57j3)) (f57_5 F (Rf57j3∘ef57j3))
  (fun Rf57j2=>f57_2_eq F Rf57j2 Rf57j3) (f57_5_eq F Rf57j3)
def f57_7(F:Nat):Unit→Rz:=fun _=>(some ((.int .i64 (-1:Int)),[]))
theorem f57_7_eq(F:Nat):∀ v,XAf57 F (bp Try.f57 7) (ef57j3 v) Kf13=f57_7 F v:=by
 intro _;kernel_rfl
def f57_8(F:Nat):(List Bool)×Bool→Rz:=fun v=>f57_6 F (f57_7 F) v
theorem f57_8_eq(F:Nat):∀ v,XAf57 F (bp Try.f57 3) (ef57j1 v) Kf13=f57_8 F v:=
 seq_cut (by kernel_rfl) (by kernel_rfl) ef57j1 ef57j3 _ (fun k=>f57_6 F k) (f57_7 F)
  (fun Rf57j3=>f57_6_eq F Rf57j3) (f57_7_eq F)
def f57_9(F:Nat):(List Bool)×Bool→Rz:=fun v=>f57_1 F (f57_8 F) v
theorem f57_9_eq(F:Nat):∀ v,XAf57 F (sub (bodyOf Try.f57) []) (ef57_a v) Kf13=f57_9 F v:=
 seq_cut (by kernel_rfl) (by kernel_rfl) ef57_a ef57j1 _ (fun k=>f57_1 F k) (f57_8 F)
  (fun Rf57j1=>f57_1_eq F Rf57j1) (f57_8_eq F)
def f57(F:Nat):(List Bool)×Bool→Rz:=f57_9 F
theorem f57_body(F:Nat)(a0:List Bool)(a1:Bool):abody VG3857 (Af57 F) Try.f57 [(.vs (.rB a0) 0 1),.bool a1] []=f57 F (a0,a1):=
 (abody_in (c:=(sub (bodyOf Try.f57) [])) (by kernel_rfl) (s:=ef57_a (a0,a1)) (by kernel_rfl)).trans (f57_9_eq F (a0,a1))
def r57:CRun:=fun X H=>match X,H with
 | [(.vs (.rB a0) 0 1),.bool a1],[]=>some (true,(.int .i64 (Reg.idx (fun x=>x==a1) a0)),[])
 | _,_=>none
theorem s57(a0:List Bool)(a1:Bool)(h0:okV (.vs (.rB a0) 0 1)):∃ F,f57 F (a0,a1)=some ((.int .i64 (Reg.idx (fun x=>x==a1) a0)),[]):=by
 have hlen:a0.length < 4611686018427387904:=h0
 refine⟨a0.length+1,?_⟩
 simp only [f57,f57_9,f57_1,f57_8,f57_6,f57_2,f57_5,f57_4,f57_4_i]
 have hb:a0.length < 4611686018427387904:=hlen
 refine(loopN_scan (fun i=>(a0,a1,(a0.length:Int),(i:Int))) a0.length (fun i=>if (a1==(a0.getD i false))=true then some (some (AV.int .i64 (i:Int),[])) else none) (some (AV.int .i64 (-1),[])) (by rfl) (fun i hi k=>?_) (fun k=>?_) _ (by omega)).trans ?_
 ·simp only [f57_3,dec_and]
  rw [cond_pos (by omega),cond_pos (by omega),Int.toNat_natCast,i64w (by omega) (by omega)]
  cases (a1==a0.getD i false) <;> rfl
 ·simp only [f57_3]
  rw [cond_neg (by omega)]
  rfl
 ·rw [scan_idx (fun x=>(a1==x)) a0 false (fun i=>some (AV.int .i64 (i:Int),[]))]
  have e:(fun x:Bool=>a1==x)=fun x=>x==a1:=funext fun x=>Bool.beq_comm
  rw [e]
  unfold Reg.idx
  cases a0.findIdx? _ <;> rfl
theorem c57:CallOk Try.prog G38 57 r57:=callOk_of (V:=VG3857) mixed tys eVG3857 (f:=57) (fn:=Try.f57) Try.func57 (by kernel_rfl) (c:=sub (bodyOf Try.f57) []) (by kernel_rfl) (by
 intro X H r H' h hX hH
 unfold r57 at h;split at h <;> try contradiction
 ·simp only [Option.some.injEq,Prod.mk.injEq] at h
  obtain⟨hp,rfl,rfl⟩:=h
  obtain⟨F,hF⟩:=s57 _ _ (hX _ (.head _))
  exact⟨Af57 F,(f57_body F _ _).trans hF⟩)
def lVG3858:List CEnt:=[]
def VG3858:Env:=mkEnv T38 G38 lVG3858
noncomputable abbrev Kf14:=kFin VG3858 none (Try.f58).results.toList
theorem eVG3858:EOk Try.prog VG3858:=eok_mk (by exact trivial)
def Af58(F:Nat):Cuts:={ F:=F,at_:=fun n=>match n with | 2018=>some sp13 | _=>none,join:=fun n=>match n with | 1026=>some sp7 | 2020=>some sp13 | 7003=>some [] | _=>none }
noncomputable abbrev XAf58(F:Nat){α:Type}:=@aexec α VG3858 (Af58 F)
def ef58_a:Li×Int→St:=fun (a0,a1)=>⟨[(0,(.vs (.rI .i64 a0) 0 1)),(1,.int .i64 a1)],[],0,19,0⟩
def ef58j1:Li×Int→St:=fun (t0,t1)=>⟨[(0,(.vs (.rI .i64 t0) 0 1)),(1,.int .i64 t1)],[],0,19,0⟩
def ef58j2:Ty4→St:=fun (t0,t1,t7,t8)=>⟨[(0,(.vs (.rI .i64 t0) 0 1)),(1,.int .i64 t1),(7,.int .i64 t7),(8,.int .i64 t8)],[],0,19,0⟩
def ef58l1:Ty4→St:=ef58j2
def ef58j3:Unit→St:=ef57j3
def f58_1(F:Nat)(kf58j1:Li×Int→Rz):Li×Int→Rz:=fun (a0,a1)=>(kf58j1 (a0,a1))
theorem f58_1_eq(F:Nat)(Rf58j1:St→Rz):∀ v,XAf58 F (bp Try.f58 2) (ef58_a v) (kSeq (kc VG3858 Rf58j1 sp7) Kf14)=f58_1 F (Rf58j1∘ef58j1) v:=by
 rintro⟨a0,a1⟩;kernel_rfl
def f58_2(F:Nat)(kf58j2:Ty4→Rz)(kf58j3:Unit→Rz):Li×Int→Rz:=fun (t0,t1)=>(kf58j2 (t0,t1,(↑t0.length:Int),(0:Int)))
theorem f58_2_eq(F:Nat)(Rf58j2:St→Rz)(Rf58j3:St→Rz):∀ v,XAf58 F (bp Try.f58 12) (ef58j1 v) (kSeq (kc VG3858 Rf58j2 sp13) (kSeq (kc VG3858 Rf58j3 []) Kf14))=f58_2 F (Rf58j2∘ef58j2) (Rf58j3∘ef58j3) v:=by
 rintro⟨t0,t1⟩;kernel_rfl
def f58_3(F:Nat)(kf58l1:Ty4→Rz)(kf58j3:Unit→Rz):Ty4→Rz:=fun (t0,t1,t7,t8)=>(cond (decide (t8 < t7)) (cond ((decide (0≤t8))&&(decide (t8 < (↑t0.length:Int)))) (cond (t1==(t0.getD (Int.toNat t8) 0)) (some ((.int .i64 t8),[])) (kf58l1 (t0,t1,t7,(IntKind.i64.wrap (t8+(1:Int)))))) none) (kf58j3 ()))
theorem f58_3_eq(F:Nat)(Rf58l1:St→Rz)(Rf58j3:St→Rz):∀ v,XAf58 F (bp Try.f58 52) (ef58l1 v) (kSeq (kc VG3858 Rf58l1 sp13) (kBlock 0 (kSeq (kc VG3858 Rf58j3 []) Kf14)))=f58_3 F (Rf58l1∘ef58l1) (Rf58j3∘ef58j3) v:=by
 rintro⟨t0,t1,t7,t8⟩;kernel_rfl
def f58_4_i:Ty4→Li×Int×Int×Int:=fun (t0,t1,t7,t8)=>(t0,t1,t7,t8)
def f58_4(F:Nat)(kf58j3:Unit→Rz):Ty4→Rz:=fun v=>loopN (fun k=>f58_3 F k kf58j3) F (f58_4_i v)
theorem f58_4_eq(F:Nat)(Rf58j3:St→Rz):∀ v,XAf58 F (bp Try.f58 26) (ef58j2 v) (kBlock 0 (kSeq (kc VG3858 Rf58j3 []) Kf14))=f58_4 F (Rf58j3∘ef58j3) v:=
 loop_cut (by kernel_rfl) (by kernel_rfl) ef58j2 ef58l1 _ f58_4_i (fun k=>f58_3 F k (Rf58j3∘ef58j3))
  (by rintro⟨t0,t1,t7,t8⟩;kernel_rfl) (fun Rf58l1=>f58_3_eq F Rf58l1 Rf58j3)
def f58_5(F:Nat)(kf58j3:Unit→Rz):Ty4→Rz:=f58_4 F kf58j3
theorem f58_5_eq(F:Nat)(Rf58j3:St→Rz):∀ v,XAf58 F (bp Try.f58 13) (ef58j2 v) (kSeq (kc VG3858 Rf58j3 []) Kf14)=f58_5 F (Rf58j3∘ef58j3) v:=fun v=>
 (block_in  (by kernel_rfl) _ _).trans (f58_4_eq F Rf58j3 v)
def f58_6(F:Nat)(kf58j3:Unit→Rz):Li×Int→Rz:=fun v=>f58_2 F (f58_5 F kf58j3) kf58j3 v
theorem f58_6_eq(F:Nat)(Rf58j3:St→Rz):∀ v,XAf58 F (bp Try.f58 6) (ef58j1 v) (kSeq (kc VG3858 Rf58j3 []) Kf14)=f58_6 F (Rf58j3∘ef58j3) v:=
 seq_cut (by kernel_rfl) (by kernel_rfl) ef58j1 ef58j2 _ (fun k=>f58_2 F k (Rf58j3∘ef58j3)) (f58_5 F (Rf58j3∘ef58j3))
  (fun Rf58j2=>f58_2_eq F Rf58j2 Rf58j3) (f58_5_eq F Rf58j3)
def f58_7(F:Nat):Unit→Rz:=fun _=>(some ((.int .i64 (-1:Int)),[]))
theorem f58_7_eq(F:Nat):∀ v,XAf58 F (bp Try.f58 7) (ef58j3 v) Kf14=f58_7 F v:=by
 intro _;kernel_rfl
def f58_8(F:Nat):Li×Int→Rz:=fun v=>f58_6 F (f58_7 F) v
theorem f58_8_eq(F:Nat):∀ v,XAf58 F (bp Try.f58 3) (ef58j1 v) Kf14=f58_8 F v:=
 seq_cut (by kernel_rfl) (by kernel_rfl) ef58j1 ef58j3 _ (fun k=>f58_6 F k) (f58_7 F)
  (fun Rf58j3=>f58_6_eq F Rf58j3) (f58_7_eq F)
def f58_9(F:Nat):Li×Int→Rz:=fun v=>f58_1 F (f58_8 F) v
theorem f58_9_eq(F:Nat):∀ v,XAf58 F (sub (bodyOf Try.f58) []) (ef58_a v) Kf14=f58_9 F v:=
 seq_cut (by kernel_rfl) (by kernel_rfl) ef58_a ef58j1 _ (fun k=>f58_1 F k) (f58_8 F)
  (fun Rf58j1=>f58_1_eq F Rf58j1) (f58_8_eq F)
def f58(F:Nat):Li×Int→Rz:=f58_9 F
theorem f58_body(F:Nat)(a0:List Int)(a1:Int):abody VG3858 (Af58 F) Try.f58 [(.vs (.rI .i64 a0) 0 1),.int .i64 a1] []=f58 F (a0,a1):=
 (abody_in (c:=(sub (bodyOf Try.f58) [])) (by kernel_rfl) (s:=ef58_a (a0,a1)) (by kernel_rfl)).trans (f58_9_eq F (a0,a1))
def r58:CRun:=fun X H=>match X,H with
 | [(.vs (.rI .i64 a0) 0 1),.int .i64 a1],[]=>some (true,(.int .i64 (Reg.idx (fun y=>y==a1) a0)),[])
 | _,_=>none
theorem s58(a0:List Int)(a1:Int)(h0:okV (.vs (.rI .i64 a0) 0 1))(h1:okV (.int .i64 a1)):∃ F,f58 F (a0,a1)=some ((.int .i64 (Reg.idx (fun y=>y==a1) a0)),[]):=by
 have hlen:a0.length < 4611686018427387904:=h0.2
 refine⟨a0.length+1,?_⟩
 simp only [f58,f58_9,f58_1,f58_8,f58_6,f58_2,f58_5,f58_4,f58_4_i]
 have hb:a0.length < 4611686018427387904:=hlen
 refine(loopN_scan (fun i=>(a0,a1,(a0.length:Int),(i:Int))) a0.length (fun i=>if (a1==(a0.getD i 0))=true then some (some (AV.int .i64 (i:Int),[])) else none) (some (AV.int .i64 (-1),[])) (by rfl) (fun i hi k=>?_) (fun k=>?_) _ (by omega)).trans ?_
 ·simp only [f58_3,dec_and]
  rw [cond_pos (by omega),cond_pos (by omega),Int.toNat_natCast,i64w (by omega) (by omega)]
  cases (a1==a0.getD i 0) <;> rfl
 ·simp only [f58_3]
  rw [cond_neg (by omega)]
  rfl
 ·rw [scan_idx (fun x=>(a1==x)) a0 0 (fun i=>some (AV.int .i64 (i:Int),[]))]
  have e:(fun x:Int=>a1==x)=fun x=>x==a1:=funext fun x=>Bool.beq_comm
  rw [e]
  unfold Reg.idx
  cases a0.findIdx? _ <;> rfl
theorem c58:CallOk Try.prog G38 58 r58:=callOk_of (V:=VG3858) mixed tys eVG3858 (f:=58) (fn:=Try.f58) Try.func58 (by kernel_rfl) (c:=sub (bodyOf Try.f58) []) (by kernel_rfl) (by
 intro X H r H' h hX hH
 unfold r58 at h;split at h <;> try contradiction
 ·simp only [Option.some.injEq,Prod.mk.injEq] at h
  obtain⟨hp,rfl,rfl⟩:=h
  obtain⟨F,hF⟩:=s58 _ _ (hX _ (.head _)) (hX _ (.tail _ (.head _)))
  exact⟨Af58 F,(f58_body F _ _).trans hF⟩)
def lVG3844:List CEnt:=[(58,[some 3,none],r58)]
def VG3844:Env:=mkEnv T38 G38 lVG3844
noncomputable abbrev Kf15:=kFin VG3844 none (Try.f44).results.toList
theorem eVG3844:EOk Try.prog VG3844:=eok_mk (by exact⟨c58,trivial⟩)
def Af44(F:Nat):Cuts:={ F:=F,at_:=fun _=>none,join:=fun _=>none }
def ef44_a:Li×Int→St:=fun (a0,a1)=>⟨[(0,(.vs (.rI .i64 a0) 0 1)),(1,.int .i64 a1)],[],0,9,0⟩
def f44_1(F:Nat):Li×Int→Rz:=fun (a0,a1)=>(some ((.bool (decide ((Reg.idx (fun y=>y==a1) a0)≥(0:Int)))),[]))
theorem f44_1_eq(F:Nat):∀ v,aexec VG3844 (Af44 F) (sub (bodyOf Try.f44) []) (ef44_a v) Kf15=f44_1 F v:=by
 rintro⟨a0,a1⟩;kernel_rfl
def f44(F:Nat):Li×Int→Rz:=f44_1 F
theorem f44_body(F:Nat)(a0:List Int)(a1:Int):abody VG3844 (Af44 F) Try.f44 [(.vs (.rI .i64 a0) 0 1),.int .i64 a1] []=f44 F (a0,a1):=
 (abody_in (c:=(sub (bodyOf Try.f44) [])) (by kernel_rfl) (s:=ef44_a (a0,a1)) (by kernel_rfl)).trans (f44_1_eq F (a0,a1))
def r44:CRun:=fun X H=>match X,H with
 | [(.vs (.rI .i64 a0) 0 1),.int .i64 a1],[]=>some (true,(.bool (a0.any (fun y=>y==a1))),[])
 | _,_=>none
theorem s44(a0:List Int)(a1:Int)(h0:okV (.vs (.rI .i64 a0) 0 1))(h1:okV (.int .i64 a1)):∃ F,f44 F (a0,a1)=some ((.bool (a0.any (fun y=>y==a1))),[]):=⟨0,by simp only [f44,f44_1,Reg.idx_neg]⟩
theorem c44:CallOk Try.prog G38 44 r44:=callOk_of (V:=VG3844) mixed tys eVG3844 (f:=44) (fn:=Try.f44) Try.func44 (by kernel_rfl) (c:=sub (bodyOf Try.f44) []) (by kernel_rfl) (by
 intro X H r H' h hX hH
 unfold r44 at h;split at h <;> try contradiction
 ·simp only [Option.some.injEq,Prod.mk.injEq] at h
  obtain⟨hp,rfl,rfl⟩:=h
  obtain⟨F,hF⟩:=s44 _ _ (hX _ (.head _)) (hX _ (.tail _ (.head _)))
  exact⟨Af44 F,(f44_body F _ _).trans hF⟩)
def lVG3838:List CEnt:=[(57,[some 4,none],r57)]
def VG3838:Env:=mkEnv T38 G38 lVG3838
noncomputable abbrev Kf16:=kFin VG3838 none (Try.f38).results.toList
theorem eVG3838:EOk Try.prog VG3838:=eok_mk (by exact⟨c57,trivial⟩)
def Af38(F:Nat):Cuts:={ F:=F,at_:=fun _=>none,join:=fun _=>none }
def ef38_a:(List Bool)→St:=fun a0=>⟨[(0,(.vs (.rB a0) 0 1))],[],0,5,0⟩
def f38_1(F:Nat):(List Bool)→Rz:=fun a0=>(some ((.int .i64 (Reg.idx (fun x=>x==true) a0)),[]))
theorem f38_1_eq(F:Nat):∀ v,aexec VG3838 (Af38 F) (sub (bodyOf Try.f38) []) (ef38_a v) Kf16=f38_1 F v:=by
 intro a0;kernel_rfl
def f38(F:Nat):(List Bool)→Rz:=f38_1 F
theorem f38_body(F:Nat)(a0:List Bool):abody VG3838 (Af38 F) Try.f38 [(.vs (.rB a0) 0 1)] []=f38 F a0:=
 (abody_in (c:=(sub (bodyOf Try.f38) [])) (by kernel_rfl) (s:=ef38_a a0) (by kernel_rfl)).trans (f38_1_eq F a0)
def r38:CRun:=fun X H=>match X,H with
 | [(.vs (.rB a0) 0 1)],[]=>some (true,(.int .i64 (Reg.first a0)),[])
 | _,_=>none
theorem s38(a0:List Bool)(h0:okV (.vs (.rB a0) 0 1)):∃ F,f38 F a0=some ((.int .i64 (Reg.first a0)),[]):=⟨0,rfl⟩
theorem c38:CallOk Try.prog G38 38 r38:=callOk_of (V:=VG3838) mixed tys eVG3838 (f:=38) (fn:=Try.f38) Try.func38 (by kernel_rfl) (c:=sub (bodyOf Try.f38) []) (by kernel_rfl) (by
 intro X H r H' h hX hH
 unfold r38 at h;split at h <;> try contradiction
 ·simp only [Option.some.injEq,Prod.mk.injEq] at h
  obtain⟨hp,rfl,rfl⟩:=h
  obtain⟨F,hF⟩:=s38 _ (hX _ (.head _))
  exact⟨Af38 F,(f38_body F _).trans hF⟩)
end Go.Am
end
section
namespace Go.Am
open Go
namespace Reg
theorem groups_len(l:List Int)(n many:Nat):(groups l n many).length≤many:=by
 unfold groups
 refine Nat.le_trans (List.length_filter_le _ _) ?_
 rw [List.length_map,List.length_range];exact Nat.le_refl _
theorem groups_mem{l:List Int}{n many:Nat}{x:List Int}(h:x∈groups l n many):0 < x.length∧x.length≤n ∧ ∃ q:Nat,q < many∧x=cls l ((many:Int)+1) n n (q:Int):=by
 unfold groups at h
 rw [List.mem_filter,List.mem_map] at h
 obtain⟨⟨q,hq,rfl⟩,h2⟩:=h
 rw [List.mem_range] at hq
 exact⟨of_decide_eq_true h2,cls_len _ _ _ _ _,q,hq,rfl⟩
theorem owners_len(l:List Int)(n:Nat)(h:Int):(owners l n h).length=n:=by
 unfold owners;rw [List.length_map,List.length_range]
theorem ups_len(n:Int)(h:Nat):(ups n h).length=h:=by
 unfold ups;rw [List.length_map,List.length_range]
theorem mark_get{n:Nat}:∀ {g:List Int} {met:List Bool},inr n g=true→met.length=n → ∀ d:Int,0≤d→d < (n:Int)→(mark g met).getD d.toNat false=(decide (d∈g) || met.getD d.toNat false)
 | [],met,_,_,d,_,_=>by simp [mark]
 | e :: g,met,hi,hn,d,h0,h1=>by
  have hi':=inr_iff.1 hi
  have he:=hi' e (List.mem_cons_self ..)
  have ih:=mark_get (g:=g) (met:=met.set e.toNat true) (inr_iff.2 fun x hx=>hi' x (List.mem_cons_of_mem _ hx)) (by rw [List.length_set];exact hn) d h0 h1
  simp only [mark,List.foldl_cons] at ih ⊢
  rw [ih]
  by_cases hd:d=e
  ·subst hd
   have:(met.set d.toNat true).getD d.toNat false=true:=by
    rw [List.getD_eq_getElem?_getD,List.getElem?_set];simp [show d.toNat < met.length by omega]
   rw [this];simp
  ·have:(met.set e.toNat true).getD d.toNat false=met.getD d.toNat false:=by
    rw [List.getD_eq_getElem?_getD,List.getElem?_set,if_neg (by omega),List.getD_eq_getElem?_getD]
   rw [this]
   simp [hd]
theorem vg_facts{n:Nat}:∀ {g:List Int} {met m:List Bool},vg n g met=some m→met.length=n→(∀ d∈g,(0≤d∧d < (n:Int))∧met.getD d.toNat false=false)∧g.Nodup
 | [],_,_,_,_=>⟨fun d h=>by simp at h,List.nodup_nil⟩
 | e :: g,met,m,h,hn=>by
  simp only [vg] at h
  split at h
  ·contradiction
  ·rename_i hd
   unfold bad at hd
   have hf:met.getD e.toNat false=false:=by
    cases hc:met.getD e.toNat false with
    | false=>rfl
    | true=>exact absurd (.inr (.inr hc)) hd
   obtain⟨h1,h2⟩:=vg_facts h (by rw [List.length_set];exact hn)
   have hne:∀ d∈g,d≠e∧met.getD d.toNat false=false:=fun d hd'=>by
    have h3:=h1 d hd'
    have:d≠e:=by
     rintro rfl
     have h4:=h3.2
     rw [List.getD_eq_getElem?_getD,List.getElem?_set] at h4
     simp [show d.toNat < met.length by omega] at h4
    refine⟨this,?_⟩
    have h4:=h3.2
    rw [List.getD_eq_getElem?_getD,List.getElem?_set,if_neg (by omega),← List.getD_eq_getElem?_getD] at h4
    exact h4
   refine⟨fun d hd'=>?_,List.nodup_cons.2 ⟨fun hm=>(hne e hm).1 rfl,h2⟩⟩
   rcases List.mem_cons.1 hd' with rfl | hd'
   ·exact⟨by omega,hf⟩
   ·exact⟨(h1 d hd').1,(hne d hd').2⟩
theorem vgs_facts{n:Nat}:∀ {gs:List (List Int)} {met m:List Bool},vgs n gs met=some m→met.length=n→(∀ d∈gs.flatten,(0≤d∧d < (n:Int))∧met.getD d.toNat false=false)∧gs.flatten.Nodup
 | [],_,_,_,_=>⟨fun d h=>by simp at h,List.nodup_nil⟩
 | g :: gs,met,m,h,hn=>by
  simp only [vgs] at h
  split at h
  ·contradiction
  ·split at h <;> try contradiction
   rename_i m1 hm1
   obtain⟨h1,h2⟩:=vg_facts hm1 hn
   have hm:=vg_mark hm1
   have hl:=(vg_count hm1 hn).2
   obtain⟨h3,h4⟩:=vgs_facts h hl
   have hi:inr n g=true:=inr_iff.2 fun d hd=>(h1 d hd).1
   have hk:∀ d∈gs.flatten,d∉g∧met.getD d.toNat false=false:=fun d hd=>by
    have h5:=h3 d hd
    have h6:=mark_get hi hn d h5.1.1 h5.1.2
    rw [← hm,h5.2] at h6
    have h7:=h6.symm
    rw [Bool.or_eq_false_iff,decide_eq_false_iff_not] at h7
    exact h7
   rw [List.flatten_cons]
   refine⟨fun d hd=>?_,List.nodup_append.2 ⟨h2,h4,fun a ha b hb hab=>?_⟩⟩
   ·rcases List.mem_append.1 hd with hd | hd
    ·exact h1 d hd
    ·exact⟨(h3 d hd).1,(hk d hd).2⟩
   ·subst hab;exact(hk a hb).1 ha
theorem vg_some{n:Nat}:∀ {g:List Int} {met:List Bool},met.length=n→(∀ d∈g,(0≤d∧d < (n:Int))∧met.getD d.toNat false=false)→g.Nodup → ∃ m,vg n g met=some m
 | [],met,_,_,_=>⟨met,rfl⟩
 | e :: g,met,hn,h,hd=>by
  obtain⟨h1,h2⟩:=List.nodup_cons.1 hd
  have he:=h e (List.mem_cons_self ..)
  simp only [vg]
  rw [if_neg (by
   unfold bad
   rintro(h3 | h3 | h3)
   ·omega
   ·omega
   ·rw [he.2] at h3;cases h3)]
  refine vg_some (by rw [List.length_set];exact hn) (fun d hd'=>?_) h2
  have h3:=h d (List.mem_cons_of_mem _ hd')
  refine⟨h3.1,?_⟩
  have hne:d≠e:=by rintro rfl;exact h1 hd'
  rw [List.getD_eq_getElem?_getD,List.getElem?_set,if_neg (by omega),← List.getD_eq_getElem?_getD]
  exact h3.2
theorem vgs_some{n:Nat}:∀ {gs:List (List Int)} {met:List Bool},met.length=n→(∀ d∈gs.flatten,(0≤d∧d < (n:Int))∧met.getD d.toNat false=false)→gs.flatten.Nodup→(∀ x∈gs,0 < x.length) → ∃ m,vgs n gs met=some m
 | [],met,_,_,_,_=>⟨met,rfl⟩
 | g :: gs,met,hn,h,hd,hx=>by
  rw [List.flatten_cons] at h hd
  obtain⟨h1,h2,h3⟩:=List.nodup_append.1 hd
  obtain⟨m1,hm1⟩:=vg_some (g:=g) hn (fun d hd'=>h d (List.mem_append_left _ hd')) h1
  have hg:=hx g (List.mem_cons_self ..)
  simp only [vgs]
  rw [if_neg (by omega),hm1]
  have hi:inr n g=true:=inr_iff.2 fun d hd=>(h d (List.mem_append_left _ hd)).1
  refine vgs_some (vg_count hm1 hn).2 (fun d hd'=>?_) h2 fun x hx'=>hx x (List.mem_cons_of_mem _ hx')
  have h4:=h d (List.mem_append_right _ hd')
  refine⟨h4.1,?_⟩
  rw [vg_mark hm1,mark_get hi hn d h4.1.1 h4.1.2,h4.2]
  have:d∉g:=fun hm=>h3 d hm d hd' rfl
  simp [this]
theorem cls_mem{l:List Int}{m:Int}{n:Nat}{q d:Int}(h:d∈cls l m n n q):(0≤d∧d < (n:Int))∧at_ l d m=q:=by
 unfold cls at h
 rw [List.mem_filter,List.mem_map] at h
 obtain⟨⟨t,ht,rfl⟩,h2⟩:=h
 rw [List.mem_range] at ht
 exact⟨by omega,of_decide_eq_true h2⟩
theorem cls_nodup(l:List Int)(m:Int)(n:Nat)(q:Int):(cls l m n n q).Nodup:=by
 unfold cls
 refine List.Pairwise.filter _ (List.pairwise_map.2 (List.pairwise_lt_range.imp fun h=>?_))
 omega
theorem groups_disj(l:List Int)(n many:Nat):(groups l n many).flatten.Nodup:=by
 refine List.pairwise_flatten.2 ⟨fun x hx=>?_,?_⟩
 ·obtain⟨_,_,q,_,rfl⟩:=groups_mem hx
  exact cls_nodup _ _ _ _
 ·unfold groups
  refine List.Pairwise.filter _ (List.pairwise_map.2 (List.pairwise_lt_range.imp fun {a b} h x hx y hy hxy=>?_))
  have h1:=(cls_mem hx).2
  have h2:=(cls_mem hy).2
  subst hxy
  omega
theorem owners_mem{l:List Int}{n:Nat}{h:Int}(hh:0≤h){x:Int}(hx:x∈owners l n h): -1≤x∧x < h:=by
 unfold owners at hx
 obtain⟨d,_,rfl⟩:=List.mem_map.1 hx
 have:=at_lt (l:=l) (i:=(d:Int)) (show(0:Int) < h+1 by omega)
 omega
theorem valid_of{g:List (List Int)}{n:Nat}{o:List Int}{u:List Bool}(h1:1≤u.length)(h2:u.length≤6)(h3:∃ m,vgs n g (List.replicate n false)=some m)(h4:∀ x∈o,-1≤x∧x < (u.length:Int)):valid g n o u=true:=by
 obtain⟨m,hm⟩:=h3
 simp only [valid,Bool.and_eq_true,decide_eq_true_eq,hm,Option.isSome_some,List.all_eq_true,okO]
 refine⟨⟨h1,h2⟩,trivial,fun x hx=>?_⟩
 have:=h4 x hx
 omega
theorem valid_vgs{g:List (List Int)}{n:Nat}{o:List Int}{u:List Bool}(h:valid g n o u=true):∃ m,vgs n g (List.replicate n false)=some m:=by
 simp only [valid,Bool.and_eq_true,Option.isSome_iff_exists] at h
 exact h.2.1
theorem valid_disj{g:List (List Int)}{n:Nat}{o:List Int}{u:List Bool}(h:valid g n o u=true):g.flatten.Nodup:=by
 obtain⟨m,hm⟩:=valid_vgs h
 exact(vgs_facts hm List.length_replicate).2
theorem put_get(h:Int):∀ (g out:List Int),inr out.length g=true → ∀ d:Int,0≤d→d < (out.length:Int)→(put h g out).getD d.toNat 0=if d∈g then h else out.getD d.toNat 0
 | [],out,_,d,_,_=>by simp [put]
 | e :: g,out,hi,d,h0,h1=>by
  have hi':=inr_iff.1 hi
  have he:=hi' e (List.mem_cons_self ..)
  have ih:=put_get h g (out.set e.toNat h) (by rw [List.length_set];exact inr_iff.2 fun x hx=>hi' x (List.mem_cons_of_mem _ hx)) d h0 (by rw [List.length_set];exact h1)
  simp only [put,List.foldl_cons] at ih ⊢
  rw [ih]
  by_cases hd:d=e
  ·subst hd
   have:(out.set d.toNat h).getD d.toNat 0=h:=by
    rw [List.getD_eq_getElem?_getD,List.getElem?_set];simp [show d.toNat < out.length by omega]
   rw [this];simp
  ·have:(out.set e.toNat h).getD d.toNat 0=out.getD d.toNat 0:=by
    rw [List.getD_eq_getElem?_getD,List.getElem?_set,if_neg (by omega),List.getD_eq_getElem?_getD]
   rw [this]
   simp [hd]
def putAll(f:List Int→Int)(gs:List (List Int))(out:List Int):List Int:=gs.foldl (fun o x=>put (f x) x o) out
theorem putAll_len(f:List Int→Int):∀ (gs:List (List Int)) (out:List Int),(putAll f gs out).length=out.length
 | [],_=>rfl
 | x :: gs,out=>by
  have:=putAll_len f gs (put (f x) x out)
  rw [put_len] at this
  exact this
theorem putAll_get(f:List Int→Int):∀ (gs:List (List Int)) (out:List Int),(∀ x∈gs,inr out.length x=true)→gs.flatten.Nodup → ∀ d:Int,0≤d→d < (out.length:Int) →
  (∀ x∈gs,d∈x→(putAll f gs out).getD d.toNat 0=f x)∧((∀ x∈gs,d∉x)→(putAll f gs out).getD d.toNat 0=out.getD d.toNat 0)
 | [],out,_,_,d,_,_=>⟨fun x hx=>by simp at hx,fun _=>rfl⟩
 | y :: gs,out,hi,hn,d,h0,h1=>by
  rw [List.flatten_cons] at hn
  obtain⟨n1,n2,n3⟩:=List.nodup_append.1 hn
  have hl:=put_len (f y) y out
  have ih:=putAll_get f gs (put (f y) y out) (fun x hx=>by rw [hl];exact hi x (List.mem_cons_of_mem _ hx)) n2 d h0 (by omega)
  have hp:=put_get (f y) y out (hi y (List.mem_cons_self ..)) d h0 h1
  refine⟨fun x hx hd=>?_,fun hd=>?_⟩
  ·rcases List.mem_cons.1 hx with rfl | hx
   ·have h5:∀ z∈gs,d∉z:=fun z hz hdz=>n3 d hd d (List.mem_flatten.2 ⟨z,hz,hdz⟩) rfl
    show(putAll f gs (put (f x) x out)).getD d.toNat 0=f x
    rw [ih.2 h5,hp,if_pos hd]
   ·exact ih.1 x hx hd
  ·show(putAll f gs (put (f y) y out)).getD d.toNat 0=_
   rw [ih.2 (fun x hx=>hd x (List.mem_cons_of_mem _ hx)),hp,if_neg (hd y (List.mem_cons_self ..))]
theorem ownTo_all(g:List (List Int))(old:List Int)(u:List Bool):ownTo g old u g.length=putAll (fun x=>best x old u) g old:=by
 unfold ownTo putAll;rw [List.take_length]
theorem bestTo_max(g o:List Int)(u:List Bool):∀ i,∀ c,c < i→u.getD c false=true→has g o (c:Int)≤has g o (bestTo g o u i)
 | 0,c,h,_=>by omega
 | i+1,c,h,hu=>by
  rw [bestTo_succ]
  have ih:=bestTo_max g o u i c
  by_cases hb:u.getD i false=true∧has g o (i:Int) > has g o (bestTo g o u i)
  ·rw [if_pos hb]
   rcases Nat.lt_or_ge c i with hc | hc
   ·have:=ih hc hu;omega
   ·have:c=i:=by omega
    subst this;exact Int.le_refl _
  ·rw [if_neg hb]
   rcases Nat.lt_or_ge c i with hc | hc
   ·exact ih hc hu
   ·have:c=i:=by omega
    subst this
    have:¬ (has g o (c:Int) > has g o (bestTo g o u c)):=fun h=>hb ⟨hu,h⟩
    omega
theorem best_max(g o:List Int)(u:List Bool)(c:Nat)(hc:c < u.length)(hu:u.getD c false=true):has g o (c:Int)≤has g o (best g o u):=bestTo_max g o u u.length c hc hu
theorem has_all{x a:List Int}{v:Int}(h:∀ d∈x,a.getD d.toNat 0=v)(c:Int):has x a c=if c=v then (x.length:Int) else 0:=by
 unfold has
 by_cases hc:c=v
 ·subst hc
  rw [if_pos rfl,List.filter_eq_self.2 (fun d hd=>decide_eq_true (h d hd))]
 ·rw [if_neg hc,List.filter_eq_nil_iff.2 (fun d hd=>by rw [h d hd];simp;exact fun e=>hc e.symm)];rfl
theorem bestTo_all{x a:List Int}{u:List Bool}{v:Nat}(h:∀ d∈x,a.getD d.toNat 0=(v:Int))(hx:0 < x.length)(hu:u.getD v false=true):∀ i,bestTo x a u i=(v:Int)∨(bestTo x a u i=first u∧i≤v)
 | 0=>.inr ⟨rfl,Nat.zero_le _⟩
 | i+1=>by
  have ih:=bestTo_all h hx hu i
  rw [bestTo_succ,has_all h,has_all h]
  by_cases hi:(i:Int)=(v:Int)
  ·have:i=v:=by omega
   subst this
   rcases ih with h1 | ⟨h1,_⟩
   ·rw [h1];left;exact ite_self _
   ·rw [h1,if_pos rfl]
    by_cases hf:first u=(i:Int)
    ·rw [if_pos hf,hf];left;exact ite_self _
    ·rw [if_neg hf,if_pos ⟨hu,by omega⟩];left;rfl
  ·rw [if_neg hi,if_neg (by split <;> omega)]
   rcases ih with h1 | ⟨h1,h2⟩
   ·exact .inl h1
   ·exact .inr ⟨h1,by omega⟩
theorem best_all{x a:List Int}{u:List Bool}{v:Nat}(h:∀ d∈x,a.getD d.toNat 0=(v:Int))(hx:0 < x.length)(hv:v < u.length)(hu:u.getD v false=true):best x a u=(v:Int):=by
 rcases bestTo_all h hx hu u.length with h1 | ⟨_,h2⟩
 ·exact h1
 ·omega
theorem put_same(h:Int):∀ (g out:List Int),(∀ d∈g,out.getD d.toNat 0=h∧d.toNat < out.length)→put h g out=out
 | [],_,_=>rfl
 | e :: g,out,hi=>by
  have he:=hi e (List.mem_cons_self ..)
  have hs:out.set e.toNat h=out:=by
   rw [← he.1,List.getD_eq_getElem?_getD,List.getElem?_eq_getElem he.2];simp
  have ih:=put_same h g out fun d hd=>hi d (List.mem_cons_of_mem _ hd)
  simp only [put,List.foldl_cons] at ih ⊢
  rw [hs,ih]
theorem put_mem(h v:Int):∀ (g out:List Int),v∈put h g out→v=h∨v∈out
 | [],_,hv=>.inr hv
 | e :: g,out,hv=>by
  rcases put_mem h v g (out.set e.toNat h) hv with h1 | h1
  ·exact .inl h1
  ·rcases List.mem_or_eq_of_mem_set h1 with h2 | h2
   ·exact .inr h2
   ·exact .inl h2
theorem putAll_mem(f:List Int→Int)(v:Int):∀ (gs:List (List Int)) (out:List Int),v∈putAll f gs out→(∃ x∈gs,v=f x)∨v∈out
 | [],_,hv=>.inr hv
 | x :: gs,out,hv=>by
  rcases putAll_mem f v gs (put (f x) x out) hv with ⟨y,h1,h2⟩ | h1
  ·exact .inl ⟨y,List.mem_cons_of_mem _ h1,h2⟩
  ·rcases put_mem _ _ _ _ h1 with h2 | h2
   ·exact .inl ⟨x,List.mem_cons_self ..,h2⟩
   ·exact .inr h2
theorem getD_up{u:List Bool}{i:Nat}(h:u.getD i false=true):i < u.length:=by
 rcases Nat.lt_or_ge i u.length with h' | h'
 ·exact h'
 ·rw [List.getD_eq_getElem?_getD,List.getElem?_eq_none h'] at h;cases h
theorem putAll_same(f:List Int→Int):∀ (gs:List (List Int)) (out:List Int),(∀ x∈gs,∀ d∈x,out.getD d.toNat 0=f x∧d.toNat < out.length)→putAll f gs out=out
 | [],_,_=>rfl
 | x :: gs,out,h=>by
  show putAll f gs (put (f x) x out)=out
  rw [put_same _ _ _ (h x (List.mem_cons_self ..))]
  exact putAll_same f gs out fun y hy=>h y (List.mem_cons_of_mem _ hy)
theorem own_facts{g:List (List Int)}{old:List Int}{u:List Bool}(he:(own g old u).2=0):
  valid g old.length old u=true∧(own g old u).1.length=old.length∧own g (own g old u).1 u=((own g old u).1,0) ∧
  ∀ x∈g,(0≤best x old u∧u.getD (best x old u).toNat false=true) ∧ ∀ d∈x,(own g old u).1.getD d.toNat 0=best x old u:=by
 have hv:valid g old.length old u=true:=by
  cases hv:valid g old.length old u with
  | true=>rfl
  | false=>unfold own at he;rw [if_pos hv] at he;simp at he
 have hq:¬ (0 < g.length∧first u < 0):=by
  intro hq;unfold own at he;rw [if_neg (by simp [hv]),if_pos hq] at he;simp at he
 obtain⟨hu,hg,ho⟩:=valid_iff hv
 have hd:=valid_disj hv
 rw [own_eq hv hq,ownTo_all]
 have hb:∀ x∈g,0≤best x old u∧u.getD (best x old u).toNat false=true:=fun x hx=>by
  rcases best_up x old u with h1 | h1
  ·exact absurd ⟨List.length_pos_of_mem hx,by omega⟩ hq
  ·exact h1
 have hget:∀ x∈g,∀ d∈x,(putAll (fun x=>best x old u) g old).getD d.toNat 0=best x old u:=fun x hx d hdx=>by
  have hr:=inr_iff.1 (hg x hx).1 d hdx
  exact(putAll_get _ g old (fun y hy=>(hg y hy).1) hd d hr.1 hr.2).1 x hx hdx
 have hl:=putAll_len (fun x=>best x old u) g old
 have hv2:valid g (putAll (fun x=>best x old u) g old).length (putAll (fun x=>best x old u) g old) u=true:=by
  rw [hl]
  refine valid_of hu.1 hu.2 (valid_vgs hv) fun v hvm=>?_
  rcases putAll_mem _ v g old hvm with ⟨x,hx,rfl⟩ | hvm
  ·have:=hb x hx
   have:=getD_up this.2
   show -1≤best x old u∧best x old u < (u.length:Int)
   omega
  ·exact ho v hvm
 refine⟨hv,hl,?_,fun x hx=>⟨hb x hx,hget x hx⟩⟩
 rw [own_eq hv2 hq,ownTo_all]
 congr 1
 refine putAll_same _ _ _ fun x hx d hdx=>?_
 have hr:=inr_iff.1 (hg x hx).1 d hdx
 refine⟨?_,by rw [hl];omega⟩
 rw [hget x hx d hdx]
 have h1:=hb x hx
 obtain⟨v,hv⟩:∃ v:Nat,best x old u=(v:Int):=⟨(best x old u).toNat,by omega⟩
 show best x old u=best x (putAll (fun x=>best x old u) g old) u
 rw [hv] at h1 ⊢
 rw [best_all (v:=v) (fun e he=>by rw [hget x hx e he,hv]) (hg x hx).2 (by have:=getD_up h1.2;omega) (by simpa using h1.2)]
end Reg
end Go.Am
namespace Go.Am.Reg
theorem own_err{g:List (List Int)}{old:List Int}{u:List Bool}(hv:valid g old.length old u=true):(own g old u).2=0∨((own g old u).2=6∧0 < g.length∧first u < 0):=by
 unfold own;rw [if_neg (by simp [hv])]
 split
 ·rename_i h;exact .inr ⟨rfl,h⟩
 ·exact .inl rfl
theorem getD_mem'{x:List Int}{i:Nat}(h:i < x.length):x.getD i 0∈x:=by
 rw [List.getD_eq_getElem?_getD,List.getElem?_eq_getElem h]
 exact List.getElem_mem h
end Go.Am.Reg
namespace Go.Am.Reg
end Go.Am.Reg
end
section
/- Dividing groups evenly: the greatest share is at most 4/3 of the least possible one, for at most six groups and three hosts. -/
namespace Go.Am
open Go
namespace Reg
def mn(a b:Nat):Nat:=cond (Nat.ble b a) b a
def mx(a b:Nat):Nat:=cond (Nat.ble b a) a b
def n1:List Nat→Nat→Nat
 | [],a=>a
 | p :: ps,a=>mn 1048576 (n1 ps (a+p))
def n2:List Nat→Nat→Nat→Nat
 | [],a,b=>mx a b
 | p :: ps,a,b=>mn (mn 1048576 (n2 ps (a+p) b)) (n2 ps a (b+p))
def n3:List Nat→Nat→Nat→Nat→Nat
 | [],a,b,c=>mx (mx a b) c
 | p :: ps,a,b,c=>mn (mn (mn 1048576 (n3 ps (a+p) b c)) (n3 ps a (b+p) c)) (n3 ps a b (c+p))
def up(l:List Nat):List Int:=l.map fun (n:Nat)=>(n:Int)
theorem r1:List.range 1=[0]:=rfl
theorem r2:List.range 2=[0,1]:=rfl
theorem r3:List.range 3=[0,1,2]:=rfl
end Reg
end Go.Am
end