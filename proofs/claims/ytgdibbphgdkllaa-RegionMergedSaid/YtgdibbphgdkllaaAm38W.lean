/- Part of a proof. -/
import Derived.Test.YtgdibbphgdkllaaAm38E
import Derived.Test.YtgdibbphgdkllaaAmReg3
import Derived.Test.YtgdibbphgdkllaaAm38D
set_option linter.unusedSimpArgs false
set_option linter.unusedVariables false
section
namespace Go.Am
open Go Go.Proofs
abbrev sp48:List (Nat×Md):=[(0,.plain),(1,.plain),(2,.plain),(3,.plain),(8,.plain)]
abbrev sp49:List (Nat×Md):=[(0,.plain),(1,.plain),(2,.plain),(3,.plain),(8,.plain),(9,.plain)]
abbrev sp50:List (Nat×Md):=[(0,.plain),(1,.plain),(2,.plain),(6,.plain),(7,.plain),(8,.plain)]
abbrev sp51:List (Nat×Md):=[(0,.plain),(1,.plain),(2,.plain),(6,.plain)]
abbrev sp52:List (Nat×Md):=[(0,.plain),(1,.plain),(2,.plain),(6,.plain),(7,.plain)]
abbrev sp53:List (Nat×Md):=[(0,.plain),(2,.plain),(8,.plain),(43,.plain),(44,.plain)]
abbrev sp54:List (Nat×Md):=[(2,.plain),(8,.plain),(11,.plain),(55,.plain),(56,.plain),(57,.plain)]
abbrev sp55:List (Nat×Md):=[(2,.plain),(8,.plain),(11,.plain),(13,.plain),(14,.plain),(55,.plain),(56,.plain),(57,.plain),(63,.plain),(64,.plain),(65,.plain)]
abbrev sp56:List (Nat×Md):=[(2,.plain),(8,.plain),(11,.plain),(14,.plain),(55,.plain),(56,.plain),(57,.plain),(89,.plain),(90,.plain),(91,.plain)]
abbrev sp57:List (Nat×Md):=[(0,.plain),(2,.plain),(8,.plain)]
abbrev sp58:List (Nat×Md):=[(2,.plain),(8,.plain),(10,.plain)]
abbrev sp59:List (Nat×Md):=[(2,.plain),(8,.plain),(10,.plain),(11,.plain)]
abbrev sp60:List (Nat×Md):=[(2,.plain),(8,.plain),(11,.plain),(55,.plain),(56,.plain),(57,.plain),(58,.plain)]
abbrev sp61:List (Nat×Md):=[(2,.plain),(8,.plain),(11,.plain),(13,.plain),(55,.plain),(56,.plain),(57,.plain)]
abbrev sp62:List (Nat×Md):=[(2,.plain),(8,.plain),(11,.plain),(13,.plain),(14,.plain),(55,.plain),(56,.plain),(57,.plain)]
abbrev Ty59:=(List Li)×Nat×Int×Int
abbrev Ty60:=Int×Int×Int×(List Li)×Nat
abbrev Ty61:=Int×Int×Int×Int×(List Li)×Nat
abbrev Ty62:=(List Li)×Nat×Int
abbrev Ty63:=Int×Int×(List Li)×Nat
abbrev Ty64:=(List Li)×Int×(List Bool)
abbrev Ty65:=(List Li)×(List Bool)×Li
abbrev Ty66:=(List Li)×(List Bool)×Int×Int×Li
abbrev Ty67:=(List Li)×(List Bool)×Int×Int×Li×Nat
abbrev Ty68:=(List Li)×(List Bool)×Li×Nat
abbrev Ty69:=(List Bool)×Li×Nat×(List Li)
abbrev Ty70:=(List Bool)×Li×Nat×(List Li)×Nat
abbrev Ty71:=(List Bool)×Li×Nat×(List Li)×Nat×Li
abbrev Ty72:=(List Bool)×Int×Int×Li×Nat×Li×(List Li)×Nat
abbrev Ty73:=(List Bool)×Int×Int×Bool×Li×Nat×Li×(List Li)×Nat
abbrev Ty74:=(List Bool)×Li×Int×Int×Li×Nat×Li×(List Li)×Nat
abbrev Ty75:=(List Bool)×Li×Int×Int×Int×Li×Nat×Li×(List Li)×Nat
abbrev Ty76:=(List Bool)×Li×Int×Int×Int×(List Bool)×Int×Int×Li×Nat×Li×(List Li)×Nat
abbrev Ty77:=(List Bool)×Int×Int×Int×Li×Int×Int×Li×Nat×Li×(List Li)×Nat
def lVG3849:List CEnt:=[]
def VG3849:Env:=mkEnv T38 G38 lVG3849
noncomputable abbrev Kf29:=kFin VG3849 none (Try.f49).results.toList
theorem eVG3849:EOk Try.prog VG3849:=eok_mk (by exact trivial)
def Af49(F:Nat):Cuts:={ F:=F,at_:=fun _=>none,join:=fun _=>none }
def ef49_a:Li×Li→St:=fun (a0,a1)=>⟨[(0,(.vs (.rI .i64 a0) 0 1)),(1,(.vs (.rI .i64 a1) 0 1))],[],0,10,0⟩
def f49_1(F:Nat):Li×Li→Rz:=fun (a0,a1)=>(some ((.int .i64 (IntKind.i64.wrap ((↑a1.length:Int)-(↑a0.length:Int)))),[]))
theorem f49_1_eq(F:Nat):∀ v,aexec VG3849 (Af49 F) (sub (bodyOf Try.f49) []) (ef49_a v) Kf29=f49_1 F v:=by
 rintro⟨a0,a1⟩;kernel_rfl
def f49(F:Nat):Li×Li→Rz:=f49_1 F
theorem f49_body(F:Nat)(a0:List Int)(a1:List Int):abody VG3849 (Af49 F) Try.f49 [(.vs (.rI .i64 a0) 0 1),(.vs (.rI .i64 a1) 0 1)] []=f49 F (a0,a1):=
 (abody_in (c:=(sub (bodyOf Try.f49) [])) (by kernel_rfl) (s:=ef49_a (a0,a1)) (by kernel_rfl)).trans (f49_1_eq F (a0,a1))
def r49:CRun:=fun X H=>match X,H with
 | [(.vs (.rI .i64 a0) 0 1),(.vs (.rI .i64 a1) 0 1)],[]=>some (true,(.int .i64 ((a1.length:Int)-(a0.length:Int))),[])
 | _,_=>none
theorem s49(a0:List Int)(a1:List Int)(h0:okV (.vs (.rI .i64 a0) 0 1))(h1:okV (.vs (.rI .i64 a1) 0 1)):∃ F,f49 F (a0,a1)=some ((.int .i64 ((a1.length:Int)-(a0.length:Int))),[]):=by
 have hl0:a0.length < 4611686018427387904:=h0.2
 have hl1:a1.length < 4611686018427387904:=h1.2
 refine⟨0,?_⟩
 simp only [f49,f49_1]
 rw [i64w (by omega) (by omega)]
theorem c49:CallOk Try.prog G38 49 r49:=callOk_of (V:=VG3849) mixed tys eVG3849 (f:=49) (fn:=Try.f49) Try.func49 (by kernel_rfl) (c:=sub (bodyOf Try.f49) []) (by kernel_rfl) (by
 intro X H r H' h hX hH
 unfold r49 at h;split at h <;> try contradiction
 ·simp only [Option.some.injEq,Prod.mk.injEq] at h
  obtain⟨hp,rfl,rfl⟩:=h
  obtain⟨F,hF⟩:=s49 _ _ (hX _ (.head _)) (hX _ (.tail _ (.head _)))
  exact⟨Af49 F,(f49_body F _ _).trans hF⟩)
def r69:CRun:=fun _ _=>none
theorem c69:CallOk Try.prog G38 69 r69:=callOk_never (V:=mkEnv T38 G38 []) Try.func69 (by kernel_rfl) (by kernel_rfl)
def lVG3868:List CEnt:=[(49,[some 3,some 3],r49)]
def VG3868:Env:=mkEnv T38 G38 lVG3868
noncomputable abbrev Kf30:=kFin VG3868 none (Try.f68).results.toList
theorem eVG3868:EOk Try.prog VG3868:=eok_mk (by exact⟨c49,trivial⟩)
def Af68(F:Nat):Cuts:={ F:=F,at_:=fun n=>match n with | 1023=>some sp48 | 4010=>some sp49 | _=>none,join:=fun n=>match n with | 1025=>some sp48 | 2001=>some sp48 | 3017=>some sp48 | 4012=>some sp49 | _=>none }
noncomputable abbrev XAf68(F:Nat){α:Type}:=@aexec α VG3868 (Af68 F)
def ef68_a:Ty59→St:=fun (a0,a0n,a1,a2)=>⟨[(0,.own 0 0 1),(1,.int .i64 a1),(2,.int .i64 a2),(3,.fn 49 .nil)],[(0,(.cells a0n (.rL .i64 a0) true))],1,53,1⟩
def ef68j1:Ty60→St:=fun (t1,t2,t8,x4,x5)=>⟨[(0,.own 0 0 1),(1,.int .i64 t1),(2,.int .i64 t2),(3,.fn 49 .nil),(8,.int .i64 t8)],[(0,(.cells x5 (.rL .i64 x4) true))],1,53,1⟩
def ef68l1:Ty60→St:=ef68j1
def ef68j2:Ty60→St:=ef68j1
def ef68j3:Ty61→St:=fun (t1,t2,t8,t9,x5,x6)=>⟨[(0,.own 0 0 1),(1,.int .i64 t1),(2,.int .i64 t2),(3,.fn 49 .nil),(8,.int .i64 t8),(9,.int .i64 t9)],[(0,(.cells x6 (.rL .i64 x5) true))],1,53,1⟩
def ef68l2:Ty61→St:=ef68j3
def ef68j4:Ty60→St:=ef68j1
def f68_1(F:Nat)(kf68j1:Ty60→Rz):Ty59→Rz:=fun (a0,a0n,a1,a2)=>(kf68j1 (a1,a2,(IntKind.i64.wrap (a1+(1:Int))),a0,a0n))
theorem f68_1_eq(F:Nat)(Rf68j1:St→Rz):∀ v,XAf68 F (bp Try.f68 2) (ef68_a v) (kSeq (kc VG3868 Rf68j1 sp48) Kf30)=f68_1 F (Rf68j1∘ef68j1) v:=by
 rintro⟨a0,a0n,a1,a2⟩;kernel_rfl
def f68_2(F:Nat)(kf68j2:Ty60→Rz)(kf68l1:Ty60→Rz):Ty60→Rz:=fun (t1,t2,t8,x4,x5)=>(cond (decide (t8 < t2)) (kf68j2 (t1,t2,t8,x4,x5)) (some ((.tup .nil),[(.cells x5 (.rL .i64 x4) true)])))
theorem f68_2_eq(F:Nat)(Rf68j2:St→Rz)(Rf68l1:St→Rz):∀ v,XAf68 F (bp Try.f68 24) (ef68l1 v) (kSeq (kc VG3868 Rf68j2 sp48) (kSeq (kc VG3868 Rf68l1 sp48) (kBlock 0 Kf30)))=f68_2 F (Rf68j2∘ef68j2) (Rf68l1∘ef68l1) v:=by
 rintro⟨t1,t2,t8,x4,x5⟩;kernel_rfl
def f68_3(F:Nat)(kf68j3:Ty61→Rz)(kf68j4:Ty60→Rz)(kf68l1:Ty60→Rz):Ty60→Rz:=fun (t1,t2,t8,x4,x5)=>(kf68j3 (t1,t2,t8,t8,x4,x5))
theorem f68_3_eq(F:Nat)(Rf68j3:St→Rz)(Rf68j4:St→Rz)(Rf68l1:St→Rz):∀ v,XAf68 F (bp Try.f68 200) (ef68j2 v) (kSeq (kc VG3868 Rf68j3 sp49) (kBlock 1 (kSeq (kc VG3868 Rf68j4 sp48) (kSeq (kc VG3868 Rf68l1 sp48) (kBlock 0 Kf30)))))=f68_3 F (Rf68j3∘ef68j3) (Rf68j4∘ef68j4) (Rf68l1∘ef68l1) v:=by
 rintro⟨t1,t2,t8,x4,x5⟩;kernel_rfl
def f68_4(F:Nat)(kf68l2:Ty61→Rz)(kf68j4:Ty60→Rz)(kf68l1:Ty60→Rz):Ty61→Rz:=fun (t1,t2,t8,t9,x5,x6)=>(cond (decide (t9 > t1)) (cond ((decide (0≤t9))&&(decide (t9 < (↑x5.length:Int)))) (cond ((decide (0≤(IntKind.i64.wrap (t9-(1:Int)))))&&(decide ((IntKind.i64.wrap (t9-(1:Int))) < (↑x5.length:Int)))) (cond (decide ((((x5.getD (Int.toNat (IntKind.i64.wrap (t9-(1:Int)))) []).length:Int)-((x5.getD (Int.toNat t9) []).length:Int)) < (0:Int))) (cond ((decide (0≤(IntKind.i64.wrap (t9-(1:Int)))))&&(decide ((IntKind.i64.wrap (t9-(1:Int))) < (↑x5.length:Int)))) (cond ((decide (0≤t9))&&(decide (t9 < (↑x5.length:Int)))) (cond ((decide (0≤t9))&&(decide (t9 < (↑x5.length:Int)))) (cond ((decide (0≤(IntKind.i64.wrap (t9-(1:Int)))))&&(decide ((IntKind.i64.wrap (t9-(1:Int))) < (↑(x5.set (Int.toNat t9) (x5.getD (Int.toNat (IntKind.i64.wrap (t9-(1:Int)))) [])).length:Int)))) (kf68l2 (t1,t2,t8,(IntKind.i64.wrap (t9-(1:Int))),((x5.set (Int.toNat t9) (x5.getD (Int.toNat (IntKind.i64.wrap (t9-(1:Int)))) [])).set (Int.toNat (IntKind.i64.wrap (t9-(1:Int)))) (x5.getD (Int.toNat t9) [])),x6)) none) none) none) none) (kf68j4 (t1,t2,t8,x5,x6))) none) none) (kf68j4 (t1,t2,t8,x5,x6)))
theorem f68_4_eq(F:Nat)(Rf68l2:St→Rz)(Rf68j4:St→Rz)(Rf68l1:St→Rz):∀ v,XAf68 F (bp Try.f68 804) (ef68l2 v) (kSeq (kc VG3868 Rf68l2 sp49) (kBlock 2 (kBlock 1 (kSeq (kc VG3868 Rf68j4 sp48) (kSeq (kc VG3868 Rf68l1 sp48) (kBlock 0 Kf30))))))=f68_4 F (Rf68l2∘ef68l2) (Rf68j4∘ef68j4) (Rf68l1∘ef68l1) v:=by
 rintro⟨t1,t2,t8,t9,x5,x6⟩;kernel_rfl
def f68_5_i:Ty61→Int×Int×Int×Int×(List Li)×Nat:=fun (t1,t2,t8,t9,x5,x6)=>(t1,t2,t8,t9,x5,x6)
def f68_5(F:Nat)(kf68j4:Ty60→Rz)(kf68l1:Ty60→Rz):Ty61→Rz:=fun v=>loopN (fun k=>f68_4 F k kf68j4 kf68l1) F (f68_5_i v)
theorem f68_5_eq(F:Nat)(Rf68j4:St→Rz)(Rf68l1:St→Rz):∀ v,XAf68 F (bp Try.f68 402) (ef68j3 v) (kBlock 2 (kBlock 1 (kSeq (kc VG3868 Rf68j4 sp48) (kSeq (kc VG3868 Rf68l1 sp48) (kBlock 0 Kf30)))))=f68_5 F (Rf68j4∘ef68j4) (Rf68l1∘ef68l1) v:=
 loop_cut (by kernel_rfl) (by kernel_rfl) ef68j3 ef68l2 _ f68_5_i (fun k=>f68_4 F k (Rf68j4∘ef68j4) (Rf68l1∘ef68l1))
  (by rintro⟨t1,t2,t8,t9,x5,x6⟩;kernel_rfl) (fun Rf68l2=>f68_4_eq F Rf68l2 Rf68j4 Rf68l1)
def f68_6(F:Nat)(kf68j4:Ty60→Rz)(kf68l1:Ty60→Rz):Ty61→Rz:=f68_5 F kf68j4 kf68l1
theorem f68_6_eq(F:Nat)(Rf68j4:St→Rz)(Rf68l1:St→Rz):∀ v,XAf68 F (bp Try.f68 201) (ef68j3 v) (kBlock 1 (kSeq (kc VG3868 Rf68j4 sp48) (kSeq (kc VG3868 Rf68l1 sp48) (kBlock 0 Kf30))))=f68_6 F (Rf68j4∘ef68j4) (Rf68l1∘ef68l1) v:=fun v=>
 (block_in  (by kernel_rfl) _ _).trans (f68_5_eq F Rf68j4 Rf68l1 v)
def f68_7(F:Nat)(kf68j4:Ty60→Rz)(kf68l1:Ty60→Rz):Ty60→Rz:=fun v=>f68_3 F (f68_6 F kf68j4 kf68l1) kf68j4 kf68l1 v
theorem f68_7_eq(F:Nat)(Rf68j4:St→Rz)(Rf68l1:St→Rz):∀ v,XAf68 F (bp Try.f68 100) (ef68j2 v) (kBlock 1 (kSeq (kc VG3868 Rf68j4 sp48) (kSeq (kc VG3868 Rf68l1 sp48) (kBlock 0 Kf30))))=f68_7 F (Rf68j4∘ef68j4) (Rf68l1∘ef68l1) v:=
 seq_cut (by kernel_rfl) (by kernel_rfl) ef68j2 ef68j3 _ (fun k=>f68_3 F k (Rf68j4∘ef68j4) (Rf68l1∘ef68l1)) (f68_6 F (Rf68j4∘ef68j4) (Rf68l1∘ef68l1))
  (fun Rf68j3=>f68_3_eq F Rf68j3 Rf68j4 Rf68l1) (f68_6_eq F Rf68j4 Rf68l1)
def f68_8(F:Nat)(kf68j4:Ty60→Rz)(kf68l1:Ty60→Rz):Ty60→Rz:=f68_7 F kf68j4 kf68l1
theorem f68_8_eq(F:Nat)(Rf68j4:St→Rz)(Rf68l1:St→Rz):∀ v,XAf68 F (bp Try.f68 50) (ef68j2 v) (kSeq (kc VG3868 Rf68j4 sp48) (kSeq (kc VG3868 Rf68l1 sp48) (kBlock 0 Kf30)))=f68_8 F (Rf68j4∘ef68j4) (Rf68l1∘ef68l1) v:=fun v=>
 (block_in  (by kernel_rfl) _ _).trans (f68_7_eq F Rf68j4 Rf68l1 v)
def f68_9(F:Nat)(kf68l1:Ty60→Rz):Ty60→Rz:=fun (t1,t2,t8,x4,x5)=>(kf68l1 (t1,t2,(IntKind.i64.wrap (t8+(1:Int))),x4,x5))
theorem f68_9_eq(F:Nat)(Rf68l1:St→Rz):∀ v,XAf68 F (bp Try.f68 51) (ef68j4 v) (kSeq (kc VG3868 Rf68l1 sp48) (kBlock 0 Kf30))=f68_9 F (Rf68l1∘ef68l1) v:=by
 rintro⟨t1,t2,t8,x4,x5⟩;kernel_rfl
def f68_10(F:Nat)(kf68l1:Ty60→Rz):Ty60→Rz:=fun v=>f68_8 F (f68_9 F kf68l1) kf68l1 v
theorem f68_10_eq(F:Nat)(Rf68l1:St→Rz):∀ v,XAf68 F (bp Try.f68 25) (ef68j2 v) (kSeq (kc VG3868 Rf68l1 sp48) (kBlock 0 Kf30))=f68_10 F (Rf68l1∘ef68l1) v:=
 seq_cut (by kernel_rfl) (by kernel_rfl) ef68j2 ef68j4 _ (fun k=>f68_8 F k (Rf68l1∘ef68l1)) (f68_9 F (Rf68l1∘ef68l1))
  (fun Rf68j4=>f68_8_eq F Rf68j4 Rf68l1) (f68_9_eq F Rf68l1)
def f68_11(F:Nat)(kf68l1:Ty60→Rz):Ty60→Rz:=fun v=>f68_2 F (f68_10 F kf68l1) kf68l1 v
theorem f68_11_eq(F:Nat)(Rf68l1:St→Rz):∀ v,XAf68 F (bp Try.f68 12) (ef68l1 v) (kSeq (kc VG3868 Rf68l1 sp48) (kBlock 0 Kf30))=f68_11 F (Rf68l1∘ef68l1) v:=
 seq_cut (by kernel_rfl) (by kernel_rfl) ef68l1 ef68j2 _ (fun k=>f68_2 F k (Rf68l1∘ef68l1)) (f68_10 F (Rf68l1∘ef68l1))
  (fun Rf68j2=>f68_2_eq F Rf68j2 Rf68l1) (f68_10_eq F Rf68l1)
def f68_12_i:Ty60→Int×Int×Int×(List Li)×Nat:=fun (t1,t2,t8,x4,x5)=>(t1,t2,t8,x4,x5)
def f68_12(F:Nat):Ty60→Rz:=fun v=>loopN (fun k=>f68_11 F k) F (f68_12_i v)
theorem f68_12_eq(F:Nat):∀ v,XAf68 F (bp Try.f68 6) (ef68j1 v) (kBlock 0 Kf30)=f68_12 F v:=
 loop_cut (by kernel_rfl) (by kernel_rfl) ef68j1 ef68l1 _ f68_12_i (fun k=>f68_11 F k)
  (by rintro⟨t1,t2,t8,x4,x5⟩;kernel_rfl) (fun Rf68l1=>f68_11_eq F Rf68l1)
def f68_13(F:Nat):Ty60→Rz:=f68_12 F
theorem f68_13_eq(F:Nat):∀ v,XAf68 F (bp Try.f68 3) (ef68j1 v) Kf30=f68_13 F v:=fun v=>
 (block_in  (by kernel_rfl) _ _).trans (f68_12_eq F v)
def f68_14(F:Nat):Ty59→Rz:=fun v=>f68_1 F (f68_13 F) v
theorem f68_14_eq(F:Nat):∀ v,XAf68 F (sub (bodyOf Try.f68) []) (ef68_a v) Kf30=f68_14 F v:=
 seq_cut (by kernel_rfl) (by kernel_rfl) ef68_a ef68j1 _ (fun k=>f68_1 F k) (f68_13 F)
  (fun Rf68j1=>f68_1_eq F Rf68j1) (f68_13_eq F)
def f68(F:Nat):Ty59→Rz:=f68_14 F
theorem f68_body(F:Nat)(a0:List Li)(a0n:Nat)(a1:Int)(a2:Int):abody VG3868 (Af68 F) Try.f68 [(.own 0 0 1),.int .i64 a1,.int .i64 a2,.fn 49 .nil] [(.cells a0n (.rL .i64 a0) true)]=f68 F (a0,a0n,a1,a2):=
 (abody_in (c:=(sub (bodyOf Try.f68) [])) (by kernel_rfl) (s:=ef68_a (a0,a0n,a1,a2)) (by kernel_rfl)).trans (f68_14_eq F (a0,a0n,a1,a2))
def r68:CRun:=fun X H=>match X,H with
 | [(.own 0 0 1),.int .i64 a1,.int .i64 a2,.fn 49 .nil],[(.cells a0n (.rL .i64 a0) true)]=>some (((decide (a2=(a0.length:Int)))&&(decide (a1=(0:Int)))),.tup .nil,[(.cells a0n (.rL .i64 (Reg.sortD a0)) true)])
 | _,_=>none
theorem s68(a0:List Li)(a0n:Nat)(a1:Int)(a2:Int)(hp:(((decide (a2=(a0.length:Int)))&&(decide (a1=(0:Int)))))=true)(h1:okV (.int .i64 a1))(h2:okV (.int .i64 a2))(k0:okB (.cells a0n (.rL .i64 a0) true)):∃ F,f68 F (a0,a0n,a1,a2)=some ((.tup .nil),[(.cells a0n (.rL .i64 (Reg.sortD a0)) true)]):=by
 simp only [Bool.and_eq_true,decide_eq_true_eq] at hp
 obtain⟨rfl,rfl⟩:=hp
 have hl:(a0.length:Int)≤9223372036854775807:=h2.2
 cases a0 with
 | nil=>exact⟨1,rfl⟩
 | cons z l=>
 refine⟨(z :: l).length+1,?_⟩
 simp only [f68,f68_14,f68_1,f68_13,f68_12,f68_12_i]
 have hz:(z :: l).length=l.length+1:=rfl
 rw [i64w (by omega) (by omega)]
 refine loopN_from (fun i=>((0:Int),((z :: l).length:Int),((i+1:Nat):Int),Reg.sortD ((z :: l).take (i+1))++(z :: l).drop (i+1),a0n)) l.length (by rfl) (fun i hi k=>?_) (fun k=>?_) _ (by omega)
 ·simp only [f68_11,f68_2,f68_10,f68_8,f68_7,f68_3,f68_6,f68_5,f68_5_i]
  rw [cond_pos (by omega)]
  generalize hL:z :: l=L at *
  have hx:L.drop (i+1)=L.getD (i+1) [] :: L.drop (i+2):=by
   rw [List.drop_eq_getElem_cons (by omega),List.getD_eq_getElem?_getD,List.getElem?_eq_getElem (by omega)];rfl
  have ht:L.take (i+2)=L.take (i+1)++[L.getD (i+1) []]:=by
   rw [List.take_add_one,List.getElem?_eq_getElem (by omega),List.getD_eq_getElem?_getD,List.getElem?_eq_getElem (by omega)];rfl
  rw [hx,ht,Reg.sortD_concat]
  have hA:(Reg.sortD (L.take (i+1))).length=i+1:=by rw [Reg.sortD_len,List.length_take];omega
  have hS:=Reg.sortD_sorted (L.take (i+1))
  have hR:(L.drop (i+2)).length=L.length-(i+2):=List.length_drop
  generalize Reg.sortD (L.take (i+1))=A at *
  generalize L.getD (i+1) []=x at *
  generalize L.drop (i+2)=R at *
  have hp:=Reg.posR_le x A
  refine loopN_from (fun s=>((0:Int),(L.length:Int),((i+1:Nat):Int),((i+1-s:Nat):Int),Reg.slide x A R (i+1-s),a0n)) (i+1-Reg.posR x A) (by simp only [Nat.sub_zero,Reg.slide,← hA,List.take_length,List.drop_length,List.nil_append]) (fun s hs k'=>?_) (fun k'=>?_) _ (by omega)
  ·simp only [f68_4,dec_and]
   obtain⟨j,hj⟩:∃ j,i+1-s=j+1:=⟨i-s,by omega⟩
   have hl1:=Reg.slide_len x A R (j+1)
   have e1:=Reg.posR_lt x A j hS (by omega) (by omega)
   have hw:IntKind.i64.wrap (((j+1:Nat):Int)-1)=(j:Int):=by rw [i64w (by omega) (by omega)];omega
   rw [hj,hw,cond_pos (by omega),cond_pos (by omega),cond_pos (by omega),Int.toNat_natCast,Int.toNat_natCast,Reg.slide_at x A R (j+1) (by omega),Reg.slide_lt x A R (j+1) j (by omega) (by omega),cond_pos (by omega),cond_pos (by omega),cond_pos (by omega),cond_pos (by omega),cond_pos (by rw [List.length_set];omega),Reg.slide_swap x A R j (by omega),show i+1-(s+1)=j by omega]
  ·simp only [f68_4,dec_and]
   have he:i+1-(i+1-Reg.posR x A)=Reg.posR x A:=by omega
   rw [he]
   have hf:∀ (K:Int×Int×Int×List Li×Nat→Rz),f68_9 (L.length+1) K (0,(L.length:Int),((i+1:Nat):Int),Reg.slide x A R (Reg.posR x A),a0n)=K (0,(L.length:Int),((i+1+1:Nat):Int),Reg.insR x A++R,a0n):=by
    intro K
    simp only [f68_9]
    rw [i64w (by omega) (by omega),Reg.slide_end]
    rfl
   by_cases h0:Reg.posR x A=0
   ·rw [cond_neg (by omega)]
    exact hf _
   ·obtain⟨j,hj⟩:∃ j,Reg.posR x A=j+1:=⟨Reg.posR x A-1,by omega⟩
    have hl1:=Reg.slide_len x A R (j+1)
    have e1:=Reg.posR_ge x A j (by omega)
    have hw:IntKind.i64.wrap (((j+1:Nat):Int)-1)=(j:Int):=by rw [i64w (by omega) (by omega)];omega
    rw [hj] at hf ⊢
    rw [hw,cond_pos (by omega),cond_pos (by omega),cond_pos (by omega),Int.toNat_natCast,Int.toNat_natCast,Reg.slide_at x A R (j+1) (by omega),Reg.slide_lt x A R (j+1) j (by omega) (by omega),cond_neg (by omega)]
    exact hf _
 ·simp only [f68_11,f68_2]
  rw [cond_neg (by omega),← hz,List.take_length,List.drop_length,List.append_nil]
theorem c68:CallOk Try.prog G38 68 r68:=callOk_of (V:=VG3868) mixed tys eVG3868 (f:=68) (fn:=Try.f68) Try.func68 (by kernel_rfl) (c:=sub (bodyOf Try.f68) []) (by kernel_rfl) (by
 intro X H r H' h hX hH
 unfold r68 at h;split at h <;> try contradiction
 ·simp only [Option.some.injEq,Prod.mk.injEq] at h
  obtain⟨hp,rfl,rfl⟩:=h
  obtain⟨F,hF⟩:=s68 _ _ _ _ hp (hX _ (.tail _ (.head _))) (hX _ (.tail _ (.tail _ (.head _)))) (hH _ (.head _))
  exact⟨Af68 F,(f68_body F _ _ _ _).trans hF⟩)
def lVG3860:List CEnt:=[(68,[none,none,none,none],r68),(69,[none,none,none,none,none],r69)]
def VG3860:Env:=mkEnv T38 G38 lVG3860
noncomputable abbrev Kf31:=kFin VG3860 none (Try.f60).results.toList
theorem eVG3860:EOk Try.prog VG3860:=eok_mk (by exact⟨c68,c69,trivial⟩)
def Af60(F:Nat):Cuts:={ F:=F,at_:=fun n=>match n with | 2012=>some sp50 | 7033=>some sp51 | 9012=>some sp50 | _=>none,join:=fun n=>match n with | 1054=>some sp51 | 2052=>some sp50 | 6037=>some sp52 | 7035=>some sp51 | 8027=>some sp51 | 9024=>some sp50 | 13009=>some sp52 | _=>none }
noncomputable abbrev XAf60(F:Nat){α:Type}:=@aexec α VG3860 (Af60 F)
def ef60_a:Ty62→St:=fun (a0,a0n,a1)=>⟨[(0,.own 0 0 1),(1,.int .i64 a1),(2,.fn 49 .nil)],[(0,(.cells a0n (.rL .i64 a0) true))],1,63,1⟩
def ef60j1:Ty63→St:=fun (t1,t6,x3,x4)=>⟨[(0,.own 0 0 1),(1,.int .i64 t1),(2,.fn 49 .nil),(6,.int .i64 t6)],[(0,(.cells x4 (.rL .i64 x3) true))],1,63,1⟩
def ef60j2:Ty61→St:=fun (t1,t6,t7,t8,x5,x6)=>⟨[(0,.own 0 0 1),(1,.int .i64 t1),(2,.fn 49 .nil),(6,.int .i64 t6),(7,.int .i64 t7),(8,.int .i64 t8)],[(0,(.cells x6 (.rL .i64 x5) true))],1,63,1⟩
def ef60l1:Ty61→St:=ef60j2
def ef60j3:Ty60→St:=fun (t1,t6,t7,x4,x5)=>⟨[(0,.own 0 0 1),(1,.int .i64 t1),(2,.fn 49 .nil),(6,.int .i64 t6),(7,.int .i64 t7)],[(0,(.cells x5 (.rL .i64 x4) true))],1,63,1⟩
def ef60j4:Ty63→St:=ef60j1
def ef60l2:Ty63→St:=ef60j1
def ef60j5:Ty63→St:=ef60j1
def ef60j6:Ty61→St:=ef60j2
def ef60l3:Ty61→St:=ef60j2
def ef60j7:Ty60→St:=ef60j3
def f60_1(F:Nat)(kf60j1:Ty63→Rz):Ty62→Rz:=fun (a0,a0n,a1)=>(kf60j1 (a1,(20:Int),a0,a0n))
theorem f60_1_eq(F:Nat)(Rf60j1:St→Rz):∀ v,XAf60 F (bp Try.f60 2) (ef60_a v) (kSeq (kc VG3860 Rf60j1 sp51) Kf31)=f60_1 F (Rf60j1∘ef60j1) v:=by
 rintro⟨a0,a0n,a1⟩;kernel_rfl
def f60_2(F:Nat)(kf60j2:Ty61→Rz):Ty63→Rz:=fun (t1,t6,x3,x4)=>(kf60j2 (t1,t6,(0:Int),t6,x3,x4))
theorem f60_2_eq(F:Nat)(Rf60j2:St→Rz):∀ v,XAf60 F (bp Try.f60 6) (ef60j1 v) (kSeq (kc VG3860 Rf60j2 sp50) Kf31)=f60_2 F (Rf60j2∘ef60j2) v:=by
 rintro⟨t1,t6,x3,x4⟩;kernel_rfl
def f60_3(F:Nat)(kf60l1:Ty61→Rz)(kf60j3:Ty60→Rz):Ty61→Rz:=fun (t1,t6,t7,t8,x5,x6)=>(cond (decide (t8≤t1)) (cond ((decide (t8=(x5.length:Int)))&&(decide (t7=(0:Int)))) (kf60l1 (t1,t6,t8,(IntKind.i64.wrap (t8+t6)),(Reg.sortD x5),x6)) none) (kf60j3 (t1,t6,t7,x5,x6)))
theorem f60_3_eq(F:Nat)(Rf60l1:St→Rz)(Rf60j3:St→Rz):∀ v,XAf60 F (bp Try.f60 56) (ef60l1 v) (kSeq (kc VG3860 Rf60l1 sp50) (kBlock 0 (kSeq (kc VG3860 Rf60j3 sp52) Kf31)))=f60_3 F (Rf60l1∘ef60l1) (Rf60j3∘ef60j3) v:=by
 rintro⟨t1,t6,t7,t8,x5,x6⟩;kernel_rfl
def f60_4_i:Ty61→Int×Int×Int×Int×(List Li)×Nat:=fun (t1,t6,t7,t8,x5,x6)=>(t1,t6,t7,t8,x5,x6)
def f60_4(F:Nat)(kf60j3:Ty60→Rz):Ty61→Rz:=fun v=>loopN (fun k=>f60_3 F k kf60j3) F (f60_4_i v)
theorem f60_4_eq(F:Nat)(Rf60j3:St→Rz):∀ v,XAf60 F (bp Try.f60 28) (ef60j2 v) (kBlock 0 (kSeq (kc VG3860 Rf60j3 sp52) Kf31))=f60_4 F (Rf60j3∘ef60j3) v:=
 loop_cut (by kernel_rfl) (by kernel_rfl) ef60j2 ef60l1 _ f60_4_i (fun k=>f60_3 F k (Rf60j3∘ef60j3))
  (by rintro⟨t1,t6,t7,t8,x5,x6⟩;kernel_rfl) (fun Rf60l1=>f60_3_eq F Rf60l1 Rf60j3)
def f60_5(F:Nat)(kf60j3:Ty60→Rz):Ty61→Rz:=f60_4 F kf60j3
theorem f60_5_eq(F:Nat)(Rf60j3:St→Rz):∀ v,XAf60 F (bp Try.f60 14) (ef60j2 v) (kSeq (kc VG3860 Rf60j3 sp52) Kf31)=f60_5 F (Rf60j3∘ef60j3) v:=fun v=>
 (block_in  (by kernel_rfl) _ _).trans (f60_4_eq F Rf60j3 v)
def f60_6(F:Nat)(kf60j4:Ty63→Rz):Ty60→Rz:=fun (t1,t6,t7,x4,x5)=>(cond ((decide (t1=(x4.length:Int)))&&(decide (t7=(0:Int)))) (kf60j4 (t1,t6,(Reg.sortD x4),x5)) none)
theorem f60_6_eq(F:Nat)(Rf60j4:St→Rz):∀ v,XAf60 F (bp Try.f60 30) (ef60j3 v) (kSeq (kc VG3860 Rf60j4 sp51) Kf31)=f60_6 F (Rf60j4∘ef60j4) v:=by
 rintro⟨t1,t6,t7,x4,x5⟩;kernel_rfl
def f60_7(F:Nat)(kf60j5:Ty63→Rz)(kf60l2:Ty63→Rz):Ty63→Rz:=fun (t1,t6,x3,x4)=>(cond (decide (t6 < t1)) (kf60j5 (t1,t6,x3,x4)) (some ((.tup .nil),[(.cells x4 (.rL .i64 x3) true)])))
theorem f60_7_eq(F:Nat)(Rf60j5:St→Rz)(Rf60l2:St→Rz):∀ v,XAf60 F (bp Try.f60 248) (ef60l2 v) (kSeq (kc VG3860 Rf60j5 sp51) (kSeq (kc VG3860 Rf60l2 sp51) (kBlock 2 Kf31)))=f60_7 F (Rf60j5∘ef60j5) (Rf60l2∘ef60l2) v:=by
 rintro⟨t1,t6,x3,x4⟩;kernel_rfl
def f60_8(F:Nat)(kf60j6:Ty61→Rz)(kf60l2:Ty63→Rz):Ty63→Rz:=fun (t1,t6,x3,x4)=>(kf60j6 (t1,t6,(0:Int),(IntKind.i64.wrap ((2:Int)*t6)),x3,x4))
theorem f60_8_eq(F:Nat)(Rf60j6:St→Rz)(Rf60l2:St→Rz):∀ v,XAf60 F (bp Try.f60 996) (ef60j5 v) (kSeq (kc VG3860 Rf60j6 sp50) (kBlock 3 (kSeq (kc VG3860 Rf60l2 sp51) (kBlock 2 Kf31))))=f60_8 F (Rf60j6∘ef60j6) (Rf60l2∘ef60l2) v:=by
 rintro⟨t1,t6,x3,x4⟩;kernel_rfl
def f60_9(F:Nat)(kf60l3:Ty61→Rz)(kf60j7:Ty60→Rz)(kf60l2:Ty63→Rz):Ty61→Rz:=fun (t1,t6,t7,t8,x5,x6)=>(cond (decide (t8≤t1)) none (kf60j7 (t1,t6,t7,x5,x6)))
theorem f60_9_eq(F:Nat)(Rf60l3:St→Rz)(Rf60j7:St→Rz)(Rf60l2:St→Rz):∀ v,XAf60 F (bp Try.f60 7976) (ef60l3 v) (kSeq (kc VG3860 Rf60l3 sp50) (kBlock 4 (kSeq (kc VG3860 Rf60j7 sp52) (kBlock 3 (kSeq (kc VG3860 Rf60l2 sp51) (kBlock 2 Kf31))))))=f60_9 F (Rf60l3∘ef60l3) (Rf60j7∘ef60j7) (Rf60l2∘ef60l2) v:=by
 rintro⟨t1,t6,t7,t8,x5,x6⟩;kernel_rfl
def f60_10_i:Ty61→Int×Int×Int×Int×(List Li)×Nat:=fun (t1,t6,t7,t8,x5,x6)=>(t1,t6,t7,t8,x5,x6)
def f60_10(F:Nat)(kf60j7:Ty60→Rz)(kf60l2:Ty63→Rz):Ty61→Rz:=fun v=>loopN (fun k=>f60_9 F k kf60j7 kf60l2) F (f60_10_i v)
theorem f60_10_eq(F:Nat)(Rf60j7:St→Rz)(Rf60l2:St→Rz):∀ v,XAf60 F (bp Try.f60 3988) (ef60j6 v) (kBlock 4 (kSeq (kc VG3860 Rf60j7 sp52) (kBlock 3 (kSeq (kc VG3860 Rf60l2 sp51) (kBlock 2 Kf31)))))=f60_10 F (Rf60j7∘ef60j7) (Rf60l2∘ef60l2) v:=
 loop_cut (by kernel_rfl) (by kernel_rfl) ef60j6 ef60l3 _ f60_10_i (fun k=>f60_9 F k (Rf60j7∘ef60j7) (Rf60l2∘ef60l2))
  (by rintro⟨t1,t6,t7,t8,x5,x6⟩;kernel_rfl) (fun Rf60l3=>f60_9_eq F Rf60l3 Rf60j7 Rf60l2)
def f60_11(F:Nat)(kf60j7:Ty60→Rz)(kf60l2:Ty63→Rz):Ty61→Rz:=f60_10 F kf60j7 kf60l2
theorem f60_11_eq(F:Nat)(Rf60j7:St→Rz)(Rf60l2:St→Rz):∀ v,XAf60 F (bp Try.f60 1994) (ef60j6 v) (kSeq (kc VG3860 Rf60j7 sp52) (kBlock 3 (kSeq (kc VG3860 Rf60l2 sp51) (kBlock 2 Kf31))))=f60_11 F (Rf60j7∘ef60j7) (Rf60l2∘ef60l2) v:=fun v=>
 (block_in  (by kernel_rfl) _ _).trans (f60_10_eq F Rf60j7 Rf60l2 v)
def f60_12(F:Nat)(kf60l2:Ty63→Rz):Ty60→Rz:=fun (t1,t6,t7,x4,x5)=>(cond (decide ((IntKind.i64.wrap (t7+t6)) < t1)) none (kf60l2 (t1,(IntKind.i64.wrap (t6*(2:Int))),x4,x5)))
theorem f60_12_eq(F:Nat)(Rf60l2:St→Rz):∀ v,XAf60 F (bp Try.f60 1995) (ef60j7 v) (kBlock 3 (kSeq (kc VG3860 Rf60l2 sp51) (kBlock 2 Kf31)))=f60_12 F (Rf60l2∘ef60l2) v:=by
 rintro⟨t1,t6,t7,x4,x5⟩;kernel_rfl
def f60_13(F:Nat)(kf60l2:Ty63→Rz):Ty61→Rz:=fun v=>f60_11 F (f60_12 F kf60l2) kf60l2 v
theorem f60_13_eq(F:Nat)(Rf60l2:St→Rz):∀ v,XAf60 F (bp Try.f60 997) (ef60j6 v) (kBlock 3 (kSeq (kc VG3860 Rf60l2 sp51) (kBlock 2 Kf31)))=f60_13 F (Rf60l2∘ef60l2) v:=
 seq_cut (by kernel_rfl) (by kernel_rfl) ef60j6 ef60j7 _ (fun k=>f60_11 F k (Rf60l2∘ef60l2)) (f60_12 F (Rf60l2∘ef60l2))
  (fun Rf60j7=>f60_11_eq F Rf60j7 Rf60l2) (f60_12_eq F Rf60l2)
def f60_14(F:Nat)(kf60l2:Ty63→Rz):Ty63→Rz:=fun v=>f60_8 F (f60_13 F kf60l2) kf60l2 v
theorem f60_14_eq(F:Nat)(Rf60l2:St→Rz):∀ v,XAf60 F (bp Try.f60 498) (ef60j5 v) (kBlock 3 (kSeq (kc VG3860 Rf60l2 sp51) (kBlock 2 Kf31)))=f60_14 F (Rf60l2∘ef60l2) v:=
 seq_cut (by kernel_rfl) (by kernel_rfl) ef60j5 ef60j6 _ (fun k=>f60_8 F k (Rf60l2∘ef60l2)) (f60_13 F (Rf60l2∘ef60l2))
  (fun Rf60j6=>f60_8_eq F Rf60j6 Rf60l2) (f60_13_eq F Rf60l2)
def f60_15(F:Nat)(kf60l2:Ty63→Rz):Ty63→Rz:=f60_14 F kf60l2
theorem f60_15_eq(F:Nat)(Rf60l2:St→Rz):∀ v,XAf60 F (bp Try.f60 249) (ef60j5 v) (kSeq (kc VG3860 Rf60l2 sp51) (kBlock 2 Kf31))=f60_15 F (Rf60l2∘ef60l2) v:=fun v=>
 (block_in  (by kernel_rfl) _ _).trans (f60_14_eq F Rf60l2 v)
def f60_16(F:Nat)(kf60l2:Ty63→Rz):Ty63→Rz:=fun v=>f60_7 F (f60_15 F kf60l2) kf60l2 v
theorem f60_16_eq(F:Nat)(Rf60l2:St→Rz):∀ v,XAf60 F (bp Try.f60 124) (ef60l2 v) (kSeq (kc VG3860 Rf60l2 sp51) (kBlock 2 Kf31))=f60_16 F (Rf60l2∘ef60l2) v:=
 seq_cut (by kernel_rfl) (by kernel_rfl) ef60l2 ef60j5 _ (fun k=>f60_7 F k (Rf60l2∘ef60l2)) (f60_15 F (Rf60l2∘ef60l2))
  (fun Rf60j5=>f60_7_eq F Rf60j5 Rf60l2) (f60_15_eq F Rf60l2)
def f60_17_i:Ty63→Int×Int×(List Li)×Nat:=fun (t1,t6,x3,x4)=>(t1,t6,x3,x4)
def f60_17(F:Nat):Ty63→Rz:=fun v=>loopN (fun k=>f60_16 F k) F (f60_17_i v)
theorem f60_17_eq(F:Nat):∀ v,XAf60 F (bp Try.f60 62) (ef60j4 v) (kBlock 2 Kf31)=f60_17 F v:=
 loop_cut (by kernel_rfl) (by kernel_rfl) ef60j4 ef60l2 _ f60_17_i (fun k=>f60_16 F k)
  (by rintro⟨t1,t6,x3,x4⟩;kernel_rfl) (fun Rf60l2=>f60_16_eq F Rf60l2)
def f60_18(F:Nat):Ty63→Rz:=f60_17 F
theorem f60_18_eq(F:Nat):∀ v,XAf60 F (bp Try.f60 31) (ef60j4 v) Kf31=f60_18 F v:=fun v=>
 (block_in  (by kernel_rfl) _ _).trans (f60_17_eq F v)
def f60_19(F:Nat):Ty60→Rz:=fun v=>f60_6 F (f60_18 F) v
theorem f60_19_eq(F:Nat):∀ v,XAf60 F (bp Try.f60 15) (ef60j3 v) Kf31=f60_19 F v:=
 seq_cut (by kernel_rfl) (by kernel_rfl) ef60j3 ef60j4 _ (fun k=>f60_6 F k) (f60_18 F)
  (fun Rf60j4=>f60_6_eq F Rf60j4) (f60_18_eq F)
def f60_20(F:Nat):Ty61→Rz:=fun v=>f60_5 F (f60_19 F) v
theorem f60_20_eq(F:Nat):∀ v,XAf60 F (bp Try.f60 7) (ef60j2 v) Kf31=f60_20 F v:=
 seq_cut (by kernel_rfl) (by kernel_rfl) ef60j2 ef60j3 _ (fun k=>f60_5 F k) (f60_19 F)
  (fun Rf60j3=>f60_5_eq F Rf60j3) (f60_19_eq F)
def f60_21(F:Nat):Ty63→Rz:=fun v=>f60_2 F (f60_20 F) v
theorem f60_21_eq(F:Nat):∀ v,XAf60 F (bp Try.f60 3) (ef60j1 v) Kf31=f60_21 F v:=
 seq_cut (by kernel_rfl) (by kernel_rfl) ef60j1 ef60j2 _ (fun k=>f60_2 F k) (f60_20 F)
  (fun Rf60j2=>f60_2_eq F Rf60j2) (f60_20_eq F)
def f60_22(F:Nat):Ty62→Rz:=fun v=>f60_1 F (f60_21 F) v
theorem f60_22_eq(F:Nat):∀ v,XAf60 F (sub (bodyOf Try.f60) []) (ef60_a v) Kf31=f60_22 F v:=
 seq_cut (by kernel_rfl) (by kernel_rfl) ef60_a ef60j1 _ (fun k=>f60_1 F k) (f60_21 F)
  (fun Rf60j1=>f60_1_eq F Rf60j1) (f60_21_eq F)
def f60(F:Nat):Ty62→Rz:=f60_22 F
theorem f60_body(F:Nat)(a0:List Li)(a0n:Nat)(a1:Int):abody VG3860 (Af60 F) Try.f60 [(.own 0 0 1),.int .i64 a1,.fn 49 .nil] [(.cells a0n (.rL .i64 a0) true)]=f60 F (a0,a0n,a1):=
 (abody_in (c:=(sub (bodyOf Try.f60) [])) (by kernel_rfl) (s:=ef60_a (a0,a0n,a1)) (by kernel_rfl)).trans (f60_22_eq F (a0,a0n,a1))
def r60:CRun:=fun X H=>match X,H with
 | [(.own 0 0 1),.int .i64 a1,.fn 49 .nil],[(.cells a0n (.rL .i64 a0) true)]=>some (((decide (a1=(a0.length:Int)))&&(decide (a1 < 20))),.tup .nil,[(.cells a0n (.rL .i64 (Reg.sortD a0)) true)])
 | _,_=>none
theorem s60(a0:List Li)(a0n:Nat)(a1:Int)(hp:(((decide (a1=(a0.length:Int)))&&(decide (a1 < 20))))=true)(h1:okV (.int .i64 a1))(k0:okB (.cells a0n (.rL .i64 a0) true)):∃ F,f60 F (a0,a0n,a1)=some ((.tup .nil),[(.cells a0n (.rL .i64 (Reg.sortD a0)) true)]):=by
 simp only [Bool.and_eq_true,decide_eq_true_eq] at hp
 obtain⟨rfl,hp⟩:=hp
 refine⟨1,?_⟩
 simp only [f60,f60_22,f60_1,f60_21,f60_2,f60_20,f60_5,f60_4,f60_4_i]
 refine loopN_from (fun _=>((a0.length:Int),(20:Int),(0:Int),(20:Int),a0,a0n)) 0 (by rfl) (fun i hi=>absurd hi (by omega)) (fun k=>?_) _ (by omega)
 have h:(decide ((a0.length:Int)=(a0.length:Int))&&decide ((0:Int)=(0:Int)))=true:=by simp
 simp only [f60_3]
 rw [cond_neg (by omega)]
 unfold f60_19 f60_6
 dsimp only
 rw [h,cond_true]
 simp only [f60_18,f60_17,f60_17_i]
 refine loopN_from (fun _=>((a0.length:Int),(20:Int),Reg.sortD a0,a0n)) 0 (by rfl) (fun i hi=>absurd hi (by omega)) (fun k=>?_) _ (by omega)
 simp only [f60_16,f60_7]
 rw [cond_neg (by omega)]
theorem c60:CallOk Try.prog G38 60 r60:=callOk_of (V:=VG3860) mixed tys eVG3860 (f:=60) (fn:=Try.f60) Try.func60 (by kernel_rfl) (c:=sub (bodyOf Try.f60) []) (by kernel_rfl) (by
 intro X H r H' h hX hH
 unfold r60 at h;split at h <;> try contradiction
 ·simp only [Option.some.injEq,Prod.mk.injEq] at h
  obtain⟨hp,rfl,rfl⟩:=h
  obtain⟨F,hF⟩:=s60 _ _ _ hp (hX _ (.tail _ (.head _))) (hH _ (.head _))
  exact⟨Af60 F,(f60_body F _ _ _).trans hF⟩)
def lVG3848:List CEnt:=[(60,[none,none,none],r60)]
def VG3848:Env:=mkEnv T38 G38 lVG3848
noncomputable abbrev Kf32:=kFin VG3848 none (Try.f48).results.toList
theorem eVG3848:EOk Try.prog VG3848:=eok_mk (by exact⟨c60,trivial⟩)
def Af48(F:Nat):Cuts:={ F:=F,at_:=fun _=>none,join:=fun _=>none }
def ef48_a:(List Li)×Nat→St:=fun (a0,a0n)=>⟨[(0,.own 0 0 1),(1,.fn 49 .nil)],[(0,(.cells a0n (.rL .i64 a0) true))],1,9,1⟩
def f48_1(F:Nat):(List Li)×Nat→Rz:=fun (a0,a0n)=>(cond ((decide ((↑a0.length:Int)=(a0.length:Int)))&&(decide ((↑a0.length:Int) < 20))) (some ((.tup .nil),[(.cells a0n (.rL .i64 (Reg.sortD a0)) true)])) none)
theorem f48_1_eq(F:Nat):∀ v,aexec VG3848 (Af48 F) (sub (bodyOf Try.f48) []) (ef48_a v) Kf32=f48_1 F v:=by
 rintro⟨a0,a0n⟩;kernel_rfl
def f48(F:Nat):(List Li)×Nat→Rz:=f48_1 F
theorem f48_body(F:Nat)(a0:List Li)(a0n:Nat):abody VG3848 (Af48 F) Try.f48 [(.own 0 0 1),.fn 49 .nil] [(.cells a0n (.rL .i64 a0) true)]=f48 F (a0,a0n):=
 (abody_in (c:=(sub (bodyOf Try.f48) [])) (by kernel_rfl) (s:=ef48_a (a0,a0n)) (by kernel_rfl)).trans (f48_1_eq F (a0,a0n))
def r48:CRun:=fun X H=>match X,H with
 | [(.own 0 0 1),.fn 49 .nil],[(.cells a0n (.rL .i64 a0) true)]=>some ((decide (a0.length < 20)),.tup .nil,[(.cells a0n (.rL .i64 (Reg.sortD a0)) true)])
 | _,_=>none
theorem s48(a0:List Li)(a0n:Nat)(hp:((decide (a0.length < 20)))=true)(k0:okB (.cells a0n (.rL .i64 a0) true)):∃ F,f48 F (a0,a0n)=some ((.tup .nil),[(.cells a0n (.rL .i64 (Reg.sortD a0)) true)]):=by
 simp only [decide_eq_true_eq] at hp
 refine⟨0,?_⟩
 have h:(decide ((a0.length:Int)=(a0.length:Int))&&decide ((a0.length:Int) < 20))=true:=by simp;omega
 unfold f48 f48_1
 dsimp only
 rw [h,cond_true]
theorem c48:CallOk Try.prog G38 48 r48:=callOk_of (V:=VG3848) mixed tys eVG3848 (f:=48) (fn:=Try.f48) Try.func48 (by kernel_rfl) (c:=sub (bodyOf Try.f48) []) (by kernel_rfl) (by
 intro X H r H' h hX hH
 unfold r48 at h;split at h <;> try contradiction
 ·simp only [Option.some.injEq,Prod.mk.injEq] at h
  obtain⟨hp,rfl,rfl⟩:=h
  obtain⟨F,hF⟩:=s48 _ _ hp (hH _ (.head _))
  exact⟨Af48 F,(f48_body F _ _).trans hF⟩)
def lVG3823:List CEnt:=[(37,[some 22,none,some 3,some 4],r37),(38,[some 4],r38),(47,[some 22],r47),(48,[none,none],r48)]
def VG3823:Env:=mkEnv T38 G38 lVG3823
noncomputable abbrev Kf33:=kFin VG3823 (some [(6,.own 3),(7,.plain)]) (Try.f23).results.toList
theorem eVG3823:EOk Try.prog VG3823:=eok_mk (by exact⟨c37,c38,c47,c48,trivial⟩)
def Af23(F:Nat):Cuts:={ F:=F,at_:=fun n=>match n with | 7012=>some sp53 | 15052=>some sp54 | 19016=>some sp55 | 26012=>some sp56 | _=>none,join:=fun n=>match n with | 1101=>some sp1 | 3093=>some sp1 | 5085=>some sp1 | 6083=>some sp57 | 7014=>some sp53 | 11066=>some sp57 | 12064=>some sp58 | 13062=>some sp58 | 14060=>some sp59 | 15054=>some sp54 | 16046=>some sp54 | 16050=>some sp60 | 17041=>some sp61 | 18039=>some sp62 | 19018=>some sp55 | 24018=>some sp62 | 25016=>some sp62 | 26014=>some sp56 | 30001=>some sp54 | 31003=>some sp37 | _=>none,fin:=(some [(6,.own 3),(7,.plain)]) }
noncomputable abbrev XAf23(F:Nat){α:Type}:=@aexec α VG3823 (Af23 F)
def ef23_a:Ty64→St:=fun (a0,a1,a2)=>⟨[(0,(.vs (.rL .i64 a0) 0 1)),(1,.int .i64 a1),(2,(.vs (.rB a2) 0 1))],[],0,102,0⟩
def ef23j1:Ty64→St:=fun (t0,t1,t2)=>⟨[(0,(.vs (.rL .i64 t0) 0 1)),(1,.int .i64 t1),(2,(.vs (.rB t2) 0 1))],[],0,102,0⟩
def ef23j2:Ty64→St:=ef23j1
def ef23j3:Ty64→St:=ef23j1
def ef23j4:Ty65→St:=fun (t0,t2,x3)=>⟨[(0,(.vs (.rL .i64 t0) 0 1)),(2,(.vs (.rB t2) 0 1)),(8,.own 0 0 1)],[(0,(.cells x3.length (.rI .i64 x3) true))],1,102,0⟩
def ef23j5:Ty66→St:=fun (t0,t2,t43,t44,x5)=>⟨[(0,(.vs (.rL .i64 t0) 0 1)),(2,(.vs (.rB t2) 0 1)),(8,.own 0 0 1),(43,.int .i64 t43),(44,.int .i64 t44)],[(0,(.cells x5.length (.rI .i64 x5) true))],1,102,0⟩
def ef23l1:Ty67→St:=fun (t0,t2,t43,t44,x5,x6)=>⟨[(0,(.vs (.rL .i64 t0) 0 1)),(2,(.vs (.rB t2) 0 1)),(8,.own 0 0 1),(43,.int .i64 t43),(44,.int .i64 t44)],[(0,(.cells x6 (.rI .i64 x5) true))],1,102,0⟩
def ef23j6:Ty68→St:=fun (t0,t2,x3,x4)=>⟨[(0,(.vs (.rL .i64 t0) 0 1)),(2,(.vs (.rB t2) 0 1)),(8,.own 0 0 1)],[(0,(.cells x4 (.rI .i64 x3) true))],1,102,0⟩
def ef23j7:Ty69→St:=fun (t2,x2,x3,x4)=>⟨[(2,(.vs (.rB t2) 0 1)),(8,.own 0 0 1),(10,.own 1 0 1)],[(0,(.cells x3 (.rI .i64 x2) true)),(1,(.cells x4.length (.rL .i64 x4) true))],2,102,0⟩
def ef23j8:Ty70→St:=fun (t2,x2,x3,x4,x5)=>⟨[(2,(.vs (.rB t2) 0 1)),(8,.own 0 0 1),(10,.own 1 0 1)],[(0,(.cells x3 (.rI .i64 x2) true)),(1,(.cells x5 (.rL .i64 x4) true))],2,102,0⟩
def ef23j9:Ty71→St:=fun (t2,x2,x3,x4,x5,x6)=>⟨[(2,(.vs (.rB t2) 0 1)),(8,.own 0 0 1),(10,.own 1 0 1),(11,.ptr 2 0 6 0 0 0 6)],[(0,(.cells x3 (.rI .i64 x2) true)),(1,(.cells x5 (.rL .i64 x4) true)),(2,(.cells 6 (.rI .i64 x6) true))],3,102,0⟩
def ef23j10:Ty72→St:=fun (t2,t56,t57,x4,x5,x6,x7,x8)=>⟨[(2,(.vs (.rB t2) 0 1)),(8,.own 0 0 1),(11,.ptr 1 0 6 0 0 0 6),(55,.own 2 0 1),(56,.int .i64 t56),(57,.int .i64 t57)],[(0,(.cells x5 (.rI .i64 x4) true)),(1,(.cells 6 (.rI .i64 x6) true)),(2,(.cells x8 (.rL .i64 x7) true))],3,102,0⟩
def ef23l2:Ty72→St:=ef23j10
def ef23j11:Ty73→St:=fun (t2,t56,t57,t58,x5,x6,x7,x8,x9)=>⟨[(2,(.vs (.rB t2) 0 1)),(8,.own 0 0 1),(11,.ptr 1 0 6 0 0 0 6),(55,.own 2 0 1),(56,.int .i64 t56),(57,.int .i64 t57),(58,.bool t58)],[(0,(.cells x6 (.rI .i64 x5) true)),(1,(.cells 6 (.rI .i64 x7) true)),(2,(.cells x9 (.rL .i64 x8) true))],3,102,0⟩
def ef23j12:Ty72→St:=ef23j10
def ef23j13:Ty74→St:=fun (t2,t13,t56,t57,x5,x6,x7,x8,x9)=>⟨[(2,(.vs (.rB t2) 0 1)),(8,.own 0 0 1),(11,.ptr 1 0 6 0 0 0 6),(13,(.vs (.rI .i64 t13) 0 1)),(55,.own 2 0 1),(56,.int .i64 t56),(57,.int .i64 t57)],[(0,(.cells x6 (.rI .i64 x5) true)),(1,(.cells 6 (.rI .i64 x7) true)),(2,(.cells x9 (.rL .i64 x8) true))],3,102,0⟩
def ef23j14:Ty75→St:=fun (t2,t13,t14,t56,t57,x6,x7,x8,x9,x10)=>⟨[(2,(.vs (.rB t2) 0 1)),(8,.own 0 0 1),(11,.ptr 1 0 6 0 0 0 6),(13,(.vs (.rI .i64 t13) 0 1)),(14,.int .i64 t14),(55,.own 2 0 1),(56,.int .i64 t56),(57,.int .i64 t57)],[(0,(.cells x7 (.rI .i64 x6) true)),(1,(.cells 6 (.rI .i64 x8) true)),(2,(.cells x10 (.rL .i64 x9) true))],3,102,0⟩
def ef23j15:Ty76→St:=fun (t2,t13,t14,t56,t57,t63,t64,t65,x9,x10,x11,x12,x13)=>⟨[(2,(.vs (.rB t2) 0 1)),(8,.own 0 0 1),(11,.ptr 1 0 6 0 0 0 6),(13,(.vs (.rI .i64 t13) 0 1)),(14,.int .i64 t14),(55,.own 2 0 1),(56,.int .i64 t56),(57,.int .i64 t57),(63,(.vs (.rB t63) 0 1)),(64,.int .i64 t64),(65,.int .i64 t65)],[(0,(.cells x10 (.rI .i64 x9) true)),(1,(.cells 6 (.rI .i64 x11) true)),(2,(.cells x13 (.rL .i64 x12) true))],3,102,0⟩
def ef23l3:Ty76→St:=ef23j15
def ef23j16:Ty75→St:=ef23j14
def ef23j17:Ty75→St:=ef23j14
def ef23j18:Ty77→St:=fun (t2,t14,t56,t57,t89,t90,t91,x8,x9,x10,x11,x12)=>⟨[(2,(.vs (.rB t2) 0 1)),(8,.own 0 0 1),(11,.ptr 1 0 6 0 0 0 6),(14,.int .i64 t14),(55,.own 2 0 1),(56,.int .i64 t56),(57,.int .i64 t57),(89,(.vs (.rI .i64 t89) 0 1)),(90,.int .i64 t90),(91,.int .i64 t91)],[(0,(.cells x9 (.rI .i64 x8) true)),(1,(.cells 6 (.rI .i64 x10) true)),(2,(.cells x12 (.rL .i64 x11) true))],3,102,0⟩
def ef23l4:Ty77→St:=ef23j18
def ef23j19:Ty72→St:=ef23j10
def ef23j20:Li×Nat→St:=fun (x1,x2)=>⟨[(8,.own 0 0 1)],[(0,(.cells x2 (.rI .i64 x1) true))],1,102,0⟩
def f23_1(F:Nat)(kf23j1:Ty64→Rz):Ty64→Rz:=fun (a0,a1,a2)=>(kf23j1 (a0,a1,a2))
theorem f23_1_eq(F:Nat)(Rf23j1:St→Rz):∀ v,XAf23 F (bp Try.f23 2) (ef23_a v) (kSeq (kc VG3823 Rf23j1 sp1) Kf33)=f23_1 F (Rf23j1∘ef23j1) v:=by
 rintro⟨a0,a1,a2⟩;kernel_rfl
def f23_2(F:Nat)(kf23j2:Ty64→Rz):Ty64→Rz:=fun (t0,t1,t2)=>(cond (decide (t1 < (0:Int))) (some ((.tup (.cons 0 (.own 0 0 1) (.cons 0 (.int .i64 1) .nil))),[(.cells 0 (.rI .i64 []) true)])) (cond (decide (t1 > (64:Int))) (some ((.tup (.cons 0 (.own 0 0 1) (.cons 0 (.int .i64 1) .nil))),[(.cells 0 (.rI .i64 []) true)])) (cond ((decide (0≤t1))&&(decide (Int.toNat t1 < 1073741000))) (cond (!(Reg.valid t0 (Int.toNat t1) ([]:List Int) t2)) (some ((.tup (.cons 0 (.own 0 0 1) (.cons 0 (.int .i64 1) .nil))),[(.cells 0 (.rI .i64 []) true)])) (kf23j2 (t0,t1,t2))) none)))
theorem f23_2_eq(F:Nat)(Rf23j2:St→Rz):∀ v,XAf23 F (bp Try.f23 6) (ef23j1 v) (kSeq (kc VG3823 Rf23j2 sp1) Kf33)=f23_2 F (Rf23j2∘ef23j2) v:=by
 rintro⟨t0,t1,t2⟩;kernel_rfl
def f23_3(F:Nat)(kf23j3:Ty64→Rz):Ty64→Rz:=fun (t0,t1,t2)=>(cond (decide ((↑t0.length:Int) > (0:Int))) (cond (decide ((Reg.first t2) < (0:Int))) (some ((.tup (.cons 0 (.own 0 0 1) (.cons 0 (.int .i64 6) .nil))),[(.cells 0 (.rI .i64 []) true)])) (kf23j3 (t0,t1,t2))) (kf23j3 (t0,t1,t2)))
theorem f23_3_eq(F:Nat)(Rf23j3:St→Rz):∀ v,XAf23 F (bp Try.f23 14) (ef23j2 v) (kSeq (kc VG3823 Rf23j3 sp1) Kf33)=f23_3 F (Rf23j3∘ef23j3) v:=by
 rintro⟨t0,t1,t2⟩;kernel_rfl
def f23_4(F:Nat)(kf23j4:Ty65→Rz):Ty64→Rz:=fun (t0,t1,t2)=>(cond (((decide (0≤t1))&&(decide (t1≤t1)))&&(decide (t1 < 1073741824))) (kf23j4 (t0,t2,(List.replicate (Int.toNat t1) 0))) none)
theorem f23_4_eq(F:Nat)(Rf23j4:St→Rz):∀ v,XAf23 F (bp Try.f23 30) (ef23j3 v) (kSeq (kc VG3823 Rf23j4 sp57) Kf33)=f23_4 F (Rf23j4∘ef23j4) v:=by
 rintro⟨t0,t1,t2⟩;kernel_rfl
def f23_5(F:Nat)(kf23j5:Ty66→Rz)(kf23j6:Ty68→Rz):Ty65→Rz:=fun (t0,t2,x3)=>(kf23j5 (t0,t2,(↑x3.length:Int),(0:Int),x3))
theorem f23_5_eq(F:Nat)(Rf23j5:St→Rz)(Rf23j6:St→Rz):∀ v,XAf23 F (bp Try.f23 124) (ef23j4 v) (kSeq (kc VG3823 Rf23j5 sp53) (kSeq (kc VG3823 Rf23j6 sp57) Kf33))=f23_5 F (Rf23j5∘ef23j5) (Rf23j6∘ef23j6) v:=by
 rintro⟨t0,t2,x3⟩;kernel_rfl
def f23_6(F:Nat)(kf23l1:Ty67→Rz)(kf23j6:Ty68→Rz):Ty67→Rz:=fun (t0,t2,t43,t44,x5,x6)=>(cond (decide (t44 < t43)) (cond ((decide (0≤t44))&&(decide (t44 < (↑x5.length:Int)))) (kf23l1 (t0,t2,t43,(IntKind.i64.wrap (t44+(1:Int))),(x5.set (Int.toNat t44) (-1:Int)),x6)) none) (kf23j6 (t0,t2,x5,x6)))
theorem f23_6_eq(F:Nat)(Rf23l1:St→Rz)(Rf23j6:St→Rz):∀ v,XAf23 F (bp Try.f23 500) (ef23l1 v) (kSeq (kc VG3823 Rf23l1 sp53) (kBlock 0 (kSeq (kc VG3823 Rf23j6 sp57) Kf33)))=f23_6 F (Rf23l1∘ef23l1) (Rf23j6∘ef23j6) v:=by
 rintro⟨t0,t2,t43,t44,x5,x6⟩;kernel_rfl
def f23_7_i:Ty66→(List Li)×(List Bool)×Int×Int×Li×Nat:=fun (t0,t2,t43,t44,x5)=>(t0,t2,t43,t44,x5,x5.length)
def f23_7(F:Nat)(kf23j6:Ty68→Rz):Ty66→Rz:=fun v=>loopN (fun k=>f23_6 F k kf23j6) F (f23_7_i v)
theorem f23_7_eq(F:Nat)(Rf23j6:St→Rz):∀ v,XAf23 F (bp Try.f23 250) (ef23j5 v) (kBlock 0 (kSeq (kc VG3823 Rf23j6 sp57) Kf33))=f23_7 F (Rf23j6∘ef23j6) v:=
 loop_cut (by kernel_rfl) (by kernel_rfl) ef23j5 ef23l1 _ f23_7_i (fun k=>f23_6 F k (Rf23j6∘ef23j6))
  (by rintro⟨t0,t2,t43,t44,x5⟩;kernel_rfl) (fun Rf23l1=>f23_6_eq F Rf23l1 Rf23j6)
def f23_8(F:Nat)(kf23j6:Ty68→Rz):Ty66→Rz:=f23_7 F kf23j6
theorem f23_8_eq(F:Nat)(Rf23j6:St→Rz):∀ v,XAf23 F (bp Try.f23 125) (ef23j5 v) (kSeq (kc VG3823 Rf23j6 sp57) Kf33)=f23_8 F (Rf23j6∘ef23j6) v:=fun v=>
 (block_in  (by kernel_rfl) _ _).trans (f23_7_eq F Rf23j6 v)
def f23_9(F:Nat)(kf23j6:Ty68→Rz):Ty65→Rz:=fun v=>f23_5 F (f23_8 F kf23j6) kf23j6 v
theorem f23_9_eq(F:Nat)(Rf23j6:St→Rz):∀ v,XAf23 F (bp Try.f23 62) (ef23j4 v) (kSeq (kc VG3823 Rf23j6 sp57) Kf33)=f23_9 F (Rf23j6∘ef23j6) v:=
 seq_cut (by kernel_rfl) (by kernel_rfl) ef23j4 ef23j5 _ (fun k=>f23_5 F k (Rf23j6∘ef23j6)) (f23_8 F (Rf23j6∘ef23j6))
  (fun Rf23j5=>f23_5_eq F Rf23j5 Rf23j6) (f23_8_eq F Rf23j6)
def f23_10(F:Nat)(kf23j7:Ty69→Rz):Ty68→Rz:=fun (t0,t2,x3,x4)=>(cond (decide (t0.length < 1073741000)) (kf23j7 (t2,x3,x4,t0)) none)
theorem f23_10_eq(F:Nat)(Rf23j7:St→Rz):∀ v,XAf23 F (bp Try.f23 126) (ef23j6 v) (kSeq (kc VG3823 Rf23j7 sp58) Kf33)=f23_10 F (Rf23j7∘ef23j7) v:=by
 rintro⟨t0,t2,x3,x4⟩;kernel_rfl
def f23_11(F:Nat)(kf23j8:Ty70→Rz):Ty69→Rz:=fun (t2,x2,x3,x4)=>(cond (decide (x4.length < 20)) (kf23j8 (t2,x2,x3,(Reg.sortD x4),x4.length)) none)
theorem f23_11_eq(F:Nat)(Rf23j8:St→Rz):∀ v,XAf23 F (bp Try.f23 254) (ef23j7 v) (kSeq (kc VG3823 Rf23j8 sp58) Kf33)=f23_11 F (Rf23j8∘ef23j8) v:=by
 rintro⟨t2,x2,x3,x4⟩;kernel_rfl
def f23_12(F:Nat)(kf23j9:Ty71→Rz):Ty70→Rz:=fun (t2,x2,x3,x4,x5)=>(kf23j9 (t2,x2,x3,x4,x5,[0,0,0,0,0,0]))
theorem f23_12_eq(F:Nat)(Rf23j9:St→Rz):∀ v,XAf23 F (bp Try.f23 510) (ef23j8 v) (kSeq (kc VG3823 Rf23j9 sp59) Kf33)=f23_12 F (Rf23j9∘ef23j9) v:=by
 rintro⟨t2,x2,x3,x4,x5⟩;kernel_rfl
def f23_13(F:Nat)(kf23j10:Ty72→Rz)(kf23j20:Li×Nat→Rz):Ty71→Rz:=fun (t2,x2,x3,x4,x5,x6)=>(kf23j10 (t2,(↑x4.length:Int),(0:Int),x2,x3,x6,x4,x5))
theorem f23_13_eq(F:Nat)(Rf23j10:St→Rz)(Rf23j20:St→Rz):∀ v,XAf23 F (bp Try.f23 2044) (ef23j9 v) (kSeq (kc VG3823 Rf23j10 sp54) (kSeq (kc VG3823 Rf23j20 sp37) Kf33))=f23_13 F (Rf23j10∘ef23j10) (Rf23j20∘ef23j20) v:=by
 rintro⟨t2,x2,x3,x4,x5,x6⟩;kernel_rfl
def f23_14(F:Nat)(kf23j11:Ty73→Rz)(kf23l2:Ty72→Rz)(kf23j20:Li×Nat→Rz):Ty72→Rz:=fun (t2,t56,t57,x4,x5,x6,x7,x8)=>(kf23j11 (t2,t56,t57,(decide (t57 < t56)),x4,x5,x6,x7,x8))
theorem f23_14_eq(F:Nat)(Rf23j11:St→Rz)(Rf23l2:St→Rz)(Rf23j20:St→Rz):∀ v,XAf23 F (bp Try.f23 16360) (ef23l2 v) (kSeq (kc VG3823 Rf23j11 sp60) (kSeq (kc VG3823 Rf23l2 sp54) (kBlock 2 (kSeq (kc VG3823 Rf23j20 sp37) Kf33))))=f23_14 F (Rf23j11∘ef23j11) (Rf23l2∘ef23l2) (Rf23j20∘ef23j20) v:=by
 rintro⟨t2,t56,t57,x4,x5,x6,x7,x8⟩;kernel_rfl
def f23_15(F:Nat)(kf23j12:Ty72→Rz)(kf23l2:Ty72→Rz)(kf23j20:Li×Nat→Rz):Ty73→Rz:=fun (t2,t56,t57,t58,x5,x6,x7,x8,x9)=>(cond t58 (kf23j12 (t2,t56,t57,x5,x6,x7,x8,x9)) (kf23j20 (x5,x6)))
theorem f23_15_eq(F:Nat)(Rf23j12:St→Rz)(Rf23l2:St→Rz)(Rf23j20:St→Rz):∀ v,XAf23 F (bp Try.f23 32722) (ef23j11 v) (kSeq (kc VG3823 Rf23j12 sp54) (kSeq (kc VG3823 Rf23l2 sp54) (kBlock 2 (kSeq (kc VG3823 Rf23j20 sp37) Kf33))))=f23_15 F (Rf23j12∘ef23j12) (Rf23l2∘ef23l2) (Rf23j20∘ef23j20) v:=by
 rintro⟨t2,t56,t57,t58,x5,x6,x7,x8,x9⟩;kernel_rfl
def f23_16(F:Nat)(kf23j13:Ty74→Rz)(kf23j19:Ty72→Rz)(kf23l2:Ty72→Rz)(kf23j20:Li×Nat→Rz):Ty72→Rz:=fun (t2,t56,t57,x4,x5,x6,x7,x8)=>(cond ((decide (0≤t57))&&(decide (t57 < (↑x7.length:Int)))) (kf23j13 (t2,(x7.getD (Int.toNat t57) []),t56,t57,x4,x5,x6,x7,x8)) none)
theorem f23_16_eq(F:Nat)(Rf23j13:St→Rz)(Rf23j19:St→Rz)(Rf23l2:St→Rz)(Rf23j20:St→Rz):∀ v,XAf23 F (bp Try.f23 261784) (ef23j12 v) (kSeq (kc VG3823 Rf23j13 sp61) (kBlock 3 (kSeq (kc VG3823 Rf23j19 sp54) (kSeq (kc VG3823 Rf23l2 sp54) (kBlock 2 (kSeq (kc VG3823 Rf23j20 sp37) Kf33))))))=f23_16 F (Rf23j13∘ef23j13) (Rf23j19∘ef23j19) (Rf23l2∘ef23l2) (Rf23j20∘ef23j20) v:=by
 rintro⟨t2,t56,t57,x4,x5,x6,x7,x8⟩;kernel_rfl
def f23_17(F:Nat)(kf23j14:Ty75→Rz)(kf23j19:Ty72→Rz)(kf23l2:Ty72→Rz)(kf23j20:Li×Nat→Rz):Ty74→Rz:=fun (t2,t13,t56,t57,x5,x6,x7,x8,x9)=>(kf23j14 (t2,t13,(Reg.first t2),t56,t57,x5,x6,x7,x8,x9))
theorem f23_17_eq(F:Nat)(Rf23j14:St→Rz)(Rf23j19:St→Rz)(Rf23l2:St→Rz)(Rf23j20:St→Rz):∀ v,XAf23 F (bp Try.f23 523570) (ef23j13 v) (kSeq (kc VG3823 Rf23j14 sp62) (kBlock 3 (kSeq (kc VG3823 Rf23j19 sp54) (kSeq (kc VG3823 Rf23l2 sp54) (kBlock 2 (kSeq (kc VG3823 Rf23j20 sp37) Kf33))))))=f23_17 F (Rf23j14∘ef23j14) (Rf23j19∘ef23j19) (Rf23l2∘ef23l2) (Rf23j20∘ef23j20) v:=by
 rintro⟨t2,t13,t56,t57,x5,x6,x7,x8,x9⟩;kernel_rfl
def f23_18(F:Nat)(kf23j15:Ty76→Rz)(kf23j16:Ty75→Rz)(kf23j19:Ty72→Rz)(kf23l2:Ty72→Rz)(kf23j20:Li×Nat→Rz):Ty75→Rz:=fun (t2,t13,t14,t56,t57,x6,x7,x8,x9,x10)=>(kf23j15 (t2,t13,t14,t56,t57,t2,(↑t2.length:Int),(0:Int),x6,x7,x8,x9,x10))
theorem f23_18_eq(F:Nat)(Rf23j15:St→Rz)(Rf23j16:St→Rz)(Rf23j19:St→Rz)(Rf23l2:St→Rz)(Rf23j20:St→Rz):∀ v,XAf23 F (bp Try.f23 2094284) (ef23j14 v) (kSeq (kc VG3823 Rf23j15 sp55) (kSeq (kc VG3823 Rf23j16 sp62) (kBlock 3 (kSeq (kc VG3823 Rf23j19 sp54) (kSeq (kc VG3823 Rf23l2 sp54) (kBlock 2 (kSeq (kc VG3823 Rf23j20 sp37) Kf33)))))))=f23_18 F (Rf23j15∘ef23j15) (Rf23j16∘ef23j16) (Rf23j19∘ef23j19) (Rf23l2∘ef23l2) (Rf23j20∘ef23j20) v:=by
 rintro⟨t2,t13,t14,t56,t57,x6,x7,x8,x9,x10⟩;kernel_rfl
def f23_19(F:Nat)(kf23l3:Ty76→Rz)(kf23j16:Ty75→Rz)(kf23j19:Ty72→Rz)(kf23l2:Ty72→Rz)(kf23j20:Li×Nat→Rz):Ty76→Rz:=fun (t2,t13,t14,t56,t57,t63,t64,t65,x9,x10,x11,x12,x13)=>(cond (decide (t65 < t64)) (cond ((decide (0≤t65))&&(decide (t65 < (↑t63.length:Int)))) (cond (t63.getD (Int.toNat t65) false) (cond ((decide (0≤t65))&&(decide (t65 < (6:Int)))) (cond ((decide (0≤t14))&&(decide (t14 < (6:Int)))) (cond (decide ((x11.getD (Int.toNat t65) 0) < (x11.getD (Int.toNat t14) 0))) (kf23l3 (t2,t13,t65,t56,t57,t63,t64,(IntKind.i64.wrap (t65+(1:Int))),x9,x10,x11,x12,x13)) (kf23l3 (t2,t13,t14,t56,t57,t63,t64,(IntKind.i64.wrap (t65+(1:Int))),x9,x10,x11,x12,x13))) none) none) (kf23l3 (t2,t13,t14,t56,t57,t63,t64,(IntKind.i64.wrap (t65+(1:Int))),x9,x10,x11,x12,x13))) none) (kf23j16 (t2,t13,t14,t56,t57,x9,x10,x11,x12,x13)))
theorem f23_19_eq(F:Nat)(Rf23l3:St→Rz)(Rf23j16:St→Rz)(Rf23j19:St→Rz)(Rf23l2:St→Rz)(Rf23j20:St→Rz):∀ v,XAf23 F (bp Try.f23 8377140) (ef23l3 v) (kSeq (kc VG3823 Rf23l3 sp55) (kBlock 4 (kSeq (kc VG3823 Rf23j16 sp62) (kBlock 3 (kSeq (kc VG3823 Rf23j19 sp54) (kSeq (kc VG3823 Rf23l2 sp54) (kBlock 2 (kSeq (kc VG3823 Rf23j20 sp37) Kf33))))))))=f23_19 F (Rf23l3∘ef23l3) (Rf23j16∘ef23j16) (Rf23j19∘ef23j19) (Rf23l2∘ef23l2) (Rf23j20∘ef23j20) v:=by
 rintro⟨t2,t13,t14,t56,t57,t63,t64,t65,x9,x10,x11,x12,x13⟩;kernel_rfl
def f23_20_i:Ty76→(List Bool)×Li×Int×Int×Int×(List Bool)×Int×Int×Li×Nat×Li×(List Li)×Nat:=fun (t2,t13,t14,t56,t57,t63,t64,t65,x9,x10,x11,x12,x13)=>(t2,t13,t14,t56,t57,t63,t64,t65,x9,x10,x11,x12,x13)
def f23_20(F:Nat)(kf23j16:Ty75→Rz)(kf23j19:Ty72→Rz)(kf23l2:Ty72→Rz)(kf23j20:Li×Nat→Rz):Ty76→Rz:=fun v=>loopN (fun k=>f23_19 F k kf23j16 kf23j19 kf23l2 kf23j20) F (f23_20_i v)
theorem f23_20_eq(F:Nat)(Rf23j16:St→Rz)(Rf23j19:St→Rz)(Rf23l2:St→Rz)(Rf23j20:St→Rz):∀ v,XAf23 F (bp Try.f23 4188570) (ef23j15 v) (kBlock 4 (kSeq (kc VG3823 Rf23j16 sp62) (kBlock 3 (kSeq (kc VG3823 Rf23j19 sp54) (kSeq (kc VG3823 Rf23l2 sp54) (kBlock 2 (kSeq (kc VG3823 Rf23j20 sp37) Kf33)))))))=f23_20 F (Rf23j16∘ef23j16) (Rf23j19∘ef23j19) (Rf23l2∘ef23l2) (Rf23j20∘ef23j20) v:=
 loop_cut (by kernel_rfl) (by kernel_rfl) ef23j15 ef23l3 _ f23_20_i (fun k=>f23_19 F k (Rf23j16∘ef23j16) (Rf23j19∘ef23j19) (Rf23l2∘ef23l2) (Rf23j20∘ef23j20))
  (by rintro⟨t2,t13,t14,t56,t57,t63,t64,t65,x9,x10,x11,x12,x13⟩;kernel_rfl) (fun Rf23l3=>f23_19_eq F Rf23l3 Rf23j16 Rf23j19 Rf23l2 Rf23j20)
def f23_21(F:Nat)(kf23j16:Ty75→Rz)(kf23j19:Ty72→Rz)(kf23l2:Ty72→Rz)(kf23j20:Li×Nat→Rz):Ty76→Rz:=f23_20 F kf23j16 kf23j19 kf23l2 kf23j20
theorem f23_21_eq(F:Nat)(Rf23j16:St→Rz)(Rf23j19:St→Rz)(Rf23l2:St→Rz)(Rf23j20:St→Rz):∀ v,XAf23 F (bp Try.f23 2094285) (ef23j15 v) (kSeq (kc VG3823 Rf23j16 sp62) (kBlock 3 (kSeq (kc VG3823 Rf23j19 sp54) (kSeq (kc VG3823 Rf23l2 sp54) (kBlock 2 (kSeq (kc VG3823 Rf23j20 sp37) Kf33))))))=f23_21 F (Rf23j16∘ef23j16) (Rf23j19∘ef23j19) (Rf23l2∘ef23l2) (Rf23j20∘ef23j20) v:=fun v=>
 (block_in  (by kernel_rfl) _ _).trans (f23_20_eq F Rf23j16 Rf23j19 Rf23l2 Rf23j20 v)
def f23_22(F:Nat)(kf23j16:Ty75→Rz)(kf23j19:Ty72→Rz)(kf23l2:Ty72→Rz)(kf23j20:Li×Nat→Rz):Ty75→Rz:=fun v=>f23_18 F (f23_21 F kf23j16 kf23j19 kf23l2 kf23j20) kf23j16 kf23j19 kf23l2 kf23j20 v
theorem f23_22_eq(F:Nat)(Rf23j16:St→Rz)(Rf23j19:St→Rz)(Rf23l2:St→Rz)(Rf23j20:St→Rz):∀ v,XAf23 F (bp Try.f23 1047142) (ef23j14 v) (kSeq (kc VG3823 Rf23j16 sp62) (kBlock 3 (kSeq (kc VG3823 Rf23j19 sp54) (kSeq (kc VG3823 Rf23l2 sp54) (kBlock 2 (kSeq (kc VG3823 Rf23j20 sp37) Kf33))))))=f23_22 F (Rf23j16∘ef23j16) (Rf23j19∘ef23j19) (Rf23l2∘ef23l2) (Rf23j20∘ef23j20) v:=
 seq_cut (by kernel_rfl) (by kernel_rfl) ef23j14 ef23j15 _ (fun k=>f23_18 F k (Rf23j16∘ef23j16) (Rf23j19∘ef23j19) (Rf23l2∘ef23l2) (Rf23j20∘ef23j20)) (f23_21 F (Rf23j16∘ef23j16) (Rf23j19∘ef23j19) (Rf23l2∘ef23l2) (Rf23j20∘ef23j20))
  (fun Rf23j15=>f23_18_eq F Rf23j15 Rf23j16 Rf23j19 Rf23l2 Rf23j20) (f23_21_eq F Rf23j16 Rf23j19 Rf23l2 Rf23j20)
def f23_23(F:Nat)(kf23j17:Ty75→Rz)(kf23j19:Ty72→Rz)(kf23l2:Ty72→Rz)(kf23j20:Li×Nat→Rz):Ty75→Rz:=fun (t2,t13,t14,t56,t57,x6,x7,x8,x9,x10)=>(cond ((decide (0≤t14))&&(decide (t14 < (6:Int)))) (cond ((decide (0≤t14))&&(decide (t14 < (6:Int)))) (kf23j17 (t2,t13,t14,t56,t57,x6,x7,(x8.set (Int.toNat t14) (IntKind.i64.wrap ((x8.getD (Int.toNat t14) 0)+(↑t13.length:Int)))),x9,x10)) none) none)
theorem f23_23_eq(F:Nat)(Rf23j17:St→Rz)(Rf23j19:St→Rz)(Rf23l2:St→Rz)(Rf23j20:St→Rz):∀ v,XAf23 F (bp Try.f23 2094286) (ef23j16 v) (kSeq (kc VG3823 Rf23j17 sp62) (kBlock 3 (kSeq (kc VG3823 Rf23j19 sp54) (kSeq (kc VG3823 Rf23l2 sp54) (kBlock 2 (kSeq (kc VG3823 Rf23j20 sp37) Kf33))))))=f23_23 F (Rf23j17∘ef23j17) (Rf23j19∘ef23j19) (Rf23l2∘ef23l2) (Rf23j20∘ef23j20) v:=by
 rintro⟨t2,t13,t14,t56,t57,x6,x7,x8,x9,x10⟩;kernel_rfl
def f23_24(F:Nat)(kf23j18:Ty77→Rz)(kf23j19:Ty72→Rz)(kf23l2:Ty72→Rz)(kf23j20:Li×Nat→Rz):Ty75→Rz:=fun (t2,t13,t14,t56,t57,x6,x7,x8,x9,x10)=>(kf23j18 (t2,t14,t56,t57,t13,(↑t13.length:Int),(0:Int),x6,x7,x8,x9,x10))
theorem f23_24_eq(F:Nat)(Rf23j18:St→Rz)(Rf23j19:St→Rz)(Rf23l2:St→Rz)(Rf23j20:St→Rz):∀ v,XAf23 F (bp Try.f23 4188574) (ef23j17 v) (kSeq (kc VG3823 Rf23j18 sp56) (kBlock 3 (kSeq (kc VG3823 Rf23j19 sp54) (kSeq (kc VG3823 Rf23l2 sp54) (kBlock 2 (kSeq (kc VG3823 Rf23j20 sp37) Kf33))))))=f23_24 F (Rf23j18∘ef23j18) (Rf23j19∘ef23j19) (Rf23l2∘ef23l2) (Rf23j20∘ef23j20) v:=by
 rintro⟨t2,t13,t14,t56,t57,x6,x7,x8,x9,x10⟩;kernel_rfl
def f23_25(F:Nat)(kf23l4:Ty77→Rz)(kf23j19:Ty72→Rz)(kf23l2:Ty72→Rz)(kf23j20:Li×Nat→Rz):Ty77→Rz:=fun (t2,t14,t56,t57,t89,t90,t91,x8,x9,x10,x11,x12)=>(cond (decide (t91 < t90)) (cond ((decide (0≤t91))&&(decide (t91 < (↑t89.length:Int)))) (cond ((decide (0≤(t89.getD (Int.toNat t91) 0)))&&(decide ((t89.getD (Int.toNat t91) 0) < (↑x8.length:Int)))) (kf23l4 (t2,t14,t56,t57,t89,t90,(IntKind.i64.wrap (t91+(1:Int))),(x8.set (Int.toNat (t89.getD (Int.toNat t91) 0)) t14),x9,x10,x11,x12)) none) none) (kf23j19 (t2,t56,t57,x8,x9,x10,x11,x12)))
theorem f23_25_eq(F:Nat)(Rf23l4:St→Rz)(Rf23j19:St→Rz)(Rf23l2:St→Rz)(Rf23j20:St→Rz):∀ v,XAf23 F (bp Try.f23 16754300) (ef23l4 v) (kSeq (kc VG3823 Rf23l4 sp56) (kBlock 6 (kBlock 3 (kSeq (kc VG3823 Rf23j19 sp54) (kSeq (kc VG3823 Rf23l2 sp54) (kBlock 2 (kSeq (kc VG3823 Rf23j20 sp37) Kf33)))))))=f23_25 F (Rf23l4∘ef23l4) (Rf23j19∘ef23j19) (Rf23l2∘ef23l2) (Rf23j20∘ef23j20) v:=by
 rintro⟨t2,t14,t56,t57,t89,t90,t91,x8,x9,x10,x11,x12⟩;kernel_rfl
def f23_26_i:Ty77→(List Bool)×Int×Int×Int×Li×Int×Int×Li×Nat×Li×(List Li)×Nat:=fun (t2,t14,t56,t57,t89,t90,t91,x8,x9,x10,x11,x12)=>(t2,t14,t56,t57,t89,t90,t91,x8,x9,x10,x11,x12)
def f23_26(F:Nat)(kf23j19:Ty72→Rz)(kf23l2:Ty72→Rz)(kf23j20:Li×Nat→Rz):Ty77→Rz:=fun v=>loopN (fun k=>f23_25 F k kf23j19 kf23l2 kf23j20) F (f23_26_i v)
theorem f23_26_eq(F:Nat)(Rf23j19:St→Rz)(Rf23l2:St→Rz)(Rf23j20:St→Rz):∀ v,XAf23 F (bp Try.f23 8377150) (ef23j18 v) (kBlock 6 (kBlock 3 (kSeq (kc VG3823 Rf23j19 sp54) (kSeq (kc VG3823 Rf23l2 sp54) (kBlock 2 (kSeq (kc VG3823 Rf23j20 sp37) Kf33))))))=f23_26 F (Rf23j19∘ef23j19) (Rf23l2∘ef23l2) (Rf23j20∘ef23j20) v:=
 loop_cut (by kernel_rfl) (by kernel_rfl) ef23j18 ef23l4 _ f23_26_i (fun k=>f23_25 F k (Rf23j19∘ef23j19) (Rf23l2∘ef23l2) (Rf23j20∘ef23j20))
  (by rintro⟨t2,t14,t56,t57,t89,t90,t91,x8,x9,x10,x11,x12⟩;kernel_rfl) (fun Rf23l4=>f23_25_eq F Rf23l4 Rf23j19 Rf23l2 Rf23j20)
def f23_27(F:Nat)(kf23j19:Ty72→Rz)(kf23l2:Ty72→Rz)(kf23j20:Li×Nat→Rz):Ty77→Rz:=f23_26 F kf23j19 kf23l2 kf23j20
theorem f23_27_eq(F:Nat)(Rf23j19:St→Rz)(Rf23l2:St→Rz)(Rf23j20:St→Rz):∀ v,XAf23 F (bp Try.f23 4188575) (ef23j18 v) (kBlock 3 (kSeq (kc VG3823 Rf23j19 sp54) (kSeq (kc VG3823 Rf23l2 sp54) (kBlock 2 (kSeq (kc VG3823 Rf23j20 sp37) Kf33)))))=f23_27 F (Rf23j19∘ef23j19) (Rf23l2∘ef23l2) (Rf23j20∘ef23j20) v:=fun v=>
 (block_in  (by kernel_rfl) _ _).trans (f23_26_eq F Rf23j19 Rf23l2 Rf23j20 v)
def f23_28(F:Nat)(kf23j19:Ty72→Rz)(kf23l2:Ty72→Rz)(kf23j20:Li×Nat→Rz):Ty75→Rz:=fun v=>f23_24 F (f23_27 F kf23j19 kf23l2 kf23j20) kf23j19 kf23l2 kf23j20 v
theorem f23_28_eq(F:Nat)(Rf23j19:St→Rz)(Rf23l2:St→Rz)(Rf23j20:St→Rz):∀ v,XAf23 F (bp Try.f23 2094287) (ef23j17 v) (kBlock 3 (kSeq (kc VG3823 Rf23j19 sp54) (kSeq (kc VG3823 Rf23l2 sp54) (kBlock 2 (kSeq (kc VG3823 Rf23j20 sp37) Kf33)))))=f23_28 F (Rf23j19∘ef23j19) (Rf23l2∘ef23l2) (Rf23j20∘ef23j20) v:=
 seq_cut (by kernel_rfl) (by kernel_rfl) ef23j17 ef23j18 _ (fun k=>f23_24 F k (Rf23j19∘ef23j19) (Rf23l2∘ef23l2) (Rf23j20∘ef23j20)) (f23_27 F (Rf23j19∘ef23j19) (Rf23l2∘ef23l2) (Rf23j20∘ef23j20))
  (fun Rf23j18=>f23_24_eq F Rf23j18 Rf23j19 Rf23l2 Rf23j20) (f23_27_eq F Rf23j19 Rf23l2 Rf23j20)
def f23_29(F:Nat)(kf23j19:Ty72→Rz)(kf23l2:Ty72→Rz)(kf23j20:Li×Nat→Rz):Ty75→Rz:=fun v=>f23_23 F (f23_28 F kf23j19 kf23l2 kf23j20) kf23j19 kf23l2 kf23j20 v
theorem f23_29_eq(F:Nat)(Rf23j19:St→Rz)(Rf23l2:St→Rz)(Rf23j20:St→Rz):∀ v,XAf23 F (bp Try.f23 1047143) (ef23j16 v) (kBlock 3 (kSeq (kc VG3823 Rf23j19 sp54) (kSeq (kc VG3823 Rf23l2 sp54) (kBlock 2 (kSeq (kc VG3823 Rf23j20 sp37) Kf33)))))=f23_29 F (Rf23j19∘ef23j19) (Rf23l2∘ef23l2) (Rf23j20∘ef23j20) v:=
 seq_cut (by kernel_rfl) (by kernel_rfl) ef23j16 ef23j17 _ (fun k=>f23_23 F k (Rf23j19∘ef23j19) (Rf23l2∘ef23l2) (Rf23j20∘ef23j20)) (f23_28 F (Rf23j19∘ef23j19) (Rf23l2∘ef23l2) (Rf23j20∘ef23j20))
  (fun Rf23j17=>f23_23_eq F Rf23j17 Rf23j19 Rf23l2 Rf23j20) (f23_28_eq F Rf23j19 Rf23l2 Rf23j20)
def f23_30(F:Nat)(kf23j19:Ty72→Rz)(kf23l2:Ty72→Rz)(kf23j20:Li×Nat→Rz):Ty75→Rz:=fun v=>f23_22 F (f23_29 F kf23j19 kf23l2 kf23j20) kf23j19 kf23l2 kf23j20 v
theorem f23_30_eq(F:Nat)(Rf23j19:St→Rz)(Rf23l2:St→Rz)(Rf23j20:St→Rz):∀ v,XAf23 F (bp Try.f23 523571) (ef23j14 v) (kBlock 3 (kSeq (kc VG3823 Rf23j19 sp54) (kSeq (kc VG3823 Rf23l2 sp54) (kBlock 2 (kSeq (kc VG3823 Rf23j20 sp37) Kf33)))))=f23_30 F (Rf23j19∘ef23j19) (Rf23l2∘ef23l2) (Rf23j20∘ef23j20) v:=
 seq_cut (by kernel_rfl) (by kernel_rfl) ef23j14 ef23j16 _ (fun k=>f23_22 F k (Rf23j19∘ef23j19) (Rf23l2∘ef23l2) (Rf23j20∘ef23j20)) (f23_29 F (Rf23j19∘ef23j19) (Rf23l2∘ef23l2) (Rf23j20∘ef23j20))
  (fun Rf23j16=>f23_22_eq F Rf23j16 Rf23j19 Rf23l2 Rf23j20) (f23_29_eq F Rf23j19 Rf23l2 Rf23j20)
def f23_31(F:Nat)(kf23j19:Ty72→Rz)(kf23l2:Ty72→Rz)(kf23j20:Li×Nat→Rz):Ty74→Rz:=fun v=>f23_17 F (f23_30 F kf23j19 kf23l2 kf23j20) kf23j19 kf23l2 kf23j20 v
theorem f23_31_eq(F:Nat)(Rf23j19:St→Rz)(Rf23l2:St→Rz)(Rf23j20:St→Rz):∀ v,XAf23 F (bp Try.f23 261785) (ef23j13 v) (kBlock 3 (kSeq (kc VG3823 Rf23j19 sp54) (kSeq (kc VG3823 Rf23l2 sp54) (kBlock 2 (kSeq (kc VG3823 Rf23j20 sp37) Kf33)))))=f23_31 F (Rf23j19∘ef23j19) (Rf23l2∘ef23l2) (Rf23j20∘ef23j20) v:=
 seq_cut (by kernel_rfl) (by kernel_rfl) ef23j13 ef23j14 _ (fun k=>f23_17 F k (Rf23j19∘ef23j19) (Rf23l2∘ef23l2) (Rf23j20∘ef23j20)) (f23_30 F (Rf23j19∘ef23j19) (Rf23l2∘ef23l2) (Rf23j20∘ef23j20))
  (fun Rf23j14=>f23_17_eq F Rf23j14 Rf23j19 Rf23l2 Rf23j20) (f23_30_eq F Rf23j19 Rf23l2 Rf23j20)
def f23_32(F:Nat)(kf23j19:Ty72→Rz)(kf23l2:Ty72→Rz)(kf23j20:Li×Nat→Rz):Ty72→Rz:=fun v=>f23_16 F (f23_31 F kf23j19 kf23l2 kf23j20) kf23j19 kf23l2 kf23j20 v
theorem f23_32_eq(F:Nat)(Rf23j19:St→Rz)(Rf23l2:St→Rz)(Rf23j20:St→Rz):∀ v,XAf23 F (bp Try.f23 130892) (ef23j12 v) (kBlock 3 (kSeq (kc VG3823 Rf23j19 sp54) (kSeq (kc VG3823 Rf23l2 sp54) (kBlock 2 (kSeq (kc VG3823 Rf23j20 sp37) Kf33)))))=f23_32 F (Rf23j19∘ef23j19) (Rf23l2∘ef23l2) (Rf23j20∘ef23j20) v:=
 seq_cut (by kernel_rfl) (by kernel_rfl) ef23j12 ef23j13 _ (fun k=>f23_16 F k (Rf23j19∘ef23j19) (Rf23l2∘ef23l2) (Rf23j20∘ef23j20)) (f23_31 F (Rf23j19∘ef23j19) (Rf23l2∘ef23l2) (Rf23j20∘ef23j20))
  (fun Rf23j13=>f23_16_eq F Rf23j13 Rf23j19 Rf23l2 Rf23j20) (f23_31_eq F Rf23j19 Rf23l2 Rf23j20)
def f23_33(F:Nat)(kf23j19:Ty72→Rz)(kf23l2:Ty72→Rz)(kf23j20:Li×Nat→Rz):Ty72→Rz:=f23_32 F kf23j19 kf23l2 kf23j20
theorem f23_33_eq(F:Nat)(Rf23j19:St→Rz)(Rf23l2:St→Rz)(Rf23j20:St→Rz):∀ v,XAf23 F (bp Try.f23 65446) (ef23j12 v) (kSeq (kc VG3823 Rf23j19 sp54) (kSeq (kc VG3823 Rf23l2 sp54) (kBlock 2 (kSeq (kc VG3823 Rf23j20 sp37) Kf33))))=f23_33 F (Rf23j19∘ef23j19) (Rf23l2∘ef23l2) (Rf23j20∘ef23j20) v:=fun v=>
 (block_in  (by kernel_rfl) _ _).trans (f23_32_eq F Rf23j19 Rf23l2 Rf23j20 v)
def f23_34(F:Nat)(kf23l2:Ty72→Rz)(kf23j20:Li×Nat→Rz):Ty72→Rz:=fun (t2,t56,t57,x4,x5,x6,x7,x8)=>(kf23l2 (t2,t56,(IntKind.i64.wrap (t57+(1:Int))),x4,x5,x6,x7,x8))
theorem f23_34_eq(F:Nat)(Rf23l2:St→Rz)(Rf23j20:St→Rz):∀ v,XAf23 F (bp Try.f23 65447) (ef23j19 v) (kSeq (kc VG3823 Rf23l2 sp54) (kBlock 2 (kSeq (kc VG3823 Rf23j20 sp37) Kf33)))=f23_34 F (Rf23l2∘ef23l2) (Rf23j20∘ef23j20) v:=by
 rintro⟨t2,t56,t57,x4,x5,x6,x7,x8⟩;kernel_rfl
def f23_35(F:Nat)(kf23l2:Ty72→Rz)(kf23j20:Li×Nat→Rz):Ty72→Rz:=fun v=>f23_33 F (f23_34 F kf23l2 kf23j20) kf23l2 kf23j20 v
theorem f23_35_eq(F:Nat)(Rf23l2:St→Rz)(Rf23j20:St→Rz):∀ v,XAf23 F (bp Try.f23 32723) (ef23j12 v) (kSeq (kc VG3823 Rf23l2 sp54) (kBlock 2 (kSeq (kc VG3823 Rf23j20 sp37) Kf33)))=f23_35 F (Rf23l2∘ef23l2) (Rf23j20∘ef23j20) v:=
 seq_cut (by kernel_rfl) (by kernel_rfl) ef23j12 ef23j19 _ (fun k=>f23_33 F k (Rf23l2∘ef23l2) (Rf23j20∘ef23j20)) (f23_34 F (Rf23l2∘ef23l2) (Rf23j20∘ef23j20))
  (fun Rf23j19=>f23_33_eq F Rf23j19 Rf23l2 Rf23j20) (f23_34_eq F Rf23l2 Rf23j20)
def f23_36(F:Nat)(kf23l2:Ty72→Rz)(kf23j20:Li×Nat→Rz):Ty73→Rz:=fun v=>f23_15 F (f23_35 F kf23l2 kf23j20) kf23l2 kf23j20 v
theorem f23_36_eq(F:Nat)(Rf23l2:St→Rz)(Rf23j20:St→Rz):∀ v,XAf23 F (bp Try.f23 16361) (ef23j11 v) (kSeq (kc VG3823 Rf23l2 sp54) (kBlock 2 (kSeq (kc VG3823 Rf23j20 sp37) Kf33)))=f23_36 F (Rf23l2∘ef23l2) (Rf23j20∘ef23j20) v:=
 seq_cut (by kernel_rfl) (by kernel_rfl) ef23j11 ef23j12 _ (fun k=>f23_15 F k (Rf23l2∘ef23l2) (Rf23j20∘ef23j20)) (f23_35 F (Rf23l2∘ef23l2) (Rf23j20∘ef23j20))
  (fun Rf23j12=>f23_15_eq F Rf23j12 Rf23l2 Rf23j20) (f23_35_eq F Rf23l2 Rf23j20)
def f23_37(F:Nat)(kf23l2:Ty72→Rz)(kf23j20:Li×Nat→Rz):Ty72→Rz:=fun v=>f23_14 F (f23_36 F kf23l2 kf23j20) kf23l2 kf23j20 v
theorem f23_37_eq(F:Nat)(Rf23l2:St→Rz)(Rf23j20:St→Rz):∀ v,XAf23 F (bp Try.f23 8180) (ef23l2 v) (kSeq (kc VG3823 Rf23l2 sp54) (kBlock 2 (kSeq (kc VG3823 Rf23j20 sp37) Kf33)))=f23_37 F (Rf23l2∘ef23l2) (Rf23j20∘ef23j20) v:=
 seq_cut (by kernel_rfl) (by kernel_rfl) ef23l2 ef23j11 _ (fun k=>f23_14 F k (Rf23l2∘ef23l2) (Rf23j20∘ef23j20)) (f23_36 F (Rf23l2∘ef23l2) (Rf23j20∘ef23j20))
  (fun Rf23j11=>f23_14_eq F Rf23j11 Rf23l2 Rf23j20) (f23_36_eq F Rf23l2 Rf23j20)
def f23_38_i:Ty72→(List Bool)×Int×Int×Li×Nat×Li×(List Li)×Nat:=fun (t2,t56,t57,x4,x5,x6,x7,x8)=>(t2,t56,t57,x4,x5,x6,x7,x8)
def f23_38(F:Nat)(kf23j20:Li×Nat→Rz):Ty72→Rz:=fun v=>loopN (fun k=>f23_37 F k kf23j20) F (f23_38_i v)
theorem f23_38_eq(F:Nat)(Rf23j20:St→Rz):∀ v,XAf23 F (bp Try.f23 4090) (ef23j10 v) (kBlock 2 (kSeq (kc VG3823 Rf23j20 sp37) Kf33))=f23_38 F (Rf23j20∘ef23j20) v:=
 loop_cut (by kernel_rfl) (by kernel_rfl) ef23j10 ef23l2 _ f23_38_i (fun k=>f23_37 F k (Rf23j20∘ef23j20))
  (by rintro⟨t2,t56,t57,x4,x5,x6,x7,x8⟩;kernel_rfl) (fun Rf23l2=>f23_37_eq F Rf23l2 Rf23j20)
def f23_39(F:Nat)(kf23j20:Li×Nat→Rz):Ty72→Rz:=f23_38 F kf23j20
theorem f23_39_eq(F:Nat)(Rf23j20:St→Rz):∀ v,XAf23 F (bp Try.f23 2045) (ef23j10 v) (kSeq (kc VG3823 Rf23j20 sp37) Kf33)=f23_39 F (Rf23j20∘ef23j20) v:=fun v=>
 (block_in  (by kernel_rfl) _ _).trans (f23_38_eq F Rf23j20 v)
def f23_40(F:Nat)(kf23j20:Li×Nat→Rz):Ty71→Rz:=fun v=>f23_13 F (f23_39 F kf23j20) kf23j20 v
theorem f23_40_eq(F:Nat)(Rf23j20:St→Rz):∀ v,XAf23 F (bp Try.f23 1022) (ef23j9 v) (kSeq (kc VG3823 Rf23j20 sp37) Kf33)=f23_40 F (Rf23j20∘ef23j20) v:=
 seq_cut (by kernel_rfl) (by kernel_rfl) ef23j9 ef23j10 _ (fun k=>f23_13 F k (Rf23j20∘ef23j20)) (f23_39 F (Rf23j20∘ef23j20))
  (fun Rf23j10=>f23_13_eq F Rf23j10 Rf23j20) (f23_39_eq F Rf23j20)
def f23_41(F:Nat):Li×Nat→Rz:=fun (x1,x2)=>(some ((.tup (.cons 0 (.own 0 0 1) (.cons 0 (.int .i64 0) .nil))),[(.cells x2 (.rI .i64 x1) true)]))
theorem f23_41_eq(F:Nat):∀ v,XAf23 F (bp Try.f23 1023) (ef23j20 v) Kf33=f23_41 F v:=by
 rintro⟨x1,x2⟩;kernel_rfl
def f23_42(F:Nat):Ty71→Rz:=fun v=>f23_40 F (f23_41 F) v
theorem f23_42_eq(F:Nat):∀ v,XAf23 F (bp Try.f23 511) (ef23j9 v) Kf33=f23_42 F v:=
 seq_cut (by kernel_rfl) (by kernel_rfl) ef23j9 ef23j20 _ (fun k=>f23_40 F k) (f23_41 F)
  (fun Rf23j20=>f23_40_eq F Rf23j20) (f23_41_eq F)
def f23_43(F:Nat):Ty70→Rz:=fun v=>f23_12 F (f23_42 F) v
theorem f23_43_eq(F:Nat):∀ v,XAf23 F (bp Try.f23 255) (ef23j8 v) Kf33=f23_43 F v:=
 seq_cut (by kernel_rfl) (by kernel_rfl) ef23j8 ef23j9 _ (fun k=>f23_12 F k) (f23_42 F)
  (fun Rf23j9=>f23_12_eq F Rf23j9) (f23_42_eq F)
def f23_44(F:Nat):Ty69→Rz:=fun v=>f23_11 F (f23_43 F) v
theorem f23_44_eq(F:Nat):∀ v,XAf23 F (bp Try.f23 127) (ef23j7 v) Kf33=f23_44 F v:=
 seq_cut (by kernel_rfl) (by kernel_rfl) ef23j7 ef23j8 _ (fun k=>f23_11 F k) (f23_43 F)
  (fun Rf23j8=>f23_11_eq F Rf23j8) (f23_43_eq F)
def f23_45(F:Nat):Ty68→Rz:=fun v=>f23_10 F (f23_44 F) v
theorem f23_45_eq(F:Nat):∀ v,XAf23 F (bp Try.f23 63) (ef23j6 v) Kf33=f23_45 F v:=
 seq_cut (by kernel_rfl) (by kernel_rfl) ef23j6 ef23j7 _ (fun k=>f23_10 F k) (f23_44 F)
  (fun Rf23j7=>f23_10_eq F Rf23j7) (f23_44_eq F)
def f23_46(F:Nat):Ty65→Rz:=fun v=>f23_9 F (f23_45 F) v
theorem f23_46_eq(F:Nat):∀ v,XAf23 F (bp Try.f23 31) (ef23j4 v) Kf33=f23_46 F v:=
 seq_cut (by kernel_rfl) (by kernel_rfl) ef23j4 ef23j6 _ (fun k=>f23_9 F k) (f23_45 F)
  (fun Rf23j6=>f23_9_eq F Rf23j6) (f23_45_eq F)
def f23_47(F:Nat):Ty64→Rz:=fun v=>f23_4 F (f23_46 F) v
theorem f23_47_eq(F:Nat):∀ v,XAf23 F (bp Try.f23 15) (ef23j3 v) Kf33=f23_47 F v:=
 seq_cut (by kernel_rfl) (by kernel_rfl) ef23j3 ef23j4 _ (fun k=>f23_4 F k) (f23_46 F)
  (fun Rf23j4=>f23_4_eq F Rf23j4) (f23_46_eq F)
def f23_48(F:Nat):Ty64→Rz:=fun v=>f23_3 F (f23_47 F) v
theorem f23_48_eq(F:Nat):∀ v,XAf23 F (bp Try.f23 7) (ef23j2 v) Kf33=f23_48 F v:=
 seq_cut (by kernel_rfl) (by kernel_rfl) ef23j2 ef23j3 _ (fun k=>f23_3 F k) (f23_47 F)
  (fun Rf23j3=>f23_3_eq F Rf23j3) (f23_47_eq F)
def f23_49(F:Nat):Ty64→Rz:=fun v=>f23_2 F (f23_48 F) v
theorem f23_49_eq(F:Nat):∀ v,XAf23 F (bp Try.f23 3) (ef23j1 v) Kf33=f23_49 F v:=
 seq_cut (by kernel_rfl) (by kernel_rfl) ef23j1 ef23j2 _ (fun k=>f23_2 F k) (f23_48 F)
  (fun Rf23j2=>f23_2_eq F Rf23j2) (f23_48_eq F)
def f23_50(F:Nat):Ty64→Rz:=fun v=>f23_1 F (f23_49 F) v
theorem f23_50_eq(F:Nat):∀ v,XAf23 F (sub (bodyOf Try.f23) []) (ef23_a v) Kf33=f23_50 F v:=
 seq_cut (by kernel_rfl) (by kernel_rfl) ef23_a ef23j1 _ (fun k=>f23_1 F k) (f23_49 F)
  (fun Rf23j1=>f23_1_eq F Rf23j1) (f23_49_eq F)
def f23(F:Nat):Ty64→Rz:=f23_50 F
theorem f23_body(F:Nat)(a0:List Li)(a1:Int)(a2:List Bool):abody VG3823 (Af23 F) Try.f23 [(.vs (.rL .i64 a0) 0 1),.int .i64 a1,(.vs (.rB a2) 0 1)] []=f23 F (a0,a1,a2):=
 (abody_in (c:=(sub (bodyOf Try.f23) [])) (by kernel_rfl) (s:=ef23_a (a0,a1,a2)) (by kernel_rfl)).trans (f23_50_eq F (a0,a1,a2))
def r23:CRun:=fun X H=>match X,H with
 | [(.vs (.rL .i64 a0) 0 1),.int .i64 a1,(.vs (.rB a2) 0 1)],[]=>some ((decide (a0.length < 20)),(.tup (.cons 0 (.own 0 0 1) (.cons 0 (.int .i64 (Reg.even a0 a1 a2).2) .nil))),[(.cells (Reg.even a0 a1 a2).1.length (.rI .i64 (Reg.even a0 a1 a2).1) true)])
 | _,_=>none
theorem s23(a0:List Li)(a1:Int)(a2:List Bool)(hp:((decide (a0.length < 20)))=true)(h0:okV (.vs (.rL .i64 a0) 0 1))(h1:okV (.int .i64 a1))(h2:okV (.vs (.rB a2) 0 1)):∃ F,f23 F (a0,a1,a2)=some ((.tup (.cons 0 (.own 0 0 1) (.cons 0 (.int .i64 (Reg.even a0 a1 a2).2) .nil))),[(.cells (Reg.even a0 a1 a2).1.length (.rI .i64 (Reg.even a0 a1 a2).1) true)]):=by
 simp only [decide_eq_true_eq] at hp
 refine⟨100,?_⟩
 simp only [f23,f23_50,f23_1,f23_49,f23_2,dec_and]
 by_cases hb:a1 < 0∨64 < a1∨Reg.valid a0 a1.toNat [] a2=false
 ·rw [show Reg.even a0 a1 a2=([],1) by unfold Reg.even;rw [if_pos hb]]
  by_cases q1:a1 < 0
  ·rw [cond_pos q1];rfl
  rw [cond_neg q1]
  by_cases q2:a1 > 64
  ·rw [cond_pos q2];rfl
  rw [cond_neg q2,cond_pos (by omega)]
  rcases hb with hb | hb | hb
  ·exact absurd hb q1
  ·exact absurd hb q2
  ·rw [hb];rfl
 have hv:Reg.valid a0 a1.toNat [] a2=true:=by
  cases h:Reg.valid a0 a1.toNat [] a2 with
  | true=>rfl
  | false=>exact absurd (.inr (.inr h)) hb
 obtain⟨n,rfl⟩:∃ n:Nat,a1=(n:Int):=⟨a1.toNat,by omega⟩
 rw [Int.toNat_natCast] at hv
 have hn:n≤64:=by omega
 obtain⟨hu,hg,_⟩:=Reg.valid_iff hv
 have hsh:=Reg.valid_short hv
 rw [cond_neg (by omega),cond_neg (by omega),cond_pos (by omega),Int.toNat_natCast,hv]
 simp only [f23_48,f23_3,Bool.not_true,cond_false]
 by_cases q:0 < a0.length∧Reg.first a2 < 0
 ·rw [cond_pos (by omega),cond_pos q.2,show Reg.even a0 n a2=([],6) by unfold Reg.even;rw [if_neg hb,if_pos q]];rfl
 have hsl:=Reg.sortD_len a0
 have hsm:∀ x∈Reg.sortD a0,Reg.inr n x=true∧x.length≤64:=fun x hx=>by
  rw [Reg.sortD_mem] at hx
  have:=hsh x hx
  exact⟨(hg x hx).1,by omega⟩
 have he:Reg.even a0 n a2=((Reg.evTo (Reg.sortD a0) n a2 6 a0.length).1,0):=by
  unfold Reg.even Reg.evTo;rw [if_neg hb,if_neg q,Int.toNat_natCast,← hsl,List.take_length]
 rw [he,Reg.cond_two (by omega)]
 simp only [f23_47,f23_4,f23_46,f23_9,f23_5,f23_8,f23_7,f23_7_i,dec_and]
 rw [cond_pos (by omega),Int.toNat_natCast,List.length_replicate]
 have hm:=Reg.mapTo_full (fun _=>(-1:Int)) (List.replicate n 0)
 rw [List.length_replicate,List.map_replicate] at hm
 refine loopN_from (fun i=>(a0,a2,(n:Int),(i:Int),Reg.mapTo (fun _=>(-1:Int)) (List.replicate n 0) i,n)) n (by rfl) (fun i hi k=>?_) (fun k=>?_) _ (by omega)
 ·simp only [f23_6,dec_and]
  have hml:=Reg.mapTo_len (fun _=>(-1:Int)) (List.replicate n 0) i
  rw [List.length_replicate] at hml
  rw [cond_pos (by omega),cond_pos (by omega),Int.toNat_natCast,i64w (by omega) (by omega),← Reg.mapTo_succ (fun _=>(-1:Int)) _ 0 _ (by rw [List.length_replicate];exact hi)]
  rfl
 simp only [f23_6]
 rw [cond_neg (by omega),hm]
 simp only [f23_45,f23_10,f23_44,f23_11,f23_43,f23_12,f23_42,f23_40,f23_13,f23_39,f23_38,f23_38_i]
 rw [cond_pos (by omega),cond_pos (by omega)]
 generalize Reg.sortD a0=S at *
 refine loopN_from (fun i=>(a2,(S.length:Int),(i:Int),(Reg.evTo S n a2 6 i).1,n,(Reg.evTo S n a2 6 i).2,S,a0.length)) a0.length (by rfl) (fun i hi k=>?_) (fun k=>?_) _ (by omega)
 ·simp only [f23_37,f23_14,f23_36,f23_15,f23_35,f23_33,f23_32,f23_16,f23_31,f23_17,f23_30,f23_22,f23_18,f23_21,f23_20,f23_20_i,dec_and]
  rw [cond_pos (by omega),cond_pos (by omega),Int.toNat_natCast]
  have hf0:0≤Reg.first a2:=by omega
  have hs:=Reg.evTo_succ (n:=n) (m:=6) (u:=a2) (show i < S.length by omega)
  have hbd:=Reg.evTo_bound (l:=S) (u:=a2) (n:=n) (m:=6) (fun x hx=>(hsm x hx).2) i (by omega)
  have hlen:=Reg.evTo_len S n a2 6 i
  have hxm:=hsm _ (Reg.getD_mem (show i < S.length by omega))
  rw [hs]
  generalize S.getD i []=x at *
  generalize Reg.evTo S n a2 6 i=s at *
  obtain⟨out,sh⟩:=s
  simp only at hbd hlen ⊢
  refine loopN_from (fun j=>(a2,x,Reg.pickTo a2 sh j,(S.length:Int),(i:Int),a2,(a2.length:Int),(j:Int),out,n,sh,S,a0.length)) a2.length (by rfl) (fun j hj k'=>?_) (fun k'=>?_) _ (by omega)
  ·simp only [f23_19,dec_and]
   have hpr:=Reg.pickTo_range (sh:=sh) hf0 j (by omega)
   rw [cond_pos (by omega),cond_pos (by omega),Int.toNat_natCast,Reg.pickTo_succ,i64w (by omega) (by omega)]
   cases hu:a2.getD j false with
   | false=>rw [cond_false,if_neg (by simp)];rfl
   | true=>
    rw [cond_true,cond_pos (by omega),cond_pos (by omega)]
    by_cases hlt:sh.getD j 0 < sh.getD (Reg.pickTo a2 sh j).toNat 0
    ·rw [cond_pos hlt,if_pos ⟨rfl,hlt⟩];rfl
    ·rw [cond_neg hlt,if_neg (fun h=>hlt h.2)];rfl
  simp only [f23_19]
  rw [cond_neg (by omega)]
  have hpr:=Reg.pickTo_range (sh:=sh) hf0 a2.length (by omega)
  have hbp:=hbd (Reg.pickTo a2 sh a2.length).toNat
  simp only [f23_29,f23_23,f23_28,f23_24,f23_27,f23_26,f23_26_i,Reg.evStep,Reg.pick,dec_and]
  rw [cond_pos (by omega),cond_pos (by omega),i64w (by omega) (by omega)]
  generalize Reg.pickTo a2 sh a2.length=h at *
  generalize sh.set h.toNat (sh.getD h.toNat 0+(x.length:Int))=sh'
  refine loopN_from (fun j=>(a2,h,(S.length:Int),(i:Int),x,(x.length:Int),(j:Int),Reg.put h (x.take j) out,n,sh',S,a0.length)) x.length (by rfl) (fun j hj k'=>?_) (fun k'=>?_) _ (by omega)
  ·simp only [f23_25,dec_and]
   have hr:=Reg.inr_getD hxm.1 hj
   have hpl:=Reg.put_len h (x.take j) out
   rw [cond_pos (by omega),cond_pos (by omega),Int.toNat_natCast,cond_pos (by omega),i64w (by omega) (by omega),← Reg.put_succ hj]
   rfl
  ·simp only [f23_25,f23_34]
   rw [cond_neg (by omega),List.take_length,i64w (by omega) (by omega)]
   rfl
 ·simp only [f23_37,f23_14,f23_36,f23_15]
  rw [cond_neg (by omega)]
  simp only [f23_41]
  rw [(Reg.evTo_len S n a2 6 a0.length).1]
theorem c23:CallOk Try.prog G38 23 r23:=callOk_of (V:=VG3823) mixed tys eVG3823 (f:=23) (fn:=Try.f23) Try.func23 (by kernel_rfl) (c:=sub (bodyOf Try.f23) []) (by kernel_rfl) (by
 intro X H r H' h hX hH
 unfold r23 at h;split at h <;> try contradiction
 ·simp only [Option.some.injEq,Prod.mk.injEq] at h
  obtain⟨hp,rfl,rfl⟩:=h
  obtain⟨F,hF⟩:=s23 _ _ _ hp (hX _ (.head _)) (hX _ (.tail _ (.head _))) (hX _ (.tail _ (.tail _ (.head _))))
  exact⟨Af23 F,(f23_body F _ _ _).trans hF⟩)
end Go.Am
end
section
namespace Go.Am
open Go Go.Proofs
def lVG3819:List CEnt:=[(15,[some 22,some 3,some 4],r15),(18,[some 3,some 3],r18),(20,[some 3,some 22,none,some 4],r20),(23,[some 22,none,some 4],r23)]
def VG3819:Env:=mkEnv T38 G38 lVG3819
noncomputable abbrev Kf34:=kFin VG3819 none (Try.f19).results.toList
theorem eVG3819:EOk Try.prog VG3819:=eok_mk (by exact⟨c15,c18,c20,c23,trivial⟩)
def Af19(F:Nat):Cuts:={ F:=F,at_:=fun _=>none,join:=fun _=>none }
def ef19_a:Unit→St:=fun _=>⟨[],[],0,77,0⟩
def f19_1(F:Nat):Unit→Rz:=fun _=>(cond (decide ([(0:Int),(1:Int),(1:Int)].length < 1073741000)) (cond (decide ([(0:Int),(1:Int),(1:Int)].length < 1073741000)) (cond (decide ([(0:Int),(1:Int),(1:Int)].length < 1073741000)) (cond (decide ([[(0:Int),(1:Int),(2:Int)],[(3:Int),(4:Int)],[(5:Int),(6:Int)]].length < 20)) (cond ((Reg.own [[(0:Int),(1:Int),(2:Int)]] [(0:Int),(1:Int),(1:Int)] [true,true]).2 != (0:Int)) (some ((.bool false),[])) (cond ((Reg.own [[(0:Int),(1:Int),(2:Int)]] [(0:Int),(1:Int),(1:Int)] [true,false]).2 != (0:Int)) (some ((.bool false),[])) (cond ((Reg.take [(0:Int),(1:Int),(1:Int)] [[(0:Int)],[(1:Int),(2:Int)]] (1:Int) [true,true]).2 != (0:Int)) (some ((.bool false),[])) (cond ((Reg.even [[(0:Int),(1:Int),(2:Int)],[(3:Int),(4:Int)],[(5:Int),(6:Int)]] (7:Int) [true,true]).2 != (0:Int)) (some ((.bool false),[])) (cond (decide ((Reg.own [[(0:Int),(1:Int),(2:Int)]] [(0:Int),(1:Int),(1:Int)] [true,true]).1=[(1:Int),(1:Int),(1:Int)])) (cond (decide ((Reg.own [[(0:Int),(1:Int),(2:Int)]] [(0:Int),(1:Int),(1:Int)] [true,false]).1=[(0:Int),(0:Int),(0:Int)])) (cond (decide ((Reg.take [(0:Int),(1:Int),(1:Int)] [[(0:Int)],[(1:Int),(2:Int)]] (1:Int) [true,true]).1=[(0:Int),(0:Int),(0:Int)])) (some ((.bool (decide ((Reg.even [[(0:Int),(1:Int),(2:Int)],[(3:Int),(4:Int)],[(5:Int),(6:Int)]] (7:Int) [true,true]).1=[(0:Int),(0:Int),(0:Int),(1:Int),(1:Int),(1:Int),(1:Int)]))),[])) (some ((.bool false),[]))) (some ((.bool false),[]))) (some ((.bool false),[]))))))) none) none) none) none)
theorem f19_1_eq(F:Nat):∀ v,aexec VG3819 (Af19 F) (sub (bodyOf Try.f19) []) (ef19_a v) Kf34=f19_1 F v:=by
 intro _;kernel_rfl
def f19(F:Nat):Unit→Rz:=f19_1 F
theorem f19_body(F:Nat) : abody VG3819 (Af19 F) Try.f19 [] []=f19 F ():=
 (abody_in (c:=(sub (bodyOf Try.f19) [])) (by kernel_rfl) (s:=ef19_a ()) (by kernel_rfl)).trans (f19_1_eq F ())
def r19:CRun:=fun X H=>match X,H with
 | [],[]=>some (true,.bool true,[])
 | _,_=>none
theorem s19 : ∃ F,f19 F ()=some ((.bool true),[]):=⟨0,by kernel_rfl⟩
theorem c19:CallOk Try.prog G38 19 r19:=callOk_of (V:=VG3819) mixed tys eVG3819 (f:=19) (fn:=Try.f19) Try.func19 (by kernel_rfl) (c:=sub (bodyOf Try.f19) []) (by kernel_rfl) (by
 intro X H r H' h hX hH
 unfold r19 at h;split at h <;> try contradiction
 ·simp only [Option.some.injEq,Prod.mk.injEq] at h
  obtain⟨hp,rfl,rfl⟩:=h
  obtain⟨F,hF⟩:=s19
  exact⟨Af19 F,(f19_body F).trans hF⟩)
end Go.Am
end
section
namespace Go.Am
open Go Go.Proofs
abbrev Ty79:=Li×Li×Li
end Go.Am
end