/- Part of a proof. -/
import Derived.Test.YtffddoahjpemaaaGreatDoorAm36ZB
set_option linter.unusedVariables false
set_option linter.unusedSimpArgs false
namespace Go.Am
open Go Go.Proofs
abbrev sp21:List (Nat×Md):=[(0,.plain),(2,.plain),(3,.plain),(4,.plain)]
abbrev sp22:List (Nat×Md):=[(2,.plain),(3,.plain),(5,.plain)]
abbrev sp23:List (Nat×Md):=[(0,.plain),(2,.plain)]
abbrev sp24:List (Nat×Md):=[(0,.plain),(3,.plain)]
abbrev sp25:List (Nat×Md):=[(3,.plain),(4,.plain),(5,.plain)]
abbrev sp26:List (Nat×Md):=[(2,.plain),(3,.plain),(4,.plain),(5,.plain)]
abbrev sp27:List (Nat×Md):=[(2,.plain),(3,.plain),(4,.plain),(5,.plain),(6,.plain),(7,.plain),(8,.plain),(9,.plain),(10,.plain),(11,.plain),(12,.plain),(13,.plain),(14,.plain),(15,.plain)]
abbrev sp28:List (Nat×Md):=[(2,.plain),(3,.plain),(18,.plain),(19,.plain)]
abbrev sp29:List (Nat×Md):=[(2,.plain),(3,.plain),(4,.plain)]
abbrev sp30:List (Nat×Md):=[(2,.plain),(3,.plain),(4,.plain),(5,.plain),(6,.plain)]
abbrev sp31:List (Nat×Md):=[(2,.plain),(3,.plain),(4,.plain),(5,.plain),(6,.plain),(7,.plain),(8,.plain),(9,.plain),(10,.plain),(11,.plain),(12,.plain),(13,.plain),(14,.plain)]
abbrev sp32:List (Nat×Md):=[(2,.plain),(3,.plain),(4,.plain),(5,.plain),(7,.plain),(8,.plain),(9,.plain),(10,.plain),(11,.plain),(12,.plain),(13,.plain),(14,.plain)]
abbrev sp33:List (Nat×Md):=[(2,.plain),(3,.plain),(18,.plain)]
abbrev sp34:List (Nat×Md):=[(2,.plain),(18,.plain)]
abbrev Ty18:=Int×Li×Li
abbrev Ty19:=Int×Li×Li×Li
abbrev Ty20:=Int×Int×Int×Int×Int×Int×Int×Int×Int×Li×Li×Li×Li
abbrev Ty21:=Int×Int×Int×Int×Int×Int×Int×Int×Int×Int×Li×Li×Li×Li
abbrev Ty22:=Int×Int×Int×Int×Int×Int×Int×Int×Int×Li×Li×Li
def lV109:List CEnt:=[]
def V109:Env:=mkEnv T36Z G36Z lV109
noncomputable abbrev Kf9:=kFin V109 none (Tryz.f109).results.toList
theorem eV109:EOk Tryz.prog V109:=eok_mk (by exact trivial)
def Af109(F:Nat):Cuts:={ F:=F,at_:=fun _=>none,join:=fun _=>none }
def ef109_a:Int×Int→St:=fun (a0,a1)=>⟨[(0,.int .u32 a0),(1,.int .i64 a1)],[],0,13,0⟩
def f109_1(F:Nat):Int×Int→Rz:=fun (a0,a1)=>(cond (decide (0≤a1)) (cond (decide (0≤(IntKind.i64.wrap ((32:Int)-a1)))) (some ((.int .u32 (ibits .or .u32 (Int.fdiv a0 (2^(min (Int.toNat a1) 32))) (IntKind.u32.wrap (a0*2^(min (Int.toNat (IntKind.i64.wrap ((32:Int)-a1))) 32))))),[])) none) none)
theorem f109_1_eq(F:Nat):∀ v,aexec V109 (Af109 F) (sub (bodyOf Tryz.f109) []) (ef109_a v) Kf9=f109_1 F v:=by
 rintro⟨a0,a1⟩;kernel_rfl
def f109(F:Nat):Int×Int→Rz:=f109_1 F
theorem f109_body(F:Nat)(a0 a1:Int):abody V109 (Af109 F) Tryz.f109 [(.int .u32 a0),.int .i64 a1] []=f109 F (a0,a1):=
 (abody_in (by kernel_rfl) (by kernel_rfl)).trans (f109_1_eq F (a0,a1))
def r109:CRun:=fun X H=>match X,H with
 | [(.int .u32 a0),.int .i64 a1],[]=>some (((decide (0≤a1))&&(decide (a1≤32))),(.int .u32 (Sha.rotr a0 (Int.toNat a1))),[])
 | _,_=>none
theorem s109(a0 a1:Int)(hp:(((decide (0≤a1))&&(decide (a1≤32))))=true)(h0:okV (.int .u32 a0))(h1:okV (.int .i64 a1)):∃ F,f109 F (a0,a1)=some ((.int .u32 (Sha.rotr a0 (Int.toNat a1))),[]):=by
 rw [dec_and,decide_eq_true_eq] at hp
 refine⟨0,?_⟩
 simp only [f109,f109_1]
 rw [i64w (by omega) (by omega),cond_pos (by omega),cond_pos (by omega),show min a1.toNat 32=a1.toNat by omega,show min (32-a1).toNat 32=32-a1.toNat by omega]
 rfl
theorem c109:CallOk Tryz.prog G36Z 109 r109:=callOk_of mixed tys eV109 Tryz.func109 (by kernel_rfl) (c:=sub (bodyOf Tryz.f109) []) (by kernel_rfl) (by
 intro X H r H' h hX hH
 unfold r109 at h;split at h <;> try contradiction
 ·obtain⟨hp,rfl,rfl⟩:=inj3 h
  obtain⟨F,hF⟩:=s109 _ _ hp (hX _ hm0) (hX _ hm1)
  exact⟨Af109 F,(f109_body F _ _).trans hF⟩)
def lV108:List CEnt:=[(109,[none,none],r109)]
def V108:Env:=mkEnv T36Z G36Z lV108
noncomputable abbrev Kf10:=kFin V108 none (Tryz.f108).results.toList
theorem eV108:EOk Tryz.prog V108:=eok_mk (by exact⟨c109,trivial⟩)
def Af108(F:Nat):Cuts:={ F:=F,at_:=fun n=>match n with | 3010=>some sp21 | 7014=>some sp22 | _=>none,join:=fun n=>match n with | 1039=>some sp23 | 2037=>some sp2 | 3012=>some sp21 | 6022=>some sp6 | 7016=>some sp22 | 12003=>some sp6 | _=>none }
noncomputable abbrev XAf108(F:Nat){α:Type}:=@aexec α V108 (Af108 F)
def ef108_a:Li→St:=fun a0=>⟨[(0,(.vs (.rI .u8 a0) 0 1))],[],0,101,0⟩
def ef108j1:Li×Li→St:=fun (t0,x2)=>⟨[(0,(.vs (.rI .u8 t0) 0 1)),(2,.ptr 0 0 64 0 0 0 64)],[(0,(.cells 64 (.rI .u32 x2) true))],1,101,0⟩
def ef108j2:Ty0→St:=fun (t0,x2,x3)=>⟨[(0,(.vs (.rI .u8 t0) 0 1)),(2,.ptr 0 0 64 0 0 0 64),(3,.ptr 1 0 64 0 0 0 64)],[(0,(.cells 64 (.rI .u32 x2) true)),(1,(.cells 64 (.rI .u32 x3) true))],2,101,0⟩
def ef108j3:Ty1→St:=fun (t0,t4,x3,x4)=>⟨[(0,(.vs (.rI .u8 t0) 0 1)),(2,.ptr 0 0 64 0 0 0 64),(3,.ptr 1 0 64 0 0 0 64),(4,.int .i64 t4)],[(0,(.cells 64 (.rI .u32 x3) true)),(1,(.cells 64 (.rI .u32 x4) true))],2,101,0⟩
def ef108l1:Ty1→St:=ef108j3
def ef108j4:Li×Li→St:=fun (x1,x2)=>⟨[(2,.ptr 0 0 64 0 0 0 64),(3,.ptr 1 0 64 0 0 0 64)],[(0,(.cells 64 (.rI .u32 x1) true)),(1,(.cells 64 (.rI .u32 x2) true))],2,101,0⟩
def ef108j5:Ty18→St:=fun (t5,x2,x3)=>⟨[(2,.ptr 0 0 64 0 0 0 64),(3,.ptr 1 0 64 0 0 0 64),(5,.int .i64 t5)],[(0,(.cells 64 (.rI .u32 x2) true)),(1,(.cells 64 (.rI .u32 x3) true))],2,101,0⟩
def ef108l2:Ty18→St:=ef108j5
def ef108j6:Li×Li→St:=ef108j4
def f108_1(F:Nat)(kj1:Li×Li→Rz):Li→Rz:=fun a0=>(kj1 (a0,(List.replicate 64 0)))
theorem f108_1_eq(F:Nat)(Rj1:St→Rz):∀ v,XAf108 F (bp Tryz.f108 2) (ef108_a v) (kSeq (kc V108 Rj1 sp23) Kf10)=f108_1 F (Rj1∘ef108j1) v:=by
 intro a0;kernel_rfl
def f108_2(F:Nat)(kj2:Ty0→Rz):Li×Li→Rz:=fun (t0,x2)=>(kj2 (t0,x2,(List.replicate 64 0)))
theorem f108_2_eq(F:Nat)(Rj2:St→Rz):∀ v,XAf108 F (bp Tryz.f108 6) (ef108j1 v) (kSeq (kc V108 Rj2 sp2) Kf10)=f108_2 F (Rj2∘ef108j2) v:=by
 rintro⟨t0,x2⟩;kernel_rfl
def f108_3(F:Nat)(kj3:Ty1→Rz)(kj4:Li×Li→Rz):Ty0→Rz:=fun (t0,x2,x3)=>(kj3 (t0,(0:Int),x2,x3))
theorem f108_3_eq(F:Nat)(Rj3 Rj4:St→Rz):∀ v,XAf108 F (bp Tryz.f108 28) (ef108j2 v) (kSeq (kc V108 Rj3 sp21) (kSeq (kc V108 Rj4 sp6) Kf10))=f108_3 F (Rj3∘ef108j3) (Rj4∘ef108j4) v:=by
 rintro⟨t0,x2,x3⟩;kernel_rfl
def f108_4(F:Nat)(kl1:Ty1→Rz)(kj4:Li×Li→Rz):Ty1→Rz:=fun (t0,t4,x3,x4)=>(cond (decide (t4 < (16:Int))) (cond ((decide (0≤(IntKind.i64.wrap ((4:Int)*t4))))&&(decide ((IntKind.i64.wrap ((4:Int)*t4)) < (↑t0.length:Int)))) (cond ((decide (0≤(IntKind.i64.wrap ((IntKind.i64.wrap ((4:Int)*t4))+(1:Int)))))&&(decide ((IntKind.i64.wrap ((IntKind.i64.wrap ((4:Int)*t4))+(1:Int))) < (↑t0.length:Int)))) (cond ((decide (0≤(IntKind.i64.wrap ((IntKind.i64.wrap ((4:Int)*t4))+(2:Int)))))&&(decide ((IntKind.i64.wrap ((IntKind.i64.wrap ((4:Int)*t4))+(2:Int))) < (↑t0.length:Int)))) (cond ((decide (0≤(IntKind.i64.wrap ((IntKind.i64.wrap ((4:Int)*t4))+(3:Int)))))&&(decide ((IntKind.i64.wrap ((IntKind.i64.wrap ((4:Int)*t4))+(3:Int))) < (↑t0.length:Int)))) (cond ((decide (0≤t4))&&(decide (t4 < (64:Int)))) (kl1 (t0,(IntKind.i64.wrap (t4+(1:Int))),x3,(x4.set (Int.toNat t4) (ibits .or .u32 (ibits .or .u32 (ibits .or .u32 (IntKind.u32.wrap ((IntKind.u32.wrap (t0.getD (Int.toNat (IntKind.i64.wrap ((4:Int)*t4))) 0))*2^24)) (IntKind.u32.wrap ((IntKind.u32.wrap (t0.getD (Int.toNat (IntKind.i64.wrap ((IntKind.i64.wrap ((4:Int)*t4))+(1:Int)))) 0))*2^16))) (IntKind.u32.wrap ((IntKind.u32.wrap (t0.getD (Int.toNat (IntKind.i64.wrap ((IntKind.i64.wrap ((4:Int)*t4))+(2:Int)))) 0))*2^8))) (IntKind.u32.wrap (t0.getD (Int.toNat (IntKind.i64.wrap ((IntKind.i64.wrap ((4:Int)*t4))+(3:Int)))) 0)))))) none) none) none) none) none) (kj4 (x3,x4)))
theorem f108_4_eq(F:Nat)(Rl1 Rj4:St→Rz):∀ v,XAf108 F (bp Tryz.f108 116) (ef108l1 v) (kSeq (kc V108 Rl1 sp21) (kBlock 0 (kSeq (kc V108 Rj4 sp6) Kf10)))=f108_4 F (Rl1∘ef108l1) (Rj4∘ef108j4) v:=by
 rintro⟨t0,t4,x3,x4⟩;kernel_rfl
def f108_5_i:Ty1→Li×Int×Li×Li:=fun (t0,t4,x3,x4)=>(t0,t4,x3,x4)
def f108_5(F:Nat)(kj4:Li×Li→Rz):Ty1→Rz:=fun v=>loopN (fun k=>f108_4 F k kj4) F (f108_5_i v)
theorem f108_5_eq(F:Nat)(Rj4:St→Rz):∀ v,XAf108 F (bp Tryz.f108 58) (ef108j3 v) (kBlock 0 (kSeq (kc V108 Rj4 sp6) Kf10))=f108_5 F (Rj4∘ef108j4) v:=
 loop_cut (by kernel_rfl) (by kernel_rfl) ef108j3 ef108l1 _ f108_5_i (fun k=>f108_4 F k (Rj4∘ef108j4))
  (by rintro⟨t0,t4,x3,x4⟩;kernel_rfl) (fun Rl1=>f108_4_eq F Rl1 Rj4)
def f108_6(F:Nat)(kj4:Li×Li→Rz):Ty1→Rz:=f108_5 F kj4
theorem f108_6_eq(F:Nat)(Rj4:St→Rz):∀ v,XAf108 F (bp Tryz.f108 29) (ef108j3 v) (kSeq (kc V108 Rj4 sp6) Kf10)=f108_6 F (Rj4∘ef108j4) v:=fun v=>
 (block_in  (by kernel_rfl) _ _).trans (f108_5_eq F Rj4 v)
def f108_7(F:Nat)(kj4:Li×Li→Rz):Ty0→Rz:=fun v=>f108_3 F (f108_6 F kj4) kj4 v
theorem f108_7_eq(F:Nat)(Rj4:St→Rz):∀ v,XAf108 F (bp Tryz.f108 14) (ef108j2 v) (kSeq (kc V108 Rj4 sp6) Kf10)=f108_7 F (Rj4∘ef108j4) v:=
 seq_cut (by kernel_rfl) (by kernel_rfl) ef108j2 ef108j3 _ (fun k=>f108_3 F k (Rj4∘ef108j4)) (f108_6 F (Rj4∘ef108j4))
  (fun Rj3=>f108_3_eq F Rj3 Rj4) (f108_6_eq F Rj4)
def f108_8(F:Nat)(kj5:Ty18→Rz)(kj6:Li×Li→Rz):Li×Li→Rz:=fun (x1,x2)=>(kj5 ((16:Int),x1,x2))
theorem f108_8_eq(F:Nat)(Rj5 Rj6:St→Rz):∀ v,XAf108 F (bp Tryz.f108 60) (ef108j4 v) (kSeq (kc V108 Rj5 sp22) (kSeq (kc V108 Rj6 sp6) Kf10))=f108_8 F (Rj5∘ef108j5) (Rj6∘ef108j6) v:=by
 rintro⟨x1,x2⟩;kernel_rfl
def f108_9(F:Nat)(kl2:Ty18→Rz)(kj6:Li×Li→Rz):Ty18→Rz:=fun (t5,x2,x3)=>(cond (decide (t5 < (64:Int))) (cond ((decide (0≤(IntKind.i64.wrap (t5-(15:Int)))))&&(decide ((IntKind.i64.wrap (t5-(15:Int))) < (64:Int)))) (cond ((decide (0≤(7:Int)))&&(decide ((7:Int)≤32))) (cond ((decide (0≤(IntKind.i64.wrap (t5-(15:Int)))))&&(decide ((IntKind.i64.wrap (t5-(15:Int))) < (64:Int)))) (cond ((decide (0≤(18:Int)))&&(decide ((18:Int)≤32))) (cond ((decide (0≤(IntKind.i64.wrap (t5-(15:Int)))))&&(decide ((IntKind.i64.wrap (t5-(15:Int))) < (64:Int)))) (cond ((decide (0≤(IntKind.i64.wrap (t5-(2:Int)))))&&(decide ((IntKind.i64.wrap (t5-(2:Int))) < (64:Int)))) (cond ((decide (0≤(17:Int)))&&(decide ((17:Int)≤32))) (cond ((decide (0≤(IntKind.i64.wrap (t5-(2:Int)))))&&(decide ((IntKind.i64.wrap (t5-(2:Int))) < (64:Int)))) (cond ((decide (0≤(19:Int)))&&(decide ((19:Int)≤32))) (cond ((decide (0≤(IntKind.i64.wrap (t5-(2:Int)))))&&(decide ((IntKind.i64.wrap (t5-(2:Int))) < (64:Int)))) (cond ((decide (0≤(IntKind.i64.wrap (t5-(16:Int)))))&&(decide ((IntKind.i64.wrap (t5-(16:Int))) < (64:Int)))) (cond ((decide (0≤(IntKind.i64.wrap (t5-(7:Int)))))&&(decide ((IntKind.i64.wrap (t5-(7:Int))) < (64:Int)))) (cond ((decide (0≤t5))&&(decide (t5 < (64:Int)))) (kl2 ((IntKind.i64.wrap (t5+(1:Int))),x2,(x3.set (Int.toNat t5) (IntKind.u32.wrap ((IntKind.u32.wrap ((IntKind.u32.wrap ((x3.getD (Int.toNat (IntKind.i64.wrap (t5-(16:Int)))) 0)+(ibits .xor .u32 (ibits .xor .u32 (Sha.rotr (x3.getD (Int.toNat (IntKind.i64.wrap (t5-(15:Int)))) 0) (Int.toNat (7:Int))) (Sha.rotr (x3.getD (Int.toNat (IntKind.i64.wrap (t5-(15:Int)))) 0) (Int.toNat (18:Int)))) (Int.fdiv (x3.getD (Int.toNat (IntKind.i64.wrap (t5-(15:Int)))) 0) (2^3)))))+(x3.getD (Int.toNat (IntKind.i64.wrap (t5-(7:Int)))) 0)))+(ibits .xor .u32 (ibits .xor .u32 (Sha.rotr (x3.getD (Int.toNat (IntKind.i64.wrap (t5-(2:Int)))) 0) (Int.toNat (17:Int))) (Sha.rotr (x3.getD (Int.toNat (IntKind.i64.wrap (t5-(2:Int)))) 0) (Int.toNat (19:Int)))) (Int.fdiv (x3.getD (Int.toNat (IntKind.i64.wrap (t5-(2:Int)))) 0) (2^10)))))))) none) none) none) none) none) none) none) none) none) none) none) none) none) (kj6 (x2,x3)))
theorem f108_9_eq(F:Nat)(Rl2 Rj6:St→Rz):∀ v,XAf108 F (bp Tryz.f108 244) (ef108l2 v) (kSeq (kc V108 Rl2 sp22) (kBlock 2 (kSeq (kc V108 Rj6 sp6) Kf10)))=f108_9 F (Rl2∘ef108l2) (Rj6∘ef108j6) v:=by
 rintro⟨t5,x2,x3⟩;kernel_rfl
def f108_10_i:Ty18→Int×Li×Li:=fun (t5,x2,x3)=>(t5,x2,x3)
def f108_10(F:Nat)(kj6:Li×Li→Rz):Ty18→Rz:=fun v=>loopN (fun k=>f108_9 F k kj6) F (f108_10_i v)
theorem f108_10_eq(F:Nat)(Rj6:St→Rz):∀ v,XAf108 F (bp Tryz.f108 122) (ef108j5 v) (kBlock 2 (kSeq (kc V108 Rj6 sp6) Kf10))=f108_10 F (Rj6∘ef108j6) v:=
 loop_cut (by kernel_rfl) (by kernel_rfl) ef108j5 ef108l2 _ f108_10_i (fun k=>f108_9 F k (Rj6∘ef108j6))
  (by rintro⟨t5,x2,x3⟩;kernel_rfl) (fun Rl2=>f108_9_eq F Rl2 Rj6)
def f108_11(F:Nat)(kj6:Li×Li→Rz):Ty18→Rz:=f108_10 F kj6
theorem f108_11_eq(F:Nat)(Rj6:St→Rz):∀ v,XAf108 F (bp Tryz.f108 61) (ef108j5 v) (kSeq (kc V108 Rj6 sp6) Kf10)=f108_11 F (Rj6∘ef108j6) v:=fun v=>
 (block_in  (by kernel_rfl) _ _).trans (f108_10_eq F Rj6 v)
def f108_12(F:Nat)(kj6:Li×Li→Rz):Li×Li→Rz:=fun v=>f108_8 F (f108_11 F kj6) kj6 v
theorem f108_12_eq(F:Nat)(Rj6:St→Rz):∀ v,XAf108 F (bp Tryz.f108 30) (ef108j4 v) (kSeq (kc V108 Rj6 sp6) Kf10)=f108_12 F (Rj6∘ef108j6) v:=
 seq_cut (by kernel_rfl) (by kernel_rfl) ef108j4 ef108j5 _ (fun k=>f108_8 F k (Rj6∘ef108j6)) (f108_11 F (Rj6∘ef108j6))
  (fun Rj5=>f108_8_eq F Rj5 Rj6) (f108_11_eq F Rj6)
def f108_13(F:Nat):Li×Li→Rz:=fun (x1,x2)=>(some ((.agg 64 (.rI .u32 x2)),[]))
theorem f108_13_eq(F:Nat):∀ v,XAf108 F (bp Tryz.f108 31) (ef108j6 v) Kf10=f108_13 F v:=by
 rintro⟨x1,x2⟩;kernel_rfl
def f108_14(F:Nat):Li×Li→Rz:=fun v=>f108_12 F (f108_13 F) v
theorem f108_14_eq(F:Nat):∀ v,XAf108 F (bp Tryz.f108 15) (ef108j4 v) Kf10=f108_14 F v:=
 seq_cut (by kernel_rfl) (by kernel_rfl) ef108j4 ef108j6 _ (fun k=>f108_12 F k) (f108_13 F)
  (fun Rj6=>f108_12_eq F Rj6) (f108_13_eq F)
def f108_15(F:Nat):Ty0→Rz:=fun v=>f108_7 F (f108_14 F) v
theorem f108_15_eq(F:Nat):∀ v,XAf108 F (bp Tryz.f108 7) (ef108j2 v) Kf10=f108_15 F v:=
 seq_cut (by kernel_rfl) (by kernel_rfl) ef108j2 ef108j4 _ (fun k=>f108_7 F k) (f108_14 F)
  (fun Rj4=>f108_7_eq F Rj4) (f108_14_eq F)
def f108_16(F:Nat):Li×Li→Rz:=fun v=>f108_2 F (f108_15 F) v
theorem f108_16_eq(F:Nat):∀ v,XAf108 F (bp Tryz.f108 3) (ef108j1 v) Kf10=f108_16 F v:=
 seq_cut (by kernel_rfl) (by kernel_rfl) ef108j1 ef108j2 _ (fun k=>f108_2 F k) (f108_15 F)
  (fun Rj2=>f108_2_eq F Rj2) (f108_15_eq F)
def f108_17(F:Nat):Li→Rz:=fun v=>f108_1 F (f108_16 F) v
theorem f108_17_eq(F:Nat):∀ v,XAf108 F (sub (bodyOf Tryz.f108) []) (ef108_a v) Kf10=f108_17 F v:=
 seq_cut (by kernel_rfl) (by kernel_rfl) ef108_a ef108j1 _ (fun k=>f108_1 F k) (f108_16 F)
  (fun Rj1=>f108_1_eq F Rj1) (f108_16_eq F)
def f108(F:Nat):Li→Rz:=f108_17 F
theorem f108_body(F:Nat)(a0:Li):abody V108 (Af108 F) Tryz.f108 [(.vs (.rI .u8 a0) 0 1)] []=f108 F a0:=
 (abody_in (c:=(sub (bodyOf Tryz.f108) [])) (by kernel_rfl) (s:=ef108_a a0) (by kernel_rfl)).trans (f108_17_eq F a0)
def r108:CRun:=fun X H=>match X,H with
 | [(.vs (.rI .u8 a0) 0 1)],[]=>some ((decide (64≤a0.length)),(.agg 64 (.rI .u32 (Sha.sched a0 64))),[])
 | _,_=>none
theorem byte_get{l:List Int}(h:∀ x∈l,0≤x∧x≤255)(i:Nat):0≤l.getD i 0∧l.getD i 0≤255:=by
 by_cases hi:i < l.length
 ·rw [List.getD_eq_getElem?_getD,List.getElem?_eq_getElem hi];exact h _ (List.getElem_mem hi)
 ·rw [List.getD_eq_getElem?_getD,List.getElem?_eq_none (by omega)];simp
theorem or_add(i a b:Nat)(h:b < 2^i)(h2:a*2^i+b < 4294967296):ibits .or .u32 ((a*2^i:Nat):Int) (b:Int)=((a*2^i+b:Nat):Int):=by
 show IntKind.u32.wrap (((BitVec.ofInt 32 ((a*2^i:Nat):Int)) ||| (BitVec.ofInt 32 (b:Int))).toNat:Int)=_
 rw [BitVec.toNat_or,BitVec.toNat_ofInt,BitVec.toNat_ofInt]
 generalize hx:a*2^i=x at *
 have e1:((x:Int)%((2^32:Nat):Int)).toNat=x:=by omega
 have e2:((b:Int)%((2^32:Nat):Int)).toNat=b:=by omega
 rw [e1,e2,← hx,← Nat.shiftLeft_eq,← Nat.shiftLeft_add_eq_or_of_lt h,Nat.shiftLeft_eq,hx,u32w (by omega) (by omega)]
theorem or4(a b c d:Int)(ha:0≤a∧a≤255)(hb:0≤b∧b≤255)(hc:0≤c∧c≤255)(hd:0≤d∧d≤255):
  ibits .or .u32 (ibits .or .u32 (ibits .or .u32 (IntKind.u32.wrap ((IntKind.u32.wrap a)*2^24)) (IntKind.u32.wrap ((IntKind.u32.wrap b)*2^16))) (IntKind.u32.wrap ((IntKind.u32.wrap c)*2^8))) (IntKind.u32.wrap d)=Sha.word a b c d:=by
 obtain⟨a,rfl⟩:=Int.eq_ofNat_of_zero_le ha.1
 obtain⟨b,rfl⟩:=Int.eq_ofNat_of_zero_le hb.1
 obtain⟨c,rfl⟩:=Int.eq_ofNat_of_zero_le hc.1
 obtain⟨d,rfl⟩:=Int.eq_ofNat_of_zero_le hd.1
 rw [u32w (x:=(a:Int)) (by omega) (by omega),u32w (x:=(b:Int)) (by omega) (by omega),u32w (x:=(c:Int)) (by omega) (by omega),u32w (x:=(d:Int)) (by omega) (by omega),
  u32w (x:=(a:Int)*2^24) (by omega) (by omega),u32w (x:=(b:Int)*2^16) (by omega) (by omega),u32w (x:=(c:Int)*2^8) (by omega) (by omega)]
 have e1:ibits .or .u32 ((a:Int)*2^24) ((b:Int)*2^16)=(((a*256+b)*2^16:Nat):Int):=by
  have:=or_add 24 a (b*2^16) (by omega) (by omega)
  rw [show((a:Int)*2^24)=((a*2^24:Nat):Int) by omega,show((b:Int)*2^16)=((b*2^16:Nat):Int) by omega,this];omega
 have e2:ibits .or .u32 (((a*256+b)*2^16:Nat):Int) ((c:Int)*2^8)=((((a*256+b)*256+c)*2^8:Nat):Int):=by
  have:=or_add 16 (a*256+b) (c*2^8) (by omega) (by omega)
  rw [show((c:Int)*2^8)=((c*2^8:Nat):Int) by omega,this];omega
 rw [e1,e2,or_add 8 _ d (by omega) (by omega)]
 unfold Sha.word;omega
theorem s108(a0:Li)(hp:((decide (64≤a0.length)))=true)(h0:okV (.vs (.rI .u8 a0) 0 1)):∃ F,f108 F a0=some ((.agg 64 (.rI .u32 (Sha.sched a0 64))),[]):=by
 have hl:64≤a0.length:=of_decide_eq_true hp
 have hl2:=h0.2
 have hb:∀ i,0≤a0.getD i 0∧a0.getD i 0≤255:=byte_get (fun x hx=>has_u8 (h0.1 x hx))
 refine⟨65,?_⟩
 simp only [f108,f108_17,f108_1,f108_16,f108_2,f108_15,f108_7,f108_3,f108_6,f108_5,f108_5_i]
 refine loopN_from (fun i=>(a0,(i:Int),List.replicate 64 0,Sha.sched a0 i++List.replicate (64-i) 0)) 16 (by rfl) (fun i hi k=>?_) (fun k=>?_) 65 (by omega)
 ·simp only [f108_4,dec_and]
  rw [i64w (x:=4*(i:Int)) (by omega) (by omega),i64w (x:=4*(i:Int)+1) (by omega) (by omega),i64w (x:=4*(i:Int)+2) (by omega) (by omega),i64w (x:=4*(i:Int)+3) (by omega) (by omega),i64w (x:=(i:Int)+1) (by omega) (by omega),
   cond_pos (by omega),cond_pos (by omega),cond_pos (by omega),cond_pos (by omega),cond_pos (by omega),cond_pos (by omega)]
  rw [show(4*(i:Int)).toNat=4*i by omega,show(4*(i:Int)+1).toNat=4*i+1 by omega,show(4*(i:Int)+2).toNat=4*i+2 by omega,show(4*(i:Int)+3).toNat=4*i+3 by omega,Int.toNat_natCast,
   or4 _ _ _ _ (hb _) (hb _) (hb _) (hb _),sched_set a0 i _ (by omega) (by simp only [Sha.sched,if_pos hi])]
  rfl
 ·simp only [f108_4]
  rw [cond_neg (by omega)]
  simp only [f108_14,f108_12,f108_8,f108_11,f108_10,f108_10_i]
  refine loopN_from (fun i=>(((i+16:Nat):Int),List.replicate 64 0,Sha.sched a0 (i+16)++List.replicate (64-(i+16)) 0)) 48 (by rfl) (fun i hi k'=>?_) (fun k'=>?_) 65 (by omega)
  ·simp only [f108_9,dec_and]
   generalize hj:i+16=j
   have h16:¬ j < 16:=by omega
   rw [i64w (x:=(j:Int)-15) (by omega) (by omega),i64w (x:=(j:Int)-2) (by omega) (by omega),i64w (x:=(j:Int)-16) (by omega) (by omega),i64w (x:=(j:Int)-7) (by omega) (by omega),i64w (x:=(j:Int)+1) (by omega) (by omega)]
   repeat rw [cond_pos (by omega)]
   rw [show((j:Int)-15).toNat=j-15 by omega,show((j:Int)-2).toNat=j-2 by omega,show((j:Int)-16).toNat=j-16 by omega,show((j:Int)-7).toNat=j-7 by omega,Int.toNat_natCast]
   rw [sched_get a0 j (j-15) _ (by omega),sched_get a0 j (j-2) _ (by omega),sched_get a0 j (j-16) _ (by omega),sched_get a0 j (j-7) _ (by omega)]
   rw [sched_set a0 j _ (by omega) (by simp only [Sha.sched,if_neg h16];rfl),show i+1+16=j+1 by omega]
   rfl
  ·simp only [f108_9]
   rw [cond_neg (by omega)]
   simp only [f108_13]
   rw [Nat.sub_self,List.replicate_zero,List.append_nil]
theorem c108:CallOk Tryz.prog G36Z 108 r108:=callOk_of mixed tys eV108 Tryz.func108 (by kernel_rfl) (c:=sub (bodyOf Tryz.f108) []) (by kernel_rfl) (by
 intro X H r H' h hX hH
 unfold r108 at h;split at h <;> try contradiction
 ·obtain⟨hp,rfl,rfl⟩:=inj3 h
  obtain⟨F,hF⟩:=s108 _ hp (hX _ hm0)
  exact⟨Af108 F,(f108_body F _).trans hF⟩)
def lV107:List CEnt:=[]
def V107:Env:=mkEnv T36Z G36Z lV107
noncomputable abbrev Kf11:=kFin V107 none (Tryz.f107).results.toList
theorem eV107:EOk Tryz.prog V107:=eok_mk (by exact trivial)
def Af107(F:Nat):Cuts:={ F:=F,at_:=fun n=>match n with | 3008=>some sp24 | 7010=>some sp25 | _=>none,join:=fun n=>match n with | 1035=>some [(0,.plain)] | 2033=>some sp24 | 3031=>some sp24 | 5020=>some sp24 | 6018=>some [(3,.plain),(4,.plain)] | 7012=>some sp25 | 10003=>some [(3,.plain)] | _=>none }
noncomputable abbrev XAf107(F:Nat){α:Type}:=@aexec α V107 (Af107 F)
def ef107_a:Li→St:=fun a0=>⟨[(0,(.vs (.rI .u8 a0) 0 1))],[],0,37,0⟩
def ef107j1:Li→St:=fun t0=>⟨[(0,(.vs (.rI .u8 t0) 0 1))],[],0,37,0⟩
def ef107j2:Li×Li→St:=fun (t0,x2)=>⟨[(0,(.vs (.rI .u8 t0) 0 1)),(3,.own 0 0 1)],[(0,(.cells x2.length (.rI .u8 x2) true))],1,37,0⟩
def ef107j3:Li×Li→St:=ef107j2
def ef107l1:Li×Li→St:=ef107j2
def ef107j4:Li×Li→St:=ef107j2
def ef107j5:Int×Li→St:=fun (t4,x2)=>⟨[(3,.own 0 0 1),(4,.int .u64 t4)],[(0,(.cells x2.length (.rI .u8 x2) true))],1,37,0⟩
def ef107j6:Int×Int×Li→St:=fun (t4,t5,x3)=>⟨[(3,.own 0 0 1),(4,.int .u64 t4),(5,.int .i64 t5)],[(0,(.cells x3.length (.rI .u8 x3) true))],1,37,0⟩
def ef107l2:Int×Int×Li→St:=ef107j6
def ef107j7:Li→St:=fun x1=>⟨[(3,.own 0 0 1)],[(0,(.cells x1.length (.rI .u8 x1) true))],1,37,0⟩
def f107_1(F:Nat)(kj1:Li→Rz):Li→Rz:=fun a0=>(kj1 a0)
theorem f107_1_eq(F:Nat)(Rj1:St→Rz):∀ v,XAf107 F (bp Tryz.f107 2) (ef107_a v) (kSeq (kc V107 Rj1 [(0,.plain)]) Kf11)=f107_1 F (Rj1∘ef107j1) v:=by
 intro a0;kernel_rfl
def f107_2(F:Nat)(kj2:Li×Li→Rz):Li→Rz:=fun t0=>(cond (decide ((0+t0.length) < 1073741824)) (kj2 (t0,([]++t0))) none)
theorem f107_2_eq(F:Nat)(Rj2:St→Rz):∀ v,XAf107 F (bp Tryz.f107 6) (ef107j1 v) (kSeq (kc V107 Rj2 sp24) Kf11)=f107_2 F (Rj2∘ef107j2) v:=by
 intro t0;kernel_rfl
def f107_3(F:Nat)(kj3:Li×Li→Rz):Li×Li→Rz:=fun (t0,x2)=>(cond (decide ((x2.length+1) < 1073741824)) (kj3 (t0,(x2++[(128:Int)]))) none)
theorem f107_3_eq(F:Nat)(Rj3:St→Rz):∀ v,XAf107 F (bp Tryz.f107 14) (ef107j2 v) (kSeq (kc V107 Rj3 sp24) Kf11)=f107_3 F (Rj3∘ef107j3) v:=by
 rintro⟨t0,x2⟩;kernel_rfl
def f107_4(F:Nat)(kl1 kj4:Li×Li→Rz):Li×Li→Rz:=fun (t0,x2)=>(cond ((Int.tmod (↑x2.length:Int) (64:Int)) != (56:Int)) (cond (decide ((x2.length+1) < 1073741824)) (kl1 (t0,(x2++[(0:Int)]))) none) (kj4 (t0,x2)))
theorem f107_4_eq(F:Nat)(Rl1 Rj4:St→Rz):∀ v,XAf107 F (bp Tryz.f107 120) (ef107l1 v) (kSeq (kc V107 Rl1 sp24) (kBlock 0 (kSeq (kc V107 Rj4 sp24) Kf11)))=f107_4 F (Rl1∘ef107l1) (Rj4∘ef107j4) v:=by
 rintro⟨t0,x2⟩;kernel_rfl
def f107_5_i:Li×Li→Li×Li:=fun (t0,x2)=>(t0,x2)
def f107_5(F:Nat)(kj4:Li×Li→Rz):Li×Li→Rz:=fun v=>loopN (fun k=>f107_4 F k kj4) F (f107_5_i v)
theorem f107_5_eq(F:Nat)(Rj4:St→Rz):∀ v,XAf107 F (bp Tryz.f107 60) (ef107j3 v) (kBlock 0 (kSeq (kc V107 Rj4 sp24) Kf11))=f107_5 F (Rj4∘ef107j4) v:=
 loop_cut (by kernel_rfl) (by kernel_rfl) ef107j3 ef107l1 _ f107_5_i (fun k=>f107_4 F k (Rj4∘ef107j4))
  (by rintro⟨t0,x2⟩;kernel_rfl) (fun Rl1=>f107_4_eq F Rl1 Rj4)
def f107_6(F:Nat)(kj4:Li×Li→Rz):Li×Li→Rz:=f107_5 F kj4
theorem f107_6_eq(F:Nat)(Rj4:St→Rz):∀ v,XAf107 F (bp Tryz.f107 30) (ef107j3 v) (kSeq (kc V107 Rj4 sp24) Kf11)=f107_6 F (Rj4∘ef107j4) v:=fun v=>
 (block_in  (by kernel_rfl) _ _).trans (f107_5_eq F Rj4 v)
def f107_7(F:Nat)(kj5:Int×Li→Rz):Li×Li→Rz:=fun (t0,x2)=>(kj5 ((IntKind.u64.wrap ((8:Int)*(IntKind.u64.wrap (↑t0.length:Int)))),x2))
theorem f107_7_eq(F:Nat)(Rj5:St→Rz):∀ v,XAf107 F (bp Tryz.f107 62) (ef107j4 v) (kSeq (kc V107 Rj5 [(3,.plain),(4,.plain)]) Kf11)=f107_7 F (Rj5∘ef107j5) v:=by
 rintro⟨t0,x2⟩;kernel_rfl
def f107_8(F:Nat)(kj6:Int×Int×Li→Rz)(kj7:Li→Rz):Int×Li→Rz:=fun (t4,x2)=>(kj6 (t4,(0:Int),x2))
theorem f107_8_eq(F:Nat)(Rj6 Rj7:St→Rz):∀ v,XAf107 F (bp Tryz.f107 252) (ef107j5 v) (kSeq (kc V107 Rj6 sp25) (kSeq (kc V107 Rj7 [(3,.plain)]) Kf11))=f107_8 F (Rj6∘ef107j6) (Rj7∘ef107j7) v:=by
 rintro⟨t4,x2⟩;kernel_rfl
def f107_9(F:Nat)(kl2:Int×Int×Li→Rz)(kj7:Li→Rz):Int×Int×Li→Rz:=fun (t4,t5,x3)=>(cond (decide (t5 < (8:Int))) (cond (decide (0≤(IntKind.i64.wrap ((56:Int)-(IntKind.i64.wrap ((8:Int)*t5)))))) (cond (decide ((x3.length+1) < 1073741824)) (kl2 (t4,(IntKind.i64.wrap (t5+(1:Int))),(x3++[(IntKind.u8.wrap (Int.fdiv t4 (2^(min (Int.toNat (IntKind.i64.wrap ((56:Int)-(IntKind.i64.wrap ((8:Int)*t5))))) 64))))]))) none) none) (kj7 x3))
theorem f107_9_eq(F:Nat)(Rl2 Rj7:St→Rz):∀ v,XAf107 F (bp Tryz.f107 1012) (ef107l2 v) (kSeq (kc V107 Rl2 sp25) (kBlock 2 (kSeq (kc V107 Rj7 [(3,.plain)]) Kf11)))=f107_9 F (Rl2∘ef107l2) (Rj7∘ef107j7) v:=by
 rintro⟨t4,t5,x3⟩;kernel_rfl
def f107_10_i:Int×Int×Li→Int×Int×Li:=fun (t4,t5,x3)=>(t4,t5,x3)
def f107_10(F:Nat)(kj7:Li→Rz):Int×Int×Li→Rz:=fun v=>loopN (fun k=>f107_9 F k kj7) F (f107_10_i v)
theorem f107_10_eq(F:Nat)(Rj7:St→Rz):∀ v,XAf107 F (bp Tryz.f107 506) (ef107j6 v) (kBlock 2 (kSeq (kc V107 Rj7 [(3,.plain)]) Kf11))=f107_10 F (Rj7∘ef107j7) v:=
 loop_cut (by kernel_rfl) (by kernel_rfl) ef107j6 ef107l2 _ f107_10_i (fun k=>f107_9 F k (Rj7∘ef107j7))
  (by rintro⟨t4,t5,x3⟩;kernel_rfl) (fun Rl2=>f107_9_eq F Rl2 Rj7)
def f107_11(F:Nat)(kj7:Li→Rz):Int×Int×Li→Rz:=f107_10 F kj7
theorem f107_11_eq(F:Nat)(Rj7:St→Rz):∀ v,XAf107 F (bp Tryz.f107 253) (ef107j6 v) (kSeq (kc V107 Rj7 [(3,.plain)]) Kf11)=f107_11 F (Rj7∘ef107j7) v:=fun v=>
 (block_in  (by kernel_rfl) _ _).trans (f107_10_eq F Rj7 v)
def f107_12(F:Nat)(kj7:Li→Rz):Int×Li→Rz:=fun v=>f107_8 F (f107_11 F kj7) kj7 v
theorem f107_12_eq(F:Nat)(Rj7:St→Rz):∀ v,XAf107 F (bp Tryz.f107 126) (ef107j5 v) (kSeq (kc V107 Rj7 [(3,.plain)]) Kf11)=f107_12 F (Rj7∘ef107j7) v:=
 seq_cut (by kernel_rfl) (by kernel_rfl) ef107j5 ef107j6 _ (fun k=>f107_8 F k (Rj7∘ef107j7)) (f107_11 F (Rj7∘ef107j7))
  (fun Rj6=>f107_8_eq F Rj6 Rj7) (f107_11_eq F Rj7)
def f107_13(F:Nat):Li→Rz:=fun x1=>(some ((.own 0 0 1),[(.cells x1.length (.rI .u8 x1) true)]))
theorem f107_13_eq(F:Nat):∀ v,XAf107 F (bp Tryz.f107 127) (ef107j7 v) Kf11=f107_13 F v:=by
 intro x1;kernel_rfl
def f107_14(F:Nat):Int×Li→Rz:=fun v=>f107_12 F (f107_13 F) v
theorem f107_14_eq(F:Nat):∀ v,XAf107 F (bp Tryz.f107 63) (ef107j5 v) Kf11=f107_14 F v:=
 seq_cut (by kernel_rfl) (by kernel_rfl) ef107j5 ef107j7 _ (fun k=>f107_12 F k) (f107_13 F)
  (fun Rj7=>f107_12_eq F Rj7) (f107_13_eq F)
def f107_15(F:Nat):Li×Li→Rz:=fun v=>f107_7 F (f107_14 F) v
theorem f107_15_eq(F:Nat):∀ v,XAf107 F (bp Tryz.f107 31) (ef107j4 v) Kf11=f107_15 F v:=
 seq_cut (by kernel_rfl) (by kernel_rfl) ef107j4 ef107j5 _ (fun k=>f107_7 F k) (f107_14 F)
  (fun Rj5=>f107_7_eq F Rj5) (f107_14_eq F)
def f107_16(F:Nat):Li×Li→Rz:=fun v=>f107_6 F (f107_15 F) v
theorem f107_16_eq(F:Nat):∀ v,XAf107 F (bp Tryz.f107 15) (ef107j3 v) Kf11=f107_16 F v:=
 seq_cut (by kernel_rfl) (by kernel_rfl) ef107j3 ef107j4 _ (fun k=>f107_6 F k) (f107_15 F)
  (fun Rj4=>f107_6_eq F Rj4) (f107_15_eq F)
def f107_17(F:Nat):Li×Li→Rz:=fun v=>f107_3 F (f107_16 F) v
theorem f107_17_eq(F:Nat):∀ v,XAf107 F (bp Tryz.f107 7) (ef107j2 v) Kf11=f107_17 F v:=
 seq_cut (by kernel_rfl) (by kernel_rfl) ef107j2 ef107j3 _ (fun k=>f107_3 F k) (f107_16 F)
  (fun Rj3=>f107_3_eq F Rj3) (f107_16_eq F)
def f107_18(F:Nat):Li→Rz:=fun v=>f107_2 F (f107_17 F) v
theorem f107_18_eq(F:Nat):∀ v,XAf107 F (bp Tryz.f107 3) (ef107j1 v) Kf11=f107_18 F v:=
 seq_cut (by kernel_rfl) (by kernel_rfl) ef107j1 ef107j2 _ (fun k=>f107_2 F k) (f107_17 F)
  (fun Rj2=>f107_2_eq F Rj2) (f107_17_eq F)
def f107_19(F:Nat):Li→Rz:=fun v=>f107_1 F (f107_18 F) v
theorem f107_19_eq(F:Nat):∀ v,XAf107 F (sub (bodyOf Tryz.f107) []) (ef107_a v) Kf11=f107_19 F v:=
 seq_cut (by kernel_rfl) (by kernel_rfl) ef107_a ef107j1 _ (fun k=>f107_1 F k) (f107_18 F)
  (fun Rj1=>f107_1_eq F Rj1) (f107_18_eq F)
def f107(F:Nat):Li→Rz:=f107_19 F
theorem f107_body(F:Nat)(a0:Li):abody V107 (Af107 F) Tryz.f107 [(.vs (.rI .u8 a0) 0 1)] []=f107 F a0:=
 (abody_in (c:=(sub (bodyOf Tryz.f107) [])) (by kernel_rfl) (s:=ef107_a a0) (by kernel_rfl)).trans (f107_19_eq F a0)
def r107:CRun:=fun X H=>match X,H with
 | [(.vs (.rI .u8 a0) 0 1)],[]=>some ((decide (a0.length < 1073741000)),.own 0 0 1,[(.cells (Sha.padded a0).length (.rI .u8 (Sha.padded a0)) true)])
 | _,_=>none
theorem s107(a0:Li)(hp:((decide (a0.length < 1073741000)))=true)(h0:okV (.vs (.rI .u8 a0) 0 1)):∃ F,f107 F a0=some ((.own 0 0 1),[(.cells (Sha.padded a0).length (.rI .u8 (Sha.padded a0)) true)]):=by
 have hl:a0.length < 1073741000:=of_decide_eq_true hp
 refine⟨65,?_⟩
 simp only [f107,f107_19,f107_1,f107_18,f107_2,f107_17,f107_3,f107_16,f107_6,f107_5,f107_5_i,List.nil_append]
 rw [cond_pos (by omega),cond_pos (by omega)]
 generalize hN:a0.length=N at *
 refine loopN_from (fun i=>(a0,a0++128 :: List.replicate i 0)) ((55-(N:Int))%64).toNat (by rfl) (fun i hi k=>?_) (fun k=>?_) 65 (by omega)
 ·simp only [f107_4,List.length_append,List.length_cons,List.length_replicate,int_bne,hN]
  rw [tmod_nn (by omega),cond_pos (by omega),cond_pos (by omega)]
  rw [show List.replicate (i+1) (0:Int)=List.replicate i 0++[0] from List.replicate_succ',List.append_assoc];rfl
 ·simp only [f107_4,List.length_append,List.length_cons,List.length_replicate,int_bne,hN]
  rw [tmod_nn (by omega),cond_neg (by omega)]
  generalize hP:a0++(128:Int) :: List.replicate ((55-(N:Int))%64).toNat 0=P
  have hPl:P.length≤N+64:=by rw [← hP,← hN];simp;omega
  simp only [f107_15,f107_7,f107_14,f107_12,f107_8,f107_11,f107_10,f107_10_i,hN]
  rw [u64w (x:=(N:Int)) (by omega) (by omega)]
  generalize hM:IntKind.u64.wrap (8*(N:Int))=M
  refine loopN_from (fun j=>(M,(j:Int),P++(List.range j).map fun i=>IntKind.u8.wrap (M.fdiv (2^(56-8*i))))) 8 (by simp) (fun j hj k'=>?_) (fun k'=>?_) 65 (by omega)
  ·simp only [f107_9,List.length_append,List.length_map,List.length_range]
   rw [i64w (x:=8*(j:Int)) (by omega) (by omega),i64w (x:=56-8*(j:Int)) (by omega) (by omega),i64w (x:=(j:Int)+1) (by omega) (by omega),cond_pos (by omega),cond_pos (by omega),cond_pos (by omega)]
   rw [show min (56-8*(j:Int)).toNat 64=56-8*j by omega,List.range_succ,List.map_append,List.append_assoc]
   rfl
  ·simp only [f107_9]
   rw [cond_neg (by omega)]
   simp only [f107_13]
   have hpad:P++(List.range 8).map (fun i=>IntKind.u8.wrap (M.fdiv (2^(56-8*i))))=Sha.padded a0:=by
    rw [← hP,← hM,List.append_assoc];unfold Sha.padded;rw [hN];rfl
   rw [hpad]
theorem c107:CallOk Tryz.prog G36Z 107 r107:=callOk_of mixed tys eV107 Tryz.func107 (by kernel_rfl) (c:=sub (bodyOf Tryz.f107) []) (by kernel_rfl) (by
 intro X H r H' h hX hH
 unfold r107 at h;split at h <;> try contradiction
 ·obtain⟨hp,rfl,rfl⟩:=inj3 h
  obtain⟨F,hF⟩:=s107 _ hp (hX _ hm0)
  exact⟨Af107 F,(f107_body F _).trans hF⟩)
def lV99:List CEnt:=[(107,[some 5],r107),(108,[some 5],r108),(109,[none,none],r109)]
def V99:Env:=mkEnv T36Z G37Z lV99
noncomputable abbrev Kf12:=kFin V99 none (Tryz.f99).results.toList
theorem eV99:EOk Tryz.prog V99:=eok_mk (by exact⟨c107.more gsub,c108.more gsub,c109.more gsub,trivial⟩)
def Af99(F:Nat):Cuts:={ F:=F,at_:=fun n=>match n with | 4047=>some sp26 | 9028=>some sp27 | 24010=>some sp28 | _=>none,join:=fun n=>match n with | 1076=>some sp23 | 2074=>some sp2 | 3072=>some sp29 | 4049=>some sp26 | 5001=>some sp26 | 6041=>some sp26 | 7036=>some sp30 | 8034=>some sp31 | 9030=>some sp27 | 21001=>some sp32 | 22020=>some sp6 | 23018=>some sp33 | 24012=>some sp28 | 27003=>some sp34 | _=>none }
noncomputable abbrev XAf99(F:Nat){α:Type}:=@aexec α V99 (Af99 F)
def ef99_a:Li→St:=fun a0=>⟨[(0,(.vs (.rI .u8 a0) 0 1))],[],0,164,0⟩
def ef99j1:Li×Li→St:=fun (t0,x2)=>⟨[(0,(.vs (.rI .u8 t0) 0 1)),(2,.ptr 0 0 32 0 0 0 32)],[(0,(.cells 32 (.rI .u8 x2) true))],1,164,0⟩
def ef99j2:Ty0→St:=fun (t0,x2,x3)=>⟨[(0,(.vs (.rI .u8 t0) 0 1)),(2,.ptr 0 0 32 0 0 0 32),(3,.ptr 1 0 8 0 0 0 8)],[(0,(.cells 32 (.rI .u8 x2) true)),(1,(.cells 8 (.rI .u32 x3) true))],2,164,0⟩
def ef99j3:Ty0→St:=fun (x1,x2,x3)=>⟨[(2,.ptr 0 0 32 0 0 0 32),(3,.ptr 1 0 8 0 0 0 8),(4,.own 2 0 1)],[(0,(.cells 32 (.rI .u8 x1) true)),(1,(.cells 8 (.rI .u32 x2) true)),(2,(.cells x3.length (.rI .u8 x3) true))],3,164,0⟩
def ef99j4:Ty19→St:=fun (t5,x2,x3,x4)=>⟨[(2,.ptr 0 0 32 0 0 0 32),(3,.ptr 1 0 8 0 0 0 8),(4,.own 2 0 1),(5,.int .i64 t5)],[(0,(.cells 32 (.rI .u8 x2) true)),(1,(.cells 8 (.rI .u32 x3) true)),(2,(.cells x4.length (.rI .u8 x4) true))],3,164,0⟩
def ef99l1:Ty19→St:=ef99j4
def ef99j5:Ty19→St:=ef99j4
def ef99j6:Ty9→St:=fun (t5,x2,x3,x4,x5)=>⟨[(2,.ptr 0 0 32 0 0 0 32),(3,.ptr 1 0 8 0 0 0 8),(4,.own 2 0 1),(5,.int .i64 t5),(6,.ptr 3 0 64 0 0 0 64)],[(0,(.cells 32 (.rI .u8 x2) true)),(1,(.cells 8 (.rI .u32 x3) true)),(2,(.cells x4.length (.rI .u8 x4) true)),(3,(.cells 64 (.rI .u32 x5) true))],4,164,0⟩
def ef99j7:Ty20→St:=fun (t5,t7,t8,t9,t10,t11,t12,t13,t14,x10,x11,x12,x13)=>⟨[(2,.ptr 0 0 32 0 0 0 32),(3,.ptr 1 0 8 0 0 0 8),(4,.own 2 0 1),(5,.int .i64 t5),(6,.ptr 3 0 64 0 0 0 64),(7,.int .u32 t7),(8,.int .u32 t8),(9,.int .u32 t9),(10,.int .u32 t10),(11,.int .u32 t11),(12,.int .u32 t12),(13,.int .u32 t13),(14,.int .u32 t14)],[(0,(.cells 32 (.rI .u8 x10) true)),(1,(.cells 8 (.rI .u32 x11) true)),(2,(.cells x12.length (.rI .u8 x12) true)),(3,(.cells 64 (.rI .u32 x13) true))],4,164,0⟩
def ef99j8:Ty21→St:=fun (t5,t7,t8,t9,t10,t11,t12,t13,t14,t15,x11,x12,x13,x14)=>⟨[(2,.ptr 0 0 32 0 0 0 32),(3,.ptr 1 0 8 0 0 0 8),(4,.own 2 0 1),(5,.int .i64 t5),(6,.ptr 3 0 64 0 0 0 64),(7,.int .u32 t7),(8,.int .u32 t8),(9,.int .u32 t9),(10,.int .u32 t10),(11,.int .u32 t11),(12,.int .u32 t12),(13,.int .u32 t13),(14,.int .u32 t14),(15,.int .i64 t15)],[(0,(.cells 32 (.rI .u8 x11) true)),(1,(.cells 8 (.rI .u32 x12) true)),(2,(.cells x13.length (.rI .u8 x13) true)),(3,(.cells 64 (.rI .u32 x14) true))],4,164,0⟩
def ef99l2:Ty21→St:=ef99j8
def ef99j9:Ty22→St:=fun (t5,t7,t8,t9,t10,t11,t12,t13,t14,x10,x11,x12)=>⟨[(2,.ptr 0 0 32 0 0 0 32),(3,.ptr 1 0 8 0 0 0 8),(4,.own 2 0 1),(5,.int .i64 t5),(7,.int .u32 t7),(8,.int .u32 t8),(9,.int .u32 t9),(10,.int .u32 t10),(11,.int .u32 t11),(12,.int .u32 t12),(13,.int .u32 t13),(14,.int .u32 t14)],[(0,(.cells 32 (.rI .u8 x10) true)),(1,(.cells 8 (.rI .u32 x11) true)),(2,(.cells x12.length (.rI .u8 x12) true))],3,164,0⟩
def ef99j10:Ty19→St:=ef99j4
def ef99j11:Li×Li→St:=fun (x1,x2)=>⟨[(2,.ptr 0 0 32 0 0 0 32),(3,.ptr 1 0 8 0 0 0 8)],[(0,(.cells 32 (.rI .u8 x1) true)),(1,(.cells 8 (.rI .u32 x2) true))],2,164,0⟩
def ef99j12:Ty0→St:=fun (x1,x2,x3)=>⟨[(2,.ptr 0 0 32 0 0 0 32),(3,.ptr 1 0 8 0 0 0 8),(18,.ptr 2 0 32 0 0 0 32)],[(0,(.cells 32 (.rI .u8 x1) true)),(1,(.cells 8 (.rI .u32 x2) true)),(2,(.cells 32 (.rI .u8 x3) true))],3,164,0⟩
def ef99j13:Ty19→St:=fun (t19,x2,x3,x4)=>⟨[(2,.ptr 0 0 32 0 0 0 32),(3,.ptr 1 0 8 0 0 0 8),(18,.ptr 2 0 32 0 0 0 32),(19,.int .i64 t19)],[(0,(.cells 32 (.rI .u8 x2) true)),(1,(.cells 8 (.rI .u32 x3) true)),(2,(.cells 32 (.rI .u8 x4) true))],3,164,0⟩
def ef99l3:Ty19→St:=ef99j13
def ef99j14:Li×Li→St:=fun (x1,x2)=>⟨[(2,.ptr 0 0 32 0 0 0 32),(18,.ptr 1 0 32 0 0 0 32)],[(0,(.cells 32 (.rI .u8 x1) true)),(1,(.cells 32 (.rI .u8 x2) true))],2,164,0⟩
def f99_1(F:Nat)(kj1:Li×Li→Rz):Li→Rz:=fun a0=>(kj1 (a0,(List.replicate 32 0)))
theorem f99_1_eq(F:Nat)(Rj1:St→Rz):∀ v,XAf99 F (bp Tryz.f99 2) (ef99_a v) (kSeq (kc V99 Rj1 sp23) Kf12)=f99_1 F (Rj1∘ef99j1) v:=by
 intro a0;kernel_rfl
def f99_2(F:Nat)(kj2:Ty0→Rz):Li×Li→Rz:=fun (t0,x2)=>(kj2 (t0,x2,[(1779033703:Int),(3144134277:Int),(1013904242:Int),(2773480762:Int),(1359893119:Int),(2600822924:Int),(528734635:Int),(1541459225:Int)]))
theorem f99_2_eq(F:Nat)(Rj2:St→Rz):∀ v,XAf99 F (bp Tryz.f99 6) (ef99j1 v) (kSeq (kc V99 Rj2 sp2) Kf12)=f99_2 F (Rj2∘ef99j2) v:=by
 rintro⟨t0,x2⟩;kernel_rfl
def f99_3(F:Nat)(kj3:Ty0→Rz):Ty0→Rz:=fun (t0,x2,x3)=>(cond (decide (t0.length < 1073741000)) (kj3 (x2,x3,(Sha.padded t0))) none)
theorem f99_3_eq(F:Nat)(Rj3:St→Rz):∀ v,XAf99 F (bp Tryz.f99 14) (ef99j2 v) (kSeq (kc V99 Rj3 sp29) Kf12)=f99_3 F (Rj3∘ef99j3) v:=by
 rintro⟨t0,x2,x3⟩;kernel_rfl
def f99_4(F:Nat)(kj4:Ty19→Rz)(kj11:Li×Li→Rz):Ty0→Rz:=fun (x1,x2,x3)=>(kj4 ((0:Int),x1,x2,x3))
theorem f99_4_eq(F:Nat)(Rj4 Rj11:St→Rz):∀ v,XAf99 F (bp Tryz.f99 60) (ef99j3 v) (kSeq (kc V99 Rj4 sp26) (kSeq (kc V99 Rj11 sp6) Kf12))=f99_4 F (Rj4∘ef99j4) (Rj11∘ef99j11) v:=by
 rintro⟨x1,x2,x3⟩;kernel_rfl
def f99_5(F:Nat)(kj5 kl1:Ty19→Rz)(kj11:Li×Li→Rz):Ty19→Rz:=fun (t5,x2,x3,x4)=>(cond (decide (t5 < (↑x4.length:Int))) (kj5 (t5,x2,x3,x4)) (kj11 (x2,x3)))
theorem f99_5_eq(F:Nat)(Rj5 Rl1 Rj11:St→Rz):∀ v,XAf99 F (bp Tryz.f99 488) (ef99l1 v) (kSeq (kc V99 Rj5 sp26) (kSeq (kc V99 Rl1 sp26) (kBlock 0 (kSeq (kc V99 Rj11 sp6) Kf12))))=f99_5 F (Rj5∘ef99j5) (Rl1∘ef99l1) (Rj11∘ef99j11) v:=by
 rintro⟨t5,x2,x3,x4⟩;kernel_rfl
def f99_6(F:Nat)(kj6:Ty9→Rz)(kj10 kl1:Ty19→Rz)(kj11:Li×Li→Rz):Ty19→Rz:=fun (t5,x2,x3,x4)=>(cond (((decide (0≤t5))&&(decide (t5≤(IntKind.i64.wrap (t5+(64:Int))))))&&(decide ((IntKind.i64.wrap (t5+(64:Int)))≤(↑x4.length:Int)))) (cond (decide (64≤((x4.drop (Int.toNat t5)).take ((Int.toNat (IntKind.i64.wrap (t5+(64:Int))))-(Int.toNat t5))).length)) (kj6 (t5,x2,x3,x4,(Sha.sched ((x4.drop (Int.toNat t5)).take ((Int.toNat (IntKind.i64.wrap (t5+(64:Int))))-(Int.toNat t5))) 64))) none) none)
theorem f99_6_eq(F:Nat)(Rj6 Rj10:St→Rz)(Rl1 Rj11:St→Rz):∀ v,XAf99 F (bp Tryz.f99 3912) (ef99j5 v) (kSeq (kc V99 Rj6 sp30) (kBlock 1 (kSeq (kc V99 Rj10 sp26) (kSeq (kc V99 Rl1 sp26) (kBlock 0 (kSeq (kc V99 Rj11 sp6) Kf12))))))=f99_6 F (Rj6∘ef99j6) (Rj10∘ef99j10) (Rl1∘ef99l1) (Rj11∘ef99j11) v:=by
 rintro⟨t5,x2,x3,x4⟩;kernel_rfl
def f99_7(F:Nat)(kj7:Ty20→Rz)(kj10 kl1:Ty19→Rz)(kj11:Li×Li→Rz):Ty9→Rz:=fun (t5,x2,x3,x4,x5)=>(kj7 (t5,(x3.getD 0 0),(x3.getD 1 0),(x3.getD 2 0),(x3.getD 3 0),(x3.getD 4 0),(x3.getD 5 0),(x3.getD 6 0),(x3.getD 7 0),x2,x3,x4,x5))
theorem f99_7_eq(F:Nat)(Rj7 Rj10:St→Rz)(Rl1 Rj11:St→Rz):∀ v,XAf99 F (bp Tryz.f99 7826) (ef99j6 v) (kSeq (kc V99 Rj7 sp31) (kBlock 1 (kSeq (kc V99 Rj10 sp26) (kSeq (kc V99 Rl1 sp26) (kBlock 0 (kSeq (kc V99 Rj11 sp6) Kf12))))))=f99_7 F (Rj7∘ef99j7) (Rj10∘ef99j10) (Rl1∘ef99l1) (Rj11∘ef99j11) v:=by
 rintro⟨t5,x2,x3,x4,x5⟩;kernel_rfl
def f99_8(F:Nat)(kj8:Ty21→Rz)(kj9:Ty22→Rz)(kj10 kl1:Ty19→Rz)(kj11:Li×Li→Rz):Ty20→Rz:=fun (t5,t7,t8,t9,t10,t11,t12,t13,t14,x10,x11,x12,x13)=>(kj8 (t5,t7,t8,t9,t10,t11,t12,t13,t14,(0:Int),x10,x11,x12,x13))
theorem f99_8_eq(F:Nat)(Rj8 Rj9:St→Rz)(Rj10 Rl1 Rj11:St→Rz):∀ v,XAf99 F (bp Tryz.f99 31308) (ef99j7 v) (kSeq (kc V99 Rj8 sp27) (kSeq (kc V99 Rj9 sp32) (kBlock 1 (kSeq (kc V99 Rj10 sp26) (kSeq (kc V99 Rl1 sp26) (kBlock 0 (kSeq (kc V99 Rj11 sp6) Kf12)))))))=f99_8 F (Rj8∘ef99j8) (Rj9∘ef99j9) (Rj10∘ef99j10) (Rl1∘ef99l1) (Rj11∘ef99j11) v:=by
 rintro⟨t5,t7,t8,t9,t10,t11,t12,t13,t14,x10,x11,x12,x13⟩;kernel_rfl
def f99_9(F:Nat)(kl2:Ty21→Rz)(kj9:Ty22→Rz)(kj10 kl1:Ty19→Rz)(kj11:Li×Li→Rz):Ty21→Rz:=fun (t5,t7,t8,t9,t10,t11,t12,t13,t14,t15,x11,x12,x13,x14)=>(cond (decide (t15 < (64:Int))) (cond ((decide (0≤(6:Int)))&&(decide ((6:Int)≤32))) (cond ((decide (0≤(11:Int)))&&(decide ((11:Int)≤32))) (cond ((decide (0≤(25:Int)))&&(decide ((25:Int)≤32))) (cond ((decide (0≤t15))&&(decide (t15 < (64:Int)))) (cond ((decide (0≤t15))&&(decide (t15 < (64:Int)))) (cond ((decide (0≤(2:Int)))&&(decide ((2:Int)≤32))) (cond ((decide (0≤(13:Int)))&&(decide ((13:Int)≤32))) (cond ((decide (0≤(22:Int)))&&(decide ((22:Int)≤32))) (kl2 (t5,(IntKind.u32.wrap ((IntKind.u32.wrap ((IntKind.u32.wrap ((IntKind.u32.wrap ((IntKind.u32.wrap (t14+(ibits .xor .u32 (ibits .xor .u32 (Sha.rotr t11 (Int.toNat (6:Int))) (Sha.rotr t11 (Int.toNat (11:Int)))) (Sha.rotr t11 (Int.toNat (25:Int))))))+(ibits .xor .u32 (ibits .and .u32 t11 t12) (ibits .and .u32 (ibits .xor .u32 t11 (4294967295:Int)) t13))))+(Sha.K.getD (Int.toNat t15) 0)))+(x14.getD (Int.toNat t15) 0)))+(IntKind.u32.wrap ((ibits .xor .u32 (ibits .xor .u32 (Sha.rotr t7 (Int.toNat (2:Int))) (Sha.rotr t7 (Int.toNat (13:Int)))) (Sha.rotr t7 (Int.toNat (22:Int))))+(ibits .xor .u32 (ibits .xor .u32 (ibits .and .u32 t7 t8) (ibits .and .u32 t7 t9)) (ibits .and .u32 t8 t9)))))),t7,t8,t9,(IntKind.u32.wrap (t10+(IntKind.u32.wrap ((IntKind.u32.wrap ((IntKind.u32.wrap ((IntKind.u32.wrap (t14+(ibits .xor .u32 (ibits .xor .u32 (Sha.rotr t11 (Int.toNat (6:Int))) (Sha.rotr t11 (Int.toNat (11:Int)))) (Sha.rotr t11 (Int.toNat (25:Int))))))+(ibits .xor .u32 (ibits .and .u32 t11 t12) (ibits .and .u32 (ibits .xor .u32 t11 (4294967295:Int)) t13))))+(Sha.K.getD (Int.toNat t15) 0)))+(x14.getD (Int.toNat t15) 0))))),t11,t12,t13,(IntKind.i64.wrap (t15+(1:Int))),x11,x12,x13,x14)) none) none) none) none) none) none) none) none) (kj9 (t5,t7,t8,t9,t10,t11,t12,t13,t14,x11,x12,x13)))
theorem f99_9_eq(F:Nat)(Rl2 Rj9:St→Rz)(Rj10 Rl1 Rj11:St→Rz):∀ v,XAf99 F (bp Tryz.f99 125236) (ef99l2 v) (kSeq (kc V99 Rl2 sp27) (kBlock 2 (kSeq (kc V99 Rj9 sp32) (kBlock 1 (kSeq (kc V99 Rj10 sp26) (kSeq (kc V99 Rl1 sp26) (kBlock 0 (kSeq (kc V99 Rj11 sp6) Kf12))))))))=f99_9 F (Rl2∘ef99l2) (Rj9∘ef99j9) (Rj10∘ef99j10) (Rl1∘ef99l1) (Rj11∘ef99j11) v:=by
 rintro⟨t5,t7,t8,t9,t10,t11,t12,t13,t14,t15,x11,x12,x13,x14⟩;kernel_rfl
def f99_10_i:Ty21→Int×Int×Int×Int×Int×Int×Int×Int×Int×Int×Li×Li×Li×Li:=fun (t5,t7,t8,t9,t10,t11,t12,t13,t14,t15,x11,x12,x13,x14)=>(t5,t7,t8,t9,t10,t11,t12,t13,t14,t15,x11,x12,x13,x14)
def f99_10(F:Nat)(kj9:Ty22→Rz)(kj10 kl1:Ty19→Rz)(kj11:Li×Li→Rz):Ty21→Rz:=fun v=>loopN (fun k=>f99_9 F k kj9 kj10 kl1 kj11) F (f99_10_i v)
theorem f99_10_eq(F:Nat)(Rj9 Rj10:St→Rz)(Rl1 Rj11:St→Rz):∀ v,XAf99 F (bp Tryz.f99 62618) (ef99j8 v) (kBlock 2 (kSeq (kc V99 Rj9 sp32) (kBlock 1 (kSeq (kc V99 Rj10 sp26) (kSeq (kc V99 Rl1 sp26) (kBlock 0 (kSeq (kc V99 Rj11 sp6) Kf12)))))))=f99_10 F (Rj9∘ef99j9) (Rj10∘ef99j10) (Rl1∘ef99l1) (Rj11∘ef99j11) v:=
 loop_cut (by kernel_rfl) (by kernel_rfl) ef99j8 ef99l2 _ f99_10_i (fun k=>f99_9 F k (Rj9∘ef99j9) (Rj10∘ef99j10) (Rl1∘ef99l1) (Rj11∘ef99j11))
  (by rintro⟨t5,t7,t8,t9,t10,t11,t12,t13,t14,t15,x11,x12,x13,x14⟩;kernel_rfl) (fun Rl2=>f99_9_eq F Rl2 Rj9 Rj10 Rl1 Rj11)
def f99_11(F:Nat)(kj9:Ty22→Rz)(kj10 kl1:Ty19→Rz)(kj11:Li×Li→Rz):Ty21→Rz:=f99_10 F kj9 kj10 kl1 kj11
theorem f99_11_eq(F:Nat)(Rj9 Rj10:St→Rz)(Rl1 Rj11:St→Rz):∀ v,XAf99 F (bp Tryz.f99 31309) (ef99j8 v) (kSeq (kc V99 Rj9 sp32) (kBlock 1 (kSeq (kc V99 Rj10 sp26) (kSeq (kc V99 Rl1 sp26) (kBlock 0 (kSeq (kc V99 Rj11 sp6) Kf12))))))=f99_11 F (Rj9∘ef99j9) (Rj10∘ef99j10) (Rl1∘ef99l1) (Rj11∘ef99j11) v:=fun v=>
 (block_in  (by kernel_rfl) _ _).trans (f99_10_eq F Rj9 Rj10 Rl1 Rj11 v)
def f99_12(F:Nat)(kj9:Ty22→Rz)(kj10 kl1:Ty19→Rz)(kj11:Li×Li→Rz):Ty20→Rz:=fun v=>f99_8 F (f99_11 F kj9 kj10 kl1 kj11) kj9 kj10 kl1 kj11 v
theorem f99_12_eq(F:Nat)(Rj9 Rj10:St→Rz)(Rl1 Rj11:St→Rz):∀ v,XAf99 F (bp Tryz.f99 15654) (ef99j7 v) (kSeq (kc V99 Rj9 sp32) (kBlock 1 (kSeq (kc V99 Rj10 sp26) (kSeq (kc V99 Rl1 sp26) (kBlock 0 (kSeq (kc V99 Rj11 sp6) Kf12))))))=f99_12 F (Rj9∘ef99j9) (Rj10∘ef99j10) (Rl1∘ef99l1) (Rj11∘ef99j11) v:=
 seq_cut (by kernel_rfl) (by kernel_rfl) ef99j7 ef99j8 _ (fun k=>f99_8 F k (Rj9∘ef99j9) (Rj10∘ef99j10) (Rl1∘ef99l1) (Rj11∘ef99j11)) (f99_11 F (Rj9∘ef99j9) (Rj10∘ef99j10) (Rl1∘ef99l1) (Rj11∘ef99j11))
  (fun Rj8=>f99_8_eq F Rj8 Rj9 Rj10 Rl1 Rj11) (f99_11_eq F Rj9 Rj10 Rl1 Rj11)
def f99_13(F:Nat)(kj10 kl1:Ty19→Rz)(kj11:Li×Li→Rz):Ty22→Rz:=fun (t5,t7,t8,t9,t10,t11,t12,t13,t14,x10,x11,x12)=>(kj10 (t5,x10,[(IntKind.u32.wrap ((x11.getD 0 0)+t7)),(IntKind.u32.wrap ((x11.getD 1 0)+t8)),(IntKind.u32.wrap ((x11.getD 2 0)+t9)),(IntKind.u32.wrap ((x11.getD 3 0)+t10)),(IntKind.u32.wrap ((x11.getD 4 0)+t11)),(IntKind.u32.wrap ((x11.getD 5 0)+t12)),(IntKind.u32.wrap ((x11.getD 6 0)+t13)),(IntKind.u32.wrap ((x11.getD 7 0)+t14))],x12))
theorem f99_13_eq(F:Nat)(Rj10 Rl1 Rj11:St→Rz):∀ v,XAf99 F (bp Tryz.f99 15655) (ef99j9 v) (kBlock 1 (kSeq (kc V99 Rj10 sp26) (kSeq (kc V99 Rl1 sp26) (kBlock 0 (kSeq (kc V99 Rj11 sp6) Kf12)))))=f99_13 F (Rj10∘ef99j10) (Rl1∘ef99l1) (Rj11∘ef99j11) v:=by
 rintro⟨t5,t7,t8,t9,t10,t11,t12,t13,t14,x10,x11,x12⟩;kernel_rfl
def f99_14(F:Nat)(kj10 kl1:Ty19→Rz)(kj11:Li×Li→Rz):Ty20→Rz:=fun v=>f99_12 F (f99_13 F kj10 kl1 kj11) kj10 kl1 kj11 v
theorem f99_14_eq(F:Nat)(Rj10 Rl1 Rj11:St→Rz):∀ v,XAf99 F (bp Tryz.f99 7827) (ef99j7 v) (kBlock 1 (kSeq (kc V99 Rj10 sp26) (kSeq (kc V99 Rl1 sp26) (kBlock 0 (kSeq (kc V99 Rj11 sp6) Kf12)))))=f99_14 F (Rj10∘ef99j10) (Rl1∘ef99l1) (Rj11∘ef99j11) v:=
 seq_cut (by kernel_rfl) (by kernel_rfl) ef99j7 ef99j9 _ (fun k=>f99_12 F k (Rj10∘ef99j10) (Rl1∘ef99l1) (Rj11∘ef99j11)) (f99_13 F (Rj10∘ef99j10) (Rl1∘ef99l1) (Rj11∘ef99j11))
  (fun Rj9=>f99_12_eq F Rj9 Rj10 Rl1 Rj11) (f99_13_eq F Rj10 Rl1 Rj11)
def f99_15(F:Nat)(kj10 kl1:Ty19→Rz)(kj11:Li×Li→Rz):Ty9→Rz:=fun v=>f99_7 F (f99_14 F kj10 kl1 kj11) kj10 kl1 kj11 v
theorem f99_15_eq(F:Nat)(Rj10 Rl1 Rj11:St→Rz):∀ v,XAf99 F (bp Tryz.f99 3913) (ef99j6 v) (kBlock 1 (kSeq (kc V99 Rj10 sp26) (kSeq (kc V99 Rl1 sp26) (kBlock 0 (kSeq (kc V99 Rj11 sp6) Kf12)))))=f99_15 F (Rj10∘ef99j10) (Rl1∘ef99l1) (Rj11∘ef99j11) v:=
 seq_cut (by kernel_rfl) (by kernel_rfl) ef99j6 ef99j7 _ (fun k=>f99_7 F k (Rj10∘ef99j10) (Rl1∘ef99l1) (Rj11∘ef99j11)) (f99_14 F (Rj10∘ef99j10) (Rl1∘ef99l1) (Rj11∘ef99j11))
  (fun Rj7=>f99_7_eq F Rj7 Rj10 Rl1 Rj11) (f99_14_eq F Rj10 Rl1 Rj11)
def f99_16(F:Nat)(kj10 kl1:Ty19→Rz)(kj11:Li×Li→Rz):Ty19→Rz:=fun v=>f99_6 F (f99_15 F kj10 kl1 kj11) kj10 kl1 kj11 v
theorem f99_16_eq(F:Nat)(Rj10 Rl1 Rj11:St→Rz):∀ v,XAf99 F (bp Tryz.f99 1956) (ef99j5 v) (kBlock 1 (kSeq (kc V99 Rj10 sp26) (kSeq (kc V99 Rl1 sp26) (kBlock 0 (kSeq (kc V99 Rj11 sp6) Kf12)))))=f99_16 F (Rj10∘ef99j10) (Rl1∘ef99l1) (Rj11∘ef99j11) v:=
 seq_cut (by kernel_rfl) (by kernel_rfl) ef99j5 ef99j6 _ (fun k=>f99_6 F k (Rj10∘ef99j10) (Rl1∘ef99l1) (Rj11∘ef99j11)) (f99_15 F (Rj10∘ef99j10) (Rl1∘ef99l1) (Rj11∘ef99j11))
  (fun Rj6=>f99_6_eq F Rj6 Rj10 Rl1 Rj11) (f99_15_eq F Rj10 Rl1 Rj11)
def f99_17(F:Nat)(kj10 kl1:Ty19→Rz)(kj11:Li×Li→Rz):Ty19→Rz:=f99_16 F kj10 kl1 kj11
theorem f99_17_eq(F:Nat)(Rj10 Rl1 Rj11:St→Rz):∀ v,XAf99 F (bp Tryz.f99 978) (ef99j5 v) (kSeq (kc V99 Rj10 sp26) (kSeq (kc V99 Rl1 sp26) (kBlock 0 (kSeq (kc V99 Rj11 sp6) Kf12))))=f99_17 F (Rj10∘ef99j10) (Rl1∘ef99l1) (Rj11∘ef99j11) v:=fun v=>
 (block_in  (by kernel_rfl) _ _).trans (f99_16_eq F Rj10 Rl1 Rj11 v)
def f99_18(F:Nat)(kl1:Ty19→Rz)(kj11:Li×Li→Rz):Ty19→Rz:=fun (t5,x2,x3,x4)=>(kl1 ((IntKind.i64.wrap (t5+(64:Int))),x2,x3,x4))
theorem f99_18_eq(F:Nat)(Rl1 Rj11:St→Rz):∀ v,XAf99 F (bp Tryz.f99 979) (ef99j10 v) (kSeq (kc V99 Rl1 sp26) (kBlock 0 (kSeq (kc V99 Rj11 sp6) Kf12)))=f99_18 F (Rl1∘ef99l1) (Rj11∘ef99j11) v:=by
 rintro⟨t5,x2,x3,x4⟩;kernel_rfl
def f99_19(F:Nat)(kl1:Ty19→Rz)(kj11:Li×Li→Rz):Ty19→Rz:=fun v=>f99_17 F (f99_18 F kl1 kj11) kl1 kj11 v
theorem f99_19_eq(F:Nat)(Rl1 Rj11:St→Rz):∀ v,XAf99 F (bp Tryz.f99 489) (ef99j5 v) (kSeq (kc V99 Rl1 sp26) (kBlock 0 (kSeq (kc V99 Rj11 sp6) Kf12)))=f99_19 F (Rl1∘ef99l1) (Rj11∘ef99j11) v:=
 seq_cut (by kernel_rfl) (by kernel_rfl) ef99j5 ef99j10 _ (fun k=>f99_17 F k (Rl1∘ef99l1) (Rj11∘ef99j11)) (f99_18 F (Rl1∘ef99l1) (Rj11∘ef99j11))
  (fun Rj10=>f99_17_eq F Rj10 Rl1 Rj11) (f99_18_eq F Rl1 Rj11)
def f99_20(F:Nat)(kl1:Ty19→Rz)(kj11:Li×Li→Rz):Ty19→Rz:=fun v=>f99_5 F (f99_19 F kl1 kj11) kl1 kj11 v
theorem f99_20_eq(F:Nat)(Rl1 Rj11:St→Rz):∀ v,XAf99 F (bp Tryz.f99 244) (ef99l1 v) (kSeq (kc V99 Rl1 sp26) (kBlock 0 (kSeq (kc V99 Rj11 sp6) Kf12)))=f99_20 F (Rl1∘ef99l1) (Rj11∘ef99j11) v:=
 seq_cut (by kernel_rfl) (by kernel_rfl) ef99l1 ef99j5 _ (fun k=>f99_5 F k (Rl1∘ef99l1) (Rj11∘ef99j11)) (f99_19 F (Rl1∘ef99l1) (Rj11∘ef99j11))
  (fun Rj5=>f99_5_eq F Rj5 Rl1 Rj11) (f99_19_eq F Rl1 Rj11)
def f99_21_i:Ty19→Int×Li×Li×Li:=fun (t5,x2,x3,x4)=>(t5,x2,x3,x4)
def f99_21(F:Nat)(kj11:Li×Li→Rz):Ty19→Rz:=fun v=>loopN (fun k=>f99_20 F k kj11) F (f99_21_i v)
theorem f99_21_eq(F:Nat)(Rj11:St→Rz):∀ v,XAf99 F (bp Tryz.f99 122) (ef99j4 v) (kBlock 0 (kSeq (kc V99 Rj11 sp6) Kf12))=f99_21 F (Rj11∘ef99j11) v:=
 loop_cut (by kernel_rfl) (by kernel_rfl) ef99j4 ef99l1 _ f99_21_i (fun k=>f99_20 F k (Rj11∘ef99j11))
  (by rintro⟨t5,x2,x3,x4⟩;kernel_rfl) (fun Rl1=>f99_20_eq F Rl1 Rj11)
def f99_22(F:Nat)(kj11:Li×Li→Rz):Ty19→Rz:=f99_21 F kj11
theorem f99_22_eq(F:Nat)(Rj11:St→Rz):∀ v,XAf99 F (bp Tryz.f99 61) (ef99j4 v) (kSeq (kc V99 Rj11 sp6) Kf12)=f99_22 F (Rj11∘ef99j11) v:=fun v=>
 (block_in  (by kernel_rfl) _ _).trans (f99_21_eq F Rj11 v)
def f99_23(F:Nat)(kj11:Li×Li→Rz):Ty0→Rz:=fun v=>f99_4 F (f99_22 F kj11) kj11 v
theorem f99_23_eq(F:Nat)(Rj11:St→Rz):∀ v,XAf99 F (bp Tryz.f99 30) (ef99j3 v) (kSeq (kc V99 Rj11 sp6) Kf12)=f99_23 F (Rj11∘ef99j11) v:=
 seq_cut (by kernel_rfl) (by kernel_rfl) ef99j3 ef99j4 _ (fun k=>f99_4 F k (Rj11∘ef99j11)) (f99_22 F (Rj11∘ef99j11))
  (fun Rj4=>f99_4_eq F Rj4 Rj11) (f99_22_eq F Rj11)
def f99_24(F:Nat)(kj12:Ty0→Rz):Li×Li→Rz:=fun (x1,x2)=>(kj12 (x1,x2,(List.replicate 32 0)))
theorem f99_24_eq(F:Nat)(Rj12:St→Rz):∀ v,XAf99 F (bp Tryz.f99 62) (ef99j11 v) (kSeq (kc V99 Rj12 sp33) Kf12)=f99_24 F (Rj12∘ef99j12) v:=by
 rintro⟨x1,x2⟩;kernel_rfl
def f99_25(F:Nat)(kj13:Ty19→Rz)(kj14:Li×Li→Rz):Ty0→Rz:=fun (x1,x2,x3)=>(kj13 ((0:Int),x1,x2,x3))
theorem f99_25_eq(F:Nat)(Rj13 Rj14:St→Rz):∀ v,XAf99 F (bp Tryz.f99 252) (ef99j12 v) (kSeq (kc V99 Rj13 sp28) (kSeq (kc V99 Rj14 sp34) Kf12))=f99_25 F (Rj13∘ef99j13) (Rj14∘ef99j14) v:=by
 rintro⟨x1,x2,x3⟩;kernel_rfl
def f99_26(F:Nat)(kl3:Ty19→Rz)(kj14:Li×Li→Rz):Ty19→Rz:=fun (t19,x2,x3,x4)=>(cond (decide (t19 < (32:Int))) (cond ((decide (0≤(IntKind.i64.wrap (Int.tdiv t19 (4:Int)))))&&(decide ((IntKind.i64.wrap (Int.tdiv t19 (4:Int))) < (8:Int)))) (cond (decide (0≤(IntKind.i64.wrap ((24:Int)-(IntKind.i64.wrap ((8:Int)*(Int.tmod t19 (4:Int)))))))) (cond ((decide (0≤t19))&&(decide (t19 < (32:Int)))) (kl3 ((IntKind.i64.wrap (t19+(1:Int))),x2,x3,(x4.set (Int.toNat t19) (IntKind.u8.wrap (Int.fdiv (x3.getD (Int.toNat (IntKind.i64.wrap (Int.tdiv t19 (4:Int)))) 0) (2^(min (Int.toNat (IntKind.i64.wrap ((24:Int)-(IntKind.i64.wrap ((8:Int)*(Int.tmod t19 (4:Int))))))) 32))))))) none) none) none) (kj14 (x2,x4)))
theorem f99_26_eq(F:Nat)(Rl3 Rj14:St→Rz):∀ v,XAf99 F (bp Tryz.f99 1012) (ef99l3 v) (kSeq (kc V99 Rl3 sp28) (kBlock 4 (kSeq (kc V99 Rj14 sp34) Kf12)))=f99_26 F (Rl3∘ef99l3) (Rj14∘ef99j14) v:=by
 rintro⟨t19,x2,x3,x4⟩;kernel_rfl
def f99_27_i:Ty19→Int×Li×Li×Li:=fun (t19,x2,x3,x4)=>(t19,x2,x3,x4)
def f99_27(F:Nat)(kj14:Li×Li→Rz):Ty19→Rz:=fun v=>loopN (fun k=>f99_26 F k kj14) F (f99_27_i v)
theorem f99_27_eq(F:Nat)(Rj14:St→Rz):∀ v,XAf99 F (bp Tryz.f99 506) (ef99j13 v) (kBlock 4 (kSeq (kc V99 Rj14 sp34) Kf12))=f99_27 F (Rj14∘ef99j14) v:=
 loop_cut (by kernel_rfl) (by kernel_rfl) ef99j13 ef99l3 _ f99_27_i (fun k=>f99_26 F k (Rj14∘ef99j14))
  (by rintro⟨t19,x2,x3,x4⟩;kernel_rfl) (fun Rl3=>f99_26_eq F Rl3 Rj14)
def f99_28(F:Nat)(kj14:Li×Li→Rz):Ty19→Rz:=f99_27 F kj14
theorem f99_28_eq(F:Nat)(Rj14:St→Rz):∀ v,XAf99 F (bp Tryz.f99 253) (ef99j13 v) (kSeq (kc V99 Rj14 sp34) Kf12)=f99_28 F (Rj14∘ef99j14) v:=fun v=>
 (block_in  (by kernel_rfl) _ _).trans (f99_27_eq F Rj14 v)
def f99_29(F:Nat)(kj14:Li×Li→Rz):Ty0→Rz:=fun v=>f99_25 F (f99_28 F kj14) kj14 v
theorem f99_29_eq(F:Nat)(Rj14:St→Rz):∀ v,XAf99 F (bp Tryz.f99 126) (ef99j12 v) (kSeq (kc V99 Rj14 sp34) Kf12)=f99_29 F (Rj14∘ef99j14) v:=
 seq_cut (by kernel_rfl) (by kernel_rfl) ef99j12 ef99j13 _ (fun k=>f99_25 F k (Rj14∘ef99j14)) (f99_28 F (Rj14∘ef99j14))
  (fun Rj13=>f99_25_eq F Rj13 Rj14) (f99_28_eq F Rj14)
def f99_30(F:Nat):Li×Li→Rz:=fun (x1,x2)=>(some ((.agg 32 (.rI .u8 x2)),[]))
theorem f99_30_eq(F:Nat):∀ v,XAf99 F (bp Tryz.f99 127) (ef99j14 v) Kf12=f99_30 F v:=by
 rintro⟨x1,x2⟩;kernel_rfl
def f99_31(F:Nat):Ty0→Rz:=fun v=>f99_29 F (f99_30 F) v
theorem f99_31_eq(F:Nat):∀ v,XAf99 F (bp Tryz.f99 63) (ef99j12 v) Kf12=f99_31 F v:=
 seq_cut (by kernel_rfl) (by kernel_rfl) ef99j12 ef99j14 _ (fun k=>f99_29 F k) (f99_30 F)
  (fun Rj14=>f99_29_eq F Rj14) (f99_30_eq F)
def f99_32(F:Nat):Li×Li→Rz:=fun v=>f99_24 F (f99_31 F) v
theorem f99_32_eq(F:Nat):∀ v,XAf99 F (bp Tryz.f99 31) (ef99j11 v) Kf12=f99_32 F v:=
 seq_cut (by kernel_rfl) (by kernel_rfl) ef99j11 ef99j12 _ (fun k=>f99_24 F k) (f99_31 F)
  (fun Rj12=>f99_24_eq F Rj12) (f99_31_eq F)
def f99_33(F:Nat):Ty0→Rz:=fun v=>f99_23 F (f99_32 F) v
theorem f99_33_eq(F:Nat):∀ v,XAf99 F (bp Tryz.f99 15) (ef99j3 v) Kf12=f99_33 F v:=
 seq_cut (by kernel_rfl) (by kernel_rfl) ef99j3 ef99j11 _ (fun k=>f99_23 F k) (f99_32 F)
  (fun Rj11=>f99_23_eq F Rj11) (f99_32_eq F)
def f99_34(F:Nat):Ty0→Rz:=fun v=>f99_3 F (f99_33 F) v
theorem f99_34_eq(F:Nat):∀ v,XAf99 F (bp Tryz.f99 7) (ef99j2 v) Kf12=f99_34 F v:=
 seq_cut (by kernel_rfl) (by kernel_rfl) ef99j2 ef99j3 _ (fun k=>f99_3 F k) (f99_33 F)
  (fun Rj3=>f99_3_eq F Rj3) (f99_33_eq F)
def f99_35(F:Nat):Li×Li→Rz:=fun v=>f99_2 F (f99_34 F) v
theorem f99_35_eq(F:Nat):∀ v,XAf99 F (bp Tryz.f99 3) (ef99j1 v) Kf12=f99_35 F v:=
 seq_cut (by kernel_rfl) (by kernel_rfl) ef99j1 ef99j2 _ (fun k=>f99_2 F k) (f99_34 F)
  (fun Rj2=>f99_2_eq F Rj2) (f99_34_eq F)
def f99_36(F:Nat):Li→Rz:=fun v=>f99_1 F (f99_35 F) v
theorem f99_36_eq(F:Nat):∀ v,XAf99 F (sub (bodyOf Tryz.f99) []) (ef99_a v) Kf12=f99_36 F v:=
 seq_cut (by kernel_rfl) (by kernel_rfl) ef99_a ef99j1 _ (fun k=>f99_1 F k) (f99_35 F)
  (fun Rj1=>f99_1_eq F Rj1) (f99_35_eq F)
def f99(F:Nat):Li→Rz:=f99_36 F
theorem f99_body(F:Nat)(a0:Li):abody V99 (Af99 F) Tryz.f99 [(.vs (.rI .u8 a0) 0 1)] []=f99 F a0:=
 (abody_in (c:=(sub (bodyOf Tryz.f99) [])) (by kernel_rfl) (s:=ef99_a a0) (by kernel_rfl)).trans (f99_36_eq F a0)
def r99:CRun:=fun X H=>match X,H with
 | [(.vs (.rI .u8 a0) 0 1)],[]=>some ((decide (a0.length < 1073741000)),(.agg 32 (.rI .u8 (Sha.hash a0))),[])
 | _,_=>none
theorem pad_len(n:Int):((n+(Sha.pad n).length)%64=0):=by
 simp only [Sha.pad,Sha.be8,List.length_cons,List.length_append,List.length_replicate,List.length_map,List.length_range];omega
theorem pad_le(n:Int):(Sha.pad n).length≤73:=by
 simp only [Sha.pad,Sha.be8,List.length_cons,List.length_append,List.length_replicate,List.length_map,List.length_range];omega
theorem hash_padded(a0:Li)(hl:a0.length < 4611686018427387904):Sha.hash a0=Sha.out (Sha.addS Sha.begin (Sha.padded a0)).1:=by
 have e:(Sha.addS Sha.begin a0).2.2=(a0.length:Int):=by
  show(Sha.addS (Sha.iv,List.replicate 64 0,0) a0).2.2=_
  rw [Sha.addS_n _ _ _ _ (by omega) (by omega),u64w (by omega) (by omega)];omega
 unfold Sha.hash Sha.fin Sha.padded
 rw [e,Sha.addS_append]
theorem addS_block(m:Li)(i:Nat)(h:64*(i+1)≤m.length):(Sha.addS Sha.begin (m.take (64*(i+1)))).1=Sha.comp (Sha.addS Sha.begin (m.take (64*i))).1 ((m.drop (64*i)).take 64):=by
 have e1:m.take (64*(i+1))=m.take (64*i)++(m.drop (64*i)).take 64:=by rw [show 64*(i+1)=64*i+64 by omega,List.take_add]
 have hc:((m.drop (64*i)).take 64).length=64:=by rw [List.length_take,List.length_drop];omega
 rw [e1,Sha.addS_append]
 have hn:(Sha.addS Sha.begin (m.take (64*i))).2.2%64=0∧0≤(Sha.addS Sha.begin (m.take (64*i))).2.2∧(Sha.addS Sha.begin (m.take (64*i))).2.2≤18446744073709551615:=by
  have:(Sha.addS Sha.begin (m.take (64*i))).2.2=_:=Sha.addS_n (m.take (64*i)) Sha.iv (List.replicate 64 0) 0 (by omega) (by omega)
  rw [this,u64mod,List.length_take];omega
 have hb:(Sha.addS Sha.begin (m.take (64*i))).2.1.length=64:=(Sha.addS_lens _ _ rfl).2
 generalize Sha.addS Sha.begin (m.take (64*i))=s at *
 obtain⟨st,bl,n⟩:=s
 simp only at hn hb
 have:=Sha.addS_chunk ((m.drop (64*i)).take 64) st bl n hb hn.2.1 hn.2.2 (by omega)
 rw [this,if_pos (by omega)]
 simp only
 rw [show(n%64).toNat=0 by omega,List.take_zero,List.nil_append,hc,List.drop_of_length_le (l:=bl) (by omega),List.append_nil]
theorem s99(a0:Li)(hp:((decide (a0.length < 1073741000)))=true)(h0:okV (.vs (.rI .u8 a0) 0 1)):∃ F,f99 F a0=some ((.agg 32 (.rI .u8 (Sha.hash a0))),[]):=by
 have hl:a0.length < 1073741000:=of_decide_eq_true hp
 rw [hash_padded a0 (by omega)]
 have hm64:(Sha.padded a0).length%64=0:=by have:=pad_len (a0.length:Int);simp only [Sha.padded,List.length_append];omega
 have hmle:(Sha.padded a0).length≤a0.length+73:=by have:=pad_le (a0.length:Int);simp only [Sha.padded,List.length_append];omega
 refine⟨(Sha.padded a0).length+65,?_⟩
 simp only [f99,f99_36,f99_1,f99_35,f99_2,f99_34,f99_3,f99_33,f99_23,f99_4,f99_22,f99_21,f99_21_i]
 rw [hp,cond_true]
 generalize Sha.padded a0=m at *
 generalize hF:m.length+65=F
 refine loopN_from (fun i=>(((64*i:Nat):Int),List.replicate 32 0,(Sha.addS Sha.begin (m.take (64*i))).1,m)) (m.length / 64) (by rfl) (fun i hi k=>?_) (fun k=>?_) F (by omega)
 ·simp only [f99_5,f99_20,f99_16,f99_19,f99_17,f99_18,f99_6,f99_15]
  rw [dec_and,dec_and,i64w (x:=((64*i:Nat):Int)+64) (by omega) (by omega),cond_pos (by omega),cond_pos (by omega)]
  rw [show(((64*i:Nat):Int)+64).toNat-(((64*i:Nat):Int)).toNat=64 by omega,Int.toNat_natCast,cond_pos (by rw [List.length_take,List.length_drop];omega)]
  have hb:=addS_block m i (by omega)
  have h8:(Sha.addS Sha.begin (m.take (64*i))).1.length=8:=(Sha.addS_lens _ _ rfl).1
  rw [hb]
  generalize (Sha.addS Sha.begin (m.take (64*i))).1=st at *
  generalize (m.drop (64*i)).take 64=c at *
  simp only [f99_7,f99_14,f99_12,f99_8,f99_11,f99_10,f99_10_i]
  refine loopN_from (fun t=>(((64*i:Nat):Int),(Sha.rnds (Sha.sched c 64) (st.take 4,st.drop 4) t).1.getD 0 0,(Sha.rnds (Sha.sched c 64) (st.take 4,st.drop 4) t).1.getD 1 0,(Sha.rnds (Sha.sched c 64) (st.take 4,st.drop 4) t).1.getD 2 0,(Sha.rnds (Sha.sched c 64) (st.take 4,st.drop 4) t).1.getD 3 0,
   (Sha.rnds (Sha.sched c 64) (st.take 4,st.drop 4) t).2.getD 0 0,(Sha.rnds (Sha.sched c 64) (st.take 4,st.drop 4) t).2.getD 1 0,(Sha.rnds (Sha.sched c 64) (st.take 4,st.drop 4) t).2.getD 2 0,(Sha.rnds (Sha.sched c 64) (st.take 4,st.drop 4) t).2.getD 3 0,(t:Int),List.replicate 32 0,st,m,Sha.sched c 64)) 64 ?_ (fun t ht k'=>?_) (fun k'=>?_) F (by omega)
  ·obtain⟨b0,b1,b2,b3,b4,b5,b6,b7,rfl⟩:=len8 h8
   rfl
  ·simp only [f99_9,dec_and]
   rw [i64w (x:=(t:Int)+1) (by omega) (by omega)]
   repeat rw [cond_pos (by omega)]
   rw [Int.toNat_natCast,Sha.ibits_xor_comm .u32 _ 4294967295]
   rfl
  ·simp only [f99_9]
   rw [cond_neg (by omega)]
   have e:((64*i:Nat):Int)+64=((64*(i+1):Nat):Int):=by omega
   simp only [f99_13,f99_18]
   rw [i64w (x:=((64*i:Nat):Int)+64) (by omega) (by omega),e]
   rfl
 ·simp only [f99_5,f99_20]
  rw [cond_neg (by omega),List.take_of_length_le (show m.length≤64*(m.length / 64) by omega)]
  generalize (Sha.addS Sha.begin m).1=R1
  simp only [f99_32,f99_24,f99_31,f99_29,f99_25,f99_28,f99_27,f99_27_i]
  refine loopN_from (fun i=>((i:Int),List.replicate 32 0,R1,(List.range i).map (fun i=>IntKind.u8.wrap ((R1.getD (i / 4) 0).fdiv (2^(24-8*(i%4)))))++List.replicate (32-i) 0)) 32 (by rfl) (fun i hi k''=>?_) (fun k''=>?_) F (by omega)
  ·simp only [f99_26,dec_and]
   rw [tdiv_nn (by omega),tmod_nn (by omega),i64w (x:=(i:Int) / 4) (by omega) (by omega),i64w (x:=8*((i:Int)%4)) (by omega) (by omega),i64w (x:=24-8*((i:Int)%4)) (by omega) (by omega),i64w (x:=(i:Int)+1) (by omega) (by omega),
    cond_pos (by omega),cond_pos (by omega),cond_pos (by omega),cond_pos (by omega)]
   rw [show min (24-8*((i:Int)%4)).toNat 32=24-8*(i%4) by omega,show((i:Int) / 4).toNat=i / 4 by omega,Int.toNat_natCast,fill_set _ 0 32 i hi rfl]
   rfl
  ·simp only [f99_26]
   rw [cond_neg (by omega),Nat.sub_self,List.replicate_zero,List.append_nil]
   rfl
theorem c99:CallOk Tryz.prog G37Z 99 r99:=callOk_of mixed tys eV99 Tryz.func99 (by kernel_rfl) (c:=sub (bodyOf Tryz.f99) []) (by kernel_rfl) (by
 intro X H r H' h hX hH
 unfold r99 at h;split at h <;> try contradiction
 ·obtain⟨hp,rfl,rfl⟩:=inj3 h
  obtain⟨F,hF⟩:=s99 _ hp (hX _ hm0)
  exact⟨Af99 F,(f99_body F _).trans hF⟩)
end Go.Am
