/- Part of a proof. -/
import Derived.Test.YtgdibbphgdkllaaAmReg
import Derived.Test.YtgdibbphgdkllaaProg
set_option linter.unusedVariables false
set_option linter.unusedSimpArgs false
namespace Go.Am
open Go Go.Proofs
abbrev sp0:List (Nat×Md):=[(0,.plain),(2,.plain),(7,.plain),(8,.plain)]
abbrev sp1:List (Nat×Md):=[(0,.plain),(1,.plain),(2,.plain)]
abbrev sp2:List (Nat×Md):=[(0,.plain),(1,.plain),(2,.plain),(7,.plain)]
abbrev sp3:List (Nat×Md):=[(2,.plain),(7,.plain)]
abbrev sp4:List (Nat×Md):=[(0,.plain),(1,.plain),(2,.plain),(7,.own 2),(8,.plain)]
abbrev sp5:List (Nat×Md):=[(0,.plain),(1,.plain),(2,.plain),(7,.plain),(8,.plain)]
abbrev sp6:List (Nat×Md):=[(1,.plain),(5,.plain),(6,.own 4),(7,.plain)]
abbrev sp7:List (Nat×Md):=[(0,.plain),(1,.plain)]
abbrev sp8:List (Nat×Md):=[(1,.plain),(5,.plain),(6,.plain)]
abbrev sp9:List (Nat×Md):=[(1,.plain),(5,.plain),(6,.plain),(7,.plain)]
abbrev sp12:List (Nat×Md):=[(0,.plain),(1,.plain),(5,.plain)]
abbrev Ty0:=Li×Int×Li×Li×Li×Li
abbrev Ty1:=Li×Li×Li×Li
abbrev Ty2:=Li×Int×Li×Li×Li×Li×Li×Li
abbrev Ty3:=Li×Li×Li×Li×Li×Li
abbrev Ty4:=Li×Int×Int×Int
abbrev Ty5:=Li×Int×Int×Int×Li
abbrev Ty6:=Int×Int×Int×(List Bool)
abbrev Ty7:=(List Li)×Int×Int
abbrev Ty8:=(List Li)×Int×Int×Int
abbrev Ty9:=(List Li)×Int×Int×Int×(List Li)
abbrev Ty10:=Int×Int×(List Li)
abbrev Ty11:=Li×Li×Int
def T38:Tys:=[⟨.other,1,0⟩,⟨.func,1,8⟩,⟨.int .i64,1,8⟩,⟨.int .i64,1,8⟩,⟨.bool,1,1⟩,⟨.int .u8,1,1⟩,⟨.int .u8,1,1⟩,⟨.struct [(2,0),(3,1),(4,2),(6,3)],4,24⟩,⟨.struct [(2,0),(3,1),(4,2),(6,3)],4,24⟩,⟨.str,1,16⟩,⟨.str,1,16⟩,⟨.str,1,16⟩,⟨.int .u64,1,8⟩,⟨.other,0,0⟩,⟨.other,0,0⟩,⟨.ptr 115,1,8⟩,⟨.ptr 118,1,8⟩,⟨.ptr 127,1,8⟩,⟨.other,0,0⟩,⟨.other,0,0⟩,⟨.other,1,16⟩,⟨.int .i32,1,4⟩,⟨.slice 3,1,24⟩,⟨.func,1,8⟩,⟨.slice 22,1,24⟩,⟨.func,1,8⟩,⟨.func,1,8⟩,⟨.slice 4,1,24⟩,⟨.func,1,8⟩,⟨.slice 27,1,24⟩,⟨.func,1,8⟩,⟨.int .i64,1,8⟩,⟨.other,1,0⟩,⟨.func,1,8⟩,⟨.func,1,8⟩,⟨.func,1,8⟩,⟨.func,1,8⟩,⟨.func,1,8⟩,⟨.func,1,8⟩,⟨.func,1,8⟩,⟨.func,1,8⟩,⟨.func,1,8⟩,⟨.func,1,8⟩,⟨.func,1,8⟩,⟨.func,1,8⟩,⟨.func,1,8⟩,⟨.func,1,8⟩,⟨.slice 52,1,24⟩,⟨.func,1,8⟩,⟨.func,1,8⟩,⟨.func,1,8⟩,⟨.func,1,8⟩,⟨.arr 3 3,3,24⟩,⟨.func,1,8⟩,⟨.func,1,8⟩,⟨.func,1,8⟩,⟨.func,1,8⟩,⟨.func,1,8⟩,⟨.func,1,8⟩,⟨.func,1,8⟩,⟨.func,1,8⟩,⟨.func,1,8⟩,⟨.func,1,8⟩,⟨.func,1,8⟩,⟨.func,1,8⟩,⟨.func,1,8⟩,⟨.func,1,8⟩,⟨.func,1,8⟩,⟨.arr 6 3,6,48⟩,⟨.func,1,8⟩,⟨.func,1,8⟩,⟨.func,1,8⟩,⟨.func,1,8⟩,⟨.func,1,8⟩,⟨.func,1,8⟩,⟨.func,1,8⟩,⟨.func,1,8⟩,⟨.func,1,8⟩,⟨.func,1,8⟩,⟨.int .u64,1,8⟩,⟨.map 3 3,1,8⟩,⟨.func,1,8⟩,⟨.other,1,0⟩,⟨.map 3 22,1,8⟩,⟨.func,1,8⟩,⟨.func,1,8⟩,⟨.func,1,8⟩,⟨.func,1,8⟩,⟨.slice 24,1,24⟩,⟨.func,1,8⟩,⟨.func,1,8⟩,⟨.func,1,8⟩,⟨.func,1,8⟩,⟨.int .i64,1,8⟩,⟨.other,1,0⟩,⟨.func,1,8⟩,⟨.func,1,8⟩,⟨.func,1,8⟩,⟨.func,1,8⟩,⟨.func,1,8⟩,⟨.int .u32,1,4⟩,⟨.func,1,8⟩,⟨.int .u64,1,8⟩,⟨.int .u64,1,8⟩,⟨.func,1,8⟩,⟨.func,1,8⟩,⟨.func,1,8⟩,⟨.ptr 3,1,8⟩,⟨.func,1,8⟩,⟨.func,1,8⟩,⟨.ptr 103,1,8⟩,⟨.other,1,0⟩,⟨.func,1,8⟩,⟨.func,1,8⟩,⟨.other,0,0⟩,⟨.other,0,0⟩,⟨.arr 0 16,0,0⟩,⟨.other,0,0⟩,⟨.other,0,0⟩,⟨.func,1,8⟩,⟨.int .u8,1,1⟩,⟨.int .u8,1,1⟩,⟨.func,1,8⟩,⟨.ptr 5,1,8⟩,⟨.int .i32,1,4⟩,⟨.int .i32,1,4⟩,⟨.other,0,0⟩,⟨.other,0,0⟩,⟨.other,1,8⟩]
def G38:Nat→Option AV:=fun _=>none
theorem mixed:Try.prog.follows .mixedOrders=true:=by kernel_rfl
theorem tys:TysOk Try.prog T38:=tysB_ok (by kernel_rfl)
def lVG3810:List CEnt:=[]
def VG3810:Env:=mkEnv T38 G38 lVG3810
noncomputable abbrev Kf1:=kFin VG3810 none (Try.f10).results.toList
theorem eVG3810:EOk Try.prog VG3810:=eok_mk (by exact trivial)
def Af10(F:Nat):Cuts:={ F:=F,at_:=fun _=>none,join:=fun _=>none }
def ef10_a:Int×Int→St:=fun (a0,a1)=>⟨[(0,.int .i64 a0),(1,.int .i64 a1)],[],0,13,0⟩
def f10_1(F:Nat):Int×Int→Rz:=fun (a0,a1)=>(cond (decide (a0 < (0:Int))) (cond (!(a1==0)) (some ((.int .i64 (Int.tmod (IntKind.i64.wrap (0-(IntKind.i64.wrap (a0+(1:Int))))) a1)),[])) none) (cond (!(a1==0)) (some ((.int .i64 (Int.tmod a0 a1)),[])) none))
theorem f10_1_eq(F:Nat):∀ v,aexec VG3810 (Af10 F) (sub (bodyOf Try.f10) []) (ef10_a v) Kf1=f10_1 F v:=by
 rintro⟨a0,a1⟩;kernel_rfl
def f10(F:Nat):Int×Int→Rz:=f10_1 F
theorem f10_body(F:Nat)(a0:Int)(a1:Int):abody VG3810 (Af10 F) Try.f10 [(.int .i64 a0),.int .i64 a1] []=f10 F (a0,a1):=
 (abody_in (c:=(sub (bodyOf Try.f10) [])) (by kernel_rfl) (s:=ef10_a (a0,a1)) (by kernel_rfl)).trans (f10_1_eq F (a0,a1))
def r10:CRun:=fun X H=>match X,H with
 | [(.int .i64 a0),.int .i64 a1],[]=>some ((decide (0 < a1)),(.int .i64 (Reg.around a0 a1)),[])
 | _,_=>none
theorem s10(a0:Int)(a1:Int)(hp:((decide (0 < a1)))=true)(h0:okV (.int .i64 a0))(h1:okV (.int .i64 a1)):∃ F,f10 F (a0,a1)=some ((.int .i64 (Reg.around a0 a1)),[]):=by
 have hm:0 < a1:=of_decide_eq_true hp
 have hn : -9223372036854775808≤a0∧a0≤9223372036854775807:=h0
 refine⟨0,?_⟩
 simp only [f10,f10_1,int_beq,dec_not,Reg.around]
 by_cases h:a0 < 0
 ·rw [cond_pos h,cond_pos (by omega),i64w (x:=a0+1) (by omega) (by omega),i64w (by omega) (by omega),if_pos h,Int.zero_sub]
 ·rw [cond_neg h,cond_pos (by omega),if_neg h]
theorem c10:CallOk Try.prog G38 10 r10:=callOk_of (V:=VG3810) mixed tys eVG3810 (f:=10) (fn:=Try.f10) Try.func10 (by kernel_rfl) (c:=sub (bodyOf Try.f10) []) (by kernel_rfl) (by
 intro X H r H' h hX hH
 unfold r10 at h;split at h <;> try contradiction
 ·simp only [Option.some.injEq,Prod.mk.injEq] at h
  obtain⟨hp,rfl,rfl⟩:=h
  obtain⟨F,hF⟩:=s10 _ _ hp (hX _ (.head _)) (hX _ (.tail _ (.head _)))
  exact⟨Af10 F,(f10_body F _ _).trans hF⟩)
def lVG3836:List CEnt:=[(10,[none,none],r10)]
def VG3836:Env:=mkEnv T38 G38 lVG3836
noncomputable abbrev Kf2:=kFin VG3836 none (Try.f36).results.toList
theorem eVG3836:EOk Try.prog VG3836:=eok_mk (by exact⟨c10,trivial⟩)
def Af36(F:Nat):Cuts:={ F:=F,at_:=fun _=>none,join:=fun _=>none }
def ef36_a:Li×Int×Int→St:=fun (a0,a1,a2)=>⟨[(0,(.vs (.rI .i64 a0) 0 1)),(1,.int .i64 a1),(2,.int .i64 a2)],[],0,21,0⟩
def f36_1(F:Nat):Li×Int×Int→Rz:=fun (a0,a1,a2)=>(cond (decide (a1 < (0:Int))) (some ((.int .i64 0),[])) (cond (decide (a1≥(↑a0.length:Int))) (some ((.int .i64 0),[])) (cond ((decide (0≤a1))&&(decide (a1 < (↑a0.length:Int)))) (cond (decide (0 < a2)) (some ((.int .i64 (Reg.around (a0.getD (Int.toNat a1) 0) a2)),[])) none) none)))
theorem f36_1_eq(F:Nat):∀ v,aexec VG3836 (Af36 F) (sub (bodyOf Try.f36) []) (ef36_a v) Kf2=f36_1 F v:=by
 rintro⟨a0,a1,a2⟩;kernel_rfl
def f36(F:Nat):Li×Int×Int→Rz:=f36_1 F
theorem f36_body(F:Nat)(a0:List Int)(a1:Int)(a2:Int):abody VG3836 (Af36 F) Try.f36 [(.vs (.rI .i64 a0) 0 1),.int .i64 a1,.int .i64 a2] []=f36 F (a0,a1,a2):=
 (abody_in (c:=(sub (bodyOf Try.f36) [])) (by kernel_rfl) (s:=ef36_a (a0,a1,a2)) (by kernel_rfl)).trans (f36_1_eq F (a0,a1,a2))
def r36:CRun:=fun X H=>match X,H with
 | [(.vs (.rI .i64 a0) 0 1),.int .i64 a1,.int .i64 a2],[]=>some ((decide (0 < a2)),(.int .i64 (Reg.at_ a0 a1 a2)),[])
 | _,_=>none
theorem s36(a0:List Int)(a1:Int)(a2:Int)(hp:((decide (0 < a2)))=true)(h0:okV (.vs (.rI .i64 a0) 0 1))(h1:okV (.int .i64 a1))(h2:okV (.int .i64 a2)):∃ F,f36 F (a0,a1,a2)=some ((.int .i64 (Reg.at_ a0 a1 a2)),[]):=by
 refine⟨0,?_⟩
 simp only [f36,f36_1,hp,cond_true,Reg.at_,dec_and]
 by_cases h:a1 < 0
 ·rw [cond_pos h,if_pos (.inl h)]
 ·rw [cond_neg h]
  by_cases h':a1≥(a0.length:Int)
  ·rw [cond_pos h',if_pos (.inr h')]
  ·rw [cond_neg h',cond_pos (by omega),if_neg (by omega)]
theorem c36:CallOk Try.prog G38 36 r36:=callOk_of (V:=VG3836) mixed tys eVG3836 (f:=36) (fn:=Try.f36) Try.func36 (by kernel_rfl) (c:=sub (bodyOf Try.f36) []) (by kernel_rfl) (by
 intro X H r H' h hX hH
 unfold r36 at h;split at h <;> try contradiction
 ·simp only [Option.some.injEq,Prod.mk.injEq] at h
  obtain⟨hp,rfl,rfl⟩:=h
  obtain⟨F,hF⟩:=s36 _ _ _ hp (hX _ (.head _)) (hX _ (.tail _ (.head _))) (hX _ (.tail _ (.tail _ (.head _))))
  exact⟨Af36 F,(f36_body F _ _ _).trans hF⟩)
def f14_1(F:Nat):Li×Int→Rz:=fun (a0,a1)=>(cond ((decide ((0:Int)≤(if a1 < (↑a0.length:Int) then a1 else (↑a0.length:Int))))&&(decide ((if a1 < (↑a0.length:Int) then a1 else (↑a0.length:Int))≤(↑a0.length:Int)))) (cond (decide ((a0.take (Int.toNat (if a1 < (↑a0.length:Int) then a1 else (↑a0.length:Int)))).length < 1073741824)) (some ((.own 0 0 1),[(.cells ([]++(a0.take (Int.toNat (if a1 < (↑a0.length:Int) then a1 else (↑a0.length:Int))))).length (.rI .i64 ([]++(a0.take (Int.toNat (if a1 < (↑a0.length:Int) then a1 else (↑a0.length:Int)))))) true)])) none) none)
def f14(F:Nat):Li×Int→Rz:=f14_1 F
def lVG3811:List CEnt:=[(36,[some 3,none,none],r36)]
def VG3811:Env:=mkEnv T38 G38 lVG3811
noncomputable abbrev Kf4:=kFin VG3811 (some [(6,.own 22)]) (Try.f11).results.toList
theorem eVG3811:EOk Try.prog VG3811:=eok_mk (by exact⟨c36,trivial⟩)
def Af11(F:Nat):Cuts:={ F:=F+6,at_:=fun n=>match n with | 3016=>some sp0 | _=>none,join:=fun n=>match n with | 1047=>some sp1 | 2045=>some sp2 | 3018=>some sp0 | 8024=>some sp3 | _=>none,fin:=(some [(6,.own 22)]),cas:=fun n=>match n with | 7=>some (9,4) | _=>none }
noncomputable abbrev XAf11(F:Nat){α:Type}:=@aexec α VG3811 (Af11 F)
def ef11_a:Li×Int→St:=fun (a0,a1)=>⟨[(0,(.vs (.rI .i64 a0) 0 1)),(1,.int .i64 a1),(2,.int .i64 4)],[],0,57,0⟩
def ef11j1:Li×Int→St:=fun (t0,t1)=>⟨[(0,(.vs (.rI .i64 t0) 0 1)),(1,.int .i64 t1),(2,.int .i64 4)],[],0,57,0⟩
def ef11j2:Ty0→St:=fun (t0,t1,x3,x4,x5,x6)=>⟨[(0,(.vs (.rI .i64 t0) 0 1)),(1,.int .i64 t1),(2,.int .i64 4),(7,.own 0 0 1)],[(0,(.cells 4 (.segs (.cons 1 (.one (.own 1 0 1)) (.cons 1 (.one (.own 2 0 1)) (.cons 1 (.one (.own 3 0 1)) (.cons 1 (.one (.own 4 0 1)) .nil))))) true)),(1,(.cells x3.length (.rI .i64 x3) true)),(2,(.cells x4.length (.rI .i64 x4) true)),(3,(.cells x5.length (.rI .i64 x5) true)),(4,(.cells x6.length (.rI .i64 x6) true))],5,57,0⟩
def ef11j3:Ty0→St:=fun (t0,t8,x3,x4,x5,x6)=>⟨[(0,(.vs (.rI .i64 t0) 0 1)),(2,.int .i64 4),(7,.own 0 0 1),(8,.int .i64 t8)],[(0,(.cells 4 (.segs (.cons 1 (.one (.own 1 0 1)) (.cons 1 (.one (.own 2 0 1)) (.cons 1 (.one (.own 3 0 1)) (.cons 1 (.one (.own 4 0 1)) .nil))))) true)),(1,(.cells x3.length (.rI .i64 x3) true)),(2,(.cells x4.length (.rI .i64 x4) true)),(3,(.cells x5.length (.rI .i64 x5) true)),(4,(.cells x6.length (.rI .i64 x6) true))],5,57,0⟩
def ef11l1:Ty0→St:=ef11j3
def ef11j4:Ty1→St:=fun (x1,x2,x3,x4)=>⟨[(2,.int .i64 4),(7,.own 0 0 1)],[(0,(.cells 4 (.segs (.cons 1 (.one (.own 1 0 1)) (.cons 1 (.one (.own 2 0 1)) (.cons 1 (.one (.own 3 0 1)) (.cons 1 (.one (.own 4 0 1)) .nil))))) true)),(1,(.cells x1.length (.rI .i64 x1) true)),(2,(.cells x2.length (.rI .i64 x2) true)),(3,(.cells x3.length (.rI .i64 x3) true)),(4,(.cells x4.length (.rI .i64 x4) true))],5,57,0⟩
def f11_1(F:Nat)(kf11j1:Li×Int→Rz):Li×Int→Rz:=fun (a0,a1)=>(kf11j1 (a0,a1))
theorem f11_1_eq(F:Nat)(Rf11j1:St→Rz):∀ v,XAf11 F (bp Try.f11 2) (ef11_a v) (kSeq (kc VG3811 Rf11j1 sp1) Kf4)=f11_1 F (Rf11j1∘ef11j1) v:=by
 rintro⟨a0,a1⟩;kernel_rfl
def f11_2(F:Nat)(kf11j2:Ty0→Rz):Li×Int→Rz:=fun (t0,t1)=>(kf11j2 (t0,t1,[],[],[],[]))
theorem f11_2_eq(F:Nat)(Rf11j2:St→Rz):∀ v,XAf11 F (bp Try.f11 6) (ef11j1 v) (kSeq (kc VG3811 Rf11j2 sp2) Kf4)=f11_2 F (Rf11j2∘ef11j2) v:=by
 rintro⟨t0,t1⟩;kernel_rfl
def f11_3(F:Nat)(kf11j3:Ty0→Rz)(kf11j4:Ty1→Rz):Ty0→Rz:=fun (t0,t1,x3,x4,x5,x6)=>(kf11j3 (t0,(IntKind.i64.wrap (t1-(1:Int))),x3,x4,x5,x6))
theorem f11_3_eq(F:Nat)(Rf11j3:St→Rz)(Rf11j4:St→Rz):∀ v,XAf11 F (bp Try.f11 28) (ef11j2 v) (kSeq (kc VG3811 Rf11j3 sp0) (kSeq (kc VG3811 Rf11j4 sp3) Kf4))=f11_3 F (Rf11j3∘ef11j3) (Rf11j4∘ef11j4) v:=by
 rintro⟨t0,t1,x3,x4,x5,x6⟩;kernel_rfl
def f11_4(F:Nat)(kf11l1:Ty0→Rz)(kf11j4:Ty1→Rz):Ty0→Rz:=fun (t0,t8,x3,x4,x5,x6)=>(cond (decide (t8≥(0:Int))) (cond (decide (0 < (5:Int))) (cond (decide ((Reg.at_ t0 t8 (5:Int)) < (4:Int))) (cond (decide ((Reg.at_ t0 t8 (5:Int))=(0:Int))) (cond (decide ((x3.length+1) < 1073741824)) (kf11l1 (t0,(IntKind.i64.wrap (t8-(1:Int))),(x3++[t8]),x4,x5,x6)) none) (cond (decide ((Reg.at_ t0 t8 (5:Int))=(1:Int))) (cond (decide ((x4.length+1) < 1073741824)) (kf11l1 (t0,(IntKind.i64.wrap (t8-(1:Int))),x3,(x4++[t8]),x5,x6)) none) (cond (decide ((Reg.at_ t0 t8 (5:Int))=(2:Int))) (cond (decide ((x5.length+1) < 1073741824)) (kf11l1 (t0,(IntKind.i64.wrap (t8-(1:Int))),x3,x4,(x5++[t8]),x6)) none) (cond (decide ((Reg.at_ t0 t8 (5:Int))=(3:Int))) (cond (decide ((x6.length+1) < 1073741824)) (kf11l1 (t0,(IntKind.i64.wrap (t8-(1:Int))),x3,x4,x5,(x6++[t8]))) none) none)))) (kf11l1 (t0,(IntKind.i64.wrap (t8-(1:Int))),x3,x4,x5,x6))) none) (kf11j4 (x3,x4,x5,x6)))
theorem f11_4_eq(F:Nat)(Rf11l1:St→Rz)(Rf11j4:St→Rz):∀ v,XAf11 F (bp Try.f11 116) (ef11l1 v) (kSeq (kc VG3811 Rf11l1 sp0) (kBlock 0 (kSeq (kc VG3811 Rf11j4 sp3) Kf4)))=f11_4 F (Rf11l1∘ef11l1) (Rf11j4∘ef11j4) v:=by
 rintro⟨t0,t8,x3,x4,x5,x6⟩;kernel_rfl
def f11_5_i:Ty0→Li×Int×Li×Li×Li×Li:=fun (t0,t8,x3,x4,x5,x6)=>(t0,t8,x3,x4,x5,x6)
def f11_5(F:Nat)(kf11j4:Ty1→Rz):Ty0→Rz:=fun v=>loopN (fun k=>f11_4 F k kf11j4) (F+6) (f11_5_i v)
theorem f11_5_eq(F:Nat)(Rf11j4:St→Rz):∀ v,XAf11 F (bp Try.f11 58) (ef11j3 v) (kBlock 0 (kSeq (kc VG3811 Rf11j4 sp3) Kf4))=f11_5 F (Rf11j4∘ef11j4) v:=
 loop_cut (by kernel_rfl) (by kernel_rfl) ef11j3 ef11l1 _ f11_5_i (fun k=>f11_4 F k (Rf11j4∘ef11j4))
  (by rintro⟨t0,t8,x3,x4,x5,x6⟩;kernel_rfl) (fun Rf11l1=>f11_4_eq F Rf11l1 Rf11j4)
def f11_6(F:Nat)(kf11j4:Ty1→Rz):Ty0→Rz:=f11_5 F kf11j4
theorem f11_6_eq(F:Nat)(Rf11j4:St→Rz):∀ v,XAf11 F (bp Try.f11 29) (ef11j3 v) (kSeq (kc VG3811 Rf11j4 sp3) Kf4)=f11_6 F (Rf11j4∘ef11j4) v:=fun v=>
 (block_in  (by kernel_rfl) _ _).trans (f11_5_eq F Rf11j4 v)
def f11_7(F:Nat)(kf11j4:Ty1→Rz):Ty0→Rz:=fun v=>f11_3 F (f11_6 F kf11j4) kf11j4 v
theorem f11_7_eq(F:Nat)(Rf11j4:St→Rz):∀ v,XAf11 F (bp Try.f11 14) (ef11j2 v) (kSeq (kc VG3811 Rf11j4 sp3) Kf4)=f11_7 F (Rf11j4∘ef11j4) v:=
 seq_cut (by kernel_rfl) (by kernel_rfl) ef11j2 ef11j3 _ (fun k=>f11_3 F k (Rf11j4∘ef11j4)) (f11_6 F (Rf11j4∘ef11j4))
  (fun Rf11j3=>f11_3_eq F Rf11j3 Rf11j4) (f11_6_eq F Rf11j4)
def f11_8(F:Nat):Ty1→Rz:=fun (x1,x2,x3,x4)=>(cond (decide ((↑x1.length:Int) > (0:Int))) (cond (decide ((↑x2.length:Int) > (0:Int))) (cond (decide ((↑x3.length:Int) > (0:Int))) (cond (decide ((↑x4.length:Int) > (0:Int))) (some ((.own 0 0 1),[(.cells 4 (.rL .i64 [x1,x2,x3,x4]) true)])) (some ((.own 0 0 1),[(.cells 3 (.rL .i64 [x1,x2,x3]) true)]))) (cond (decide ((↑x4.length:Int) > (0:Int))) (some ((.own 0 0 1),[(.cells 3 (.rL .i64 [x1,x2,x4]) true)])) (some ((.own 0 0 1),[(.cells 2 (.rL .i64 [x1,x2]) true)])))) (cond (decide ((↑x3.length:Int) > (0:Int))) (cond (decide ((↑x4.length:Int) > (0:Int))) (some ((.own 0 0 1),[(.cells 3 (.rL .i64 [x1,x3,x4]) true)])) (some ((.own 0 0 1),[(.cells 2 (.rL .i64 [x1,x3]) true)]))) (cond (decide ((↑x4.length:Int) > (0:Int))) (some ((.own 0 0 1),[(.cells 2 (.rL .i64 [x1,x4]) true)])) (some ((.own 0 0 1),[(.cells 1 (.rL .i64 [x1]) true)]))))) (cond (decide ((↑x2.length:Int) > (0:Int))) (cond (decide ((↑x3.length:Int) > (0:Int))) (cond (decide ((↑x4.length:Int) > (0:Int))) (some ((.own 0 0 1),[(.cells 3 (.rL .i64 [x2,x3,x4]) true)])) (some ((.own 0 0 1),[(.cells 2 (.rL .i64 [x2,x3]) true)]))) (cond (decide ((↑x4.length:Int) > (0:Int))) (some ((.own 0 0 1),[(.cells 2 (.rL .i64 [x2,x4]) true)])) (some ((.own 0 0 1),[(.cells 1 (.rL .i64 [x2]) true)])))) (cond (decide ((↑x3.length:Int) > (0:Int))) (cond (decide ((↑x4.length:Int) > (0:Int))) (some ((.own 0 0 1),[(.cells 2 (.rL .i64 [x3,x4]) true)])) (some ((.own 0 0 1),[(.cells 1 (.rL .i64 [x3]) true)]))) (cond (decide ((↑x4.length:Int) > (0:Int))) (some ((.own 0 0 1),[(.cells 1 (.rL .i64 [x4]) true)])) (some ((.own 0 0 1),[(.cells 0 (.rL .i64 []) true)]))))))
theorem f11_8_eq(F:Nat):∀ v,XAf11 F (bp Try.f11 15) (ef11j4 v) Kf4=f11_8 F v:=by
 rintro⟨x1,x2,x3,x4⟩;kernel_rfl
def f11_9(F:Nat):Ty0→Rz:=fun v=>f11_7 F (f11_8 F) v
theorem f11_9_eq(F:Nat):∀ v,XAf11 F (bp Try.f11 7) (ef11j2 v) Kf4=f11_9 F v:=
 seq_cut (by kernel_rfl) (by kernel_rfl) ef11j2 ef11j4 _ (fun k=>f11_7 F k) (f11_8 F)
  (fun Rf11j4=>f11_7_eq F Rf11j4) (f11_8_eq F)
def f11_10(F:Nat):Li×Int→Rz:=fun v=>f11_2 F (f11_9 F) v
theorem f11_10_eq(F:Nat):∀ v,XAf11 F (bp Try.f11 3) (ef11j1 v) Kf4=f11_10 F v:=
 seq_cut (by kernel_rfl) (by kernel_rfl) ef11j1 ef11j2 _ (fun k=>f11_2 F k) (f11_9 F)
  (fun Rf11j2=>f11_2_eq F Rf11j2) (f11_9_eq F)
def f11_11(F:Nat):Li×Int→Rz:=fun v=>f11_1 F (f11_10 F) v
theorem f11_11_eq(F:Nat):∀ v,XAf11 F (sub (bodyOf Try.f11) []) (ef11_a v) Kf4=f11_11 F v:=
 seq_cut (by kernel_rfl) (by kernel_rfl) ef11_a ef11j1 _ (fun k=>f11_1 F k) (f11_10 F)
  (fun Rf11j1=>f11_1_eq F Rf11j1) (f11_10_eq F)
def f11(F:Nat):Li×Int→Rz:=f11_11 F
theorem f11_body(F:Nat)(a0:List Int)(a1:Int):abody VG3811 (Af11 F) Try.f11 [(.vs (.rI .i64 a0) 0 1),.int .i64 a1,.int .i64 4] []=f11 F (a0,a1):=
 (abody_in (c:=(sub (bodyOf Try.f11) [])) (by kernel_rfl) (s:=ef11_a (a0,a1)) (by kernel_rfl)).trans (f11_11_eq F (a0,a1))
def Af11b(F:Nat):Cuts:={ F:=F+8,at_:=fun n=>match n with | 3016=>some sp0 | _=>none,join:=fun n=>match n with | 1047=>some sp1 | 2045=>some sp2 | 3018=>some sp0 | 8024=>some sp3 | _=>none,fin:=(some [(6,.own 22)]),cas:=fun n=>match n with | 7=>some (9,6) | _=>none }
noncomputable abbrev XAf11b(F:Nat){α:Type}:=@aexec α VG3811 (Af11b F)
def ef11b_a:Li×Int→St:=fun (a0,a1)=>⟨[(0,(.vs (.rI .i64 a0) 0 1)),(1,.int .i64 a1),(2,.int .i64 6)],[],0,57,0⟩
def ef11bj1:Li×Int→St:=fun (t0,t1)=>⟨[(0,(.vs (.rI .i64 t0) 0 1)),(1,.int .i64 t1),(2,.int .i64 6)],[],0,57,0⟩
def ef11bj2:Ty2→St:=fun (t0,t1,x3,x4,x5,x6,x7,x8)=>⟨[(0,(.vs (.rI .i64 t0) 0 1)),(1,.int .i64 t1),(2,.int .i64 6),(7,.own 0 0 1)],[(0,(.cells 6 (.segs (.cons 1 (.one (.own 1 0 1)) (.cons 1 (.one (.own 2 0 1)) (.cons 1 (.one (.own 3 0 1)) (.cons 1 (.one (.own 4 0 1)) (.cons 1 (.one (.own 5 0 1)) (.cons 1 (.one (.own 6 0 1)) .nil))))))) true)),(1,(.cells x3.length (.rI .i64 x3) true)),(2,(.cells x4.length (.rI .i64 x4) true)),(3,(.cells x5.length (.rI .i64 x5) true)),(4,(.cells x6.length (.rI .i64 x6) true)),(5,(.cells x7.length (.rI .i64 x7) true)),(6,(.cells x8.length (.rI .i64 x8) true))],7,57,0⟩
def ef11bj3:Ty2→St:=fun (t0,t8,x3,x4,x5,x6,x7,x8)=>⟨[(0,(.vs (.rI .i64 t0) 0 1)),(2,.int .i64 6),(7,.own 0 0 1),(8,.int .i64 t8)],[(0,(.cells 6 (.segs (.cons 1 (.one (.own 1 0 1)) (.cons 1 (.one (.own 2 0 1)) (.cons 1 (.one (.own 3 0 1)) (.cons 1 (.one (.own 4 0 1)) (.cons 1 (.one (.own 5 0 1)) (.cons 1 (.one (.own 6 0 1)) .nil))))))) true)),(1,(.cells x3.length (.rI .i64 x3) true)),(2,(.cells x4.length (.rI .i64 x4) true)),(3,(.cells x5.length (.rI .i64 x5) true)),(4,(.cells x6.length (.rI .i64 x6) true)),(5,(.cells x7.length (.rI .i64 x7) true)),(6,(.cells x8.length (.rI .i64 x8) true))],7,57,0⟩
def ef11bl1:Ty2→St:=ef11bj3
def ef11bj4:Ty3→St:=fun (x1,x2,x3,x4,x5,x6)=>⟨[(2,.int .i64 6),(7,.own 0 0 1)],[(0,(.cells 6 (.segs (.cons 1 (.one (.own 1 0 1)) (.cons 1 (.one (.own 2 0 1)) (.cons 1 (.one (.own 3 0 1)) (.cons 1 (.one (.own 4 0 1)) (.cons 1 (.one (.own 5 0 1)) (.cons 1 (.one (.own 6 0 1)) .nil))))))) true)),(1,(.cells x1.length (.rI .i64 x1) true)),(2,(.cells x2.length (.rI .i64 x2) true)),(3,(.cells x3.length (.rI .i64 x3) true)),(4,(.cells x4.length (.rI .i64 x4) true)),(5,(.cells x5.length (.rI .i64 x5) true)),(6,(.cells x6.length (.rI .i64 x6) true))],7,57,0⟩
def f11b_1(F:Nat)(kf11bj1:Li×Int→Rz):Li×Int→Rz:=fun (a0,a1)=>(kf11bj1 (a0,a1))
theorem f11b_1_eq(F:Nat)(Rf11bj1:St→Rz):∀ v,XAf11b F (bp Try.f11 2) (ef11b_a v) (kSeq (kc VG3811 Rf11bj1 sp1) Kf4)=f11b_1 F (Rf11bj1∘ef11bj1) v:=by
 rintro⟨a0,a1⟩;kernel_rfl
def f11b_2(F:Nat)(kf11bj2:Ty2→Rz):Li×Int→Rz:=fun (t0,t1)=>(kf11bj2 (t0,t1,[],[],[],[],[],[]))
theorem f11b_2_eq(F:Nat)(Rf11bj2:St→Rz):∀ v,XAf11b F (bp Try.f11 6) (ef11bj1 v) (kSeq (kc VG3811 Rf11bj2 sp2) Kf4)=f11b_2 F (Rf11bj2∘ef11bj2) v:=by
 rintro⟨t0,t1⟩;kernel_rfl
def f11b_3(F:Nat)(kf11bj3:Ty2→Rz)(kf11bj4:Ty3→Rz):Ty2→Rz:=fun (t0,t1,x3,x4,x5,x6,x7,x8)=>(kf11bj3 (t0,(IntKind.i64.wrap (t1-(1:Int))),x3,x4,x5,x6,x7,x8))
theorem f11b_3_eq(F:Nat)(Rf11bj3:St→Rz)(Rf11bj4:St→Rz):∀ v,XAf11b F (bp Try.f11 28) (ef11bj2 v) (kSeq (kc VG3811 Rf11bj3 sp0) (kSeq (kc VG3811 Rf11bj4 sp3) Kf4))=f11b_3 F (Rf11bj3∘ef11bj3) (Rf11bj4∘ef11bj4) v:=by
 rintro⟨t0,t1,x3,x4,x5,x6,x7,x8⟩;kernel_rfl
def f11b_4(F:Nat)(kf11bl1:Ty2→Rz)(kf11bj4:Ty3→Rz):Ty2→Rz:=fun (t0,t8,x3,x4,x5,x6,x7,x8)=>(cond (decide (t8≥(0:Int))) (cond (decide (0 < (7:Int))) (cond (decide ((Reg.at_ t0 t8 (7:Int)) < (6:Int))) (cond (decide ((Reg.at_ t0 t8 (7:Int))=(0:Int))) (cond (decide ((x3.length+1) < 1073741824)) (kf11bl1 (t0,(IntKind.i64.wrap (t8-(1:Int))),(x3++[t8]),x4,x5,x6,x7,x8)) none) (cond (decide ((Reg.at_ t0 t8 (7:Int))=(1:Int))) (cond (decide ((x4.length+1) < 1073741824)) (kf11bl1 (t0,(IntKind.i64.wrap (t8-(1:Int))),x3,(x4++[t8]),x5,x6,x7,x8)) none) (cond (decide ((Reg.at_ t0 t8 (7:Int))=(2:Int))) (cond (decide ((x5.length+1) < 1073741824)) (kf11bl1 (t0,(IntKind.i64.wrap (t8-(1:Int))),x3,x4,(x5++[t8]),x6,x7,x8)) none) (cond (decide ((Reg.at_ t0 t8 (7:Int))=(3:Int))) (cond (decide ((x6.length+1) < 1073741824)) (kf11bl1 (t0,(IntKind.i64.wrap (t8-(1:Int))),x3,x4,x5,(x6++[t8]),x7,x8)) none) (cond (decide ((Reg.at_ t0 t8 (7:Int))=(4:Int))) (cond (decide ((x7.length+1) < 1073741824)) (kf11bl1 (t0,(IntKind.i64.wrap (t8-(1:Int))),x3,x4,x5,x6,(x7++[t8]),x8)) none) (cond (decide ((Reg.at_ t0 t8 (7:Int))=(5:Int))) (cond (decide ((x8.length+1) < 1073741824)) (kf11bl1 (t0,(IntKind.i64.wrap (t8-(1:Int))),x3,x4,x5,x6,x7,(x8++[t8]))) none) none)))))) (kf11bl1 (t0,(IntKind.i64.wrap (t8-(1:Int))),x3,x4,x5,x6,x7,x8))) none) (kf11bj4 (x3,x4,x5,x6,x7,x8)))
theorem f11b_4_eq(F:Nat)(Rf11bl1:St→Rz)(Rf11bj4:St→Rz):∀ v,XAf11b F (bp Try.f11 116) (ef11bl1 v) (kSeq (kc VG3811 Rf11bl1 sp0) (kBlock 0 (kSeq (kc VG3811 Rf11bj4 sp3) Kf4)))=f11b_4 F (Rf11bl1∘ef11bl1) (Rf11bj4∘ef11bj4) v:=by
 rintro⟨t0,t8,x3,x4,x5,x6,x7,x8⟩;kernel_rfl
def f11b_5_i:Ty2→Li×Int×Li×Li×Li×Li×Li×Li:=fun (t0,t8,x3,x4,x5,x6,x7,x8)=>(t0,t8,x3,x4,x5,x6,x7,x8)
def f11b_5(F:Nat)(kf11bj4:Ty3→Rz):Ty2→Rz:=fun v=>loopN (fun k=>f11b_4 F k kf11bj4) (F+8) (f11b_5_i v)
theorem f11b_5_eq(F:Nat)(Rf11bj4:St→Rz):∀ v,XAf11b F (bp Try.f11 58) (ef11bj3 v) (kBlock 0 (kSeq (kc VG3811 Rf11bj4 sp3) Kf4))=f11b_5 F (Rf11bj4∘ef11bj4) v:=
 loop_cut (by kernel_rfl) (by kernel_rfl) ef11bj3 ef11bl1 _ f11b_5_i (fun k=>f11b_4 F k (Rf11bj4∘ef11bj4))
  (by rintro⟨t0,t8,x3,x4,x5,x6,x7,x8⟩;kernel_rfl) (fun Rf11bl1=>f11b_4_eq F Rf11bl1 Rf11bj4)
def f11b_6(F:Nat)(kf11bj4:Ty3→Rz):Ty2→Rz:=f11b_5 F kf11bj4
theorem f11b_6_eq(F:Nat)(Rf11bj4:St→Rz):∀ v,XAf11b F (bp Try.f11 29) (ef11bj3 v) (kSeq (kc VG3811 Rf11bj4 sp3) Kf4)=f11b_6 F (Rf11bj4∘ef11bj4) v:=fun v=>
 (block_in  (by kernel_rfl) _ _).trans (f11b_5_eq F Rf11bj4 v)
def f11b_7(F:Nat)(kf11bj4:Ty3→Rz):Ty2→Rz:=fun v=>f11b_3 F (f11b_6 F kf11bj4) kf11bj4 v
theorem f11b_7_eq(F:Nat)(Rf11bj4:St→Rz):∀ v,XAf11b F (bp Try.f11 14) (ef11bj2 v) (kSeq (kc VG3811 Rf11bj4 sp3) Kf4)=f11b_7 F (Rf11bj4∘ef11bj4) v:=
 seq_cut (by kernel_rfl) (by kernel_rfl) ef11bj2 ef11bj3 _ (fun k=>f11b_3 F k (Rf11bj4∘ef11bj4)) (f11b_6 F (Rf11bj4∘ef11bj4))
  (fun Rf11bj3=>f11b_3_eq F Rf11bj3 Rf11bj4) (f11b_6_eq F Rf11bj4)
def f11b_8(F:Nat):Ty3→Rz:=fun (x1,x2,x3,x4,x5,x6)=>(cond (decide ((↑x1.length:Int) > (0:Int))) (cond (decide ((↑x2.length:Int) > (0:Int))) (cond (decide ((↑x3.length:Int) > (0:Int))) (cond (decide ((↑x4.length:Int) > (0:Int))) (cond (decide ((↑x5.length:Int) > (0:Int))) (cond (decide ((↑x6.length:Int) > (0:Int))) (some ((.own 0 0 1),[(.cells 6 (.rL .i64 [x1,x2,x3,x4,x5,x6]) true)])) (some ((.own 0 0 1),[(.cells 5 (.rL .i64 [x1,x2,x3,x4,x5]) true)]))) (cond (decide ((↑x6.length:Int) > (0:Int))) (some ((.own 0 0 1),[(.cells 5 (.rL .i64 [x1,x2,x3,x4,x6]) true)])) (some ((.own 0 0 1),[(.cells 4 (.rL .i64 [x1,x2,x3,x4]) true)])))) (cond (decide ((↑x5.length:Int) > (0:Int))) (cond (decide ((↑x6.length:Int) > (0:Int))) (some ((.own 0 0 1),[(.cells 5 (.rL .i64 [x1,x2,x3,x5,x6]) true)])) (some ((.own 0 0 1),[(.cells 4 (.rL .i64 [x1,x2,x3,x5]) true)]))) (cond (decide ((↑x6.length:Int) > (0:Int))) (some ((.own 0 0 1),[(.cells 4 (.rL .i64 [x1,x2,x3,x6]) true)])) (some ((.own 0 0 1),[(.cells 3 (.rL .i64 [x1,x2,x3]) true)]))))) (cond (decide ((↑x4.length:Int) > (0:Int))) (cond (decide ((↑x5.length:Int) > (0:Int))) (cond (decide ((↑x6.length:Int) > (0:Int))) (some ((.own 0 0 1),[(.cells 5 (.rL .i64 [x1,x2,x4,x5,x6]) true)])) (some ((.own 0 0 1),[(.cells 4 (.rL .i64 [x1,x2,x4,x5]) true)]))) (cond (decide ((↑x6.length:Int) > (0:Int))) (some ((.own 0 0 1),[(.cells 4 (.rL .i64 [x1,x2,x4,x6]) true)])) (some ((.own 0 0 1),[(.cells 3 (.rL .i64 [x1,x2,x4]) true)])))) (cond (decide ((↑x5.length:Int) > (0:Int))) (cond (decide ((↑x6.length:Int) > (0:Int))) (some ((.own 0 0 1),[(.cells 4 (.rL .i64 [x1,x2,x5,x6]) true)])) (some ((.own 0 0 1),[(.cells 3 (.rL .i64 [x1,x2,x5]) true)]))) (cond (decide ((↑x6.length:Int) > (0:Int))) (some ((.own 0 0 1),[(.cells 3 (.rL .i64 [x1,x2,x6]) true)])) (some ((.own 0 0 1),[(.cells 2 (.rL .i64 [x1,x2]) true)])))))) (cond (decide ((↑x3.length:Int) > (0:Int))) (cond (decide ((↑x4.length:Int) > (0:Int))) (cond (decide ((↑x5.length:Int) > (0:Int))) (cond (decide ((↑x6.length:Int) > (0:Int))) (some ((.own 0 0 1),[(.cells 5 (.rL .i64 [x1,x3,x4,x5,x6]) true)])) (some ((.own 0 0 1),[(.cells 4 (.rL .i64 [x1,x3,x4,x5]) true)]))) (cond (decide ((↑x6.length:Int) > (0:Int))) (some ((.own 0 0 1),[(.cells 4 (.rL .i64 [x1,x3,x4,x6]) true)])) (some ((.own 0 0 1),[(.cells 3 (.rL .i64 [x1,x3,x4]) true)])))) (cond (decide ((↑x5.length:Int) > (0:Int))) (cond (decide ((↑x6.length:Int) > (0:Int))) (some ((.own 0 0 1),[(.cells 4 (.rL .i64 [x1,x3,x5,x6]) true)])) (some ((.own 0 0 1),[(.cells 3 (.rL .i64 [x1,x3,x5]) true)]))) (cond (decide ((↑x6.length:Int) > (0:Int))) (some ((.own 0 0 1),[(.cells 3 (.rL .i64 [x1,x3,x6]) true)])) (some ((.own 0 0 1),[(.cells 2 (.rL .i64 [x1,x3]) true)]))))) (cond (decide ((↑x4.length:Int) > (0:Int))) (cond (decide ((↑x5.length:Int) > (0:Int))) (cond (decide ((↑x6.length:Int) > (0:Int))) (some ((.own 0 0 1),[(.cells 4 (.rL .i64 [x1,x4,x5,x6]) true)])) (some ((.own 0 0 1),[(.cells 3 (.rL .i64 [x1,x4,x5]) true)]))) (cond (decide ((↑x6.length:Int) > (0:Int))) (some ((.own 0 0 1),[(.cells 3 (.rL .i64 [x1,x4,x6]) true)])) (some ((.own 0 0 1),[(.cells 2 (.rL .i64 [x1,x4]) true)])))) (cond (decide ((↑x5.length:Int) > (0:Int))) (cond (decide ((↑x6.length:Int) > (0:Int))) (some ((.own 0 0 1),[(.cells 3 (.rL .i64 [x1,x5,x6]) true)])) (some ((.own 0 0 1),[(.cells 2 (.rL .i64 [x1,x5]) true)]))) (cond (decide ((↑x6.length:Int) > (0:Int))) (some ((.own 0 0 1),[(.cells 2 (.rL .i64 [x1,x6]) true)])) (some ((.own 0 0 1),[(.cells 1 (.rL .i64 [x1]) true)]))))))) (cond (decide ((↑x2.length:Int) > (0:Int))) (cond (decide ((↑x3.length:Int) > (0:Int))) (cond (decide ((↑x4.length:Int) > (0:Int))) (cond (decide ((↑x5.length:Int) > (0:Int))) (cond (decide ((↑x6.length:Int) > (0:Int))) (some ((.own 0 0 1),[(.cells 5 (.rL .i64 [x2,x3,x4,x5,x6]) true)])) (some ((.own 0 0 1),[(.cells 4 (.rL .i64 [x2,x3,x4,x5]) true)]))) (cond (decide ((↑x6.length:Int) > (0:Int))) (some ((.own 0 0 1),[(.cells 4 (.rL .i64 [x2,x3,x4,x6]) true)])) (some ((.own 0 0 1),[(.cells 3 (.rL .i64 [x2,x3,x4]) true)])))) (cond (decide ((↑x5.length:Int) > (0:Int))) (cond (decide ((↑x6.length:Int) > (0:Int))) (some ((.own 0 0 1),[(.cells 4 (.rL .i64 [x2,x3,x5,x6]) true)])) (some ((.own 0 0 1),[(.cells 3 (.rL .i64 [x2,x3,x5]) true)]))) (cond (decide ((↑x6.length:Int) > (0:Int))) (some ((.own 0 0 1),[(.cells 3 (.rL .i64 [x2,x3,x6]) true)])) (some ((.own 0 0 1),[(.cells 2 (.rL .i64 [x2,x3]) true)]))))) (cond (decide ((↑x4.length:Int) > (0:Int))) (cond (decide ((↑x5.length:Int) > (0:Int))) (cond (decide ((↑x6.length:Int) > (0:Int))) (some ((.own 0 0 1),[(.cells 4 (.rL .i64 [x2,x4,x5,x6]) true)])) (some ((.own 0 0 1),[(.cells 3 (.rL .i64 [x2,x4,x5]) true)]))) (cond (decide ((↑x6.length:Int) > (0:Int))) (some ((.own 0 0 1),[(.cells 3 (.rL .i64 [x2,x4,x6]) true)])) (some ((.own 0 0 1),[(.cells 2 (.rL .i64 [x2,x4]) true)])))) (cond (decide ((↑x5.length:Int) > (0:Int))) (cond (decide ((↑x6.length:Int) > (0:Int))) (some ((.own 0 0 1),[(.cells 3 (.rL .i64 [x2,x5,x6]) true)])) (some ((.own 0 0 1),[(.cells 2 (.rL .i64 [x2,x5]) true)]))) (cond (decide ((↑x6.length:Int) > (0:Int))) (some ((.own 0 0 1),[(.cells 2 (.rL .i64 [x2,x6]) true)])) (some ((.own 0 0 1),[(.cells 1 (.rL .i64 [x2]) true)])))))) (cond (decide ((↑x3.length:Int) > (0:Int))) (cond (decide ((↑x4.length:Int) > (0:Int))) (cond (decide ((↑x5.length:Int) > (0:Int))) (cond (decide ((↑x6.length:Int) > (0:Int))) (some ((.own 0 0 1),[(.cells 4 (.rL .i64 [x3,x4,x5,x6]) true)])) (some ((.own 0 0 1),[(.cells 3 (.rL .i64 [x3,x4,x5]) true)]))) (cond (decide ((↑x6.length:Int) > (0:Int))) (some ((.own 0 0 1),[(.cells 3 (.rL .i64 [x3,x4,x6]) true)])) (some ((.own 0 0 1),[(.cells 2 (.rL .i64 [x3,x4]) true)])))) (cond (decide ((↑x5.length:Int) > (0:Int))) (cond (decide ((↑x6.length:Int) > (0:Int))) (some ((.own 0 0 1),[(.cells 3 (.rL .i64 [x3,x5,x6]) true)])) (some ((.own 0 0 1),[(.cells 2 (.rL .i64 [x3,x5]) true)]))) (cond (decide ((↑x6.length:Int) > (0:Int))) (some ((.own 0 0 1),[(.cells 2 (.rL .i64 [x3,x6]) true)])) (some ((.own 0 0 1),[(.cells 1 (.rL .i64 [x3]) true)]))))) (cond (decide ((↑x4.length:Int) > (0:Int))) (cond (decide ((↑x5.length:Int) > (0:Int))) (cond (decide ((↑x6.length:Int) > (0:Int))) (some ((.own 0 0 1),[(.cells 3 (.rL .i64 [x4,x5,x6]) true)])) (some ((.own 0 0 1),[(.cells 2 (.rL .i64 [x4,x5]) true)]))) (cond (decide ((↑x6.length:Int) > (0:Int))) (some ((.own 0 0 1),[(.cells 2 (.rL .i64 [x4,x6]) true)])) (some ((.own 0 0 1),[(.cells 1 (.rL .i64 [x4]) true)])))) (cond (decide ((↑x5.length:Int) > (0:Int))) (cond (decide ((↑x6.length:Int) > (0:Int))) (some ((.own 0 0 1),[(.cells 2 (.rL .i64 [x5,x6]) true)])) (some ((.own 0 0 1),[(.cells 1 (.rL .i64 [x5]) true)]))) (cond (decide ((↑x6.length:Int) > (0:Int))) (some ((.own 0 0 1),[(.cells 1 (.rL .i64 [x6]) true)])) (some ((.own 0 0 1),[(.cells 0 (.rL .i64 []) true)]))))))))
theorem f11b_8_eq(F:Nat):∀ v,XAf11b F (bp Try.f11 15) (ef11bj4 v) Kf4=f11b_8 F v:=by
 rintro⟨x1,x2,x3,x4,x5,x6⟩;kernel_rfl
def f11b_9(F:Nat):Ty2→Rz:=fun v=>f11b_7 F (f11b_8 F) v
theorem f11b_9_eq(F:Nat):∀ v,XAf11b F (bp Try.f11 7) (ef11bj2 v) Kf4=f11b_9 F v:=
 seq_cut (by kernel_rfl) (by kernel_rfl) ef11bj2 ef11bj4 _ (fun k=>f11b_7 F k) (f11b_8 F)
  (fun Rf11bj4=>f11b_7_eq F Rf11bj4) (f11b_8_eq F)
def f11b_10(F:Nat):Li×Int→Rz:=fun v=>f11b_2 F (f11b_9 F) v
theorem f11b_10_eq(F:Nat):∀ v,XAf11b F (bp Try.f11 3) (ef11bj1 v) Kf4=f11b_10 F v:=
 seq_cut (by kernel_rfl) (by kernel_rfl) ef11bj1 ef11bj2 _ (fun k=>f11b_2 F k) (f11b_9 F)
  (fun Rf11bj2=>f11b_2_eq F Rf11bj2) (f11b_9_eq F)
def f11b_11(F:Nat):Li×Int→Rz:=fun v=>f11b_1 F (f11b_10 F) v
theorem f11b_11_eq(F:Nat):∀ v,XAf11b F (sub (bodyOf Try.f11) []) (ef11b_a v) Kf4=f11b_11 F v:=
 seq_cut (by kernel_rfl) (by kernel_rfl) ef11b_a ef11bj1 _ (fun k=>f11b_1 F k) (f11b_10 F)
  (fun Rf11bj1=>f11b_1_eq F Rf11bj1) (f11b_10_eq F)
def f11b(F:Nat):Li×Int→Rz:=f11b_11 F
theorem f11b_body(F:Nat)(a0:List Int)(a1:Int):abody VG3811 (Af11b F) Try.f11 [(.vs (.rI .i64 a0) 0 1),.int .i64 a1,.int .i64 6] []=f11b F (a0,a1):=
 (abody_in (c:=(sub (bodyOf Try.f11) [])) (by kernel_rfl) (s:=ef11b_a (a0,a1)) (by kernel_rfl)).trans (f11b_11_eq F (a0,a1))
def r11:CRun:=fun X H=>match X,H with
 | [(.vs (.rI .i64 a0) 0 1),.int .i64 a1,.int .i64 4],[]=>some (((decide (0≤a1))&&(decide (Int.toNat a1 < 1073741000))),.own 0 0 1,[(.cells (Reg.groups a0 (Int.toNat a1) 4).length (.rL .i64 (Reg.groups a0 (Int.toNat a1) 4)) true)])
 | [(.vs (.rI .i64 a0) 0 1),.int .i64 a1,.int .i64 6],[]=>some (((decide (0≤a1))&&(decide (Int.toNat a1 < 1073741000))),.own 0 0 1,[(.cells (Reg.groups a0 (Int.toNat a1) 6).length (.rL .i64 (Reg.groups a0 (Int.toNat a1) 6)) true)])
 | _,_=>none
theorem s11(a0:List Int)(a1:Int)(hp:(((decide (0≤a1))&&(decide (Int.toNat a1 < 1073741000))))=true)(h0:okV (.vs (.rI .i64 a0) 0 1))(h1:okV (.int .i64 a1))(h2:okV (.int .i64 4)):∃ F,f11 F (a0,a1)=some ((.own 0 0 1),[(.cells (Reg.groups a0 (Int.toNat a1) 4).length (.rL .i64 (Reg.groups a0 (Int.toNat a1) 4)) true)]):=by
 simp only [Bool.and_eq_true,decide_eq_true_eq] at hp
 obtain⟨n,rfl⟩:∃ n:Nat,a1=(n:Int):=⟨a1.toNat,by omega⟩
 rw [Int.toNat_natCast]
 refine⟨n+1,?_⟩
 simp only [f11,f11_11,f11_1,f11_10,f11_2,f11_9,f11_7,f11_3,f11_6,f11_5,f11_5_i]
 refine loopN_from (fun i=>(a0,(n:Int)-1-(i:Int),Reg.cls a0 5 n i 0,Reg.cls a0 5 n i 1,Reg.cls a0 5 n i 2,Reg.cls a0 5 n i 3)) n ?_ (fun i hi k=>?_) (fun k=>?_) _ (by omega)
 ·rw [i64w (by omega) (by omega)];simp [Reg.cls]
 ·have l0:=Reg.cls_len a0 5 n i 0
  have l1:=Reg.cls_len a0 5 n i 1
  have l2:=Reg.cls_len a0 5 n i 2
  have l3:=Reg.cls_len a0 5 n i 3
  have hr:=Reg.at_lt (l:=a0) (i:=(n:Int)-1-(i:Int)) (m:=5) (by omega)
  simp only [f11_4,Reg.cls_succ]
  rw [cond_pos (by omega),cond_pos (by omega),i64w (by omega) (by omega)]
  have e:(n:Int)-1-(i:Int)-1=(n:Int)-1-((i+1:Nat):Int):=by omega
  rw [e]
  generalize Reg.at_ a0 ((n:Int)-1-(i:Int)) 5=q at hr ⊢
  by_cases h4:q < 4
  ·rw [cond_pos h4]
   by_cases q0:q=0
   ·subst q0;rw [cond_pos rfl,cond_pos (by omega)];simp
   rw [cond_neg q0]
   by_cases q1:q=1
   ·subst q1;rw [cond_pos rfl,cond_pos (by omega)];simp
   rw [cond_neg q1]
   by_cases q2:q=2
   ·subst q2;rw [cond_pos rfl,cond_pos (by omega)];simp
   rw [cond_neg q2]
   have q3:q=3:=by omega
   subst q3;rw [cond_pos rfl,cond_pos (by omega)];simp
  ·rw [cond_neg h4,if_neg (by omega),if_neg (by omega),if_neg (by omega),if_neg (by omega)]
   simp
 ·simp only [f11_4]
  rw [cond_neg (by omega)]
  simp only [f11_8,Reg.groups,List.range_succ,List.range_zero,List.nil_append,List.cons_append,List.map_cons,List.map_nil]
  have z0:(((0:Nat):Int))=0:=rfl
  have z1:(((1:Nat):Int))=1:=rfl
  have z2:(((2:Nat):Int))=2:=rfl
  have z3:(((3:Nat):Int))=3:=rfl
  have z4:(((4:Nat):Int))+1=5:=rfl
  rw [z0,z1,z2,z3,z4]
  generalize Reg.cls a0 5 n n 0=x0
  generalize Reg.cls a0 5 n n 1=x1
  generalize Reg.cls a0 5 n n 2=x2
  generalize Reg.cls a0 5 n n 3=x3
  have e:∀ x:List Int,decide ((x.length:Int) > 0)=decide (0 < x.length):=fun x=>by rw [Bool.eq_iff_iff];simp only [decide_eq_true_eq];omega
  simp only [e,List.filter_cons,List.filter_nil]
  generalize decide (0 < x0.length)=b0
  generalize decide (0 < x1.length)=b1
  generalize decide (0 < x2.length)=b2
  generalize decide (0 < x3.length)=b3
  cases b0 <;> cases b1 <;> cases b2 <;> cases b3 <;> rfl
theorem s11b(a0:List Int)(a1:Int)(hp:(((decide (0≤a1))&&(decide (Int.toNat a1 < 1073741000))))=true)(h0:okV (.vs (.rI .i64 a0) 0 1))(h1:okV (.int .i64 a1))(h2:okV (.int .i64 6)):∃ F,f11b F (a0,a1)=some ((.own 0 0 1),[(.cells (Reg.groups a0 (Int.toNat a1) 6).length (.rL .i64 (Reg.groups a0 (Int.toNat a1) 6)) true)]):=by
 simp only [Bool.and_eq_true,decide_eq_true_eq] at hp
 obtain⟨n,rfl⟩:∃ n:Nat,a1=(n:Int):=⟨a1.toNat,by omega⟩
 rw [Int.toNat_natCast]
 refine⟨n+1,?_⟩
 simp only [f11b,f11b_11,f11b_1,f11b_10,f11b_2,f11b_9,f11b_7,f11b_3,f11b_6,f11b_5,f11b_5_i]
 refine loopN_from (fun i=>(a0,(n:Int)-1-(i:Int),Reg.cls a0 7 n i 0,Reg.cls a0 7 n i 1,Reg.cls a0 7 n i 2,Reg.cls a0 7 n i 3,Reg.cls a0 7 n i 4,Reg.cls a0 7 n i 5)) n ?_ (fun i hi k=>?_) (fun k=>?_) _ (by omega)
 ·rw [i64w (by omega) (by omega)];simp [Reg.cls]
 ·have l0:=Reg.cls_len a0 7 n i 0
  have l1:=Reg.cls_len a0 7 n i 1
  have l2:=Reg.cls_len a0 7 n i 2
  have l3:=Reg.cls_len a0 7 n i 3
  have l4:=Reg.cls_len a0 7 n i 4
  have l5:=Reg.cls_len a0 7 n i 5
  have hr:=Reg.at_lt (l:=a0) (i:=(n:Int)-1-(i:Int)) (m:=7) (by omega)
  simp only [f11b_4,Reg.cls_succ]
  rw [cond_pos (by omega),cond_pos (by omega),i64w (by omega) (by omega)]
  have e:(n:Int)-1-(i:Int)-1=(n:Int)-1-((i+1:Nat):Int):=by omega
  rw [e]
  generalize Reg.at_ a0 ((n:Int)-1-(i:Int)) 7=q at hr ⊢
  by_cases h4:q < 6
  ·rw [cond_pos h4]
   by_cases q0:q=0
   ·subst q0;rw [cond_pos rfl,cond_pos (by omega)];simp
   rw [cond_neg q0]
   by_cases q1:q=1
   ·subst q1;rw [cond_pos rfl,cond_pos (by omega)];simp
   rw [cond_neg q1]
   by_cases q2:q=2
   ·subst q2;rw [cond_pos rfl,cond_pos (by omega)];simp
   rw [cond_neg q2]
   by_cases q3:q=3
   ·subst q3;rw [cond_pos rfl,cond_pos (by omega)];simp
   rw [cond_neg q3]
   by_cases q4:q=4
   ·subst q4;rw [cond_pos rfl,cond_pos (by omega)];simp
   rw [cond_neg q4]
   have q5:q=5:=by omega
   subst q5;rw [cond_pos rfl,cond_pos (by omega)];simp
  ·rw [cond_neg h4,if_neg (by omega),if_neg (by omega),if_neg (by omega),if_neg (by omega),if_neg (by omega),if_neg (by omega)]
   simp
 ·simp only [f11b_4]
  rw [cond_neg (by omega)]
  simp only [f11b_8,Reg.groups,List.range_succ,List.range_zero,List.nil_append,List.cons_append,List.map_cons,List.map_nil]
  have z0:(((0:Nat):Int))=0:=rfl
  have z1:(((1:Nat):Int))=1:=rfl
  have z2:(((2:Nat):Int))=2:=rfl
  have z3:(((3:Nat):Int))=3:=rfl
  have z4:(((4:Nat):Int))=4:=rfl
  have z5:(((5:Nat):Int))=5:=rfl
  have z6:(((6:Nat):Int))+1=7:=rfl
  rw [z0,z1,z2,z3,z4,z5,z6]
  generalize Reg.cls a0 7 n n 0=x0
  generalize Reg.cls a0 7 n n 1=x1
  generalize Reg.cls a0 7 n n 2=x2
  generalize Reg.cls a0 7 n n 3=x3
  generalize Reg.cls a0 7 n n 4=x4
  generalize Reg.cls a0 7 n n 5=x5
  have e:∀ x:List Int,decide ((x.length:Int) > 0)=decide (0 < x.length):=fun x=>by rw [Bool.eq_iff_iff];simp only [decide_eq_true_eq];omega
  simp only [e,List.filter_cons,List.filter_nil]
  generalize decide (0 < x0.length)=b0
  generalize decide (0 < x1.length)=b1
  generalize decide (0 < x2.length)=b2
  generalize decide (0 < x3.length)=b3
  generalize decide (0 < x4.length)=b4
  generalize decide (0 < x5.length)=b5
  cases b0 <;> cases b1 <;> cases b2 <;> cases b3 <;> cases b4 <;> cases b5 <;> rfl
theorem c11:CallOk Try.prog G38 11 r11:=callOk_of (V:=VG3811) mixed tys eVG3811 (f:=11) (fn:=Try.f11) Try.func11 (by kernel_rfl) (c:=sub (bodyOf Try.f11) []) (by kernel_rfl) (by
 intro X H r H' h hX hH
 unfold r11 at h;split at h <;> try contradiction
 ·simp only [Option.some.injEq,Prod.mk.injEq] at h
  obtain⟨hp,rfl,rfl⟩:=h
  obtain⟨F,hF⟩:=s11 _ _ hp (hX _ (.head _)) (hX _ (.tail _ (.head _))) (hX _ (.tail _ (.tail _ (.head _))))
  exact⟨Af11 F,(f11_body F _ _).trans hF⟩
 ·simp only [Option.some.injEq,Prod.mk.injEq] at h
  obtain⟨hp,rfl,rfl⟩:=h
  obtain⟨F,hF⟩:=s11b _ _ hp (hX _ (.head _)) (hX _ (.tail _ (.head _))) (hX _ (.tail _ (.tail _ (.head _))))
  exact⟨Af11b F,(f11b_body F _ _).trans hF⟩)
def lVG3812:List CEnt:=[(36,[some 3,none,none],r36)]
def VG3812:Env:=mkEnv T38 G38 lVG3812
noncomputable abbrev Kf5:=kFin VG3812 (some [(6,.own 3)]) (Try.f12).results.toList
theorem eVG3812:EOk Try.prog VG3812:=eok_mk (by exact⟨c36,trivial⟩)
def Af12(F:Nat):Cuts:={ F:=F,at_:=fun n=>match n with | 3010=>some sp4 | _=>none,join:=fun n=>match n with | 1020=>some sp1 | 2018=>some sp2 | 3012=>some sp5 | 6003=>some [(7,.plain)] | _=>none,fin:=(some [(6,.own 3)]) }
noncomputable abbrev XAf12(F:Nat){α:Type}:=@aexec α VG3812 (Af12 F)
def ef12_a:Li×Int×Int→St:=fun (a0,a1,a2)=>⟨[(0,(.vs (.rI .i64 a0) 0 1)),(1,.int .i64 a1),(2,.int .i64 a2)],[],0,24,0⟩
def ef12j1:Li×Int×Int→St:=fun (t0,t1,t2)=>⟨[(0,(.vs (.rI .i64 t0) 0 1)),(1,.int .i64 t1),(2,.int .i64 t2)],[],0,24,0⟩
def ef12j2:Li×Int×Int→St:=fun (t0,t1,t2)=>⟨[(0,(.vs (.rI .i64 t0) 0 1)),(1,.int .i64 t1),(2,.int .i64 t2),(7,.ns)],[],0,24,0⟩
def ef12j3:Ty4→St:=fun (t0,t1,t2,t8)=>⟨[(0,(.vs (.rI .i64 t0) 0 1)),(1,.int .i64 t1),(2,.int .i64 t2),(7,.ns),(8,.int .i64 t8)],[],0,24,0⟩
def ef12l1:Ty5→St:=fun (t0,t1,t2,t8,x5)=>⟨[(0,(.vs (.rI .i64 t0) 0 1)),(1,.int .i64 t1),(2,.int .i64 t2),(7,.own 0 0 1),(8,.int .i64 t8)],[(0,(.cells x5.length (.rI .i64 x5) true))],1,24,0⟩
def ef12j4:Li→St:=fun x1=>⟨[(7,.own 0 0 1)],[(0,(.cells x1.length (.rI .i64 x1) true))],1,24,0⟩
def f12_1(F:Nat)(kf12j1:Li×Int×Int→Rz):Li×Int×Int→Rz:=fun (a0,a1,a2)=>(kf12j1 (a0,a1,a2))
theorem f12_1_eq(F:Nat)(Rf12j1:St→Rz):∀ v,XAf12 F (bp Try.f12 2) (ef12_a v) (kSeq (kc VG3812 Rf12j1 sp1) Kf5)=f12_1 F (Rf12j1∘ef12j1) v:=by
 rintro⟨a0,a1,a2⟩;kernel_rfl
def f12_2(F:Nat)(kf12j2:Li×Int×Int→Rz):Li×Int×Int→Rz:=fun (t0,t1,t2)=>(kf12j2 (t0,t1,t2))
theorem f12_2_eq(F:Nat)(Rf12j2:St→Rz):∀ v,XAf12 F (bp Try.f12 6) (ef12j1 v) (kSeq (kc VG3812 Rf12j2 sp2) Kf5)=f12_2 F (Rf12j2∘ef12j2) v:=by
 rintro⟨t0,t1,t2⟩;kernel_rfl
def f12_3(F:Nat)(kf12j3:Ty4→Rz)(kf12j4:Li→Rz):Li×Int×Int→Rz:=fun (t0,t1,t2)=>(kf12j3 (t0,t1,t2,(0:Int)))
theorem f12_3_eq(F:Nat)(Rf12j3:St→Rz)(Rf12j4:St→Rz):∀ v,XAf12 F (bp Try.f12 28) (ef12j2 v) (kSeq (kc VG3812 Rf12j3 sp5) (kSeq (kc VG3812 Rf12j4 [(7,.plain)]) Kf5))=f12_3 F (Rf12j3∘ef12j3) (Rf12j4∘ef12j4) v:=by
 rintro⟨t0,t1,t2⟩;kernel_rfl
def f12_4(F:Nat)(kf12l1:Ty5→Rz)(kf12j4:Li→Rz):Ty5→Rz:=fun (t0,t1,t2,t8,x5)=>(cond (decide (t8 < t1)) (cond (decide (0 < (IntKind.i64.wrap (t2+(1:Int))))) (cond (decide ((x5.length+1) < 1073741824)) (kf12l1 (t0,t1,t2,(IntKind.i64.wrap (t8+(1:Int))),(x5++[(IntKind.i64.wrap ((Reg.at_ t0 t8 (IntKind.i64.wrap (t2+(1:Int))))-(1:Int)))]))) none) none) (kf12j4 x5))
theorem f12_4_eq(F:Nat)(Rf12l1:St→Rz)(Rf12j4:St→Rz):∀ v,XAf12 F (bp Try.f12 116) (ef12l1 v) (kSeq (kc VG3812 Rf12l1 sp4) (kBlock 0 (kSeq (kc VG3812 Rf12j4 [(7,.plain)]) Kf5)))=f12_4 F (Rf12l1∘ef12l1) (Rf12j4∘ef12j4) v:=by
 rintro⟨t0,t1,t2,t8,x5⟩;kernel_rfl
def f12_5_i:Ty4→Li×Int×Int×Int×Li:=fun (t0,t1,t2,t8)=>(t0,t1,t2,t8,[])
def f12_5(F:Nat)(kf12j4:Li→Rz):Ty4→Rz:=fun v=>loopN (fun k=>f12_4 F k kf12j4) F (f12_5_i v)
theorem f12_5_eq(F:Nat)(Rf12j4:St→Rz):∀ v,XAf12 F (bp Try.f12 58) (ef12j3 v) (kBlock 0 (kSeq (kc VG3812 Rf12j4 [(7,.plain)]) Kf5))=f12_5 F (Rf12j4∘ef12j4) v:=
 loop_cut (by kernel_rfl) (by kernel_rfl) ef12j3 ef12l1 _ f12_5_i (fun k=>f12_4 F k (Rf12j4∘ef12j4))
  (by rintro⟨t0,t1,t2,t8⟩;kernel_rfl) (fun Rf12l1=>f12_4_eq F Rf12l1 Rf12j4)
def f12_6(F:Nat)(kf12j4:Li→Rz):Ty4→Rz:=f12_5 F kf12j4
theorem f12_6_eq(F:Nat)(Rf12j4:St→Rz):∀ v,XAf12 F (bp Try.f12 29) (ef12j3 v) (kSeq (kc VG3812 Rf12j4 [(7,.plain)]) Kf5)=f12_6 F (Rf12j4∘ef12j4) v:=fun v=>
 (block_in  (by kernel_rfl) _ _).trans (f12_5_eq F Rf12j4 v)
def f12_7(F:Nat)(kf12j4:Li→Rz):Li×Int×Int→Rz:=fun v=>f12_3 F (f12_6 F kf12j4) kf12j4 v
theorem f12_7_eq(F:Nat)(Rf12j4:St→Rz):∀ v,XAf12 F (bp Try.f12 14) (ef12j2 v) (kSeq (kc VG3812 Rf12j4 [(7,.plain)]) Kf5)=f12_7 F (Rf12j4∘ef12j4) v:=
 seq_cut (by kernel_rfl) (by kernel_rfl) ef12j2 ef12j3 _ (fun k=>f12_3 F k (Rf12j4∘ef12j4)) (f12_6 F (Rf12j4∘ef12j4))
  (fun Rf12j3=>f12_3_eq F Rf12j3 Rf12j4) (f12_6_eq F Rf12j4)
def f12_8(F:Nat):Li→Rz:=fun x1=>(some ((.own 0 0 1),[(.cells x1.length (.rI .i64 x1) true)]))
theorem f12_8_eq(F:Nat):∀ v,XAf12 F (bp Try.f12 15) (ef12j4 v) Kf5=f12_8 F v:=by
 intro x1;kernel_rfl
def f12_9(F:Nat):Li×Int×Int→Rz:=fun v=>f12_7 F (f12_8 F) v
theorem f12_9_eq(F:Nat):∀ v,XAf12 F (bp Try.f12 7) (ef12j2 v) Kf5=f12_9 F v:=
 seq_cut (by kernel_rfl) (by kernel_rfl) ef12j2 ef12j4 _ (fun k=>f12_7 F k) (f12_8 F)
  (fun Rf12j4=>f12_7_eq F Rf12j4) (f12_8_eq F)
def f12_10(F:Nat):Li×Int×Int→Rz:=fun v=>f12_2 F (f12_9 F) v
theorem f12_10_eq(F:Nat):∀ v,XAf12 F (bp Try.f12 3) (ef12j1 v) Kf5=f12_10 F v:=
 seq_cut (by kernel_rfl) (by kernel_rfl) ef12j1 ef12j2 _ (fun k=>f12_2 F k) (f12_9 F)
  (fun Rf12j2=>f12_2_eq F Rf12j2) (f12_9_eq F)
def f12_11(F:Nat):Li×Int×Int→Rz:=fun v=>f12_1 F (f12_10 F) v
theorem f12_11_eq(F:Nat):∀ v,XAf12 F (sub (bodyOf Try.f12) []) (ef12_a v) Kf5=f12_11 F v:=
 seq_cut (by kernel_rfl) (by kernel_rfl) ef12_a ef12j1 _ (fun k=>f12_1 F k) (f12_10 F)
  (fun Rf12j1=>f12_1_eq F Rf12j1) (f12_10_eq F)
def f12(F:Nat):Li×Int×Int→Rz:=f12_11 F
theorem f12_body(F:Nat)(a0:List Int)(a1:Int)(a2:Int):abody VG3812 (Af12 F) Try.f12 [(.vs (.rI .i64 a0) 0 1),.int .i64 a1,.int .i64 a2] []=f12 F (a0,a1,a2):=
 (abody_in (c:=(sub (bodyOf Try.f12) [])) (by kernel_rfl) (s:=ef12_a (a0,a1,a2)) (by kernel_rfl)).trans (f12_11_eq F (a0,a1,a2))
def r12:CRun:=fun X H=>match X,H with
 | [(.vs (.rI .i64 a0) 0 1),.int .i64 a1,.int .i64 a2],[]=>some ((((decide (0≤a1))&&(decide (Int.toNat a1 < 1073741000)))&&((decide (0≤a2))&&(decide (Int.toNat a2 < 1073741000)))),.own 0 0 1,[(.cells (Reg.owners a0 (Int.toNat a1) a2).length (.rI .i64 (Reg.owners a0 (Int.toNat a1) a2)) true)])
 | _,_=>none
theorem s12(a0:List Int)(a1:Int)(a2:Int)(hp:((((decide (0≤a1))&&(decide (Int.toNat a1 < 1073741000)))&&((decide (0≤a2))&&(decide (Int.toNat a2 < 1073741000)))))=true)(h0:okV (.vs (.rI .i64 a0) 0 1))(h1:okV (.int .i64 a1))(h2:okV (.int .i64 a2)):∃ F,f12 F (a0,a1,a2)=some ((.own 0 0 1),[(.cells (Reg.owners a0 (Int.toNat a1) a2).length (.rI .i64 (Reg.owners a0 (Int.toNat a1) a2)) true)]):=by
 simp only [Bool.and_eq_true,decide_eq_true_eq] at hp
 obtain⟨n,rfl⟩:∃ n:Nat,a1=(n:Int):=⟨a1.toNat,by omega⟩
 rw [Int.toNat_natCast]
 refine⟨n+1,?_⟩
 simp only [f12,f12_11,f12_1,f12_10,f12_2,f12_9,f12_7,f12_3,f12_6,f12_5,f12_5_i]
 refine loopN_from (fun i=>(a0,(n:Int),a2,(i:Int),Reg.owners a0 i a2)) n (by rfl) (fun i hi k=>?_) (fun k=>?_) _ (by omega)
 ·have hr:=Reg.at_lt (l:=a0) (i:=(i:Int)) (m:=a2+1) (by omega)
  simp only [f12_4]
  rw [cond_pos (by omega),i64w (x:=a2+1) (by omega) (by omega),cond_pos (by omega),cond_pos (by simp [Reg.owners];omega),i64w (x:=(i:Int)+1) (by omega) (by omega),i64w (by omega) (by omega)]
  simp [Reg.owners,List.range_succ]
 ·simp only [f12_4]
  rw [cond_neg (by omega)]
  rfl
theorem c12:CallOk Try.prog G38 12 r12:=callOk_of (V:=VG3812) mixed tys eVG3812 (f:=12) (fn:=Try.f12) Try.func12 (by kernel_rfl) (c:=sub (bodyOf Try.f12) []) (by kernel_rfl) (by
 intro X H r H' h hX hH
 unfold r12 at h;split at h <;> try contradiction
 ·simp only [Option.some.injEq,Prod.mk.injEq] at h
  obtain⟨hp,rfl,rfl⟩:=h
  obtain⟨F,hF⟩:=s12 _ _ _ hp (hX _ (.head _)) (hX _ (.tail _ (.head _))) (hX _ (.tail _ (.tail _ (.head _))))
  exact⟨Af12 F,(f12_body F _ _ _).trans hF⟩)
def lVG3813:List CEnt:=[(10,[none,none],r10)]
def VG3813:Env:=mkEnv T38 G38 lVG3813
noncomputable abbrev Kf6:=kFin VG3813 (some [(4,.own 4)]) (Try.f13).results.toList
theorem eVG3813:EOk Try.prog VG3813:=eok_mk (by exact⟨c10,trivial⟩)
def Af13(F:Nat):Cuts:={ F:=F,at_:=fun n=>match n with | 4012=>some sp6 | _=>none,join:=fun n=>match n with | 1024=>some sp7 | 2022=>some [(1,.plain),(5,.plain)] | 3020=>some sp8 | 4014=>some sp9 | 8003=>some [(6,.plain)] | _=>none,fin:=(some [(4,.own 4)]) }
noncomputable abbrev XAf13(F:Nat){α:Type}:=@aexec α VG3813 (Af13 F)
def ef13_a:Int×Int→St:=fun (a0,a1)=>⟨[(0,.int .i64 a0),(1,.int .i64 a1)],[],0,24,0⟩
def ef13j1:Int×Int→St:=fun (t0,t1)=>⟨[(0,.int .i64 t0),(1,.int .i64 t1)],[],0,24,0⟩
def ef13j2:Int×Int→St:=fun (t1,t5)=>⟨[(1,.int .i64 t1),(5,.int .i64 t5)],[],0,24,0⟩
def ef13j3:Int×Int→St:=fun (t1,t5)=>⟨[(1,.int .i64 t1),(5,.int .i64 t5),(6,.ns)],[],0,24,0⟩
def ef13j4:Int×Int×Int→St:=fun (t1,t5,t7)=>⟨[(1,.int .i64 t1),(5,.int .i64 t5),(6,.ns),(7,.int .i64 t7)],[],0,24,0⟩
def ef13l1:Ty6→St:=fun (t1,t5,t7,x4)=>⟨[(1,.int .i64 t1),(5,.int .i64 t5),(6,.own 0 0 1),(7,.int .i64 t7)],[(0,(.cells x4.length (.rB x4) true))],1,24,0⟩
def ef13j5:(List Bool)→St:=fun x1=>⟨[(6,.own 0 0 1)],[(0,(.cells x1.length (.rB x1) true))],1,24,0⟩
def f13_1(F:Nat)(kf13j1:Int×Int→Rz):Int×Int→Rz:=fun (a0,a1)=>(kf13j1 (a0,a1))
theorem f13_1_eq(F:Nat)(Rf13j1:St→Rz):∀ v,XAf13 F (bp Try.f13 2) (ef13_a v) (kSeq (kc VG3813 Rf13j1 sp7) Kf6)=f13_1 F (Rf13j1∘ef13j1) v:=by
 rintro⟨a0,a1⟩;kernel_rfl
def f13_2(F:Nat)(kf13j2:Int×Int→Rz):Int×Int→Rz:=fun (t0,t1)=>(cond (decide (0 < (64:Int))) (kf13j2 (t1,(Reg.around t0 (64:Int)))) none)
theorem f13_2_eq(F:Nat)(Rf13j2:St→Rz):∀ v,XAf13 F (bp Try.f13 6) (ef13j1 v) (kSeq (kc VG3813 Rf13j2 [(1,.plain),(5,.plain)]) Kf6)=f13_2 F (Rf13j2∘ef13j2) v:=by
 rintro⟨t0,t1⟩;kernel_rfl
def f13_3(F:Nat)(kf13j3:Int×Int→Rz):Int×Int→Rz:=fun (t1,t5)=>(kf13j3 (t1,t5))
theorem f13_3_eq(F:Nat)(Rf13j3:St→Rz):∀ v,XAf13 F (bp Try.f13 14) (ef13j2 v) (kSeq (kc VG3813 Rf13j3 sp8) Kf6)=f13_3 F (Rf13j3∘ef13j3) v:=by
 rintro⟨t1,t5⟩;kernel_rfl
def f13_4(F:Nat)(kf13j4:Int×Int×Int→Rz)(kf13j5:(List Bool)→Rz):Int×Int→Rz:=fun (t1,t5)=>(kf13j4 (t1,t5,(0:Int)))
theorem f13_4_eq(F:Nat)(Rf13j4:St→Rz)(Rf13j5:St→Rz):∀ v,XAf13 F (bp Try.f13 60) (ef13j3 v) (kSeq (kc VG3813 Rf13j4 sp9) (kSeq (kc VG3813 Rf13j5 [(6,.plain)]) Kf6))=f13_4 F (Rf13j4∘ef13j4) (Rf13j5∘ef13j5) v:=by
 rintro⟨t1,t5⟩;kernel_rfl
def f13_5(F:Nat)(kf13l1:Ty6→Rz)(kf13j5:(List Bool)→Rz):Ty6→Rz:=fun (t1,t5,t7,x4)=>(cond (decide (t7 < t1)) (cond (decide ((x4.length+1) < 1073741824)) (kf13l1 (t1,(IntKind.i64.wrap (Int.tdiv t5 (2:Int))),(IntKind.i64.wrap (t7+(1:Int))),(x4++[((Int.tmod t5 (2:Int))==(0:Int))]))) none) (kf13j5 x4))
theorem f13_5_eq(F:Nat)(Rf13l1:St→Rz)(Rf13j5:St→Rz):∀ v,XAf13 F (bp Try.f13 244) (ef13l1 v) (kSeq (kc VG3813 Rf13l1 sp6) (kBlock 0 (kSeq (kc VG3813 Rf13j5 [(6,.plain)]) Kf6)))=f13_5 F (Rf13l1∘ef13l1) (Rf13j5∘ef13j5) v:=by
 rintro⟨t1,t5,t7,x4⟩;kernel_rfl
def f13_6_i:Int×Int×Int→Int×Int×Int×(List Bool):=fun (t1,t5,t7)=>(t1,t5,t7,[])
def f13_6(F:Nat)(kf13j5:(List Bool)→Rz):Int×Int×Int→Rz:=fun v=>loopN (fun k=>f13_5 F k kf13j5) F (f13_6_i v)
theorem f13_6_eq(F:Nat)(Rf13j5:St→Rz):∀ v,XAf13 F (bp Try.f13 122) (ef13j4 v) (kBlock 0 (kSeq (kc VG3813 Rf13j5 [(6,.plain)]) Kf6))=f13_6 F (Rf13j5∘ef13j5) v:=
 loop_cut (by kernel_rfl) (by kernel_rfl) ef13j4 ef13l1 _ f13_6_i (fun k=>f13_5 F k (Rf13j5∘ef13j5))
  (by rintro⟨t1,t5,t7⟩;kernel_rfl) (fun Rf13l1=>f13_5_eq F Rf13l1 Rf13j5)
def f13_7(F:Nat)(kf13j5:(List Bool)→Rz):Int×Int×Int→Rz:=f13_6 F kf13j5
theorem f13_7_eq(F:Nat)(Rf13j5:St→Rz):∀ v,XAf13 F (bp Try.f13 61) (ef13j4 v) (kSeq (kc VG3813 Rf13j5 [(6,.plain)]) Kf6)=f13_7 F (Rf13j5∘ef13j5) v:=fun v=>
 (block_in  (by kernel_rfl) _ _).trans (f13_6_eq F Rf13j5 v)
def f13_8(F:Nat)(kf13j5:(List Bool)→Rz):Int×Int→Rz:=fun v=>f13_4 F (f13_7 F kf13j5) kf13j5 v
theorem f13_8_eq(F:Nat)(Rf13j5:St→Rz):∀ v,XAf13 F (bp Try.f13 30) (ef13j3 v) (kSeq (kc VG3813 Rf13j5 [(6,.plain)]) Kf6)=f13_8 F (Rf13j5∘ef13j5) v:=
 seq_cut (by kernel_rfl) (by kernel_rfl) ef13j3 ef13j4 _ (fun k=>f13_4 F k (Rf13j5∘ef13j5)) (f13_7 F (Rf13j5∘ef13j5))
  (fun Rf13j4=>f13_4_eq F Rf13j4 Rf13j5) (f13_7_eq F Rf13j5)
def f13_9(F:Nat):(List Bool)→Rz:=fun x1=>(some ((.own 0 0 1),[(.cells x1.length (.rB x1) true)]))
theorem f13_9_eq(F:Nat):∀ v,XAf13 F (bp Try.f13 31) (ef13j5 v) Kf6=f13_9 F v:=by
 intro x1;kernel_rfl
def f13_10(F:Nat):Int×Int→Rz:=fun v=>f13_8 F (f13_9 F) v
theorem f13_10_eq(F:Nat):∀ v,XAf13 F (bp Try.f13 15) (ef13j3 v) Kf6=f13_10 F v:=
 seq_cut (by kernel_rfl) (by kernel_rfl) ef13j3 ef13j5 _ (fun k=>f13_8 F k) (f13_9 F)
  (fun Rf13j5=>f13_8_eq F Rf13j5) (f13_9_eq F)
def f13_11(F:Nat):Int×Int→Rz:=fun v=>f13_3 F (f13_10 F) v
theorem f13_11_eq(F:Nat):∀ v,XAf13 F (bp Try.f13 7) (ef13j2 v) Kf6=f13_11 F v:=
 seq_cut (by kernel_rfl) (by kernel_rfl) ef13j2 ef13j3 _ (fun k=>f13_3 F k) (f13_10 F)
  (fun Rf13j3=>f13_3_eq F Rf13j3) (f13_10_eq F)
def f13_12(F:Nat):Int×Int→Rz:=fun v=>f13_2 F (f13_11 F) v
theorem f13_12_eq(F:Nat):∀ v,XAf13 F (bp Try.f13 3) (ef13j1 v) Kf6=f13_12 F v:=
 seq_cut (by kernel_rfl) (by kernel_rfl) ef13j1 ef13j2 _ (fun k=>f13_2 F k) (f13_11 F)
  (fun Rf13j2=>f13_2_eq F Rf13j2) (f13_11_eq F)
def f13_13(F:Nat):Int×Int→Rz:=fun v=>f13_1 F (f13_12 F) v
theorem f13_13_eq(F:Nat):∀ v,XAf13 F (sub (bodyOf Try.f13) []) (ef13_a v) Kf6=f13_13 F v:=
 seq_cut (by kernel_rfl) (by kernel_rfl) ef13_a ef13j1 _ (fun k=>f13_1 F k) (f13_12 F)
  (fun Rf13j1=>f13_1_eq F Rf13j1) (f13_12_eq F)
def f13(F:Nat):Int×Int→Rz:=f13_13 F
theorem f13_body(F:Nat)(a0:Int)(a1:Int):abody VG3813 (Af13 F) Try.f13 [(.int .i64 a0),.int .i64 a1] []=f13 F (a0,a1):=
 (abody_in (c:=(sub (bodyOf Try.f13) [])) (by kernel_rfl) (s:=ef13_a (a0,a1)) (by kernel_rfl)).trans (f13_13_eq F (a0,a1))
def r13:CRun:=fun X H=>match X,H with
 | [(.int .i64 a0),.int .i64 a1],[]=>some (((decide (0≤a1))&&(decide (Int.toNat a1 < 1073741000))),.own 0 0 1,[(.cells (Reg.ups a0 (Int.toNat a1)).length (.rB (Reg.ups a0 (Int.toNat a1))) true)])
 | _,_=>none
theorem s13(a0:Int)(a1:Int)(hp:(((decide (0≤a1))&&(decide (Int.toNat a1 < 1073741000))))=true)(h0:okV (.int .i64 a0))(h1:okV (.int .i64 a1)):∃ F,f13 F (a0,a1)=some ((.own 0 0 1),[(.cells (Reg.ups a0 (Int.toNat a1)).length (.rB (Reg.ups a0 (Int.toNat a1))) true)]):=by
 simp only [Bool.and_eq_true,decide_eq_true_eq] at hp
 obtain⟨n,rfl⟩:∃ n:Nat,a1=(n:Int):=⟨a1.toNat,by omega⟩
 rw [Int.toNat_natCast]
 refine⟨n+1,?_⟩
 simp only [f13,f13_13,f13_1,f13_12,f13_2,f13_11,f13_3,f13_10,f13_8,f13_4,f13_7,f13_6,f13_6_i]
 rw [cond_pos (by omega)]
 have hk:=Reg.kk_nn (Reg.around_lt (n:=a0) (m:=64) (by omega))
 refine loopN_from (fun i=>((n:Int),Reg.kk i (Reg.around a0 64),(i:Int),Reg.ups a0 i)) n (by rfl) (fun i hi k=>?_) (fun k=>?_) _ (by omega)
 ·have:=hk i
  have h2:=hk (i+1)
  simp only [Reg.kk] at h2
  simp only [f13_5]
  rw [cond_pos (by omega),cond_pos (by simp [Reg.ups];omega),i64w (x:=(i:Int)+1) (by omega) (by omega),i64w (by omega) (by omega)]
  simp [Reg.ups,Reg.kk,List.range_succ]
 ·simp only [f13_5]
  rw [cond_neg (by omega)]
  rfl
theorem c13:CallOk Try.prog G38 13 r13:=callOk_of (V:=VG3813) mixed tys eVG3813 (f:=13) (fn:=Try.f13) Try.func13 (by kernel_rfl) (c:=sub (bodyOf Try.f13) []) (by kernel_rfl) (by
 intro X H r H' h hX hH
 unfold r13 at h;split at h <;> try contradiction
 ·simp only [Option.some.injEq,Prod.mk.injEq] at h
  obtain⟨hp,rfl,rfl⟩:=h
  obtain⟨F,hF⟩:=s13 _ _ hp (hX _ (.head _)) (hX _ (.tail _ (.head _)))
  exact⟨Af13 F,(f13_body F _ _).trans hF⟩)
def f17_1(F:Nat)(kf17j1:Ty7→Rz):Ty7→Rz:=fun (a0,a1,a2)=>(kf17j1 (a0,a1,a2))
def f17_2(F:Nat)(kf17j2:Ty7→Rz):Ty7→Rz:=fun (t0,t1,t2)=>(kf17j2 (t0,t1,t2))
def f17_3(F:Nat)(kf17j3:Ty8→Rz)(kf17j4:Ty10→Rz):Ty7→Rz:=fun (t0,t1,t2)=>(kf17j3 (t0,t1,t2,(0:Int)))
def f17_4(F:Nat)(kf17l1:Ty9→Rz)(kf17j4:Ty10→Rz):Ty9→Rz:=fun (t0,t1,t2,t8,x5)=>(cond (decide (t8 < (↑t0.length:Int))) (cond ((decide (0≤t8))&&(decide (t8 < (↑t0.length:Int)))) (cond (decide ((0+(t0.getD (Int.toNat t8) []).length) < 1073741824)) (cond (decide ((x5.length+1) < 1073741824)) (kf17l1 (t0,t1,t2,(IntKind.i64.wrap (t8+(1:Int))),(x5++[([]++(t0.getD (Int.toNat t8) []))]))) none) none) none) (kf17j4 (t1,t2,x5)))
def f17_5_i:Ty8→(List Li)×Int×Int×Int×(List Li):=fun (t0,t1,t2,t8)=>(t0,t1,t2,t8,[])
def f17_5(F:Nat)(kf17j4:Ty10→Rz):Ty8→Rz:=fun v=>loopN (fun k=>f17_4 F k kf17j4) F (f17_5_i v)
def f17_6(F:Nat)(kf17j4:Ty10→Rz):Ty8→Rz:=f17_5 F kf17j4
def f17_7(F:Nat)(kf17j4:Ty10→Rz):Ty7→Rz:=fun v=>f17_3 F (f17_6 F kf17j4) kf17j4 v
def f17_8(F:Nat):Ty10→Rz:=fun (t1,t2,x3)=>(cond (decide (0 < (4:Int))) (cond ((Reg.around t1 (4:Int))==(0:Int)) (cond (decide ((x3.length+1) < 1073741824)) (some ((.own 0 0 1),[(.cells (x3++[[]]).length (.rL .i64 (x3++[[]])) true)])) none) (cond ((Reg.around t1 (4:Int))==(1:Int)) (cond (decide ((x3.length+1) < 1073741824)) (some ((.own 0 0 1),[(.cells (x3++[[t2]]).length (.rL .i64 (x3++[[t2]])) true)])) none) (cond ((Reg.around t1 (4:Int))==(2:Int)) (cond (decide ((↑x3.length:Int) > (0:Int))) (cond (decide ((0:Int) < (↑x3.length:Int))) (cond (decide ((0:Int) < (↑(x3.getD 0 []).length:Int))) (cond (decide ((x3.length+1) < 1073741824)) (some ((.own 0 0 1),[(.cells (x3++[[((x3.getD 0 []).getD 0 0)]]).length (.rL .i64 (x3++[[((x3.getD 0 []).getD 0 0)]])) true)])) none) none) none) (some ((.own 0 0 1),[(.cells x3.length (.rL .i64 x3) true)]))) (some ((.own 0 0 1),[(.cells x3.length (.rL .i64 x3) true)]))))) none)
def f17_9(F:Nat):Ty7→Rz:=fun v=>f17_7 F (f17_8 F) v
def f17_10(F:Nat):Ty7→Rz:=fun v=>f17_2 F (f17_9 F) v
def f17_11(F:Nat):Ty7→Rz:=fun v=>f17_1 F (f17_10 F) v
def f17(F:Nat):Ty7→Rz:=f17_11 F
def lVG3818:List CEnt:=[]
def VG3818:Env:=mkEnv T38 G38 lVG3818
noncomputable abbrev Kf8:=kFin VG3818 none (Try.f18).results.toList
theorem eVG3818:EOk Try.prog VG3818:=eok_mk (by exact trivial)
def Af18(F:Nat):Cuts:={ F:=F,at_:=fun n=>match n with | 4016=>some sp12 | _=>none,join:=fun n=>match n with | 1032=>some sp7 | 3024=>some sp7 | 4018=>some sp12 | 8003=>some [] | _=>none }
noncomputable abbrev XAf18(F:Nat){α:Type}:=@aexec α VG3818 (Af18 F)
def ef18_a:Li×Li→St:=fun (a0,a1)=>⟨[(0,(.vs (.rI .i64 a0) 0 1)),(1,(.vs (.rI .i64 a1) 0 1))],[],0,26,0⟩
def ef18j1:Li×Li→St:=fun (t0,t1)=>⟨[(0,(.vs (.rI .i64 t0) 0 1)),(1,(.vs (.rI .i64 t1) 0 1))],[],0,26,0⟩
def ef18j2:Li×Li→St:=ef18j1
def ef18j3:Ty11→St:=fun (t0,t1,t5)=>⟨[(0,(.vs (.rI .i64 t0) 0 1)),(1,(.vs (.rI .i64 t1) 0 1)),(5,.int .i64 t5)],[],0,26,0⟩
def ef18l1:Ty11→St:=ef18j3
def ef18j4:Unit→St:=fun _=>⟨[],[],0,26,0⟩
def f18_1(F:Nat)(kf18j1:Li×Li→Rz):Li×Li→Rz:=fun (a0,a1)=>(kf18j1 (a0,a1))
theorem f18_1_eq(F:Nat)(Rf18j1:St→Rz):∀ v,XAf18 F (bp Try.f18 2) (ef18_a v) (kSeq (kc VG3818 Rf18j1 sp7) Kf8)=f18_1 F (Rf18j1∘ef18j1) v:=by
 rintro⟨a0,a1⟩;kernel_rfl
def f18_2(F:Nat)(kf18j2:Li×Li→Rz):Li×Li→Rz:=fun (t0,t1)=>(cond ((↑t0.length:Int) != (↑t1.length:Int)) (some ((.bool false),[])) (kf18j2 (t0,t1)))
theorem f18_2_eq(F:Nat)(Rf18j2:St→Rz):∀ v,XAf18 F (bp Try.f18 6) (ef18j1 v) (kSeq (kc VG3818 Rf18j2 sp7) Kf8)=f18_2 F (Rf18j2∘ef18j2) v:=by
 rintro⟨t0,t1⟩;kernel_rfl
def f18_3(F:Nat)(kf18j3:Ty11→Rz)(kf18j4:Unit→Rz):Li×Li→Rz:=fun (t0,t1)=>(kf18j3 (t0,t1,(0:Int)))
theorem f18_3_eq(F:Nat)(Rf18j3:St→Rz)(Rf18j4:St→Rz):∀ v,XAf18 F (bp Try.f18 28) (ef18j2 v) (kSeq (kc VG3818 Rf18j3 sp12) (kSeq (kc VG3818 Rf18j4 []) Kf8))=f18_3 F (Rf18j3∘ef18j3) (Rf18j4∘ef18j4) v:=by
 rintro⟨t0,t1⟩;kernel_rfl
def f18_4(F:Nat)(kf18l1:Ty11→Rz)(kf18j4:Unit→Rz):Ty11→Rz:=fun (t0,t1,t5)=>(cond (decide (t5 < (↑t0.length:Int))) (cond ((decide (0≤t5))&&(decide (t5 < (↑t0.length:Int)))) (cond ((decide (0≤t5))&&(decide (t5 < (↑t1.length:Int)))) (cond ((t0.getD (Int.toNat t5) 0) != (t1.getD (Int.toNat t5) 0)) (some ((.bool false),[])) (kf18l1 (t0,t1,(IntKind.i64.wrap (t5+(1:Int)))))) none) none) (kf18j4 ()))
theorem f18_4_eq(F:Nat)(Rf18l1:St→Rz)(Rf18j4:St→Rz):∀ v,XAf18 F (bp Try.f18 116) (ef18l1 v) (kSeq (kc VG3818 Rf18l1 sp12) (kBlock 0 (kSeq (kc VG3818 Rf18j4 []) Kf8)))=f18_4 F (Rf18l1∘ef18l1) (Rf18j4∘ef18j4) v:=by
 rintro⟨t0,t1,t5⟩;kernel_rfl
def f18_5_i:Ty11→Li×Li×Int:=fun (t0,t1,t5)=>(t0,t1,t5)
def f18_5(F:Nat)(kf18j4:Unit→Rz):Ty11→Rz:=fun v=>loopN (fun k=>f18_4 F k kf18j4) F (f18_5_i v)
theorem f18_5_eq(F:Nat)(Rf18j4:St→Rz):∀ v,XAf18 F (bp Try.f18 58) (ef18j3 v) (kBlock 0 (kSeq (kc VG3818 Rf18j4 []) Kf8))=f18_5 F (Rf18j4∘ef18j4) v:=
 loop_cut (by kernel_rfl) (by kernel_rfl) ef18j3 ef18l1 _ f18_5_i (fun k=>f18_4 F k (Rf18j4∘ef18j4))
  (by rintro⟨t0,t1,t5⟩;kernel_rfl) (fun Rf18l1=>f18_4_eq F Rf18l1 Rf18j4)
def f18_6(F:Nat)(kf18j4:Unit→Rz):Ty11→Rz:=f18_5 F kf18j4
theorem f18_6_eq(F:Nat)(Rf18j4:St→Rz):∀ v,XAf18 F (bp Try.f18 29) (ef18j3 v) (kSeq (kc VG3818 Rf18j4 []) Kf8)=f18_6 F (Rf18j4∘ef18j4) v:=fun v=>
 (block_in  (by kernel_rfl) _ _).trans (f18_5_eq F Rf18j4 v)
def f18_7(F:Nat)(kf18j4:Unit→Rz):Li×Li→Rz:=fun v=>f18_3 F (f18_6 F kf18j4) kf18j4 v
theorem f18_7_eq(F:Nat)(Rf18j4:St→Rz):∀ v,XAf18 F (bp Try.f18 14) (ef18j2 v) (kSeq (kc VG3818 Rf18j4 []) Kf8)=f18_7 F (Rf18j4∘ef18j4) v:=
 seq_cut (by kernel_rfl) (by kernel_rfl) ef18j2 ef18j3 _ (fun k=>f18_3 F k (Rf18j4∘ef18j4)) (f18_6 F (Rf18j4∘ef18j4))
  (fun Rf18j3=>f18_3_eq F Rf18j3 Rf18j4) (f18_6_eq F Rf18j4)
def f18_8(F:Nat):Unit→Rz:=fun _=>(some ((.bool true),[]))
theorem f18_8_eq(F:Nat):∀ v,XAf18 F (bp Try.f18 15) (ef18j4 v) Kf8=f18_8 F v:=by
 intro _;kernel_rfl
def f18_9(F:Nat):Li×Li→Rz:=fun v=>f18_7 F (f18_8 F) v
theorem f18_9_eq(F:Nat):∀ v,XAf18 F (bp Try.f18 7) (ef18j2 v) Kf8=f18_9 F v:=
 seq_cut (by kernel_rfl) (by kernel_rfl) ef18j2 ef18j4 _ (fun k=>f18_7 F k) (f18_8 F)
  (fun Rf18j4=>f18_7_eq F Rf18j4) (f18_8_eq F)
def f18_10(F:Nat):Li×Li→Rz:=fun v=>f18_2 F (f18_9 F) v
theorem f18_10_eq(F:Nat):∀ v,XAf18 F (bp Try.f18 3) (ef18j1 v) Kf8=f18_10 F v:=
 seq_cut (by kernel_rfl) (by kernel_rfl) ef18j1 ef18j2 _ (fun k=>f18_2 F k) (f18_9 F)
  (fun Rf18j2=>f18_2_eq F Rf18j2) (f18_9_eq F)
def f18_11(F:Nat):Li×Li→Rz:=fun v=>f18_1 F (f18_10 F) v
theorem f18_11_eq(F:Nat):∀ v,XAf18 F (sub (bodyOf Try.f18) []) (ef18_a v) Kf8=f18_11 F v:=
 seq_cut (by kernel_rfl) (by kernel_rfl) ef18_a ef18j1 _ (fun k=>f18_1 F k) (f18_10 F)
  (fun Rf18j1=>f18_1_eq F Rf18j1) (f18_10_eq F)
def f18(F:Nat):Li×Li→Rz:=f18_11 F
theorem f18_body(F:Nat)(a0:List Int)(a1:List Int):abody VG3818 (Af18 F) Try.f18 [(.vs (.rI .i64 a0) 0 1),(.vs (.rI .i64 a1) 0 1)] []=f18 F (a0,a1):=
 (abody_in (c:=(sub (bodyOf Try.f18) [])) (by kernel_rfl) (s:=ef18_a (a0,a1)) (by kernel_rfl)).trans (f18_11_eq F (a0,a1))
def r18:CRun:=fun X H=>match X,H with
 | [(.vs (.rI .i64 a0) 0 1),(.vs (.rI .i64 a1) 0 1)],[]=>some (true,(.bool (decide (a0=a1))),[])
 | _,_=>none
theorem s18(a0:List Int)(a1:List Int)(h0:okV (.vs (.rI .i64 a0) 0 1))(h1:okV (.vs (.rI .i64 a1) 0 1)):∃ F,f18 F (a0,a1)=some ((.bool (decide (a0=a1))),[]):=by
 have hl0:=h0.2
 have hl1:=h1.2
 refine⟨a0.length+1,?_⟩
 simp only [f18,f18_11,f18_1,f18_10,f18_2,int_bne]
 by_cases hl:a0.length=a1.length
 ·rw [cond_neg (by omega)]
  simp only [f18_9,f18_7,f18_3,f18_6,f18_5,f18_5_i]
  refine loopN_ind (fun m s=>s.1=a0∧s.2.1=a1∧s.2.2=((a0.length-m:Nat):Int)∧m≤a0.length ∧ ∀ i,i < a0.length-m→a0.getD i 0=a1.getD i 0) ?_ _ a0.length _ (by omega) ⟨rfl,rfl,by simp,Nat.le_refl _,fun i hi=>by omega⟩
  rintro m ⟨t0,t1,t5⟩ k ⟨e1,e2,e3,hm,hi⟩ hk
  simp only at e1 e2 e3 hi
  subst e1;subst e2;subst e3
  simp only [f18_4,dec_and,int_bne,lst_beq,dec_not]
  cases m with
  | zero=>
   rw [cond_neg (by omega),decide_eq_true (list_eq 0 hl fun i h=>hi i (by omega))]
   rfl
  | succ m=>
   rw [Int.toNat_natCast,cond_pos (by omega),cond_pos (by omega),cond_pos (by omega)]
   by_cases he:t0.getD (t0.length-(m+1)) 0=t1.getD (t0.length-(m+1)) 0
   ·rw [cond_neg (fun h=>h he),i64w (by omega) (by omega)]
    refine hk m _ (by omega) ⟨rfl,rfl,by simp only [];omega,by omega,fun i hi'=>?_⟩
    by_cases hh:i < t0.length-(m+1)
    ·exact hi i hh
    ·rw [show i=t0.length-(m+1) by omega];exact he
   ·rw [cond_pos he,decide_eq_false (fun e=>he (by rw [e]))]
 ·rw [cond_pos (by omega),decide_eq_false (fun e=>hl (by rw [e]))]
theorem c18:CallOk Try.prog G38 18 r18:=callOk_of (V:=VG3818) mixed tys eVG3818 (f:=18) (fn:=Try.f18) Try.func18 (by kernel_rfl) (c:=sub (bodyOf Try.f18) []) (by kernel_rfl) (by
 intro X H r H' h hX hH
 unfold r18 at h;split at h <;> try contradiction
 ·simp only [Option.some.injEq,Prod.mk.injEq] at h
  obtain⟨hp,rfl,rfl⟩:=h
  obtain⟨F,hF⟩:=s18 _ _ (hX _ (.head _)) (hX _ (.tail _ (.head _)))
  exact⟨Af18 F,(f18_body F _ _).trans hF⟩)
end Go.Am
