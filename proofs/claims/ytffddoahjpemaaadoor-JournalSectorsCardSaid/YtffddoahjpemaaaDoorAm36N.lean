/- Part of a proof. -/
import Derived.Test.YtffddoahjpemaaaDoorAm36D
import Derived.Test.YtffddoahjpemaaaDoorAm36L
set_option linter.unusedSimpArgs false
set_option linter.unusedVariables false
section
namespace Go.Am
open Go Go.Proofs
abbrev sp73:List (Nat×Md):=[(0,.plain),(2,.plain),(3,.plain),(4,.plain),(5,.plain)]
abbrev sp74:List (Nat×Md):=[(0,.plain),(1,.plain),(6,.own 9),(7,.plain)]
abbrev sp75:List (Nat×Md):=[(0,.plain),(1,.plain),(6,.own 9),(7,.plain),(8,.plain),(9,.plain),(10,.plain)]
abbrev sp76:List (Nat×Md):=[(0,.plain),(1,.plain),(6,.own 9)]
abbrev sp77:List (Nat×Md):=[(0,.plain),(1,.plain),(6,.own 9),(7,.plain),(8,.plain)]
abbrev sp78:List (Nat×Md):=[(0,.plain),(1,.plain),(6,.own 9),(7,.plain),(8,.plain),(9,.plain)]
abbrev sp79:List (Nat×Md):=[(0,.plain),(1,.plain),(6,.own 9),(7,.plain),(9,.plain)]
abbrev sp80:List (Nat×Md):=[(6,.own 9)]
abbrev Ty63:=Li×Int×Int×Int×Li×Bool
abbrev Ty64:=Li×Int×Int×Int×Li×Bool×Int×Int×Int×Li×Bool
abbrev Ty65:=Li×Int×Int×Int×Int×Li×Bool×Int×Int×Int×Li×Bool
abbrev Ty66:=Li×Int×Int×Int×Int×Int×Li×Bool×Int×Int×Int×Li×Bool
abbrev Ty67:=Int×Li×(List Li)
abbrev Ty68:=Int×Li×Int×(List Li)
abbrev Ty69:=Int×Li×Int×Li×(List Li)
abbrev Ty70:=Int×Li×Int×Li×(List Li)×Li
abbrev Ty71:=Int×Li×Int×Li×Int×(List Li)×Li
abbrev Ty72:=Int×Li×Int×(List Li)×Li
def lV9:List CEnt:=[(29,[some 5],r29),(31,[none],r31)]
def V9:Env:=mkEnv T36 G37 lV9
noncomputable abbrev Kf53:=kFin V9 none (Tryd.f9).results.toList
theorem eV9:EOk Tryd.prog V9:=eok_mk (by exact⟨c29,c31.more gsub,trivial⟩)
def Af9(F:Nat):Cuts:={ F:=F,at_:=fun n=>match n with | 10016=>some sp73 | _=>none,join:=fun n=>match n with | 1052=>some sp23 | 3044=>some sp23 | 4042=>some sp2 | 6034=>some sp2 | 7032=>some sp21 | 9026=>some sp21 | 10018=>some sp73 | 14005=>some sp21 | _=>none }
noncomputable abbrev XAf9(F:Nat){α:Type}:=@aexec α V9 (Af9 F)
def ef9_a:Li→St:=fun a0=>⟨[(0,.str a0)],[],0,77,0⟩
def ef9j1:Ty63→St:=fun (t0,x2,x3,x4,x5,x6)=>⟨[(0,.str t0),(2,.ptr 0 0 5 0 0 0 5)],[(0,(.cells 5 (.segs (.cons 1 (.one (.int .i64 x2)) (.cons 1 (.one (.int .i64 x3)) (.cons 1 (.one (.int .i64 x4)) (.cons 1 (.one (.str x5)) (.cons 1 (.one (.bool x6)) .nil)))))) true))],1,77,0⟩
def ef9j2:Ty63→St:=ef9j1
def ef9j3:Ty64→St:=fun (t0,x2,x3,x4,x5,x6,x7,x8,x9,x10,x11)=>⟨[(0,.str t0),(2,.ptr 0 0 5 0 0 0 5),(3,.ptr 1 0 5 0 0 0 5)],[(0,(.cells 5 (.segs (.cons 1 (.one (.int .i64 x2)) (.cons 1 (.one (.int .i64 x3)) (.cons 1 (.one (.int .i64 x4)) (.cons 1 (.one (.str x5)) (.cons 1 (.one (.bool x6)) .nil)))))) true)),(1,(.cells 5 (.segs (.cons 1 (.one (.int .i64 x7)) (.cons 1 (.one (.int .i64 x8)) (.cons 1 (.one (.int .i64 x9)) (.cons 1 (.one (.str x10)) (.cons 1 (.one (.bool x11)) .nil)))))) true))],2,77,0⟩
def ef9j4:Ty64→St:=ef9j3
def ef9j5:Ty65→St:=fun (t0,t4,x3,x4,x5,x6,x7,x8,x9,x10,x11,x12)=>⟨[(0,.str t0),(2,.ptr 0 0 5 0 0 0 5),(3,.ptr 1 0 5 0 0 0 5),(4,.int .i64 t4)],[(0,(.cells 5 (.segs (.cons 1 (.one (.int .i64 x3)) (.cons 1 (.one (.int .i64 x4)) (.cons 1 (.one (.int .i64 x5)) (.cons 1 (.one (.str x6)) (.cons 1 (.one (.bool x7)) .nil)))))) true)),(1,(.cells 5 (.segs (.cons 1 (.one (.int .i64 x8)) (.cons 1 (.one (.int .i64 x9)) (.cons 1 (.one (.int .i64 x10)) (.cons 1 (.one (.str x11)) (.cons 1 (.one (.bool x12)) .nil)))))) true))],2,77,0⟩
def ef9j6:Ty65→St:=ef9j5
def ef9j7:Ty66→St:=fun (t0,t4,t5,x4,x5,x6,x7,x8,x9,x10,x11,x12,x13)=>⟨[(0,.str t0),(2,.ptr 0 0 5 0 0 0 5),(3,.ptr 1 0 5 0 0 0 5),(4,.int .i64 t4),(5,.int .i64 t5)],[(0,(.cells 5 (.segs (.cons 1 (.one (.int .i64 x4)) (.cons 1 (.one (.int .i64 x5)) (.cons 1 (.one (.int .i64 x6)) (.cons 1 (.one (.str x7)) (.cons 1 (.one (.bool x8)) .nil)))))) true)),(1,(.cells 5 (.segs (.cons 1 (.one (.int .i64 x9)) (.cons 1 (.one (.int .i64 x10)) (.cons 1 (.one (.int .i64 x11)) (.cons 1 (.one (.str x12)) (.cons 1 (.one (.bool x13)) .nil)))))) true))],2,77,0⟩
def ef9l1:Ty66→St:=ef9j7
def ef9j8:Ty65→St:=ef9j5
def f9_1(F:Nat)(kj1:Ty63→Rz):Li→Rz:=fun a0=>(kj1 (a0,(0:Int),(0:Int),(0:Int),[],false))
theorem f9_1_eq(F:Nat)(Rj1:St→Rz):∀ v,XAf9 F (bp Tryd.f9 2) (ef9_a v) (kSeq (kc V9 Rj1 sp23) Kf53)=f9_1 F (Rj1∘ef9j1) v:=by
 intro a0;kernel_rfl
def f9_2(F:Nat)(kj2:Ty63→Rz):Ty63→Rz:=fun (t0,x2,x3,x4,x5,x6)=>(cond ((↑t0.length:Int) != (64:Int)) (some ((.agg 5 (.segs (.cons 1 (.one (.int .i64 0)) (.cons 1 (.one (.int .i64 0)) (.cons 1 (.one (.int .i64 0)) (.cons 1 (.one (.str [])) (.cons 1 (.one (.bool false)) .nil))))))),[])) (kj2 (t0,x2,x3,x4,x5,x6)))
theorem f9_2_eq(F:Nat)(Rj2:St→Rz):∀ v,XAf9 F (bp Tryd.f9 6) (ef9j1 v) (kSeq (kc V9 Rj2 sp23) Kf53)=f9_2 F (Rj2∘ef9j2) v:=by
 rintro⟨t0,x2,x3,x4,x5,x6⟩;kernel_rfl
def f9_3(F:Nat)(kj3:Ty64→Rz):Ty63→Rz:=fun (t0,x2,x3,x4,x5,x6)=>(cond (decide ((4:Int)≤(↑t0.length:Int))) (cond (decide ((t0.take 4).length≤4)) (cond (decide ((6:Int)≤(↑t0.length:Int))) (cond (decide (((t0.take 6).drop 4).length≤4)) (cond (decide ((8:Int)≤(↑t0.length:Int))) (cond (decide (((t0.take 8).drop 6).length≤4)) (kj3 (t0,x2,x3,x4,x5,x6,(Jr.num (t0.take 4)),(Jr.num ((t0.take 6).drop 4)),(Jr.num ((t0.take 8).drop 6)),[],true)) none) none) none) none) none) none)
theorem f9_3_eq(F:Nat)(Rj3:St→Rz):∀ v,XAf9 F (bp Tryd.f9 14) (ef9j2 v) (kSeq (kc V9 Rj3 sp2) Kf53)=f9_3 F (Rj3∘ef9j3) v:=by
 rintro⟨t0,x2,x3,x4,x5,x6⟩;kernel_rfl
def f9_4(F:Nat)(kj4:Ty64→Rz):Ty64→Rz:=fun (t0,x2,x3,x4,x5,x6,x7,x8,x9,x10,x11)=>(cond (decide ((56:Int)≤(↑t0.length:Int))) (cond (decide ((t0.take 56).length < 1073730000)) (cond (!(((Jr.checked (t0.take 56)):Li)==(t0:Li))) (some ((.agg 5 (.segs (.cons 1 (.one (.int .i64 0)) (.cons 1 (.one (.int .i64 0)) (.cons 1 (.one (.int .i64 0)) (.cons 1 (.one (.str [])) (.cons 1 (.one (.bool false)) .nil))))))),[])) (cond (decide (x7 < (1:Int))) (some ((.agg 5 (.segs (.cons 1 (.one (.int .i64 0)) (.cons 1 (.one (.int .i64 0)) (.cons 1 (.one (.int .i64 0)) (.cons 1 (.one (.str [])) (.cons 1 (.one (.bool false)) .nil))))))),[])) (cond (decide (x7 > (4096:Int))) (some ((.agg 5 (.segs (.cons 1 (.one (.int .i64 0)) (.cons 1 (.one (.int .i64 0)) (.cons 1 (.one (.int .i64 0)) (.cons 1 (.one (.str [])) (.cons 1 (.one (.bool false)) .nil))))))),[])) (cond (decide ((IntKind.i64.wrap ((IntKind.i64.wrap ((48:Int)*x8))+x9)) > (8000:Int))) (some ((.agg 5 (.segs (.cons 1 (.one (.int .i64 0)) (.cons 1 (.one (.int .i64 0)) (.cons 1 (.one (.int .i64 0)) (.cons 1 (.one (.str [])) (.cons 1 (.one (.bool false)) .nil))))))),[])) (cond (decide (x9 < (1:Int))) (cond (decide (x8 > (0:Int))) (some ((.agg 5 (.segs (.cons 1 (.one (.int .i64 0)) (.cons 1 (.one (.int .i64 0)) (.cons 1 (.one (.int .i64 0)) (.cons 1 (.one (.str [])) (.cons 1 (.one (.bool false)) .nil))))))),[])) (kj4 (t0,x2,x3,x4,x5,x6,x7,x8,x9,x10,x11))) (kj4 (t0,x2,x3,x4,x5,x6,x7,x8,x9,x10,x11))))))) none) none)
theorem f9_4_eq(F:Nat)(Rj4:St→Rz):∀ v,XAf9 F (bp Tryd.f9 30) (ef9j3 v) (kSeq (kc V9 Rj4 sp2) Kf53)=f9_4 F (Rj4∘ef9j4) v:=by
 rintro⟨t0,x2,x3,x4,x5,x6,x7,x8,x9,x10,x11⟩;kernel_rfl
def f9_5(F:Nat)(kj5:Ty65→Rz):Ty64→Rz:=fun (t0,x2,x3,x4,x5,x6,x7,x8,x9,x10,x11)=>(kj5 (t0,x9,x2,x3,x4,x5,x6,x7,x8,x9,x10,x11))
theorem f9_5_eq(F:Nat)(Rj5:St→Rz):∀ v,XAf9 F (bp Tryd.f9 62) (ef9j4 v) (kSeq (kc V9 Rj5 sp21) Kf53)=f9_5 F (Rj5∘ef9j5) v:=by
 rintro⟨t0,x2,x3,x4,x5,x6,x7,x8,x9,x10,x11⟩;kernel_rfl
def f9_6(F:Nat)(kj6:Ty65→Rz):Ty65→Rz:=fun (t0,t4,x3,x4,x5,x6,x7,x8,x9,x10,x11,x12)=>(cond (decide (t4 > (48:Int))) (kj6 (t0,(48:Int),x3,x4,x5,x6,x7,x8,x9,x10,x11,x12)) (kj6 (t0,t4,x3,x4,x5,x6,x7,x8,x9,x10,x11,x12)))
theorem f9_6_eq(F:Nat)(Rj6:St→Rz):∀ v,XAf9 F (bp Tryd.f9 126) (ef9j5 v) (kSeq (kc V9 Rj6 sp21) Kf53)=f9_6 F (Rj6∘ef9j6) v:=by
 rintro⟨t0,t4,x3,x4,x5,x6,x7,x8,x9,x10,x11,x12⟩;kernel_rfl
def f9_7(F:Nat)(kj7:Ty66→Rz)(kj8:Ty65→Rz):Ty65→Rz:=fun (t0,t4,x3,x4,x5,x6,x7,x8,x9,x10,x11,x12)=>(kj7 (t0,t4,(IntKind.i64.wrap ((8:Int)+t4)),x3,x4,x5,x6,x7,x8,x9,x10,x11,x12))
theorem f9_7_eq(F:Nat)(Rj7 Rj8:St→Rz):∀ v,XAf9 F (bp Tryd.f9 508) (ef9j6 v) (kSeq (kc V9 Rj7 sp73) (kSeq (kc V9 Rj8 sp21) Kf53))=f9_7 F (Rj7∘ef9j7) (Rj8∘ef9j8) v:=by
 rintro⟨t0,t4,x3,x4,x5,x6,x7,x8,x9,x10,x11,x12⟩;kernel_rfl
def f9_8(F:Nat)(kl1:Ty66→Rz)(kj8:Ty65→Rz):Ty66→Rz:=fun (t0,t4,t5,x4,x5,x6,x7,x8,x9,x10,x11,x12,x13)=>(cond (decide (t5 < (56:Int))) (cond ((decide (0≤t5))&&(decide (t5 < (↑t0.length:Int)))) (cond ((t0.getD (Int.toNat t5) 0) != (0:Int)) (some ((.agg 5 (.segs (.cons 1 (.one (.int .i64 0)) (.cons 1 (.one (.int .i64 0)) (.cons 1 (.one (.int .i64 0)) (.cons 1 (.one (.str [])) (.cons 1 (.one (.bool false)) .nil))))))),[])) (kl1 (t0,t4,(IntKind.i64.wrap (t5+(1:Int))),x4,x5,x6,x7,x8,x9,x10,x11,x12,x13))) none) (kj8 (t0,t4,x4,x5,x6,x7,x8,x9,x10,x11,x12,x13)))
theorem f9_8_eq(F:Nat)(Rl1 Rj8:St→Rz):∀ v,XAf9 F (bp Tryd.f9 2036) (ef9l1 v) (kSeq (kc V9 Rl1 sp73) (kBlock 0 (kSeq (kc V9 Rj8 sp21) Kf53)))=f9_8 F (Rl1∘ef9l1) (Rj8∘ef9j8) v:=by
 rintro⟨t0,t4,t5,x4,x5,x6,x7,x8,x9,x10,x11,x12,x13⟩;kernel_rfl
def f9_9_i:Ty66→Li×Int×Int×Int×Int×Int×Li×Bool×Int×Int×Int×Li×Bool:=fun (t0,t4,t5,x4,x5,x6,x7,x8,x9,x10,x11,x12,x13)=>(t0,t4,t5,x4,x5,x6,x7,x8,x9,x10,x11,x12,x13)
def f9_9(F:Nat)(kj8:Ty65→Rz):Ty66→Rz:=fun v=>loopN (fun k=>f9_8 F k kj8) F (f9_9_i v)
theorem f9_9_eq(F:Nat)(Rj8:St→Rz):∀ v,XAf9 F (bp Tryd.f9 1018) (ef9j7 v) (kBlock 0 (kSeq (kc V9 Rj8 sp21) Kf53))=f9_9 F (Rj8∘ef9j8) v:=
 loop_cut (by kernel_rfl) (by kernel_rfl) ef9j7 ef9l1 _ f9_9_i (fun k=>f9_8 F k (Rj8∘ef9j8))
  (by rintro⟨t0,t4,t5,x4,x5,x6,x7,x8,x9,x10,x11,x12,x13⟩;kernel_rfl) (fun Rl1=>f9_8_eq F Rl1 Rj8)
def f9_10(F:Nat)(kj8:Ty65→Rz):Ty66→Rz:=f9_9 F kj8
theorem f9_10_eq(F:Nat)(Rj8:St→Rz):∀ v,XAf9 F (bp Tryd.f9 509) (ef9j7 v) (kSeq (kc V9 Rj8 sp21) Kf53)=f9_10 F (Rj8∘ef9j8) v:=fun v=>
 (block_in  (by kernel_rfl) _ _).trans (f9_9_eq F Rj8 v)
def f9_11(F:Nat)(kj8:Ty65→Rz):Ty65→Rz:=fun v=>f9_7 F (f9_10 F kj8) kj8 v
theorem f9_11_eq(F:Nat)(Rj8:St→Rz):∀ v,XAf9 F (bp Tryd.f9 254) (ef9j6 v) (kSeq (kc V9 Rj8 sp21) Kf53)=f9_11 F (Rj8∘ef9j8) v:=
 seq_cut (by kernel_rfl) (by kernel_rfl) ef9j6 ef9j7 _ (fun k=>f9_7 F k (Rj8∘ef9j8)) (f9_10 F (Rj8∘ef9j8))
  (fun Rj7=>f9_7_eq F Rj7 Rj8) (f9_10_eq F Rj8)
def f9_12(F:Nat):Ty65→Rz:=fun (t0,t4,x3,x4,x5,x6,x7,x8,x9,x10,x11,x12)=>(cond ((decide ((8:Int)≤(IntKind.i64.wrap ((8:Int)+t4))))&&(decide ((IntKind.i64.wrap ((8:Int)+t4))≤(↑t0.length:Int)))) (some ((.agg 5 (.segs (.cons 1 (.one (.int .i64 x8)) (.cons 1 (.one (.int .i64 x9)) (.cons 1 (.one (.int .i64 x10)) (.cons 1 (.one (.str ((t0.take (Int.toNat (IntKind.i64.wrap ((8:Int)+t4)))).drop 8))) (.cons 1 (.one (.bool x12)) .nil))))))),[])) none)
theorem f9_12_eq(F:Nat):∀ v,XAf9 F (bp Tryd.f9 255) (ef9j8 v) Kf53=f9_12 F v:=by
 rintro⟨t0,t4,x3,x4,x5,x6,x7,x8,x9,x10,x11,x12⟩;kernel_rfl
def f9_13(F:Nat):Ty65→Rz:=fun v=>f9_11 F (f9_12 F) v
theorem f9_13_eq(F:Nat):∀ v,XAf9 F (bp Tryd.f9 127) (ef9j6 v) Kf53=f9_13 F v:=
 seq_cut (by kernel_rfl) (by kernel_rfl) ef9j6 ef9j8 _ (fun k=>f9_11 F k) (f9_12 F)
  (fun Rj8=>f9_11_eq F Rj8) (f9_12_eq F)
def f9_14(F:Nat):Ty65→Rz:=fun v=>f9_6 F (f9_13 F) v
theorem f9_14_eq(F:Nat):∀ v,XAf9 F (bp Tryd.f9 63) (ef9j5 v) Kf53=f9_14 F v:=
 seq_cut (by kernel_rfl) (by kernel_rfl) ef9j5 ef9j6 _ (fun k=>f9_6 F k) (f9_13 F)
  (fun Rj6=>f9_6_eq F Rj6) (f9_13_eq F)
def f9_15(F:Nat):Ty64→Rz:=fun v=>f9_5 F (f9_14 F) v
theorem f9_15_eq(F:Nat):∀ v,XAf9 F (bp Tryd.f9 31) (ef9j4 v) Kf53=f9_15 F v:=
 seq_cut (by kernel_rfl) (by kernel_rfl) ef9j4 ef9j5 _ (fun k=>f9_5 F k) (f9_14 F)
  (fun Rj5=>f9_5_eq F Rj5) (f9_14_eq F)
def f9_16(F:Nat):Ty64→Rz:=fun v=>f9_4 F (f9_15 F) v
theorem f9_16_eq(F:Nat):∀ v,XAf9 F (bp Tryd.f9 15) (ef9j3 v) Kf53=f9_16 F v:=
 seq_cut (by kernel_rfl) (by kernel_rfl) ef9j3 ef9j4 _ (fun k=>f9_4 F k) (f9_15 F)
  (fun Rj4=>f9_4_eq F Rj4) (f9_15_eq F)
def f9_17(F:Nat):Ty63→Rz:=fun v=>f9_3 F (f9_16 F) v
theorem f9_17_eq(F:Nat):∀ v,XAf9 F (bp Tryd.f9 7) (ef9j2 v) Kf53=f9_17 F v:=
 seq_cut (by kernel_rfl) (by kernel_rfl) ef9j2 ef9j3 _ (fun k=>f9_3 F k) (f9_16 F)
  (fun Rj3=>f9_3_eq F Rj3) (f9_16_eq F)
def f9_18(F:Nat):Ty63→Rz:=fun v=>f9_2 F (f9_17 F) v
theorem f9_18_eq(F:Nat):∀ v,XAf9 F (bp Tryd.f9 3) (ef9j1 v) Kf53=f9_18 F v:=
 seq_cut (by kernel_rfl) (by kernel_rfl) ef9j1 ef9j2 _ (fun k=>f9_2 F k) (f9_17 F)
  (fun Rj2=>f9_2_eq F Rj2) (f9_17_eq F)
def f9_19(F:Nat):Li→Rz:=fun v=>f9_1 F (f9_18 F) v
theorem f9_19_eq(F:Nat):∀ v,XAf9 F (sub (bodyOf Tryd.f9) []) (ef9_a v) Kf53=f9_19 F v:=
 seq_cut (by kernel_rfl) (by kernel_rfl) ef9_a ef9j1 _ (fun k=>f9_1 F k) (f9_18 F)
  (fun Rj1=>f9_1_eq F Rj1) (f9_18_eq F)
def f9(F:Nat):Li→Rz:=f9_19 F
theorem f9_body(F:Nat)(a0:Li):abody V9 (Af9 F) Tryd.f9 [(.str a0)] []=f9 F a0:=
 (abody_in (c:=(sub (bodyOf Tryd.f9) [])) (by kernel_rfl) (s:=ef9_a a0) (by kernel_rfl)).trans (f9_19_eq F a0)
def r9:CRun:=fun X H=>match X,H with
 | [(.str a0)],[]=>some (true,(.agg 5 (.segs (.cons 1 (.one (.int .i64 (Jr.unpack a0).number)) (.cons 1 (.one (.int .i64 (Jr.unpack a0).part)) (.cons 1 (.one (.int .i64 (Jr.unpack a0).left)) (.cons 1 (.one (.str (Jr.unpack a0).payload)) (.cons 1 (.one (.bool (Jr.unpack a0).ok)) .nil))))))),[])
 | _,_=>none
theorem s9(a0:Li)(h0:okV (.str a0)):∃ F,f9 F a0=some ((.agg 5 (.segs (.cons 1 (.one (.int .i64 (Jr.unpack a0).number)) (.cons 1 (.one (.int .i64 (Jr.unpack a0).part)) (.cons 1 (.one (.int .i64 (Jr.unpack a0).left)) (.cons 1 (.one (.str (Jr.unpack a0).payload)) (.cons 1 (.one (.bool (Jr.unpack a0).ok)) .nil))))))),[]):=by
 refine⟨100,?_⟩
 simp only [f9_1,f9_2,f9_3,f9_4,f9_5,f9_6,f9_7,f9_9_i,f9_9,f9_10,f9_11,f9_13,f9_14,f9_15,f9_16,f9_17,f9_18,f9_19,f9,int_bne]
 by_cases hl:a0.length=64
 case neg=>
  rw [cond_pos (by omega),Jr.unpack_not (.inl hl)]
  rfl
 have hb:∀ x∈a0,0≤x∧x < 256:=fun x hx=>by have:=h0.2 x hx;omega
 have d6:(a0.take 6).drop 4=(a0.drop 4).take 2:=by rw [List.drop_take]
 have d8:(a0.take 8).drop 6=(a0.drop 6).take 2:=by rw [List.drop_take]
 simp only [d6,d8]
 have l4:(a0.take 4).length=4:=by rw [List.length_take];omega
 have l2:((a0.drop 4).take 2).length=2:=by rw [List.length_take,List.length_drop];omega
 have l2':((a0.drop 6).take 2).length=2:=by rw [List.length_take,List.length_drop];omega
 have l56:(a0.take 56).length=56:=by rw [List.length_take];omega
 obtain⟨n1,n2⟩:=Jr.num_bound (a0.take 4) fun x hx=>hb x (List.mem_of_mem_take hx)
 obtain⟨p1,p2⟩:=Jr.num_bound ((a0.drop 4).take 2) fun x hx=>hb x (List.mem_of_mem_drop (List.mem_of_mem_take hx))
 obtain⟨q1,q2⟩:=Jr.num_bound ((a0.drop 6).take 2) fun x hx=>hb x (List.mem_of_mem_drop (List.mem_of_mem_take hx))
 rw [l4,show(256:Int)^4=4294967296 from rfl] at n2
 rw [l2,show(256:Int)^2=65536 from rfl] at p2
 rw [l2',show(256:Int)^2=65536 from rfl] at q2
 rw [cond_neg (by omega),cond_pos (by omega),cond_pos (by omega),cond_pos (by omega),cond_pos (by omega),cond_pos (by omega),cond_pos (by omega),cond_pos (by omega),cond_pos (by omega),Jr.checked_eq hl,i64w (x:=48*Jr.num ((a0.drop 4).take 2)) (by omega) (by omega),i64w (x:=48*Jr.num ((a0.drop 4).take 2)+Jr.num ((a0.drop 6).take 2)) (by omega) (by omega)]
 have hm48:Jr.fN a0≤48:=Nat.min_le_right _ _
 have hmL:Jr.fN a0=min (Jr.num ((a0.drop 6).take 2)).toNat 48:=rfl
 by_cases c1:(Sha.hash (a0.take 56)).take 8=a0.drop 56
 case neg=>
  have e:(!((Sha.hash (a0.take 56)).take 8==a0.drop 56))=true:=by simpa using c1
  rw [e,cond_true,Jr.unpack_not (.inr (.inl c1))]
  rfl
 have e:(!((Sha.hash (a0.take 56)).take 8==a0.drop 56))=false:=by simp [c1]
 rw [e,cond_false]
 by_cases c2:Jr.num (a0.take 4) < 1
 ·rw [cond_pos c2,Jr.unpack_not (.inr (.inr (.inl (fun h=>by have:=h.1;rw [Jr.fNum] at this;omega))))]
  rfl
 by_cases c3:Jr.num (a0.take 4) > 4096
 ·rw [cond_neg c2,cond_pos c3,Jr.unpack_not (.inr (.inr (.inl (fun h=>by have:=h.2.1;rw [Jr.fNum] at this;omega))))]
  rfl
 by_cases c4:48*Jr.num ((a0.drop 4).take 2)+Jr.num ((a0.drop 6).take 2) > 8000
 ·rw [cond_neg c2,cond_neg c3,cond_pos c4,Jr.unpack_not (.inr (.inr (.inl (fun h=>by have:=h.2.2.1;rw [Jr.fPart,Jr.fLeft] at this;omega))))]
  rfl
 rw [cond_neg c2,cond_neg c3,cond_neg c4]
 by_cases c5:Jr.num ((a0.drop 6).take 2) < 1∧Jr.num ((a0.drop 4).take 2) > 0
 ·rw [cond_pos c5.1,cond_pos c5.2,Jr.unpack_not (.inr (.inr (.inl (fun h=>by have:=h.2.2.2;rw [Jr.fPart,Jr.fLeft] at this;omega))))]
  rfl
 have hskip:∀ X Y:Rz,cond (decide (Jr.num ((a0.drop 6).take 2) < 1)) (cond (decide (Jr.num ((a0.drop 4).take 2) > 0)) X Y) Y=Y:=fun X Y=>by
  by_cases h5:Jr.num ((a0.drop 6).take 2) < 1
  ·rw [cond_pos h5,cond_neg (by omega)]
  ·rw [cond_neg h5]
 rw [hskip]
 have key:∀ t:Int,t=(Jr.fN a0:Int)→loopN (fun k=>f9_8 100 k (f9_12 100)) 100 (a0,t,IntKind.i64.wrap (8+t),0,0,0,[],false,Jr.num (a0.take 4),Jr.num ((a0.drop 4).take 2),Jr.num ((a0.drop 6).take 2),[],true) =
   some ((.agg 5 (.segs (.cons 1 (.one (.int .i64 (Jr.unpack a0).number)) (.cons 1 (.one (.int .i64 (Jr.unpack a0).part)) (.cons 1 (.one (.int .i64 (Jr.unpack a0).left)) (.cons 1 (.one (.str (Jr.unpack a0).payload)) (.cons 1 (.one (.bool (Jr.unpack a0).ok)) .nil))))))),[]):=fun t ht=>by
  subst ht
  rw [i64w (x:=8+(Jr.fN a0:Int)) (by omega) (by omega)]
  refine loopN_ind (fun mm s=>∃ k:Nat,s=(a0,(Jr.fN a0:Int),8+(Jr.fN a0:Int)+(k:Int),0,0,0,[],false,Jr.num (a0.take 4),Jr.num ((a0.drop 4).take 2),Jr.num ((a0.drop 6).take 2),[],true)∧mm=48-Jr.fN a0-k∧k≤48-Jr.fN a0 ∧ ∀ j,j < k→a0.getD (8+Jr.fN a0+j) 0=0) (fun mm s K hi hk=>?_) 100 (48-Jr.fN a0) _ (by omega) ⟨0,by simp,by omega,by omega,fun j hj=>by omega⟩
  obtain⟨k,rfl,hm,hle,hz⟩:=hi
  have et:(8+(Jr.fN a0:Int)+(k:Int)).toNat=8+Jr.fN a0+k:=by omega
  simp only [f9_8,dec_and,et,int_bne]
  by_cases hlt:k < 48-Jr.fN a0
  ·rw [cond_pos (by omega),cond_pos (by omega)]
   by_cases h0:a0.getD (8+Jr.fN a0+k) 0=0
   ·rw [cond_neg (by omega),i64w (by omega) (by omega)]
    exact hk (mm-1) _ (by omega) ⟨k+1,by rw [show 8+(Jr.fN a0:Int)+((k+1:Nat):Int)=8+(Jr.fN a0:Int)+(k:Int)+1 by omega],by omega,by omega,fun j hj=>by
     by_cases hj':j=k
     ·subst hj';exact h0
     ·exact hz j (by omega)⟩
   ·rw [cond_pos h0,Jr.unpack_not (.inr (.inr (.inr fun h=>h0 ((Jr.zeros_iff (by omega)).1 h k hlt))))]
    rfl
  ·rw [cond_neg (by omega)]
   simp only [f9_12,dec_and]
   have t2:(8+(Jr.fN a0:Int)).toNat=8+Jr.fN a0:=by omega
   rw [i64w (x:=8+(Jr.fN a0:Int)) (by omega) (by omega),cond_pos (by omega),t2,Jr.unpack_is hl c1 ⟨by rw [Jr.fNum];omega,by rw [Jr.fNum];omega,by rw [Jr.fPart,Jr.fLeft];omega,by rw [Jr.fPart,Jr.fLeft];omega⟩ ((Jr.zeros_iff (by omega)).2 fun j hj=>hz j (by omega)),List.drop_take,show 8+Jr.fN a0-8=Jr.fN a0 by omega]
   rfl
 by_cases h48:Jr.num ((a0.drop 6).take 2) > 48
 ·rw [cond_pos h48];exact key 48 (by omega)
 ·rw [cond_neg h48];exact key _ (by omega)
theorem c9:CallOk Tryd.prog G37 9 r9:=callOk_of mixed tys eV9 Tryd.func9 (by kernel_rfl) (c:=sub (bodyOf Tryd.f9) []) (by kernel_rfl) (by
 intro X H r H' h hX hH
 unfold r9 at h;split at h <;> try contradiction
 ·obtain⟨hp,rfl,rfl⟩:=inj3 h
  obtain⟨F,hF⟩:=s9 _ (hX _ hm0)
  exact⟨Af9 F,(f9_body F _).trans hF⟩)
def lV7:List CEnt:=[(12,[none],r12),(28,[none,none],r28),(29,[some 5],r29)]
def V7:Env:=mkEnv T36 G37 lV7
noncomputable abbrev Kf54:=kFin V7 (some [(4,.view 9),(5,.plain)]) (Tryd.f7).results.toList
theorem eV7:EOk Tryd.prog V7:=eok_mk (by exact⟨c12.more gsub,c28.more gsub,c29,trivial⟩)
def Af7(F:Nat):Cuts:={ F:=F,at_:=fun n=>match n with | 7041=>some sp74 | 14018=>some sp75 | _=>none,join:=fun n=>match n with | 1067=>some sp37 | 3059=>some sp37 | 5051=>some sp37 | 6049=>some sp76 | 7043=>some sp74 | 8001=>some sp74 | 9035=>some sp74 | 10030=>some sp77 | 11028=>some sp78 | 12026=>some sp78 | 13024=>some sp78 | 14020=>some sp75 | 20001=>some sp79 | 21003=>some sp80 | _=>none,fin:=(some [(4,.view 9),(5,.plain)]) }
noncomputable abbrev XAf7(F:Nat){α:Type}:=@aexec α V7 (Af7 F)
def ef7_a:Int×Li→St:=fun (a0,a1)=>⟨[(0,.int .i64 a0),(1,.str a1)],[],0,64,0⟩
def ef7j1:Int×Li→St:=fun (t0,t1)=>⟨[(0,.int .i64 t0),(1,.str t1)],[],0,64,0⟩
def ef7j2:Int×Li→St:=ef7j1
def ef7j3:Int×Li→St:=ef7j1
def ef7j4:Ty67→St:=fun (t0,t1,x3)=>⟨[(0,.int .i64 t0),(1,.str t1),(6,.own 0 0 1)],[(0,(.cells x3.length (.rS x3) true))],1,64,0⟩
def ef7j5:Ty68→St:=fun (t0,t1,t7,x4)=>⟨[(0,.int .i64 t0),(1,.str t1),(6,.own 0 0 1),(7,.int .i64 t7)],[(0,(.cells x4.length (.rS x4) true))],1,64,0⟩
def ef7l1:Ty68→St:=ef7j5
def ef7j6:Ty68→St:=ef7j5
def ef7j7:Ty69→St:=fun (t0,t1,t7,t8,x5)=>⟨[(0,.int .i64 t0),(1,.str t1),(6,.own 0 0 1),(7,.int .i64 t7),(8,.str t8)],[(0,(.cells x5.length (.rS x5) true))],1,64,0⟩
def ef7j8:Ty70→St:=fun (t0,t1,t7,t8,x5,x6)=>⟨[(0,.int .i64 t0),(1,.str t1),(6,.own 0 0 1),(7,.int .i64 t7),(8,.str t8),(9,.own 1 0 1)],[(0,(.cells x5.length (.rS x5) true)),(1,(.cells x6.length (.rI .u8 x6) true))],2,64,0⟩
def ef7j9:Ty70→St:=ef7j8
def ef7j10:Ty70→St:=ef7j8
def ef7j11:Ty71→St:=fun (t0,t1,t7,t8,t10,x6,x7)=>⟨[(0,.int .i64 t0),(1,.str t1),(6,.own 0 0 1),(7,.int .i64 t7),(8,.str t8),(9,.own 1 0 1),(10,.int .i64 t10)],[(0,(.cells x6.length (.rS x6) true)),(1,(.cells x7.length (.rI .u8 x7) true))],2,64,0⟩
def ef7l2:Ty71→St:=ef7j11
def ef7j12:Ty72→St:=fun (t0,t1,t7,x4,x5)=>⟨[(0,.int .i64 t0),(1,.str t1),(6,.own 0 0 1),(7,.int .i64 t7),(9,.own 1 0 1)],[(0,(.cells x4.length (.rS x4) true)),(1,(.cells x5.length (.rI .u8 x5) true))],2,64,0⟩
def ef7j13:Ty68→St:=ef7j5
def ef7j14:(List Li)→St:=fun x1=>⟨[(6,.own 0 0 1)],[(0,(.cells x1.length (.rS x1) true))],1,64,0⟩
def f7_1(F:Nat)(kj1:Int×Li→Rz):Int×Li→Rz:=fun (a0,a1)=>(kj1 (a0,a1))
theorem f7_1_eq(F:Nat)(Rj1:St→Rz):∀ v,XAf7 F (bp Tryd.f7 2) (ef7_a v) (kSeq (kc V7 Rj1 sp37) Kf54)=f7_1 F (Rj1∘ef7j1) v:=by
 rintro⟨a0,a1⟩;kernel_rfl
def f7_2(F:Nat)(kj2:Int×Li→Rz):Int×Li→Rz:=fun (t0,t1)=>(cond (decide (t0 < (1:Int))) (some ((.tup (.cons 0 (.vs (.rS []) 0 1) (.cons 0 (.int .i64 1) .nil))),[])) (cond (decide (t0 > (4096:Int))) (some ((.tup (.cons 0 (.vs (.rS []) 0 1) (.cons 0 (.int .i64 1) .nil))),[])) (kj2 (t0,t1))))
theorem f7_2_eq(F:Nat)(Rj2:St→Rz):∀ v,XAf7 F (bp Tryd.f7 6) (ef7j1 v) (kSeq (kc V7 Rj2 sp37) Kf54)=f7_2 F (Rj2∘ef7j2) v:=by
 rintro⟨t0,t1⟩;kernel_rfl
def f7_3(F:Nat)(kj3:Int×Li→Rz):Int×Li→Rz:=fun (t0,t1)=>(cond (decide ((↑t1.length:Int) > (8000:Int))) (some ((.tup (.cons 0 (.vs (.rS []) 0 1) (.cons 0 (.int .i64 4) .nil))),[])) (kj3 (t0,t1)))
theorem f7_3_eq(F:Nat)(Rj3:St→Rz):∀ v,XAf7 F (bp Tryd.f7 14) (ef7j2 v) (kSeq (kc V7 Rj3 sp37) Kf54)=f7_3 F (Rj3∘ef7j3) v:=by
 rintro⟨t0,t1⟩;kernel_rfl
def f7_4(F:Nat)(kj4:Ty67→Rz):Int×Li→Rz:=fun (t0,t1)=>(kj4 (t0,t1,[]))
theorem f7_4_eq(F:Nat)(Rj4:St→Rz):∀ v,XAf7 F (bp Tryd.f7 30) (ef7j3 v) (kSeq (kc V7 Rj4 sp76) Kf54)=f7_4 F (Rj4∘ef7j4) v:=by
 rintro⟨t0,t1⟩;kernel_rfl
def f7_5(F:Nat)(kj5:Ty68→Rz)(kj14:(List Li)→Rz):Ty67→Rz:=fun (t0,t1,x3)=>(kj5 (t0,t1,(0:Int),x3))
theorem f7_5_eq(F:Nat)(Rj5 Rj14:St→Rz):∀ v,XAf7 F (bp Tryd.f7 124) (ef7j4 v) (kSeq (kc V7 Rj5 sp74) (kSeq (kc V7 Rj14 sp80) Kf54))=f7_5 F (Rj5∘ef7j5) (Rj14∘ef7j14) v:=by
 rintro⟨t0,t1,x3⟩;kernel_rfl
def f7_6(F:Nat)(kj6 kl1:Ty68→Rz)(kj14:(List Li)→Rz):Ty68→Rz:=fun (t0,t1,t7,x4)=>(cond (decide (t7 < (Jr.count (↑t1.length:Int)))) (kj6 (t0,t1,t7,x4)) (kj14 x4))
theorem f7_6_eq(F:Nat)(Rj6 Rl1 Rj14:St→Rz):∀ v,XAf7 F (bp Tryd.f7 1000) (ef7l1 v) (kSeq (kc V7 Rj6 sp74) (kSeq (kc V7 Rl1 sp74) (kBlock 0 (kSeq (kc V7 Rj14 sp80) Kf54))))=f7_6 F (Rj6∘ef7j6) (Rl1∘ef7l1) (Rj14∘ef7j14) v:=by
 rintro⟨t0,t1,t7,x4⟩;kernel_rfl
def f7_7(F:Nat)(kj7:Ty69→Rz)(kj13 kl1:Ty68→Rz)(kj14:(List Li)→Rz):Ty68→Rz:=fun (t0,t1,t7,x4)=>(cond (((decide (0≤(IntKind.i64.wrap ((48:Int)*t7))))&&(decide ((IntKind.i64.wrap ((48:Int)*t7))≤(↑t1.length:Int))))&&(decide ((↑t1.length:Int)≤(↑t1.length:Int)))) (kj7 (t0,t1,t7,((t1.take t1.length).drop (Int.toNat (IntKind.i64.wrap ((48:Int)*t7)))),x4)) none)
theorem f7_7_eq(F:Nat)(Rj7 Rj13:St→Rz)(Rl1 Rj14:St→Rz):∀ v,XAf7 F (bp Tryd.f7 8008) (ef7j6 v) (kSeq (kc V7 Rj7 sp77) (kBlock 1 (kSeq (kc V7 Rj13 sp74) (kSeq (kc V7 Rl1 sp74) (kBlock 0 (kSeq (kc V7 Rj14 sp80) Kf54))))))=f7_7 F (Rj7∘ef7j7) (Rj13∘ef7j13) (Rl1∘ef7l1) (Rj14∘ef7j14) v:=by
 rintro⟨t0,t1,t7,x4⟩;kernel_rfl
def f7_8(F:Nat)(kj8:Ty70→Rz)(kj13 kl1:Ty68→Rz)(kj14:(List Li)→Rz):Ty69→Rz:=fun (t0,t1,t7,t8,x5)=>(cond ((decide (0≤t0))&&((decide (0 < (4:Int)))&&(decide ((4:Int)≤4)))) (kj8 (t0,t1,t7,t8,x5,(Jr.small t0 (Int.toNat (4:Int))))) none)
theorem f7_8_eq(F:Nat)(Rj8 Rj13:St→Rz)(Rl1 Rj14:St→Rz):∀ v,XAf7 F (bp Tryd.f7 16018) (ef7j7 v) (kSeq (kc V7 Rj8 sp78) (kBlock 1 (kSeq (kc V7 Rj13 sp74) (kSeq (kc V7 Rl1 sp74) (kBlock 0 (kSeq (kc V7 Rj14 sp80) Kf54))))))=f7_8 F (Rj8∘ef7j8) (Rj13∘ef7j13) (Rl1∘ef7l1) (Rj14∘ef7j14) v:=by
 rintro⟨t0,t1,t7,t8,x5⟩;kernel_rfl
def f7_9(F:Nat)(kj9:Ty70→Rz)(kj13 kl1:Ty68→Rz)(kj14:(List Li)→Rz):Ty70→Rz:=fun (t0,t1,t7,t8,x5,x6)=>(cond ((decide (0≤t7))&&((decide (0 < (2:Int)))&&(decide ((2:Int)≤4)))) (cond (decide ((x6.length+(Jr.small t7 (Int.toNat (2:Int))).length) < 1073741824)) (kj9 (t0,t1,t7,t8,x5,(x6++(Jr.small t7 (Int.toNat (2:Int)))))) none) none)
theorem f7_9_eq(F:Nat)(Rj9 Rj13:St→Rz)(Rl1 Rj14:St→Rz):∀ v,XAf7 F (bp Tryd.f7 32038) (ef7j8 v) (kSeq (kc V7 Rj9 sp78) (kBlock 1 (kSeq (kc V7 Rj13 sp74) (kSeq (kc V7 Rl1 sp74) (kBlock 0 (kSeq (kc V7 Rj14 sp80) Kf54))))))=f7_9 F (Rj9∘ef7j9) (Rj13∘ef7j13) (Rl1∘ef7l1) (Rj14∘ef7j14) v:=by
 rintro⟨t0,t1,t7,t8,x5,x6⟩;kernel_rfl
def f7_10(F:Nat)(kj10:Ty70→Rz)(kj13 kl1:Ty68→Rz)(kj14:(List Li)→Rz):Ty70→Rz:=fun (t0,t1,t7,t8,x5,x6)=>(cond ((decide (0≤(↑t8.length:Int)))&&((decide (0 < (2:Int)))&&(decide ((2:Int)≤4)))) (cond (decide ((x6.length+(Jr.small (↑t8.length:Int) (Int.toNat (2:Int))).length) < 1073741824)) (kj10 (t0,t1,t7,t8,x5,(x6++(Jr.small (↑t8.length:Int) (Int.toNat (2:Int)))))) none) none)
theorem f7_10_eq(F:Nat)(Rj10 Rj13:St→Rz)(Rl1 Rj14:St→Rz):∀ v,XAf7 F (bp Tryd.f7 64078) (ef7j9 v) (kSeq (kc V7 Rj10 sp78) (kBlock 1 (kSeq (kc V7 Rj13 sp74) (kSeq (kc V7 Rl1 sp74) (kBlock 0 (kSeq (kc V7 Rj14 sp80) Kf54))))))=f7_10 F (Rj10∘ef7j10) (Rj13∘ef7j13) (Rl1∘ef7l1) (Rj14∘ef7j14) v:=by
 rintro⟨t0,t1,t7,t8,x5,x6⟩;kernel_rfl
def f7_11(F:Nat)(kj11:Ty71→Rz)(kj12:Ty72→Rz)(kj13 kl1:Ty68→Rz)(kj14:(List Li)→Rz):Ty70→Rz:=fun (t0,t1,t7,t8,x5,x6)=>(kj11 (t0,t1,t7,t8,(0:Int),x5,x6))
theorem f7_11_eq(F:Nat)(Rj11 Rj12:St→Rz)(Rj13 Rl1 Rj14:St→Rz):∀ v,XAf7 F (bp Tryd.f7 256316) (ef7j10 v) (kSeq (kc V7 Rj11 sp75) (kSeq (kc V7 Rj12 sp79) (kBlock 1 (kSeq (kc V7 Rj13 sp74) (kSeq (kc V7 Rl1 sp74) (kBlock 0 (kSeq (kc V7 Rj14 sp80) Kf54)))))))=f7_11 F (Rj11∘ef7j11) (Rj12∘ef7j12) (Rj13∘ef7j13) (Rl1∘ef7l1) (Rj14∘ef7j14) v:=by
 rintro⟨t0,t1,t7,t8,x5,x6⟩;kernel_rfl
def f7_12(F:Nat)(kl2:Ty71→Rz)(kj12:Ty72→Rz)(kj13 kl1:Ty68→Rz)(kj14:(List Li)→Rz):Ty71→Rz:=fun (t0,t1,t7,t8,t10,x6,x7)=>(cond (decide (t10 < (48:Int))) (cond (decide (t10 < (↑t8.length:Int))) (cond ((decide (0≤t10))&&(decide (t10 < (↑t8.length:Int)))) (cond (decide ((x7.length+1) < 1073741824)) (kl2 (t0,t1,t7,t8,(IntKind.i64.wrap (t10+(1:Int))),x6,(x7++[(t8.getD (Int.toNat t10) 0)]))) none) none) (cond (decide ((x7.length+1) < 1073741824)) (kl2 (t0,t1,t7,t8,(IntKind.i64.wrap (t10+(1:Int))),x6,(x7++[(0:Int)]))) none)) (kj12 (t0,t1,t7,x6,x7)))
theorem f7_12_eq(F:Nat)(Rl2 Rj12:St→Rz)(Rj13 Rl1 Rj14:St→Rz):∀ v,XAf7 F (bp Tryd.f7 1025268) (ef7l2 v) (kSeq (kc V7 Rl2 sp75) (kBlock 2 (kSeq (kc V7 Rj12 sp79) (kBlock 1 (kSeq (kc V7 Rj13 sp74) (kSeq (kc V7 Rl1 sp74) (kBlock 0 (kSeq (kc V7 Rj14 sp80) Kf54))))))))=f7_12 F (Rl2∘ef7l2) (Rj12∘ef7j12) (Rj13∘ef7j13) (Rl1∘ef7l1) (Rj14∘ef7j14) v:=by
 rintro⟨t0,t1,t7,t8,t10,x6,x7⟩;kernel_rfl
def f7_13_i:Ty71→Int×Li×Int×Li×Int×(List Li)×Li:=fun (t0,t1,t7,t8,t10,x6,x7)=>(t0,t1,t7,t8,t10,x6,x7)
def f7_13(F:Nat)(kj12:Ty72→Rz)(kj13 kl1:Ty68→Rz)(kj14:(List Li)→Rz):Ty71→Rz:=fun v=>loopN (fun k=>f7_12 F k kj12 kj13 kl1 kj14) F (f7_13_i v)
theorem f7_13_eq(F:Nat)(Rj12 Rj13:St→Rz)(Rl1 Rj14:St→Rz):∀ v,XAf7 F (bp Tryd.f7 512634) (ef7j11 v) (kBlock 2 (kSeq (kc V7 Rj12 sp79) (kBlock 1 (kSeq (kc V7 Rj13 sp74) (kSeq (kc V7 Rl1 sp74) (kBlock 0 (kSeq (kc V7 Rj14 sp80) Kf54)))))))=f7_13 F (Rj12∘ef7j12) (Rj13∘ef7j13) (Rl1∘ef7l1) (Rj14∘ef7j14) v:=
 loop_cut (by kernel_rfl) (by kernel_rfl) ef7j11 ef7l2 _ f7_13_i (fun k=>f7_12 F k (Rj12∘ef7j12) (Rj13∘ef7j13) (Rl1∘ef7l1) (Rj14∘ef7j14))
  (by rintro⟨t0,t1,t7,t8,t10,x6,x7⟩;kernel_rfl) (fun Rl2=>f7_12_eq F Rl2 Rj12 Rj13 Rl1 Rj14)
def f7_14(F:Nat)(kj12:Ty72→Rz)(kj13 kl1:Ty68→Rz)(kj14:(List Li)→Rz):Ty71→Rz:=f7_13 F kj12 kj13 kl1 kj14
theorem f7_14_eq(F:Nat)(Rj12 Rj13:St→Rz)(Rl1 Rj14:St→Rz):∀ v,XAf7 F (bp Tryd.f7 256317) (ef7j11 v) (kSeq (kc V7 Rj12 sp79) (kBlock 1 (kSeq (kc V7 Rj13 sp74) (kSeq (kc V7 Rl1 sp74) (kBlock 0 (kSeq (kc V7 Rj14 sp80) Kf54))))))=f7_14 F (Rj12∘ef7j12) (Rj13∘ef7j13) (Rl1∘ef7l1) (Rj14∘ef7j14) v:=fun v=>
 (block_in  (by kernel_rfl) _ _).trans (f7_13_eq F Rj12 Rj13 Rl1 Rj14 v)
def f7_15(F:Nat)(kj12:Ty72→Rz)(kj13 kl1:Ty68→Rz)(kj14:(List Li)→Rz):Ty70→Rz:=fun v=>f7_11 F (f7_14 F kj12 kj13 kl1 kj14) kj12 kj13 kl1 kj14 v
theorem f7_15_eq(F:Nat)(Rj12 Rj13:St→Rz)(Rl1 Rj14:St→Rz):∀ v,XAf7 F (bp Tryd.f7 128158) (ef7j10 v) (kSeq (kc V7 Rj12 sp79) (kBlock 1 (kSeq (kc V7 Rj13 sp74) (kSeq (kc V7 Rl1 sp74) (kBlock 0 (kSeq (kc V7 Rj14 sp80) Kf54))))))=f7_15 F (Rj12∘ef7j12) (Rj13∘ef7j13) (Rl1∘ef7l1) (Rj14∘ef7j14) v:=
 seq_cut (by kernel_rfl) (by kernel_rfl) ef7j10 ef7j11 _ (fun k=>f7_11 F k (Rj12∘ef7j12) (Rj13∘ef7j13) (Rl1∘ef7l1) (Rj14∘ef7j14)) (f7_14 F (Rj12∘ef7j12) (Rj13∘ef7j13) (Rl1∘ef7l1) (Rj14∘ef7j14))
  (fun Rj11=>f7_11_eq F Rj11 Rj12 Rj13 Rl1 Rj14) (f7_14_eq F Rj12 Rj13 Rl1 Rj14)
def f7_16(F:Nat)(kj13 kl1:Ty68→Rz)(kj14:(List Li)→Rz):Ty72→Rz:=fun (t0,t1,t7,x4,x5)=>(cond (decide (x5.length < 1073730000)) (cond (decide ((x4.length+1) < 1073741824)) (kj13 (t0,t1,t7,(x4++[(Jr.checked x5)]))) none) none)
theorem f7_16_eq(F:Nat)(Rj13 Rl1 Rj14:St→Rz):∀ v,XAf7 F (bp Tryd.f7 128159) (ef7j12 v) (kBlock 1 (kSeq (kc V7 Rj13 sp74) (kSeq (kc V7 Rl1 sp74) (kBlock 0 (kSeq (kc V7 Rj14 sp80) Kf54)))))=f7_16 F (Rj13∘ef7j13) (Rl1∘ef7l1) (Rj14∘ef7j14) v:=by
 rintro⟨t0,t1,t7,x4,x5⟩;kernel_rfl
def f7_17(F:Nat)(kj13 kl1:Ty68→Rz)(kj14:(List Li)→Rz):Ty70→Rz:=fun v=>f7_15 F (f7_16 F kj13 kl1 kj14) kj13 kl1 kj14 v
theorem f7_17_eq(F:Nat)(Rj13 Rl1 Rj14:St→Rz):∀ v,XAf7 F (bp Tryd.f7 64079) (ef7j10 v) (kBlock 1 (kSeq (kc V7 Rj13 sp74) (kSeq (kc V7 Rl1 sp74) (kBlock 0 (kSeq (kc V7 Rj14 sp80) Kf54)))))=f7_17 F (Rj13∘ef7j13) (Rl1∘ef7l1) (Rj14∘ef7j14) v:=
 seq_cut (by kernel_rfl) (by kernel_rfl) ef7j10 ef7j12 _ (fun k=>f7_15 F k (Rj13∘ef7j13) (Rl1∘ef7l1) (Rj14∘ef7j14)) (f7_16 F (Rj13∘ef7j13) (Rl1∘ef7l1) (Rj14∘ef7j14))
  (fun Rj12=>f7_15_eq F Rj12 Rj13 Rl1 Rj14) (f7_16_eq F Rj13 Rl1 Rj14)
def f7_18(F:Nat)(kj13 kl1:Ty68→Rz)(kj14:(List Li)→Rz):Ty70→Rz:=fun v=>f7_10 F (f7_17 F kj13 kl1 kj14) kj13 kl1 kj14 v
theorem f7_18_eq(F:Nat)(Rj13 Rl1 Rj14:St→Rz):∀ v,XAf7 F (bp Tryd.f7 32039) (ef7j9 v) (kBlock 1 (kSeq (kc V7 Rj13 sp74) (kSeq (kc V7 Rl1 sp74) (kBlock 0 (kSeq (kc V7 Rj14 sp80) Kf54)))))=f7_18 F (Rj13∘ef7j13) (Rl1∘ef7l1) (Rj14∘ef7j14) v:=
 seq_cut (by kernel_rfl) (by kernel_rfl) ef7j9 ef7j10 _ (fun k=>f7_10 F k (Rj13∘ef7j13) (Rl1∘ef7l1) (Rj14∘ef7j14)) (f7_17 F (Rj13∘ef7j13) (Rl1∘ef7l1) (Rj14∘ef7j14))
  (fun Rj10=>f7_10_eq F Rj10 Rj13 Rl1 Rj14) (f7_17_eq F Rj13 Rl1 Rj14)
def f7_19(F:Nat)(kj13 kl1:Ty68→Rz)(kj14:(List Li)→Rz):Ty70→Rz:=fun v=>f7_9 F (f7_18 F kj13 kl1 kj14) kj13 kl1 kj14 v
theorem f7_19_eq(F:Nat)(Rj13 Rl1 Rj14:St→Rz):∀ v,XAf7 F (bp Tryd.f7 16019) (ef7j8 v) (kBlock 1 (kSeq (kc V7 Rj13 sp74) (kSeq (kc V7 Rl1 sp74) (kBlock 0 (kSeq (kc V7 Rj14 sp80) Kf54)))))=f7_19 F (Rj13∘ef7j13) (Rl1∘ef7l1) (Rj14∘ef7j14) v:=
 seq_cut (by kernel_rfl) (by kernel_rfl) ef7j8 ef7j9 _ (fun k=>f7_9 F k (Rj13∘ef7j13) (Rl1∘ef7l1) (Rj14∘ef7j14)) (f7_18 F (Rj13∘ef7j13) (Rl1∘ef7l1) (Rj14∘ef7j14))
  (fun Rj9=>f7_9_eq F Rj9 Rj13 Rl1 Rj14) (f7_18_eq F Rj13 Rl1 Rj14)
def f7_20(F:Nat)(kj13 kl1:Ty68→Rz)(kj14:(List Li)→Rz):Ty69→Rz:=fun v=>f7_8 F (f7_19 F kj13 kl1 kj14) kj13 kl1 kj14 v
theorem f7_20_eq(F:Nat)(Rj13 Rl1 Rj14:St→Rz):∀ v,XAf7 F (bp Tryd.f7 8009) (ef7j7 v) (kBlock 1 (kSeq (kc V7 Rj13 sp74) (kSeq (kc V7 Rl1 sp74) (kBlock 0 (kSeq (kc V7 Rj14 sp80) Kf54)))))=f7_20 F (Rj13∘ef7j13) (Rl1∘ef7l1) (Rj14∘ef7j14) v:=
 seq_cut (by kernel_rfl) (by kernel_rfl) ef7j7 ef7j8 _ (fun k=>f7_8 F k (Rj13∘ef7j13) (Rl1∘ef7l1) (Rj14∘ef7j14)) (f7_19 F (Rj13∘ef7j13) (Rl1∘ef7l1) (Rj14∘ef7j14))
  (fun Rj8=>f7_8_eq F Rj8 Rj13 Rl1 Rj14) (f7_19_eq F Rj13 Rl1 Rj14)
def f7_21(F:Nat)(kj13 kl1:Ty68→Rz)(kj14:(List Li)→Rz):Ty68→Rz:=fun v=>f7_7 F (f7_20 F kj13 kl1 kj14) kj13 kl1 kj14 v
theorem f7_21_eq(F:Nat)(Rj13 Rl1 Rj14:St→Rz):∀ v,XAf7 F (bp Tryd.f7 4004) (ef7j6 v) (kBlock 1 (kSeq (kc V7 Rj13 sp74) (kSeq (kc V7 Rl1 sp74) (kBlock 0 (kSeq (kc V7 Rj14 sp80) Kf54)))))=f7_21 F (Rj13∘ef7j13) (Rl1∘ef7l1) (Rj14∘ef7j14) v:=
 seq_cut (by kernel_rfl) (by kernel_rfl) ef7j6 ef7j7 _ (fun k=>f7_7 F k (Rj13∘ef7j13) (Rl1∘ef7l1) (Rj14∘ef7j14)) (f7_20 F (Rj13∘ef7j13) (Rl1∘ef7l1) (Rj14∘ef7j14))
  (fun Rj7=>f7_7_eq F Rj7 Rj13 Rl1 Rj14) (f7_20_eq F Rj13 Rl1 Rj14)
def f7_22(F:Nat)(kj13 kl1:Ty68→Rz)(kj14:(List Li)→Rz):Ty68→Rz:=f7_21 F kj13 kl1 kj14
theorem f7_22_eq(F:Nat)(Rj13 Rl1 Rj14:St→Rz):∀ v,XAf7 F (bp Tryd.f7 2002) (ef7j6 v) (kSeq (kc V7 Rj13 sp74) (kSeq (kc V7 Rl1 sp74) (kBlock 0 (kSeq (kc V7 Rj14 sp80) Kf54))))=f7_22 F (Rj13∘ef7j13) (Rl1∘ef7l1) (Rj14∘ef7j14) v:=fun v=>
 (block_in  (by kernel_rfl) _ _).trans (f7_21_eq F Rj13 Rl1 Rj14 v)
def f7_23(F:Nat)(kl1:Ty68→Rz)(kj14:(List Li)→Rz):Ty68→Rz:=fun (t0,t1,t7,x4)=>(kl1 (t0,t1,(IntKind.i64.wrap (t7+(1:Int))),x4))
theorem f7_23_eq(F:Nat)(Rl1 Rj14:St→Rz):∀ v,XAf7 F (bp Tryd.f7 2003) (ef7j13 v) (kSeq (kc V7 Rl1 sp74) (kBlock 0 (kSeq (kc V7 Rj14 sp80) Kf54)))=f7_23 F (Rl1∘ef7l1) (Rj14∘ef7j14) v:=by
 rintro⟨t0,t1,t7,x4⟩;kernel_rfl
def f7_24(F:Nat)(kl1:Ty68→Rz)(kj14:(List Li)→Rz):Ty68→Rz:=fun v=>f7_22 F (f7_23 F kl1 kj14) kl1 kj14 v
theorem f7_24_eq(F:Nat)(Rl1 Rj14:St→Rz):∀ v,XAf7 F (bp Tryd.f7 1001) (ef7j6 v) (kSeq (kc V7 Rl1 sp74) (kBlock 0 (kSeq (kc V7 Rj14 sp80) Kf54)))=f7_24 F (Rl1∘ef7l1) (Rj14∘ef7j14) v:=
 seq_cut (by kernel_rfl) (by kernel_rfl) ef7j6 ef7j13 _ (fun k=>f7_22 F k (Rl1∘ef7l1) (Rj14∘ef7j14)) (f7_23 F (Rl1∘ef7l1) (Rj14∘ef7j14))
  (fun Rj13=>f7_22_eq F Rj13 Rl1 Rj14) (f7_23_eq F Rl1 Rj14)
def f7_25(F:Nat)(kl1:Ty68→Rz)(kj14:(List Li)→Rz):Ty68→Rz:=fun v=>f7_6 F (f7_24 F kl1 kj14) kl1 kj14 v
theorem f7_25_eq(F:Nat)(Rl1 Rj14:St→Rz):∀ v,XAf7 F (bp Tryd.f7 500) (ef7l1 v) (kSeq (kc V7 Rl1 sp74) (kBlock 0 (kSeq (kc V7 Rj14 sp80) Kf54)))=f7_25 F (Rl1∘ef7l1) (Rj14∘ef7j14) v:=
 seq_cut (by kernel_rfl) (by kernel_rfl) ef7l1 ef7j6 _ (fun k=>f7_6 F k (Rl1∘ef7l1) (Rj14∘ef7j14)) (f7_24 F (Rl1∘ef7l1) (Rj14∘ef7j14))
  (fun Rj6=>f7_6_eq F Rj6 Rl1 Rj14) (f7_24_eq F Rl1 Rj14)
def f7_26_i:Ty68→Int×Li×Int×(List Li):=fun (t0,t1,t7,x4)=>(t0,t1,t7,x4)
def f7_26(F:Nat)(kj14:(List Li)→Rz):Ty68→Rz:=fun v=>loopN (fun k=>f7_25 F k kj14) F (f7_26_i v)
theorem f7_26_eq(F:Nat)(Rj14:St→Rz):∀ v,XAf7 F (bp Tryd.f7 250) (ef7j5 v) (kBlock 0 (kSeq (kc V7 Rj14 sp80) Kf54))=f7_26 F (Rj14∘ef7j14) v:=
 loop_cut (by kernel_rfl) (by kernel_rfl) ef7j5 ef7l1 _ f7_26_i (fun k=>f7_25 F k (Rj14∘ef7j14))
  (by rintro⟨t0,t1,t7,x4⟩;kernel_rfl) (fun Rl1=>f7_25_eq F Rl1 Rj14)
def f7_27(F:Nat)(kj14:(List Li)→Rz):Ty68→Rz:=f7_26 F kj14
theorem f7_27_eq(F:Nat)(Rj14:St→Rz):∀ v,XAf7 F (bp Tryd.f7 125) (ef7j5 v) (kSeq (kc V7 Rj14 sp80) Kf54)=f7_27 F (Rj14∘ef7j14) v:=fun v=>
 (block_in  (by kernel_rfl) _ _).trans (f7_26_eq F Rj14 v)
def f7_28(F:Nat)(kj14:(List Li)→Rz):Ty67→Rz:=fun v=>f7_5 F (f7_27 F kj14) kj14 v
theorem f7_28_eq(F:Nat)(Rj14:St→Rz):∀ v,XAf7 F (bp Tryd.f7 62) (ef7j4 v) (kSeq (kc V7 Rj14 sp80) Kf54)=f7_28 F (Rj14∘ef7j14) v:=
 seq_cut (by kernel_rfl) (by kernel_rfl) ef7j4 ef7j5 _ (fun k=>f7_5 F k (Rj14∘ef7j14)) (f7_27 F (Rj14∘ef7j14))
  (fun Rj5=>f7_5_eq F Rj5 Rj14) (f7_27_eq F Rj14)
def f7_29(F:Nat):(List Li)→Rz:=fun x1=>(some ((.tup (.cons 0 (.vs (.rS x1) 0 1) (.cons 0 (.int .i64 0) .nil))),[]))
theorem f7_29_eq(F:Nat):∀ v,XAf7 F (bp Tryd.f7 63) (ef7j14 v) Kf54=f7_29 F v:=by
 intro x1;kernel_rfl
def f7_30(F:Nat):Ty67→Rz:=fun v=>f7_28 F (f7_29 F) v
theorem f7_30_eq(F:Nat):∀ v,XAf7 F (bp Tryd.f7 31) (ef7j4 v) Kf54=f7_30 F v:=
 seq_cut (by kernel_rfl) (by kernel_rfl) ef7j4 ef7j14 _ (fun k=>f7_28 F k) (f7_29 F)
  (fun Rj14=>f7_28_eq F Rj14) (f7_29_eq F)
def f7_31(F:Nat):Int×Li→Rz:=fun v=>f7_4 F (f7_30 F) v
theorem f7_31_eq(F:Nat):∀ v,XAf7 F (bp Tryd.f7 15) (ef7j3 v) Kf54=f7_31 F v:=
 seq_cut (by kernel_rfl) (by kernel_rfl) ef7j3 ef7j4 _ (fun k=>f7_4 F k) (f7_30 F)
  (fun Rj4=>f7_4_eq F Rj4) (f7_30_eq F)
def f7_32(F:Nat):Int×Li→Rz:=fun v=>f7_3 F (f7_31 F) v
theorem f7_32_eq(F:Nat):∀ v,XAf7 F (bp Tryd.f7 7) (ef7j2 v) Kf54=f7_32 F v:=
 seq_cut (by kernel_rfl) (by kernel_rfl) ef7j2 ef7j3 _ (fun k=>f7_3 F k) (f7_31 F)
  (fun Rj3=>f7_3_eq F Rj3) (f7_31_eq F)
def f7_33(F:Nat):Int×Li→Rz:=fun v=>f7_2 F (f7_32 F) v
theorem f7_33_eq(F:Nat):∀ v,XAf7 F (bp Tryd.f7 3) (ef7j1 v) Kf54=f7_33 F v:=
 seq_cut (by kernel_rfl) (by kernel_rfl) ef7j1 ef7j2 _ (fun k=>f7_2 F k) (f7_32 F)
  (fun Rj2=>f7_2_eq F Rj2) (f7_32_eq F)
def f7_34(F:Nat):Int×Li→Rz:=fun v=>f7_1 F (f7_33 F) v
theorem f7_34_eq(F:Nat):∀ v,XAf7 F (sub (bodyOf Tryd.f7) []) (ef7_a v) Kf54=f7_34 F v:=
 seq_cut (by kernel_rfl) (by kernel_rfl) ef7_a ef7j1 _ (fun k=>f7_1 F k) (f7_33 F)
  (fun Rj1=>f7_1_eq F Rj1) (f7_33_eq F)
def f7(F:Nat):Int×Li→Rz:=f7_34 F
theorem f7_body(F:Nat)(a0:Int)(a1:Li):abody V7 (Af7 F) Tryd.f7 [(.int .i64 a0),.str a1] []=f7 F (a0,a1):=
 (abody_in (by kernel_rfl) (by kernel_rfl)).trans (f7_34_eq F (a0,a1))
def r7:CRun:=fun X H=>match X,H with
 | [(.int .i64 a0),.str a1],[]=>some ((decide (a1.length < 1073730000)),(.tup (.cons 0 (.vs (.rS (Jr.pack a0 a1).1) 0 1) (.cons 0 (.int .i64 (Jr.pack a0 a1).2) .nil))),[])
 | _,_=>none
theorem s7(a0:Int)(a1:Li)(hp:((decide (a1.length < 1073730000)))=true)(h0:okV (.int .i64 a0))(h1:okV (.str a1)):∃ F,f7 F (a0,a1)=some ((.tup (.cons 0 (.vs (.rS (Jr.pack a0 a1).1) 0 1) (.cons 0 (.int .i64 (Jr.pack a0 a1).2) .nil))),[]):=by
 have hl:=of_decide_eq_true hp
 refine⟨200,?_⟩
 simp only [f7,f7_34,f7_1,f7_33,f7_2,f7_32,f7_3,f7_31,f7_4,f7_30,f7_5,f7_27,f7_26,f7_26_i,f7_28]
 by_cases c1:a0 < 1
 ·rw [cond_pos c1,Jr.pack,cond_pos (.inl c1)]
 by_cases c2:a0 > 4096
 ·rw [cond_neg c1,cond_pos c2,Jr.pack,cond_pos (.inr c2)]
 by_cases c3:(a1.length:Int) > 8000
 ·rw [cond_neg c1,cond_neg c2,cond_pos c3,Jr.pack,cond_neg (by omega),cond_pos c3]
 rw [cond_neg c1,cond_neg c2,cond_neg c3,Jr.pack,cond_neg (by omega),cond_neg (by omega)]
 obtain⟨k1,k2,k3,k4,k5⟩:=Jr.count_ok (show a1.length≤8000 by omega)
 refine loopN_from (fun i=>(a0,a1,(i:Int),(List.range i).map (Jr.sector a0 a1))) (Jr.count a1.length).toNat (by simp) (fun i hi k=>?_) (fun k=>?_) 200 (by omega)
 ·simp only [f7_25,f7_6]
  rw [cond_pos (by omega)]
  simp only [f7_24,f7_22,f7_21,f7_7,dec_and]
  rw [i64w (x:=48*(i:Int)) (by omega) (by omega),cond_pos (by omega)]
  have er:(a1.take a1.length).drop ((48:Int)*(i:Int)).toNat=Jr.rest a1 i:=by rw [List.take_length,Jr.rest];congr 1
  have rl:=Jr.rest_len a1 i
  rw [er]
  have hf:Jr.front a0 a1 i=Jr.small a0 4++Jr.small (i:Int) 2++Jr.small ((Jr.rest a1 i).length:Int) 2++Jr.fill (Jr.rest a1 i):=rfl
  generalize Jr.rest a1 i=r at *
  simp only [f7_20,f7_8,dec_and]
  rw [cond_pos (by omega)]
  simp only [f7_19,f7_9,dec_and]
  rw [cond_pos (by omega),cond_pos (by rw [Jr.small_len,Jr.small_len];decide)]
  simp only [f7_18,f7_10,dec_and]
  rw [cond_pos (by omega),cond_pos (by rw [List.length_append,Jr.small_len,Jr.small_len,Jr.small_len];decide)]
  simp only [f7_17,f7_15,f7_11,f7_14,f7_13,f7_13_i]
  have e4:Int.toNat (4:Int)=4:=rfl
  have e2:Int.toNat (2:Int)=2:=rfl
  rw [e4,e2]
  have hbl:(Jr.small a0 4++Jr.small (i:Int) 2++Jr.small (r.length:Int) 2).length=8:=by simp only [List.length_append,Jr.small_len]
  generalize Jr.small a0 4++Jr.small (i:Int) 2++Jr.small (r.length:Int) 2=b at *
  refine loopN_from (fun j=>(a0,a1,(i:Int),r,(j:Int),(List.range i).map (Jr.sector a0 a1),b++(List.range j).map fun q=>r.getD q 0)) 48 (by simp) (fun j hj q=>?_) (fun q=>?_) 200 (by omega)
  ·simp only [f7_12,dec_and,Int.toNat_natCast]
   rw [cond_pos (by omega)]
   have hlen:(b++(List.range j).map fun q=>r.getD q 0).length=8+j:=by rw [List.length_append,hbl,List.length_map,List.length_range]
   have es:(b++(List.range j).map fun q=>r.getD q 0)++[r.getD j 0]=b++(List.range (j+1)).map fun q=>r.getD q 0:=by rw [List.range_succ,List.map_append,← List.append_assoc];rfl
   by_cases hr:(j:Int) < (r.length:Int)
   ·rw [cond_pos hr,cond_pos (by omega),cond_pos (by omega),i64w (by omega) (by omega),es];rfl
   ·have e0:r.getD j 0=0:=by rw [List.getD_eq_getElem?_getD,List.getElem?_eq_none (by omega)];rfl
    rw [e0] at es
    rw [cond_neg hr,cond_pos (by omega),i64w (by omega) (by omega),es];rfl
  ·simp only [f7_12]
   rw [cond_neg (by omega),Jr.fill_map]
   simp only [f7_16,f7_23]
   rw [cond_pos (by rw [List.length_append,hbl,Jr.fill_len];decide),cond_pos (by rw [List.length_map,List.length_range];omega),i64w (by omega) (by omega),← hf,List.range_succ,List.map_append]
   rfl
 ·simp only [f7_25,f7_6]
  rw [cond_neg (by omega)]
  simp only [f7_29]
  rfl
theorem c7:CallOk Tryd.prog G37 7 r7:=callOk_of mixed tys eV7 Tryd.func7 (by kernel_rfl) (c:=sub (bodyOf Tryd.f7) []) (by kernel_rfl) (by
 intro X H r H' h hX hH
 unfold r7 at h;split at h <;> try contradiction
 ·obtain⟨hp,rfl,rfl⟩:=inj3 h
  obtain⟨F,hF⟩:=s7 _ _ hp (hX _ hm0) (hX _ hm1)
  exact⟨Af7 F,(f7_body F _ _).trans hF⟩)
end Go.Am
end
section
namespace Go.Am
open Go Go.Proofs
abbrev sp81:List (Nat×Md):=[(0,.plain),(1,.plain),(2,.plain),(19,.plain)]
abbrev sp82:List (Nat×Md):=[(0,.plain),(1,.plain),(2,.plain),(7,.plain),(8,.plain)]
abbrev sp83:List (Nat×Md):=[(0,.plain),(1,.plain),(2,.plain),(7,.plain),(8,.plain),(9,.plain),(10,.plain)]
abbrev sp84:List (Nat×Md):=[(0,.plain),(1,.plain),(2,.plain),(7,.plain),(8,.plain),(9,.plain),(10,.plain),(11,.plain),(12,.plain),(13,.plain),(14,.plain),(15,.plain)]
abbrev sp85:List (Nat×Md):=[(0,.plain),(1,.plain),(7,.plain),(8,.plain),(9,.plain),(10,.plain),(11,.plain),(12,.plain),(13,.plain),(14,.plain),(15,.plain),(16,.plain)]
abbrev Ty73:=Int×Li×Li×Bool
abbrev Ty74:=Int×Li×Li×(List Li)×Int
abbrev Ty75:=Int×Li×Li×(List Li)×Int×(List Li)×Int
abbrev Ty76:=Int×Li×Li×(List Li)×Int×(List Li)×Int×Int×Int×Int×Li×Bool
abbrev Ty77:=Int×Li×(List Li)×Int×(List Li)×Int×Int×Int×Int×Li×Bool×Int×Int×Int×Li×Bool
def lV3:List CEnt:=[(5,[],r5),(6,[none,none],r6),(7,[none,none],r7),(8,[none],r8),(9,[none],r9),(10,[some 9,some 9],r10),(11,[none],r11),(12,[none],r12)]
def V3:Env:=mkEnv T36 G37 lV3
noncomputable abbrev Kf55:=kFin V3 none (Tryd.f3).results.toList
theorem eV3:EOk Tryd.prog V3:=eok_mk (by exact⟨c5.more gsub,c6.more gsub,c7,c8.more gsub,c9,c10.more gsub,c11.more gsub,c12.more gsub,trivial⟩)
def Af3(F:Nat):Cuts:={ F:=F,at_:=fun _=>none,join:=fun n=>match n with | 1019=>some sp51 | 2005=>some sp81 | 3011=>some sp51 | 4009=>some sp82 | 5007=>some sp83 | 6005=>some sp84 | 7003=>some sp85 | _=>none }
noncomputable abbrev XAf3(F:Nat){α:Type}:=@aexec α V3 (Af3 F)
def ef3_a:Ty18→St:=fun (a0,a1,a2)=>⟨[(0,.int .i64 a0),(1,.str a1),(2,.str a2)],[],0,80,0⟩
def ef3j1:Ty18→St:=fun (t0,t1,t2)=>⟨[(0,.int .i64 t0),(1,.str t1),(2,.str t2)],[],0,80,0⟩
def ef3j2:Ty73→St:=fun (t0,t1,t2,t19)=>⟨[(0,.int .i64 t0),(1,.str t1),(2,.str t2),(19,.bool t19)],[],0,80,0⟩
def ef3j3:Ty18→St:=ef3j1
def ef3j4:Ty74→St:=fun (t0,t1,t2,t7,t8)=>⟨[(0,.int .i64 t0),(1,.str t1),(2,.str t2),(7,(.vs (.rS t7) 0 1)),(8,.int .i64 t8)],[],0,80,0⟩
def ef3j5:Ty75→St:=fun (t0,t1,t2,t7,t8,t9,t10)=>⟨[(0,.int .i64 t0),(1,.str t1),(2,.str t2),(7,(.vs (.rS t7) 0 1)),(8,.int .i64 t8),(9,(.vs (.rS t9) 0 1)),(10,.int .i64 t10)],[],0,80,0⟩
def ef3j6:Ty76→St:=fun (t0,t1,t2,t7,t8,t9,t10,t11,t12,t13,t14,t15)=>⟨[(0,.int .i64 t0),(1,.str t1),(2,.str t2),(7,(.vs (.rS t7) 0 1)),(8,.int .i64 t8),(9,(.vs (.rS t9) 0 1)),(10,.int .i64 t10),(11,.int .i64 t11),(12,.int .i64 t12),(13,.int .i64 t13),(14,.str t14),(15,.bool t15)],[],0,80,0⟩
def ef3j7:Ty77→St:=fun (t0,t1,t7,t8,t9,t10,t11,t12,t13,t14,t15,x12,x13,x14,x15,x16)=>⟨[(0,.int .i64 t0),(1,.str t1),(7,(.vs (.rS t7) 0 1)),(8,.int .i64 t8),(9,(.vs (.rS t9) 0 1)),(10,.int .i64 t10),(11,.int .i64 t11),(12,.int .i64 t12),(13,.int .i64 t13),(14,.str t14),(15,.bool t15),(16,.ptr 0 0 5 0 0 0 5)],[(0,(.cells 5 (.segs (.cons 1 (.one (.int .i64 x12)) (.cons 1 (.one (.int .i64 x13)) (.cons 1 (.one (.int .i64 x14)) (.cons 1 (.one (.str x15)) (.cons 1 (.one (.bool x16)) .nil)))))) true))],1,80,0⟩
def f3_1(F:Nat)(kj1:Ty18→Rz):Ty18→Rz:=fun (a0,a1,a2)=>(kj1 (a0,a1,a2))
theorem f3_1_eq(F:Nat)(Rj1:St→Rz):∀ v,XAf3 F (bp Tryd.f3 2) (ef3_a v) (kSeq (kc V3 Rj1 sp51) Kf55)=f3_1 F (Rj1∘ef3j1) v:=by
 rintro⟨a0,a1,a2⟩;kernel_rfl
def f3_2(F:Nat)(kj2:Ty73→Rz)(kj3:Ty18→Rz):Ty18→Rz:=fun (t0,t1,t2)=>(kj2 (t0,t1,t2,(decide ((↑t1.length:Int) > (9000:Int)))))
theorem f3_2_eq(F:Nat)(Rj2 Rj3:St→Rz):∀ v,XAf3 F (bp Tryd.f3 12) (ef3j1 v) (kSeq (kc V3 Rj2 sp81) (kSeq (kc V3 Rj3 sp51) Kf55))=f3_2 F (Rj2∘ef3j2) (Rj3∘ef3j3) v:=by
 rintro⟨t0,t1,t2⟩;kernel_rfl
def f3_3(F:Nat)(kj3:Ty18→Rz):Ty73→Rz:=fun (t0,t1,t2,t19)=>(cond t19 (some ((.bool true),[])) (kj3 (t0,t1,t2)))
theorem f3_3_eq(F:Nat)(Rj3:St→Rz):∀ v,XAf3 F (bp Tryd.f3 13) (ef3j2 v) (kSeq (kc V3 Rj3 sp51) Kf55)=f3_3 F (Rj3∘ef3j3) v:=by
 rintro⟨t0,t1,t2,t19⟩;kernel_rfl
def f3_4(F:Nat)(kj3:Ty18→Rz):Ty18→Rz:=fun v=>f3_2 F (f3_3 F kj3) kj3 v
theorem f3_4_eq(F:Nat)(Rj3:St→Rz):∀ v,XAf3 F (bp Tryd.f3 6) (ef3j1 v) (kSeq (kc V3 Rj3 sp51) Kf55)=f3_4 F (Rj3∘ef3j3) v:=
 seq_cut (by kernel_rfl) (by kernel_rfl) ef3j1 ef3j2 _ (fun k=>f3_2 F k (Rj3∘ef3j3)) (f3_3 F (Rj3∘ef3j3))
  (fun Rj2=>f3_2_eq F Rj2 Rj3) (f3_3_eq F Rj3)
def f3_5(F:Nat)(kj4:Ty74→Rz):Ty18→Rz:=fun (t0,t1,t2)=>(kj4 (t0,t1,t2,(Jr.pack t0 t1).1,(Jr.pack t0 t1).2))
theorem f3_5_eq(F:Nat)(Rj4:St→Rz):∀ v,XAf3 F (bp Tryd.f3 14) (ef3j3 v) (kSeq (kc V3 Rj4 sp82) Kf55)=f3_5 F (Rj4∘ef3j4) v:=by
 rintro⟨t0,t1,t2⟩;kernel_rfl
def f3_6(F:Nat)(kj5:Ty75→Rz):Ty74→Rz:=fun (t0,t1,t2,t7,t8)=>(cond (decide (t1.length < 1073730000)) (kj5 (t0,t1,t2,t7,t8,(Jr.pack t0 t1).1,(Jr.pack t0 t1).2)) none)
theorem f3_6_eq(F:Nat)(Rj5:St→Rz):∀ v,XAf3 F (bp Tryd.f3 30) (ef3j4 v) (kSeq (kc V3 Rj5 sp83) Kf55)=f3_6 F (Rj5∘ef3j5) v:=by
 rintro⟨t0,t1,t2,t7,t8⟩;kernel_rfl
def f3_7(F:Nat)(kj6:Ty76→Rz):Ty75→Rz:=fun (t0,t1,t2,t7,t8,t9,t10)=>(kj6 (t0,t1,t2,t7,t8,t9,t10,(Jr.unpack t2).number,(Jr.unpack t2).part,(Jr.unpack t2).left,(Jr.unpack t2).payload,(Jr.unpack t2).ok))
theorem f3_7_eq(F:Nat)(Rj6:St→Rz):∀ v,XAf3 F (bp Tryd.f3 62) (ef3j5 v) (kSeq (kc V3 Rj6 sp84) Kf55)=f3_7 F (Rj6∘ef3j6) v:=by
 rintro⟨t0,t1,t2,t7,t8,t9,t10⟩;kernel_rfl
def f3_8(F:Nat)(kj7:Ty77→Rz):Ty76→Rz:=fun (t0,t1,t2,t7,t8,t9,t10,t11,t12,t13,t14,t15)=>(kj7 (t0,t1,t7,t8,t9,t10,t11,t12,t13,t14,t15,(Jr.unpack t2).number,(Jr.unpack t2).part,(Jr.unpack t2).left,(Jr.unpack t2).payload,(Jr.unpack t2).ok))
theorem f3_8_eq(F:Nat)(Rj7:St→Rz):∀ v,XAf3 F (bp Tryd.f3 126) (ef3j6 v) (kSeq (kc V3 Rj7 sp85) Kf55)=f3_8 F (Rj7∘ef3j7) v:=by
 rintro⟨t0,t1,t2,t7,t8,t9,t10,t11,t12,t13,t14,t15⟩;kernel_rfl
def f3_9(F:Nat):Ty77→Rz:=fun (t0,t1,t7,t8,t9,t10,t11,t12,t13,t14,t15,x12,x13,x14,x15,x16)=>(cond (decide (t7.length < 1073741824)) (cond (t7==t9) (cond (t8==t10) (cond ((t11==x12)&&((t12==x13)&&((t13==x14)&&(((t14:Li)==(x15:Li))&&((t15==x16)&&true))))) (cond ((Jr.count (↑t1.length:Int))==(Jr.count (↑t1.length:Int))) (some ((.bool ((Jr.count t0)==(Jr.count t0))),[])) (some ((.bool false),[]))) (some ((.bool false),[]))) (some ((.bool false),[]))) (some ((.bool false),[]))) none)
theorem f3_9_eq(F:Nat):∀ v,XAf3 F (bp Tryd.f3 127) (ef3j7 v) Kf55=f3_9 F v:=by
 rintro⟨t0,t1,t7,t8,t9,t10,t11,t12,t13,t14,t15,x12,x13,x14,x15,x16⟩;kernel_rfl
def f3_10(F:Nat):Ty76→Rz:=fun v=>f3_8 F (f3_9 F) v
theorem f3_10_eq(F:Nat):∀ v,XAf3 F (bp Tryd.f3 63) (ef3j6 v) Kf55=f3_10 F v:=
 seq_cut (by kernel_rfl) (by kernel_rfl) ef3j6 ef3j7 _ (fun k=>f3_8 F k) (f3_9 F)
  (fun Rj7=>f3_8_eq F Rj7) (f3_9_eq F)
def f3_11(F:Nat):Ty75→Rz:=fun v=>f3_7 F (f3_10 F) v
theorem f3_11_eq(F:Nat):∀ v,XAf3 F (bp Tryd.f3 31) (ef3j5 v) Kf55=f3_11 F v:=
 seq_cut (by kernel_rfl) (by kernel_rfl) ef3j5 ef3j6 _ (fun k=>f3_7 F k) (f3_10 F)
  (fun Rj6=>f3_7_eq F Rj6) (f3_10_eq F)
def f3_12(F:Nat):Ty74→Rz:=fun v=>f3_6 F (f3_11 F) v
theorem f3_12_eq(F:Nat):∀ v,XAf3 F (bp Tryd.f3 15) (ef3j4 v) Kf55=f3_12 F v:=
 seq_cut (by kernel_rfl) (by kernel_rfl) ef3j4 ef3j5 _ (fun k=>f3_6 F k) (f3_11 F)
  (fun Rj5=>f3_6_eq F Rj5) (f3_11_eq F)
def f3_13(F:Nat):Ty18→Rz:=fun v=>f3_5 F (f3_12 F) v
theorem f3_13_eq(F:Nat):∀ v,XAf3 F (bp Tryd.f3 7) (ef3j3 v) Kf55=f3_13 F v:=
 seq_cut (by kernel_rfl) (by kernel_rfl) ef3j3 ef3j4 _ (fun k=>f3_5 F k) (f3_12 F)
  (fun Rj4=>f3_5_eq F Rj4) (f3_12_eq F)
def f3_14(F:Nat):Ty18→Rz:=fun v=>f3_4 F (f3_13 F) v
theorem f3_14_eq(F:Nat):∀ v,XAf3 F (bp Tryd.f3 3) (ef3j1 v) Kf55=f3_14 F v:=
 seq_cut (by kernel_rfl) (by kernel_rfl) ef3j1 ef3j3 _ (fun k=>f3_4 F k) (f3_13 F)
  (fun Rj3=>f3_4_eq F Rj3) (f3_13_eq F)
def f3_15(F:Nat):Ty18→Rz:=fun v=>f3_1 F (f3_14 F) v
theorem f3_15_eq(F:Nat):∀ v,XAf3 F (sub (bodyOf Tryd.f3) []) (ef3_a v) Kf55=f3_15 F v:=
 seq_cut (by kernel_rfl) (by kernel_rfl) ef3_a ef3j1 _ (fun k=>f3_1 F k) (f3_14 F)
  (fun Rj1=>f3_1_eq F Rj1) (f3_14_eq F)
def f3(F:Nat):Ty18→Rz:=f3_15 F
theorem f3_body(F:Nat)(a0:Int)(a1 a2:Li):abody V3 (Af3 F) Tryd.f3 [(.int .i64 a0),.str a1,.str a2] []=f3 F (a0,a1,a2):=
 (abody_in (by kernel_rfl) (by kernel_rfl)).trans (f3_15_eq F (a0,a1,a2))
def r3:CRun:=fun X H=>match X,H with
 | [(.int .i64 a0),.str a1,.str a2],[]=>some (true,.bool true,[])
 | _,_=>none
theorem s3(a0:Int)(a1 a2:Li)(h0:okV (.int .i64 a0))(h1:okV (.str a1))(h2:okV (.str a2)):∃ F,f3 F (a0,a1,a2)=some ((.bool true),[]):=by
 refine⟨0,?_⟩
 simp only [f3,f3_15,f3_1,f3_14,f3_4,f3_2,f3_3]
 by_cases h:(a1.length:Int) > (9000:Int)
 ·rw [decide_eq_true h];rfl
 rw [decide_eq_false h,cond_false]
 have hl:(Jr.pack a0 a1).1.length < 1073741824:=by
  unfold Jr.pack
  cases decide (a0 < 1∨4096 < a0) with
  | true=>exact(by decide:(0:Nat) < 1073741824)
  | false=>
   by_cases h8:(8000:Int) < a1.length
   ·rw [cond_false,decide_eq_true h8];exact(by decide:(0:Nat) < 1073741824)
   ·rw [cond_false,decide_eq_false h8]
    show(Jr.sectors a0 a1).length < 1073741824
    have:=Jr.count_ok (n:=a1.length) (by omega)
    rw [Jr.sectors_len];omega
 simp only [f3_13,f3_5,f3_12,f3_6,f3_11,f3_7,f3_10,f3_8,f3_9]
 rw [cond_pos (by omega),cond_pos hl]
 simp only [beq_self_eq_true,cond_true,Bool.and_self]
theorem c3:CallOk Tryd.prog G37 3 r3:=callOk_of mixed tys eV3 Tryd.func3 (by kernel_rfl) (c:=sub (bodyOf Tryd.f3) []) (by kernel_rfl) (by
 intro X H r H' h hX hH
 unfold r3 at h;split at h <;> try contradiction
 ·obtain⟨hp,rfl,rfl⟩:=inj3 h
  obtain⟨F,hF⟩:=s3 _ _ _ (hX _ hm0) (hX _ hm1) (hX _ hm2)
  exact⟨Af3 F,(f3_body F _ _ _).trans hF⟩)
end Go.Am
end