/- Part of a proof. -/
import Derived.Test.YtffddoahjpemaaaGreatDoorAm36ZD
import Derived.Test.YtffddoahjpemaaaGreatDoorAmJrn7
import Derived.Test.YtffddoahjpemaaaGreatDoorAm36ZR
set_option linter.unusedSimpArgs false
set_option linter.unusedVariables false
section
namespace Go.Am
open Go Go.Proofs
abbrev sp75:List(Nat×Md):=[(0,.plain),(2,.plain),(3,.plain),(4,.plain),(5,.plain)]
abbrev Ty70:=Li×Int×Int×Int×Li×Bool
abbrev Ty71:=Li×Int×Int×Int×Li×Bool×Int×Int×Int×Li×Bool
abbrev Ty72:=Li×Int×Int×Int×Int×Li×Bool×Int×Int×Int×Li×Bool
abbrev Ty73:=Li×Int×Int×Int×Int×Int×Li×Bool×Int×Int×Int×Li×Bool
def lV52:List CEnt:=[(82,[none],r82),(83,[some 5],r83)]
def V52:Env:=mkEnv T36Z G37Z lV52
noncomputable abbrev Kf61:=kFin V52 none(Tryz.f52).results.toList
theorem eV52:EOk Tryz.prog V52:=eok_mk(by exact⟨c82.more gsub,c83,trivial⟩)
def Af52(F:Nat):Cuts:={ F:=F,at_:=fun n=>match n with | 10016=>some sp75 | _=>none,join:=fun n=>match n with | 1052=>some sp23 | 3044=>some sp23 | 4042=>some sp2 | 6034=>some sp2 | 7032=>some sp21 | 9026=>some sp21 | 10018=>some sp75 | 14005=>some sp21 | _=>none }
noncomputable abbrev XAf52(F:Nat) {α:Type}:=@aexec α V52(Af52 F)
def ef52_a:Li→St:=fun a0=>⟨[(0,.str a0)],[],0,77,0⟩
def ef52j1:Ty70→St:=fun(t0,x2,x3,x4,x5,x6)=>⟨[(0,.str t0),(2,.ptr 0 0 5 0 0 0 5)],[(0,(.cells 5(.segs(.cons 1(.one(.int .i64 x2))(.cons 1(.one(.int .i64 x3))(.cons 1(.one(.int .i64 x4))(.cons 1(.one(.str x5))(.cons 1(.one(.bool x6)) .nil)))))) true))],1,77,0⟩
def ef52j2:Ty70→St:=ef52j1
def ef52j3:Ty71→St:=fun(t0,x2,x3,x4,x5,x6,x7,x8,x9,x10,x11)=>⟨[(0,.str t0),(2,.ptr 0 0 5 0 0 0 5),(3,.ptr 1 0 5 0 0 0 5)],[(0,(.cells 5(.segs(.cons 1(.one(.int .i64 x2))(.cons 1(.one(.int .i64 x3))(.cons 1(.one(.int .i64 x4))(.cons 1(.one(.str x5))(.cons 1(.one(.bool x6)) .nil)))))) true)),(1,(.cells 5(.segs(.cons 1(.one(.int .i64 x7))(.cons 1(.one(.int .i64 x8))(.cons 1(.one(.int .i64 x9))(.cons 1(.one(.str x10))(.cons 1(.one(.bool x11)) .nil)))))) true))],2,77,0⟩
def ef52j4:Ty71→St:=ef52j3
def ef52j5:Ty72→St:=fun(t0,t4,x3,x4,x5,x6,x7,x8,x9,x10,x11,x12)=>⟨[(0,.str t0),(2,.ptr 0 0 5 0 0 0 5),(3,.ptr 1 0 5 0 0 0 5),(4,.int .i64 t4)],[(0,(.cells 5(.segs(.cons 1(.one(.int .i64 x3))(.cons 1(.one(.int .i64 x4))(.cons 1(.one(.int .i64 x5))(.cons 1(.one(.str x6))(.cons 1(.one(.bool x7)) .nil)))))) true)),(1,(.cells 5(.segs(.cons 1(.one(.int .i64 x8))(.cons 1(.one(.int .i64 x9))(.cons 1(.one(.int .i64 x10))(.cons 1(.one(.str x11))(.cons 1(.one(.bool x12)) .nil)))))) true))],2,77,0⟩
def ef52j6:Ty72→St:=ef52j5
def ef52j7:Ty73→St:=fun(t0,t4,t5,x4,x5,x6,x7,x8,x9,x10,x11,x12,x13)=>⟨[(0,.str t0),(2,.ptr 0 0 5 0 0 0 5),(3,.ptr 1 0 5 0 0 0 5),(4,.int .i64 t4),(5,.int .i64 t5)],[(0,(.cells 5(.segs(.cons 1(.one(.int .i64 x4))(.cons 1(.one(.int .i64 x5))(.cons 1(.one(.int .i64 x6))(.cons 1(.one(.str x7))(.cons 1(.one(.bool x8)) .nil)))))) true)),(1,(.cells 5(.segs(.cons 1(.one(.int .i64 x9))(.cons 1(.one(.int .i64 x10))(.cons 1(.one(.int .i64 x11))(.cons 1(.one(.str x12))(.cons 1(.one(.bool x13)) .nil)))))) true))],2,77,0⟩
def ef52l1:Ty73→St:=ef52j7
def ef52j8:Ty72→St:=ef52j5
def f52_1(F:Nat)(kj1:Ty70→Rz):Li→Rz:=fun a0=>(kj1(a0,(0:Int),(0:Int),(0:Int),[],false))
theorem f52_1_eq(F:Nat)(Rj1:St→Rz):∀ v,XAf52 F(bp Tryz.f52 2)(ef52_a v)(kSeq(kc V52 Rj1 sp23) Kf61)=f52_1 F(Rj1∘ef52j1) v:=by
 intro a0;kernel_rfl
def f52_2(F:Nat)(kj2:Ty70→Rz):Ty70→Rz:=fun(t0,x2,x3,x4,x5,x6)=>(cond((↑t0.length:Int) != (64:Int))(some((.agg 5(.segs(.cons 1(.one(.int .i64 0))(.cons 1(.one(.int .i64 0))(.cons 1(.one(.int .i64 0))(.cons 1(.one(.str []))(.cons 1(.one(.bool false)) .nil))))))),[]))(kj2(t0,x2,x3,x4,x5,x6)))
theorem f52_2_eq(F:Nat)(Rj2:St→Rz):∀ v,XAf52 F(bp Tryz.f52 6)(ef52j1 v)(kSeq(kc V52 Rj2 sp23) Kf61)=f52_2 F(Rj2∘ef52j2) v:=by
 rintro⟨t0,x2,x3,x4,x5,x6⟩;kernel_rfl
def f52_3(F:Nat)(kj3:Ty71→Rz):Ty70→Rz:=fun(t0,x2,x3,x4,x5,x6)=>(cond(decide((4:Int)≤(↑t0.length:Int)))(cond(decide((t0.take 4).length≤4))(cond(decide((6:Int)≤(↑t0.length:Int)))(cond(decide(((t0.take 6).drop 4).length≤4))(cond(decide((8:Int)≤(↑t0.length:Int)))(cond(decide(((t0.take 8).drop 6).length≤4))(kj3(t0,x2,x3,x4,x5,x6,(Jr.num(t0.take 4)),(Jr.num((t0.take 6).drop 4)),(Jr.num((t0.take 8).drop 6)),[],true)) none) none) none) none) none) none)
theorem f52_3_eq(F:Nat)(Rj3:St→Rz):∀ v,XAf52 F(bp Tryz.f52 14)(ef52j2 v)(kSeq(kc V52 Rj3 sp2) Kf61)=f52_3 F(Rj3∘ef52j3) v:=by
 rintro⟨t0,x2,x3,x4,x5,x6⟩;kernel_rfl
def f52_4(F:Nat)(kj4:Ty71→Rz):Ty71→Rz:=fun(t0,x2,x3,x4,x5,x6,x7,x8,x9,x10,x11)=>(cond(decide((56:Int)≤(↑t0.length:Int)))(cond(decide((t0.take 56).length < 1073730000))(cond(!(((Jr.checked(t0.take 56)):Li)==(t0:Li)))(some((.agg 5(.segs(.cons 1(.one(.int .i64 0))(.cons 1(.one(.int .i64 0))(.cons 1(.one(.int .i64 0))(.cons 1(.one(.str []))(.cons 1(.one(.bool false)) .nil))))))),[]))(cond(decide(x7 < (1:Int)))(some((.agg 5(.segs(.cons 1(.one(.int .i64 0))(.cons 1(.one(.int .i64 0))(.cons 1(.one(.int .i64 0))(.cons 1(.one(.str []))(.cons 1(.one(.bool false)) .nil))))))),[]))(cond(decide(x7 > (4096:Int)))(some((.agg 5(.segs(.cons 1(.one(.int .i64 0))(.cons 1(.one(.int .i64 0))(.cons 1(.one(.int .i64 0))(.cons 1(.one(.str []))(.cons 1(.one(.bool false)) .nil))))))),[]))(cond(decide((IntKind.i64.wrap((IntKind.i64.wrap((48:Int)*x8))+x9)) > (8000:Int)))(some((.agg 5(.segs(.cons 1(.one(.int .i64 0))(.cons 1(.one(.int .i64 0))(.cons 1(.one(.int .i64 0))(.cons 1(.one(.str []))(.cons 1(.one(.bool false)) .nil))))))),[]))(cond(decide(x9 < (1:Int)))(cond(decide(x8 > (0:Int)))(some((.agg 5(.segs(.cons 1(.one(.int .i64 0))(.cons 1(.one(.int .i64 0))(.cons 1(.one(.int .i64 0))(.cons 1(.one(.str []))(.cons 1(.one(.bool false)) .nil))))))),[]))(kj4(t0,x2,x3,x4,x5,x6,x7,x8,x9,x10,x11)))(kj4(t0,x2,x3,x4,x5,x6,x7,x8,x9,x10,x11))))))) none) none)
theorem f52_4_eq(F:Nat)(Rj4:St→Rz):∀ v,XAf52 F(bp Tryz.f52 30)(ef52j3 v)(kSeq(kc V52 Rj4 sp2) Kf61)=f52_4 F(Rj4∘ef52j4) v:=by
 rintro⟨t0,x2,x3,x4,x5,x6,x7,x8,x9,x10,x11⟩;kernel_rfl
def f52_5(F:Nat)(kj5:Ty72→Rz):Ty71→Rz:=fun(t0,x2,x3,x4,x5,x6,x7,x8,x9,x10,x11)=>(kj5(t0,x9,x2,x3,x4,x5,x6,x7,x8,x9,x10,x11))
theorem f52_5_eq(F:Nat)(Rj5:St→Rz):∀ v,XAf52 F(bp Tryz.f52 62)(ef52j4 v)(kSeq(kc V52 Rj5 sp21) Kf61)=f52_5 F(Rj5∘ef52j5) v:=by
 rintro⟨t0,x2,x3,x4,x5,x6,x7,x8,x9,x10,x11⟩;kernel_rfl
def f52_6(F:Nat)(kj6:Ty72→Rz):Ty72→Rz:=fun(t0,t4,x3,x4,x5,x6,x7,x8,x9,x10,x11,x12)=>(cond(decide(t4 > (48:Int)))(kj6(t0,(48:Int),x3,x4,x5,x6,x7,x8,x9,x10,x11,x12))(kj6(t0,t4,x3,x4,x5,x6,x7,x8,x9,x10,x11,x12)))
theorem f52_6_eq(F:Nat)(Rj6:St→Rz):∀ v,XAf52 F(bp Tryz.f52 126)(ef52j5 v)(kSeq(kc V52 Rj6 sp21) Kf61)=f52_6 F(Rj6∘ef52j6) v:=by
 rintro⟨t0,t4,x3,x4,x5,x6,x7,x8,x9,x10,x11,x12⟩;kernel_rfl
def f52_7(F:Nat)(kj7:Ty73→Rz)(kj8:Ty72→Rz):Ty72→Rz:=fun(t0,t4,x3,x4,x5,x6,x7,x8,x9,x10,x11,x12)=>(kj7(t0,t4,(IntKind.i64.wrap((8:Int)+t4)),x3,x4,x5,x6,x7,x8,x9,x10,x11,x12))
theorem f52_7_eq(F:Nat)(Rj7 Rj8:St→Rz):∀ v,XAf52 F(bp Tryz.f52 508)(ef52j6 v)(kSeq(kc V52 Rj7 sp75)(kSeq(kc V52 Rj8 sp21) Kf61))=f52_7 F(Rj7∘ef52j7)(Rj8∘ef52j8) v:=by
 rintro⟨t0,t4,x3,x4,x5,x6,x7,x8,x9,x10,x11,x12⟩;kernel_rfl
def f52_8(F:Nat)(kl1:Ty73→Rz)(kj8:Ty72→Rz):Ty73→Rz:=fun(t0,t4,t5,x4,x5,x6,x7,x8,x9,x10,x11,x12,x13)=>(cond(decide(t5 < (56:Int)))(cond((decide(0≤t5))&&(decide(t5 < (↑t0.length:Int))))(cond((t0.getD(Int.toNat t5) 0) != (0:Int))(some((.agg 5(.segs(.cons 1(.one(.int .i64 0))(.cons 1(.one(.int .i64 0))(.cons 1(.one(.int .i64 0))(.cons 1(.one(.str []))(.cons 1(.one(.bool false)) .nil))))))),[]))(kl1(t0,t4,(IntKind.i64.wrap(t5+(1:Int))),x4,x5,x6,x7,x8,x9,x10,x11,x12,x13))) none)(kj8(t0,t4,x4,x5,x6,x7,x8,x9,x10,x11,x12,x13)))
theorem f52_8_eq(F:Nat)(Rl1 Rj8:St→Rz):∀ v,XAf52 F(bp Tryz.f52 2036)(ef52l1 v)(kSeq(kc V52 Rl1 sp75)(kBlock 0(kSeq(kc V52 Rj8 sp21) Kf61)))=f52_8 F(Rl1∘ef52l1)(Rj8∘ef52j8) v:=by
 rintro⟨t0,t4,t5,x4,x5,x6,x7,x8,x9,x10,x11,x12,x13⟩;kernel_rfl
def f52_9_i:Ty73→Li×Int×Int×Int×Int×Int×Li×Bool×Int×Int×Int×Li×Bool:=fun(t0,t4,t5,x4,x5,x6,x7,x8,x9,x10,x11,x12,x13)=>(t0,t4,t5,x4,x5,x6,x7,x8,x9,x10,x11,x12,x13)
def f52_9(F:Nat)(kj8:Ty72→Rz):Ty73→Rz:=fun v=>loopN(fun k=>f52_8 F k kj8) F(f52_9_i v)
theorem f52_9_eq(F:Nat)(Rj8:St→Rz):∀ v,XAf52 F(bp Tryz.f52 1018)(ef52j7 v)(kBlock 0(kSeq(kc V52 Rj8 sp21) Kf61))=f52_9 F(Rj8∘ef52j8) v:=
 loop_cut(by kernel_rfl)(by kernel_rfl) ef52j7 ef52l1 _ f52_9_i(fun k=>f52_8 F k(Rj8∘ef52j8))
  (by rintro⟨t0,t4,t5,x4,x5,x6,x7,x8,x9,x10,x11,x12,x13⟩;kernel_rfl)(fun Rl1=>f52_8_eq F Rl1 Rj8)
def f52_10(F:Nat)(kj8:Ty72→Rz):Ty73→Rz:=f52_9 F kj8
theorem f52_10_eq(F:Nat)(Rj8:St→Rz):∀ v,XAf52 F(bp Tryz.f52 509)(ef52j7 v)(kSeq(kc V52 Rj8 sp21) Kf61)=f52_10 F(Rj8∘ef52j8) v:=fun v=>
 (block_in  (by kernel_rfl) _ _).trans(f52_9_eq F Rj8 v)
def f52_11(F:Nat)(kj8:Ty72→Rz):Ty72→Rz:=fun v=>f52_7 F(f52_10 F kj8) kj8 v
theorem f52_11_eq(F:Nat)(Rj8:St→Rz):∀ v,XAf52 F(bp Tryz.f52 254)(ef52j6 v)(kSeq(kc V52 Rj8 sp21) Kf61)=f52_11 F(Rj8∘ef52j8) v:=
 seq_cut(by kernel_rfl)(by kernel_rfl) ef52j6 ef52j7 _(fun k=>f52_7 F k(Rj8∘ef52j8))(f52_10 F(Rj8∘ef52j8))
  (fun Rj7=>f52_7_eq F Rj7 Rj8)(f52_10_eq F Rj8)
def f52_12(F:Nat):Ty72→Rz:=fun(t0,t4,x3,x4,x5,x6,x7,x8,x9,x10,x11,x12)=>(cond((decide((8:Int)≤(IntKind.i64.wrap((8:Int)+t4))))&&(decide((IntKind.i64.wrap((8:Int)+t4))≤(↑t0.length:Int))))(some((.agg 5(.segs(.cons 1(.one(.int .i64 x8))(.cons 1(.one(.int .i64 x9))(.cons 1(.one(.int .i64 x10))(.cons 1(.one(.str((t0.take(Int.toNat(IntKind.i64.wrap((8:Int)+t4)))).drop 8)))(.cons 1(.one(.bool x12)) .nil))))))),[])) none)
theorem f52_12_eq(F:Nat):∀ v,XAf52 F(bp Tryz.f52 255)(ef52j8 v) Kf61=f52_12 F v:=by
 rintro⟨t0,t4,x3,x4,x5,x6,x7,x8,x9,x10,x11,x12⟩;kernel_rfl
def f52_13(F:Nat):Ty72→Rz:=fun v=>f52_11 F(f52_12 F) v
theorem f52_13_eq(F:Nat):∀ v,XAf52 F(bp Tryz.f52 127)(ef52j6 v) Kf61=f52_13 F v:=
 seq_cut(by kernel_rfl)(by kernel_rfl) ef52j6 ef52j8 _(fun k=>f52_11 F k)(f52_12 F)
  (fun Rj8=>f52_11_eq F Rj8)(f52_12_eq F)
def f52_14(F:Nat):Ty72→Rz:=fun v=>f52_6 F(f52_13 F) v
theorem f52_14_eq(F:Nat):∀ v,XAf52 F(bp Tryz.f52 63)(ef52j5 v) Kf61=f52_14 F v:=
 seq_cut(by kernel_rfl)(by kernel_rfl) ef52j5 ef52j6 _(fun k=>f52_6 F k)(f52_13 F)
  (fun Rj6=>f52_6_eq F Rj6)(f52_13_eq F)
def f52_15(F:Nat):Ty71→Rz:=fun v=>f52_5 F(f52_14 F) v
theorem f52_15_eq(F:Nat):∀ v,XAf52 F(bp Tryz.f52 31)(ef52j4 v) Kf61=f52_15 F v:=
 seq_cut(by kernel_rfl)(by kernel_rfl) ef52j4 ef52j5 _(fun k=>f52_5 F k)(f52_14 F)
  (fun Rj5=>f52_5_eq F Rj5)(f52_14_eq F)
def f52_16(F:Nat):Ty71→Rz:=fun v=>f52_4 F(f52_15 F) v
theorem f52_16_eq(F:Nat):∀ v,XAf52 F(bp Tryz.f52 15)(ef52j3 v) Kf61=f52_16 F v:=
 seq_cut(by kernel_rfl)(by kernel_rfl) ef52j3 ef52j4 _(fun k=>f52_4 F k)(f52_15 F)
  (fun Rj4=>f52_4_eq F Rj4)(f52_15_eq F)
def f52_17(F:Nat):Ty70→Rz:=fun v=>f52_3 F(f52_16 F) v
theorem f52_17_eq(F:Nat):∀ v,XAf52 F(bp Tryz.f52 7)(ef52j2 v) Kf61=f52_17 F v:=
 seq_cut(by kernel_rfl)(by kernel_rfl) ef52j2 ef52j3 _(fun k=>f52_3 F k)(f52_16 F)
  (fun Rj3=>f52_3_eq F Rj3)(f52_16_eq F)
def f52_18(F:Nat):Ty70→Rz:=fun v=>f52_2 F(f52_17 F) v
theorem f52_18_eq(F:Nat):∀ v,XAf52 F(bp Tryz.f52 3)(ef52j1 v) Kf61=f52_18 F v:=
 seq_cut(by kernel_rfl)(by kernel_rfl) ef52j1 ef52j2 _(fun k=>f52_2 F k)(f52_17 F)
  (fun Rj2=>f52_2_eq F Rj2)(f52_17_eq F)
def f52_19(F:Nat):Li→Rz:=fun v=>f52_1 F(f52_18 F) v
theorem f52_19_eq(F:Nat):∀ v,XAf52 F(sub(bodyOf Tryz.f52) [])(ef52_a v) Kf61=f52_19 F v:=
 seq_cut(by kernel_rfl)(by kernel_rfl) ef52_a ef52j1 _(fun k=>f52_1 F k)(f52_18 F)
  (fun Rj1=>f52_1_eq F Rj1)(f52_18_eq F)
def f52(F:Nat):Li→Rz:=f52_19 F
theorem f52_body(F:Nat)(a0:Li):abody V52(Af52 F) Tryz.f52 [(.str a0)] []=f52 F a0:=
 (abody_in(c:=(sub(bodyOf Tryz.f52) []))(by kernel_rfl)(s:=ef52_a a0)(by kernel_rfl)).trans(f52_19_eq F a0)
def r52:CRun:=fun X H=>match X,H with
 | [(.str a0)],[]=>some(true,(.agg 5(.segs(.cons 1(.one(.int .i64(Jr.unpack a0).number))(.cons 1(.one(.int .i64(Jr.unpack a0).part))(.cons 1(.one(.int .i64(Jr.unpack a0).left))(.cons 1(.one(.str(Jr.unpack a0).payload))(.cons 1(.one(.bool(Jr.unpack a0).ok)) .nil))))))),[])
 | _,_=>none
theorem s52(a0:Li)(h0:okV(.str a0)):∃ F,f52 F a0=some((.agg 5(.segs(.cons 1(.one(.int .i64(Jr.unpack a0).number))(.cons 1(.one(.int .i64(Jr.unpack a0).part))(.cons 1(.one(.int .i64(Jr.unpack a0).left))(.cons 1(.one(.str(Jr.unpack a0).payload))(.cons 1(.one(.bool(Jr.unpack a0).ok)) .nil))))))),[]):=by
 refine⟨100,?_⟩
 simp only [f52_1,f52_2,f52_3,f52_4,f52_5,f52_6,f52_7,f52_9_i,f52_9,f52_10,f52_11,f52_13,f52_14,f52_15,f52_16,f52_17,f52_18,f52_19,f52,int_bne]
 by_cases hl:a0.length=64
 case neg=>
  rw [cond_pos(by omega),Jr.unpack_not(.inl hl)]
  rfl
 have hb:∀ x∈a0,0≤x∧x < 256:=fun x hx=>by have:=h0.2 x hx;omega
 have d6:(a0.take 6).drop 4=(a0.drop 4).take 2:=by rw [List.drop_take]
 have d8:(a0.take 8).drop 6=(a0.drop 6).take 2:=by rw [List.drop_take]
 simp only [d6,d8]
 have l4:(a0.take 4).length=4:=by rw [List.length_take];omega
 have l2:((a0.drop 4).take 2).length=2:=by rw [List.length_take,List.length_drop];omega
 have l2':((a0.drop 6).take 2).length=2:=by rw [List.length_take,List.length_drop];omega
 have l56:(a0.take 56).length=56:=by rw [List.length_take];omega
 obtain⟨n1,n2⟩:=Jr.num_bound(a0.take 4) fun x hx=>hb x(List.mem_of_mem_take hx)
 obtain⟨p1,p2⟩:=Jr.num_bound((a0.drop 4).take 2) fun x hx=>hb x(List.mem_of_mem_drop(List.mem_of_mem_take hx))
 obtain⟨q1,q2⟩:=Jr.num_bound((a0.drop 6).take 2) fun x hx=>hb x(List.mem_of_mem_drop(List.mem_of_mem_take hx))
 rw [l4,show(256:Int)^4=4294967296 from rfl] at n2
 rw [l2,show(256:Int)^2=65536 from rfl] at p2
 rw [l2',show(256:Int)^2=65536 from rfl] at q2
 rw [cond_neg(by omega),cond_pos(by omega),cond_pos(by omega),cond_pos(by omega),cond_pos(by omega),cond_pos(by omega),cond_pos(by omega),cond_pos(by omega),cond_pos(by omega),Jr.checked_eq hl,i64w(x:=48*Jr.num((a0.drop 4).take 2))(by omega)(by omega),i64w(x:=48*Jr.num((a0.drop 4).take 2)+Jr.num((a0.drop 6).take 2))(by omega)(by omega)]
 have hm48:Jr.fN a0≤48:=Nat.min_le_right _ _
 have hmL:Jr.fN a0=min(Jr.num((a0.drop 6).take 2)).toNat 48:=rfl
 by_cases c1:(Sha.hash(a0.take 56)).take 8=a0.drop 56
 case neg=>
  have e:(!((Sha.hash(a0.take 56)).take 8==a0.drop 56))=true:=by simpa using c1
  rw [e,cond_true,Jr.unpack_not(.inr(.inl c1))]
  rfl
 have e:(!((Sha.hash(a0.take 56)).take 8==a0.drop 56))=false:=by simp [c1]
 rw [e,cond_false]
 by_cases c2:Jr.num(a0.take 4) < 1
 ·rw [cond_pos c2,Jr.unpack_not(.inr(.inr(.inl(fun h=>by have:=h.1;rw [Jr.fNum] at this;omega))))]
  rfl
 by_cases c3:Jr.num(a0.take 4) > 4096
 ·rw [cond_neg c2,cond_pos c3,Jr.unpack_not(.inr(.inr(.inl(fun h=>by have:=h.2.1;rw [Jr.fNum] at this;omega))))]
  rfl
 by_cases c4:48*Jr.num((a0.drop 4).take 2)+Jr.num((a0.drop 6).take 2) > 8000
 ·rw [cond_neg c2,cond_neg c3,cond_pos c4,Jr.unpack_not(.inr(.inr(.inl(fun h=>by have:=h.2.2.1;rw [Jr.fPart,Jr.fLeft] at this;omega))))]
  rfl
 rw [cond_neg c2,cond_neg c3,cond_neg c4]
 by_cases c5:Jr.num((a0.drop 6).take 2) < 1∧Jr.num((a0.drop 4).take 2) > 0
 ·rw [cond_pos c5.1,cond_pos c5.2,Jr.unpack_not(.inr(.inr(.inl(fun h=>by have:=h.2.2.2;rw [Jr.fPart,Jr.fLeft] at this;omega))))]
  rfl
 have hskip:∀ X Y:Rz,cond(decide(Jr.num((a0.drop 6).take 2) < 1))(cond(decide(Jr.num((a0.drop 4).take 2) > 0)) X Y) Y=Y:=fun X Y=>by
  by_cases h5:Jr.num((a0.drop 6).take 2) < 1
  ·rw [cond_pos h5,cond_neg(by omega)]
  ·rw [cond_neg h5]
 rw [hskip]
 have key:∀ t:Int,t=(Jr.fN a0:Int)→loopN(fun k=>f52_8 100 k(f52_12 100)) 100(a0,t,IntKind.i64.wrap(8+t),0,0,0,[],false,Jr.num(a0.take 4),Jr.num((a0.drop 4).take 2),Jr.num((a0.drop 6).take 2),[],true) =
   some((.agg 5(.segs(.cons 1(.one(.int .i64(Jr.unpack a0).number))(.cons 1(.one(.int .i64(Jr.unpack a0).part))(.cons 1(.one(.int .i64(Jr.unpack a0).left))(.cons 1(.one(.str(Jr.unpack a0).payload))(.cons 1(.one(.bool(Jr.unpack a0).ok)) .nil))))))),[]):=fun t ht=>by
  subst ht
  rw [i64w(x:=8+(Jr.fN a0:Int))(by omega)(by omega)]
  refine loopN_ind(fun mm s=>∃ k:Nat,s=(a0,(Jr.fN a0:Int),8+(Jr.fN a0:Int)+(k:Int),0,0,0,[],false,Jr.num(a0.take 4),Jr.num((a0.drop 4).take 2),Jr.num((a0.drop 6).take 2),[],true)∧mm=48-Jr.fN a0-k∧k≤48-Jr.fN a0 ∧ ∀ j,j < k→a0.getD(8+Jr.fN a0+j) 0=0)(fun mm s K hi hk=>?_) 100(48-Jr.fN a0) _(by omega)⟨0,by simp,by omega,by omega,fun j hj=>by omega⟩
  obtain⟨k,rfl,hm,hle,hz⟩:=hi
  have et:(8+(Jr.fN a0:Int)+(k:Int)).toNat=8+Jr.fN a0+k:=by omega
  simp only [f52_8,dec_and,et,int_bne]
  by_cases hlt:k < 48-Jr.fN a0
  ·rw [cond_pos(by omega),cond_pos(by omega)]
   by_cases h0:a0.getD(8+Jr.fN a0+k) 0=0
   ·rw [cond_neg(by omega),i64w(by omega)(by omega)]
    exact hk(mm-1) _(by omega)⟨k+1,by rw [show 8+(Jr.fN a0:Int)+((k+1:Nat):Int)=8+(Jr.fN a0:Int)+(k:Int)+1 by omega],by omega,by omega,fun j hj=>by
     by_cases hj':j=k
     ·subst hj';exact h0
     ·exact hz j(by omega)⟩
   ·rw [cond_pos h0,Jr.unpack_not(.inr(.inr(.inr fun h=>h0((Jr.zeros_iff(by omega)).1 h k hlt))))]
    rfl
  ·rw [cond_neg(by omega)]
   simp only [f52_12,dec_and]
   have t2:(8+(Jr.fN a0:Int)).toNat=8+Jr.fN a0:=by omega
   rw [i64w(x:=8+(Jr.fN a0:Int))(by omega)(by omega),cond_pos(by omega),t2,Jr.unpack_is hl c1⟨by rw [Jr.fNum];omega,by rw [Jr.fNum];omega,by rw [Jr.fPart,Jr.fLeft];omega,by rw [Jr.fPart,Jr.fLeft];omega⟩((Jr.zeros_iff(by omega)).2 fun j hj=>hz j(by omega)),List.drop_take,show 8+Jr.fN a0-8=Jr.fN a0 by omega]
   rfl
 by_cases h48:Jr.num((a0.drop 6).take 2) > 48
 ·rw [cond_pos h48];exact key 48(by omega)
 ·rw [cond_neg h48];exact key _(by omega)
theorem c52:CallOk Tryz.prog G37Z 52 r52:=callOk_of mixed tys eV52 Tryz.func52(by kernel_rfl)(c:=sub(bodyOf Tryz.f52) [])(by kernel_rfl)(by
 intro X H r H' h hX hH
 unfold r52 at h;split at h <;> try contradiction
 ·obtain⟨hp,rfl,rfl⟩:=inj3 h
  obtain⟨F,hF⟩:=s52 _(hX _ hm0)
  exact⟨Af52 F,(f52_body F _).trans hF⟩)
end Go.Am
end
section
/- What the specification's journal and the laws' own functions compute, in plain terms. -/
namespace Go.Jr
open Go Go.Am Go.Dk
def okS(j:J):Bool:=decide(j.nums.length < 100000∧j.texts.length < 100000∧j.bad.length < 100000∧j.next < 100000)
def same(j:J)(d:D)(k:J)(r:R):Bool:=cond(j.nums==k.nums)(cond(j.texts==k.texts)(cond(damaged j==damaged k)(cond(j.bad==k.bad)(cond(j.next==k.next)(IntKind.i64.wrap((d.n:Int)-j.fin)==IntKind.i64.wrap((r.s.length:Int)-k.fin)) false) false) false) false) false
theorem same_self {j:J} {d:D} {r:R} (h:r.s.length=d.n):same j d j r=true:=by
 simp only [same,beq_self_eq_true,cond_true,h]
theorem damaged_len(j:J):(damaged j).length≤(j.next-1).toNat:=by
 rw [damaged,List.length_map]
 exact Nat.le_trans(List.length_filter_le _ _)(by simp)
theorem blank_take {s:List Int} {k:Nat} (h:k < s.length)(hb:(s.take k).all(· == 0)=true):(s.take(k+1)).all(· == 0)=(s.getD k 0==0):=by
 rw [List.take_add_one,List.all_append,hb,List.getElem?_eq_getElem h,List.getD_eq_getElem?_getD,List.getElem?_eq_getElem h]
 simp
theorem contains_take {l:List Int} {n:Int} {k:Nat} (h:k < l.length)(hb:(l.take k).contains n=false):(l.take(k+1)).contains n=(l.getD k 0==n):=by
 rw [List.take_add_one,List.contains_eq_any_beq,List.any_append,← List.contains_eq_any_beq,hb,List.getElem?_eq_getElem h,List.getD_eq_getElem?_getD,List.getElem?_eq_getElem h]
 simp only [Option.toList_some,List.any_cons,List.any_nil,Bool.or_false,Bool.false_or,Option.getD_some]
 rw [Bool.eq_iff_iff,beq_iff_eq,beq_iff_eq];exact eq_comm
theorem okT {n:Nat} {s:List(List Li)} (h:okB(.cells n(.rT [.str,.str,.bool,.bool] s) true)):∀ i,i < s.length→(∀ x∈fT(s.getD i []),0≤x∧x < 256) ∧ ∀ x∈Dk.fN(s.getD i []),0≤x∧x < 256:=by
 obtain⟨_,h2,h3⟩:=h
 have h2:s.length*4=n:=h2
 intro i hi
 have a:=h3(i*4)(by omega)
 have b:=h3(i*4+1)(by omega)
 simp only [AV.cell,List.length_cons,List.length_nil,show(i*4)%(0+1+1+1+1)=0 by omega,show(i*4) / (0+1+1+1+1)=i by omega,show(i*4+1)%(0+1+1+1+1)=1 by omega,show(i*4+1) / (0+1+1+1+1)=i by omega] at a b
 exact⟨fun x hx=>by have:=a.2 x hx;omega,fun x hx=>by have:=b.2 x hx;omega⟩
theorem rread_ok {r:R} (hg:RGood r)(ho:r.off=false)(hb:∀ i,i < r.s.length→(∀ x∈fT(r.s.getD i []),0≤x∧x < 256) ∧ ∀ x∈Dk.fN(r.s.getD i []),0≤x∧x < 256) {i:Nat} (hi:i < r.s.length) :
  (rread r i).2=0∧(rread r i).1.length=64∧(∀ x∈(rread r i).1,0≤x∧x < 256)∧(rread r i).1=(secsR r).getD i []:=by
 have hris:ris r(i:Int)=true:=ris_iff.2⟨by omega,by omega⟩
 have hS:(rread r i).1=(secsR r).getD i []:=by
  rw [secsR,List.getD_eq_getElem?_getD,List.getElem?_map,List.getElem?_range hi];rfl
 obtain⟨g1,g2⟩:=hg.2 i hi
 obtain⟨b1,b2⟩:=hb i hi
 refine⟨?_,?_,?_,hS⟩
 all_goals(simp only [rread,ho,hris,R.at,Int.toNat_natCast,cond_false,Bool.not_true])
 all_goals(cases hd:fD(r.s.getD i []))
 ·rfl
 ·rfl
 ·exact g1
 ·exact g2 hd
 ·exact b1
 ·exact b2
theorem count_nn(n:Int):0≤count n∧count n≤167:=by
 unfold count
 by_cases h:n < 0∨8000 < n
 ·rw [cond_pos h];omega
 ·rw [cond_neg h];split <;> omega
theorem pt_S {S:List Li} {j:Nat} (h:j < S.length):pt(S.map unpack) j=unpack(S.getD j []):=by
 rw [pt,List.getD_eq_getElem?_getD,List.getElem?_map,List.getElem?_eq_getElem h,List.getD_eq_getElem?_getD,List.getElem?_eq_getElem h];rfl
theorem rows_get {S:List Li} {j:Nat} (h:j < S.length):(rowsOf S).getD j []=(pt(S.map unpack) j).row:=by
 rw [pt_S h,rowsOf,List.getD_eq_getElem?_getD,List.getElem?_map,List.getElem?_eq_getElem h,List.getD_eq_getElem?_getD,List.getElem?_eq_getElem h];rfl
theorem b2i_one(b:Bool):(b2i b==1)=b:=by cases b <;> rfl
theorem all_range_succ(p:Nat→Bool)(i:Nat):(List.range(i+1)).all p=((List.range i).all p&&p i):=by
 rw [List.range_succ,List.all_append,List.all_cons,List.all_nil,Bool.and_true]
end Go.Jr
end
section
namespace Go.Am
open Go Go.Proofs
abbrev sp83:List(Nat×Md):=[(0,.plain),(3,.own 2),(4,.plain)]
abbrev Ty80:=Li×(List Li)×Li×Int×Int×Bool×(List(List Li))×Bool×Int
abbrev Ty81:=Int×Li×(Dk.R)×(Jr.J)
abbrev Ty82:=Li×(Dk.R)×(Jr.J)
def lV56:List CEnt:=[]
def V56:Env:=mkEnv T36Z G36Z lV56
noncomputable abbrev Kf63:=kFin V56 none(Tryz.f56).results.toList
theorem eV56:EOk Tryz.prog V56:=eok_mk(by exact trivial)
def Af56(F:Nat):Cuts:={ F:=F,at_:=fun n=>match n with | 2016=>some sp24 | _=>none,join:=fun n=>match n with | 1024=>some sp74 | 2018=>some sp24 | 6003=>some [] | _=>none }
noncomputable abbrev XAf56(F:Nat) {α:Type}:=@aexec α V56(Af56 F)
def ef56_a:Li→St:=fun a0=>⟨[(0,.str a0)],[],0,14,0⟩
def ef56j1:Li→St:=fun t0=>⟨[(0,.str t0)],[],0,14,0⟩
def ef56j2:Li×Int→St:=fun(t0,t3)=>⟨[(0,.str t0),(3,.int .i64 t3)],[],0,14,0⟩
def ef56l1:Li×Int→St:=ef56j2
def ef56j3:Unit→St:=fun _=>⟨[],[],0,14,0⟩
def f56_1(F:Nat)(kj1:Li→Rz):Li→Rz:=fun a0=>(kj1 a0)
theorem f56_1_eq(F:Nat)(Rj1:St→Rz):∀ v,XAf56 F(bp Tryz.f56 2)(ef56_a v)(kSeq(kc V56 Rj1 sp74) Kf63)=f56_1 F(Rj1∘ef56j1) v:=by
 intro a0;kernel_rfl
def f56_2(F:Nat)(kj2:Li×Int→Rz)(kj3:Unit→Rz):Li→Rz:=fun t0=>(kj2(t0,(0:Int)))
theorem f56_2_eq(F:Nat)(Rj2 Rj3:St→Rz):∀ v,XAf56 F(bp Tryz.f56 12)(ef56j1 v)(kSeq(kc V56 Rj2 sp24)(kSeq(kc V56 Rj3 []) Kf63))=f56_2 F(Rj2∘ef56j2)(Rj3∘ef56j3) v:=by
 intro t0;kernel_rfl
def f56_3(F:Nat)(kl1:Li×Int→Rz)(kj3:Unit→Rz):Li×Int→Rz:=fun(t0,t3)=>(cond(decide(t3 < (↑t0.length:Int)))(cond((decide(0≤t3))&&(decide(t3 < (↑t0.length:Int))))(cond((t0.getD(Int.toNat t3) 0) != (0:Int))(some((.bool false),[]))(kl1(t0,(IntKind.i64.wrap(t3+(1:Int)))))) none)(kj3()))
theorem f56_3_eq(F:Nat)(Rl1 Rj3:St→Rz):∀ v,XAf56 F(bp Tryz.f56 52)(ef56l1 v)(kSeq(kc V56 Rl1 sp24)(kBlock 0(kSeq(kc V56 Rj3 []) Kf63)))=f56_3 F(Rl1∘ef56l1)(Rj3∘ef56j3) v:=by
 rintro⟨t0,t3⟩;kernel_rfl
def f56_4_i:Li×Int→Li×Int:=fun(t0,t3)=>(t0,t3)
def f56_4(F:Nat)(kj3:Unit→Rz):Li×Int→Rz:=fun v=>loopN(fun k=>f56_3 F k kj3) F(f56_4_i v)
theorem f56_4_eq(F:Nat)(Rj3:St→Rz):∀ v,XAf56 F(bp Tryz.f56 26)(ef56j2 v)(kBlock 0(kSeq(kc V56 Rj3 []) Kf63))=f56_4 F(Rj3∘ef56j3) v:=
 loop_cut(by kernel_rfl)(by kernel_rfl) ef56j2 ef56l1 _ f56_4_i(fun k=>f56_3 F k(Rj3∘ef56j3))
  (by rintro⟨t0,t3⟩;kernel_rfl)(fun Rl1=>f56_3_eq F Rl1 Rj3)
def f56_5(F:Nat)(kj3:Unit→Rz):Li×Int→Rz:=f56_4 F kj3
theorem f56_5_eq(F:Nat)(Rj3:St→Rz):∀ v,XAf56 F(bp Tryz.f56 13)(ef56j2 v)(kSeq(kc V56 Rj3 []) Kf63)=f56_5 F(Rj3∘ef56j3) v:=fun v=>
 (block_in  (by kernel_rfl) _ _).trans(f56_4_eq F Rj3 v)
def f56_6(F:Nat)(kj3:Unit→Rz):Li→Rz:=fun v=>f56_2 F(f56_5 F kj3) kj3 v
theorem f56_6_eq(F:Nat)(Rj3:St→Rz):∀ v,XAf56 F(bp Tryz.f56 6)(ef56j1 v)(kSeq(kc V56 Rj3 []) Kf63)=f56_6 F(Rj3∘ef56j3) v:=
 seq_cut(by kernel_rfl)(by kernel_rfl) ef56j1 ef56j2 _(fun k=>f56_2 F k(Rj3∘ef56j3))(f56_5 F(Rj3∘ef56j3))
  (fun Rj2=>f56_2_eq F Rj2 Rj3)(f56_5_eq F Rj3)
def f56_7(F:Nat):Unit→Rz:=fun _=>(some((.bool true),[]))
theorem f56_7_eq(F:Nat):∀ v,XAf56 F(bp Tryz.f56 7)(ef56j3 v) Kf63=f56_7 F v:=by
 intro _;kernel_rfl
def f56_8(F:Nat):Li→Rz:=fun v=>f56_6 F(f56_7 F) v
theorem f56_8_eq(F:Nat):∀ v,XAf56 F(bp Tryz.f56 3)(ef56j1 v) Kf63=f56_8 F v:=
 seq_cut(by kernel_rfl)(by kernel_rfl) ef56j1 ef56j3 _(fun k=>f56_6 F k)(f56_7 F)
  (fun Rj3=>f56_6_eq F Rj3)(f56_7_eq F)
def f56_9(F:Nat):Li→Rz:=fun v=>f56_1 F(f56_8 F) v
theorem f56_9_eq(F:Nat):∀ v,XAf56 F(sub(bodyOf Tryz.f56) [])(ef56_a v) Kf63=f56_9 F v:=
 seq_cut(by kernel_rfl)(by kernel_rfl) ef56_a ef56j1 _(fun k=>f56_1 F k)(f56_8 F)
  (fun Rj1=>f56_1_eq F Rj1)(f56_8_eq F)
def f56(F:Nat):Li→Rz:=f56_9 F
theorem f56_body(F:Nat)(a0:Li):abody V56(Af56 F) Tryz.f56 [(.str a0)] []=f56 F a0:=
 (abody_in(c:=(sub(bodyOf Tryz.f56) []))(by kernel_rfl)(s:=ef56_a a0)(by kernel_rfl)).trans(f56_9_eq F a0)
def r56:CRun:=fun X H=>match X,H with
 | [(.str a0)],[]=>some(true,(.bool(Jr.blank a0)),[])
 | _,_=>none
theorem s56(a0:Li)(h0:okV(.str a0)):∃ F,f56 F a0=some((.bool(Jr.blank a0)),[]):=by
 have hl:a0.length < 4611686018427387904:=h0.1
 refine⟨a0.length+1,?_⟩
 simp only [f56,f56_9,f56_1,f56_8,f56_6,f56_2,f56_5,f56_4,f56_4_i]
 refine loopN_ind(fun m s=>∃ k:Nat,s=(a0,(k:Int))∧m=a0.length-k∧k≤a0.length∧(a0.take k).all(· == 0)=true)(fun m s K hi hk=>?_)(a0.length+1) a0.length _(by omega)⟨0,rfl,by omega,by omega,rfl⟩
 obtain⟨k,rfl,hm,hle,hb⟩:=hi
 simp only [f56_3,Int.toNat_natCast,dec_and]
 by_cases hlt:k < a0.length
 ·rw [cond_pos(by omega),cond_pos(by omega),i64w(by omega)(by omega)]
  have hs:=Jr.blank_take hlt hb
  cases h:(a0.getD k 0==0) with
  | true=>
   rw [h] at hs
   rw [show(a0.getD k 0 != 0)=false by rw [bne,h];rfl,cond_false]
   exact hk(m-1) _(by omega)⟨k+1,rfl,by omega,by omega,hs⟩
  | false=>
   rw [show(a0.getD k 0 != 0)=true by rw [bne,h];rfl,cond_true]
   have:Jr.blank a0=false:=by
    rw [Jr.blank,← List.take_append_drop(k+1) a0,List.all_append,hs,h];rfl
   rw [this]
 ·rw [cond_neg(by omega)]
  rw [show k=a0.length by omega,List.take_length] at hb
  simp only [f56_7,Jr.blank,hb]
theorem c56:CallOk Tryz.prog G36Z 56 r56:=callOk_of mixed tys eV56 Tryz.func56(by kernel_rfl)(c:=sub(bodyOf Tryz.f56) [])(by kernel_rfl)(by
 intro X H r H' h hX hH
 unfold r56 at h;split at h <;> try contradiction
 ·obtain⟨hp,rfl,rfl⟩:=inj3 h
  obtain⟨F,hF⟩:=s56 _(hX _ hm0)
  exact⟨Af56 F,(f56_body F _).trans hF⟩)
def lV58:List CEnt:=[]
def V58:Env:=mkEnv T36Z G36Z lV58
noncomputable abbrev Kf64:=kFin V58 none(Tryz.f58).results.toList
theorem eV58:EOk Tryz.prog V58:=eok_mk(by exact trivial)
def Af58(F:Nat):Cuts:={ F:=F,at_:=fun n=>match n with | 2016=>some sp39 | _=>none,join:=fun n=>match n with | 1024=>some sp37 | 2018=>some sp39 | 6003=>some [] | _=>none }
noncomputable abbrev XAf58(F:Nat) {α:Type}:=@aexec α V58(Af58 F)
def ef58_a:Li×Int→St:=fun(a0,a1)=>⟨[(0,(.vs(.rI .i64 a0) 0 1)),(1,.int .i64 a1)],[],0,18,0⟩
def ef58j1:Li×Int→St:=fun(t0,t1)=>⟨[(0,(.vs(.rI .i64 t0) 0 1)),(1,.int .i64 t1)],[],0,18,0⟩
def ef58j2:Li×Int×Int→St:=fun(t0,t1,t5)=>⟨[(0,(.vs(.rI .i64 t0) 0 1)),(1,.int .i64 t1),(5,.int .i64 t5)],[],0,18,0⟩
def ef58l1:Li×Int×Int→St:=ef58j2
def ef58j3:Unit→St:=fun _=>⟨[],[],0,18,0⟩
def f58_1(F:Nat)(kj1:Li×Int→Rz):Li×Int→Rz:=fun(a0,a1)=>(kj1(a0,a1))
theorem f58_1_eq(F:Nat)(Rj1:St→Rz):∀ v,XAf58 F(bp Tryz.f58 2)(ef58_a v)(kSeq(kc V58 Rj1 sp37) Kf64)=f58_1 F(Rj1∘ef58j1) v:=by
 rintro⟨a0,a1⟩;kernel_rfl
def f58_2(F:Nat)(kj2:Li×Int×Int→Rz)(kj3:Unit→Rz):Li×Int→Rz:=fun(t0,t1)=>(kj2(t0,t1,(0:Int)))
theorem f58_2_eq(F:Nat)(Rj2 Rj3:St→Rz):∀ v,XAf58 F(bp Tryz.f58 12)(ef58j1 v)(kSeq(kc V58 Rj2 sp39)(kSeq(kc V58 Rj3 []) Kf64))=f58_2 F(Rj2∘ef58j2)(Rj3∘ef58j3) v:=by
 rintro⟨t0,t1⟩;kernel_rfl
def f58_3(F:Nat)(kl1:Li×Int×Int→Rz)(kj3:Unit→Rz):Li×Int×Int→Rz:=fun(t0,t1,t5)=>(cond(decide(t5 < (↑t0.length:Int)))(cond((decide(0≤t5))&&(decide(t5 < (↑t0.length:Int))))(cond((t0.getD(Int.toNat t5) 0)==t1)(some((.bool true),[]))(kl1(t0,t1,(IntKind.i64.wrap(t5+(1:Int)))))) none)(kj3()))
theorem f58_3_eq(F:Nat)(Rl1 Rj3:St→Rz):∀ v,XAf58 F(bp Tryz.f58 52)(ef58l1 v)(kSeq(kc V58 Rl1 sp39)(kBlock 0(kSeq(kc V58 Rj3 []) Kf64)))=f58_3 F(Rl1∘ef58l1)(Rj3∘ef58j3) v:=by
 rintro⟨t0,t1,t5⟩;kernel_rfl
def f58_4_i:Li×Int×Int→Li×Int×Int:=fun(t0,t1,t5)=>(t0,t1,t5)
def f58_4(F:Nat)(kj3:Unit→Rz):Li×Int×Int→Rz:=fun v=>loopN(fun k=>f58_3 F k kj3) F(f58_4_i v)
theorem f58_4_eq(F:Nat)(Rj3:St→Rz):∀ v,XAf58 F(bp Tryz.f58 26)(ef58j2 v)(kBlock 0(kSeq(kc V58 Rj3 []) Kf64))=f58_4 F(Rj3∘ef58j3) v:=
 loop_cut(by kernel_rfl)(by kernel_rfl) ef58j2 ef58l1 _ f58_4_i(fun k=>f58_3 F k(Rj3∘ef58j3))
  (by rintro⟨t0,t1,t5⟩;kernel_rfl)(fun Rl1=>f58_3_eq F Rl1 Rj3)
def f58_5(F:Nat)(kj3:Unit→Rz):Li×Int×Int→Rz:=f58_4 F kj3
theorem f58_5_eq(F:Nat)(Rj3:St→Rz):∀ v,XAf58 F(bp Tryz.f58 13)(ef58j2 v)(kSeq(kc V58 Rj3 []) Kf64)=f58_5 F(Rj3∘ef58j3) v:=fun v=>
 (block_in  (by kernel_rfl) _ _).trans(f58_4_eq F Rj3 v)
def f58_6(F:Nat)(kj3:Unit→Rz):Li×Int→Rz:=fun v=>f58_2 F(f58_5 F kj3) kj3 v
theorem f58_6_eq(F:Nat)(Rj3:St→Rz):∀ v,XAf58 F(bp Tryz.f58 6)(ef58j1 v)(kSeq(kc V58 Rj3 []) Kf64)=f58_6 F(Rj3∘ef58j3) v:=
 seq_cut(by kernel_rfl)(by kernel_rfl) ef58j1 ef58j2 _(fun k=>f58_2 F k(Rj3∘ef58j3))(f58_5 F(Rj3∘ef58j3))
  (fun Rj2=>f58_2_eq F Rj2 Rj3)(f58_5_eq F Rj3)
def f58_7(F:Nat):Unit→Rz:=fun _=>(some((.bool false),[]))
theorem f58_7_eq(F:Nat):∀ v,XAf58 F(bp Tryz.f58 7)(ef58j3 v) Kf64=f58_7 F v:=by
 intro _;kernel_rfl
def f58_8(F:Nat):Li×Int→Rz:=fun v=>f58_6 F(f58_7 F) v
theorem f58_8_eq(F:Nat):∀ v,XAf58 F(bp Tryz.f58 3)(ef58j1 v) Kf64=f58_8 F v:=
 seq_cut(by kernel_rfl)(by kernel_rfl) ef58j1 ef58j3 _(fun k=>f58_6 F k)(f58_7 F)
  (fun Rj3=>f58_6_eq F Rj3)(f58_7_eq F)
def f58_9(F:Nat):Li×Int→Rz:=fun v=>f58_1 F(f58_8 F) v
theorem f58_9_eq(F:Nat):∀ v,XAf58 F(sub(bodyOf Tryz.f58) [])(ef58_a v) Kf64=f58_9 F v:=
 seq_cut(by kernel_rfl)(by kernel_rfl) ef58_a ef58j1 _(fun k=>f58_1 F k)(f58_8 F)
  (fun Rj1=>f58_1_eq F Rj1)(f58_8_eq F)
def f58(F:Nat):Li×Int→Rz:=f58_9 F
theorem f58_body(F:Nat)(a0:Li)(a1:Int):abody V58(Af58 F) Tryz.f58 [(.vs(.rI .i64 a0) 0 1),.int .i64 a1] []=f58 F(a0,a1):=
 (abody_in(by kernel_rfl)(by kernel_rfl)).trans(f58_9_eq F(a0,a1))
def r58:CRun:=fun X H=>match X,H with
 | [(.vs(.rI .i64 a0) 0 1),.int .i64 a1],[]=>some(true,(.bool(a0.contains a1)),[])
 | _,_=>none
theorem s58(a0:Li)(a1:Int)(h0:okV(.vs(.rI .i64 a0) 0 1))(h1:okV(.int .i64 a1)):∃ F,f58 F(a0,a1)=some((.bool(a0.contains a1)),[]):=by
 have hl:a0.length < 4611686018427387904:=h0.2
 refine⟨a0.length+1,?_⟩
 simp only [f58,f58_9,f58_1,f58_8,f58_6,f58_2,f58_5,f58_4,f58_4_i]
 refine loopN_ind(fun m s=>∃ k:Nat,s=(a0,a1,(k:Int))∧m=a0.length-k∧k≤a0.length∧(a0.take k).contains a1=false)(fun m s K hi hk=>?_)(a0.length+1) a0.length _(by omega)⟨0,rfl,by omega,by omega,rfl⟩
 obtain⟨k,rfl,hm,hle,hb⟩:=hi
 simp only [f58_3,Int.toNat_natCast,dec_and]
 by_cases hlt:k < a0.length
 ·rw [cond_pos(by omega),cond_pos(by omega),i64w(by omega)(by omega)]
  have hs:=Jr.contains_take hlt hb
  cases h:(a0.getD k 0==a1) with
  | false=>
   rw [h] at hs
   exact hk(m-1) _(by omega)⟨k+1,rfl,by omega,by omega,hs⟩
  | true=>
   have:a0.contains a1=true:=by
    rw [List.contains_iff_mem]
    have h2:a0.getD k 0=a1:=by simpa using h
    rw [← h2,List.getD_eq_getElem?_getD,List.getElem?_eq_getElem hlt];exact List.getElem_mem _
   rw [this];rfl
 ·rw [cond_neg(by omega)]
  rw [show k=a0.length by omega,List.take_length] at hb
  rw [hb];rfl
theorem c58:CallOk Tryz.prog G36Z 58 r58:=callOk_of mixed tys eV58 Tryz.func58(by kernel_rfl)(c:=sub(bodyOf Tryz.f58) [])(by kernel_rfl)(by
 intro X H r H' h hX hH
 unfold r58 at h;split at h <;> try contradiction
 ·obtain⟨hp,rfl,rfl⟩:=inj3 h
  obtain⟨F,hF⟩:=s58 _ _(hX _ hm0)(hX _ hm1)
  exact⟨Af58 F,(f58_body F _ _).trans hF⟩)
def lV60:List CEnt:=[(54,[none],r54)]
def V60:Env:=mkEnv T36Z G36Z lV60
noncomputable abbrev Kf65:=kFin V60 none(Tryz.f60).results.toList
theorem eV60:EOk Tryz.prog V60:=eok_mk(by exact⟨c54,trivial⟩)
def Af60(F:Nat):Cuts:={ F:=F,at_:=fun _=>none,join:=fun _=>none }
def ef60_a:Ty80→St:=fun(a0N,a0T,a0B,a0x,a0f,a0c,a1s,a1o,a1l)=>⟨[(0,.ptr 0 0 7 0 0 0 7)],[(0,(jB 1 3 2 3 4 a0x a0f a0c)),(1,(rB a1s.length 5 a1o a1l)),(2,(iB a0N)),(3,(sB a0T)),(4,(iB a0B)),(5,(tB a1s))],6,13,6⟩
def f60_1(F:Nat):Ty80→Rz:=fun(a0N,a0T,a0B,a0x,a0f,a0c,a1s,a1o,a1l)=>(cond(decide(a1s.length=a1s.length∧a1s.length < 8000))(some((.int .i64(IntKind.i64.wrap(((Dk.R.mk a1s a1o a1l).s.length:Int)-a0f))),[(jB 1 3 2 3 4 a0x a0f a0c),(rB(Dk.R.mk a1s a1o a1l).s.length 5(Dk.R.mk a1s a1o a1l).off(Dk.R.mk a1s a1o a1l).left),(iB a0N),(sB a0T),(iB a0B),(.cells((Dk.R.mk a1s a1o a1l).s.length*4)(.rT [.str,.str,.bool,.bool] (Dk.R.mk a1s a1o a1l).s) true)])) none)
theorem f60_1_eq(F:Nat):∀ v,aexec V60(Af60 F)(sub(bodyOf Tryz.f60) [])(ef60_a v) Kf65=f60_1 F v:=by
 rintro⟨a0N,a0T,a0B,a0x,a0f,a0c,a1s,a1o,a1l⟩;kernel_rfl
def f60(F:Nat):Ty80→Rz:=f60_1 F
theorem f60_body(F:Nat)(a0N:Li)(a0T:List Li)(a0B:Li)(a0x a0f:Int)(a0c:Bool)(a1s:List(List Li))(a1o:Bool)(a1l:Int):abody V60(Af60 F) Tryz.f60 [(.ptr 0 0 7 0 0 0 7)] [(jB 1 3 2 3 4 a0x a0f a0c),(rB a1s.length 5 a1o a1l),(iB a0N),(sB a0T),(iB a0B),(tB a1s)]=f60 F(a0N,a0T,a0B,a0x,a0f,a0c,a1s,a1o,a1l):=
 (abody_in(by kernel_rfl)(by kernel_rfl)).trans(f60_1_eq F(a0N,a0T,a0B,a0x,a0f,a0c,a1s,a1o,a1l))
def r60:CRun:=fun X H=>match X,H with
 | [(.ptr 0 0 7 0 0 0 7)],[(.cells 7(.segs(.cons 1(.one(.ptr 1 0 3 0 0 0 3))(.cons 1(.one(.own 2 0 1))(.cons 1(.one(.own 3 0 1))(.cons 1(.one(.own 4 0 1))(.cons 1(.one(.int .i64 a0x))(.cons 1(.one(.int .i64 a0f))(.cons 1(.one(.bool a0c)) .nil)))))))) true),(.cells 3(.segs(.cons 1(.one(.own 5 a1n 4))(.cons 1(.one(.bool a1o))(.cons 1(.one(.int .i64 a1l)) .nil)))) true),(.cells z2(.rI .i64 a0N) true),(.cells z3(.rS a0T) true),(.cells z4(.rI .i64 a0B) true),(.cells z5(.rT [.str,.str,.bool,.bool] a1s) true)]=>some((decide(a1n=a1s.length∧a1n < 8000)),(.int .i64(IntKind.i64.wrap(((Dk.R.mk a1s a1o a1l).s.length:Int)-(Jr.J.mk a0N a0T a0B a0x a0f a0c).fin))),[(jE 1 3 2 3 4(Jr.J.mk a0N a0T a0B a0x a0f a0c)),(rB(Dk.R.mk a1s a1o a1l).s.length 5(Dk.R.mk a1s a1o a1l).off(Dk.R.mk a1s a1o a1l).left),(.cells(Jr.J.mk a0N a0T a0B a0x a0f a0c).nums.length(.rI .i64(Jr.J.mk a0N a0T a0B a0x a0f a0c).nums) true),(.cells(Jr.J.mk a0N a0T a0B a0x a0f a0c).texts.length(.rS(Jr.J.mk a0N a0T a0B a0x a0f a0c).texts) true),(.cells(Jr.J.mk a0N a0T a0B a0x a0f a0c).bad.length(.rI .i64(Jr.J.mk a0N a0T a0B a0x a0f a0c).bad) true),(.cells((Dk.R.mk a1s a1o a1l).s.length*4)(.rT [.str,.str,.bool,.bool] (Dk.R.mk a1s a1o a1l).s) true)])
 | _,_=>none
theorem s60(a0N:Li)(a0T:List Li)(a0B:Li)(a0x a0f:Int)(a0c:Bool)(a1s:List(List Li))(a1o:Bool)(a1l:Int)(hp:((decide(a1s.length=a1s.length∧a1s.length < 8000)))=true)(k0:okB(jB 1 3 2 3 4 a0x a0f a0c))(k1:okB(rB a1s.length 5 a1o a1l))(k2:okB(iB a0N))(k3:okB(sB a0T))(k4:okB(iB a0B))(k5:okB(tB a1s)):∃ F,f60 F(a0N,a0T,a0B,a0x,a0f,a0c,a1s,a1o,a1l)=some((.int .i64(IntKind.i64.wrap(((Dk.R.mk a1s a1o a1l).s.length:Int)-(Jr.J.mk a0N a0T a0B a0x a0f a0c).fin))),[(jE 1 3 2 3 4(Jr.J.mk a0N a0T a0B a0x a0f a0c)),(rB(Dk.R.mk a1s a1o a1l).s.length 5(Dk.R.mk a1s a1o a1l).off(Dk.R.mk a1s a1o a1l).left),(.cells(Jr.J.mk a0N a0T a0B a0x a0f a0c).nums.length(.rI .i64(Jr.J.mk a0N a0T a0B a0x a0f a0c).nums) true),(.cells(Jr.J.mk a0N a0T a0B a0x a0f a0c).texts.length(.rS(Jr.J.mk a0N a0T a0B a0x a0f a0c).texts) true),(.cells(Jr.J.mk a0N a0T a0B a0x a0f a0c).bad.length(.rI .i64(Jr.J.mk a0N a0T a0B a0x a0f a0c).bad) true),(.cells((Dk.R.mk a1s a1o a1l).s.length*4)(.rT [.str,.str,.bool,.bool] (Dk.R.mk a1s a1o a1l).s) true)]):=by
 refine⟨0,?_⟩
 simp only [f60,f60_1]
 rw [cond_pos⟨trivial,(of_decide_eq_true hp).2⟩]
theorem c60:CallOk Tryz.prog G36Z 60 r60:=callOk_of mixed tys eV60 Tryz.func60(by kernel_rfl)(c:=sub(bodyOf Tryz.f60) [])(by kernel_rfl)(by
 intro X H r H' h hX hH
 unfold r60 at h;split at h <;> try contradiction
 ·obtain⟨hp,rfl,rfl⟩:=inj3 h
  obtain rfl:=okB_size(hH _ hm2) rfl
  obtain rfl:=okB_size(hH _ hm3) rfl
  obtain rfl:=okB_size(hH _ hm4) rfl
  obtain rfl:=okB_size(hH _ hm5) rfl
  obtain rfl:=(of_decide_eq_true hp).1
  obtain⟨F,hF⟩:=s60 _ _ _ _ _ _ _ _ _ hp(hH _ hm0)(hH _ hm1)(hH _ hm2)(hH _ hm3)(hH _ hm4)(hH _ hm5)
  exact⟨Af60 F,(f60_body F _ _ _ _ _ _ _ _ _).trans hF⟩)
def lV59:List CEnt:=[(58,[some 3,none],r58)]
def V59:Env:=mkEnv T36Z G36Z lV59
noncomputable abbrev Kf66:=kFin V59(some [(2,.view 3)])(Tryz.f59).results.toList
theorem eV59:EOk Tryz.prog V59:=eok_mk(by exact⟨c58,trivial⟩)
def Af59(F:Nat):Cuts:={ F:=F,at_:=fun n=>match n with | 3016=>some sp83 | _=>none,join:=fun n=>match n with | 1026=>some sp74 | 2024=>some sp24 | 3018=>some sp35 | 8003=>some [(3,.plain)] | _=>none,fin:=(some [(2,.view 3)]) }
noncomputable abbrev XAf59(F:Nat) {α:Type}:=@aexec α V59(Af59 F)
def ef59_a:Ty80→St:=fun(a0N,a0T,a0B,a0x,a0f,a0c,a1s,a1o,a1l)=>⟨[(0,.ptr 0 0 7 0 0 0 7)],[(0,(jB 1 3 2 3 4 a0x a0f a0c)),(1,(rB a1s.length 5 a1o a1l)),(2,(iB a0N)),(3,(sB a0T)),(4,(iB a0B)),(5,(tB a1s))],6,27,6⟩
def ef59j1:(Dk.R)×(Jr.J)→St:=fun(e1,e2)=>⟨[(0,.ptr 0 0 7 0 0 0 7)],[(0,(jE 1 3 2 3 4 e2)),(1,(rB e1.s.length 5 e1.off e1.left)),(2,(iB e2.nums)),(3,(sB e2.texts)),(4,(iB e2.bad)),(5,(tB e1.s))],6,27,6⟩
def ef59j2:(Dk.R)×(Jr.J)→St:=fun(e1,e2)=>⟨[(0,.ptr 0 0 7 0 0 0 7),(3,.ns)],[(0,(jE 1 3 2 3 4 e2)),(1,(rB e1.s.length 5 e1.off e1.left)),(2,(iB e2.nums)),(3,(sB e2.texts)),(4,(iB e2.bad)),(5,(tB e1.s))],6,27,6⟩
def ef59j3:Int×(Dk.R)×(Jr.J)→St:=fun(t4,e1,e2)=>⟨[(0,.ptr 0 0 7 0 0 0 7),(3,.ns),(4,.int .i64 t4)],[(0,(jE 1 3 2 3 4 e2)),(1,(rB e1.s.length 5 e1.off e1.left)),(2,(iB e2.nums)),(3,(sB e2.texts)),(4,(iB e2.bad)),(5,(tB e1.s))],6,27,6⟩
def ef59l1:Ty81→St:=fun(t4,x12,e1,e2)=>⟨[(0,.ptr 0 0 7 0 0 0 7),(3,.own 6 0 1),(4,.int .i64 t4)],[(0,(jE 1 3 2 3 4 e2)),(1,(rB e1.s.length 5 e1.off e1.left)),(2,(iB e2.nums)),(3,(sB e2.texts)),(4,(iB e2.bad)),(5,(tB e1.s)),(6,(iB x12))],7,27,6⟩
def ef59j4:Ty82→St:=fun(x11,e1,e2)=>⟨[(3,.own 6 0 1)],[(0,(jE 1 3 2 3 4 e2)),(1,(rB e1.s.length 5 e1.off e1.left)),(2,(iB e2.nums)),(3,(sB e2.texts)),(4,(iB e2.bad)),(5,(tB e1.s)),(6,(iB x11))],7,27,6⟩
def f59_1(F:Nat)(kj1:(Dk.R)×(Jr.J)→Rz):Ty80→Rz:=fun(a0N,a0T,a0B,a0x,a0f,a0c,a1s,a1o,a1l)=>(kj1((Dk.R.mk a1s a1o a1l),(Jr.J.mk a0N a0T a0B a0x a0f a0c)))
theorem f59_1_eq(F:Nat)(Rj1:St→Rz):∀ v,XAf59 F(bp Tryz.f59 2)(ef59_a v)(kSeq(kc V59 Rj1 sp74) Kf66)=f59_1 F(Rj1∘ef59j1) v:=by
 rintro⟨a0N,a0T,a0B,a0x,a0f,a0c,a1s,a1o,a1l⟩;kernel_rfl
def f59_2(F:Nat)(kj2:(Dk.R)×(Jr.J)→Rz):(Dk.R)×(Jr.J)→Rz:=fun(e1,e2)=>(kj2(e1,e2))
theorem f59_2_eq(F:Nat)(Rj2:St→Rz):∀ v,XAf59 F(bp Tryz.f59 6)(ef59j1 v)(kSeq(kc V59 Rj2 sp24) Kf66)=f59_2 F(Rj2∘ef59j2) v:=by
 rintro⟨e1,e2⟩;kernel_rfl
def f59_3(F:Nat)(kj3:Int×(Dk.R)×(Jr.J)→Rz)(kj4:Ty82→Rz):(Dk.R)×(Jr.J)→Rz:=fun(e1,e2)=>(kj3((1:Int),e1,e2))
theorem f59_3_eq(F:Nat)(Rj3 Rj4:St→Rz):∀ v,XAf59 F(bp Tryz.f59 28)(ef59j2 v)(kSeq(kc V59 Rj3 sp35)(kSeq(kc V59 Rj4 [(3,.plain)]) Kf66))=f59_3 F(Rj3∘ef59j3)(Rj4∘ef59j4) v:=by
 rintro⟨e1,e2⟩;kernel_rfl
def f59_4(F:Nat)(kl1:Ty81→Rz)(kj4:Ty82→Rz):Ty81→Rz:=fun(t4,x12,e1,e2)=>(cond(decide(t4 < e2.next))(cond(!(e2.nums.contains t4))(cond(decide((x12.length+1) < 1073741824))(kl1((IntKind.i64.wrap(t4+(1:Int))),(x12++[t4]),e1,e2)) none)(kl1((IntKind.i64.wrap(t4+(1:Int))),x12,e1,e2)))(kj4(x12,e1,e2)))
theorem f59_4_eq(F:Nat)(Rl1 Rj4:St→Rz):∀ v,XAf59 F(bp Tryz.f59 116)(ef59l1 v)(kSeq(kc V59 Rl1 sp83)(kBlock 0(kSeq(kc V59 Rj4 [(3,.plain)]) Kf66)))=f59_4 F(Rl1∘ef59l1)(Rj4∘ef59j4) v:=by
 rintro⟨t4,x12,e1,e2⟩;kernel_rfl
def f59_5_i:Int×(Dk.R)×(Jr.J)→Int×Li×(Dk.R)×(Jr.J):=fun(t4,e1,e2)=>(t4,[],e1,e2)
def f59_5(F:Nat)(kj4:Ty82→Rz):Int×(Dk.R)×(Jr.J)→Rz:=fun v=>loopN(fun k=>f59_4 F k kj4) F(f59_5_i v)
theorem f59_5_eq(F:Nat)(Rj4:St→Rz):∀ v,XAf59 F(bp Tryz.f59 58)(ef59j3 v)(kBlock 0(kSeq(kc V59 Rj4 [(3,.plain)]) Kf66))=f59_5 F(Rj4∘ef59j4) v:=
 loop_cut(by kernel_rfl)(by kernel_rfl) ef59j3 ef59l1 _ f59_5_i(fun k=>f59_4 F k(Rj4∘ef59j4))
  (by rintro⟨t4,e1,e2⟩;kernel_rfl)(fun Rl1=>f59_4_eq F Rl1 Rj4)
def f59_6(F:Nat)(kj4:Ty82→Rz):Int×(Dk.R)×(Jr.J)→Rz:=f59_5 F kj4
theorem f59_6_eq(F:Nat)(Rj4:St→Rz):∀ v,XAf59 F(bp Tryz.f59 29)(ef59j3 v)(kSeq(kc V59 Rj4 [(3,.plain)]) Kf66)=f59_6 F(Rj4∘ef59j4) v:=fun v=>
 (block_in  (by kernel_rfl) _ _).trans(f59_5_eq F Rj4 v)
def f59_7(F:Nat)(kj4:Ty82→Rz):(Dk.R)×(Jr.J)→Rz:=fun v=>f59_3 F(f59_6 F kj4) kj4 v
theorem f59_7_eq(F:Nat)(Rj4:St→Rz):∀ v,XAf59 F(bp Tryz.f59 14)(ef59j2 v)(kSeq(kc V59 Rj4 [(3,.plain)]) Kf66)=f59_7 F(Rj4∘ef59j4) v:=
 seq_cut(by kernel_rfl)(by kernel_rfl) ef59j2 ef59j3 _(fun k=>f59_3 F k(Rj4∘ef59j4))(f59_6 F(Rj4∘ef59j4))
  (fun Rj3=>f59_3_eq F Rj3 Rj4)(f59_6_eq F Rj4)
def f59_8(F:Nat):Ty82→Rz:=fun(x11,e1,e2)=>(some((.vs(.rI .i64 x11) 0 1),[(jE 1 3 2 3 4 e2),(rB e1.s.length 5 e1.off e1.left),(iB e2.nums),(sB e2.texts),(iB e2.bad),(tB e1.s)]))
theorem f59_8_eq(F:Nat):∀ v,XAf59 F(bp Tryz.f59 15)(ef59j4 v) Kf66=f59_8 F v:=by
 rintro⟨x11,e1,e2⟩;kernel_rfl
def f59_9(F:Nat):(Dk.R)×(Jr.J)→Rz:=fun v=>f59_7 F(f59_8 F) v
theorem f59_9_eq(F:Nat):∀ v,XAf59 F(bp Tryz.f59 7)(ef59j2 v) Kf66=f59_9 F v:=
 seq_cut(by kernel_rfl)(by kernel_rfl) ef59j2 ef59j4 _(fun k=>f59_7 F k)(f59_8 F)
  (fun Rj4=>f59_7_eq F Rj4)(f59_8_eq F)
def f59_10(F:Nat):(Dk.R)×(Jr.J)→Rz:=fun v=>f59_2 F(f59_9 F) v
theorem f59_10_eq(F:Nat):∀ v,XAf59 F(bp Tryz.f59 3)(ef59j1 v) Kf66=f59_10 F v:=
 seq_cut(by kernel_rfl)(by kernel_rfl) ef59j1 ef59j2 _(fun k=>f59_2 F k)(f59_9 F)
  (fun Rj2=>f59_2_eq F Rj2)(f59_9_eq F)
def f59_11(F:Nat):Ty80→Rz:=fun v=>f59_1 F(f59_10 F) v
theorem f59_11_eq(F:Nat):∀ v,XAf59 F(sub(bodyOf Tryz.f59) [])(ef59_a v) Kf66=f59_11 F v:=
 seq_cut(by kernel_rfl)(by kernel_rfl) ef59_a ef59j1 _(fun k=>f59_1 F k)(f59_10 F)
  (fun Rj1=>f59_1_eq F Rj1)(f59_10_eq F)
def f59(F:Nat):Ty80→Rz:=f59_11 F
theorem f59_body(F:Nat)(a0N:Li)(a0T:List Li)(a0B:Li)(a0x a0f:Int)(a0c:Bool)(a1s:List(List Li))(a1o:Bool)(a1l:Int):abody V59(Af59 F) Tryz.f59 [(.ptr 0 0 7 0 0 0 7)] [(jB 1 3 2 3 4 a0x a0f a0c),(rB a1s.length 5 a1o a1l),(iB a0N),(sB a0T),(iB a0B),(tB a1s)]=f59 F(a0N,a0T,a0B,a0x,a0f,a0c,a1s,a1o,a1l):=
 (abody_in(by kernel_rfl)(by kernel_rfl)).trans(f59_11_eq F(a0N,a0T,a0B,a0x,a0f,a0c,a1s,a1o,a1l))
def r59:CRun:=fun X H=>match X,H with
 | [(.ptr 0 0 7 0 0 0 7)],[(.cells 7(.segs(.cons 1(.one(.ptr 1 0 3 0 0 0 3))(.cons 1(.one(.own 2 0 1))(.cons 1(.one(.own 3 0 1))(.cons 1(.one(.own 4 0 1))(.cons 1(.one(.int .i64 a0x))(.cons 1(.one(.int .i64 a0f))(.cons 1(.one(.bool a0c)) .nil)))))))) true),(.cells 3(.segs(.cons 1(.one(.own 5 a1n 4))(.cons 1(.one(.bool a1o))(.cons 1(.one(.int .i64 a1l)) .nil)))) true),(.cells z2(.rI .i64 a0N) true),(.cells z3(.rS a0T) true),(.cells z4(.rI .i64 a0B) true),(.cells z5(.rT [.str,.str,.bool,.bool] a1s) true)]=>some((decide(a1n=a1s.length∧a1n < 8000))&&((decide((Jr.J.mk a0N a0T a0B a0x a0f a0c).nums.length < 1073741000∧(Jr.J.mk a0N a0T a0B a0x a0f a0c).next < 100000))),(.vs(.rI .i64(Jr.damaged(Jr.J.mk a0N a0T a0B a0x a0f a0c))) 0 1),[(jE 1 3 2 3 4(Jr.J.mk a0N a0T a0B a0x a0f a0c)),(rB(Dk.R.mk a1s a1o a1l).s.length 5(Dk.R.mk a1s a1o a1l).off(Dk.R.mk a1s a1o a1l).left),(.cells(Jr.J.mk a0N a0T a0B a0x a0f a0c).nums.length(.rI .i64(Jr.J.mk a0N a0T a0B a0x a0f a0c).nums) true),(.cells(Jr.J.mk a0N a0T a0B a0x a0f a0c).texts.length(.rS(Jr.J.mk a0N a0T a0B a0x a0f a0c).texts) true),(.cells(Jr.J.mk a0N a0T a0B a0x a0f a0c).bad.length(.rI .i64(Jr.J.mk a0N a0T a0B a0x a0f a0c).bad) true),(.cells((Dk.R.mk a1s a1o a1l).s.length*4)(.rT [.str,.str,.bool,.bool] (Dk.R.mk a1s a1o a1l).s) true)])
 | _,_=>none
theorem s59(a0N:Li)(a0T:List Li)(a0B:Li)(a0x a0f:Int)(a0c:Bool)(a1s:List(List Li))(a1o:Bool)(a1l:Int)(hp:((decide(a1s.length=a1s.length∧a1s.length < 8000))&&((decide((Jr.J.mk a0N a0T a0B a0x a0f a0c).nums.length < 1073741000∧(Jr.J.mk a0N a0T a0B a0x a0f a0c).next < 100000))))=true)(k0:okB(.cells 7(.segs(.cons 1(.one(.ptr 1 0 3 0 0 0 3))(.cons 1(.one(.own 2 0 1))(.cons 1(.one(.own 3 0 1))(.cons 1(.one(.own 4 0 1))(.cons 1(.one(.int .i64 a0x))(.cons 1(.one(.int .i64 a0f))(.cons 1(.one(.bool a0c)) .nil)))))))) true))(k1:okB(.cells 3(.segs(.cons 1(.one(.own 5 a1s.length 4))(.cons 1(.one(.bool a1o))(.cons 1(.one(.int .i64 a1l)) .nil)))) true))(k2:okB(.cells a0N.length(.rI .i64 a0N) true))(k3:okB(.cells a0T.length(.rS a0T) true))(k4:okB(.cells a0B.length(.rI .i64 a0B) true))(k5:okB(.cells(a1s.length*4)(.rT [.str,.str,.bool,.bool] a1s) true)):∃ F,f59 F(a0N,a0T,a0B,a0x,a0f,a0c,a1s,a1o,a1l)=some((.vs(.rI .i64(Jr.damaged(Jr.J.mk a0N a0T a0B a0x a0f a0c))) 0 1),[(.cells 7(.segs(.cons 1(.one(.ptr 1 0 3 0 0 0 3))(.cons 1(.one(.own 2 0 1))(.cons 1(.one(.own 3 0 1))(.cons 1(.one(.own 4 0 1))(.cons 1(.one(.int .i64(Jr.J.mk a0N a0T a0B a0x a0f a0c).next))(.cons 1(.one(.int .i64(Jr.J.mk a0N a0T a0B a0x a0f a0c).fin))(.cons 1(.one(.bool(Jr.J.mk a0N a0T a0B a0x a0f a0c).closed)) .nil)))))))) true),(.cells 3(.segs(.cons 1(.one(.own 5(Dk.R.mk a1s a1o a1l).s.length 4))(.cons 1(.one(.bool(Dk.R.mk a1s a1o a1l).off))(.cons 1(.one(.int .i64(Dk.R.mk a1s a1o a1l).left)) .nil)))) true),(.cells(Jr.J.mk a0N a0T a0B a0x a0f a0c).nums.length(.rI .i64(Jr.J.mk a0N a0T a0B a0x a0f a0c).nums) true),(.cells(Jr.J.mk a0N a0T a0B a0x a0f a0c).texts.length(.rS(Jr.J.mk a0N a0T a0B a0x a0f a0c).texts) true),(.cells(Jr.J.mk a0N a0T a0B a0x a0f a0c).bad.length(.rI .i64(Jr.J.mk a0N a0T a0B a0x a0f a0c).bad) true),(.cells((Dk.R.mk a1s a1o a1l).s.length*4)(.rT [.str,.str,.bool,.bool] (Dk.R.mk a1s a1o a1l).s) true)]):=by
 obtain⟨hp0,hp⟩:=Bool.and_eq_true_iff.1 hp
 obtain⟨hp1,hp2⟩:=of_decide_eq_true hp
 have hp2:a0x < 100000:=hp2
 refine⟨200000,?_⟩
 simp only [f59,f59_11,f59_1,f59_10,f59_2,f59_9,f59_7,f59_3,f59_6,f59_5,f59_5_i]
 refine loopN_from(fun i=>((i:Int)+1,((List.range i).filter fun i:Nat=>!a0N.contains((i:Int)+1)).map fun i:Nat=>(i:Int)+1,(Dk.R.mk a1s a1o a1l),(Jr.J.mk a0N a0T a0B a0x a0f a0c)))(a0x-1).toNat rfl(fun i hi q=>?_)(fun q=>?_) 200000(by omega)
 ·simp only [f59_4]
  have hlen:(((List.range i).filter fun i:Nat=>!a0N.contains((i:Int)+1)).map fun i:Nat=>(i:Int)+1).length≤i:=by
   rw [List.length_map];exact Nat.le_trans(List.length_filter_le _ _)(by simp)
  rw [cond_pos(by omega),i64w(by omega)(by omega),Jr.dam_step]
  cases(!a0N.contains((i:Int)+1))
  ·rw [cond_false,cond_false,List.append_nil];rfl
  ·rw [cond_true,cond_true,cond_pos(by omega)];rfl
 ·simp only [f59_4]
  rw [cond_neg(by omega)]
  rfl
theorem c59:CallOk Tryz.prog G36Z 59 r59:=callOk_of mixed tys eV59 Tryz.func59(by kernel_rfl)(c:=sub(bodyOf Tryz.f59) [])(by kernel_rfl)(by
 intro X H r H' h hX hH
 unfold r59 at h;split at h <;> try contradiction
 ·obtain⟨hp,rfl,rfl⟩:=inj3 h
  obtain rfl:=okB_size(hH _ hm2) rfl
  obtain rfl:=okB_size(hH _ hm3) rfl
  obtain rfl:=okB_size(hH _ hm4) rfl
  obtain rfl:=okB_size(hH _ hm5) rfl
  obtain rfl:=(of_decide_eq_true(Bool.and_eq_true_iff.1 hp).1).1
  obtain⟨F,hF⟩:=s59 _ _ _ _ _ _ _ _ _ hp(hH _ hm0)(hH _ hm1)(hH _ hm2)(hH _ hm3)(hH _ hm4)(hH _ hm5)
  exact⟨Af59 F,(f59_body F _ _ _ _ _ _ _ _ _).trans hF⟩)
end Go.Am
end
section
namespace Go.Am
open Go Go.Proofs
abbrev sp92:List(Nat×Md):=[(0,.plain),(4,.plain),(5,.own 79),(6,.plain)]
abbrev sp93:List(Nat×Md):=[(4,.plain),(5,.plain),(11,.plain),(12,.plain),(13,.plain),(14,.plain),(15,.plain),(16,.plain)]
abbrev sp94:List(Nat×Md):=[(0,.plain),(4,.plain),(5,.plain),(6,.plain)]
abbrev sp95:List(Nat×Md):=[(4,.plain),(5,.plain),(11,.plain),(12,.plain)]
abbrev sp96:List(Nat×Md):=[(4,.plain),(5,.plain),(11,.plain),(12,.plain),(13,.plain)]
abbrev sp97:List(Nat×Md):=[(4,.plain),(5,.plain),(11,.plain),(12,.plain),(13,.plain),(14,.plain)]
abbrev sp98:List(Nat×Md):=[(4,.plain),(5,.plain),(11,.plain),(12,.plain),(13,.plain),(14,.plain),(15,.plain)]
abbrev sp99:List(Nat×Md):=[(4,.plain)]
abbrev Ty91:=(List(List Li))×Bool×Int
abbrev Ty92:=Nat×Int×(List(List Li))×(Dk.R)×(Jr.J)
abbrev Ty93:=Nat×(List(List Li))×(Dk.R)×(Jr.J)
abbrev Ty94:=Nat×Int×(List(List Li))×Int×Int×Int×Li×Bool×(Dk.R)×(Jr.J)
abbrev Ty95:=Nat×Int×Int×(List(List Li))×Int×Int×Int×Li×Bool×(Dk.R)×(Jr.J)
abbrev Ty96:=Nat×Int×Int×Li×(List(List Li))×Int×Int×Int×Li×Bool×(Dk.R)×(Jr.J)
abbrev Ty97:=Nat×Int×Int×Li×Bool×(List(List Li))×Int×Int×Int×Li×Bool×(Dk.R)×(Jr.J)
abbrev Ty98:=Nat×Int×Int×Li×Bool×Int×(List(List Li))×Int×Int×Int×Li×Bool×(Dk.R)×(Jr.J)
def lV22:List CEnt:=[(52,[none],r52),(54,[none],r54),(55,[none,none],r55),(56,[none],r56),(57,[none],r57),(58,[some 3,none],r58)]
def V22:Env:=mkEnv T36Z G37Z lV22
noncomputable abbrev Kf68:=kFin V22 none(Tryz.f22).results.toList
theorem eV22:EOk Tryz.prog V22:=eok_mk(by exact⟨c52,c54.more gsub,c55.more gsub,c56.more gsub,c57.more gsub,c58.more gsub,trivial⟩)
def Af22(F:Nat):Cuts:={ F:=F,at_:=fun n=>match n with | 4042=>some sp92 | 19053=>some sp54 | 25014=>some sp93 | _=>none,join:=fun n=>match n with | 1112=>some sp74 | 2110=>some sp73 | 3108=>some sp55 | 4044=>some sp94 | 18061=>some sp57 | 19059=>some sp54 | 20047=>some sp54 | 21044=>some sp95 | 22042=>some sp96 | 23040=>some sp97 | 24038=>some sp98 | 25016=>some sp93 | 30019=>some sp98 | 37003=>some sp99 | _=>none }
noncomputable abbrev XAf22(F:Nat) {α:Type}:=@aexec α V22(Af22 F)
def ef22_a:Ty91→St:=fun(a0s,a0o,a0l)=>⟨[(0,.ptr 0 0 3 0 0 0 3)],[(0,(rB a0s.length 1 a0o a0l)),(1,(tB a0s))],2,189,2⟩
def ef22j1:(Dk.R)→St:=fun e1=>⟨[(0,.ptr 0 0 3 0 0 0 3)],[(0,(rB e1.s.length 1 e1.off e1.left)),(1,(tB e1.s))],2,189,2⟩
def ef22j2:(Dk.R)×(Jr.J)→St:=fun(e1,e2)=>⟨[(0,.ptr 0 0 3 0 0 0 3),(4,.ptr 2 0 7 0 0 0 7)],[(0,(rB e1.s.length 1 e1.off e1.left)),(1,(tB e1.s)),(2,(jE 0 3 3 4 5 e2)),(3,(iB e2.nums)),(4,(sB e2.texts)),(5,(iB e2.bad))],6,189,2⟩
def ef22j3:(Dk.R)×(Jr.J)→St:=fun(e1,e2)=>⟨[(0,.ptr 0 0 3 0 0 0 3),(4,.ptr 2 0 7 0 0 0 7),(5,.ns)],[(0,(rB e1.s.length 1 e1.off e1.left)),(1,(tB e1.s)),(2,(jE 0 3 3 4 5 e2)),(3,(iB e2.nums)),(4,(sB e2.texts)),(5,(iB e2.bad))],6,189,2⟩
def ef22j4:Int×(Dk.R)×(Jr.J)→St:=fun(t6,e1,e2)=>⟨[(0,.ptr 0 0 3 0 0 0 3),(4,.ptr 2 0 7 0 0 0 7),(5,.ns),(6,.int .i64 t6)],[(0,(rB e1.s.length 1 e1.off e1.left)),(1,(tB e1.s)),(2,(jE 0 3 3 4 5 e2)),(3,(iB e2.nums)),(4,(sB e2.texts)),(5,(iB e2.bad))],6,189,2⟩
def ef22l1:Ty92→St:=fun(x1,t6,x10,e1,e2)=>⟨[(0,.ptr 0 0 3 0 0 0 3),(4,.ptr 2 0 7 0 0 0 7),(5,.own 3 x1 5),(6,.int .i64 t6)],[(0,(rB e1.s.length 1 e1.off e1.left)),(1,(tB e1.s)),(2,(jE 0 3 4 5 6 e2)),(3,(.cells(x1*5)(.rT [.int .i64,.int .i64,.int .i64,.str,.bool] x10) true)),(4,(iB e2.nums)),(5,(sB e2.texts)),(6,(iB e2.bad))],7,189,2⟩
def ef22j5:Ty93→St:=fun(x1,x9,e1,e2)=>⟨[(4,.ptr 2 0 7 0 0 0 7),(5,.own 3 x1 5)],[(0,(rB e1.s.length 1 e1.off e1.left)),(1,(tB e1.s)),(2,(jE 0 3 4 5 6 e2)),(3,(.cells(x1*5)(.rT [.int .i64,.int .i64,.int .i64,.str,.bool] x9) true)),(4,(iB e2.nums)),(5,(sB e2.texts)),(6,(iB e2.bad))],7,189,2⟩
def ef22j6:Ty92→St:=fun(x1,t11,x10,e1,e2)=>⟨[(4,.ptr 2 0 7 0 0 0 7),(5,.own 3 x1 5),(11,.int .i64 t11)],[(0,(rB e1.s.length 1 e1.off e1.left)),(1,(tB e1.s)),(2,(jE 0 3 4 5 6 e2)),(3,(.cells(x1*5)(.rT [.int .i64,.int .i64,.int .i64,.str,.bool] x10) true)),(4,(iB e2.nums)),(5,(sB e2.texts)),(6,(iB e2.bad))],7,189,2⟩
def ef22l2:Ty92→St:=ef22j6
def ef22j7:Ty92→St:=ef22j6
def ef22j8:Ty94→St:=fun(x1,t11,x10,x11,x12,x13,x14,x15,e1,e2)=>⟨[(4,.ptr 2 0 7 0 0 0 7),(5,.own 3 x1 5),(11,.int .i64 t11),(12,.ptr 4 0 5 0 0 0 5)],[(0,(rB e1.s.length 1 e1.off e1.left)),(1,(tB e1.s)),(2,(jE 0 3 5 6 7 e2)),(3,(.cells(x1*5)(.rT [.int .i64,.int .i64,.int .i64,.str,.bool] x10) true)),(4,(.cells 5(.segs(.cons 1(.one(.int .i64 x11))(.cons 1(.one(.int .i64 x12))(.cons 1(.one(.int .i64 x13))(.cons 1(.one(.str x14))(.cons 1(.one(.bool x15)) .nil)))))) true)),(5,(iB e2.nums)),(6,(sB e2.texts)),(7,(iB e2.bad))],8,189,2⟩
def ef22j9:Ty95→St:=fun(x1,t11,t13,x11,x12,x13,x14,x15,x16,e1,e2)=>⟨[(4,.ptr 2 0 7 0 0 0 7),(5,.own 3 x1 5),(11,.int .i64 t11),(12,.ptr 4 0 5 0 0 0 5),(13,.int .i64 t13)],[(0,(rB e1.s.length 1 e1.off e1.left)),(1,(tB e1.s)),(2,(jE 0 3 5 6 7 e2)),(3,(.cells(x1*5)(.rT [.int .i64,.int .i64,.int .i64,.str,.bool] x11) true)),(4,(.cells 5(.segs(.cons 1(.one(.int .i64 x12))(.cons 1(.one(.int .i64 x13))(.cons 1(.one(.int .i64 x14))(.cons 1(.one(.str x15))(.cons 1(.one(.bool x16)) .nil)))))) true)),(5,(iB e2.nums)),(6,(sB e2.texts)),(7,(iB e2.bad))],8,189,2⟩
def ef22j10:Ty96→St:=fun(x1,t11,t13,t14,x12,x13,x14,x15,x16,x17,e1,e2)=>⟨[(4,.ptr 2 0 7 0 0 0 7),(5,.own 3 x1 5),(11,.int .i64 t11),(12,.ptr 4 0 5 0 0 0 5),(13,.int .i64 t13),(14,.str t14)],[(0,(rB e1.s.length 1 e1.off e1.left)),(1,(tB e1.s)),(2,(jE 0 3 5 6 7 e2)),(3,(.cells(x1*5)(.rT [.int .i64,.int .i64,.int .i64,.str,.bool] x12) true)),(4,(.cells 5(.segs(.cons 1(.one(.int .i64 x13))(.cons 1(.one(.int .i64 x14))(.cons 1(.one(.int .i64 x15))(.cons 1(.one(.str x16))(.cons 1(.one(.bool x17)) .nil)))))) true)),(5,(iB e2.nums)),(6,(sB e2.texts)),(7,(iB e2.bad))],8,189,2⟩
def ef22j11:Ty97→St:=fun(x1,t11,t13,t14,t15,x13,x14,x15,x16,x17,x18,e1,e2)=>⟨[(4,.ptr 2 0 7 0 0 0 7),(5,.own 3 x1 5),(11,.int .i64 t11),(12,.ptr 4 0 5 0 0 0 5),(13,.int .i64 t13),(14,.str t14),(15,.bool t15)],[(0,(rB e1.s.length 1 e1.off e1.left)),(1,(tB e1.s)),(2,(jE 0 3 5 6 7 e2)),(3,(.cells(x1*5)(.rT [.int .i64,.int .i64,.int .i64,.str,.bool] x13) true)),(4,(.cells 5(.segs(.cons 1(.one(.int .i64 x14))(.cons 1(.one(.int .i64 x15))(.cons 1(.one(.int .i64 x16))(.cons 1(.one(.str x17))(.cons 1(.one(.bool x18)) .nil)))))) true)),(5,(iB e2.nums)),(6,(sB e2.texts)),(7,(iB e2.bad))],8,189,2⟩
def ef22j12:Ty98→St:=fun(x1,t11,t13,t14,t15,t16,x14,x15,x16,x17,x18,x19,e1,e2)=>⟨[(4,.ptr 2 0 7 0 0 0 7),(5,.own 3 x1 5),(11,.int .i64 t11),(12,.ptr 4 0 5 0 0 0 5),(13,.int .i64 t13),(14,.str t14),(15,.bool t15),(16,.int .i64 t16)],[(0,(rB e1.s.length 1 e1.off e1.left)),(1,(tB e1.s)),(2,(jE 0 3 5 6 7 e2)),(3,(.cells(x1*5)(.rT [.int .i64,.int .i64,.int .i64,.str,.bool] x14) true)),(4,(.cells 5(.segs(.cons 1(.one(.int .i64 x15))(.cons 1(.one(.int .i64 x16))(.cons 1(.one(.int .i64 x17))(.cons 1(.one(.str x18))(.cons 1(.one(.bool x19)) .nil)))))) true)),(5,(iB e2.nums)),(6,(sB e2.texts)),(7,(iB e2.bad))],8,189,2⟩
def ef22l3:Ty98→St:=ef22j12
def ef22j13:Ty97→St:=ef22j11
def ef22j14:(Dk.R)×(Jr.J)→St:=fun(e1,e2)=>⟨[(4,.ptr 2 0 7 0 0 0 7)],[(0,(rB e1.s.length 1 e1.off e1.left)),(1,(tB e1.s)),(2,(jE 0 3 3 4 5 e2)),(3,(iB e2.nums)),(4,(sB e2.texts)),(5,(iB e2.bad))],6,189,2⟩
def f22_1(F:Nat)(kj1:(Dk.R)→Rz):Ty91→Rz:=fun(a0s,a0o,a0l)=>(kj1(Dk.R.mk a0s a0o a0l))
theorem f22_1_eq(F:Nat)(Rj1:St→Rz):∀ v,XAf22 F(bp Tryz.f22 2)(ef22_a v)(kSeq(kc V22 Rj1 sp74) Kf68)=f22_1 F(Rj1∘ef22j1) v:=by
 rintro⟨a0s,a0o,a0l⟩;kernel_rfl
def f22_2(F:Nat)(kj2:(Dk.R)×(Jr.J)→Rz):(Dk.R)→Rz:=fun e1=>(kj2(e1,(Jr.J.mk [] [] [] (1:Int)(0:Int) false)))
theorem f22_2_eq(F:Nat)(Rj2:St→Rz):∀ v,XAf22 F(bp Tryz.f22 6)(ef22j1 v)(kSeq(kc V22 Rj2 sp73) Kf68)=f22_2 F(Rj2∘ef22j2) v:=by
 intro e1;kernel_rfl
def f22_3(F:Nat)(kj3:(Dk.R)×(Jr.J)→Rz):(Dk.R)×(Jr.J)→Rz:=fun(e1,e2)=>(kj3(e1,e2))
theorem f22_3_eq(F:Nat)(Rj3:St→Rz):∀ v,XAf22 F(bp Tryz.f22 14)(ef22j2 v)(kSeq(kc V22 Rj3 sp55) Kf68)=f22_3 F(Rj3∘ef22j3) v:=by
 rintro⟨e1,e2⟩;kernel_rfl
def f22_4(F:Nat)(kj4:Int×(Dk.R)×(Jr.J)→Rz)(kj5:Ty93→Rz):(Dk.R)×(Jr.J)→Rz:=fun(e1,e2)=>(kj4((0:Int),e1,e2))
theorem f22_4_eq(F:Nat)(Rj4 Rj5:St→Rz):∀ v,XAf22 F(bp Tryz.f22 60)(ef22j3 v)(kSeq(kc V22 Rj4 sp94)(kSeq(kc V22 Rj5 sp57) Kf68))=f22_4 F(Rj4∘ef22j4)(Rj5∘ef22j5) v:=by
 rintro⟨e1,e2⟩;kernel_rfl
def f22_5(F:Nat)(kl1:Ty92→Rz)(kj5:Ty93→Rz):Ty92→Rz:=fun(x1,t6,x10,e1,e2)=>(cond(decide(e1.s.length=e1.s.length∧e1.s.length < 8000))(cond(decide(t6 < (e1.s.length:Int)))(cond(decide(e1.s.length=e1.s.length∧e1.s.length < 8000))(cond((Dk.rread e1 t6).2 != (0:Int))(some((.tup(.cons 0 .nilp(.cons 0(.int .i64(Dk.rread e1 t6).2) .nil))),[(rB e1.s.length 1 e1.off e1.left),(tB e1.s)]))(cond(decide((x1+1) < 1073741824))(cond(!(Jr.blank(Dk.rread e1 t6).1))(cond(!(Jr.unpack(Dk.rread e1 t6).1).ok)(cond(!(Jr.blank(Dk.rread e1 t6).1))(cond(decide((e2.bad.length+1) < 1073741824))(cond(decide((Jr.unpack(Dk.rread e1 t6).1).number≥e2.next))(kl1((x1+1),(IntKind.i64.wrap(t6+(1:Int))),(x10++[[[(Jr.unpack(Dk.rread e1 t6).1).number],[(Jr.unpack(Dk.rread e1 t6).1).part],[(Jr.unpack(Dk.rread e1 t6).1).left],(Jr.unpack(Dk.rread e1 t6).1).payload,[(cond(Jr.unpack(Dk.rread e1 t6).1).ok 1 0)]]]),e1,(Jr.J.mk e2.nums e2.texts(e2.bad++[t6])(IntKind.i64.wrap((Jr.unpack(Dk.rread e1 t6).1).number+(1:Int)))(IntKind.i64.wrap(t6+(1:Int))) e2.closed)))(kl1((x1+1),(IntKind.i64.wrap(t6+(1:Int))),(x10++[[[(Jr.unpack(Dk.rread e1 t6).1).number],[(Jr.unpack(Dk.rread e1 t6).1).part],[(Jr.unpack(Dk.rread e1 t6).1).left],(Jr.unpack(Dk.rread e1 t6).1).payload,[(cond(Jr.unpack(Dk.rread e1 t6).1).ok 1 0)]]]),e1,(Jr.J.mk e2.nums e2.texts(e2.bad++[t6]) e2.next(IntKind.i64.wrap(t6+(1:Int))) e2.closed)))) none)(cond(decide((Jr.unpack(Dk.rread e1 t6).1).number≥e2.next))(kl1((x1+1),(IntKind.i64.wrap(t6+(1:Int))),(x10++[[[(Jr.unpack(Dk.rread e1 t6).1).number],[(Jr.unpack(Dk.rread e1 t6).1).part],[(Jr.unpack(Dk.rread e1 t6).1).left],(Jr.unpack(Dk.rread e1 t6).1).payload,[(cond(Jr.unpack(Dk.rread e1 t6).1).ok 1 0)]]]),e1,(Jr.J.mk e2.nums e2.texts e2.bad(IntKind.i64.wrap((Jr.unpack(Dk.rread e1 t6).1).number+(1:Int)))(IntKind.i64.wrap(t6+(1:Int))) e2.closed)))(kl1((x1+1),(IntKind.i64.wrap(t6+(1:Int))),(x10++[[[(Jr.unpack(Dk.rread e1 t6).1).number],[(Jr.unpack(Dk.rread e1 t6).1).part],[(Jr.unpack(Dk.rread e1 t6).1).left],(Jr.unpack(Dk.rread e1 t6).1).payload,[(cond(Jr.unpack(Dk.rread e1 t6).1).ok 1 0)]]]),e1,(Jr.J.mk e2.nums e2.texts e2.bad e2.next(IntKind.i64.wrap(t6+(1:Int))) e2.closed)))))(cond(decide((Jr.unpack(Dk.rread e1 t6).1).number≥e2.next))(kl1((x1+1),(IntKind.i64.wrap(t6+(1:Int))),(x10++[[[(Jr.unpack(Dk.rread e1 t6).1).number],[(Jr.unpack(Dk.rread e1 t6).1).part],[(Jr.unpack(Dk.rread e1 t6).1).left],(Jr.unpack(Dk.rread e1 t6).1).payload,[(cond(Jr.unpack(Dk.rread e1 t6).1).ok 1 0)]]]),e1,(Jr.J.mk e2.nums e2.texts e2.bad(IntKind.i64.wrap((Jr.unpack(Dk.rread e1 t6).1).number+(1:Int)))(IntKind.i64.wrap(t6+(1:Int))) e2.closed)))(kl1((x1+1),(IntKind.i64.wrap(t6+(1:Int))),(x10++[[[(Jr.unpack(Dk.rread e1 t6).1).number],[(Jr.unpack(Dk.rread e1 t6).1).part],[(Jr.unpack(Dk.rread e1 t6).1).left],(Jr.unpack(Dk.rread e1 t6).1).payload,[(cond(Jr.unpack(Dk.rread e1 t6).1).ok 1 0)]]]),e1,(Jr.J.mk e2.nums e2.texts e2.bad e2.next(IntKind.i64.wrap(t6+(1:Int))) e2.closed)))))(cond(!(Jr.unpack(Dk.rread e1 t6).1).ok)(cond(!(Jr.blank(Dk.rread e1 t6).1))(cond(decide((e2.bad.length+1) < 1073741824))(cond(decide((Jr.unpack(Dk.rread e1 t6).1).number≥e2.next))(kl1((x1+1),(IntKind.i64.wrap(t6+(1:Int))),(x10++[[[(Jr.unpack(Dk.rread e1 t6).1).number],[(Jr.unpack(Dk.rread e1 t6).1).part],[(Jr.unpack(Dk.rread e1 t6).1).left],(Jr.unpack(Dk.rread e1 t6).1).payload,[(cond(Jr.unpack(Dk.rread e1 t6).1).ok 1 0)]]]),e1,(Jr.J.mk e2.nums e2.texts(e2.bad++[t6])(IntKind.i64.wrap((Jr.unpack(Dk.rread e1 t6).1).number+(1:Int))) e2.fin e2.closed)))(kl1((x1+1),(IntKind.i64.wrap(t6+(1:Int))),(x10++[[[(Jr.unpack(Dk.rread e1 t6).1).number],[(Jr.unpack(Dk.rread e1 t6).1).part],[(Jr.unpack(Dk.rread e1 t6).1).left],(Jr.unpack(Dk.rread e1 t6).1).payload,[(cond(Jr.unpack(Dk.rread e1 t6).1).ok 1 0)]]]),e1,(Jr.J.mk e2.nums e2.texts(e2.bad++[t6]) e2.next e2.fin e2.closed)))) none)(cond(decide((Jr.unpack(Dk.rread e1 t6).1).number≥e2.next))(kl1((x1+1),(IntKind.i64.wrap(t6+(1:Int))),(x10++[[[(Jr.unpack(Dk.rread e1 t6).1).number],[(Jr.unpack(Dk.rread e1 t6).1).part],[(Jr.unpack(Dk.rread e1 t6).1).left],(Jr.unpack(Dk.rread e1 t6).1).payload,[(cond(Jr.unpack(Dk.rread e1 t6).1).ok 1 0)]]]),e1,(Jr.J.mk e2.nums e2.texts e2.bad(IntKind.i64.wrap((Jr.unpack(Dk.rread e1 t6).1).number+(1:Int))) e2.fin e2.closed)))(kl1((x1+1),(IntKind.i64.wrap(t6+(1:Int))),(x10++[[[(Jr.unpack(Dk.rread e1 t6).1).number],[(Jr.unpack(Dk.rread e1 t6).1).part],[(Jr.unpack(Dk.rread e1 t6).1).left],(Jr.unpack(Dk.rread e1 t6).1).payload,[(cond(Jr.unpack(Dk.rread e1 t6).1).ok 1 0)]]]),e1,e2))))(cond(decide((Jr.unpack(Dk.rread e1 t6).1).number≥e2.next))(kl1((x1+1),(IntKind.i64.wrap(t6+(1:Int))),(x10++[[[(Jr.unpack(Dk.rread e1 t6).1).number],[(Jr.unpack(Dk.rread e1 t6).1).part],[(Jr.unpack(Dk.rread e1 t6).1).left],(Jr.unpack(Dk.rread e1 t6).1).payload,[(cond(Jr.unpack(Dk.rread e1 t6).1).ok 1 0)]]]),e1,(Jr.J.mk e2.nums e2.texts e2.bad(IntKind.i64.wrap((Jr.unpack(Dk.rread e1 t6).1).number+(1:Int))) e2.fin e2.closed)))(kl1((x1+1),(IntKind.i64.wrap(t6+(1:Int))),(x10++[[[(Jr.unpack(Dk.rread e1 t6).1).number],[(Jr.unpack(Dk.rread e1 t6).1).part],[(Jr.unpack(Dk.rread e1 t6).1).left],(Jr.unpack(Dk.rread e1 t6).1).payload,[(cond(Jr.unpack(Dk.rread e1 t6).1).ok 1 0)]]]),e1,e2))))) none)) none)(kj5(x1,x10,e1,e2))) none)
theorem f22_5_eq(F:Nat)(Rl1 Rj5:St→Rz):∀ v,XAf22 F(bp Tryz.f22 244)(ef22l1 v)(kSeq(kc V22 Rl1 sp92)(kBlock 0(kSeq(kc V22 Rj5 sp57) Kf68)))=f22_5 F(Rl1∘ef22l1)(Rj5∘ef22j5) v:=by
 rintro⟨x1,t6,x10,e1,e2⟩;kernel_rfl
def f22_6_i:Int×(Dk.R)×(Jr.J)→Nat×Int×(List(List Li))×(Dk.R)×(Jr.J):=fun(t6,e1,e2)=>(0,t6,[],e1,e2)
def f22_6(F:Nat)(kj5:Ty93→Rz):Int×(Dk.R)×(Jr.J)→Rz:=fun v=>loopN(fun k=>f22_5 F k kj5) F(f22_6_i v)
theorem f22_6_eq(F:Nat)(Rj5:St→Rz):∀ v,XAf22 F(bp Tryz.f22 122)(ef22j4 v)(kBlock 0(kSeq(kc V22 Rj5 sp57) Kf68))=f22_6 F(Rj5∘ef22j5) v:=
 loop_cut(by kernel_rfl)(by kernel_rfl) ef22j4 ef22l1 _ f22_6_i(fun k=>f22_5 F k(Rj5∘ef22j5))
  (by rintro⟨t6,e1,e2⟩;kernel_rfl)(fun Rl1=>f22_5_eq F Rl1 Rj5)
def f22_7(F:Nat)(kj5:Ty93→Rz):Int×(Dk.R)×(Jr.J)→Rz:=f22_6 F kj5
theorem f22_7_eq(F:Nat)(Rj5:St→Rz):∀ v,XAf22 F(bp Tryz.f22 61)(ef22j4 v)(kSeq(kc V22 Rj5 sp57) Kf68)=f22_7 F(Rj5∘ef22j5) v:=fun v=>
 (block_in  (by kernel_rfl) _ _).trans(f22_6_eq F Rj5 v)
def f22_8(F:Nat)(kj5:Ty93→Rz):(Dk.R)×(Jr.J)→Rz:=fun v=>f22_4 F(f22_7 F kj5) kj5 v
theorem f22_8_eq(F:Nat)(Rj5:St→Rz):∀ v,XAf22 F(bp Tryz.f22 30)(ef22j3 v)(kSeq(kc V22 Rj5 sp57) Kf68)=f22_8 F(Rj5∘ef22j5) v:=
 seq_cut(by kernel_rfl)(by kernel_rfl) ef22j3 ef22j4 _(fun k=>f22_4 F k(Rj5∘ef22j5))(f22_7 F(Rj5∘ef22j5))
  (fun Rj4=>f22_4_eq F Rj4 Rj5)(f22_7_eq F Rj5)
def f22_9(F:Nat)(kj6:Ty92→Rz):Ty93→Rz:=fun(x1,x9,e1,e2)=>(kj6(x1,(0:Int),x9,e1,e2))
theorem f22_9_eq(F:Nat)(Rj6:St→Rz):∀ v,XAf22 F(bp Tryz.f22 62)(ef22j5 v)(kSeq(kc V22 Rj6 sp54) Kf68)=f22_9 F(Rj6∘ef22j6) v:=by
 rintro⟨x1,x9,e1,e2⟩;kernel_rfl
def f22_10(F:Nat)(kj7 kl2:Ty92→Rz)(kj14:(Dk.R)×(Jr.J)→Rz):Ty92→Rz:=fun(x1,t11,x10,e1,e2)=>(cond(decide(t11 < (↑x1:Int)))(kj7(x1,t11,x10,e1,e2))(kj14(e1,e2)))
theorem f22_10_eq(F:Nat)(Rj7 Rl2 Rj14:St→Rz):∀ v,XAf22 F(bp Tryz.f22 1008)(ef22l2 v)(kSeq(kc V22 Rj7 sp54)(kSeq(kc V22 Rl2 sp54)(kBlock 2(kSeq(kc V22 Rj14 sp99) Kf68))))=f22_10 F(Rj7∘ef22j7)(Rl2∘ef22l2)(Rj14∘ef22j14) v:=by
 rintro⟨x1,t11,x10,e1,e2⟩;kernel_rfl
def f22_11(F:Nat)(kj8:Ty94→Rz)(kl2:Ty92→Rz)(kj14:(Dk.R)×(Jr.J)→Rz):Ty92→Rz:=fun(x1,t11,x10,e1,e2)=>(cond((decide(0≤t11))&&(decide(t11 < (↑x1:Int))))(kj8(x1,t11,x10,(((x10.getD(Int.toNat t11) []).getD 0 []).getD 0 0),(((x10.getD(Int.toNat t11) []).getD 1 []).getD 0 0),(((x10.getD(Int.toNat t11) []).getD 2 []).getD 0 0),((x10.getD(Int.toNat t11) []).getD 3 []),((((x10.getD(Int.toNat t11) []).getD 4 []).getD 0 0)==1),e1,e2)) none)
theorem f22_11_eq(F:Nat)(Rj8 Rl2 Rj14:St→Rz):∀ v,XAf22 F(bp Tryz.f22 4036)(ef22j7 v)(kSeq(kc V22 Rj8 sp95)(kBlock 3(kSeq(kc V22 Rl2 sp54)(kBlock 2(kSeq(kc V22 Rj14 sp99) Kf68)))))=f22_11 F(Rj8∘ef22j8)(Rl2∘ef22l2)(Rj14∘ef22j14) v:=by
 rintro⟨x1,t11,x10,e1,e2⟩;kernel_rfl
def f22_12(F:Nat)(kj9:Ty95→Rz)(kl2:Ty92→Rz)(kj14:(Dk.R)×(Jr.J)→Rz):Ty94→Rz:=fun(x1,t11,x10,x11,x12,x13,x14,x15,e1,e2)=>(kj9(x1,t11,(Jr.count x13),x10,x11,x12,x13,x14,x15,e1,e2))
theorem f22_12_eq(F:Nat)(Rj9 Rl2 Rj14:St→Rz):∀ v,XAf22 F(bp Tryz.f22 8074)(ef22j8 v)(kSeq(kc V22 Rj9 sp96)(kBlock 3(kSeq(kc V22 Rl2 sp54)(kBlock 2(kSeq(kc V22 Rj14 sp99) Kf68)))))=f22_12 F(Rj9∘ef22j9)(Rl2∘ef22l2)(Rj14∘ef22j14) v:=by
 rintro⟨x1,t11,x10,x11,x12,x13,x14,x15,e1,e2⟩;kernel_rfl
def f22_13(F:Nat)(kj10:Ty96→Rz)(kl2:Ty92→Rz)(kj14:(Dk.R)×(Jr.J)→Rz):Ty95→Rz:=fun(x1,t11,t13,x11,x12,x13,x14,x15,x16,e1,e2)=>(kj10(x1,t11,t13,[],x11,x12,x13,x14,x15,x16,e1,e2))
theorem f22_13_eq(F:Nat)(Rj10 Rl2 Rj14:St→Rz):∀ v,XAf22 F(bp Tryz.f22 16150)(ef22j9 v)(kSeq(kc V22 Rj10 sp97)(kBlock 3(kSeq(kc V22 Rl2 sp54)(kBlock 2(kSeq(kc V22 Rj14 sp99) Kf68)))))=f22_13 F(Rj10∘ef22j10)(Rl2∘ef22l2)(Rj14∘ef22j14) v:=by
 rintro⟨x1,t11,t13,x11,x12,x13,x14,x15,x16,e1,e2⟩;kernel_rfl
def f22_14(F:Nat)(kj11:Ty97→Rz)(kl2:Ty92→Rz)(kj14:(Dk.R)×(Jr.J)→Rz):Ty96→Rz:=fun(x1,t11,t13,t14,x12,x13,x14,x15,x16,x17,e1,e2)=>(cond x17(cond(x14==(0:Int))(kj11(x1,t11,t13,t14,(decide((IntKind.i64.wrap(t11+t13))≤(↑x1:Int))),x12,x13,x14,x15,x16,x17,e1,e2))(kj11(x1,t11,t13,t14,false,x12,x13,x14,x15,x16,x17,e1,e2)))(kj11(x1,t11,t13,t14,false,x12,x13,x14,x15,x16,x17,e1,e2)))
theorem f22_14_eq(F:Nat)(Rj11 Rl2 Rj14:St→Rz):∀ v,XAf22 F(bp Tryz.f22 32302)(ef22j10 v)(kSeq(kc V22 Rj11 sp98)(kBlock 3(kSeq(kc V22 Rl2 sp54)(kBlock 2(kSeq(kc V22 Rj14 sp99) Kf68)))))=f22_14 F(Rj11∘ef22j11)(Rl2∘ef22l2)(Rj14∘ef22j14) v:=by
 rintro⟨x1,t11,t13,t14,x12,x13,x14,x15,x16,x17,e1,e2⟩;kernel_rfl
def f22_15(F:Nat)(kj12:Ty98→Rz)(kj13:Ty97→Rz)(kl2:Ty92→Rz)(kj14:(Dk.R)×(Jr.J)→Rz):Ty97→Rz:=fun(x1,t11,t13,t14,t15,x13,x14,x15,x16,x17,x18,e1,e2)=>(kj12(x1,t11,t13,t14,t15,(0:Int),x13,x14,x15,x16,x17,x18,e1,e2))
theorem f22_15_eq(F:Nat)(Rj12 Rj13:St→Rz)(Rl2 Rj14:St→Rz):∀ v,XAf22 F(bp Tryz.f22 129212)(ef22j11 v)(kSeq(kc V22 Rj12 sp93)(kSeq(kc V22 Rj13 sp98)(kBlock 3(kSeq(kc V22 Rl2 sp54)(kBlock 2(kSeq(kc V22 Rj14 sp99) Kf68))))))=f22_15 F(Rj12∘ef22j12)(Rj13∘ef22j13)(Rl2∘ef22l2)(Rj14∘ef22j14) v:=by
 rintro⟨x1,t11,t13,t14,t15,x13,x14,x15,x16,x17,x18,e1,e2⟩;kernel_rfl
def f22_16(F:Nat)(kl3:Ty98→Rz)(kj13:Ty97→Rz)(kl2:Ty92→Rz)(kj14:(Dk.R)×(Jr.J)→Rz):Ty98→Rz:=fun(x1,t11,t13,t14,t15,t16,x14,x15,x16,x17,x18,x19,e1,e2)=>(cond t15(cond(decide(t16 < t13))(cond((decide(0≤(IntKind.i64.wrap(t11+t16))))&&(decide((IntKind.i64.wrap(t11+t16)) < (↑x1:Int))))(cond((((x14.getD(Int.toNat(IntKind.i64.wrap(t11+t16))) []).getD 4 []).getD 0 0)==1)(cond((((x14.getD(Int.toNat(IntKind.i64.wrap(t11+t16))) []).getD 0 []).getD 0 0)==x15)(cond((((x14.getD(Int.toNat(IntKind.i64.wrap(t11+t16))) []).getD 1 []).getD 0 0)==t16)(cond(decide((t14.length+((x14.getD(Int.toNat(IntKind.i64.wrap(t11+t16))) []).getD 3 []).length) < 4611686018427387904))(kl3(x1,t11,t13,(t14++((x14.getD(Int.toNat(IntKind.i64.wrap(t11+t16))) []).getD 3 [])),((((x14.getD(Int.toNat(IntKind.i64.wrap(t11+t16))) []).getD 2 []).getD 0 0)==(IntKind.i64.wrap(x17-(IntKind.i64.wrap((48:Int)*t16))))),(IntKind.i64.wrap(t16+(1:Int))),x14,x15,x16,x17,x18,x19,e1,e2)) none)(cond(decide((t14.length+((x14.getD(Int.toNat(IntKind.i64.wrap(t11+t16))) []).getD 3 []).length) < 4611686018427387904))(kl3(x1,t11,t13,(t14++((x14.getD(Int.toNat(IntKind.i64.wrap(t11+t16))) []).getD 3 [])),false,(IntKind.i64.wrap(t16+(1:Int))),x14,x15,x16,x17,x18,x19,e1,e2)) none))(cond(decide((t14.length+((x14.getD(Int.toNat(IntKind.i64.wrap(t11+t16))) []).getD 3 []).length) < 4611686018427387904))(kl3(x1,t11,t13,(t14++((x14.getD(Int.toNat(IntKind.i64.wrap(t11+t16))) []).getD 3 [])),false,(IntKind.i64.wrap(t16+(1:Int))),x14,x15,x16,x17,x18,x19,e1,e2)) none))(cond(decide((t14.length+((x14.getD(Int.toNat(IntKind.i64.wrap(t11+t16))) []).getD 3 []).length) < 4611686018427387904))(kl3(x1,t11,t13,(t14++((x14.getD(Int.toNat(IntKind.i64.wrap(t11+t16))) []).getD 3 [])),false,(IntKind.i64.wrap(t16+(1:Int))),x14,x15,x16,x17,x18,x19,e1,e2)) none)) none)(kj13(x1,t11,t13,t14,t15,x14,x15,x16,x17,x18,x19,e1,e2)))(kj13(x1,t11,t13,t14,t15,x14,x15,x16,x17,x18,x19,e1,e2)))
theorem f22_16_eq(F:Nat)(Rl3 Rj13:St→Rz)(Rl2 Rj14:St→Rz):∀ v,XAf22 F(bp Tryz.f22 516852)(ef22l3 v)(kSeq(kc V22 Rl3 sp93)(kBlock 4(kSeq(kc V22 Rj13 sp98)(kBlock 3(kSeq(kc V22 Rl2 sp54)(kBlock 2(kSeq(kc V22 Rj14 sp99) Kf68)))))))=f22_16 F(Rl3∘ef22l3)(Rj13∘ef22j13)(Rl2∘ef22l2)(Rj14∘ef22j14) v:=by
 rintro⟨x1,t11,t13,t14,t15,t16,x14,x15,x16,x17,x18,x19,e1,e2⟩;kernel_rfl
def f22_17_i:Ty98→Nat×Int×Int×Li×Bool×Int×(List(List Li))×Int×Int×Int×Li×Bool×(Dk.R)×(Jr.J):=fun(x1,t11,t13,t14,t15,t16,x14,x15,x16,x17,x18,x19,e1,e2)=>(x1,t11,t13,t14,t15,t16,x14,x15,x16,x17,x18,x19,e1,e2)
def f22_17(F:Nat)(kj13:Ty97→Rz)(kl2:Ty92→Rz)(kj14:(Dk.R)×(Jr.J)→Rz):Ty98→Rz:=fun v=>loopN(fun k=>f22_16 F k kj13 kl2 kj14) F(f22_17_i v)
theorem f22_17_eq(F:Nat)(Rj13 Rl2 Rj14:St→Rz):∀ v,XAf22 F(bp Tryz.f22 258426)(ef22j12 v)(kBlock 4(kSeq(kc V22 Rj13 sp98)(kBlock 3(kSeq(kc V22 Rl2 sp54)(kBlock 2(kSeq(kc V22 Rj14 sp99) Kf68))))))=f22_17 F(Rj13∘ef22j13)(Rl2∘ef22l2)(Rj14∘ef22j14) v:=
 loop_cut(by kernel_rfl)(by kernel_rfl) ef22j12 ef22l3 _ f22_17_i(fun k=>f22_16 F k(Rj13∘ef22j13)(Rl2∘ef22l2)(Rj14∘ef22j14))
  (by rintro⟨x1,t11,t13,t14,t15,t16,x14,x15,x16,x17,x18,x19,e1,e2⟩;kernel_rfl)(fun Rl3=>f22_16_eq F Rl3 Rj13 Rl2 Rj14)
def f22_18(F:Nat)(kj13:Ty97→Rz)(kl2:Ty92→Rz)(kj14:(Dk.R)×(Jr.J)→Rz):Ty98→Rz:=f22_17 F kj13 kl2 kj14
theorem f22_18_eq(F:Nat)(Rj13 Rl2 Rj14:St→Rz):∀ v,XAf22 F(bp Tryz.f22 129213)(ef22j12 v)(kSeq(kc V22 Rj13 sp98)(kBlock 3(kSeq(kc V22 Rl2 sp54)(kBlock 2(kSeq(kc V22 Rj14 sp99) Kf68)))))=f22_18 F(Rj13∘ef22j13)(Rl2∘ef22l2)(Rj14∘ef22j14) v:=fun v=>
 (block_in  (by kernel_rfl) _ _).trans(f22_17_eq F Rj13 Rl2 Rj14 v)
def f22_19(F:Nat)(kj13:Ty97→Rz)(kl2:Ty92→Rz)(kj14:(Dk.R)×(Jr.J)→Rz):Ty97→Rz:=fun v=>f22_15 F(f22_18 F kj13 kl2 kj14) kj13 kl2 kj14 v
theorem f22_19_eq(F:Nat)(Rj13 Rl2 Rj14:St→Rz):∀ v,XAf22 F(bp Tryz.f22 64606)(ef22j11 v)(kSeq(kc V22 Rj13 sp98)(kBlock 3(kSeq(kc V22 Rl2 sp54)(kBlock 2(kSeq(kc V22 Rj14 sp99) Kf68)))))=f22_19 F(Rj13∘ef22j13)(Rl2∘ef22l2)(Rj14∘ef22j14) v:=
 seq_cut(by kernel_rfl)(by kernel_rfl) ef22j11 ef22j12 _(fun k=>f22_15 F k(Rj13∘ef22j13)(Rl2∘ef22l2)(Rj14∘ef22j14))(f22_18 F(Rj13∘ef22j13)(Rl2∘ef22l2)(Rj14∘ef22j14))
  (fun Rj12=>f22_15_eq F Rj12 Rj13 Rl2 Rj14)(f22_18_eq F Rj13 Rl2 Rj14)
def f22_20(F:Nat)(kl2:Ty92→Rz)(kj14:(Dk.R)×(Jr.J)→Rz):Ty97→Rz:=fun(x1,t11,t13,t14,t15,x13,x14,x15,x16,x17,x18,e1,e2)=>(cond(!t15)(kl2(x1,(IntKind.i64.wrap(t11+(1:Int))),x13,e1,e2))(cond(!(e2.nums.contains x14))(cond(decide((e2.nums.length+1) < 1073741824))(cond(decide((e2.texts.length+1) < 1073741824))(kl2(x1,(IntKind.i64.wrap(t11+t13)),x13,e1,(Jr.J.mk(e2.nums++[x14])(e2.texts++[t14]) e2.bad e2.next e2.fin e2.closed))) none) none)(kl2(x1,(IntKind.i64.wrap(t11+t13)),x13,e1,e2))))
theorem f22_20_eq(F:Nat)(Rl2 Rj14:St→Rz):∀ v,XAf22 F(bp Tryz.f22 64607)(ef22j13 v)(kBlock 3(kSeq(kc V22 Rl2 sp54)(kBlock 2(kSeq(kc V22 Rj14 sp99) Kf68))))=f22_20 F(Rl2∘ef22l2)(Rj14∘ef22j14) v:=by
 rintro⟨x1,t11,t13,t14,t15,x13,x14,x15,x16,x17,x18,e1,e2⟩;kernel_rfl
def f22_21(F:Nat)(kl2:Ty92→Rz)(kj14:(Dk.R)×(Jr.J)→Rz):Ty97→Rz:=fun v=>f22_19 F(f22_20 F kl2 kj14) kl2 kj14 v
theorem f22_21_eq(F:Nat)(Rl2 Rj14:St→Rz):∀ v,XAf22 F(bp Tryz.f22 32303)(ef22j11 v)(kBlock 3(kSeq(kc V22 Rl2 sp54)(kBlock 2(kSeq(kc V22 Rj14 sp99) Kf68))))=f22_21 F(Rl2∘ef22l2)(Rj14∘ef22j14) v:=
 seq_cut(by kernel_rfl)(by kernel_rfl) ef22j11 ef22j13 _(fun k=>f22_19 F k(Rl2∘ef22l2)(Rj14∘ef22j14))(f22_20 F(Rl2∘ef22l2)(Rj14∘ef22j14))
  (fun Rj13=>f22_19_eq F Rj13 Rl2 Rj14)(f22_20_eq F Rl2 Rj14)
def f22_22(F:Nat)(kl2:Ty92→Rz)(kj14:(Dk.R)×(Jr.J)→Rz):Ty96→Rz:=fun v=>f22_14 F(f22_21 F kl2 kj14) kl2 kj14 v
theorem f22_22_eq(F:Nat)(Rl2 Rj14:St→Rz):∀ v,XAf22 F(bp Tryz.f22 16151)(ef22j10 v)(kBlock 3(kSeq(kc V22 Rl2 sp54)(kBlock 2(kSeq(kc V22 Rj14 sp99) Kf68))))=f22_22 F(Rl2∘ef22l2)(Rj14∘ef22j14) v:=
 seq_cut(by kernel_rfl)(by kernel_rfl) ef22j10 ef22j11 _(fun k=>f22_14 F k(Rl2∘ef22l2)(Rj14∘ef22j14))(f22_21 F(Rl2∘ef22l2)(Rj14∘ef22j14))
  (fun Rj11=>f22_14_eq F Rj11 Rl2 Rj14)(f22_21_eq F Rl2 Rj14)
def f22_23(F:Nat)(kl2:Ty92→Rz)(kj14:(Dk.R)×(Jr.J)→Rz):Ty95→Rz:=fun v=>f22_13 F(f22_22 F kl2 kj14) kl2 kj14 v
theorem f22_23_eq(F:Nat)(Rl2 Rj14:St→Rz):∀ v,XAf22 F(bp Tryz.f22 8075)(ef22j9 v)(kBlock 3(kSeq(kc V22 Rl2 sp54)(kBlock 2(kSeq(kc V22 Rj14 sp99) Kf68))))=f22_23 F(Rl2∘ef22l2)(Rj14∘ef22j14) v:=
 seq_cut(by kernel_rfl)(by kernel_rfl) ef22j9 ef22j10 _(fun k=>f22_13 F k(Rl2∘ef22l2)(Rj14∘ef22j14))(f22_22 F(Rl2∘ef22l2)(Rj14∘ef22j14))
  (fun Rj10=>f22_13_eq F Rj10 Rl2 Rj14)(f22_22_eq F Rl2 Rj14)
def f22_24(F:Nat)(kl2:Ty92→Rz)(kj14:(Dk.R)×(Jr.J)→Rz):Ty94→Rz:=fun v=>f22_12 F(f22_23 F kl2 kj14) kl2 kj14 v
theorem f22_24_eq(F:Nat)(Rl2 Rj14:St→Rz):∀ v,XAf22 F(bp Tryz.f22 4037)(ef22j8 v)(kBlock 3(kSeq(kc V22 Rl2 sp54)(kBlock 2(kSeq(kc V22 Rj14 sp99) Kf68))))=f22_24 F(Rl2∘ef22l2)(Rj14∘ef22j14) v:=
 seq_cut(by kernel_rfl)(by kernel_rfl) ef22j8 ef22j9 _(fun k=>f22_12 F k(Rl2∘ef22l2)(Rj14∘ef22j14))(f22_23 F(Rl2∘ef22l2)(Rj14∘ef22j14))
  (fun Rj9=>f22_12_eq F Rj9 Rl2 Rj14)(f22_23_eq F Rl2 Rj14)
def f22_25(F:Nat)(kl2:Ty92→Rz)(kj14:(Dk.R)×(Jr.J)→Rz):Ty92→Rz:=fun v=>f22_11 F(f22_24 F kl2 kj14) kl2 kj14 v
theorem f22_25_eq(F:Nat)(Rl2 Rj14:St→Rz):∀ v,XAf22 F(bp Tryz.f22 2018)(ef22j7 v)(kBlock 3(kSeq(kc V22 Rl2 sp54)(kBlock 2(kSeq(kc V22 Rj14 sp99) Kf68))))=f22_25 F(Rl2∘ef22l2)(Rj14∘ef22j14) v:=
 seq_cut(by kernel_rfl)(by kernel_rfl) ef22j7 ef22j8 _(fun k=>f22_11 F k(Rl2∘ef22l2)(Rj14∘ef22j14))(f22_24 F(Rl2∘ef22l2)(Rj14∘ef22j14))
  (fun Rj8=>f22_11_eq F Rj8 Rl2 Rj14)(f22_24_eq F Rl2 Rj14)
def f22_26(F:Nat)(kl2:Ty92→Rz)(kj14:(Dk.R)×(Jr.J)→Rz):Ty92→Rz:=f22_25 F kl2 kj14
theorem f22_26_eq(F:Nat)(Rl2 Rj14:St→Rz):∀ v,XAf22 F(bp Tryz.f22 1009)(ef22j7 v)(kSeq(kc V22 Rl2 sp54)(kBlock 2(kSeq(kc V22 Rj14 sp99) Kf68)))=f22_26 F(Rl2∘ef22l2)(Rj14∘ef22j14) v:=fun v=>
 (block_in  (by kernel_rfl) _ _).trans(f22_25_eq F Rl2 Rj14 v)
def f22_27(F:Nat)(kl2:Ty92→Rz)(kj14:(Dk.R)×(Jr.J)→Rz):Ty92→Rz:=fun v=>f22_10 F(f22_26 F kl2 kj14) kl2 kj14 v
theorem f22_27_eq(F:Nat)(Rl2 Rj14:St→Rz):∀ v,XAf22 F(bp Tryz.f22 504)(ef22l2 v)(kSeq(kc V22 Rl2 sp54)(kBlock 2(kSeq(kc V22 Rj14 sp99) Kf68)))=f22_27 F(Rl2∘ef22l2)(Rj14∘ef22j14) v:=
 seq_cut(by kernel_rfl)(by kernel_rfl) ef22l2 ef22j7 _(fun k=>f22_10 F k(Rl2∘ef22l2)(Rj14∘ef22j14))(f22_26 F(Rl2∘ef22l2)(Rj14∘ef22j14))
  (fun Rj7=>f22_10_eq F Rj7 Rl2 Rj14)(f22_26_eq F Rl2 Rj14)
def f22_28_i:Ty92→Nat×Int×(List(List Li))×(Dk.R)×(Jr.J):=fun(x1,t11,x10,e1,e2)=>(x1,t11,x10,e1,e2)
def f22_28(F:Nat)(kj14:(Dk.R)×(Jr.J)→Rz):Ty92→Rz:=fun v=>loopN(fun k=>f22_27 F k kj14) F(f22_28_i v)
theorem f22_28_eq(F:Nat)(Rj14:St→Rz):∀ v,XAf22 F(bp Tryz.f22 252)(ef22j6 v)(kBlock 2(kSeq(kc V22 Rj14 sp99) Kf68))=f22_28 F(Rj14∘ef22j14) v:=
 loop_cut(by kernel_rfl)(by kernel_rfl) ef22j6 ef22l2 _ f22_28_i(fun k=>f22_27 F k(Rj14∘ef22j14))
  (by rintro⟨x1,t11,x10,e1,e2⟩;kernel_rfl)(fun Rl2=>f22_27_eq F Rl2 Rj14)
def f22_29(F:Nat)(kj14:(Dk.R)×(Jr.J)→Rz):Ty92→Rz:=f22_28 F kj14
theorem f22_29_eq(F:Nat)(Rj14:St→Rz):∀ v,XAf22 F(bp Tryz.f22 126)(ef22j6 v)(kSeq(kc V22 Rj14 sp99) Kf68)=f22_29 F(Rj14∘ef22j14) v:=fun v=>
 (block_in  (by kernel_rfl) _ _).trans(f22_28_eq F Rj14 v)
def f22_30(F:Nat):(Dk.R)×(Jr.J)→Rz:=fun(e1,e2)=>(some((.tup(.cons 0(.ptr 2 0 7 0 0 0 7)(.cons 0(.int .i64 0) .nil))),[(rB e1.s.length 1 e1.off e1.left),(tB e1.s),(jE 0 3 3 4 5 e2),(iB e2.nums),(sB e2.texts),(iB e2.bad)]))
theorem f22_30_eq(F:Nat):∀ v,XAf22 F(bp Tryz.f22 127)(ef22j14 v) Kf68=f22_30 F v:=by
 rintro⟨e1,e2⟩;kernel_rfl
def f22_31(F:Nat):Ty92→Rz:=fun v=>f22_29 F(f22_30 F) v
theorem f22_31_eq(F:Nat):∀ v,XAf22 F(bp Tryz.f22 63)(ef22j6 v) Kf68=f22_31 F v:=
 seq_cut(by kernel_rfl)(by kernel_rfl) ef22j6 ef22j14 _(fun k=>f22_29 F k)(f22_30 F)
  (fun Rj14=>f22_29_eq F Rj14)(f22_30_eq F)
def f22_32(F:Nat):Ty93→Rz:=fun v=>f22_9 F(f22_31 F) v
theorem f22_32_eq(F:Nat):∀ v,XAf22 F(bp Tryz.f22 31)(ef22j5 v) Kf68=f22_32 F v:=
 seq_cut(by kernel_rfl)(by kernel_rfl) ef22j5 ef22j6 _(fun k=>f22_9 F k)(f22_31 F)
  (fun Rj6=>f22_9_eq F Rj6)(f22_31_eq F)
def f22_33(F:Nat):(Dk.R)×(Jr.J)→Rz:=fun v=>f22_8 F(f22_32 F) v
theorem f22_33_eq(F:Nat):∀ v,XAf22 F(bp Tryz.f22 15)(ef22j3 v) Kf68=f22_33 F v:=
 seq_cut(by kernel_rfl)(by kernel_rfl) ef22j3 ef22j5 _(fun k=>f22_8 F k)(f22_32 F)
  (fun Rj5=>f22_8_eq F Rj5)(f22_32_eq F)
def f22_34(F:Nat):(Dk.R)×(Jr.J)→Rz:=fun v=>f22_3 F(f22_33 F) v
theorem f22_34_eq(F:Nat):∀ v,XAf22 F(bp Tryz.f22 7)(ef22j2 v) Kf68=f22_34 F v:=
 seq_cut(by kernel_rfl)(by kernel_rfl) ef22j2 ef22j3 _(fun k=>f22_3 F k)(f22_33 F)
  (fun Rj3=>f22_3_eq F Rj3)(f22_33_eq F)
def f22_35(F:Nat):(Dk.R)→Rz:=fun v=>f22_2 F(f22_34 F) v
theorem f22_35_eq(F:Nat):∀ v,XAf22 F(bp Tryz.f22 3)(ef22j1 v) Kf68=f22_35 F v:=
 seq_cut(by kernel_rfl)(by kernel_rfl) ef22j1 ef22j2 _(fun k=>f22_2 F k)(f22_34 F)
  (fun Rj2=>f22_2_eq F Rj2)(f22_34_eq F)
def f22_36(F:Nat):Ty91→Rz:=fun v=>f22_1 F(f22_35 F) v
theorem f22_36_eq(F:Nat):∀ v,XAf22 F(sub(bodyOf Tryz.f22) [])(ef22_a v) Kf68=f22_36 F v:=
 seq_cut(by kernel_rfl)(by kernel_rfl) ef22_a ef22j1 _(fun k=>f22_1 F k)(f22_35 F)
  (fun Rj1=>f22_1_eq F Rj1)(f22_35_eq F)
def f22(F:Nat):Ty91→Rz:=f22_36 F
theorem f22_body(F:Nat)(a0s:List(List Li))(a0o:Bool)(a0l:Int):abody V22(Af22 F) Tryz.f22 [(.ptr 0 0 3 0 0 0 3)] [(rB a0s.length 1 a0o a0l),(tB a0s)]=f22 F(a0s,a0o,a0l):=
 (abody_in(by kernel_rfl)(by kernel_rfl)).trans(f22_36_eq F(a0s,a0o,a0l))
def r22:CRun:=fun X H=>match X,H with
 | [(.ptr 0 0 3 0 0 0 3)],[(.cells 3(.segs(.cons 1(.one(.own 1 a0n 4))(.cons 1(.one(.bool a0o))(.cons 1(.one(.int .i64 a0l)) .nil)))) true),(.cells z1(.rT [.str,.str,.bool,.bool] a0s) true)]=>some((decide(a0n=a0s.length∧a0n < 8000))&&((Dk.rfine(Dk.R.mk a0s a0o a0l))&&(!(Dk.R.mk a0s a0o a0l).off)),(.tup(.cons 0(.ptr 2 0 7 0 0 0 7)(.cons 0(.int .i64 0) .nil))),[(rB(Dk.R.mk a0s a0o a0l).s.length 1(Dk.R.mk a0s a0o a0l).off(Dk.R.mk a0s a0o a0l).left),(.cells((Dk.R.mk a0s a0o a0l).s.length*4)(.rT [.str,.str,.bool,.bool] (Dk.R.mk a0s a0o a0l).s) true),(jE 0 3 3 4 5(Jr.openS(Jr.secsR(Dk.R.mk a0s a0o a0l)))),(.cells(Jr.openS(Jr.secsR(Dk.R.mk a0s a0o a0l))).nums.length(.rI .i64(Jr.openS(Jr.secsR(Dk.R.mk a0s a0o a0l))).nums) true),(.cells(Jr.openS(Jr.secsR(Dk.R.mk a0s a0o a0l))).texts.length(.rS(Jr.openS(Jr.secsR(Dk.R.mk a0s a0o a0l))).texts) true),(.cells(Jr.openS(Jr.secsR(Dk.R.mk a0s a0o a0l))).bad.length(.rI .i64(Jr.openS(Jr.secsR(Dk.R.mk a0s a0o a0l))).bad) true)])
 | _,_=>none
theorem s22(a0s:List(List Li))(a0o:Bool)(a0l:Int)(hp:((decide(a0s.length=a0s.length∧a0s.length < 8000))&&((Dk.rfine(Dk.R.mk a0s a0o a0l))&&(!(Dk.R.mk a0s a0o a0l).off)))=true)(k0:okB(rB a0s.length 1 a0o a0l))(k1:okB(tB a0s)):∃ F,f22 F(a0s,a0o,a0l)=some((.tup(.cons 0(.ptr 2 0 7 0 0 0 7)(.cons 0(.int .i64 0) .nil))),[(rB(Dk.R.mk a0s a0o a0l).s.length 1(Dk.R.mk a0s a0o a0l).off(Dk.R.mk a0s a0o a0l).left),(.cells((Dk.R.mk a0s a0o a0l).s.length*4)(.rT [.str,.str,.bool,.bool] (Dk.R.mk a0s a0o a0l).s) true),(jE 0 3 3 4 5(Jr.openS(Jr.secsR(Dk.R.mk a0s a0o a0l)))),(.cells(Jr.openS(Jr.secsR(Dk.R.mk a0s a0o a0l))).nums.length(.rI .i64(Jr.openS(Jr.secsR(Dk.R.mk a0s a0o a0l))).nums) true),(.cells(Jr.openS(Jr.secsR(Dk.R.mk a0s a0o a0l))).texts.length(.rS(Jr.openS(Jr.secsR(Dk.R.mk a0s a0o a0l))).texts) true),(.cells(Jr.openS(Jr.secsR(Dk.R.mk a0s a0o a0l))).bad.length(.rI .i64(Jr.openS(Jr.secsR(Dk.R.mk a0s a0o a0l))).bad) true)]):=by
 obtain⟨hp0,hp⟩:=Bool.and_eq_true_iff.1 hp
 obtain⟨hf,ho⟩:=Bool.and_eq_true_iff.1 hp
 have ho:a0o=false:=by simpa using ho
 have hn8:a0s.length < 8000:=(of_decide_eq_true hp0).2
 have hg:Dk.RGood(Dk.R.mk a0s a0o a0l):=Dk.rfine_iff.1 hf
 have hrd:=fun i(h:i < a0s.length)=>Jr.rread_ok(r:=Dk.R.mk a0s a0o a0l) hg ho(Jr.okT k1)(i:=i) h
 have hSl:(Jr.secsR(Dk.R.mk a0s a0o a0l)).length=a0s.length:=by simp [Jr.secsR]
 obtain⟨S,hS⟩:∃ S,S=Jr.secsR(Dk.R.mk a0s a0o a0l):=⟨_,rfl⟩
 rw [← hS] at hSl hrd ⊢
 have hSb:∀ s∈S,∀ x∈s,0≤x:=fun s hs x hx=>by
  obtain⟨i,hi,rfl⟩:=List.mem_iff_getElem.1 hs
  obtain⟨_,_,h3,h4⟩:=hrd i(by omega)
  rw [List.getD_eq_getElem?_getD,List.getElem?_eq_getElem hi] at h4
  rw [h4] at h3
  exact(h3 x hx).1
 refine⟨8001,?_⟩
 simp only [f22,f22_36,f22_1,f22_35,f22_2,f22_34,f22_3,f22_33,f22_8,f22_4,f22_7,f22_6,f22_6_i]
 refine loopN_from(fun i=>(i,(i:Int),Jr.rowsOf(S.take i),(Dk.R.mk a0s a0o a0l),Jr.J.mk [] [] (Jr.badOf S i)(Jr.nextOf S i)(Jr.finOf S i) false)) a0s.length rfl(fun i hi q=>?_)(fun q=>?_) 8001(by omega)
 ·obtain⟨h1,h2,h3,h4⟩:=hrd i hi
  have hg:S.getD i []=(Dk.rread(Dk.R.mk a0s a0o a0l)(i:Int)).1:=h4.symm
  have hrow:Jr.rowsOf(S.take(i+1))=Jr.rowsOf(S.take i)++[(Jr.unpack(Dk.rread(Dk.R.mk a0s a0o a0l)(i:Int)).1).row]:=by
   rw [← hg,List.take_add_one,Jr.rowsOf,List.map_append,List.getElem?_eq_getElem(by omega),List.getD_eq_getElem?_getD,List.getElem?_eq_getElem(by omega)];rfl
  have hnx:Jr.nextOf S(i+1)=if(Jr.unpack(S.getD i [])).number+1 > Jr.nextOf S i then(Jr.unpack(S.getD i [])).number+1 else Jr.nextOf S i:=rfl
  have hfn:Jr.finOf S(i+1)=cond(Jr.blank(S.getD i []))(Jr.finOf S i)((i:Int)+1):=rfl
  have hbl:=Jr.badOf_len S i
  simp only [f22_5]
  rw [cond_pos⟨trivial,hn8⟩,cond_pos(by omega),cond_pos⟨trivial,hn8⟩,h1]
  simp only [hrow,hnx,hfn,Jr.badOf_succ,hg]
  have hnum:=Jr.unpack_num(Dk.rread(Dk.R.mk a0s a0o a0l)(i:Int)).1(fun x hx=>(h3 x hx).1)
  rw [show(((0:Int) != 0)=false) from rfl,cond_false,cond_pos(by omega),i64w(x:=(i:Int)+1)(by omega)(by omega),i64w(x:=(Jr.unpack(Dk.rread(Dk.R.mk a0s a0o a0l)(i:Int)).1).number+1)(by omega)(by omega)]
  rw [cond_pos(show(Jr.badOf S i).length+1 < 1073741824 by omega)]
  by_cases hge:(Jr.unpack(Dk.rread(Dk.R.mk a0s a0o a0l)(i:Int)).1).number≥Jr.nextOf S i
  ·rw [decide_eq_true hge,if_pos(by omega)]
   cases Jr.blank(Dk.rread(Dk.R.mk a0s a0o a0l)(i:Int)).1 <;> cases hk:(Jr.unpack(Dk.rread(Dk.R.mk a0s a0o a0l)(i:Int)).1).ok <;> simp only [Bool.not_false,Bool.not_true,cond_true,cond_false,Bool.and_true,Bool.and_false,Bool.true_and,Bool.false_and,List.append_nil,Jr.Part.row,hk,Jr.b2i] <;> rfl
  ·rw [decide_eq_false hge,if_neg(by omega)]
   cases Jr.blank(Dk.rread(Dk.R.mk a0s a0o a0l)(i:Int)).1 <;> cases hk:(Jr.unpack(Dk.rread(Dk.R.mk a0s a0o a0l)(i:Int)).1).ok <;> simp only [Bool.not_false,Bool.not_true,cond_true,cond_false,Bool.and_true,Bool.and_false,Bool.true_and,Bool.false_and,List.append_nil,Jr.Part.row,hk,Jr.b2i] <;> rfl
 simp only [f22_5]
 rw [cond_pos⟨trivial,hn8⟩,cond_neg(by omega),List.take_of_length_le(by omega)]
 simp only [f22_32,f22_9,f22_31,f22_29,f22_28,f22_28_i]
 have hopen:Jr.openS S=Jr.J.mk(Jr.collect(S.map Jr.unpack) a0s.length 0([],[])).1(Jr.collect(S.map Jr.unpack) a0s.length 0([],[])).2(Jr.badOf S a0s.length)(Jr.nextOf S a0s.length)(Jr.finOf S a0s.length) false:=by rw [Jr.openS,hSl]
 rw [hopen]
 obtain⟨T,hT⟩:∃ T,T=Jr.collect(S.map Jr.unpack) a0s.length 0([],[]):=⟨_,rfl⟩
 rw [← hT]
 obtain⟨RES,hR⟩:∃ RES,RES=f22_30 8001((Dk.R.mk a0s a0o a0l),Jr.J.mk T.1 T.2(Jr.badOf S a0s.length)(Jr.nextOf S a0s.length)(Jr.finOf S a0s.length) false):=⟨_,rfl⟩
 show _=f22_30 8001((Dk.R.mk a0s a0o a0l),Jr.J.mk T.1 T.2(Jr.badOf S a0s.length)(Jr.nextOf S a0s.length)(Jr.finOf S a0s.length) false)
 rw [← hR]
 have hrl:(Jr.rowsOf S).length=a0s.length:=by simp [Jr.rowsOf,hSl]
 have hlm:(S.map Jr.unpack).length=a0s.length:=by rw [List.length_map,hSl]
 refine loopN_ind(fun m s=>∃ (k:Nat)(a:List Int×List Li),s=(a0s.length,(k:Int),Jr.rowsOf S,(Dk.R.mk a0s a0o a0l),Jr.J.mk a.1 a.2(Jr.badOf S a0s.length)(Jr.nextOf S a0s.length)(Jr.finOf S a0s.length) false)∧k≤a0s.length∧a0s.length-k≤m∧a.1.length≤k∧a.2.length≤k∧Jr.collect(S.map Jr.unpack) m k a=T)(fun m s K hi hk=>?_) 8001 a0s.length _(by omega)⟨0,([],[]),rfl,by omega,by omega,by simp,by simp,hT.symm⟩
 obtain⟨k,a,rfl,hle,hm,hl1,hl2,hc⟩:=hi
 simp only [f22_27,f22_10]
 by_cases hlt:k < a0s.length
 ·obtain⟨m',rfl⟩:∃ m',m=m'+1:=⟨m-1,by omega⟩
  rw [cond_pos(by omega)]
  have hP:=Jr.pt_S(S:=S)(j:=k)(by omega)
  have hlk:(Jr.pt(S.map Jr.unpack) k).ok=true→0≤(Jr.pt(S.map Jr.unpack) k).left∧(Jr.pt(S.map Jr.unpack) k).left≤8000:=by
   intro h
   rw [hP] at h ⊢
   exact Jr.unpack_left _(fun x hx=>by
    have hm:S.getD k []∈S:=by rw [List.getD_eq_getElem?_getD,List.getElem?_eq_getElem(by omega)];exact List.getElem_mem _
    exact hSb _ hm x hx) h
  obtain⟨cn1,cn2⟩:=Jr.count_nn(Jr.pt(S.map Jr.unpack) k).left
  have hN:((Jr.recN(S.map Jr.unpack) k:Nat):Int)=Jr.count(Jr.pt(S.map Jr.unpack) k).left:=by rw [Jr.recN];omega
  rw [Jr.collect,cond_pos(show k < (S.map Jr.unpack).length by omega)] at hc
  simp only [f22_26,f22_25,f22_11,f22_24,f22_12,f22_23,f22_13,f22_22,f22_14,Int.toNat_natCast,dec_and]
  rw [cond_pos(by omega)]
  simp only [Jr.rows_get(S:=S)(j:=k)(by omega),Jr.Part.row,List.getD_cons_zero,List.getD_cons_succ,Jr.b2i_one]
  have hpl:∀ i,(Jr.pt(S.map Jr.unpack) i).payload.length≤48:=fun i=>by
   rcases Nat.lt_or_ge i S.length with h | h
   ·rw [Jr.pt_S h];exact Jr.unpack_short _
   ·rw [Jr.pt,List.getD_eq_getElem?_getD,List.getElem?_eq_none(by rw [List.length_map];omega)];exact Nat.zero_le _
  have hfin:∀ (w:Bool)(t:Li),w=Jr.recOk(S.map Jr.unpack) k→(w=true→t=Jr.recText(S.map Jr.unpack) k(Jr.recN(S.map Jr.unpack) k)) →
    f22_20 8001 K(f22_30 8001)(a0s.length,(k:Int),Jr.count(Jr.pt(S.map Jr.unpack) k).left,t,w,Jr.rowsOf S,(Jr.pt(S.map Jr.unpack) k).number,(Jr.pt(S.map Jr.unpack) k).part,(Jr.pt(S.map Jr.unpack) k).left,(Jr.pt(S.map Jr.unpack) k).payload,(Jr.pt(S.map Jr.unpack) k).ok,(Dk.R.mk a0s a0o a0l),Jr.J.mk a.1 a.2(Jr.badOf S a0s.length)(Jr.nextOf S a0s.length)(Jr.finOf S a0s.length) false)=RES:=by
   intro w t hw ht
   simp only [f22_20]
   rw [← hw] at hc
   cases w with
   | false=>
    rw [cond_false] at hc
    simp only [Bool.not_false,cond_true]
    rw [i64w(x:=(k:Int)+1)(by omega)(by omega)]
    exact hk m' _(by omega)⟨k+1,a,rfl,by omega,by omega,by omega,by omega,hc⟩
   | true=>
    obtain⟨r1,r2⟩:=Jr.recN_pos hSb hw.symm
    rw [cond_true] at hc
    simp only [Bool.not_true,cond_false]
    rw [ht rfl,i64w(x:=(k:Int)+Jr.count(Jr.pt(S.map Jr.unpack) k).left)(by omega)(by omega),← hN]
    simp only [Jr.put1] at hc
    cases hcn:a.1.contains(Jr.pt(S.map Jr.unpack) k).number with
    | true=>
     rw [hcn,cond_true] at hc
     simp only [Bool.not_true,cond_false]
     exact hk m' _(by omega)⟨k+Jr.recN(S.map Jr.unpack) k,a,by simp,by omega,by omega,by omega,by omega,hc⟩
    | false=>
     rw [hcn,cond_false] at hc
     simp only [Bool.not_false,cond_true]
     rw [cond_pos(by omega),cond_pos(by omega)]
     exact hk m' _(by omega)⟨k+Jr.recN(S.map Jr.unpack) k,(a.1++[(Jr.pt(S.map Jr.unpack) k).number],a.2++[Jr.recText(S.map Jr.unpack) k(Jr.recN(S.map Jr.unpack) k)]),by simp,by omega,by omega,by simp only [List.length_append,List.length_singleton];omega,by simp only [List.length_append,List.length_singleton];omega,hc⟩
  have hin:∀ w0:Bool,w0=((Jr.pt(S.map Jr.unpack) k).ok&&decide((Jr.pt(S.map Jr.unpack) k).part=0∧k+Jr.recN(S.map Jr.unpack) k≤(S.map Jr.unpack).length)) →
    f22_21 8001 K(f22_30 8001)(a0s.length,(k:Int),Jr.count(Jr.pt(S.map Jr.unpack) k).left,[],w0,Jr.rowsOf S,(Jr.pt(S.map Jr.unpack) k).number,(Jr.pt(S.map Jr.unpack) k).part,(Jr.pt(S.map Jr.unpack) k).left,(Jr.pt(S.map Jr.unpack) k).payload,(Jr.pt(S.map Jr.unpack) k).ok,(Dk.R.mk a0s a0o a0l),Jr.J.mk a.1 a.2(Jr.badOf S a0s.length)(Jr.nextOf S a0s.length)(Jr.finOf S a0s.length) false)=RES:=by
   intro w0 hw0
   have hrec:Jr.recOk(S.map Jr.unpack) k=(w0&&(List.range(Jr.recN(S.map Jr.unpack) k)).all(Jr.partOk(S.map Jr.unpack) k)):=by rw [Jr.recOk,hw0]
   simp only [f22_21,f22_19,f22_15,f22_18,f22_17,f22_17_i]
   refine loopN_ind(fun m s=>∃ (i:Nat)(w:Bool)(t:Li),s=(a0s.length,(k:Int),Jr.count(Jr.pt(S.map Jr.unpack) k).left,t,w,(i:Int),Jr.rowsOf S,(Jr.pt(S.map Jr.unpack) k).number,(Jr.pt(S.map Jr.unpack) k).part,(Jr.pt(S.map Jr.unpack) k).left,(Jr.pt(S.map Jr.unpack) k).payload,(Jr.pt(S.map Jr.unpack) k).ok,(Dk.R.mk a0s a0o a0l),Jr.J.mk a.1 a.2(Jr.badOf S a0s.length)(Jr.nextOf S a0s.length)(Jr.finOf S a0s.length) false) ∧
    m=Jr.recN(S.map Jr.unpack) k-i∧i≤Jr.recN(S.map Jr.unpack) k∧w=(w0&&(List.range i).all(Jr.partOk(S.map Jr.unpack) k))∧(w=true→t=Jr.recText(S.map Jr.unpack) k i))(fun m s K2 hi2 hk2=>?_) 8001(Jr.recN(S.map Jr.unpack) k) _(by omega)⟨0,w0,[],rfl,by omega,by omega,by simp,fun _=>rfl⟩
   obtain⟨i,w,t,rfl,hm2,hi2,hw,ht⟩:=hi2
   simp only [f22_16]
   cases hwc:w with
   | false=>
    rw [cond_false]
    refine hfin false t ?_(fun h=>by cases h)
    rw [hrec]
    rw [hwc] at hw
    cases hc0:w0 with
    | false=>rfl
    | true=>
     rw [hc0,Bool.true_and] at hw
     rw [Bool.true_and]
     symm
     rw [← Bool.not_eq_true,List.all_eq_true]
     intro hall
     have:(List.range i).all(Jr.partOk(S.map Jr.unpack) k)=true:=List.all_eq_true.2 fun j hj=>hall j(by rw [List.mem_range] at hj ⊢;omega)
     rw [this] at hw;cases hw
   | true=>
    rw [cond_true]
    subst hwc
    have hw0t:w0=true:=by
     cases hc0:w0 with
     | true=>rfl
     | false=>rw [hc0,Bool.false_and] at hw;cases hw
    have h5:=hw0
    rw [hw0t] at h5
    have h6:=h5.symm
    rw [Bool.and_eq_true,decide_eq_true_eq] at h6
    obtain⟨hok,hpart,hroom⟩:=h6
    rw [hlm] at hroom
    by_cases hin:i < Jr.recN(S.map Jr.unpack) k
    ·rw [cond_pos(by omega),i64w(x:=(k:Int)+(i:Int))(by omega)(by omega),dec_and,cond_pos(by omega)]
     have htl:t.length≤48*i:=by rw [ht rfl];exact Jr.recText_len hpl k i
     have hpi:=hpl(k+i)
     have hgi:(Jr.rowsOf S).getD(Int.toNat((k:Int)+(i:Int))) []=(Jr.pt(S.map Jr.unpack)(k+i)).row:=by
      rw [show Int.toNat((k:Int)+(i:Int))=k+i by omega];exact Jr.rows_get(by omega)
     simp only [hgi,Jr.Part.row,List.getD_cons_zero,List.getD_cons_succ,Jr.b2i_one]
     obtain⟨l1,l2⟩:=hlk hok
     rw [i64w(x:=(48:Int)*(i:Int))(by omega)(by omega),i64w(x:=(Jr.pt(S.map Jr.unpack) k).left-48*(i:Int))(by omega)(by omega),i64w(x:=(i:Int)+1)(by omega)(by omega),cond_pos(by omega)]
     have hgo:∀ w':Bool,w'=Jr.partOk(S.map Jr.unpack) k i→K2(a0s.length,(k:Int),Jr.count(Jr.pt(S.map Jr.unpack) k).left,t++(Jr.pt(S.map Jr.unpack)(k+i)).payload,w',(i:Int)+1,Jr.rowsOf S,(Jr.pt(S.map Jr.unpack) k).number,(Jr.pt(S.map Jr.unpack) k).part,(Jr.pt(S.map Jr.unpack) k).left,(Jr.pt(S.map Jr.unpack) k).payload,(Jr.pt(S.map Jr.unpack) k).ok,(Dk.R.mk a0s a0o a0l),Jr.J.mk a.1 a.2(Jr.badOf S a0s.length)(Jr.nextOf S a0s.length)(Jr.finOf S a0s.length) false)=RES:=fun w' hw'=>
      hk2(m-1) _(by omega)⟨i+1,w',_,rfl,by omega,by omega,by rw [Jr.all_range_succ,← Bool.and_assoc,← hw,Bool.true_and,hw'],fun _=>by rw [Jr.recText_succ,← ht rfl]⟩
     have hpo:Jr.partOk(S.map Jr.unpack) k i=((Jr.pt(S.map Jr.unpack)(k+i)).ok&&((Jr.pt(S.map Jr.unpack)(k+i)).number==(Jr.pt(S.map Jr.unpack) k).number&&((Jr.pt(S.map Jr.unpack)(k+i)).part==(i:Int)&&(Jr.pt(S.map Jr.unpack)(k+i)).left==(Jr.pt(S.map Jr.unpack) k).left-48*(i:Int)))):=by
      rw [Jr.partOk,Bool.eq_iff_iff]
      simp only [Bool.and_eq_true,decide_eq_true_eq,beq_iff_eq]
     rw [hpo] at hgo
     generalize(Jr.pt(S.map Jr.unpack)(k+i)).ok=b1 at hgo ⊢
     generalize((Jr.pt(S.map Jr.unpack)(k+i)).number==(Jr.pt(S.map Jr.unpack) k).number)=b2 at hgo ⊢
     generalize((Jr.pt(S.map Jr.unpack)(k+i)).part==(i:Int))=b3 at hgo ⊢
     generalize((Jr.pt(S.map Jr.unpack)(k+i)).left==(Jr.pt(S.map Jr.unpack) k).left-48*(i:Int))=b4 at hgo ⊢
     cases b1
     ·rw [cond_false,cond_pos(by omega)];exact hgo false rfl
     cases b2
     ·rw [cond_true,cond_false,cond_pos(by omega)];exact hgo false rfl
     cases b3
     ·rw [cond_true,cond_true,cond_false,cond_pos(by omega)];exact hgo false rfl
     rw [cond_true,cond_true,cond_true]
     exact hgo b4(by cases b4 <;> rfl)
    ·rw [cond_neg(by omega)]
     have hie:i=Jr.recN(S.map Jr.unpack) k:=by omega
     subst hie
     exact hfin true t(by rw [hrec,← hw]) ht
  cases h1:(Jr.pt(S.map Jr.unpack) k).ok with
  | false=>
   rw [cond_false]
   have:=hin false(by rw [h1];rfl)
   rw [h1] at this
   exact this
  | true=>
   rw [cond_true]
   by_cases h2:(Jr.pt(S.map Jr.unpack) k).part=0
   ·rw [show((Jr.pt(S.map Jr.unpack) k).part==0)=true by simpa using h2,cond_true,i64w(x:=(k:Int)+Jr.count(Jr.pt(S.map Jr.unpack) k).left)(by omega)(by omega)]
    have:=hin(decide((k:Int)+Jr.count(Jr.pt(S.map Jr.unpack) k).left≤(a0s.length:Int)))(by rw [h1,Bool.true_and,decide_eq_decide,hlm];omega)
    rw [h1] at this
    exact this
   ·rw [show((Jr.pt(S.map Jr.unpack) k).part==0)=false by simpa using h2,cond_false]
    have:=hin false(by rw [h1,Bool.true_and];symm;exact decide_eq_false(fun h=>h2 h.1))
    rw [h1] at this
    exact this
 ·rw [cond_neg(by omega)]
  have:k=a0s.length:=by omega
  subst this
  have hTa:T=a:=by
   rw [← hc]
   cases m with
   | zero=>rfl
   | succ m=>rw [Jr.collect,cond_neg(by omega)]
  rw [hR,hTa]
theorem c22:CallOk Tryz.prog G37Z 22 r22:=callOk_of mixed tys eV22 Tryz.func22(by kernel_rfl)(c:=sub(bodyOf Tryz.f22) [])(by kernel_rfl)(by
 intro X H r H' h hX hH
 unfold r22 at h;split at h <;> try contradiction
 ·obtain⟨hp,rfl,rfl⟩:=inj3 h
  obtain rfl:=okB_size(hH _ hm1) rfl
  obtain rfl:=(of_decide_eq_true(Bool.and_eq_true_iff.1 hp).1).1
  obtain⟨F,hF⟩:=s22 _ _ _ hp(hH _ hm0)(hH _ hm1)
  exact⟨Af22 F,(f22_body F _ _ _).trans hF⟩)
end Go.Am
end