/- Part of a proof. -/
import Derived.Test.YtffddoahjpemaaaGreatDoorAmWire3
import Derived.Test.YtffddoahjpemaaaGreatDoorProg
set_option linter.unusedVariables false
set_option linter.unusedSimpArgs false
namespace Go.Am
open Go Go.Proofs
abbrev sp0:List (Nat×Md):=[(0,.plain),(2,.plain),(3,.plain),(11,.plain)]
abbrev sp1:List (Nat×Md):=[(0,.plain),(2,.plain),(3,.plain),(4,.plain),(11,.plain),(22,.plain),(23,.plain),(24,.plain)]
abbrev sp2:List (Nat×Md):=[(0,.plain),(2,.plain),(3,.plain)]
abbrev sp3:List (Nat×Md):=[(0,.plain),(2,.plain),(3,.plain),(11,.plain),(12,.plain)]
abbrev sp4:List (Nat×Md):=[(0,.plain),(2,.plain),(3,.plain),(4,.plain),(11,.plain)]
abbrev sp5:List (Nat×Md):=[(0,.plain),(2,.plain),(3,.plain),(4,.plain),(11,.plain),(15,.plain)]
abbrev sp6:List (Nat×Md):=[(2,.plain),(3,.plain)]
abbrev Ty0:=Li×Li×Li
abbrev Ty1:=Li×Int×Li×Li
abbrev Ty2:=Li×Int×Bool×Li×Li
abbrev Ty3:=Li×Int×Int×Li×Li
abbrev Ty4:=Li×Int×Int×Bool×Li×Li
abbrev Ty5:=Li×Int×Int×Li×Int×Int×Li×Li
def T36Z:Tys:=[⟨.other,1,0⟩,⟨.func,1,8⟩,⟨.int .i64,1,8⟩,⟨.int .i64,1,8⟩,⟨.bool,1,1⟩,⟨.int .u8,1,1⟩,⟨.int .u8,1,1⟩,⟨.struct [(2,0),(3,1),(4,2),(6,3)],4,24⟩,⟨.struct [(2,0),(3,1),(4,2),(6,3)],4,24⟩,⟨.str,1,16⟩,⟨.str,1,16⟩,⟨.str,1,16⟩,⟨.int .u64,1,8⟩,⟨.other,0,0⟩,⟨.other,0,0⟩,⟨.ptr 191,1,8⟩,⟨.ptr 194,1,8⟩,⟨.ptr 201,1,8⟩,⟨.other,0,0⟩,⟨.other,0,0⟩,⟨.other,1,16⟩,⟨.int .i32,1,4⟩,⟨.slice 25,1,24⟩,⟨.slice 3,1,24⟩,⟨.struct [(3,0),(3,1),(3,2),(3,3),(5,4),(23,5)],6,64⟩,⟨.struct [(3,0),(3,1),(3,2),(3,3),(5,4),(23,5)],6,64⟩,⟨.func,1,8⟩,⟨.ptr 92,1,8⟩,⟨.slice 9,1,24⟩,⟨.other,1,0⟩,⟨.func,1,8⟩,⟨.ptr 75,1,8⟩,⟨.int .i64,1,8⟩,⟨.other,1,0⟩,⟨.func,1,8⟩,⟨.func,1,8⟩,⟨.func,1,8⟩,⟨.func,1,8⟩,⟨.func,1,8⟩,⟨.other,1,0⟩,⟨.func,1,8⟩,⟨.func,1,8⟩,⟨.func,1,8⟩,⟨.func,1,8⟩,⟨.func,1,8⟩,⟨.other,1,0⟩,⟨.func,1,8⟩,⟨.ptr 102,1,8⟩,⟨.other,1,0⟩,⟨.func,1,8⟩,⟨.ptr 57,1,8⟩,⟨.other,1,0⟩,⟨.func,1,8⟩,⟨.func,1,8⟩,⟨.func,1,8⟩,⟨.func,1,8⟩,⟨.struct [(47,0),(23,1),(28,2),(23,3),(3,4),(3,5),(4,6)],7,104⟩,⟨.struct [(47,0),(23,1),(28,2),(23,3),(3,4),(3,5),(4,6)],7,104⟩,⟨.func,1,8⟩,⟨.func,1,8⟩,⟨.func,1,8⟩,⟨.slice 64,1,24⟩,⟨.func,1,8⟩,⟨.map 3 4,1,8⟩,⟨.int .u16,1,2⟩,⟨.int .u64,1,8⟩,⟨.func,1,8⟩,⟨.func,1,8⟩,⟨.func,1,8⟩,⟨.func,1,8⟩,⟨.other,1,0⟩,⟨.func,1,8⟩,⟨.other,1,0⟩,⟨.func,1,8⟩,⟨.struct [(27,0),(23,1),(23,2),(28,3),(3,4),(3,5),(4,6)],7,104⟩,⟨.struct [(27,0),(23,1),(23,2),(28,3),(3,4),(3,5),(4,6)],7,104⟩,⟨.slice 80,1,24⟩,⟨.other,1,0⟩,⟨.func,1,8⟩,⟨.struct [(3,0),(3,1),(3,2),(9,3),(4,4)],5,48⟩,⟨.struct [(3,0),(3,1),(3,2),(9,3),(4,4)],5,48⟩,⟨.func,1,8⟩,⟨.arr 64 5,64,64⟩,⟨.arr 64 5,64,64⟩,⟨.slice 5,1,24⟩,⟨.other,1,0⟩,⟨.func,1,8⟩,⟨.func,1,8⟩,⟨.func,1,8⟩,⟨.slice 99,1,24⟩,⟨.map 3 99,1,8⟩,⟨.struct [(89,0),(90,1),(63,2),(4,3),(3,4)],5,56⟩,⟨.struct [(89,0),(90,1),(63,2),(4,3),(3,4)],5,56⟩,⟨.other,1,0⟩,⟨.func,1,8⟩,⟨.func,1,8⟩,⟨.struct [(3,0),(3,1),(3,2),(9,3),(4,4)],5,48⟩,⟨.struct [(3,0),(3,1),(3,2),(9,3),(4,4)],5,48⟩,⟨.func,1,8⟩,⟨.arr 64 5,64,64⟩,⟨.slice 104,1,24⟩,⟨.struct [(100,0),(4,1),(3,2)],3,40⟩,⟨.struct [(100,0),(4,1),(3,2)],3,40⟩,⟨.struct [(9,0),(9,1),(4,2),(4,3)],4,40⟩,⟨.struct [(9,0),(9,1),(4,2),(4,3)],4,40⟩,⟨.slice 97,1,24⟩,⟨.func,1,8⟩,⟨.func,1,8⟩,⟨.func,1,8⟩,⟨.func,1,8⟩,⟨.other,1,0⟩,⟨.func,1,8⟩,⟨.func,1,8⟩,⟨.ptr 115,1,8⟩,⟨.struct [(113,0),(84,1)],2,32⟩,⟨.struct [(113,0),(84,1)],2,32⟩,⟨.other,1,16⟩,⟨.other,1,16⟩,⟨.other,1,0⟩,⟨.func,1,8⟩,⟨.func,1,8⟩,⟨.func,1,8⟩,⟨.func,1,8⟩,⟨.func,1,8⟩,⟨.other,1,0⟩,⟨.arr 32 5,32,32⟩,⟨.func,1,8⟩,⟨.func,1,8⟩,⟨.func,1,8⟩,⟨.func,1,8⟩,⟨.func,1,8⟩,⟨.func,1,8⟩,⟨.func,1,8⟩,⟨.func,1,8⟩,⟨.func,1,8⟩,⟨.func,1,8⟩,⟨.func,1,8⟩,⟨.int .u32,1,4⟩,⟨.other,1,0⟩,⟨.func,1,8⟩,⟨.int .u64,1,8⟩,⟨.other,1,0⟩,⟨.func,1,8⟩,⟨.ptr 5,1,8⟩,⟨.func,1,8⟩,⟨.func,1,8⟩,⟨.arr 8 137,8,32⟩,⟨.struct [(146,0),(82,8),(140,72)],73,104⟩,⟨.struct [(146,0),(82,8),(140,72)],73,104⟩,⟨.func,1,8⟩,⟨.func,1,8⟩,⟨.func,1,8⟩,⟨.func,1,8⟩,⟨.func,1,8⟩,⟨.func,1,8⟩,⟨.other,1,8⟩,⟨.func,1,8⟩,⟨.func,1,8⟩,⟨.func,1,8⟩,⟨.func,1,8⟩,⟨.func,1,8⟩,⟨.func,1,8⟩,⟨.func,1,8⟩,⟨.func,1,8⟩,⟨.arr 64 137,64,256⟩,⟨.func,1,8⟩,⟨.func,1,8⟩,⟨.arr 4 137,4,16⟩,⟨.slice 137,1,24⟩,⟨.func,1,8⟩,⟨.func,1,8⟩,⟨.int .i64,1,8⟩,⟨.other,1,0⟩,⟨.func,1,8⟩,⟨.func,1,8⟩,⟨.func,1,8⟩,⟨.func,1,8⟩,⟨.other,1,0⟩,⟨.func,1,8⟩,⟨.func,1,8⟩,⟨.func,1,8⟩,⟨.int .u64,1,8⟩,⟨.func,1,8⟩,⟨.func,1,8⟩,⟨.func,1,8⟩,⟨.ptr 3,1,8⟩,⟨.func,1,8⟩,⟨.ptr 181,1,8⟩,⟨.other,1,0⟩,⟨.func,1,8⟩,⟨.other,0,0⟩,⟨.other,0,0⟩,⟨.arr 0 16,0,0⟩,⟨.other,0,0⟩,⟨.other,0,0⟩,⟨.int .u8,1,1⟩,⟨.int .u8,1,1⟩,⟨.func,1,8⟩,⟨.int .i32,1,4⟩,⟨.int .i32,1,4⟩,⟨.other,0,0⟩,⟨.other,0,0⟩]
def G36Z:Nat→Option AV:=fun g=>match g with | 2=>some (.rI .u32 Sha.K) | _=>none
def G37Z:Nat→Option AV:=fun g=>match g with | 0=>some (.rI .u32 Sha.K) | 2=>some (.rI .u32 Sha.K) | _=>none
theorem gsub:∀ g r,G36Z g=some r→G37Z g=some r:=by
 intro g r h
 unfold G36Z at h
 split at h
 ·exact h
 ·cases h
theorem mixed:Tryz.prog.follows .mixedOrders=true:=by kernel_rfl
theorem tys:TysOk Tryz.prog T36Z:=tysB_ok (by kernel_rfl)
def lV123:List CEnt:=[]
def V123:Env:=mkEnv T36Z G36Z lV123
noncomputable abbrev Kf1:=kFin V123 none (Tryz.f123).results.toList
theorem eV123:EOk Tryz.prog V123:=eok_mk (by exact trivial)
def Af123(F:Nat):Cuts:={ F:=F,at_:=fun _=>none,join:=fun _=>none }
def ef123_a:Int×Int→St:=fun (a0,a1)=>⟨[(0,.int .u32 a0),(1,.int .i64 a1)],[],0,17,0⟩
def f123_1(F:Nat):Int×Int→Rz:=fun (a0,a1)=>(cond (decide (0≤(ibits .and .u64 (IntKind.u64.wrap a1) (31:Int)))) (cond (decide (0≤(IntKind.u64.wrap ((32:Int)-(ibits .and .u64 (IntKind.u64.wrap a1) (31:Int)))))) (some ((.int .u32 (ibits .or .u32 (IntKind.u32.wrap (a0*2^(min (Int.toNat (ibits .and .u64 (IntKind.u64.wrap a1) (31:Int))) 32))) (Int.fdiv a0 (2^(min (Int.toNat (IntKind.u64.wrap ((32:Int)-(ibits .and .u64 (IntKind.u64.wrap a1) (31:Int))))) 32))))),[])) none) none)
theorem f123_1_eq(F:Nat):∀ v,aexec V123 (Af123 F) (sub (bodyOf Tryz.f123) []) (ef123_a v) Kf1=f123_1 F v:=by
 rintro⟨a0,a1⟩;kernel_rfl
def f123(F:Nat):Int×Int→Rz:=f123_1 F
theorem f123_body(F:Nat)(a0 a1:Int):abody V123 (Af123 F) Tryz.f123 [(.int .u32 a0),.int .i64 a1] []=f123 F (a0,a1):=
 (abody_in (by kernel_rfl) (by kernel_rfl)).trans (f123_1_eq F (a0,a1))
def r123:CRun:=fun X H=>match X,H with
 | [(.int .u32 a0),.int .i64 a1],[]=>some (true,(.int .u32 (Sha.rotl a0 a1)),[])
 | _,_=>none
theorem u64_nonneg(x:Int):0≤IntKind.u64.wrap x:=by rw [u64mod];omega
theorem and64_nonneg(x y:Int):0≤ibits .and .u64 x y:=u64_nonneg _
theorem s123(a0 a1:Int)(h0:okV (.int .u32 a0))(h1:okV (.int .i64 a1)):∃ F,f123 F (a0,a1)=some ((.int .u32 (Sha.rotl a0 a1)),[]):=by
 refine⟨0,?_⟩
 simp only [f123,f123_1]
 rw [cond_pos (and64_nonneg _ _),cond_pos (u64_nonneg _)]
 rfl
theorem c123:CallOk Tryz.prog G36Z 123 r123:=callOk_of mixed tys eV123 Tryz.func123 (by kernel_rfl) (c:=sub (bodyOf Tryz.f123) []) (by kernel_rfl) (by
 intro X H r H' h hX hH
 unfold r123 at h;split at h <;> try contradiction
 ·obtain⟨hp,rfl,rfl⟩:=inj3 h
  obtain⟨F,hF⟩:=s123 _ _ (hX _ hm0) (hX _ hm1)
  exact⟨Af123 F,(f123_body F _ _).trans hF⟩)
def lV111:List CEnt:=[(123,[none,none],r123)]
def V111:Env:=mkEnv T36Z G36Z lV111
noncomputable abbrev Kf2:=kFin V111 none (Tryz.f111).results.toList
theorem eV111:EOk Tryz.prog V111:=eok_mk (by exact⟨c123,trivial⟩)
def Af111(F:Nat):Cuts:={ F:=F,at_:=fun _=>none,join:=fun _=>none }
def ef111_a:Int×Int×Int×Int→St:=fun (a0,a1,a2,a3)=>⟨[(0,.int .u32 a0),(1,.int .i64 a1),(2,.int .i64 a2),(3,.int .i64 a3)],[],0,23,0⟩
def f111_1(F:Nat):Int×Int×Int×Int→Rz:=fun (a0,a1,a2,a3)=>(some ((.int .u32 (ibits .xor .u32 (ibits .xor .u32 (Sha.rotl a0 (IntKind.i64.wrap (0-a1))) (Sha.rotl a0 (IntKind.i64.wrap (0-a2)))) (Sha.rotl a0 (IntKind.i64.wrap (0-a3))))),[]))
theorem f111_1_eq(F:Nat):∀ v,aexec V111 (Af111 F) (sub (bodyOf Tryz.f111) []) (ef111_a v) Kf2=f111_1 F v:=by
 rintro⟨a0,a1,a2,a3⟩;kernel_rfl
def f111(F:Nat):Int×Int×Int×Int→Rz:=f111_1 F
theorem f111_body(F:Nat)(a0 a1:Int)(a2 a3:Int):abody V111 (Af111 F) Tryz.f111 [(.int .u32 a0),.int .i64 a1,.int .i64 a2,.int .i64 a3] []=f111 F (a0,a1,a2,a3):=
 (abody_in (by kernel_rfl) (by kernel_rfl)).trans (f111_1_eq F (a0,a1,a2,a3))
def r111:CRun:=fun X H=>match X,H with
 | [(.int .u32 a0),.int .i64 a1,.int .i64 a2,.int .i64 a3],[]=>some (true,(.int .u32 (Sha.mix a0 a1 a2 a3)),[])
 | _,_=>none
theorem s111(a0 a1:Int)(a2 a3:Int)(h0:okV (.int .u32 a0))(h1:okV (.int .i64 a1))(h2:okV (.int .i64 a2))(h3:okV (.int .i64 a3)):∃ F,f111 F (a0,a1,a2,a3)=some ((.int .u32 (Sha.mix a0 a1 a2 a3)),[]):=
 ⟨0,rfl⟩
theorem c111:CallOk Tryz.prog G36Z 111 r111:=callOk_of mixed tys eV111 Tryz.func111 (by kernel_rfl) (c:=sub (bodyOf Tryz.f111) []) (by kernel_rfl) (by
 intro X H r H' h hX hH
 unfold r111 at h;split at h <;> try contradiction
 ·obtain⟨hp,rfl,rfl⟩:=inj3 h
  obtain⟨F,hF⟩:=s111 _ _ _ _ (hX _ hm0) (hX _ hm1) (hX _ hm2) (hX _ hm3)
  exact⟨Af111 F,(f111_body F _ _ _ _).trans hF⟩)
def lV110:List CEnt:=[(123,[none,none],r123)]
def V110:Env:=mkEnv T36Z G36Z lV110
noncomputable abbrev Kf3:=kFin V110 none (Tryz.f110).results.toList
theorem eV110:EOk Tryz.prog V110:=eok_mk (by exact⟨c123,trivial⟩)
def Af110(F:Nat):Cuts:={ F:=F,at_:=fun n=>match n with | 3041=>some sp0 | 7012=>some sp1 | _=>none,join:=fun n=>match n with | 1051=>some [(0,.plain),(2,.plain)] | 2049=>some sp2 | 3043=>some sp0 | 4035=>some sp0 | 4039=>some sp3 | 5030=>some sp4 | 6020=>some sp5 | 7014=>some sp1 | 11007=>some sp4 | 15001=>some sp0 | 16003=>some sp6 | _=>none }
noncomputable abbrev XAf110(F:Nat){α:Type}:=@aexec α V110 (Af110 F)
def ef110_a:Li→St:=fun a0=>⟨[(0,(.vs (.rI .u8 a0) 0 1))],[],0,79,0⟩
def ef110j1:Li×Li→St:=fun (t0,x2)=>⟨[(0,(.vs (.rI .u8 t0) 0 1)),(2,.ptr 0 0 64 0 0 0 64)],[(0,(.cells 64 (.rI .u32 x2) true))],1,79,0⟩
def ef110j2:Ty0→St:=fun (t0,x2,x3)=>⟨[(0,(.vs (.rI .u8 t0) 0 1)),(2,.ptr 0 0 64 0 0 0 64),(3,.ptr 1 0 64 0 0 0 64)],[(0,(.cells 64 (.rI .u32 x2) true)),(1,(.cells 64 (.rI .u32 x3) true))],2,79,0⟩
def ef110j3:Ty1→St:=fun (t0,t11,x3,x4)=>⟨[(0,(.vs (.rI .u8 t0) 0 1)),(2,.ptr 0 0 64 0 0 0 64),(3,.ptr 1 0 64 0 0 0 64),(11,.int .i64 t11)],[(0,(.cells 64 (.rI .u32 x3) true)),(1,(.cells 64 (.rI .u32 x4) true))],2,79,0⟩
def ef110l1:Ty1→St:=ef110j3
def ef110j4:Ty2→St:=fun (t0,t11,t12,x4,x5)=>⟨[(0,(.vs (.rI .u8 t0) 0 1)),(2,.ptr 0 0 64 0 0 0 64),(3,.ptr 1 0 64 0 0 0 64),(11,.int .i64 t11),(12,.bool t12)],[(0,(.cells 64 (.rI .u32 x4) true)),(1,(.cells 64 (.rI .u32 x5) true))],2,79,0⟩
def ef110j5:Ty1→St:=ef110j3
def ef110j6:Ty3→St:=fun (t0,t4,t11,x4,x5)=>⟨[(0,(.vs (.rI .u8 t0) 0 1)),(2,.ptr 0 0 64 0 0 0 64),(3,.ptr 1 0 64 0 0 0 64),(4,.int .i64 t4),(11,.int .i64 t11)],[(0,(.cells 64 (.rI .u32 x4) true)),(1,(.cells 64 (.rI .u32 x5) true))],2,79,0⟩
def ef110j7:Ty4→St:=fun (t0,t4,t11,t15,x5,x6)=>⟨[(0,(.vs (.rI .u8 t0) 0 1)),(2,.ptr 0 0 64 0 0 0 64),(3,.ptr 1 0 64 0 0 0 64),(4,.int .i64 t4),(11,.int .i64 t11),(15,.bool t15)],[(0,(.cells 64 (.rI .u32 x5) true)),(1,(.cells 64 (.rI .u32 x6) true))],2,79,0⟩
def ef110j8:Ty5→St:=fun (t0,t4,t11,t22,t23,t24,x7,x8)=>⟨[(0,(.vs (.rI .u8 t0) 0 1)),(2,.ptr 0 0 64 0 0 0 64),(3,.ptr 1 0 64 0 0 0 64),(4,.int .i64 t4),(11,.int .i64 t11),(22,(.vs (.rI .u8 t22) 0 1)),(23,.int .i64 t23),(24,.int .i64 t24)],[(0,(.cells 64 (.rI .u32 x7) true)),(1,(.cells 64 (.rI .u32 x8) true))],2,79,0⟩
def ef110l2:Ty5→St:=ef110j8
def ef110j9:Ty3→St:=ef110j6
def ef110j10:Ty1→St:=ef110j3
def ef110j11:Li×Li→St:=fun (x1,x2)=>⟨[(2,.ptr 0 0 64 0 0 0 64),(3,.ptr 1 0 64 0 0 0 64)],[(0,(.cells 64 (.rI .u32 x1) true)),(1,(.cells 64 (.rI .u32 x2) true))],2,79,0⟩
def f110_1(F:Nat)(kj1:Li×Li→Rz):Li→Rz:=fun a0=>(kj1 (a0,(List.replicate 64 0)))
theorem f110_1_eq(F:Nat)(Rj1:St→Rz):∀ v,XAf110 F (bp Tryz.f110 2) (ef110_a v) (kSeq (kc V110 Rj1 [(0,.plain),(2,.plain)]) Kf3)=f110_1 F (Rj1∘ef110j1) v:=by
 intro a0;kernel_rfl
def f110_2(F:Nat)(kj2:Ty0→Rz):Li×Li→Rz:=fun (t0,x2)=>(kj2 (t0,x2,(List.replicate 64 0)))
theorem f110_2_eq(F:Nat)(Rj2:St→Rz):∀ v,XAf110 F (bp Tryz.f110 6) (ef110j1 v) (kSeq (kc V110 Rj2 sp2) Kf3)=f110_2 F (Rj2∘ef110j2) v:=by
 rintro⟨t0,x2⟩;kernel_rfl
def f110_3(F:Nat)(kj3:Ty1→Rz)(kj11:Li×Li→Rz):Ty0→Rz:=fun (t0,x2,x3)=>(kj3 (t0,(0:Int),x2,x3))
theorem f110_3_eq(F:Nat)(Rj3 Rj11:St→Rz):∀ v,XAf110 F (bp Tryz.f110 28) (ef110j2 v) (kSeq (kc V110 Rj3 sp0) (kSeq (kc V110 Rj11 sp6) Kf3))=f110_3 F (Rj3∘ef110j3) (Rj11∘ef110j11) v:=by
 rintro⟨t0,x2,x3⟩;kernel_rfl
def f110_4(F:Nat)(kj4:Ty2→Rz)(kl1:Ty1→Rz)(kj11:Li×Li→Rz):Ty1→Rz:=fun (t0,t11,x3,x4)=>(kj4 (t0,t11,(decide (t11 < (64:Int))),x3,x4))
theorem f110_4_eq(F:Nat)(Rj4 Rl1 Rj11:St→Rz):∀ v,XAf110 F (bp Tryz.f110 232) (ef110l1 v) (kSeq (kc V110 Rj4 sp3) (kSeq (kc V110 Rl1 sp0) (kBlock 0 (kSeq (kc V110 Rj11 sp6) Kf3))))=f110_4 F (Rj4∘ef110j4) (Rl1∘ef110l1) (Rj11∘ef110j11) v:=by
 rintro⟨t0,t11,x3,x4⟩;kernel_rfl
def f110_5(F:Nat)(kj5 kl1:Ty1→Rz)(kj11:Li×Li→Rz):Ty2→Rz:=fun (t0,t11,t12,x4,x5)=>(cond t12 (kj5 (t0,t11,x4,x5)) (kj11 (x4,x5)))
theorem f110_5_eq(F:Nat)(Rj5 Rl1 Rj11:St→Rz):∀ v,XAf110 F (bp Tryz.f110 466) (ef110j4 v) (kSeq (kc V110 Rj5 sp0) (kSeq (kc V110 Rl1 sp0) (kBlock 0 (kSeq (kc V110 Rj11 sp6) Kf3))))=f110_5 F (Rj5∘ef110j5) (Rl1∘ef110l1) (Rj11∘ef110j11) v:=by
 rintro⟨t0,t11,t12,x4,x5⟩;kernel_rfl
def f110_6(F:Nat)(kj6:Ty3→Rz)(kj10 kl1:Ty1→Rz)(kj11:Li×Li→Rz):Ty1→Rz:=fun (t0,t11,x3,x4)=>(kj6 (t0,t11,t11,x3,x4))
theorem f110_6_eq(F:Nat)(Rj6 Rj10:St→Rz)(Rl1 Rj11:St→Rz):∀ v,XAf110 F (bp Tryz.f110 3736) (ef110j5 v) (kSeq (kc V110 Rj6 sp4) (kBlock 1 (kSeq (kc V110 Rj10 sp0) (kSeq (kc V110 Rl1 sp0) (kBlock 0 (kSeq (kc V110 Rj11 sp6) Kf3))))))=f110_6 F (Rj6∘ef110j6) (Rj10∘ef110j10) (Rl1∘ef110l1) (Rj11∘ef110j11) v:=by
 rintro⟨t0,t11,x3,x4⟩;kernel_rfl
def f110_7(F:Nat)(kj7:Ty4→Rz)(kj9:Ty3→Rz)(kj10 kl1:Ty1→Rz)(kj11:Li×Li→Rz):Ty3→Rz:=fun (t0,t4,t11,x4,x5)=>(kj7 (t0,t4,t11,(decide (t4 < (16:Int))),x4,x5))
theorem f110_7_eq(F:Nat)(Rj7 Rj9:St→Rz)(Rj10 Rl1 Rj11:St→Rz):∀ v,XAf110 F (bp Tryz.f110 14948) (ef110j6 v) (kSeq (kc V110 Rj7 sp5) (kSeq (kc V110 Rj9 sp4) (kBlock 1 (kSeq (kc V110 Rj10 sp0) (kSeq (kc V110 Rl1 sp0) (kBlock 0 (kSeq (kc V110 Rj11 sp6) Kf3)))))))=f110_7 F (Rj7∘ef110j7) (Rj9∘ef110j9) (Rj10∘ef110j10) (Rl1∘ef110l1) (Rj11∘ef110j11) v:=by
 rintro⟨t0,t4,t11,x4,x5⟩;kernel_rfl
def f110_8(F:Nat)(kj8:Ty5→Rz)(kj9:Ty3→Rz)(kj10 kl1:Ty1→Rz)(kj11:Li×Li→Rz):Ty4→Rz:=fun (t0,t4,t11,t15,x5,x6)=>(cond (((decide (0≤(IntKind.i64.wrap ((4:Int)*t4))))&&(decide ((IntKind.i64.wrap ((4:Int)*t4))≤(IntKind.i64.wrap ((IntKind.i64.wrap ((4:Int)*t4))+(4:Int))))))&&(decide ((IntKind.i64.wrap ((IntKind.i64.wrap ((4:Int)*t4))+(4:Int)))≤(↑t0.length:Int)))) (kj8 (t0,t4,t11,((t0.drop (Int.toNat (IntKind.i64.wrap ((4:Int)*t4)))).take ((Int.toNat (IntKind.i64.wrap ((IntKind.i64.wrap ((4:Int)*t4))+(4:Int))))-(Int.toNat (IntKind.i64.wrap ((4:Int)*t4))))),(↑((t0.drop (Int.toNat (IntKind.i64.wrap ((4:Int)*t4)))).take ((Int.toNat (IntKind.i64.wrap ((IntKind.i64.wrap ((4:Int)*t4))+(4:Int))))-(Int.toNat (IntKind.i64.wrap ((4:Int)*t4))))).length:Int),(0:Int),x5,x6)) none)
theorem f110_8_eq(F:Nat)(Rj8 Rj9:St→Rz)(Rj10 Rl1 Rj11:St→Rz):∀ v,XAf110 F (bp Tryz.f110 119592) (ef110j7 v) (kSeq (kc V110 Rj8 sp1) (kSeq (fun s=>XAf110 F (bp Tryz.f110 59797) s (kSeq (kc V110 Rj9 sp4) (kBlock 1 (kSeq (kc V110 Rj10 sp0) (kSeq (kc V110 Rl1 sp0) (kBlock 0 (kSeq (kc V110 Rj11 sp6) Kf3))))))) (kSeq (kc V110 Rj9 sp4) (kBlock 1 (kSeq (kc V110 Rj10 sp0) (kSeq (kc V110 Rl1 sp0) (kBlock 0 (kSeq (kc V110 Rj11 sp6) Kf3))))))))=f110_8 F (Rj8∘ef110j8) (Rj9∘ef110j9) (Rj10∘ef110j10) (Rl1∘ef110l1) (Rj11∘ef110j11) v:=by
 rintro⟨t0,t4,t11,t15,x5,x6⟩;kernel_rfl
def f110_9(F:Nat)(kl2:Ty5→Rz)(kj9:Ty3→Rz)(kj10 kl1:Ty1→Rz)(kj11:Li×Li→Rz):Ty5→Rz:=fun (t0,t4,t11,t22,t23,t24,x7,x8)=>(cond (decide (t24 < t23)) (cond ((decide (0≤t24))&&(decide (t24 < (↑t22.length:Int)))) (cond ((decide (0≤t4))&&(decide (t4 < (64:Int)))) (cond ((decide (0≤t4))&&(decide (t4 < (64:Int)))) (kl2 (t0,t4,t11,t22,t23,(IntKind.i64.wrap (t24+(1:Int))),x7,(x8.set (Int.toNat t4) (ibits .or .u32 (IntKind.u32.wrap ((x8.getD (Int.toNat t4) 0)*2^8)) (IntKind.u32.wrap (t22.getD (Int.toNat t24) 0)))))) none) none) none) (kj10 (t0,t11,x7,x8)))
theorem f110_9_eq(F:Nat)(Rl2 Rj9:St→Rz)(Rj10 Rl1 Rj11:St→Rz):∀ v,XAf110 F (bp Tryz.f110 478372) (ef110l2 v) (kSeq (kc V110 Rl2 sp1) (kBlock 2 (kSeq (fun s=>XAf110 F (bp Tryz.f110 59797) s (kSeq (kc V110 Rj9 sp4) (kBlock 1 (kSeq (kc V110 Rj10 sp0) (kSeq (kc V110 Rl1 sp0) (kBlock 0 (kSeq (kc V110 Rj11 sp6) Kf3))))))) (kSeq (kc V110 Rj9 sp4) (kBlock 1 (kSeq (kc V110 Rj10 sp0) (kSeq (kc V110 Rl1 sp0) (kBlock 0 (kSeq (kc V110 Rj11 sp6) Kf3)))))))))=f110_9 F (Rl2∘ef110l2) (Rj9∘ef110j9) (Rj10∘ef110j10) (Rl1∘ef110l1) (Rj11∘ef110j11) v:=by
 rintro⟨t0,t4,t11,t22,t23,t24,x7,x8⟩;kernel_rfl
def f110_10_i:Ty5→Li×Int×Int×Li×Int×Int×Li×Li:=fun (t0,t4,t11,t22,t23,t24,x7,x8)=>(t0,t4,t11,t22,t23,t24,x7,x8)
def f110_10(F:Nat)(kj9:Ty3→Rz)(kj10 kl1:Ty1→Rz)(kj11:Li×Li→Rz):Ty5→Rz:=fun v=>loopN (fun k=>f110_9 F k kj9 kj10 kl1 kj11) F (f110_10_i v)
theorem f110_10_eq(F:Nat)(Rj9 Rj10:St→Rz)(Rl1 Rj11:St→Rz):∀ v,XAf110 F (bp Tryz.f110 239186) (ef110j8 v) (kBlock 2 (kSeq (fun s=>XAf110 F (bp Tryz.f110 59797) s (kSeq (kc V110 Rj9 sp4) (kBlock 1 (kSeq (kc V110 Rj10 sp0) (kSeq (kc V110 Rl1 sp0) (kBlock 0 (kSeq (kc V110 Rj11 sp6) Kf3))))))) (kSeq (kc V110 Rj9 sp4) (kBlock 1 (kSeq (kc V110 Rj10 sp0) (kSeq (kc V110 Rl1 sp0) (kBlock 0 (kSeq (kc V110 Rj11 sp6) Kf3))))))))=f110_10 F (Rj9∘ef110j9) (Rj10∘ef110j10) (Rl1∘ef110l1) (Rj11∘ef110j11) v:=
 loop_cut (by kernel_rfl) (by kernel_rfl) ef110j8 ef110l2 _ f110_10_i (fun k=>f110_9 F k (Rj9∘ef110j9) (Rj10∘ef110j10) (Rl1∘ef110l1) (Rj11∘ef110j11))
  (by rintro⟨t0,t4,t11,t22,t23,t24,x7,x8⟩;kernel_rfl) (fun Rl2=>f110_9_eq F Rl2 Rj9 Rj10 Rl1 Rj11)
def f110_11(F:Nat)(kj9:Ty3→Rz)(kj10 kl1:Ty1→Rz)(kj11:Li×Li→Rz):Ty5→Rz:=f110_10 F kj9 kj10 kl1 kj11
theorem f110_11_eq(F:Nat)(Rj9 Rj10:St→Rz)(Rl1 Rj11:St→Rz):∀ v,XAf110 F (bp Tryz.f110 119593) (ef110j8 v) (kSeq (fun s=>XAf110 F (bp Tryz.f110 59797) s (kSeq (kc V110 Rj9 sp4) (kBlock 1 (kSeq (kc V110 Rj10 sp0) (kSeq (kc V110 Rl1 sp0) (kBlock 0 (kSeq (kc V110 Rj11 sp6) Kf3))))))) (kSeq (kc V110 Rj9 sp4) (kBlock 1 (kSeq (kc V110 Rj10 sp0) (kSeq (kc V110 Rl1 sp0) (kBlock 0 (kSeq (kc V110 Rj11 sp6) Kf3)))))))=f110_11 F (Rj9∘ef110j9) (Rj10∘ef110j10) (Rl1∘ef110l1) (Rj11∘ef110j11) v:=fun v=>
 (block_in  (by kernel_rfl) _ _).trans (f110_10_eq F Rj9 Rj10 Rl1 Rj11 v)
def f110_12(F:Nat)(kj9:Ty3→Rz)(kj10 kl1:Ty1→Rz)(kj11:Li×Li→Rz):Ty4→Rz:=fun v=>f110_8 F (f110_11 F kj9 kj10 kl1 kj11) kj9 kj10 kl1 kj11 v
theorem f110_12_eq(F:Nat)(Rj9 Rj10:St→Rz)(Rl1 Rj11:St→Rz):∀ v,XAf110 F (bp Tryz.f110 59796) (ef110j7 v) (kSeq (fun s=>XAf110 F (bp Tryz.f110 59797) s (kSeq (kc V110 Rj9 sp4) (kBlock 1 (kSeq (kc V110 Rj10 sp0) (kSeq (kc V110 Rl1 sp0) (kBlock 0 (kSeq (kc V110 Rj11 sp6) Kf3))))))) (kSeq (kc V110 Rj9 sp4) (kBlock 1 (kSeq (kc V110 Rj10 sp0) (kSeq (kc V110 Rl1 sp0) (kBlock 0 (kSeq (kc V110 Rj11 sp6) Kf3)))))))=f110_12 F (Rj9∘ef110j9) (Rj10∘ef110j10) (Rl1∘ef110l1) (Rj11∘ef110j11) v:=
 seq_cut (by kernel_rfl) (by kernel_rfl) ef110j7 ef110j8 _ (fun k=>f110_8 F k (Rj9∘ef110j9) (Rj10∘ef110j10) (Rl1∘ef110l1) (Rj11∘ef110j11)) (f110_11 F (Rj9∘ef110j9) (Rj10∘ef110j10) (Rl1∘ef110l1) (Rj11∘ef110j11))
  (fun Rj8=>f110_8_eq F Rj8 Rj9 Rj10 Rl1 Rj11) (f110_11_eq F Rj9 Rj10 Rl1 Rj11)
def f110_13(F:Nat)(kj9:Ty3→Rz)(kj10 kl1:Ty1→Rz)(kj11:Li×Li→Rz):Ty4→Rz:=f110_12 F kj9 kj10 kl1 kj11
theorem f110_13_eq(F:Nat)(Rj9 Rj10:St→Rz)(Rl1 Rj11:St→Rz):∀ v,XAf110 F (bp Tryz.f110 29898) (ef110j7 v) (kSeq (kc V110 Rj9 sp4) (kBlock 1 (kSeq (kc V110 Rj10 sp0) (kSeq (kc V110 Rl1 sp0) (kBlock 0 (kSeq (kc V110 Rj11 sp6) Kf3))))))=f110_13 F (Rj9∘ef110j9) (Rj10∘ef110j10) (Rl1∘ef110l1) (Rj11∘ef110j11) v:=fun v=>
 (seq_in  (by kernel_rfl) (by kernel_rfl) _ _).trans (f110_12_eq F Rj9 Rj10 Rl1 Rj11 v)
def f110_14(F:Nat)(kj9:Ty3→Rz)(kj10 kl1:Ty1→Rz)(kj11:Li×Li→Rz):Ty4→Rz:=fun (t0,t4,t11,t15,x5,x6)=>(kj9 (t0,t4,t11,x5,x6))
theorem f110_14_eq(F:Nat)(Rj9 Rj10:St→Rz)(Rl1 Rj11:St→Rz):∀ v,XAf110 F (bp Tryz.f110 29899) (ef110j7 v) (kSeq (kc V110 Rj9 sp4) (kBlock 1 (kSeq (kc V110 Rj10 sp0) (kSeq (kc V110 Rl1 sp0) (kBlock 0 (kSeq (kc V110 Rj11 sp6) Kf3))))))=f110_14 F (Rj9∘ef110j9) (Rj10∘ef110j10) (Rl1∘ef110l1) (Rj11∘ef110j11) v:=by
 rintro⟨t0,t4,t11,t15,x5,x6⟩;kernel_rfl
def f110_15(F:Nat)(kj9:Ty3→Rz)(kj10 kl1:Ty1→Rz)(kj11:Li×Li→Rz):Ty4→Rz:=fun v=>cond ((fun (t0,t4,t11,t15,x5,x6)=>t15) v) (f110_13 F kj9 kj10 kl1 kj11 v) (f110_14 F kj9 kj10 kl1 kj11 v)
theorem f110_15_eq(F:Nat)(Rj9 Rj10:St→Rz)(Rl1 Rj11:St→Rz):∀ v,XAf110 F (bp Tryz.f110 14949) (ef110j7 v) (kSeq (kc V110 Rj9 sp4) (kBlock 1 (kSeq (kc V110 Rj10 sp0) (kSeq (kc V110 Rl1 sp0) (kBlock 0 (kSeq (kc V110 Rj11 sp6) Kf3))))))=f110_15 F (Rj9∘ef110j9) (Rj10∘ef110j10) (Rl1∘ef110l1) (Rj11∘ef110j11) v:=
 cond_in (o:=.tmp 15) (by kernel_rfl) ef110j7 _ (fun (t0,t4,t11,t15,x5,x6)=>t15) (by rintro⟨t0,t4,t11,t15,x5,x6⟩;kernel_rfl) _ _ (f110_13_eq F Rj9 Rj10 Rl1 Rj11) (f110_14_eq F Rj9 Rj10 Rl1 Rj11)
def f110_16(F:Nat)(kj9:Ty3→Rz)(kj10 kl1:Ty1→Rz)(kj11:Li×Li→Rz):Ty3→Rz:=fun v=>f110_7 F (f110_15 F kj9 kj10 kl1 kj11) kj9 kj10 kl1 kj11 v
theorem f110_16_eq(F:Nat)(Rj9 Rj10:St→Rz)(Rl1 Rj11:St→Rz):∀ v,XAf110 F (bp Tryz.f110 7474) (ef110j6 v) (kSeq (kc V110 Rj9 sp4) (kBlock 1 (kSeq (kc V110 Rj10 sp0) (kSeq (kc V110 Rl1 sp0) (kBlock 0 (kSeq (kc V110 Rj11 sp6) Kf3))))))=f110_16 F (Rj9∘ef110j9) (Rj10∘ef110j10) (Rl1∘ef110l1) (Rj11∘ef110j11) v:=
 seq_cut (by kernel_rfl) (by kernel_rfl) ef110j6 ef110j7 _ (fun k=>f110_7 F k (Rj9∘ef110j9) (Rj10∘ef110j10) (Rl1∘ef110l1) (Rj11∘ef110j11)) (f110_15 F (Rj9∘ef110j9) (Rj10∘ef110j10) (Rl1∘ef110l1) (Rj11∘ef110j11))
  (fun Rj7=>f110_7_eq F Rj7 Rj9 Rj10 Rl1 Rj11) (f110_15_eq F Rj9 Rj10 Rl1 Rj11)
def f110_17(F:Nat)(kj10 kl1:Ty1→Rz)(kj11:Li×Li→Rz):Ty3→Rz:=fun (t0,t4,t11,x4,x5)=>(cond ((decide (0≤(IntKind.i64.wrap (t4-(15:Int)))))&&(decide ((IntKind.i64.wrap (t4-(15:Int))) < (64:Int)))) (cond ((decide (0≤(IntKind.i64.wrap (t4-(2:Int)))))&&(decide ((IntKind.i64.wrap (t4-(2:Int))) < (64:Int)))) (cond ((decide (0≤(IntKind.i64.wrap (t4-(16:Int)))))&&(decide ((IntKind.i64.wrap (t4-(16:Int))) < (64:Int)))) (cond ((decide (0≤(IntKind.i64.wrap (t4-(7:Int)))))&&(decide ((IntKind.i64.wrap (t4-(7:Int))) < (64:Int)))) (cond ((decide (0≤t4))&&(decide (t4 < (64:Int)))) (kj10 (t0,t11,x4,(x5.set (Int.toNat t4) (IntKind.u32.wrap ((IntKind.u32.wrap ((IntKind.u32.wrap ((x5.getD (Int.toNat (IntKind.i64.wrap (t4-(16:Int)))) 0)+(ibits .xor .u32 (ibits .xor .u32 (Sha.rotl (x5.getD (Int.toNat (IntKind.i64.wrap (t4-(15:Int)))) 0) (-7:Int)) (Sha.rotl (x5.getD (Int.toNat (IntKind.i64.wrap (t4-(15:Int)))) 0) (-18:Int))) (Int.fdiv (x5.getD (Int.toNat (IntKind.i64.wrap (t4-(15:Int)))) 0) (2^3)))))+(x5.getD (Int.toNat (IntKind.i64.wrap (t4-(7:Int)))) 0)))+(ibits .xor .u32 (ibits .xor .u32 (Sha.rotl (x5.getD (Int.toNat (IntKind.i64.wrap (t4-(2:Int)))) 0) (-17:Int)) (Sha.rotl (x5.getD (Int.toNat (IntKind.i64.wrap (t4-(2:Int)))) 0) (-19:Int))) (Int.fdiv (x5.getD (Int.toNat (IntKind.i64.wrap (t4-(2:Int)))) 0) (2^10)))))))) none) none) none) none) none)
theorem f110_17_eq(F:Nat)(Rj10 Rl1 Rj11:St→Rz):∀ v,XAf110 F (bp Tryz.f110 7475) (ef110j9 v) (kBlock 1 (kSeq (kc V110 Rj10 sp0) (kSeq (kc V110 Rl1 sp0) (kBlock 0 (kSeq (kc V110 Rj11 sp6) Kf3)))))=f110_17 F (Rj10∘ef110j10) (Rl1∘ef110l1) (Rj11∘ef110j11) v:=by
 rintro⟨t0,t4,t11,x4,x5⟩;kernel_rfl
def f110_18(F:Nat)(kj10 kl1:Ty1→Rz)(kj11:Li×Li→Rz):Ty3→Rz:=fun v=>f110_16 F (f110_17 F kj10 kl1 kj11) kj10 kl1 kj11 v
theorem f110_18_eq(F:Nat)(Rj10 Rl1 Rj11:St→Rz):∀ v,XAf110 F (bp Tryz.f110 3737) (ef110j6 v) (kBlock 1 (kSeq (kc V110 Rj10 sp0) (kSeq (kc V110 Rl1 sp0) (kBlock 0 (kSeq (kc V110 Rj11 sp6) Kf3)))))=f110_18 F (Rj10∘ef110j10) (Rl1∘ef110l1) (Rj11∘ef110j11) v:=
 seq_cut (by kernel_rfl) (by kernel_rfl) ef110j6 ef110j9 _ (fun k=>f110_16 F k (Rj10∘ef110j10) (Rl1∘ef110l1) (Rj11∘ef110j11)) (f110_17 F (Rj10∘ef110j10) (Rl1∘ef110l1) (Rj11∘ef110j11))
  (fun Rj9=>f110_16_eq F Rj9 Rj10 Rl1 Rj11) (f110_17_eq F Rj10 Rl1 Rj11)
def f110_19(F:Nat)(kj10 kl1:Ty1→Rz)(kj11:Li×Li→Rz):Ty1→Rz:=fun v=>f110_6 F (f110_18 F kj10 kl1 kj11) kj10 kl1 kj11 v
theorem f110_19_eq(F:Nat)(Rj10 Rl1 Rj11:St→Rz):∀ v,XAf110 F (bp Tryz.f110 1868) (ef110j5 v) (kBlock 1 (kSeq (kc V110 Rj10 sp0) (kSeq (kc V110 Rl1 sp0) (kBlock 0 (kSeq (kc V110 Rj11 sp6) Kf3)))))=f110_19 F (Rj10∘ef110j10) (Rl1∘ef110l1) (Rj11∘ef110j11) v:=
 seq_cut (by kernel_rfl) (by kernel_rfl) ef110j5 ef110j6 _ (fun k=>f110_6 F k (Rj10∘ef110j10) (Rl1∘ef110l1) (Rj11∘ef110j11)) (f110_18 F (Rj10∘ef110j10) (Rl1∘ef110l1) (Rj11∘ef110j11))
  (fun Rj6=>f110_6_eq F Rj6 Rj10 Rl1 Rj11) (f110_18_eq F Rj10 Rl1 Rj11)
def f110_20(F:Nat)(kj10 kl1:Ty1→Rz)(kj11:Li×Li→Rz):Ty1→Rz:=f110_19 F kj10 kl1 kj11
theorem f110_20_eq(F:Nat)(Rj10 Rl1 Rj11:St→Rz):∀ v,XAf110 F (bp Tryz.f110 934) (ef110j5 v) (kSeq (kc V110 Rj10 sp0) (kSeq (kc V110 Rl1 sp0) (kBlock 0 (kSeq (kc V110 Rj11 sp6) Kf3))))=f110_20 F (Rj10∘ef110j10) (Rl1∘ef110l1) (Rj11∘ef110j11) v:=fun v=>
 (block_in  (by kernel_rfl) _ _).trans (f110_19_eq F Rj10 Rl1 Rj11 v)
def f110_21(F:Nat)(kl1:Ty1→Rz)(kj11:Li×Li→Rz):Ty1→Rz:=fun (t0,t11,x3,x4)=>(kl1 (t0,(IntKind.i64.wrap (t11+(1:Int))),x3,x4))
theorem f110_21_eq(F:Nat)(Rl1 Rj11:St→Rz):∀ v,XAf110 F (bp Tryz.f110 935) (ef110j10 v) (kSeq (kc V110 Rl1 sp0) (kBlock 0 (kSeq (kc V110 Rj11 sp6) Kf3)))=f110_21 F (Rl1∘ef110l1) (Rj11∘ef110j11) v:=by
 rintro⟨t0,t11,x3,x4⟩;kernel_rfl
def f110_22(F:Nat)(kl1:Ty1→Rz)(kj11:Li×Li→Rz):Ty1→Rz:=fun v=>f110_20 F (f110_21 F kl1 kj11) kl1 kj11 v
theorem f110_22_eq(F:Nat)(Rl1 Rj11:St→Rz):∀ v,XAf110 F (bp Tryz.f110 467) (ef110j5 v) (kSeq (kc V110 Rl1 sp0) (kBlock 0 (kSeq (kc V110 Rj11 sp6) Kf3)))=f110_22 F (Rl1∘ef110l1) (Rj11∘ef110j11) v:=
 seq_cut (by kernel_rfl) (by kernel_rfl) ef110j5 ef110j10 _ (fun k=>f110_20 F k (Rl1∘ef110l1) (Rj11∘ef110j11)) (f110_21 F (Rl1∘ef110l1) (Rj11∘ef110j11))
  (fun Rj10=>f110_20_eq F Rj10 Rl1 Rj11) (f110_21_eq F Rl1 Rj11)
def f110_23(F:Nat)(kl1:Ty1→Rz)(kj11:Li×Li→Rz):Ty2→Rz:=fun v=>f110_5 F (f110_22 F kl1 kj11) kl1 kj11 v
theorem f110_23_eq(F:Nat)(Rl1 Rj11:St→Rz):∀ v,XAf110 F (bp Tryz.f110 233) (ef110j4 v) (kSeq (kc V110 Rl1 sp0) (kBlock 0 (kSeq (kc V110 Rj11 sp6) Kf3)))=f110_23 F (Rl1∘ef110l1) (Rj11∘ef110j11) v:=
 seq_cut (by kernel_rfl) (by kernel_rfl) ef110j4 ef110j5 _ (fun k=>f110_5 F k (Rl1∘ef110l1) (Rj11∘ef110j11)) (f110_22 F (Rl1∘ef110l1) (Rj11∘ef110j11))
  (fun Rj5=>f110_5_eq F Rj5 Rl1 Rj11) (f110_22_eq F Rl1 Rj11)
def f110_24(F:Nat)(kl1:Ty1→Rz)(kj11:Li×Li→Rz):Ty1→Rz:=fun v=>f110_4 F (f110_23 F kl1 kj11) kl1 kj11 v
theorem f110_24_eq(F:Nat)(Rl1 Rj11:St→Rz):∀ v,XAf110 F (bp Tryz.f110 116) (ef110l1 v) (kSeq (kc V110 Rl1 sp0) (kBlock 0 (kSeq (kc V110 Rj11 sp6) Kf3)))=f110_24 F (Rl1∘ef110l1) (Rj11∘ef110j11) v:=
 seq_cut (by kernel_rfl) (by kernel_rfl) ef110l1 ef110j4 _ (fun k=>f110_4 F k (Rl1∘ef110l1) (Rj11∘ef110j11)) (f110_23 F (Rl1∘ef110l1) (Rj11∘ef110j11))
  (fun Rj4=>f110_4_eq F Rj4 Rl1 Rj11) (f110_23_eq F Rl1 Rj11)
def f110_25_i:Ty1→Li×Int×Li×Li:=fun (t0,t11,x3,x4)=>(t0,t11,x3,x4)
def f110_25(F:Nat)(kj11:Li×Li→Rz):Ty1→Rz:=fun v=>loopN (fun k=>f110_24 F k kj11) F (f110_25_i v)
theorem f110_25_eq(F:Nat)(Rj11:St→Rz):∀ v,XAf110 F (bp Tryz.f110 58) (ef110j3 v) (kBlock 0 (kSeq (kc V110 Rj11 sp6) Kf3))=f110_25 F (Rj11∘ef110j11) v:=
 loop_cut (by kernel_rfl) (by kernel_rfl) ef110j3 ef110l1 _ f110_25_i (fun k=>f110_24 F k (Rj11∘ef110j11))
  (by rintro⟨t0,t11,x3,x4⟩;kernel_rfl) (fun Rl1=>f110_24_eq F Rl1 Rj11)
def f110_26(F:Nat)(kj11:Li×Li→Rz):Ty1→Rz:=f110_25 F kj11
theorem f110_26_eq(F:Nat)(Rj11:St→Rz):∀ v,XAf110 F (bp Tryz.f110 29) (ef110j3 v) (kSeq (kc V110 Rj11 sp6) Kf3)=f110_26 F (Rj11∘ef110j11) v:=fun v=>
 (block_in  (by kernel_rfl) _ _).trans (f110_25_eq F Rj11 v)
def f110_27(F:Nat)(kj11:Li×Li→Rz):Ty0→Rz:=fun v=>f110_3 F (f110_26 F kj11) kj11 v
theorem f110_27_eq(F:Nat)(Rj11:St→Rz):∀ v,XAf110 F (bp Tryz.f110 14) (ef110j2 v) (kSeq (kc V110 Rj11 sp6) Kf3)=f110_27 F (Rj11∘ef110j11) v:=
 seq_cut (by kernel_rfl) (by kernel_rfl) ef110j2 ef110j3 _ (fun k=>f110_3 F k (Rj11∘ef110j11)) (f110_26 F (Rj11∘ef110j11))
  (fun Rj3=>f110_3_eq F Rj3 Rj11) (f110_26_eq F Rj11)
def f110_28(F:Nat):Li×Li→Rz:=fun (x1,x2)=>(some ((.agg 64 (.rI .u32 x2)),[]))
theorem f110_28_eq(F:Nat):∀ v,XAf110 F (bp Tryz.f110 15) (ef110j11 v) Kf3=f110_28 F v:=by
 rintro⟨x1,x2⟩;kernel_rfl
def f110_29(F:Nat):Ty0→Rz:=fun v=>f110_27 F (f110_28 F) v
theorem f110_29_eq(F:Nat):∀ v,XAf110 F (bp Tryz.f110 7) (ef110j2 v) Kf3=f110_29 F v:=
 seq_cut (by kernel_rfl) (by kernel_rfl) ef110j2 ef110j11 _ (fun k=>f110_27 F k) (f110_28 F)
  (fun Rj11=>f110_27_eq F Rj11) (f110_28_eq F)
def f110_30(F:Nat):Li×Li→Rz:=fun v=>f110_2 F (f110_29 F) v
theorem f110_30_eq(F:Nat):∀ v,XAf110 F (bp Tryz.f110 3) (ef110j1 v) Kf3=f110_30 F v:=
 seq_cut (by kernel_rfl) (by kernel_rfl) ef110j1 ef110j2 _ (fun k=>f110_2 F k) (f110_29 F)
  (fun Rj2=>f110_2_eq F Rj2) (f110_29_eq F)
def f110_31(F:Nat):Li→Rz:=fun v=>f110_1 F (f110_30 F) v
theorem f110_31_eq(F:Nat):∀ v,XAf110 F (sub (bodyOf Tryz.f110) []) (ef110_a v) Kf3=f110_31 F v:=
 seq_cut (by kernel_rfl) (by kernel_rfl) ef110_a ef110j1 _ (fun k=>f110_1 F k) (f110_30 F)
  (fun Rj1=>f110_1_eq F Rj1) (f110_30_eq F)
def f110(F:Nat):Li→Rz:=f110_31 F
theorem f110_body(F:Nat)(a0:Li):abody V110 (Af110 F) Tryz.f110 [(.vs (.rI .u8 a0) 0 1)] []=f110 F a0:=
 (abody_in (c:=(sub (bodyOf Tryz.f110) [])) (by kernel_rfl) (s:=ef110_a a0) (by kernel_rfl)).trans (f110_31_eq F a0)
def r110:CRun:=fun X H=>match X,H with
 | [(.vs (.rI .u8 a0) 0 1)],[]=>some ((decide (a0.length=64)),(.agg 64 (.rI .u32 (Sha.sched a0 64))),[])
 | _,_=>none
theorem sched_len(b:Li):∀ t,(Sha.sched b t).length=t
 | 0=>rfl
 | t+1=>by simp [Sha.sched,sched_len b t]
theorem sched_get(b:Li)(t i:Nat)(z:Li)(h:i < t):(Sha.sched b t++z).getD i 0=(Sha.sched b t).getD i 0:=by
 simp [List.getD_eq_getElem?_getD,List.getElem?_append,sched_len,h]
theorem sched_set(b:Li)(t:Nat)(v:Int)(h:t < 64)(hv:Sha.sched b (t+1)=Sha.sched b t++[v]):(Sha.sched b t++List.replicate (64-t) 0).set t v=Sha.sched b (t+1)++List.replicate (64-(t+1)) 0:=by
 rw [hv,show 64-t=(64-(t+1))+1 by omega,List.replicate_succ,List.set_append_right _ _ (by rw [sched_len];exact Nat.le_refl _),sched_len,Nat.sub_self]
 simp
theorem or_bytes(a b:Int)(ha:0≤a)(ha2:a < 16777216)(hb:0≤b)(hb2:b≤255):ibits .or .u32 (IntKind.u32.wrap (a*2^8)) (IntKind.u32.wrap b)=a*256+b:=by
 obtain⟨x,rfl⟩:=Int.eq_ofNat_of_zero_le ha
 obtain⟨y,rfl⟩:=Int.eq_ofNat_of_zero_le hb
 rw [u32w (by omega) (by omega),u32w (by omega) (by omega)]
 simp only [ibits,BitVec.toNat_or,BitVec.toNat_ofInt]
 have e1:((x:Int)*2^8%((2^IntKind.u32.bits:Nat):Int)).toNat=x <<< 8:=by
  rw [Nat.shiftLeft_eq];simp only [IntKind.bits];omega
 have e2:((y:Int)%((2^IntKind.u32.bits:Nat):Int)).toNat=y:=by simp only [IntKind.bits];omega
 rw [e1,e2,← Nat.shiftLeft_add_eq_or_of_lt (show y < 2^8 by omega),Nat.shiftLeft_eq,u32w (by omega) (by omega)]
 omega
theorem s110(a0:Li)(hp:((decide (a0.length=64)))=true)(h0:okV (.vs (.rI .u8 a0) 0 1)):∃ F,f110 F a0=some ((.agg 64 (.rI .u32 (Sha.sched a0 64))),[]):=by
 have hl:a0.length=64:=of_decide_eq_true hp
 have hb:∀ i,0≤a0.getD i 0∧a0.getD i 0≤255:=fun i=>by
  by_cases hi:i < a0.length
  ·rw [List.getD_eq_getElem?_getD,List.getElem?_eq_getElem hi]
   exact has_u8 (h0.1 _ (List.getElem_mem hi))
  ·rw [List.getD_eq_getElem?_getD,List.getElem?_eq_none (by omega)];simp
 refine⟨65,?_⟩
 simp only [f110,f110_31,f110_1,f110_30,f110_2,f110_29,f110_27,f110_3,f110_26,f110_25,f110_25_i]
 refine loopN_from (fun i=>(a0,(i:Int),List.replicate 64 0,Sha.sched a0 i++List.replicate (64-i) 0)) 64 (by rfl) (fun i hi k=>?_) (fun k=>?_) 65 (by omega)
 ·simp only [f110_24,f110_4,f110_23,f110_5,f110_22,f110_20,f110_21,f110_19,f110_6,f110_18,f110_16,f110_17,f110_7,f110_15]
  rw [cond_pos (show(i:Int) < 64 by omega)]
  by_cases h16:i < 16
  ·rw [cond_pos (show(i:Int) < 16 by omega)]
   simp only [f110_13,f110_12,f110_8,f110_11,f110_10,f110_10_i]
   rw [i64w (x:=4*(i:Int)) (by omega) (by omega),i64w (x:=4*(i:Int)+4) (by omega) (by omega),dec_and,dec_and,cond_pos (by omega)]
   have hL:List.take ((4*(i:Int)+4).toNat-(4*(i:Int)).toNat) (List.drop (4*(i:Int)).toNat a0)=[a0.getD (4*i) 0,a0.getD (4*i+1) 0,a0.getD (4*i+2) 0,a0.getD (4*i+3) 0]:=by
    rw [show(4*(i:Int)+4).toNat-(4*(i:Int)).toNat=4 by omega,show(4*(i:Int)).toNat=4*i by omega]
    apply List.ext_getElem
    ·simp;omega
    ·intro j h1 h2
     simp only [List.length_cons,List.length_nil] at h2
     rw [List.getElem_take,List.getElem_drop]
     have hj:j=0∨j=1∨j=2∨j=3:=by omega
     rcases hj with rfl | rfl | rfl | rfl <;> simp [List.getD_eq_getElem?_getD,List.getElem?_eq_getElem (show 4*i < a0.length by omega),List.getElem?_eq_getElem (show 4*i+1 < a0.length by omega),List.getElem?_eq_getElem (show 4*i+2 < a0.length by omega),List.getElem?_eq_getElem (show 4*i+3 < a0.length by omega)]
   rw [hL]
   have b0:=hb (4*i)
   have b1:=hb (4*i+1)
   have b2:=hb (4*i+2)
   have b3:=hb (4*i+3)
   have hnext:Sha.sched a0 (i+1)=Sha.sched a0 i++[Sha.word (a0.getD (4*i) 0) (a0.getD (4*i+1) 0) (a0.getD (4*i+2) 0) (a0.getD (4*i+3) 0)]:=by simp [Sha.sched,h16]
   generalize a0.getD (4*i) 0=c0 at *
   generalize a0.getD (4*i+1) 0=c1 at *
   generalize a0.getD (4*i+2) 0=c2 at *
   generalize a0.getD (4*i+3) 0=c3 at *
   have hset:∀ v:Int,((Sha.sched a0 i++List.replicate (64-i) 0).set i v).getD i 0=v:=fun v=>by
    rw [List.getD_eq_getElem?_getD,List.getElem?_set_self (by simp [sched_len];omega)];rfl
   have hset0:Sha.sched a0 i++List.replicate (64-i) 0=(Sha.sched a0 i++List.replicate (64-i) 0).set i 0:=by
    rw [show 64-i=(64-(i+1))+1 by omega,List.replicate_succ,List.set_append_right _ _ (by rw [sched_len];exact Nat.le_refl _),sched_len,Nat.sub_self];rfl
   refine loopN_from (fun j=>(a0,(i:Int),(i:Int),[c0,c1,c2,c3],4,(j:Int),List.replicate 64 0,(Sha.sched a0 i++List.replicate (64-i) 0).set i (match j with | 0=>0 | 1=>c0 | 2=>c0*256+c1 | 3=>(c0*256+c1)*256+c2 | _=>((c0*256+c1)*256+c2)*256+c3))) 4 (by simp only [];rw [← hset0];rfl) (fun j hj k'=>?_) (fun k'=>?_) 65 (by omega)
   ·simp only [f110_9]
    rw [i64w (x:=(j:Int)+1) (by omega) (by omega),dec_and,dec_and,cond_pos (show(j:Int) < 4 by omega),cond_pos (by simp only [List.length_cons,List.length_nil];omega),cond_pos (by omega),cond_pos (by omega)]
    simp only [Int.toNat_natCast,hset,List.set_set]
    have hj':j=0∨j=1∨j=2∨j=3:=by omega
    rcases hj' with rfl | rfl | rfl | rfl
    ·simp only [List.getD_cons_zero];rw [or_bytes 0 c0 (by omega) (by omega) b0.1 b0.2];simp
    ·simp only [List.getD_cons_succ,List.getD_cons_zero];rw [or_bytes c0 c1 (by omega) (by omega) b1.1 b1.2];rfl
    ·simp only [List.getD_cons_succ,List.getD_cons_zero];rw [or_bytes _ c2 (by omega) (by omega) b2.1 b2.2];rfl
    ·simp only [List.getD_cons_succ,List.getD_cons_zero];rw [or_bytes _ c3 (by omega) (by omega) b3.1 b3.2];rfl
   ·simp only [f110_9,f110_21]
    rw [cond_neg (by omega),i64w (x:=(i:Int)+1) (by omega) (by omega),sched_set a0 i _ (by omega) (by rw [hnext];simp only [Sha.word];rw [show((c0*256+c1)*256+c2)*256+c3=c0*16777216+c1*65536+c2*256+c3 by omega])]
    rfl
  ·rw [cond_neg (show ¬ (i:Int) < 16 by omega)]
   simp only [f110_14,f110_17]
   rw [i64w (x:=(i:Int)-15) (by omega) (by omega),i64w (x:=(i:Int)-2) (by omega) (by omega),i64w (x:=(i:Int)-16) (by omega) (by omega),i64w (x:=(i:Int)-7) (by omega) (by omega)]
   simp only [dec_and]
   rw [cond_pos (by omega),cond_pos (by omega),cond_pos (by omega),cond_pos (by omega),cond_pos (by omega)]
   simp only [f110_21,show((i:Int)-15).toNat=i-15 by omega,show((i:Int)-2).toNat=i-2 by omega,show((i:Int)-16).toNat=i-16 by omega,show((i:Int)-7).toNat=i-7 by omega,Int.toNat_natCast]
   rw [i64w (x:=(i:Int)+1) (by omega) (by omega),sched_get a0 i (i-15) _ (by omega),sched_get a0 i (i-2) _ (by omega),sched_get a0 i (i-16) _ (by omega),sched_get a0 i (i-7) _ (by omega)]
   rw [show(-7:Int) = -((7:Nat):Int) from rfl,show(-18:Int) = -((18:Nat):Int) from rfl,show(-17:Int) = -((17:Nat):Int) from rfl,show(-19:Int) = -((19:Nat):Int) from rfl]
   rw [Sha.rotl_neg _ 7 (by omega) (by omega),Sha.rotl_neg _ 18 (by omega) (by omega),Sha.rotl_neg _ 17 (by omega) (by omega),Sha.rotl_neg _ 19 (by omega) (by omega)]
   rw [sched_set a0 i _ (by omega) (by simp only [Sha.sched,if_neg h16];rfl)]
   rfl
 ·simp only [f110_24,f110_4,f110_23,f110_5,f110_28]
  rw [cond_neg (by omega),Nat.sub_self,List.replicate_zero,List.append_nil]
theorem c110:CallOk Tryz.prog G36Z 110 r110:=callOk_of mixed tys eV110 Tryz.func110 (by kernel_rfl) (c:=sub (bodyOf Tryz.f110) []) (by kernel_rfl) (by
 intro X H r H' h hX hH
 unfold r110 at h;split at h <;> try contradiction
 ·obtain⟨hp,rfl,rfl⟩:=inj3 h
  obtain⟨F,hF⟩:=s110 _ hp (hX _ hm0)
  exact⟨Af110 F,(f110_body F _).trans hF⟩)
end Go.Am
