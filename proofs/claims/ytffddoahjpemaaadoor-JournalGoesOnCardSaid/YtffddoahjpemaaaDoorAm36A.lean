/- Part of a proof. -/
import Derived.Test.YtffddoahjpemaaaDoorAmWire3
import Derived.Test.YtffddoahjpemaaaDoorProg
set_option linter.unusedVariables false
set_option linter.unusedSimpArgs false
namespace Go.Am
open Go Go.Proofs
abbrev sp0:List (Nat×Md):=[(0,.plain),(2,.plain),(3,.plain),(11,.plain)]
abbrev sp1:List (Nat×Md):=[(0,.plain),(2,.plain),(3,.plain),(4,.plain),(11,.plain),(22,.plain),(23,.plain),(24,.plain)]
abbrev sp2:List (Nat×Md):=[(0,.plain),(2,.plain),(3,.plain)]
abbrev sp3:List (Nat×Md):=[(0,.plain),(2,.plain),(3,.plain),(11,.plain),(12,.plain)]
abbrev sp4:List (Nat×Md):=[(0,.plain),(2,.plain),(3,.plain),(4,.plain),(11,.plain)]
abbrev sp5:List (Nat×Md):=[(0,.plain),(2,.plain),(3,.plain),(4,.plain),(11,.plain),(15,.plain)]
abbrev sp6:List (Nat×Md):=[(2,.plain),(3,.plain)]
abbrev Ty0:=Li×Li×Li
abbrev Ty1:=Li×Int×Li×Li
abbrev Ty2:=Li×Int×Bool×Li×Li
abbrev Ty3:=Li×Int×Int×Li×Li
abbrev Ty4:=Li×Int×Int×Bool×Li×Li
abbrev Ty5:=Li×Int×Int×Li×Int×Int×Li×Li
def T36:Tys:=[⟨.other,1,0⟩,⟨.func,1,8⟩,⟨.int .i64,1,8⟩,⟨.int .i64,1,8⟩,⟨.bool,1,1⟩,⟨.int .u8,1,1⟩,⟨.int .u8,1,1⟩,⟨.struct [(2,0),(3,1),(4,2),(6,3)],4,24⟩,⟨.struct [(2,0),(3,1),(4,2),(6,3)],4,24⟩,⟨.str,1,16⟩,⟨.str,1,16⟩,⟨.str,1,16⟩,⟨.int .u64,1,8⟩,⟨.other,0,0⟩,⟨.other,0,0⟩,⟨.ptr 168,1,8⟩,⟨.ptr 171,1,8⟩,⟨.ptr 178,1,8⟩,⟨.other,0,0⟩,⟨.other,0,0⟩,⟨.other,1,16⟩,⟨.int .i32,1,4⟩,⟨.func,1,8⟩,⟨.slice 9,1,24⟩,⟨.int .i64,1,8⟩,⟨.other,1,0⟩,⟨.func,1,8⟩,⟨.other,1,0⟩,⟨.func,1,8⟩,⟨.struct [(3,0),(3,1),(3,2),(9,3),(4,4)],5,48⟩,⟨.struct [(3,0),(3,1),(3,2),(9,3),(4,4)],5,48⟩,⟨.func,1,8⟩,⟨.func,1,8⟩,⟨.func,1,8⟩,⟨.func,1,8⟩,⟨.slice 46,1,24⟩,⟨.slice 5,1,24⟩,⟨.ptr 72,1,8⟩,⟨.other,1,0⟩,⟨.func,1,8⟩,⟨.func,1,8⟩,⟨.ptr 74,1,8⟩,⟨.other,1,0⟩,⟨.func,1,8⟩,⟨.slice 3,1,24⟩,⟨.struct [(3,0),(3,1),(3,2),(3,3),(5,4),(44,5)],6,64⟩,⟨.struct [(3,0),(3,1),(3,2),(3,3),(5,4),(44,5)],6,64⟩,⟨.other,1,0⟩,⟨.func,1,8⟩,⟨.func,1,8⟩,⟨.func,1,8⟩,⟨.func,1,8⟩,⟨.func,1,8⟩,⟨.func,1,8⟩,⟨.func,1,8⟩,⟨.func,1,8⟩,⟨.func,1,8⟩,⟨.func,1,8⟩,⟨.func,1,8⟩,⟨.func,1,8⟩,⟨.arr 64 5,64,64⟩,⟨.arr 64 5,64,64⟩,⟨.func,1,8⟩,⟨.func,1,8⟩,⟨.struct [(3,0),(3,1),(3,2),(9,3),(4,4)],5,48⟩,⟨.struct [(3,0),(3,1),(3,2),(9,3),(4,4)],5,48⟩,⟨.func,1,8⟩,⟨.func,1,8⟩,⟨.slice 98,1,24⟩,⟨.map 3 98,1,8⟩,⟨.map 3 4,1,8⟩,⟨.struct [(68,0),(69,1),(70,2),(4,3),(3,4)],5,56⟩,⟨.struct [(68,0),(69,1),(70,2),(4,3),(3,4)],5,56⟩,⟨.struct [(37,0),(44,1),(44,2),(23,3),(3,4),(3,5),(4,6)],7,104⟩,⟨.struct [(37,0),(44,1),(44,2),(23,3),(3,4),(3,5),(4,6)],7,104⟩,⟨.slice 65,1,24⟩,⟨.other,1,0⟩,⟨.func,1,8⟩,⟨.other,1,0⟩,⟨.func,1,8⟩,⟨.func,1,8⟩,⟨.other,1,0⟩,⟨.func,1,8⟩,⟨.func,1,8⟩,⟨.func,1,8⟩,⟨.int .u64,1,8⟩,⟨.other,1,0⟩,⟨.func,1,8⟩,⟨.func,1,8⟩,⟨.ptr 91,1,8⟩,⟨.struct [(89,0),(36,1)],2,32⟩,⟨.struct [(89,0),(36,1)],2,32⟩,⟨.func,1,8⟩,⟨.other,1,16⟩,⟨.other,1,16⟩,⟨.other,1,0⟩,⟨.func,1,8⟩,⟨.func,1,8⟩,⟨.arr 64 5,64,64⟩,⟨.func,1,8⟩,⟨.func,1,8⟩,⟨.arr 32 5,32,32⟩,⟨.func,1,8⟩,⟨.func,1,8⟩,⟨.func,1,8⟩,⟨.other,1,0⟩,⟨.func,1,8⟩,⟨.func,1,8⟩,⟨.func,1,8⟩,⟨.int .u32,1,4⟩,⟨.other,1,0⟩,⟨.func,1,8⟩,⟨.int .u64,1,8⟩,⟨.other,1,0⟩,⟨.func,1,8⟩,⟨.ptr 5,1,8⟩,⟨.arr 8 109,8,32⟩,⟨.struct [(116,0),(60,8),(112,72)],73,104⟩,⟨.struct [(116,0),(60,8),(112,72)],73,104⟩,⟨.func,1,8⟩,⟨.func,1,8⟩,⟨.func,1,8⟩,⟨.func,1,8⟩,⟨.arr 64 109,64,256⟩,⟨.func,1,8⟩,⟨.func,1,8⟩,⟨.func,1,8⟩,⟨.func,1,8⟩,⟨.func,1,8⟩,⟨.func,1,8⟩,⟨.other,1,8⟩,⟨.func,1,8⟩,⟨.func,1,8⟩,⟨.func,1,8⟩,⟨.func,1,8⟩,⟨.func,1,8⟩,⟨.func,1,8⟩,⟨.func,1,8⟩,⟨.func,1,8⟩,⟨.arr 4 109,4,16⟩,⟨.slice 109,1,24⟩,⟨.func,1,8⟩,⟨.func,1,8⟩,⟨.func,1,8⟩,⟨.func,1,8⟩,⟨.func,1,8⟩,⟨.func,1,8⟩,⟨.func,1,8⟩,⟨.int .i64,1,8⟩,⟨.other,1,0⟩,⟨.func,1,8⟩,⟨.func,1,8⟩,⟨.func,1,8⟩,⟨.func,1,8⟩,⟨.other,1,0⟩,⟨.func,1,8⟩,⟨.func,1,8⟩,⟨.func,1,8⟩,⟨.int .u64,1,8⟩,⟨.func,1,8⟩,⟨.func,1,8⟩,⟨.func,1,8⟩,⟨.ptr 3,1,8⟩,⟨.func,1,8⟩,⟨.ptr 158,1,8⟩,⟨.other,1,0⟩,⟨.func,1,8⟩,⟨.other,0,0⟩,⟨.other,0,0⟩,⟨.arr 0 16,0,0⟩,⟨.other,0,0⟩,⟨.other,0,0⟩,⟨.int .u8,1,1⟩,⟨.int .u8,1,1⟩,⟨.func,1,8⟩,⟨.int .i32,1,4⟩,⟨.int .i32,1,4⟩,⟨.other,0,0⟩,⟨.other,0,0⟩]
def G36:Nat→Option AV:=fun g=>match g with | 2=>some (.rI .u32 Sha.K) | _=>none
theorem mixed:Tryd.prog.follows .mixedOrders=true:=by kernel_rfl
theorem tys:TysOk Tryd.prog T36:=tysB_ok (by kernel_rfl)
def lV81:List CEnt:=[]
def V81:Env:=mkEnv T36 G36 lV81
noncomputable abbrev Kf1:=kFin V81 none (Tryd.f81).results.toList
theorem eV81:EOk Tryd.prog V81:=eok_mk (by exact trivial)
def Af81(F:Nat):Cuts:={ F:=F,at_:=fun _=>none,join:=fun _=>none }
def ef81_a:Int×Int→St:=fun (a0,a1)=>⟨[(0,.int .u32 a0),(1,.int .i64 a1)],[],0,17,0⟩
def f81_1(F:Nat):Int×Int→Rz:=fun (a0,a1)=>(cond (decide (0≤(ibits .and .u64 (IntKind.u64.wrap a1) (31:Int)))) (cond (decide (0≤(IntKind.u64.wrap ((32:Int)-(ibits .and .u64 (IntKind.u64.wrap a1) (31:Int)))))) (some ((.int .u32 (ibits .or .u32 (IntKind.u32.wrap (a0*2^(min (Int.toNat (ibits .and .u64 (IntKind.u64.wrap a1) (31:Int))) 32))) (Int.fdiv a0 (2^(min (Int.toNat (IntKind.u64.wrap ((32:Int)-(ibits .and .u64 (IntKind.u64.wrap a1) (31:Int))))) 32))))),[])) none) none)
theorem f81_1_eq(F:Nat):∀ v,aexec V81 (Af81 F) (sub (bodyOf Tryd.f81) []) (ef81_a v) Kf1=f81_1 F v:=by
 rintro⟨a0,a1⟩;kernel_rfl
def f81(F:Nat):Int×Int→Rz:=f81_1 F
theorem f81_body(F:Nat)(a0 a1:Int):abody V81 (Af81 F) Tryd.f81 [(.int .u32 a0),.int .i64 a1] []=f81 F (a0,a1):=
 (abody_in (by kernel_rfl) (by kernel_rfl)).trans (f81_1_eq F (a0,a1))
def r81:CRun:=fun X H=>match X,H with
 | [(.int .u32 a0),.int .i64 a1],[]=>some (true,(.int .u32 (Sha.rotl a0 a1)),[])
 | _,_=>none
theorem u64_nonneg(x:Int):0≤IntKind.u64.wrap x:=by rw [u64mod];omega
theorem and64_nonneg(x y:Int):0≤ibits .and .u64 x y:=u64_nonneg _
theorem s81(a0 a1:Int)(h0:okV (.int .u32 a0))(h1:okV (.int .i64 a1)):∃ F,f81 F (a0,a1)=some ((.int .u32 (Sha.rotl a0 a1)),[]):=by
 refine⟨0,?_⟩
 simp only [f81,f81_1]
 rw [cond_pos (and64_nonneg _ _),cond_pos (u64_nonneg _)]
 rfl
theorem c81:CallOk Tryd.prog G36 81 r81:=callOk_of mixed tys eV81 Tryd.func81 (by kernel_rfl) (c:=sub (bodyOf Tryd.f81) []) (by kernel_rfl) (by
 intro X H r H' h hX hH
 unfold r81 at h;split at h <;> try contradiction
 ·obtain⟨hp,rfl,rfl⟩:=inj3 h
  obtain⟨F,hF⟩:=s81 _ _ (hX _ hm0) (hX _ hm1)
  exact⟨Af81 F,(f81_body F _ _).trans hF⟩)
def lV77:List CEnt:=[(81,[none,none],r81)]
def V77:Env:=mkEnv T36 G36 lV77
noncomputable abbrev Kf2:=kFin V77 none (Tryd.f77).results.toList
theorem eV77:EOk Tryd.prog V77:=eok_mk (by exact⟨c81,trivial⟩)
def Af77(F:Nat):Cuts:={ F:=F,at_:=fun _=>none,join:=fun _=>none }
def ef77_a:Int×Int×Int×Int→St:=fun (a0,a1,a2,a3)=>⟨[(0,.int .u32 a0),(1,.int .i64 a1),(2,.int .i64 a2),(3,.int .i64 a3)],[],0,23,0⟩
def f77_1(F:Nat):Int×Int×Int×Int→Rz:=fun (a0,a1,a2,a3)=>(some ((.int .u32 (ibits .xor .u32 (ibits .xor .u32 (Sha.rotl a0 (IntKind.i64.wrap (0-a1))) (Sha.rotl a0 (IntKind.i64.wrap (0-a2)))) (Sha.rotl a0 (IntKind.i64.wrap (0-a3))))),[]))
theorem f77_1_eq(F:Nat):∀ v,aexec V77 (Af77 F) (sub (bodyOf Tryd.f77) []) (ef77_a v) Kf2=f77_1 F v:=by
 rintro⟨a0,a1,a2,a3⟩;kernel_rfl
def f77(F:Nat):Int×Int×Int×Int→Rz:=f77_1 F
theorem f77_body(F:Nat)(a0 a1:Int)(a2 a3:Int):abody V77 (Af77 F) Tryd.f77 [(.int .u32 a0),.int .i64 a1,.int .i64 a2,.int .i64 a3] []=f77 F (a0,a1,a2,a3):=
 (abody_in (by kernel_rfl) (by kernel_rfl)).trans (f77_1_eq F (a0,a1,a2,a3))
def r77:CRun:=fun X H=>match X,H with
 | [(.int .u32 a0),.int .i64 a1,.int .i64 a2,.int .i64 a3],[]=>some (true,(.int .u32 (Sha.mix a0 a1 a2 a3)),[])
 | _,_=>none
theorem s77(a0 a1:Int)(a2 a3:Int)(h0:okV (.int .u32 a0))(h1:okV (.int .i64 a1))(h2:okV (.int .i64 a2))(h3:okV (.int .i64 a3)):∃ F,f77 F (a0,a1,a2,a3)=some ((.int .u32 (Sha.mix a0 a1 a2 a3)),[]):=
 ⟨0,rfl⟩
theorem c77:CallOk Tryd.prog G36 77 r77:=callOk_of mixed tys eV77 Tryd.func77 (by kernel_rfl) (c:=sub (bodyOf Tryd.f77) []) (by kernel_rfl) (by
 intro X H r H' h hX hH
 unfold r77 at h;split at h <;> try contradiction
 ·obtain⟨hp,rfl,rfl⟩:=inj3 h
  obtain⟨F,hF⟩:=s77 _ _ _ _ (hX _ hm0) (hX _ hm1) (hX _ hm2) (hX _ hm3)
  exact⟨Af77 F,(f77_body F _ _ _ _).trans hF⟩)
def lV76:List CEnt:=[(81,[none,none],r81)]
def V76:Env:=mkEnv T36 G36 lV76
noncomputable abbrev Kf3:=kFin V76 none (Tryd.f76).results.toList
theorem eV76:EOk Tryd.prog V76:=eok_mk (by exact⟨c81,trivial⟩)
def Af76(F:Nat):Cuts:={ F:=F,at_:=fun n=>match n with | 3041=>some sp0 | 7012=>some sp1 | _=>none,join:=fun n=>match n with | 1051=>some [(0,.plain),(2,.plain)] | 2049=>some sp2 | 3043=>some sp0 | 4035=>some sp0 | 4039=>some sp3 | 5030=>some sp4 | 6020=>some sp5 | 7014=>some sp1 | 11007=>some sp4 | 15001=>some sp0 | 16003=>some sp6 | _=>none }
noncomputable abbrev XAf76(F:Nat){α:Type}:=@aexec α V76 (Af76 F)
def ef76_a:Li→St:=fun a0=>⟨[(0,(.vs (.rI .u8 a0) 0 1))],[],0,79,0⟩
def ef76j1:Li×Li→St:=fun (t0,x2)=>⟨[(0,(.vs (.rI .u8 t0) 0 1)),(2,.ptr 0 0 64 0 0 0 64)],[(0,(.cells 64 (.rI .u32 x2) true))],1,79,0⟩
def ef76j2:Ty0→St:=fun (t0,x2,x3)=>⟨[(0,(.vs (.rI .u8 t0) 0 1)),(2,.ptr 0 0 64 0 0 0 64),(3,.ptr 1 0 64 0 0 0 64)],[(0,(.cells 64 (.rI .u32 x2) true)),(1,(.cells 64 (.rI .u32 x3) true))],2,79,0⟩
def ef76j3:Ty1→St:=fun (t0,t11,x3,x4)=>⟨[(0,(.vs (.rI .u8 t0) 0 1)),(2,.ptr 0 0 64 0 0 0 64),(3,.ptr 1 0 64 0 0 0 64),(11,.int .i64 t11)],[(0,(.cells 64 (.rI .u32 x3) true)),(1,(.cells 64 (.rI .u32 x4) true))],2,79,0⟩
def ef76l1:Ty1→St:=ef76j3
def ef76j4:Ty2→St:=fun (t0,t11,t12,x4,x5)=>⟨[(0,(.vs (.rI .u8 t0) 0 1)),(2,.ptr 0 0 64 0 0 0 64),(3,.ptr 1 0 64 0 0 0 64),(11,.int .i64 t11),(12,.bool t12)],[(0,(.cells 64 (.rI .u32 x4) true)),(1,(.cells 64 (.rI .u32 x5) true))],2,79,0⟩
def ef76j5:Ty1→St:=ef76j3
def ef76j6:Ty3→St:=fun (t0,t4,t11,x4,x5)=>⟨[(0,(.vs (.rI .u8 t0) 0 1)),(2,.ptr 0 0 64 0 0 0 64),(3,.ptr 1 0 64 0 0 0 64),(4,.int .i64 t4),(11,.int .i64 t11)],[(0,(.cells 64 (.rI .u32 x4) true)),(1,(.cells 64 (.rI .u32 x5) true))],2,79,0⟩
def ef76j7:Ty4→St:=fun (t0,t4,t11,t15,x5,x6)=>⟨[(0,(.vs (.rI .u8 t0) 0 1)),(2,.ptr 0 0 64 0 0 0 64),(3,.ptr 1 0 64 0 0 0 64),(4,.int .i64 t4),(11,.int .i64 t11),(15,.bool t15)],[(0,(.cells 64 (.rI .u32 x5) true)),(1,(.cells 64 (.rI .u32 x6) true))],2,79,0⟩
def ef76j8:Ty5→St:=fun (t0,t4,t11,t22,t23,t24,x7,x8)=>⟨[(0,(.vs (.rI .u8 t0) 0 1)),(2,.ptr 0 0 64 0 0 0 64),(3,.ptr 1 0 64 0 0 0 64),(4,.int .i64 t4),(11,.int .i64 t11),(22,(.vs (.rI .u8 t22) 0 1)),(23,.int .i64 t23),(24,.int .i64 t24)],[(0,(.cells 64 (.rI .u32 x7) true)),(1,(.cells 64 (.rI .u32 x8) true))],2,79,0⟩
def ef76l2:Ty5→St:=ef76j8
def ef76j9:Ty3→St:=ef76j6
def ef76j10:Ty1→St:=ef76j3
def ef76j11:Li×Li→St:=fun (x1,x2)=>⟨[(2,.ptr 0 0 64 0 0 0 64),(3,.ptr 1 0 64 0 0 0 64)],[(0,(.cells 64 (.rI .u32 x1) true)),(1,(.cells 64 (.rI .u32 x2) true))],2,79,0⟩
def f76_1(F:Nat)(kj1:Li×Li→Rz):Li→Rz:=fun a0=>(kj1 (a0,(List.replicate 64 0)))
theorem f76_1_eq(F:Nat)(Rj1:St→Rz):∀ v,XAf76 F (bp Tryd.f76 2) (ef76_a v) (kSeq (kc V76 Rj1 [(0,.plain),(2,.plain)]) Kf3)=f76_1 F (Rj1∘ef76j1) v:=by
 intro a0;kernel_rfl
def f76_2(F:Nat)(kj2:Ty0→Rz):Li×Li→Rz:=fun (t0,x2)=>(kj2 (t0,x2,(List.replicate 64 0)))
theorem f76_2_eq(F:Nat)(Rj2:St→Rz):∀ v,XAf76 F (bp Tryd.f76 6) (ef76j1 v) (kSeq (kc V76 Rj2 sp2) Kf3)=f76_2 F (Rj2∘ef76j2) v:=by
 rintro⟨t0,x2⟩;kernel_rfl
def f76_3(F:Nat)(kj3:Ty1→Rz)(kj11:Li×Li→Rz):Ty0→Rz:=fun (t0,x2,x3)=>(kj3 (t0,(0:Int),x2,x3))
theorem f76_3_eq(F:Nat)(Rj3 Rj11:St→Rz):∀ v,XAf76 F (bp Tryd.f76 28) (ef76j2 v) (kSeq (kc V76 Rj3 sp0) (kSeq (kc V76 Rj11 sp6) Kf3))=f76_3 F (Rj3∘ef76j3) (Rj11∘ef76j11) v:=by
 rintro⟨t0,x2,x3⟩;kernel_rfl
def f76_4(F:Nat)(kj4:Ty2→Rz)(kl1:Ty1→Rz)(kj11:Li×Li→Rz):Ty1→Rz:=fun (t0,t11,x3,x4)=>(kj4 (t0,t11,(decide (t11 < (64:Int))),x3,x4))
theorem f76_4_eq(F:Nat)(Rj4 Rl1 Rj11:St→Rz):∀ v,XAf76 F (bp Tryd.f76 232) (ef76l1 v) (kSeq (kc V76 Rj4 sp3) (kSeq (kc V76 Rl1 sp0) (kBlock 0 (kSeq (kc V76 Rj11 sp6) Kf3))))=f76_4 F (Rj4∘ef76j4) (Rl1∘ef76l1) (Rj11∘ef76j11) v:=by
 rintro⟨t0,t11,x3,x4⟩;kernel_rfl
def f76_5(F:Nat)(kj5 kl1:Ty1→Rz)(kj11:Li×Li→Rz):Ty2→Rz:=fun (t0,t11,t12,x4,x5)=>(cond t12 (kj5 (t0,t11,x4,x5)) (kj11 (x4,x5)))
theorem f76_5_eq(F:Nat)(Rj5 Rl1 Rj11:St→Rz):∀ v,XAf76 F (bp Tryd.f76 466) (ef76j4 v) (kSeq (kc V76 Rj5 sp0) (kSeq (kc V76 Rl1 sp0) (kBlock 0 (kSeq (kc V76 Rj11 sp6) Kf3))))=f76_5 F (Rj5∘ef76j5) (Rl1∘ef76l1) (Rj11∘ef76j11) v:=by
 rintro⟨t0,t11,t12,x4,x5⟩;kernel_rfl
def f76_6(F:Nat)(kj6:Ty3→Rz)(kj10 kl1:Ty1→Rz)(kj11:Li×Li→Rz):Ty1→Rz:=fun (t0,t11,x3,x4)=>(kj6 (t0,t11,t11,x3,x4))
theorem f76_6_eq(F:Nat)(Rj6 Rj10:St→Rz)(Rl1 Rj11:St→Rz):∀ v,XAf76 F (bp Tryd.f76 3736) (ef76j5 v) (kSeq (kc V76 Rj6 sp4) (kBlock 1 (kSeq (kc V76 Rj10 sp0) (kSeq (kc V76 Rl1 sp0) (kBlock 0 (kSeq (kc V76 Rj11 sp6) Kf3))))))=f76_6 F (Rj6∘ef76j6) (Rj10∘ef76j10) (Rl1∘ef76l1) (Rj11∘ef76j11) v:=by
 rintro⟨t0,t11,x3,x4⟩;kernel_rfl
def f76_7(F:Nat)(kj7:Ty4→Rz)(kj9:Ty3→Rz)(kj10 kl1:Ty1→Rz)(kj11:Li×Li→Rz):Ty3→Rz:=fun (t0,t4,t11,x4,x5)=>(kj7 (t0,t4,t11,(decide (t4 < (16:Int))),x4,x5))
theorem f76_7_eq(F:Nat)(Rj7 Rj9:St→Rz)(Rj10 Rl1 Rj11:St→Rz):∀ v,XAf76 F (bp Tryd.f76 14948) (ef76j6 v) (kSeq (kc V76 Rj7 sp5) (kSeq (kc V76 Rj9 sp4) (kBlock 1 (kSeq (kc V76 Rj10 sp0) (kSeq (kc V76 Rl1 sp0) (kBlock 0 (kSeq (kc V76 Rj11 sp6) Kf3)))))))=f76_7 F (Rj7∘ef76j7) (Rj9∘ef76j9) (Rj10∘ef76j10) (Rl1∘ef76l1) (Rj11∘ef76j11) v:=by
 rintro⟨t0,t4,t11,x4,x5⟩;kernel_rfl
def f76_8(F:Nat)(kj8:Ty5→Rz)(kj9:Ty3→Rz)(kj10 kl1:Ty1→Rz)(kj11:Li×Li→Rz):Ty4→Rz:=fun (t0,t4,t11,t15,x5,x6)=>(cond (((decide (0≤(IntKind.i64.wrap ((4:Int)*t4))))&&(decide ((IntKind.i64.wrap ((4:Int)*t4))≤(IntKind.i64.wrap ((IntKind.i64.wrap ((4:Int)*t4))+(4:Int))))))&&(decide ((IntKind.i64.wrap ((IntKind.i64.wrap ((4:Int)*t4))+(4:Int)))≤(↑t0.length:Int)))) (kj8 (t0,t4,t11,((t0.drop (Int.toNat (IntKind.i64.wrap ((4:Int)*t4)))).take ((Int.toNat (IntKind.i64.wrap ((IntKind.i64.wrap ((4:Int)*t4))+(4:Int))))-(Int.toNat (IntKind.i64.wrap ((4:Int)*t4))))),(↑((t0.drop (Int.toNat (IntKind.i64.wrap ((4:Int)*t4)))).take ((Int.toNat (IntKind.i64.wrap ((IntKind.i64.wrap ((4:Int)*t4))+(4:Int))))-(Int.toNat (IntKind.i64.wrap ((4:Int)*t4))))).length:Int),(0:Int),x5,x6)) none)
theorem f76_8_eq(F:Nat)(Rj8 Rj9:St→Rz)(Rj10 Rl1 Rj11:St→Rz):∀ v,XAf76 F (bp Tryd.f76 119592) (ef76j7 v) (kSeq (kc V76 Rj8 sp1) (kSeq (fun s=>XAf76 F (bp Tryd.f76 59797) s (kSeq (kc V76 Rj9 sp4) (kBlock 1 (kSeq (kc V76 Rj10 sp0) (kSeq (kc V76 Rl1 sp0) (kBlock 0 (kSeq (kc V76 Rj11 sp6) Kf3))))))) (kSeq (kc V76 Rj9 sp4) (kBlock 1 (kSeq (kc V76 Rj10 sp0) (kSeq (kc V76 Rl1 sp0) (kBlock 0 (kSeq (kc V76 Rj11 sp6) Kf3))))))))=f76_8 F (Rj8∘ef76j8) (Rj9∘ef76j9) (Rj10∘ef76j10) (Rl1∘ef76l1) (Rj11∘ef76j11) v:=by
 rintro⟨t0,t4,t11,t15,x5,x6⟩;kernel_rfl
def f76_9(F:Nat)(kl2:Ty5→Rz)(kj9:Ty3→Rz)(kj10 kl1:Ty1→Rz)(kj11:Li×Li→Rz):Ty5→Rz:=fun (t0,t4,t11,t22,t23,t24,x7,x8)=>(cond (decide (t24 < t23)) (cond ((decide (0≤t24))&&(decide (t24 < (↑t22.length:Int)))) (cond ((decide (0≤t4))&&(decide (t4 < (64:Int)))) (cond ((decide (0≤t4))&&(decide (t4 < (64:Int)))) (kl2 (t0,t4,t11,t22,t23,(IntKind.i64.wrap (t24+(1:Int))),x7,(x8.set (Int.toNat t4) (ibits .or .u32 (IntKind.u32.wrap ((x8.getD (Int.toNat t4) 0)*2^8)) (IntKind.u32.wrap (t22.getD (Int.toNat t24) 0)))))) none) none) none) (kj10 (t0,t11,x7,x8)))
theorem f76_9_eq(F:Nat)(Rl2 Rj9:St→Rz)(Rj10 Rl1 Rj11:St→Rz):∀ v,XAf76 F (bp Tryd.f76 478372) (ef76l2 v) (kSeq (kc V76 Rl2 sp1) (kBlock 2 (kSeq (fun s=>XAf76 F (bp Tryd.f76 59797) s (kSeq (kc V76 Rj9 sp4) (kBlock 1 (kSeq (kc V76 Rj10 sp0) (kSeq (kc V76 Rl1 sp0) (kBlock 0 (kSeq (kc V76 Rj11 sp6) Kf3))))))) (kSeq (kc V76 Rj9 sp4) (kBlock 1 (kSeq (kc V76 Rj10 sp0) (kSeq (kc V76 Rl1 sp0) (kBlock 0 (kSeq (kc V76 Rj11 sp6) Kf3)))))))))=f76_9 F (Rl2∘ef76l2) (Rj9∘ef76j9) (Rj10∘ef76j10) (Rl1∘ef76l1) (Rj11∘ef76j11) v:=by
 rintro⟨t0,t4,t11,t22,t23,t24,x7,x8⟩;kernel_rfl
def f76_10_i:Ty5→Li×Int×Int×Li×Int×Int×Li×Li:=fun (t0,t4,t11,t22,t23,t24,x7,x8)=>(t0,t4,t11,t22,t23,t24,x7,x8)
def f76_10(F:Nat)(kj9:Ty3→Rz)(kj10 kl1:Ty1→Rz)(kj11:Li×Li→Rz):Ty5→Rz:=fun v=>loopN (fun k=>f76_9 F k kj9 kj10 kl1 kj11) F (f76_10_i v)
theorem f76_10_eq(F:Nat)(Rj9 Rj10:St→Rz)(Rl1 Rj11:St→Rz):∀ v,XAf76 F (bp Tryd.f76 239186) (ef76j8 v) (kBlock 2 (kSeq (fun s=>XAf76 F (bp Tryd.f76 59797) s (kSeq (kc V76 Rj9 sp4) (kBlock 1 (kSeq (kc V76 Rj10 sp0) (kSeq (kc V76 Rl1 sp0) (kBlock 0 (kSeq (kc V76 Rj11 sp6) Kf3))))))) (kSeq (kc V76 Rj9 sp4) (kBlock 1 (kSeq (kc V76 Rj10 sp0) (kSeq (kc V76 Rl1 sp0) (kBlock 0 (kSeq (kc V76 Rj11 sp6) Kf3))))))))=f76_10 F (Rj9∘ef76j9) (Rj10∘ef76j10) (Rl1∘ef76l1) (Rj11∘ef76j11) v:=
 loop_cut (by kernel_rfl) (by kernel_rfl) ef76j8 ef76l2 _ f76_10_i (fun k=>f76_9 F k (Rj9∘ef76j9) (Rj10∘ef76j10) (Rl1∘ef76l1) (Rj11∘ef76j11))
  (by rintro⟨t0,t4,t11,t22,t23,t24,x7,x8⟩;kernel_rfl) (fun Rl2=>f76_9_eq F Rl2 Rj9 Rj10 Rl1 Rj11)
def f76_11(F:Nat)(kj9:Ty3→Rz)(kj10 kl1:Ty1→Rz)(kj11:Li×Li→Rz):Ty5→Rz:=f76_10 F kj9 kj10 kl1 kj11
theorem f76_11_eq(F:Nat)(Rj9 Rj10:St→Rz)(Rl1 Rj11:St→Rz):∀ v,XAf76 F (bp Tryd.f76 119593) (ef76j8 v) (kSeq (fun s=>XAf76 F (bp Tryd.f76 59797) s (kSeq (kc V76 Rj9 sp4) (kBlock 1 (kSeq (kc V76 Rj10 sp0) (kSeq (kc V76 Rl1 sp0) (kBlock 0 (kSeq (kc V76 Rj11 sp6) Kf3))))))) (kSeq (kc V76 Rj9 sp4) (kBlock 1 (kSeq (kc V76 Rj10 sp0) (kSeq (kc V76 Rl1 sp0) (kBlock 0 (kSeq (kc V76 Rj11 sp6) Kf3)))))))=f76_11 F (Rj9∘ef76j9) (Rj10∘ef76j10) (Rl1∘ef76l1) (Rj11∘ef76j11) v:=fun v=>
 (block_in  (by kernel_rfl) _ _).trans (f76_10_eq F Rj9 Rj10 Rl1 Rj11 v)
def f76_12(F:Nat)(kj9:Ty3→Rz)(kj10 kl1:Ty1→Rz)(kj11:Li×Li→Rz):Ty4→Rz:=fun v=>f76_8 F (f76_11 F kj9 kj10 kl1 kj11) kj9 kj10 kl1 kj11 v
theorem f76_12_eq(F:Nat)(Rj9 Rj10:St→Rz)(Rl1 Rj11:St→Rz):∀ v,XAf76 F (bp Tryd.f76 59796) (ef76j7 v) (kSeq (fun s=>XAf76 F (bp Tryd.f76 59797) s (kSeq (kc V76 Rj9 sp4) (kBlock 1 (kSeq (kc V76 Rj10 sp0) (kSeq (kc V76 Rl1 sp0) (kBlock 0 (kSeq (kc V76 Rj11 sp6) Kf3))))))) (kSeq (kc V76 Rj9 sp4) (kBlock 1 (kSeq (kc V76 Rj10 sp0) (kSeq (kc V76 Rl1 sp0) (kBlock 0 (kSeq (kc V76 Rj11 sp6) Kf3)))))))=f76_12 F (Rj9∘ef76j9) (Rj10∘ef76j10) (Rl1∘ef76l1) (Rj11∘ef76j11) v:=
 seq_cut (by kernel_rfl) (by kernel_rfl) ef76j7 ef76j8 _ (fun k=>f76_8 F k (Rj9∘ef76j9) (Rj10∘ef76j10) (Rl1∘ef76l1) (Rj11∘ef76j11)) (f76_11 F (Rj9∘ef76j9) (Rj10∘ef76j10) (Rl1∘ef76l1) (Rj11∘ef76j11))
  (fun Rj8=>f76_8_eq F Rj8 Rj9 Rj10 Rl1 Rj11) (f76_11_eq F Rj9 Rj10 Rl1 Rj11)
def f76_13(F:Nat)(kj9:Ty3→Rz)(kj10 kl1:Ty1→Rz)(kj11:Li×Li→Rz):Ty4→Rz:=f76_12 F kj9 kj10 kl1 kj11
theorem f76_13_eq(F:Nat)(Rj9 Rj10:St→Rz)(Rl1 Rj11:St→Rz):∀ v,XAf76 F (bp Tryd.f76 29898) (ef76j7 v) (kSeq (kc V76 Rj9 sp4) (kBlock 1 (kSeq (kc V76 Rj10 sp0) (kSeq (kc V76 Rl1 sp0) (kBlock 0 (kSeq (kc V76 Rj11 sp6) Kf3))))))=f76_13 F (Rj9∘ef76j9) (Rj10∘ef76j10) (Rl1∘ef76l1) (Rj11∘ef76j11) v:=fun v=>
 (seq_in  (by kernel_rfl) (by kernel_rfl) _ _).trans (f76_12_eq F Rj9 Rj10 Rl1 Rj11 v)
def f76_14(F:Nat)(kj9:Ty3→Rz)(kj10 kl1:Ty1→Rz)(kj11:Li×Li→Rz):Ty4→Rz:=fun (t0,t4,t11,t15,x5,x6)=>(kj9 (t0,t4,t11,x5,x6))
theorem f76_14_eq(F:Nat)(Rj9 Rj10:St→Rz)(Rl1 Rj11:St→Rz):∀ v,XAf76 F (bp Tryd.f76 29899) (ef76j7 v) (kSeq (kc V76 Rj9 sp4) (kBlock 1 (kSeq (kc V76 Rj10 sp0) (kSeq (kc V76 Rl1 sp0) (kBlock 0 (kSeq (kc V76 Rj11 sp6) Kf3))))))=f76_14 F (Rj9∘ef76j9) (Rj10∘ef76j10) (Rl1∘ef76l1) (Rj11∘ef76j11) v:=by
 rintro⟨t0,t4,t11,t15,x5,x6⟩;kernel_rfl
def f76_15(F:Nat)(kj9:Ty3→Rz)(kj10 kl1:Ty1→Rz)(kj11:Li×Li→Rz):Ty4→Rz:=fun v=>cond ((fun (t0,t4,t11,t15,x5,x6)=>t15) v) (f76_13 F kj9 kj10 kl1 kj11 v) (f76_14 F kj9 kj10 kl1 kj11 v)
theorem f76_15_eq(F:Nat)(Rj9 Rj10:St→Rz)(Rl1 Rj11:St→Rz):∀ v,XAf76 F (bp Tryd.f76 14949) (ef76j7 v) (kSeq (kc V76 Rj9 sp4) (kBlock 1 (kSeq (kc V76 Rj10 sp0) (kSeq (kc V76 Rl1 sp0) (kBlock 0 (kSeq (kc V76 Rj11 sp6) Kf3))))))=f76_15 F (Rj9∘ef76j9) (Rj10∘ef76j10) (Rl1∘ef76l1) (Rj11∘ef76j11) v:=
 cond_in (o:=.tmp 15) (by kernel_rfl) ef76j7 _ (fun (t0,t4,t11,t15,x5,x6)=>t15) (by rintro⟨t0,t4,t11,t15,x5,x6⟩;kernel_rfl) _ _ (f76_13_eq F Rj9 Rj10 Rl1 Rj11) (f76_14_eq F Rj9 Rj10 Rl1 Rj11)
def f76_16(F:Nat)(kj9:Ty3→Rz)(kj10 kl1:Ty1→Rz)(kj11:Li×Li→Rz):Ty3→Rz:=fun v=>f76_7 F (f76_15 F kj9 kj10 kl1 kj11) kj9 kj10 kl1 kj11 v
theorem f76_16_eq(F:Nat)(Rj9 Rj10:St→Rz)(Rl1 Rj11:St→Rz):∀ v,XAf76 F (bp Tryd.f76 7474) (ef76j6 v) (kSeq (kc V76 Rj9 sp4) (kBlock 1 (kSeq (kc V76 Rj10 sp0) (kSeq (kc V76 Rl1 sp0) (kBlock 0 (kSeq (kc V76 Rj11 sp6) Kf3))))))=f76_16 F (Rj9∘ef76j9) (Rj10∘ef76j10) (Rl1∘ef76l1) (Rj11∘ef76j11) v:=
 seq_cut (by kernel_rfl) (by kernel_rfl) ef76j6 ef76j7 _ (fun k=>f76_7 F k (Rj9∘ef76j9) (Rj10∘ef76j10) (Rl1∘ef76l1) (Rj11∘ef76j11)) (f76_15 F (Rj9∘ef76j9) (Rj10∘ef76j10) (Rl1∘ef76l1) (Rj11∘ef76j11))
  (fun Rj7=>f76_7_eq F Rj7 Rj9 Rj10 Rl1 Rj11) (f76_15_eq F Rj9 Rj10 Rl1 Rj11)
def f76_17(F:Nat)(kj10 kl1:Ty1→Rz)(kj11:Li×Li→Rz):Ty3→Rz:=fun (t0,t4,t11,x4,x5)=>(cond ((decide (0≤(IntKind.i64.wrap (t4-(15:Int)))))&&(decide ((IntKind.i64.wrap (t4-(15:Int))) < (64:Int)))) (cond ((decide (0≤(IntKind.i64.wrap (t4-(2:Int)))))&&(decide ((IntKind.i64.wrap (t4-(2:Int))) < (64:Int)))) (cond ((decide (0≤(IntKind.i64.wrap (t4-(16:Int)))))&&(decide ((IntKind.i64.wrap (t4-(16:Int))) < (64:Int)))) (cond ((decide (0≤(IntKind.i64.wrap (t4-(7:Int)))))&&(decide ((IntKind.i64.wrap (t4-(7:Int))) < (64:Int)))) (cond ((decide (0≤t4))&&(decide (t4 < (64:Int)))) (kj10 (t0,t11,x4,(x5.set (Int.toNat t4) (IntKind.u32.wrap ((IntKind.u32.wrap ((IntKind.u32.wrap ((x5.getD (Int.toNat (IntKind.i64.wrap (t4-(16:Int)))) 0)+(ibits .xor .u32 (ibits .xor .u32 (Sha.rotl (x5.getD (Int.toNat (IntKind.i64.wrap (t4-(15:Int)))) 0) (-7:Int)) (Sha.rotl (x5.getD (Int.toNat (IntKind.i64.wrap (t4-(15:Int)))) 0) (-18:Int))) (Int.fdiv (x5.getD (Int.toNat (IntKind.i64.wrap (t4-(15:Int)))) 0) (2^3)))))+(x5.getD (Int.toNat (IntKind.i64.wrap (t4-(7:Int)))) 0)))+(ibits .xor .u32 (ibits .xor .u32 (Sha.rotl (x5.getD (Int.toNat (IntKind.i64.wrap (t4-(2:Int)))) 0) (-17:Int)) (Sha.rotl (x5.getD (Int.toNat (IntKind.i64.wrap (t4-(2:Int)))) 0) (-19:Int))) (Int.fdiv (x5.getD (Int.toNat (IntKind.i64.wrap (t4-(2:Int)))) 0) (2^10)))))))) none) none) none) none) none)
theorem f76_17_eq(F:Nat)(Rj10 Rl1 Rj11:St→Rz):∀ v,XAf76 F (bp Tryd.f76 7475) (ef76j9 v) (kBlock 1 (kSeq (kc V76 Rj10 sp0) (kSeq (kc V76 Rl1 sp0) (kBlock 0 (kSeq (kc V76 Rj11 sp6) Kf3)))))=f76_17 F (Rj10∘ef76j10) (Rl1∘ef76l1) (Rj11∘ef76j11) v:=by
 rintro⟨t0,t4,t11,x4,x5⟩;kernel_rfl
def f76_18(F:Nat)(kj10 kl1:Ty1→Rz)(kj11:Li×Li→Rz):Ty3→Rz:=fun v=>f76_16 F (f76_17 F kj10 kl1 kj11) kj10 kl1 kj11 v
theorem f76_18_eq(F:Nat)(Rj10 Rl1 Rj11:St→Rz):∀ v,XAf76 F (bp Tryd.f76 3737) (ef76j6 v) (kBlock 1 (kSeq (kc V76 Rj10 sp0) (kSeq (kc V76 Rl1 sp0) (kBlock 0 (kSeq (kc V76 Rj11 sp6) Kf3)))))=f76_18 F (Rj10∘ef76j10) (Rl1∘ef76l1) (Rj11∘ef76j11) v:=
 seq_cut (by kernel_rfl) (by kernel_rfl) ef76j6 ef76j9 _ (fun k=>f76_16 F k (Rj10∘ef76j10) (Rl1∘ef76l1) (Rj11∘ef76j11)) (f76_17 F (Rj10∘ef76j10) (Rl1∘ef76l1) (Rj11∘ef76j11))
  (fun Rj9=>f76_16_eq F Rj9 Rj10 Rl1 Rj11) (f76_17_eq F Rj10 Rl1 Rj11)
def f76_19(F:Nat)(kj10 kl1:Ty1→Rz)(kj11:Li×Li→Rz):Ty1→Rz:=fun v=>f76_6 F (f76_18 F kj10 kl1 kj11) kj10 kl1 kj11 v
theorem f76_19_eq(F:Nat)(Rj10 Rl1 Rj11:St→Rz):∀ v,XAf76 F (bp Tryd.f76 1868) (ef76j5 v) (kBlock 1 (kSeq (kc V76 Rj10 sp0) (kSeq (kc V76 Rl1 sp0) (kBlock 0 (kSeq (kc V76 Rj11 sp6) Kf3)))))=f76_19 F (Rj10∘ef76j10) (Rl1∘ef76l1) (Rj11∘ef76j11) v:=
 seq_cut (by kernel_rfl) (by kernel_rfl) ef76j5 ef76j6 _ (fun k=>f76_6 F k (Rj10∘ef76j10) (Rl1∘ef76l1) (Rj11∘ef76j11)) (f76_18 F (Rj10∘ef76j10) (Rl1∘ef76l1) (Rj11∘ef76j11))
  (fun Rj6=>f76_6_eq F Rj6 Rj10 Rl1 Rj11) (f76_18_eq F Rj10 Rl1 Rj11)
def f76_20(F:Nat)(kj10 kl1:Ty1→Rz)(kj11:Li×Li→Rz):Ty1→Rz:=f76_19 F kj10 kl1 kj11
theorem f76_20_eq(F:Nat)(Rj10 Rl1 Rj11:St→Rz):∀ v,XAf76 F (bp Tryd.f76 934) (ef76j5 v) (kSeq (kc V76 Rj10 sp0) (kSeq (kc V76 Rl1 sp0) (kBlock 0 (kSeq (kc V76 Rj11 sp6) Kf3))))=f76_20 F (Rj10∘ef76j10) (Rl1∘ef76l1) (Rj11∘ef76j11) v:=fun v=>
 (block_in  (by kernel_rfl) _ _).trans (f76_19_eq F Rj10 Rl1 Rj11 v)
def f76_21(F:Nat)(kl1:Ty1→Rz)(kj11:Li×Li→Rz):Ty1→Rz:=fun (t0,t11,x3,x4)=>(kl1 (t0,(IntKind.i64.wrap (t11+(1:Int))),x3,x4))
theorem f76_21_eq(F:Nat)(Rl1 Rj11:St→Rz):∀ v,XAf76 F (bp Tryd.f76 935) (ef76j10 v) (kSeq (kc V76 Rl1 sp0) (kBlock 0 (kSeq (kc V76 Rj11 sp6) Kf3)))=f76_21 F (Rl1∘ef76l1) (Rj11∘ef76j11) v:=by
 rintro⟨t0,t11,x3,x4⟩;kernel_rfl
def f76_22(F:Nat)(kl1:Ty1→Rz)(kj11:Li×Li→Rz):Ty1→Rz:=fun v=>f76_20 F (f76_21 F kl1 kj11) kl1 kj11 v
theorem f76_22_eq(F:Nat)(Rl1 Rj11:St→Rz):∀ v,XAf76 F (bp Tryd.f76 467) (ef76j5 v) (kSeq (kc V76 Rl1 sp0) (kBlock 0 (kSeq (kc V76 Rj11 sp6) Kf3)))=f76_22 F (Rl1∘ef76l1) (Rj11∘ef76j11) v:=
 seq_cut (by kernel_rfl) (by kernel_rfl) ef76j5 ef76j10 _ (fun k=>f76_20 F k (Rl1∘ef76l1) (Rj11∘ef76j11)) (f76_21 F (Rl1∘ef76l1) (Rj11∘ef76j11))
  (fun Rj10=>f76_20_eq F Rj10 Rl1 Rj11) (f76_21_eq F Rl1 Rj11)
def f76_23(F:Nat)(kl1:Ty1→Rz)(kj11:Li×Li→Rz):Ty2→Rz:=fun v=>f76_5 F (f76_22 F kl1 kj11) kl1 kj11 v
theorem f76_23_eq(F:Nat)(Rl1 Rj11:St→Rz):∀ v,XAf76 F (bp Tryd.f76 233) (ef76j4 v) (kSeq (kc V76 Rl1 sp0) (kBlock 0 (kSeq (kc V76 Rj11 sp6) Kf3)))=f76_23 F (Rl1∘ef76l1) (Rj11∘ef76j11) v:=
 seq_cut (by kernel_rfl) (by kernel_rfl) ef76j4 ef76j5 _ (fun k=>f76_5 F k (Rl1∘ef76l1) (Rj11∘ef76j11)) (f76_22 F (Rl1∘ef76l1) (Rj11∘ef76j11))
  (fun Rj5=>f76_5_eq F Rj5 Rl1 Rj11) (f76_22_eq F Rl1 Rj11)
def f76_24(F:Nat)(kl1:Ty1→Rz)(kj11:Li×Li→Rz):Ty1→Rz:=fun v=>f76_4 F (f76_23 F kl1 kj11) kl1 kj11 v
theorem f76_24_eq(F:Nat)(Rl1 Rj11:St→Rz):∀ v,XAf76 F (bp Tryd.f76 116) (ef76l1 v) (kSeq (kc V76 Rl1 sp0) (kBlock 0 (kSeq (kc V76 Rj11 sp6) Kf3)))=f76_24 F (Rl1∘ef76l1) (Rj11∘ef76j11) v:=
 seq_cut (by kernel_rfl) (by kernel_rfl) ef76l1 ef76j4 _ (fun k=>f76_4 F k (Rl1∘ef76l1) (Rj11∘ef76j11)) (f76_23 F (Rl1∘ef76l1) (Rj11∘ef76j11))
  (fun Rj4=>f76_4_eq F Rj4 Rl1 Rj11) (f76_23_eq F Rl1 Rj11)
def f76_25_i:Ty1→Li×Int×Li×Li:=fun (t0,t11,x3,x4)=>(t0,t11,x3,x4)
def f76_25(F:Nat)(kj11:Li×Li→Rz):Ty1→Rz:=fun v=>loopN (fun k=>f76_24 F k kj11) F (f76_25_i v)
theorem f76_25_eq(F:Nat)(Rj11:St→Rz):∀ v,XAf76 F (bp Tryd.f76 58) (ef76j3 v) (kBlock 0 (kSeq (kc V76 Rj11 sp6) Kf3))=f76_25 F (Rj11∘ef76j11) v:=
 loop_cut (by kernel_rfl) (by kernel_rfl) ef76j3 ef76l1 _ f76_25_i (fun k=>f76_24 F k (Rj11∘ef76j11))
  (by rintro⟨t0,t11,x3,x4⟩;kernel_rfl) (fun Rl1=>f76_24_eq F Rl1 Rj11)
def f76_26(F:Nat)(kj11:Li×Li→Rz):Ty1→Rz:=f76_25 F kj11
theorem f76_26_eq(F:Nat)(Rj11:St→Rz):∀ v,XAf76 F (bp Tryd.f76 29) (ef76j3 v) (kSeq (kc V76 Rj11 sp6) Kf3)=f76_26 F (Rj11∘ef76j11) v:=fun v=>
 (block_in  (by kernel_rfl) _ _).trans (f76_25_eq F Rj11 v)
def f76_27(F:Nat)(kj11:Li×Li→Rz):Ty0→Rz:=fun v=>f76_3 F (f76_26 F kj11) kj11 v
theorem f76_27_eq(F:Nat)(Rj11:St→Rz):∀ v,XAf76 F (bp Tryd.f76 14) (ef76j2 v) (kSeq (kc V76 Rj11 sp6) Kf3)=f76_27 F (Rj11∘ef76j11) v:=
 seq_cut (by kernel_rfl) (by kernel_rfl) ef76j2 ef76j3 _ (fun k=>f76_3 F k (Rj11∘ef76j11)) (f76_26 F (Rj11∘ef76j11))
  (fun Rj3=>f76_3_eq F Rj3 Rj11) (f76_26_eq F Rj11)
def f76_28(F:Nat):Li×Li→Rz:=fun (x1,x2)=>(some ((.agg 64 (.rI .u32 x2)),[]))
theorem f76_28_eq(F:Nat):∀ v,XAf76 F (bp Tryd.f76 15) (ef76j11 v) Kf3=f76_28 F v:=by
 rintro⟨x1,x2⟩;kernel_rfl
def f76_29(F:Nat):Ty0→Rz:=fun v=>f76_27 F (f76_28 F) v
theorem f76_29_eq(F:Nat):∀ v,XAf76 F (bp Tryd.f76 7) (ef76j2 v) Kf3=f76_29 F v:=
 seq_cut (by kernel_rfl) (by kernel_rfl) ef76j2 ef76j11 _ (fun k=>f76_27 F k) (f76_28 F)
  (fun Rj11=>f76_27_eq F Rj11) (f76_28_eq F)
def f76_30(F:Nat):Li×Li→Rz:=fun v=>f76_2 F (f76_29 F) v
theorem f76_30_eq(F:Nat):∀ v,XAf76 F (bp Tryd.f76 3) (ef76j1 v) Kf3=f76_30 F v:=
 seq_cut (by kernel_rfl) (by kernel_rfl) ef76j1 ef76j2 _ (fun k=>f76_2 F k) (f76_29 F)
  (fun Rj2=>f76_2_eq F Rj2) (f76_29_eq F)
def f76_31(F:Nat):Li→Rz:=fun v=>f76_1 F (f76_30 F) v
theorem f76_31_eq(F:Nat):∀ v,XAf76 F (sub (bodyOf Tryd.f76) []) (ef76_a v) Kf3=f76_31 F v:=
 seq_cut (by kernel_rfl) (by kernel_rfl) ef76_a ef76j1 _ (fun k=>f76_1 F k) (f76_30 F)
  (fun Rj1=>f76_1_eq F Rj1) (f76_30_eq F)
def f76(F:Nat):Li→Rz:=f76_31 F
theorem f76_body(F:Nat)(a0:Li):abody V76 (Af76 F) Tryd.f76 [(.vs (.rI .u8 a0) 0 1)] []=f76 F a0:=
 (abody_in (c:=(sub (bodyOf Tryd.f76) [])) (by kernel_rfl) (s:=ef76_a a0) (by kernel_rfl)).trans (f76_31_eq F a0)
def r76:CRun:=fun X H=>match X,H with
 | [(.vs (.rI .u8 a0) 0 1)],[]=>some ((decide (a0.length=64)),(.agg 64 (.rI .u32 (Sha.sched a0 64))),[])
 | _,_=>none
theorem sched_len(b:Li):∀ t,(Sha.sched b t).length=t
 | 0=>rfl
 | t+1=>by simp [Sha.sched,sched_len b t]
theorem sched_get(b:Li)(t i:Nat)(z:Li)(h:i < t):(Sha.sched b t++z).getD i 0=(Sha.sched b t).getD i 0:=by
 simp [List.getD_eq_getElem?_getD,List.getElem?_append,sched_len,h]
theorem sched_set(b:Li)(t:Nat)(v:Int)(h:t < 64)(hv:Sha.sched b (t+1)=Sha.sched b t++[v]):(Sha.sched b t++List.replicate (64-t) 0).set t v=Sha.sched b (t+1)++List.replicate (64-(t+1)) 0:=by
 rw [hv,show 64-t=(64-(t+1))+1 by omega,List.replicate_succ,List.set_append_right _ _ (by rw [sched_len];exact Nat.le_refl _),sched_len,Nat.sub_self]
 simp
theorem or_bytes(a b:Int)(ha:0≤a)(ha2:a < 16777216)(hb:0≤b)(hb2:b≤255):ibits .or .u32 (IntKind.u32.wrap (a*2^8)) (IntKind.u32.wrap b)=a*256+b:=by
 obtain⟨x,rfl⟩:=Int.eq_ofNat_of_zero_le ha
 obtain⟨y,rfl⟩:=Int.eq_ofNat_of_zero_le hb
 rw [u32w (by omega) (by omega),u32w (by omega) (by omega)]
 simp only [ibits,BitVec.toNat_or,BitVec.toNat_ofInt]
 have e1:((x:Int)*2^8%((2^IntKind.u32.bits:Nat):Int)).toNat=x <<< 8:=by
  rw [Nat.shiftLeft_eq];simp only [IntKind.bits];omega
 have e2:((y:Int)%((2^IntKind.u32.bits:Nat):Int)).toNat=y:=by simp only [IntKind.bits];omega
 rw [e1,e2,← Nat.shiftLeft_add_eq_or_of_lt (show y < 2^8 by omega),Nat.shiftLeft_eq,u32w (by omega) (by omega)]
 omega
theorem s76(a0:Li)(hp:((decide (a0.length=64)))=true)(h0:okV (.vs (.rI .u8 a0) 0 1)):∃ F,f76 F a0=some ((.agg 64 (.rI .u32 (Sha.sched a0 64))),[]):=by
 have hl:a0.length=64:=of_decide_eq_true hp
 have hb:∀ i,0≤a0.getD i 0∧a0.getD i 0≤255:=fun i=>by
  by_cases hi:i < a0.length
  ·rw [List.getD_eq_getElem?_getD,List.getElem?_eq_getElem hi]
   exact has_u8 (h0.1 _ (List.getElem_mem hi))
  ·rw [List.getD_eq_getElem?_getD,List.getElem?_eq_none (by omega)];simp
 refine⟨65,?_⟩
 simp only [f76,f76_31,f76_1,f76_30,f76_2,f76_29,f76_27,f76_3,f76_26,f76_25,f76_25_i]
 refine loopN_from (fun i=>(a0,(i:Int),List.replicate 64 0,Sha.sched a0 i++List.replicate (64-i) 0)) 64 (by rfl) (fun i hi k=>?_) (fun k=>?_) 65 (by omega)
 ·simp only [f76_24,f76_4,f76_23,f76_5,f76_22,f76_20,f76_21,f76_19,f76_6,f76_18,f76_16,f76_17,f76_7,f76_15]
  rw [cond_pos (show(i:Int) < 64 by omega)]
  by_cases h16:i < 16
  ·rw [cond_pos (show(i:Int) < 16 by omega)]
   simp only [f76_13,f76_12,f76_8,f76_11,f76_10,f76_10_i]
   rw [i64w (x:=4*(i:Int)) (by omega) (by omega),i64w (x:=4*(i:Int)+4) (by omega) (by omega),dec_and,dec_and,cond_pos (by omega)]
   have hL:List.take ((4*(i:Int)+4).toNat-(4*(i:Int)).toNat) (List.drop (4*(i:Int)).toNat a0)=[a0.getD (4*i) 0,a0.getD (4*i+1) 0,a0.getD (4*i+2) 0,a0.getD (4*i+3) 0]:=by
    rw [show(4*(i:Int)+4).toNat-(4*(i:Int)).toNat=4 by omega,show(4*(i:Int)).toNat=4*i by omega]
    apply List.ext_getElem
    ·simp;omega
    ·intro j h1 h2
     simp only [List.length_cons,List.length_nil] at h2
     rw [List.getElem_take,List.getElem_drop]
     have hj:j=0∨j=1∨j=2∨j=3:=by omega
     rcases hj with rfl | rfl | rfl | rfl <;> simp [List.getD_eq_getElem?_getD,List.getElem?_eq_getElem (show 4*i < a0.length by omega),List.getElem?_eq_getElem (show 4*i+1 < a0.length by omega),List.getElem?_eq_getElem (show 4*i+2 < a0.length by omega),List.getElem?_eq_getElem (show 4*i+3 < a0.length by omega)]
   rw [hL]
   have b0:=hb (4*i)
   have b1:=hb (4*i+1)
   have b2:=hb (4*i+2)
   have b3:=hb (4*i+3)
   have hnext:Sha.sched a0 (i+1)=Sha.sched a0 i++[Sha.word (a0.getD (4*i) 0) (a0.getD (4*i+1) 0) (a0.getD (4*i+2) 0) (a0.getD (4*i+3) 0)]:=by simp [Sha.sched,h16]
   generalize a0.getD (4*i) 0=c0 at *
   generalize a0.getD (4*i+1) 0=c1 at *
   generalize a0.getD (4*i+2) 0=c2 at *
   generalize a0.getD (4*i+3) 0=c3 at *
   have hset:∀ v:Int,((Sha.sched a0 i++List.replicate (64-i) 0).set i v).getD i 0=v:=fun v=>by
    rw [List.getD_eq_getElem?_getD,List.getElem?_set_self (by simp [sched_len];omega)];rfl
   have hset0:Sha.sched a0 i++List.replicate (64-i) 0=(Sha.sched a0 i++List.replicate (64-i) 0).set i 0:=by
    rw [show 64-i=(64-(i+1))+1 by omega,List.replicate_succ,List.set_append_right _ _ (by rw [sched_len];exact Nat.le_refl _),sched_len,Nat.sub_self];rfl
   refine loopN_from (fun j=>(a0,(i:Int),(i:Int),[c0,c1,c2,c3],4,(j:Int),List.replicate 64 0,(Sha.sched a0 i++List.replicate (64-i) 0).set i (match j with | 0=>0 | 1=>c0 | 2=>c0*256+c1 | 3=>(c0*256+c1)*256+c2 | _=>((c0*256+c1)*256+c2)*256+c3))) 4 (by simp only [];rw [← hset0];rfl) (fun j hj k'=>?_) (fun k'=>?_) 65 (by omega)
   ·simp only [f76_9]
    rw [i64w (x:=(j:Int)+1) (by omega) (by omega),dec_and,dec_and,cond_pos (show(j:Int) < 4 by omega),cond_pos (by simp only [List.length_cons,List.length_nil];omega),cond_pos (by omega),cond_pos (by omega)]
    simp only [Int.toNat_natCast,hset,List.set_set]
    have hj':j=0∨j=1∨j=2∨j=3:=by omega
    rcases hj' with rfl | rfl | rfl | rfl
    ·simp only [List.getD_cons_zero];rw [or_bytes 0 c0 (by omega) (by omega) b0.1 b0.2];simp
    ·simp only [List.getD_cons_succ,List.getD_cons_zero];rw [or_bytes c0 c1 (by omega) (by omega) b1.1 b1.2];rfl
    ·simp only [List.getD_cons_succ,List.getD_cons_zero];rw [or_bytes _ c2 (by omega) (by omega) b2.1 b2.2];rfl
    ·simp only [List.getD_cons_succ,List.getD_cons_zero];rw [or_bytes _ c3 (by omega) (by omega) b3.1 b3.2];rfl
   ·simp only [f76_9,f76_21]
    rw [cond_neg (by omega),i64w (x:=(i:Int)+1) (by omega) (by omega),sched_set a0 i _ (by omega) (by rw [hnext];simp only [Sha.word];rw [show((c0*256+c1)*256+c2)*256+c3=c0*16777216+c1*65536+c2*256+c3 by omega])]
    rfl
  ·rw [cond_neg (show ¬ (i:Int) < 16 by omega)]
   simp only [f76_14,f76_17]
   rw [i64w (x:=(i:Int)-15) (by omega) (by omega),i64w (x:=(i:Int)-2) (by omega) (by omega),i64w (x:=(i:Int)-16) (by omega) (by omega),i64w (x:=(i:Int)-7) (by omega) (by omega)]
   simp only [dec_and]
   rw [cond_pos (by omega),cond_pos (by omega),cond_pos (by omega),cond_pos (by omega),cond_pos (by omega)]
   simp only [f76_21,show((i:Int)-15).toNat=i-15 by omega,show((i:Int)-2).toNat=i-2 by omega,show((i:Int)-16).toNat=i-16 by omega,show((i:Int)-7).toNat=i-7 by omega,Int.toNat_natCast]
   rw [i64w (x:=(i:Int)+1) (by omega) (by omega),sched_get a0 i (i-15) _ (by omega),sched_get a0 i (i-2) _ (by omega),sched_get a0 i (i-16) _ (by omega),sched_get a0 i (i-7) _ (by omega)]
   rw [show(-7:Int) = -((7:Nat):Int) from rfl,show(-18:Int) = -((18:Nat):Int) from rfl,show(-17:Int) = -((17:Nat):Int) from rfl,show(-19:Int) = -((19:Nat):Int) from rfl]
   rw [Sha.rotl_neg _ 7 (by omega) (by omega),Sha.rotl_neg _ 18 (by omega) (by omega),Sha.rotl_neg _ 17 (by omega) (by omega),Sha.rotl_neg _ 19 (by omega) (by omega)]
   rw [sched_set a0 i _ (by omega) (by simp only [Sha.sched,if_neg h16];rfl)]
   rfl
 ·simp only [f76_24,f76_4,f76_23,f76_5,f76_28]
  rw [cond_neg (by omega),Nat.sub_self,List.replicate_zero,List.append_nil]
theorem c76:CallOk Tryd.prog G36 76 r76:=callOk_of mixed tys eV76 Tryd.func76 (by kernel_rfl) (c:=sub (bodyOf Tryd.f76) []) (by kernel_rfl) (by
 intro X H r H' h hX hH
 unfold r76 at h;split at h <;> try contradiction
 ·obtain⟨hp,rfl,rfl⟩:=inj3 h
  obtain⟨F,hF⟩:=s76 _ hp (hX _ hm0)
  exact⟨Af76 F,(f76_body F _).trans hF⟩)
end Go.Am
