/- Part of a proof. -/
import Derived.Test.YtffddoahjpemaaaGreatDoorAmWire3
import Derived.Test.YtffddoahjpemaaaGreatDoorProg
set_option linter.unusedVariables false
set_option linter.unusedSimpArgs false
namespace Go.Am
open Go Go.Proofs
abbrev sp0:List (Nat×Md):=[(0,.plain),(2,.plain),(3,.plain),(11,.plain)]
abbrev sp1:List (Nat×Md):=[(0,.plain),(2,.plain),(3,.plain),(4,.plain),(11,.plain),(22,.plain),(23,.plain),(24,.plain)]
abbrev sp2:List (Nat×Md):=[(0,.plain),(2,.plain),(3,.plain)]
abbrev sp3:List (Nat×Md):=[(0,.plain),(2,.plain),(3,.plain),(11,.plain),(12,.plain)]
abbrev sp4:List (Nat×Md):=[(0,.plain),(2,.plain),(3,.plain),(4,.plain),(11,.plain)]
abbrev sp5:List (Nat×Md):=[(0,.plain),(2,.plain),(3,.plain),(4,.plain),(11,.plain),(15,.plain)]
abbrev sp6:List (Nat×Md):=[(2,.plain),(3,.plain)]
abbrev Ty0:=Li×Li×Li
abbrev Ty1:=Li×Int×Li×Li
abbrev Ty2:=Li×Int×Bool×Li×Li
abbrev Ty3:=Li×Int×Int×Li×Li
abbrev Ty4:=Li×Int×Int×Bool×Li×Li
abbrev Ty5:=Li×Int×Int×Li×Int×Int×Li×Li
def aE:Tys:=[⟨.other,1,0⟩,⟨.func,1,8⟩,⟨.int .i64,1,8⟩,⟨.int .i64,1,8⟩,⟨.bool,1,1⟩,⟨.int .u8,1,1⟩,⟨.int .u8,1,1⟩,⟨.struct [(2,0),(3,1),(4,2),(6,3)],4,24⟩,⟨.struct [(2,0),(3,1),(4,2),(6,3)],4,24⟩,⟨.str,1,16⟩,⟨.str,1,16⟩,⟨.str,1,16⟩,⟨.int .u64,1,8⟩,⟨.other,0,0⟩,⟨.other,0,0⟩,⟨.ptr 191,1,8⟩,⟨.ptr 194,1,8⟩,⟨.ptr 201,1,8⟩,⟨.other,0,0⟩,⟨.other,0,0⟩,⟨.other,1,16⟩,⟨.int .i32,1,4⟩,⟨.slice 25,1,24⟩,⟨.slice 3,1,24⟩,⟨.struct [(3,0),(3,1),(3,2),(3,3),(5,4),(23,5)],6,64⟩,⟨.struct [(3,0),(3,1),(3,2),(3,3),(5,4),(23,5)],6,64⟩,⟨.func,1,8⟩,⟨.ptr 92,1,8⟩,⟨.slice 9,1,24⟩,⟨.other,1,0⟩,⟨.func,1,8⟩,⟨.ptr 75,1,8⟩,⟨.int .i64,1,8⟩,⟨.other,1,0⟩,⟨.func,1,8⟩,⟨.func,1,8⟩,⟨.func,1,8⟩,⟨.func,1,8⟩,⟨.func,1,8⟩,⟨.other,1,0⟩,⟨.func,1,8⟩,⟨.func,1,8⟩,⟨.func,1,8⟩,⟨.func,1,8⟩,⟨.func,1,8⟩,⟨.other,1,0⟩,⟨.func,1,8⟩,⟨.ptr 102,1,8⟩,⟨.other,1,0⟩,⟨.func,1,8⟩,⟨.ptr 57,1,8⟩,⟨.other,1,0⟩,⟨.func,1,8⟩,⟨.func,1,8⟩,⟨.func,1,8⟩,⟨.func,1,8⟩,⟨.struct [(47,0),(23,1),(28,2),(23,3),(3,4),(3,5),(4,6)],7,104⟩,⟨.struct [(47,0),(23,1),(28,2),(23,3),(3,4),(3,5),(4,6)],7,104⟩,⟨.func,1,8⟩,⟨.func,1,8⟩,⟨.func,1,8⟩,⟨.slice 64,1,24⟩,⟨.func,1,8⟩,⟨.map 3 4,1,8⟩,⟨.int .u16,1,2⟩,⟨.int .u64,1,8⟩,⟨.func,1,8⟩,⟨.func,1,8⟩,⟨.func,1,8⟩,⟨.func,1,8⟩,⟨.other,1,0⟩,⟨.func,1,8⟩,⟨.other,1,0⟩,⟨.func,1,8⟩,⟨.struct [(27,0),(23,1),(23,2),(28,3),(3,4),(3,5),(4,6)],7,104⟩,⟨.struct [(27,0),(23,1),(23,2),(28,3),(3,4),(3,5),(4,6)],7,104⟩,⟨.slice 80,1,24⟩,⟨.other,1,0⟩,⟨.func,1,8⟩,⟨.struct [(3,0),(3,1),(3,2),(9,3),(4,4)],5,48⟩,⟨.struct [(3,0),(3,1),(3,2),(9,3),(4,4)],5,48⟩,⟨.func,1,8⟩,⟨.arr 64 5,64,64⟩,⟨.arr 64 5,64,64⟩,⟨.slice 5,1,24⟩,⟨.other,1,0⟩,⟨.func,1,8⟩,⟨.func,1,8⟩,⟨.func,1,8⟩,⟨.slice 99,1,24⟩,⟨.map 3 99,1,8⟩,⟨.struct [(89,0),(90,1),(63,2),(4,3),(3,4)],5,56⟩,⟨.struct [(89,0),(90,1),(63,2),(4,3),(3,4)],5,56⟩,⟨.other,1,0⟩,⟨.func,1,8⟩,⟨.func,1,8⟩,⟨.struct [(3,0),(3,1),(3,2),(9,3),(4,4)],5,48⟩,⟨.struct [(3,0),(3,1),(3,2),(9,3),(4,4)],5,48⟩,⟨.func,1,8⟩,⟨.arr 64 5,64,64⟩,⟨.slice 104,1,24⟩,⟨.struct [(100,0),(4,1),(3,2)],3,40⟩,⟨.struct [(100,0),(4,1),(3,2)],3,40⟩,⟨.struct [(9,0),(9,1),(4,2),(4,3)],4,40⟩,⟨.struct [(9,0),(9,1),(4,2),(4,3)],4,40⟩,⟨.slice 97,1,24⟩,⟨.func,1,8⟩,⟨.func,1,8⟩,⟨.func,1,8⟩,⟨.func,1,8⟩,⟨.other,1,0⟩,⟨.func,1,8⟩,⟨.func,1,8⟩,⟨.ptr 115,1,8⟩,⟨.struct [(113,0),(84,1)],2,32⟩,⟨.struct [(113,0),(84,1)],2,32⟩,⟨.other,1,16⟩,⟨.other,1,16⟩,⟨.other,1,0⟩,⟨.func,1,8⟩,⟨.func,1,8⟩,⟨.func,1,8⟩,⟨.func,1,8⟩,⟨.func,1,8⟩,⟨.other,1,0⟩,⟨.arr 32 5,32,32⟩,⟨.func,1,8⟩,⟨.func,1,8⟩,⟨.func,1,8⟩,⟨.func,1,8⟩,⟨.func,1,8⟩,⟨.func,1,8⟩,⟨.func,1,8⟩,⟨.func,1,8⟩,⟨.func,1,8⟩,⟨.func,1,8⟩,⟨.func,1,8⟩,⟨.int .u32,1,4⟩,⟨.other,1,0⟩,⟨.func,1,8⟩,⟨.int .u64,1,8⟩,⟨.other,1,0⟩,⟨.func,1,8⟩,⟨.ptr 5,1,8⟩,⟨.func,1,8⟩,⟨.func,1,8⟩,⟨.arr 8 137,8,32⟩,⟨.struct [(146,0),(82,8),(140,72)],73,104⟩,⟨.struct [(146,0),(82,8),(140,72)],73,104⟩,⟨.func,1,8⟩,⟨.func,1,8⟩,⟨.func,1,8⟩,⟨.func,1,8⟩,⟨.func,1,8⟩,⟨.func,1,8⟩,⟨.other,1,8⟩,⟨.func,1,8⟩,⟨.func,1,8⟩,⟨.func,1,8⟩,⟨.func,1,8⟩,⟨.func,1,8⟩,⟨.func,1,8⟩,⟨.func,1,8⟩,⟨.func,1,8⟩,⟨.arr 64 137,64,256⟩,⟨.func,1,8⟩,⟨.func,1,8⟩,⟨.arr 4 137,4,16⟩,⟨.slice 137,1,24⟩,⟨.func,1,8⟩,⟨.func,1,8⟩,⟨.int .i64,1,8⟩,⟨.other,1,0⟩,⟨.func,1,8⟩,⟨.func,1,8⟩,⟨.func,1,8⟩,⟨.func,1,8⟩,⟨.other,1,0⟩,⟨.func,1,8⟩,⟨.func,1,8⟩,⟨.func,1,8⟩,⟨.int .u64,1,8⟩,⟨.func,1,8⟩,⟨.func,1,8⟩,⟨.func,1,8⟩,⟨.ptr 3,1,8⟩,⟨.func,1,8⟩,⟨.ptr 181,1,8⟩,⟨.other,1,0⟩,⟨.func,1,8⟩,⟨.other,0,0⟩,⟨.other,0,0⟩,⟨.arr 0 16,0,0⟩,⟨.other,0,0⟩,⟨.other,0,0⟩,⟨.int .u8,1,1⟩,⟨.int .u8,1,1⟩,⟨.func,1,8⟩,⟨.int .i32,1,4⟩,⟨.int .i32,1,4⟩,⟨.other,0,0⟩,⟨.other,0,0⟩]
def ao:Nat→Option AV:=fun g=>match g with | 2=>some (.rI .u32 Sha.K) | _=>none
def eo:Nat→Option AV:=fun g=>match g with | 0=>some (.rI .u32 Sha.K) | 2=>some (.rI .u32 Sha.K) | _=>none
theorem dN:∀ g r,ao g=some r→eo g=some r:=by
 intro g r h
 unfold ao at h
 split at h
 ·exact h
 ·cases h
theorem mixed:Tryz.prog.follows .mixedOrders=true:=by kernel_rfl
theorem tys:TysOk Tryz.prog aE:=afw (by kernel_rfl)
abbrev Ck:=CallOk Tryz.prog ao
theorem ck {l:List aF}{f:Nat}{fn:Func}{r:aB}(e:EOk Tryz.prog (ar aE ao l))(hf:Tryz.prog.funcs[f]?=some fn)(h:∀ X H x H',r X H=some (true,x,H')→(∀ x∈X,okV x)→(∀ b∈H,okB b)→∃ A,eC (ar aE ao l) A fn X H=some (x,H'))(hn:(fn.name=="runtime.NumGoroutine")=false:=by kernel_rfl)(hb:fn.body=some (sub (cZ fn) []):=by kernel_rfl):Ck f r:=dF (V:=ar aE ao l) mixed tys e hf hn hb h
def a1M:List aF:=[]
def YE:Env:=ar aE ao a1M
noncomputable abbrev Kf1:=aI YE none (Tryz.f123).results.toList
theorem a1N:EOk Tryz.prog YE:=aj (by exact trivial)
def a1O(F:Nat):Cuts:={ F:=F,at_:=fun _=>none,join:=fun _=>none }
abbrev a1P(F n:Nat){σ:Type}(e:σ→St)(K:Ex→St→Rz)(N:σ→Rz):=Qe YE (a1O F) (bp Tryz.f123 n) e K N
def afD:Int×Int→St:=fun (a,b)=>hS [(0,.int .u32 a),iS 1 b] [] 17 0
def ET(F:Nat):Int×Int→Rz:=fun (b,a)=>(cond (decide (0≤(af .and .u64 (IntKind.u64.wrap a) (31:Int)))) (cond (decide (0≤(IntKind.u64.wrap ((32:Int)-(af .and .u64 (IntKind.u64.wrap a) (31:Int)))))) (some ((.int .u32 (af .or .u32 (IntKind.u32.wrap (b*2^(min (Int.toNat (af .and .u64 (IntKind.u64.wrap a) (31:Int))) 32))) (Int.fdiv b (2^(min (Int.toNat (IntKind.u64.wrap ((32:Int)-(af .and .u64 (IntKind.u64.wrap a) (31:Int))))) 32))))),[])) none) none)
theorem Ri F:a1P F 1 afD Kf1 (ET F):=fun _=>by kernel_rfl
def f123(F:Nat):Int×Int→Rz:=ET F
def K2:aB:=fun X H=>match X,H with
 | [(.int .u32 a0),.int .i64 a1],[]=>some (true,(.int .u32 (Sha.rotl a0 a1)),[])
 | _,_=>none
theorem tA(x:Int):0≤IntKind.u64.wrap x:=by rw [dy];omega
theorem EU(x y:Int):0≤af .and .u64 x y:=tA _
theorem a2I(a0 a1:Int)(h0:okV (.int .u32 a0))(h1:okV (.int .i64 a1)):∃ F,f123 F (a0,a1)=some ((.int .u32 (Sha.rotl a0 a1)),[]):=by
 refine⟨0,?_⟩
 simp only [f123,ET]
 rw [aa (EU _ _),aa (tA _)]
 rfl
theorem aZZ:Ck 123 K2:=ck a1N Tryz.func123 (by
 intro X H r H' h hX hH
 unfold K2 at h;split at h <;> try contradiction
 ·obtain⟨hp,rfl,rfl⟩:=aJ h
  obtain⟨F,hF⟩:=a2I _ _ (hX _ hm0) (hX _ hm1)
  exact⟨_,abC (Ri F) hF⟩)
def a1Q:List aF:=[(123,[none,none],K2)]
def YF:Env:=ar aE ao a1Q
noncomputable abbrev Kf2:=aI YF none (Tryz.f111).results.toList
theorem a1R:EOk Tryz.prog YF:=aj (by exact⟨aZZ,trivial⟩)
def a1S(F:Nat):Cuts:={ F:=F,at_:=fun _=>none,join:=fun _=>none }
abbrev a1T(F n:Nat){σ:Type}(e:σ→St)(K:Ex→St→Rz)(N:σ→Rz):=Qe YF (a1S F) (bp Tryz.f111 n) e K N
def afE:Int×Int×Int×Int→St:=fun (a,b,c,d)=>hS [(0,.int .u32 a),iS 1 b,iS 2 c,iS 3 d] [] 23 0
def Rj(F:Nat):Int×Int×Int×Int→Rz:=fun (a,b,c,d)=>(some ((.int .u32 (af .xor .u32 (af .xor .u32 (Sha.rotl a (IntKind.i64.wrap (0-b))) (Sha.rotl a (IntKind.i64.wrap (0-c)))) (Sha.rotl a (IntKind.i64.wrap (0-d))))),[]))
theorem Rk F:a1T F 1 afE Kf2 (Rj F):=fun _=>by kernel_rfl
def f111(F:Nat):Int×Int×Int×Int→Rz:=Rj F
def YG:aB:=fun X H=>match X,H with
 | [(.int .u32 a0),.int .i64 a1,.int .i64 a2,.int .i64 a3],[]=>some (true,(.int .u32 (Sha.mix a0 a1 a2 a3)),[])
 | _,_=>none
theorem a2J(a0 a1:Int)(a2 a3:Int)(h0:okV (.int .u32 a0))(h1:okV (.int .i64 a1))(h2:okV (.int .i64 a2))(h3:okV (.int .i64 a3)):∃ F,f111 F (a0,a1,a2,a3)=some ((.int .u32 (Sha.mix a0 a1 a2 a3)),[]):=
 ⟨0,rfl⟩
theorem a2K:Ck 111 YG:=ck a1R Tryz.func111 (by
 intro X H r H' h hX hH
 unfold YG at h;split at h <;> try contradiction
 ·obtain⟨hp,rfl,rfl⟩:=aJ h
  obtain⟨F,hF⟩:=a2J _ _ _ _ (hX _ hm0) (hX _ hm1) (hX _ hm2) (hX _ hm3)
  exact⟨_,abC (Rk F) hF⟩)
def a1U:List aF:=[(123,[none,none],K2)]
def ai:Env:=ar aE ao a1U
noncomputable abbrev Kf3:=aI ai none (Tryz.f110).results.toList
theorem a1V:EOk Tryz.prog ai:=aj (by exact⟨aZZ,trivial⟩)
def aeA(F:Nat):Cuts:={ F:=F,at_:=fun n=>match n with | 3041=>some sp0 | 7012=>some sp1 | _=>none,join:=fun n=>match n with | 1051=>some [(0,.plain),(2,.plain)] | 2049=>some sp2 | 3043=>some sp0 | 4035=>some sp0 | 4039=>some sp3 | 5030=>some sp4 | 6020=>some sp5 | 7014=>some sp1 | 11007=>some sp4 | 15001=>some sp0 | 16003=>some sp6 | _=>none }
abbrev bC(F n:Nat){σ:Type}(e:σ→St)(K:Ex→St→Rz)(N:σ→Rz):=Qe ai (aeA F) (bp Tryz.f110 n) e K N
noncomputable abbrev jZ(F:Nat){α:Type}:=@au α ai (aeA F)
abbrev z9 a:=(.vs (.rI .u8 a) 0 1:AV)
def I5:Li→St:=fun a=>hS [(0,(z9 a))] [] 79 0
abbrev z4 a:=(.cells 64 (.rI .u32 a) true:Blk)
def wS:Li×Li→St:=fun (a,b)=>hS [(0,(z9 a)),pS 2 0 64] [z4 b] 79 0
def pF:Ty0→St:=fun (a,b,c)=>hS [(0,(z9 a)),pS 2 0 64,pS 3 1 64] [z4 b,z4 c] 79 0
def jI:Ty1→St:=fun (a,b,c,d)=>hS [(0,(z9 a)),pS 2 0 64,pS 3 1 64,iS 11 b] [z4 c,z4 d] 79 0
def aP:Ty1→St:=jI
def wT:Ty2→St:=fun (a,b,c,d,e)=>hS [(0,(z9 a)),pS 2 0 64,pS 3 1 64,iS 11 b,(12,.bool c)] [z4 d,z4 e] 79 0
def lG:Ty1→St:=jI
def lH:Ty3→St:=fun (a,b,c,d,e)=>hS [(0,(z9 a)),pS 2 0 64,pS 3 1 64,iS 4 b,iS 11 c] [z4 d,z4 e] 79 0
def iz:Ty4→St:=fun (a,b,c,d,e,f)=>hS [(0,(z9 a)),pS 2 0 64,pS 3 1 64,iS 4 b,iS 11 c,(15,.bool d)] [z4 e,z4 f] 79 0
def pG:Ty5→St:=fun (a,b,c,d,e,f,g,h)=>hS [(0,(z9 a)),pS 2 0 64,pS 3 1 64,iS 4 b,iS 11 c,(22,(z9 d)),iS 23 e,iS 24 f] [z4 g,z4 h] 79 0
def I6:Ty5→St:=pG
def cL:Ty3→St:=lH
def bg:Ty1→St:=jI
def aC:Li×Li→St:=fun (a,b)=>hS [pS 2 0 64,pS 3 1 64] [z4 a,z4 b] 79 0
def tB(F:Nat)(a:Li×Li→Rz):Li→Rz:=fun b=>(a (b,(List.replicate 64 0)))
theorem Rl F Rj1:bC F 2 I5 (kq ai Rj1 [(0,.plain),(2,.plain)] Kf3) (tB F (Rj1∘wS)):=fun _=>by kernel_rfl
def tC(F:Nat)(a:Ty0→Rz):Li×Li→Rz:=fun (b,c)=>(a (b,c,(List.replicate 64 0)))
theorem Rm F Rj2:bC F 6 wS (kq ai Rj2 sp2 Kf3) (tC F (Rj2∘pF)):=fun _=>by kernel_rfl
def tD(F:Nat)(a:Ty1→Rz)(e:Li×Li→Rz):Ty0→Rz:=fun (b,c,d)=>(a (b,(0:Int),c,d))
theorem Rn F Rj3 Rj11:bC F 28 pF (kq ai Rj3 sp0 (kq ai Rj11 sp6 Kf3)) (tD F (Rj3∘jI) (Rj11∘aC)):=fun _=>by kernel_rfl
def nH(F:Nat)(b:Ty2→Rz)(f:Ty1→Rz)(g:Li×Li→Rz):Ty1→Rz:=fun (c,a,d,e)=>(b (c,a,(decide (a < (64:Int))),d,e))
theorem Ro F Rj4 Rl1 Rj11:bC F 232 aP (kq ai Rj4 sp3 (kq ai Rl1 sp0 (ae 0 (kq ai Rj11 sp6 Kf3)))) (nH F (Rj4∘wT) (Rl1∘aP) (Rj11∘aC)):=fun _=>by kernel_rfl
def nI(F:Nat)(c h:Ty1→Rz)(d:Li×Li→Rz):Ty2→Rz:=fun (e,f,g,a,b)=>(cond g (c (e,f,a,b)) (d (a,b)))
theorem Rp F Rj5 Rl1 Rj11:bC F 466 wT (kq ai Rj5 sp0 (kq ai Rl1 sp0 (ae 0 (kq ai Rj11 sp6 Kf3)))) (nI F (Rj5∘lG) (Rl1∘aP) (Rj11∘aC)):=fun _=>by kernel_rfl
def tG(F:Nat)(b:Ty3→Rz)(f g:Ty1→Rz)(h:Li×Li→Rz):Ty1→Rz:=fun (c,a,d,e)=>(b (c,a,a,d,e))
theorem Rq F Rj6 Rj10 Rl1 Rj11:bC F 3736 lG (kq ai Rj6 sp4 (ae 1 (kq ai Rj10 sp0 (kq ai Rl1 sp0 (ae 0 (kq ai Rj11 sp6 Kf3)))))) (tG F (Rj6∘lH) (Rj10∘bg) (Rl1∘aP) (Rj11∘aC)):=fun _=>by kernel_rfl
def tH(F:Nat)(b:Ty4→Rz)(g:Ty3→Rz)(h i:Ty1→Rz)(j:Li×Li→Rz):Ty3→Rz:=fun (c,a,d,e,f)=>(b (c,a,d,(decide (a < (16:Int))),e,f))
theorem Rr F Rj7 Rj9 Rj10 Rl1 Rj11:bC F 14948 lH (kq ai Rj7 sp5 (kq ai Rj9 sp4 (ae 1 (kq ai Rj10 sp0 (kq ai Rl1 sp0 (ae 0 (kq ai Rj11 sp6 Kf3))))))) (tH F (Rj7∘iz) (Rj9∘cL) (Rj10∘bg) (Rl1∘aP) (Rj11∘aC)):=fun _=>by kernel_rfl
def tI(F:Nat)(c:Ty5→Rz)(g:Ty3→Rz)(h i:Ty1→Rz)(j:Li×Li→Rz):Ty4→Rz:=fun (b,a,d,k,e,f)=>(cond (((decide (0≤(IntKind.i64.wrap ((4:Int)*a))))&&(decide ((IntKind.i64.wrap ((4:Int)*a))≤(IntKind.i64.wrap ((IntKind.i64.wrap ((4:Int)*a))+(4:Int))))))&&(decide ((IntKind.i64.wrap ((IntKind.i64.wrap ((4:Int)*a))+(4:Int)))≤(↑b.length:Int)))) (c (b,a,d,((b.drop (Int.toNat (IntKind.i64.wrap ((4:Int)*a)))).take ((Int.toNat (IntKind.i64.wrap ((IntKind.i64.wrap ((4:Int)*a))+(4:Int))))-(Int.toNat (IntKind.i64.wrap ((4:Int)*a))))),(↑((b.drop (Int.toNat (IntKind.i64.wrap ((4:Int)*a)))).take ((Int.toNat (IntKind.i64.wrap ((IntKind.i64.wrap ((4:Int)*a))+(4:Int))))-(Int.toNat (IntKind.i64.wrap ((4:Int)*a))))).length:Int),(0:Int),e,f)) none)
theorem Rs F Rj8 Rj9 Rj10 Rl1 Rj11:bC F 119592 iz (kq ai Rj8 sp1 (bZ (fun s=>jZ F (bp Tryz.f110 59797) s (kq ai Rj9 sp4 (ae 1 (kq ai Rj10 sp0 (kq ai Rl1 sp0 (ae 0 (kq ai Rj11 sp6 Kf3))))))) (kq ai Rj9 sp4 (ae 1 (kq ai Rj10 sp0 (kq ai Rl1 sp0 (ae 0 (kq ai Rj11 sp6 Kf3)))))))) (tI F (Rj8∘pG) (Rj9∘cL) (Rj10∘bg) (Rl1∘aP) (Rj11∘aC)):=fun _=>by kernel_rfl
def nJ(F:Nat)(i:Ty5→Rz)(k:Ty3→Rz)(j l:Ty1→Rz)(m:Li×Li→Rz):Ty5→Rz:=fun (e,a,f,c,g,b,h,d)=>(cond (decide (b < g)) (cond ((decide (0≤b))&&(decide (b < (↑c.length:Int)))) (cond ((decide (0≤a))&&(decide (a < (64:Int)))) (cond ((decide (0≤a))&&(decide (a < (64:Int)))) (i (e,a,f,c,g,(IntKind.i64.wrap (b+(1:Int))),h,(d.set (Int.toNat a) (af .or .u32 (IntKind.u32.wrap ((d.getD (Int.toNat a) 0)*2^8)) (IntKind.u32.wrap (c.getD (Int.toNat b) 0)))))) none) none) none) (j (e,f,h,d)))
theorem Rt F Rl2 Rj9 Rj10 Rl1 Rj11:bC F 478372 I6 (kq ai Rl2 sp1 (ae 2 (bZ (fun s=>jZ F (bp Tryz.f110 59797) s (kq ai Rj9 sp4 (ae 1 (kq ai Rj10 sp0 (kq ai Rl1 sp0 (ae 0 (kq ai Rj11 sp6 Kf3))))))) (kq ai Rj9 sp4 (ae 1 (kq ai Rj10 sp0 (kq ai Rl1 sp0 (ae 0 (kq ai Rj11 sp6 Kf3))))))))) (nJ F (Rl2∘I6) (Rj9∘cL) (Rj10∘bg) (Rl1∘aP) (Rj11∘aC)):=fun _=>by kernel_rfl
def nK:Ty5→Li×Int×Int×Li×Int×Int×Li×Li:=fun (a,b,c,d,e,f,g,h)=>(a,b,c,d,e,f,g,h)
def wU(F:Nat)(a:Ty3→Rz)(b c:Ty1→Rz)(d:Li×Li→Rz):Ty5→Rz:=fun v=>ay (fun k=>nJ F k a b c d) F (nK v)
theorem K3 F Rj9 Rj10 Rl1 Rj11:bC F 239186 pG (ae 2 (bZ (fun s=>jZ F (bp Tryz.f110 59797) s (kq ai Rj9 sp4 (ae 1 (kq ai Rj10 sp0 (kq ai Rl1 sp0 (ae 0 (kq ai Rj11 sp6 Kf3))))))) (kq ai Rj9 sp4 (ae 1 (kq ai Rj10 sp0 (kq ai Rl1 sp0 (ae 0 (kq ai Rj11 sp6 Kf3)))))))) (wU F (Rj9∘cL) (Rj10∘bg) (Rl1∘aP) (Rj11∘aC)):=lpC nK (fun k=>nJ F k (Rj9∘cL) (Rj10∘bg) (Rl1∘aP) (Rj11∘aC)) (fun Rl2=>Rt F Rl2 Rj9 Rj10 Rl1 Rj11)
def wV(F:Nat)(a)(b c)(d):=wU F a b c d
theorem K4 F Rj9 Rj10 Rl1 Rj11:bC F 119593 pG (bZ (fun s=>jZ F (bp Tryz.f110 59797) s (kq ai Rj9 sp4 (ae 1 (kq ai Rj10 sp0 (kq ai Rl1 sp0 (ae 0 (kq ai Rj11 sp6 Kf3))))))) (kq ai Rj9 sp4 (ae 1 (kq ai Rj10 sp0 (kq ai Rl1 sp0 (ae 0 (kq ai Rj11 sp6 Kf3))))))) (wV F (Rj9∘cL) (Rj10∘bg) (Rl1∘aP) (Rj11∘aC)):=biC (K3 F Rj9 Rj10 Rl1 Rj11)
def wW(F:Nat)(a)(b c)(d):=tI F (wV F a b c d) a b c d
theorem K5 F Rj9 Rj10 Rl1 Rj11:bC F 59796 iz (bZ (fun s=>jZ F (bp Tryz.f110 59797) s (kq ai Rj9 sp4 (ae 1 (kq ai Rj10 sp0 (kq ai Rl1 sp0 (ae 0 (kq ai Rj11 sp6 Kf3))))))) (kq ai Rj9 sp4 (ae 1 (kq ai Rj10 sp0 (kq ai Rl1 sp0 (ae 0 (kq ai Rj11 sp6 Kf3))))))) (wW F (Rj9∘cL) (Rj10∘bg) (Rl1∘aP) (Rj11∘aC)):=sqC (fun k=>tI F k (Rj9∘cL) (Rj10∘bg) (Rl1∘aP) (Rj11∘aC)) (fun Rj8=>Rs F Rj8 Rj9 Rj10 Rl1 Rj11) (K4 F Rj9 Rj10 Rl1 Rj11)
def wX(F:Nat)(a)(b c)(d):=wW F a b c d
theorem K6(F:Nat)(Rj9 Rj10:St→Rz)(Rl1 Rj11:St→Rz):∀ v,jZ F (bp Tryz.f110 29898) (iz v) (bZ (kc ai Rj9 sp4) (ae 1 (bZ (kc ai Rj10 sp0) (bZ (kc ai Rl1 sp0) (ae 0 (bZ (kc ai Rj11 sp6) Kf3))))))=wX F (Rj9∘cL) (Rj10∘bg) (Rl1∘aP) (Rj11∘aC) v:=fun v=>
 (aZY  (by kernel_rfl) (by kernel_rfl) _ _).trans (K5 F Rj9 Rj10 Rl1 Rj11 v)
def wY(F:Nat)(a:Ty3→Rz)(g h:Ty1→Rz)(i:Li×Li→Rz):Ty4→Rz:=fun (b,c,d,j,e,f)=>(a (b,c,d,e,f))
theorem K7 F Rj9 Rj10 Rl1 Rj11:bC F 29899 iz (kq ai Rj9 sp4 (ae 1 (kq ai Rj10 sp0 (kq ai Rl1 sp0 (ae 0 (kq ai Rj11 sp6 Kf3)))))) (wY F (Rj9∘cL) (Rj10∘bg) (Rl1∘aP) (Rj11∘aC)):=fun _=>by kernel_rfl
def xk(F:Nat)(a:Ty3→Rz)(b c:Ty1→Rz)(d:Li×Li→Rz):Ty4→Rz:=fun v=>cond ((fun (t0,t4,t11,t15,x5,x6)=>t15) v) (wX F a b c d v) (wY F a b c d v)
theorem K8(F:Nat)(Rj9 Rj10:St→Rz)(Rl1 Rj11:St→Rz):∀ v,jZ F (bp Tryz.f110 14949) (iz v) (bZ (kc ai Rj9 sp4) (ae 1 (bZ (kc ai Rj10 sp0) (bZ (kc ai Rl1 sp0) (ae 0 (bZ (kc ai Rj11 sp6) Kf3))))))=xk F (Rj9∘cL) (Rj10∘bg) (Rl1∘aP) (Rj11∘aC) v:=
 afy (o:=.tmp 15) (by kernel_rfl) iz _ (fun (t0,t4,t11,t15,x5,x6)=>t15) (by rintro⟨t0,t4,t11,t15,x5,x6⟩;kernel_rfl) _ _ (K6 F Rj9 Rj10 Rl1 Rj11) (K7 F Rj9 Rj10 Rl1 Rj11)
def pH(F:Nat)(a)(b c)(d):=tH F (xk F a b c d) a b c d
theorem K9 F Rj9 Rj10 Rl1 Rj11:bC F 7474 lH (kq ai Rj9 sp4 (ae 1 (kq ai Rj10 sp0 (kq ai Rl1 sp0 (ae 0 (kq ai Rj11 sp6 Kf3)))))) (pH F (Rj9∘cL) (Rj10∘bg) (Rl1∘aP) (Rj11∘aC)):=sqC (fun k=>tH F k (Rj9∘cL) (Rj10∘bg) (Rl1∘aP) (Rj11∘aC)) (fun Rj7=>Rr F Rj7 Rj9 Rj10 Rl1 Rj11) (K8 F Rj9 Rj10 Rl1 Rj11)
def pI(F:Nat)(c g:Ty1→Rz)(h:Li×Li→Rz):Ty3→Rz:=fun (d,a,e,f,b)=>(cond ((decide (0≤(IntKind.i64.wrap (a-(15:Int)))))&&(decide ((IntKind.i64.wrap (a-(15:Int))) < (64:Int)))) (cond ((decide (0≤(IntKind.i64.wrap (a-(2:Int)))))&&(decide ((IntKind.i64.wrap (a-(2:Int))) < (64:Int)))) (cond ((decide (0≤(IntKind.i64.wrap (a-(16:Int)))))&&(decide ((IntKind.i64.wrap (a-(16:Int))) < (64:Int)))) (cond ((decide (0≤(IntKind.i64.wrap (a-(7:Int)))))&&(decide ((IntKind.i64.wrap (a-(7:Int))) < (64:Int)))) (cond ((decide (0≤a))&&(decide (a < (64:Int)))) (c (d,e,f,(b.set (Int.toNat a) (IntKind.u32.wrap ((IntKind.u32.wrap ((IntKind.u32.wrap ((b.getD (Int.toNat (IntKind.i64.wrap (a-(16:Int)))) 0)+(af .xor .u32 (af .xor .u32 (Sha.rotl (b.getD (Int.toNat (IntKind.i64.wrap (a-(15:Int)))) 0) (-7:Int)) (Sha.rotl (b.getD (Int.toNat (IntKind.i64.wrap (a-(15:Int)))) 0) (-18:Int))) (Int.fdiv (b.getD (Int.toNat (IntKind.i64.wrap (a-(15:Int)))) 0) (2^3)))))+(b.getD (Int.toNat (IntKind.i64.wrap (a-(7:Int)))) 0)))+(af .xor .u32 (af .xor .u32 (Sha.rotl (b.getD (Int.toNat (IntKind.i64.wrap (a-(2:Int)))) 0) (-17:Int)) (Sha.rotl (b.getD (Int.toNat (IntKind.i64.wrap (a-(2:Int)))) 0) (-19:Int))) (Int.fdiv (b.getD (Int.toNat (IntKind.i64.wrap (a-(2:Int)))) 0) (2^10)))))))) none) none) none) none) none)
theorem La F Rj10 Rl1 Rj11:bC F 7475 cL (ae 1 (kq ai Rj10 sp0 (kq ai Rl1 sp0 (ae 0 (kq ai Rj11 sp6 Kf3))))) (pI F (Rj10∘bg) (Rl1∘aP) (Rj11∘aC)):=fun _=>by kernel_rfl
def xl(F:Nat)(a b)(c):=pH F (pI F a b c) a b c
theorem Lb F Rj10 Rl1 Rj11:bC F 3737 lH (ae 1 (kq ai Rj10 sp0 (kq ai Rl1 sp0 (ae 0 (kq ai Rj11 sp6 Kf3))))) (xl F (Rj10∘bg) (Rl1∘aP) (Rj11∘aC)):=sqC (fun k=>pH F k (Rj10∘bg) (Rl1∘aP) (Rj11∘aC)) (fun Rj9=>K9 F Rj9 Rj10 Rl1 Rj11) (La F Rj10 Rl1 Rj11)
def xm(F:Nat)(a b)(c):=tG F (xl F a b c) a b c
theorem Lc F Rj10 Rl1 Rj11:bC F 1868 lG (ae 1 (kq ai Rj10 sp0 (kq ai Rl1 sp0 (ae 0 (kq ai Rj11 sp6 Kf3))))) (xm F (Rj10∘bg) (Rl1∘aP) (Rj11∘aC)):=sqC (fun k=>tG F k (Rj10∘bg) (Rl1∘aP) (Rj11∘aC)) (fun Rj6=>Rq F Rj6 Rj10 Rl1 Rj11) (Lb F Rj10 Rl1 Rj11)
def pJ(F:Nat)(a b)(c):=xm F a b c
theorem Ld F Rj10 Rl1 Rj11:bC F 934 lG (kq ai Rj10 sp0 (kq ai Rl1 sp0 (ae 0 (kq ai Rj11 sp6 Kf3)))) (pJ F (Rj10∘bg) (Rl1∘aP) (Rj11∘aC)):=biC (Lc F Rj10 Rl1 Rj11)
def lI(F:Nat)(a:Ty1→Rz)(f:Li×Li→Rz):Ty1→Rz:=fun (b,c,d,e)=>(a (b,(IntKind.i64.wrap (c+(1:Int))),d,e))
theorem Le F Rl1 Rj11:bC F 935 bg (kq ai Rl1 sp0 (ae 0 (kq ai Rj11 sp6 Kf3))) (lI F (Rl1∘aP) (Rj11∘aC)):=fun _=>by kernel_rfl
def xn(F:Nat)(a)(b):=pJ F (lI F a b) a b
theorem Lf F Rl1 Rj11:bC F 467 lG (kq ai Rl1 sp0 (ae 0 (kq ai Rj11 sp6 Kf3))) (xn F (Rl1∘aP) (Rj11∘aC)):=sqC (fun k=>pJ F k (Rl1∘aP) (Rj11∘aC)) (fun Rj10=>Ld F Rj10 Rl1 Rj11) (Le F Rl1 Rj11)
def pK(F:Nat)(a)(b):=nI F (xn F a b) a b
theorem Lg F Rl1 Rj11:bC F 233 wT (kq ai Rl1 sp0 (ae 0 (kq ai Rj11 sp6 Kf3))) (pK F (Rl1∘aP) (Rj11∘aC)):=sqC (fun k=>nI F k (Rl1∘aP) (Rj11∘aC)) (fun Rj5=>Rp F Rj5 Rl1 Rj11) (Lf F Rl1 Rj11)
def lJ(F:Nat)(a)(b):=nH F (pK F a b) a b
theorem Lh F Rl1 Rj11:bC F 116 aP (kq ai Rl1 sp0 (ae 0 (kq ai Rj11 sp6 Kf3))) (lJ F (Rl1∘aP) (Rj11∘aC)):=sqC (fun k=>nH F k (Rl1∘aP) (Rj11∘aC)) (fun Rj4=>Ro F Rj4 Rl1 Rj11) (Lg F Rl1 Rj11)
def nL:Ty1→Li×Int×Li×Li:=fun (a,b,c,d)=>(a,b,c,d)
def xo(F:Nat)(a:Li×Li→Rz):Ty1→Rz:=fun v=>ay (fun k=>lJ F k a) F (nL v)
theorem Ll F Rj11:bC F 58 jI (ae 0 (kq ai Rj11 sp6 Kf3)) (xo F (Rj11∘aC)):=lpC nL (fun k=>lJ F k (Rj11∘aC)) (fun Rl1=>Lh F Rl1 Rj11)
def xp(F:Nat)(a):=xo F a
theorem Lm F Rj11:bC F 29 jI (kq ai Rj11 sp6 Kf3) (xp F (Rj11∘aC)):=biC (Ll F Rj11)
def pL(F:Nat)(a):=tD F (xp F a) a
theorem Lo F Rj11:bC F 14 pF (kq ai Rj11 sp6 Kf3) (pL F (Rj11∘aC)):=sqC (fun k=>tD F k (Rj11∘aC)) (fun Rj3=>Rn F Rj3 Rj11) (Lm F Rj11)
def xq(F:Nat):Li×Li→Rz:=fun (b,a)=>(some ((.agg 64 (.rI .u32 a)),[]))
theorem Lq F:bC F 15 aC Kf3 (xq F):=fun _=>by kernel_rfl
def xr(F:Nat):=pL F (xq F)
theorem Lr F:bC F 7 pF Kf3 (xr F):=sqC (pL F) (fun Rj11=>Lo F Rj11) (Lq F)
def xu(F:Nat):=tC F (xr F)
theorem Ls F:bC F 3 wS Kf3 (xu F):=sqC (tC F) (fun Rj2=>Rm F Rj2) (Lr F)
def xw(F:Nat):=tB F (xu F)
theorem Lu F:bC F 1 I5 Kf3 (xw F):=sqC (tB F) (fun Rj1=>Rl F Rj1) (Ls F)
def f110(F:Nat):Li→Rz:=xw F
def YH:aB:=fun X H=>match X,H with
 | [(.vs (.rI .u8 a0) 0 1)],[]=>some ((decide (a0.length=64)),(.agg 64 (.rI .u32 (Sha.sched a0 64))),[])
 | _,_=>none
theorem eQ(b:Li):∀ t,(Sha.sched b t).length=t
 | 0=>rfl
 | t+1=>by simp [Sha.sched,eQ b t]
theorem dG(b:Li)(t i:Nat)(z:Li)(h:i < t):(Sha.sched b t++z).getD i 0=(Sha.sched b t).getD i 0:=by
 simp [List.getD_eq_getElem?_getD,List.getElem?_append,eQ,h]
theorem kK(b:Li)(t:Nat)(v:Int)(h:t < 64)(hv:Sha.sched b (t+1)=Sha.sched b t++[v]):(Sha.sched b t++List.replicate (64-t) 0).set t v=Sha.sched b (t+1)++List.replicate (64-(t+1)) 0:=by
 rw [hv,show 64-t=(64-(t+1))+1 by omega,List.replicate_succ,List.set_append_right _ _ (by rw [eQ];exact Nat.le_refl _),eQ,Nat.sub_self]
 simp
theorem my(a b:Int)(ha:0≤a)(ha2:a < 16777216)(hb:0≤b)(hb2:b≤255):af .or .u32 (IntKind.u32.wrap (a*2^8)) (IntKind.u32.wrap b)=a*256+b:=by
 obtain⟨x,rfl⟩:=Int.eq_ofNat_of_zero_le ha
 obtain⟨y,rfl⟩:=Int.eq_ofNat_of_zero_le hb
 rw [jY (by omega) (by omega),jY (by omega) (by omega)]
 simp only [af,BitVec.toNat_or,BitVec.toNat_ofInt]
 have e1:((x:Int)*2^8%((2^IntKind.u32.bits:Nat):Int)).toNat=x <<< 8:=by
  rw [Nat.shiftLeft_eq];simp only [IntKind.bits];omega
 have e2:((y:Int)%((2^IntKind.u32.bits:Nat):Int)).toNat=y:=by simp only [IntKind.bits];omega
 rw [e1,e2,← Nat.shiftLeft_add_eq_or_of_lt (show y < 2^8 by omega),Nat.shiftLeft_eq,jY (by omega) (by omega)]
 omega
theorem a2L(a0:Li)(hp:((decide (a0.length=64)))=true)(h0:okV (.vs (.rI .u8 a0) 0 1)):∃ F,f110 F a0=some ((.agg 64 (.rI .u32 (Sha.sched a0 64))),[]):=by
 have hl:a0.length=64:=of_decide_eq_true hp
 have hb:∀ i,0≤a0.getD i 0∧a0.getD i 0≤255:=fun i=>by
  by_cases hi:i < a0.length
  ·rw [List.getD_eq_getElem?_getD,List.getElem?_eq_getElem hi]
   exact jX (h0.1 _ (List.getElem_mem hi))
  ·rw [List.getD_eq_getElem?_getD,List.getElem?_eq_none (by omega)];simp
 refine⟨65,?_⟩
 simp only [f110,xw,tB,xu,tC,xr,pL,tD,xp,xo,nL]
 refine aH (fun i=>(a0,(i:Int),List.replicate 64 0,Sha.sched a0 i++List.replicate (64-i) 0)) 64 (by rfl) (fun i hi k=>?_) (fun k=>?_) 65 (by omega)
 ·simp only [lJ,nH,pK,nI,xn,pJ,lI,xm,tG,xl,pH,pI,tH,xk]
  rw [aa (show(i:Int) < 64 by omega)]
  by_cases h16:i < 16
  ·rw [aa (show(i:Int) < 16 by omega)]
   simp only [wX,wW,tI,wV,wU,nK]
   rw [ah (x:=4*(i:Int)) (by omega) (by omega),ah (x:=4*(i:Int)+4) (by omega) (by omega),ap,ap,aa (by omega)]
   have hL:List.take ((4*(i:Int)+4).toNat-(4*(i:Int)).toNat) (List.drop (4*(i:Int)).toNat a0)=[a0.getD (4*i) 0,a0.getD (4*i+1) 0,a0.getD (4*i+2) 0,a0.getD (4*i+3) 0]:=by
    rw [show(4*(i:Int)+4).toNat-(4*(i:Int)).toNat=4 by omega,show(4*(i:Int)).toNat=4*i by omega]
    apply List.ext_getElem
    ·simp;omega
    ·intro j h1 h2
     simp only [List.length_cons,List.length_nil] at h2
     rw [List.getElem_take,List.getElem_drop]
     have hj:j=0∨j=1∨j=2∨j=3:=by omega
     rcases hj with rfl | rfl | rfl | rfl <;> simp [List.getD_eq_getElem?_getD,List.getElem?_eq_getElem (show 4*i < a0.length by omega),List.getElem?_eq_getElem (show 4*i+1 < a0.length by omega),List.getElem?_eq_getElem (show 4*i+2 < a0.length by omega),List.getElem?_eq_getElem (show 4*i+3 < a0.length by omega)]
   rw [hL]
   have b0:=hb (4*i)
   have b1:=hb (4*i+1)
   have b2:=hb (4*i+2)
   have b3:=hb (4*i+3)
   have hnext:Sha.sched a0 (i+1)=Sha.sched a0 i++[Sha.word (a0.getD (4*i) 0) (a0.getD (4*i+1) 0) (a0.getD (4*i+2) 0) (a0.getD (4*i+3) 0)]:=by simp [Sha.sched,h16]
   generalize a0.getD (4*i) 0=c0 at *
   generalize a0.getD (4*i+1) 0=c1 at *
   generalize a0.getD (4*i+2) 0=c2 at *
   generalize a0.getD (4*i+3) 0=c3 at *
   have hset:∀ v:Int,((Sha.sched a0 i++List.replicate (64-i) 0).set i v).getD i 0=v:=fun v=>by
    rw [List.getD_eq_getElem?_getD,List.getElem?_set_self (by simp [eQ];omega)];rfl
   have hset0:Sha.sched a0 i++List.replicate (64-i) 0=(Sha.sched a0 i++List.replicate (64-i) 0).set i 0:=by
    rw [show 64-i=(64-(i+1))+1 by omega,List.replicate_succ,List.set_append_right _ _ (by rw [eQ];exact Nat.le_refl _),eQ,Nat.sub_self];rfl
   refine aH (fun j=>(a0,(i:Int),(i:Int),[c0,c1,c2,c3],4,(j:Int),List.replicate 64 0,(Sha.sched a0 i++List.replicate (64-i) 0).set i (match j with | 0=>0 | 1=>c0 | 2=>c0*256+c1 | 3=>(c0*256+c1)*256+c2 | _=>((c0*256+c1)*256+c2)*256+c3))) 4 (by simp only [];rw [← hset0];rfl) (fun j hj k'=>?_) (fun k'=>?_) 65 (by omega)
   ·simp only [nJ]
    rw [ah (x:=(j:Int)+1) (by omega) (by omega),ap,ap,aa (show(j:Int) < 4 by omega),aa (by simp only [List.length_cons,List.length_nil];omega),aa (by omega),aa (by omega)]
    simp only [Int.toNat_natCast,hset,List.set_set]
    have hj':j=0∨j=1∨j=2∨j=3:=by omega
    rcases hj' with rfl | rfl | rfl | rfl
    ·simp only [List.getD_cons_zero];rw [my 0 c0 (by omega) (by omega) b0.1 b0.2];simp
    ·simp only [List.getD_cons_succ,List.getD_cons_zero];rw [my c0 c1 (by omega) (by omega) b1.1 b1.2];rfl
    ·simp only [List.getD_cons_succ,List.getD_cons_zero];rw [my _ c2 (by omega) (by omega) b2.1 b2.2];rfl
    ·simp only [List.getD_cons_succ,List.getD_cons_zero];rw [my _ c3 (by omega) (by omega) b3.1 b3.2];rfl
   ·simp only [nJ,lI]
    rw [ad (by omega),ah (x:=(i:Int)+1) (by omega) (by omega),kK a0 i _ (by omega) (by rw [hnext];simp only [Sha.word];rw [show((c0*256+c1)*256+c2)*256+c3=c0*16777216+c1*65536+c2*256+c3 by omega])]
    rfl
  ·rw [ad (show ¬ (i:Int) < 16 by omega)]
   simp only [wY,pI]
   rw [ah (x:=(i:Int)-15) (by omega) (by omega),ah (x:=(i:Int)-2) (by omega) (by omega),ah (x:=(i:Int)-16) (by omega) (by omega),ah (x:=(i:Int)-7) (by omega) (by omega)]
   simp only [ap]
   rw [aa (by omega),aa (by omega),aa (by omega),aa (by omega),aa (by omega)]
   simp only [lI,show((i:Int)-15).toNat=i-15 by omega,show((i:Int)-2).toNat=i-2 by omega,show((i:Int)-16).toNat=i-16 by omega,show((i:Int)-7).toNat=i-7 by omega,Int.toNat_natCast]
   rw [ah (x:=(i:Int)+1) (by omega) (by omega),dG a0 i (i-15) _ (by omega),dG a0 i (i-2) _ (by omega),dG a0 i (i-16) _ (by omega),dG a0 i (i-7) _ (by omega)]
   rw [show(-7:Int) = -((7:Nat):Int) from rfl,show(-18:Int) = -((18:Nat):Int) from rfl,show(-17:Int) = -((17:Nat):Int) from rfl,show(-19:Int) = -((19:Nat):Int) from rfl]
   rw [Sha.rotl_neg _ 7 (by omega) (by omega),Sha.rotl_neg _ 18 (by omega) (by omega),Sha.rotl_neg _ 17 (by omega) (by omega),Sha.rotl_neg _ 19 (by omega) (by omega)]
   rw [kK a0 i _ (by omega) (by simp only [Sha.sched,if_neg h16];rfl)]
   rfl
 ·simp only [lJ,nH,pK,nI,xq]
  rw [ad (by omega),Nat.sub_self,List.replicate_zero,List.append_nil]
theorem a2M:Ck 110 YH:=ck a1V Tryz.func110 (by
 intro X H r H' h hX hH
 unfold YH at h;split at h <;> try contradiction
 ·obtain⟨hp,rfl,rfl⟩:=aJ h
  obtain⟨F,hF⟩:=a2L _ hp (hX _ hm0)
  exact⟨_,abC (Lu F) hF⟩)
end Go.Am
