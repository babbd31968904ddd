/- Part of a proof. -/
import Derived.Test.YtffddoahjpemaaaGreatDoorAmWire3
import Derived.Test.YtffddoahjpemaaaGreatDoorProg
set_option linter.unusedVariables false
set_option linter.unusedSimpArgs false
namespace Go.Am
open Go Go.Proofs
abbrev sp0:List (Nat×Md):=[(0,.plain),(2,.plain),(3,.plain),(11,.plain)]
abbrev sp1:List (Nat×Md):=[(0,.plain),(2,.plain),(3,.plain),(4,.plain),(11,.plain),(22,.plain),(23,.plain),(24,.plain)]
abbrev sp2:List (Nat×Md):=[(0,.plain),(2,.plain),(3,.plain)]
abbrev sp3:List (Nat×Md):=[(0,.plain),(2,.plain),(3,.plain),(11,.plain),(12,.plain)]
abbrev sp4:List (Nat×Md):=[(0,.plain),(2,.plain),(3,.plain),(4,.plain),(11,.plain)]
abbrev sp5:List (Nat×Md):=[(0,.plain),(2,.plain),(3,.plain),(4,.plain),(11,.plain),(15,.plain)]
abbrev sp6:List (Nat×Md):=[(2,.plain),(3,.plain)]
abbrev Ty0:=Li×Li×Li
abbrev Ty1:=Li×Int×Li×Li
abbrev Ty2:=Li×Int×Bool×Li×Li
abbrev Ty3:=Li×Int×Int×Li×Li
abbrev Ty4:=Li×Int×Int×Bool×Li×Li
abbrev Ty5:=Li×Int×Int×Li×Int×Int×Li×Li
def fP:Tys:=[⟨.other,1,0⟩,⟨.func,1,8⟩,⟨.int .i64,1,8⟩,⟨.int .i64,1,8⟩,⟨.bool,1,1⟩,⟨.int .u8,1,1⟩,⟨.int .u8,1,1⟩,⟨.struct [(2,0),(3,1),(4,2),(6,3)],4,24⟩,⟨.struct [(2,0),(3,1),(4,2),(6,3)],4,24⟩,⟨.str,1,16⟩,⟨.str,1,16⟩,⟨.str,1,16⟩,⟨.int .u64,1,8⟩,⟨.other,0,0⟩,⟨.other,0,0⟩,⟨.ptr 191,1,8⟩,⟨.ptr 194,1,8⟩,⟨.ptr 201,1,8⟩,⟨.other,0,0⟩,⟨.other,0,0⟩,⟨.other,1,16⟩,⟨.int .i32,1,4⟩,⟨.slice 25,1,24⟩,⟨.slice 3,1,24⟩,⟨.struct [(3,0),(3,1),(3,2),(3,3),(5,4),(23,5)],6,64⟩,⟨.struct [(3,0),(3,1),(3,2),(3,3),(5,4),(23,5)],6,64⟩,⟨.func,1,8⟩,⟨.ptr 92,1,8⟩,⟨.slice 9,1,24⟩,⟨.other,1,0⟩,⟨.func,1,8⟩,⟨.ptr 75,1,8⟩,⟨.int .i64,1,8⟩,⟨.other,1,0⟩,⟨.func,1,8⟩,⟨.func,1,8⟩,⟨.func,1,8⟩,⟨.func,1,8⟩,⟨.func,1,8⟩,⟨.other,1,0⟩,⟨.func,1,8⟩,⟨.func,1,8⟩,⟨.func,1,8⟩,⟨.func,1,8⟩,⟨.func,1,8⟩,⟨.other,1,0⟩,⟨.func,1,8⟩,⟨.ptr 102,1,8⟩,⟨.other,1,0⟩,⟨.func,1,8⟩,⟨.ptr 57,1,8⟩,⟨.other,1,0⟩,⟨.func,1,8⟩,⟨.func,1,8⟩,⟨.func,1,8⟩,⟨.func,1,8⟩,⟨.struct [(47,0),(23,1),(28,2),(23,3),(3,4),(3,5),(4,6)],7,104⟩,⟨.struct [(47,0),(23,1),(28,2),(23,3),(3,4),(3,5),(4,6)],7,104⟩,⟨.func,1,8⟩,⟨.func,1,8⟩,⟨.func,1,8⟩,⟨.slice 64,1,24⟩,⟨.func,1,8⟩,⟨.map 3 4,1,8⟩,⟨.int .u16,1,2⟩,⟨.int .u64,1,8⟩,⟨.func,1,8⟩,⟨.func,1,8⟩,⟨.func,1,8⟩,⟨.func,1,8⟩,⟨.other,1,0⟩,⟨.func,1,8⟩,⟨.other,1,0⟩,⟨.func,1,8⟩,⟨.struct [(27,0),(23,1),(23,2),(28,3),(3,4),(3,5),(4,6)],7,104⟩,⟨.struct [(27,0),(23,1),(23,2),(28,3),(3,4),(3,5),(4,6)],7,104⟩,⟨.slice 80,1,24⟩,⟨.other,1,0⟩,⟨.func,1,8⟩,⟨.struct [(3,0),(3,1),(3,2),(9,3),(4,4)],5,48⟩,⟨.struct [(3,0),(3,1),(3,2),(9,3),(4,4)],5,48⟩,⟨.func,1,8⟩,⟨.arr 64 5,64,64⟩,⟨.arr 64 5,64,64⟩,⟨.slice 5,1,24⟩,⟨.other,1,0⟩,⟨.func,1,8⟩,⟨.func,1,8⟩,⟨.func,1,8⟩,⟨.slice 99,1,24⟩,⟨.map 3 99,1,8⟩,⟨.struct [(89,0),(90,1),(63,2),(4,3),(3,4)],5,56⟩,⟨.struct [(89,0),(90,1),(63,2),(4,3),(3,4)],5,56⟩,⟨.other,1,0⟩,⟨.func,1,8⟩,⟨.func,1,8⟩,⟨.struct [(3,0),(3,1),(3,2),(9,3),(4,4)],5,48⟩,⟨.struct [(3,0),(3,1),(3,2),(9,3),(4,4)],5,48⟩,⟨.func,1,8⟩,⟨.arr 64 5,64,64⟩,⟨.slice 104,1,24⟩,⟨.struct [(100,0),(4,1),(3,2)],3,40⟩,⟨.struct [(100,0),(4,1),(3,2)],3,40⟩,⟨.struct [(9,0),(9,1),(4,2),(4,3)],4,40⟩,⟨.struct [(9,0),(9,1),(4,2),(4,3)],4,40⟩,⟨.slice 97,1,24⟩,⟨.func,1,8⟩,⟨.func,1,8⟩,⟨.func,1,8⟩,⟨.func,1,8⟩,⟨.other,1,0⟩,⟨.func,1,8⟩,⟨.func,1,8⟩,⟨.ptr 115,1,8⟩,⟨.struct [(113,0),(84,1)],2,32⟩,⟨.struct [(113,0),(84,1)],2,32⟩,⟨.other,1,16⟩,⟨.other,1,16⟩,⟨.other,1,0⟩,⟨.func,1,8⟩,⟨.func,1,8⟩,⟨.func,1,8⟩,⟨.func,1,8⟩,⟨.func,1,8⟩,⟨.other,1,0⟩,⟨.arr 32 5,32,32⟩,⟨.func,1,8⟩,⟨.func,1,8⟩,⟨.func,1,8⟩,⟨.func,1,8⟩,⟨.func,1,8⟩,⟨.func,1,8⟩,⟨.func,1,8⟩,⟨.func,1,8⟩,⟨.func,1,8⟩,⟨.func,1,8⟩,⟨.func,1,8⟩,⟨.int .u32,1,4⟩,⟨.other,1,0⟩,⟨.func,1,8⟩,⟨.int .u64,1,8⟩,⟨.other,1,0⟩,⟨.func,1,8⟩,⟨.ptr 5,1,8⟩,⟨.func,1,8⟩,⟨.func,1,8⟩,⟨.arr 8 137,8,32⟩,⟨.struct [(146,0),(82,8),(140,72)],73,104⟩,⟨.struct [(146,0),(82,8),(140,72)],73,104⟩,⟨.func,1,8⟩,⟨.func,1,8⟩,⟨.func,1,8⟩,⟨.func,1,8⟩,⟨.func,1,8⟩,⟨.func,1,8⟩,⟨.other,1,8⟩,⟨.func,1,8⟩,⟨.func,1,8⟩,⟨.func,1,8⟩,⟨.func,1,8⟩,⟨.func,1,8⟩,⟨.func,1,8⟩,⟨.func,1,8⟩,⟨.func,1,8⟩,⟨.arr 64 137,64,256⟩,⟨.func,1,8⟩,⟨.func,1,8⟩,⟨.arr 4 137,4,16⟩,⟨.slice 137,1,24⟩,⟨.func,1,8⟩,⟨.func,1,8⟩,⟨.int .i64,1,8⟩,⟨.other,1,0⟩,⟨.func,1,8⟩,⟨.func,1,8⟩,⟨.func,1,8⟩,⟨.func,1,8⟩,⟨.other,1,0⟩,⟨.func,1,8⟩,⟨.func,1,8⟩,⟨.func,1,8⟩,⟨.int .u64,1,8⟩,⟨.func,1,8⟩,⟨.func,1,8⟩,⟨.func,1,8⟩,⟨.ptr 3,1,8⟩,⟨.func,1,8⟩,⟨.ptr 181,1,8⟩,⟨.other,1,0⟩,⟨.func,1,8⟩,⟨.other,0,0⟩,⟨.other,0,0⟩,⟨.arr 0 16,0,0⟩,⟨.other,0,0⟩,⟨.other,0,0⟩,⟨.int .u8,1,1⟩,⟨.int .u8,1,1⟩,⟨.func,1,8⟩,⟨.int .i32,1,4⟩,⟨.int .i32,1,4⟩,⟨.other,0,0⟩,⟨.other,0,0⟩]
def dM:Nat→Option AV:=fun g=>match g with | 2=>some (.rI .u32 Sha.K) | _=>none
def DW:Nat→Option AV:=fun g=>match g with | 0=>some (.rI .u32 Sha.K) | 2=>some (.rI .u32 Sha.K) | _=>none
theorem uP:∀ g r,dM g=some r→DW g=some r:=by
 intro g r h
 unfold dM at h
 split at h
 ·exact h
 ·cases h
theorem mixed:Tryz.prog.follows .mixedOrders=true:=by kernel_rfl
theorem tys:TysOk Tryz.prog fP:=a7b (by kernel_rfl)
abbrev Ck:=CallOk Tryz.prog dM
theorem ck {l:List hI}{f:Nat}{fn:Func}{r:eP}(e:EOk Tryz.prog (dL fP dM l))(hf:Tryz.prog.funcs[f]?=some fn)(h:∀ X H x H',r X H=some (true,x,H')→(∀ x∈X,okV x)→(∀ b∈H,okB b)→∃ A,Et (dL fP dM l) A fn X H=some (x,H'))(hn:(fn.name=="runtime.NumGoroutine")=false:=by kernel_rfl)(hb:fn.body=some (sub (zZ fn) []):=by kernel_rfl):Ck f r:=Ao (V:=dL fP dM l) mixed tys e hf hn hb h
def a9M:List hI:=[]
def aQY:Env:=dL fP dM a9M
noncomputable abbrev Kf1:=ij aQY none (Tryz.f123).results.toList
theorem a9N:EOk Tryz.prog aQY:=bL (by exact trivial)
def a9O(F:Nat):Cuts:={ F:=F,at_:=fun _=>none,join:=fun _=>none }
abbrev a9P(F n:Nat){σ:Type}(e:σ→St)(K:Ex→St→Rz)(N:σ→Rz):=Qe aQY (a9O F) (bp Tryz.f123 n) e K N
def a7h:Int×Int→St:=fun (a,b)=>hS [(0,.int .u32 a),iS 1 b] [] 17 0
def auk(F:Nat):Int×Int→Rz:=fun (b,a)=>(cond (decide (0≤(bK .and .u64 (IntKind.u64.wrap a) (31:Int)))) (cond (decide (0≤(IntKind.u64.wrap ((32:Int)-(bK .and .u64 (IntKind.u64.wrap a) (31:Int)))))) (some ((.int .u32 (bK .or .u32 (IntKind.u32.wrap (b*2^(min (Int.toNat (bK .and .u64 (IntKind.u64.wrap a) (31:Int))) 32))) (Int.fdiv b (2^(min (Int.toNat (IntKind.u64.wrap ((32:Int)-(bK .and .u64 (IntKind.u64.wrap a) (31:Int))))) 32))))),[])) none) none)
theorem aHS F:a9P F 1 a7h Kf1 (auk F):=fun _=>by kernel_rfl
def f123(F:Nat):Int×Int→Rz:=auk F
def aB0:eP:=fun X H=>match X,H with
 | [(.int .u32 a0),.int .i64 a1],[]=>some (true,(.int .u32 (Sha.rotl a0 a1)),[])
 | _,_=>none
theorem akn(x:Int):0≤IntKind.u64.wrap x:=by rw [DU];omega
theorem aul(x y:Int):0≤bK .and .u64 x y:=akn _
theorem baD(a0 a1:Int)(h0:okV (.int .u32 a0))(h1:okV (.int .i64 a1)):∃ F,f123 F (a0,a1)=some ((.int .u32 (Sha.rotl a0 a1)),[]):=by
 refine⟨0,?_⟩
 simp only [f123,auk]
 rw [aK (aul _ _),aK (akn _)]
 rfl
theorem a8a:Ck 123 aB0:=ck a9N Tryz.func123 (by
 intro X H r H' h hX hH
 unfold aB0 at h;split at h <;> try contradiction
 ·obtain⟨hp,rfl,rfl⟩:=ik h
  obtain⟨F,hF⟩:=baD _ _ (hX _ hm0) (hX _ hm1)
  exact⟨_,abC (aHS F) hF⟩)
def a9Q:List hI:=[(123,[none,none],aB0)]
def aQZ:Env:=dL fP dM a9Q
noncomputable abbrev Kf2:=ij aQZ none (Tryz.f111).results.toList
theorem a9R:EOk Tryz.prog aQZ:=bL (by exact⟨a8a,trivial⟩)
def a9S(F:Nat):Cuts:={ F:=F,at_:=fun _=>none,join:=fun _=>none }
abbrev a9T(F n:Nat){σ:Type}(e:σ→St)(K:Ex→St→Rz)(N:σ→Rz):=Qe aQZ (a9S F) (bp Tryz.f111 n) e K N
def a7i:Int×Int×Int×Int→St:=fun (a,b,c,d)=>hS [(0,.int .u32 a),iS 1 b,iS 2 c,iS 3 d] [] 23 0
def aHT(F:Nat):Int×Int×Int×Int→Rz:=fun (a,b,c,d)=>(some ((.int .u32 (bK .xor .u32 (bK .xor .u32 (Sha.rotl a (IntKind.i64.wrap (0-b))) (Sha.rotl a (IntKind.i64.wrap (0-c)))) (Sha.rotl a (IntKind.i64.wrap (0-d))))),[]))
theorem aHU F:a9T F 1 a7i Kf2 (aHT F):=fun _=>by kernel_rfl
def f111(F:Nat):Int×Int×Int×Int→Rz:=aHT F
def aQ0:eP:=fun X H=>match X,H with
 | [(.int .u32 a0),.int .i64 a1,.int .i64 a2,.int .i64 a3],[]=>some (true,(.int .u32 (Sha.mix a0 a1 a2 a3)),[])
 | _,_=>none
theorem baE(a0 a1:Int)(a2 a3:Int)(h0:okV (.int .u32 a0))(h1:okV (.int .i64 a1))(h2:okV (.int .i64 a2))(h3:okV (.int .i64 a3)):∃ F,f111 F (a0,a1,a2,a3)=some ((.int .u32 (Sha.mix a0 a1 a2 a3)),[]):=
 ⟨0,rfl⟩
theorem baF:Ck 111 aQ0:=ck a9R Tryz.func111 (by
 intro X H r H' h hX hH
 unfold aQ0 at h;split at h <;> try contradiction
 ·obtain⟨hp,rfl,rfl⟩:=ik h
  obtain⟨F,hF⟩:=baE _ _ _ _ (hX _ hm0) (hX _ hm1) (hX _ hm2) (hX _ hm3)
  exact⟨_,abC (aHU F) hF⟩)
def a9U:List hI:=[(123,[none,none],aB0)]
def eA:Env:=dL fP dM a9U
noncomputable abbrev Kf3:=ij eA none (Tryz.f110).results.toList
theorem a9V:EOk Tryz.prog eA:=bL (by exact⟨a8a,trivial⟩)
def aYm(F:Nat):Cuts:={ F:=F,at_:=fun n=>match n with | 3041=>some sp0 | 7012=>some sp1 | _=>none,join:=fun n=>match n with | 1051=>some [(0,.plain),(2,.plain)] | 2049=>some sp2 | 3043=>some sp0 | 4035=>some sp0 | 4039=>some sp3 | 5030=>some sp4 | 6020=>some sp5 | 7014=>some sp1 | 11007=>some sp4 | 15001=>some sp0 | 16003=>some sp6 | _=>none }
abbrev uV(F n:Nat){σ:Type}(e:σ→St)(K:Ex→St→Rz)(N:σ→Rz):=Qe eA (aYm F) (bp Tryz.f110 n) e K N
noncomputable abbrev Wn(F:Nat){α:Type}:=@ii α eA (aYm F)
abbrev z11 a:=(.vs (.rI .u8 a) 0 1:AV)
def aA2:Li→St:=fun a=>hS [(0,(z11 a))] [] 79 0
abbrev z6 a:=(.cells 64 (.rI .u32 a) true:Blk)
def anu:Li×Li→St:=fun (a,b)=>hS [(0,(z11 a)),pS 2 0 64] [z6 b] 79 0
def ahM:Ty0→St:=fun (a,b,c)=>hS [(0,(z11 a)),pS 2 0 64,pS 3 1 64] [z6 b,z6 c] 79 0
def V4:Ty1→St:=fun (a,b,c,d)=>hS [(0,(z11 a)),pS 2 0 64,pS 3 1 64,iS 11 b] [z6 c,z6 d] 79 0
def mf:Ty1→St:=V4
def anv:Ty2→St:=fun (a,b,c,d,e)=>hS [(0,(z11 a)),pS 2 0 64,pS 3 1 64,iS 11 b,(12,.bool c)] [z6 d,z6 e] 79 0
def aaA:Ty1→St:=V4
def aaB:Ty3→St:=fun (a,b,c,d,e)=>hS [(0,(z11 a)),pS 2 0 64,pS 3 1 64,iS 4 b,iS 11 c] [z6 d,z6 e] 79 0
def Qn:Ty4→St:=fun (a,b,c,d,e,f)=>hS [(0,(z11 a)),pS 2 0 64,pS 3 1 64,iS 4 b,iS 11 c,(15,.bool d)] [z6 e,z6 f] 79 0
def ahN:Ty5→St:=fun (a,b,c,d,e,f,g,h)=>hS [(0,(z11 a)),pS 2 0 64,pS 3 1 64,iS 4 b,iS 11 c,(22,(z11 d)),iS 23 e,iS 24 f] [z6 g,z6 h] 79 0
def aA3:Ty5→St:=ahN
def zU:Ty3→St:=aaB
def ra:Ty1→St:=V4
def jV:Li×Li→St:=fun (a,b)=>hS [pS 2 0 64,pS 3 1 64] [z6 a,z6 b] 79 0
def ako(F:Nat)(a:Li×Li→Rz):Li→Rz:=fun b=>(a (b,(List.replicate 64 0)))
theorem aHV F Rj1:uV F 2 aA2 (kq eA Rj1 [(0,.plain),(2,.plain)] Kf3) (ako F (Rj1∘anu)):=fun _=>by kernel_rfl
def akp(F:Nat)(a:Ty0→Rz):Li×Li→Rz:=fun (b,c)=>(a (b,c,(List.replicate 64 0)))
theorem aHW F Rj2:uV F 6 anu (kq eA Rj2 sp2 Kf3) (akp F (Rj2∘ahM)):=fun _=>by kernel_rfl
def akq(F:Nat)(a:Ty1→Rz)(e:Li×Li→Rz):Ty0→Rz:=fun (b,c,d)=>(a (b,(0:Int),c,d))
theorem aHX F Rj3 Rj11:uV F 28 ahM (kq eA Rj3 sp0 (kq eA Rj11 sp6 Kf3)) (akq F (Rj3∘V4) (Rj11∘jV)):=fun _=>by kernel_rfl
def agD(F:Nat)(b:Ty2→Rz)(f:Ty1→Rz)(g:Li×Li→Rz):Ty1→Rz:=fun (c,a,d,e)=>(b (c,a,(decide (a < (64:Int))),d,e))
theorem aHY F Rj4 Rl1 Rj11:uV F 232 mf (kq eA Rj4 sp3 (kq eA Rl1 sp0 (aV 0 (kq eA Rj11 sp6 Kf3)))) (agD F (Rj4∘anv) (Rl1∘mf) (Rj11∘jV)):=fun _=>by kernel_rfl
def agE(F:Nat)(c h:Ty1→Rz)(d:Li×Li→Rz):Ty2→Rz:=fun (e,f,g,a,b)=>(cond g (c (e,f,a,b)) (d (a,b)))
theorem aHZ F Rj5 Rl1 Rj11:uV F 466 anv (kq eA Rj5 sp0 (kq eA Rl1 sp0 (aV 0 (kq eA Rj11 sp6 Kf3)))) (agE F (Rj5∘aaA) (Rl1∘mf) (Rj11∘jV)):=fun _=>by kernel_rfl
def akr(F:Nat)(b:Ty3→Rz)(f g:Ty1→Rz)(h:Li×Li→Rz):Ty1→Rz:=fun (c,a,d,e)=>(b (c,a,a,d,e))
theorem aH0 F Rj6 Rj10 Rl1 Rj11:uV F 3736 aaA (kq eA Rj6 sp4 (aV 1 (kq eA Rj10 sp0 (kq eA Rl1 sp0 (aV 0 (kq eA Rj11 sp6 Kf3)))))) (akr F (Rj6∘aaB) (Rj10∘ra) (Rl1∘mf) (Rj11∘jV)):=fun _=>by kernel_rfl
def akw(F:Nat)(b:Ty4→Rz)(g:Ty3→Rz)(h i:Ty1→Rz)(j:Li×Li→Rz):Ty3→Rz:=fun (c,a,d,e,f)=>(b (c,a,d,(decide (a < (16:Int))),e,f))
theorem aH1 F Rj7 Rj9 Rj10 Rl1 Rj11:uV F 14948 aaB (kq eA Rj7 sp5 (kq eA Rj9 sp4 (aV 1 (kq eA Rj10 sp0 (kq eA Rl1 sp0 (aV 0 (kq eA Rj11 sp6 Kf3))))))) (akw F (Rj7∘Qn) (Rj9∘zU) (Rj10∘ra) (Rl1∘mf) (Rj11∘jV)):=fun _=>by kernel_rfl
def akx(F:Nat)(c:Ty5→Rz)(g:Ty3→Rz)(h i:Ty1→Rz)(j:Li×Li→Rz):Ty4→Rz:=fun (b,a,d,k,e,f)=>(cond (((decide (0≤(IntKind.i64.wrap ((4:Int)*a))))&&(decide ((IntKind.i64.wrap ((4:Int)*a))≤(IntKind.i64.wrap ((IntKind.i64.wrap ((4:Int)*a))+(4:Int))))))&&(decide ((IntKind.i64.wrap ((IntKind.i64.wrap ((4:Int)*a))+(4:Int)))≤(↑b.length:Int)))) (c (b,a,d,((b.drop (Int.toNat (IntKind.i64.wrap ((4:Int)*a)))).take ((Int.toNat (IntKind.i64.wrap ((IntKind.i64.wrap ((4:Int)*a))+(4:Int))))-(Int.toNat (IntKind.i64.wrap ((4:Int)*a))))),(↑((b.drop (Int.toNat (IntKind.i64.wrap ((4:Int)*a)))).take ((Int.toNat (IntKind.i64.wrap ((IntKind.i64.wrap ((4:Int)*a))+(4:Int))))-(Int.toNat (IntKind.i64.wrap ((4:Int)*a))))).length:Int),(0:Int),e,f)) none)
theorem aH2 F Rj8 Rj9 Rj10 Rl1 Rj11:uV F 119592 Qn (kq eA Rj8 sp1 (w9 (fun s=>Wn F (bp Tryz.f110 59797) s (kq eA Rj9 sp4 (aV 1 (kq eA Rj10 sp0 (kq eA Rl1 sp0 (aV 0 (kq eA Rj11 sp6 Kf3))))))) (kq eA Rj9 sp4 (aV 1 (kq eA Rj10 sp0 (kq eA Rl1 sp0 (aV 0 (kq eA Rj11 sp6 Kf3)))))))) (akx F (Rj8∘ahN) (Rj9∘zU) (Rj10∘ra) (Rl1∘mf) (Rj11∘jV)):=fun _=>by kernel_rfl
def agF(F:Nat)(i:Ty5→Rz)(k:Ty3→Rz)(j l:Ty1→Rz)(m:Li×Li→Rz):Ty5→Rz:=fun (e,a,f,c,g,b,h,d)=>(cond (decide (b < g)) (cond ((decide (0≤b))&&(decide (b < (↑c.length:Int)))) (cond ((decide (0≤a))&&(decide (a < (64:Int)))) (cond ((decide (0≤a))&&(decide (a < (64:Int)))) (i (e,a,f,c,g,(IntKind.i64.wrap (b+(1:Int))),h,(d.set (Int.toNat a) (bK .or .u32 (IntKind.u32.wrap ((d.getD (Int.toNat a) 0)*2^8)) (IntKind.u32.wrap (c.getD (Int.toNat b) 0)))))) none) none) none) (j (e,f,h,d)))
theorem aH3 F Rl2 Rj9 Rj10 Rl1 Rj11:uV F 478372 aA3 (kq eA Rl2 sp1 (aV 2 (w9 (fun s=>Wn F (bp Tryz.f110 59797) s (kq eA Rj9 sp4 (aV 1 (kq eA Rj10 sp0 (kq eA Rl1 sp0 (aV 0 (kq eA Rj11 sp6 Kf3))))))) (kq eA Rj9 sp4 (aV 1 (kq eA Rj10 sp0 (kq eA Rl1 sp0 (aV 0 (kq eA Rj11 sp6 Kf3))))))))) (agF F (Rl2∘aA3) (Rj9∘zU) (Rj10∘ra) (Rl1∘mf) (Rj11∘jV)):=fun _=>by kernel_rfl
def agG:Ty5→Li×Int×Int×Li×Int×Int×Li×Li:=fun (a,b,c,d,e,f,g,h)=>(a,b,c,d,e,f,g,h)
def anw(F:Nat)(a:Ty3→Rz)(b c:Ty1→Rz)(d:Li×Li→Rz):Ty5→Rz:=fun v=>eT (fun k=>agF F k a b c d) F (agG v)
theorem aB1 F Rj9 Rj10 Rl1 Rj11:uV F 239186 ahN (aV 2 (w9 (fun s=>Wn F (bp Tryz.f110 59797) s (kq eA Rj9 sp4 (aV 1 (kq eA Rj10 sp0 (kq eA Rl1 sp0 (aV 0 (kq eA Rj11 sp6 Kf3))))))) (kq eA Rj9 sp4 (aV 1 (kq eA Rj10 sp0 (kq eA Rl1 sp0 (aV 0 (kq eA Rj11 sp6 Kf3)))))))) (anw F (Rj9∘zU) (Rj10∘ra) (Rl1∘mf) (Rj11∘jV)):=lpC agG (fun k=>agF F k (Rj9∘zU) (Rj10∘ra) (Rl1∘mf) (Rj11∘jV)) (fun Rl2=>aH3 F Rl2 Rj9 Rj10 Rl1 Rj11)
def anx(F:Nat)(a)(b c)(d):=anw F a b c d
theorem aB2 F Rj9 Rj10 Rl1 Rj11:uV F 119593 ahN (w9 (fun s=>Wn F (bp Tryz.f110 59797) s (kq eA Rj9 sp4 (aV 1 (kq eA Rj10 sp0 (kq eA Rl1 sp0 (aV 0 (kq eA Rj11 sp6 Kf3))))))) (kq eA Rj9 sp4 (aV 1 (kq eA Rj10 sp0 (kq eA Rl1 sp0 (aV 0 (kq eA Rj11 sp6 Kf3))))))) (anx F (Rj9∘zU) (Rj10∘ra) (Rl1∘mf) (Rj11∘jV)):=biC (aB1 F Rj9 Rj10 Rl1 Rj11)
def anz(F:Nat)(a)(b c)(d):=akx F (anx F a b c d) a b c d
theorem aB3 F Rj9 Rj10 Rl1 Rj11:uV F 59796 Qn (w9 (fun s=>Wn F (bp Tryz.f110 59797) s (kq eA Rj9 sp4 (aV 1 (kq eA Rj10 sp0 (kq eA Rl1 sp0 (aV 0 (kq eA Rj11 sp6 Kf3))))))) (kq eA Rj9 sp4 (aV 1 (kq eA Rj10 sp0 (kq eA Rl1 sp0 (aV 0 (kq eA Rj11 sp6 Kf3))))))) (anz F (Rj9∘zU) (Rj10∘ra) (Rl1∘mf) (Rj11∘jV)):=sqC (fun k=>akx F k (Rj9∘zU) (Rj10∘ra) (Rl1∘mf) (Rj11∘jV)) (fun Rj8=>aH2 F Rj8 Rj9 Rj10 Rl1 Rj11) (aB2 F Rj9 Rj10 Rl1 Rj11)
def anA(F:Nat)(a)(b c)(d):=anz F a b c d
theorem aB4(F:Nat)(Rj9 Rj10:St→Rz)(Rl1 Rj11:St→Rz):∀ v,Wn F (bp Tryz.f110 29898) (Qn v) (w9 (kc eA Rj9 sp4) (aV 1 (w9 (kc eA Rj10 sp0) (w9 (kc eA Rl1 sp0) (aV 0 (w9 (kc eA Rj11 sp6) Kf3))))))=anA F (Rj9∘zU) (Rj10∘ra) (Rl1∘mf) (Rj11∘jV) v:=fun v=>
 (a77  (by kernel_rfl) (by kernel_rfl) _ _).trans (aB3 F Rj9 Rj10 Rl1 Rj11 v)
def anB(F:Nat)(a:Ty3→Rz)(g h:Ty1→Rz)(i:Li×Li→Rz):Ty4→Rz:=fun (b,c,d,j,e,f)=>(a (b,c,d,e,f))
theorem aB5 F Rj9 Rj10 Rl1 Rj11:uV F 29899 Qn (kq eA Rj9 sp4 (aV 1 (kq eA Rj10 sp0 (kq eA Rl1 sp0 (aV 0 (kq eA Rj11 sp6 Kf3)))))) (anB F (Rj9∘zU) (Rj10∘ra) (Rl1∘mf) (Rj11∘jV)):=fun _=>by kernel_rfl
def anC(F:Nat)(a:Ty3→Rz)(b c:Ty1→Rz)(d:Li×Li→Rz):Ty4→Rz:=fun v=>cond ((fun (t0,t4,t11,t15,x5,x6)=>t15) v) (anA F a b c d v) (anB F a b c d v)
theorem aB6(F:Nat)(Rj9 Rj10:St→Rz)(Rl1 Rj11:St→Rz):∀ v,Wn F (bp Tryz.f110 14949) (Qn v) (w9 (kc eA Rj9 sp4) (aV 1 (w9 (kc eA Rj10 sp0) (w9 (kc eA Rl1 sp0) (aV 0 (w9 (kc eA Rj11 sp6) Kf3))))))=anC F (Rj9∘zU) (Rj10∘ra) (Rl1∘mf) (Rj11∘jV) v:=
 a7d (o:=.tmp 15) (by kernel_rfl) Qn _ (fun (t0,t4,t11,t15,x5,x6)=>t15) (by rintro⟨t0,t4,t11,t15,x5,x6⟩;kernel_rfl) _ _ (aB4 F Rj9 Rj10 Rl1 Rj11) (aB5 F Rj9 Rj10 Rl1 Rj11)
def ahO(F:Nat)(a)(b c)(d):=akw F (anC F a b c d) a b c d
theorem aB7 F Rj9 Rj10 Rl1 Rj11:uV F 7474 aaB (kq eA Rj9 sp4 (aV 1 (kq eA Rj10 sp0 (kq eA Rl1 sp0 (aV 0 (kq eA Rj11 sp6 Kf3)))))) (ahO F (Rj9∘zU) (Rj10∘ra) (Rl1∘mf) (Rj11∘jV)):=sqC (fun k=>akw F k (Rj9∘zU) (Rj10∘ra) (Rl1∘mf) (Rj11∘jV)) (fun Rj7=>aH1 F Rj7 Rj9 Rj10 Rl1 Rj11) (aB6 F Rj9 Rj10 Rl1 Rj11)
def ahP(F:Nat)(c g:Ty1→Rz)(h:Li×Li→Rz):Ty3→Rz:=fun (d,a,e,f,b)=>(cond ((decide (0≤(IntKind.i64.wrap (a-(15:Int)))))&&(decide ((IntKind.i64.wrap (a-(15:Int))) < (64:Int)))) (cond ((decide (0≤(IntKind.i64.wrap (a-(2:Int)))))&&(decide ((IntKind.i64.wrap (a-(2:Int))) < (64:Int)))) (cond ((decide (0≤(IntKind.i64.wrap (a-(16:Int)))))&&(decide ((IntKind.i64.wrap (a-(16:Int))) < (64:Int)))) (cond ((decide (0≤(IntKind.i64.wrap (a-(7:Int)))))&&(decide ((IntKind.i64.wrap (a-(7:Int))) < (64:Int)))) (cond ((decide (0≤a))&&(decide (a < (64:Int)))) (c (d,e,f,(b.set (Int.toNat a) (IntKind.u32.wrap ((IntKind.u32.wrap ((IntKind.u32.wrap ((b.getD (Int.toNat (IntKind.i64.wrap (a-(16:Int)))) 0)+(bK .xor .u32 (bK .xor .u32 (Sha.rotl (b.getD (Int.toNat (IntKind.i64.wrap (a-(15:Int)))) 0) (-7:Int)) (Sha.rotl (b.getD (Int.toNat (IntKind.i64.wrap (a-(15:Int)))) 0) (-18:Int))) (Int.fdiv (b.getD (Int.toNat (IntKind.i64.wrap (a-(15:Int)))) 0) (2^3)))))+(b.getD (Int.toNat (IntKind.i64.wrap (a-(7:Int)))) 0)))+(bK .xor .u32 (bK .xor .u32 (Sha.rotl (b.getD (Int.toNat (IntKind.i64.wrap (a-(2:Int)))) 0) (-17:Int)) (Sha.rotl (b.getD (Int.toNat (IntKind.i64.wrap (a-(2:Int)))) 0) (-19:Int))) (Int.fdiv (b.getD (Int.toNat (IntKind.i64.wrap (a-(2:Int)))) 0) (2^10)))))))) none) none) none) none) none)
theorem aB8 F Rj10 Rl1 Rj11:uV F 7475 zU (aV 1 (kq eA Rj10 sp0 (kq eA Rl1 sp0 (aV 0 (kq eA Rj11 sp6 Kf3))))) (ahP F (Rj10∘ra) (Rl1∘mf) (Rj11∘jV)):=fun _=>by kernel_rfl
def anD(F:Nat)(a b)(c):=ahO F (ahP F a b c) a b c
theorem aB9 F Rj10 Rl1 Rj11:uV F 3737 aaB (aV 1 (kq eA Rj10 sp0 (kq eA Rl1 sp0 (aV 0 (kq eA Rj11 sp6 Kf3))))) (anD F (Rj10∘ra) (Rl1∘mf) (Rj11∘jV)):=sqC (fun k=>ahO F k (Rj10∘ra) (Rl1∘mf) (Rj11∘jV)) (fun Rj9=>aB7 F Rj9 Rj10 Rl1 Rj11) (aB8 F Rj10 Rl1 Rj11)
def anE(F:Nat)(a b)(c):=akr F (anD F a b c) a b c
theorem aCa F Rj10 Rl1 Rj11:uV F 1868 aaA (aV 1 (kq eA Rj10 sp0 (kq eA Rl1 sp0 (aV 0 (kq eA Rj11 sp6 Kf3))))) (anE F (Rj10∘ra) (Rl1∘mf) (Rj11∘jV)):=sqC (fun k=>akr F k (Rj10∘ra) (Rl1∘mf) (Rj11∘jV)) (fun Rj6=>aH0 F Rj6 Rj10 Rl1 Rj11) (aB9 F Rj10 Rl1 Rj11)
def ahQ(F:Nat)(a b)(c):=anE F a b c
theorem aCb F Rj10 Rl1 Rj11:uV F 934 aaA (kq eA Rj10 sp0 (kq eA Rl1 sp0 (aV 0 (kq eA Rj11 sp6 Kf3)))) (ahQ F (Rj10∘ra) (Rl1∘mf) (Rj11∘jV)):=biC (aCa F Rj10 Rl1 Rj11)
def aaC(F:Nat)(a:Ty1→Rz)(f:Li×Li→Rz):Ty1→Rz:=fun (b,c,d,e)=>(a (b,(IntKind.i64.wrap (c+(1:Int))),d,e))
theorem aCc F Rl1 Rj11:uV F 935 ra (kq eA Rl1 sp0 (aV 0 (kq eA Rj11 sp6 Kf3))) (aaC F (Rl1∘mf) (Rj11∘jV)):=fun _=>by kernel_rfl
def anF(F:Nat)(a)(b):=ahQ F (aaC F a b) a b
theorem aCd F Rl1 Rj11:uV F 467 aaA (kq eA Rl1 sp0 (aV 0 (kq eA Rj11 sp6 Kf3))) (anF F (Rl1∘mf) (Rj11∘jV)):=sqC (fun k=>ahQ F k (Rl1∘mf) (Rj11∘jV)) (fun Rj10=>aCb F Rj10 Rl1 Rj11) (aCc F Rl1 Rj11)
def ahR(F:Nat)(a)(b):=agE F (anF F a b) a b
theorem aCe F Rl1 Rj11:uV F 233 anv (kq eA Rl1 sp0 (aV 0 (kq eA Rj11 sp6 Kf3))) (ahR F (Rl1∘mf) (Rj11∘jV)):=sqC (fun k=>agE F k (Rl1∘mf) (Rj11∘jV)) (fun Rj5=>aHZ F Rj5 Rl1 Rj11) (aCd F Rl1 Rj11)
def aaD(F:Nat)(a)(b):=agD F (ahR F a b) a b
theorem aCf F Rl1 Rj11:uV F 116 mf (kq eA Rl1 sp0 (aV 0 (kq eA Rj11 sp6 Kf3))) (aaD F (Rl1∘mf) (Rj11∘jV)):=sqC (fun k=>agD F k (Rl1∘mf) (Rj11∘jV)) (fun Rj4=>aHY F Rj4 Rl1 Rj11) (aCe F Rl1 Rj11)
def agH:Ty1→Li×Int×Li×Li:=fun (a,b,c,d)=>(a,b,c,d)
def anG(F:Nat)(a:Li×Li→Rz):Ty1→Rz:=fun v=>eT (fun k=>aaD F k a) F (agH v)
theorem aCg F Rj11:uV F 58 V4 (aV 0 (kq eA Rj11 sp6 Kf3)) (anG F (Rj11∘jV)):=lpC agH (fun k=>aaD F k (Rj11∘jV)) (fun Rl1=>aCf F Rl1 Rj11)
def anH(F:Nat)(a):=anG F a
theorem aCh F Rj11:uV F 29 V4 (kq eA Rj11 sp6 Kf3) (anH F (Rj11∘jV)):=biC (aCg F Rj11)
def ahT(F:Nat)(a):=akq F (anH F a) a
theorem aCi F Rj11:uV F 14 ahM (kq eA Rj11 sp6 Kf3) (ahT F (Rj11∘jV)):=sqC (fun k=>akq F k (Rj11∘jV)) (fun Rj3=>aHX F Rj3 Rj11) (aCh F Rj11)
def anI(F:Nat):Li×Li→Rz:=fun (b,a)=>(some ((.agg 64 (.rI .u32 a)),[]))
theorem aCj F:uV F 15 jV Kf3 (anI F):=fun _=>by kernel_rfl
def anJ(F:Nat):=ahT F (anI F)
theorem aCk F:uV F 7 ahM Kf3 (anJ F):=sqC (ahT F) (fun Rj11=>aCi F Rj11) (aCj F)
def anK(F:Nat):=akp F (anJ F)
theorem aCl F:uV F 3 anu Kf3 (anK F):=sqC (akp F) (fun Rj2=>aHW F Rj2) (aCk F)
def anL(F:Nat):=ako F (anK F)
theorem aCm F:uV F 1 aA2 Kf3 (anL F):=sqC (ako F) (fun Rj1=>aHV F Rj1) (aCl F)
def f110(F:Nat):Li→Rz:=anL F
def aQ1:eP:=fun X H=>match X,H with
 | [(.vs (.rI .u8 a0) 0 1)],[]=>some ((decide (a0.length=64)),(.agg 64 (.rI .u32 (Sha.sched a0 64))),[])
 | _,_=>none
theorem EE(b:Li):∀ t,(Sha.sched b t).length=t
 | 0=>rfl
 | t+1=>by simp [Sha.sched,EE b t]
theorem D8(b:Li)(t i:Nat)(z:Li)(h:i < t):(Sha.sched b t++z).getD i 0=(Sha.sched b t).getD i 0:=by
 simp [List.getD_eq_getElem?_getD,List.getElem?_append,EE,h]
theorem WX(b:Li)(t:Nat)(v:Int)(h:t < 64)(hv:Sha.sched b (t+1)=Sha.sched b t++[v]):(Sha.sched b t++List.replicate (64-t) 0).set t v=Sha.sched b (t+1)++List.replicate (64-(t+1)) 0:=by
 rw [hv,show 64-t=(64-(t+1))+1 by omega,List.replicate_succ,List.set_append_right _ _ (by rw [EE];exact Nat.le_refl _),EE,Nat.sub_self]
 simp
theorem afH(a b:Int)(ha:0≤a)(ha2:a < 16777216)(hb:0≤b)(hb2:b≤255):bK .or .u32 (IntKind.u32.wrap (a*2^8)) (IntKind.u32.wrap b)=a*256+b:=by
 obtain⟨x,rfl⟩:=Int.eq_ofNat_of_zero_le ha
 obtain⟨y,rfl⟩:=Int.eq_ofNat_of_zero_le hb
 rw [Wm (by omega) (by omega),Wm (by omega) (by omega)]
 simp only [bK,BitVec.toNat_or,BitVec.toNat_ofInt]
 have e1:((x:Int)*2^8%((2^IntKind.u32.bits:Nat):Int)).toNat=x <<< 8:=by
  rw [Nat.shiftLeft_eq];simp only [IntKind.bits];omega
 have e2:((y:Int)%((2^IntKind.u32.bits:Nat):Int)).toNat=y:=by simp only [IntKind.bits];omega
 rw [e1,e2,← Nat.shiftLeft_add_eq_or_of_lt (show y < 2^8 by omega),Nat.shiftLeft_eq,Wm (by omega) (by omega)]
 omega
theorem baG(a0:Li)(hp:((decide (a0.length=64)))=true)(h0:okV (.vs (.rI .u8 a0) 0 1)):∃ F,f110 F a0=some ((.agg 64 (.rI .u32 (Sha.sched a0 64))),[]):=by
 have hl:a0.length=64:=of_decide_eq_true hp
 have hb:∀ i,0≤a0.getD i 0∧a0.getD i 0≤255:=fun i=>by
  by_cases hi:i < a0.length
  ·rw [List.getD_eq_getElem?_getD,List.getElem?_eq_getElem hi]
   exact aay (h0.1 _ (List.getElem_mem hi))
  ·rw [List.getD_eq_getElem?_getD,List.getElem?_eq_none (by omega)];simp
 refine⟨65,?_⟩
 simp only [f110,anL,ako,anK,akp,anJ,ahT,akq,anH,anG,agH]
 refine iR (fun i=>(a0,(i:Int),List.replicate 64 0,Sha.sched a0 i++List.replicate (64-i) 0)) 64 (by rfl) (fun i hi k=>?_) (fun k=>?_) 65 (by omega)
 ·simp only [aaD,agD,ahR,agE,anF,ahQ,aaC,anE,akr,anD,ahO,ahP,akw,anC]
  rw [aK (show(i:Int) < 64 by omega)]
  by_cases h16:i < 16
  ·rw [aK (show(i:Int) < 16 by omega)]
   simp only [anA,anz,akx,anx,anw,agG]
   rw [bM (x:=4*(i:Int)) (by omega) (by omega),bM (x:=4*(i:Int)+4) (by omega) (by omega),cH,cH,aK (by omega)]
   have hL:List.take ((4*(i:Int)+4).toNat-(4*(i:Int)).toNat) (List.drop (4*(i:Int)).toNat a0)=[a0.getD (4*i) 0,a0.getD (4*i+1) 0,a0.getD (4*i+2) 0,a0.getD (4*i+3) 0]:=by
    rw [show(4*(i:Int)+4).toNat-(4*(i:Int)).toNat=4 by omega,show(4*(i:Int)).toNat=4*i by omega]
    apply List.ext_getElem
    ·simp;omega
    ·intro j h1 h2
     simp only [List.length_cons,List.length_nil] at h2
     rw [List.getElem_take,List.getElem_drop]
     have hj:j=0∨j=1∨j=2∨j=3:=by omega
     rcases hj with rfl | rfl | rfl | rfl <;> simp [List.getD_eq_getElem?_getD,List.getElem?_eq_getElem (show 4*i < a0.length by omega),List.getElem?_eq_getElem (show 4*i+1 < a0.length by omega),List.getElem?_eq_getElem (show 4*i+2 < a0.length by omega),List.getElem?_eq_getElem (show 4*i+3 < a0.length by omega)]
   rw [hL]
   have b0:=hb (4*i)
   have b1:=hb (4*i+1)
   have b2:=hb (4*i+2)
   have b3:=hb (4*i+3)
   have hnext:Sha.sched a0 (i+1)=Sha.sched a0 i++[Sha.word (a0.getD (4*i) 0) (a0.getD (4*i+1) 0) (a0.getD (4*i+2) 0) (a0.getD (4*i+3) 0)]:=by simp [Sha.sched,h16]
   generalize a0.getD (4*i) 0=c0 at *
   generalize a0.getD (4*i+1) 0=c1 at *
   generalize a0.getD (4*i+2) 0=c2 at *
   generalize a0.getD (4*i+3) 0=c3 at *
   have hset:∀ v:Int,((Sha.sched a0 i++List.replicate (64-i) 0).set i v).getD i 0=v:=fun v=>by
    rw [List.getD_eq_getElem?_getD,List.getElem?_set_self (by simp [EE];omega)];rfl
   have hset0:Sha.sched a0 i++List.replicate (64-i) 0=(Sha.sched a0 i++List.replicate (64-i) 0).set i 0:=by
    rw [show 64-i=(64-(i+1))+1 by omega,List.replicate_succ,List.set_append_right _ _ (by rw [EE];exact Nat.le_refl _),EE,Nat.sub_self];rfl
   refine iR (fun j=>(a0,(i:Int),(i:Int),[c0,c1,c2,c3],4,(j:Int),List.replicate 64 0,(Sha.sched a0 i++List.replicate (64-i) 0).set i (match j with | 0=>0 | 1=>c0 | 2=>c0*256+c1 | 3=>(c0*256+c1)*256+c2 | _=>((c0*256+c1)*256+c2)*256+c3))) 4 (by simp only [];rw [← hset0];rfl) (fun j hj k'=>?_) (fun k'=>?_) 65 (by omega)
   ·simp only [agF]
    rw [bM (x:=(j:Int)+1) (by omega) (by omega),cH,cH,aK (show(j:Int) < 4 by omega),aK (by simp only [List.length_cons,List.length_nil];omega),aK (by omega),aK (by omega)]
    simp only [Int.toNat_natCast,hset,List.set_set]
    have hj':j=0∨j=1∨j=2∨j=3:=by omega
    rcases hj' with rfl | rfl | rfl | rfl
    ·simp only [List.getD_cons_zero];rw [afH 0 c0 (by omega) (by omega) b0.1 b0.2];simp
    ·simp only [List.getD_cons_succ,List.getD_cons_zero];rw [afH c0 c1 (by omega) (by omega) b1.1 b1.2];rfl
    ·simp only [List.getD_cons_succ,List.getD_cons_zero];rw [afH _ c2 (by omega) (by omega) b2.1 b2.2];rfl
    ·simp only [List.getD_cons_succ,List.getD_cons_zero];rw [afH _ c3 (by omega) (by omega) b3.1 b3.2];rfl
   ·simp only [agF,aaC]
    rw [ba (by omega),bM (x:=(i:Int)+1) (by omega) (by omega),WX a0 i _ (by omega) (by rw [hnext];simp only [Sha.word];rw [show((c0*256+c1)*256+c2)*256+c3=c0*16777216+c1*65536+c2*256+c3 by omega])]
    rfl
  ·rw [ba (show ¬ (i:Int) < 16 by omega)]
   simp only [anB,ahP]
   rw [bM (x:=(i:Int)-15) (by omega) (by omega),bM (x:=(i:Int)-2) (by omega) (by omega),bM (x:=(i:Int)-16) (by omega) (by omega),bM (x:=(i:Int)-7) (by omega) (by omega)]
   simp only [cH]
   rw [aK (by omega),aK (by omega),aK (by omega),aK (by omega),aK (by omega)]
   simp only [aaC,show((i:Int)-15).toNat=i-15 by omega,show((i:Int)-2).toNat=i-2 by omega,show((i:Int)-16).toNat=i-16 by omega,show((i:Int)-7).toNat=i-7 by omega,Int.toNat_natCast]
   rw [bM (x:=(i:Int)+1) (by omega) (by omega),D8 a0 i (i-15) _ (by omega),D8 a0 i (i-2) _ (by omega),D8 a0 i (i-16) _ (by omega),D8 a0 i (i-7) _ (by omega)]
   rw [show(-7:Int) = -((7:Nat):Int) from rfl,show(-18:Int) = -((18:Nat):Int) from rfl,show(-17:Int) = -((17:Nat):Int) from rfl,show(-19:Int) = -((19:Nat):Int) from rfl]
   rw [Sha.rotl_neg _ 7 (by omega) (by omega),Sha.rotl_neg _ 18 (by omega) (by omega),Sha.rotl_neg _ 17 (by omega) (by omega),Sha.rotl_neg _ 19 (by omega) (by omega)]
   rw [WX a0 i _ (by omega) (by simp only [Sha.sched,if_neg h16];rfl)]
   rfl
 ·simp only [aaD,agD,ahR,agE,anI]
  rw [ba (by omega),Nat.sub_self,List.replicate_zero,List.append_nil]
theorem baH:Ck 110 aQ1:=ck a9V Tryz.func110 (by
 intro X H r H' h hX hH
 unfold aQ1 at h;split at h <;> try contradiction
 ·obtain⟨hp,rfl,rfl⟩:=ik h
  obtain⟨F,hF⟩:=baG _ hp (hX _ hm0)
  exact⟨_,abC (aCm F) hF⟩)
end Go.Am
