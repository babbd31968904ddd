/- Part of a proof. -/
import Derived.Test.YtffddoahjpemaaaGreatDoorAm36ZC
import Derived.Test.YtffddoahjpemaaaGreatDoorAmJrn
set_option linter.unusedVariables false
set_option linter.unusedSimpArgs false
namespace Go.Am
open Go Go.Proofs
abbrev sp35:List (Nat×Md):=[(0,.plain),(3,.plain),(4,.plain)]
abbrev sp37:List (Nat×Md):=[(0,.plain),(1,.plain)]
abbrev sp39:List (Nat×Md):=[(0,.plain),(1,.plain),(5,.plain)]
abbrev Ty24:=(List Li)×(List Li)
abbrev Ty25:=(List Li)×(List Li)×Int
def lV34:List CEnt:=[]
def V34:Env:=mkEnv T36Z G36Z lV34
noncomputable abbrev Kf13:=kFin V34 none (Tryz.f34).results.toList
theorem eV34:EOk Tryz.prog V34:=eok_mk (by exact trivial)
def Af34(F:Nat):Cuts:={ F:=F,at_:=fun _=>none,join:=fun _=>none }
def ef34_a:Int→St:=fun a0=>⟨[(0,.int .i64 a0)],[],0,14,0⟩
def f34_1(F:Nat):Int→Rz:=fun a0=>(cond (decide (a0 < (0:Int))) (some ((.int .i64 0),[])) (cond (decide (a0 > (8000:Int))) (some ((.int .i64 0),[])) (some ((.int .i64 (if (IntKind.i64.wrap (Int.tdiv (IntKind.i64.wrap ((IntKind.i64.wrap (a0+(48:Int)))-(1:Int))) (48:Int))) > (1:Int) then (IntKind.i64.wrap (Int.tdiv (IntKind.i64.wrap ((IntKind.i64.wrap (a0+(48:Int)))-(1:Int))) (48:Int))) else (1:Int))),[]))))
theorem f34_1_eq(F:Nat):∀ v,aexec V34 (Af34 F) (sub (bodyOf Tryz.f34) []) (ef34_a v) Kf13=f34_1 F v:=by
 intro a0;kernel_rfl
def f34(F:Nat):Int→Rz:=f34_1 F
theorem f34_body(F:Nat)(a0:Int):abody V34 (Af34 F) Tryz.f34 [(.int .i64 a0)] []=f34 F a0:=
 (abody_in (c:=(sub (bodyOf Tryz.f34) [])) (by kernel_rfl) (s:=ef34_a a0) (by kernel_rfl)).trans (f34_1_eq F a0)
def r34:CRun:=fun X H=>match X,H with
 | [(.int .i64 a0)],[]=>some (true,(.int .i64 (Jr.count a0)),[])
 | _,_=>none
theorem s34(a0:Int)(h0:okV (.int .i64 a0)):∃ F,f34 F a0=some ((.int .i64 (Jr.count a0)),[]):=by
 have hw:=h0
 refine⟨0,?_⟩
 simp only [f34,f34_1]
 by_cases h1:a0 < 0
 ·rw [cond_pos h1,Jr.count,cond_pos (.inl h1)]
 by_cases h2:a0 > 8000
 ·rw [cond_neg h1,cond_pos h2,Jr.count,cond_pos (.inr h2)]
 rw [cond_neg h1,cond_neg h2,Jr.count,cond_neg (by omega),i64w (x:=a0+48) (by omega) (by omega),i64w (x:=a0+48-1) (by omega) (by omega),tdiv_nn (by omega),i64w (by omega) (by omega),show a0+48-1=a0+47 by omega]
theorem c34:CallOk Tryz.prog G36Z 34 r34:=callOk_of mixed tys eV34 Tryz.func34 (by kernel_rfl) (c:=sub (bodyOf Tryz.f34) []) (by kernel_rfl) (by
 intro X H r H' h hX hH
 unfold r34 at h;split at h <;> try contradiction
 ·obtain⟨hp,rfl,rfl⟩:=inj3 h
  obtain⟨F,hF⟩:=s34 _ (hX _ hm0)
  exact⟨Af34 F,(f34_body F _).trans hF⟩)
def lV57:List CEnt:=[]
def V57:Env:=mkEnv T36Z G36Z lV57
noncomputable abbrev Kf14:=kFin V57 none (Tryz.f57).results.toList
theorem eV57:EOk Tryz.prog V57:=eok_mk (by exact trivial)
def Af57(F:Nat):Cuts:={ F:=F,at_:=fun _=>none,join:=fun _=>none }
def ef57_a:Int→St:=ef34_a
def f57_1(F:Nat):Int→Rz:=fun a0=>(cond (decide (a0 < (0:Int))) (some ((.int .i64 0),[])) (cond (decide (a0 > (8000:Int))) (some ((.int .i64 0),[])) (cond (a0==(0:Int)) (some ((.int .i64 1),[])) (some ((.int .i64 (IntKind.i64.wrap (Int.tdiv (IntKind.i64.wrap (a0+(47:Int))) (48:Int)))),[])))))
theorem f57_1_eq(F:Nat):∀ v,aexec V57 (Af57 F) (sub (bodyOf Tryz.f57) []) (ef57_a v) Kf14=f57_1 F v:=by
 intro a0;kernel_rfl
def f57(F:Nat):Int→Rz:=f57_1 F
theorem f57_body(F:Nat)(a0:Int):abody V57 (Af57 F) Tryz.f57 [(.int .i64 a0)] []=f57 F a0:=
 (abody_in (c:=(sub (bodyOf Tryz.f57) [])) (by kernel_rfl) (s:=ef57_a a0) (by kernel_rfl)).trans (f57_1_eq F a0)
def r57:CRun:=fun X H=>match X,H with
 | [(.int .i64 a0)],[]=>some (true,(.int .i64 (Jr.count a0)),[])
 | _,_=>none
theorem s57(a0:Int)(h0:okV (.int .i64 a0)):∃ F,f57 F a0=some ((.int .i64 (Jr.count a0)),[]):=by
 refine⟨0,?_⟩
 simp only [f57,f57_1,int_beq]
 by_cases h1:a0 < 0
 ·rw [cond_pos h1,Jr.count,cond_pos (.inl h1)]
 by_cases h2:a0 > 8000
 ·rw [cond_neg h1,cond_pos h2,Jr.count,cond_pos (.inr h2)]
 by_cases h3:a0=0
 ·rw [cond_neg h1,cond_neg h2,cond_pos h3,Jr.count,cond_neg (by omega),if_neg (by omega)]
 rw [cond_neg h1,cond_neg h2,cond_neg h3,Jr.count,cond_neg (by omega),i64w (x:=a0+47) (by omega) (by omega),tdiv_nn (by omega),i64w (by omega) (by omega)]
 split
 ·rfl
 ·rw [show(a0+47) / 48=1 by omega]
theorem c57:CallOk Tryz.prog G36Z 57 r57:=callOk_of mixed tys eV57 Tryz.func57 (by kernel_rfl) (c:=sub (bodyOf Tryz.f57) []) (by kernel_rfl) (by
 intro X H r H' h hX hH
 unfold r57 at h;split at h <;> try contradiction
 ·obtain⟨hp,rfl,rfl⟩:=inj3 h
  obtain⟨F,hF⟩:=s57 _ (hX _ hm0)
  exact⟨Af57 F,(f57_body F _).trans hF⟩)
def lV91:List CEnt:=[]
def V91:Env:=mkEnv T36Z G36Z lV91
noncomputable abbrev Kf15:=kFin V91 none (Tryz.f91).results.toList
theorem eV91:EOk Tryz.prog V91:=eok_mk (by exact trivial)
def Af91a(F:Nat):Cuts:={ F:=F+6,at_:=fun _=>none,join:=fun _=>none }
def ef91a_a:Li×Int→St:=fun (a0,a1)=>⟨[(0,.sl 0 0 64 0 4 1),(1,.int .i64 a1)],[(0,(.cells 64 (.rI .u8 a0) true))],1,18,1⟩
def f91a_1(F:Nat):Li×Int→Rz:=fun (a0,a1)=>(some ((.tup .nil),[(.cells 64 (.rI .u8 ((((a0.set 0 (IntKind.u8.wrap a1)).set 1 (IntKind.u8.wrap (Int.fdiv a1 (2^8)))).set 2 (IntKind.u8.wrap (Int.fdiv (Int.fdiv a1 (2^8)) (2^8)))).set 3 (IntKind.u8.wrap (Int.fdiv (Int.fdiv (Int.fdiv a1 (2^8)) (2^8)) (2^8))))) true)]))
theorem f91a_1_eq(F:Nat):∀ v,aexec V91 (Af91a F) (sub (bodyOf Tryz.f91) []) (ef91a_a v) Kf15=f91a_1 F v:=by
 rintro⟨a0,a1⟩;kernel_rfl
def f91a(F:Nat):Li×Int→Rz:=f91a_1 F
theorem f91a_body(F:Nat)(a0:Li)(a1:Int):abody V91 (Af91a F) Tryz.f91 [(.sl 0 0 64 0 4 1),.int .i64 a1] [(.cells 64 (.rI .u8 a0) true)]=f91a F (a0,a1):=
 (abody_in (by kernel_rfl) (by kernel_rfl)).trans (f91a_1_eq F (a0,a1))
def Af91b(F:Nat):Cuts:={ F:=F+6,at_:=fun _=>none,join:=fun _=>none }
def ef91b_a:Li×Int→St:=fun (a0,a1)=>⟨[(0,.sl 0 0 64 4 2 1),(1,.int .i64 a1)],[(0,(.cells 64 (.rI .u8 a0) true))],1,18,1⟩
def f91b_1(F:Nat):Li×Int→Rz:=fun (a0,a1)=>(some ((.tup .nil),[(.cells 64 (.rI .u8 ((a0.set 4 (IntKind.u8.wrap a1)).set 5 (IntKind.u8.wrap (Int.fdiv a1 (2^8))))) true)]))
theorem f91b_1_eq(F:Nat):∀ v,aexec V91 (Af91b F) (sub (bodyOf Tryz.f91) []) (ef91b_a v) Kf15=f91b_1 F v:=by
 rintro⟨a0,a1⟩;kernel_rfl
def f91b(F:Nat):Li×Int→Rz:=f91b_1 F
theorem f91b_body(F:Nat)(a0:Li)(a1:Int):abody V91 (Af91b F) Tryz.f91 [(.sl 0 0 64 4 2 1),.int .i64 a1] [(.cells 64 (.rI .u8 a0) true)]=f91b F (a0,a1):=
 (abody_in (by kernel_rfl) (by kernel_rfl)).trans (f91b_1_eq F (a0,a1))
def Af91c(F:Nat):Cuts:={ F:=F+6,at_:=fun _=>none,join:=fun _=>none }
def ef91c_a:Li×Int→St:=fun (a0,a1)=>⟨[(0,.sl 0 0 64 6 2 1),(1,.int .i64 a1)],[(0,(.cells 64 (.rI .u8 a0) true))],1,18,1⟩
def f91c_1(F:Nat):Li×Int→Rz:=fun (a0,a1)=>(some ((.tup .nil),[(.cells 64 (.rI .u8 ((a0.set 6 (IntKind.u8.wrap a1)).set 7 (IntKind.u8.wrap (Int.fdiv a1 (2^8))))) true)]))
theorem f91c_1_eq(F:Nat):∀ v,aexec V91 (Af91c F) (sub (bodyOf Tryz.f91) []) (ef91c_a v) Kf15=f91c_1 F v:=by
 rintro⟨a0,a1⟩;kernel_rfl
def f91c(F:Nat):Li×Int→Rz:=f91c_1 F
theorem f91c_body(F:Nat)(a0:Li)(a1:Int):abody V91 (Af91c F) Tryz.f91 [(.sl 0 0 64 6 2 1),.int .i64 a1] [(.cells 64 (.rI .u8 a0) true)]=f91c F (a0,a1):=
 (abody_in (by kernel_rfl) (by kernel_rfl)).trans (f91c_1_eq F (a0,a1))
def r91:CRun:=fun X H=>match X,H with
 | [(.sl 0 0 64 0 4 1),.int .i64 a1],[(.cells 64 (.rI .u8 a0) true)]=>some ((decide (0≤a1)),.tup .nil,[(.cells 64 (.rI .u8 (Jr.put a0 0 a1 4)) true)])
 | [(.sl 0 0 64 4 2 1),.int .i64 a1],[(.cells 64 (.rI .u8 a0) true)]=>some ((decide (0≤a1)),.tup .nil,[(.cells 64 (.rI .u8 (Jr.put a0 4 a1 2)) true)])
 | [(.sl 0 0 64 6 2 1),.int .i64 a1],[(.cells 64 (.rI .u8 a0) true)]=>some ((decide (0≤a1)),.tup .nil,[(.cells 64 (.rI .u8 (Jr.put a0 6 a1 2)) true)])
 | _,_=>none
theorem s91a(a0:Li)(a1:Int)(hp:((decide (0≤a1)))=true)(h1:okV (.int .i64 a1))(k0:okB (.cells 64 (.rI .u8 a0) true)):∃ F,f91a F (a0,a1)=some ((.tup .nil),[(.cells 64 (.rI .u8 (Jr.put a0 0 a1 4)) true)]):=by
 refine⟨0,?_⟩
 simp only [f91a,f91a_1,u8mod,show((2:Int)^8)=256 from rfl,Int.fdiv_eq_ediv_of_nonneg _ (show(0:Int)≤256 by decide)]
 rfl
theorem s91b(a0:Li)(a1:Int)(hp:((decide (0≤a1)))=true)(h1:okV (.int .i64 a1))(k0:okB (.cells 64 (.rI .u8 a0) true)):∃ F,f91b F (a0,a1)=some ((.tup .nil),[(.cells 64 (.rI .u8 (Jr.put a0 4 a1 2)) true)]):=by
 refine⟨0,?_⟩
 simp only [f91b,f91b_1,u8mod,show((2:Int)^8)=256 from rfl,Int.fdiv_eq_ediv_of_nonneg _ (show(0:Int)≤256 by decide)]
 rfl
theorem s91c(a0:Li)(a1:Int)(hp:((decide (0≤a1)))=true)(h1:okV (.int .i64 a1))(k0:okB (.cells 64 (.rI .u8 a0) true)):∃ F,f91c F (a0,a1)=some ((.tup .nil),[(.cells 64 (.rI .u8 (Jr.put a0 6 a1 2)) true)]):=by
 refine⟨0,?_⟩
 simp only [f91c,f91c_1,u8mod,show((2:Int)^8)=256 from rfl,Int.fdiv_eq_ediv_of_nonneg _ (show(0:Int)≤256 by decide)]
 rfl
theorem c91:CallOk Tryz.prog G36Z 91 r91:=callOk_of mixed tys eV91 Tryz.func91 (by kernel_rfl) (c:=sub (bodyOf Tryz.f91) []) (by kernel_rfl) (by
 intro X H r H' h hX hH
 unfold r91 at h;split at h <;> try contradiction
 ·obtain⟨hp,rfl,rfl⟩:=inj3 h
  obtain⟨F,hF⟩:=s91a _ _ hp (hX _ hm1) (hH _ hm0)
  exact⟨Af91a F,(f91a_body F _ _).trans hF⟩
 ·obtain⟨hp,rfl,rfl⟩:=inj3 h
  obtain⟨F,hF⟩:=s91b _ _ hp (hX _ hm1) (hH _ hm0)
  exact⟨Af91b F,(f91b_body F _ _).trans hF⟩
 ·obtain⟨hp,rfl,rfl⟩:=inj3 h
  obtain⟨F,hF⟩:=s91c _ _ hp (hX _ hm1) (hH _ hm0)
  exact⟨Af91c F,(f91c_body F _ _).trans hF⟩)
def lV82:List CEnt:=[]
def V82:Env:=mkEnv T36Z G36Z lV82
noncomputable abbrev Kf16:=kFin V82 none (Tryz.f82).results.toList
theorem eV82:EOk Tryz.prog V82:=eok_mk (by exact trivial)
def Af82(F:Nat):Cuts:={ F:=F,at_:=fun n=>match n with | 3010=>some sp35 | _=>none,join:=fun n=>match n with | 1020=>some [(0,.plain)] | 2018=>some sp24 | 3012=>some sp35 | 6003=>some [(3,.plain)] | _=>none }
noncomputable abbrev XAf82(F:Nat){α:Type}:=@aexec α V82 (Af82 F)
def ef82_a:Li→St:=fun a0=>⟨[(0,.str a0)],[],0,20,0⟩
def ef82j1:Li→St:=fun t0=>⟨[(0,.str t0)],[],0,20,0⟩
def ef82j2:Li×Int→St:=fun (t0,t3)=>⟨[(0,.str t0),(3,.int .i64 t3)],[],0,20,0⟩
def ef82j3:Li×Int×Int→St:=fun (t0,t3,t4)=>⟨[(0,.str t0),(3,.int .i64 t3),(4,.int .i64 t4)],[],0,20,0⟩
def ef82l1:Li×Int×Int→St:=ef82j3
def ef82j4:Int→St:=fun t3=>⟨[(3,.int .i64 t3)],[],0,20,0⟩
def f82_1(F:Nat)(kj1:Li→Rz):Li→Rz:=fun a0=>(kj1 a0)
theorem f82_1_eq(F:Nat)(Rj1:St→Rz):∀ v,XAf82 F (bp Tryz.f82 2) (ef82_a v) (kSeq (kc V82 Rj1 [(0,.plain)]) Kf16)=f82_1 F (Rj1∘ef82j1) v:=by
 intro a0;kernel_rfl
def f82_2(F:Nat)(kj2:Li×Int→Rz):Li→Rz:=fun t0=>(kj2 (t0,(0:Int)))
theorem f82_2_eq(F:Nat)(Rj2:St→Rz):∀ v,XAf82 F (bp Tryz.f82 6) (ef82j1 v) (kSeq (kc V82 Rj2 sp24) Kf16)=f82_2 F (Rj2∘ef82j2) v:=by
 intro t0;kernel_rfl
def f82_3(F:Nat)(kj3:Li×Int×Int→Rz)(kj4:Int→Rz):Li×Int→Rz:=fun (t0,t3)=>(kj3 (t0,t3,(IntKind.i64.wrap ((↑t0.length:Int)-(1:Int)))))
theorem f82_3_eq(F:Nat)(Rj3 Rj4:St→Rz):∀ v,XAf82 F (bp Tryz.f82 28) (ef82j2 v) (kSeq (kc V82 Rj3 sp35) (kSeq (kc V82 Rj4 [(3,.plain)]) Kf16))=f82_3 F (Rj3∘ef82j3) (Rj4∘ef82j4) v:=by
 rintro⟨t0,t3⟩;kernel_rfl
def f82_4(F:Nat)(kl1:Li×Int×Int→Rz)(kj4:Int→Rz):Li×Int×Int→Rz:=fun (t0,t3,t4)=>(cond (decide (t4≥(0:Int))) (cond ((decide (0≤t4))&&(decide (t4 < (↑t0.length:Int)))) (kl1 (t0,(IntKind.i64.wrap ((IntKind.i64.wrap ((256:Int)*t3))+(IntKind.i64.wrap (t0.getD (Int.toNat t4) 0)))),(IntKind.i64.wrap (t4-(1:Int))))) none) (kj4 t3))
theorem f82_4_eq(F:Nat)(Rl1 Rj4:St→Rz):∀ v,XAf82 F (bp Tryz.f82 116) (ef82l1 v) (kSeq (kc V82 Rl1 sp35) (kBlock 0 (kSeq (kc V82 Rj4 [(3,.plain)]) Kf16)))=f82_4 F (Rl1∘ef82l1) (Rj4∘ef82j4) v:=by
 rintro⟨t0,t3,t4⟩;kernel_rfl
def f82_5_i:Li×Int×Int→Li×Int×Int:=fun (t0,t3,t4)=>(t0,t3,t4)
def f82_5(F:Nat)(kj4:Int→Rz):Li×Int×Int→Rz:=fun v=>loopN (fun k=>f82_4 F k kj4) F (f82_5_i v)
theorem f82_5_eq(F:Nat)(Rj4:St→Rz):∀ v,XAf82 F (bp Tryz.f82 58) (ef82j3 v) (kBlock 0 (kSeq (kc V82 Rj4 [(3,.plain)]) Kf16))=f82_5 F (Rj4∘ef82j4) v:=
 loop_cut (by kernel_rfl) (by kernel_rfl) ef82j3 ef82l1 _ f82_5_i (fun k=>f82_4 F k (Rj4∘ef82j4))
  (by rintro⟨t0,t3,t4⟩;kernel_rfl) (fun Rl1=>f82_4_eq F Rl1 Rj4)
def f82_6(F:Nat)(kj4:Int→Rz):Li×Int×Int→Rz:=f82_5 F kj4
theorem f82_6_eq(F:Nat)(Rj4:St→Rz):∀ v,XAf82 F (bp Tryz.f82 29) (ef82j3 v) (kSeq (kc V82 Rj4 [(3,.plain)]) Kf16)=f82_6 F (Rj4∘ef82j4) v:=fun v=>
 (block_in  (by kernel_rfl) _ _).trans (f82_5_eq F Rj4 v)
def f82_7(F:Nat)(kj4:Int→Rz):Li×Int→Rz:=fun v=>f82_3 F (f82_6 F kj4) kj4 v
theorem f82_7_eq(F:Nat)(Rj4:St→Rz):∀ v,XAf82 F (bp Tryz.f82 14) (ef82j2 v) (kSeq (kc V82 Rj4 [(3,.plain)]) Kf16)=f82_7 F (Rj4∘ef82j4) v:=
 seq_cut (by kernel_rfl) (by kernel_rfl) ef82j2 ef82j3 _ (fun k=>f82_3 F k (Rj4∘ef82j4)) (f82_6 F (Rj4∘ef82j4))
  (fun Rj3=>f82_3_eq F Rj3 Rj4) (f82_6_eq F Rj4)
def f82_8(F:Nat):Int→Rz:=fun t3=>(some ((.int .i64 t3),[]))
theorem f82_8_eq(F:Nat):∀ v,XAf82 F (bp Tryz.f82 15) (ef82j4 v) Kf16=f82_8 F v:=by
 intro t3;kernel_rfl
def f82_9(F:Nat):Li×Int→Rz:=fun v=>f82_7 F (f82_8 F) v
theorem f82_9_eq(F:Nat):∀ v,XAf82 F (bp Tryz.f82 7) (ef82j2 v) Kf16=f82_9 F v:=
 seq_cut (by kernel_rfl) (by kernel_rfl) ef82j2 ef82j4 _ (fun k=>f82_7 F k) (f82_8 F)
  (fun Rj4=>f82_7_eq F Rj4) (f82_8_eq F)
def f82_10(F:Nat):Li→Rz:=fun v=>f82_2 F (f82_9 F) v
theorem f82_10_eq(F:Nat):∀ v,XAf82 F (bp Tryz.f82 3) (ef82j1 v) Kf16=f82_10 F v:=
 seq_cut (by kernel_rfl) (by kernel_rfl) ef82j1 ef82j2 _ (fun k=>f82_2 F k) (f82_9 F)
  (fun Rj2=>f82_2_eq F Rj2) (f82_9_eq F)
def f82_11(F:Nat):Li→Rz:=fun v=>f82_1 F (f82_10 F) v
theorem f82_11_eq(F:Nat):∀ v,XAf82 F (sub (bodyOf Tryz.f82) []) (ef82_a v) Kf16=f82_11 F v:=
 seq_cut (by kernel_rfl) (by kernel_rfl) ef82_a ef82j1 _ (fun k=>f82_1 F k) (f82_10 F)
  (fun Rj1=>f82_1_eq F Rj1) (f82_10_eq F)
def f82(F:Nat):Li→Rz:=f82_11 F
theorem f82_body(F:Nat)(a0:Li):abody V82 (Af82 F) Tryz.f82 [(.str a0)] []=f82 F a0:=
 (abody_in (c:=(sub (bodyOf Tryz.f82) [])) (by kernel_rfl) (s:=ef82_a a0) (by kernel_rfl)).trans (f82_11_eq F a0)
def r82:CRun:=fun X H=>match X,H with
 | [(.str a0)],[]=>some ((decide (a0.length≤4)),(.int .i64 (Jr.num a0)),[])
 | _,_=>none
theorem s82(a0:Li)(hp:((decide (a0.length≤4)))=true)(h0:okV (.str a0)):∃ F,f82 F a0=some ((.int .i64 (Jr.num a0)),[]):=by
 have hl:=of_decide_eq_true hp
 have hb:∀ x∈a0,0≤x∧x < 256:=fun x hx=>by have:=h0.2 x hx;omega
 refine⟨10,?_⟩
 simp only [f82_1,f82_2,f82_3,f82_5_i,f82_5,f82_6,f82_7,f82_9,f82_10,f82_11,f82]
 rw [i64w (by omega) (by omega)]
 refine loopN_from (fun i=>(a0,Jr.num (a0.drop (a0.length-i)),(a0.length:Int)-1-i)) a0.length (by simp [Jr.num]) (fun i hi k=>?_) (fun k=>?_) 10 (by omega)
 ·simp only [f82_4,dec_and]
  have hlt:a0.length-1-i < a0.length:=by omega
  have et:((a0.length:Int)-1-i).toNat=a0.length-1-i:=by omega
  have hx:=hb (a0[a0.length-1-i]) (List.getElem_mem _)
  have eg:a0.getD (a0.length-1-i) 0=a0[a0.length-1-i]:=by rw [List.getD_eq_getElem?_getD,List.getElem?_eq_getElem hlt];rfl
  have hd:a0.drop (a0.length-(i+1))=a0[a0.length-1-i] :: a0.drop (a0.length-i):=by
   rw [show a0.length-(i+1)=a0.length-1-i by omega,List.drop_eq_getElem_cons hlt,show a0.length-1-i+1=a0.length-i by omega]
  obtain⟨n1,n2⟩:=Jr.num_bound (a0.drop (a0.length-i)) fun x hx=>hb x (List.mem_of_mem_drop hx)
  have n3:=Jr.pow_le4 (k:=(a0.drop (a0.length-i)).length) (by rw [List.length_drop];omega)
  rw [cond_pos (by omega),cond_pos (by omega),et,eg,i64w (x:=256*_) (by omega) (by omega),i64w (x:=a0[a0.length-1-i]) (by omega) (by omega),i64w (by omega) (by omega),i64w (by omega) (by omega),hd,Jr.num_cons]
  congr 3
  omega
 ·simp only [f82_4]
  rw [cond_neg (by omega)]
  simp only [f82_8,Nat.sub_self,List.drop_zero]
theorem c82:CallOk Tryz.prog G36Z 82 r82:=callOk_of mixed tys eV82 Tryz.func82 (by kernel_rfl) (c:=sub (bodyOf Tryz.f82) []) (by kernel_rfl) (by
 intro X H r H' h hX hH
 unfold r82 at h;split at h <;> try contradiction
 ·obtain⟨hp,rfl,rfl⟩:=inj3 h
  obtain⟨F,hF⟩:=s82 _ hp (hX _ hm0)
  exact⟨Af82 F,(f82_body F _).trans hF⟩)
def lV83:List CEnt:=[(99,[some 5],r99)]
def V83:Env:=mkEnv T36Z G37Z lV83
noncomputable abbrev Kf18:=kFin V83 none (Tryz.f83).results.toList
theorem eV83:EOk Tryz.prog V83:=eok_mk (by exact⟨c99,trivial⟩)
def Af83(F:Nat):Cuts:={ F:=F,at_:=fun _=>none,join:=fun _=>none }
def ef83_a:Li→St:=fun a0=>⟨[(0,(.vs (.rI .u8 a0) 0 1))],[],0,11,0⟩
def f83_1(F:Nat):Li→Rz:=fun a0=>(cond (decide (a0.length < 1073741000)) (cond (decide ((a0.length+((Sha.hash a0).take 8).length) < 4611686018427387904)) (some ((.str (a0++((Sha.hash a0).take 8))),[])) none) none)
theorem f83_1_eq(F:Nat):∀ v,aexec V83 (Af83 F) (sub (bodyOf Tryz.f83) []) (ef83_a v) Kf18=f83_1 F v:=by
 intro a0;kernel_rfl
def f83(F:Nat):Li→Rz:=f83_1 F
theorem f83_body(F:Nat)(a0:Li):abody V83 (Af83 F) Tryz.f83 [(.vs (.rI .u8 a0) 0 1)] []=f83 F a0:=
 (abody_in (c:=(sub (bodyOf Tryz.f83) [])) (by kernel_rfl) (s:=ef83_a a0) (by kernel_rfl)).trans (f83_1_eq F a0)
def r83:CRun:=fun X H=>match X,H with
 | [(.vs (.rI .u8 a0) 0 1)],[]=>some ((decide (a0.length < 1073730000)),(.str (Jr.checked a0)),[])
 | _,_=>none
theorem s83(a0:Li)(hp:((decide (a0.length < 1073730000)))=true)(h0:okV (.vs (.rI .u8 a0) 0 1)):∃ F,f83 F a0=some ((.str (Jr.checked a0)),[]):=by
 have hl:=of_decide_eq_true hp
 refine⟨0,?_⟩
 simp only [f83,f83_1]
 rw [cond_pos (by omega),cond_pos (by rw [Jr.hash8];omega)]
 rfl
theorem c83:CallOk Tryz.prog G37Z 83 r83:=callOk_of mixed tys eV83 Tryz.func83 (by kernel_rfl) (c:=sub (bodyOf Tryz.f83) []) (by kernel_rfl) (by
 intro X H r H' h hX hH
 unfold r83 at h;split at h <;> try contradiction
 ·obtain⟨hp,rfl,rfl⟩:=inj3 h
  obtain⟨F,hF⟩:=s83 _ hp (hX _ hm0)
  exact⟨Af83 F,(f83_body F _).trans hF⟩)
def lV77:List CEnt:=[]
def V77:Env:=mkEnv T36Z G36Z lV77
noncomputable abbrev Kf19:=kFin V77 none (Tryz.f77).results.toList
theorem eV77:EOk Tryz.prog V77:=eok_mk (by exact trivial)
def Af77(F:Nat):Cuts:={ F:=F,at_:=fun _=>none,join:=fun _=>none }
def ef77_a:Li×Li→St:=fun (a0,a1)=>⟨[(0,(.vs (.rI .u8 a0) 0 1)),(1,(.vs (.rI .u8 a1) 0 1))],[],0,10,0⟩
def f77_1(F:Nat):Li×Li→Rz:=fun (a0,a1)=>(some ((.bool ((a0:Li)==(a1:Li))),[]))
theorem f77_1_eq(F:Nat):∀ v,aexec V77 (Af77 F) (sub (bodyOf Tryz.f77) []) (ef77_a v) Kf19=f77_1 F v:=by
 rintro⟨a0,a1⟩;kernel_rfl
def f77(F:Nat):Li×Li→Rz:=f77_1 F
theorem f77_body(F:Nat)(a0 a1:Li):abody V77 (Af77 F) Tryz.f77 [(.vs (.rI .u8 a0) 0 1),(.vs (.rI .u8 a1) 0 1)] []=f77 F (a0,a1):=
 (abody_in (by kernel_rfl) (by kernel_rfl)).trans (f77_1_eq F (a0,a1))
def r77:CRun:=fun X H=>match X,H with
 | [(.vs (.rI .u8 a0) 0 1),(.vs (.rI .u8 a1) 0 1)],[]=>some (true,(.bool (a0==a1)),[])
 | _,_=>none
theorem s77(a0 a1:Li)(h0:okV (.vs (.rI .u8 a0) 0 1))(h1:okV (.vs (.rI .u8 a1) 0 1)):∃ F,f77 F (a0,a1)=some ((.bool (a0==a1)),[]):=by
 refine⟨0,?_⟩
 simp only [f77,f77_1]
theorem c77:CallOk Tryz.prog G36Z 77 r77:=callOk_of mixed tys eV77 Tryz.func77 (by kernel_rfl) (c:=sub (bodyOf Tryz.f77) []) (by kernel_rfl) (by
 intro X H r H' h hX hH
 unfold r77 at h;split at h <;> try contradiction
 ·obtain⟨hp,rfl,rfl⟩:=inj3 h
  obtain⟨F,hF⟩:=s77 _ _ (hX _ hm0) (hX _ hm1)
  exact⟨Af77 F,(f77_body F _ _).trans hF⟩)
def lV10:List CEnt:=[]
def V10:Env:=mkEnv T36Z G36Z lV10
noncomputable abbrev Kf20:=kFin V10 none (Tryz.f10).results.toList
theorem eV10:EOk Tryz.prog V10:=eok_mk (by exact trivial)
def Af10(F:Nat):Cuts:={ F:=F,at_:=fun n=>match n with | 4016=>some sp39 | _=>none,join:=fun n=>match n with | 1032=>some sp37 | 3024=>some sp37 | 4018=>some sp39 | 8003=>some [] | _=>none }
noncomputable abbrev XAf10(F:Nat){α:Type}:=@aexec α V10 (Af10 F)
def ef10_a:Ty24→St:=fun (a0,a1)=>⟨[(0,(.vs (.rS a0) 0 1)),(1,(.vs (.rS a1) 0 1))],[],0,26,0⟩
def ef10j1:Ty24→St:=fun (t0,t1)=>⟨[(0,(.vs (.rS t0) 0 1)),(1,(.vs (.rS t1) 0 1))],[],0,26,0⟩
def ef10j2:Ty24→St:=ef10j1
def ef10j3:Ty25→St:=fun (t0,t1,t5)=>⟨[(0,(.vs (.rS t0) 0 1)),(1,(.vs (.rS t1) 0 1)),(5,.int .i64 t5)],[],0,26,0⟩
def ef10l1:Ty25→St:=ef10j3
def ef10j4:Unit→St:=fun _=>⟨[],[],0,26,0⟩
def f10_1(F:Nat)(kj1:Ty24→Rz):Ty24→Rz:=fun (a0,a1)=>(kj1 (a0,a1))
theorem f10_1_eq(F:Nat)(Rj1:St→Rz):∀ v,XAf10 F (bp Tryz.f10 2) (ef10_a v) (kSeq (kc V10 Rj1 sp37) Kf20)=f10_1 F (Rj1∘ef10j1) v:=by
 rintro⟨a0,a1⟩;kernel_rfl
def f10_2(F:Nat)(kj2:Ty24→Rz):Ty24→Rz:=fun (t0,t1)=>(cond ((↑t0.length:Int) != (↑t1.length:Int)) (some ((.bool false),[])) (kj2 (t0,t1)))
theorem f10_2_eq(F:Nat)(Rj2:St→Rz):∀ v,XAf10 F (bp Tryz.f10 6) (ef10j1 v) (kSeq (kc V10 Rj2 sp37) Kf20)=f10_2 F (Rj2∘ef10j2) v:=by
 rintro⟨t0,t1⟩;kernel_rfl
def f10_3(F:Nat)(kj3:Ty25→Rz)(kj4:Unit→Rz):Ty24→Rz:=fun (t0,t1)=>(kj3 (t0,t1,(0:Int)))
theorem f10_3_eq(F:Nat)(Rj3 Rj4:St→Rz):∀ v,XAf10 F (bp Tryz.f10 28) (ef10j2 v) (kSeq (kc V10 Rj3 sp39) (kSeq (kc V10 Rj4 []) Kf20))=f10_3 F (Rj3∘ef10j3) (Rj4∘ef10j4) v:=by
 rintro⟨t0,t1⟩;kernel_rfl
def f10_4(F:Nat)(kl1:Ty25→Rz)(kj4:Unit→Rz):Ty25→Rz:=fun (t0,t1,t5)=>(cond (decide (t5 < (↑t0.length:Int))) (cond ((decide (0≤t5))&&(decide (t5 < (↑t0.length:Int)))) (cond ((decide (0≤t5))&&(decide (t5 < (↑t1.length:Int)))) (cond (!(((t0.getD (Int.toNat t5) []):Li)==((t1.getD (Int.toNat t5) []):Li))) (some ((.bool false),[])) (kl1 (t0,t1,(IntKind.i64.wrap (t5+(1:Int)))))) none) none) (kj4 ()))
theorem f10_4_eq(F:Nat)(Rl1 Rj4:St→Rz):∀ v,XAf10 F (bp Tryz.f10 116) (ef10l1 v) (kSeq (kc V10 Rl1 sp39) (kBlock 0 (kSeq (kc V10 Rj4 []) Kf20)))=f10_4 F (Rl1∘ef10l1) (Rj4∘ef10j4) v:=by
 rintro⟨t0,t1,t5⟩;kernel_rfl
def f10_5_i:Ty25→(List Li)×(List Li)×Int:=fun (t0,t1,t5)=>(t0,t1,t5)
def f10_5(F:Nat)(kj4:Unit→Rz):Ty25→Rz:=fun v=>loopN (fun k=>f10_4 F k kj4) F (f10_5_i v)
theorem f10_5_eq(F:Nat)(Rj4:St→Rz):∀ v,XAf10 F (bp Tryz.f10 58) (ef10j3 v) (kBlock 0 (kSeq (kc V10 Rj4 []) Kf20))=f10_5 F (Rj4∘ef10j4) v:=
 loop_cut (by kernel_rfl) (by kernel_rfl) ef10j3 ef10l1 _ f10_5_i (fun k=>f10_4 F k (Rj4∘ef10j4))
  (by rintro⟨t0,t1,t5⟩;kernel_rfl) (fun Rl1=>f10_4_eq F Rl1 Rj4)
def f10_6(F:Nat)(kj4:Unit→Rz):Ty25→Rz:=f10_5 F kj4
theorem f10_6_eq(F:Nat)(Rj4:St→Rz):∀ v,XAf10 F (bp Tryz.f10 29) (ef10j3 v) (kSeq (kc V10 Rj4 []) Kf20)=f10_6 F (Rj4∘ef10j4) v:=fun v=>
 (block_in  (by kernel_rfl) _ _).trans (f10_5_eq F Rj4 v)
def f10_7(F:Nat)(kj4:Unit→Rz):Ty24→Rz:=fun v=>f10_3 F (f10_6 F kj4) kj4 v
theorem f10_7_eq(F:Nat)(Rj4:St→Rz):∀ v,XAf10 F (bp Tryz.f10 14) (ef10j2 v) (kSeq (kc V10 Rj4 []) Kf20)=f10_7 F (Rj4∘ef10j4) v:=
 seq_cut (by kernel_rfl) (by kernel_rfl) ef10j2 ef10j3 _ (fun k=>f10_3 F k (Rj4∘ef10j4)) (f10_6 F (Rj4∘ef10j4))
  (fun Rj3=>f10_3_eq F Rj3 Rj4) (f10_6_eq F Rj4)
def f10_8(F:Nat):Unit→Rz:=fun _=>(some ((.bool true),[]))
theorem f10_8_eq(F:Nat):∀ v,XAf10 F (bp Tryz.f10 15) (ef10j4 v) Kf20=f10_8 F v:=by
 intro _;kernel_rfl
def f10_9(F:Nat):Ty24→Rz:=fun v=>f10_7 F (f10_8 F) v
theorem f10_9_eq(F:Nat):∀ v,XAf10 F (bp Tryz.f10 7) (ef10j2 v) Kf20=f10_9 F v:=
 seq_cut (by kernel_rfl) (by kernel_rfl) ef10j2 ef10j4 _ (fun k=>f10_7 F k) (f10_8 F)
  (fun Rj4=>f10_7_eq F Rj4) (f10_8_eq F)
def f10_10(F:Nat):Ty24→Rz:=fun v=>f10_2 F (f10_9 F) v
theorem f10_10_eq(F:Nat):∀ v,XAf10 F (bp Tryz.f10 3) (ef10j1 v) Kf20=f10_10 F v:=
 seq_cut (by kernel_rfl) (by kernel_rfl) ef10j1 ef10j2 _ (fun k=>f10_2 F k) (f10_9 F)
  (fun Rj2=>f10_2_eq F Rj2) (f10_9_eq F)
def f10_11(F:Nat):Ty24→Rz:=fun v=>f10_1 F (f10_10 F) v
theorem f10_11_eq(F:Nat):∀ v,XAf10 F (sub (bodyOf Tryz.f10) []) (ef10_a v) Kf20=f10_11 F v:=
 seq_cut (by kernel_rfl) (by kernel_rfl) ef10_a ef10j1 _ (fun k=>f10_1 F k) (f10_10 F)
  (fun Rj1=>f10_1_eq F Rj1) (f10_10_eq F)
def f10(F:Nat):Ty24→Rz:=f10_11 F
theorem f10_body(F:Nat)(a0 a1:List Li):abody V10 (Af10 F) Tryz.f10 [(.vs (.rS a0) 0 1),(.vs (.rS a1) 0 1)] []=f10 F (a0,a1):=
 (abody_in (by kernel_rfl) (by kernel_rfl)).trans (f10_11_eq F (a0,a1))
def r10:CRun:=fun X H=>match X,H with
 | [(.vs (.rS a0) 0 1),(.vs (.rS a1) 0 1)],[]=>some ((decide (a0.length < 1073741824)),(.bool (a0==a1)),[])
 | _,_=>none
theorem s10(a0 a1:List Li)(hp:((decide (a0.length < 1073741824)))=true)(h0:okV (.vs (.rS a0) 0 1))(h1:okV (.vs (.rS a1) 0 1)):∃ F,f10 F (a0,a1)=some ((.bool (a0==a1)),[]):=by
 rw [decide_eq_true_iff] at hp
 refine⟨a0.length+1,?_⟩
 simp only [f10,f10_11,f10_1,f10_10,f10_2,f10_9,f10_7,f10_8,f10_3,f10_6,f10_5,f10_5_i]
 by_cases hl:a0.length=a1.length
 ·have e:((a0.length:Int) != (a1.length:Int))=false:=by simp [hl]
  rw [e,cond_false]
  refine loopN_ind (fun m s=>∃ k:Nat,s=(a0,a1,(k:Int))∧m=a0.length-k∧k≤a0.length ∧ ∀ j,j < k→a0.getD j []=a1.getD j []) (fun m s K hi hk=>?_) (a0.length+1) a0.length _ (by omega) ⟨0,rfl,by omega,by omega,fun j hj=>by omega⟩
  obtain⟨k,rfl,hm,hle,heq⟩:=hi
  simp only [f10_4,Int.toNat_natCast]
  by_cases hlt:k < a0.length
  ·have e1:(decide (0≤(k:Int))&&decide ((k:Int) < (a0.length:Int)))=true:=by rw [dec_and,decide_eq_true_iff];omega
   have e2:(decide (0≤(k:Int))&&decide ((k:Int) < (a1.length:Int)))=true:=by rw [dec_and,decide_eq_true_iff];omega
   rw [cond_pos (show(k:Int) < (a0.length:Int) by omega),e1,e2,cond_true,cond_true,i64w (by omega) (by omega)]
   by_cases h:a0.getD k []=a1.getD k []
   ·have e3:(!(((a0.getD k []):Li)==((a1.getD k []):Li)))=false:=by rw [h];simp
    rw [e3,cond_false]
    exact hk (m-1) _ (by omega) ⟨k+1,rfl,by omega,by omega,fun j hj=>by
     by_cases hj':j=k
     ·subst hj';exact h
     ·exact heq j (by omega)⟩
   ·have e3:(!(((a0.getD k []):Li)==((a1.getD k []):Li)))=true:=by simpa using h
    rw [e3,cond_true]
    have e4:(a0==a1)=false:=by rw [beq_eq_false_iff_ne];intro h';exact h (by rw [h'])
    rw [e4]
  ·rw [cond_neg (by omega)]
   have e4:(a0==a1)=true:=by rw [beq_iff_eq];exact list_eq [] hl fun j hj=>heq j (by omega)
   rw [e4];rfl
 ·have e:((a0.length:Int) != (a1.length:Int))=true:=by simp;omega
  have e4:(a0==a1)=false:=by rw [beq_eq_false_iff_ne];intro h';exact hl (by rw [h'])
  rw [e,cond_true,e4]
theorem c10:CallOk Tryz.prog G36Z 10 r10:=callOk_of mixed tys eV10 Tryz.func10 (by kernel_rfl) (c:=sub (bodyOf Tryz.f10) []) (by kernel_rfl) (by
 intro X H r H' h hX hH
 unfold r10 at h;split at h <;> try contradiction
 ·obtain⟨hp,rfl,rfl⟩:=inj3 h
  obtain⟨F,hF⟩:=s10 _ _ hp (hX _ hm0) (hX _ hm1)
  exact⟨Af10 F,(f10_body F _ _).trans hF⟩)
def lV36:List CEnt:=[]
def V36:Env:=mkEnv T36Z G36Z lV36
noncomputable abbrev Kf21:=kFin V36 none (Tryz.f36).results.toList
theorem eV36:EOk Tryz.prog V36:=eok_mk (by exact trivial)
def Af36(F:Nat):Cuts:={ F:=F,at_:=fun n=>match n with | 4016=>some sp39 | _=>none,join:=fun n=>match n with | 1032=>some sp37 | 3024=>some sp37 | 4018=>some sp39 | 8003=>some [] | _=>none }
noncomputable abbrev XAf36(F:Nat){α:Type}:=@aexec α V36 (Af36 F)
def ef36_a:Li×Li→St:=fun (a0,a1)=>⟨[(0,(.vs (.rI .i64 a0) 0 1)),(1,(.vs (.rI .i64 a1) 0 1))],[],0,26,0⟩
def ef36j1:Li×Li→St:=fun (t0,t1)=>⟨[(0,(.vs (.rI .i64 t0) 0 1)),(1,(.vs (.rI .i64 t1) 0 1))],[],0,26,0⟩
def ef36j2:Li×Li→St:=ef36j1
def ef36j3:Ty13→St:=fun (t0,t1,t5)=>⟨[(0,(.vs (.rI .i64 t0) 0 1)),(1,(.vs (.rI .i64 t1) 0 1)),(5,.int .i64 t5)],[],0,26,0⟩
def ef36l1:Ty13→St:=ef36j3
def ef36j4:Unit→St:=ef10j4
def f36_1(F:Nat)(kj1:Li×Li→Rz):Li×Li→Rz:=fun (a0,a1)=>(kj1 (a0,a1))
theorem f36_1_eq(F:Nat)(Rj1:St→Rz):∀ v,XAf36 F (bp Tryz.f36 2) (ef36_a v) (kSeq (kc V36 Rj1 sp37) Kf21)=f36_1 F (Rj1∘ef36j1) v:=by
 rintro⟨a0,a1⟩;kernel_rfl
def f36_2(F:Nat)(kj2:Li×Li→Rz):Li×Li→Rz:=fun (t0,t1)=>(cond ((↑t0.length:Int) != (↑t1.length:Int)) (some ((.bool false),[])) (kj2 (t0,t1)))
theorem f36_2_eq(F:Nat)(Rj2:St→Rz):∀ v,XAf36 F (bp Tryz.f36 6) (ef36j1 v) (kSeq (kc V36 Rj2 sp37) Kf21)=f36_2 F (Rj2∘ef36j2) v:=by
 rintro⟨t0,t1⟩;kernel_rfl
def f36_3(F:Nat)(kj3:Ty13→Rz)(kj4:Unit→Rz):Li×Li→Rz:=fun (t0,t1)=>(kj3 (t0,t1,(0:Int)))
theorem f36_3_eq(F:Nat)(Rj3 Rj4:St→Rz):∀ v,XAf36 F (bp Tryz.f36 28) (ef36j2 v) (kSeq (kc V36 Rj3 sp39) (kSeq (kc V36 Rj4 []) Kf21))=f36_3 F (Rj3∘ef36j3) (Rj4∘ef36j4) v:=by
 rintro⟨t0,t1⟩;kernel_rfl
def f36_4(F:Nat)(kl1:Ty13→Rz)(kj4:Unit→Rz):Ty13→Rz:=fun (t0,t1,t5)=>(cond (decide (t5 < (↑t0.length:Int))) (cond ((decide (0≤t5))&&(decide (t5 < (↑t0.length:Int)))) (cond ((decide (0≤t5))&&(decide (t5 < (↑t1.length:Int)))) (cond ((t0.getD (Int.toNat t5) 0) != (t1.getD (Int.toNat t5) 0)) (some ((.bool false),[])) (kl1 (t0,t1,(IntKind.i64.wrap (t5+(1:Int)))))) none) none) (kj4 ()))
theorem f36_4_eq(F:Nat)(Rl1 Rj4:St→Rz):∀ v,XAf36 F (bp Tryz.f36 116) (ef36l1 v) (kSeq (kc V36 Rl1 sp39) (kBlock 0 (kSeq (kc V36 Rj4 []) Kf21)))=f36_4 F (Rl1∘ef36l1) (Rj4∘ef36j4) v:=by
 rintro⟨t0,t1,t5⟩;kernel_rfl
def f36_5_i:Ty13→Li×Li×Int:=fun (t0,t1,t5)=>(t0,t1,t5)
def f36_5(F:Nat)(kj4:Unit→Rz):Ty13→Rz:=fun v=>loopN (fun k=>f36_4 F k kj4) F (f36_5_i v)
theorem f36_5_eq(F:Nat)(Rj4:St→Rz):∀ v,XAf36 F (bp Tryz.f36 58) (ef36j3 v) (kBlock 0 (kSeq (kc V36 Rj4 []) Kf21))=f36_5 F (Rj4∘ef36j4) v:=
 loop_cut (by kernel_rfl) (by kernel_rfl) ef36j3 ef36l1 _ f36_5_i (fun k=>f36_4 F k (Rj4∘ef36j4))
  (by rintro⟨t0,t1,t5⟩;kernel_rfl) (fun Rl1=>f36_4_eq F Rl1 Rj4)
def f36_6(F:Nat)(kj4:Unit→Rz):Ty13→Rz:=f36_5 F kj4
theorem f36_6_eq(F:Nat)(Rj4:St→Rz):∀ v,XAf36 F (bp Tryz.f36 29) (ef36j3 v) (kSeq (kc V36 Rj4 []) Kf21)=f36_6 F (Rj4∘ef36j4) v:=fun v=>
 (block_in  (by kernel_rfl) _ _).trans (f36_5_eq F Rj4 v)
def f36_7(F:Nat)(kj4:Unit→Rz):Li×Li→Rz:=fun v=>f36_3 F (f36_6 F kj4) kj4 v
theorem f36_7_eq(F:Nat)(Rj4:St→Rz):∀ v,XAf36 F (bp Tryz.f36 14) (ef36j2 v) (kSeq (kc V36 Rj4 []) Kf21)=f36_7 F (Rj4∘ef36j4) v:=
 seq_cut (by kernel_rfl) (by kernel_rfl) ef36j2 ef36j3 _ (fun k=>f36_3 F k (Rj4∘ef36j4)) (f36_6 F (Rj4∘ef36j4))
  (fun Rj3=>f36_3_eq F Rj3 Rj4) (f36_6_eq F Rj4)
def f36_8(F:Nat):Unit→Rz:=fun _=>(some ((.bool true),[]))
theorem f36_8_eq(F:Nat):∀ v,XAf36 F (bp Tryz.f36 15) (ef36j4 v) Kf21=f36_8 F v:=by
 intro _;kernel_rfl
def f36_9(F:Nat):Li×Li→Rz:=fun v=>f36_7 F (f36_8 F) v
theorem f36_9_eq(F:Nat):∀ v,XAf36 F (bp Tryz.f36 7) (ef36j2 v) Kf21=f36_9 F v:=
 seq_cut (by kernel_rfl) (by kernel_rfl) ef36j2 ef36j4 _ (fun k=>f36_7 F k) (f36_8 F)
  (fun Rj4=>f36_7_eq F Rj4) (f36_8_eq F)
def f36_10(F:Nat):Li×Li→Rz:=fun v=>f36_2 F (f36_9 F) v
theorem f36_10_eq(F:Nat):∀ v,XAf36 F (bp Tryz.f36 3) (ef36j1 v) Kf21=f36_10 F v:=
 seq_cut (by kernel_rfl) (by kernel_rfl) ef36j1 ef36j2 _ (fun k=>f36_2 F k) (f36_9 F)
  (fun Rj2=>f36_2_eq F Rj2) (f36_9_eq F)
def f36_11(F:Nat):Li×Li→Rz:=fun v=>f36_1 F (f36_10 F) v
theorem f36_11_eq(F:Nat):∀ v,XAf36 F (sub (bodyOf Tryz.f36) []) (ef36_a v) Kf21=f36_11 F v:=
 seq_cut (by kernel_rfl) (by kernel_rfl) ef36_a ef36j1 _ (fun k=>f36_1 F k) (f36_10 F)
  (fun Rj1=>f36_1_eq F Rj1) (f36_10_eq F)
def f36(F:Nat):Li×Li→Rz:=f36_11 F
theorem f36_body(F:Nat)(a0 a1:Li):abody V36 (Af36 F) Tryz.f36 [(.vs (.rI .i64 a0) 0 1),(.vs (.rI .i64 a1) 0 1)] []=f36 F (a0,a1):=
 (abody_in (by kernel_rfl) (by kernel_rfl)).trans (f36_11_eq F (a0,a1))
def r36:CRun:=fun X H=>match X,H with
 | [(.vs (.rI .i64 a0) 0 1),(.vs (.rI .i64 a1) 0 1)],[]=>some ((decide (a0.length < 1073741824)),(.bool (a0==a1)),[])
 | _,_=>none
theorem s36(a0 a1:Li)(hp:((decide (a0.length < 1073741824)))=true)(h0:okV (.vs (.rI .i64 a0) 0 1))(h1:okV (.vs (.rI .i64 a1) 0 1)):∃ F,f36 F (a0,a1)=some ((.bool (a0==a1)),[]):=by
 rw [decide_eq_true_iff] at hp
 refine⟨a0.length+1,?_⟩
 simp only [f36,f36_11,f36_1,f36_10,f36_2,f36_9,f36_7,f36_8,f36_3,f36_6,f36_5,f36_5_i]
 by_cases hl:a0.length=a1.length
 ·have e:((a0.length:Int) != (a1.length:Int))=false:=by simp [hl]
  rw [e,cond_false]
  refine loopN_ind (fun m s=>∃ k:Nat,s=(a0,a1,(k:Int))∧m=a0.length-k∧k≤a0.length ∧ ∀ j,j < k→a0.getD j 0=a1.getD j 0) (fun m s K hi hk=>?_) (a0.length+1) a0.length _ (by omega) ⟨0,rfl,by omega,by omega,fun j hj=>by omega⟩
  obtain⟨k,rfl,hm,hle,heq⟩:=hi
  simp only [f36_4,Int.toNat_natCast]
  by_cases hlt:k < a0.length
  ·have e1:(decide (0≤(k:Int))&&decide ((k:Int) < (a0.length:Int)))=true:=by rw [dec_and,decide_eq_true_iff];omega
   have e2:(decide (0≤(k:Int))&&decide ((k:Int) < (a1.length:Int)))=true:=by rw [dec_and,decide_eq_true_iff];omega
   rw [cond_pos (show(k:Int) < (a0.length:Int) by omega),e1,e2,cond_true,cond_true,i64w (by omega) (by omega)]
   by_cases h:a0.getD k 0=a1.getD k 0
   ·have e3:(a0.getD k 0 != a1.getD k 0)=false:=by rw [h];simp
    rw [e3,cond_false]
    exact hk (m-1) _ (by omega) ⟨k+1,rfl,by omega,by omega,fun j hj=>by
     by_cases hj':j=k
     ·subst hj';exact h
     ·exact heq j (by omega)⟩
   ·have e3:(a0.getD k 0 != a1.getD k 0)=true:=by simpa using h
    rw [e3,cond_true]
    have e4:(a0==a1)=false:=by rw [beq_eq_false_iff_ne];intro h';exact h (by rw [h'])
    rw [e4]
  ·rw [cond_neg (by omega)]
   have e4:(a0==a1)=true:=by rw [beq_iff_eq];exact list_eq 0 hl fun j hj=>heq j (by omega)
   rw [e4];rfl
 ·have e:((a0.length:Int) != (a1.length:Int))=true:=by simp;omega
  have e4:(a0==a1)=false:=by rw [beq_eq_false_iff_ne];intro h';exact hl (by rw [h'])
  rw [e,cond_true,e4]
theorem c36:CallOk Tryz.prog G36Z 36 r36:=callOk_of mixed tys eV36 Tryz.func36 (by kernel_rfl) (c:=sub (bodyOf Tryz.f36) []) (by kernel_rfl) (by
 intro X H r H' h hX hH
 unfold r36 at h;split at h <;> try contradiction
 ·obtain⟨hp,rfl,rfl⟩:=inj3 h
  obtain⟨F,hF⟩:=s36 _ _ hp (hX _ hm0) (hX _ hm1)
  exact⟨Af36 F,(f36_body F _ _).trans hF⟩)
def lV74:List CEnt:=[]
def V74:Env:=mkEnv T36Z G36Z lV74
noncomputable abbrev Kf22:=kFin V74 none (Tryz.f74).results.toList
theorem eV74:EOk Tryz.prog V74:=eok_mk (by exact trivial)
def Af74(F:Nat):Cuts:={ F:=F,at_:=fun _=>none,join:=fun _=>none }
def ef74_a:Int×Li→St:=fun (a0,a1)=>⟨[(0,.int .i64 a0),(1,.str a1)],[],0,6,0⟩
def f74_1(F:Nat):Int×Li→Rz:=fun (a0,a1)=>(some ((.fn 90 (.cons 0 (.ptr 0 0 1 0 0 0 1) (.cons 0 (.ptr 1 0 1 0 0 0 1) .nil))),[(.cells 1 (.one (.str a1)) true),(.cells 1 (.one (.int .i64 a0)) true)]))
theorem f74_1_eq(F:Nat):∀ v,aexec V74 (Af74 F) (sub (bodyOf Tryz.f74) []) (ef74_a v) Kf22=f74_1 F v:=by
 rintro⟨a0,a1⟩;kernel_rfl
def f74(F:Nat):Int×Li→Rz:=f74_1 F
theorem f74_body(F:Nat)(a0:Int)(a1:Li):abody V74 (Af74 F) Tryz.f74 [(.int .i64 a0),.str a1] []=f74 F (a0,a1):=
 (abody_in (by kernel_rfl) (by kernel_rfl)).trans (f74_1_eq F (a0,a1))
def r74:CRun:=fun X H=>match X,H with
 | [(.int .i64 a0),.str a1],[]=>some (true,(.fn 90 (.cons 0 (.ptr 0 0 1 0 0 0 1) (.cons 0 (.ptr 1 0 1 0 0 0 1) .nil))),[(.cells 1 (.one (.str a1)) true),(.cells 1 (.one (.int .i64 a0)) true)])
 | _,_=>none
theorem s74(a0:Int)(a1:Li)(h0:okV (.int .i64 a0))(h1:okV (.str a1)):∃ F,f74 F (a0,a1)=some ((.fn 90 (.cons 0 (.ptr 0 0 1 0 0 0 1) (.cons 0 (.ptr 1 0 1 0 0 0 1) .nil))),[(.cells 1 (.one (.str a1)) true),(.cells 1 (.one (.int .i64 a0)) true)]):=⟨0,rfl⟩
theorem c74:CallOk Tryz.prog G36Z 74 r74:=callOk_of mixed tys eV74 Tryz.func74 (by kernel_rfl) (c:=sub (bodyOf Tryz.f74) []) (by kernel_rfl) (by
 intro X H r H' h hX hH
 unfold r74 at h;split at h <;> try contradiction
 ·obtain⟨hp,rfl,rfl⟩:=inj3 h
  obtain⟨F,hF⟩:=s74 _ _ (hX _ hm0) (hX _ hm1)
  exact⟨Af74 F,(f74_body F _ _).trans hF⟩)
end Go.Am
