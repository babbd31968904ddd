/- Part of a proof. -/
import Derived.Test.YtffddoahjpemaaaDoorAm36C
import Derived.Test.YtffddoahjpemaaaDoorAmJrn
set_option linter.unusedVariables false
set_option linter.unusedSimpArgs false
namespace Go.Am
open Go Go.Proofs
abbrev sp35:List (Nat×Md):=[(0,.plain),(3,.plain),(4,.plain)]
abbrev sp36:List (Nat×Md):=[(0,.plain),(1,.plain),(5,.own 5),(6,.plain)]
abbrev sp37:List (Nat×Md):=[(0,.plain),(1,.plain)]
abbrev sp38:List (Nat×Md):=[(0,.plain),(1,.plain),(5,.own 5)]
abbrev sp39:List (Nat×Md):=[(0,.plain),(1,.plain),(5,.plain)]
abbrev Ty23:=Int×Int×Int×Li
abbrev Ty24:=(List Li)×(List Li)
abbrev Ty25:=(List Li)×(List Li)×Int
def lV11:List CEnt:=[]
def V11:Env:=mkEnv T36 G36 lV11
noncomputable abbrev Kf13:=kFin V11 none (Tryd.f11).results.toList
theorem eV11:EOk Tryd.prog V11:=eok_mk (by exact trivial)
def Af11(F:Nat):Cuts:={ F:=F,at_:=fun _=>none,join:=fun _=>none }
def ef11_a:Int→St:=fun a0=>⟨[(0,.int .i64 a0)],[],0,14,0⟩
def f11_1(F:Nat):Int→Rz:=fun a0=>(cond (decide (a0 < (0:Int))) (some ((.int .i64 0),[])) (cond (decide (a0 > (8000:Int))) (some ((.int .i64 0),[])) (some ((.int .i64 (if (IntKind.i64.wrap (Int.tdiv (IntKind.i64.wrap ((IntKind.i64.wrap (a0+(48:Int)))-(1:Int))) (48:Int))) > (1:Int) then (IntKind.i64.wrap (Int.tdiv (IntKind.i64.wrap ((IntKind.i64.wrap (a0+(48:Int)))-(1:Int))) (48:Int))) else (1:Int))),[]))))
theorem f11_1_eq(F:Nat):∀ v,aexec V11 (Af11 F) (sub (bodyOf Tryd.f11) []) (ef11_a v) Kf13=f11_1 F v:=by
 intro a0;kernel_rfl
def f11(F:Nat):Int→Rz:=f11_1 F
theorem f11_body(F:Nat)(a0:Int):abody V11 (Af11 F) Tryd.f11 [(.int .i64 a0)] []=f11 F a0:=
 (abody_in (c:=(sub (bodyOf Tryd.f11) [])) (by kernel_rfl) (s:=ef11_a a0) (by kernel_rfl)).trans (f11_1_eq F a0)
def r11:CRun:=fun X H=>match X,H with
 | [(.int .i64 a0)],[]=>some (true,(.int .i64 (Jr.count a0)),[])
 | _,_=>none
theorem s11(a0:Int)(h0:okV (.int .i64 a0)):∃ F,f11 F a0=some ((.int .i64 (Jr.count a0)),[]):=by
 have hw:=h0
 refine⟨0,?_⟩
 simp only [f11,f11_1]
 by_cases h1:a0 < 0
 ·rw [cond_pos h1,Jr.count,cond_pos (.inl h1)]
 by_cases h2:a0 > 8000
 ·rw [cond_neg h1,cond_pos h2,Jr.count,cond_pos (.inr h2)]
 rw [cond_neg h1,cond_neg h2,Jr.count,cond_neg (by omega),i64w (x:=a0+48) (by omega) (by omega),i64w (x:=a0+48-1) (by omega) (by omega),tdiv_nn (by omega),i64w (by omega) (by omega),show a0+48-1=a0+47 by omega]
theorem c11:CallOk Tryd.prog G36 11 r11:=callOk_of mixed tys eV11 Tryd.func11 (by kernel_rfl) (c:=sub (bodyOf Tryd.f11) []) (by kernel_rfl) (by
 intro X H r H' h hX hH
 unfold r11 at h;split at h <;> try contradiction
 ·obtain⟨hp,rfl,rfl⟩:=inj3 h
  obtain⟨F,hF⟩:=s11 _ (hX _ hm0)
  exact⟨Af11 F,(f11_body F _).trans hF⟩)
def lV12:List CEnt:=[]
def V12:Env:=mkEnv T36 G36 lV12
noncomputable abbrev Kf14:=kFin V12 none (Tryd.f12).results.toList
theorem eV12:EOk Tryd.prog V12:=eok_mk (by exact trivial)
def Af12(F:Nat):Cuts:={ F:=F,at_:=fun _=>none,join:=fun _=>none }
def ef12_a:Int→St:=ef11_a
def f12_1(F:Nat):Int→Rz:=fun a0=>(cond (decide (a0 < (0:Int))) (some ((.int .i64 0),[])) (cond (decide (a0 > (8000:Int))) (some ((.int .i64 0),[])) (cond (a0==(0:Int)) (some ((.int .i64 1),[])) (some ((.int .i64 (IntKind.i64.wrap (Int.tdiv (IntKind.i64.wrap (a0+(47:Int))) (48:Int)))),[])))))
theorem f12_1_eq(F:Nat):∀ v,aexec V12 (Af12 F) (sub (bodyOf Tryd.f12) []) (ef12_a v) Kf14=f12_1 F v:=by
 intro a0;kernel_rfl
def f12(F:Nat):Int→Rz:=f12_1 F
theorem f12_body(F:Nat)(a0:Int):abody V12 (Af12 F) Tryd.f12 [(.int .i64 a0)] []=f12 F a0:=
 (abody_in (c:=(sub (bodyOf Tryd.f12) [])) (by kernel_rfl) (s:=ef12_a a0) (by kernel_rfl)).trans (f12_1_eq F a0)
def r12:CRun:=fun X H=>match X,H with
 | [(.int .i64 a0)],[]=>some (true,(.int .i64 (Jr.count a0)),[])
 | _,_=>none
theorem s12(a0:Int)(h0:okV (.int .i64 a0)):∃ F,f12 F a0=some ((.int .i64 (Jr.count a0)),[]):=by
 refine⟨0,?_⟩
 simp only [f12,f12_1,int_beq]
 by_cases h1:a0 < 0
 ·rw [cond_pos h1,Jr.count,cond_pos (.inl h1)]
 by_cases h2:a0 > 8000
 ·rw [cond_neg h1,cond_pos h2,Jr.count,cond_pos (.inr h2)]
 by_cases h3:a0=0
 ·rw [cond_neg h1,cond_neg h2,cond_pos h3,Jr.count,cond_neg (by omega),if_neg (by omega)]
 rw [cond_neg h1,cond_neg h2,cond_neg h3,Jr.count,cond_neg (by omega),i64w (x:=a0+47) (by omega) (by omega),tdiv_nn (by omega),i64w (by omega) (by omega)]
 split
 ·rfl
 ·rw [show(a0+47) / 48=1 by omega]
theorem c12:CallOk Tryd.prog G36 12 r12:=callOk_of mixed tys eV12 Tryd.func12 (by kernel_rfl) (c:=sub (bodyOf Tryd.f12) []) (by kernel_rfl) (by
 intro X H r H' h hX hH
 unfold r12 at h;split at h <;> try contradiction
 ·obtain⟨hp,rfl,rfl⟩:=inj3 h
  obtain⟨F,hF⟩:=s12 _ (hX _ hm0)
  exact⟨Af12 F,(f12_body F _).trans hF⟩)
def lV46:List CEnt:=[]
def V46:Env:=mkEnv T36 G36 lV46
noncomputable abbrev Kf15:=kFin V46 none (Tryd.f46).results.toList
theorem eV46:EOk Tryd.prog V46:=eok_mk (by exact trivial)
def Af46a(F:Nat):Cuts:={ F:=F+6,at_:=fun _=>none,join:=fun _=>none }
def ef46a_a:Li×Int→St:=fun (a0,a1)=>⟨[(0,.sl 0 0 64 0 4 1),(1,.int .i64 a1)],[(0,(.cells 64 (.rI .u8 a0) true))],1,18,1⟩
def f46a_1(F:Nat):Li×Int→Rz:=fun (a0,a1)=>(some ((.tup .nil),[(.cells 64 (.rI .u8 ((((a0.set 0 (IntKind.u8.wrap a1)).set 1 (IntKind.u8.wrap (Int.fdiv a1 (2^8)))).set 2 (IntKind.u8.wrap (Int.fdiv (Int.fdiv a1 (2^8)) (2^8)))).set 3 (IntKind.u8.wrap (Int.fdiv (Int.fdiv (Int.fdiv a1 (2^8)) (2^8)) (2^8))))) true)]))
theorem f46a_1_eq(F:Nat):∀ v,aexec V46 (Af46a F) (sub (bodyOf Tryd.f46) []) (ef46a_a v) Kf15=f46a_1 F v:=by
 rintro⟨a0,a1⟩;kernel_rfl
def f46a(F:Nat):Li×Int→Rz:=f46a_1 F
theorem f46a_body(F:Nat)(a0:Li)(a1:Int):abody V46 (Af46a F) Tryd.f46 [(.sl 0 0 64 0 4 1),.int .i64 a1] [(.cells 64 (.rI .u8 a0) true)]=f46a F (a0,a1):=
 (abody_in (by kernel_rfl) (by kernel_rfl)).trans (f46a_1_eq F (a0,a1))
def Af46b(F:Nat):Cuts:={ F:=F+6,at_:=fun _=>none,join:=fun _=>none }
def ef46b_a:Li×Int→St:=fun (a0,a1)=>⟨[(0,.sl 0 0 64 4 2 1),(1,.int .i64 a1)],[(0,(.cells 64 (.rI .u8 a0) true))],1,18,1⟩
def f46b_1(F:Nat):Li×Int→Rz:=fun (a0,a1)=>(some ((.tup .nil),[(.cells 64 (.rI .u8 ((a0.set 4 (IntKind.u8.wrap a1)).set 5 (IntKind.u8.wrap (Int.fdiv a1 (2^8))))) true)]))
theorem f46b_1_eq(F:Nat):∀ v,aexec V46 (Af46b F) (sub (bodyOf Tryd.f46) []) (ef46b_a v) Kf15=f46b_1 F v:=by
 rintro⟨a0,a1⟩;kernel_rfl
def f46b(F:Nat):Li×Int→Rz:=f46b_1 F
theorem f46b_body(F:Nat)(a0:Li)(a1:Int):abody V46 (Af46b F) Tryd.f46 [(.sl 0 0 64 4 2 1),.int .i64 a1] [(.cells 64 (.rI .u8 a0) true)]=f46b F (a0,a1):=
 (abody_in (by kernel_rfl) (by kernel_rfl)).trans (f46b_1_eq F (a0,a1))
def Af46c(F:Nat):Cuts:={ F:=F+6,at_:=fun _=>none,join:=fun _=>none }
def ef46c_a:Li×Int→St:=fun (a0,a1)=>⟨[(0,.sl 0 0 64 6 2 1),(1,.int .i64 a1)],[(0,(.cells 64 (.rI .u8 a0) true))],1,18,1⟩
def f46c_1(F:Nat):Li×Int→Rz:=fun (a0,a1)=>(some ((.tup .nil),[(.cells 64 (.rI .u8 ((a0.set 6 (IntKind.u8.wrap a1)).set 7 (IntKind.u8.wrap (Int.fdiv a1 (2^8))))) true)]))
theorem f46c_1_eq(F:Nat):∀ v,aexec V46 (Af46c F) (sub (bodyOf Tryd.f46) []) (ef46c_a v) Kf15=f46c_1 F v:=by
 rintro⟨a0,a1⟩;kernel_rfl
def f46c(F:Nat):Li×Int→Rz:=f46c_1 F
theorem f46c_body(F:Nat)(a0:Li)(a1:Int):abody V46 (Af46c F) Tryd.f46 [(.sl 0 0 64 6 2 1),.int .i64 a1] [(.cells 64 (.rI .u8 a0) true)]=f46c F (a0,a1):=
 (abody_in (by kernel_rfl) (by kernel_rfl)).trans (f46c_1_eq F (a0,a1))
def r46:CRun:=fun X H=>match X,H with
 | [(.sl 0 0 64 0 4 1),.int .i64 a1],[(.cells 64 (.rI .u8 a0) true)]=>some ((decide (0≤a1)),.tup .nil,[(.cells 64 (.rI .u8 (Jr.put a0 0 a1 4)) true)])
 | [(.sl 0 0 64 4 2 1),.int .i64 a1],[(.cells 64 (.rI .u8 a0) true)]=>some ((decide (0≤a1)),.tup .nil,[(.cells 64 (.rI .u8 (Jr.put a0 4 a1 2)) true)])
 | [(.sl 0 0 64 6 2 1),.int .i64 a1],[(.cells 64 (.rI .u8 a0) true)]=>some ((decide (0≤a1)),.tup .nil,[(.cells 64 (.rI .u8 (Jr.put a0 6 a1 2)) true)])
 | _,_=>none
theorem s46a(a0:Li)(a1:Int)(hp:((decide (0≤a1)))=true)(h1:okV (.int .i64 a1))(k0:okB (.cells 64 (.rI .u8 a0) true)):∃ F,f46a F (a0,a1)=some ((.tup .nil),[(.cells 64 (.rI .u8 (Jr.put a0 0 a1 4)) true)]):=by
 refine⟨0,?_⟩
 simp only [f46a,f46a_1,u8mod,show((2:Int)^8)=256 from rfl,Int.fdiv_eq_ediv_of_nonneg _ (show(0:Int)≤256 by decide)]
 rfl
theorem s46b(a0:Li)(a1:Int)(hp:((decide (0≤a1)))=true)(h1:okV (.int .i64 a1))(k0:okB (.cells 64 (.rI .u8 a0) true)):∃ F,f46b F (a0,a1)=some ((.tup .nil),[(.cells 64 (.rI .u8 (Jr.put a0 4 a1 2)) true)]):=by
 refine⟨0,?_⟩
 simp only [f46b,f46b_1,u8mod,show((2:Int)^8)=256 from rfl,Int.fdiv_eq_ediv_of_nonneg _ (show(0:Int)≤256 by decide)]
 rfl
theorem s46c(a0:Li)(a1:Int)(hp:((decide (0≤a1)))=true)(h1:okV (.int .i64 a1))(k0:okB (.cells 64 (.rI .u8 a0) true)):∃ F,f46c F (a0,a1)=some ((.tup .nil),[(.cells 64 (.rI .u8 (Jr.put a0 6 a1 2)) true)]):=by
 refine⟨0,?_⟩
 simp only [f46c,f46c_1,u8mod,show((2:Int)^8)=256 from rfl,Int.fdiv_eq_ediv_of_nonneg _ (show(0:Int)≤256 by decide)]
 rfl
theorem c46:CallOk Tryd.prog G36 46 r46:=callOk_of mixed tys eV46 Tryd.func46 (by kernel_rfl) (c:=sub (bodyOf Tryd.f46) []) (by kernel_rfl) (by
 intro X H r H' h hX hH
 unfold r46 at h;split at h <;> try contradiction
 ·obtain⟨hp,rfl,rfl⟩:=inj3 h
  obtain⟨F,hF⟩:=s46a _ _ hp (hX _ hm1) (hH _ hm0)
  exact⟨Af46a F,(f46a_body F _ _).trans hF⟩
 ·obtain⟨hp,rfl,rfl⟩:=inj3 h
  obtain⟨F,hF⟩:=s46b _ _ hp (hX _ hm1) (hH _ hm0)
  exact⟨Af46b F,(f46b_body F _ _).trans hF⟩
 ·obtain⟨hp,rfl,rfl⟩:=inj3 h
  obtain⟨F,hF⟩:=s46c _ _ hp (hX _ hm1) (hH _ hm0)
  exact⟨Af46c F,(f46c_body F _ _).trans hF⟩)
def lV31:List CEnt:=[]
def V31:Env:=mkEnv T36 G36 lV31
noncomputable abbrev Kf16:=kFin V31 none (Tryd.f31).results.toList
theorem eV31:EOk Tryd.prog V31:=eok_mk (by exact trivial)
def Af31(F:Nat):Cuts:={ F:=F,at_:=fun n=>match n with | 3010=>some sp35 | _=>none,join:=fun n=>match n with | 1020=>some [(0,.plain)] | 2018=>some sp24 | 3012=>some sp35 | 6003=>some [(3,.plain)] | _=>none }
noncomputable abbrev XAf31(F:Nat){α:Type}:=@aexec α V31 (Af31 F)
def ef31_a:Li→St:=fun a0=>⟨[(0,.str a0)],[],0,20,0⟩
def ef31j1:Li→St:=fun t0=>⟨[(0,.str t0)],[],0,20,0⟩
def ef31j2:Li×Int→St:=fun (t0,t3)=>⟨[(0,.str t0),(3,.int .i64 t3)],[],0,20,0⟩
def ef31j3:Li×Int×Int→St:=fun (t0,t3,t4)=>⟨[(0,.str t0),(3,.int .i64 t3),(4,.int .i64 t4)],[],0,20,0⟩
def ef31l1:Li×Int×Int→St:=ef31j3
def ef31j4:Int→St:=fun t3=>⟨[(3,.int .i64 t3)],[],0,20,0⟩
def f31_1(F:Nat)(kj1:Li→Rz):Li→Rz:=fun a0=>(kj1 a0)
theorem f31_1_eq(F:Nat)(Rj1:St→Rz):∀ v,XAf31 F (bp Tryd.f31 2) (ef31_a v) (kSeq (kc V31 Rj1 [(0,.plain)]) Kf16)=f31_1 F (Rj1∘ef31j1) v:=by
 intro a0;kernel_rfl
def f31_2(F:Nat)(kj2:Li×Int→Rz):Li→Rz:=fun t0=>(kj2 (t0,(0:Int)))
theorem f31_2_eq(F:Nat)(Rj2:St→Rz):∀ v,XAf31 F (bp Tryd.f31 6) (ef31j1 v) (kSeq (kc V31 Rj2 sp24) Kf16)=f31_2 F (Rj2∘ef31j2) v:=by
 intro t0;kernel_rfl
def f31_3(F:Nat)(kj3:Li×Int×Int→Rz)(kj4:Int→Rz):Li×Int→Rz:=fun (t0,t3)=>(kj3 (t0,t3,(IntKind.i64.wrap ((↑t0.length:Int)-(1:Int)))))
theorem f31_3_eq(F:Nat)(Rj3 Rj4:St→Rz):∀ v,XAf31 F (bp Tryd.f31 28) (ef31j2 v) (kSeq (kc V31 Rj3 sp35) (kSeq (kc V31 Rj4 [(3,.plain)]) Kf16))=f31_3 F (Rj3∘ef31j3) (Rj4∘ef31j4) v:=by
 rintro⟨t0,t3⟩;kernel_rfl
def f31_4(F:Nat)(kl1:Li×Int×Int→Rz)(kj4:Int→Rz):Li×Int×Int→Rz:=fun (t0,t3,t4)=>(cond (decide (t4≥(0:Int))) (cond ((decide (0≤t4))&&(decide (t4 < (↑t0.length:Int)))) (kl1 (t0,(IntKind.i64.wrap ((IntKind.i64.wrap ((256:Int)*t3))+(IntKind.i64.wrap (t0.getD (Int.toNat t4) 0)))),(IntKind.i64.wrap (t4-(1:Int))))) none) (kj4 t3))
theorem f31_4_eq(F:Nat)(Rl1 Rj4:St→Rz):∀ v,XAf31 F (bp Tryd.f31 116) (ef31l1 v) (kSeq (kc V31 Rl1 sp35) (kBlock 0 (kSeq (kc V31 Rj4 [(3,.plain)]) Kf16)))=f31_4 F (Rl1∘ef31l1) (Rj4∘ef31j4) v:=by
 rintro⟨t0,t3,t4⟩;kernel_rfl
def f31_5_i:Li×Int×Int→Li×Int×Int:=fun (t0,t3,t4)=>(t0,t3,t4)
def f31_5(F:Nat)(kj4:Int→Rz):Li×Int×Int→Rz:=fun v=>loopN (fun k=>f31_4 F k kj4) F (f31_5_i v)
theorem f31_5_eq(F:Nat)(Rj4:St→Rz):∀ v,XAf31 F (bp Tryd.f31 58) (ef31j3 v) (kBlock 0 (kSeq (kc V31 Rj4 [(3,.plain)]) Kf16))=f31_5 F (Rj4∘ef31j4) v:=
 loop_cut (by kernel_rfl) (by kernel_rfl) ef31j3 ef31l1 _ f31_5_i (fun k=>f31_4 F k (Rj4∘ef31j4))
  (by rintro⟨t0,t3,t4⟩;kernel_rfl) (fun Rl1=>f31_4_eq F Rl1 Rj4)
def f31_6(F:Nat)(kj4:Int→Rz):Li×Int×Int→Rz:=f31_5 F kj4
theorem f31_6_eq(F:Nat)(Rj4:St→Rz):∀ v,XAf31 F (bp Tryd.f31 29) (ef31j3 v) (kSeq (kc V31 Rj4 [(3,.plain)]) Kf16)=f31_6 F (Rj4∘ef31j4) v:=fun v=>
 (block_in  (by kernel_rfl) _ _).trans (f31_5_eq F Rj4 v)
def f31_7(F:Nat)(kj4:Int→Rz):Li×Int→Rz:=fun v=>f31_3 F (f31_6 F kj4) kj4 v
theorem f31_7_eq(F:Nat)(Rj4:St→Rz):∀ v,XAf31 F (bp Tryd.f31 14) (ef31j2 v) (kSeq (kc V31 Rj4 [(3,.plain)]) Kf16)=f31_7 F (Rj4∘ef31j4) v:=
 seq_cut (by kernel_rfl) (by kernel_rfl) ef31j2 ef31j3 _ (fun k=>f31_3 F k (Rj4∘ef31j4)) (f31_6 F (Rj4∘ef31j4))
  (fun Rj3=>f31_3_eq F Rj3 Rj4) (f31_6_eq F Rj4)
def f31_8(F:Nat):Int→Rz:=fun t3=>(some ((.int .i64 t3),[]))
theorem f31_8_eq(F:Nat):∀ v,XAf31 F (bp Tryd.f31 15) (ef31j4 v) Kf16=f31_8 F v:=by
 intro t3;kernel_rfl
def f31_9(F:Nat):Li×Int→Rz:=fun v=>f31_7 F (f31_8 F) v
theorem f31_9_eq(F:Nat):∀ v,XAf31 F (bp Tryd.f31 7) (ef31j2 v) Kf16=f31_9 F v:=
 seq_cut (by kernel_rfl) (by kernel_rfl) ef31j2 ef31j4 _ (fun k=>f31_7 F k) (f31_8 F)
  (fun Rj4=>f31_7_eq F Rj4) (f31_8_eq F)
def f31_10(F:Nat):Li→Rz:=fun v=>f31_2 F (f31_9 F) v
theorem f31_10_eq(F:Nat):∀ v,XAf31 F (bp Tryd.f31 3) (ef31j1 v) Kf16=f31_10 F v:=
 seq_cut (by kernel_rfl) (by kernel_rfl) ef31j1 ef31j2 _ (fun k=>f31_2 F k) (f31_9 F)
  (fun Rj2=>f31_2_eq F Rj2) (f31_9_eq F)
def f31_11(F:Nat):Li→Rz:=fun v=>f31_1 F (f31_10 F) v
theorem f31_11_eq(F:Nat):∀ v,XAf31 F (sub (bodyOf Tryd.f31) []) (ef31_a v) Kf16=f31_11 F v:=
 seq_cut (by kernel_rfl) (by kernel_rfl) ef31_a ef31j1 _ (fun k=>f31_1 F k) (f31_10 F)
  (fun Rj1=>f31_1_eq F Rj1) (f31_10_eq F)
def f31(F:Nat):Li→Rz:=f31_11 F
theorem f31_body(F:Nat)(a0:Li):abody V31 (Af31 F) Tryd.f31 [(.str a0)] []=f31 F a0:=
 (abody_in (c:=(sub (bodyOf Tryd.f31) [])) (by kernel_rfl) (s:=ef31_a a0) (by kernel_rfl)).trans (f31_11_eq F a0)
def r31:CRun:=fun X H=>match X,H with
 | [(.str a0)],[]=>some ((decide (a0.length≤4)),(.int .i64 (Jr.num a0)),[])
 | _,_=>none
theorem s31(a0:Li)(hp:((decide (a0.length≤4)))=true)(h0:okV (.str a0)):∃ F,f31 F a0=some ((.int .i64 (Jr.num a0)),[]):=by
 have hl:=of_decide_eq_true hp
 have hb:∀ x∈a0,0≤x∧x < 256:=fun x hx=>by have:=h0.2 x hx;omega
 refine⟨10,?_⟩
 simp only [f31_1,f31_2,f31_3,f31_5_i,f31_5,f31_6,f31_7,f31_9,f31_10,f31_11,f31]
 rw [i64w (by omega) (by omega)]
 refine loopN_from (fun i=>(a0,Jr.num (a0.drop (a0.length-i)),(a0.length:Int)-1-i)) a0.length (by simp [Jr.num]) (fun i hi k=>?_) (fun k=>?_) 10 (by omega)
 ·simp only [f31_4,dec_and]
  have hlt:a0.length-1-i < a0.length:=by omega
  have et:((a0.length:Int)-1-i).toNat=a0.length-1-i:=by omega
  have hx:=hb (a0[a0.length-1-i]) (List.getElem_mem _)
  have eg:a0.getD (a0.length-1-i) 0=a0[a0.length-1-i]:=by rw [List.getD_eq_getElem?_getD,List.getElem?_eq_getElem hlt];rfl
  have hd:a0.drop (a0.length-(i+1))=a0[a0.length-1-i] :: a0.drop (a0.length-i):=by
   rw [show a0.length-(i+1)=a0.length-1-i by omega,List.drop_eq_getElem_cons hlt,show a0.length-1-i+1=a0.length-i by omega]
  obtain⟨n1,n2⟩:=Jr.num_bound (a0.drop (a0.length-i)) fun x hx=>hb x (List.mem_of_mem_drop hx)
  have n3:=Jr.pow_le4 (k:=(a0.drop (a0.length-i)).length) (by rw [List.length_drop];omega)
  rw [cond_pos (by omega),cond_pos (by omega),et,eg,i64w (x:=256*_) (by omega) (by omega),i64w (x:=a0[a0.length-1-i]) (by omega) (by omega),i64w (by omega) (by omega),i64w (by omega) (by omega),hd,Jr.num_cons]
  congr 3
  omega
 ·simp only [f31_4]
  rw [cond_neg (by omega)]
  simp only [f31_8,Nat.sub_self,List.drop_zero]
theorem c31:CallOk Tryd.prog G36 31 r31:=callOk_of mixed tys eV31 Tryd.func31 (by kernel_rfl) (c:=sub (bodyOf Tryd.f31) []) (by kernel_rfl) (by
 intro X H r H' h hX hH
 unfold r31 at h;split at h <;> try contradiction
 ·obtain⟨hp,rfl,rfl⟩:=inj3 h
  obtain⟨F,hF⟩:=s31 _ hp (hX _ hm0)
  exact⟨Af31 F,(f31_body F _).trans hF⟩)
def lV28:List CEnt:=[]
def V28:Env:=mkEnv T36 G36 lV28
noncomputable abbrev Kf17:=kFin V28 none (Tryd.f28).results.toList
theorem eV28:EOk Tryd.prog V28:=eok_mk (by exact trivial)
def Af28(F:Nat):Cuts:={ F:=F,at_:=fun n=>match n with | 3012=>some sp36 | _=>none,join:=fun n=>match n with | 1022=>some sp37 | 2020=>some sp38 | 3014=>some sp36 | 7003=>some [(5,.own 5)] | _=>none }
noncomputable abbrev XAf28(F:Nat){α:Type}:=@aexec α V28 (Af28 F)
def ef28_a:Int×Int→St:=fun (a0,a1)=>⟨[(0,.int .i64 a0),(1,.int .i64 a1)],[],0,21,0⟩
def ef28j1:Int×Int→St:=fun (t0,t1)=>⟨[(0,.int .i64 t0),(1,.int .i64 t1)],[],0,21,0⟩
def ef28j2:Int×Int×Li→St:=fun (t0,t1,x3)=>⟨[(0,.int .i64 t0),(1,.int .i64 t1),(5,.own 0 0 1)],[(0,(.cells x3.length (.rI .u8 x3) true))],1,21,0⟩
def ef28j3:Ty23→St:=fun (t0,t1,t6,x4)=>⟨[(0,.int .i64 t0),(1,.int .i64 t1),(5,.own 0 0 1),(6,.int .i64 t6)],[(0,(.cells x4.length (.rI .u8 x4) true))],1,21,0⟩
def ef28l1:Ty23→St:=ef28j3
def ef28j4:Li→St:=fun x1=>⟨[(5,.own 0 0 1)],[(0,(.cells x1.length (.rI .u8 x1) true))],1,21,0⟩
def f28_1(F:Nat)(kj1:Int×Int→Rz):Int×Int→Rz:=fun (a0,a1)=>(kj1 (a0,a1))
theorem f28_1_eq(F:Nat)(Rj1:St→Rz):∀ v,XAf28 F (bp Tryd.f28 2) (ef28_a v) (kSeq (kc V28 Rj1 sp37) Kf17)=f28_1 F (Rj1∘ef28j1) v:=by
 rintro⟨a0,a1⟩;kernel_rfl
def f28_2(F:Nat)(kj2:Int×Int×Li→Rz):Int×Int→Rz:=fun (t0,t1)=>(kj2 (t0,t1,[]))
theorem f28_2_eq(F:Nat)(Rj2:St→Rz):∀ v,XAf28 F (bp Tryd.f28 6) (ef28j1 v) (kSeq (kc V28 Rj2 sp38) Kf17)=f28_2 F (Rj2∘ef28j2) v:=by
 rintro⟨t0,t1⟩;kernel_rfl
def f28_3(F:Nat)(kj3:Ty23→Rz)(kj4:Li→Rz):Int×Int×Li→Rz:=fun (t0,t1,x3)=>(kj3 (t0,t1,(0:Int),x3))
theorem f28_3_eq(F:Nat)(Rj3 Rj4:St→Rz):∀ v,XAf28 F (bp Tryd.f28 28) (ef28j2 v) (kSeq (kc V28 Rj3 sp36) (kSeq (kc V28 Rj4 [(5,.own 5)]) Kf17))=f28_3 F (Rj3∘ef28j3) (Rj4∘ef28j4) v:=by
 rintro⟨t0,t1,x3⟩;kernel_rfl
def f28_4(F:Nat)(kl1:Ty23→Rz)(kj4:Li→Rz):Ty23→Rz:=fun (t0,t1,t6,x4)=>(cond (decide (t6 < t1)) (cond (decide ((x4.length+1) < 1073741824)) (kl1 ((IntKind.i64.wrap (Int.tdiv t0 (256:Int))),t1,(IntKind.i64.wrap (t6+(1:Int))),(x4++[(IntKind.u8.wrap (Int.tmod t0 (256:Int)))]))) none) (kj4 x4))
theorem f28_4_eq(F:Nat)(Rl1 Rj4:St→Rz):∀ v,XAf28 F (bp Tryd.f28 116) (ef28l1 v) (kSeq (kc V28 Rl1 sp36) (kBlock 0 (kSeq (kc V28 Rj4 [(5,.own 5)]) Kf17)))=f28_4 F (Rl1∘ef28l1) (Rj4∘ef28j4) v:=by
 rintro⟨t0,t1,t6,x4⟩;kernel_rfl
def f28_5_i:Ty23→Int×Int×Int×Li:=fun (t0,t1,t6,x4)=>(t0,t1,t6,x4)
def f28_5(F:Nat)(kj4:Li→Rz):Ty23→Rz:=fun v=>loopN (fun k=>f28_4 F k kj4) F (f28_5_i v)
theorem f28_5_eq(F:Nat)(Rj4:St→Rz):∀ v,XAf28 F (bp Tryd.f28 58) (ef28j3 v) (kBlock 0 (kSeq (kc V28 Rj4 [(5,.own 5)]) Kf17))=f28_5 F (Rj4∘ef28j4) v:=
 loop_cut (by kernel_rfl) (by kernel_rfl) ef28j3 ef28l1 _ f28_5_i (fun k=>f28_4 F k (Rj4∘ef28j4))
  (by rintro⟨t0,t1,t6,x4⟩;kernel_rfl) (fun Rl1=>f28_4_eq F Rl1 Rj4)
def f28_6(F:Nat)(kj4:Li→Rz):Ty23→Rz:=f28_5 F kj4
theorem f28_6_eq(F:Nat)(Rj4:St→Rz):∀ v,XAf28 F (bp Tryd.f28 29) (ef28j3 v) (kSeq (kc V28 Rj4 [(5,.own 5)]) Kf17)=f28_6 F (Rj4∘ef28j4) v:=fun v=>
 (block_in  (by kernel_rfl) _ _).trans (f28_5_eq F Rj4 v)
def f28_7(F:Nat)(kj4:Li→Rz):Int×Int×Li→Rz:=fun v=>f28_3 F (f28_6 F kj4) kj4 v
theorem f28_7_eq(F:Nat)(Rj4:St→Rz):∀ v,XAf28 F (bp Tryd.f28 14) (ef28j2 v) (kSeq (kc V28 Rj4 [(5,.own 5)]) Kf17)=f28_7 F (Rj4∘ef28j4) v:=
 seq_cut (by kernel_rfl) (by kernel_rfl) ef28j2 ef28j3 _ (fun k=>f28_3 F k (Rj4∘ef28j4)) (f28_6 F (Rj4∘ef28j4))
  (fun Rj3=>f28_3_eq F Rj3 Rj4) (f28_6_eq F Rj4)
def f28_8(F:Nat):Li→Rz:=fun x1=>(some ((.own 0 0 1),[(.cells x1.length (.rI .u8 x1) true)]))
theorem f28_8_eq(F:Nat):∀ v,XAf28 F (bp Tryd.f28 15) (ef28j4 v) Kf17=f28_8 F v:=by
 intro x1;kernel_rfl
def f28_9(F:Nat):Int×Int×Li→Rz:=fun v=>f28_7 F (f28_8 F) v
theorem f28_9_eq(F:Nat):∀ v,XAf28 F (bp Tryd.f28 7) (ef28j2 v) Kf17=f28_9 F v:=
 seq_cut (by kernel_rfl) (by kernel_rfl) ef28j2 ef28j4 _ (fun k=>f28_7 F k) (f28_8 F)
  (fun Rj4=>f28_7_eq F Rj4) (f28_8_eq F)
def f28_10(F:Nat):Int×Int→Rz:=fun v=>f28_2 F (f28_9 F) v
theorem f28_10_eq(F:Nat):∀ v,XAf28 F (bp Tryd.f28 3) (ef28j1 v) Kf17=f28_10 F v:=
 seq_cut (by kernel_rfl) (by kernel_rfl) ef28j1 ef28j2 _ (fun k=>f28_2 F k) (f28_9 F)
  (fun Rj2=>f28_2_eq F Rj2) (f28_9_eq F)
def f28_11(F:Nat):Int×Int→Rz:=fun v=>f28_1 F (f28_10 F) v
theorem f28_11_eq(F:Nat):∀ v,XAf28 F (sub (bodyOf Tryd.f28) []) (ef28_a v) Kf17=f28_11 F v:=
 seq_cut (by kernel_rfl) (by kernel_rfl) ef28_a ef28j1 _ (fun k=>f28_1 F k) (f28_10 F)
  (fun Rj1=>f28_1_eq F Rj1) (f28_10_eq F)
def f28(F:Nat):Int×Int→Rz:=f28_11 F
theorem f28_body(F:Nat)(a0 a1:Int):abody V28 (Af28 F) Tryd.f28 [(.int .i64 a0),.int .i64 a1] []=f28 F (a0,a1):=
 (abody_in (by kernel_rfl) (by kernel_rfl)).trans (f28_11_eq F (a0,a1))
def r28:CRun:=fun X H=>match X,H with
 | [(.int .i64 a0),.int .i64 a1],[]=>some (((decide (0≤a0))&&((decide (0 < a1))&&(decide (a1≤4)))),.own 0 0 1,[(.cells (Jr.small a0 (Int.toNat a1)).length (.rI .u8 (Jr.small a0 (Int.toNat a1))) true)])
 | _,_=>none
theorem s28(a0 a1:Int)(hp:(((decide (0≤a0))&&((decide (0 < a1))&&(decide (a1≤4)))))=true)(h0:okV (.int .i64 a0))(h1:okV (.int .i64 a1)):∃ F,f28 F (a0,a1)=some ((.own 0 0 1),[(.cells (Jr.small a0 (Int.toNat a1)).length (.rI .u8 (Jr.small a0 (Int.toNat a1))) true)]):=by
 simp only [Bool.and_eq_true,decide_eq_true_eq] at hp
 obtain⟨p1,p2,p3⟩:=hp
 obtain⟨k,rfl⟩:=Int.eq_ofNat_of_zero_le (show 0≤a1 by omega)
 have hh:a0≤9223372036854775807:=by have:=h0.2;simpa [IntKind.max,IntKind.signed,IntKind.bits] using this
 refine⟨10,?_⟩
 simp only [f28_1,f28_2,f28_3,f28_5_i,f28_5,f28_6,f28_7,f28_9,f28_10,f28_11,f28]
 refine loopN_from (fun i=>(a0 / 256^i,(k:Int),(i:Int),Jr.small a0 i)) k (by simp [Jr.small]) (fun i hi q=>?_) (fun q=>?_) 10 (by omega)
 ·simp only [f28_4]
  have hn:0≤a0 / 256^i:=Int.ediv_nonneg p1 (Int.pow_nonneg (by decide))
  have hm:a0 / 256^i≤a0:=Int.ediv_le_self _ p1
  have hl:=Jr.small_len a0 i
  rw [cond_pos (by omega),cond_pos (by omega),tdiv_nn hn,tmod_nn hn,u8mod,i64w (by omega) (by omega),i64w (by omega) (by omega),Jr.small_snoc,Int.emod_emod_of_dvd _ (by omega:(256:Int) ∣ 256),Int.ediv_ediv_of_nonneg (Int.pow_nonneg (by decide)),← Int.pow_succ]
  rfl
 ·simp only [f28_4]
  rw [cond_neg (by omega)]
  simp only [f28_8,Int.toNat_natCast]
theorem c28:CallOk Tryd.prog G36 28 r28:=callOk_of mixed tys eV28 Tryd.func28 (by kernel_rfl) (c:=sub (bodyOf Tryd.f28) []) (by kernel_rfl) (by
 intro X H r H' h hX hH
 unfold r28 at h;split at h <;> try contradiction
 ·obtain⟨hp,rfl,rfl⟩:=inj3 h
  obtain⟨F,hF⟩:=s28 _ _ hp (hX _ hm0) (hX _ hm1)
  exact⟨Af28 F,(f28_body F _ _).trans hF⟩)
def lV29:List CEnt:=[(48,[some 5],r48)]
def V29:Env:=mkEnv T36 G37 lV29
noncomputable abbrev Kf18:=kFin V29 none (Tryd.f29).results.toList
theorem eV29:EOk Tryd.prog V29:=eok_mk (by exact⟨c48,trivial⟩)
def Af29(F:Nat):Cuts:={ F:=F,at_:=fun _=>none,join:=fun _=>none }
def ef29_a:Li→St:=fun a0=>⟨[(0,(.vs (.rI .u8 a0) 0 1))],[],0,11,0⟩
def f29_1(F:Nat):Li→Rz:=fun a0=>(cond (decide (a0.length < 1073741000)) (cond (decide ((a0.length+((Sha.hash a0).take 8).length) < 4611686018427387904)) (some ((.str (a0++((Sha.hash a0).take 8))),[])) none) none)
theorem f29_1_eq(F:Nat):∀ v,aexec V29 (Af29 F) (sub (bodyOf Tryd.f29) []) (ef29_a v) Kf18=f29_1 F v:=by
 intro a0;kernel_rfl
def f29(F:Nat):Li→Rz:=f29_1 F
theorem f29_body(F:Nat)(a0:Li):abody V29 (Af29 F) Tryd.f29 [(.vs (.rI .u8 a0) 0 1)] []=f29 F a0:=
 (abody_in (c:=(sub (bodyOf Tryd.f29) [])) (by kernel_rfl) (s:=ef29_a a0) (by kernel_rfl)).trans (f29_1_eq F a0)
def r29:CRun:=fun X H=>match X,H with
 | [(.vs (.rI .u8 a0) 0 1)],[]=>some ((decide (a0.length < 1073730000)),(.str (Jr.checked a0)),[])
 | _,_=>none
theorem s29(a0:Li)(hp:((decide (a0.length < 1073730000)))=true)(h0:okV (.vs (.rI .u8 a0) 0 1)):∃ F,f29 F a0=some ((.str (Jr.checked a0)),[]):=by
 have hl:=of_decide_eq_true hp
 refine⟨0,?_⟩
 simp only [f29,f29_1]
 rw [cond_pos (by omega),cond_pos (by rw [Jr.hash8];omega)]
 rfl
theorem c29:CallOk Tryd.prog G37 29 r29:=callOk_of mixed tys eV29 Tryd.func29 (by kernel_rfl) (c:=sub (bodyOf Tryd.f29) []) (by kernel_rfl) (by
 intro X H r H' h hX hH
 unfold r29 at h;split at h <;> try contradiction
 ·obtain⟨hp,rfl,rfl⟩:=inj3 h
  obtain⟨F,hF⟩:=s29 _ hp (hX _ hm0)
  exact⟨Af29 F,(f29_body F _).trans hF⟩)
def lV50:List CEnt:=[]
def V50:Env:=mkEnv T36 G36 lV50
noncomputable abbrev Kf19:=kFin V50 none (Tryd.f50).results.toList
theorem eV50:EOk Tryd.prog V50:=eok_mk (by exact trivial)
def Af50(F:Nat):Cuts:={ F:=F,at_:=fun _=>none,join:=fun _=>none }
def ef50_a:Li×Li→St:=fun (a0,a1)=>⟨[(0,(.vs (.rI .u8 a0) 0 1)),(1,(.vs (.rI .u8 a1) 0 1))],[],0,10,0⟩
def f50_1(F:Nat):Li×Li→Rz:=fun (a0,a1)=>(some ((.bool ((a0:Li)==(a1:Li))),[]))
theorem f50_1_eq(F:Nat):∀ v,aexec V50 (Af50 F) (sub (bodyOf Tryd.f50) []) (ef50_a v) Kf19=f50_1 F v:=by
 rintro⟨a0,a1⟩;kernel_rfl
def f50(F:Nat):Li×Li→Rz:=f50_1 F
theorem f50_body(F:Nat)(a0 a1:Li):abody V50 (Af50 F) Tryd.f50 [(.vs (.rI .u8 a0) 0 1),(.vs (.rI .u8 a1) 0 1)] []=f50 F (a0,a1):=
 (abody_in (by kernel_rfl) (by kernel_rfl)).trans (f50_1_eq F (a0,a1))
def r50:CRun:=fun X H=>match X,H with
 | [(.vs (.rI .u8 a0) 0 1),(.vs (.rI .u8 a1) 0 1)],[]=>some (true,(.bool (a0==a1)),[])
 | _,_=>none
theorem s50(a0 a1:Li)(h0:okV (.vs (.rI .u8 a0) 0 1))(h1:okV (.vs (.rI .u8 a1) 0 1)):∃ F,f50 F (a0,a1)=some ((.bool (a0==a1)),[]):=by
 refine⟨0,?_⟩
 simp only [f50,f50_1]
theorem c50:CallOk Tryd.prog G36 50 r50:=callOk_of mixed tys eV50 Tryd.func50 (by kernel_rfl) (c:=sub (bodyOf Tryd.f50) []) (by kernel_rfl) (by
 intro X H r H' h hX hH
 unfold r50 at h;split at h <;> try contradiction
 ·obtain⟨hp,rfl,rfl⟩:=inj3 h
  obtain⟨F,hF⟩:=s50 _ _ (hX _ hm0) (hX _ hm1)
  exact⟨Af50 F,(f50_body F _ _).trans hF⟩)
def lV10:List CEnt:=[]
def V10:Env:=mkEnv T36 G36 lV10
noncomputable abbrev Kf20:=kFin V10 none (Tryd.f10).results.toList
theorem eV10:EOk Tryd.prog V10:=eok_mk (by exact trivial)
def Af10(F:Nat):Cuts:={ F:=F,at_:=fun n=>match n with | 4016=>some sp39 | _=>none,join:=fun n=>match n with | 1032=>some sp37 | 3024=>some sp37 | 4018=>some sp39 | 8003=>some [] | _=>none }
noncomputable abbrev XAf10(F:Nat){α:Type}:=@aexec α V10 (Af10 F)
def ef10_a:Ty24→St:=fun (a0,a1)=>⟨[(0,(.vs (.rS a0) 0 1)),(1,(.vs (.rS a1) 0 1))],[],0,26,0⟩
def ef10j1:Ty24→St:=fun (t0,t1)=>⟨[(0,(.vs (.rS t0) 0 1)),(1,(.vs (.rS t1) 0 1))],[],0,26,0⟩
def ef10j2:Ty24→St:=ef10j1
def ef10j3:Ty25→St:=fun (t0,t1,t5)=>⟨[(0,(.vs (.rS t0) 0 1)),(1,(.vs (.rS t1) 0 1)),(5,.int .i64 t5)],[],0,26,0⟩
def ef10l1:Ty25→St:=ef10j3
def ef10j4:Unit→St:=fun _=>⟨[],[],0,26,0⟩
def f10_1(F:Nat)(kj1:Ty24→Rz):Ty24→Rz:=fun (a0,a1)=>(kj1 (a0,a1))
theorem f10_1_eq(F:Nat)(Rj1:St→Rz):∀ v,XAf10 F (bp Tryd.f10 2) (ef10_a v) (kSeq (kc V10 Rj1 sp37) Kf20)=f10_1 F (Rj1∘ef10j1) v:=by
 rintro⟨a0,a1⟩;kernel_rfl
def f10_2(F:Nat)(kj2:Ty24→Rz):Ty24→Rz:=fun (t0,t1)=>(cond ((↑t0.length:Int) != (↑t1.length:Int)) (some ((.bool false),[])) (kj2 (t0,t1)))
theorem f10_2_eq(F:Nat)(Rj2:St→Rz):∀ v,XAf10 F (bp Tryd.f10 6) (ef10j1 v) (kSeq (kc V10 Rj2 sp37) Kf20)=f10_2 F (Rj2∘ef10j2) v:=by
 rintro⟨t0,t1⟩;kernel_rfl
def f10_3(F:Nat)(kj3:Ty25→Rz)(kj4:Unit→Rz):Ty24→Rz:=fun (t0,t1)=>(kj3 (t0,t1,(0:Int)))
theorem f10_3_eq(F:Nat)(Rj3 Rj4:St→Rz):∀ v,XAf10 F (bp Tryd.f10 28) (ef10j2 v) (kSeq (kc V10 Rj3 sp39) (kSeq (kc V10 Rj4 []) Kf20))=f10_3 F (Rj3∘ef10j3) (Rj4∘ef10j4) v:=by
 rintro⟨t0,t1⟩;kernel_rfl
def f10_4(F:Nat)(kl1:Ty25→Rz)(kj4:Unit→Rz):Ty25→Rz:=fun (t0,t1,t5)=>(cond (decide (t5 < (↑t0.length:Int))) (cond ((decide (0≤t5))&&(decide (t5 < (↑t0.length:Int)))) (cond ((decide (0≤t5))&&(decide (t5 < (↑t1.length:Int)))) (cond (!(((t0.getD (Int.toNat t5) []):Li)==((t1.getD (Int.toNat t5) []):Li))) (some ((.bool false),[])) (kl1 (t0,t1,(IntKind.i64.wrap (t5+(1:Int)))))) none) none) (kj4 ()))
theorem f10_4_eq(F:Nat)(Rl1 Rj4:St→Rz):∀ v,XAf10 F (bp Tryd.f10 116) (ef10l1 v) (kSeq (kc V10 Rl1 sp39) (kBlock 0 (kSeq (kc V10 Rj4 []) Kf20)))=f10_4 F (Rl1∘ef10l1) (Rj4∘ef10j4) v:=by
 rintro⟨t0,t1,t5⟩;kernel_rfl
def f10_5_i:Ty25→(List Li)×(List Li)×Int:=fun (t0,t1,t5)=>(t0,t1,t5)
def f10_5(F:Nat)(kj4:Unit→Rz):Ty25→Rz:=fun v=>loopN (fun k=>f10_4 F k kj4) F (f10_5_i v)
theorem f10_5_eq(F:Nat)(Rj4:St→Rz):∀ v,XAf10 F (bp Tryd.f10 58) (ef10j3 v) (kBlock 0 (kSeq (kc V10 Rj4 []) Kf20))=f10_5 F (Rj4∘ef10j4) v:=
 loop_cut (by kernel_rfl) (by kernel_rfl) ef10j3 ef10l1 _ f10_5_i (fun k=>f10_4 F k (Rj4∘ef10j4))
  (by rintro⟨t0,t1,t5⟩;kernel_rfl) (fun Rl1=>f10_4_eq F Rl1 Rj4)
def f10_6(F:Nat)(kj4:Unit→Rz):Ty25→Rz:=f10_5 F kj4
theorem f10_6_eq(F:Nat)(Rj4:St→Rz):∀ v,XAf10 F (bp Tryd.f10 29) (ef10j3 v) (kSeq (kc V10 Rj4 []) Kf20)=f10_6 F (Rj4∘ef10j4) v:=fun v=>
 (block_in  (by kernel_rfl) _ _).trans (f10_5_eq F Rj4 v)
def f10_7(F:Nat)(kj4:Unit→Rz):Ty24→Rz:=fun v=>f10_3 F (f10_6 F kj4) kj4 v
theorem f10_7_eq(F:Nat)(Rj4:St→Rz):∀ v,XAf10 F (bp Tryd.f10 14) (ef10j2 v) (kSeq (kc V10 Rj4 []) Kf20)=f10_7 F (Rj4∘ef10j4) v:=
 seq_cut (by kernel_rfl) (by kernel_rfl) ef10j2 ef10j3 _ (fun k=>f10_3 F k (Rj4∘ef10j4)) (f10_6 F (Rj4∘ef10j4))
  (fun Rj3=>f10_3_eq F Rj3 Rj4) (f10_6_eq F Rj4)
def f10_8(F:Nat):Unit→Rz:=fun _=>(some ((.bool true),[]))
theorem f10_8_eq(F:Nat):∀ v,XAf10 F (bp Tryd.f10 15) (ef10j4 v) Kf20=f10_8 F v:=by
 intro _;kernel_rfl
def f10_9(F:Nat):Ty24→Rz:=fun v=>f10_7 F (f10_8 F) v
theorem f10_9_eq(F:Nat):∀ v,XAf10 F (bp Tryd.f10 7) (ef10j2 v) Kf20=f10_9 F v:=
 seq_cut (by kernel_rfl) (by kernel_rfl) ef10j2 ef10j4 _ (fun k=>f10_7 F k) (f10_8 F)
  (fun Rj4=>f10_7_eq F Rj4) (f10_8_eq F)
def f10_10(F:Nat):Ty24→Rz:=fun v=>f10_2 F (f10_9 F) v
theorem f10_10_eq(F:Nat):∀ v,XAf10 F (bp Tryd.f10 3) (ef10j1 v) Kf20=f10_10 F v:=
 seq_cut (by kernel_rfl) (by kernel_rfl) ef10j1 ef10j2 _ (fun k=>f10_2 F k) (f10_9 F)
  (fun Rj2=>f10_2_eq F Rj2) (f10_9_eq F)
def f10_11(F:Nat):Ty24→Rz:=fun v=>f10_1 F (f10_10 F) v
theorem f10_11_eq(F:Nat):∀ v,XAf10 F (sub (bodyOf Tryd.f10) []) (ef10_a v) Kf20=f10_11 F v:=
 seq_cut (by kernel_rfl) (by kernel_rfl) ef10_a ef10j1 _ (fun k=>f10_1 F k) (f10_10 F)
  (fun Rj1=>f10_1_eq F Rj1) (f10_10_eq F)
def f10(F:Nat):Ty24→Rz:=f10_11 F
theorem f10_body(F:Nat)(a0 a1:List Li):abody V10 (Af10 F) Tryd.f10 [(.vs (.rS a0) 0 1),(.vs (.rS a1) 0 1)] []=f10 F (a0,a1):=
 (abody_in (by kernel_rfl) (by kernel_rfl)).trans (f10_11_eq F (a0,a1))
def r10:CRun:=fun X H=>match X,H with
 | [(.vs (.rS a0) 0 1),(.vs (.rS a1) 0 1)],[]=>some ((decide (a0.length < 1073741824)),(.bool (a0==a1)),[])
 | _,_=>none
theorem s10(a0 a1:List Li)(hp:((decide (a0.length < 1073741824)))=true)(h0:okV (.vs (.rS a0) 0 1))(h1:okV (.vs (.rS a1) 0 1)):∃ F,f10 F (a0,a1)=some ((.bool (a0==a1)),[]):=by
 rw [decide_eq_true_iff] at hp
 refine⟨a0.length+1,?_⟩
 simp only [f10,f10_11,f10_1,f10_10,f10_2,f10_9,f10_7,f10_8,f10_3,f10_6,f10_5,f10_5_i]
 by_cases hl:a0.length=a1.length
 ·have e:((a0.length:Int) != (a1.length:Int))=false:=by simp [hl]
  rw [e,cond_false]
  refine loopN_ind (fun m s=>∃ k:Nat,s=(a0,a1,(k:Int))∧m=a0.length-k∧k≤a0.length ∧ ∀ j,j < k→a0.getD j []=a1.getD j []) (fun m s K hi hk=>?_) (a0.length+1) a0.length _ (by omega) ⟨0,rfl,by omega,by omega,fun j hj=>by omega⟩
  obtain⟨k,rfl,hm,hle,heq⟩:=hi
  simp only [f10_4,Int.toNat_natCast]
  by_cases hlt:k < a0.length
  ·have e1:(decide (0≤(k:Int))&&decide ((k:Int) < (a0.length:Int)))=true:=by rw [dec_and,decide_eq_true_iff];omega
   have e2:(decide (0≤(k:Int))&&decide ((k:Int) < (a1.length:Int)))=true:=by rw [dec_and,decide_eq_true_iff];omega
   rw [cond_pos (show(k:Int) < (a0.length:Int) by omega),e1,e2,cond_true,cond_true,i64w (by omega) (by omega)]
   by_cases h:a0.getD k []=a1.getD k []
   ·have e3:(!(((a0.getD k []):Li)==((a1.getD k []):Li)))=false:=by rw [h];simp
    rw [e3,cond_false]
    exact hk (m-1) _ (by omega) ⟨k+1,rfl,by omega,by omega,fun j hj=>by
     by_cases hj':j=k
     ·subst hj';exact h
     ·exact heq j (by omega)⟩
   ·have e3:(!(((a0.getD k []):Li)==((a1.getD k []):Li)))=true:=by simpa using h
    rw [e3,cond_true]
    have e4:(a0==a1)=false:=by rw [beq_eq_false_iff_ne];intro h';exact h (by rw [h'])
    rw [e4]
  ·rw [cond_neg (by omega)]
   have e4:(a0==a1)=true:=by rw [beq_iff_eq];exact list_eq [] hl fun j hj=>heq j (by omega)
   rw [e4];rfl
 ·have e:((a0.length:Int) != (a1.length:Int))=true:=by simp;omega
  have e4:(a0==a1)=false:=by rw [beq_eq_false_iff_ne];intro h';exact hl (by rw [h'])
  rw [e,cond_true,e4]
theorem c10:CallOk Tryd.prog G36 10 r10:=callOk_of mixed tys eV10 Tryd.func10 (by kernel_rfl) (c:=sub (bodyOf Tryd.f10) []) (by kernel_rfl) (by
 intro X H r H' h hX hH
 unfold r10 at h;split at h <;> try contradiction
 ·obtain⟨hp,rfl,rfl⟩:=inj3 h
  obtain⟨F,hF⟩:=s10 _ _ hp (hX _ hm0) (hX _ hm1)
  exact⟨Af10 F,(f10_body F _ _).trans hF⟩)
def lV18:List CEnt:=[]
def V18:Env:=mkEnv T36 G36 lV18
noncomputable abbrev Kf21:=kFin V18 none (Tryd.f18).results.toList
theorem eV18:EOk Tryd.prog V18:=eok_mk (by exact trivial)
def Af18(F:Nat):Cuts:={ F:=F,at_:=fun n=>match n with | 4016=>some sp39 | _=>none,join:=fun n=>match n with | 1032=>some sp37 | 3024=>some sp37 | 4018=>some sp39 | 8003=>some [] | _=>none }
noncomputable abbrev XAf18(F:Nat){α:Type}:=@aexec α V18 (Af18 F)
def ef18_a:Li×Li→St:=fun (a0,a1)=>⟨[(0,(.vs (.rI .i64 a0) 0 1)),(1,(.vs (.rI .i64 a1) 0 1))],[],0,26,0⟩
def ef18j1:Li×Li→St:=fun (t0,t1)=>⟨[(0,(.vs (.rI .i64 t0) 0 1)),(1,(.vs (.rI .i64 t1) 0 1))],[],0,26,0⟩
def ef18j2:Li×Li→St:=ef18j1
def ef18j3:Ty13→St:=fun (t0,t1,t5)=>⟨[(0,(.vs (.rI .i64 t0) 0 1)),(1,(.vs (.rI .i64 t1) 0 1)),(5,.int .i64 t5)],[],0,26,0⟩
def ef18l1:Ty13→St:=ef18j3
def ef18j4:Unit→St:=ef10j4
def f18_1(F:Nat)(kj1:Li×Li→Rz):Li×Li→Rz:=fun (a0,a1)=>(kj1 (a0,a1))
theorem f18_1_eq(F:Nat)(Rj1:St→Rz):∀ v,XAf18 F (bp Tryd.f18 2) (ef18_a v) (kSeq (kc V18 Rj1 sp37) Kf21)=f18_1 F (Rj1∘ef18j1) v:=by
 rintro⟨a0,a1⟩;kernel_rfl
def f18_2(F:Nat)(kj2:Li×Li→Rz):Li×Li→Rz:=fun (t0,t1)=>(cond ((↑t0.length:Int) != (↑t1.length:Int)) (some ((.bool false),[])) (kj2 (t0,t1)))
theorem f18_2_eq(F:Nat)(Rj2:St→Rz):∀ v,XAf18 F (bp Tryd.f18 6) (ef18j1 v) (kSeq (kc V18 Rj2 sp37) Kf21)=f18_2 F (Rj2∘ef18j2) v:=by
 rintro⟨t0,t1⟩;kernel_rfl
def f18_3(F:Nat)(kj3:Ty13→Rz)(kj4:Unit→Rz):Li×Li→Rz:=fun (t0,t1)=>(kj3 (t0,t1,(0:Int)))
theorem f18_3_eq(F:Nat)(Rj3 Rj4:St→Rz):∀ v,XAf18 F (bp Tryd.f18 28) (ef18j2 v) (kSeq (kc V18 Rj3 sp39) (kSeq (kc V18 Rj4 []) Kf21))=f18_3 F (Rj3∘ef18j3) (Rj4∘ef18j4) v:=by
 rintro⟨t0,t1⟩;kernel_rfl
def f18_4(F:Nat)(kl1:Ty13→Rz)(kj4:Unit→Rz):Ty13→Rz:=fun (t0,t1,t5)=>(cond (decide (t5 < (↑t0.length:Int))) (cond ((decide (0≤t5))&&(decide (t5 < (↑t0.length:Int)))) (cond ((decide (0≤t5))&&(decide (t5 < (↑t1.length:Int)))) (cond ((t0.getD (Int.toNat t5) 0) != (t1.getD (Int.toNat t5) 0)) (some ((.bool false),[])) (kl1 (t0,t1,(IntKind.i64.wrap (t5+(1:Int)))))) none) none) (kj4 ()))
theorem f18_4_eq(F:Nat)(Rl1 Rj4:St→Rz):∀ v,XAf18 F (bp Tryd.f18 116) (ef18l1 v) (kSeq (kc V18 Rl1 sp39) (kBlock 0 (kSeq (kc V18 Rj4 []) Kf21)))=f18_4 F (Rl1∘ef18l1) (Rj4∘ef18j4) v:=by
 rintro⟨t0,t1,t5⟩;kernel_rfl
def f18_5_i:Ty13→Li×Li×Int:=fun (t0,t1,t5)=>(t0,t1,t5)
def f18_5(F:Nat)(kj4:Unit→Rz):Ty13→Rz:=fun v=>loopN (fun k=>f18_4 F k kj4) F (f18_5_i v)
theorem f18_5_eq(F:Nat)(Rj4:St→Rz):∀ v,XAf18 F (bp Tryd.f18 58) (ef18j3 v) (kBlock 0 (kSeq (kc V18 Rj4 []) Kf21))=f18_5 F (Rj4∘ef18j4) v:=
 loop_cut (by kernel_rfl) (by kernel_rfl) ef18j3 ef18l1 _ f18_5_i (fun k=>f18_4 F k (Rj4∘ef18j4))
  (by rintro⟨t0,t1,t5⟩;kernel_rfl) (fun Rl1=>f18_4_eq F Rl1 Rj4)
def f18_6(F:Nat)(kj4:Unit→Rz):Ty13→Rz:=f18_5 F kj4
theorem f18_6_eq(F:Nat)(Rj4:St→Rz):∀ v,XAf18 F (bp Tryd.f18 29) (ef18j3 v) (kSeq (kc V18 Rj4 []) Kf21)=f18_6 F (Rj4∘ef18j4) v:=fun v=>
 (block_in  (by kernel_rfl) _ _).trans (f18_5_eq F Rj4 v)
def f18_7(F:Nat)(kj4:Unit→Rz):Li×Li→Rz:=fun v=>f18_3 F (f18_6 F kj4) kj4 v
theorem f18_7_eq(F:Nat)(Rj4:St→Rz):∀ v,XAf18 F (bp Tryd.f18 14) (ef18j2 v) (kSeq (kc V18 Rj4 []) Kf21)=f18_7 F (Rj4∘ef18j4) v:=
 seq_cut (by kernel_rfl) (by kernel_rfl) ef18j2 ef18j3 _ (fun k=>f18_3 F k (Rj4∘ef18j4)) (f18_6 F (Rj4∘ef18j4))
  (fun Rj3=>f18_3_eq F Rj3 Rj4) (f18_6_eq F Rj4)
def f18_8(F:Nat):Unit→Rz:=fun _=>(some ((.bool true),[]))
theorem f18_8_eq(F:Nat):∀ v,XAf18 F (bp Tryd.f18 15) (ef18j4 v) Kf21=f18_8 F v:=by
 intro _;kernel_rfl
def f18_9(F:Nat):Li×Li→Rz:=fun v=>f18_7 F (f18_8 F) v
theorem f18_9_eq(F:Nat):∀ v,XAf18 F (bp Tryd.f18 7) (ef18j2 v) Kf21=f18_9 F v:=
 seq_cut (by kernel_rfl) (by kernel_rfl) ef18j2 ef18j4 _ (fun k=>f18_7 F k) (f18_8 F)
  (fun Rj4=>f18_7_eq F Rj4) (f18_8_eq F)
def f18_10(F:Nat):Li×Li→Rz:=fun v=>f18_2 F (f18_9 F) v
theorem f18_10_eq(F:Nat):∀ v,XAf18 F (bp Tryd.f18 3) (ef18j1 v) Kf21=f18_10 F v:=
 seq_cut (by kernel_rfl) (by kernel_rfl) ef18j1 ef18j2 _ (fun k=>f18_2 F k) (f18_9 F)
  (fun Rj2=>f18_2_eq F Rj2) (f18_9_eq F)
def f18_11(F:Nat):Li×Li→Rz:=fun v=>f18_1 F (f18_10 F) v
theorem f18_11_eq(F:Nat):∀ v,XAf18 F (sub (bodyOf Tryd.f18) []) (ef18_a v) Kf21=f18_11 F v:=
 seq_cut (by kernel_rfl) (by kernel_rfl) ef18_a ef18j1 _ (fun k=>f18_1 F k) (f18_10 F)
  (fun Rj1=>f18_1_eq F Rj1) (f18_10_eq F)
def f18(F:Nat):Li×Li→Rz:=f18_11 F
theorem f18_body(F:Nat)(a0 a1:Li):abody V18 (Af18 F) Tryd.f18 [(.vs (.rI .i64 a0) 0 1),(.vs (.rI .i64 a1) 0 1)] []=f18 F (a0,a1):=
 (abody_in (by kernel_rfl) (by kernel_rfl)).trans (f18_11_eq F (a0,a1))
def r18:CRun:=fun X H=>match X,H with
 | [(.vs (.rI .i64 a0) 0 1),(.vs (.rI .i64 a1) 0 1)],[]=>some ((decide (a0.length < 1073741824)),(.bool (a0==a1)),[])
 | _,_=>none
theorem s18(a0 a1:Li)(hp:((decide (a0.length < 1073741824)))=true)(h0:okV (.vs (.rI .i64 a0) 0 1))(h1:okV (.vs (.rI .i64 a1) 0 1)):∃ F,f18 F (a0,a1)=some ((.bool (a0==a1)),[]):=by
 rw [decide_eq_true_iff] at hp
 refine⟨a0.length+1,?_⟩
 simp only [f18,f18_11,f18_1,f18_10,f18_2,f18_9,f18_7,f18_8,f18_3,f18_6,f18_5,f18_5_i]
 by_cases hl:a0.length=a1.length
 ·have e:((a0.length:Int) != (a1.length:Int))=false:=by simp [hl]
  rw [e,cond_false]
  refine loopN_ind (fun m s=>∃ k:Nat,s=(a0,a1,(k:Int))∧m=a0.length-k∧k≤a0.length ∧ ∀ j,j < k→a0.getD j 0=a1.getD j 0) (fun m s K hi hk=>?_) (a0.length+1) a0.length _ (by omega) ⟨0,rfl,by omega,by omega,fun j hj=>by omega⟩
  obtain⟨k,rfl,hm,hle,heq⟩:=hi
  simp only [f18_4,Int.toNat_natCast]
  by_cases hlt:k < a0.length
  ·have e1:(decide (0≤(k:Int))&&decide ((k:Int) < (a0.length:Int)))=true:=by rw [dec_and,decide_eq_true_iff];omega
   have e2:(decide (0≤(k:Int))&&decide ((k:Int) < (a1.length:Int)))=true:=by rw [dec_and,decide_eq_true_iff];omega
   rw [cond_pos (show(k:Int) < (a0.length:Int) by omega),e1,e2,cond_true,cond_true,i64w (by omega) (by omega)]
   by_cases h:a0.getD k 0=a1.getD k 0
   ·have e3:(a0.getD k 0 != a1.getD k 0)=false:=by rw [h];simp
    rw [e3,cond_false]
    exact hk (m-1) _ (by omega) ⟨k+1,rfl,by omega,by omega,fun j hj=>by
     by_cases hj':j=k
     ·subst hj';exact h
     ·exact heq j (by omega)⟩
   ·have e3:(a0.getD k 0 != a1.getD k 0)=true:=by simpa using h
    rw [e3,cond_true]
    have e4:(a0==a1)=false:=by rw [beq_eq_false_iff_ne];intro h';exact h (by rw [h'])
    rw [e4]
  ·rw [cond_neg (by omega)]
   have e4:(a0==a1)=true:=by rw [beq_iff_eq];exact list_eq 0 hl fun j hj=>heq j (by omega)
   rw [e4];rfl
 ·have e:((a0.length:Int) != (a1.length:Int))=true:=by simp;omega
  have e4:(a0==a1)=false:=by rw [beq_eq_false_iff_ne];intro h';exact hl (by rw [h'])
  rw [e,cond_true,e4]
theorem c18:CallOk Tryd.prog G36 18 r18:=callOk_of mixed tys eV18 Tryd.func18 (by kernel_rfl) (c:=sub (bodyOf Tryd.f18) []) (by kernel_rfl) (by
 intro X H r H' h hX hH
 unfold r18 at h;split at h <;> try contradiction
 ·obtain⟨hp,rfl,rfl⟩:=inj3 h
  obtain⟨F,hF⟩:=s18 _ _ hp (hX _ hm0) (hX _ hm1)
  exact⟨Af18 F,(f18_body F _ _).trans hF⟩)
def lV27:List CEnt:=[]
def V27:Env:=mkEnv T36 G36 lV27
noncomputable abbrev Kf22:=kFin V27 none (Tryd.f27).results.toList
theorem eV27:EOk Tryd.prog V27:=eok_mk (by exact trivial)
def Af27(F:Nat):Cuts:={ F:=F,at_:=fun _=>none,join:=fun _=>none }
def ef27_a:Int×Li→St:=fun (a0,a1)=>⟨[(0,.int .i64 a0),(1,.str a1)],[],0,6,0⟩
def f27_1(F:Nat):Int×Li→Rz:=fun (a0,a1)=>(some ((.fn 45 (.cons 0 (.ptr 0 0 1 0 0 0 1) (.cons 0 (.ptr 1 0 1 0 0 0 1) .nil))),[(.cells 1 (.one (.str a1)) true),(.cells 1 (.one (.int .i64 a0)) true)]))
theorem f27_1_eq(F:Nat):∀ v,aexec V27 (Af27 F) (sub (bodyOf Tryd.f27) []) (ef27_a v) Kf22=f27_1 F v:=by
 rintro⟨a0,a1⟩;kernel_rfl
def f27(F:Nat):Int×Li→Rz:=f27_1 F
theorem f27_body(F:Nat)(a0:Int)(a1:Li):abody V27 (Af27 F) Tryd.f27 [(.int .i64 a0),.str a1] []=f27 F (a0,a1):=
 (abody_in (by kernel_rfl) (by kernel_rfl)).trans (f27_1_eq F (a0,a1))
def r27:CRun:=fun X H=>match X,H with
 | [(.int .i64 a0),.str a1],[]=>some (true,(.fn 45 (.cons 0 (.ptr 0 0 1 0 0 0 1) (.cons 0 (.ptr 1 0 1 0 0 0 1) .nil))),[(.cells 1 (.one (.str a1)) true),(.cells 1 (.one (.int .i64 a0)) true)])
 | _,_=>none
theorem s27(a0:Int)(a1:Li)(h0:okV (.int .i64 a0))(h1:okV (.str a1)):∃ F,f27 F (a0,a1)=some ((.fn 45 (.cons 0 (.ptr 0 0 1 0 0 0 1) (.cons 0 (.ptr 1 0 1 0 0 0 1) .nil))),[(.cells 1 (.one (.str a1)) true),(.cells 1 (.one (.int .i64 a0)) true)]):=⟨0,rfl⟩
theorem c27:CallOk Tryd.prog G36 27 r27:=callOk_of mixed tys eV27 Tryd.func27 (by kernel_rfl) (c:=sub (bodyOf Tryd.f27) []) (by kernel_rfl) (by
 intro X H r H' h hX hH
 unfold r27 at h;split at h <;> try contradiction
 ·obtain⟨hp,rfl,rfl⟩:=inj3 h
  obtain⟨F,hF⟩:=s27 _ _ (hX _ hm0) (hX _ hm1)
  exact⟨Af27 F,(f27_body F _ _).trans hF⟩)
end Go.Am
