/- Part of a proof. -/
import Derived.Test.YtffddoahjpemaaaGreatDoorAmJrn7
set_option linter.unusedVariables false
set_option linter.unusedSimpArgs false
namespace Go.Am
open Go Go.Proofs
abbrev sp41:List (Nat×Md):=[(5,.plain),(6,.plain),(7,.plain),(32,.plain),(33,.plain),(34,.plain)]
abbrev sp42:List (Nat×Md):=[(0,.plain),(5,.plain),(6,.plain)]
abbrev sp43:List (Nat×Md):=[(0,.plain),(5,.plain),(6,.plain),(7,.plain)]
abbrev sp44:List (Nat×Md):=[(6,.plain),(7,.plain)]
abbrev sp45:List (Nat×Md):=[(0,.plain),(1,.plain),(7,.plain),(8,.plain)]
abbrev sp46:List (Nat×Md):=[(0,.plain),(3,.plain),(12,.plain),(13,.plain),(14,.plain)]
abbrev sp47:List (Nat×Md):=[(0,.plain),(3,.plain),(6,.own 3),(7,.plain)]
abbrev sp48:List (Nat×Md):=[(0,.plain),(3,.plain),(6,.own 3)]
abbrev Ty32:=(List (List Li))×Nat
abbrev Ty33:=(List (List Li))×Nat×Int×Int×Int×Li×Bool
abbrev Ty34:=(List (List Li))×Nat×Int×Int×Int×Int×Li×Bool
abbrev Ty35:=(List (List Li))×Nat×Int×Li×Int×Int×Int×Li×Bool
abbrev Ty36:=Int×Li×(List (List Li))×Nat×Int×Int×Int×Int×Int×Li×Bool
abbrev Ty37:=Li×Int×Int×Int
abbrev Ty38:=Li×(List Li)×Li×Int×Int×Bool×Nat×Li×(Lp)×(Lp)×Bool×Int
abbrev Ty39:=(Lp)×(Dk.D)×(Jr.J)
abbrev Ty40:=Int×Int×(Lp)×(Dk.D)×(Jr.J)
abbrev Ty41:=(Lp)×Li×(Dk.D)×(Jr.J)
abbrev Ty42:=Int×(Lp)×Li×(Dk.D)×(Jr.J)
abbrev Ty43:=Li×(Dk.D)×(Jr.J)
def lV46:List CEnt:=[(34,[none],r34)]
def V46:Env:=mkEnv T36Z G36Z lV46
noncomputable abbrev Kf36:=kFin V46 none (Tryz.f46).results.toList
theorem eV46:EOk Tryz.prog V46:=eok_mk (by exact⟨c34,trivial⟩)
def Af46(F:Nat):Cuts:={ F:=F,at_:=fun n=>match n with | 7020=>some sp41 | _=>none,join:=fun n=>match n with | 1042=>some [(0,.plain)] | 2040=>some [(0,.plain),(5,.plain)] | 3038=>some sp42 | 5030=>some sp42 | 6028=>some sp43 | 7022=>some sp41 | 13003=>some sp44 | _=>none }
noncomputable abbrev XAf46(F:Nat){α:Type}:=@aexec α V46 (Af46 F)
def ef46_a:Ty32→St:=fun (a0,a0n)=>⟨[(0,(.vs (.rT [.int .i64,.int .i64,.int .i64,.str,.bool] a0) a0n 5))],[],0,72,0⟩
def ef46j1:Ty32→St:=fun (t0,x2)=>⟨[(0,(.vs (.rT [.int .i64,.int .i64,.int .i64,.str,.bool] t0) x2 5))],[],0,72,0⟩
def ef46j2:Ty33→St:=fun (t0,x2,x3,x4,x5,x6,x7)=>⟨[(0,(.vs (.rT [.int .i64,.int .i64,.int .i64,.str,.bool] t0) x2 5)),(5,.ptr 0 0 5 0 0 0 5)],[(0,(.cells 5 (.segs (.cons 1 (.one (.int .i64 x3)) (.cons 1 (.one (.int .i64 x4)) (.cons 1 (.one (.int .i64 x5)) (.cons 1 (.one (.str x6)) (.cons 1 (.one (.bool x7)) .nil)))))) true))],1,72,0⟩
def ef46j3:Ty34→St:=fun (t0,x2,t6,x4,x5,x6,x7,x8)=>⟨[(0,(.vs (.rT [.int .i64,.int .i64,.int .i64,.str,.bool] t0) x2 5)),(5,.ptr 0 0 5 0 0 0 5),(6,.int .i64 t6)],[(0,(.cells 5 (.segs (.cons 1 (.one (.int .i64 x4)) (.cons 1 (.one (.int .i64 x5)) (.cons 1 (.one (.int .i64 x6)) (.cons 1 (.one (.str x7)) (.cons 1 (.one (.bool x8)) .nil)))))) true))],1,72,0⟩
def ef46j4:Ty34→St:=ef46j3
def ef46j5:Ty35→St:=fun (t0,x2,t6,t7,x5,x6,x7,x8,x9)=>⟨[(0,(.vs (.rT [.int .i64,.int .i64,.int .i64,.str,.bool] t0) x2 5)),(5,.ptr 0 0 5 0 0 0 5),(6,.int .i64 t6),(7,.str t7)],[(0,(.cells 5 (.segs (.cons 1 (.one (.int .i64 x5)) (.cons 1 (.one (.int .i64 x6)) (.cons 1 (.one (.int .i64 x7)) (.cons 1 (.one (.str x8)) (.cons 1 (.one (.bool x9)) .nil)))))) true))],1,72,0⟩
def ef46j6:Ty36→St:=fun (t6,t7,t32,x4,t33,t34,x7,x8,x9,x10,x11)=>⟨[(5,.ptr 0 0 5 0 0 0 5),(6,.int .i64 t6),(7,.str t7),(32,(.vs (.rT [.int .i64,.int .i64,.int .i64,.str,.bool] t32) x4 5)),(33,.int .i64 t33),(34,.int .i64 t34)],[(0,(.cells 5 (.segs (.cons 1 (.one (.int .i64 x7)) (.cons 1 (.one (.int .i64 x8)) (.cons 1 (.one (.int .i64 x9)) (.cons 1 (.one (.str x10)) (.cons 1 (.one (.bool x11)) .nil)))))) true))],1,72,0⟩
def ef46l1:Ty36→St:=ef46j6
def ef46j7:Int×Li→St:=fun (t6,t7)=>⟨[(6,.int .i64 t6),(7,.str t7)],[],0,72,0⟩
def f46_1(F:Nat)(kj1:Ty32→Rz):Ty32→Rz:=fun (a0,a0n)=>(kj1 (a0,a0n))
theorem f46_1_eq(F:Nat)(Rj1:St→Rz):∀ v,XAf46 F (bp Tryz.f46 2) (ef46_a v) (kSeq (kc V46 Rj1 [(0,.plain)]) Kf36)=f46_1 F (Rj1∘ef46j1) v:=by
 rintro⟨a0,a0n⟩;kernel_rfl
def f46_2(F:Nat)(kj2:Ty33→Rz):Ty32→Rz:=fun (t0,x2)=>(cond (decide ((0:Int) < (↑x2:Int))) (kj2 (t0,x2,(((t0.getD 0 []).getD 0 []).getD 0 0),(((t0.getD 0 []).getD 1 []).getD 0 0),(((t0.getD 0 []).getD 2 []).getD 0 0),((t0.getD 0 []).getD 3 []),((((t0.getD 0 []).getD 4 []).getD 0 0)==1))) none)
theorem f46_2_eq(F:Nat)(Rj2:St→Rz):∀ v,XAf46 F (bp Tryz.f46 6) (ef46j1 v) (kSeq (kc V46 Rj2 [(0,.plain),(5,.plain)]) Kf36)=f46_2 F (Rj2∘ef46j2) v:=by
 rintro⟨t0,x2⟩;kernel_rfl
def f46_3(F:Nat)(kj3:Ty34→Rz):Ty33→Rz:=fun (t0,x2,x3,x4,x5,x6,x7)=>(kj3 (t0,x2,(Jr.count x5),x3,x4,x5,x6,x7))
theorem f46_3_eq(F:Nat)(Rj3:St→Rz):∀ v,XAf46 F (bp Tryz.f46 14) (ef46j2 v) (kSeq (kc V46 Rj3 sp42) Kf36)=f46_3 F (Rj3∘ef46j3) v:=by
 rintro⟨t0,x2,x3,x4,x5,x6,x7⟩;kernel_rfl
def f46_4(F:Nat)(kj4:Ty34→Rz):Ty34→Rz:=fun (t0,x2,t6,x4,x5,x6,x7,x8)=>(cond (!x8) (some ((.tup (.cons 0 (.str []) (.cons 0 (.int .i64 0) (.cons 0 (.bool false) .nil)))),[])) (cond (x5 != (0:Int)) (some ((.tup (.cons 0 (.str []) (.cons 0 (.int .i64 0) (.cons 0 (.bool false) .nil)))),[])) (cond (decide (t6 > (↑x2:Int))) (some ((.tup (.cons 0 (.str []) (.cons 0 (.int .i64 0) (.cons 0 (.bool false) .nil)))),[])) (kj4 (t0,x2,t6,x4,x5,x6,x7,x8)))))
theorem f46_4_eq(F:Nat)(Rj4:St→Rz):∀ v,XAf46 F (bp Tryz.f46 30) (ef46j3 v) (kSeq (kc V46 Rj4 sp42) Kf36)=f46_4 F (Rj4∘ef46j4) v:=by
 rintro⟨t0,x2,t6,x4,x5,x6,x7,x8⟩;kernel_rfl
def f46_5(F:Nat)(kj5:Ty35→Rz):Ty34→Rz:=fun (t0,x2,t6,x4,x5,x6,x7,x8)=>(kj5 (t0,x2,t6,[],x4,x5,x6,x7,x8))
theorem f46_5_eq(F:Nat)(Rj5:St→Rz):∀ v,XAf46 F (bp Tryz.f46 62) (ef46j4 v) (kSeq (kc V46 Rj5 sp43) Kf36)=f46_5 F (Rj5∘ef46j5) v:=by
 rintro⟨t0,x2,t6,x4,x5,x6,x7,x8⟩;kernel_rfl
def f46_6(F:Nat)(kj6:Ty36→Rz)(kj7:Int×Li→Rz):Ty35→Rz:=fun (t0,x2,t6,t7,x5,x6,x7,x8,x9)=>(cond ((decide ((0:Int)≤t6))&&(decide (t6≤(↑x2:Int)))) (kj6 (t6,t7,(t0.take (Int.toNat t6)),(Int.toNat t6),(↑(Int.toNat t6):Int),(0:Int),x5,x6,x7,x8,x9)) none)
theorem f46_6_eq(F:Nat)(Rj6 Rj7:St→Rz):∀ v,XAf46 F (bp Tryz.f46 252) (ef46j5 v) (kSeq (kc V46 Rj6 sp41) (kSeq (kc V46 Rj7 sp44) Kf36))=f46_6 F (Rj6∘ef46j6) (Rj7∘ef46j7) v:=by
 rintro⟨t0,x2,t6,t7,x5,x6,x7,x8,x9⟩;kernel_rfl
def f46_7(F:Nat)(kl1:Ty36→Rz)(kj7:Int×Li→Rz):Ty36→Rz:=fun (t6,t7,t32,x4,t33,t34,x7,x8,x9,x10,x11)=>(cond (decide (t34 < t33)) (cond ((decide (0≤t34))&&(decide (t34 < (↑x4:Int)))) (cond (!((((t32.getD (Int.toNat t34) []).getD 4 []).getD 0 0)==1)) (some ((.tup (.cons 0 (.str []) (.cons 0 (.int .i64 0) (.cons 0 (.bool false) .nil)))),[])) (cond ((((t32.getD (Int.toNat t34) []).getD 0 []).getD 0 0) != x7) (some ((.tup (.cons 0 (.str []) (.cons 0 (.int .i64 0) (.cons 0 (.bool false) .nil)))),[])) (cond ((((t32.getD (Int.toNat t34) []).getD 1 []).getD 0 0) != t34) (some ((.tup (.cons 0 (.str []) (.cons 0 (.int .i64 0) (.cons 0 (.bool false) .nil)))),[])) (cond ((((t32.getD (Int.toNat t34) []).getD 2 []).getD 0 0) != (IntKind.i64.wrap (x9-(IntKind.i64.wrap ((48:Int)*t34))))) (some ((.tup (.cons 0 (.str []) (.cons 0 (.int .i64 0) (.cons 0 (.bool false) .nil)))),[])) (cond (decide ((t7.length+((t32.getD (Int.toNat t34) []).getD 3 []).length) < 4611686018427387904)) (kl1 (t6,(t7++((t32.getD (Int.toNat t34) []).getD 3 [])),t32,x4,t33,(IntKind.i64.wrap (t34+(1:Int))),x7,x8,x9,x10,x11)) none))))) none) (kj7 (t6,t7)))
theorem f46_7_eq(F:Nat)(Rl1 Rj7:St→Rz):∀ v,XAf46 F (bp Tryz.f46 1012) (ef46l1 v) (kSeq (kc V46 Rl1 sp41) (kBlock 0 (kSeq (kc V46 Rj7 sp44) Kf36)))=f46_7 F (Rl1∘ef46l1) (Rj7∘ef46j7) v:=by
 rintro⟨t6,t7,t32,x4,t33,t34,x7,x8,x9,x10,x11⟩;kernel_rfl
def f46_8_i:Ty36→Int×Li×(List (List Li))×Nat×Int×Int×Int×Int×Int×Li×Bool:=fun (t6,t7,t32,x4,t33,t34,x7,x8,x9,x10,x11)=>(t6,t7,t32,x4,t33,t34,x7,x8,x9,x10,x11)
def f46_8(F:Nat)(kj7:Int×Li→Rz):Ty36→Rz:=fun v=>loopN (fun k=>f46_7 F k kj7) F (f46_8_i v)
theorem f46_8_eq(F:Nat)(Rj7:St→Rz):∀ v,XAf46 F (bp Tryz.f46 506) (ef46j6 v) (kBlock 0 (kSeq (kc V46 Rj7 sp44) Kf36))=f46_8 F (Rj7∘ef46j7) v:=
 loop_cut (by kernel_rfl) (by kernel_rfl) ef46j6 ef46l1 _ f46_8_i (fun k=>f46_7 F k (Rj7∘ef46j7))
  (by rintro⟨t6,t7,t32,x4,t33,t34,x7,x8,x9,x10,x11⟩;kernel_rfl) (fun Rl1=>f46_7_eq F Rl1 Rj7)
def f46_9(F:Nat)(kj7:Int×Li→Rz):Ty36→Rz:=f46_8 F kj7
theorem f46_9_eq(F:Nat)(Rj7:St→Rz):∀ v,XAf46 F (bp Tryz.f46 253) (ef46j6 v) (kSeq (kc V46 Rj7 sp44) Kf36)=f46_9 F (Rj7∘ef46j7) v:=fun v=>
 (block_in  (by kernel_rfl) _ _).trans (f46_8_eq F Rj7 v)
def f46_10(F:Nat)(kj7:Int×Li→Rz):Ty35→Rz:=fun v=>f46_6 F (f46_9 F kj7) kj7 v
theorem f46_10_eq(F:Nat)(Rj7:St→Rz):∀ v,XAf46 F (bp Tryz.f46 126) (ef46j5 v) (kSeq (kc V46 Rj7 sp44) Kf36)=f46_10 F (Rj7∘ef46j7) v:=
 seq_cut (by kernel_rfl) (by kernel_rfl) ef46j5 ef46j6 _ (fun k=>f46_6 F k (Rj7∘ef46j7)) (f46_9 F (Rj7∘ef46j7))
  (fun Rj6=>f46_6_eq F Rj6 Rj7) (f46_9_eq F Rj7)
def f46_11(F:Nat):Int×Li→Rz:=fun (t6,t7)=>(some ((.tup (.cons 0 (.str t7) (.cons 0 (.int .i64 t6) (.cons 0 (.bool true) .nil)))),[]))
theorem f46_11_eq(F:Nat):∀ v,XAf46 F (bp Tryz.f46 127) (ef46j7 v) Kf36=f46_11 F v:=by
 rintro⟨t6,t7⟩;kernel_rfl
def f46_12(F:Nat):Ty35→Rz:=fun v=>f46_10 F (f46_11 F) v
theorem f46_12_eq(F:Nat):∀ v,XAf46 F (bp Tryz.f46 63) (ef46j5 v) Kf36=f46_12 F v:=
 seq_cut (by kernel_rfl) (by kernel_rfl) ef46j5 ef46j7 _ (fun k=>f46_10 F k) (f46_11 F)
  (fun Rj7=>f46_10_eq F Rj7) (f46_11_eq F)
def f46_13(F:Nat):Ty34→Rz:=fun v=>f46_5 F (f46_12 F) v
theorem f46_13_eq(F:Nat):∀ v,XAf46 F (bp Tryz.f46 31) (ef46j4 v) Kf36=f46_13 F v:=
 seq_cut (by kernel_rfl) (by kernel_rfl) ef46j4 ef46j5 _ (fun k=>f46_5 F k) (f46_12 F)
  (fun Rj5=>f46_5_eq F Rj5) (f46_12_eq F)
def f46_14(F:Nat):Ty34→Rz:=fun v=>f46_4 F (f46_13 F) v
theorem f46_14_eq(F:Nat):∀ v,XAf46 F (bp Tryz.f46 15) (ef46j3 v) Kf36=f46_14 F v:=
 seq_cut (by kernel_rfl) (by kernel_rfl) ef46j3 ef46j4 _ (fun k=>f46_4 F k) (f46_13 F)
  (fun Rj4=>f46_4_eq F Rj4) (f46_13_eq F)
def f46_15(F:Nat):Ty33→Rz:=fun v=>f46_3 F (f46_14 F) v
theorem f46_15_eq(F:Nat):∀ v,XAf46 F (bp Tryz.f46 7) (ef46j2 v) Kf36=f46_15 F v:=
 seq_cut (by kernel_rfl) (by kernel_rfl) ef46j2 ef46j3 _ (fun k=>f46_3 F k) (f46_14 F)
  (fun Rj3=>f46_3_eq F Rj3) (f46_14_eq F)
def f46_16(F:Nat):Ty32→Rz:=fun v=>f46_2 F (f46_15 F) v
theorem f46_16_eq(F:Nat):∀ v,XAf46 F (bp Tryz.f46 3) (ef46j1 v) Kf36=f46_16 F v:=
 seq_cut (by kernel_rfl) (by kernel_rfl) ef46j1 ef46j2 _ (fun k=>f46_2 F k) (f46_15 F)
  (fun Rj2=>f46_2_eq F Rj2) (f46_15_eq F)
def f46_17(F:Nat):Ty32→Rz:=fun v=>f46_1 F (f46_16 F) v
theorem f46_17_eq(F:Nat):∀ v,XAf46 F (sub (bodyOf Tryz.f46) []) (ef46_a v) Kf36=f46_17 F v:=
 seq_cut (by kernel_rfl) (by kernel_rfl) ef46_a ef46j1 _ (fun k=>f46_1 F k) (f46_16 F)
  (fun Rj1=>f46_1_eq F Rj1) (f46_16_eq F)
def f46(F:Nat):Ty32→Rz:=f46_17 F
theorem f46_body(F:Nat)(a0:List (List Li))(a0n:Nat):abody V46 (Af46 F) Tryz.f46 [(.vs (.rT [.int .i64,.int .i64,.int .i64,.str,.bool] a0) a0n 5)] []=f46 F (a0,a0n):=
 (abody_in (by kernel_rfl) (by kernel_rfl)).trans (f46_17_eq F (a0,a0n))
def r46:CRun:=fun X H=>match X,H with
 | [(.vs (.rT [.int .i64,.int .i64,.int .i64,.str,.bool] a0) a0n 5)],[]=>some ((decide (0 < a0.length))&&(Jr.shortR a0),(.tup (.cons 0 (.str (Jr.rec a0).1) (.cons 0 (.int .i64 (Jr.rec a0).2.1) (.cons 0 (.bool (Jr.rec a0).2.2) .nil)))),[])
 | _,_=>none
theorem s46(a0:List (List Li))(a0n:Nat)(hp:((decide (0 < a0.length))&&(Jr.shortR a0))=true)(h0:okV (.vs (.rT [.int .i64,.int .i64,.int .i64,.str,.bool] a0) a0n 5)):∃ F,f46 F (a0,a0n)=some ((.tup (.cons 0 (.str (Jr.rec a0).1) (.cons 0 (.int .i64 (Jr.rec a0).2.1) (.cons 0 (.bool (Jr.rec a0).2.2) .nil)))),[]):=by
 obtain⟨hp0,hsh⟩:=Bool.and_eq_true_iff.1 hp
 have hp0:=of_decide_eq_true hp0
 have hn:a0n=a0.length:=by have:a0.length*5=a0n*5:=h0.1;omega
 subst hn
 have hpt:∀ i,i < a0.length→Jr.pt (a0.map Jr.unrow) i=Jr.unrow (a0.getD i []):=fun i hi=>Jr.pt_map hi
 have h0p:Jr.pt (a0.map Jr.unrow) 0=Jr.unrow (a0.getD 0 []):=hpt 0 hp0
 obtain⟨l,hl⟩:∃ l,l=a0.map Jr.unrow:=⟨_,rfl⟩
 have hll:l.length=a0.length:=by rw [hl];simp
 have hrec:Jr.rec a0=cond (Jr.recOk l 0) (Jr.recText l 0 (Jr.recN l 0),(Jr.recN l 0:Int),true) ([],0,false):=by rw [hl];rfl
 have hpay:∀ i,(Jr.pt l i).payload.length≤64:=fun i=>by rw [hl];exact Jr.short_pt hsh i
 rw [hrec]
 rw [← hl] at h0p hpt
 refine⟨400,?_⟩
 simp only [f46,f46_17,f46_1,f46_16,f46_2,f46_15,f46_3,f46_14,f46_4,f46_13,f46_5,f46_12,f46_10,f46_6,f46_9,f46_8,f46_8_i]
 rw [cond_pos (by omega)]
 have e0:(((a0.getD 0 []).getD 0 []).getD 0 0)=(Jr.pt l 0).number:=by rw [h0p];rfl
 have e1:(((a0.getD 0 []).getD 1 []).getD 0 0)=(Jr.pt l 0).part:=by rw [h0p];rfl
 have e2:(((a0.getD 0 []).getD 2 []).getD 0 0)=(Jr.pt l 0).left:=by rw [h0p];rfl
 have e4:((((a0.getD 0 []).getD 4 []).getD 0 0)==1)=(Jr.pt l 0).ok:=by rw [h0p];rfl
 simp only [e0,e1,e2,e4]
 cases hok:(Jr.pt l 0).ok with
 | false=>
  have:Jr.recOk l 0=false:=by rw [Jr.recOk,hok];rfl
  rw [this];rfl
 | true=>
 simp only [Bool.not_true,cond_false,int_bne]
 by_cases hpart:(Jr.pt l 0).part=0
 case neg=>
  have:Jr.recOk l 0=false:=by rw [Jr.recOk,decide_eq_false (fun h=>hpart h.1),Bool.and_false,Bool.false_and]
  rw [this,cond_pos hpart];rfl
 rw [cond_neg (fun h=>h hpart)]
 have hc0:0≤Jr.count (Jr.pt l 0).left∧Jr.count (Jr.pt l 0).left≤200∧(0 < Jr.count (Jr.pt l 0).left→0≤(Jr.pt l 0).left∧(Jr.pt l 0).left≤8000):=by
  unfold Jr.count
  by_cases h:(Jr.pt l 0).left < 0∨8000 < (Jr.pt l 0).left
  ·rw [cond_pos h];exact⟨by omega,by omega,fun h=>by omega⟩
  ·rw [cond_neg h]
   split <;> exact⟨by omega,by omega,fun _=>by omega⟩
 have hN:(Jr.recN l 0:Int)=Jr.count (Jr.pt l 0).left:=by rw [Jr.recN];omega
 by_cases hcnt:Jr.count (Jr.pt l 0).left > (a0.length:Int)
 case pos=>
  have:Jr.recOk l 0=false:=by rw [Jr.recOk,decide_eq_false (fun h=>by have:=h.2;omega),Bool.and_false,Bool.false_and]
  rw [this,cond_pos hcnt];rfl
 rw [cond_neg hcnt]
 simp only [dec_and]
 rw [cond_pos (by omega),← hN,Int.toNat_natCast]
 obtain⟨n,hn⟩:∃ n,n=Jr.recN l 0:=⟨_,rfl⟩
 rw [← hn] at hN ⊢
 have hna:n≤a0.length:=by omega
 have hR:∀ i,i < n→Jr.partOk l 0 i=false→Jr.recOk l 0=false:=fun i hi h=>by
  rw [Jr.recOk,← hn,Bool.and_eq_false_iff]
  right
  rw [List.all_eq_false]
  exact⟨i,List.mem_range.2 hi,by rw [h];decide⟩
 refine loopN_ind (fun m s=>∃ i:Nat,s=((n:Int),Jr.recText l 0 i,a0.take n,n,(n:Int),(i:Int),(Jr.pt l 0).number,(Jr.pt l 0).part,(Jr.pt l 0).left,(a0.getD 0 []).getD 3 [],true)∧m=n-i∧i≤n ∧ ∀ j,j < i→Jr.partOk l 0 j=true) (fun m s K hi hk=>?_) 400 n _ (by omega) ⟨0,rfl,by omega,by omega,fun j hj=>by omega⟩
 obtain⟨i,rfl,hm,hle,hall⟩:=hi
 simp only [f46_7,Int.toNat_natCast,dec_and]
 by_cases hlt:i < n
 ·have ht:(a0.take n).getD i []=a0.getD i []:=by
   rw [List.getD_eq_getElem?_getD,List.getElem?_take,if_pos hlt,List.getD_eq_getElem?_getD]
  have hpi:=hpt i (by omega)
  have f0:(((a0.getD i []).getD 0 []).getD 0 0)=(Jr.pt l i).number:=by rw [hpi];rfl
  have f1:(((a0.getD i []).getD 1 []).getD 0 0)=(Jr.pt l i).part:=by rw [hpi];rfl
  have f2:(((a0.getD i []).getD 2 []).getD 0 0)=(Jr.pt l i).left:=by rw [hpi];rfl
  have f3:((a0.getD i []).getD 3 [])=(Jr.pt l i).payload:=by rw [hpi];rfl
  have f4:((((a0.getD i []).getD 4 []).getD 0 0)==1)=(Jr.pt l i).ok:=by rw [hpi];rfl
  have hleft:=hc0.2.2 (by omega)
  rw [cond_pos (by omega),cond_pos (by omega)]
  simp only [ht,f0,f1,f2,f3,f4,int_bne]
  rw [i64w (x:=(48:Int)*i) (by omega) (by omega),i64w (x:=(Jr.pt l 0).left-48*i) (by omega) (by omega),i64w (x:=(i:Int)+1) (by omega) (by omega)]
  have hP:Jr.partOk l 0 i=((Jr.pt l i).ok&&decide ((Jr.pt l i).number=(Jr.pt l 0).number∧(Jr.pt l i).part=(i:Int)∧(Jr.pt l i).left=(Jr.pt l 0).left-48*i)):=by
   rw [Jr.partOk,Nat.zero_add]
  cases hoki:(Jr.pt l i).ok with
  | false=>rw [hR i hlt (by rw [hP,hoki];rfl)];rfl
  | true=>
  simp only [Bool.not_true,cond_false]
  by_cases g1:(Jr.pt l i).number=(Jr.pt l 0).number
  case neg=>rw [cond_pos g1,hR i hlt (by rw [hP,decide_eq_false (fun h=>g1 h.1),Bool.and_false])];rfl
  rw [cond_neg (fun h=>h g1)]
  by_cases g2:(Jr.pt l i).part=(i:Int)
  case neg=>rw [cond_pos g2,hR i hlt (by rw [hP,decide_eq_false (fun h=>g2 h.2.1),Bool.and_false])];rfl
  rw [cond_neg (fun h=>h g2)]
  by_cases g3:(Jr.pt l i).left=(Jr.pt l 0).left-48*i
  case neg=>rw [cond_pos g3,hR i hlt (by rw [hP,decide_eq_false (fun h=>g3 h.2.2),Bool.and_false])];rfl
  rw [cond_neg (fun h=>h g3)]
  have hlen:=Jr.recText_len hpay 0 i
  have hpi2:=hpay i
  rw [cond_pos (by omega)]
  refine hk (m-1) _ (by omega) ⟨i+1,?_,by omega,by omega,fun j hj=>?_⟩
  ·rw [Jr.recText_succ,Nat.zero_add];rfl
  ·by_cases hj':j=i
   ·subst hj';rw [hP,hoki,decide_eq_true ⟨g1,g2,g3⟩];rfl
   ·exact hall j (by omega)
 ·rw [cond_neg (by omega)]
  have hin:i=n:=by omega
  subst hin
  have:Jr.recOk l 0=true:=by
   rw [Jr.recOk,hok,← hn,decide_eq_true ⟨hpart,by omega⟩,Bool.and_self,Bool.true_and,List.all_eq_true]
   intro j hj
   exact hall j (List.mem_range.1 hj)
  rw [this]
  simp only [f46_11]
  rfl
theorem c46:CallOk Tryz.prog G36Z 46 r46:=callOk_of mixed tys eV46 Tryz.func46 (by kernel_rfl) (c:=sub (bodyOf Tryz.f46) []) (by kernel_rfl) (by
 intro X H r H' h hX hH
 unfold r46 at h;split at h <;> try contradiction
 ·obtain⟨hp,rfl,rfl⟩:=inj3 h
  obtain⟨F,hF⟩:=s46 _ _ hp (hX _ hm0)
  exact⟨Af46 F,(f46_body F _ _).trans hF⟩)
def lV78:List CEnt:=[]
def V78:Env:=mkEnv T36Z G36Z lV78
noncomputable abbrev Kf37:=kFin V78 none (Tryz.f78).results.toList
theorem eV78:EOk Tryz.prog V78:=eok_mk (by exact trivial)
def Af78(F:Nat):Cuts:={ F:=F,at_:=fun n=>match n with | 2018=>some sp45 | _=>none,join:=fun n=>match n with | 1026=>some sp37 | 2020=>some sp45 | 7003=>some [] | _=>none }
noncomputable abbrev XAf78(F:Nat){α:Type}:=@aexec α V78 (Af78 F)
def ef78_a:Li×Int→St:=fun (a0,a1)=>⟨[(0,(.vs (.rI .i64 a0) 0 1)),(1,.int .i64 a1)],[],0,19,0⟩
def ef78j1:Li×Int→St:=fun (t0,t1)=>⟨[(0,(.vs (.rI .i64 t0) 0 1)),(1,.int .i64 t1)],[],0,19,0⟩
def ef78j2:Ty37→St:=fun (t0,t1,t7,t8)=>⟨[(0,(.vs (.rI .i64 t0) 0 1)),(1,.int .i64 t1),(7,.int .i64 t7),(8,.int .i64 t8)],[],0,19,0⟩
def ef78l1:Ty37→St:=ef78j2
def ef78j3:Unit→St:=fun _=>⟨[],[],0,19,0⟩
def f78_1(F:Nat)(kj1:Li×Int→Rz):Li×Int→Rz:=fun (a0,a1)=>(kj1 (a0,a1))
theorem f78_1_eq(F:Nat)(Rj1:St→Rz):∀ v,XAf78 F (bp Tryz.f78 2) (ef78_a v) (kSeq (kc V78 Rj1 sp37) Kf37)=f78_1 F (Rj1∘ef78j1) v:=by
 rintro⟨a0,a1⟩;kernel_rfl
def f78_2(F:Nat)(kj2:Ty37→Rz)(kj3:Unit→Rz):Li×Int→Rz:=fun (t0,t1)=>(kj2 (t0,t1,(↑t0.length:Int),(0:Int)))
theorem f78_2_eq(F:Nat)(Rj2 Rj3:St→Rz):∀ v,XAf78 F (bp Tryz.f78 12) (ef78j1 v) (kSeq (kc V78 Rj2 sp45) (kSeq (kc V78 Rj3 []) Kf37))=f78_2 F (Rj2∘ef78j2) (Rj3∘ef78j3) v:=by
 rintro⟨t0,t1⟩;kernel_rfl
def f78_3(F:Nat)(kl1:Ty37→Rz)(kj3:Unit→Rz):Ty37→Rz:=fun (t0,t1,t7,t8)=>(cond (decide (t8 < t7)) (cond ((decide (0≤t8))&&(decide (t8 < (↑t0.length:Int)))) (cond (t1==(t0.getD (Int.toNat t8) 0)) (some ((.int .i64 t8),[])) (kl1 (t0,t1,t7,(IntKind.i64.wrap (t8+(1:Int)))))) none) (kj3 ()))
theorem f78_3_eq(F:Nat)(Rl1 Rj3:St→Rz):∀ v,XAf78 F (bp Tryz.f78 52) (ef78l1 v) (kSeq (kc V78 Rl1 sp45) (kBlock 0 (kSeq (kc V78 Rj3 []) Kf37)))=f78_3 F (Rl1∘ef78l1) (Rj3∘ef78j3) v:=by
 rintro⟨t0,t1,t7,t8⟩;kernel_rfl
def f78_4_i:Ty37→Li×Int×Int×Int:=fun (t0,t1,t7,t8)=>(t0,t1,t7,t8)
def f78_4(F:Nat)(kj3:Unit→Rz):Ty37→Rz:=fun v=>loopN (fun k=>f78_3 F k kj3) F (f78_4_i v)
theorem f78_4_eq(F:Nat)(Rj3:St→Rz):∀ v,XAf78 F (bp Tryz.f78 26) (ef78j2 v) (kBlock 0 (kSeq (kc V78 Rj3 []) Kf37))=f78_4 F (Rj3∘ef78j3) v:=
 loop_cut (by kernel_rfl) (by kernel_rfl) ef78j2 ef78l1 _ f78_4_i (fun k=>f78_3 F k (Rj3∘ef78j3))
  (by rintro⟨t0,t1,t7,t8⟩;kernel_rfl) (fun Rl1=>f78_3_eq F Rl1 Rj3)
def f78_5(F:Nat)(kj3:Unit→Rz):Ty37→Rz:=f78_4 F kj3
theorem f78_5_eq(F:Nat)(Rj3:St→Rz):∀ v,XAf78 F (bp Tryz.f78 13) (ef78j2 v) (kSeq (kc V78 Rj3 []) Kf37)=f78_5 F (Rj3∘ef78j3) v:=fun v=>
 (block_in  (by kernel_rfl) _ _).trans (f78_4_eq F Rj3 v)
def f78_6(F:Nat)(kj3:Unit→Rz):Li×Int→Rz:=fun v=>f78_2 F (f78_5 F kj3) kj3 v
theorem f78_6_eq(F:Nat)(Rj3:St→Rz):∀ v,XAf78 F (bp Tryz.f78 6) (ef78j1 v) (kSeq (kc V78 Rj3 []) Kf37)=f78_6 F (Rj3∘ef78j3) v:=
 seq_cut (by kernel_rfl) (by kernel_rfl) ef78j1 ef78j2 _ (fun k=>f78_2 F k (Rj3∘ef78j3)) (f78_5 F (Rj3∘ef78j3))
  (fun Rj2=>f78_2_eq F Rj2 Rj3) (f78_5_eq F Rj3)
def f78_7(F:Nat):Unit→Rz:=fun _=>(some ((.int .i64 (-1:Int)),[]))
theorem f78_7_eq(F:Nat):∀ v,XAf78 F (bp Tryz.f78 7) (ef78j3 v) Kf37=f78_7 F v:=by
 intro _;kernel_rfl
def f78_8(F:Nat):Li×Int→Rz:=fun v=>f78_6 F (f78_7 F) v
theorem f78_8_eq(F:Nat):∀ v,XAf78 F (bp Tryz.f78 3) (ef78j1 v) Kf37=f78_8 F v:=
 seq_cut (by kernel_rfl) (by kernel_rfl) ef78j1 ef78j3 _ (fun k=>f78_6 F k) (f78_7 F)
  (fun Rj3=>f78_6_eq F Rj3) (f78_7_eq F)
def f78_9(F:Nat):Li×Int→Rz:=fun v=>f78_1 F (f78_8 F) v
theorem f78_9_eq(F:Nat):∀ v,XAf78 F (sub (bodyOf Tryz.f78) []) (ef78_a v) Kf37=f78_9 F v:=
 seq_cut (by kernel_rfl) (by kernel_rfl) ef78_a ef78j1 _ (fun k=>f78_1 F k) (f78_8 F)
  (fun Rj1=>f78_1_eq F Rj1) (f78_8_eq F)
def f78(F:Nat):Li×Int→Rz:=f78_9 F
theorem f78_body(F:Nat)(a0:Li)(a1:Int):abody V78 (Af78 F) Tryz.f78 [(.vs (.rI .i64 a0) 0 1),.int .i64 a1] []=f78 F (a0,a1):=
 (abody_in (by kernel_rfl) (by kernel_rfl)).trans (f78_9_eq F (a0,a1))
def r78:CRun:=fun X H=>match X,H with
 | [(.vs (.rI .i64 a0) 0 1),.int .i64 a1],[]=>some (true,(.int .i64 (Jr.idx a0 a1)),[])
 | _,_=>none
theorem s78(a0:Li)(a1:Int)(h0:okV (.vs (.rI .i64 a0) 0 1))(h1:okV (.int .i64 a1)):∃ F,f78 F (a0,a1)=some ((.int .i64 (Jr.idx a0 a1)),[]):=by
 have hl:a0.length < 4611686018427387904:=h0.2
 refine⟨a0.length+1,?_⟩
 simp only [f78,f78_9,f78_1,f78_8,f78_6,f78_7,f78_2,f78_5,f78_4,f78_4_i]
 refine loopN_ind (fun m s=>∃ k:Nat,s=(a0,a1,(a0.length:Int),(k:Int))∧m=a0.length-k∧k≤a0.length∧Jr.idx a0 a1=Jr.idxGo a1 (a0.drop k) k) (fun m s K hi hk=>?_) (a0.length+1) a0.length _ (by omega) ⟨0,rfl,by omega,by omega,rfl⟩
 obtain⟨k,rfl,hm,hle,heq⟩:=hi
 simp only [f78_3,Int.toNat_natCast,dec_and]
 by_cases hlt:k < a0.length
 ·rw [cond_pos (by omega),cond_pos (by omega),i64w (by omega) (by omega)]
  rw [Jr.idxGo_drop hlt] at heq
  cases h:(a1==a0.getD k 0)
  ·rw [h] at heq
   exact hk (m-1) _ (by omega) ⟨k+1,rfl,by omega,by omega,heq⟩
  ·rw [h] at heq
   rw [heq];rfl
 ·rw [cond_neg (by omega)]
  have:k=a0.length:=by omega
  subst this
  rw [List.drop_length] at heq
  rw [heq];rfl
theorem c78:CallOk Tryz.prog G36Z 78 r78:=callOk_of mixed tys eV78 Tryz.func78 (by kernel_rfl) (c:=sub (bodyOf Tryz.f78) []) (by kernel_rfl) (by
 intro X H r H' h hX hH
 unfold r78 at h;split at h <;> try contradiction
 ·obtain⟨hp,rfl,rfl⟩:=inj3 h
  obtain⟨F,hF⟩:=s78 _ _ (hX _ hm0) (hX _ hm1)
  exact⟨Af78 F,(f78_body F _ _).trans hF⟩)
def lV47:List CEnt:=[(78,[some 3,none],r78)]
def V47:Env:=mkEnv T36Z G36Z lV47
noncomputable abbrev Kf38:=kFin V47 none (Tryz.f47).results.toList
theorem eV47:EOk Tryz.prog V47:=eok_mk (by exact⟨c78,trivial⟩)
def Af47(F:Nat):Cuts:={ F:=F,at_:=fun _=>none,join:=fun _=>none }
def ef47_a:Li×Int→St:=fun (a0,a1)=>⟨[(0,(.vs (.rI .i64 a0) 0 1)),(1,.int .i64 a1)],[],0,9,0⟩
def f47_1(F:Nat):Li×Int→Rz:=fun (a0,a1)=>(some ((.bool (decide ((Jr.idx a0 a1)≥(0:Int)))),[]))
theorem f47_1_eq(F:Nat):∀ v,aexec V47 (Af47 F) (sub (bodyOf Tryz.f47) []) (ef47_a v) Kf38=f47_1 F v:=by
 rintro⟨a0,a1⟩;kernel_rfl
def f47(F:Nat):Li×Int→Rz:=f47_1 F
theorem f47_body(F:Nat)(a0:Li)(a1:Int):abody V47 (Af47 F) Tryz.f47 [(.vs (.rI .i64 a0) 0 1),.int .i64 a1] []=f47 F (a0,a1):=
 (abody_in (by kernel_rfl) (by kernel_rfl)).trans (f47_1_eq F (a0,a1))
def r47:CRun:=fun X H=>match X,H with
 | [(.vs (.rI .i64 a0) 0 1),.int .i64 a1],[]=>some (true,(.bool (a0.contains a1)),[])
 | _,_=>none
theorem s47(a0:Li)(a1:Int)(h0:okV (.vs (.rI .i64 a0) 0 1))(h1:okV (.int .i64 a1)):∃ F,f47 F (a0,a1)=some ((.bool (a0.contains a1)),[]):=by
 refine⟨0,?_⟩
 simp only [f47,f47_1]
 rw [show decide (Jr.idx a0 a1≥0)=a0.contains a1 from Jr.idx_contains a1 a0 0]
theorem c47:CallOk Tryz.prog G36Z 47 r47:=callOk_of mixed tys eV47 Tryz.func47 (by kernel_rfl) (c:=sub (bodyOf Tryz.f47) []) (by kernel_rfl) (by
 intro X H r H' h hX hH
 unfold r47 at h;split at h <;> try contradiction
 ·obtain⟨hp,rfl,rfl⟩:=inj3 h
  obtain⟨F,hF⟩:=s47 _ _ (hX _ hm0) (hX _ hm1)
  exact⟨Af47 F,(f47_body F _ _).trans hF⟩)
def lV67:List CEnt:=[]
def V67:Env:=mkEnv T36Z G36Z lV67
noncomputable abbrev Kf39:=kFin V67 (some [(2,.own 3)]) (Tryz.f67).results.toList
theorem eV67:EOk Tryz.prog V67:=eok_mk (by exact trivial)
def Af67p(F:Nat):Cuts:={ F:=F,at_:=fun _=>none,join:=fun _=>none,fin:=(some [(2,.own 3)]) }
def ef67p_a:Li→St:=fun a0=>⟨[(0,(.vs (.rI .i64 a0) 2 1))],[],0,8,0⟩
def f67p_1(F:Nat):Li→Rz:=fun a0=>(cond (decide ((0+a0.length) < 1073741824)) (some ((.own 0 0 1),[(.cells ([]++a0).length (.rI .i64 ([]++a0)) true)])) none)
theorem f67p_1_eq(F:Nat):∀ v,aexec V67 (Af67p F) (sub (bodyOf Tryz.f67) []) (ef67p_a v) Kf39=f67p_1 F v:=by
 intro a0;kernel_rfl
def f67p(F:Nat):Li→Rz:=f67p_1 F
theorem f67p_body(F:Nat)(a0:Li):abody V67 (Af67p F) Tryz.f67 [(.vs (.rI .i64 a0) 2 1)] []=f67p F a0:=
 (abody_in (c:=(sub (bodyOf Tryz.f67) [])) (by kernel_rfl) (s:=ef67p_a a0) (by kernel_rfl)).trans (f67p_1_eq F a0)
def Af67z(F:Nat):Cuts:={ F:=F,at_:=fun _=>none,join:=fun _=>none,fin:=(some [(2,.own 3)]) }
def ef67z_a:Unit→St:=fun _=>⟨[(0,(.vs (.rI .i64 []) 3 1))],[],0,8,0⟩
def f67z_1(F:Nat):Unit→Rz:=fun _=>(some ((.own 0 0 1),[(.cells 0 (.rI .i64 []) true)]))
theorem f67z_1_eq(F:Nat):∀ v,aexec V67 (Af67z F) (sub (bodyOf Tryz.f67) []) (ef67z_a v) Kf39=f67z_1 F v:=by
 intro _;kernel_rfl
def f67z(F:Nat):Unit→Rz:=f67z_1 F
theorem f67z_body(F:Nat) : abody V67 (Af67z F) Tryz.f67 [(.vs (.rI .i64 []) 3 1)] []=f67z F ():=
 (abody_in (by kernel_rfl) (by kernel_rfl)).trans (f67z_1_eq F ())
def r67:CRun:=fun X H=>match X,H with
 | [(.vs (.rI .i64 a0) 0 1)],[]=>some ((decide (a0.length < 1073741000)),.own 0 0 1,[(iB a0)])
 | _,_=>none
theorem s67p(a0:Li)(hp:((decide (a0.length < 1073741000)))=true)(h0:okV (.vs (.rI .i64 a0) 0 1)):∃ F,f67p F a0=some ((.own 0 0 1),[(iB a0)]):=by
 have h:=of_decide_eq_true hp
 refine⟨0,?_⟩
 simp only [f67p,f67p_1,List.nil_append]
 rw [cond_pos (by omega)]
theorem s67z:∃ F,f67z F ()=some ((.own 0 0 1),[(.cells ([]:Li).length (.rI .i64 ([]:Li)) true)]):=⟨0,rfl⟩
theorem c67:CallOk Tryz.prog G36Z 67 r67:=callOk_nil (V:=V67) mixed tys eV67 (f:=67) (fn:=Tryz.f67) Tryz.func67 (by kernel_rfl) (c:=sub (bodyOf Tryz.f67) []) (by kernel_rfl) (by
 intro X H R H' h
 unfold r67 at h;split at h <;> try contradiction
 rename_i a0
 obtain⟨hp,rfl,rfl⟩:=inj3 h
 refine⟨_,rfl,rfl,fun hok=>⟨?_,fun hz=>?_⟩⟩
 ·obtain⟨F,hF⟩:=s67p a0 hp hok
  exact⟨Af67p F,(f67p_body F a0).trans hF⟩
 ·have e:a0=[]:=List.length_eq_zero_iff.mp hz
  subst e
  obtain⟨F,hF⟩:=s67z
  exact⟨Af67z F,(f67z_body F).trans hF⟩)
def lV48:List CEnt:=[]
def V48:Env:=mkEnv T36Z G36Z lV48
noncomputable abbrev Kf40:=kFin V48 (some [(2,.own 9)]) (Tryz.f48).results.toList
theorem eV48:EOk Tryz.prog V48:=eok_mk (by exact trivial)
def Af48p(F:Nat):Cuts:={ F:=F,at_:=fun _=>none,join:=fun _=>none,fin:=(some [(2,.own 9)]) }
def ef48p_a:(List Li)→St:=fun a0=>⟨[(0,(.vs (.rS a0) 2 1))],[],0,8,0⟩
def f48p_1(F:Nat):(List Li)→Rz:=fun a0=>(cond (decide ((0+a0.length) < 1073741824)) (some ((.own 0 0 1),[(.cells ([]++a0).length (.rS ([]++a0)) true)])) none)
theorem f48p_1_eq(F:Nat):∀ v,aexec V48 (Af48p F) (sub (bodyOf Tryz.f48) []) (ef48p_a v) Kf40=f48p_1 F v:=by
 intro a0;kernel_rfl
def f48p(F:Nat):(List Li)→Rz:=f48p_1 F
theorem f48p_body(F:Nat)(a0:List Li):abody V48 (Af48p F) Tryz.f48 [(.vs (.rS a0) 2 1)] []=f48p F a0:=
 (abody_in (c:=(sub (bodyOf Tryz.f48) [])) (by kernel_rfl) (s:=ef48p_a a0) (by kernel_rfl)).trans (f48p_1_eq F a0)
def Af48z(F:Nat):Cuts:={ F:=F,at_:=fun _=>none,join:=fun _=>none,fin:=(some [(2,.own 9)]) }
def ef48z_a:Unit→St:=fun _=>⟨[(0,(.vs (.rS []) 3 1))],[],0,8,0⟩
def f48z_1(F:Nat):Unit→Rz:=fun _=>(some ((.own 0 0 1),[(.cells 0 (.rS []) true)]))
theorem f48z_1_eq(F:Nat):∀ v,aexec V48 (Af48z F) (sub (bodyOf Tryz.f48) []) (ef48z_a v) Kf40=f48z_1 F v:=by
 intro _;kernel_rfl
def f48z(F:Nat):Unit→Rz:=f48z_1 F
theorem f48z_body(F:Nat) : abody V48 (Af48z F) Tryz.f48 [(.vs (.rS []) 3 1)] []=f48z F ():=
 (abody_in (by kernel_rfl) (by kernel_rfl)).trans (f48z_1_eq F ())
def r48:CRun:=fun X H=>match X,H with
 | [(.vs (.rS a0) 0 1)],[]=>some ((decide (a0.length < 1073741000)),.own 0 0 1,[(sB a0)])
 | _,_=>none
theorem s48p(a0:List Li)(hp:((decide (a0.length < 1073741000)))=true)(h0:okV (.vs (.rS a0) 0 1)):∃ F,f48p F a0=some ((.own 0 0 1),[(sB a0)]):=by
 have h:=of_decide_eq_true hp
 refine⟨0,?_⟩
 simp only [f48p,f48p_1,List.nil_append]
 rw [cond_pos (by omega)]
theorem s48z:∃ F,f48z F ()=some ((.own 0 0 1),[(.cells ([]:List Li).length (.rS ([]:List Li)) true)]):=⟨0,rfl⟩
theorem c48:CallOk Tryz.prog G36Z 48 r48:=callOk_nil (V:=V48) mixed tys eV48 (f:=48) (fn:=Tryz.f48) Tryz.func48 (by kernel_rfl) (c:=sub (bodyOf Tryz.f48) []) (by kernel_rfl) (by
 intro X H R H' h
 unfold r48 at h;split at h <;> try contradiction
 rename_i a0
 obtain⟨hp,rfl,rfl⟩:=inj3 h
 refine⟨_,rfl,rfl,fun hok=>⟨?_,fun hz=>?_⟩⟩
 ·obtain⟨F,hF⟩:=s48p a0 hp hok
  exact⟨Af48p F,(f48p_body F a0).trans hF⟩
 ·have e:a0=[]:=List.length_eq_zero_iff.mp hz
  subst e
  obtain⟨F,hF⟩:=s48z
  exact⟨Af48z F,(f48z_body F).trans hF⟩)
def lV42:List CEnt:=[(67,[some 3],r67)]
def V42:Env:=mkEnv T36Z G36Z lV42
noncomputable abbrev Kf41:=kFin V42 (some [(2,.own 3)]) (Tryz.f42).results.toList
theorem eV42:EOk Tryz.prog V42:=eok_mk (by exact⟨c67,trivial⟩)
def Af42(F:Nat):Cuts:={ F:=F,at_:=fun _=>none,join:=fun _=>none,fin:=(some [(2,.own 3)]) }
def ef42_a:Ty38→St:=fun (a0N,a0T,a0B,a0x,a0f,a0c,a1n,a1b,a1p,a1w,a1o,a1l)=>⟨[(0,.ptr 0 0 7 0 0 0 7)],[(0,(jB 1 5 2 3 4 a0x a0f a0c)),(1,(dB 5 a1n 6 7 a1o a1l)),(2,(iB a0N)),(3,(iB a0B)),(4,(sB a0T)),(5,(bB a1b)),(6,(pB a1p)),(7,(wB a1w))],8,8,8⟩
def f42_1(F:Nat):Ty38→Rz:=fun (a0N,a0T,a0B,a0x,a0f,a0c,a1n,a1b,a1p,a1w,a1o,a1l)=>(cond (decide (a0N.length < 1073741000)) (some ((.own 8 0 1),[(jB 1 5 2 3 4 a0x a0f a0c),(dB 5 a1n 6 7 a1o a1l),(iB a0N),(iB a0B),(sB a0T),(bB a1b),(pB a1p),(wB a1w),(iB a0N)])) none)
theorem f42_1_eq(F:Nat):∀ v,aexec V42 (Af42 F) (sub (bodyOf Tryz.f42) []) (ef42_a v) Kf41=f42_1 F v:=by
 rintro⟨a0N,a0T,a0B,a0x,a0f,a0c,a1n,a1b,a1p,a1w,a1o,a1l⟩;kernel_rfl
def f42(F:Nat):Ty38→Rz:=f42_1 F
theorem f42_body(F:Nat)(a0N:Li)(a0T:List Li)(a0B:Li)(a0x a0f:Int)(a0c:Bool)(a1n:Nat)(a1b:Li)(a1p a1w:Lp)(a1o:Bool)(a1l:Int):abody V42 (Af42 F) Tryz.f42 [(.ptr 0 0 7 0 0 0 7)] [(jB 1 5 2 3 4 a0x a0f a0c),(dB 5 a1n 6 7 a1o a1l),(iB a0N),(iB a0B),(sB a0T),(bB a1b),(pB a1p),(wB a1w)]=f42 F (a0N,a0T,a0B,a0x,a0f,a0c,a1n,a1b,a1p,a1w,a1o,a1l):=
 (abody_in (by kernel_rfl) (by kernel_rfl)).trans (f42_1_eq F (a0N,a0T,a0B,a0x,a0f,a0c,a1n,a1b,a1p,a1w,a1o,a1l))
def r42:CRun:=fun X H=>match X,H with
 | [(.ptr 0 0 7 0 0 0 7)],[(.cells 7 (.segs (.cons 1 (.one (.ptr 1 0 5 0 0 0 5)) (.cons 1 (.one (.own 2 0 1)) (.cons 1 (.one (.own 3 0 1)) (.cons 1 (.one (.own 4 0 1)) (.cons 1 (.one (.int .i64 a0x)) (.cons 1 (.one (.int .i64 a0f)) (.cons 1 (.one (.bool a0c)) .nil)))))))) true),(.cells 5 (.segs (.cons 1 (.one (.own 5 a1n 64)) (.cons 1 (.one (.mp 6)) (.cons 1 (.one (.mp 7)) (.cons 1 (.one (.bool a1o)) (.cons 1 (.one (.int .i64 a1l)) .nil)))))) true),(.cells z2 (.rI .i64 a0N) true),(.cells z3 (.rI .i64 a0B) true),(.cells z4 (.rS a0T) true),(.cells z5 (.rI .u8 a1b) true),(.cells 0 (.rM .i64 0 (.arr .u8 64) a1p) true),(.cells 0 (.rM .i64 0 .bool a1w) true)]=>some ((decide ((Jr.J.mk a0N a0T a0B a0x a0f a0c).nums.length < 1073741000)),.own 8 0 1,[(jE 1 5 2 3 4 (Jr.J.mk a0N a0T a0B a0x a0f a0c)),(dE 5 (Dk.D.mk a1n a1b a1p a1w a1o a1l) 6 7),(.cells (Jr.J.mk a0N a0T a0B a0x a0f a0c).nums.length (.rI .i64 (Jr.J.mk a0N a0T a0B a0x a0f a0c).nums) true),(.cells (Jr.J.mk a0N a0T a0B a0x a0f a0c).bad.length (.rI .i64 (Jr.J.mk a0N a0T a0B a0x a0f a0c).bad) true),(.cells (Jr.J.mk a0N a0T a0B a0x a0f a0c).texts.length (.rS (Jr.J.mk a0N a0T a0B a0x a0f a0c).texts) true),(.cells (Dk.D.mk a1n a1b a1p a1w a1o a1l).blk.length (.rI .u8 (Dk.D.mk a1n a1b a1p a1w a1o a1l).blk) true),(pB (Dk.D.mk a1n a1b a1p a1w a1o a1l).pend),(wB (Dk.D.mk a1n a1b a1p a1w a1o a1l).worn),(.cells (Jr.J.mk a0N a0T a0B a0x a0f a0c).nums.length (.rI .i64 (Jr.J.mk a0N a0T a0B a0x a0f a0c).nums) true)])
 | _,_=>none
theorem s42(a0N:Li)(a0T:List Li)(a0B:Li)(a0x a0f:Int)(a0c:Bool)(a1n:Nat)(a1b:Li)(a1p a1w:Lp)(a1o:Bool)(a1l:Int)(hp:((decide ((Jr.J.mk a0N a0T a0B a0x a0f a0c).nums.length < 1073741000)))=true)(k0:okB (jB 1 5 2 3 4 a0x a0f a0c))(k1:okB (dB 5 a1n 6 7 a1o a1l))(k2:okB (iB a0N))(k3:okB (iB a0B))(k4:okB (sB a0T))(k5:okB (bB a1b))(k6:okB (pB a1p))(k7:okB (wB a1w)):∃ F,f42 F (a0N,a0T,a0B,a0x,a0f,a0c,a1n,a1b,a1p,a1w,a1o,a1l)=some ((.own 8 0 1),[(jE 1 5 2 3 4 (Jr.J.mk a0N a0T a0B a0x a0f a0c)),(dE 5 (Dk.D.mk a1n a1b a1p a1w a1o a1l) 6 7),(.cells (Jr.J.mk a0N a0T a0B a0x a0f a0c).nums.length (.rI .i64 (Jr.J.mk a0N a0T a0B a0x a0f a0c).nums) true),(.cells (Jr.J.mk a0N a0T a0B a0x a0f a0c).bad.length (.rI .i64 (Jr.J.mk a0N a0T a0B a0x a0f a0c).bad) true),(.cells (Jr.J.mk a0N a0T a0B a0x a0f a0c).texts.length (.rS (Jr.J.mk a0N a0T a0B a0x a0f a0c).texts) true),(.cells (Dk.D.mk a1n a1b a1p a1w a1o a1l).blk.length (.rI .u8 (Dk.D.mk a1n a1b a1p a1w a1o a1l).blk) true),(pB (Dk.D.mk a1n a1b a1p a1w a1o a1l).pend),(wB (Dk.D.mk a1n a1b a1p a1w a1o a1l).worn),(.cells (Jr.J.mk a0N a0T a0B a0x a0f a0c).nums.length (.rI .i64 (Jr.J.mk a0N a0T a0B a0x a0f a0c).nums) true)]):=by
 refine⟨0,?_⟩
 simp only [f42,f42_1]
 rw [cond_pos (of_decide_eq_true hp)]
theorem c42:CallOk Tryz.prog G36Z 42 r42:=callOk_of mixed tys eV42 Tryz.func42 (by kernel_rfl) (c:=sub (bodyOf Tryz.f42) []) (by kernel_rfl) (by
 intro X H r H' h hX hH
 unfold r42 at h;split at h <;> try contradiction
 ·obtain⟨hp,rfl,rfl⟩:=inj3 h
  obtain rfl:=okB_size (hH _ hm2) rfl
  obtain rfl:=okB_size (hH _ hm3) rfl
  obtain rfl:=okB_size (hH _ hm4) rfl
  obtain rfl:=okB_size (hH _ hm5) rfl
  obtain⟨F,hF⟩:=s42 _ _ _ _ _ _ _ _ _ _ _ _ hp (hH _ hm0) (hH _ hm1) (hH _ hm2) (hH _ hm3) (hH _ hm4) (hH _ hm5) (hH _ hm6) (hH _ hm7)
  exact⟨Af42 F,(f42_body F _ _ _ _ _ _ _ _ _ _ _ _).trans hF⟩)
def lV11:List CEnt:=[(48,[some 9],r48)]
def V11:Env:=mkEnv T36Z G36Z lV11
noncomputable abbrev Kf42:=kFin V11 (some [(2,.own 9)]) (Tryz.f11).results.toList
theorem eV11:EOk Tryz.prog V11:=eok_mk (by exact⟨c48,trivial⟩)
def Af11(F:Nat):Cuts:={ F:=F,at_:=fun _=>none,join:=fun _=>none,fin:=(some [(2,.own 9)]) }
def ef11_a:Ty38→St:=ef42_a
def f11_1(F:Nat):Ty38→Rz:=fun (a0N,a0T,a0B,a0x,a0f,a0c,a1n,a1b,a1p,a1w,a1o,a1l)=>(cond (decide (a0T.length < 1073741000)) (some ((.own 8 0 1),[(jB 1 5 2 3 4 a0x a0f a0c),(dB 5 a1n 6 7 a1o a1l),(iB a0N),(iB a0B),(sB a0T),(bB a1b),(pB a1p),(wB a1w),(sB a0T)])) none)
theorem f11_1_eq(F:Nat):∀ v,aexec V11 (Af11 F) (sub (bodyOf Tryz.f11) []) (ef11_a v) Kf42=f11_1 F v:=by
 rintro⟨a0N,a0T,a0B,a0x,a0f,a0c,a1n,a1b,a1p,a1w,a1o,a1l⟩;kernel_rfl
def f11(F:Nat):Ty38→Rz:=f11_1 F
theorem f11_body(F:Nat)(a0N:Li)(a0T:List Li)(a0B:Li)(a0x a0f:Int)(a0c:Bool)(a1n:Nat)(a1b:Li)(a1p a1w:Lp)(a1o:Bool)(a1l:Int):abody V11 (Af11 F) Tryz.f11 [(.ptr 0 0 7 0 0 0 7)] [(jB 1 5 2 3 4 a0x a0f a0c),(dB 5 a1n 6 7 a1o a1l),(iB a0N),(iB a0B),(sB a0T),(bB a1b),(pB a1p),(wB a1w)]=f11 F (a0N,a0T,a0B,a0x,a0f,a0c,a1n,a1b,a1p,a1w,a1o,a1l):=
 (abody_in (by kernel_rfl) (by kernel_rfl)).trans (f11_1_eq F (a0N,a0T,a0B,a0x,a0f,a0c,a1n,a1b,a1p,a1w,a1o,a1l))
def r11:CRun:=fun X H=>match X,H with
 | [(.ptr 0 0 7 0 0 0 7)],[(.cells 7 (.segs (.cons 1 (.one (.ptr 1 0 5 0 0 0 5)) (.cons 1 (.one (.own 2 0 1)) (.cons 1 (.one (.own 3 0 1)) (.cons 1 (.one (.own 4 0 1)) (.cons 1 (.one (.int .i64 a0x)) (.cons 1 (.one (.int .i64 a0f)) (.cons 1 (.one (.bool a0c)) .nil)))))))) true),(.cells 5 (.segs (.cons 1 (.one (.own 5 a1n 64)) (.cons 1 (.one (.mp 6)) (.cons 1 (.one (.mp 7)) (.cons 1 (.one (.bool a1o)) (.cons 1 (.one (.int .i64 a1l)) .nil)))))) true),(.cells z2 (.rI .i64 a0N) true),(.cells z3 (.rI .i64 a0B) true),(.cells z4 (.rS a0T) true),(.cells z5 (.rI .u8 a1b) true),(.cells 0 (.rM .i64 0 (.arr .u8 64) a1p) true),(.cells 0 (.rM .i64 0 .bool a1w) true)]=>some ((decide ((Jr.J.mk a0N a0T a0B a0x a0f a0c).texts.length < 1073741000)),.own 8 0 1,[(jE 1 5 2 3 4 (Jr.J.mk a0N a0T a0B a0x a0f a0c)),(dE 5 (Dk.D.mk a1n a1b a1p a1w a1o a1l) 6 7),(.cells (Jr.J.mk a0N a0T a0B a0x a0f a0c).nums.length (.rI .i64 (Jr.J.mk a0N a0T a0B a0x a0f a0c).nums) true),(.cells (Jr.J.mk a0N a0T a0B a0x a0f a0c).bad.length (.rI .i64 (Jr.J.mk a0N a0T a0B a0x a0f a0c).bad) true),(.cells (Jr.J.mk a0N a0T a0B a0x a0f a0c).texts.length (.rS (Jr.J.mk a0N a0T a0B a0x a0f a0c).texts) true),(.cells (Dk.D.mk a1n a1b a1p a1w a1o a1l).blk.length (.rI .u8 (Dk.D.mk a1n a1b a1p a1w a1o a1l).blk) true),(pB (Dk.D.mk a1n a1b a1p a1w a1o a1l).pend),(wB (Dk.D.mk a1n a1b a1p a1w a1o a1l).worn),(.cells (Jr.J.mk a0N a0T a0B a0x a0f a0c).texts.length (.rS (Jr.J.mk a0N a0T a0B a0x a0f a0c).texts) true)])
 | _,_=>none
theorem s11(a0N:Li)(a0T:List Li)(a0B:Li)(a0x a0f:Int)(a0c:Bool)(a1n:Nat)(a1b:Li)(a1p a1w:Lp)(a1o:Bool)(a1l:Int)(hp:((decide ((Jr.J.mk a0N a0T a0B a0x a0f a0c).texts.length < 1073741000)))=true)(k0:okB (jB 1 5 2 3 4 a0x a0f a0c))(k1:okB (dB 5 a1n 6 7 a1o a1l))(k2:okB (iB a0N))(k3:okB (iB a0B))(k4:okB (sB a0T))(k5:okB (bB a1b))(k6:okB (pB a1p))(k7:okB (wB a1w)):∃ F,f11 F (a0N,a0T,a0B,a0x,a0f,a0c,a1n,a1b,a1p,a1w,a1o,a1l)=some ((.own 8 0 1),[(jE 1 5 2 3 4 (Jr.J.mk a0N a0T a0B a0x a0f a0c)),(dE 5 (Dk.D.mk a1n a1b a1p a1w a1o a1l) 6 7),(.cells (Jr.J.mk a0N a0T a0B a0x a0f a0c).nums.length (.rI .i64 (Jr.J.mk a0N a0T a0B a0x a0f a0c).nums) true),(.cells (Jr.J.mk a0N a0T a0B a0x a0f a0c).bad.length (.rI .i64 (Jr.J.mk a0N a0T a0B a0x a0f a0c).bad) true),(.cells (Jr.J.mk a0N a0T a0B a0x a0f a0c).texts.length (.rS (Jr.J.mk a0N a0T a0B a0x a0f a0c).texts) true),(.cells (Dk.D.mk a1n a1b a1p a1w a1o a1l).blk.length (.rI .u8 (Dk.D.mk a1n a1b a1p a1w a1o a1l).blk) true),(pB (Dk.D.mk a1n a1b a1p a1w a1o a1l).pend),(wB (Dk.D.mk a1n a1b a1p a1w a1o a1l).worn),(.cells (Jr.J.mk a0N a0T a0B a0x a0f a0c).texts.length (.rS (Jr.J.mk a0N a0T a0B a0x a0f a0c).texts) true)]):=by
 refine⟨0,?_⟩
 simp only [f11,f11_1]
 rw [cond_pos (of_decide_eq_true hp)]
theorem c11:CallOk Tryz.prog G36Z 11 r11:=callOk_of mixed tys eV11 Tryz.func11 (by kernel_rfl) (c:=sub (bodyOf Tryz.f11) []) (by kernel_rfl) (by
 intro X H r H' h hX hH
 unfold r11 at h;split at h <;> try contradiction
 ·obtain⟨hp,rfl,rfl⟩:=inj3 h
  obtain rfl:=okB_size (hH _ hm2) rfl
  obtain rfl:=okB_size (hH _ hm3) rfl
  obtain rfl:=okB_size (hH _ hm4) rfl
  obtain rfl:=okB_size (hH _ hm5) rfl
  obtain⟨F,hF⟩:=s11 _ _ _ _ _ _ _ _ _ _ _ _ hp (hH _ hm0) (hH _ hm1) (hH _ hm2) (hH _ hm3) (hH _ hm4) (hH _ hm5) (hH _ hm6) (hH _ hm7)
  exact⟨Af11 F,(f11_body F _ _ _ _ _ _ _ _ _ _ _ _).trans hF⟩)
def lV35:List CEnt:=[(67,[some 3],r67)]
def V35:Env:=mkEnv T36Z G36Z lV35
noncomputable abbrev Kf43:=kFin V35 (some [(2,.own 3)]) (Tryz.f35).results.toList
theorem eV35:EOk Tryz.prog V35:=eok_mk (by exact⟨c67,trivial⟩)
def Af35(F:Nat):Cuts:={ F:=F,at_:=fun _=>none,join:=fun _=>none,fin:=(some [(2,.own 3)]) }
def ef35_a:Ty38→St:=ef42_a
def f35_1(F:Nat):Ty38→Rz:=fun (a0N,a0T,a0B,a0x,a0f,a0c,a1n,a1b,a1p,a1w,a1o,a1l)=>(cond (decide (a0B.length < 1073741000)) (some ((.own 8 0 1),[(jB 1 5 2 3 4 a0x a0f a0c),(dB 5 a1n 6 7 a1o a1l),(iB a0N),(iB a0B),(sB a0T),(bB a1b),(pB a1p),(wB a1w),(iB a0B)])) none)
theorem f35_1_eq(F:Nat):∀ v,aexec V35 (Af35 F) (sub (bodyOf Tryz.f35) []) (ef35_a v) Kf43=f35_1 F v:=by
 rintro⟨a0N,a0T,a0B,a0x,a0f,a0c,a1n,a1b,a1p,a1w,a1o,a1l⟩;kernel_rfl
def f35(F:Nat):Ty38→Rz:=f35_1 F
theorem f35_body(F:Nat)(a0N:Li)(a0T:List Li)(a0B:Li)(a0x a0f:Int)(a0c:Bool)(a1n:Nat)(a1b:Li)(a1p a1w:Lp)(a1o:Bool)(a1l:Int):abody V35 (Af35 F) Tryz.f35 [(.ptr 0 0 7 0 0 0 7)] [(jB 1 5 2 3 4 a0x a0f a0c),(dB 5 a1n 6 7 a1o a1l),(iB a0N),(iB a0B),(sB a0T),(bB a1b),(pB a1p),(wB a1w)]=f35 F (a0N,a0T,a0B,a0x,a0f,a0c,a1n,a1b,a1p,a1w,a1o,a1l):=
 (abody_in (by kernel_rfl) (by kernel_rfl)).trans (f35_1_eq F (a0N,a0T,a0B,a0x,a0f,a0c,a1n,a1b,a1p,a1w,a1o,a1l))
def r35:CRun:=fun X H=>match X,H with
 | [(.ptr 0 0 7 0 0 0 7)],[(.cells 7 (.segs (.cons 1 (.one (.ptr 1 0 5 0 0 0 5)) (.cons 1 (.one (.own 2 0 1)) (.cons 1 (.one (.own 3 0 1)) (.cons 1 (.one (.own 4 0 1)) (.cons 1 (.one (.int .i64 a0x)) (.cons 1 (.one (.int .i64 a0f)) (.cons 1 (.one (.bool a0c)) .nil)))))))) true),(.cells 5 (.segs (.cons 1 (.one (.own 5 a1n 64)) (.cons 1 (.one (.mp 6)) (.cons 1 (.one (.mp 7)) (.cons 1 (.one (.bool a1o)) (.cons 1 (.one (.int .i64 a1l)) .nil)))))) true),(.cells z2 (.rI .i64 a0N) true),(.cells z3 (.rI .i64 a0B) true),(.cells z4 (.rS a0T) true),(.cells z5 (.rI .u8 a1b) true),(.cells 0 (.rM .i64 0 (.arr .u8 64) a1p) true),(.cells 0 (.rM .i64 0 .bool a1w) true)]=>some ((decide ((Jr.J.mk a0N a0T a0B a0x a0f a0c).bad.length < 1073741000)),.own 8 0 1,[(jE 1 5 2 3 4 (Jr.J.mk a0N a0T a0B a0x a0f a0c)),(dE 5 (Dk.D.mk a1n a1b a1p a1w a1o a1l) 6 7),(.cells (Jr.J.mk a0N a0T a0B a0x a0f a0c).nums.length (.rI .i64 (Jr.J.mk a0N a0T a0B a0x a0f a0c).nums) true),(.cells (Jr.J.mk a0N a0T a0B a0x a0f a0c).bad.length (.rI .i64 (Jr.J.mk a0N a0T a0B a0x a0f a0c).bad) true),(.cells (Jr.J.mk a0N a0T a0B a0x a0f a0c).texts.length (.rS (Jr.J.mk a0N a0T a0B a0x a0f a0c).texts) true),(.cells (Dk.D.mk a1n a1b a1p a1w a1o a1l).blk.length (.rI .u8 (Dk.D.mk a1n a1b a1p a1w a1o a1l).blk) true),(pB (Dk.D.mk a1n a1b a1p a1w a1o a1l).pend),(wB (Dk.D.mk a1n a1b a1p a1w a1o a1l).worn),(.cells (Jr.J.mk a0N a0T a0B a0x a0f a0c).bad.length (.rI .i64 (Jr.J.mk a0N a0T a0B a0x a0f a0c).bad) true)])
 | _,_=>none
theorem s35(a0N:Li)(a0T:List Li)(a0B:Li)(a0x a0f:Int)(a0c:Bool)(a1n:Nat)(a1b:Li)(a1p a1w:Lp)(a1o:Bool)(a1l:Int)(hp:((decide ((Jr.J.mk a0N a0T a0B a0x a0f a0c).bad.length < 1073741000)))=true)(k0:okB (jB 1 5 2 3 4 a0x a0f a0c))(k1:okB (dB 5 a1n 6 7 a1o a1l))(k2:okB (iB a0N))(k3:okB (iB a0B))(k4:okB (sB a0T))(k5:okB (bB a1b))(k6:okB (pB a1p))(k7:okB (wB a1w)):∃ F,f35 F (a0N,a0T,a0B,a0x,a0f,a0c,a1n,a1b,a1p,a1w,a1o,a1l)=some ((.own 8 0 1),[(jE 1 5 2 3 4 (Jr.J.mk a0N a0T a0B a0x a0f a0c)),(dE 5 (Dk.D.mk a1n a1b a1p a1w a1o a1l) 6 7),(.cells (Jr.J.mk a0N a0T a0B a0x a0f a0c).nums.length (.rI .i64 (Jr.J.mk a0N a0T a0B a0x a0f a0c).nums) true),(.cells (Jr.J.mk a0N a0T a0B a0x a0f a0c).bad.length (.rI .i64 (Jr.J.mk a0N a0T a0B a0x a0f a0c).bad) true),(.cells (Jr.J.mk a0N a0T a0B a0x a0f a0c).texts.length (.rS (Jr.J.mk a0N a0T a0B a0x a0f a0c).texts) true),(.cells (Dk.D.mk a1n a1b a1p a1w a1o a1l).blk.length (.rI .u8 (Dk.D.mk a1n a1b a1p a1w a1o a1l).blk) true),(pB (Dk.D.mk a1n a1b a1p a1w a1o a1l).pend),(wB (Dk.D.mk a1n a1b a1p a1w a1o a1l).worn),(.cells (Jr.J.mk a0N a0T a0B a0x a0f a0c).bad.length (.rI .i64 (Jr.J.mk a0N a0T a0B a0x a0f a0c).bad) true)]):=by
 refine⟨0,?_⟩
 simp only [f35,f35_1]
 rw [cond_pos (of_decide_eq_true hp)]
theorem c35:CallOk Tryz.prog G36Z 35 r35:=callOk_of mixed tys eV35 Tryz.func35 (by kernel_rfl) (c:=sub (bodyOf Tryz.f35) []) (by kernel_rfl) (by
 intro X H r H' h hX hH
 unfold r35 at h;split at h <;> try contradiction
 ·obtain⟨hp,rfl,rfl⟩:=inj3 h
  obtain rfl:=okB_size (hH _ hm2) rfl
  obtain rfl:=okB_size (hH _ hm3) rfl
  obtain rfl:=okB_size (hH _ hm4) rfl
  obtain rfl:=okB_size (hH _ hm5) rfl
  obtain⟨F,hF⟩:=s35 _ _ _ _ _ _ _ _ _ _ _ _ hp (hH _ hm0) (hH _ hm1) (hH _ hm2) (hH _ hm3) (hH _ hm4) (hH _ hm5) (hH _ hm6) (hH _ hm7)
  exact⟨Af35 F,(f35_body F _ _ _ _ _ _ _ _ _ _ _ _).trans hF⟩)
def lV37:List CEnt:=[]
def V37:Env:=mkEnv T36Z G36Z lV37
noncomputable abbrev Kf44:=kFin V37 none (Tryz.f37).results.toList
theorem eV37:EOk Tryz.prog V37:=eok_mk (by exact trivial)
def Af37(F:Nat):Cuts:={ F:=F,at_:=fun _=>none,join:=fun _=>none }
def ef37_a:Ty38→St:=fun (a0N,a0T,a0B,a0x,a0f,a0c,a1n,a1b,a1p,a1w,a1o,a1l)=>⟨[(0,.ptr 0 0 7 0 0 0 7)],[(0,(jB 1 5 2 3 4 a0x a0f a0c)),(1,(dB 5 a1n 6 7 a1o a1l)),(2,(iB a0N)),(3,(iB a0B)),(4,(sB a0T)),(5,(bB a1b)),(6,(pB a1p)),(7,(wB a1w))],8,7,8⟩
def f37_1(F:Nat):Ty38→Rz:=fun (a0N,a0T,a0B,a0x,a0f,a0c,a1n,a1b,a1p,a1w,a1o,a1l)=>(some ((.int .i64 a0x),[(jB 1 5 2 3 4 a0x a0f a0c),(dB 5 a1n 6 7 a1o a1l),(iB a0N),(iB a0B),(sB a0T),(bB a1b),(pB a1p),(wB a1w)]))
theorem f37_1_eq(F:Nat):∀ v,aexec V37 (Af37 F) (sub (bodyOf Tryz.f37) []) (ef37_a v) Kf44=f37_1 F v:=by
 rintro⟨a0N,a0T,a0B,a0x,a0f,a0c,a1n,a1b,a1p,a1w,a1o,a1l⟩;kernel_rfl
def f37(F:Nat):Ty38→Rz:=f37_1 F
theorem f37_body(F:Nat)(a0N:Li)(a0T:List Li)(a0B:Li)(a0x a0f:Int)(a0c:Bool)(a1n:Nat)(a1b:Li)(a1p a1w:Lp)(a1o:Bool)(a1l:Int):abody V37 (Af37 F) Tryz.f37 [(.ptr 0 0 7 0 0 0 7)] [(jB 1 5 2 3 4 a0x a0f a0c),(dB 5 a1n 6 7 a1o a1l),(iB a0N),(iB a0B),(sB a0T),(bB a1b),(pB a1p),(wB a1w)]=f37 F (a0N,a0T,a0B,a0x,a0f,a0c,a1n,a1b,a1p,a1w,a1o,a1l):=
 (abody_in (by kernel_rfl) (by kernel_rfl)).trans (f37_1_eq F (a0N,a0T,a0B,a0x,a0f,a0c,a1n,a1b,a1p,a1w,a1o,a1l))
def r37:CRun:=fun X H=>match X,H with
 | [(.ptr 0 0 7 0 0 0 7)],[(.cells 7 (.segs (.cons 1 (.one (.ptr 1 0 5 0 0 0 5)) (.cons 1 (.one (.own 2 0 1)) (.cons 1 (.one (.own 3 0 1)) (.cons 1 (.one (.own 4 0 1)) (.cons 1 (.one (.int .i64 a0x)) (.cons 1 (.one (.int .i64 a0f)) (.cons 1 (.one (.bool a0c)) .nil)))))))) true),(.cells 5 (.segs (.cons 1 (.one (.own 5 a1n 64)) (.cons 1 (.one (.mp 6)) (.cons 1 (.one (.mp 7)) (.cons 1 (.one (.bool a1o)) (.cons 1 (.one (.int .i64 a1l)) .nil)))))) true),(.cells z2 (.rI .i64 a0N) true),(.cells z3 (.rI .i64 a0B) true),(.cells z4 (.rS a0T) true),(.cells z5 (.rI .u8 a1b) true),(.cells 0 (.rM .i64 0 (.arr .u8 64) a1p) true),(.cells 0 (.rM .i64 0 .bool a1w) true)]=>some (true,(.int .i64 (Jr.J.mk a0N a0T a0B a0x a0f a0c).next),[(jE 1 5 2 3 4 (Jr.J.mk a0N a0T a0B a0x a0f a0c)),(dE 5 (Dk.D.mk a1n a1b a1p a1w a1o a1l) 6 7),(.cells (Jr.J.mk a0N a0T a0B a0x a0f a0c).nums.length (.rI .i64 (Jr.J.mk a0N a0T a0B a0x a0f a0c).nums) true),(.cells (Jr.J.mk a0N a0T a0B a0x a0f a0c).bad.length (.rI .i64 (Jr.J.mk a0N a0T a0B a0x a0f a0c).bad) true),(.cells (Jr.J.mk a0N a0T a0B a0x a0f a0c).texts.length (.rS (Jr.J.mk a0N a0T a0B a0x a0f a0c).texts) true),(.cells (Dk.D.mk a1n a1b a1p a1w a1o a1l).blk.length (.rI .u8 (Dk.D.mk a1n a1b a1p a1w a1o a1l).blk) true),(pB (Dk.D.mk a1n a1b a1p a1w a1o a1l).pend),(wB (Dk.D.mk a1n a1b a1p a1w a1o a1l).worn)])
 | _,_=>none
theorem s37(a0N:Li)(a0T:List Li)(a0B:Li)(a0x a0f:Int)(a0c:Bool)(a1n:Nat)(a1b:Li)(a1p a1w:Lp)(a1o:Bool)(a1l:Int)(k0:okB (jB 1 5 2 3 4 a0x a0f a0c))(k1:okB (dB 5 a1n 6 7 a1o a1l))(k2:okB (iB a0N))(k3:okB (iB a0B))(k4:okB (sB a0T))(k5:okB (bB a1b))(k6:okB (pB a1p))(k7:okB (wB a1w)):∃ F,f37 F (a0N,a0T,a0B,a0x,a0f,a0c,a1n,a1b,a1p,a1w,a1o,a1l)=some ((.int .i64 (Jr.J.mk a0N a0T a0B a0x a0f a0c).next),[(jE 1 5 2 3 4 (Jr.J.mk a0N a0T a0B a0x a0f a0c)),(dE 5 (Dk.D.mk a1n a1b a1p a1w a1o a1l) 6 7),(.cells (Jr.J.mk a0N a0T a0B a0x a0f a0c).nums.length (.rI .i64 (Jr.J.mk a0N a0T a0B a0x a0f a0c).nums) true),(.cells (Jr.J.mk a0N a0T a0B a0x a0f a0c).bad.length (.rI .i64 (Jr.J.mk a0N a0T a0B a0x a0f a0c).bad) true),(.cells (Jr.J.mk a0N a0T a0B a0x a0f a0c).texts.length (.rS (Jr.J.mk a0N a0T a0B a0x a0f a0c).texts) true),(.cells (Dk.D.mk a1n a1b a1p a1w a1o a1l).blk.length (.rI .u8 (Dk.D.mk a1n a1b a1p a1w a1o a1l).blk) true),(pB (Dk.D.mk a1n a1b a1p a1w a1o a1l).pend),(wB (Dk.D.mk a1n a1b a1p a1w a1o a1l).worn)]):=⟨0,rfl⟩
theorem c37:CallOk Tryz.prog G36Z 37 r37:=callOk_of mixed tys eV37 Tryz.func37 (by kernel_rfl) (c:=sub (bodyOf Tryz.f37) []) (by kernel_rfl) (by
 intro X H r H' h hX hH
 unfold r37 at h;split at h <;> try contradiction
 ·obtain⟨hp,rfl,rfl⟩:=inj3 h
  obtain rfl:=okB_size (hH _ hm2) rfl
  obtain rfl:=okB_size (hH _ hm3) rfl
  obtain rfl:=okB_size (hH _ hm4) rfl
  obtain rfl:=okB_size (hH _ hm5) rfl
  obtain⟨F,hF⟩:=s37 _ _ _ _ _ _ _ _ _ _ _ _ (hH _ hm0) (hH _ hm1) (hH _ hm2) (hH _ hm3) (hH _ hm4) (hH _ hm5) (hH _ hm6) (hH _ hm7)
  exact⟨Af37 F,(f37_body F _ _ _ _ _ _ _ _ _ _ _ _).trans hF⟩)
def lV38:List CEnt:=[(43,[none],r43)]
def V38:Env:=mkEnv T36Z G36Z lV38
noncomputable abbrev Kf45:=kFin V38 none (Tryz.f38).results.toList
theorem eV38:EOk Tryz.prog V38:=eok_mk (by exact⟨c43,trivial⟩)
def Af38(F:Nat):Cuts:={ F:=F,at_:=fun _=>none,join:=fun _=>none }
def ef38_a:Ty38→St:=fun (a0N,a0T,a0B,a0x,a0f,a0c,a1n,a1b,a1p,a1w,a1o,a1l)=>⟨[(0,.ptr 0 0 7 0 0 0 7)],[(0,(jB 1 5 2 3 4 a0x a0f a0c)),(1,(dB 5 a1n 6 7 a1o a1l)),(2,(iB a0N)),(3,(iB a0B)),(4,(sB a0T)),(5,(bB a1b)),(6,(pB a1p)),(7,(wB a1w))],8,13,8⟩
def f38_1(F:Nat):Ty38→Rz:=fun (a0N,a0T,a0B,a0x,a0f,a0c,a1n,a1b,a1p,a1w,a1o,a1l)=>(some ((.int .i64 (IntKind.i64.wrap (((Dk.D.mk a1n a1b a1p a1w a1o a1l).n:Int)-a0f))),[(jB 1 5 2 3 4 a0x a0f a0c),(dE 5 (Dk.D.mk a1n a1b a1p a1w a1o a1l) 6 7),(iB a0N),(iB a0B),(sB a0T),(.cells (Dk.D.mk a1n a1b a1p a1w a1o a1l).blk.length (.rI .u8 (Dk.D.mk a1n a1b a1p a1w a1o a1l).blk) true),(pB (Dk.D.mk a1n a1b a1p a1w a1o a1l).pend),(wB (Dk.D.mk a1n a1b a1p a1w a1o a1l).worn)]))
theorem f38_1_eq(F:Nat):∀ v,aexec V38 (Af38 F) (sub (bodyOf Tryz.f38) []) (ef38_a v) Kf45=f38_1 F v:=by
 rintro⟨a0N,a0T,a0B,a0x,a0f,a0c,a1n,a1b,a1p,a1w,a1o,a1l⟩;kernel_rfl
def f38(F:Nat):Ty38→Rz:=f38_1 F
theorem f38_body(F:Nat)(a0N:Li)(a0T:List Li)(a0B:Li)(a0x a0f:Int)(a0c:Bool)(a1n:Nat)(a1b:Li)(a1p a1w:Lp)(a1o:Bool)(a1l:Int):abody V38 (Af38 F) Tryz.f38 [(.ptr 0 0 7 0 0 0 7)] [(jB 1 5 2 3 4 a0x a0f a0c),(dB 5 a1n 6 7 a1o a1l),(iB a0N),(iB a0B),(sB a0T),(bB a1b),(pB a1p),(wB a1w)]=f38 F (a0N,a0T,a0B,a0x,a0f,a0c,a1n,a1b,a1p,a1w,a1o,a1l):=
 (abody_in (by kernel_rfl) (by kernel_rfl)).trans (f38_1_eq F (a0N,a0T,a0B,a0x,a0f,a0c,a1n,a1b,a1p,a1w,a1o,a1l))
def r38:CRun:=fun X H=>match X,H with
 | [(.ptr 0 0 7 0 0 0 7)],[(.cells 7 (.segs (.cons 1 (.one (.ptr 1 0 5 0 0 0 5)) (.cons 1 (.one (.own 2 0 1)) (.cons 1 (.one (.own 3 0 1)) (.cons 1 (.one (.own 4 0 1)) (.cons 1 (.one (.int .i64 a0x)) (.cons 1 (.one (.int .i64 a0f)) (.cons 1 (.one (.bool a0c)) .nil)))))))) true),(.cells 5 (.segs (.cons 1 (.one (.own 5 a1n 64)) (.cons 1 (.one (.mp 6)) (.cons 1 (.one (.mp 7)) (.cons 1 (.one (.bool a1o)) (.cons 1 (.one (.int .i64 a1l)) .nil)))))) true),(.cells z2 (.rI .i64 a0N) true),(.cells z3 (.rI .i64 a0B) true),(.cells z4 (.rS a0T) true),(.cells z5 (.rI .u8 a1b) true),(.cells 0 (.rM .i64 0 (.arr .u8 64) a1p) true),(.cells 0 (.rM .i64 0 .bool a1w) true)]=>some (true,(.int .i64 (IntKind.i64.wrap (((Dk.D.mk a1n a1b a1p a1w a1o a1l).n:Int)-(Jr.J.mk a0N a0T a0B a0x a0f a0c).fin))),[(jE 1 5 2 3 4 (Jr.J.mk a0N a0T a0B a0x a0f a0c)),(dE 5 (Dk.D.mk a1n a1b a1p a1w a1o a1l) 6 7),(.cells (Jr.J.mk a0N a0T a0B a0x a0f a0c).nums.length (.rI .i64 (Jr.J.mk a0N a0T a0B a0x a0f a0c).nums) true),(.cells (Jr.J.mk a0N a0T a0B a0x a0f a0c).bad.length (.rI .i64 (Jr.J.mk a0N a0T a0B a0x a0f a0c).bad) true),(.cells (Jr.J.mk a0N a0T a0B a0x a0f a0c).texts.length (.rS (Jr.J.mk a0N a0T a0B a0x a0f a0c).texts) true),(.cells (Dk.D.mk a1n a1b a1p a1w a1o a1l).blk.length (.rI .u8 (Dk.D.mk a1n a1b a1p a1w a1o a1l).blk) true),(pB (Dk.D.mk a1n a1b a1p a1w a1o a1l).pend),(wB (Dk.D.mk a1n a1b a1p a1w a1o a1l).worn)])
 | _,_=>none
theorem s38(a0N:Li)(a0T:List Li)(a0B:Li)(a0x a0f:Int)(a0c:Bool)(a1n:Nat)(a1b:Li)(a1p a1w:Lp)(a1o:Bool)(a1l:Int)(k0:okB (jB 1 5 2 3 4 a0x a0f a0c))(k1:okB (dB 5 a1n 6 7 a1o a1l))(k2:okB (iB a0N))(k3:okB (iB a0B))(k4:okB (sB a0T))(k5:okB (bB a1b))(k6:okB (pB a1p))(k7:okB (wB a1w)):∃ F,f38 F (a0N,a0T,a0B,a0x,a0f,a0c,a1n,a1b,a1p,a1w,a1o,a1l)=some ((.int .i64 (IntKind.i64.wrap (((Dk.D.mk a1n a1b a1p a1w a1o a1l).n:Int)-(Jr.J.mk a0N a0T a0B a0x a0f a0c).fin))),[(jE 1 5 2 3 4 (Jr.J.mk a0N a0T a0B a0x a0f a0c)),(dE 5 (Dk.D.mk a1n a1b a1p a1w a1o a1l) 6 7),(.cells (Jr.J.mk a0N a0T a0B a0x a0f a0c).nums.length (.rI .i64 (Jr.J.mk a0N a0T a0B a0x a0f a0c).nums) true),(.cells (Jr.J.mk a0N a0T a0B a0x a0f a0c).bad.length (.rI .i64 (Jr.J.mk a0N a0T a0B a0x a0f a0c).bad) true),(.cells (Jr.J.mk a0N a0T a0B a0x a0f a0c).texts.length (.rS (Jr.J.mk a0N a0T a0B a0x a0f a0c).texts) true),(.cells (Dk.D.mk a1n a1b a1p a1w a1o a1l).blk.length (.rI .u8 (Dk.D.mk a1n a1b a1p a1w a1o a1l).blk) true),(pB (Dk.D.mk a1n a1b a1p a1w a1o a1l).pend),(wB (Dk.D.mk a1n a1b a1p a1w a1o a1l).worn)]):=⟨0,rfl⟩
theorem c38:CallOk Tryz.prog G36Z 38 r38:=callOk_of mixed tys eV38 Tryz.func38 (by kernel_rfl) (c:=sub (bodyOf Tryz.f38) []) (by kernel_rfl) (by
 intro X H r H' h hX hH
 unfold r38 at h;split at h <;> try contradiction
 ·obtain⟨hp,rfl,rfl⟩:=inj3 h
  obtain rfl:=okB_size (hH _ hm2) rfl
  obtain rfl:=okB_size (hH _ hm3) rfl
  obtain rfl:=okB_size (hH _ hm4) rfl
  obtain rfl:=okB_size (hH _ hm5) rfl
  obtain⟨F,hF⟩:=s38 _ _ _ _ _ _ _ _ _ _ _ _ (hH _ hm0) (hH _ hm1) (hH _ hm2) (hH _ hm3) (hH _ hm4) (hH _ hm5) (hH _ hm6) (hH _ hm7)
  exact⟨Af38 F,(f38_body F _ _ _ _ _ _ _ _ _ _ _ _).trans hF⟩)
def lV12:List CEnt:=[]
def V12:Env:=mkEnv T36Z G36Z lV12
noncomputable abbrev Kf46:=kFin V12 (some [(2,.view 3)]) (Tryz.f12).results.toList
theorem eV12:EOk Tryz.prog V12:=eok_mk (by exact trivial)
def Af12(F:Nat):Cuts:={ F:=F,at_:=fun n=>match n with | 3012=>some sp46 | 9014=>some sp47 | _=>none,join:=fun n=>match n with | 1043=>some [(0,.plain)] | 2041=>some sp24 | 3014=>some sp46 | 7024=>some sp24 | 8022=>some sp48 | 9016=>some sp47 | 13003=>some [(6,.own 3)] | _=>none,fin:=(some [(2,.view 3)]) }
noncomputable abbrev XAf12(F:Nat){α:Type}:=@aexec α V12 (Af12 F)
def ef12_a:Ty38→St:=fun (a0N,a0T,a0B,a0x,a0f,a0c,a1n,a1b,a1p,a1w,a1o,a1l)=>⟨[(0,.ptr 0 0 7 0 0 0 7)],[(0,(jB 1 5 2 3 4 a0x a0f a0c)),(1,(dB 5 a1n 6 7 a1o a1l)),(2,(iB a0N)),(3,(iB a0B)),(4,(sB a0T)),(5,(bB a1b)),(6,(pB a1p)),(7,(wB a1w))],8,38,8⟩
def ef12j1:(Dk.D)×(Jr.J)→St:=fun (e1,e2)=>⟨[(0,.ptr 0 0 7 0 0 0 7)],[(0,(jE 1 5 2 3 4 e2)),(1,(dE 5 e1 6 7)),(2,(iB e2.nums)),(3,(iB e2.bad)),(4,(sB e2.texts)),(5,(bB e1.blk)),(6,(pB e1.pend)),(7,(wB e1.worn))],8,38,8⟩
def ef12j2:Ty39→St:=fun (x13,e1,e2)=>⟨[(0,.ptr 0 0 7 0 0 0 7),(3,.mp 8)],[(0,(jE 1 5 2 3 4 e2)),(1,(dE 5 e1 6 7)),(2,(iB e2.nums)),(3,(iB e2.bad)),(4,(sB e2.texts)),(5,(bB e1.blk)),(6,(pB e1.pend)),(7,(wB e1.worn)),(8,(wB x13))],9,38,8⟩
def ef12j3:Ty40→St:=fun (t13,t14,x15,e1,e2)=>⟨[(0,.ptr 0 0 7 0 0 0 7),(3,.mp 8),(12,.own 2 0 1),(13,.int .i64 t13),(14,.int .i64 t14)],[(0,(jE 1 5 2 3 4 e2)),(1,(dE 5 e1 6 7)),(2,(iB e2.nums)),(3,(iB e2.bad)),(4,(sB e2.texts)),(5,(bB e1.blk)),(6,(pB e1.pend)),(7,(wB e1.worn)),(8,(wB x15))],9,38,8⟩
def ef12l1:Ty40→St:=ef12j3
def ef12j4:Ty39→St:=ef12j2
def ef12j5:Ty41→St:=fun (x13,x14,e1,e2)=>⟨[(0,.ptr 0 0 7 0 0 0 7),(3,.mp 8),(6,.own 9 0 1)],[(0,(jE 1 5 2 3 4 e2)),(1,(dE 5 e1 6 7)),(2,(iB e2.nums)),(3,(iB e2.bad)),(4,(sB e2.texts)),(5,(bB e1.blk)),(6,(pB e1.pend)),(7,(wB e1.worn)),(8,(wB x13)),(9,(iB x14))],10,38,8⟩
def ef12j6:Ty42→St:=fun (t7,x14,x15,e1,e2)=>⟨[(0,.ptr 0 0 7 0 0 0 7),(3,.mp 8),(6,.own 9 0 1),(7,.int .i64 t7)],[(0,(jE 1 5 2 3 4 e2)),(1,(dE 5 e1 6 7)),(2,(iB e2.nums)),(3,(iB e2.bad)),(4,(sB e2.texts)),(5,(bB e1.blk)),(6,(pB e1.pend)),(7,(wB e1.worn)),(8,(wB x14)),(9,(iB x15))],10,38,8⟩
def ef12l2:Ty42→St:=ef12j6
def ef12j7:Ty43→St:=fun (x13,e1,e2)=>⟨[(6,.own 8 0 1)],[(0,(jE 1 5 2 3 4 e2)),(1,(dE 5 e1 6 7)),(2,(iB e2.nums)),(3,(iB e2.bad)),(4,(sB e2.texts)),(5,(bB e1.blk)),(6,(pB e1.pend)),(7,(wB e1.worn)),(8,(iB x13))],9,38,8⟩
def f12_1(F:Nat)(kj1:(Dk.D)×(Jr.J)→Rz):Ty38→Rz:=fun (a0N,a0T,a0B,a0x,a0f,a0c,a1n,a1b,a1p,a1w,a1o,a1l)=>(kj1 ((Dk.D.mk a1n a1b a1p a1w a1o a1l),(Jr.J.mk a0N a0T a0B a0x a0f a0c)))
theorem f12_1_eq(F:Nat)(Rj1:St→Rz):∀ v,XAf12 F (bp Tryz.f12 2) (ef12_a v) (kSeq (kc V12 Rj1 [(0,.plain)]) Kf46)=f12_1 F (Rj1∘ef12j1) v:=by
 rintro⟨a0N,a0T,a0B,a0x,a0f,a0c,a1n,a1b,a1p,a1w,a1o,a1l⟩;kernel_rfl
def f12_2(F:Nat)(kj2:Ty39→Rz):(Dk.D)×(Jr.J)→Rz:=fun (e1,e2)=>(kj2 ([],e1,e2))
theorem f12_2_eq(F:Nat)(Rj2:St→Rz):∀ v,XAf12 F (bp Tryz.f12 6) (ef12j1 v) (kSeq (kc V12 Rj2 sp24) Kf46)=f12_2 F (Rj2∘ef12j2) v:=by
 rintro⟨e1,e2⟩;kernel_rfl
def f12_3(F:Nat)(kj3:Ty40→Rz)(kj4:Ty39→Rz):Ty39→Rz:=fun (x13,e1,e2)=>(kj3 ((↑e2.nums.length:Int),(0:Int),x13,e1,e2))
theorem f12_3_eq(F:Nat)(Rj3 Rj4:St→Rz):∀ v,XAf12 F (bp Tryz.f12 28) (ef12j2 v) (kSeq (kc V12 Rj3 sp46) (kSeq (kc V12 Rj4 sp24) Kf46))=f12_3 F (Rj3∘ef12j3) (Rj4∘ef12j4) v:=by
 rintro⟨x13,e1,e2⟩;kernel_rfl
def f12_4(F:Nat)(kl1:Ty40→Rz)(kj4:Ty39→Rz):Ty40→Rz:=fun (t13,t14,x15,e1,e2)=>(cond (decide (t14 < t13)) (cond ((decide (0≤t14))&&(decide (t14 < (↑e2.nums.length:Int)))) (kl1 (t13,(IntKind.i64.wrap (t14+(1:Int))),(mput x15 [(e2.nums.getD (Int.toNat t14) 0)] [(cond true 1 0)]),e1,e2)) none) (kj4 (x15,e1,e2)))
theorem f12_4_eq(F:Nat)(Rl1 Rj4:St→Rz):∀ v,XAf12 F (bp Tryz.f12 116) (ef12l1 v) (kSeq (kc V12 Rl1 sp46) (kBlock 0 (kSeq (kc V12 Rj4 sp24) Kf46)))=f12_4 F (Rl1∘ef12l1) (Rj4∘ef12j4) v:=by
 rintro⟨t13,t14,x15,e1,e2⟩;kernel_rfl
def f12_5_i:Ty40→Int×Int×(Lp)×(Dk.D)×(Jr.J):=fun (t13,t14,x15,e1,e2)=>(t13,t14,x15,e1,e2)
def f12_5(F:Nat)(kj4:Ty39→Rz):Ty40→Rz:=fun v=>loopN (fun k=>f12_4 F k kj4) F (f12_5_i v)
theorem f12_5_eq(F:Nat)(Rj4:St→Rz):∀ v,XAf12 F (bp Tryz.f12 58) (ef12j3 v) (kBlock 0 (kSeq (kc V12 Rj4 sp24) Kf46))=f12_5 F (Rj4∘ef12j4) v:=
 loop_cut (by kernel_rfl) (by kernel_rfl) ef12j3 ef12l1 _ f12_5_i (fun k=>f12_4 F k (Rj4∘ef12j4))
  (by rintro⟨t13,t14,x15,e1,e2⟩;kernel_rfl) (fun Rl1=>f12_4_eq F Rl1 Rj4)
def f12_6(F:Nat)(kj4:Ty39→Rz):Ty40→Rz:=f12_5 F kj4
theorem f12_6_eq(F:Nat)(Rj4:St→Rz):∀ v,XAf12 F (bp Tryz.f12 29) (ef12j3 v) (kSeq (kc V12 Rj4 sp24) Kf46)=f12_6 F (Rj4∘ef12j4) v:=fun v=>
 (block_in  (by kernel_rfl) _ _).trans (f12_5_eq F Rj4 v)
def f12_7(F:Nat)(kj4:Ty39→Rz):Ty39→Rz:=fun v=>f12_3 F (f12_6 F kj4) kj4 v
theorem f12_7_eq(F:Nat)(Rj4:St→Rz):∀ v,XAf12 F (bp Tryz.f12 14) (ef12j2 v) (kSeq (kc V12 Rj4 sp24) Kf46)=f12_7 F (Rj4∘ef12j4) v:=
 seq_cut (by kernel_rfl) (by kernel_rfl) ef12j2 ef12j3 _ (fun k=>f12_3 F k (Rj4∘ef12j4)) (f12_6 F (Rj4∘ef12j4))
  (fun Rj3=>f12_3_eq F Rj3 Rj4) (f12_6_eq F Rj4)
def f12_8(F:Nat)(kj5:Ty41→Rz):Ty39→Rz:=fun (x13,e1,e2)=>(kj5 (x13,[],e1,e2))
theorem f12_8_eq(F:Nat)(Rj5:St→Rz):∀ v,XAf12 F (bp Tryz.f12 30) (ef12j4 v) (kSeq (kc V12 Rj5 sp48) Kf46)=f12_8 F (Rj5∘ef12j5) v:=by
 rintro⟨x13,e1,e2⟩;kernel_rfl
def f12_9(F:Nat)(kj6:Ty42→Rz)(kj7:Ty43→Rz):Ty41→Rz:=fun (x13,x14,e1,e2)=>(kj6 ((1:Int),x13,x14,e1,e2))
theorem f12_9_eq(F:Nat)(Rj6 Rj7:St→Rz):∀ v,XAf12 F (bp Tryz.f12 124) (ef12j5 v) (kSeq (kc V12 Rj6 sp47) (kSeq (kc V12 Rj7 [(6,.own 3)]) Kf46))=f12_9 F (Rj6∘ef12j6) (Rj7∘ef12j7) v:=by
 rintro⟨x13,x14,e1,e2⟩;kernel_rfl
def f12_10(F:Nat)(kl2:Ty42→Rz)(kj7:Ty43→Rz):Ty42→Rz:=fun (t7,x14,x15,e1,e2)=>(cond (decide (t7 < e2.next)) (cond (!((mget (mzero .bool) x14 [t7]).getD 0 0==1)) (cond (decide ((x15.length+1) < 1073741824)) (kl2 ((IntKind.i64.wrap (t7+(1:Int))),x14,(x15++[t7]),e1,e2)) none) (kl2 ((IntKind.i64.wrap (t7+(1:Int))),x14,x15,e1,e2))) (kj7 (x15,e1,e2)))
theorem f12_10_eq(F:Nat)(Rl2 Rj7:St→Rz):∀ v,XAf12 F (bp Tryz.f12 500) (ef12l2 v) (kSeq (kc V12 Rl2 sp47) (kBlock 2 (kSeq (kc V12 Rj7 [(6,.own 3)]) Kf46)))=f12_10 F (Rl2∘ef12l2) (Rj7∘ef12j7) v:=by
 rintro⟨t7,x14,x15,e1,e2⟩;kernel_rfl
def f12_11_i:Ty42→Int×(Lp)×Li×(Dk.D)×(Jr.J):=fun (t7,x14,x15,e1,e2)=>(t7,x14,x15,e1,e2)
def f12_11(F:Nat)(kj7:Ty43→Rz):Ty42→Rz:=fun v=>loopN (fun k=>f12_10 F k kj7) F (f12_11_i v)
theorem f12_11_eq(F:Nat)(Rj7:St→Rz):∀ v,XAf12 F (bp Tryz.f12 250) (ef12j6 v) (kBlock 2 (kSeq (kc V12 Rj7 [(6,.own 3)]) Kf46))=f12_11 F (Rj7∘ef12j7) v:=
 loop_cut (by kernel_rfl) (by kernel_rfl) ef12j6 ef12l2 _ f12_11_i (fun k=>f12_10 F k (Rj7∘ef12j7))
  (by rintro⟨t7,x14,x15,e1,e2⟩;kernel_rfl) (fun Rl2=>f12_10_eq F Rl2 Rj7)
def f12_12(F:Nat)(kj7:Ty43→Rz):Ty42→Rz:=f12_11 F kj7
theorem f12_12_eq(F:Nat)(Rj7:St→Rz):∀ v,XAf12 F (bp Tryz.f12 125) (ef12j6 v) (kSeq (kc V12 Rj7 [(6,.own 3)]) Kf46)=f12_12 F (Rj7∘ef12j7) v:=fun v=>
 (block_in  (by kernel_rfl) _ _).trans (f12_11_eq F Rj7 v)
def f12_13(F:Nat)(kj7:Ty43→Rz):Ty41→Rz:=fun v=>f12_9 F (f12_12 F kj7) kj7 v
theorem f12_13_eq(F:Nat)(Rj7:St→Rz):∀ v,XAf12 F (bp Tryz.f12 62) (ef12j5 v) (kSeq (kc V12 Rj7 [(6,.own 3)]) Kf46)=f12_13 F (Rj7∘ef12j7) v:=
 seq_cut (by kernel_rfl) (by kernel_rfl) ef12j5 ef12j6 _ (fun k=>f12_9 F k (Rj7∘ef12j7)) (f12_12 F (Rj7∘ef12j7))
  (fun Rj6=>f12_9_eq F Rj6 Rj7) (f12_12_eq F Rj7)
def f12_14(F:Nat):Ty43→Rz:=fun (x13,e1,e2)=>(some ((.vs (.rI .i64 x13) 0 1),[(jE 1 5 2 3 4 e2),(dE 5 e1 6 7),(iB e2.nums),(iB e2.bad),(sB e2.texts),(bB e1.blk),(pB e1.pend),(wB e1.worn)]))
theorem f12_14_eq(F:Nat):∀ v,XAf12 F (bp Tryz.f12 63) (ef12j7 v) Kf46=f12_14 F v:=by
 rintro⟨x13,e1,e2⟩;kernel_rfl
def f12_15(F:Nat):Ty41→Rz:=fun v=>f12_13 F (f12_14 F) v
theorem f12_15_eq(F:Nat):∀ v,XAf12 F (bp Tryz.f12 31) (ef12j5 v) Kf46=f12_15 F v:=
 seq_cut (by kernel_rfl) (by kernel_rfl) ef12j5 ef12j7 _ (fun k=>f12_13 F k) (f12_14 F)
  (fun Rj7=>f12_13_eq F Rj7) (f12_14_eq F)
def f12_16(F:Nat):Ty39→Rz:=fun v=>f12_8 F (f12_15 F) v
theorem f12_16_eq(F:Nat):∀ v,XAf12 F (bp Tryz.f12 15) (ef12j4 v) Kf46=f12_16 F v:=
 seq_cut (by kernel_rfl) (by kernel_rfl) ef12j4 ef12j5 _ (fun k=>f12_8 F k) (f12_15 F)
  (fun Rj5=>f12_8_eq F Rj5) (f12_15_eq F)
def f12_17(F:Nat):Ty39→Rz:=fun v=>f12_7 F (f12_16 F) v
theorem f12_17_eq(F:Nat):∀ v,XAf12 F (bp Tryz.f12 7) (ef12j2 v) Kf46=f12_17 F v:=
 seq_cut (by kernel_rfl) (by kernel_rfl) ef12j2 ef12j4 _ (fun k=>f12_7 F k) (f12_16 F)
  (fun Rj4=>f12_7_eq F Rj4) (f12_16_eq F)
def f12_18(F:Nat):(Dk.D)×(Jr.J)→Rz:=fun v=>f12_2 F (f12_17 F) v
theorem f12_18_eq(F:Nat):∀ v,XAf12 F (bp Tryz.f12 3) (ef12j1 v) Kf46=f12_18 F v:=
 seq_cut (by kernel_rfl) (by kernel_rfl) ef12j1 ef12j2 _ (fun k=>f12_2 F k) (f12_17 F)
  (fun Rj2=>f12_2_eq F Rj2) (f12_17_eq F)
def f12_19(F:Nat):Ty38→Rz:=fun v=>f12_1 F (f12_18 F) v
theorem f12_19_eq(F:Nat):∀ v,XAf12 F (sub (bodyOf Tryz.f12) []) (ef12_a v) Kf46=f12_19 F v:=
 seq_cut (by kernel_rfl) (by kernel_rfl) ef12_a ef12j1 _ (fun k=>f12_1 F k) (f12_18 F)
  (fun Rj1=>f12_1_eq F Rj1) (f12_18_eq F)
def f12(F:Nat):Ty38→Rz:=f12_19 F
theorem f12_body(F:Nat)(a0N:Li)(a0T:List Li)(a0B:Li)(a0x a0f:Int)(a0c:Bool)(a1n:Nat)(a1b:Li)(a1p a1w:Lp)(a1o:Bool)(a1l:Int):abody V12 (Af12 F) Tryz.f12 [(.ptr 0 0 7 0 0 0 7)] [(jB 1 5 2 3 4 a0x a0f a0c),(dB 5 a1n 6 7 a1o a1l),(iB a0N),(iB a0B),(sB a0T),(bB a1b),(pB a1p),(wB a1w)]=f12 F (a0N,a0T,a0B,a0x,a0f,a0c,a1n,a1b,a1p,a1w,a1o,a1l):=
 (abody_in (by kernel_rfl) (by kernel_rfl)).trans (f12_19_eq F (a0N,a0T,a0B,a0x,a0f,a0c,a1n,a1b,a1p,a1w,a1o,a1l))
def r12:CRun:=fun X H=>match X,H with
 | [(.ptr 0 0 7 0 0 0 7)],[(.cells 7 (.segs (.cons 1 (.one (.ptr 1 0 5 0 0 0 5)) (.cons 1 (.one (.own 2 0 1)) (.cons 1 (.one (.own 3 0 1)) (.cons 1 (.one (.own 4 0 1)) (.cons 1 (.one (.int .i64 a0x)) (.cons 1 (.one (.int .i64 a0f)) (.cons 1 (.one (.bool a0c)) .nil)))))))) true),(.cells 5 (.segs (.cons 1 (.one (.own 5 a1n 64)) (.cons 1 (.one (.mp 6)) (.cons 1 (.one (.mp 7)) (.cons 1 (.one (.bool a1o)) (.cons 1 (.one (.int .i64 a1l)) .nil)))))) true),(.cells z2 (.rI .i64 a0N) true),(.cells z3 (.rI .i64 a0B) true),(.cells z4 (.rS a0T) true),(.cells z5 (.rI .u8 a1b) true),(.cells 0 (.rM .i64 0 (.arr .u8 64) a1p) true),(.cells 0 (.rM .i64 0 .bool a1w) true)]=>some ((decide ((Jr.J.mk a0N a0T a0B a0x a0f a0c).nums.length < 1073741000∧(Jr.J.mk a0N a0T a0B a0x a0f a0c).next < 100000)),(.vs (.rI .i64 (Jr.damaged (Jr.J.mk a0N a0T a0B a0x a0f a0c))) 0 1),[(jE 1 5 2 3 4 (Jr.J.mk a0N a0T a0B a0x a0f a0c)),(dE 5 (Dk.D.mk a1n a1b a1p a1w a1o a1l) 6 7),(.cells (Jr.J.mk a0N a0T a0B a0x a0f a0c).nums.length (.rI .i64 (Jr.J.mk a0N a0T a0B a0x a0f a0c).nums) true),(.cells (Jr.J.mk a0N a0T a0B a0x a0f a0c).bad.length (.rI .i64 (Jr.J.mk a0N a0T a0B a0x a0f a0c).bad) true),(.cells (Jr.J.mk a0N a0T a0B a0x a0f a0c).texts.length (.rS (Jr.J.mk a0N a0T a0B a0x a0f a0c).texts) true),(.cells (Dk.D.mk a1n a1b a1p a1w a1o a1l).blk.length (.rI .u8 (Dk.D.mk a1n a1b a1p a1w a1o a1l).blk) true),(pB (Dk.D.mk a1n a1b a1p a1w a1o a1l).pend),(wB (Dk.D.mk a1n a1b a1p a1w a1o a1l).worn)])
 | _,_=>none
theorem s12(a0N:Li)(a0T:List Li)(a0B:Li)(a0x a0f:Int)(a0c:Bool)(a1n:Nat)(a1b:Li)(a1p a1w:Lp)(a1o:Bool)(a1l:Int)(hp:((decide ((Jr.J.mk a0N a0T a0B a0x a0f a0c).nums.length < 1073741000∧(Jr.J.mk a0N a0T a0B a0x a0f a0c).next < 100000)))=true)(k0:okB (jB 1 5 2 3 4 a0x a0f a0c))(k1:okB (dB 5 a1n 6 7 a1o a1l))(k2:okB (iB a0N))(k3:okB (iB a0B))(k4:okB (sB a0T))(k5:okB (bB a1b))(k6:okB (pB a1p))(k7:okB (wB a1w)):∃ F,f12 F (a0N,a0T,a0B,a0x,a0f,a0c,a1n,a1b,a1p,a1w,a1o,a1l)=some ((.vs (.rI .i64 (Jr.damaged (Jr.J.mk a0N a0T a0B a0x a0f a0c))) 0 1),[(jE 1 5 2 3 4 (Jr.J.mk a0N a0T a0B a0x a0f a0c)),(dE 5 (Dk.D.mk a1n a1b a1p a1w a1o a1l) 6 7),(.cells (Jr.J.mk a0N a0T a0B a0x a0f a0c).nums.length (.rI .i64 (Jr.J.mk a0N a0T a0B a0x a0f a0c).nums) true),(.cells (Jr.J.mk a0N a0T a0B a0x a0f a0c).bad.length (.rI .i64 (Jr.J.mk a0N a0T a0B a0x a0f a0c).bad) true),(.cells (Jr.J.mk a0N a0T a0B a0x a0f a0c).texts.length (.rS (Jr.J.mk a0N a0T a0B a0x a0f a0c).texts) true),(.cells (Dk.D.mk a1n a1b a1p a1w a1o a1l).blk.length (.rI .u8 (Dk.D.mk a1n a1b a1p a1w a1o a1l).blk) true),(pB (Dk.D.mk a1n a1b a1p a1w a1o a1l).pend),(wB (Dk.D.mk a1n a1b a1p a1w a1o a1l).worn)]):=by
 obtain⟨hp1,hp2⟩:=of_decide_eq_true hp
 obtain⟨F,hF⟩:∃ F,F=a0N.length+200000:=⟨_,rfl⟩
 refine⟨F,?_⟩
 simp only [f12,f12_19,f12_1,f12_18,f12_2,f12_17,f12_7,f12_16,f12_3,f12_6,f12_5,f12_5_i]
 have hp1:a0N.length < 1073741000:=hp1
 have hp2:a0x < 100000:=hp2
 refine loopN_from (fun i=>((a0N.length:Int),(i:Int),(a0N.take i).foldl (fun m n=>mput m [n] [1]) [],(Dk.D.mk a1n a1b a1p a1w a1o a1l),(Jr.J.mk a0N a0T a0B a0x a0f a0c))) a0N.length rfl (fun i hi q=>?_) (fun q=>?_) F (by omega)
 ·simp only [f12_4,Int.toNat_natCast,dec_and]
  rw [cond_pos (by omega),cond_pos (by omega),i64w (by omega) (by omega),List.take_add_one,List.foldl_append,List.getElem?_eq_getElem hi,List.getD_eq_getElem?_getD,List.getElem?_eq_getElem hi]
  rfl
 simp only [f12_4]
 rw [cond_neg (by omega),List.take_length]
 simp only [f12_16,f12_8,f12_15,f12_13,f12_14,f12_9,f12_12,f12_11,f12_11_i]
 have hth:∀ t,((mget (mzero .bool) (a0N.foldl (fun m n=>mput m [n] [1]) []) [t]).getD 0 0==1)=a0N.contains t:=fun t=>by
  have:=Jr.there_get t a0N [] (fun e he=>by cases he)
  rw [show mhas ([]:Dk.Es) [t]=false from rfl,Bool.or_false] at this
  exact this
 refine loopN_from (fun i=>((i:Int)+1,a0N.foldl (fun m n=>mput m [n] [1]) [],((List.range i).filter fun i:Nat=>!a0N.contains ((i:Int)+1)).map fun i:Nat=>(i:Int)+1,(Dk.D.mk a1n a1b a1p a1w a1o a1l),(Jr.J.mk a0N a0T a0B a0x a0f a0c))) (a0x-1).toNat rfl (fun i hi q=>?_) (fun q=>?_) F (by omega)
 ·simp only [f12_10]
  have hlen:(((List.range i).filter fun i:Nat=>!a0N.contains ((i:Int)+1)).map fun i:Nat=>(i:Int)+1).length≤i:=by
   rw [List.length_map];exact Nat.le_trans (List.length_filter_le _ _) (by simp)
  rw [cond_pos (by omega),hth,i64w (by omega) (by omega),Jr.dam_step]
  cases (!a0N.contains ((i:Int)+1))
  ·rw [cond_false,cond_false,List.append_nil];rfl
  ·rw [cond_true,cond_true,cond_pos (by omega)];rfl
 ·simp only [f12_10]
  rw [cond_neg (by omega)]
  rfl
theorem c12:CallOk Tryz.prog G36Z 12 r12:=callOk_of mixed tys eV12 Tryz.func12 (by kernel_rfl) (c:=sub (bodyOf Tryz.f12) []) (by kernel_rfl) (by
 intro X H r H' h hX hH
 unfold r12 at h;split at h <;> try contradiction
 ·obtain⟨hp,rfl,rfl⟩:=inj3 h
  obtain rfl:=okB_size (hH _ hm2) rfl
  obtain rfl:=okB_size (hH _ hm3) rfl
  obtain rfl:=okB_size (hH _ hm4) rfl
  obtain rfl:=okB_size (hH _ hm5) rfl
  obtain⟨F,hF⟩:=s12 _ _ _ _ _ _ _ _ _ _ _ _ hp (hH _ hm0) (hH _ hm1) (hH _ hm2) (hH _ hm3) (hH _ hm4) (hH _ hm5) (hH _ hm6) (hH _ hm7)
  exact⟨Af12 F,(f12_body F _ _ _ _ _ _ _ _ _ _ _ _).trans hF⟩)
end Go.Am
