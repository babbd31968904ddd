/- Part of a proof. -/
import Derived.Test.YtffddoahjpemaaaDoorAmJrn7
set_option linter.unusedVariables false
set_option linter.unusedSimpArgs false
namespace Go.Am
open Go Go.Proofs
abbrev sp41:List (Nat×Md):=[(5,.plain),(6,.plain),(7,.plain),(32,.plain),(33,.plain),(34,.plain)]
abbrev sp42:List (Nat×Md):=[(0,.plain),(5,.plain),(6,.plain)]
abbrev sp43:List (Nat×Md):=[(0,.plain),(5,.plain),(6,.plain),(7,.plain)]
abbrev sp44:List (Nat×Md):=[(6,.plain),(7,.plain)]
abbrev sp45:List (Nat×Md):=[(0,.plain),(1,.plain),(7,.plain),(8,.plain)]
abbrev sp46:List (Nat×Md):=[(0,.plain),(3,.plain),(12,.plain),(13,.plain),(14,.plain)]
abbrev sp47:List (Nat×Md):=[(0,.plain),(3,.plain),(6,.own 3),(7,.plain)]
abbrev sp48:List (Nat×Md):=[(0,.plain),(3,.plain),(6,.own 3)]
abbrev Ty32:=(List (List Li))×Nat
abbrev Ty33:=(List (List Li))×Nat×Int×Int×Int×Li×Bool
abbrev Ty34:=(List (List Li))×Nat×Int×Int×Int×Int×Li×Bool
abbrev Ty35:=(List (List Li))×Nat×Int×Li×Int×Int×Int×Li×Bool
abbrev Ty36:=Int×Li×(List (List Li))×Nat×Int×Int×Int×Int×Int×Li×Bool
abbrev Ty37:=Li×Int×Int×Int
abbrev Ty38:=Li×(List Li)×Li×Int×Int×Bool×Nat×Li×(Lp)×(Lp)×Bool×Int
abbrev Ty39:=(Lp)×(Dk.D)×(Jr.J)
abbrev Ty40:=Int×Int×(Lp)×(Dk.D)×(Jr.J)
abbrev Ty41:=(Lp)×Li×(Dk.D)×(Jr.J)
abbrev Ty42:=Int×(Lp)×Li×(Dk.D)×(Jr.J)
abbrev Ty43:=Li×(Dk.D)×(Jr.J)
def lV34:List CEnt:=[(11,[none],r11)]
def V34:Env:=mkEnv T36 G36 lV34
noncomputable abbrev Kf36:=kFin V34 none (Tryd.f34).results.toList
theorem eV34:EOk Tryd.prog V34:=eok_mk (by exact⟨c11,trivial⟩)
def Af34(F:Nat):Cuts:={ F:=F,at_:=fun n=>match n with | 7020=>some sp41 | _=>none,join:=fun n=>match n with | 1042=>some [(0,.plain)] | 2040=>some [(0,.plain),(5,.plain)] | 3038=>some sp42 | 5030=>some sp42 | 6028=>some sp43 | 7022=>some sp41 | 13003=>some sp44 | _=>none }
noncomputable abbrev XAf34(F:Nat){α:Type}:=@aexec α V34 (Af34 F)
def ef34_a:Ty32→St:=fun (a0,a0n)=>⟨[(0,(.vs (.rT [.int .i64,.int .i64,.int .i64,.str,.bool] a0) a0n 5))],[],0,72,0⟩
def ef34j1:Ty32→St:=fun (t0,x2)=>⟨[(0,(.vs (.rT [.int .i64,.int .i64,.int .i64,.str,.bool] t0) x2 5))],[],0,72,0⟩
def ef34j2:Ty33→St:=fun (t0,x2,x3,x4,x5,x6,x7)=>⟨[(0,(.vs (.rT [.int .i64,.int .i64,.int .i64,.str,.bool] t0) x2 5)),(5,.ptr 0 0 5 0 0 0 5)],[(0,(.cells 5 (.segs (.cons 1 (.one (.int .i64 x3)) (.cons 1 (.one (.int .i64 x4)) (.cons 1 (.one (.int .i64 x5)) (.cons 1 (.one (.str x6)) (.cons 1 (.one (.bool x7)) .nil)))))) true))],1,72,0⟩
def ef34j3:Ty34→St:=fun (t0,x2,t6,x4,x5,x6,x7,x8)=>⟨[(0,(.vs (.rT [.int .i64,.int .i64,.int .i64,.str,.bool] t0) x2 5)),(5,.ptr 0 0 5 0 0 0 5),(6,.int .i64 t6)],[(0,(.cells 5 (.segs (.cons 1 (.one (.int .i64 x4)) (.cons 1 (.one (.int .i64 x5)) (.cons 1 (.one (.int .i64 x6)) (.cons 1 (.one (.str x7)) (.cons 1 (.one (.bool x8)) .nil)))))) true))],1,72,0⟩
def ef34j4:Ty34→St:=ef34j3
def ef34j5:Ty35→St:=fun (t0,x2,t6,t7,x5,x6,x7,x8,x9)=>⟨[(0,(.vs (.rT [.int .i64,.int .i64,.int .i64,.str,.bool] t0) x2 5)),(5,.ptr 0 0 5 0 0 0 5),(6,.int .i64 t6),(7,.str t7)],[(0,(.cells 5 (.segs (.cons 1 (.one (.int .i64 x5)) (.cons 1 (.one (.int .i64 x6)) (.cons 1 (.one (.int .i64 x7)) (.cons 1 (.one (.str x8)) (.cons 1 (.one (.bool x9)) .nil)))))) true))],1,72,0⟩
def ef34j6:Ty36→St:=fun (t6,t7,t32,x4,t33,t34,x7,x8,x9,x10,x11)=>⟨[(5,.ptr 0 0 5 0 0 0 5),(6,.int .i64 t6),(7,.str t7),(32,(.vs (.rT [.int .i64,.int .i64,.int .i64,.str,.bool] t32) x4 5)),(33,.int .i64 t33),(34,.int .i64 t34)],[(0,(.cells 5 (.segs (.cons 1 (.one (.int .i64 x7)) (.cons 1 (.one (.int .i64 x8)) (.cons 1 (.one (.int .i64 x9)) (.cons 1 (.one (.str x10)) (.cons 1 (.one (.bool x11)) .nil)))))) true))],1,72,0⟩
def ef34l1:Ty36→St:=ef34j6
def ef34j7:Int×Li→St:=fun (t6,t7)=>⟨[(6,.int .i64 t6),(7,.str t7)],[],0,72,0⟩
def f34_1(F:Nat)(kj1:Ty32→Rz):Ty32→Rz:=fun (a0,a0n)=>(kj1 (a0,a0n))
theorem f34_1_eq(F:Nat)(Rj1:St→Rz):∀ v,XAf34 F (bp Tryd.f34 2) (ef34_a v) (kSeq (kc V34 Rj1 [(0,.plain)]) Kf36)=f34_1 F (Rj1∘ef34j1) v:=by
 rintro⟨a0,a0n⟩;kernel_rfl
def f34_2(F:Nat)(kj2:Ty33→Rz):Ty32→Rz:=fun (t0,x2)=>(cond (decide ((0:Int) < (↑x2:Int))) (kj2 (t0,x2,(((t0.getD 0 []).getD 0 []).getD 0 0),(((t0.getD 0 []).getD 1 []).getD 0 0),(((t0.getD 0 []).getD 2 []).getD 0 0),((t0.getD 0 []).getD 3 []),((((t0.getD 0 []).getD 4 []).getD 0 0)==1))) none)
theorem f34_2_eq(F:Nat)(Rj2:St→Rz):∀ v,XAf34 F (bp Tryd.f34 6) (ef34j1 v) (kSeq (kc V34 Rj2 [(0,.plain),(5,.plain)]) Kf36)=f34_2 F (Rj2∘ef34j2) v:=by
 rintro⟨t0,x2⟩;kernel_rfl
def f34_3(F:Nat)(kj3:Ty34→Rz):Ty33→Rz:=fun (t0,x2,x3,x4,x5,x6,x7)=>(kj3 (t0,x2,(Jr.count x5),x3,x4,x5,x6,x7))
theorem f34_3_eq(F:Nat)(Rj3:St→Rz):∀ v,XAf34 F (bp Tryd.f34 14) (ef34j2 v) (kSeq (kc V34 Rj3 sp42) Kf36)=f34_3 F (Rj3∘ef34j3) v:=by
 rintro⟨t0,x2,x3,x4,x5,x6,x7⟩;kernel_rfl
def f34_4(F:Nat)(kj4:Ty34→Rz):Ty34→Rz:=fun (t0,x2,t6,x4,x5,x6,x7,x8)=>(cond (!x8) (some ((.tup (.cons 0 (.str []) (.cons 0 (.int .i64 0) (.cons 0 (.bool false) .nil)))),[])) (cond (x5 != (0:Int)) (some ((.tup (.cons 0 (.str []) (.cons 0 (.int .i64 0) (.cons 0 (.bool false) .nil)))),[])) (cond (decide (t6 > (↑x2:Int))) (some ((.tup (.cons 0 (.str []) (.cons 0 (.int .i64 0) (.cons 0 (.bool false) .nil)))),[])) (kj4 (t0,x2,t6,x4,x5,x6,x7,x8)))))
theorem f34_4_eq(F:Nat)(Rj4:St→Rz):∀ v,XAf34 F (bp Tryd.f34 30) (ef34j3 v) (kSeq (kc V34 Rj4 sp42) Kf36)=f34_4 F (Rj4∘ef34j4) v:=by
 rintro⟨t0,x2,t6,x4,x5,x6,x7,x8⟩;kernel_rfl
def f34_5(F:Nat)(kj5:Ty35→Rz):Ty34→Rz:=fun (t0,x2,t6,x4,x5,x6,x7,x8)=>(kj5 (t0,x2,t6,[],x4,x5,x6,x7,x8))
theorem f34_5_eq(F:Nat)(Rj5:St→Rz):∀ v,XAf34 F (bp Tryd.f34 62) (ef34j4 v) (kSeq (kc V34 Rj5 sp43) Kf36)=f34_5 F (Rj5∘ef34j5) v:=by
 rintro⟨t0,x2,t6,x4,x5,x6,x7,x8⟩;kernel_rfl
def f34_6(F:Nat)(kj6:Ty36→Rz)(kj7:Int×Li→Rz):Ty35→Rz:=fun (t0,x2,t6,t7,x5,x6,x7,x8,x9)=>(cond ((decide ((0:Int)≤t6))&&(decide (t6≤(↑x2:Int)))) (kj6 (t6,t7,(t0.take (Int.toNat t6)),(Int.toNat t6),(↑(Int.toNat t6):Int),(0:Int),x5,x6,x7,x8,x9)) none)
theorem f34_6_eq(F:Nat)(Rj6 Rj7:St→Rz):∀ v,XAf34 F (bp Tryd.f34 252) (ef34j5 v) (kSeq (kc V34 Rj6 sp41) (kSeq (kc V34 Rj7 sp44) Kf36))=f34_6 F (Rj6∘ef34j6) (Rj7∘ef34j7) v:=by
 rintro⟨t0,x2,t6,t7,x5,x6,x7,x8,x9⟩;kernel_rfl
def f34_7(F:Nat)(kl1:Ty36→Rz)(kj7:Int×Li→Rz):Ty36→Rz:=fun (t6,t7,t32,x4,t33,t34,x7,x8,x9,x10,x11)=>(cond (decide (t34 < t33)) (cond ((decide (0≤t34))&&(decide (t34 < (↑x4:Int)))) (cond (!((((t32.getD (Int.toNat t34) []).getD 4 []).getD 0 0)==1)) (some ((.tup (.cons 0 (.str []) (.cons 0 (.int .i64 0) (.cons 0 (.bool false) .nil)))),[])) (cond ((((t32.getD (Int.toNat t34) []).getD 0 []).getD 0 0) != x7) (some ((.tup (.cons 0 (.str []) (.cons 0 (.int .i64 0) (.cons 0 (.bool false) .nil)))),[])) (cond ((((t32.getD (Int.toNat t34) []).getD 1 []).getD 0 0) != t34) (some ((.tup (.cons 0 (.str []) (.cons 0 (.int .i64 0) (.cons 0 (.bool false) .nil)))),[])) (cond ((((t32.getD (Int.toNat t34) []).getD 2 []).getD 0 0) != (IntKind.i64.wrap (x9-(IntKind.i64.wrap ((48:Int)*t34))))) (some ((.tup (.cons 0 (.str []) (.cons 0 (.int .i64 0) (.cons 0 (.bool false) .nil)))),[])) (cond (decide ((t7.length+((t32.getD (Int.toNat t34) []).getD 3 []).length) < 4611686018427387904)) (kl1 (t6,(t7++((t32.getD (Int.toNat t34) []).getD 3 [])),t32,x4,t33,(IntKind.i64.wrap (t34+(1:Int))),x7,x8,x9,x10,x11)) none))))) none) (kj7 (t6,t7)))
theorem f34_7_eq(F:Nat)(Rl1 Rj7:St→Rz):∀ v,XAf34 F (bp Tryd.f34 1012) (ef34l1 v) (kSeq (kc V34 Rl1 sp41) (kBlock 0 (kSeq (kc V34 Rj7 sp44) Kf36)))=f34_7 F (Rl1∘ef34l1) (Rj7∘ef34j7) v:=by
 rintro⟨t6,t7,t32,x4,t33,t34,x7,x8,x9,x10,x11⟩;kernel_rfl
def f34_8_i:Ty36→Int×Li×(List (List Li))×Nat×Int×Int×Int×Int×Int×Li×Bool:=fun (t6,t7,t32,x4,t33,t34,x7,x8,x9,x10,x11)=>(t6,t7,t32,x4,t33,t34,x7,x8,x9,x10,x11)
def f34_8(F:Nat)(kj7:Int×Li→Rz):Ty36→Rz:=fun v=>loopN (fun k=>f34_7 F k kj7) F (f34_8_i v)
theorem f34_8_eq(F:Nat)(Rj7:St→Rz):∀ v,XAf34 F (bp Tryd.f34 506) (ef34j6 v) (kBlock 0 (kSeq (kc V34 Rj7 sp44) Kf36))=f34_8 F (Rj7∘ef34j7) v:=
 loop_cut (by kernel_rfl) (by kernel_rfl) ef34j6 ef34l1 _ f34_8_i (fun k=>f34_7 F k (Rj7∘ef34j7))
  (by rintro⟨t6,t7,t32,x4,t33,t34,x7,x8,x9,x10,x11⟩;kernel_rfl) (fun Rl1=>f34_7_eq F Rl1 Rj7)
def f34_9(F:Nat)(kj7:Int×Li→Rz):Ty36→Rz:=f34_8 F kj7
theorem f34_9_eq(F:Nat)(Rj7:St→Rz):∀ v,XAf34 F (bp Tryd.f34 253) (ef34j6 v) (kSeq (kc V34 Rj7 sp44) Kf36)=f34_9 F (Rj7∘ef34j7) v:=fun v=>
 (block_in  (by kernel_rfl) _ _).trans (f34_8_eq F Rj7 v)
def f34_10(F:Nat)(kj7:Int×Li→Rz):Ty35→Rz:=fun v=>f34_6 F (f34_9 F kj7) kj7 v
theorem f34_10_eq(F:Nat)(Rj7:St→Rz):∀ v,XAf34 F (bp Tryd.f34 126) (ef34j5 v) (kSeq (kc V34 Rj7 sp44) Kf36)=f34_10 F (Rj7∘ef34j7) v:=
 seq_cut (by kernel_rfl) (by kernel_rfl) ef34j5 ef34j6 _ (fun k=>f34_6 F k (Rj7∘ef34j7)) (f34_9 F (Rj7∘ef34j7))
  (fun Rj6=>f34_6_eq F Rj6 Rj7) (f34_9_eq F Rj7)
def f34_11(F:Nat):Int×Li→Rz:=fun (t6,t7)=>(some ((.tup (.cons 0 (.str t7) (.cons 0 (.int .i64 t6) (.cons 0 (.bool true) .nil)))),[]))
theorem f34_11_eq(F:Nat):∀ v,XAf34 F (bp Tryd.f34 127) (ef34j7 v) Kf36=f34_11 F v:=by
 rintro⟨t6,t7⟩;kernel_rfl
def f34_12(F:Nat):Ty35→Rz:=fun v=>f34_10 F (f34_11 F) v
theorem f34_12_eq(F:Nat):∀ v,XAf34 F (bp Tryd.f34 63) (ef34j5 v) Kf36=f34_12 F v:=
 seq_cut (by kernel_rfl) (by kernel_rfl) ef34j5 ef34j7 _ (fun k=>f34_10 F k) (f34_11 F)
  (fun Rj7=>f34_10_eq F Rj7) (f34_11_eq F)
def f34_13(F:Nat):Ty34→Rz:=fun v=>f34_5 F (f34_12 F) v
theorem f34_13_eq(F:Nat):∀ v,XAf34 F (bp Tryd.f34 31) (ef34j4 v) Kf36=f34_13 F v:=
 seq_cut (by kernel_rfl) (by kernel_rfl) ef34j4 ef34j5 _ (fun k=>f34_5 F k) (f34_12 F)
  (fun Rj5=>f34_5_eq F Rj5) (f34_12_eq F)
def f34_14(F:Nat):Ty34→Rz:=fun v=>f34_4 F (f34_13 F) v
theorem f34_14_eq(F:Nat):∀ v,XAf34 F (bp Tryd.f34 15) (ef34j3 v) Kf36=f34_14 F v:=
 seq_cut (by kernel_rfl) (by kernel_rfl) ef34j3 ef34j4 _ (fun k=>f34_4 F k) (f34_13 F)
  (fun Rj4=>f34_4_eq F Rj4) (f34_13_eq F)
def f34_15(F:Nat):Ty33→Rz:=fun v=>f34_3 F (f34_14 F) v
theorem f34_15_eq(F:Nat):∀ v,XAf34 F (bp Tryd.f34 7) (ef34j2 v) Kf36=f34_15 F v:=
 seq_cut (by kernel_rfl) (by kernel_rfl) ef34j2 ef34j3 _ (fun k=>f34_3 F k) (f34_14 F)
  (fun Rj3=>f34_3_eq F Rj3) (f34_14_eq F)
def f34_16(F:Nat):Ty32→Rz:=fun v=>f34_2 F (f34_15 F) v
theorem f34_16_eq(F:Nat):∀ v,XAf34 F (bp Tryd.f34 3) (ef34j1 v) Kf36=f34_16 F v:=
 seq_cut (by kernel_rfl) (by kernel_rfl) ef34j1 ef34j2 _ (fun k=>f34_2 F k) (f34_15 F)
  (fun Rj2=>f34_2_eq F Rj2) (f34_15_eq F)
def f34_17(F:Nat):Ty32→Rz:=fun v=>f34_1 F (f34_16 F) v
theorem f34_17_eq(F:Nat):∀ v,XAf34 F (sub (bodyOf Tryd.f34) []) (ef34_a v) Kf36=f34_17 F v:=
 seq_cut (by kernel_rfl) (by kernel_rfl) ef34_a ef34j1 _ (fun k=>f34_1 F k) (f34_16 F)
  (fun Rj1=>f34_1_eq F Rj1) (f34_16_eq F)
def f34(F:Nat):Ty32→Rz:=f34_17 F
theorem f34_body(F:Nat)(a0:List (List Li))(a0n:Nat):abody V34 (Af34 F) Tryd.f34 [(.vs (.rT [.int .i64,.int .i64,.int .i64,.str,.bool] a0) a0n 5)] []=f34 F (a0,a0n):=
 (abody_in (by kernel_rfl) (by kernel_rfl)).trans (f34_17_eq F (a0,a0n))
def r34:CRun:=fun X H=>match X,H with
 | [(.vs (.rT [.int .i64,.int .i64,.int .i64,.str,.bool] a0) a0n 5)],[]=>some ((decide (0 < a0.length))&&(Jr.shortR a0),(.tup (.cons 0 (.str (Jr.rec a0).1) (.cons 0 (.int .i64 (Jr.rec a0).2.1) (.cons 0 (.bool (Jr.rec a0).2.2) .nil)))),[])
 | _,_=>none
theorem s34(a0:List (List Li))(a0n:Nat)(hp:((decide (0 < a0.length))&&(Jr.shortR a0))=true)(h0:okV (.vs (.rT [.int .i64,.int .i64,.int .i64,.str,.bool] a0) a0n 5)):∃ F,f34 F (a0,a0n)=some ((.tup (.cons 0 (.str (Jr.rec a0).1) (.cons 0 (.int .i64 (Jr.rec a0).2.1) (.cons 0 (.bool (Jr.rec a0).2.2) .nil)))),[]):=by
 obtain⟨hp0,hsh⟩:=Bool.and_eq_true_iff.1 hp
 have hp0:=of_decide_eq_true hp0
 have hn:a0n=a0.length:=by have:a0.length*5=a0n*5:=h0.1;omega
 subst hn
 have hpt:∀ i,i < a0.length→Jr.pt (a0.map Jr.unrow) i=Jr.unrow (a0.getD i []):=fun i hi=>Jr.pt_map hi
 have h0p:Jr.pt (a0.map Jr.unrow) 0=Jr.unrow (a0.getD 0 []):=hpt 0 hp0
 obtain⟨l,hl⟩:∃ l,l=a0.map Jr.unrow:=⟨_,rfl⟩
 have hll:l.length=a0.length:=by rw [hl];simp
 have hrec:Jr.rec a0=cond (Jr.recOk l 0) (Jr.recText l 0 (Jr.recN l 0),(Jr.recN l 0:Int),true) ([],0,false):=by rw [hl];rfl
 have hpay:∀ i,(Jr.pt l i).payload.length≤64:=fun i=>by rw [hl];exact Jr.short_pt hsh i
 rw [hrec]
 rw [← hl] at h0p hpt
 refine⟨400,?_⟩
 simp only [f34,f34_17,f34_1,f34_16,f34_2,f34_15,f34_3,f34_14,f34_4,f34_13,f34_5,f34_12,f34_10,f34_6,f34_9,f34_8,f34_8_i]
 rw [cond_pos (by omega)]
 have e0:(((a0.getD 0 []).getD 0 []).getD 0 0)=(Jr.pt l 0).number:=by rw [h0p];rfl
 have e1:(((a0.getD 0 []).getD 1 []).getD 0 0)=(Jr.pt l 0).part:=by rw [h0p];rfl
 have e2:(((a0.getD 0 []).getD 2 []).getD 0 0)=(Jr.pt l 0).left:=by rw [h0p];rfl
 have e4:((((a0.getD 0 []).getD 4 []).getD 0 0)==1)=(Jr.pt l 0).ok:=by rw [h0p];rfl
 simp only [e0,e1,e2,e4]
 cases hok:(Jr.pt l 0).ok with
 | false=>
  have:Jr.recOk l 0=false:=by rw [Jr.recOk,hok];rfl
  rw [this];rfl
 | true=>
 simp only [Bool.not_true,cond_false,int_bne]
 by_cases hpart:(Jr.pt l 0).part=0
 case neg=>
  have:Jr.recOk l 0=false:=by rw [Jr.recOk,decide_eq_false (fun h=>hpart h.1),Bool.and_false,Bool.false_and]
  rw [this,cond_pos hpart];rfl
 rw [cond_neg (fun h=>h hpart)]
 have hc0:0≤Jr.count (Jr.pt l 0).left∧Jr.count (Jr.pt l 0).left≤200∧(0 < Jr.count (Jr.pt l 0).left→0≤(Jr.pt l 0).left∧(Jr.pt l 0).left≤8000):=by
  unfold Jr.count
  by_cases h:(Jr.pt l 0).left < 0∨8000 < (Jr.pt l 0).left
  ·rw [cond_pos h];exact⟨by omega,by omega,fun h=>by omega⟩
  ·rw [cond_neg h]
   split <;> exact⟨by omega,by omega,fun _=>by omega⟩
 have hN:(Jr.recN l 0:Int)=Jr.count (Jr.pt l 0).left:=by rw [Jr.recN];omega
 by_cases hcnt:Jr.count (Jr.pt l 0).left > (a0.length:Int)
 case pos=>
  have:Jr.recOk l 0=false:=by rw [Jr.recOk,decide_eq_false (fun h=>by have:=h.2;omega),Bool.and_false,Bool.false_and]
  rw [this,cond_pos hcnt];rfl
 rw [cond_neg hcnt]
 simp only [dec_and]
 rw [cond_pos (by omega),← hN,Int.toNat_natCast]
 obtain⟨n,hn⟩:∃ n,n=Jr.recN l 0:=⟨_,rfl⟩
 rw [← hn] at hN ⊢
 have hna:n≤a0.length:=by omega
 have hR:∀ i,i < n→Jr.partOk l 0 i=false→Jr.recOk l 0=false:=fun i hi h=>by
  rw [Jr.recOk,← hn,Bool.and_eq_false_iff]
  right
  rw [List.all_eq_false]
  exact⟨i,List.mem_range.2 hi,by rw [h];decide⟩
 refine loopN_ind (fun m s=>∃ i:Nat,s=((n:Int),Jr.recText l 0 i,a0.take n,n,(n:Int),(i:Int),(Jr.pt l 0).number,(Jr.pt l 0).part,(Jr.pt l 0).left,(a0.getD 0 []).getD 3 [],true)∧m=n-i∧i≤n ∧ ∀ j,j < i→Jr.partOk l 0 j=true) (fun m s K hi hk=>?_) 400 n _ (by omega) ⟨0,rfl,by omega,by omega,fun j hj=>by omega⟩
 obtain⟨i,rfl,hm,hle,hall⟩:=hi
 simp only [f34_7,Int.toNat_natCast,dec_and]
 by_cases hlt:i < n
 ·have ht:(a0.take n).getD i []=a0.getD i []:=by
   rw [List.getD_eq_getElem?_getD,List.getElem?_take,if_pos hlt,List.getD_eq_getElem?_getD]
  have hpi:=hpt i (by omega)
  have f0:(((a0.getD i []).getD 0 []).getD 0 0)=(Jr.pt l i).number:=by rw [hpi];rfl
  have f1:(((a0.getD i []).getD 1 []).getD 0 0)=(Jr.pt l i).part:=by rw [hpi];rfl
  have f2:(((a0.getD i []).getD 2 []).getD 0 0)=(Jr.pt l i).left:=by rw [hpi];rfl
  have f3:((a0.getD i []).getD 3 [])=(Jr.pt l i).payload:=by rw [hpi];rfl
  have f4:((((a0.getD i []).getD 4 []).getD 0 0)==1)=(Jr.pt l i).ok:=by rw [hpi];rfl
  have hleft:=hc0.2.2 (by omega)
  rw [cond_pos (by omega),cond_pos (by omega)]
  simp only [ht,f0,f1,f2,f3,f4,int_bne]
  rw [i64w (x:=(48:Int)*i) (by omega) (by omega),i64w (x:=(Jr.pt l 0).left-48*i) (by omega) (by omega),i64w (x:=(i:Int)+1) (by omega) (by omega)]
  have hP:Jr.partOk l 0 i=((Jr.pt l i).ok&&decide ((Jr.pt l i).number=(Jr.pt l 0).number∧(Jr.pt l i).part=(i:Int)∧(Jr.pt l i).left=(Jr.pt l 0).left-48*i)):=by
   rw [Jr.partOk,Nat.zero_add]
  cases hoki:(Jr.pt l i).ok with
  | false=>rw [hR i hlt (by rw [hP,hoki];rfl)];rfl
  | true=>
  simp only [Bool.not_true,cond_false]
  by_cases g1:(Jr.pt l i).number=(Jr.pt l 0).number
  case neg=>rw [cond_pos g1,hR i hlt (by rw [hP,decide_eq_false (fun h=>g1 h.1),Bool.and_false])];rfl
  rw [cond_neg (fun h=>h g1)]
  by_cases g2:(Jr.pt l i).part=(i:Int)
  case neg=>rw [cond_pos g2,hR i hlt (by rw [hP,decide_eq_false (fun h=>g2 h.2.1),Bool.and_false])];rfl
  rw [cond_neg (fun h=>h g2)]
  by_cases g3:(Jr.pt l i).left=(Jr.pt l 0).left-48*i
  case neg=>rw [cond_pos g3,hR i hlt (by rw [hP,decide_eq_false (fun h=>g3 h.2.2),Bool.and_false])];rfl
  rw [cond_neg (fun h=>h g3)]
  have hlen:=Jr.recText_len hpay 0 i
  have hpi2:=hpay i
  rw [cond_pos (by omega)]
  refine hk (m-1) _ (by omega) ⟨i+1,?_,by omega,by omega,fun j hj=>?_⟩
  ·rw [Jr.recText_succ,Nat.zero_add];rfl
  ·by_cases hj':j=i
   ·subst hj';rw [hP,hoki,decide_eq_true ⟨g1,g2,g3⟩];rfl
   ·exact hall j (by omega)
 ·rw [cond_neg (by omega)]
  have hin:i=n:=by omega
  subst hin
  have:Jr.recOk l 0=true:=by
   rw [Jr.recOk,hok,← hn,decide_eq_true ⟨hpart,by omega⟩,Bool.and_self,Bool.true_and,List.all_eq_true]
   intro j hj
   exact hall j (List.mem_range.1 hj)
  rw [this]
  simp only [f34_11]
  rfl
theorem c34:CallOk Tryd.prog G36 34 r34:=callOk_of mixed tys eV34 Tryd.func34 (by kernel_rfl) (c:=sub (bodyOf Tryd.f34) []) (by kernel_rfl) (by
 intro X H r H' h hX hH
 unfold r34 at h;split at h <;> try contradiction
 ·obtain⟨hp,rfl,rfl⟩:=inj3 h
  obtain⟨F,hF⟩:=s34 _ _ hp (hX _ hm0)
  exact⟨Af34 F,(f34_body F _ _).trans hF⟩)
def lV52:List CEnt:=[]
def V52:Env:=mkEnv T36 G36 lV52
noncomputable abbrev Kf37:=kFin V52 none (Tryd.f52).results.toList
theorem eV52:EOk Tryd.prog V52:=eok_mk (by exact trivial)
def Af52(F:Nat):Cuts:={ F:=F,at_:=fun n=>match n with | 2018=>some sp45 | _=>none,join:=fun n=>match n with | 1026=>some sp37 | 2020=>some sp45 | 7003=>some [] | _=>none }
noncomputable abbrev XAf52(F:Nat){α:Type}:=@aexec α V52 (Af52 F)
def ef52_a:Li×Int→St:=fun (a0,a1)=>⟨[(0,(.vs (.rI .i64 a0) 0 1)),(1,.int .i64 a1)],[],0,19,0⟩
def ef52j1:Li×Int→St:=fun (t0,t1)=>⟨[(0,(.vs (.rI .i64 t0) 0 1)),(1,.int .i64 t1)],[],0,19,0⟩
def ef52j2:Ty37→St:=fun (t0,t1,t7,t8)=>⟨[(0,(.vs (.rI .i64 t0) 0 1)),(1,.int .i64 t1),(7,.int .i64 t7),(8,.int .i64 t8)],[],0,19,0⟩
def ef52l1:Ty37→St:=ef52j2
def ef52j3:Unit→St:=fun _=>⟨[],[],0,19,0⟩
def f52_1(F:Nat)(kj1:Li×Int→Rz):Li×Int→Rz:=fun (a0,a1)=>(kj1 (a0,a1))
theorem f52_1_eq(F:Nat)(Rj1:St→Rz):∀ v,XAf52 F (bp Tryd.f52 2) (ef52_a v) (kSeq (kc V52 Rj1 sp37) Kf37)=f52_1 F (Rj1∘ef52j1) v:=by
 rintro⟨a0,a1⟩;kernel_rfl
def f52_2(F:Nat)(kj2:Ty37→Rz)(kj3:Unit→Rz):Li×Int→Rz:=fun (t0,t1)=>(kj2 (t0,t1,(↑t0.length:Int),(0:Int)))
theorem f52_2_eq(F:Nat)(Rj2 Rj3:St→Rz):∀ v,XAf52 F (bp Tryd.f52 12) (ef52j1 v) (kSeq (kc V52 Rj2 sp45) (kSeq (kc V52 Rj3 []) Kf37))=f52_2 F (Rj2∘ef52j2) (Rj3∘ef52j3) v:=by
 rintro⟨t0,t1⟩;kernel_rfl
def f52_3(F:Nat)(kl1:Ty37→Rz)(kj3:Unit→Rz):Ty37→Rz:=fun (t0,t1,t7,t8)=>(cond (decide (t8 < t7)) (cond ((decide (0≤t8))&&(decide (t8 < (↑t0.length:Int)))) (cond (t1==(t0.getD (Int.toNat t8) 0)) (some ((.int .i64 t8),[])) (kl1 (t0,t1,t7,(IntKind.i64.wrap (t8+(1:Int)))))) none) (kj3 ()))
theorem f52_3_eq(F:Nat)(Rl1 Rj3:St→Rz):∀ v,XAf52 F (bp Tryd.f52 52) (ef52l1 v) (kSeq (kc V52 Rl1 sp45) (kBlock 0 (kSeq (kc V52 Rj3 []) Kf37)))=f52_3 F (Rl1∘ef52l1) (Rj3∘ef52j3) v:=by
 rintro⟨t0,t1,t7,t8⟩;kernel_rfl
def f52_4_i:Ty37→Li×Int×Int×Int:=fun (t0,t1,t7,t8)=>(t0,t1,t7,t8)
def f52_4(F:Nat)(kj3:Unit→Rz):Ty37→Rz:=fun v=>loopN (fun k=>f52_3 F k kj3) F (f52_4_i v)
theorem f52_4_eq(F:Nat)(Rj3:St→Rz):∀ v,XAf52 F (bp Tryd.f52 26) (ef52j2 v) (kBlock 0 (kSeq (kc V52 Rj3 []) Kf37))=f52_4 F (Rj3∘ef52j3) v:=
 loop_cut (by kernel_rfl) (by kernel_rfl) ef52j2 ef52l1 _ f52_4_i (fun k=>f52_3 F k (Rj3∘ef52j3))
  (by rintro⟨t0,t1,t7,t8⟩;kernel_rfl) (fun Rl1=>f52_3_eq F Rl1 Rj3)
def f52_5(F:Nat)(kj3:Unit→Rz):Ty37→Rz:=f52_4 F kj3
theorem f52_5_eq(F:Nat)(Rj3:St→Rz):∀ v,XAf52 F (bp Tryd.f52 13) (ef52j2 v) (kSeq (kc V52 Rj3 []) Kf37)=f52_5 F (Rj3∘ef52j3) v:=fun v=>
 (block_in  (by kernel_rfl) _ _).trans (f52_4_eq F Rj3 v)
def f52_6(F:Nat)(kj3:Unit→Rz):Li×Int→Rz:=fun v=>f52_2 F (f52_5 F kj3) kj3 v
theorem f52_6_eq(F:Nat)(Rj3:St→Rz):∀ v,XAf52 F (bp Tryd.f52 6) (ef52j1 v) (kSeq (kc V52 Rj3 []) Kf37)=f52_6 F (Rj3∘ef52j3) v:=
 seq_cut (by kernel_rfl) (by kernel_rfl) ef52j1 ef52j2 _ (fun k=>f52_2 F k (Rj3∘ef52j3)) (f52_5 F (Rj3∘ef52j3))
  (fun Rj2=>f52_2_eq F Rj2 Rj3) (f52_5_eq F Rj3)
def f52_7(F:Nat):Unit→Rz:=fun _=>(some ((.int .i64 (-1:Int)),[]))
theorem f52_7_eq(F:Nat):∀ v,XAf52 F (bp Tryd.f52 7) (ef52j3 v) Kf37=f52_7 F v:=by
 intro _;kernel_rfl
def f52_8(F:Nat):Li×Int→Rz:=fun v=>f52_6 F (f52_7 F) v
theorem f52_8_eq(F:Nat):∀ v,XAf52 F (bp Tryd.f52 3) (ef52j1 v) Kf37=f52_8 F v:=
 seq_cut (by kernel_rfl) (by kernel_rfl) ef52j1 ef52j3 _ (fun k=>f52_6 F k) (f52_7 F)
  (fun Rj3=>f52_6_eq F Rj3) (f52_7_eq F)
def f52_9(F:Nat):Li×Int→Rz:=fun v=>f52_1 F (f52_8 F) v
theorem f52_9_eq(F:Nat):∀ v,XAf52 F (sub (bodyOf Tryd.f52) []) (ef52_a v) Kf37=f52_9 F v:=
 seq_cut (by kernel_rfl) (by kernel_rfl) ef52_a ef52j1 _ (fun k=>f52_1 F k) (f52_8 F)
  (fun Rj1=>f52_1_eq F Rj1) (f52_8_eq F)
def f52(F:Nat):Li×Int→Rz:=f52_9 F
theorem f52_body(F:Nat)(a0:Li)(a1:Int):abody V52 (Af52 F) Tryd.f52 [(.vs (.rI .i64 a0) 0 1),.int .i64 a1] []=f52 F (a0,a1):=
 (abody_in (by kernel_rfl) (by kernel_rfl)).trans (f52_9_eq F (a0,a1))
def r52:CRun:=fun X H=>match X,H with
 | [(.vs (.rI .i64 a0) 0 1),.int .i64 a1],[]=>some (true,(.int .i64 (Jr.idx a0 a1)),[])
 | _,_=>none
theorem s52(a0:Li)(a1:Int)(h0:okV (.vs (.rI .i64 a0) 0 1))(h1:okV (.int .i64 a1)):∃ F,f52 F (a0,a1)=some ((.int .i64 (Jr.idx a0 a1)),[]):=by
 have hl:a0.length < 4611686018427387904:=h0.2
 refine⟨a0.length+1,?_⟩
 simp only [f52,f52_9,f52_1,f52_8,f52_6,f52_7,f52_2,f52_5,f52_4,f52_4_i]
 refine loopN_ind (fun m s=>∃ k:Nat,s=(a0,a1,(a0.length:Int),(k:Int))∧m=a0.length-k∧k≤a0.length∧Jr.idx a0 a1=Jr.idxGo a1 (a0.drop k) k) (fun m s K hi hk=>?_) (a0.length+1) a0.length _ (by omega) ⟨0,rfl,by omega,by omega,rfl⟩
 obtain⟨k,rfl,hm,hle,heq⟩:=hi
 simp only [f52_3,Int.toNat_natCast,dec_and]
 by_cases hlt:k < a0.length
 ·rw [cond_pos (by omega),cond_pos (by omega),i64w (by omega) (by omega)]
  rw [Jr.idxGo_drop hlt] at heq
  cases h:(a1==a0.getD k 0)
  ·rw [h] at heq
   exact hk (m-1) _ (by omega) ⟨k+1,rfl,by omega,by omega,heq⟩
  ·rw [h] at heq
   rw [heq];rfl
 ·rw [cond_neg (by omega)]
  have:k=a0.length:=by omega
  subst this
  rw [List.drop_length] at heq
  rw [heq];rfl
theorem c52:CallOk Tryd.prog G36 52 r52:=callOk_of mixed tys eV52 Tryd.func52 (by kernel_rfl) (c:=sub (bodyOf Tryd.f52) []) (by kernel_rfl) (by
 intro X H r H' h hX hH
 unfold r52 at h;split at h <;> try contradiction
 ·obtain⟨hp,rfl,rfl⟩:=inj3 h
  obtain⟨F,hF⟩:=s52 _ _ (hX _ hm0) (hX _ hm1)
  exact⟨Af52 F,(f52_body F _ _).trans hF⟩)
def lV35:List CEnt:=[(52,[some 3,none],r52)]
def V35:Env:=mkEnv T36 G36 lV35
noncomputable abbrev Kf38:=kFin V35 none (Tryd.f35).results.toList
theorem eV35:EOk Tryd.prog V35:=eok_mk (by exact⟨c52,trivial⟩)
def Af35(F:Nat):Cuts:={ F:=F,at_:=fun _=>none,join:=fun _=>none }
def ef35_a:Li×Int→St:=fun (a0,a1)=>⟨[(0,(.vs (.rI .i64 a0) 0 1)),(1,.int .i64 a1)],[],0,9,0⟩
def f35_1(F:Nat):Li×Int→Rz:=fun (a0,a1)=>(some ((.bool (decide ((Jr.idx a0 a1)≥(0:Int)))),[]))
theorem f35_1_eq(F:Nat):∀ v,aexec V35 (Af35 F) (sub (bodyOf Tryd.f35) []) (ef35_a v) Kf38=f35_1 F v:=by
 rintro⟨a0,a1⟩;kernel_rfl
def f35(F:Nat):Li×Int→Rz:=f35_1 F
theorem f35_body(F:Nat)(a0:Li)(a1:Int):abody V35 (Af35 F) Tryd.f35 [(.vs (.rI .i64 a0) 0 1),.int .i64 a1] []=f35 F (a0,a1):=
 (abody_in (by kernel_rfl) (by kernel_rfl)).trans (f35_1_eq F (a0,a1))
def r35:CRun:=fun X H=>match X,H with
 | [(.vs (.rI .i64 a0) 0 1),.int .i64 a1],[]=>some (true,(.bool (a0.contains a1)),[])
 | _,_=>none
theorem s35(a0:Li)(a1:Int)(h0:okV (.vs (.rI .i64 a0) 0 1))(h1:okV (.int .i64 a1)):∃ F,f35 F (a0,a1)=some ((.bool (a0.contains a1)),[]):=by
 refine⟨0,?_⟩
 simp only [f35,f35_1]
 rw [show decide (Jr.idx a0 a1≥0)=a0.contains a1 from Jr.idx_contains a1 a0 0]
theorem c35:CallOk Tryd.prog G36 35 r35:=callOk_of mixed tys eV35 Tryd.func35 (by kernel_rfl) (c:=sub (bodyOf Tryd.f35) []) (by kernel_rfl) (by
 intro X H r H' h hX hH
 unfold r35 at h;split at h <;> try contradiction
 ·obtain⟨hp,rfl,rfl⟩:=inj3 h
  obtain⟨F,hF⟩:=s35 _ _ (hX _ hm0) (hX _ hm1)
  exact⟨Af35 F,(f35_body F _ _).trans hF⟩)
def lV37:List CEnt:=[]
def V37:Env:=mkEnv T36 G36 lV37
noncomputable abbrev Kf39:=kFin V37 (some [(2,.own 3)]) (Tryd.f37).results.toList
theorem eV37:EOk Tryd.prog V37:=eok_mk (by exact trivial)
def Af37p(F:Nat):Cuts:={ F:=F,at_:=fun _=>none,join:=fun _=>none,fin:=(some [(2,.own 3)]) }
def ef37p_a:Li→St:=fun a0=>⟨[(0,(.vs (.rI .i64 a0) 2 1))],[],0,8,0⟩
def f37p_1(F:Nat):Li→Rz:=fun a0=>(cond (decide ((0+a0.length) < 1073741824)) (some ((.own 0 0 1),[(.cells ([]++a0).length (.rI .i64 ([]++a0)) true)])) none)
theorem f37p_1_eq(F:Nat):∀ v,aexec V37 (Af37p F) (sub (bodyOf Tryd.f37) []) (ef37p_a v) Kf39=f37p_1 F v:=by
 intro a0;kernel_rfl
def f37p(F:Nat):Li→Rz:=f37p_1 F
theorem f37p_body(F:Nat)(a0:Li):abody V37 (Af37p F) Tryd.f37 [(.vs (.rI .i64 a0) 2 1)] []=f37p F a0:=
 (abody_in (c:=(sub (bodyOf Tryd.f37) [])) (by kernel_rfl) (s:=ef37p_a a0) (by kernel_rfl)).trans (f37p_1_eq F a0)
def Af37z(F:Nat):Cuts:={ F:=F,at_:=fun _=>none,join:=fun _=>none,fin:=(some [(2,.own 3)]) }
def ef37z_a:Unit→St:=fun _=>⟨[(0,(.vs (.rI .i64 []) 3 1))],[],0,8,0⟩
def f37z_1(F:Nat):Unit→Rz:=fun _=>(some ((.own 0 0 1),[(.cells 0 (.rI .i64 []) true)]))
theorem f37z_1_eq(F:Nat):∀ v,aexec V37 (Af37z F) (sub (bodyOf Tryd.f37) []) (ef37z_a v) Kf39=f37z_1 F v:=by
 intro _;kernel_rfl
def f37z(F:Nat):Unit→Rz:=f37z_1 F
theorem f37z_body(F:Nat) : abody V37 (Af37z F) Tryd.f37 [(.vs (.rI .i64 []) 3 1)] []=f37z F ():=
 (abody_in (by kernel_rfl) (by kernel_rfl)).trans (f37z_1_eq F ())
def r37:CRun:=fun X H=>match X,H with
 | [(.vs (.rI .i64 a0) 0 1)],[]=>some ((decide (a0.length < 1073741000)),.own 0 0 1,[(iB a0)])
 | _,_=>none
theorem s37p(a0:Li)(hp:((decide (a0.length < 1073741000)))=true)(h0:okV (.vs (.rI .i64 a0) 0 1)):∃ F,f37p F a0=some ((.own 0 0 1),[(iB a0)]):=by
 have h:=of_decide_eq_true hp
 refine⟨0,?_⟩
 simp only [f37p,f37p_1,List.nil_append]
 rw [cond_pos (by omega)]
theorem s37z:∃ F,f37z F ()=some ((.own 0 0 1),[(.cells ([]:Li).length (.rI .i64 ([]:Li)) true)]):=⟨0,rfl⟩
theorem c37:CallOk Tryd.prog G36 37 r37:=callOk_nil (V:=V37) mixed tys eV37 (f:=37) (fn:=Tryd.f37) Tryd.func37 (by kernel_rfl) (c:=sub (bodyOf Tryd.f37) []) (by kernel_rfl) (by
 intro X H R H' h
 unfold r37 at h;split at h <;> try contradiction
 rename_i a0
 obtain⟨hp,rfl,rfl⟩:=inj3 h
 refine⟨_,rfl,rfl,fun hok=>⟨?_,fun hz=>?_⟩⟩
 ·obtain⟨F,hF⟩:=s37p a0 hp hok
  exact⟨Af37p F,(f37p_body F a0).trans hF⟩
 ·have e:a0=[]:=List.length_eq_zero_iff.mp hz
  subst e
  obtain⟨F,hF⟩:=s37z
  exact⟨Af37z F,(f37z_body F).trans hF⟩)
def lV38:List CEnt:=[]
def V38:Env:=mkEnv T36 G36 lV38
noncomputable abbrev Kf40:=kFin V38 (some [(2,.own 9)]) (Tryd.f38).results.toList
theorem eV38:EOk Tryd.prog V38:=eok_mk (by exact trivial)
def Af38p(F:Nat):Cuts:={ F:=F,at_:=fun _=>none,join:=fun _=>none,fin:=(some [(2,.own 9)]) }
def ef38p_a:(List Li)→St:=fun a0=>⟨[(0,(.vs (.rS a0) 2 1))],[],0,8,0⟩
def f38p_1(F:Nat):(List Li)→Rz:=fun a0=>(cond (decide ((0+a0.length) < 1073741824)) (some ((.own 0 0 1),[(.cells ([]++a0).length (.rS ([]++a0)) true)])) none)
theorem f38p_1_eq(F:Nat):∀ v,aexec V38 (Af38p F) (sub (bodyOf Tryd.f38) []) (ef38p_a v) Kf40=f38p_1 F v:=by
 intro a0;kernel_rfl
def f38p(F:Nat):(List Li)→Rz:=f38p_1 F
theorem f38p_body(F:Nat)(a0:List Li):abody V38 (Af38p F) Tryd.f38 [(.vs (.rS a0) 2 1)] []=f38p F a0:=
 (abody_in (c:=(sub (bodyOf Tryd.f38) [])) (by kernel_rfl) (s:=ef38p_a a0) (by kernel_rfl)).trans (f38p_1_eq F a0)
def Af38z(F:Nat):Cuts:={ F:=F,at_:=fun _=>none,join:=fun _=>none,fin:=(some [(2,.own 9)]) }
def ef38z_a:Unit→St:=fun _=>⟨[(0,(.vs (.rS []) 3 1))],[],0,8,0⟩
def f38z_1(F:Nat):Unit→Rz:=fun _=>(some ((.own 0 0 1),[(.cells 0 (.rS []) true)]))
theorem f38z_1_eq(F:Nat):∀ v,aexec V38 (Af38z F) (sub (bodyOf Tryd.f38) []) (ef38z_a v) Kf40=f38z_1 F v:=by
 intro _;kernel_rfl
def f38z(F:Nat):Unit→Rz:=f38z_1 F
theorem f38z_body(F:Nat) : abody V38 (Af38z F) Tryd.f38 [(.vs (.rS []) 3 1)] []=f38z F ():=
 (abody_in (by kernel_rfl) (by kernel_rfl)).trans (f38z_1_eq F ())
def r38:CRun:=fun X H=>match X,H with
 | [(.vs (.rS a0) 0 1)],[]=>some ((decide (a0.length < 1073741000)),.own 0 0 1,[(sB a0)])
 | _,_=>none
theorem s38p(a0:List Li)(hp:((decide (a0.length < 1073741000)))=true)(h0:okV (.vs (.rS a0) 0 1)):∃ F,f38p F a0=some ((.own 0 0 1),[(sB a0)]):=by
 have h:=of_decide_eq_true hp
 refine⟨0,?_⟩
 simp only [f38p,f38p_1,List.nil_append]
 rw [cond_pos (by omega)]
theorem s38z:∃ F,f38z F ()=some ((.own 0 0 1),[(.cells ([]:List Li).length (.rS ([]:List Li)) true)]):=⟨0,rfl⟩
theorem c38:CallOk Tryd.prog G36 38 r38:=callOk_nil (V:=V38) mixed tys eV38 (f:=38) (fn:=Tryd.f38) Tryd.func38 (by kernel_rfl) (c:=sub (bodyOf Tryd.f38) []) (by kernel_rfl) (by
 intro X H R H' h
 unfold r38 at h;split at h <;> try contradiction
 rename_i a0
 obtain⟨hp,rfl,rfl⟩:=inj3 h
 refine⟨_,rfl,rfl,fun hok=>⟨?_,fun hz=>?_⟩⟩
 ·obtain⟨F,hF⟩:=s38p a0 hp hok
  exact⟨Af38p F,(f38p_body F a0).trans hF⟩
 ·have e:a0=[]:=List.length_eq_zero_iff.mp hz
  subst e
  obtain⟨F,hF⟩:=s38z
  exact⟨Af38z F,(f38z_body F).trans hF⟩)
def lV19:List CEnt:=[(37,[some 3],r37)]
def V19:Env:=mkEnv T36 G36 lV19
noncomputable abbrev Kf41:=kFin V19 (some [(2,.own 3)]) (Tryd.f19).results.toList
theorem eV19:EOk Tryd.prog V19:=eok_mk (by exact⟨c37,trivial⟩)
def Af19(F:Nat):Cuts:={ F:=F,at_:=fun _=>none,join:=fun _=>none,fin:=(some [(2,.own 3)]) }
def ef19_a:Ty38→St:=fun (a0N,a0T,a0B,a0x,a0f,a0c,a1n,a1b,a1p,a1w,a1o,a1l)=>⟨[(0,.ptr 0 0 7 0 0 0 7)],[(0,(jB 1 5 2 3 4 a0x a0f a0c)),(1,(dB 5 a1n 6 7 a1o a1l)),(2,(iB a0N)),(3,(iB a0B)),(4,(sB a0T)),(5,(bB a1b)),(6,(pB a1p)),(7,(wB a1w))],8,8,8⟩
def f19_1(F:Nat):Ty38→Rz:=fun (a0N,a0T,a0B,a0x,a0f,a0c,a1n,a1b,a1p,a1w,a1o,a1l)=>(cond (decide (a0N.length < 1073741000)) (some ((.own 8 0 1),[(jB 1 5 2 3 4 a0x a0f a0c),(dB 5 a1n 6 7 a1o a1l),(iB a0N),(iB a0B),(sB a0T),(bB a1b),(pB a1p),(wB a1w),(iB a0N)])) none)
theorem f19_1_eq(F:Nat):∀ v,aexec V19 (Af19 F) (sub (bodyOf Tryd.f19) []) (ef19_a v) Kf41=f19_1 F v:=by
 rintro⟨a0N,a0T,a0B,a0x,a0f,a0c,a1n,a1b,a1p,a1w,a1o,a1l⟩;kernel_rfl
def f19(F:Nat):Ty38→Rz:=f19_1 F
theorem f19_body(F:Nat)(a0N:Li)(a0T:List Li)(a0B:Li)(a0x a0f:Int)(a0c:Bool)(a1n:Nat)(a1b:Li)(a1p a1w:Lp)(a1o:Bool)(a1l:Int):abody V19 (Af19 F) Tryd.f19 [(.ptr 0 0 7 0 0 0 7)] [(jB 1 5 2 3 4 a0x a0f a0c),(dB 5 a1n 6 7 a1o a1l),(iB a0N),(iB a0B),(sB a0T),(bB a1b),(pB a1p),(wB a1w)]=f19 F (a0N,a0T,a0B,a0x,a0f,a0c,a1n,a1b,a1p,a1w,a1o,a1l):=
 (abody_in (by kernel_rfl) (by kernel_rfl)).trans (f19_1_eq F (a0N,a0T,a0B,a0x,a0f,a0c,a1n,a1b,a1p,a1w,a1o,a1l))
def r19:CRun:=fun X H=>match X,H with
 | [(.ptr 0 0 7 0 0 0 7)],[(.cells 7 (.segs (.cons 1 (.one (.ptr 1 0 5 0 0 0 5)) (.cons 1 (.one (.own 2 0 1)) (.cons 1 (.one (.own 3 0 1)) (.cons 1 (.one (.own 4 0 1)) (.cons 1 (.one (.int .i64 a0x)) (.cons 1 (.one (.int .i64 a0f)) (.cons 1 (.one (.bool a0c)) .nil)))))))) true),(.cells 5 (.segs (.cons 1 (.one (.own 5 a1n 64)) (.cons 1 (.one (.mp 6)) (.cons 1 (.one (.mp 7)) (.cons 1 (.one (.bool a1o)) (.cons 1 (.one (.int .i64 a1l)) .nil)))))) true),(.cells z2 (.rI .i64 a0N) true),(.cells z3 (.rI .i64 a0B) true),(.cells z4 (.rS a0T) true),(.cells z5 (.rI .u8 a1b) true),(.cells 0 (.rM .i64 0 (.arr .u8 64) a1p) true),(.cells 0 (.rM .i64 0 .bool a1w) true)]=>some ((decide ((Jr.J.mk a0N a0T a0B a0x a0f a0c).nums.length < 1073741000)),.own 8 0 1,[(jE 1 5 2 3 4 (Jr.J.mk a0N a0T a0B a0x a0f a0c)),(dE 5 (Dk.D.mk a1n a1b a1p a1w a1o a1l) 6 7),(.cells (Jr.J.mk a0N a0T a0B a0x a0f a0c).nums.length (.rI .i64 (Jr.J.mk a0N a0T a0B a0x a0f a0c).nums) true),(.cells (Jr.J.mk a0N a0T a0B a0x a0f a0c).bad.length (.rI .i64 (Jr.J.mk a0N a0T a0B a0x a0f a0c).bad) true),(.cells (Jr.J.mk a0N a0T a0B a0x a0f a0c).texts.length (.rS (Jr.J.mk a0N a0T a0B a0x a0f a0c).texts) true),(.cells (Dk.D.mk a1n a1b a1p a1w a1o a1l).blk.length (.rI .u8 (Dk.D.mk a1n a1b a1p a1w a1o a1l).blk) true),(pB (Dk.D.mk a1n a1b a1p a1w a1o a1l).pend),(wB (Dk.D.mk a1n a1b a1p a1w a1o a1l).worn),(.cells (Jr.J.mk a0N a0T a0B a0x a0f a0c).nums.length (.rI .i64 (Jr.J.mk a0N a0T a0B a0x a0f a0c).nums) true)])
 | _,_=>none
theorem s19(a0N:Li)(a0T:List Li)(a0B:Li)(a0x a0f:Int)(a0c:Bool)(a1n:Nat)(a1b:Li)(a1p a1w:Lp)(a1o:Bool)(a1l:Int)(hp:((decide ((Jr.J.mk a0N a0T a0B a0x a0f a0c).nums.length < 1073741000)))=true)(k0:okB (jB 1 5 2 3 4 a0x a0f a0c))(k1:okB (dB 5 a1n 6 7 a1o a1l))(k2:okB (iB a0N))(k3:okB (iB a0B))(k4:okB (sB a0T))(k5:okB (bB a1b))(k6:okB (pB a1p))(k7:okB (wB a1w)):∃ F,f19 F (a0N,a0T,a0B,a0x,a0f,a0c,a1n,a1b,a1p,a1w,a1o,a1l)=some ((.own 8 0 1),[(jE 1 5 2 3 4 (Jr.J.mk a0N a0T a0B a0x a0f a0c)),(dE 5 (Dk.D.mk a1n a1b a1p a1w a1o a1l) 6 7),(.cells (Jr.J.mk a0N a0T a0B a0x a0f a0c).nums.length (.rI .i64 (Jr.J.mk a0N a0T a0B a0x a0f a0c).nums) true),(.cells (Jr.J.mk a0N a0T a0B a0x a0f a0c).bad.length (.rI .i64 (Jr.J.mk a0N a0T a0B a0x a0f a0c).bad) true),(.cells (Jr.J.mk a0N a0T a0B a0x a0f a0c).texts.length (.rS (Jr.J.mk a0N a0T a0B a0x a0f a0c).texts) true),(.cells (Dk.D.mk a1n a1b a1p a1w a1o a1l).blk.length (.rI .u8 (Dk.D.mk a1n a1b a1p a1w a1o a1l).blk) true),(pB (Dk.D.mk a1n a1b a1p a1w a1o a1l).pend),(wB (Dk.D.mk a1n a1b a1p a1w a1o a1l).worn),(.cells (Jr.J.mk a0N a0T a0B a0x a0f a0c).nums.length (.rI .i64 (Jr.J.mk a0N a0T a0B a0x a0f a0c).nums) true)]):=by
 refine⟨0,?_⟩
 simp only [f19,f19_1]
 rw [cond_pos (of_decide_eq_true hp)]
theorem c19:CallOk Tryd.prog G36 19 r19:=callOk_of mixed tys eV19 Tryd.func19 (by kernel_rfl) (c:=sub (bodyOf Tryd.f19) []) (by kernel_rfl) (by
 intro X H r H' h hX hH
 unfold r19 at h;split at h <;> try contradiction
 ·obtain⟨hp,rfl,rfl⟩:=inj3 h
  obtain rfl:=okB_size (hH _ hm2) rfl
  obtain rfl:=okB_size (hH _ hm3) rfl
  obtain rfl:=okB_size (hH _ hm4) rfl
  obtain rfl:=okB_size (hH _ hm5) rfl
  obtain⟨F,hF⟩:=s19 _ _ _ _ _ _ _ _ _ _ _ _ hp (hH _ hm0) (hH _ hm1) (hH _ hm2) (hH _ hm3) (hH _ hm4) (hH _ hm5) (hH _ hm6) (hH _ hm7)
  exact⟨Af19 F,(f19_body F _ _ _ _ _ _ _ _ _ _ _ _).trans hF⟩)
def lV20:List CEnt:=[(38,[some 9],r38)]
def V20:Env:=mkEnv T36 G36 lV20
noncomputable abbrev Kf42:=kFin V20 (some [(2,.own 9)]) (Tryd.f20).results.toList
theorem eV20:EOk Tryd.prog V20:=eok_mk (by exact⟨c38,trivial⟩)
def Af20(F:Nat):Cuts:={ F:=F,at_:=fun _=>none,join:=fun _=>none,fin:=(some [(2,.own 9)]) }
def ef20_a:Ty38→St:=ef19_a
def f20_1(F:Nat):Ty38→Rz:=fun (a0N,a0T,a0B,a0x,a0f,a0c,a1n,a1b,a1p,a1w,a1o,a1l)=>(cond (decide (a0T.length < 1073741000)) (some ((.own 8 0 1),[(jB 1 5 2 3 4 a0x a0f a0c),(dB 5 a1n 6 7 a1o a1l),(iB a0N),(iB a0B),(sB a0T),(bB a1b),(pB a1p),(wB a1w),(sB a0T)])) none)
theorem f20_1_eq(F:Nat):∀ v,aexec V20 (Af20 F) (sub (bodyOf Tryd.f20) []) (ef20_a v) Kf42=f20_1 F v:=by
 rintro⟨a0N,a0T,a0B,a0x,a0f,a0c,a1n,a1b,a1p,a1w,a1o,a1l⟩;kernel_rfl
def f20(F:Nat):Ty38→Rz:=f20_1 F
theorem f20_body(F:Nat)(a0N:Li)(a0T:List Li)(a0B:Li)(a0x a0f:Int)(a0c:Bool)(a1n:Nat)(a1b:Li)(a1p a1w:Lp)(a1o:Bool)(a1l:Int):abody V20 (Af20 F) Tryd.f20 [(.ptr 0 0 7 0 0 0 7)] [(jB 1 5 2 3 4 a0x a0f a0c),(dB 5 a1n 6 7 a1o a1l),(iB a0N),(iB a0B),(sB a0T),(bB a1b),(pB a1p),(wB a1w)]=f20 F (a0N,a0T,a0B,a0x,a0f,a0c,a1n,a1b,a1p,a1w,a1o,a1l):=
 (abody_in (by kernel_rfl) (by kernel_rfl)).trans (f20_1_eq F (a0N,a0T,a0B,a0x,a0f,a0c,a1n,a1b,a1p,a1w,a1o,a1l))
def r20:CRun:=fun X H=>match X,H with
 | [(.ptr 0 0 7 0 0 0 7)],[(.cells 7 (.segs (.cons 1 (.one (.ptr 1 0 5 0 0 0 5)) (.cons 1 (.one (.own 2 0 1)) (.cons 1 (.one (.own 3 0 1)) (.cons 1 (.one (.own 4 0 1)) (.cons 1 (.one (.int .i64 a0x)) (.cons 1 (.one (.int .i64 a0f)) (.cons 1 (.one (.bool a0c)) .nil)))))))) true),(.cells 5 (.segs (.cons 1 (.one (.own 5 a1n 64)) (.cons 1 (.one (.mp 6)) (.cons 1 (.one (.mp 7)) (.cons 1 (.one (.bool a1o)) (.cons 1 (.one (.int .i64 a1l)) .nil)))))) true),(.cells z2 (.rI .i64 a0N) true),(.cells z3 (.rI .i64 a0B) true),(.cells z4 (.rS a0T) true),(.cells z5 (.rI .u8 a1b) true),(.cells 0 (.rM .i64 0 (.arr .u8 64) a1p) true),(.cells 0 (.rM .i64 0 .bool a1w) true)]=>some ((decide ((Jr.J.mk a0N a0T a0B a0x a0f a0c).texts.length < 1073741000)),.own 8 0 1,[(jE 1 5 2 3 4 (Jr.J.mk a0N a0T a0B a0x a0f a0c)),(dE 5 (Dk.D.mk a1n a1b a1p a1w a1o a1l) 6 7),(.cells (Jr.J.mk a0N a0T a0B a0x a0f a0c).nums.length (.rI .i64 (Jr.J.mk a0N a0T a0B a0x a0f a0c).nums) true),(.cells (Jr.J.mk a0N a0T a0B a0x a0f a0c).bad.length (.rI .i64 (Jr.J.mk a0N a0T a0B a0x a0f a0c).bad) true),(.cells (Jr.J.mk a0N a0T a0B a0x a0f a0c).texts.length (.rS (Jr.J.mk a0N a0T a0B a0x a0f a0c).texts) true),(.cells (Dk.D.mk a1n a1b a1p a1w a1o a1l).blk.length (.rI .u8 (Dk.D.mk a1n a1b a1p a1w a1o a1l).blk) true),(pB (Dk.D.mk a1n a1b a1p a1w a1o a1l).pend),(wB (Dk.D.mk a1n a1b a1p a1w a1o a1l).worn),(.cells (Jr.J.mk a0N a0T a0B a0x a0f a0c).texts.length (.rS (Jr.J.mk a0N a0T a0B a0x a0f a0c).texts) true)])
 | _,_=>none
theorem s20(a0N:Li)(a0T:List Li)(a0B:Li)(a0x a0f:Int)(a0c:Bool)(a1n:Nat)(a1b:Li)(a1p a1w:Lp)(a1o:Bool)(a1l:Int)(hp:((decide ((Jr.J.mk a0N a0T a0B a0x a0f a0c).texts.length < 1073741000)))=true)(k0:okB (jB 1 5 2 3 4 a0x a0f a0c))(k1:okB (dB 5 a1n 6 7 a1o a1l))(k2:okB (iB a0N))(k3:okB (iB a0B))(k4:okB (sB a0T))(k5:okB (bB a1b))(k6:okB (pB a1p))(k7:okB (wB a1w)):∃ F,f20 F (a0N,a0T,a0B,a0x,a0f,a0c,a1n,a1b,a1p,a1w,a1o,a1l)=some ((.own 8 0 1),[(jE 1 5 2 3 4 (Jr.J.mk a0N a0T a0B a0x a0f a0c)),(dE 5 (Dk.D.mk a1n a1b a1p a1w a1o a1l) 6 7),(.cells (Jr.J.mk a0N a0T a0B a0x a0f a0c).nums.length (.rI .i64 (Jr.J.mk a0N a0T a0B a0x a0f a0c).nums) true),(.cells (Jr.J.mk a0N a0T a0B a0x a0f a0c).bad.length (.rI .i64 (Jr.J.mk a0N a0T a0B a0x a0f a0c).bad) true),(.cells (Jr.J.mk a0N a0T a0B a0x a0f a0c).texts.length (.rS (Jr.J.mk a0N a0T a0B a0x a0f a0c).texts) true),(.cells (Dk.D.mk a1n a1b a1p a1w a1o a1l).blk.length (.rI .u8 (Dk.D.mk a1n a1b a1p a1w a1o a1l).blk) true),(pB (Dk.D.mk a1n a1b a1p a1w a1o a1l).pend),(wB (Dk.D.mk a1n a1b a1p a1w a1o a1l).worn),(.cells (Jr.J.mk a0N a0T a0B a0x a0f a0c).texts.length (.rS (Jr.J.mk a0N a0T a0B a0x a0f a0c).texts) true)]):=by
 refine⟨0,?_⟩
 simp only [f20,f20_1]
 rw [cond_pos (of_decide_eq_true hp)]
theorem c20:CallOk Tryd.prog G36 20 r20:=callOk_of mixed tys eV20 Tryd.func20 (by kernel_rfl) (c:=sub (bodyOf Tryd.f20) []) (by kernel_rfl) (by
 intro X H r H' h hX hH
 unfold r20 at h;split at h <;> try contradiction
 ·obtain⟨hp,rfl,rfl⟩:=inj3 h
  obtain rfl:=okB_size (hH _ hm2) rfl
  obtain rfl:=okB_size (hH _ hm3) rfl
  obtain rfl:=okB_size (hH _ hm4) rfl
  obtain rfl:=okB_size (hH _ hm5) rfl
  obtain⟨F,hF⟩:=s20 _ _ _ _ _ _ _ _ _ _ _ _ hp (hH _ hm0) (hH _ hm1) (hH _ hm2) (hH _ hm3) (hH _ hm4) (hH _ hm5) (hH _ hm6) (hH _ hm7)
  exact⟨Af20 F,(f20_body F _ _ _ _ _ _ _ _ _ _ _ _).trans hF⟩)
def lV26:List CEnt:=[(37,[some 3],r37)]
def V26:Env:=mkEnv T36 G36 lV26
noncomputable abbrev Kf43:=kFin V26 (some [(2,.own 3)]) (Tryd.f26).results.toList
theorem eV26:EOk Tryd.prog V26:=eok_mk (by exact⟨c37,trivial⟩)
def Af26(F:Nat):Cuts:={ F:=F,at_:=fun _=>none,join:=fun _=>none,fin:=(some [(2,.own 3)]) }
def ef26_a:Ty38→St:=ef19_a
def f26_1(F:Nat):Ty38→Rz:=fun (a0N,a0T,a0B,a0x,a0f,a0c,a1n,a1b,a1p,a1w,a1o,a1l)=>(cond (decide (a0B.length < 1073741000)) (some ((.own 8 0 1),[(jB 1 5 2 3 4 a0x a0f a0c),(dB 5 a1n 6 7 a1o a1l),(iB a0N),(iB a0B),(sB a0T),(bB a1b),(pB a1p),(wB a1w),(iB a0B)])) none)
theorem f26_1_eq(F:Nat):∀ v,aexec V26 (Af26 F) (sub (bodyOf Tryd.f26) []) (ef26_a v) Kf43=f26_1 F v:=by
 rintro⟨a0N,a0T,a0B,a0x,a0f,a0c,a1n,a1b,a1p,a1w,a1o,a1l⟩;kernel_rfl
def f26(F:Nat):Ty38→Rz:=f26_1 F
theorem f26_body(F:Nat)(a0N:Li)(a0T:List Li)(a0B:Li)(a0x a0f:Int)(a0c:Bool)(a1n:Nat)(a1b:Li)(a1p a1w:Lp)(a1o:Bool)(a1l:Int):abody V26 (Af26 F) Tryd.f26 [(.ptr 0 0 7 0 0 0 7)] [(jB 1 5 2 3 4 a0x a0f a0c),(dB 5 a1n 6 7 a1o a1l),(iB a0N),(iB a0B),(sB a0T),(bB a1b),(pB a1p),(wB a1w)]=f26 F (a0N,a0T,a0B,a0x,a0f,a0c,a1n,a1b,a1p,a1w,a1o,a1l):=
 (abody_in (by kernel_rfl) (by kernel_rfl)).trans (f26_1_eq F (a0N,a0T,a0B,a0x,a0f,a0c,a1n,a1b,a1p,a1w,a1o,a1l))
def r26:CRun:=fun X H=>match X,H with
 | [(.ptr 0 0 7 0 0 0 7)],[(.cells 7 (.segs (.cons 1 (.one (.ptr 1 0 5 0 0 0 5)) (.cons 1 (.one (.own 2 0 1)) (.cons 1 (.one (.own 3 0 1)) (.cons 1 (.one (.own 4 0 1)) (.cons 1 (.one (.int .i64 a0x)) (.cons 1 (.one (.int .i64 a0f)) (.cons 1 (.one (.bool a0c)) .nil)))))))) true),(.cells 5 (.segs (.cons 1 (.one (.own 5 a1n 64)) (.cons 1 (.one (.mp 6)) (.cons 1 (.one (.mp 7)) (.cons 1 (.one (.bool a1o)) (.cons 1 (.one (.int .i64 a1l)) .nil)))))) true),(.cells z2 (.rI .i64 a0N) true),(.cells z3 (.rI .i64 a0B) true),(.cells z4 (.rS a0T) true),(.cells z5 (.rI .u8 a1b) true),(.cells 0 (.rM .i64 0 (.arr .u8 64) a1p) true),(.cells 0 (.rM .i64 0 .bool a1w) true)]=>some ((decide ((Jr.J.mk a0N a0T a0B a0x a0f a0c).bad.length < 1073741000)),.own 8 0 1,[(jE 1 5 2 3 4 (Jr.J.mk a0N a0T a0B a0x a0f a0c)),(dE 5 (Dk.D.mk a1n a1b a1p a1w a1o a1l) 6 7),(.cells (Jr.J.mk a0N a0T a0B a0x a0f a0c).nums.length (.rI .i64 (Jr.J.mk a0N a0T a0B a0x a0f a0c).nums) true),(.cells (Jr.J.mk a0N a0T a0B a0x a0f a0c).bad.length (.rI .i64 (Jr.J.mk a0N a0T a0B a0x a0f a0c).bad) true),(.cells (Jr.J.mk a0N a0T a0B a0x a0f a0c).texts.length (.rS (Jr.J.mk a0N a0T a0B a0x a0f a0c).texts) true),(.cells (Dk.D.mk a1n a1b a1p a1w a1o a1l).blk.length (.rI .u8 (Dk.D.mk a1n a1b a1p a1w a1o a1l).blk) true),(pB (Dk.D.mk a1n a1b a1p a1w a1o a1l).pend),(wB (Dk.D.mk a1n a1b a1p a1w a1o a1l).worn),(.cells (Jr.J.mk a0N a0T a0B a0x a0f a0c).bad.length (.rI .i64 (Jr.J.mk a0N a0T a0B a0x a0f a0c).bad) true)])
 | _,_=>none
theorem s26(a0N:Li)(a0T:List Li)(a0B:Li)(a0x a0f:Int)(a0c:Bool)(a1n:Nat)(a1b:Li)(a1p a1w:Lp)(a1o:Bool)(a1l:Int)(hp:((decide ((Jr.J.mk a0N a0T a0B a0x a0f a0c).bad.length < 1073741000)))=true)(k0:okB (jB 1 5 2 3 4 a0x a0f a0c))(k1:okB (dB 5 a1n 6 7 a1o a1l))(k2:okB (iB a0N))(k3:okB (iB a0B))(k4:okB (sB a0T))(k5:okB (bB a1b))(k6:okB (pB a1p))(k7:okB (wB a1w)):∃ F,f26 F (a0N,a0T,a0B,a0x,a0f,a0c,a1n,a1b,a1p,a1w,a1o,a1l)=some ((.own 8 0 1),[(jE 1 5 2 3 4 (Jr.J.mk a0N a0T a0B a0x a0f a0c)),(dE 5 (Dk.D.mk a1n a1b a1p a1w a1o a1l) 6 7),(.cells (Jr.J.mk a0N a0T a0B a0x a0f a0c).nums.length (.rI .i64 (Jr.J.mk a0N a0T a0B a0x a0f a0c).nums) true),(.cells (Jr.J.mk a0N a0T a0B a0x a0f a0c).bad.length (.rI .i64 (Jr.J.mk a0N a0T a0B a0x a0f a0c).bad) true),(.cells (Jr.J.mk a0N a0T a0B a0x a0f a0c).texts.length (.rS (Jr.J.mk a0N a0T a0B a0x a0f a0c).texts) true),(.cells (Dk.D.mk a1n a1b a1p a1w a1o a1l).blk.length (.rI .u8 (Dk.D.mk a1n a1b a1p a1w a1o a1l).blk) true),(pB (Dk.D.mk a1n a1b a1p a1w a1o a1l).pend),(wB (Dk.D.mk a1n a1b a1p a1w a1o a1l).worn),(.cells (Jr.J.mk a0N a0T a0B a0x a0f a0c).bad.length (.rI .i64 (Jr.J.mk a0N a0T a0B a0x a0f a0c).bad) true)]):=by
 refine⟨0,?_⟩
 simp only [f26,f26_1]
 rw [cond_pos (of_decide_eq_true hp)]
theorem c26:CallOk Tryd.prog G36 26 r26:=callOk_of mixed tys eV26 Tryd.func26 (by kernel_rfl) (c:=sub (bodyOf Tryd.f26) []) (by kernel_rfl) (by
 intro X H r H' h hX hH
 unfold r26 at h;split at h <;> try contradiction
 ·obtain⟨hp,rfl,rfl⟩:=inj3 h
  obtain rfl:=okB_size (hH _ hm2) rfl
  obtain rfl:=okB_size (hH _ hm3) rfl
  obtain rfl:=okB_size (hH _ hm4) rfl
  obtain rfl:=okB_size (hH _ hm5) rfl
  obtain⟨F,hF⟩:=s26 _ _ _ _ _ _ _ _ _ _ _ _ hp (hH _ hm0) (hH _ hm1) (hH _ hm2) (hH _ hm3) (hH _ hm4) (hH _ hm5) (hH _ hm6) (hH _ hm7)
  exact⟨Af26 F,(f26_body F _ _ _ _ _ _ _ _ _ _ _ _).trans hF⟩)
def lV21:List CEnt:=[]
def V21:Env:=mkEnv T36 G36 lV21
noncomputable abbrev Kf44:=kFin V21 none (Tryd.f21).results.toList
theorem eV21:EOk Tryd.prog V21:=eok_mk (by exact trivial)
def Af21(F:Nat):Cuts:={ F:=F,at_:=fun _=>none,join:=fun _=>none }
def ef21_a:Ty38→St:=fun (a0N,a0T,a0B,a0x,a0f,a0c,a1n,a1b,a1p,a1w,a1o,a1l)=>⟨[(0,.ptr 0 0 7 0 0 0 7)],[(0,(jB 1 5 2 3 4 a0x a0f a0c)),(1,(dB 5 a1n 6 7 a1o a1l)),(2,(iB a0N)),(3,(iB a0B)),(4,(sB a0T)),(5,(bB a1b)),(6,(pB a1p)),(7,(wB a1w))],8,7,8⟩
def f21_1(F:Nat):Ty38→Rz:=fun (a0N,a0T,a0B,a0x,a0f,a0c,a1n,a1b,a1p,a1w,a1o,a1l)=>(some ((.int .i64 a0x),[(jB 1 5 2 3 4 a0x a0f a0c),(dB 5 a1n 6 7 a1o a1l),(iB a0N),(iB a0B),(sB a0T),(bB a1b),(pB a1p),(wB a1w)]))
theorem f21_1_eq(F:Nat):∀ v,aexec V21 (Af21 F) (sub (bodyOf Tryd.f21) []) (ef21_a v) Kf44=f21_1 F v:=by
 rintro⟨a0N,a0T,a0B,a0x,a0f,a0c,a1n,a1b,a1p,a1w,a1o,a1l⟩;kernel_rfl
def f21(F:Nat):Ty38→Rz:=f21_1 F
theorem f21_body(F:Nat)(a0N:Li)(a0T:List Li)(a0B:Li)(a0x a0f:Int)(a0c:Bool)(a1n:Nat)(a1b:Li)(a1p a1w:Lp)(a1o:Bool)(a1l:Int):abody V21 (Af21 F) Tryd.f21 [(.ptr 0 0 7 0 0 0 7)] [(jB 1 5 2 3 4 a0x a0f a0c),(dB 5 a1n 6 7 a1o a1l),(iB a0N),(iB a0B),(sB a0T),(bB a1b),(pB a1p),(wB a1w)]=f21 F (a0N,a0T,a0B,a0x,a0f,a0c,a1n,a1b,a1p,a1w,a1o,a1l):=
 (abody_in (by kernel_rfl) (by kernel_rfl)).trans (f21_1_eq F (a0N,a0T,a0B,a0x,a0f,a0c,a1n,a1b,a1p,a1w,a1o,a1l))
def r21:CRun:=fun X H=>match X,H with
 | [(.ptr 0 0 7 0 0 0 7)],[(.cells 7 (.segs (.cons 1 (.one (.ptr 1 0 5 0 0 0 5)) (.cons 1 (.one (.own 2 0 1)) (.cons 1 (.one (.own 3 0 1)) (.cons 1 (.one (.own 4 0 1)) (.cons 1 (.one (.int .i64 a0x)) (.cons 1 (.one (.int .i64 a0f)) (.cons 1 (.one (.bool a0c)) .nil)))))))) true),(.cells 5 (.segs (.cons 1 (.one (.own 5 a1n 64)) (.cons 1 (.one (.mp 6)) (.cons 1 (.one (.mp 7)) (.cons 1 (.one (.bool a1o)) (.cons 1 (.one (.int .i64 a1l)) .nil)))))) true),(.cells z2 (.rI .i64 a0N) true),(.cells z3 (.rI .i64 a0B) true),(.cells z4 (.rS a0T) true),(.cells z5 (.rI .u8 a1b) true),(.cells 0 (.rM .i64 0 (.arr .u8 64) a1p) true),(.cells 0 (.rM .i64 0 .bool a1w) true)]=>some (true,(.int .i64 (Jr.J.mk a0N a0T a0B a0x a0f a0c).next),[(jE 1 5 2 3 4 (Jr.J.mk a0N a0T a0B a0x a0f a0c)),(dE 5 (Dk.D.mk a1n a1b a1p a1w a1o a1l) 6 7),(.cells (Jr.J.mk a0N a0T a0B a0x a0f a0c).nums.length (.rI .i64 (Jr.J.mk a0N a0T a0B a0x a0f a0c).nums) true),(.cells (Jr.J.mk a0N a0T a0B a0x a0f a0c).bad.length (.rI .i64 (Jr.J.mk a0N a0T a0B a0x a0f a0c).bad) true),(.cells (Jr.J.mk a0N a0T a0B a0x a0f a0c).texts.length (.rS (Jr.J.mk a0N a0T a0B a0x a0f a0c).texts) true),(.cells (Dk.D.mk a1n a1b a1p a1w a1o a1l).blk.length (.rI .u8 (Dk.D.mk a1n a1b a1p a1w a1o a1l).blk) true),(pB (Dk.D.mk a1n a1b a1p a1w a1o a1l).pend),(wB (Dk.D.mk a1n a1b a1p a1w a1o a1l).worn)])
 | _,_=>none
theorem s21(a0N:Li)(a0T:List Li)(a0B:Li)(a0x a0f:Int)(a0c:Bool)(a1n:Nat)(a1b:Li)(a1p a1w:Lp)(a1o:Bool)(a1l:Int)(k0:okB (jB 1 5 2 3 4 a0x a0f a0c))(k1:okB (dB 5 a1n 6 7 a1o a1l))(k2:okB (iB a0N))(k3:okB (iB a0B))(k4:okB (sB a0T))(k5:okB (bB a1b))(k6:okB (pB a1p))(k7:okB (wB a1w)):∃ F,f21 F (a0N,a0T,a0B,a0x,a0f,a0c,a1n,a1b,a1p,a1w,a1o,a1l)=some ((.int .i64 (Jr.J.mk a0N a0T a0B a0x a0f a0c).next),[(jE 1 5 2 3 4 (Jr.J.mk a0N a0T a0B a0x a0f a0c)),(dE 5 (Dk.D.mk a1n a1b a1p a1w a1o a1l) 6 7),(.cells (Jr.J.mk a0N a0T a0B a0x a0f a0c).nums.length (.rI .i64 (Jr.J.mk a0N a0T a0B a0x a0f a0c).nums) true),(.cells (Jr.J.mk a0N a0T a0B a0x a0f a0c).bad.length (.rI .i64 (Jr.J.mk a0N a0T a0B a0x a0f a0c).bad) true),(.cells (Jr.J.mk a0N a0T a0B a0x a0f a0c).texts.length (.rS (Jr.J.mk a0N a0T a0B a0x a0f a0c).texts) true),(.cells (Dk.D.mk a1n a1b a1p a1w a1o a1l).blk.length (.rI .u8 (Dk.D.mk a1n a1b a1p a1w a1o a1l).blk) true),(pB (Dk.D.mk a1n a1b a1p a1w a1o a1l).pend),(wB (Dk.D.mk a1n a1b a1p a1w a1o a1l).worn)]):=⟨0,rfl⟩
theorem c21:CallOk Tryd.prog G36 21 r21:=callOk_of mixed tys eV21 Tryd.func21 (by kernel_rfl) (c:=sub (bodyOf Tryd.f21) []) (by kernel_rfl) (by
 intro X H r H' h hX hH
 unfold r21 at h;split at h <;> try contradiction
 ·obtain⟨hp,rfl,rfl⟩:=inj3 h
  obtain rfl:=okB_size (hH _ hm2) rfl
  obtain rfl:=okB_size (hH _ hm3) rfl
  obtain rfl:=okB_size (hH _ hm4) rfl
  obtain rfl:=okB_size (hH _ hm5) rfl
  obtain⟨F,hF⟩:=s21 _ _ _ _ _ _ _ _ _ _ _ _ (hH _ hm0) (hH _ hm1) (hH _ hm2) (hH _ hm3) (hH _ hm4) (hH _ hm5) (hH _ hm6) (hH _ hm7)
  exact⟨Af21 F,(f21_body F _ _ _ _ _ _ _ _ _ _ _ _).trans hF⟩)
def lV22:List CEnt:=[(32,[none],r32)]
def V22:Env:=mkEnv T36 G36 lV22
noncomputable abbrev Kf45:=kFin V22 none (Tryd.f22).results.toList
theorem eV22:EOk Tryd.prog V22:=eok_mk (by exact⟨c32,trivial⟩)
def Af22(F:Nat):Cuts:={ F:=F,at_:=fun _=>none,join:=fun _=>none }
def ef22_a:Ty38→St:=fun (a0N,a0T,a0B,a0x,a0f,a0c,a1n,a1b,a1p,a1w,a1o,a1l)=>⟨[(0,.ptr 0 0 7 0 0 0 7)],[(0,(jB 1 5 2 3 4 a0x a0f a0c)),(1,(dB 5 a1n 6 7 a1o a1l)),(2,(iB a0N)),(3,(iB a0B)),(4,(sB a0T)),(5,(bB a1b)),(6,(pB a1p)),(7,(wB a1w))],8,13,8⟩
def f22_1(F:Nat):Ty38→Rz:=fun (a0N,a0T,a0B,a0x,a0f,a0c,a1n,a1b,a1p,a1w,a1o,a1l)=>(some ((.int .i64 (IntKind.i64.wrap (((Dk.D.mk a1n a1b a1p a1w a1o a1l).n:Int)-a0f))),[(jB 1 5 2 3 4 a0x a0f a0c),(dE 5 (Dk.D.mk a1n a1b a1p a1w a1o a1l) 6 7),(iB a0N),(iB a0B),(sB a0T),(.cells (Dk.D.mk a1n a1b a1p a1w a1o a1l).blk.length (.rI .u8 (Dk.D.mk a1n a1b a1p a1w a1o a1l).blk) true),(pB (Dk.D.mk a1n a1b a1p a1w a1o a1l).pend),(wB (Dk.D.mk a1n a1b a1p a1w a1o a1l).worn)]))
theorem f22_1_eq(F:Nat):∀ v,aexec V22 (Af22 F) (sub (bodyOf Tryd.f22) []) (ef22_a v) Kf45=f22_1 F v:=by
 rintro⟨a0N,a0T,a0B,a0x,a0f,a0c,a1n,a1b,a1p,a1w,a1o,a1l⟩;kernel_rfl
def f22(F:Nat):Ty38→Rz:=f22_1 F
theorem f22_body(F:Nat)(a0N:Li)(a0T:List Li)(a0B:Li)(a0x a0f:Int)(a0c:Bool)(a1n:Nat)(a1b:Li)(a1p a1w:Lp)(a1o:Bool)(a1l:Int):abody V22 (Af22 F) Tryd.f22 [(.ptr 0 0 7 0 0 0 7)] [(jB 1 5 2 3 4 a0x a0f a0c),(dB 5 a1n 6 7 a1o a1l),(iB a0N),(iB a0B),(sB a0T),(bB a1b),(pB a1p),(wB a1w)]=f22 F (a0N,a0T,a0B,a0x,a0f,a0c,a1n,a1b,a1p,a1w,a1o,a1l):=
 (abody_in (by kernel_rfl) (by kernel_rfl)).trans (f22_1_eq F (a0N,a0T,a0B,a0x,a0f,a0c,a1n,a1b,a1p,a1w,a1o,a1l))
def r22:CRun:=fun X H=>match X,H with
 | [(.ptr 0 0 7 0 0 0 7)],[(.cells 7 (.segs (.cons 1 (.one (.ptr 1 0 5 0 0 0 5)) (.cons 1 (.one (.own 2 0 1)) (.cons 1 (.one (.own 3 0 1)) (.cons 1 (.one (.own 4 0 1)) (.cons 1 (.one (.int .i64 a0x)) (.cons 1 (.one (.int .i64 a0f)) (.cons 1 (.one (.bool a0c)) .nil)))))))) true),(.cells 5 (.segs (.cons 1 (.one (.own 5 a1n 64)) (.cons 1 (.one (.mp 6)) (.cons 1 (.one (.mp 7)) (.cons 1 (.one (.bool a1o)) (.cons 1 (.one (.int .i64 a1l)) .nil)))))) true),(.cells z2 (.rI .i64 a0N) true),(.cells z3 (.rI .i64 a0B) true),(.cells z4 (.rS a0T) true),(.cells z5 (.rI .u8 a1b) true),(.cells 0 (.rM .i64 0 (.arr .u8 64) a1p) true),(.cells 0 (.rM .i64 0 .bool a1w) true)]=>some (true,(.int .i64 (IntKind.i64.wrap (((Dk.D.mk a1n a1b a1p a1w a1o a1l).n:Int)-(Jr.J.mk a0N a0T a0B a0x a0f a0c).fin))),[(jE 1 5 2 3 4 (Jr.J.mk a0N a0T a0B a0x a0f a0c)),(dE 5 (Dk.D.mk a1n a1b a1p a1w a1o a1l) 6 7),(.cells (Jr.J.mk a0N a0T a0B a0x a0f a0c).nums.length (.rI .i64 (Jr.J.mk a0N a0T a0B a0x a0f a0c).nums) true),(.cells (Jr.J.mk a0N a0T a0B a0x a0f a0c).bad.length (.rI .i64 (Jr.J.mk a0N a0T a0B a0x a0f a0c).bad) true),(.cells (Jr.J.mk a0N a0T a0B a0x a0f a0c).texts.length (.rS (Jr.J.mk a0N a0T a0B a0x a0f a0c).texts) true),(.cells (Dk.D.mk a1n a1b a1p a1w a1o a1l).blk.length (.rI .u8 (Dk.D.mk a1n a1b a1p a1w a1o a1l).blk) true),(pB (Dk.D.mk a1n a1b a1p a1w a1o a1l).pend),(wB (Dk.D.mk a1n a1b a1p a1w a1o a1l).worn)])
 | _,_=>none
theorem s22(a0N:Li)(a0T:List Li)(a0B:Li)(a0x a0f:Int)(a0c:Bool)(a1n:Nat)(a1b:Li)(a1p a1w:Lp)(a1o:Bool)(a1l:Int)(k0:okB (jB 1 5 2 3 4 a0x a0f a0c))(k1:okB (dB 5 a1n 6 7 a1o a1l))(k2:okB (iB a0N))(k3:okB (iB a0B))(k4:okB (sB a0T))(k5:okB (bB a1b))(k6:okB (pB a1p))(k7:okB (wB a1w)):∃ F,f22 F (a0N,a0T,a0B,a0x,a0f,a0c,a1n,a1b,a1p,a1w,a1o,a1l)=some ((.int .i64 (IntKind.i64.wrap (((Dk.D.mk a1n a1b a1p a1w a1o a1l).n:Int)-(Jr.J.mk a0N a0T a0B a0x a0f a0c).fin))),[(jE 1 5 2 3 4 (Jr.J.mk a0N a0T a0B a0x a0f a0c)),(dE 5 (Dk.D.mk a1n a1b a1p a1w a1o a1l) 6 7),(.cells (Jr.J.mk a0N a0T a0B a0x a0f a0c).nums.length (.rI .i64 (Jr.J.mk a0N a0T a0B a0x a0f a0c).nums) true),(.cells (Jr.J.mk a0N a0T a0B a0x a0f a0c).bad.length (.rI .i64 (Jr.J.mk a0N a0T a0B a0x a0f a0c).bad) true),(.cells (Jr.J.mk a0N a0T a0B a0x a0f a0c).texts.length (.rS (Jr.J.mk a0N a0T a0B a0x a0f a0c).texts) true),(.cells (Dk.D.mk a1n a1b a1p a1w a1o a1l).blk.length (.rI .u8 (Dk.D.mk a1n a1b a1p a1w a1o a1l).blk) true),(pB (Dk.D.mk a1n a1b a1p a1w a1o a1l).pend),(wB (Dk.D.mk a1n a1b a1p a1w a1o a1l).worn)]):=⟨0,rfl⟩
theorem c22:CallOk Tryd.prog G36 22 r22:=callOk_of mixed tys eV22 Tryd.func22 (by kernel_rfl) (c:=sub (bodyOf Tryd.f22) []) (by kernel_rfl) (by
 intro X H r H' h hX hH
 unfold r22 at h;split at h <;> try contradiction
 ·obtain⟨hp,rfl,rfl⟩:=inj3 h
  obtain rfl:=okB_size (hH _ hm2) rfl
  obtain rfl:=okB_size (hH _ hm3) rfl
  obtain rfl:=okB_size (hH _ hm4) rfl
  obtain rfl:=okB_size (hH _ hm5) rfl
  obtain⟨F,hF⟩:=s22 _ _ _ _ _ _ _ _ _ _ _ _ (hH _ hm0) (hH _ hm1) (hH _ hm2) (hH _ hm3) (hH _ hm4) (hH _ hm5) (hH _ hm6) (hH _ hm7)
  exact⟨Af22 F,(f22_body F _ _ _ _ _ _ _ _ _ _ _ _).trans hF⟩)
def lV25:List CEnt:=[]
def V25:Env:=mkEnv T36 G36 lV25
noncomputable abbrev Kf46:=kFin V25 (some [(2,.view 3)]) (Tryd.f25).results.toList
theorem eV25:EOk Tryd.prog V25:=eok_mk (by exact trivial)
def Af25(F:Nat):Cuts:={ F:=F,at_:=fun n=>match n with | 3012=>some sp46 | 9014=>some sp47 | _=>none,join:=fun n=>match n with | 1043=>some [(0,.plain)] | 2041=>some sp24 | 3014=>some sp46 | 7024=>some sp24 | 8022=>some sp48 | 9016=>some sp47 | 13003=>some [(6,.own 3)] | _=>none,fin:=(some [(2,.view 3)]) }
noncomputable abbrev XAf25(F:Nat){α:Type}:=@aexec α V25 (Af25 F)
def ef25_a:Ty38→St:=fun (a0N,a0T,a0B,a0x,a0f,a0c,a1n,a1b,a1p,a1w,a1o,a1l)=>⟨[(0,.ptr 0 0 7 0 0 0 7)],[(0,(jB 1 5 2 3 4 a0x a0f a0c)),(1,(dB 5 a1n 6 7 a1o a1l)),(2,(iB a0N)),(3,(iB a0B)),(4,(sB a0T)),(5,(bB a1b)),(6,(pB a1p)),(7,(wB a1w))],8,38,8⟩
def ef25j1:(Dk.D)×(Jr.J)→St:=fun (e1,e2)=>⟨[(0,.ptr 0 0 7 0 0 0 7)],[(0,(jE 1 5 2 3 4 e2)),(1,(dE 5 e1 6 7)),(2,(iB e2.nums)),(3,(iB e2.bad)),(4,(sB e2.texts)),(5,(bB e1.blk)),(6,(pB e1.pend)),(7,(wB e1.worn))],8,38,8⟩
def ef25j2:Ty39→St:=fun (x13,e1,e2)=>⟨[(0,.ptr 0 0 7 0 0 0 7),(3,.mp 8)],[(0,(jE 1 5 2 3 4 e2)),(1,(dE 5 e1 6 7)),(2,(iB e2.nums)),(3,(iB e2.bad)),(4,(sB e2.texts)),(5,(bB e1.blk)),(6,(pB e1.pend)),(7,(wB e1.worn)),(8,(wB x13))],9,38,8⟩
def ef25j3:Ty40→St:=fun (t13,t14,x15,e1,e2)=>⟨[(0,.ptr 0 0 7 0 0 0 7),(3,.mp 8),(12,.own 2 0 1),(13,.int .i64 t13),(14,.int .i64 t14)],[(0,(jE 1 5 2 3 4 e2)),(1,(dE 5 e1 6 7)),(2,(iB e2.nums)),(3,(iB e2.bad)),(4,(sB e2.texts)),(5,(bB e1.blk)),(6,(pB e1.pend)),(7,(wB e1.worn)),(8,(wB x15))],9,38,8⟩
def ef25l1:Ty40→St:=ef25j3
def ef25j4:Ty39→St:=ef25j2
def ef25j5:Ty41→St:=fun (x13,x14,e1,e2)=>⟨[(0,.ptr 0 0 7 0 0 0 7),(3,.mp 8),(6,.own 9 0 1)],[(0,(jE 1 5 2 3 4 e2)),(1,(dE 5 e1 6 7)),(2,(iB e2.nums)),(3,(iB e2.bad)),(4,(sB e2.texts)),(5,(bB e1.blk)),(6,(pB e1.pend)),(7,(wB e1.worn)),(8,(wB x13)),(9,(iB x14))],10,38,8⟩
def ef25j6:Ty42→St:=fun (t7,x14,x15,e1,e2)=>⟨[(0,.ptr 0 0 7 0 0 0 7),(3,.mp 8),(6,.own 9 0 1),(7,.int .i64 t7)],[(0,(jE 1 5 2 3 4 e2)),(1,(dE 5 e1 6 7)),(2,(iB e2.nums)),(3,(iB e2.bad)),(4,(sB e2.texts)),(5,(bB e1.blk)),(6,(pB e1.pend)),(7,(wB e1.worn)),(8,(wB x14)),(9,(iB x15))],10,38,8⟩
def ef25l2:Ty42→St:=ef25j6
def ef25j7:Ty43→St:=fun (x13,e1,e2)=>⟨[(6,.own 8 0 1)],[(0,(jE 1 5 2 3 4 e2)),(1,(dE 5 e1 6 7)),(2,(iB e2.nums)),(3,(iB e2.bad)),(4,(sB e2.texts)),(5,(bB e1.blk)),(6,(pB e1.pend)),(7,(wB e1.worn)),(8,(iB x13))],9,38,8⟩
def f25_1(F:Nat)(kj1:(Dk.D)×(Jr.J)→Rz):Ty38→Rz:=fun (a0N,a0T,a0B,a0x,a0f,a0c,a1n,a1b,a1p,a1w,a1o,a1l)=>(kj1 ((Dk.D.mk a1n a1b a1p a1w a1o a1l),(Jr.J.mk a0N a0T a0B a0x a0f a0c)))
theorem f25_1_eq(F:Nat)(Rj1:St→Rz):∀ v,XAf25 F (bp Tryd.f25 2) (ef25_a v) (kSeq (kc V25 Rj1 [(0,.plain)]) Kf46)=f25_1 F (Rj1∘ef25j1) v:=by
 rintro⟨a0N,a0T,a0B,a0x,a0f,a0c,a1n,a1b,a1p,a1w,a1o,a1l⟩;kernel_rfl
def f25_2(F:Nat)(kj2:Ty39→Rz):(Dk.D)×(Jr.J)→Rz:=fun (e1,e2)=>(kj2 ([],e1,e2))
theorem f25_2_eq(F:Nat)(Rj2:St→Rz):∀ v,XAf25 F (bp Tryd.f25 6) (ef25j1 v) (kSeq (kc V25 Rj2 sp24) Kf46)=f25_2 F (Rj2∘ef25j2) v:=by
 rintro⟨e1,e2⟩;kernel_rfl
def f25_3(F:Nat)(kj3:Ty40→Rz)(kj4:Ty39→Rz):Ty39→Rz:=fun (x13,e1,e2)=>(kj3 ((↑e2.nums.length:Int),(0:Int),x13,e1,e2))
theorem f25_3_eq(F:Nat)(Rj3 Rj4:St→Rz):∀ v,XAf25 F (bp Tryd.f25 28) (ef25j2 v) (kSeq (kc V25 Rj3 sp46) (kSeq (kc V25 Rj4 sp24) Kf46))=f25_3 F (Rj3∘ef25j3) (Rj4∘ef25j4) v:=by
 rintro⟨x13,e1,e2⟩;kernel_rfl
def f25_4(F:Nat)(kl1:Ty40→Rz)(kj4:Ty39→Rz):Ty40→Rz:=fun (t13,t14,x15,e1,e2)=>(cond (decide (t14 < t13)) (cond ((decide (0≤t14))&&(decide (t14 < (↑e2.nums.length:Int)))) (kl1 (t13,(IntKind.i64.wrap (t14+(1:Int))),(mput x15 [(e2.nums.getD (Int.toNat t14) 0)] [(cond true 1 0)]),e1,e2)) none) (kj4 (x15,e1,e2)))
theorem f25_4_eq(F:Nat)(Rl1 Rj4:St→Rz):∀ v,XAf25 F (bp Tryd.f25 116) (ef25l1 v) (kSeq (kc V25 Rl1 sp46) (kBlock 0 (kSeq (kc V25 Rj4 sp24) Kf46)))=f25_4 F (Rl1∘ef25l1) (Rj4∘ef25j4) v:=by
 rintro⟨t13,t14,x15,e1,e2⟩;kernel_rfl
def f25_5_i:Ty40→Int×Int×(Lp)×(Dk.D)×(Jr.J):=fun (t13,t14,x15,e1,e2)=>(t13,t14,x15,e1,e2)
def f25_5(F:Nat)(kj4:Ty39→Rz):Ty40→Rz:=fun v=>loopN (fun k=>f25_4 F k kj4) F (f25_5_i v)
theorem f25_5_eq(F:Nat)(Rj4:St→Rz):∀ v,XAf25 F (bp Tryd.f25 58) (ef25j3 v) (kBlock 0 (kSeq (kc V25 Rj4 sp24) Kf46))=f25_5 F (Rj4∘ef25j4) v:=
 loop_cut (by kernel_rfl) (by kernel_rfl) ef25j3 ef25l1 _ f25_5_i (fun k=>f25_4 F k (Rj4∘ef25j4))
  (by rintro⟨t13,t14,x15,e1,e2⟩;kernel_rfl) (fun Rl1=>f25_4_eq F Rl1 Rj4)
def f25_6(F:Nat)(kj4:Ty39→Rz):Ty40→Rz:=f25_5 F kj4
theorem f25_6_eq(F:Nat)(Rj4:St→Rz):∀ v,XAf25 F (bp Tryd.f25 29) (ef25j3 v) (kSeq (kc V25 Rj4 sp24) Kf46)=f25_6 F (Rj4∘ef25j4) v:=fun v=>
 (block_in  (by kernel_rfl) _ _).trans (f25_5_eq F Rj4 v)
def f25_7(F:Nat)(kj4:Ty39→Rz):Ty39→Rz:=fun v=>f25_3 F (f25_6 F kj4) kj4 v
theorem f25_7_eq(F:Nat)(Rj4:St→Rz):∀ v,XAf25 F (bp Tryd.f25 14) (ef25j2 v) (kSeq (kc V25 Rj4 sp24) Kf46)=f25_7 F (Rj4∘ef25j4) v:=
 seq_cut (by kernel_rfl) (by kernel_rfl) ef25j2 ef25j3 _ (fun k=>f25_3 F k (Rj4∘ef25j4)) (f25_6 F (Rj4∘ef25j4))
  (fun Rj3=>f25_3_eq F Rj3 Rj4) (f25_6_eq F Rj4)
def f25_8(F:Nat)(kj5:Ty41→Rz):Ty39→Rz:=fun (x13,e1,e2)=>(kj5 (x13,[],e1,e2))
theorem f25_8_eq(F:Nat)(Rj5:St→Rz):∀ v,XAf25 F (bp Tryd.f25 30) (ef25j4 v) (kSeq (kc V25 Rj5 sp48) Kf46)=f25_8 F (Rj5∘ef25j5) v:=by
 rintro⟨x13,e1,e2⟩;kernel_rfl
def f25_9(F:Nat)(kj6:Ty42→Rz)(kj7:Ty43→Rz):Ty41→Rz:=fun (x13,x14,e1,e2)=>(kj6 ((1:Int),x13,x14,e1,e2))
theorem f25_9_eq(F:Nat)(Rj6 Rj7:St→Rz):∀ v,XAf25 F (bp Tryd.f25 124) (ef25j5 v) (kSeq (kc V25 Rj6 sp47) (kSeq (kc V25 Rj7 [(6,.own 3)]) Kf46))=f25_9 F (Rj6∘ef25j6) (Rj7∘ef25j7) v:=by
 rintro⟨x13,x14,e1,e2⟩;kernel_rfl
def f25_10(F:Nat)(kl2:Ty42→Rz)(kj7:Ty43→Rz):Ty42→Rz:=fun (t7,x14,x15,e1,e2)=>(cond (decide (t7 < e2.next)) (cond (!((mget (mzero .bool) x14 [t7]).getD 0 0==1)) (cond (decide ((x15.length+1) < 1073741824)) (kl2 ((IntKind.i64.wrap (t7+(1:Int))),x14,(x15++[t7]),e1,e2)) none) (kl2 ((IntKind.i64.wrap (t7+(1:Int))),x14,x15,e1,e2))) (kj7 (x15,e1,e2)))
theorem f25_10_eq(F:Nat)(Rl2 Rj7:St→Rz):∀ v,XAf25 F (bp Tryd.f25 500) (ef25l2 v) (kSeq (kc V25 Rl2 sp47) (kBlock 2 (kSeq (kc V25 Rj7 [(6,.own 3)]) Kf46)))=f25_10 F (Rl2∘ef25l2) (Rj7∘ef25j7) v:=by
 rintro⟨t7,x14,x15,e1,e2⟩;kernel_rfl
def f25_11_i:Ty42→Int×(Lp)×Li×(Dk.D)×(Jr.J):=fun (t7,x14,x15,e1,e2)=>(t7,x14,x15,e1,e2)
def f25_11(F:Nat)(kj7:Ty43→Rz):Ty42→Rz:=fun v=>loopN (fun k=>f25_10 F k kj7) F (f25_11_i v)
theorem f25_11_eq(F:Nat)(Rj7:St→Rz):∀ v,XAf25 F (bp Tryd.f25 250) (ef25j6 v) (kBlock 2 (kSeq (kc V25 Rj7 [(6,.own 3)]) Kf46))=f25_11 F (Rj7∘ef25j7) v:=
 loop_cut (by kernel_rfl) (by kernel_rfl) ef25j6 ef25l2 _ f25_11_i (fun k=>f25_10 F k (Rj7∘ef25j7))
  (by rintro⟨t7,x14,x15,e1,e2⟩;kernel_rfl) (fun Rl2=>f25_10_eq F Rl2 Rj7)
def f25_12(F:Nat)(kj7:Ty43→Rz):Ty42→Rz:=f25_11 F kj7
theorem f25_12_eq(F:Nat)(Rj7:St→Rz):∀ v,XAf25 F (bp Tryd.f25 125) (ef25j6 v) (kSeq (kc V25 Rj7 [(6,.own 3)]) Kf46)=f25_12 F (Rj7∘ef25j7) v:=fun v=>
 (block_in  (by kernel_rfl) _ _).trans (f25_11_eq F Rj7 v)
def f25_13(F:Nat)(kj7:Ty43→Rz):Ty41→Rz:=fun v=>f25_9 F (f25_12 F kj7) kj7 v
theorem f25_13_eq(F:Nat)(Rj7:St→Rz):∀ v,XAf25 F (bp Tryd.f25 62) (ef25j5 v) (kSeq (kc V25 Rj7 [(6,.own 3)]) Kf46)=f25_13 F (Rj7∘ef25j7) v:=
 seq_cut (by kernel_rfl) (by kernel_rfl) ef25j5 ef25j6 _ (fun k=>f25_9 F k (Rj7∘ef25j7)) (f25_12 F (Rj7∘ef25j7))
  (fun Rj6=>f25_9_eq F Rj6 Rj7) (f25_12_eq F Rj7)
def f25_14(F:Nat):Ty43→Rz:=fun (x13,e1,e2)=>(some ((.vs (.rI .i64 x13) 0 1),[(jE 1 5 2 3 4 e2),(dE 5 e1 6 7),(iB e2.nums),(iB e2.bad),(sB e2.texts),(bB e1.blk),(pB e1.pend),(wB e1.worn)]))
theorem f25_14_eq(F:Nat):∀ v,XAf25 F (bp Tryd.f25 63) (ef25j7 v) Kf46=f25_14 F v:=by
 rintro⟨x13,e1,e2⟩;kernel_rfl
def f25_15(F:Nat):Ty41→Rz:=fun v=>f25_13 F (f25_14 F) v
theorem f25_15_eq(F:Nat):∀ v,XAf25 F (bp Tryd.f25 31) (ef25j5 v) Kf46=f25_15 F v:=
 seq_cut (by kernel_rfl) (by kernel_rfl) ef25j5 ef25j7 _ (fun k=>f25_13 F k) (f25_14 F)
  (fun Rj7=>f25_13_eq F Rj7) (f25_14_eq F)
def f25_16(F:Nat):Ty39→Rz:=fun v=>f25_8 F (f25_15 F) v
theorem f25_16_eq(F:Nat):∀ v,XAf25 F (bp Tryd.f25 15) (ef25j4 v) Kf46=f25_16 F v:=
 seq_cut (by kernel_rfl) (by kernel_rfl) ef25j4 ef25j5 _ (fun k=>f25_8 F k) (f25_15 F)
  (fun Rj5=>f25_8_eq F Rj5) (f25_15_eq F)
def f25_17(F:Nat):Ty39→Rz:=fun v=>f25_7 F (f25_16 F) v
theorem f25_17_eq(F:Nat):∀ v,XAf25 F (bp Tryd.f25 7) (ef25j2 v) Kf46=f25_17 F v:=
 seq_cut (by kernel_rfl) (by kernel_rfl) ef25j2 ef25j4 _ (fun k=>f25_7 F k) (f25_16 F)
  (fun Rj4=>f25_7_eq F Rj4) (f25_16_eq F)
def f25_18(F:Nat):(Dk.D)×(Jr.J)→Rz:=fun v=>f25_2 F (f25_17 F) v
theorem f25_18_eq(F:Nat):∀ v,XAf25 F (bp Tryd.f25 3) (ef25j1 v) Kf46=f25_18 F v:=
 seq_cut (by kernel_rfl) (by kernel_rfl) ef25j1 ef25j2 _ (fun k=>f25_2 F k) (f25_17 F)
  (fun Rj2=>f25_2_eq F Rj2) (f25_17_eq F)
def f25_19(F:Nat):Ty38→Rz:=fun v=>f25_1 F (f25_18 F) v
theorem f25_19_eq(F:Nat):∀ v,XAf25 F (sub (bodyOf Tryd.f25) []) (ef25_a v) Kf46=f25_19 F v:=
 seq_cut (by kernel_rfl) (by kernel_rfl) ef25_a ef25j1 _ (fun k=>f25_1 F k) (f25_18 F)
  (fun Rj1=>f25_1_eq F Rj1) (f25_18_eq F)
def f25(F:Nat):Ty38→Rz:=f25_19 F
theorem f25_body(F:Nat)(a0N:Li)(a0T:List Li)(a0B:Li)(a0x a0f:Int)(a0c:Bool)(a1n:Nat)(a1b:Li)(a1p a1w:Lp)(a1o:Bool)(a1l:Int):abody V25 (Af25 F) Tryd.f25 [(.ptr 0 0 7 0 0 0 7)] [(jB 1 5 2 3 4 a0x a0f a0c),(dB 5 a1n 6 7 a1o a1l),(iB a0N),(iB a0B),(sB a0T),(bB a1b),(pB a1p),(wB a1w)]=f25 F (a0N,a0T,a0B,a0x,a0f,a0c,a1n,a1b,a1p,a1w,a1o,a1l):=
 (abody_in (by kernel_rfl) (by kernel_rfl)).trans (f25_19_eq F (a0N,a0T,a0B,a0x,a0f,a0c,a1n,a1b,a1p,a1w,a1o,a1l))
def r25:CRun:=fun X H=>match X,H with
 | [(.ptr 0 0 7 0 0 0 7)],[(.cells 7 (.segs (.cons 1 (.one (.ptr 1 0 5 0 0 0 5)) (.cons 1 (.one (.own 2 0 1)) (.cons 1 (.one (.own 3 0 1)) (.cons 1 (.one (.own 4 0 1)) (.cons 1 (.one (.int .i64 a0x)) (.cons 1 (.one (.int .i64 a0f)) (.cons 1 (.one (.bool a0c)) .nil)))))))) true),(.cells 5 (.segs (.cons 1 (.one (.own 5 a1n 64)) (.cons 1 (.one (.mp 6)) (.cons 1 (.one (.mp 7)) (.cons 1 (.one (.bool a1o)) (.cons 1 (.one (.int .i64 a1l)) .nil)))))) true),(.cells z2 (.rI .i64 a0N) true),(.cells z3 (.rI .i64 a0B) true),(.cells z4 (.rS a0T) true),(.cells z5 (.rI .u8 a1b) true),(.cells 0 (.rM .i64 0 (.arr .u8 64) a1p) true),(.cells 0 (.rM .i64 0 .bool a1w) true)]=>some ((decide ((Jr.J.mk a0N a0T a0B a0x a0f a0c).nums.length < 1073741000∧(Jr.J.mk a0N a0T a0B a0x a0f a0c).next < 100000)),(.vs (.rI .i64 (Jr.damaged (Jr.J.mk a0N a0T a0B a0x a0f a0c))) 0 1),[(jE 1 5 2 3 4 (Jr.J.mk a0N a0T a0B a0x a0f a0c)),(dE 5 (Dk.D.mk a1n a1b a1p a1w a1o a1l) 6 7),(.cells (Jr.J.mk a0N a0T a0B a0x a0f a0c).nums.length (.rI .i64 (Jr.J.mk a0N a0T a0B a0x a0f a0c).nums) true),(.cells (Jr.J.mk a0N a0T a0B a0x a0f a0c).bad.length (.rI .i64 (Jr.J.mk a0N a0T a0B a0x a0f a0c).bad) true),(.cells (Jr.J.mk a0N a0T a0B a0x a0f a0c).texts.length (.rS (Jr.J.mk a0N a0T a0B a0x a0f a0c).texts) true),(.cells (Dk.D.mk a1n a1b a1p a1w a1o a1l).blk.length (.rI .u8 (Dk.D.mk a1n a1b a1p a1w a1o a1l).blk) true),(pB (Dk.D.mk a1n a1b a1p a1w a1o a1l).pend),(wB (Dk.D.mk a1n a1b a1p a1w a1o a1l).worn)])
 | _,_=>none
theorem s25(a0N:Li)(a0T:List Li)(a0B:Li)(a0x a0f:Int)(a0c:Bool)(a1n:Nat)(a1b:Li)(a1p a1w:Lp)(a1o:Bool)(a1l:Int)(hp:((decide ((Jr.J.mk a0N a0T a0B a0x a0f a0c).nums.length < 1073741000∧(Jr.J.mk a0N a0T a0B a0x a0f a0c).next < 100000)))=true)(k0:okB (jB 1 5 2 3 4 a0x a0f a0c))(k1:okB (dB 5 a1n 6 7 a1o a1l))(k2:okB (iB a0N))(k3:okB (iB a0B))(k4:okB (sB a0T))(k5:okB (bB a1b))(k6:okB (pB a1p))(k7:okB (wB a1w)):∃ F,f25 F (a0N,a0T,a0B,a0x,a0f,a0c,a1n,a1b,a1p,a1w,a1o,a1l)=some ((.vs (.rI .i64 (Jr.damaged (Jr.J.mk a0N a0T a0B a0x a0f a0c))) 0 1),[(jE 1 5 2 3 4 (Jr.J.mk a0N a0T a0B a0x a0f a0c)),(dE 5 (Dk.D.mk a1n a1b a1p a1w a1o a1l) 6 7),(.cells (Jr.J.mk a0N a0T a0B a0x a0f a0c).nums.length (.rI .i64 (Jr.J.mk a0N a0T a0B a0x a0f a0c).nums) true),(.cells (Jr.J.mk a0N a0T a0B a0x a0f a0c).bad.length (.rI .i64 (Jr.J.mk a0N a0T a0B a0x a0f a0c).bad) true),(.cells (Jr.J.mk a0N a0T a0B a0x a0f a0c).texts.length (.rS (Jr.J.mk a0N a0T a0B a0x a0f a0c).texts) true),(.cells (Dk.D.mk a1n a1b a1p a1w a1o a1l).blk.length (.rI .u8 (Dk.D.mk a1n a1b a1p a1w a1o a1l).blk) true),(pB (Dk.D.mk a1n a1b a1p a1w a1o a1l).pend),(wB (Dk.D.mk a1n a1b a1p a1w a1o a1l).worn)]):=by
 obtain⟨hp1,hp2⟩:=of_decide_eq_true hp
 obtain⟨F,hF⟩:∃ F,F=a0N.length+200000:=⟨_,rfl⟩
 refine⟨F,?_⟩
 simp only [f25,f25_19,f25_1,f25_18,f25_2,f25_17,f25_7,f25_16,f25_3,f25_6,f25_5,f25_5_i]
 have hp1:a0N.length < 1073741000:=hp1
 have hp2:a0x < 100000:=hp2
 refine loopN_from (fun i=>((a0N.length:Int),(i:Int),(a0N.take i).foldl (fun m n=>mput m [n] [1]) [],(Dk.D.mk a1n a1b a1p a1w a1o a1l),(Jr.J.mk a0N a0T a0B a0x a0f a0c))) a0N.length rfl (fun i hi q=>?_) (fun q=>?_) F (by omega)
 ·simp only [f25_4,Int.toNat_natCast,dec_and]
  rw [cond_pos (by omega),cond_pos (by omega),i64w (by omega) (by omega),List.take_add_one,List.foldl_append,List.getElem?_eq_getElem hi,List.getD_eq_getElem?_getD,List.getElem?_eq_getElem hi]
  rfl
 simp only [f25_4]
 rw [cond_neg (by omega),List.take_length]
 simp only [f25_16,f25_8,f25_15,f25_13,f25_14,f25_9,f25_12,f25_11,f25_11_i]
 have hth:∀ t,((mget (mzero .bool) (a0N.foldl (fun m n=>mput m [n] [1]) []) [t]).getD 0 0==1)=a0N.contains t:=fun t=>by
  have:=Jr.there_get t a0N [] (fun e he=>by cases he)
  rw [show mhas ([]:Dk.Es) [t]=false from rfl,Bool.or_false] at this
  exact this
 refine loopN_from (fun i=>((i:Int)+1,a0N.foldl (fun m n=>mput m [n] [1]) [],((List.range i).filter fun i:Nat=>!a0N.contains ((i:Int)+1)).map fun i:Nat=>(i:Int)+1,(Dk.D.mk a1n a1b a1p a1w a1o a1l),(Jr.J.mk a0N a0T a0B a0x a0f a0c))) (a0x-1).toNat rfl (fun i hi q=>?_) (fun q=>?_) F (by omega)
 ·simp only [f25_10]
  have hlen:(((List.range i).filter fun i:Nat=>!a0N.contains ((i:Int)+1)).map fun i:Nat=>(i:Int)+1).length≤i:=by
   rw [List.length_map];exact Nat.le_trans (List.length_filter_le _ _) (by simp)
  rw [cond_pos (by omega),hth,i64w (by omega) (by omega),Jr.dam_step]
  cases (!a0N.contains ((i:Int)+1))
  ·rw [cond_false,cond_false,List.append_nil];rfl
  ·rw [cond_true,cond_true,cond_pos (by omega)];rfl
 ·simp only [f25_10]
  rw [cond_neg (by omega)]
  rfl
theorem c25:CallOk Tryd.prog G36 25 r25:=callOk_of mixed tys eV25 Tryd.func25 (by kernel_rfl) (c:=sub (bodyOf Tryd.f25) []) (by kernel_rfl) (by
 intro X H r H' h hX hH
 unfold r25 at h;split at h <;> try contradiction
 ·obtain⟨hp,rfl,rfl⟩:=inj3 h
  obtain rfl:=okB_size (hH _ hm2) rfl
  obtain rfl:=okB_size (hH _ hm3) rfl
  obtain rfl:=okB_size (hH _ hm4) rfl
  obtain rfl:=okB_size (hH _ hm5) rfl
  obtain⟨F,hF⟩:=s25 _ _ _ _ _ _ _ _ _ _ _ _ hp (hH _ hm0) (hH _ hm1) (hH _ hm2) (hH _ hm3) (hH _ hm4) (hH _ hm5) (hH _ hm6) (hH _ hm7)
  exact⟨Af25 F,(f25_body F _ _ _ _ _ _ _ _ _ _ _ _).trans hF⟩)
end Go.Am
