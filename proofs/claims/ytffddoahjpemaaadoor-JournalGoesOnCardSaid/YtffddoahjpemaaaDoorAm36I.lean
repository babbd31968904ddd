/- Part of a proof. -/
import Derived.Test.YtffddoahjpemaaaDoorAm36H
import Derived.Test.YtffddoahjpemaaaDoorAmPackOk36
set_option linter.unusedVariables false
set_option linter.unusedSimpArgs false
namespace Go.Am
open Go Go.Proofs
abbrev sp49:List (Nat×Md):=[(0,.plain),(1,.plain),(2,.plain),(17,.plain),(18,.plain),(19,.plain)]
abbrev sp50:List (Nat×Md):=[(0,.plain),(1,.plain),(12,.plain),(45,.plain),(46,.plain),(47,.plain)]
abbrev sp51:List (Nat×Md):=[(0,.plain),(1,.plain),(2,.plain)]
abbrev sp52:List (Nat×Md):=[(0,.plain),(1,.plain),(2,.plain),(12,.plain)]
abbrev Ty44:=Li×(List Li)×Li×Int×Int×Bool×Nat×Li×(Lp)×(Lp)×Bool×Int×Int×(List Li)
abbrev Ty45:=Int×(List Li)×(Dk.D)×(Jr.J)
abbrev Ty46:=Int×(List Li)×(List Li)×Int×Int×(Dk.D)×(Jr.J)
abbrev Ty47:=Int×(List Li)×Bool×(Dk.D)×(Jr.J)
abbrev Ty48:=Int×Bool×(List Li)×Int×Int×(Dk.D)×(Jr.J)
abbrev Ty49:=Li×(List Li)×Li×Int×Int×Bool×Nat×Li×(Lp)×(Lp)×Bool×Int×Li
def lV36:List CEnt:=[(33,[none,none],r33),(53,[none,none,none],r53),(54,[none],r54)]
def V36:Env:=mkEnv T36 G36 lV36
noncomputable abbrev Kf47:=kFin V36 none (Tryd.f36).results.toList
theorem eV36:EOk Tryd.prog V36:=eok_mk (by exact⟨c33,c53,c54,trivial⟩)
def Af36(F:Nat):Cuts:={ F:=F,at_:=fun n=>match n with | 2020=>some sp49 | 13022=>some sp50 | _=>none,join:=fun n=>match n with | 1067=>some sp51 | 2022=>some sp49 | 8042=>some sp51 | 11032=>some sp51 | 12030=>some sp52 | 13024=>some sp50 | 20003=>some [(12,.plain)] | _=>none }
noncomputable abbrev XAf36(F:Nat){α:Type}:=@aexec α V36 (Af36 F)
def ef36_a:Ty44→St:=fun (a0N,a0T,a0B,a0x,a0f,a0c,a1n,a1b,a1p,a1w,a1o,a1l,a2,a3)=>⟨[(0,.ptr 0 0 7 0 0 0 7),(1,.int .i64 a2),(2,(.vs (.rS a3) 0 1))],[(0,(jB 1 5 2 3 4 a0x a0f a0c)),(1,(dB 5 a1n 6 7 a1o a1l)),(2,(iB a0N)),(3,(iB a0B)),(4,(sB a0T)),(5,(bB a1b)),(6,(pB a1p)),(7,(wB a1w))],8,74,8⟩
def ef36j1:Ty45→St:=fun (t1,t2,e1,e2)=>⟨[(0,.ptr 0 0 7 0 0 0 7),(1,.int .i64 t1),(2,(.vs (.rS t2) 0 1))],[(0,(jE 1 5 2 3 4 e2)),(1,(dE 5 e1 6 7)),(2,(iB e2.nums)),(3,(iB e2.bad)),(4,(sB e2.texts)),(5,(bB e1.blk)),(6,(pB e1.pend)),(7,(wB e1.worn))],8,74,8⟩
def ef36j2:Ty46→St:=fun (t1,t2,t17,t18,t19,e1,e2)=>⟨[(0,.ptr 0 0 7 0 0 0 7),(1,.int .i64 t1),(2,(.vs (.rS t2) 0 1)),(17,(.vs (.rS t17) 0 1)),(18,.int .i64 t18),(19,.int .i64 t19)],[(0,(jE 1 5 2 3 4 e2)),(1,(dE 5 e1 6 7)),(2,(iB e2.nums)),(3,(iB e2.bad)),(4,(sB e2.texts)),(5,(bB e1.blk)),(6,(pB e1.pend)),(7,(wB e1.worn))],8,74,8⟩
def ef36l1:Ty46→St:=ef36j2
def ef36j3:Ty45→St:=ef36j1
def ef36j4:Ty45→St:=ef36j1
def ef36j5:Ty47→St:=fun (t1,t2,t12,e1,e2)=>⟨[(0,.ptr 0 0 7 0 0 0 7),(1,.int .i64 t1),(2,(.vs (.rS t2) 0 1)),(12,.bool t12)],[(0,(jE 1 5 2 3 4 e2)),(1,(dE 5 e1 6 7)),(2,(iB e2.nums)),(3,(iB e2.bad)),(4,(sB e2.texts)),(5,(bB e1.blk)),(6,(pB e1.pend)),(7,(wB e1.worn))],8,74,8⟩
def ef36j6:Ty48→St:=fun (t1,t12,t45,t46,t47,e1,e2)=>⟨[(0,.ptr 0 0 7 0 0 0 7),(1,.int .i64 t1),(12,.bool t12),(45,(.vs (.rS t45) 0 1)),(46,.int .i64 t46),(47,.int .i64 t47)],[(0,(jE 1 5 2 3 4 e2)),(1,(dE 5 e1 6 7)),(2,(iB e2.nums)),(3,(iB e2.bad)),(4,(sB e2.texts)),(5,(bB e1.blk)),(6,(pB e1.pend)),(7,(wB e1.worn))],8,74,8⟩
def ef36l2:Ty48→St:=ef36j6
def ef36j7:Bool×(Dk.D)×(Jr.J)→St:=fun (t12,e1,e2)=>⟨[(12,.bool t12)],[(0,(jE 1 5 2 3 4 e2)),(1,(dE 5 e1 6 7)),(2,(iB e2.nums)),(3,(iB e2.bad)),(4,(sB e2.texts)),(5,(bB e1.blk)),(6,(pB e1.pend)),(7,(wB e1.worn))],8,74,8⟩
def f36_1(F:Nat)(kj1:Ty45→Rz):Ty44→Rz:=fun (a0N,a0T,a0B,a0x,a0f,a0c,a1n,a1b,a1p,a1w,a1o,a1l,a2,a3)=>(kj1 (a2,a3,(Dk.D.mk a1n a1b a1p a1w a1o a1l),(Jr.J.mk a0N a0T a0B a0x a0f a0c)))
theorem f36_1_eq(F:Nat)(Rj1:St→Rz):∀ v,XAf36 F (bp Tryd.f36 2) (ef36_a v) (kSeq (kc V36 Rj1 sp51) Kf47)=f36_1 F (Rj1∘ef36j1) v:=by
 rintro⟨a0N,a0T,a0B,a0x,a0f,a0c,a1n,a1b,a1p,a1w,a1o,a1l,a2,a3⟩;kernel_rfl
def f36_2(F:Nat)(kj2:Ty46→Rz)(kj3:Ty45→Rz):Ty45→Rz:=fun (t1,t2,e1,e2)=>(kj2 (t1,t2,t2,(↑t2.length:Int),(0:Int),e1,e2))
theorem f36_2_eq(F:Nat)(Rj2 Rj3:St→Rz):∀ v,XAf36 F (bp Tryd.f36 12) (ef36j1 v) (kSeq (kc V36 Rj2 sp49) (kSeq (kc V36 Rj3 sp51) Kf47))=f36_2 F (Rj2∘ef36j2) (Rj3∘ef36j3) v:=by
 rintro⟨t1,t2,e1,e2⟩;kernel_rfl
def f36_3(F:Nat)(kl1:Ty46→Rz)(kj3:Ty45→Rz):Ty46→Rz:=fun (t1,t2,t17,t18,t19,e1,e2)=>(cond (decide (t19 < t18)) (cond ((decide (0≤t19))&&(decide (t19 < (↑t17.length:Int)))) (cond ((Dk.write e1 (IntKind.i64.wrap (t1+t19)) (t17.getD (Int.toNat t19) [])).2 != (0:Int)) (some ((.tup (.cons 0 (.int .i64 (Dk.write e1 (IntKind.i64.wrap (t1+t19)) (t17.getD (Int.toNat t19) [])).2) (.cons 0 (.bool false) .nil))),[(jE 1 5 2 3 4 e2),(dE 5 (Dk.write e1 (IntKind.i64.wrap (t1+t19)) (t17.getD (Int.toNat t19) [])).1 6 7),(iB e2.nums),(iB e2.bad),(sB e2.texts),(.cells (Dk.write e1 (IntKind.i64.wrap (t1+t19)) (t17.getD (Int.toNat t19) [])).1.blk.length (.rI .u8 (Dk.write e1 (IntKind.i64.wrap (t1+t19)) (t17.getD (Int.toNat t19) [])).1.blk) true),(pB (Dk.write e1 (IntKind.i64.wrap (t1+t19)) (t17.getD (Int.toNat t19) [])).1.pend),(wB (Dk.write e1 (IntKind.i64.wrap (t1+t19)) (t17.getD (Int.toNat t19) [])).1.worn)])) (kl1 (t1,t2,t17,t18,(IntKind.i64.wrap (t19+(1:Int))),(Dk.write e1 (IntKind.i64.wrap (t1+t19)) (t17.getD (Int.toNat t19) [])).1,e2))) none) (kj3 (t1,t2,e1,e2)))
theorem f36_3_eq(F:Nat)(Rl1 Rj3:St→Rz):∀ v,XAf36 F (bp Tryd.f36 52) (ef36l1 v) (kSeq (kc V36 Rl1 sp49) (kBlock 0 (kSeq (kc V36 Rj3 sp51) Kf47)))=f36_3 F (Rl1∘ef36l1) (Rj3∘ef36j3) v:=by
 rintro⟨t1,t2,t17,t18,t19,e1,e2⟩;kernel_rfl
def f36_4_i:Ty46→Int×(List Li)×(List Li)×Int×Int×(Dk.D)×(Jr.J):=fun (t1,t2,t17,t18,t19,e1,e2)=>(t1,t2,t17,t18,t19,e1,e2)
def f36_4(F:Nat)(kj3:Ty45→Rz):Ty46→Rz:=fun v=>loopN (fun k=>f36_3 F k kj3) F (f36_4_i v)
theorem f36_4_eq(F:Nat)(Rj3:St→Rz):∀ v,XAf36 F (bp Tryd.f36 26) (ef36j2 v) (kBlock 0 (kSeq (kc V36 Rj3 sp51) Kf47))=f36_4 F (Rj3∘ef36j3) v:=
 loop_cut (by kernel_rfl) (by kernel_rfl) ef36j2 ef36l1 _ f36_4_i (fun k=>f36_3 F k (Rj3∘ef36j3))
  (by rintro⟨t1,t2,t17,t18,t19,e1,e2⟩;kernel_rfl) (fun Rl1=>f36_3_eq F Rl1 Rj3)
def f36_5(F:Nat)(kj3:Ty45→Rz):Ty46→Rz:=f36_4 F kj3
theorem f36_5_eq(F:Nat)(Rj3:St→Rz):∀ v,XAf36 F (bp Tryd.f36 13) (ef36j2 v) (kSeq (kc V36 Rj3 sp51) Kf47)=f36_5 F (Rj3∘ef36j3) v:=fun v=>
 (block_in  (by kernel_rfl) _ _).trans (f36_4_eq F Rj3 v)
def f36_6(F:Nat)(kj3:Ty45→Rz):Ty45→Rz:=fun v=>f36_2 F (f36_5 F kj3) kj3 v
theorem f36_6_eq(F:Nat)(Rj3:St→Rz):∀ v,XAf36 F (bp Tryd.f36 6) (ef36j1 v) (kSeq (kc V36 Rj3 sp51) Kf47)=f36_6 F (Rj3∘ef36j3) v:=
 seq_cut (by kernel_rfl) (by kernel_rfl) ef36j1 ef36j2 _ (fun k=>f36_2 F k (Rj3∘ef36j3)) (f36_5 F (Rj3∘ef36j3))
  (fun Rj2=>f36_2_eq F Rj2 Rj3) (f36_5_eq F Rj3)
def f36_7(F:Nat)(kj4:Ty45→Rz):Ty45→Rz:=fun (t1,t2,e1,e2)=>(cond (Dk.fine e1) (cond ((Dk.flush e1).2 != (0:Int)) (some ((.tup (.cons 0 (.int .i64 (Dk.flush e1).2) (.cons 0 (.bool false) .nil))),[(jE 1 5 2 3 4 e2),(dE 5 (Dk.flush e1).1 6 7),(iB e2.nums),(iB e2.bad),(sB e2.texts),(.cells (Dk.flush e1).1.blk.length (.rI .u8 (Dk.flush e1).1.blk) true),(pB (Dk.flush e1).1.pend),(wB (Dk.flush e1).1.worn)])) (kj4 (t1,t2,(Dk.flush e1).1,e2))) none)
theorem f36_7_eq(F:Nat)(Rj4:St→Rz):∀ v,XAf36 F (bp Tryd.f36 14) (ef36j3 v) (kSeq (kc V36 Rj4 sp51) Kf47)=f36_7 F (Rj4∘ef36j4) v:=by
 rintro⟨t1,t2,e1,e2⟩;kernel_rfl
def f36_8(F:Nat)(kj5:Ty47→Rz):Ty45→Rz:=fun (t1,t2,e1,e2)=>(kj5 (t1,t2,true,e1,e2))
theorem f36_8_eq(F:Nat)(Rj5:St→Rz):∀ v,XAf36 F (bp Tryd.f36 30) (ef36j4 v) (kSeq (kc V36 Rj5 sp52) Kf47)=f36_8 F (Rj5∘ef36j5) v:=by
 rintro⟨t1,t2,e1,e2⟩;kernel_rfl
def f36_9(F:Nat)(kj6:Ty48→Rz)(kj7:Bool×(Dk.D)×(Jr.J)→Rz):Ty47→Rz:=fun (t1,t2,t12,e1,e2)=>(kj6 (t1,t12,t2,(↑t2.length:Int),(0:Int),e1,e2))
theorem f36_9_eq(F:Nat)(Rj6 Rj7:St→Rz):∀ v,XAf36 F (bp Tryd.f36 124) (ef36j5 v) (kSeq (kc V36 Rj6 sp50) (kSeq (kc V36 Rj7 [(12,.plain)]) Kf47))=f36_9 F (Rj6∘ef36j6) (Rj7∘ef36j7) v:=by
 rintro⟨t1,t2,t12,e1,e2⟩;kernel_rfl
def f36_10(F:Nat)(kl2:Ty48→Rz)(kj7:Bool×(Dk.D)×(Jr.J)→Rz):Ty48→Rz:=fun (t1,t12,t45,t46,t47,e1,e2)=>(cond (decide (t47 < t46)) (cond ((decide (0≤t47))&&(decide (t47 < (↑t45.length:Int)))) (cond ((Dk.read e1 (IntKind.i64.wrap (t1+t47))).2 != (0:Int)) (some ((.tup (.cons 0 (.int .i64 (Dk.read e1 (IntKind.i64.wrap (t1+t47))).2) (.cons 0 (.bool false) .nil))),[(jE 1 5 2 3 4 e2),(dE 5 e1 6 7),(iB e2.nums),(iB e2.bad),(sB e2.texts),(bB e1.blk),(pB e1.pend),(wB e1.worn)])) (cond t12 (kl2 (t1,(((t45.getD (Int.toNat t47) []):Li)==((Dk.read e1 (IntKind.i64.wrap (t1+t47))).1:Li)),t45,t46,(IntKind.i64.wrap (t47+(1:Int))),e1,e2)) (kl2 (t1,false,t45,t46,(IntKind.i64.wrap (t47+(1:Int))),e1,e2)))) none) (kj7 (t12,e1,e2)))
theorem f36_10_eq(F:Nat)(Rl2 Rj7:St→Rz):∀ v,XAf36 F (bp Tryd.f36 500) (ef36l2 v) (kSeq (kc V36 Rl2 sp50) (kBlock 2 (kSeq (kc V36 Rj7 [(12,.plain)]) Kf47)))=f36_10 F (Rl2∘ef36l2) (Rj7∘ef36j7) v:=by
 rintro⟨t1,t12,t45,t46,t47,e1,e2⟩;kernel_rfl
def f36_11_i:Ty48→Int×Bool×(List Li)×Int×Int×(Dk.D)×(Jr.J):=fun (t1,t12,t45,t46,t47,e1,e2)=>(t1,t12,t45,t46,t47,e1,e2)
def f36_11(F:Nat)(kj7:Bool×(Dk.D)×(Jr.J)→Rz):Ty48→Rz:=fun v=>loopN (fun k=>f36_10 F k kj7) F (f36_11_i v)
theorem f36_11_eq(F:Nat)(Rj7:St→Rz):∀ v,XAf36 F (bp Tryd.f36 250) (ef36j6 v) (kBlock 2 (kSeq (kc V36 Rj7 [(12,.plain)]) Kf47))=f36_11 F (Rj7∘ef36j7) v:=
 loop_cut (by kernel_rfl) (by kernel_rfl) ef36j6 ef36l2 _ f36_11_i (fun k=>f36_10 F k (Rj7∘ef36j7))
  (by rintro⟨t1,t12,t45,t46,t47,e1,e2⟩;kernel_rfl) (fun Rl2=>f36_10_eq F Rl2 Rj7)
def f36_12(F:Nat)(kj7:Bool×(Dk.D)×(Jr.J)→Rz):Ty48→Rz:=f36_11 F kj7
theorem f36_12_eq(F:Nat)(Rj7:St→Rz):∀ v,XAf36 F (bp Tryd.f36 125) (ef36j6 v) (kSeq (kc V36 Rj7 [(12,.plain)]) Kf47)=f36_12 F (Rj7∘ef36j7) v:=fun v=>
 (block_in  (by kernel_rfl) _ _).trans (f36_11_eq F Rj7 v)
def f36_13(F:Nat)(kj7:Bool×(Dk.D)×(Jr.J)→Rz):Ty47→Rz:=fun v=>f36_9 F (f36_12 F kj7) kj7 v
theorem f36_13_eq(F:Nat)(Rj7:St→Rz):∀ v,XAf36 F (bp Tryd.f36 62) (ef36j5 v) (kSeq (kc V36 Rj7 [(12,.plain)]) Kf47)=f36_13 F (Rj7∘ef36j7) v:=
 seq_cut (by kernel_rfl) (by kernel_rfl) ef36j5 ef36j6 _ (fun k=>f36_9 F k (Rj7∘ef36j7)) (f36_12 F (Rj7∘ef36j7))
  (fun Rj6=>f36_9_eq F Rj6 Rj7) (f36_12_eq F Rj7)
def f36_14(F:Nat):Bool×(Dk.D)×(Jr.J)→Rz:=fun (t12,e1,e2)=>(some ((.tup (.cons 0 (.int .i64 0) (.cons 0 (.bool t12) .nil))),[(jE 1 5 2 3 4 e2),(dE 5 e1 6 7),(iB e2.nums),(iB e2.bad),(sB e2.texts),(bB e1.blk),(pB e1.pend),(wB e1.worn)]))
theorem f36_14_eq(F:Nat):∀ v,XAf36 F (bp Tryd.f36 63) (ef36j7 v) Kf47=f36_14 F v:=by
 rintro⟨t12,e1,e2⟩;kernel_rfl
def f36_15(F:Nat):Ty47→Rz:=fun v=>f36_13 F (f36_14 F) v
theorem f36_15_eq(F:Nat):∀ v,XAf36 F (bp Tryd.f36 31) (ef36j5 v) Kf47=f36_15 F v:=
 seq_cut (by kernel_rfl) (by kernel_rfl) ef36j5 ef36j7 _ (fun k=>f36_13 F k) (f36_14 F)
  (fun Rj7=>f36_13_eq F Rj7) (f36_14_eq F)
def f36_16(F:Nat):Ty45→Rz:=fun v=>f36_8 F (f36_15 F) v
theorem f36_16_eq(F:Nat):∀ v,XAf36 F (bp Tryd.f36 15) (ef36j4 v) Kf47=f36_16 F v:=
 seq_cut (by kernel_rfl) (by kernel_rfl) ef36j4 ef36j5 _ (fun k=>f36_8 F k) (f36_15 F)
  (fun Rj5=>f36_8_eq F Rj5) (f36_15_eq F)
def f36_17(F:Nat):Ty45→Rz:=fun v=>f36_7 F (f36_16 F) v
theorem f36_17_eq(F:Nat):∀ v,XAf36 F (bp Tryd.f36 7) (ef36j3 v) Kf47=f36_17 F v:=
 seq_cut (by kernel_rfl) (by kernel_rfl) ef36j3 ef36j4 _ (fun k=>f36_7 F k) (f36_16 F)
  (fun Rj4=>f36_7_eq F Rj4) (f36_16_eq F)
def f36_18(F:Nat):Ty45→Rz:=fun v=>f36_6 F (f36_17 F) v
theorem f36_18_eq(F:Nat):∀ v,XAf36 F (bp Tryd.f36 3) (ef36j1 v) Kf47=f36_18 F v:=
 seq_cut (by kernel_rfl) (by kernel_rfl) ef36j1 ef36j3 _ (fun k=>f36_6 F k) (f36_17 F)
  (fun Rj3=>f36_6_eq F Rj3) (f36_17_eq F)
def f36_19(F:Nat):Ty44→Rz:=fun v=>f36_1 F (f36_18 F) v
theorem f36_19_eq(F:Nat):∀ v,XAf36 F (sub (bodyOf Tryd.f36) []) (ef36_a v) Kf47=f36_19 F v:=
 seq_cut (by kernel_rfl) (by kernel_rfl) ef36_a ef36j1 _ (fun k=>f36_1 F k) (f36_18 F)
  (fun Rj1=>f36_1_eq F Rj1) (f36_18_eq F)
def f36(F:Nat):Ty44→Rz:=f36_19 F
theorem f36_body(F:Nat)(a0N:Li)(a0T:List Li)(a0B:Li)(a0x a0f:Int)(a0c:Bool)(a1n:Nat)(a1b:Li)(a1p a1w:Lp)(a1o:Bool)(a1l a2:Int)(a3:List Li):abody V36 (Af36 F) Tryd.f36 [(.ptr 0 0 7 0 0 0 7),.int .i64 a2,(.vs (.rS a3) 0 1)] [(jB 1 5 2 3 4 a0x a0f a0c),(dB 5 a1n 6 7 a1o a1l),(iB a0N),(iB a0B),(sB a0T),(bB a1b),(pB a1p),(wB a1w)]=f36 F (a0N,a0T,a0B,a0x,a0f,a0c,a1n,a1b,a1p,a1w,a1o,a1l,a2,a3):=
 (abody_in (by kernel_rfl) (by kernel_rfl)).trans (f36_19_eq F (a0N,a0T,a0B,a0x,a0f,a0c,a1n,a1b,a1p,a1w,a1o,a1l,a2,a3))
def r36:CRun:=fun X H=>match X,H with
 | [(.ptr 0 0 7 0 0 0 7),.int .i64 a2,(.vs (.rS a3) 0 1)],[(.cells 7 (.segs (.cons 1 (.one (.ptr 1 0 5 0 0 0 5)) (.cons 1 (.one (.own 2 0 1)) (.cons 1 (.one (.own 3 0 1)) (.cons 1 (.one (.own 4 0 1)) (.cons 1 (.one (.int .i64 a0x)) (.cons 1 (.one (.int .i64 a0f)) (.cons 1 (.one (.bool a0c)) .nil)))))))) true),(.cells 5 (.segs (.cons 1 (.one (.own 5 a1n 64)) (.cons 1 (.one (.mp 6)) (.cons 1 (.one (.mp 7)) (.cons 1 (.one (.bool a1o)) (.cons 1 (.one (.int .i64 a1l)) .nil)))))) true),(.cells z2 (.rI .i64 a0N) true),(.cells z3 (.rI .i64 a0B) true),(.cells z4 (.rS a0T) true),(.cells z5 (.rI .u8 a1b) true),(.cells 0 (.rM .i64 0 (.arr .u8 64) a1p) true),(.cells 0 (.rM .i64 0 .bool a1w) true)]=>some ((Dk.fine (Dk.D.mk a1n a1b a1p a1w a1o a1l))&&(decide ((Dk.D.mk a1n a1b a1p a1w a1o a1l).pend.length < 4000∧a3.length < 3000∧0≤a2∧a2 < 100000)),(.tup (.cons 0 (.int .i64 (Jr.writeAll Jr.DV (Dk.D.mk a1n a1b a1p a1w a1o a1l) a2 a3).2.1) (.cons 0 (.bool (Jr.writeAll Jr.DV (Dk.D.mk a1n a1b a1p a1w a1o a1l) a2 a3).2.2) .nil))),[(jE 1 5 2 3 4 (Jr.J.mk a0N a0T a0B a0x a0f a0c)),(dE 5 (Jr.writeAll Jr.DV (Dk.D.mk a1n a1b a1p a1w a1o a1l) a2 a3).1 6 7),(.cells (Jr.J.mk a0N a0T a0B a0x a0f a0c).nums.length (.rI .i64 (Jr.J.mk a0N a0T a0B a0x a0f a0c).nums) true),(.cells (Jr.J.mk a0N a0T a0B a0x a0f a0c).bad.length (.rI .i64 (Jr.J.mk a0N a0T a0B a0x a0f a0c).bad) true),(.cells (Jr.J.mk a0N a0T a0B a0x a0f a0c).texts.length (.rS (Jr.J.mk a0N a0T a0B a0x a0f a0c).texts) true),(.cells (Jr.writeAll Jr.DV (Dk.D.mk a1n a1b a1p a1w a1o a1l) a2 a3).1.blk.length (.rI .u8 (Jr.writeAll Jr.DV (Dk.D.mk a1n a1b a1p a1w a1o a1l) a2 a3).1.blk) true),(pB (Jr.writeAll Jr.DV (Dk.D.mk a1n a1b a1p a1w a1o a1l) a2 a3).1.pend),(wB (Jr.writeAll Jr.DV (Dk.D.mk a1n a1b a1p a1w a1o a1l) a2 a3).1.worn)])
 | _,_=>none
theorem s36(a0N:Li)(a0T:List Li)(a0B:Li)(a0x a0f:Int)(a0c:Bool)(a1n:Nat)(a1b:Li)(a1p a1w:Lp)(a1o:Bool)(a1l a2:Int)(a3:List Li)(hp:((Dk.fine (Dk.D.mk a1n a1b a1p a1w a1o a1l))&&(decide ((Dk.D.mk a1n a1b a1p a1w a1o a1l).pend.length < 4000∧a3.length < 3000∧0≤a2∧a2 < 100000)))=true)(h1:okV (.int .i64 a2))(h2:okV (.vs (.rS a3) 0 1))(k0:okB (jB 1 5 2 3 4 a0x a0f a0c))(k1:okB (dB 5 a1n 6 7 a1o a1l))(k2:okB (iB a0N))(k3:okB (iB a0B))(k4:okB (sB a0T))(k5:okB (bB a1b))(k6:okB (pB a1p))(k7:okB (wB a1w)):∃ F,f36 F (a0N,a0T,a0B,a0x,a0f,a0c,a1n,a1b,a1p,a1w,a1o,a1l,a2,a3)=some ((.tup (.cons 0 (.int .i64 (Jr.writeAll Jr.DV (Dk.D.mk a1n a1b a1p a1w a1o a1l) a2 a3).2.1) (.cons 0 (.bool (Jr.writeAll Jr.DV (Dk.D.mk a1n a1b a1p a1w a1o a1l) a2 a3).2.2) .nil))),[(jE 1 5 2 3 4 (Jr.J.mk a0N a0T a0B a0x a0f a0c)),(dE 5 (Jr.writeAll Jr.DV (Dk.D.mk a1n a1b a1p a1w a1o a1l) a2 a3).1 6 7),(.cells (Jr.J.mk a0N a0T a0B a0x a0f a0c).nums.length (.rI .i64 (Jr.J.mk a0N a0T a0B a0x a0f a0c).nums) true),(.cells (Jr.J.mk a0N a0T a0B a0x a0f a0c).bad.length (.rI .i64 (Jr.J.mk a0N a0T a0B a0x a0f a0c).bad) true),(.cells (Jr.J.mk a0N a0T a0B a0x a0f a0c).texts.length (.rS (Jr.J.mk a0N a0T a0B a0x a0f a0c).texts) true),(.cells (Jr.writeAll Jr.DV (Dk.D.mk a1n a1b a1p a1w a1o a1l) a2 a3).1.blk.length (.rI .u8 (Jr.writeAll Jr.DV (Dk.D.mk a1n a1b a1p a1w a1o a1l) a2 a3).1.blk) true),(pB (Jr.writeAll Jr.DV (Dk.D.mk a1n a1b a1p a1w a1o a1l) a2 a3).1.pend),(wB (Jr.writeAll Jr.DV (Dk.D.mk a1n a1b a1p a1w a1o a1l) a2 a3).1.worn)]):=by
 obtain⟨hf,hp⟩:=Bool.and_eq_true_iff.1 hp
 obtain⟨q1,q2,q3,q4⟩:=of_decide_eq_true hp
 refine⟨4000,?_⟩
 simp only [f36,f36_19,f36_1,f36_18,f36_6,f36_17,f36_2,f36_5,f36_4,f36_4_i]
 refine loopN_ind (fun m s=>∃ k:Nat,s=(a2,a3,a3,(a3.length:Int),(k:Int),(Jr.writes Jr.DV a2 a3 k (Dk.D.mk a1n a1b a1p a1w a1o a1l)).1,(Jr.J.mk a0N a0T a0B a0x a0f a0c))∧m=a3.length-k∧k≤a3.length∧(Jr.writes Jr.DV a2 a3 k (Dk.D.mk a1n a1b a1p a1w a1o a1l)).2=0) (fun m s K hi hk=>?_) 4000 a3.length _ (by omega) ⟨0,rfl,by omega,by omega,rfl⟩
 obtain⟨k,rfl,hm,hle,hz⟩:=hi
 simp only [f36_3,Int.toNat_natCast,dec_and]
 by_cases hlt:k < a3.length
 ·rw [cond_pos (by omega),cond_pos (by omega),i64w (x:=a2+(k:Int)) (by omega) (by omega),i64w (x:=(k:Int)+1) (by omega) (by omega)]
  have hs:=Jr.writes_succ (V:=Jr.DV) (a:=a2) (L:=a3) hz
  have hs':Dk.write (Jr.writes Jr.DV a2 a3 k (Dk.D.mk a1n a1b a1p a1w a1o a1l)).1 (a2+k) (a3.getD k [])=Jr.writes Jr.DV a2 a3 (k+1) (Dk.D.mk a1n a1b a1p a1w a1o a1l):=hs.symm
  rw [hs']
  cases he:((Jr.writes Jr.DV a2 a3 (k+1) (Dk.D.mk a1n a1b a1p a1w a1o a1l)).2 != 0) with
  | false=>
   rw [cond_false]
   exact hk (m-1) _ (by omega) ⟨k+1,rfl,by omega,by omega,by simpa using he⟩
  | true=>
   have hw:=Jr.writes_stop (V:=Jr.DV) (a:=a2) (L:=a3) (d:=(Dk.D.mk a1n a1b a1p a1w a1o a1l)) (k:=k+1) (by simpa using he) (a3.length-(k+1))
   rw [show k+1+(a3.length-(k+1))=a3.length by omega] at hw
   have hall:Jr.writeAll Jr.DV (Dk.D.mk a1n a1b a1p a1w a1o a1l) a2 a3=((Jr.writes Jr.DV a2 a3 (k+1) (Dk.D.mk a1n a1b a1p a1w a1o a1l)).1,(Jr.writes Jr.DV a2 a3 (k+1) (Dk.D.mk a1n a1b a1p a1w a1o a1l)).2,false):=by
    rw [Jr.writeAll,hw,he];rfl
   rw [hall,cond_true]
 rw [cond_neg (by omega)]
 have hkl:k=a3.length:=by omega
 subst hkl
 obtain⟨w,hw⟩:∃ w,w=Jr.writes Jr.DV a2 a3 a3.length (Dk.D.mk a1n a1b a1p a1w a1o a1l):=⟨_,rfl⟩
 have hall:Jr.writeAll Jr.DV (Dk.D.mk a1n a1b a1p a1w a1o a1l) a2 a3=cond ((Dk.flush w.1).2 != 0) ((Dk.flush w.1).1,(Dk.flush w.1).2,false) ((Dk.flush w.1).1,(Jr.reads Jr.DV (Dk.flush w.1).1 a2 a3 a3.length).2,(Jr.reads Jr.DV (Dk.flush w.1).1 a2 a3 a3.length).1):=by
  rw [Jr.writeAll,← hw,show((w.2 != 0)=false) by rw [hw,hz];rfl];rfl
 have hfw:Dk.fine w.1=true:=by rw [hw];exact(Jr.writes_fine hf q1 _ q2).1
 rw [← hw]
 simp only [f36_17,f36_7,f36_16,f36_8,f36_15,f36_13,f36_14,f36_9,f36_12,f36_11,f36_11_i]
 rw [hfw,cond_true,hall]
 cases hfe:((Dk.flush w.1).2 != 0) with
 | true=>rfl
 | false=>
 simp only [cond_false]
 generalize (Dk.flush w.1).1=e at *
 refine loopN_ind (fun m s=>∃ k:Nat,s=(a2,(Jr.reads Jr.DV e a2 a3 k).1,a3,(a3.length:Int),(k:Int),e,(Jr.J.mk a0N a0T a0B a0x a0f a0c))∧m=a3.length-k∧k≤a3.length∧(Jr.reads Jr.DV e a2 a3 k).2=0) (fun m s K hi hk=>?_) 4000 a3.length _ (by omega) ⟨0,rfl,by omega,by omega,rfl⟩
 obtain⟨k,rfl,hm,hle,hz⟩:=hi
 simp only [f36_10,Int.toNat_natCast,dec_and]
 by_cases hlt:k < a3.length
 ·rw [cond_pos (by omega),cond_pos (by omega),i64w (x:=a2+(k:Int)) (by omega) (by omega),i64w (x:=(k:Int)+1) (by omega) (by omega)]
  have hs:=Jr.reads_succ (V:=Jr.DV) (a:=a2) (L:=a3) hz
  rw [show Jr.DV.read e (a2+k)=Dk.read e (a2+k) from rfl] at hs
  cases he:((Dk.read e (a2+k)).2 != 0) with
  | false=>
   rw [he,cond_false] at hs
   have hgo:K (a2,(Jr.reads Jr.DV e a2 a3 (k+1)).1,a3,(a3.length:Int),((k:Int)+1),e,(Jr.J.mk a0N a0T a0B a0x a0f a0c))=_:=hk (m-1) _ (by omega) ⟨k+1,rfl,by omega,by omega,by rw [hs]⟩
   rw [hs] at hgo
   rw [← hgo]
   cases (Jr.reads Jr.DV e a2 a3 k).1 <;> rfl
  | true=>
   rw [he,cond_true] at hs
   have hw:=Jr.reads_stop (V:=Jr.DV) (a:=a2) (L:=a3) (d:=e) (k:=k+1) (by rw [hs];simpa using he) (a3.length-(k+1))
   rw [show k+1+(a3.length-(k+1))=a3.length by omega,hs] at hw
   rw [hw]
   rfl
 ·rw [cond_neg (by omega)]
  have hkl:k=a3.length:=by omega
  subst hkl
  rw [hz]
  rfl
theorem c36:CallOk Tryd.prog G36 36 r36:=callOk_of mixed tys eV36 Tryd.func36 (by kernel_rfl) (c:=sub (bodyOf Tryd.f36) []) (by kernel_rfl) (by
 intro X H r H' h hX hH
 unfold r36 at h;split at h <;> try contradiction
 ·obtain⟨hp,rfl,rfl⟩:=inj3 h
  obtain rfl:=okB_size (hH _ hm2) rfl
  obtain rfl:=okB_size (hH _ hm3) rfl
  obtain rfl:=okB_size (hH _ hm4) rfl
  obtain rfl:=okB_size (hH _ hm5) rfl
  obtain⟨F,hF⟩:=s36 _ _ _ _ _ _ _ _ _ _ _ _ _ _ hp (hX _ hm1) (hX _ hm2) (hH _ hm0) (hH _ hm1) (hH _ hm2) (hH _ hm3) (hH _ hm4) (hH _ hm5) (hH _ hm6) (hH _ hm7)
  exact⟨Af36 F,(f36_body F _ _ _ _ _ _ _ _ _ _ _ _ _ _).trans hF⟩)
def lV16:List CEnt:=[(6,[none,none],r6),(11,[none],r11),(22,[none],r22),(36,[none,none,some 9],r36)]
def V16:Env:=mkEnv T36 G36 lV16
noncomputable abbrev Kf48:=kFin V16 (some [(4,.plain),(5,.plain),(0,.touch 1),(0,.touch 3)]) (Tryd.f16).results.toList
theorem eV16:EOk Tryd.prog V16:=eok_mk (by exact⟨c6,c11,c22,c36,trivial⟩)
def Af16(F:Nat):Cuts:={ F:=F,at_:=fun _=>none,join:=fun _=>none,fin:=(some [(4,.plain),(5,.plain),(0,.touch 1),(0,.touch 3)]) }
def ef16_a:Ty49→St:=fun (a0N,a0T,a0B,a0x,a0f,a0c,a1n,a1b,a1p,a1w,a1o,a1l,a2)=>⟨[(0,.ptr 0 0 7 0 0 0 7),(1,.str a2)],[(0,(jB 1 5 2 3 4 a0x a0f a0c)),(1,(dB 5 a1n 6 7 a1o a1l)),(2,(iB a0N)),(3,(iB a0B)),(4,(sB a0T)),(5,(bB a1b)),(6,(pB a1p)),(7,(wB a1w))],8,99,8⟩
def f16_1(F:Nat):Ty49→Rz:=fun (a0N,a0T,a0B,a0x,a0f,a0c,a1n,a1b,a1p,a1w,a1o,a1l,a2)=>(cond a0c (some ((.tup (.cons 0 (.int .i64 0) (.cons 0 (.int .i64 22) .nil))),[(jB 1 5 8 3 9 a0x a0f a0c),(dB 5 a1n 6 7 a1o a1l),.gone,(iB a0B),.gone,(bB a1b),(pB a1p),(wB a1w),(iB a0N),(sB a0T)])) (cond (decide ((↑a2.length:Int) > (8000:Int))) (some ((.tup (.cons 0 (.int .i64 0) (.cons 0 (.int .i64 4) .nil))),[(jB 1 5 8 3 9 a0x a0f a0c),(dB 5 a1n 6 7 a1o a1l),.gone,(iB a0B),.gone,(bB a1b),(pB a1p),(wB a1w),(iB a0N),(sB a0T)])) (cond (decide (a0x > (4096:Int))) (some ((.tup (.cons 0 (.int .i64 0) (.cons 0 (.int .i64 4) .nil))),[(jB 1 5 8 3 9 a0x a0f a0c),(dB 5 a1n 6 7 a1o a1l),.gone,(iB a0B),.gone,(bB a1b),(pB a1p),(wB a1w),(iB a0N),(sB a0T)])) (cond (decide ((Jr.count (↑a2.length:Int)) > (IntKind.i64.wrap (((Dk.D.mk a1n a1b a1p a1w a1o a1l).n:Int)-(Jr.J.mk a0N a0T a0B a0x a0f a0c).fin)))) (some ((.tup (.cons 0 (.int .i64 0) (.cons 0 (.int .i64 21) .nil))),[(jE 1 5 8 3 9 (Jr.J.mk a0N a0T a0B a0x a0f a0c)),(dE 5 (Dk.D.mk a1n a1b a1p a1w a1o a1l) 6 7),.gone,(.cells (Jr.J.mk a0N a0T a0B a0x a0f a0c).bad.length (.rI .i64 (Jr.J.mk a0N a0T a0B a0x a0f a0c).bad) true),.gone,(.cells (Dk.D.mk a1n a1b a1p a1w a1o a1l).blk.length (.rI .u8 (Dk.D.mk a1n a1b a1p a1w a1o a1l).blk) true),(pB (Dk.D.mk a1n a1b a1p a1w a1o a1l).pend),(wB (Dk.D.mk a1n a1b a1p a1w a1o a1l).worn),(.cells (Jr.J.mk a0N a0T a0B a0x a0f a0c).nums.length (.rI .i64 (Jr.J.mk a0N a0T a0B a0x a0f a0c).nums) true),(.cells (Jr.J.mk a0N a0T a0B a0x a0f a0c).texts.length (.rS (Jr.J.mk a0N a0T a0B a0x a0f a0c).texts) true)])) (cond ((Dk.fine (Dk.D.mk a1n a1b a1p a1w a1o a1l))&&(decide ((Dk.D.mk a1n a1b a1p a1w a1o a1l).pend.length < 4000∧(Jr.pack (Jr.J.mk a0N a0T a0B a0x a0f a0c).next a2).1.length < 3000∧0≤(Jr.J.mk a0N a0T a0B a0x a0f a0c).fin∧(Jr.J.mk a0N a0T a0B a0x a0f a0c).fin < 100000))) (cond ((Jr.writeAll Jr.DV (Dk.D.mk a1n a1b a1p a1w a1o a1l) (Jr.J.mk a0N a0T a0B a0x a0f a0c).fin (Jr.pack (Jr.J.mk a0N a0T a0B a0x a0f a0c).next a2).1).2.1 != (0:Int)) (some ((.tup (.cons 0 (.int .i64 0) (.cons 0 (.int .i64 (Jr.writeAll Jr.DV (Dk.D.mk a1n a1b a1p a1w a1o a1l) (Jr.J.mk a0N a0T a0B a0x a0f a0c).fin (Jr.pack (Jr.J.mk a0N a0T a0B a0x a0f a0c).next a2).1).2.1) .nil))),[(jB 1 5 8 3 9 (Jr.J.mk (Jr.J.mk a0N a0T a0B a0x a0f a0c).nums (Jr.J.mk a0N a0T a0B a0x a0f a0c).texts (Jr.J.mk a0N a0T a0B a0x a0f a0c).bad (IntKind.i64.wrap ((Jr.J.mk a0N a0T a0B a0x a0f a0c).next+(1:Int))) (IntKind.i64.wrap ((Jr.J.mk a0N a0T a0B a0x a0f a0c).fin+(↑(Jr.pack (Jr.J.mk a0N a0T a0B a0x a0f a0c).next a2).1.length:Int))) (Jr.J.mk a0N a0T a0B a0x a0f a0c).closed).next (Jr.J.mk (Jr.J.mk a0N a0T a0B a0x a0f a0c).nums (Jr.J.mk a0N a0T a0B a0x a0f a0c).texts (Jr.J.mk a0N a0T a0B a0x a0f a0c).bad (IntKind.i64.wrap ((Jr.J.mk a0N a0T a0B a0x a0f a0c).next+(1:Int))) (IntKind.i64.wrap ((Jr.J.mk a0N a0T a0B a0x a0f a0c).fin+(↑(Jr.pack (Jr.J.mk a0N a0T a0B a0x a0f a0c).next a2).1.length:Int))) (Jr.J.mk a0N a0T a0B a0x a0f a0c).closed).fin true),(dE 5 (Jr.writeAll Jr.DV (Dk.D.mk a1n a1b a1p a1w a1o a1l) (Jr.J.mk a0N a0T a0B a0x a0f a0c).fin (Jr.pack (Jr.J.mk a0N a0T a0B a0x a0f a0c).next a2).1).1 6 7),.gone,(.cells (Jr.J.mk (Jr.J.mk a0N a0T a0B a0x a0f a0c).nums (Jr.J.mk a0N a0T a0B a0x a0f a0c).texts (Jr.J.mk a0N a0T a0B a0x a0f a0c).bad (IntKind.i64.wrap ((Jr.J.mk a0N a0T a0B a0x a0f a0c).next+(1:Int))) (IntKind.i64.wrap ((Jr.J.mk a0N a0T a0B a0x a0f a0c).fin+(↑(Jr.pack (Jr.J.mk a0N a0T a0B a0x a0f a0c).next a2).1.length:Int))) (Jr.J.mk a0N a0T a0B a0x a0f a0c).closed).bad.length (.rI .i64 (Jr.J.mk (Jr.J.mk a0N a0T a0B a0x a0f a0c).nums (Jr.J.mk a0N a0T a0B a0x a0f a0c).texts (Jr.J.mk a0N a0T a0B a0x a0f a0c).bad (IntKind.i64.wrap ((Jr.J.mk a0N a0T a0B a0x a0f a0c).next+(1:Int))) (IntKind.i64.wrap ((Jr.J.mk a0N a0T a0B a0x a0f a0c).fin+(↑(Jr.pack (Jr.J.mk a0N a0T a0B a0x a0f a0c).next a2).1.length:Int))) (Jr.J.mk a0N a0T a0B a0x a0f a0c).closed).bad) true),.gone,(.cells (Jr.writeAll Jr.DV (Dk.D.mk a1n a1b a1p a1w a1o a1l) (Jr.J.mk a0N a0T a0B a0x a0f a0c).fin (Jr.pack (Jr.J.mk a0N a0T a0B a0x a0f a0c).next a2).1).1.blk.length (.rI .u8 (Jr.writeAll Jr.DV (Dk.D.mk a1n a1b a1p a1w a1o a1l) (Jr.J.mk a0N a0T a0B a0x a0f a0c).fin (Jr.pack (Jr.J.mk a0N a0T a0B a0x a0f a0c).next a2).1).1.blk) true),(pB (Jr.writeAll Jr.DV (Dk.D.mk a1n a1b a1p a1w a1o a1l) (Jr.J.mk a0N a0T a0B a0x a0f a0c).fin (Jr.pack (Jr.J.mk a0N a0T a0B a0x a0f a0c).next a2).1).1.pend),(wB (Jr.writeAll Jr.DV (Dk.D.mk a1n a1b a1p a1w a1o a1l) (Jr.J.mk a0N a0T a0B a0x a0f a0c).fin (Jr.pack (Jr.J.mk a0N a0T a0B a0x a0f a0c).next a2).1).1.worn),(.cells (Jr.J.mk (Jr.J.mk a0N a0T a0B a0x a0f a0c).nums (Jr.J.mk a0N a0T a0B a0x a0f a0c).texts (Jr.J.mk a0N a0T a0B a0x a0f a0c).bad (IntKind.i64.wrap ((Jr.J.mk a0N a0T a0B a0x a0f a0c).next+(1:Int))) (IntKind.i64.wrap ((Jr.J.mk a0N a0T a0B a0x a0f a0c).fin+(↑(Jr.pack (Jr.J.mk a0N a0T a0B a0x a0f a0c).next a2).1.length:Int))) (Jr.J.mk a0N a0T a0B a0x a0f a0c).closed).nums.length (.rI .i64 (Jr.J.mk (Jr.J.mk a0N a0T a0B a0x a0f a0c).nums (Jr.J.mk a0N a0T a0B a0x a0f a0c).texts (Jr.J.mk a0N a0T a0B a0x a0f a0c).bad (IntKind.i64.wrap ((Jr.J.mk a0N a0T a0B a0x a0f a0c).next+(1:Int))) (IntKind.i64.wrap ((Jr.J.mk a0N a0T a0B a0x a0f a0c).fin+(↑(Jr.pack (Jr.J.mk a0N a0T a0B a0x a0f a0c).next a2).1.length:Int))) (Jr.J.mk a0N a0T a0B a0x a0f a0c).closed).nums) true),(.cells (Jr.J.mk (Jr.J.mk a0N a0T a0B a0x a0f a0c).nums (Jr.J.mk a0N a0T a0B a0x a0f a0c).texts (Jr.J.mk a0N a0T a0B a0x a0f a0c).bad (IntKind.i64.wrap ((Jr.J.mk a0N a0T a0B a0x a0f a0c).next+(1:Int))) (IntKind.i64.wrap ((Jr.J.mk a0N a0T a0B a0x a0f a0c).fin+(↑(Jr.pack (Jr.J.mk a0N a0T a0B a0x a0f a0c).next a2).1.length:Int))) (Jr.J.mk a0N a0T a0B a0x a0f a0c).closed).texts.length (.rS (Jr.J.mk (Jr.J.mk a0N a0T a0B a0x a0f a0c).nums (Jr.J.mk a0N a0T a0B a0x a0f a0c).texts (Jr.J.mk a0N a0T a0B a0x a0f a0c).bad (IntKind.i64.wrap ((Jr.J.mk a0N a0T a0B a0x a0f a0c).next+(1:Int))) (IntKind.i64.wrap ((Jr.J.mk a0N a0T a0B a0x a0f a0c).fin+(↑(Jr.pack (Jr.J.mk a0N a0T a0B a0x a0f a0c).next a2).1.length:Int))) (Jr.J.mk a0N a0T a0B a0x a0f a0c).closed).texts) true)])) (cond (!(Jr.writeAll Jr.DV (Dk.D.mk a1n a1b a1p a1w a1o a1l) (Jr.J.mk a0N a0T a0B a0x a0f a0c).fin (Jr.pack (Jr.J.mk a0N a0T a0B a0x a0f a0c).next a2).1).2.2) (some ((.tup (.cons 0 (.int .i64 0) (.cons 0 (.int .i64 23) .nil))),[(jE 1 5 8 3 9 (Jr.J.mk (Jr.J.mk a0N a0T a0B a0x a0f a0c).nums (Jr.J.mk a0N a0T a0B a0x a0f a0c).texts (Jr.J.mk a0N a0T a0B a0x a0f a0c).bad (IntKind.i64.wrap ((Jr.J.mk a0N a0T a0B a0x a0f a0c).next+(1:Int))) (IntKind.i64.wrap ((Jr.J.mk a0N a0T a0B a0x a0f a0c).fin+(↑(Jr.pack (Jr.J.mk a0N a0T a0B a0x a0f a0c).next a2).1.length:Int))) (Jr.J.mk a0N a0T a0B a0x a0f a0c).closed)),(dE 5 (Jr.writeAll Jr.DV (Dk.D.mk a1n a1b a1p a1w a1o a1l) (Jr.J.mk a0N a0T a0B a0x a0f a0c).fin (Jr.pack (Jr.J.mk a0N a0T a0B a0x a0f a0c).next a2).1).1 6 7),.gone,(.cells (Jr.J.mk (Jr.J.mk a0N a0T a0B a0x a0f a0c).nums (Jr.J.mk a0N a0T a0B a0x a0f a0c).texts (Jr.J.mk a0N a0T a0B a0x a0f a0c).bad (IntKind.i64.wrap ((Jr.J.mk a0N a0T a0B a0x a0f a0c).next+(1:Int))) (IntKind.i64.wrap ((Jr.J.mk a0N a0T a0B a0x a0f a0c).fin+(↑(Jr.pack (Jr.J.mk a0N a0T a0B a0x a0f a0c).next a2).1.length:Int))) (Jr.J.mk a0N a0T a0B a0x a0f a0c).closed).bad.length (.rI .i64 (Jr.J.mk (Jr.J.mk a0N a0T a0B a0x a0f a0c).nums (Jr.J.mk a0N a0T a0B a0x a0f a0c).texts (Jr.J.mk a0N a0T a0B a0x a0f a0c).bad (IntKind.i64.wrap ((Jr.J.mk a0N a0T a0B a0x a0f a0c).next+(1:Int))) (IntKind.i64.wrap ((Jr.J.mk a0N a0T a0B a0x a0f a0c).fin+(↑(Jr.pack (Jr.J.mk a0N a0T a0B a0x a0f a0c).next a2).1.length:Int))) (Jr.J.mk a0N a0T a0B a0x a0f a0c).closed).bad) true),.gone,(.cells (Jr.writeAll Jr.DV (Dk.D.mk a1n a1b a1p a1w a1o a1l) (Jr.J.mk a0N a0T a0B a0x a0f a0c).fin (Jr.pack (Jr.J.mk a0N a0T a0B a0x a0f a0c).next a2).1).1.blk.length (.rI .u8 (Jr.writeAll Jr.DV (Dk.D.mk a1n a1b a1p a1w a1o a1l) (Jr.J.mk a0N a0T a0B a0x a0f a0c).fin (Jr.pack (Jr.J.mk a0N a0T a0B a0x a0f a0c).next a2).1).1.blk) true),(pB (Jr.writeAll Jr.DV (Dk.D.mk a1n a1b a1p a1w a1o a1l) (Jr.J.mk a0N a0T a0B a0x a0f a0c).fin (Jr.pack (Jr.J.mk a0N a0T a0B a0x a0f a0c).next a2).1).1.pend),(wB (Jr.writeAll Jr.DV (Dk.D.mk a1n a1b a1p a1w a1o a1l) (Jr.J.mk a0N a0T a0B a0x a0f a0c).fin (Jr.pack (Jr.J.mk a0N a0T a0B a0x a0f a0c).next a2).1).1.worn),(.cells (Jr.J.mk (Jr.J.mk a0N a0T a0B a0x a0f a0c).nums (Jr.J.mk a0N a0T a0B a0x a0f a0c).texts (Jr.J.mk a0N a0T a0B a0x a0f a0c).bad (IntKind.i64.wrap ((Jr.J.mk a0N a0T a0B a0x a0f a0c).next+(1:Int))) (IntKind.i64.wrap ((Jr.J.mk a0N a0T a0B a0x a0f a0c).fin+(↑(Jr.pack (Jr.J.mk a0N a0T a0B a0x a0f a0c).next a2).1.length:Int))) (Jr.J.mk a0N a0T a0B a0x a0f a0c).closed).nums.length (.rI .i64 (Jr.J.mk (Jr.J.mk a0N a0T a0B a0x a0f a0c).nums (Jr.J.mk a0N a0T a0B a0x a0f a0c).texts (Jr.J.mk a0N a0T a0B a0x a0f a0c).bad (IntKind.i64.wrap ((Jr.J.mk a0N a0T a0B a0x a0f a0c).next+(1:Int))) (IntKind.i64.wrap ((Jr.J.mk a0N a0T a0B a0x a0f a0c).fin+(↑(Jr.pack (Jr.J.mk a0N a0T a0B a0x a0f a0c).next a2).1.length:Int))) (Jr.J.mk a0N a0T a0B a0x a0f a0c).closed).nums) true),(.cells (Jr.J.mk (Jr.J.mk a0N a0T a0B a0x a0f a0c).nums (Jr.J.mk a0N a0T a0B a0x a0f a0c).texts (Jr.J.mk a0N a0T a0B a0x a0f a0c).bad (IntKind.i64.wrap ((Jr.J.mk a0N a0T a0B a0x a0f a0c).next+(1:Int))) (IntKind.i64.wrap ((Jr.J.mk a0N a0T a0B a0x a0f a0c).fin+(↑(Jr.pack (Jr.J.mk a0N a0T a0B a0x a0f a0c).next a2).1.length:Int))) (Jr.J.mk a0N a0T a0B a0x a0f a0c).closed).texts.length (.rS (Jr.J.mk (Jr.J.mk a0N a0T a0B a0x a0f a0c).nums (Jr.J.mk a0N a0T a0B a0x a0f a0c).texts (Jr.J.mk a0N a0T a0B a0x a0f a0c).bad (IntKind.i64.wrap ((Jr.J.mk a0N a0T a0B a0x a0f a0c).next+(1:Int))) (IntKind.i64.wrap ((Jr.J.mk a0N a0T a0B a0x a0f a0c).fin+(↑(Jr.pack (Jr.J.mk a0N a0T a0B a0x a0f a0c).next a2).1.length:Int))) (Jr.J.mk a0N a0T a0B a0x a0f a0c).closed).texts) true)])) (cond (decide (((Jr.J.mk (Jr.J.mk a0N a0T a0B a0x a0f a0c).nums (Jr.J.mk a0N a0T a0B a0x a0f a0c).texts (Jr.J.mk a0N a0T a0B a0x a0f a0c).bad (IntKind.i64.wrap ((Jr.J.mk a0N a0T a0B a0x a0f a0c).next+(1:Int))) (IntKind.i64.wrap ((Jr.J.mk a0N a0T a0B a0x a0f a0c).fin+(↑(Jr.pack (Jr.J.mk a0N a0T a0B a0x a0f a0c).next a2).1.length:Int))) (Jr.J.mk a0N a0T a0B a0x a0f a0c).closed).nums.length+1) < 1073741824)) (cond (decide (((Jr.J.mk (Jr.J.mk a0N a0T a0B a0x a0f a0c).nums (Jr.J.mk a0N a0T a0B a0x a0f a0c).texts (Jr.J.mk a0N a0T a0B a0x a0f a0c).bad (IntKind.i64.wrap ((Jr.J.mk a0N a0T a0B a0x a0f a0c).next+(1:Int))) (IntKind.i64.wrap ((Jr.J.mk a0N a0T a0B a0x a0f a0c).fin+(↑(Jr.pack (Jr.J.mk a0N a0T a0B a0x a0f a0c).next a2).1.length:Int))) (Jr.J.mk a0N a0T a0B a0x a0f a0c).closed).texts.length+1) < 1073741824)) (some ((.tup (.cons 0 (.int .i64 (Jr.J.mk a0N a0T a0B a0x a0f a0c).next) (.cons 0 (.int .i64 0) .nil))),[(jE 1 5 8 3 9 (Jr.J.mk (Jr.J.mk a0N a0T a0B a0x a0f a0c).nums (Jr.J.mk a0N a0T a0B a0x a0f a0c).texts (Jr.J.mk a0N a0T a0B a0x a0f a0c).bad (IntKind.i64.wrap ((Jr.J.mk a0N a0T a0B a0x a0f a0c).next+(1:Int))) (IntKind.i64.wrap ((Jr.J.mk a0N a0T a0B a0x a0f a0c).fin+(↑(Jr.pack (Jr.J.mk a0N a0T a0B a0x a0f a0c).next a2).1.length:Int))) (Jr.J.mk a0N a0T a0B a0x a0f a0c).closed)),(dE 5 (Jr.writeAll Jr.DV (Dk.D.mk a1n a1b a1p a1w a1o a1l) (Jr.J.mk a0N a0T a0B a0x a0f a0c).fin (Jr.pack (Jr.J.mk a0N a0T a0B a0x a0f a0c).next a2).1).1 6 7),.gone,(.cells (Jr.J.mk (Jr.J.mk a0N a0T a0B a0x a0f a0c).nums (Jr.J.mk a0N a0T a0B a0x a0f a0c).texts (Jr.J.mk a0N a0T a0B a0x a0f a0c).bad (IntKind.i64.wrap ((Jr.J.mk a0N a0T a0B a0x a0f a0c).next+(1:Int))) (IntKind.i64.wrap ((Jr.J.mk a0N a0T a0B a0x a0f a0c).fin+(↑(Jr.pack (Jr.J.mk a0N a0T a0B a0x a0f a0c).next a2).1.length:Int))) (Jr.J.mk a0N a0T a0B a0x a0f a0c).closed).bad.length (.rI .i64 (Jr.J.mk (Jr.J.mk a0N a0T a0B a0x a0f a0c).nums (Jr.J.mk a0N a0T a0B a0x a0f a0c).texts (Jr.J.mk a0N a0T a0B a0x a0f a0c).bad (IntKind.i64.wrap ((Jr.J.mk a0N a0T a0B a0x a0f a0c).next+(1:Int))) (IntKind.i64.wrap ((Jr.J.mk a0N a0T a0B a0x a0f a0c).fin+(↑(Jr.pack (Jr.J.mk a0N a0T a0B a0x a0f a0c).next a2).1.length:Int))) (Jr.J.mk a0N a0T a0B a0x a0f a0c).closed).bad) true),.gone,(.cells (Jr.writeAll Jr.DV (Dk.D.mk a1n a1b a1p a1w a1o a1l) (Jr.J.mk a0N a0T a0B a0x a0f a0c).fin (Jr.pack (Jr.J.mk a0N a0T a0B a0x a0f a0c).next a2).1).1.blk.length (.rI .u8 (Jr.writeAll Jr.DV (Dk.D.mk a1n a1b a1p a1w a1o a1l) (Jr.J.mk a0N a0T a0B a0x a0f a0c).fin (Jr.pack (Jr.J.mk a0N a0T a0B a0x a0f a0c).next a2).1).1.blk) true),(pB (Jr.writeAll Jr.DV (Dk.D.mk a1n a1b a1p a1w a1o a1l) (Jr.J.mk a0N a0T a0B a0x a0f a0c).fin (Jr.pack (Jr.J.mk a0N a0T a0B a0x a0f a0c).next a2).1).1.pend),(wB (Jr.writeAll Jr.DV (Dk.D.mk a1n a1b a1p a1w a1o a1l) (Jr.J.mk a0N a0T a0B a0x a0f a0c).fin (Jr.pack (Jr.J.mk a0N a0T a0B a0x a0f a0c).next a2).1).1.worn),(.cells ((Jr.J.mk (Jr.J.mk a0N a0T a0B a0x a0f a0c).nums (Jr.J.mk a0N a0T a0B a0x a0f a0c).texts (Jr.J.mk a0N a0T a0B a0x a0f a0c).bad (IntKind.i64.wrap ((Jr.J.mk a0N a0T a0B a0x a0f a0c).next+(1:Int))) (IntKind.i64.wrap ((Jr.J.mk a0N a0T a0B a0x a0f a0c).fin+(↑(Jr.pack (Jr.J.mk a0N a0T a0B a0x a0f a0c).next a2).1.length:Int))) (Jr.J.mk a0N a0T a0B a0x a0f a0c).closed).nums++[(Jr.J.mk a0N a0T a0B a0x a0f a0c).next]).length (.rI .i64 ((Jr.J.mk (Jr.J.mk a0N a0T a0B a0x a0f a0c).nums (Jr.J.mk a0N a0T a0B a0x a0f a0c).texts (Jr.J.mk a0N a0T a0B a0x a0f a0c).bad (IntKind.i64.wrap ((Jr.J.mk a0N a0T a0B a0x a0f a0c).next+(1:Int))) (IntKind.i64.wrap ((Jr.J.mk a0N a0T a0B a0x a0f a0c).fin+(↑(Jr.pack (Jr.J.mk a0N a0T a0B a0x a0f a0c).next a2).1.length:Int))) (Jr.J.mk a0N a0T a0B a0x a0f a0c).closed).nums++[(Jr.J.mk a0N a0T a0B a0x a0f a0c).next])) true),(.cells ((Jr.J.mk (Jr.J.mk a0N a0T a0B a0x a0f a0c).nums (Jr.J.mk a0N a0T a0B a0x a0f a0c).texts (Jr.J.mk a0N a0T a0B a0x a0f a0c).bad (IntKind.i64.wrap ((Jr.J.mk a0N a0T a0B a0x a0f a0c).next+(1:Int))) (IntKind.i64.wrap ((Jr.J.mk a0N a0T a0B a0x a0f a0c).fin+(↑(Jr.pack (Jr.J.mk a0N a0T a0B a0x a0f a0c).next a2).1.length:Int))) (Jr.J.mk a0N a0T a0B a0x a0f a0c).closed).texts++[a2]).length (.rS ((Jr.J.mk (Jr.J.mk a0N a0T a0B a0x a0f a0c).nums (Jr.J.mk a0N a0T a0B a0x a0f a0c).texts (Jr.J.mk a0N a0T a0B a0x a0f a0c).bad (IntKind.i64.wrap ((Jr.J.mk a0N a0T a0B a0x a0f a0c).next+(1:Int))) (IntKind.i64.wrap ((Jr.J.mk a0N a0T a0B a0x a0f a0c).fin+(↑(Jr.pack (Jr.J.mk a0N a0T a0B a0x a0f a0c).next a2).1.length:Int))) (Jr.J.mk a0N a0T a0B a0x a0f a0c).closed).texts++[a2])) true)])) none) none))) none)))))
theorem f16_1_eq(F:Nat):∀ v,aexec V16 (Af16 F) (sub (bodyOf Tryd.f16) []) (ef16_a v) Kf48=f16_1 F v:=by
 rintro⟨a0N,a0T,a0B,a0x,a0f,a0c,a1n,a1b,a1p,a1w,a1o,a1l,a2⟩;kernel_rfl
def f16(F:Nat):Ty49→Rz:=f16_1 F
theorem f16_body(F:Nat)(a0N:Li)(a0T:List Li)(a0B:Li)(a0x a0f:Int)(a0c:Bool)(a1n:Nat)(a1b:Li)(a1p a1w:Lp)(a1o:Bool)(a1l:Int)(a2:Li):abody V16 (Af16 F) Tryd.f16 [(.ptr 0 0 7 0 0 0 7),.str a2] [(jB 1 5 2 3 4 a0x a0f a0c),(dB 5 a1n 6 7 a1o a1l),(iB a0N),(iB a0B),(sB a0T),(bB a1b),(pB a1p),(wB a1w)]=f16 F (a0N,a0T,a0B,a0x,a0f,a0c,a1n,a1b,a1p,a1w,a1o,a1l,a2):=
 (abody_in (by kernel_rfl) (by kernel_rfl)).trans (f16_1_eq F (a0N,a0T,a0B,a0x,a0f,a0c,a1n,a1b,a1p,a1w,a1o,a1l,a2))
def r16:CRun:=fun X H=>match X,H with
 | [(.ptr 0 0 7 0 0 0 7),.str a2],[(.cells 7 (.segs (.cons 1 (.one (.ptr 1 0 5 0 0 0 5)) (.cons 1 (.one (.own 2 0 1)) (.cons 1 (.one (.own 3 0 1)) (.cons 1 (.one (.own 4 0 1)) (.cons 1 (.one (.int .i64 a0x)) (.cons 1 (.one (.int .i64 a0f)) (.cons 1 (.one (.bool a0c)) .nil)))))))) true),(.cells 5 (.segs (.cons 1 (.one (.own 5 a1n 64)) (.cons 1 (.one (.mp 6)) (.cons 1 (.one (.mp 7)) (.cons 1 (.one (.bool a1o)) (.cons 1 (.one (.int .i64 a1l)) .nil)))))) true),(.cells z2 (.rI .i64 a0N) true),(.cells z3 (.rI .i64 a0B) true),(.cells z4 (.rS a0T) true),(.cells z5 (.rI .u8 a1b) true),(.cells 0 (.rM .i64 0 (.arr .u8 64) a1p) true),(.cells 0 (.rM .i64 0 .bool a1w) true)]=>some ((Dk.fine (Dk.D.mk a1n a1b a1p a1w a1o a1l))&&(Jr.okJ (Dk.D.mk a1n a1b a1p a1w a1o a1l) (Jr.J.mk a0N a0T a0B a0x a0f a0c)),(.tup (.cons 0 (.int .i64 (Jr.append Jr.DV (Dk.D.mk a1n a1b a1p a1w a1o a1l) (Jr.J.mk a0N a0T a0B a0x a0f a0c) a2).2.2.1) (.cons 0 (.int .i64 (Jr.append Jr.DV (Dk.D.mk a1n a1b a1p a1w a1o a1l) (Jr.J.mk a0N a0T a0B a0x a0f a0c) a2).2.2.2) .nil))),[(jE 1 5 8 3 9 (Jr.append Jr.DV (Dk.D.mk a1n a1b a1p a1w a1o a1l) (Jr.J.mk a0N a0T a0B a0x a0f a0c) a2).2.1),(dE 5 (Jr.append Jr.DV (Dk.D.mk a1n a1b a1p a1w a1o a1l) (Jr.J.mk a0N a0T a0B a0x a0f a0c) a2).1 6 7),.gone,(.cells (Jr.append Jr.DV (Dk.D.mk a1n a1b a1p a1w a1o a1l) (Jr.J.mk a0N a0T a0B a0x a0f a0c) a2).2.1.bad.length (.rI .i64 (Jr.append Jr.DV (Dk.D.mk a1n a1b a1p a1w a1o a1l) (Jr.J.mk a0N a0T a0B a0x a0f a0c) a2).2.1.bad) true),.gone,(.cells (Jr.append Jr.DV (Dk.D.mk a1n a1b a1p a1w a1o a1l) (Jr.J.mk a0N a0T a0B a0x a0f a0c) a2).1.blk.length (.rI .u8 (Jr.append Jr.DV (Dk.D.mk a1n a1b a1p a1w a1o a1l) (Jr.J.mk a0N a0T a0B a0x a0f a0c) a2).1.blk) true),(pB (Jr.append Jr.DV (Dk.D.mk a1n a1b a1p a1w a1o a1l) (Jr.J.mk a0N a0T a0B a0x a0f a0c) a2).1.pend),(wB (Jr.append Jr.DV (Dk.D.mk a1n a1b a1p a1w a1o a1l) (Jr.J.mk a0N a0T a0B a0x a0f a0c) a2).1.worn),(.cells (Jr.append Jr.DV (Dk.D.mk a1n a1b a1p a1w a1o a1l) (Jr.J.mk a0N a0T a0B a0x a0f a0c) a2).2.1.nums.length (.rI .i64 (Jr.append Jr.DV (Dk.D.mk a1n a1b a1p a1w a1o a1l) (Jr.J.mk a0N a0T a0B a0x a0f a0c) a2).2.1.nums) true),(.cells (Jr.append Jr.DV (Dk.D.mk a1n a1b a1p a1w a1o a1l) (Jr.J.mk a0N a0T a0B a0x a0f a0c) a2).2.1.texts.length (.rS (Jr.append Jr.DV (Dk.D.mk a1n a1b a1p a1w a1o a1l) (Jr.J.mk a0N a0T a0B a0x a0f a0c) a2).2.1.texts) true)])
 | _,_=>none
theorem s16(a0N:Li)(a0T:List Li)(a0B:Li)(a0x a0f:Int)(a0c:Bool)(a1n:Nat)(a1b:Li)(a1p a1w:Lp)(a1o:Bool)(a1l:Int)(a2:Li)(hp:((Dk.fine (Dk.D.mk a1n a1b a1p a1w a1o a1l))&&(Jr.okJ (Dk.D.mk a1n a1b a1p a1w a1o a1l) (Jr.J.mk a0N a0T a0B a0x a0f a0c)))=true)(h1:okV (.str a2))(k0:okB (jB 1 5 2 3 4 a0x a0f a0c))(k1:okB (dB 5 a1n 6 7 a1o a1l))(k2:okB (iB a0N))(k3:okB (iB a0B))(k4:okB (sB a0T))(k5:okB (bB a1b))(k6:okB (pB a1p))(k7:okB (wB a1w)):∃ F,f16 F (a0N,a0T,a0B,a0x,a0f,a0c,a1n,a1b,a1p,a1w,a1o,a1l,a2)=some ((.tup (.cons 0 (.int .i64 (Jr.append Jr.DV (Dk.D.mk a1n a1b a1p a1w a1o a1l) (Jr.J.mk a0N a0T a0B a0x a0f a0c) a2).2.2.1) (.cons 0 (.int .i64 (Jr.append Jr.DV (Dk.D.mk a1n a1b a1p a1w a1o a1l) (Jr.J.mk a0N a0T a0B a0x a0f a0c) a2).2.2.2) .nil))),[(jE 1 5 8 3 9 (Jr.append Jr.DV (Dk.D.mk a1n a1b a1p a1w a1o a1l) (Jr.J.mk a0N a0T a0B a0x a0f a0c) a2).2.1),(dE 5 (Jr.append Jr.DV (Dk.D.mk a1n a1b a1p a1w a1o a1l) (Jr.J.mk a0N a0T a0B a0x a0f a0c) a2).1 6 7),.gone,(.cells (Jr.append Jr.DV (Dk.D.mk a1n a1b a1p a1w a1o a1l) (Jr.J.mk a0N a0T a0B a0x a0f a0c) a2).2.1.bad.length (.rI .i64 (Jr.append Jr.DV (Dk.D.mk a1n a1b a1p a1w a1o a1l) (Jr.J.mk a0N a0T a0B a0x a0f a0c) a2).2.1.bad) true),.gone,(.cells (Jr.append Jr.DV (Dk.D.mk a1n a1b a1p a1w a1o a1l) (Jr.J.mk a0N a0T a0B a0x a0f a0c) a2).1.blk.length (.rI .u8 (Jr.append Jr.DV (Dk.D.mk a1n a1b a1p a1w a1o a1l) (Jr.J.mk a0N a0T a0B a0x a0f a0c) a2).1.blk) true),(pB (Jr.append Jr.DV (Dk.D.mk a1n a1b a1p a1w a1o a1l) (Jr.J.mk a0N a0T a0B a0x a0f a0c) a2).1.pend),(wB (Jr.append Jr.DV (Dk.D.mk a1n a1b a1p a1w a1o a1l) (Jr.J.mk a0N a0T a0B a0x a0f a0c) a2).1.worn),(.cells (Jr.append Jr.DV (Dk.D.mk a1n a1b a1p a1w a1o a1l) (Jr.J.mk a0N a0T a0B a0x a0f a0c) a2).2.1.nums.length (.rI .i64 (Jr.append Jr.DV (Dk.D.mk a1n a1b a1p a1w a1o a1l) (Jr.J.mk a0N a0T a0B a0x a0f a0c) a2).2.1.nums) true),(.cells (Jr.append Jr.DV (Dk.D.mk a1n a1b a1p a1w a1o a1l) (Jr.J.mk a0N a0T a0B a0x a0f a0c) a2).2.1.texts.length (.rS (Jr.append Jr.DV (Dk.D.mk a1n a1b a1p a1w a1o a1l) (Jr.J.mk a0N a0T a0B a0x a0f a0c) a2).2.1.texts) true)]):=by
 obtain⟨hf,hp⟩:=Bool.and_eq_true_iff.1 hp
 obtain⟨q1,q2,q3,q4,q5,q6,q7⟩:=of_decide_eq_true hp
 have hn:Dk.fine (Dk.D.mk a1n a1b a1p a1w a1o a1l)=true:=hf
 have hn8:=(Dk.fine_iff hf).1.1
 refine⟨0,?_⟩
 simp only [f16,f16_1]
 have q2:0≤a0f:=q2
 have q3:a0f < 100000:=q3
 have q4:0 < a0x:=q4
 have q5:a0x < 100000:=q5
 have q6:a0N.length < 100000:=q6
 have q7:a0T.length < 100000:=q7
 have hn8:a1n < 8000:=hn8
 simp only [Jr.append,show Jr.DV.n (Dk.D.mk a1n a1b a1p a1w a1o a1l)=(a1n:Int) from rfl]
 cases a0c with
 | true=>rfl
 | false=>
 simp only [cond_false]
 by_cases h1:(8000:Int) < (a2.length:Int)
 ·rw [decide_eq_true h1];rfl
 rw [decide_eq_false h1]
 simp only [cond_false]
 by_cases h2:a0x > (4096:Int)
 ·rw [decide_eq_true h2];rfl
 rw [decide_eq_false h2]
 simp only [cond_false]
 rw [i64w (x:=(a1n:Int)-a0f) (by omega) (by omega)]
 by_cases h3:Jr.count (a2.length:Int) > (a1n:Int)-a0f
 ·rw [decide_eq_true h3];rfl
 rw [decide_eq_false h3]
 simp only [cond_false]
 have hpk:Jr.pack a0x a2=(Jr.sectors a0x a2,0):=by
  unfold Jr.pack
  rw [cond_neg (by omega),cond_neg h1]
 have hct:=(Jr.count_ok (n:=a2.length) (by omega))
 have hsl:(Jr.sectors a0x a2).length=(Jr.count a2.length).toNat:=Jr.sectors_len _ _
 have hsi:(((Jr.sectors a0x a2).length:Nat):Int)=Jr.count a2.length:=by omega
 simp only [hpk,hsi]
 rw [hn,Bool.true_and,cond_pos ⟨q1,by omega,q2,q3⟩,i64w (x:=a0x+1) (by omega) (by omega),i64w (x:=a0f+Jr.count (a2.length:Int)) (by omega) (by omega)]
 cases ((Jr.writeAll Jr.DV (Dk.D.mk a1n a1b a1p a1w a1o a1l) a0f (Jr.sectors a0x a2)).2.1 != 0) with
 | true=>rfl
 | false=>
 cases (!(Jr.writeAll Jr.DV (Dk.D.mk a1n a1b a1p a1w a1o a1l) a0f (Jr.sectors a0x a2)).2.2) with
 | true=>rfl
 | false=>
 simp only [cond_false]
 rw [cond_pos (by omega),cond_pos (by omega)]
theorem c16:CallOk Tryd.prog G36 16 r16:=callOk_of mixed tys eV16 Tryd.func16 (by kernel_rfl) (c:=sub (bodyOf Tryd.f16) []) (by kernel_rfl) (by
 intro X H r H' h hX hH
 unfold r16 at h;split at h <;> try contradiction
 ·obtain⟨hp,rfl,rfl⟩:=inj3 h
  obtain rfl:=okB_size (hH _ hm2) rfl
  obtain rfl:=okB_size (hH _ hm3) rfl
  obtain rfl:=okB_size (hH _ hm4) rfl
  obtain rfl:=okB_size (hH _ hm5) rfl
  obtain⟨F,hF⟩:=s16 _ _ _ _ _ _ _ _ _ _ _ _ _ hp (hX _ hm1) (hH _ hm0) (hH _ hm1) (hH _ hm2) (hH _ hm3) (hH _ hm4) (hH _ hm5) (hH _ hm6) (hH _ hm7)
  exact⟨Af16 F,(f16_body F _ _ _ _ _ _ _ _ _ _ _ _ _).trans hF⟩)
end Go.Am
