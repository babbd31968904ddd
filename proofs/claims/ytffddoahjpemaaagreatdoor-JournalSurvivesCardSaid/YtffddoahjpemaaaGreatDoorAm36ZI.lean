/- Part of a proof. -/
import Derived.Test.YtffddoahjpemaaaGreatDoorAm36ZH
import Derived.Test.YtffddoahjpemaaaGreatDoorAmPackOk36Z
set_option linter.unusedVariables false
set_option linter.unusedSimpArgs false
namespace Go.Am
open Go Go.Proofs
abbrev NK:List (Nat×Md):=[(0,.plain),(1,.plain),(2,.plain),(17,.plain),(18,.plain),(19,.plain)]
abbrev NL:List (Nat×Md):=[(0,.plain),(1,.plain),(12,.plain),(45,.plain),(46,.plain),(47,.plain)]
abbrev kV:List (Nat×Md):=[(0,.plain),(1,.plain),(2,.plain)]
abbrev a02:List (Nat×Md):=[(0,.plain),(1,.plain),(2,.plain),(12,.plain)]
abbrev abZ:=Li×(List Li)×Li×Int×Int×Bool×Nat×Li×(Lp)×(Lp)×Bool×Int×Int×(List Li)
abbrev ku:=Int×(List Li)×(Dk.D)×(Jr.J)
abbrev sf:=Int×(List Li)×(List Li)×Int×Int×(Dk.D)×(Jr.J)
abbrev ab0:=Int×(List Li)×Bool×(Dk.D)×(Jr.J)
abbrev si:=Int×Bool×(List Li)×Int×Int×(Dk.D)×(Jr.J)
abbrev ab1:=Li×(List Li)×Li×Int×Int×Bool×Nat×Li×(Lp)×(Lp)×Bool×Int×Li
def a5S:List aF:=[(32,[none,none,none],r32),(44,[none,none],r44),(79,[none],r79)]
def V49:Env:=ar aE ao a5S
noncomputable abbrev dT:=aI V49 none (Tryz.f49).results.toList
theorem a5T:EOk Tryz.prog V49:=aj (by exact⟨c32,c44,c79,trivial⟩)
def a5U(F:Nat):Cuts:={ F:=F,at_:=fun n=>match n with | 2020=>some NK | 13022=>some NL | _=>none,join:=fun n=>match n with | 1067=>some kV | 2022=>some NK | 8042=>some kV | 11032=>some kV | 12030=>some a02 | 13024=>some NL | 20003=>some [(12,.plain)] | _=>none }
abbrev dU(F n:Nat){σ:Type}(e:σ→St)(K:Ex→St→Rz)(N:σ→Rz):=Qe V49 (a5U F) (bp Tryz.f49 n) e K N
def UP:abZ→St:=fun (a,b,c,d,e,f,g,h,i,j,k,l,m,n)=>hS [pS 0 0 7,iS 1 m,(2,(z12 n))] [jB 1 5 2 3 4 d e f,dB 5 g 6 7 k l,iB a,iB c,sB b,bB h,pB i,wB j] 74 8
def lQ:ku→St:=fun (c,d,a,b)=>hS [pS 0 0 7,iS 1 c,(2,(z12 d))] [jE 1 5 2 3 4 b,dE 5 a 6 7,iB b.nums,iB b.bad,sB b.texts,bB a.blk,pB a.pend,wB a.worn] 74 8
def vR:sf→St:=fun (c,d,e,f,g,a,b)=>hS [pS 0 0 7,iS 1 c,(2,(z12 d)),(17,(z12 e)),iS 18 f,iS 19 g] [jE 1 5 2 3 4 b,dE 5 a 6 7,iB b.nums,iB b.bad,sB b.texts,bB a.blk,pB a.pend,wB a.worn] 74 8
def UQ:sf→St:=vR
def gZ:ku→St:=lQ
def GR:ku→St:=lQ
def vS:ab0→St:=fun (c,d,e,a,b)=>hS [pS 0 0 7,iS 1 c,(2,(z12 d)),(12,.bool e)] [jE 1 5 2 3 4 b,dE 5 a 6 7,iB b.nums,iB b.bad,sB b.texts,bB a.blk,pB a.pend,wB a.worn] 74 8
def vT:si→St:=fun (c,d,e,f,g,a,b)=>hS [pS 0 0 7,iS 1 c,(12,.bool d),(45,(z12 e)),iS 46 f,iS 47 g] [jE 1 5 2 3 4 b,dE 5 a 6 7,iB b.nums,iB b.bad,sB b.texts,bB a.blk,pB a.pend,wB a.worn] 74 8
def UR:si→St:=vT
def jg:Bool×(Dk.D)×(Jr.J)→St:=fun (c,a,b)=>hS [(12,.bool c)] [jE 1 5 2 3 4 b,dE 5 a 6 7,iB b.nums,iB b.bad,sB b.texts,bB a.blk,pB a.pend,wB a.worn] 74 8
def BO(F:Nat)(a:ku→Rz):abZ→Rz:=fun (b,c,d,e,f,g,h,i,j,k,l,m,n,o)=>(a (n,o,(Dk.D.mk h i j k l m),(Jr.J.mk b c d e f g)))
theorem ab2 F Rj1:dU F 2 UP (kq V49 Rj1 kV dT) (BO F (Rj1∘lQ)):=fun _=>by kernel_rfl
def BP(F:Nat)(b:sf→Rz)(f:ku→Rz):ku→Rz:=fun (c,a,d,e)=>(b (c,a,a,(↑a.length:Int),(0:Int),d,e))
theorem ab3 F Rj2 Rj3:dU F 12 lQ (kq V49 Rj2 NK (kq V49 Rj3 kV dT)) (BP F (Rj2∘vR) (Rj3∘gZ)):=fun _=>by kernel_rfl
def BQ(F:Nat)(h:sf→Rz)(i:ku→Rz):sf→Rz:=fun (b,f,c,g,a,d,e)=>(cond (decide (a < g)) (cond ((decide (0≤a))&&(decide (a < (↑c.length:Int)))) (cond ((Dk.write d (IntKind.i64.wrap (b+a)) (c.getD (Int.toNat a) [])).2 != (0:Int)) (some ((.tup (.cons 0 (.int .i64 (Dk.write d (IntKind.i64.wrap (b+a)) (c.getD (Int.toNat a) [])).2) (.cons 0 (.bool false) .nil))),[(jE 1 5 2 3 4 e),(dE 5 (Dk.write d (IntKind.i64.wrap (b+a)) (c.getD (Int.toNat a) [])).1 6 7),(iB e.nums),(iB e.bad),(sB e.texts),(.cells (Dk.write d (IntKind.i64.wrap (b+a)) (c.getD (Int.toNat a) [])).1.blk.length (.rI .u8 (Dk.write d (IntKind.i64.wrap (b+a)) (c.getD (Int.toNat a) [])).1.blk) true),(pB (Dk.write d (IntKind.i64.wrap (b+a)) (c.getD (Int.toNat a) [])).1.pend),(wB (Dk.write d (IntKind.i64.wrap (b+a)) (c.getD (Int.toNat a) [])).1.worn)])) (h (b,f,c,g,(IntKind.i64.wrap (a+(1:Int))),(Dk.write d (IntKind.i64.wrap (b+a)) (c.getD (Int.toNat a) [])).1,e))) none) (i (b,f,d,e)))
theorem ab4 F Rl1 Rj3:dU F 52 UQ (kq V49 Rl1 NK (ae 0 (kq V49 Rj3 kV dT))) (BQ F (Rl1∘UQ) (Rj3∘gZ)):=fun _=>by kernel_rfl
def yC:sf→Int×(List Li)×(List Li)×Int×Int×(Dk.D)×(Jr.J):=fun (a,b,c,d,e,f,g)=>(a,b,c,d,e,f,g)
def NM(F:Nat)(a:ku→Rz):sf→Rz:=fun v=>ay (fun k=>BQ F k a) F (yC v)
theorem ab5 F Rj3:dU F 26 vR (ae 0 (kq V49 Rj3 kV dT)) (NM F (Rj3∘gZ)):=lpC yC (fun k=>BQ F k (Rj3∘gZ)) (fun Rl1=>ab4 F Rl1 Rj3)
def NN(F:Nat)(a):=NM F a
theorem ab6 F Rj3:dU F 13 vR (kq V49 Rj3 kV dT) (NN F (Rj3∘gZ)):=biC (ab5 F Rj3)
def BS(F:Nat)(a):=BP F (NN F a) a
theorem ab7 F Rj3:dU F 6 lQ (kq V49 Rj3 kV dT) (BS F (Rj3∘gZ)):=sqC (fun k=>BP F k (Rj3∘gZ)) (fun Rj2=>ab3 F Rj2 Rj3) (ab6 F Rj3)
def BU(F:Nat)(c:ku→Rz):ku→Rz:=fun (d,e,a,b)=>(cond (Dk.fine a) (cond ((Dk.flush a).2 != (0:Int)) (some ((.tup (.cons 0 (.int .i64 (Dk.flush a).2) (.cons 0 (.bool false) .nil))),[(jE 1 5 2 3 4 b),(dE 5 (Dk.flush a).1 6 7),(iB b.nums),(iB b.bad),(sB b.texts),(.cells (Dk.flush a).1.blk.length (.rI .u8 (Dk.flush a).1.blk) true),(pB (Dk.flush a).1.pend),(wB (Dk.flush a).1.worn)])) (c (d,e,(Dk.flush a).1,b))) none)
theorem ab8 F Rj4:dU F 14 gZ (kq V49 Rj4 kV dT) (BU F (Rj4∘GR)):=fun _=>by kernel_rfl
def BV(F:Nat)(a:ab0→Rz):ku→Rz:=fun (b,c,d,e)=>(a (b,c,true,d,e))
theorem ab9 F Rj5:dU F 30 GR (kq V49 Rj5 a02 dT) (BV F (Rj5∘vS)):=fun _=>by kernel_rfl
def BW(F:Nat)(b:si→Rz)(g:Bool×(Dk.D)×(Jr.J)→Rz):ab0→Rz:=fun (c,a,d,e,f)=>(b (c,d,a,(↑a.length:Int),(0:Int),e,f))
theorem aca F Rj6 Rj7:dU F 124 vS (kq V49 Rj6 NL (kq V49 Rj7 [(12,.plain)] dT)) (BW F (Rj6∘vT) (Rj7∘jg)):=fun _=>by kernel_rfl
def vU(F:Nat)(g:si→Rz)(i:Bool×(Dk.D)×(Jr.J)→Rz):si→Rz:=fun (d,h,e,f,b,a,c)=>(cond (decide (b < f)) (cond ((decide (0≤b))&&(decide (b < (↑e.length:Int)))) (cond ((Dk.read a (IntKind.i64.wrap (d+b))).2 != (0:Int)) (some ((.tup (.cons 0 (.int .i64 (Dk.read a (IntKind.i64.wrap (d+b))).2) (.cons 0 (.bool false) .nil))),[(jE 1 5 2 3 4 c),(dE 5 a 6 7),(iB c.nums),(iB c.bad),(sB c.texts),(bB a.blk),(pB a.pend),(wB a.worn)])) (cond h (g (d,(((e.getD (Int.toNat b) []):Li)==((Dk.read a (IntKind.i64.wrap (d+b))).1:Li)),e,f,(IntKind.i64.wrap (b+(1:Int))),a,c)) (g (d,false,e,f,(IntKind.i64.wrap (b+(1:Int))),a,c)))) none) (i (h,a,c)))
theorem US F Rl2 Rj7:dU F 500 UR (kq V49 Rl2 NL (ae 2 (kq V49 Rj7 [(12,.plain)] dT))) (vU F (Rl2∘UR) (Rj7∘jg)):=fun _=>by kernel_rfl
def sj:si→Int×Bool×(List Li)×Int×Int×(Dk.D)×(Jr.J):=fun (a,b,c,d,e,f,g)=>(a,b,c,d,e,f,g)
def GT(F:Nat)(a:Bool×(Dk.D)×(Jr.J)→Rz):si→Rz:=fun v=>ay (fun k=>vU F k a) F (sj v)
theorem UT F Rj7:dU F 250 vT (ae 2 (kq V49 Rj7 [(12,.plain)] dT)) (GT F (Rj7∘jg)):=lpC sj (fun k=>vU F k (Rj7∘jg)) (fun Rl2=>US F Rl2 Rj7)
def GU(F:Nat)(a):=GT F a
theorem UU F Rj7:dU F 125 vT (kq V49 Rj7 [(12,.plain)] dT) (GU F (Rj7∘jg)):=biC (UT F Rj7)
def vV(F:Nat)(a):=BW F (GU F a) a
theorem UV F Rj7:dU F 62 vS (kq V49 Rj7 [(12,.plain)] dT) (vV F (Rj7∘jg)):=sqC (fun k=>BW F k (Rj7∘jg)) (fun Rj6=>aca F Rj6 Rj7) (UU F Rj7)
def GV(F:Nat):Bool×(Dk.D)×(Jr.J)→Rz:=fun (c,a,b)=>(some ((.tup (.cons 0 (.int .i64 0) (.cons 0 (.bool c) .nil))),[(jE 1 5 2 3 4 b),(dE 5 a 6 7),(iB b.nums),(iB b.bad),(sB b.texts),(bB a.blk),(pB a.pend),(wB a.worn)]))
theorem UW F:dU F 63 jg dT (GV F):=fun _=>by kernel_rfl
def GW(F:Nat):=vV F (GV F)
theorem UX F:dU F 31 vS dT (GW F):=sqC (vV F) (fun Rj7=>UV F Rj7) (UW F)
def GX(F:Nat):=BV F (GW F)
theorem UY F:dU F 15 GR dT (GX F):=sqC (BV F) (fun Rj5=>ab9 F Rj5) (UX F)
def vW(F:Nat):=BU F (GX F)
theorem UZ F:dU F 7 gZ dT (vW F):=sqC (BU F) (fun Rj4=>ab8 F Rj4) (UY F)
def GY(F:Nat):=BS F (vW F)
theorem U1 F:dU F 3 lQ dT (GY F):=sqC (BS F) (fun Rj3=>ab7 F Rj3) (UZ F)
def GZ(F:Nat):=BO F (GY F)
theorem U2 F:dU F 1 UP dT (GZ F):=sqC (BO F) (fun Rj1=>ab2 F Rj1) (U1 F)
def f49(F:Nat):abZ→Rz:=GZ F
def r49:aB:=fun X H=>match X,H with
 | [(.ptr 0 0 7 0 0 0 7),.int .i64 a2,(.vs (.rS a3) 0 1)],[(.cells 7 (.segs (.cons 1 (.one (.ptr 1 0 5 0 0 0 5)) (.cons 1 (.one (.own 2 0 1)) (.cons 1 (.one (.own 3 0 1)) (.cons 1 (.one (.own 4 0 1)) (.cons 1 (.one (.int .i64 a0x)) (.cons 1 (.one (.int .i64 a0f)) (.cons 1 (.one (.bool a0c)) .nil)))))))) true),(.cells 5 (.segs (.cons 1 (.one (.own 5 a1n 64)) (.cons 1 (.one (.mp 6)) (.cons 1 (.one (.mp 7)) (.cons 1 (.one (.bool a1o)) (.cons 1 (.one (.int .i64 a1l)) .nil)))))) true),(.cells z2 (.rI .i64 a0N) true),(.cells z3 (.rI .i64 a0B) true),(.cells z4 (.rS a0T) true),(.cells z5 (.rI .u8 a1b) true),(.cells 0 (.rM .i64 0 (.arr .u8 64) a1p) true),(.cells 0 (.rM .i64 0 .bool a1w) true)]=>some ((Dk.fine (Dk.D.mk a1n a1b a1p a1w a1o a1l))&&(decide ((Dk.D.mk a1n a1b a1p a1w a1o a1l).pend.length < 4000∧a3.length < 3000∧0≤a2∧a2 < 100000)),(.tup (.cons 0 (.int .i64 (Jr.writeAll Jr.DV (Dk.D.mk a1n a1b a1p a1w a1o a1l) a2 a3).2.1) (.cons 0 (.bool (Jr.writeAll Jr.DV (Dk.D.mk a1n a1b a1p a1w a1o a1l) a2 a3).2.2) .nil))),[(jE 1 5 2 3 4 (Jr.J.mk a0N a0T a0B a0x a0f a0c)),(dE 5 (Jr.writeAll Jr.DV (Dk.D.mk a1n a1b a1p a1w a1o a1l) a2 a3).1 6 7),(.cells (Jr.J.mk a0N a0T a0B a0x a0f a0c).nums.length (.rI .i64 (Jr.J.mk a0N a0T a0B a0x a0f a0c).nums) true),(.cells (Jr.J.mk a0N a0T a0B a0x a0f a0c).bad.length (.rI .i64 (Jr.J.mk a0N a0T a0B a0x a0f a0c).bad) true),(.cells (Jr.J.mk a0N a0T a0B a0x a0f a0c).texts.length (.rS (Jr.J.mk a0N a0T a0B a0x a0f a0c).texts) true),(.cells (Jr.writeAll Jr.DV (Dk.D.mk a1n a1b a1p a1w a1o a1l) a2 a3).1.blk.length (.rI .u8 (Jr.writeAll Jr.DV (Dk.D.mk a1n a1b a1p a1w a1o a1l) a2 a3).1.blk) true),(pB (Jr.writeAll Jr.DV (Dk.D.mk a1n a1b a1p a1w a1o a1l) a2 a3).1.pend),(wB (Jr.writeAll Jr.DV (Dk.D.mk a1n a1b a1p a1w a1o a1l) a2 a3).1.worn)])
 | _,_=>none
theorem s49(a0N:Li)(a0T:List Li)(a0B:Li)(a0x a0f:Int)(a0c:Bool)(a1n:Nat)(a1b:Li)(a1p a1w:Lp)(a1o:Bool)(a1l a2:Int)(a3:List Li)(hp:((Dk.fine (Dk.D.mk a1n a1b a1p a1w a1o a1l))&&(decide ((Dk.D.mk a1n a1b a1p a1w a1o a1l).pend.length < 4000∧a3.length < 3000∧0≤a2∧a2 < 100000)))=true)(h1:okV (.int .i64 a2))(h2:okV (.vs (.rS a3) 0 1))(k0:okB (jB 1 5 2 3 4 a0x a0f a0c))(k1:okB (dB 5 a1n 6 7 a1o a1l))(k2:okB (iB a0N))(k3:okB (iB a0B))(k4:okB (sB a0T))(k5:okB (bB a1b))(k6:okB (pB a1p))(k7:okB (wB a1w)):∃ F,f49 F (a0N,a0T,a0B,a0x,a0f,a0c,a1n,a1b,a1p,a1w,a1o,a1l,a2,a3)=some ((.tup (.cons 0 (.int .i64 (Jr.writeAll Jr.DV (Dk.D.mk a1n a1b a1p a1w a1o a1l) a2 a3).2.1) (.cons 0 (.bool (Jr.writeAll Jr.DV (Dk.D.mk a1n a1b a1p a1w a1o a1l) a2 a3).2.2) .nil))),[(jE 1 5 2 3 4 (Jr.J.mk a0N a0T a0B a0x a0f a0c)),(dE 5 (Jr.writeAll Jr.DV (Dk.D.mk a1n a1b a1p a1w a1o a1l) a2 a3).1 6 7),(.cells (Jr.J.mk a0N a0T a0B a0x a0f a0c).nums.length (.rI .i64 (Jr.J.mk a0N a0T a0B a0x a0f a0c).nums) true),(.cells (Jr.J.mk a0N a0T a0B a0x a0f a0c).bad.length (.rI .i64 (Jr.J.mk a0N a0T a0B a0x a0f a0c).bad) true),(.cells (Jr.J.mk a0N a0T a0B a0x a0f a0c).texts.length (.rS (Jr.J.mk a0N a0T a0B a0x a0f a0c).texts) true),(.cells (Jr.writeAll Jr.DV (Dk.D.mk a1n a1b a1p a1w a1o a1l) a2 a3).1.blk.length (.rI .u8 (Jr.writeAll Jr.DV (Dk.D.mk a1n a1b a1p a1w a1o a1l) a2 a3).1.blk) true),(pB (Jr.writeAll Jr.DV (Dk.D.mk a1n a1b a1p a1w a1o a1l) a2 a3).1.pend),(wB (Jr.writeAll Jr.DV (Dk.D.mk a1n a1b a1p a1w a1o a1l) a2 a3).1.worn)]):=by
 obtain⟨hf,hp⟩:=Bool.and_eq_true_iff.1 hp
 obtain⟨q1,q2,q3,q4⟩:=of_decide_eq_true hp
 refine⟨4000,?_⟩
 simp only [f49,GZ,BO,GY,BS,vW,BP,NN,NM,yC]
 refine cA (fun m s=>∃ k:Nat,s=(a2,a3,a3,(a3.length:Int),(k:Int),(Jr.writes Jr.DV a2 a3 k (Dk.D.mk a1n a1b a1p a1w a1o a1l)).1,(Jr.J.mk a0N a0T a0B a0x a0f a0c))∧m=a3.length-k∧k≤a3.length∧(Jr.writes Jr.DV a2 a3 k (Dk.D.mk a1n a1b a1p a1w a1o a1l)).2=0) (fun m s K hi hk=>?_) 4000 a3.length _ (by omega) ⟨0,rfl,by omega,by omega,rfl⟩
 obtain⟨k,rfl,hm,hle,hz⟩:=hi
 simp only [BQ,Int.toNat_natCast,ap]
 by_cases hlt:k < a3.length
 ·rw [aa (by omega),aa (by omega),ah (x:=a2+(k:Int)) (by omega) (by omega),ah (x:=(k:Int)+1) (by omega) (by omega)]
  have hs:=Jr.writes_succ (V:=Jr.DV) (a:=a2) (L:=a3) hz
  have hs':Dk.write (Jr.writes Jr.DV a2 a3 k (Dk.D.mk a1n a1b a1p a1w a1o a1l)).1 (a2+k) (a3.getD k [])=Jr.writes Jr.DV a2 a3 (k+1) (Dk.D.mk a1n a1b a1p a1w a1o a1l):=hs.symm
  rw [hs']
  cases he:((Jr.writes Jr.DV a2 a3 (k+1) (Dk.D.mk a1n a1b a1p a1w a1o a1l)).2 != 0) with
  | false=>
   rw [cond_false]
   exact hk (m-1) _ (by omega) ⟨k+1,rfl,by omega,by omega,by simpa using he⟩
  | true=>
   have hw:=Jr.writes_stop (V:=Jr.DV) (a:=a2) (L:=a3) (d:=(Dk.D.mk a1n a1b a1p a1w a1o a1l)) (k:=k+1) (by simpa using he) (a3.length-(k+1))
   rw [show k+1+(a3.length-(k+1))=a3.length by omega] at hw
   have hall:Jr.writeAll Jr.DV (Dk.D.mk a1n a1b a1p a1w a1o a1l) a2 a3=((Jr.writes Jr.DV a2 a3 (k+1) (Dk.D.mk a1n a1b a1p a1w a1o a1l)).1,(Jr.writes Jr.DV a2 a3 (k+1) (Dk.D.mk a1n a1b a1p a1w a1o a1l)).2,false):=by
    rw [Jr.writeAll,hw,he];rfl
   rw [hall,cond_true]
 rw [ad (by omega)]
 have hkl:k=a3.length:=by omega
 subst hkl
 obtain⟨w,hw⟩:∃ w,w=Jr.writes Jr.DV a2 a3 a3.length (Dk.D.mk a1n a1b a1p a1w a1o a1l):=⟨_,rfl⟩
 have hall:Jr.writeAll Jr.DV (Dk.D.mk a1n a1b a1p a1w a1o a1l) a2 a3=cond ((Dk.flush w.1).2 != 0) ((Dk.flush w.1).1,(Dk.flush w.1).2,false) ((Dk.flush w.1).1,(Jr.reads Jr.DV (Dk.flush w.1).1 a2 a3 a3.length).2,(Jr.reads Jr.DV (Dk.flush w.1).1 a2 a3 a3.length).1):=by
  rw [Jr.writeAll,← hw,show((w.2 != 0)=false) by rw [hw,hz];rfl];rfl
 have hfw:Dk.fine w.1=true:=by rw [hw];exact(Jr.writes_fine hf q1 _ q2).1
 rw [← hw]
 simp only [vW,BU,GX,BV,GW,vV,GV,BW,GU,GT,sj]
 rw [hfw,cond_true,hall]
 cases hfe:((Dk.flush w.1).2 != 0) with
 | true=>rfl
 | false=>
 simp only [cond_false]
 generalize (Dk.flush w.1).1=e at *
 refine cA (fun m s=>∃ k:Nat,s=(a2,(Jr.reads Jr.DV e a2 a3 k).1,a3,(a3.length:Int),(k:Int),e,(Jr.J.mk a0N a0T a0B a0x a0f a0c))∧m=a3.length-k∧k≤a3.length∧(Jr.reads Jr.DV e a2 a3 k).2=0) (fun m s K hi hk=>?_) 4000 a3.length _ (by omega) ⟨0,rfl,by omega,by omega,rfl⟩
 obtain⟨k,rfl,hm,hle,hz⟩:=hi
 simp only [vU,Int.toNat_natCast,ap]
 by_cases hlt:k < a3.length
 ·rw [aa (by omega),aa (by omega),ah (x:=a2+(k:Int)) (by omega) (by omega),ah (x:=(k:Int)+1) (by omega) (by omega)]
  have hs:=Jr.reads_succ (V:=Jr.DV) (a:=a2) (L:=a3) hz
  rw [show Jr.DV.read e (a2+k)=Dk.read e (a2+k) from rfl] at hs
  cases he:((Dk.read e (a2+k)).2 != 0) with
  | false=>
   rw [he,cond_false] at hs
   have hgo:K (a2,(Jr.reads Jr.DV e a2 a3 (k+1)).1,a3,(a3.length:Int),((k:Int)+1),e,(Jr.J.mk a0N a0T a0B a0x a0f a0c))=_:=hk (m-1) _ (by omega) ⟨k+1,rfl,by omega,by omega,by rw [hs]⟩
   rw [hs] at hgo
   rw [← hgo]
   cases (Jr.reads Jr.DV e a2 a3 k).1 <;> rfl
  | true=>
   rw [he,cond_true] at hs
   have hw:=Jr.reads_stop (V:=Jr.DV) (a:=a2) (L:=a3) (d:=e) (k:=k+1) (by rw [hs];simpa using he) (a3.length-(k+1))
   rw [show k+1+(a3.length-(k+1))=a3.length by omega,hs] at hw
   rw [hw]
   rfl
 ·rw [ad (by omega)]
  have hkl:k=a3.length:=by omega
  subst hkl
  rw [hz]
  rfl
theorem c49:Ck 49 r49:=ck a5T Tryz.func49 (by
 intro X H r H' h hX hH
 unfold r49 at h;split at h <;> try contradiction
 ·obtain⟨hp,rfl,rfl⟩:=aJ h
  obtain rfl:=am (hH _ hm2) rfl
  obtain rfl:=am (hH _ hm3) rfl
  obtain rfl:=am (hH _ hm4) rfl
  obtain rfl:=am (hH _ hm5) rfl
  obtain⟨F,hF⟩:=s49 _ _ _ _ _ _ _ _ _ _ _ _ _ _ hp (hX _ hm1) (hX _ hm2) (hH _ hm0) (hH _ hm1) (hH _ hm2) (hH _ hm3) (hH _ hm4) (hH _ hm5) (hH _ hm6) (hH _ hm7)
  exact⟨_,abC (U2 F) hF⟩)
def a5V:List aF:=[(34,[none],r34),(38,[none],r38),(40,[none,none],r40),(49,[none,none,some 9],r49)]
def V14:Env:=ar aE ao a5V
noncomputable abbrev a5W:=aI V14 (some [(4,.plain),(5,.plain),(0,.touch 1),(0,.touch 3)]) (Tryz.f14).results.toList
theorem a5X:EOk Tryz.prog V14:=aj (by exact⟨c34,c38,c40,c49,trivial⟩)
def a5Y(F:Nat):Cuts:={ F:=F,at_:=fun _=>none,join:=fun _=>none,fin:=(some [(4,.plain),(5,.plain),(0,.touch 1),(0,.touch 3)]) }
abbrev a5Z(F n:Nat){σ:Type}(e:σ→St)(K:Ex→St→Rz)(N:σ→Rz):=Qe V14 (a5Y F) (bp Tryz.f14 n) e K N
def a03:ab1→St:=fun (a,b,c,d,e,f,g,h,i,j,k,l,m)=>hS [pS 0 0 7,(1,.str m)] [jB 1 5 2 3 4 d e f,dB 5 g 6 7 k l,iB a,iB c,sB b,bB h,pB i,wB j] 99 8
def NP(F:Nat):ab1→Rz:=fun (c,d,e,a,f,b,h,i,j,k,l,m,g)=>(cond b (some ((.tup (.cons 0 (.int .i64 0) (.cons 0 (.int .i64 22) .nil))),[(jB 1 5 8 3 9 a f b),(dB 5 h 6 7 l m),.gone,(iB e),.gone,(bB i),(pB j),(wB k),(iB c),(sB d)])) (cond (decide ((↑g.length:Int) > (8000:Int))) (some ((.tup (.cons 0 (.int .i64 0) (.cons 0 (.int .i64 4) .nil))),[(jB 1 5 8 3 9 a f b),(dB 5 h 6 7 l m),.gone,(iB e),.gone,(bB i),(pB j),(wB k),(iB c),(sB d)])) (cond (decide (a > (4096:Int))) (some ((.tup (.cons 0 (.int .i64 0) (.cons 0 (.int .i64 4) .nil))),[(jB 1 5 8 3 9 a f b),(dB 5 h 6 7 l m),.gone,(iB e),.gone,(bB i),(pB j),(wB k),(iB c),(sB d)])) (cond (decide ((Jr.count (↑g.length:Int)) > (IntKind.i64.wrap (((Dk.D.mk h i j k l m).n:Int)-(Jr.J.mk c d e a f b).fin)))) (some ((.tup (.cons 0 (.int .i64 0) (.cons 0 (.int .i64 21) .nil))),[(jE 1 5 8 3 9 (Jr.J.mk c d e a f b)),(dE 5 (Dk.D.mk h i j k l m) 6 7),.gone,(.cells (Jr.J.mk c d e a f b).bad.length (.rI .i64 (Jr.J.mk c d e a f b).bad) true),.gone,(.cells (Dk.D.mk h i j k l m).blk.length (.rI .u8 (Dk.D.mk h i j k l m).blk) true),(pB (Dk.D.mk h i j k l m).pend),(wB (Dk.D.mk h i j k l m).worn),(.cells (Jr.J.mk c d e a f b).nums.length (.rI .i64 (Jr.J.mk c d e a f b).nums) true),(.cells (Jr.J.mk c d e a f b).texts.length (.rS (Jr.J.mk c d e a f b).texts) true)])) (cond ((Dk.fine (Dk.D.mk h i j k l m))&&(decide ((Dk.D.mk h i j k l m).pend.length < 4000∧(Jr.pack (Jr.J.mk c d e a f b).next g).1.length < 3000∧0≤(Jr.J.mk c d e a f b).fin∧(Jr.J.mk c d e a f b).fin < 100000))) (cond ((Jr.writeAll Jr.DV (Dk.D.mk h i j k l m) (Jr.J.mk c d e a f b).fin (Jr.pack (Jr.J.mk c d e a f b).next g).1).2.1 != (0:Int)) (some ((.tup (.cons 0 (.int .i64 0) (.cons 0 (.int .i64 (Jr.writeAll Jr.DV (Dk.D.mk h i j k l m) (Jr.J.mk c d e a f b).fin (Jr.pack (Jr.J.mk c d e a f b).next g).1).2.1) .nil))),[(jB 1 5 8 3 9 (Jr.J.mk (Jr.J.mk c d e a f b).nums (Jr.J.mk c d e a f b).texts (Jr.J.mk c d e a f b).bad (IntKind.i64.wrap ((Jr.J.mk c d e a f b).next+(1:Int))) (IntKind.i64.wrap ((Jr.J.mk c d e a f b).fin+(↑(Jr.pack (Jr.J.mk c d e a f b).next g).1.length:Int))) (Jr.J.mk c d e a f b).closed).next (Jr.J.mk (Jr.J.mk c d e a f b).nums (Jr.J.mk c d e a f b).texts (Jr.J.mk c d e a f b).bad (IntKind.i64.wrap ((Jr.J.mk c d e a f b).next+(1:Int))) (IntKind.i64.wrap ((Jr.J.mk c d e a f b).fin+(↑(Jr.pack (Jr.J.mk c d e a f b).next g).1.length:Int))) (Jr.J.mk c d e a f b).closed).fin true),(dE 5 (Jr.writeAll Jr.DV (Dk.D.mk h i j k l m) (Jr.J.mk c d e a f b).fin (Jr.pack (Jr.J.mk c d e a f b).next g).1).1 6 7),.gone,(.cells (Jr.J.mk (Jr.J.mk c d e a f b).nums (Jr.J.mk c d e a f b).texts (Jr.J.mk c d e a f b).bad (IntKind.i64.wrap ((Jr.J.mk c d e a f b).next+(1:Int))) (IntKind.i64.wrap ((Jr.J.mk c d e a f b).fin+(↑(Jr.pack (Jr.J.mk c d e a f b).next g).1.length:Int))) (Jr.J.mk c d e a f b).closed).bad.length (.rI .i64 (Jr.J.mk (Jr.J.mk c d e a f b).nums (Jr.J.mk c d e a f b).texts (Jr.J.mk c d e a f b).bad (IntKind.i64.wrap ((Jr.J.mk c d e a f b).next+(1:Int))) (IntKind.i64.wrap ((Jr.J.mk c d e a f b).fin+(↑(Jr.pack (Jr.J.mk c d e a f b).next g).1.length:Int))) (Jr.J.mk c d e a f b).closed).bad) true),.gone,(.cells (Jr.writeAll Jr.DV (Dk.D.mk h i j k l m) (Jr.J.mk c d e a f b).fin (Jr.pack (Jr.J.mk c d e a f b).next g).1).1.blk.length (.rI .u8 (Jr.writeAll Jr.DV (Dk.D.mk h i j k l m) (Jr.J.mk c d e a f b).fin (Jr.pack (Jr.J.mk c d e a f b).next g).1).1.blk) true),(pB (Jr.writeAll Jr.DV (Dk.D.mk h i j k l m) (Jr.J.mk c d e a f b).fin (Jr.pack (Jr.J.mk c d e a f b).next g).1).1.pend),(wB (Jr.writeAll Jr.DV (Dk.D.mk h i j k l m) (Jr.J.mk c d e a f b).fin (Jr.pack (Jr.J.mk c d e a f b).next g).1).1.worn),(.cells (Jr.J.mk (Jr.J.mk c d e a f b).nums (Jr.J.mk c d e a f b).texts (Jr.J.mk c d e a f b).bad (IntKind.i64.wrap ((Jr.J.mk c d e a f b).next+(1:Int))) (IntKind.i64.wrap ((Jr.J.mk c d e a f b).fin+(↑(Jr.pack (Jr.J.mk c d e a f b).next g).1.length:Int))) (Jr.J.mk c d e a f b).closed).nums.length (.rI .i64 (Jr.J.mk (Jr.J.mk c d e a f b).nums (Jr.J.mk c d e a f b).texts (Jr.J.mk c d e a f b).bad (IntKind.i64.wrap ((Jr.J.mk c d e a f b).next+(1:Int))) (IntKind.i64.wrap ((Jr.J.mk c d e a f b).fin+(↑(Jr.pack (Jr.J.mk c d e a f b).next g).1.length:Int))) (Jr.J.mk c d e a f b).closed).nums) true),(.cells (Jr.J.mk (Jr.J.mk c d e a f b).nums (Jr.J.mk c d e a f b).texts (Jr.J.mk c d e a f b).bad (IntKind.i64.wrap ((Jr.J.mk c d e a f b).next+(1:Int))) (IntKind.i64.wrap ((Jr.J.mk c d e a f b).fin+(↑(Jr.pack (Jr.J.mk c d e a f b).next g).1.length:Int))) (Jr.J.mk c d e a f b).closed).texts.length (.rS (Jr.J.mk (Jr.J.mk c d e a f b).nums (Jr.J.mk c d e a f b).texts (Jr.J.mk c d e a f b).bad (IntKind.i64.wrap ((Jr.J.mk c d e a f b).next+(1:Int))) (IntKind.i64.wrap ((Jr.J.mk c d e a f b).fin+(↑(Jr.pack (Jr.J.mk c d e a f b).next g).1.length:Int))) (Jr.J.mk c d e a f b).closed).texts) true)])) (cond (!(Jr.writeAll Jr.DV (Dk.D.mk h i j k l m) (Jr.J.mk c d e a f b).fin (Jr.pack (Jr.J.mk c d e a f b).next g).1).2.2) (some ((.tup (.cons 0 (.int .i64 0) (.cons 0 (.int .i64 23) .nil))),[(jE 1 5 8 3 9 (Jr.J.mk (Jr.J.mk c d e a f b).nums (Jr.J.mk c d e a f b).texts (Jr.J.mk c d e a f b).bad (IntKind.i64.wrap ((Jr.J.mk c d e a f b).next+(1:Int))) (IntKind.i64.wrap ((Jr.J.mk c d e a f b).fin+(↑(Jr.pack (Jr.J.mk c d e a f b).next g).1.length:Int))) (Jr.J.mk c d e a f b).closed)),(dE 5 (Jr.writeAll Jr.DV (Dk.D.mk h i j k l m) (Jr.J.mk c d e a f b).fin (Jr.pack (Jr.J.mk c d e a f b).next g).1).1 6 7),.gone,(.cells (Jr.J.mk (Jr.J.mk c d e a f b).nums (Jr.J.mk c d e a f b).texts (Jr.J.mk c d e a f b).bad (IntKind.i64.wrap ((Jr.J.mk c d e a f b).next+(1:Int))) (IntKind.i64.wrap ((Jr.J.mk c d e a f b).fin+(↑(Jr.pack (Jr.J.mk c d e a f b).next g).1.length:Int))) (Jr.J.mk c d e a f b).closed).bad.length (.rI .i64 (Jr.J.mk (Jr.J.mk c d e a f b).nums (Jr.J.mk c d e a f b).texts (Jr.J.mk c d e a f b).bad (IntKind.i64.wrap ((Jr.J.mk c d e a f b).next+(1:Int))) (IntKind.i64.wrap ((Jr.J.mk c d e a f b).fin+(↑(Jr.pack (Jr.J.mk c d e a f b).next g).1.length:Int))) (Jr.J.mk c d e a f b).closed).bad) true),.gone,(.cells (Jr.writeAll Jr.DV (Dk.D.mk h i j k l m) (Jr.J.mk c d e a f b).fin (Jr.pack (Jr.J.mk c d e a f b).next g).1).1.blk.length (.rI .u8 (Jr.writeAll Jr.DV (Dk.D.mk h i j k l m) (Jr.J.mk c d e a f b).fin (Jr.pack (Jr.J.mk c d e a f b).next g).1).1.blk) true),(pB (Jr.writeAll Jr.DV (Dk.D.mk h i j k l m) (Jr.J.mk c d e a f b).fin (Jr.pack (Jr.J.mk c d e a f b).next g).1).1.pend),(wB (Jr.writeAll Jr.DV (Dk.D.mk h i j k l m) (Jr.J.mk c d e a f b).fin (Jr.pack (Jr.J.mk c d e a f b).next g).1).1.worn),(.cells (Jr.J.mk (Jr.J.mk c d e a f b).nums (Jr.J.mk c d e a f b).texts (Jr.J.mk c d e a f b).bad (IntKind.i64.wrap ((Jr.J.mk c d e a f b).next+(1:Int))) (IntKind.i64.wrap ((Jr.J.mk c d e a f b).fin+(↑(Jr.pack (Jr.J.mk c d e a f b).next g).1.length:Int))) (Jr.J.mk c d e a f b).closed).nums.length (.rI .i64 (Jr.J.mk (Jr.J.mk c d e a f b).nums (Jr.J.mk c d e a f b).texts (Jr.J.mk c d e a f b).bad (IntKind.i64.wrap ((Jr.J.mk c d e a f b).next+(1:Int))) (IntKind.i64.wrap ((Jr.J.mk c d e a f b).fin+(↑(Jr.pack (Jr.J.mk c d e a f b).next g).1.length:Int))) (Jr.J.mk c d e a f b).closed).nums) true),(.cells (Jr.J.mk (Jr.J.mk c d e a f b).nums (Jr.J.mk c d e a f b).texts (Jr.J.mk c d e a f b).bad (IntKind.i64.wrap ((Jr.J.mk c d e a f b).next+(1:Int))) (IntKind.i64.wrap ((Jr.J.mk c d e a f b).fin+(↑(Jr.pack (Jr.J.mk c d e a f b).next g).1.length:Int))) (Jr.J.mk c d e a f b).closed).texts.length (.rS (Jr.J.mk (Jr.J.mk c d e a f b).nums (Jr.J.mk c d e a f b).texts (Jr.J.mk c d e a f b).bad (IntKind.i64.wrap ((Jr.J.mk c d e a f b).next+(1:Int))) (IntKind.i64.wrap ((Jr.J.mk c d e a f b).fin+(↑(Jr.pack (Jr.J.mk c d e a f b).next g).1.length:Int))) (Jr.J.mk c d e a f b).closed).texts) true)])) (cond (decide (((Jr.J.mk (Jr.J.mk c d e a f b).nums (Jr.J.mk c d e a f b).texts (Jr.J.mk c d e a f b).bad (IntKind.i64.wrap ((Jr.J.mk c d e a f b).next+(1:Int))) (IntKind.i64.wrap ((Jr.J.mk c d e a f b).fin+(↑(Jr.pack (Jr.J.mk c d e a f b).next g).1.length:Int))) (Jr.J.mk c d e a f b).closed).nums.length+1) < 1073741824)) (cond (decide (((Jr.J.mk (Jr.J.mk c d e a f b).nums (Jr.J.mk c d e a f b).texts (Jr.J.mk c d e a f b).bad (IntKind.i64.wrap ((Jr.J.mk c d e a f b).next+(1:Int))) (IntKind.i64.wrap ((Jr.J.mk c d e a f b).fin+(↑(Jr.pack (Jr.J.mk c d e a f b).next g).1.length:Int))) (Jr.J.mk c d e a f b).closed).texts.length+1) < 1073741824)) (some ((.tup (.cons 0 (.int .i64 (Jr.J.mk c d e a f b).next) (.cons 0 (.int .i64 0) .nil))),[(jE 1 5 8 3 9 (Jr.J.mk (Jr.J.mk c d e a f b).nums (Jr.J.mk c d e a f b).texts (Jr.J.mk c d e a f b).bad (IntKind.i64.wrap ((Jr.J.mk c d e a f b).next+(1:Int))) (IntKind.i64.wrap ((Jr.J.mk c d e a f b).fin+(↑(Jr.pack (Jr.J.mk c d e a f b).next g).1.length:Int))) (Jr.J.mk c d e a f b).closed)),(dE 5 (Jr.writeAll Jr.DV (Dk.D.mk h i j k l m) (Jr.J.mk c d e a f b).fin (Jr.pack (Jr.J.mk c d e a f b).next g).1).1 6 7),.gone,(.cells (Jr.J.mk (Jr.J.mk c d e a f b).nums (Jr.J.mk c d e a f b).texts (Jr.J.mk c d e a f b).bad (IntKind.i64.wrap ((Jr.J.mk c d e a f b).next+(1:Int))) (IntKind.i64.wrap ((Jr.J.mk c d e a f b).fin+(↑(Jr.pack (Jr.J.mk c d e a f b).next g).1.length:Int))) (Jr.J.mk c d e a f b).closed).bad.length (.rI .i64 (Jr.J.mk (Jr.J.mk c d e a f b).nums (Jr.J.mk c d e a f b).texts (Jr.J.mk c d e a f b).bad (IntKind.i64.wrap ((Jr.J.mk c d e a f b).next+(1:Int))) (IntKind.i64.wrap ((Jr.J.mk c d e a f b).fin+(↑(Jr.pack (Jr.J.mk c d e a f b).next g).1.length:Int))) (Jr.J.mk c d e a f b).closed).bad) true),.gone,(.cells (Jr.writeAll Jr.DV (Dk.D.mk h i j k l m) (Jr.J.mk c d e a f b).fin (Jr.pack (Jr.J.mk c d e a f b).next g).1).1.blk.length (.rI .u8 (Jr.writeAll Jr.DV (Dk.D.mk h i j k l m) (Jr.J.mk c d e a f b).fin (Jr.pack (Jr.J.mk c d e a f b).next g).1).1.blk) true),(pB (Jr.writeAll Jr.DV (Dk.D.mk h i j k l m) (Jr.J.mk c d e a f b).fin (Jr.pack (Jr.J.mk c d e a f b).next g).1).1.pend),(wB (Jr.writeAll Jr.DV (Dk.D.mk h i j k l m) (Jr.J.mk c d e a f b).fin (Jr.pack (Jr.J.mk c d e a f b).next g).1).1.worn),(.cells ((Jr.J.mk (Jr.J.mk c d e a f b).nums (Jr.J.mk c d e a f b).texts (Jr.J.mk c d e a f b).bad (IntKind.i64.wrap ((Jr.J.mk c d e a f b).next+(1:Int))) (IntKind.i64.wrap ((Jr.J.mk c d e a f b).fin+(↑(Jr.pack (Jr.J.mk c d e a f b).next g).1.length:Int))) (Jr.J.mk c d e a f b).closed).nums++[(Jr.J.mk c d e a f b).next]).length (.rI .i64 ((Jr.J.mk (Jr.J.mk c d e a f b).nums (Jr.J.mk c d e a f b).texts (Jr.J.mk c d e a f b).bad (IntKind.i64.wrap ((Jr.J.mk c d e a f b).next+(1:Int))) (IntKind.i64.wrap ((Jr.J.mk c d e a f b).fin+(↑(Jr.pack (Jr.J.mk c d e a f b).next g).1.length:Int))) (Jr.J.mk c d e a f b).closed).nums++[(Jr.J.mk c d e a f b).next])) true),(.cells ((Jr.J.mk (Jr.J.mk c d e a f b).nums (Jr.J.mk c d e a f b).texts (Jr.J.mk c d e a f b).bad (IntKind.i64.wrap ((Jr.J.mk c d e a f b).next+(1:Int))) (IntKind.i64.wrap ((Jr.J.mk c d e a f b).fin+(↑(Jr.pack (Jr.J.mk c d e a f b).next g).1.length:Int))) (Jr.J.mk c d e a f b).closed).texts++[g]).length (.rS ((Jr.J.mk (Jr.J.mk c d e a f b).nums (Jr.J.mk c d e a f b).texts (Jr.J.mk c d e a f b).bad (IntKind.i64.wrap ((Jr.J.mk c d e a f b).next+(1:Int))) (IntKind.i64.wrap ((Jr.J.mk c d e a f b).fin+(↑(Jr.pack (Jr.J.mk c d e a f b).next g).1.length:Int))) (Jr.J.mk c d e a f b).closed).texts++[g])) true)])) none) none))) none)))))
theorem acb F:a5Z F 1 a03 a5W (NP F):=fun _=>by kernel_rfl
def f14(F:Nat):ab1→Rz:=NP F
def r14:aB:=fun X H=>match X,H with
 | [(.ptr 0 0 7 0 0 0 7),.str a2],[(.cells 7 (.segs (.cons 1 (.one (.ptr 1 0 5 0 0 0 5)) (.cons 1 (.one (.own 2 0 1)) (.cons 1 (.one (.own 3 0 1)) (.cons 1 (.one (.own 4 0 1)) (.cons 1 (.one (.int .i64 a0x)) (.cons 1 (.one (.int .i64 a0f)) (.cons 1 (.one (.bool a0c)) .nil)))))))) true),(.cells 5 (.segs (.cons 1 (.one (.own 5 a1n 64)) (.cons 1 (.one (.mp 6)) (.cons 1 (.one (.mp 7)) (.cons 1 (.one (.bool a1o)) (.cons 1 (.one (.int .i64 a1l)) .nil)))))) true),(.cells z2 (.rI .i64 a0N) true),(.cells z3 (.rI .i64 a0B) true),(.cells z4 (.rS a0T) true),(.cells z5 (.rI .u8 a1b) true),(.cells 0 (.rM .i64 0 (.arr .u8 64) a1p) true),(.cells 0 (.rM .i64 0 .bool a1w) true)]=>some ((Dk.fine (Dk.D.mk a1n a1b a1p a1w a1o a1l))&&(Jr.okJ (Dk.D.mk a1n a1b a1p a1w a1o a1l) (Jr.J.mk a0N a0T a0B a0x a0f a0c)),(.tup (.cons 0 (.int .i64 (Jr.append Jr.DV (Dk.D.mk a1n a1b a1p a1w a1o a1l) (Jr.J.mk a0N a0T a0B a0x a0f a0c) a2).2.2.1) (.cons 0 (.int .i64 (Jr.append Jr.DV (Dk.D.mk a1n a1b a1p a1w a1o a1l) (Jr.J.mk a0N a0T a0B a0x a0f a0c) a2).2.2.2) .nil))),[(jE 1 5 8 3 9 (Jr.append Jr.DV (Dk.D.mk a1n a1b a1p a1w a1o a1l) (Jr.J.mk a0N a0T a0B a0x a0f a0c) a2).2.1),(dE 5 (Jr.append Jr.DV (Dk.D.mk a1n a1b a1p a1w a1o a1l) (Jr.J.mk a0N a0T a0B a0x a0f a0c) a2).1 6 7),.gone,(.cells (Jr.append Jr.DV (Dk.D.mk a1n a1b a1p a1w a1o a1l) (Jr.J.mk a0N a0T a0B a0x a0f a0c) a2).2.1.bad.length (.rI .i64 (Jr.append Jr.DV (Dk.D.mk a1n a1b a1p a1w a1o a1l) (Jr.J.mk a0N a0T a0B a0x a0f a0c) a2).2.1.bad) true),.gone,(.cells (Jr.append Jr.DV (Dk.D.mk a1n a1b a1p a1w a1o a1l) (Jr.J.mk a0N a0T a0B a0x a0f a0c) a2).1.blk.length (.rI .u8 (Jr.append Jr.DV (Dk.D.mk a1n a1b a1p a1w a1o a1l) (Jr.J.mk a0N a0T a0B a0x a0f a0c) a2).1.blk) true),(pB (Jr.append Jr.DV (Dk.D.mk a1n a1b a1p a1w a1o a1l) (Jr.J.mk a0N a0T a0B a0x a0f a0c) a2).1.pend),(wB (Jr.append Jr.DV (Dk.D.mk a1n a1b a1p a1w a1o a1l) (Jr.J.mk a0N a0T a0B a0x a0f a0c) a2).1.worn),(.cells (Jr.append Jr.DV (Dk.D.mk a1n a1b a1p a1w a1o a1l) (Jr.J.mk a0N a0T a0B a0x a0f a0c) a2).2.1.nums.length (.rI .i64 (Jr.append Jr.DV (Dk.D.mk a1n a1b a1p a1w a1o a1l) (Jr.J.mk a0N a0T a0B a0x a0f a0c) a2).2.1.nums) true),(.cells (Jr.append Jr.DV (Dk.D.mk a1n a1b a1p a1w a1o a1l) (Jr.J.mk a0N a0T a0B a0x a0f a0c) a2).2.1.texts.length (.rS (Jr.append Jr.DV (Dk.D.mk a1n a1b a1p a1w a1o a1l) (Jr.J.mk a0N a0T a0B a0x a0f a0c) a2).2.1.texts) true)])
 | _,_=>none
theorem s14(a0N:Li)(a0T:List Li)(a0B:Li)(a0x a0f:Int)(a0c:Bool)(a1n:Nat)(a1b:Li)(a1p a1w:Lp)(a1o:Bool)(a1l:Int)(a2:Li)(hp:((Dk.fine (Dk.D.mk a1n a1b a1p a1w a1o a1l))&&(Jr.okJ (Dk.D.mk a1n a1b a1p a1w a1o a1l) (Jr.J.mk a0N a0T a0B a0x a0f a0c)))=true)(h1:okV (.str a2))(k0:okB (jB 1 5 2 3 4 a0x a0f a0c))(k1:okB (dB 5 a1n 6 7 a1o a1l))(k2:okB (iB a0N))(k3:okB (iB a0B))(k4:okB (sB a0T))(k5:okB (bB a1b))(k6:okB (pB a1p))(k7:okB (wB a1w)):∃ F,f14 F (a0N,a0T,a0B,a0x,a0f,a0c,a1n,a1b,a1p,a1w,a1o,a1l,a2)=some ((.tup (.cons 0 (.int .i64 (Jr.append Jr.DV (Dk.D.mk a1n a1b a1p a1w a1o a1l) (Jr.J.mk a0N a0T a0B a0x a0f a0c) a2).2.2.1) (.cons 0 (.int .i64 (Jr.append Jr.DV (Dk.D.mk a1n a1b a1p a1w a1o a1l) (Jr.J.mk a0N a0T a0B a0x a0f a0c) a2).2.2.2) .nil))),[(jE 1 5 8 3 9 (Jr.append Jr.DV (Dk.D.mk a1n a1b a1p a1w a1o a1l) (Jr.J.mk a0N a0T a0B a0x a0f a0c) a2).2.1),(dE 5 (Jr.append Jr.DV (Dk.D.mk a1n a1b a1p a1w a1o a1l) (Jr.J.mk a0N a0T a0B a0x a0f a0c) a2).1 6 7),.gone,(.cells (Jr.append Jr.DV (Dk.D.mk a1n a1b a1p a1w a1o a1l) (Jr.J.mk a0N a0T a0B a0x a0f a0c) a2).2.1.bad.length (.rI .i64 (Jr.append Jr.DV (Dk.D.mk a1n a1b a1p a1w a1o a1l) (Jr.J.mk a0N a0T a0B a0x a0f a0c) a2).2.1.bad) true),.gone,(.cells (Jr.append Jr.DV (Dk.D.mk a1n a1b a1p a1w a1o a1l) (Jr.J.mk a0N a0T a0B a0x a0f a0c) a2).1.blk.length (.rI .u8 (Jr.append Jr.DV (Dk.D.mk a1n a1b a1p a1w a1o a1l) (Jr.J.mk a0N a0T a0B a0x a0f a0c) a2).1.blk) true),(pB (Jr.append Jr.DV (Dk.D.mk a1n a1b a1p a1w a1o a1l) (Jr.J.mk a0N a0T a0B a0x a0f a0c) a2).1.pend),(wB (Jr.append Jr.DV (Dk.D.mk a1n a1b a1p a1w a1o a1l) (Jr.J.mk a0N a0T a0B a0x a0f a0c) a2).1.worn),(.cells (Jr.append Jr.DV (Dk.D.mk a1n a1b a1p a1w a1o a1l) (Jr.J.mk a0N a0T a0B a0x a0f a0c) a2).2.1.nums.length (.rI .i64 (Jr.append Jr.DV (Dk.D.mk a1n a1b a1p a1w a1o a1l) (Jr.J.mk a0N a0T a0B a0x a0f a0c) a2).2.1.nums) true),(.cells (Jr.append Jr.DV (Dk.D.mk a1n a1b a1p a1w a1o a1l) (Jr.J.mk a0N a0T a0B a0x a0f a0c) a2).2.1.texts.length (.rS (Jr.append Jr.DV (Dk.D.mk a1n a1b a1p a1w a1o a1l) (Jr.J.mk a0N a0T a0B a0x a0f a0c) a2).2.1.texts) true)]):=by
 obtain⟨hf,hp⟩:=Bool.and_eq_true_iff.1 hp
 obtain⟨q1,q2,q3,q4,q5,q6,q7⟩:=of_decide_eq_true hp
 have hn:Dk.fine (Dk.D.mk a1n a1b a1p a1w a1o a1l)=true:=hf
 have hn8:=(Dk.fine_iff hf).1.1
 refine⟨0,?_⟩
 simp only [f14,NP]
 have q2:0≤a0f:=q2
 have q3:a0f < 100000:=q3
 have q4:0 < a0x:=q4
 have q5:a0x < 100000:=q5
 have q6:a0N.length < 100000:=q6
 have q7:a0T.length < 100000:=q7
 have hn8:a1n < 8000:=hn8
 simp only [Jr.append,show Jr.DV.n (Dk.D.mk a1n a1b a1p a1w a1o a1l)=(a1n:Int) from rfl]
 cases a0c with
 | true=>rfl
 | false=>
 simp only [cond_false]
 by_cases h1:(8000:Int) < (a2.length:Int)
 ·rw [decide_eq_true h1];rfl
 rw [decide_eq_false h1]
 simp only [cond_false]
 by_cases h2:a0x > (4096:Int)
 ·rw [decide_eq_true h2];rfl
 rw [decide_eq_false h2]
 simp only [cond_false]
 rw [ah (x:=(a1n:Int)-a0f) (by omega) (by omega)]
 by_cases h3:Jr.count (a2.length:Int) > (a1n:Int)-a0f
 ·rw [decide_eq_true h3];rfl
 rw [decide_eq_false h3]
 simp only [cond_false]
 have hpk:Jr.pack a0x a2=(Jr.sectors a0x a2,0):=by
  unfold Jr.pack
  rw [ad (by omega),ad h1]
 have hct:=(Jr.count_ok (n:=a2.length) (by omega))
 have hsl:(Jr.sectors a0x a2).length=(Jr.count a2.length).toNat:=Jr.sectors_len _ _
 have hsi:(((Jr.sectors a0x a2).length:Nat):Int)=Jr.count a2.length:=by omega
 simp only [hpk,hsi]
 rw [hn,Bool.true_and,aa ⟨q1,by omega,q2,q3⟩,ah (x:=a0x+1) (by omega) (by omega),ah (x:=a0f+Jr.count (a2.length:Int)) (by omega) (by omega)]
 cases ((Jr.writeAll Jr.DV (Dk.D.mk a1n a1b a1p a1w a1o a1l) a0f (Jr.sectors a0x a2)).2.1 != 0) with
 | true=>rfl
 | false=>
 cases (!(Jr.writeAll Jr.DV (Dk.D.mk a1n a1b a1p a1w a1o a1l) a0f (Jr.sectors a0x a2)).2.2) with
 | true=>rfl
 | false=>
 simp only [cond_false]
 rw [aa (by omega),aa (by omega)]
theorem c14:Ck 14 r14:=ck a5X Tryz.func14 (by
 intro X H r H' h hX hH
 unfold r14 at h;split at h <;> try contradiction
 ·obtain⟨hp,rfl,rfl⟩:=aJ h
  obtain rfl:=am (hH _ hm2) rfl
  obtain rfl:=am (hH _ hm3) rfl
  obtain rfl:=am (hH _ hm4) rfl
  obtain rfl:=am (hH _ hm5) rfl
  obtain⟨F,hF⟩:=s14 _ _ _ _ _ _ _ _ _ _ _ _ _ hp (hX _ hm1) (hH _ hm0) (hH _ hm1) (hH _ hm2) (hH _ hm3) (hH _ hm4) (hH _ hm5) (hH _ hm6) (hH _ hm7)
  exact⟨_,abC (acb F) hF⟩)
end Go.Am
