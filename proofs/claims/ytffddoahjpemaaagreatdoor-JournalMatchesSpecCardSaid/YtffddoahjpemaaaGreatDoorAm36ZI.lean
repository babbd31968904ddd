/- Part of a proof. -/
import Derived.Test.YtffddoahjpemaaaGreatDoorAm36ZH
import Derived.Test.YtffddoahjpemaaaGreatDoorAmPackOk36Z
set_option linter.unusedVariables false
set_option linter.unusedSimpArgs false
namespace Go.Am
open Go Go.Proofs
abbrev aEb:List (Nat×Md):=[(0,.plain),(1,.plain),(2,.plain),(17,.plain),(18,.plain),(19,.plain)]
abbrev aEc:List (Nat×Md):=[(0,.plain),(1,.plain),(12,.plain),(45,.plain),(46,.plain),(47,.plain)]
abbrev YU:List (Nat×Md):=[(0,.plain),(1,.plain),(2,.plain)]
abbrev a81:List (Nat×Md):=[(0,.plain),(1,.plain),(2,.plain),(12,.plain)]
abbrev aTK:=Li×(List Li)×Li×Int×Int×Bool×Nat×Li×(Lp)×(Lp)×Bool×Int×Int×(List Li)
abbrev WB:=Int×(List Li)×(Dk.D)×(Jr.J)
abbrev ajs:=Int×(List Li)×(List Li)×Int×Int×(Dk.D)×(Jr.J)
abbrev aTL:=Int×(List Li)×Bool×(Dk.D)×(Jr.J)
abbrev ajt:=Int×Bool×(List Li)×Int×Int×(Dk.D)×(Jr.J)
abbrev aTM:=Li×(List Li)×Li×Int×Int×Bool×Nat×Li×(Lp)×(Lp)×Bool×Int×Li
def bdJ:List hI:=[(32,[none,none,none],r32),(44,[none,none],r44),(79,[none],r79)]
def V49:Env:=dL fP dM bdJ
noncomputable abbrev Eh:=ij V49 none (Tryz.f49).results.toList
theorem bdK:EOk Tryz.prog V49:=bL (by exact⟨c32,c44,c79,trivial⟩)
def bdL(F:Nat):Cuts:={ F:=F,at_:=fun n=>match n with | 2020=>some aEb | 13022=>some aEc | _=>none,join:=fun n=>match n with | 1067=>some YU | 2022=>some aEb | 8042=>some YU | 11032=>some YU | 12030=>some a81 | 13024=>some aEc | 20003=>some [(12,.plain)] | _=>none }
abbrev Ei(F n:Nat){σ:Type}(e:σ→St)(K:Ex→St→Rz)(N:σ→Rz):=Qe V49 (bdL F) (bp Tryz.f49 n) e K N
def aLD:aTK→St:=fun (a,b,c,d,e,f,g,h,i,j,k,l,m,n)=>hS [pS 0 0 7,iS 1 m,(2,(z13 n))] [jB 1 5 2 3 4 d e f,dB 5 g 6 7 k l,iB a,iB c,sB b,bB h,pB i,wB j] 74 8
def abG:WB→St:=fun (c,d,a,b)=>hS [pS 0 0 7,iS 1 c,(2,(z13 d))] [jE 1 5 2 3 4 b,dE 5 a 6 7,iB b.nums,iB b.bad,sB b.texts,bB a.blk,pB a.pend,wB a.worn] 74 8
def alS:ajs→St:=fun (c,d,e,f,g,a,b)=>hS [pS 0 0 7,iS 1 c,(2,(z13 d)),(17,(z13 e)),iS 18 f,iS 19 g] [jE 1 5 2 3 4 b,dE 5 a 6 7,iB b.nums,iB b.bad,sB b.texts,bB a.blk,pB a.pend,wB a.worn] 74 8
def aLE:ajs→St:=alS
def P6:WB→St:=abG
def av9:WB→St:=abG
def alT:aTL→St:=fun (c,d,e,a,b)=>hS [pS 0 0 7,iS 1 c,(2,(z13 d)),(12,.bool e)] [jE 1 5 2 3 4 b,dE 5 a 6 7,iB b.nums,iB b.bad,sB b.texts,bB a.blk,pB a.pend,wB a.worn] 74 8
def alU:ajt→St:=fun (c,d,e,f,g,a,b)=>hS [pS 0 0 7,iS 1 c,(12,.bool d),(45,(z13 e)),iS 46 f,iS 47 g] [jE 1 5 2 3 4 b,dE 5 a 6 7,iB b.nums,iB b.bad,sB b.texts,bB a.blk,pB a.pend,wB a.worn] 74 8
def aLF:ajt→St:=alU
def Vv:Bool×(Dk.D)×(Jr.J)→St:=fun (c,a,b)=>hS [(12,.bool c)] [jE 1 5 2 3 4 b,dE 5 a 6 7,iB b.nums,iB b.bad,sB b.texts,bB a.blk,pB a.pend,wB a.worn] 74 8
def aq5(F:Nat)(a:WB→Rz):aTK→Rz:=fun (b,c,d,e,f,g,h,i,j,k,l,m,n,o)=>(a (n,o,(Dk.D.mk h i j k l m),(Jr.J.mk b c d e f g)))
theorem aTN F Rj1:Ei F 2 aLD (kq V49 Rj1 YU Eh) (aq5 F (Rj1∘abG)):=fun _=>by kernel_rfl
def aq6(F:Nat)(b:ajs→Rz)(f:WB→Rz):WB→Rz:=fun (c,a,d,e)=>(b (c,a,a,(↑a.length:Int),(0:Int),d,e))
theorem aUb F Rj2 Rj3:Ei F 12 abG (kq V49 Rj2 aEb (kq V49 Rj3 YU Eh)) (aq6 F (Rj2∘alS) (Rj3∘P6)):=fun _=>by kernel_rfl
def aq7(F:Nat)(h:ajs→Rz)(i:WB→Rz):ajs→Rz:=fun (b,f,c,g,a,d,e)=>(cond (decide (a < g)) (cond ((decide (0≤a))&&(decide (a < (↑c.length:Int)))) (cond ((Dk.write d (IntKind.i64.wrap (b+a)) (c.getD (Int.toNat a) [])).2 != (0:Int)) (some ((.tup (.cons 0 (.int .i64 (Dk.write d (IntKind.i64.wrap (b+a)) (c.getD (Int.toNat a) [])).2) (.cons 0 (.bool false) .nil))),[(jE 1 5 2 3 4 e),(dE 5 (Dk.write d (IntKind.i64.wrap (b+a)) (c.getD (Int.toNat a) [])).1 6 7),(iB e.nums),(iB e.bad),(sB e.texts),(.cells (Dk.write d (IntKind.i64.wrap (b+a)) (c.getD (Int.toNat a) [])).1.blk.length (.rI .u8 (Dk.write d (IntKind.i64.wrap (b+a)) (c.getD (Int.toNat a) [])).1.blk) true),(pB (Dk.write d (IntKind.i64.wrap (b+a)) (c.getD (Int.toNat a) [])).1.pend),(wB (Dk.write d (IntKind.i64.wrap (b+a)) (c.getD (Int.toNat a) [])).1.worn)])) (h (b,f,c,g,(IntKind.i64.wrap (a+(1:Int))),(Dk.write d (IntKind.i64.wrap (b+a)) (c.getD (Int.toNat a) [])).1,e))) none) (i (b,f,d,e)))
theorem aUc F Rl1 Rj3:Ei F 52 aLE (kq V49 Rl1 aEb (aV 0 (kq V49 Rj3 YU Eh))) (aq7 F (Rl1∘aLE) (Rj3∘P6)):=fun _=>by kernel_rfl
def aoL:ajs→Int×(List Li)×(List Li)×Int×Int×(Dk.D)×(Jr.J):=fun (a,b,c,d,e,f,g)=>(a,b,c,d,e,f,g)
def aEd(F:Nat)(a:WB→Rz):ajs→Rz:=fun v=>eT (fun k=>aq7 F k a) F (aoL v)
theorem aUd F Rj3:Ei F 26 alS (aV 0 (kq V49 Rj3 YU Eh)) (aEd F (Rj3∘P6)):=lpC aoL (fun k=>aq7 F k (Rj3∘P6)) (fun Rl1=>aUc F Rl1 Rj3)
def aEe(F:Nat)(a):=aEd F a
theorem aUe F Rj3:Ei F 13 alS (kq V49 Rj3 YU Eh) (aEe F (Rj3∘P6)):=biC (aUd F Rj3)
def aq8(F:Nat)(a):=aq6 F (aEe F a) a
theorem aUf F Rj3:Ei F 6 abG (kq V49 Rj3 YU Eh) (aq8 F (Rj3∘P6)):=sqC (fun k=>aq6 F k (Rj3∘P6)) (fun Rj2=>aUb F Rj2 Rj3) (aUe F Rj3)
def aq9(F:Nat)(c:WB→Rz):WB→Rz:=fun (d,e,a,b)=>(cond (Dk.fine a) (cond ((Dk.flush a).2 != (0:Int)) (some ((.tup (.cons 0 (.int .i64 (Dk.flush a).2) (.cons 0 (.bool false) .nil))),[(jE 1 5 2 3 4 b),(dE 5 (Dk.flush a).1 6 7),(iB b.nums),(iB b.bad),(sB b.texts),(.cells (Dk.flush a).1.blk.length (.rI .u8 (Dk.flush a).1.blk) true),(pB (Dk.flush a).1.pend),(wB (Dk.flush a).1.worn)])) (c (d,e,(Dk.flush a).1,b))) none)
theorem aUg F Rj4:Ei F 14 P6 (kq V49 Rj4 YU Eh) (aq9 F (Rj4∘av9)):=fun _=>by kernel_rfl
def ara(F:Nat)(a:aTL→Rz):WB→Rz:=fun (b,c,d,e)=>(a (b,c,true,d,e))
theorem aUh F Rj5:Ei F 30 av9 (kq V49 Rj5 a81 Eh) (ara F (Rj5∘alT)):=fun _=>by kernel_rfl
def arb(F:Nat)(b:ajt→Rz)(g:Bool×(Dk.D)×(Jr.J)→Rz):aTL→Rz:=fun (c,a,d,e,f)=>(b (c,d,a,(↑a.length:Int),(0:Int),e,f))
theorem aUi F Rj6 Rj7:Ei F 124 alT (kq V49 Rj6 aEc (kq V49 Rj7 [(12,.plain)] Eh)) (arb F (Rj6∘alU) (Rj7∘Vv)):=fun _=>by kernel_rfl
def alV(F:Nat)(g:ajt→Rz)(i:Bool×(Dk.D)×(Jr.J)→Rz):ajt→Rz:=fun (d,h,e,f,b,a,c)=>(cond (decide (b < f)) (cond ((decide (0≤b))&&(decide (b < (↑e.length:Int)))) (cond ((Dk.read a (IntKind.i64.wrap (d+b))).2 != (0:Int)) (some ((.tup (.cons 0 (.int .i64 (Dk.read a (IntKind.i64.wrap (d+b))).2) (.cons 0 (.bool false) .nil))),[(jE 1 5 2 3 4 c),(dE 5 a 6 7),(iB c.nums),(iB c.bad),(sB c.texts),(bB a.blk),(pB a.pend),(wB a.worn)])) (cond h (g (d,(((e.getD (Int.toNat b) []):Li)==((Dk.read a (IntKind.i64.wrap (d+b))).1:Li)),e,f,(IntKind.i64.wrap (b+(1:Int))),a,c)) (g (d,false,e,f,(IntKind.i64.wrap (b+(1:Int))),a,c)))) none) (i (h,a,c)))
theorem aLG F Rl2 Rj7:Ei F 500 aLF (kq V49 Rl2 aEc (aV 2 (kq V49 Rj7 [(12,.plain)] Eh))) (alV F (Rl2∘aLF) (Rj7∘Vv)):=fun _=>by kernel_rfl
def aju:ajt→Int×Bool×(List Li)×Int×Int×(Dk.D)×(Jr.J):=fun (a,b,c,d,e,f,g)=>(a,b,c,d,e,f,g)
def awa(F:Nat)(a:Bool×(Dk.D)×(Jr.J)→Rz):ajt→Rz:=fun v=>eT (fun k=>alV F k a) F (aju v)
theorem aLH F Rj7:Ei F 250 alU (aV 2 (kq V49 Rj7 [(12,.plain)] Eh)) (awa F (Rj7∘Vv)):=lpC aju (fun k=>alV F k (Rj7∘Vv)) (fun Rl2=>aLG F Rl2 Rj7)
def awb(F:Nat)(a):=awa F a
theorem aLI F Rj7:Ei F 125 alU (kq V49 Rj7 [(12,.plain)] Eh) (awb F (Rj7∘Vv)):=biC (aLH F Rj7)
def alW(F:Nat)(a):=arb F (awb F a) a
theorem aLJ F Rj7:Ei F 62 alT (kq V49 Rj7 [(12,.plain)] Eh) (alW F (Rj7∘Vv)):=sqC (fun k=>arb F k (Rj7∘Vv)) (fun Rj6=>aUi F Rj6 Rj7) (aLI F Rj7)
def awc(F:Nat):Bool×(Dk.D)×(Jr.J)→Rz:=fun (c,a,b)=>(some ((.tup (.cons 0 (.int .i64 0) (.cons 0 (.bool c) .nil))),[(jE 1 5 2 3 4 b),(dE 5 a 6 7),(iB b.nums),(iB b.bad),(sB b.texts),(bB a.blk),(pB a.pend),(wB a.worn)]))
theorem aLK F:Ei F 63 Vv Eh (awc F):=fun _=>by kernel_rfl
def awd(F:Nat):=alW F (awc F)
theorem aLL F:Ei F 31 alT Eh (awd F):=sqC (alW F) (fun Rj7=>aLJ F Rj7) (aLK F)
def awe(F:Nat):=ara F (awd F)
theorem aLM F:Ei F 15 av9 Eh (awe F):=sqC (ara F) (fun Rj5=>aUh F Rj5) (aLL F)
def alX(F:Nat):=aq9 F (awe F)
theorem aLN F:Ei F 7 P6 Eh (alX F):=sqC (aq9 F) (fun Rj4=>aUg F Rj4) (aLM F)
def awf(F:Nat):=aq8 F (alX F)
theorem aLO F:Ei F 3 abG Eh (awf F):=sqC (aq8 F) (fun Rj3=>aUf F Rj3) (aLN F)
def awg(F:Nat):=aq5 F (awf F)
theorem aLP F:Ei F 1 aLD Eh (awg F):=sqC (aq5 F) (fun Rj1=>aTN F Rj1) (aLO F)
def f49(F:Nat):aTK→Rz:=awg F
def r49:eP:=fun X H=>match X,H with
 | [(.ptr 0 0 7 0 0 0 7),.int .i64 a2,(.vs (.rS a3) 0 1)],[(.cells 7 (.segs (.cons 1 (.one (.ptr 1 0 5 0 0 0 5)) (.cons 1 (.one (.own 2 0 1)) (.cons 1 (.one (.own 3 0 1)) (.cons 1 (.one (.own 4 0 1)) (.cons 1 (.one (.int .i64 a0x)) (.cons 1 (.one (.int .i64 a0f)) (.cons 1 (.one (.bool a0c)) .nil)))))))) true),(.cells 5 (.segs (.cons 1 (.one (.own 5 a1n 64)) (.cons 1 (.one (.mp 6)) (.cons 1 (.one (.mp 7)) (.cons 1 (.one (.bool a1o)) (.cons 1 (.one (.int .i64 a1l)) .nil)))))) true),(.cells z2 (.rI .i64 a0N) true),(.cells z3 (.rI .i64 a0B) true),(.cells z4 (.rS a0T) true),(.cells z5 (.rI .u8 a1b) true),(.cells 0 (.rM .i64 0 (.arr .u8 64) a1p) true),(.cells 0 (.rM .i64 0 .bool a1w) true)]=>some ((Dk.fine (Dk.D.mk a1n a1b a1p a1w a1o a1l))&&(decide ((Dk.D.mk a1n a1b a1p a1w a1o a1l).pend.length < 4000∧a3.length < 3000∧0≤a2∧a2 < 100000)),(.tup (.cons 0 (.int .i64 (Jr.writeAll Jr.DV (Dk.D.mk a1n a1b a1p a1w a1o a1l) a2 a3).2.1) (.cons 0 (.bool (Jr.writeAll Jr.DV (Dk.D.mk a1n a1b a1p a1w a1o a1l) a2 a3).2.2) .nil))),[(jE 1 5 2 3 4 (Jr.J.mk a0N a0T a0B a0x a0f a0c)),(dE 5 (Jr.writeAll Jr.DV (Dk.D.mk a1n a1b a1p a1w a1o a1l) a2 a3).1 6 7),(.cells (Jr.J.mk a0N a0T a0B a0x a0f a0c).nums.length (.rI .i64 (Jr.J.mk a0N a0T a0B a0x a0f a0c).nums) true),(.cells (Jr.J.mk a0N a0T a0B a0x a0f a0c).bad.length (.rI .i64 (Jr.J.mk a0N a0T a0B a0x a0f a0c).bad) true),(.cells (Jr.J.mk a0N a0T a0B a0x a0f a0c).texts.length (.rS (Jr.J.mk a0N a0T a0B a0x a0f a0c).texts) true),(.cells (Jr.writeAll Jr.DV (Dk.D.mk a1n a1b a1p a1w a1o a1l) a2 a3).1.blk.length (.rI .u8 (Jr.writeAll Jr.DV (Dk.D.mk a1n a1b a1p a1w a1o a1l) a2 a3).1.blk) true),(pB (Jr.writeAll Jr.DV (Dk.D.mk a1n a1b a1p a1w a1o a1l) a2 a3).1.pend),(wB (Jr.writeAll Jr.DV (Dk.D.mk a1n a1b a1p a1w a1o a1l) a2 a3).1.worn)])
 | _,_=>none
theorem s49(a0N:Li)(a0T:List Li)(a0B:Li)(a0x a0f:Int)(a0c:Bool)(a1n:Nat)(a1b:Li)(a1p a1w:Lp)(a1o:Bool)(a1l a2:Int)(a3:List Li)(hp:((Dk.fine (Dk.D.mk a1n a1b a1p a1w a1o a1l))&&(decide ((Dk.D.mk a1n a1b a1p a1w a1o a1l).pend.length < 4000∧a3.length < 3000∧0≤a2∧a2 < 100000)))=true)(h1:okV (.int .i64 a2))(h2:okV (.vs (.rS a3) 0 1))(k0:okB (jB 1 5 2 3 4 a0x a0f a0c))(k1:okB (dB 5 a1n 6 7 a1o a1l))(k2:okB (iB a0N))(k3:okB (iB a0B))(k4:okB (sB a0T))(k5:okB (bB a1b))(k6:okB (pB a1p))(k7:okB (wB a1w)):∃ F,f49 F (a0N,a0T,a0B,a0x,a0f,a0c,a1n,a1b,a1p,a1w,a1o,a1l,a2,a3)=some ((.tup (.cons 0 (.int .i64 (Jr.writeAll Jr.DV (Dk.D.mk a1n a1b a1p a1w a1o a1l) a2 a3).2.1) (.cons 0 (.bool (Jr.writeAll Jr.DV (Dk.D.mk a1n a1b a1p a1w a1o a1l) a2 a3).2.2) .nil))),[(jE 1 5 2 3 4 (Jr.J.mk a0N a0T a0B a0x a0f a0c)),(dE 5 (Jr.writeAll Jr.DV (Dk.D.mk a1n a1b a1p a1w a1o a1l) a2 a3).1 6 7),(.cells (Jr.J.mk a0N a0T a0B a0x a0f a0c).nums.length (.rI .i64 (Jr.J.mk a0N a0T a0B a0x a0f a0c).nums) true),(.cells (Jr.J.mk a0N a0T a0B a0x a0f a0c).bad.length (.rI .i64 (Jr.J.mk a0N a0T a0B a0x a0f a0c).bad) true),(.cells (Jr.J.mk a0N a0T a0B a0x a0f a0c).texts.length (.rS (Jr.J.mk a0N a0T a0B a0x a0f a0c).texts) true),(.cells (Jr.writeAll Jr.DV (Dk.D.mk a1n a1b a1p a1w a1o a1l) a2 a3).1.blk.length (.rI .u8 (Jr.writeAll Jr.DV (Dk.D.mk a1n a1b a1p a1w a1o a1l) a2 a3).1.blk) true),(pB (Jr.writeAll Jr.DV (Dk.D.mk a1n a1b a1p a1w a1o a1l) a2 a3).1.pend),(wB (Jr.writeAll Jr.DV (Dk.D.mk a1n a1b a1p a1w a1o a1l) a2 a3).1.worn)]):=by
 obtain⟨hf,hp⟩:=Bool.and_eq_true_iff.1 hp
 obtain⟨q1,q2,q3,q4⟩:=of_decide_eq_true hp
 refine⟨4000,?_⟩
 simp only [f49,awg,aq5,awf,aq8,alX,aq6,aEe,aEd,aoL]
 refine pv (fun m s=>∃ k:Nat,s=(a2,a3,a3,(a3.length:Int),(k:Int),(Jr.writes Jr.DV a2 a3 k (Dk.D.mk a1n a1b a1p a1w a1o a1l)).1,(Jr.J.mk a0N a0T a0B a0x a0f a0c))∧m=a3.length-k∧k≤a3.length∧(Jr.writes Jr.DV a2 a3 k (Dk.D.mk a1n a1b a1p a1w a1o a1l)).2=0) (fun m s K hi hk=>?_) 4000 a3.length _ (by omega) ⟨0,rfl,by omega,by omega,rfl⟩
 obtain⟨k,rfl,hm,hle,hz⟩:=hi
 simp only [aq7,Int.toNat_natCast,cH]
 by_cases hlt:k < a3.length
 ·rw [aK (by omega),aK (by omega),bM (x:=a2+(k:Int)) (by omega) (by omega),bM (x:=(k:Int)+1) (by omega) (by omega)]
  have hs:=Jr.writes_succ (V:=Jr.DV) (a:=a2) (L:=a3) hz
  have hs':Dk.write (Jr.writes Jr.DV a2 a3 k (Dk.D.mk a1n a1b a1p a1w a1o a1l)).1 (a2+k) (a3.getD k [])=Jr.writes Jr.DV a2 a3 (k+1) (Dk.D.mk a1n a1b a1p a1w a1o a1l):=hs.symm
  rw [hs']
  cases he:((Jr.writes Jr.DV a2 a3 (k+1) (Dk.D.mk a1n a1b a1p a1w a1o a1l)).2 != 0) with
  | false=>
   rw [cond_false]
   exact hk (m-1) _ (by omega) ⟨k+1,rfl,by omega,by omega,by simpa using he⟩
  | true=>
   have hw:=Jr.writes_stop (V:=Jr.DV) (a:=a2) (L:=a3) (d:=(Dk.D.mk a1n a1b a1p a1w a1o a1l)) (k:=k+1) (by simpa using he) (a3.length-(k+1))
   rw [show k+1+(a3.length-(k+1))=a3.length by omega] at hw
   have hall:Jr.writeAll Jr.DV (Dk.D.mk a1n a1b a1p a1w a1o a1l) a2 a3=((Jr.writes Jr.DV a2 a3 (k+1) (Dk.D.mk a1n a1b a1p a1w a1o a1l)).1,(Jr.writes Jr.DV a2 a3 (k+1) (Dk.D.mk a1n a1b a1p a1w a1o a1l)).2,false):=by
    rw [Jr.writeAll,hw,he];rfl
   rw [hall,cond_true]
 rw [ba (by omega)]
 have hkl:k=a3.length:=by omega
 subst hkl
 obtain⟨w,hw⟩:∃ w,w=Jr.writes Jr.DV a2 a3 a3.length (Dk.D.mk a1n a1b a1p a1w a1o a1l):=⟨_,rfl⟩
 have hall:Jr.writeAll Jr.DV (Dk.D.mk a1n a1b a1p a1w a1o a1l) a2 a3=cond ((Dk.flush w.1).2 != 0) ((Dk.flush w.1).1,(Dk.flush w.1).2,false) ((Dk.flush w.1).1,(Jr.reads Jr.DV (Dk.flush w.1).1 a2 a3 a3.length).2,(Jr.reads Jr.DV (Dk.flush w.1).1 a2 a3 a3.length).1):=by
  rw [Jr.writeAll,← hw,show((w.2 != 0)=false) by rw [hw,hz];rfl];rfl
 have hfw:Dk.fine w.1=true:=by rw [hw];exact(Jr.writes_fine hf q1 _ q2).1
 rw [← hw]
 simp only [alX,aq9,awe,ara,awd,alW,awc,arb,awb,awa,aju]
 rw [hfw,cond_true,hall]
 cases hfe:((Dk.flush w.1).2 != 0) with
 | true=>rfl
 | false=>
 simp only [cond_false]
 generalize (Dk.flush w.1).1=e at *
 refine pv (fun m s=>∃ k:Nat,s=(a2,(Jr.reads Jr.DV e a2 a3 k).1,a3,(a3.length:Int),(k:Int),e,(Jr.J.mk a0N a0T a0B a0x a0f a0c))∧m=a3.length-k∧k≤a3.length∧(Jr.reads Jr.DV e a2 a3 k).2=0) (fun m s K hi hk=>?_) 4000 a3.length _ (by omega) ⟨0,rfl,by omega,by omega,rfl⟩
 obtain⟨k,rfl,hm,hle,hz⟩:=hi
 simp only [alV,Int.toNat_natCast,cH]
 by_cases hlt:k < a3.length
 ·rw [aK (by omega),aK (by omega),bM (x:=a2+(k:Int)) (by omega) (by omega),bM (x:=(k:Int)+1) (by omega) (by omega)]
  have hs:=Jr.reads_succ (V:=Jr.DV) (a:=a2) (L:=a3) hz
  rw [show Jr.DV.read e (a2+k)=Dk.read e (a2+k) from rfl] at hs
  cases he:((Dk.read e (a2+k)).2 != 0) with
  | false=>
   rw [he,cond_false] at hs
   have hgo:K (a2,(Jr.reads Jr.DV e a2 a3 (k+1)).1,a3,(a3.length:Int),((k:Int)+1),e,(Jr.J.mk a0N a0T a0B a0x a0f a0c))=_:=hk (m-1) _ (by omega) ⟨k+1,rfl,by omega,by omega,by rw [hs]⟩
   rw [hs] at hgo
   rw [← hgo]
   cases (Jr.reads Jr.DV e a2 a3 k).1 <;> rfl
  | true=>
   rw [he,cond_true] at hs
   have hw:=Jr.reads_stop (V:=Jr.DV) (a:=a2) (L:=a3) (d:=e) (k:=k+1) (by rw [hs];simpa using he) (a3.length-(k+1))
   rw [show k+1+(a3.length-(k+1))=a3.length by omega,hs] at hw
   rw [hw]
   rfl
 ·rw [ba (by omega)]
  have hkl:k=a3.length:=by omega
  subst hkl
  rw [hz]
  rfl
theorem c49:Ck 49 r49:=ck bdK Tryz.func49 (by
 intro X H r H' h hX hH
 unfold r49 at h;split at h <;> try contradiction
 ·obtain⟨hp,rfl,rfl⟩:=ik h
  obtain rfl:=bh (hH _ hm2) rfl
  obtain rfl:=bh (hH _ hm3) rfl
  obtain rfl:=bh (hH _ hm4) rfl
  obtain rfl:=bh (hH _ hm5) rfl
  obtain⟨F,hF⟩:=s49 _ _ _ _ _ _ _ _ _ _ _ _ _ _ hp (hX _ hm1) (hX _ hm2) (hH _ hm0) (hH _ hm1) (hH _ hm2) (hH _ hm3) (hH _ hm4) (hH _ hm5) (hH _ hm6) (hH _ hm7)
  exact⟨_,abC (aLP F) hF⟩)
def bdM:List hI:=[(34,[none],r34),(38,[none],r38),(40,[none,none],r40),(49,[none,none,some 9],r49)]
def V14:Env:=dL fP dM bdM
noncomputable abbrev bdN:=ij V14 (some [(4,.plain),(5,.plain),(0,.touch 1),(0,.touch 3)]) (Tryz.f14).results.toList
theorem bdO:EOk Tryz.prog V14:=bL (by exact⟨c34,c38,c40,c49,trivial⟩)
def bdP(F:Nat):Cuts:={ F:=F,at_:=fun _=>none,join:=fun _=>none,fin:=(some [(4,.plain),(5,.plain),(0,.touch 1),(0,.touch 3)]) }
abbrev bdQ(F n:Nat){σ:Type}(e:σ→St)(K:Ex→St→Rz)(N:σ→Rz):=Qe V14 (bdP F) (bp Tryz.f14 n) e K N
def a82:aTM→St:=fun (a,b,c,d,e,f,g,h,i,j,k,l,m)=>hS [pS 0 0 7,(1,.str m)] [jB 1 5 2 3 4 d e f,dB 5 g 6 7 k l,iB a,iB c,sB b,bB h,pB i,wB j] 99 8
def aEf(F:Nat):aTM→Rz:=fun (c,d,e,a,f,b,h,i,j,k,l,m,g)=>(cond b (some ((.tup (.cons 0 (.int .i64 0) (.cons 0 (.int .i64 22) .nil))),[(jB 1 5 8 3 9 a f b),(dB 5 h 6 7 l m),.gone,(iB e),.gone,(bB i),(pB j),(wB k),(iB c),(sB d)])) (cond (decide ((↑g.length:Int) > (8000:Int))) (some ((.tup (.cons 0 (.int .i64 0) (.cons 0 (.int .i64 4) .nil))),[(jB 1 5 8 3 9 a f b),(dB 5 h 6 7 l m),.gone,(iB e),.gone,(bB i),(pB j),(wB k),(iB c),(sB d)])) (cond (decide (a > (4096:Int))) (some ((.tup (.cons 0 (.int .i64 0) (.cons 0 (.int .i64 4) .nil))),[(jB 1 5 8 3 9 a f b),(dB 5 h 6 7 l m),.gone,(iB e),.gone,(bB i),(pB j),(wB k),(iB c),(sB d)])) (cond (decide ((Jr.count (↑g.length:Int)) > (IntKind.i64.wrap (((Dk.D.mk h i j k l m).n:Int)-(Jr.J.mk c d e a f b).fin)))) (some ((.tup (.cons 0 (.int .i64 0) (.cons 0 (.int .i64 21) .nil))),[(jE 1 5 8 3 9 (Jr.J.mk c d e a f b)),(dE 5 (Dk.D.mk h i j k l m) 6 7),.gone,(.cells (Jr.J.mk c d e a f b).bad.length (.rI .i64 (Jr.J.mk c d e a f b).bad) true),.gone,(.cells (Dk.D.mk h i j k l m).blk.length (.rI .u8 (Dk.D.mk h i j k l m).blk) true),(pB (Dk.D.mk h i j k l m).pend),(wB (Dk.D.mk h i j k l m).worn),(.cells (Jr.J.mk c d e a f b).nums.length (.rI .i64 (Jr.J.mk c d e a f b).nums) true),(.cells (Jr.J.mk c d e a f b).texts.length (.rS (Jr.J.mk c d e a f b).texts) true)])) (cond ((Dk.fine (Dk.D.mk h i j k l m))&&(decide ((Dk.D.mk h i j k l m).pend.length < 4000∧(Jr.pack (Jr.J.mk c d e a f b).next g).1.length < 3000∧0≤(Jr.J.mk c d e a f b).fin∧(Jr.J.mk c d e a f b).fin < 100000))) (cond ((Jr.writeAll Jr.DV (Dk.D.mk h i j k l m) (Jr.J.mk c d e a f b).fin (Jr.pack (Jr.J.mk c d e a f b).next g).1).2.1 != (0:Int)) (some ((.tup (.cons 0 (.int .i64 0) (.cons 0 (.int .i64 (Jr.writeAll Jr.DV (Dk.D.mk h i j k l m) (Jr.J.mk c d e a f b).fin (Jr.pack (Jr.J.mk c d e a f b).next g).1).2.1) .nil))),[(jB 1 5 8 3 9 (Jr.J.mk (Jr.J.mk c d e a f b).nums (Jr.J.mk c d e a f b).texts (Jr.J.mk c d e a f b).bad (IntKind.i64.wrap ((Jr.J.mk c d e a f b).next+(1:Int))) (IntKind.i64.wrap ((Jr.J.mk c d e a f b).fin+(↑(Jr.pack (Jr.J.mk c d e a f b).next g).1.length:Int))) (Jr.J.mk c d e a f b).closed).next (Jr.J.mk (Jr.J.mk c d e a f b).nums (Jr.J.mk c d e a f b).texts (Jr.J.mk c d e a f b).bad (IntKind.i64.wrap ((Jr.J.mk c d e a f b).next+(1:Int))) (IntKind.i64.wrap ((Jr.J.mk c d e a f b).fin+(↑(Jr.pack (Jr.J.mk c d e a f b).next g).1.length:Int))) (Jr.J.mk c d e a f b).closed).fin true),(dE 5 (Jr.writeAll Jr.DV (Dk.D.mk h i j k l m) (Jr.J.mk c d e a f b).fin (Jr.pack (Jr.J.mk c d e a f b).next g).1).1 6 7),.gone,(.cells (Jr.J.mk (Jr.J.mk c d e a f b).nums (Jr.J.mk c d e a f b).texts (Jr.J.mk c d e a f b).bad (IntKind.i64.wrap ((Jr.J.mk c d e a f b).next+(1:Int))) (IntKind.i64.wrap ((Jr.J.mk c d e a f b).fin+(↑(Jr.pack (Jr.J.mk c d e a f b).next g).1.length:Int))) (Jr.J.mk c d e a f b).closed).bad.length (.rI .i64 (Jr.J.mk (Jr.J.mk c d e a f b).nums (Jr.J.mk c d e a f b).texts (Jr.J.mk c d e a f b).bad (IntKind.i64.wrap ((Jr.J.mk c d e a f b).next+(1:Int))) (IntKind.i64.wrap ((Jr.J.mk c d e a f b).fin+(↑(Jr.pack (Jr.J.mk c d e a f b).next g).1.length:Int))) (Jr.J.mk c d e a f b).closed).bad) true),.gone,(.cells (Jr.writeAll Jr.DV (Dk.D.mk h i j k l m) (Jr.J.mk c d e a f b).fin (Jr.pack (Jr.J.mk c d e a f b).next g).1).1.blk.length (.rI .u8 (Jr.writeAll Jr.DV (Dk.D.mk h i j k l m) (Jr.J.mk c d e a f b).fin (Jr.pack (Jr.J.mk c d e a f b).next g).1).1.blk) true),(pB (Jr.writeAll Jr.DV (Dk.D.mk h i j k l m) (Jr.J.mk c d e a f b).fin (Jr.pack (Jr.J.mk c d e a f b).next g).1).1.pend),(wB (Jr.writeAll Jr.DV (Dk.D.mk h i j k l m) (Jr.J.mk c d e a f b).fin (Jr.pack (Jr.J.mk c d e a f b).next g).1).1.worn),(.cells (Jr.J.mk (Jr.J.mk c d e a f b).nums (Jr.J.mk c d e a f b).texts (Jr.J.mk c d e a f b).bad (IntKind.i64.wrap ((Jr.J.mk c d e a f b).next+(1:Int))) (IntKind.i64.wrap ((Jr.J.mk c d e a f b).fin+(↑(Jr.pack (Jr.J.mk c d e a f b).next g).1.length:Int))) (Jr.J.mk c d e a f b).closed).nums.length (.rI .i64 (Jr.J.mk (Jr.J.mk c d e a f b).nums (Jr.J.mk c d e a f b).texts (Jr.J.mk c d e a f b).bad (IntKind.i64.wrap ((Jr.J.mk c d e a f b).next+(1:Int))) (IntKind.i64.wrap ((Jr.J.mk c d e a f b).fin+(↑(Jr.pack (Jr.J.mk c d e a f b).next g).1.length:Int))) (Jr.J.mk c d e a f b).closed).nums) true),(.cells (Jr.J.mk (Jr.J.mk c d e a f b).nums (Jr.J.mk c d e a f b).texts (Jr.J.mk c d e a f b).bad (IntKind.i64.wrap ((Jr.J.mk c d e a f b).next+(1:Int))) (IntKind.i64.wrap ((Jr.J.mk c d e a f b).fin+(↑(Jr.pack (Jr.J.mk c d e a f b).next g).1.length:Int))) (Jr.J.mk c d e a f b).closed).texts.length (.rS (Jr.J.mk (Jr.J.mk c d e a f b).nums (Jr.J.mk c d e a f b).texts (Jr.J.mk c d e a f b).bad (IntKind.i64.wrap ((Jr.J.mk c d e a f b).next+(1:Int))) (IntKind.i64.wrap ((Jr.J.mk c d e a f b).fin+(↑(Jr.pack (Jr.J.mk c d e a f b).next g).1.length:Int))) (Jr.J.mk c d e a f b).closed).texts) true)])) (cond (!(Jr.writeAll Jr.DV (Dk.D.mk h i j k l m) (Jr.J.mk c d e a f b).fin (Jr.pack (Jr.J.mk c d e a f b).next g).1).2.2) (some ((.tup (.cons 0 (.int .i64 0) (.cons 0 (.int .i64 23) .nil))),[(jE 1 5 8 3 9 (Jr.J.mk (Jr.J.mk c d e a f b).nums (Jr.J.mk c d e a f b).texts (Jr.J.mk c d e a f b).bad (IntKind.i64.wrap ((Jr.J.mk c d e a f b).next+(1:Int))) (IntKind.i64.wrap ((Jr.J.mk c d e a f b).fin+(↑(Jr.pack (Jr.J.mk c d e a f b).next g).1.length:Int))) (Jr.J.mk c d e a f b).closed)),(dE 5 (Jr.writeAll Jr.DV (Dk.D.mk h i j k l m) (Jr.J.mk c d e a f b).fin (Jr.pack (Jr.J.mk c d e a f b).next g).1).1 6 7),.gone,(.cells (Jr.J.mk (Jr.J.mk c d e a f b).nums (Jr.J.mk c d e a f b).texts (Jr.J.mk c d e a f b).bad (IntKind.i64.wrap ((Jr.J.mk c d e a f b).next+(1:Int))) (IntKind.i64.wrap ((Jr.J.mk c d e a f b).fin+(↑(Jr.pack (Jr.J.mk c d e a f b).next g).1.length:Int))) (Jr.J.mk c d e a f b).closed).bad.length (.rI .i64 (Jr.J.mk (Jr.J.mk c d e a f b).nums (Jr.J.mk c d e a f b).texts (Jr.J.mk c d e a f b).bad (IntKind.i64.wrap ((Jr.J.mk c d e a f b).next+(1:Int))) (IntKind.i64.wrap ((Jr.J.mk c d e a f b).fin+(↑(Jr.pack (Jr.J.mk c d e a f b).next g).1.length:Int))) (Jr.J.mk c d e a f b).closed).bad) true),.gone,(.cells (Jr.writeAll Jr.DV (Dk.D.mk h i j k l m) (Jr.J.mk c d e a f b).fin (Jr.pack (Jr.J.mk c d e a f b).next g).1).1.blk.length (.rI .u8 (Jr.writeAll Jr.DV (Dk.D.mk h i j k l m) (Jr.J.mk c d e a f b).fin (Jr.pack (Jr.J.mk c d e a f b).next g).1).1.blk) true),(pB (Jr.writeAll Jr.DV (Dk.D.mk h i j k l m) (Jr.J.mk c d e a f b).fin (Jr.pack (Jr.J.mk c d e a f b).next g).1).1.pend),(wB (Jr.writeAll Jr.DV (Dk.D.mk h i j k l m) (Jr.J.mk c d e a f b).fin (Jr.pack (Jr.J.mk c d e a f b).next g).1).1.worn),(.cells (Jr.J.mk (Jr.J.mk c d e a f b).nums (Jr.J.mk c d e a f b).texts (Jr.J.mk c d e a f b).bad (IntKind.i64.wrap ((Jr.J.mk c d e a f b).next+(1:Int))) (IntKind.i64.wrap ((Jr.J.mk c d e a f b).fin+(↑(Jr.pack (Jr.J.mk c d e a f b).next g).1.length:Int))) (Jr.J.mk c d e a f b).closed).nums.length (.rI .i64 (Jr.J.mk (Jr.J.mk c d e a f b).nums (Jr.J.mk c d e a f b).texts (Jr.J.mk c d e a f b).bad (IntKind.i64.wrap ((Jr.J.mk c d e a f b).next+(1:Int))) (IntKind.i64.wrap ((Jr.J.mk c d e a f b).fin+(↑(Jr.pack (Jr.J.mk c d e a f b).next g).1.length:Int))) (Jr.J.mk c d e a f b).closed).nums) true),(.cells (Jr.J.mk (Jr.J.mk c d e a f b).nums (Jr.J.mk c d e a f b).texts (Jr.J.mk c d e a f b).bad (IntKind.i64.wrap ((Jr.J.mk c d e a f b).next+(1:Int))) (IntKind.i64.wrap ((Jr.J.mk c d e a f b).fin+(↑(Jr.pack (Jr.J.mk c d e a f b).next g).1.length:Int))) (Jr.J.mk c d e a f b).closed).texts.length (.rS (Jr.J.mk (Jr.J.mk c d e a f b).nums (Jr.J.mk c d e a f b).texts (Jr.J.mk c d e a f b).bad (IntKind.i64.wrap ((Jr.J.mk c d e a f b).next+(1:Int))) (IntKind.i64.wrap ((Jr.J.mk c d e a f b).fin+(↑(Jr.pack (Jr.J.mk c d e a f b).next g).1.length:Int))) (Jr.J.mk c d e a f b).closed).texts) true)])) (cond (decide (((Jr.J.mk (Jr.J.mk c d e a f b).nums (Jr.J.mk c d e a f b).texts (Jr.J.mk c d e a f b).bad (IntKind.i64.wrap ((Jr.J.mk c d e a f b).next+(1:Int))) (IntKind.i64.wrap ((Jr.J.mk c d e a f b).fin+(↑(Jr.pack (Jr.J.mk c d e a f b).next g).1.length:Int))) (Jr.J.mk c d e a f b).closed).nums.length+1) < 1073741824)) (cond (decide (((Jr.J.mk (Jr.J.mk c d e a f b).nums (Jr.J.mk c d e a f b).texts (Jr.J.mk c d e a f b).bad (IntKind.i64.wrap ((Jr.J.mk c d e a f b).next+(1:Int))) (IntKind.i64.wrap ((Jr.J.mk c d e a f b).fin+(↑(Jr.pack (Jr.J.mk c d e a f b).next g).1.length:Int))) (Jr.J.mk c d e a f b).closed).texts.length+1) < 1073741824)) (some ((.tup (.cons 0 (.int .i64 (Jr.J.mk c d e a f b).next) (.cons 0 (.int .i64 0) .nil))),[(jE 1 5 8 3 9 (Jr.J.mk (Jr.J.mk c d e a f b).nums (Jr.J.mk c d e a f b).texts (Jr.J.mk c d e a f b).bad (IntKind.i64.wrap ((Jr.J.mk c d e a f b).next+(1:Int))) (IntKind.i64.wrap ((Jr.J.mk c d e a f b).fin+(↑(Jr.pack (Jr.J.mk c d e a f b).next g).1.length:Int))) (Jr.J.mk c d e a f b).closed)),(dE 5 (Jr.writeAll Jr.DV (Dk.D.mk h i j k l m) (Jr.J.mk c d e a f b).fin (Jr.pack (Jr.J.mk c d e a f b).next g).1).1 6 7),.gone,(.cells (Jr.J.mk (Jr.J.mk c d e a f b).nums (Jr.J.mk c d e a f b).texts (Jr.J.mk c d e a f b).bad (IntKind.i64.wrap ((Jr.J.mk c d e a f b).next+(1:Int))) (IntKind.i64.wrap ((Jr.J.mk c d e a f b).fin+(↑(Jr.pack (Jr.J.mk c d e a f b).next g).1.length:Int))) (Jr.J.mk c d e a f b).closed).bad.length (.rI .i64 (Jr.J.mk (Jr.J.mk c d e a f b).nums (Jr.J.mk c d e a f b).texts (Jr.J.mk c d e a f b).bad (IntKind.i64.wrap ((Jr.J.mk c d e a f b).next+(1:Int))) (IntKind.i64.wrap ((Jr.J.mk c d e a f b).fin+(↑(Jr.pack (Jr.J.mk c d e a f b).next g).1.length:Int))) (Jr.J.mk c d e a f b).closed).bad) true),.gone,(.cells (Jr.writeAll Jr.DV (Dk.D.mk h i j k l m) (Jr.J.mk c d e a f b).fin (Jr.pack (Jr.J.mk c d e a f b).next g).1).1.blk.length (.rI .u8 (Jr.writeAll Jr.DV (Dk.D.mk h i j k l m) (Jr.J.mk c d e a f b).fin (Jr.pack (Jr.J.mk c d e a f b).next g).1).1.blk) true),(pB (Jr.writeAll Jr.DV (Dk.D.mk h i j k l m) (Jr.J.mk c d e a f b).fin (Jr.pack (Jr.J.mk c d e a f b).next g).1).1.pend),(wB (Jr.writeAll Jr.DV (Dk.D.mk h i j k l m) (Jr.J.mk c d e a f b).fin (Jr.pack (Jr.J.mk c d e a f b).next g).1).1.worn),(.cells ((Jr.J.mk (Jr.J.mk c d e a f b).nums (Jr.J.mk c d e a f b).texts (Jr.J.mk c d e a f b).bad (IntKind.i64.wrap ((Jr.J.mk c d e a f b).next+(1:Int))) (IntKind.i64.wrap ((Jr.J.mk c d e a f b).fin+(↑(Jr.pack (Jr.J.mk c d e a f b).next g).1.length:Int))) (Jr.J.mk c d e a f b).closed).nums++[(Jr.J.mk c d e a f b).next]).length (.rI .i64 ((Jr.J.mk (Jr.J.mk c d e a f b).nums (Jr.J.mk c d e a f b).texts (Jr.J.mk c d e a f b).bad (IntKind.i64.wrap ((Jr.J.mk c d e a f b).next+(1:Int))) (IntKind.i64.wrap ((Jr.J.mk c d e a f b).fin+(↑(Jr.pack (Jr.J.mk c d e a f b).next g).1.length:Int))) (Jr.J.mk c d e a f b).closed).nums++[(Jr.J.mk c d e a f b).next])) true),(.cells ((Jr.J.mk (Jr.J.mk c d e a f b).nums (Jr.J.mk c d e a f b).texts (Jr.J.mk c d e a f b).bad (IntKind.i64.wrap ((Jr.J.mk c d e a f b).next+(1:Int))) (IntKind.i64.wrap ((Jr.J.mk c d e a f b).fin+(↑(Jr.pack (Jr.J.mk c d e a f b).next g).1.length:Int))) (Jr.J.mk c d e a f b).closed).texts++[g]).length (.rS ((Jr.J.mk (Jr.J.mk c d e a f b).nums (Jr.J.mk c d e a f b).texts (Jr.J.mk c d e a f b).bad (IntKind.i64.wrap ((Jr.J.mk c d e a f b).next+(1:Int))) (IntKind.i64.wrap ((Jr.J.mk c d e a f b).fin+(↑(Jr.pack (Jr.J.mk c d e a f b).next g).1.length:Int))) (Jr.J.mk c d e a f b).closed).texts++[g])) true)])) none) none))) none)))))
theorem aUj F:bdQ F 1 a82 bdN (aEf F):=fun _=>by kernel_rfl
def f14(F:Nat):aTM→Rz:=aEf F
def r14:eP:=fun X H=>match X,H with
 | [(.ptr 0 0 7 0 0 0 7),.str a2],[(.cells 7 (.segs (.cons 1 (.one (.ptr 1 0 5 0 0 0 5)) (.cons 1 (.one (.own 2 0 1)) (.cons 1 (.one (.own 3 0 1)) (.cons 1 (.one (.own 4 0 1)) (.cons 1 (.one (.int .i64 a0x)) (.cons 1 (.one (.int .i64 a0f)) (.cons 1 (.one (.bool a0c)) .nil)))))))) true),(.cells 5 (.segs (.cons 1 (.one (.own 5 a1n 64)) (.cons 1 (.one (.mp 6)) (.cons 1 (.one (.mp 7)) (.cons 1 (.one (.bool a1o)) (.cons 1 (.one (.int .i64 a1l)) .nil)))))) true),(.cells z2 (.rI .i64 a0N) true),(.cells z3 (.rI .i64 a0B) true),(.cells z4 (.rS a0T) true),(.cells z5 (.rI .u8 a1b) true),(.cells 0 (.rM .i64 0 (.arr .u8 64) a1p) true),(.cells 0 (.rM .i64 0 .bool a1w) true)]=>some ((Dk.fine (Dk.D.mk a1n a1b a1p a1w a1o a1l))&&(Jr.okJ (Dk.D.mk a1n a1b a1p a1w a1o a1l) (Jr.J.mk a0N a0T a0B a0x a0f a0c)),(.tup (.cons 0 (.int .i64 (Jr.append Jr.DV (Dk.D.mk a1n a1b a1p a1w a1o a1l) (Jr.J.mk a0N a0T a0B a0x a0f a0c) a2).2.2.1) (.cons 0 (.int .i64 (Jr.append Jr.DV (Dk.D.mk a1n a1b a1p a1w a1o a1l) (Jr.J.mk a0N a0T a0B a0x a0f a0c) a2).2.2.2) .nil))),[(jE 1 5 8 3 9 (Jr.append Jr.DV (Dk.D.mk a1n a1b a1p a1w a1o a1l) (Jr.J.mk a0N a0T a0B a0x a0f a0c) a2).2.1),(dE 5 (Jr.append Jr.DV (Dk.D.mk a1n a1b a1p a1w a1o a1l) (Jr.J.mk a0N a0T a0B a0x a0f a0c) a2).1 6 7),.gone,(.cells (Jr.append Jr.DV (Dk.D.mk a1n a1b a1p a1w a1o a1l) (Jr.J.mk a0N a0T a0B a0x a0f a0c) a2).2.1.bad.length (.rI .i64 (Jr.append Jr.DV (Dk.D.mk a1n a1b a1p a1w a1o a1l) (Jr.J.mk a0N a0T a0B a0x a0f a0c) a2).2.1.bad) true),.gone,(.cells (Jr.append Jr.DV (Dk.D.mk a1n a1b a1p a1w a1o a1l) (Jr.J.mk a0N a0T a0B a0x a0f a0c) a2).1.blk.length (.rI .u8 (Jr.append Jr.DV (Dk.D.mk a1n a1b a1p a1w a1o a1l) (Jr.J.mk a0N a0T a0B a0x a0f a0c) a2).1.blk) true),(pB (Jr.append Jr.DV (Dk.D.mk a1n a1b a1p a1w a1o a1l) (Jr.J.mk a0N a0T a0B a0x a0f a0c) a2).1.pend),(wB (Jr.append Jr.DV (Dk.D.mk a1n a1b a1p a1w a1o a1l) (Jr.J.mk a0N a0T a0B a0x a0f a0c) a2).1.worn),(.cells (Jr.append Jr.DV (Dk.D.mk a1n a1b a1p a1w a1o a1l) (Jr.J.mk a0N a0T a0B a0x a0f a0c) a2).2.1.nums.length (.rI .i64 (Jr.append Jr.DV (Dk.D.mk a1n a1b a1p a1w a1o a1l) (Jr.J.mk a0N a0T a0B a0x a0f a0c) a2).2.1.nums) true),(.cells (Jr.append Jr.DV (Dk.D.mk a1n a1b a1p a1w a1o a1l) (Jr.J.mk a0N a0T a0B a0x a0f a0c) a2).2.1.texts.length (.rS (Jr.append Jr.DV (Dk.D.mk a1n a1b a1p a1w a1o a1l) (Jr.J.mk a0N a0T a0B a0x a0f a0c) a2).2.1.texts) true)])
 | _,_=>none
theorem s14(a0N:Li)(a0T:List Li)(a0B:Li)(a0x a0f:Int)(a0c:Bool)(a1n:Nat)(a1b:Li)(a1p a1w:Lp)(a1o:Bool)(a1l:Int)(a2:Li)(hp:((Dk.fine (Dk.D.mk a1n a1b a1p a1w a1o a1l))&&(Jr.okJ (Dk.D.mk a1n a1b a1p a1w a1o a1l) (Jr.J.mk a0N a0T a0B a0x a0f a0c)))=true)(h1:okV (.str a2))(k0:okB (jB 1 5 2 3 4 a0x a0f a0c))(k1:okB (dB 5 a1n 6 7 a1o a1l))(k2:okB (iB a0N))(k3:okB (iB a0B))(k4:okB (sB a0T))(k5:okB (bB a1b))(k6:okB (pB a1p))(k7:okB (wB a1w)):∃ F,f14 F (a0N,a0T,a0B,a0x,a0f,a0c,a1n,a1b,a1p,a1w,a1o,a1l,a2)=some ((.tup (.cons 0 (.int .i64 (Jr.append Jr.DV (Dk.D.mk a1n a1b a1p a1w a1o a1l) (Jr.J.mk a0N a0T a0B a0x a0f a0c) a2).2.2.1) (.cons 0 (.int .i64 (Jr.append Jr.DV (Dk.D.mk a1n a1b a1p a1w a1o a1l) (Jr.J.mk a0N a0T a0B a0x a0f a0c) a2).2.2.2) .nil))),[(jE 1 5 8 3 9 (Jr.append Jr.DV (Dk.D.mk a1n a1b a1p a1w a1o a1l) (Jr.J.mk a0N a0T a0B a0x a0f a0c) a2).2.1),(dE 5 (Jr.append Jr.DV (Dk.D.mk a1n a1b a1p a1w a1o a1l) (Jr.J.mk a0N a0T a0B a0x a0f a0c) a2).1 6 7),.gone,(.cells (Jr.append Jr.DV (Dk.D.mk a1n a1b a1p a1w a1o a1l) (Jr.J.mk a0N a0T a0B a0x a0f a0c) a2).2.1.bad.length (.rI .i64 (Jr.append Jr.DV (Dk.D.mk a1n a1b a1p a1w a1o a1l) (Jr.J.mk a0N a0T a0B a0x a0f a0c) a2).2.1.bad) true),.gone,(.cells (Jr.append Jr.DV (Dk.D.mk a1n a1b a1p a1w a1o a1l) (Jr.J.mk a0N a0T a0B a0x a0f a0c) a2).1.blk.length (.rI .u8 (Jr.append Jr.DV (Dk.D.mk a1n a1b a1p a1w a1o a1l) (Jr.J.mk a0N a0T a0B a0x a0f a0c) a2).1.blk) true),(pB (Jr.append Jr.DV (Dk.D.mk a1n a1b a1p a1w a1o a1l) (Jr.J.mk a0N a0T a0B a0x a0f a0c) a2).1.pend),(wB (Jr.append Jr.DV (Dk.D.mk a1n a1b a1p a1w a1o a1l) (Jr.J.mk a0N a0T a0B a0x a0f a0c) a2).1.worn),(.cells (Jr.append Jr.DV (Dk.D.mk a1n a1b a1p a1w a1o a1l) (Jr.J.mk a0N a0T a0B a0x a0f a0c) a2).2.1.nums.length (.rI .i64 (Jr.append Jr.DV (Dk.D.mk a1n a1b a1p a1w a1o a1l) (Jr.J.mk a0N a0T a0B a0x a0f a0c) a2).2.1.nums) true),(.cells (Jr.append Jr.DV (Dk.D.mk a1n a1b a1p a1w a1o a1l) (Jr.J.mk a0N a0T a0B a0x a0f a0c) a2).2.1.texts.length (.rS (Jr.append Jr.DV (Dk.D.mk a1n a1b a1p a1w a1o a1l) (Jr.J.mk a0N a0T a0B a0x a0f a0c) a2).2.1.texts) true)]):=by
 obtain⟨hf,hp⟩:=Bool.and_eq_true_iff.1 hp
 obtain⟨q1,q2,q3,q4,q5,q6,q7⟩:=of_decide_eq_true hp
 have hn:Dk.fine (Dk.D.mk a1n a1b a1p a1w a1o a1l)=true:=hf
 have hn8:=(Dk.fine_iff hf).1.1
 refine⟨0,?_⟩
 simp only [f14,aEf]
 have q2:0≤a0f:=q2
 have q3:a0f < 100000:=q3
 have q4:0 < a0x:=q4
 have q5:a0x < 100000:=q5
 have q6:a0N.length < 100000:=q6
 have q7:a0T.length < 100000:=q7
 have hn8:a1n < 8000:=hn8
 simp only [Jr.append,show Jr.DV.n (Dk.D.mk a1n a1b a1p a1w a1o a1l)=(a1n:Int) from rfl]
 cases a0c with
 | true=>rfl
 | false=>
 simp only [cond_false]
 by_cases h1:(8000:Int) < (a2.length:Int)
 ·rw [decide_eq_true h1];rfl
 rw [decide_eq_false h1]
 simp only [cond_false]
 by_cases h2:a0x > (4096:Int)
 ·rw [decide_eq_true h2];rfl
 rw [decide_eq_false h2]
 simp only [cond_false]
 rw [bM (x:=(a1n:Int)-a0f) (by omega) (by omega)]
 by_cases h3:Jr.count (a2.length:Int) > (a1n:Int)-a0f
 ·rw [decide_eq_true h3];rfl
 rw [decide_eq_false h3]
 simp only [cond_false]
 have hpk:Jr.pack a0x a2=(Jr.sectors a0x a2,0):=by
  unfold Jr.pack
  rw [ba (by omega),ba h1]
 have hct:=(Jr.count_ok (n:=a2.length) (by omega))
 have hsl:(Jr.sectors a0x a2).length=(Jr.count a2.length).toNat:=Jr.sectors_len _ _
 have hsi:(((Jr.sectors a0x a2).length:Nat):Int)=Jr.count a2.length:=by omega
 simp only [hpk,hsi]
 rw [hn,Bool.true_and,aK ⟨q1,by omega,q2,q3⟩,bM (x:=a0x+1) (by omega) (by omega),bM (x:=a0f+Jr.count (a2.length:Int)) (by omega) (by omega)]
 cases ((Jr.writeAll Jr.DV (Dk.D.mk a1n a1b a1p a1w a1o a1l) a0f (Jr.sectors a0x a2)).2.1 != 0) with
 | true=>rfl
 | false=>
 cases (!(Jr.writeAll Jr.DV (Dk.D.mk a1n a1b a1p a1w a1o a1l) a0f (Jr.sectors a0x a2)).2.2) with
 | true=>rfl
 | false=>
 simp only [cond_false]
 rw [aK (by omega),aK (by omega)]
theorem c14:Ck 14 r14:=ck bdO Tryz.func14 (by
 intro X H r H' h hX hH
 unfold r14 at h;split at h <;> try contradiction
 ·obtain⟨hp,rfl,rfl⟩:=ik h
  obtain rfl:=bh (hH _ hm2) rfl
  obtain rfl:=bh (hH _ hm3) rfl
  obtain rfl:=bh (hH _ hm4) rfl
  obtain rfl:=bh (hH _ hm5) rfl
  obtain⟨F,hF⟩:=s14 _ _ _ _ _ _ _ _ _ _ _ _ _ hp (hX _ hm1) (hH _ hm0) (hH _ hm1) (hH _ hm2) (hH _ hm3) (hH _ hm4) (hH _ hm5) (hH _ hm6) (hH _ hm7)
  exact⟨_,abC (aUj F) hF⟩)
end Go.Am
