/- Part of a proof. -/
import Derived.Test.YtffddoahjpemaaaGreatDoorAm36ZT
import Derived.Test.YtffddoahjpemaaaGreatDoorAm36ZH
import Derived.Test.YtffddoahjpemaaaGreatDoorAm36ZR
set_option linter.unusedSimpArgs false
set_option linter.unusedVariables false
section
namespace Go.Am
open Go Go.Proofs
abbrev Ty99:=Li×(List Li)×Li×Int×Int×Bool×Nat×Li×(Lp)×(Lp)×Bool×Int×Li×(List Li)×Li×Int×Int×Bool×(List(List Li))×Bool×Int
abbrev Ty100:=(List(List Li))×Nat×(List(List Li))×Nat×Int×Int
def lV23:List CEnt:=[(10,[some 9,some 9],r10),(11,[none],r11),(12,[none],r12),(35,[none],r35),(36,[some 3,some 3],r36),(37,[none],r37),(38,[none],r38),(42,[none],r42),(59,[none],r59),(60,[none],r60)]
def V23:Env:=mkEnv T36Z G36Z lV23
noncomputable abbrev Kf69:=kFin V23 none(Tryz.f23).results.toList
theorem eV23:EOk Tryz.prog V23:=eok_mk(by exact⟨c10,c11,c12,c35,c36,c37,c38,c42,c59,c60,trivial⟩)
def Af23(F:Nat):Cuts:={ F:=F,at_:=fun _=>none,join:=fun _=>none }
def ef23_a:Ty99→St:=fun(a0N,a0T,a0B,a0x,a0f,a0c,a1n,a1b,a1p,a1w,a1o,a1l,a2N,a2T,a2B,a2x,a2f,a2c,a3s,a3o,a3l)=>⟨[(0,.ptr 0 0 7 0 0 0 7),(1,.ptr 1 0 7 0 0 0 7)],[(0,(jB 2 5 3 4 5 a0x a0f a0c)),(1,(jB 6 3 7 8 9 a2x a2f a2c)),(2,(dB 10 a1n 11 12 a1o a1l)),(3,(iB a0N)),(4,(iB a0B)),(5,(sB a0T)),(6,(rB a3s.length 13 a3o a3l)),(7,(iB a2N)),(8,(sB a2T)),(9,(iB a2B)),(10,(bB a1b)),(11,(pB a1p)),(12,(wB a1w)),(13,(tB a3s))],14,65,14⟩
def f23_1(F:Nat):Ty99→Rz:=fun(a0N,a0T,a0B,a0x,a0f,a0c,a1n,a1b,a1p,a1w,a1o,a1l,a2N,a2T,a2B,a2x,a2f,a2c,a3s,a3o,a3l)=>(cond(decide((Jr.J.mk a0N a0T a0B a0x a0f a0c).nums.length < 1073741000))(cond(decide((Jr.J.mk a0N a0T a0B a0x a0f a0c).nums.length < 1073741824))(cond((Jr.J.mk a0N a0T a0B a0x a0f a0c).nums==a2N)(cond(decide((Jr.J.mk a0N a0T a0B a0x a0f a0c).texts.length < 1073741000))(cond(decide((Jr.J.mk a0N a0T a0B a0x a0f a0c).texts.length < 1073741824))(cond((Jr.J.mk a0N a0T a0B a0x a0f a0c).texts==a2T)(cond(decide((Jr.J.mk a0N a0T a0B a0x a0f a0c).nums.length < 1073741000∧(Jr.J.mk a0N a0T a0B a0x a0f a0c).next < 100000))(cond((decide(a3s.length=a3s.length∧a3s.length < 8000))&&((decide((Jr.J.mk a2N a2T a2B a2x a2f a2c).nums.length < 1073741000∧(Jr.J.mk a2N a2T a2B a2x a2f a2c).next < 100000))))(cond(decide((Jr.damaged(Jr.J.mk a0N a0T a0B a0x a0f a0c)).length < 1073741824))(cond((Jr.damaged(Jr.J.mk a0N a0T a0B a0x a0f a0c))==(Jr.damaged(Jr.J.mk a2N a2T a2B a2x a2f a2c)))(cond(decide((Jr.J.mk a0N a0T a0B a0x a0f a0c).bad.length < 1073741000))(cond(decide((Jr.J.mk a0N a0T a0B a0x a0f a0c).bad.length < 1073741824))(cond((Jr.J.mk a0N a0T a0B a0x a0f a0c).bad==(Jr.J.mk a2N a2T a2B a2x a2f a2c).bad)(cond((Jr.J.mk a0N a0T a0B a0x a0f a0c).next==(Jr.J.mk a2N a2T a2B a2x a2f a2c).next)(cond(decide((Dk.R.mk a3s a3o a3l).s.length=(Dk.R.mk a3s a3o a3l).s.length∧(Dk.R.mk a3s a3o a3l).s.length < 8000))(some((.bool((IntKind.i64.wrap(((Dk.D.mk a1n a1b a1p a1w a1o a1l).n:Int)-(Jr.J.mk a0N a0T a0B a0x a0f a0c).fin))==(IntKind.i64.wrap(((Dk.R.mk a3s a3o a3l).s.length:Int)-(Jr.J.mk a2N a2T a2B a2x a2f a2c).fin)))),[(jE 2 5 3 4 5(Jr.J.mk a0N a0T a0B a0x a0f a0c)),(jE 6 3 7 8 9(Jr.J.mk a2N a2T a2B a2x a2f a2c)),(dE 10(Dk.D.mk a1n a1b a1p a1w a1o a1l) 11 12),(.cells(Jr.J.mk a0N a0T a0B a0x a0f a0c).nums.length(.rI .i64(Jr.J.mk a0N a0T a0B a0x a0f a0c).nums) true),(.cells(Jr.J.mk a0N a0T a0B a0x a0f a0c).bad.length(.rI .i64(Jr.J.mk a0N a0T a0B a0x a0f a0c).bad) true),(.cells(Jr.J.mk a0N a0T a0B a0x a0f a0c).texts.length(.rS(Jr.J.mk a0N a0T a0B a0x a0f a0c).texts) true),(rB(Dk.R.mk a3s a3o a3l).s.length 13(Dk.R.mk a3s a3o a3l).off(Dk.R.mk a3s a3o a3l).left),(.cells(Jr.J.mk a2N a2T a2B a2x a2f a2c).nums.length(.rI .i64(Jr.J.mk a2N a2T a2B a2x a2f a2c).nums) true),(.cells(Jr.J.mk a2N a2T a2B a2x a2f a2c).texts.length(.rS(Jr.J.mk a2N a2T a2B a2x a2f a2c).texts) true),(.cells(Jr.J.mk a2N a2T a2B a2x a2f a2c).bad.length(.rI .i64(Jr.J.mk a2N a2T a2B a2x a2f a2c).bad) true),(.cells(Dk.D.mk a1n a1b a1p a1w a1o a1l).blk.length(.rI .u8(Dk.D.mk a1n a1b a1p a1w a1o a1l).blk) true),(pB(Dk.D.mk a1n a1b a1p a1w a1o a1l).pend),(wB(Dk.D.mk a1n a1b a1p a1w a1o a1l).worn),(.cells((Dk.R.mk a3s a3o a3l).s.length*4)(.rT [.str,.str,.bool,.bool] (Dk.R.mk a3s a3o a3l).s) true)])) none)(some((.bool false),[(jE 2 5 3 4 5(Jr.J.mk a0N a0T a0B a0x a0f a0c)),(jE 6 3 7 8 9(Jr.J.mk a2N a2T a2B a2x a2f a2c)),(dE 10(Dk.D.mk a1n a1b a1p a1w a1o a1l) 11 12),(.cells(Jr.J.mk a0N a0T a0B a0x a0f a0c).nums.length(.rI .i64(Jr.J.mk a0N a0T a0B a0x a0f a0c).nums) true),(.cells(Jr.J.mk a0N a0T a0B a0x a0f a0c).bad.length(.rI .i64(Jr.J.mk a0N a0T a0B a0x a0f a0c).bad) true),(.cells(Jr.J.mk a0N a0T a0B a0x a0f a0c).texts.length(.rS(Jr.J.mk a0N a0T a0B a0x a0f a0c).texts) true),(rB(Dk.R.mk a3s a3o a3l).s.length 13(Dk.R.mk a3s a3o a3l).off(Dk.R.mk a3s a3o a3l).left),(.cells(Jr.J.mk a2N a2T a2B a2x a2f a2c).nums.length(.rI .i64(Jr.J.mk a2N a2T a2B a2x a2f a2c).nums) true),(.cells(Jr.J.mk a2N a2T a2B a2x a2f a2c).texts.length(.rS(Jr.J.mk a2N a2T a2B a2x a2f a2c).texts) true),(.cells(Jr.J.mk a2N a2T a2B a2x a2f a2c).bad.length(.rI .i64(Jr.J.mk a2N a2T a2B a2x a2f a2c).bad) true),(.cells(Dk.D.mk a1n a1b a1p a1w a1o a1l).blk.length(.rI .u8(Dk.D.mk a1n a1b a1p a1w a1o a1l).blk) true),(pB(Dk.D.mk a1n a1b a1p a1w a1o a1l).pend),(wB(Dk.D.mk a1n a1b a1p a1w a1o a1l).worn),(.cells((Dk.R.mk a3s a3o a3l).s.length*4)(.rT [.str,.str,.bool,.bool] (Dk.R.mk a3s a3o a3l).s) true)])))(some((.bool false),[(jE 2 5 3 4 5(Jr.J.mk a0N a0T a0B a0x a0f a0c)),(jE 6 3 7 8 9(Jr.J.mk a2N a2T a2B a2x a2f a2c)),(dE 10(Dk.D.mk a1n a1b a1p a1w a1o a1l) 11 12),(.cells(Jr.J.mk a0N a0T a0B a0x a0f a0c).nums.length(.rI .i64(Jr.J.mk a0N a0T a0B a0x a0f a0c).nums) true),(.cells(Jr.J.mk a0N a0T a0B a0x a0f a0c).bad.length(.rI .i64(Jr.J.mk a0N a0T a0B a0x a0f a0c).bad) true),(.cells(Jr.J.mk a0N a0T a0B a0x a0f a0c).texts.length(.rS(Jr.J.mk a0N a0T a0B a0x a0f a0c).texts) true),(rB(Dk.R.mk a3s a3o a3l).s.length 13(Dk.R.mk a3s a3o a3l).off(Dk.R.mk a3s a3o a3l).left),(.cells(Jr.J.mk a2N a2T a2B a2x a2f a2c).nums.length(.rI .i64(Jr.J.mk a2N a2T a2B a2x a2f a2c).nums) true),(.cells(Jr.J.mk a2N a2T a2B a2x a2f a2c).texts.length(.rS(Jr.J.mk a2N a2T a2B a2x a2f a2c).texts) true),(.cells(Jr.J.mk a2N a2T a2B a2x a2f a2c).bad.length(.rI .i64(Jr.J.mk a2N a2T a2B a2x a2f a2c).bad) true),(.cells(Dk.D.mk a1n a1b a1p a1w a1o a1l).blk.length(.rI .u8(Dk.D.mk a1n a1b a1p a1w a1o a1l).blk) true),(pB(Dk.D.mk a1n a1b a1p a1w a1o a1l).pend),(wB(Dk.D.mk a1n a1b a1p a1w a1o a1l).worn),(.cells((Dk.R.mk a3s a3o a3l).s.length*4)(.rT [.str,.str,.bool,.bool] (Dk.R.mk a3s a3o a3l).s) true)]))) none) none)(some((.bool false),[(jE 2 5 3 4 5(Jr.J.mk a0N a0T a0B a0x a0f a0c)),(jE 6 3 7 8 9(Jr.J.mk a2N a2T a2B a2x a2f a2c)),(dE 10(Dk.D.mk a1n a1b a1p a1w a1o a1l) 11 12),(.cells(Jr.J.mk a0N a0T a0B a0x a0f a0c).nums.length(.rI .i64(Jr.J.mk a0N a0T a0B a0x a0f a0c).nums) true),(.cells(Jr.J.mk a0N a0T a0B a0x a0f a0c).bad.length(.rI .i64(Jr.J.mk a0N a0T a0B a0x a0f a0c).bad) true),(.cells(Jr.J.mk a0N a0T a0B a0x a0f a0c).texts.length(.rS(Jr.J.mk a0N a0T a0B a0x a0f a0c).texts) true),(rB(Dk.R.mk a3s a3o a3l).s.length 13(Dk.R.mk a3s a3o a3l).off(Dk.R.mk a3s a3o a3l).left),(.cells(Jr.J.mk a2N a2T a2B a2x a2f a2c).nums.length(.rI .i64(Jr.J.mk a2N a2T a2B a2x a2f a2c).nums) true),(.cells(Jr.J.mk a2N a2T a2B a2x a2f a2c).texts.length(.rS(Jr.J.mk a2N a2T a2B a2x a2f a2c).texts) true),(.cells(Jr.J.mk a2N a2T a2B a2x a2f a2c).bad.length(.rI .i64(Jr.J.mk a2N a2T a2B a2x a2f a2c).bad) true),(.cells(Dk.D.mk a1n a1b a1p a1w a1o a1l).blk.length(.rI .u8(Dk.D.mk a1n a1b a1p a1w a1o a1l).blk) true),(pB(Dk.D.mk a1n a1b a1p a1w a1o a1l).pend),(wB(Dk.D.mk a1n a1b a1p a1w a1o a1l).worn),(.cells((Dk.R.mk a3s a3o a3l).s.length*4)(.rT [.str,.str,.bool,.bool] (Dk.R.mk a3s a3o a3l).s) true)]))) none) none) none)(some((.bool false),[(jE 2 5 3 4 5(Jr.J.mk a0N a0T a0B a0x a0f a0c)),(jB 6 3 7 8 9 a2x a2f a2c),(dE 10(Dk.D.mk a1n a1b a1p a1w a1o a1l) 11 12),(.cells(Jr.J.mk a0N a0T a0B a0x a0f a0c).nums.length(.rI .i64(Jr.J.mk a0N a0T a0B a0x a0f a0c).nums) true),(.cells(Jr.J.mk a0N a0T a0B a0x a0f a0c).bad.length(.rI .i64(Jr.J.mk a0N a0T a0B a0x a0f a0c).bad) true),(.cells(Jr.J.mk a0N a0T a0B a0x a0f a0c).texts.length(.rS(Jr.J.mk a0N a0T a0B a0x a0f a0c).texts) true),(rB a3s.length 13 a3o a3l),(iB a2N),(sB a2T),(iB a2B),(.cells(Dk.D.mk a1n a1b a1p a1w a1o a1l).blk.length(.rI .u8(Dk.D.mk a1n a1b a1p a1w a1o a1l).blk) true),(pB(Dk.D.mk a1n a1b a1p a1w a1o a1l).pend),(wB(Dk.D.mk a1n a1b a1p a1w a1o a1l).worn),(tB a3s)]))) none) none)(some((.bool false),[(jE 2 5 3 4 5(Jr.J.mk a0N a0T a0B a0x a0f a0c)),(jB 6 3 7 8 9 a2x a2f a2c),(dE 10(Dk.D.mk a1n a1b a1p a1w a1o a1l) 11 12),(.cells(Jr.J.mk a0N a0T a0B a0x a0f a0c).nums.length(.rI .i64(Jr.J.mk a0N a0T a0B a0x a0f a0c).nums) true),(.cells(Jr.J.mk a0N a0T a0B a0x a0f a0c).bad.length(.rI .i64(Jr.J.mk a0N a0T a0B a0x a0f a0c).bad) true),(.cells(Jr.J.mk a0N a0T a0B a0x a0f a0c).texts.length(.rS(Jr.J.mk a0N a0T a0B a0x a0f a0c).texts) true),(rB a3s.length 13 a3o a3l),(iB a2N),(sB a2T),(iB a2B),(.cells(Dk.D.mk a1n a1b a1p a1w a1o a1l).blk.length(.rI .u8(Dk.D.mk a1n a1b a1p a1w a1o a1l).blk) true),(pB(Dk.D.mk a1n a1b a1p a1w a1o a1l).pend),(wB(Dk.D.mk a1n a1b a1p a1w a1o a1l).worn),(tB a3s)]))) none) none)
theorem f23_1_eq(F:Nat):∀ v,aexec V23(Af23 F)(sub(bodyOf Tryz.f23) [])(ef23_a v) Kf69=f23_1 F v:=by
 rintro⟨a0N,a0T,a0B,a0x,a0f,a0c,a1n,a1b,a1p,a1w,a1o,a1l,a2N,a2T,a2B,a2x,a2f,a2c,a3s,a3o,a3l⟩;kernel_rfl
def f23(F:Nat):Ty99→Rz:=f23_1 F
theorem f23_body(F:Nat)(a0N:Li)(a0T:List Li)(a0B:Li)(a0x a0f:Int)(a0c:Bool)(a1n:Nat)(a1b:Li)(a1p a1w:Lp)(a1o:Bool)(a1l:Int)(a2N:Li)(a2T:List Li)(a2B:Li)(a2x a2f:Int)(a2c:Bool)(a3s:List(List Li))(a3o:Bool)(a3l:Int):abody V23(Af23 F) Tryz.f23 [(.ptr 0 0 7 0 0 0 7),.ptr 1 0 7 0 0 0 7] [(jB 2 5 3 4 5 a0x a0f a0c),(jB 6 3 7 8 9 a2x a2f a2c),(dB 10 a1n 11 12 a1o a1l),(iB a0N),(iB a0B),(sB a0T),(rB a3s.length 13 a3o a3l),(iB a2N),(sB a2T),(iB a2B),(bB a1b),(pB a1p),(wB a1w),(tB a3s)]=f23 F(a0N,a0T,a0B,a0x,a0f,a0c,a1n,a1b,a1p,a1w,a1o,a1l,a2N,a2T,a2B,a2x,a2f,a2c,a3s,a3o,a3l):=
 (abody_in(by kernel_rfl)(by kernel_rfl)).trans(f23_1_eq F(a0N,a0T,a0B,a0x,a0f,a0c,a1n,a1b,a1p,a1w,a1o,a1l,a2N,a2T,a2B,a2x,a2f,a2c,a3s,a3o,a3l))
def r23:CRun:=fun X H=>match X,H with
 | [(.ptr 0 0 7 0 0 0 7),.ptr 1 0 7 0 0 0 7],[b0,b1,b2,b3,b4,b5,b6,b7,b8,b9,b10,b11,b12,b13]=>(match b0 with
 | (jB 2 5 3 4 5 a0x a0f a0c)=>(match b1 with
 | (jB 6 3 7 8 9 a2x a2f a2c)=>(match b2 with
 | (dB 10 a1n 11 12 a1o a1l)=>(match b3 with
 | (.cells z3(.rI .i64 a0N) true)=>(match b4 with
 | (.cells z4(.rI .i64 a0B) true)=>(match b5 with
 | (.cells z5(.rS a0T) true)=>(match b6 with
 | (rB a3n 13 a3o a3l)=>(match b7 with
 | (.cells z7(.rI .i64 a2N) true)=>(match b8 with
 | (.cells z8(.rS a2T) true)=>(match b9 with
 | (.cells z9(.rI .i64 a2B) true)=>(match b10 with
 | (.cells z10(.rI .u8 a1b) true)=>(match b11 with
 | (pB a1p)=>(match b12 with
 | (wB a1w)=>(match b13 with
 | (.cells z13(.rT [.str,.str,.bool,.bool] a3s) true)=>some((decide(a3n=a3s.length∧a3n < 8000))&&((Jr.okS(Jr.J.mk a0N a0T a0B a0x a0f a0c))&&(Jr.okS(Jr.J.mk a2N a2T a2B a2x a2f a2c))),(.bool(Jr.same(Jr.J.mk a0N a0T a0B a0x a0f a0c)(Dk.D.mk a1n a1b a1p a1w a1o a1l)(Jr.J.mk a2N a2T a2B a2x a2f a2c)(Dk.R.mk a3s a3o a3l))),[(jE 2 5 3 4 5(Jr.J.mk a0N a0T a0B a0x a0f a0c)),(jE 6 3 7 8 9(Jr.J.mk a2N a2T a2B a2x a2f a2c)),(dE 10(Dk.D.mk a1n a1b a1p a1w a1o a1l) 11 12),(.cells(Jr.J.mk a0N a0T a0B a0x a0f a0c).nums.length(.rI .i64(Jr.J.mk a0N a0T a0B a0x a0f a0c).nums) true),(.cells(Jr.J.mk a0N a0T a0B a0x a0f a0c).bad.length(.rI .i64(Jr.J.mk a0N a0T a0B a0x a0f a0c).bad) true),(.cells(Jr.J.mk a0N a0T a0B a0x a0f a0c).texts.length(.rS(Jr.J.mk a0N a0T a0B a0x a0f a0c).texts) true),(rB(Dk.R.mk a3s a3o a3l).s.length 13(Dk.R.mk a3s a3o a3l).off(Dk.R.mk a3s a3o a3l).left),(.cells(Jr.J.mk a2N a2T a2B a2x a2f a2c).nums.length(.rI .i64(Jr.J.mk a2N a2T a2B a2x a2f a2c).nums) true),(.cells(Jr.J.mk a2N a2T a2B a2x a2f a2c).texts.length(.rS(Jr.J.mk a2N a2T a2B a2x a2f a2c).texts) true),(.cells(Jr.J.mk a2N a2T a2B a2x a2f a2c).bad.length(.rI .i64(Jr.J.mk a2N a2T a2B a2x a2f a2c).bad) true),(.cells(Dk.D.mk a1n a1b a1p a1w a1o a1l).blk.length(.rI .u8(Dk.D.mk a1n a1b a1p a1w a1o a1l).blk) true),(pB(Dk.D.mk a1n a1b a1p a1w a1o a1l).pend),(wB(Dk.D.mk a1n a1b a1p a1w a1o a1l).worn),(.cells((Dk.R.mk a3s a3o a3l).s.length*4)(.rT [.str,.str,.bool,.bool] (Dk.R.mk a3s a3o a3l).s) true)])
 | _=>none)
 | _=>none)
 | _=>none)
 | _=>none)
 | _=>none)
 | _=>none)
 | _=>none)
 | _=>none)
 | _=>none)
 | _=>none)
 | _=>none)
 | _=>none)
 | _=>none)
 | _=>none)
 | _,_=>none
theorem s23(a0N:Li)(a0T:List Li)(a0B:Li)(a0x a0f:Int)(a0c:Bool)(a1n:Nat)(a1b:Li)(a1p a1w:Lp)(a1o:Bool)(a1l:Int)(a2N:Li)(a2T:List Li)(a2B:Li)(a2x a2f:Int)(a2c:Bool)(a3s:List(List Li))(a3o:Bool)(a3l:Int)(hp:((decide(a3s.length=a3s.length∧a3s.length < 8000))&&((Jr.okS(Jr.J.mk a0N a0T a0B a0x a0f a0c))&&(Jr.okS(Jr.J.mk a2N a2T a2B a2x a2f a2c))))=true)(k0:okB(jB 2 5 3 4 5 a0x a0f a0c))(k1:okB(jB 6 3 7 8 9 a2x a2f a2c))(k2:okB(dB 10 a1n 11 12 a1o a1l))(k3:okB(iB a0N))(k4:okB(iB a0B))(k5:okB(sB a0T))(k6:okB(rB a3s.length 13 a3o a3l))(k7:okB(iB a2N))(k8:okB(sB a2T))(k9:okB(iB a2B))(k10:okB(bB a1b))(k11:okB(pB a1p))(k12:okB(wB a1w))(k13:okB(tB a3s)):∃ F,f23 F(a0N,a0T,a0B,a0x,a0f,a0c,a1n,a1b,a1p,a1w,a1o,a1l,a2N,a2T,a2B,a2x,a2f,a2c,a3s,a3o,a3l)=some((.bool(Jr.same(Jr.J.mk a0N a0T a0B a0x a0f a0c)(Dk.D.mk a1n a1b a1p a1w a1o a1l)(Jr.J.mk a2N a2T a2B a2x a2f a2c)(Dk.R.mk a3s a3o a3l))),[(jE 2 5 3 4 5(Jr.J.mk a0N a0T a0B a0x a0f a0c)),(jE 6 3 7 8 9(Jr.J.mk a2N a2T a2B a2x a2f a2c)),(dE 10(Dk.D.mk a1n a1b a1p a1w a1o a1l) 11 12),(.cells(Jr.J.mk a0N a0T a0B a0x a0f a0c).nums.length(.rI .i64(Jr.J.mk a0N a0T a0B a0x a0f a0c).nums) true),(.cells(Jr.J.mk a0N a0T a0B a0x a0f a0c).bad.length(.rI .i64(Jr.J.mk a0N a0T a0B a0x a0f a0c).bad) true),(.cells(Jr.J.mk a0N a0T a0B a0x a0f a0c).texts.length(.rS(Jr.J.mk a0N a0T a0B a0x a0f a0c).texts) true),(rB(Dk.R.mk a3s a3o a3l).s.length 13(Dk.R.mk a3s a3o a3l).off(Dk.R.mk a3s a3o a3l).left),(.cells(Jr.J.mk a2N a2T a2B a2x a2f a2c).nums.length(.rI .i64(Jr.J.mk a2N a2T a2B a2x a2f a2c).nums) true),(.cells(Jr.J.mk a2N a2T a2B a2x a2f a2c).texts.length(.rS(Jr.J.mk a2N a2T a2B a2x a2f a2c).texts) true),(.cells(Jr.J.mk a2N a2T a2B a2x a2f a2c).bad.length(.rI .i64(Jr.J.mk a2N a2T a2B a2x a2f a2c).bad) true),(.cells(Dk.D.mk a1n a1b a1p a1w a1o a1l).blk.length(.rI .u8(Dk.D.mk a1n a1b a1p a1w a1o a1l).blk) true),(pB(Dk.D.mk a1n a1b a1p a1w a1o a1l).pend),(wB(Dk.D.mk a1n a1b a1p a1w a1o a1l).worn),(.cells((Dk.R.mk a3s a3o a3l).s.length*4)(.rT [.str,.str,.bool,.bool] (Dk.R.mk a3s a3o a3l).s) true)]):=by
 obtain⟨hp0,hp⟩:=Bool.and_eq_true_iff.1 hp
 obtain⟨hp1,hp2⟩:=Bool.and_eq_true_iff.1 hp
 obtain⟨p1,p2,p3,p4⟩:=of_decide_eq_true hp1
 obtain⟨r1,r2,r3,r4⟩:=of_decide_eq_true hp2
 have hn8:a3s.length < 8000:=(of_decide_eq_true hp0).2
 have hd:=Jr.damaged_len(Jr.J.mk a0N a0T a0B a0x a0f a0c)
 have p4':a0x < 100000:=p4
 have hd':(Jr.damaged(Jr.J.mk a0N a0T a0B a0x a0f a0c)).length≤(a0x-1).toNat:=hd
 have p1':a0N.length < 100000:=p1
 have p2':a0T.length < 100000:=p2
 have p3':a0B.length < 100000:=p3
 have r1':a2N.length < 100000:=r1
 have r4':a2x < 100000:=r4
 refine⟨0,?_⟩
 simp only [f23,f23_1,Jr.same]
 rw [cond_pos(show a0N.length < 1073741000 by omega),cond_pos(show a0N.length < 1073741824 by omega),cond_pos(show a0T.length < 1073741000 by omega),cond_pos(show a0T.length < 1073741824 by omega),cond_pos(show a0N.length < 1073741000∧a0x < 100000 by omega),
  dec_and,cond_pos⟨⟨trivial,hn8⟩,by omega⟩,cond_pos(show(Jr.damaged(Jr.J.mk a0N a0T a0B a0x a0f a0c)).length < 1073741824 by omega),cond_pos(show a0B.length < 1073741000 by omega),cond_pos(show a0B.length < 1073741824 by omega),cond_pos⟨trivial,hn8⟩]
 cases(a0N==a2N) <;> cases(a0T==a2T) <;> cases(Jr.damaged(Jr.J.mk a0N a0T a0B a0x a0f a0c)==Jr.damaged(Jr.J.mk a2N a2T a2B a2x a2f a2c)) <;> cases(a0B==a2B) <;> cases(a0x==a2x) <;> rfl
set_option maxRecDepth 100000 in
theorem c23:CallOk Tryz.prog G36Z 23 r23:=callOk_of mixed tys eV23 Tryz.func23(by kernel_rfl)(c:=sub(bodyOf Tryz.f23) [])(by kernel_rfl)(by
 intro X H r H' h hX hH
 unfold r23 at h;split at h <;> try contradiction
 split at h <;> try contradiction
 split at h <;> try contradiction
 split at h <;> try contradiction
 split at h <;> try contradiction
 split at h <;> try contradiction
 split at h <;> try contradiction
 split at h <;> try contradiction
 split at h <;> try contradiction
 split at h <;> try contradiction
 split at h <;> try contradiction
 split at h <;> try contradiction
 split at h <;> try contradiction
 split at h <;> try contradiction
 split at h <;> try contradiction
 ·obtain⟨hp,rfl,rfl⟩:=inj3 h
  obtain rfl:=okB_size(hH _ hm3) rfl
  obtain rfl:=okB_size(hH _ hm4) rfl
  obtain rfl:=okB_size(hH _ hm5) rfl
  obtain rfl:=okB_size(hH _ hm7) rfl
  obtain rfl:=okB_size(hH _ hm8) rfl
  obtain rfl:=okB_size(hH _ hm9) rfl
  obtain rfl:=okB_size(hH _ hm10) rfl
  obtain rfl:=okB_size(hH _ hm13) rfl
  obtain rfl:=(of_decide_eq_true(Bool.and_eq_true_iff.1 hp).1).1
  obtain⟨F,hF⟩:=s23 _ _ _ _ _ _ _ _ _ _ _ _ _ _ _ _ _ _ _ _ _ hp(hH _ hm0)(hH _ hm1)(hH _ hm2)(hH _ hm3)(hH _ hm4)(hH _ hm5)(hH _ hm6)(hH _ hm7)(hH _ hm8)(hH _ hm9)(hH _ hm10)(hH _ hm11)(hH _ hm12)(hH _ hm13)
  exact⟨Af23 F,(f23_body F _ _ _ _ _ _ _ _ _ _ _ _ _ _ _ _ _ _ _ _ _).trans hF⟩)
def f19_1(F:Nat)(kj1:Ty32→Rz):Ty32→Rz:=fun(a0,a0n)=>(kj1(a0,a0n))
def f19_2(F:Nat)(kj2:Ty100→Rz)(kj3:Ty32→Rz):Ty32→Rz:=fun(t0,x2)=>(kj2(t0,x2,t0,x2,(↑x2:Int),(0:Int)))
def f19_3(F:Nat)(kl1:Ty100→Rz)(kj3:Ty32→Rz):Ty100→Rz:=fun(t0,x2,t5,x4,t6,t7)=>(cond(decide(t7 < t6))(cond((decide(0≤t7))&&(decide(t7 < (↑x4:Int))))(cond(decide((↑((t5.getD(Int.toNat t7) []).getD 5 []).length:Int) > (200:Int)))(some((.bool false),[]))(kl1(t0,x2,t5,x4,t6,(IntKind.i64.wrap(t7+(1:Int)))))) none)(kj3(t0,x2)))
def f19_4_i:Ty100→(List(List Li))×Nat×(List(List Li))×Nat×Int×Int:=fun(t0,x2,t5,x4,t6,t7)=>(t0,x2,t5,x4,t6,t7)
def f19_4(F:Nat)(kj3:Ty32→Rz):Ty100→Rz:=fun v=>loopN(fun k=>f19_3 F k kj3) F(f19_4_i v)
def f19_5(F:Nat)(kj3:Ty32→Rz):Ty100→Rz:=f19_4 F kj3
def f19_6(F:Nat)(kj3:Ty32→Rz):Ty32→Rz:=fun v=>f19_2 F(f19_5 F kj3) kj3 v
def f19_7(F:Nat):Ty32→Rz:=fun(t0,x2)=>(some((.bool(decide((↑x2:Int)≤(30:Int)))),[]))
def f19_8(F:Nat):Ty32→Rz:=fun v=>f19_6 F(f19_7 F) v
def f19_9(F:Nat):Ty32→Rz:=fun v=>f19_1 F(f19_8 F) v
def f19(F:Nat):Ty32→Rz:=f19_9 F
end Go.Am
end
section
/- What Open returns is not too long; writings while the power is on. -/
namespace Go.Jr
open Go Go.Am Go.Dk
theorem collect_len(l:List Part):∀ (f k:Nat)(a:List Int×List Li),(collect l f k a).1.length≤a.1.length+f∧(collect l f k a).2.length≤a.2.length+f
 | 0,k,a=>⟨Nat.le_refl _,Nat.le_refl _⟩
 | f+1,k,a=>by
  simp only [collect]
  cases decide(k < l.length) with
  | false=>exact⟨by simp only [cond_false];omega,by simp only [cond_false];omega⟩
  | true=>
   cases recOk l k with
   | false=>
    obtain⟨h1,h2⟩:=collect_len l f(k+1) a
    simp only [cond_true,cond_false]
    exact⟨by omega,by omega⟩
   | true=>
    have hp:(put1 a(pt l k).number(recText l k(recN l k))).1.length≤a.1.length+1∧(put1 a(pt l k).number(recText l k(recN l k))).2.length≤a.2.length+1:=by
     unfold put1
     cases a.1.contains(pt l k).number
     ·simp
     ·simp
    obtain⟨h1,h2⟩:=collect_len l f(k+recN l k)(put1 a(pt l k).number(recText l k(recN l k)))
    simp only [cond_true]
    exact⟨by omega,by omega⟩
theorem unpack_le(s:Li):(unpack s).number≤4096:=by
 unfold unpack
 cases hg:isGood s with
 | false=>exact(by decide:(0:Int)≤4096)
 | true=>
  simp only [isGood,Bool.and_eq_true,decide_eq_true_eq] at hg
  exact hg.1.2.2.1
theorem openS_bounds(S:List Li):(openS S).nums.length≤S.length∧(openS S).texts.length≤S.length∧(openS S).bad.length≤S.length∧1≤(openS S).next∧(openS S).next≤4097∧0≤(openS S).fin∧(openS S).fin≤S.length∧(openS S).closed=false:=by
 obtain⟨h1,h2⟩:=collect_len(S.map unpack) S.length 0([],[])
 have h3:=badOf_len S S.length
 have h4:nextOf S S.length≤4096+1:=nextOf_le(by decide) _ fun i _=>unpack_le _
 have h5:=nextOf_one S S.length
 have h6:∀ k,0≤finOf S k∧finOf S k≤k:=fun k=>by
  induction k with
  | zero=>exact⟨Int.le_refl _,Int.le_refl _⟩
  | succ k ih=>
   simp only [finOf]
   cases blank(S.getD k []) with
   | false=>rw [cond_false];omega
   | true=>rw [cond_true];omega
 have h7:=h6 S.length
 simp only [List.length_nil,Nat.zero_add] at h1 h2
 exact⟨h1,h2,h3,h5,h4,h7.1,h7.2,rfl⟩
theorem openS_okS {S:List Li} (h:S.length < 8000):okS(openS S)=true:=by
 obtain⟨h1,h2,h3,h4,h5,h6,h7,h8⟩:=openS_bounds S
 rw [okS,decide_eq_true_iff]
 omega
theorem rwrite_on {r:R} (ho:r.off=false)(hl:r.left < 0)(i:Int)(t:Li):(rwrite r i t).1.off=false∧(rwrite r i t).1.left < 0:=by
 simp only [rwrite,rstep_neg hl,ho]
 cases ris r i
 ·exact⟨ho,hl⟩
 ·cases((t.length:Int) != 64)
  ·exact⟨rfl,hl⟩
  ·exact⟨ho,hl⟩
end Go.Jr
end
section
namespace Go.Am
open Go Go.Proofs
abbrev sp100:List(Nat×Md):=[(3,.plain),(5,.plain),(40,.plain),(41,.plain),(42,.plain)]
abbrev sp101:List(Nat×Md):=[(0,.plain),(3,.plain),(4,.plain),(5,.plain),(6,.plain)]
abbrev sp102:List(Nat×Md):=[(0,.plain),(3,.plain),(5,.plain),(39,.plain)]
abbrev sp103:List(Nat×Md):=[(0,.plain),(3,.plain),(5,.plain)]
abbrev sp104:List(Nat×Md):=[(3,.plain),(5,.plain),(40,.plain),(41,.plain),(42,.plain),(43,.plain)]
abbrev sp105:List(Nat×Md):=[(3,.plain),(5,.plain),(7,.plain),(8,.plain),(40,.plain),(41,.plain),(42,.plain)]
abbrev sp106:List(Nat×Md):=[(3,.plain),(5,.plain),(40,.plain),(41,.plain),(42,.plain),(55,.plain)]
abbrev sp107:List(Nat×Md):=[(3,.plain),(5,.plain)]
abbrev sp108:List(Nat×Md):=[(5,.plain),(9,.plain),(10,.plain)]
abbrev sp109:List(Nat×Md):=[(9,.plain),(10,.plain),(11,.plain),(12,.plain)]
abbrev Ty101:=(List Li)×Int×(Dk.D)
abbrev Ty102:=(List Li)×Int×Int×(Dk.D)×(Dk.R)
abbrev Ty103:=(List Li)×Bool×(Dk.D)×(Dk.R)
abbrev Ty104:=(List Li)×(Dk.D)×(Dk.R)
abbrev Ty105:=(List Li)×Int×Int×Bool×(Dk.D)×(Dk.R)
abbrev Ty106:=Int×Li×(List Li)×Int×Int×(Dk.D)×(Dk.R)
abbrev Ty107:=Int×(Dk.D)×(Jr.J)×(Dk.R)
abbrev Ty108:=Int×Int×(Dk.D)×(Jr.J)×(Dk.R)×(Jr.J)
def lV5:List CEnt:=[(7,[],r7),(9,[none],r9),(20,[none],r20),(21,[none],r21),(22,[none],r22),(23,[none,none],r23),(32,[none,none,none],r32),(33,[none,none,none],r33)]
def V5:Env:=mkEnv T36Z G37Z lV5
noncomputable abbrev Kf71:=kFin V5 none(Tryz.f5).results.toList
theorem eV5:EOk Tryz.prog V5:=eok_mk(by exact⟨c7.more gsub,c9.more gsub,c20.more gsub,c21.more gsub,c22,c23.more gsub,c32.more gsub,c33.more gsub,trivial⟩)
def Af5(F:Nat):Cuts:={ F:=F,at_:=fun n=>match n with | 8018=>some sp100 | _=>none,join:=fun n=>match n with | 1050=>some sp74 | 2005=>some [(0,.plain),(20,.plain)] | 3042=>some sp74 | 4040=>some sp35 | 5038=>some sp101 | 6005=>some sp102 | 7030=>some sp103 | 8020=>some sp100 | 9012=>some sp100 | 9016=>some sp104 | 10007=>some sp105 | 11005=>some sp106 | 12001=>some sp100 | 13007=>some sp107 | 14005=>some sp108 | 15003=>some sp109 | _=>none }
noncomputable abbrev XAf5(F:Nat) {α:Type}:=@aexec α V5(Af5 F)
def ef5_a:(List Li)→St:=fun a0=>⟨[(0,(.vs(.rS a0) 0 1))],[],0,78,0⟩
def ef5j1:(List Li)→St:=fun t0=>⟨[(0,(.vs(.rS t0) 0 1))],[],0,78,0⟩
def ef5j2:(List Li)×Bool→St:=fun(t0,t20)=>⟨[(0,(.vs(.rS t0) 0 1)),(20,.bool t20)],[],0,78,0⟩
def ef5j3:(List Li)→St:=ef5j1
def ef5j4:Ty101→St:=fun(t0,t4,e1)=>⟨[(0,(.vs(.rS t0) 0 1)),(3,.ptr 0 0 5 0 0 0 5),(4,.int .i64 t4)],[(0,(dE 1 e1 2 3)),(1,(bB e1.blk)),(2,(pB e1.pend)),(3,(wB e1.worn))],4,78,0⟩
def ef5j5:Ty102→St:=fun(t0,t4,t6,e1,e2)=>⟨[(0,(.vs(.rS t0) 0 1)),(3,.ptr 0 0 5 0 0 0 5),(4,.int .i64 t4),(5,.ptr 1 0 3 0 0 0 3),(6,.int .i64 t6)],[(0,(dE 2 e1 3 4)),(1,(rB e2.s.length 5 e2.off e2.left)),(2,(bB e1.blk)),(3,(pB e1.pend)),(4,(wB e1.worn)),(5,(tB e2.s))],6,78,0⟩
def ef5j6:Ty103→St:=fun(t0,t39,e1,e2)=>⟨[(0,(.vs(.rS t0) 0 1)),(3,.ptr 0 0 5 0 0 0 5),(5,.ptr 1 0 3 0 0 0 3),(39,.bool t39)],[(0,(dE 2 e1 3 4)),(1,(rB e2.s.length 5 e2.off e2.left)),(2,(bB e1.blk)),(3,(pB e1.pend)),(4,(wB e1.worn)),(5,(tB e2.s))],6,78,0⟩
def ef5j7:Ty104→St:=fun(t0,e1,e2)=>⟨[(0,(.vs(.rS t0) 0 1)),(3,.ptr 0 0 5 0 0 0 5),(5,.ptr 1 0 3 0 0 0 3)],[(0,(dE 2 e1 3 4)),(1,(rB e2.s.length 5 e2.off e2.left)),(2,(bB e1.blk)),(3,(pB e1.pend)),(4,(wB e1.worn)),(5,(tB e2.s))],6,78,0⟩
def ef5j8:Ty102→St:=fun(t40,t41,t42,e1,e2)=>⟨[(3,.ptr 0 0 5 0 0 0 5),(5,.ptr 1 0 3 0 0 0 3),(40,(.vs(.rS t40) 0 1)),(41,.int .i64 t41),(42,.int .i64 t42)],[(0,(dE 2 e1 3 4)),(1,(rB e2.s.length 5 e2.off e2.left)),(2,(bB e1.blk)),(3,(pB e1.pend)),(4,(wB e1.worn)),(5,(tB e2.s))],6,78,0⟩
def ef5l1:Ty102→St:=ef5j8
def ef5j9:Ty105→St:=fun(t40,t41,t42,t43,e1,e2)=>⟨[(3,.ptr 0 0 5 0 0 0 5),(5,.ptr 1 0 3 0 0 0 3),(40,(.vs(.rS t40) 0 1)),(41,.int .i64 t41),(42,.int .i64 t42),(43,.bool t43)],[(0,(dE 2 e1 3 4)),(1,(rB e2.s.length 5 e2.off e2.left)),(2,(bB e1.blk)),(3,(pB e1.pend)),(4,(wB e1.worn)),(5,(tB e2.s))],6,78,0⟩
def ef5j10:Ty102→St:=ef5j8
def ef5j11:Ty106→St:=fun(t7,t8,t40,t41,t42,e1,e2)=>⟨[(3,.ptr 0 0 5 0 0 0 5),(5,.ptr 1 0 3 0 0 0 3),(7,.int .i64 t7),(8,.str t8),(40,(.vs(.rS t40) 0 1)),(41,.int .i64 t41),(42,.int .i64 t42)],[(0,(dE 2 e1 3 4)),(1,(rB e2.s.length 5 e2.off e2.left)),(2,(bB e1.blk)),(3,(pB e1.pend)),(4,(wB e1.worn)),(5,(tB e2.s))],6,78,0⟩
def ef5j12:Ty105→St:=fun(t40,t41,t42,t55,e1,e2)=>⟨[(3,.ptr 0 0 5 0 0 0 5),(5,.ptr 1 0 3 0 0 0 3),(40,(.vs(.rS t40) 0 1)),(41,.int .i64 t41),(42,.int .i64 t42),(55,.bool t55)],[(0,(dE 2 e1 3 4)),(1,(rB e2.s.length 5 e2.off e2.left)),(2,(bB e1.blk)),(3,(pB e1.pend)),(4,(wB e1.worn)),(5,(tB e2.s))],6,78,0⟩
def ef5j13:Ty102→St:=ef5j8
def ef5j14:(Dk.D)×(Dk.R)→St:=fun(e1,e2)=>⟨[(3,.ptr 0 0 5 0 0 0 5),(5,.ptr 1 0 3 0 0 0 3)],[(0,(dE 2 e1 3 4)),(1,(rB e2.s.length 5 e2.off e2.left)),(2,(bB e1.blk)),(3,(pB e1.pend)),(4,(wB e1.worn)),(5,(tB e2.s))],6,78,0⟩
def ef5j15:Ty107→St:=fun(t10,e1,e2,e3)=>⟨[(5,.ptr 0 0 3 0 0 0 3),(9,.ptr 1 0 7 0 0 0 7),(10,.int .i64 t10)],[(0,(rB e3.s.length 2 e3.off e3.left)),(1,(jE 3 5 4 5 6 e2)),(2,(tB e3.s)),(3,(dE 7 e1 8 9)),(4,(iB e2.nums)),(5,(iB e2.bad)),(6,(sB e2.texts)),(7,(bB e1.blk)),(8,(pB e1.pend)),(9,(wB e1.worn))],10,78,0⟩
def ef5j16:Ty108→St:=fun(t10,t12,e1,e2,e3,e4)=>⟨[(9,.ptr 0 0 7 0 0 0 7),(10,.int .i64 t10),(11,.ptr 1 0 7 0 0 0 7),(12,.int .i64 t12)],[(0,(jE 2 5 3 4 5 e2)),(1,(jE 6 3 7 8 9 e4)),(2,(dE 10 e1 11 12)),(3,(iB e2.nums)),(4,(iB e2.bad)),(5,(sB e2.texts)),(6,(rB e3.s.length 13 e3.off e3.left)),(7,(iB e4.nums)),(8,(sB e4.texts)),(9,(iB e4.bad)),(10,(bB e1.blk)),(11,(pB e1.pend)),(12,(wB e1.worn)),(13,(tB e3.s))],14,78,0⟩
def f5_1(F:Nat)(kj1:(List Li)→Rz):(List Li)→Rz:=fun a0=>(kj1 a0)
theorem f5_1_eq(F:Nat)(Rj1:St→Rz):∀ v,XAf5 F(bp Tryz.f5 2)(ef5_a v)(kSeq(kc V5 Rj1 sp74) Kf71)=f5_1 F(Rj1∘ef5j1) v:=by
 intro a0;kernel_rfl
def f5_2(F:Nat)(kj2:(List Li)×Bool→Rz)(kj3:(List Li)→Rz):(List Li)→Rz:=fun t0=>(cond(decide((↑t0.length:Int) > (40:Int)))(kj2(t0,true))(kj2(t0,((↑t0.length:Int)==(0:Int)))))
theorem f5_2_eq(F:Nat)(Rj2 Rj3:St→Rz):∀ v,XAf5 F(bp Tryz.f5 12)(ef5j1 v)(kSeq(kc V5 Rj2 [(0,.plain),(20,.plain)])(kSeq(kc V5 Rj3 sp74) Kf71))=f5_2 F(Rj2∘ef5j2)(Rj3∘ef5j3) v:=by
 intro t0;kernel_rfl
def f5_3(F:Nat)(kj3:(List Li)→Rz):(List Li)×Bool→Rz:=fun(t0,t20)=>(cond t20(some((.bool true),[]))(kj3 t0))
theorem f5_3_eq(F:Nat)(Rj3:St→Rz):∀ v,XAf5 F(bp Tryz.f5 13)(ef5j2 v)(kSeq(kc V5 Rj3 sp74) Kf71)=f5_3 F(Rj3∘ef5j3) v:=by
 rintro⟨t0,t20⟩;kernel_rfl
def f5_4(F:Nat)(kj3:(List Li)→Rz):(List Li)→Rz:=fun v=>f5_2 F(f5_3 F kj3) kj3 v
theorem f5_4_eq(F:Nat)(Rj3:St→Rz):∀ v,XAf5 F(bp Tryz.f5 6)(ef5j1 v)(kSeq(kc V5 Rj3 sp74) Kf71)=f5_4 F(Rj3∘ef5j3) v:=
 seq_cut(by kernel_rfl)(by kernel_rfl) ef5j1 ef5j2 _(fun k=>f5_2 F k(Rj3∘ef5j3))(f5_3 F(Rj3∘ef5j3))
  (fun Rj2=>f5_2_eq F Rj2 Rj3)(f5_3_eq F Rj3)
def f5_5(F:Nat)(kj4:Ty101→Rz):(List Li)→Rz:=fun t0=>(cond((decide(0 < (↑t0.length:Int)))&&(decide((↑t0.length:Int) < 4097)))(kj4(t0,0,(Dk.new(↑t0.length:Int)))) none)
theorem f5_5_eq(F:Nat)(Rj4:St→Rz):∀ v,XAf5 F(bp Tryz.f5 14)(ef5j3 v)(kSeq(kc V5 Rj4 sp35) Kf71)=f5_5 F(Rj4∘ef5j4) v:=by
 intro t0;kernel_rfl
def f5_6(F:Nat)(kj5:Ty102→Rz):Ty101→Rz:=fun(t0,t4,e1)=>(cond((decide(0 < (↑t0.length:Int)))&&(decide((↑t0.length:Int) < 4097)))(kj5(t0,t4,0,e1,(Dk.rnew(↑t0.length:Int)))) none)
theorem f5_6_eq(F:Nat)(Rj5:St→Rz):∀ v,XAf5 F(bp Tryz.f5 30)(ef5j4 v)(kSeq(kc V5 Rj5 sp101) Kf71)=f5_6 F(Rj5∘ef5j5) v:=by
 rintro⟨t0,t4,e1⟩;kernel_rfl
def f5_7(F:Nat)(kj6:Ty103→Rz)(kj7:Ty104→Rz):Ty102→Rz:=fun(t0,t4,t6,e1,e2)=>(cond(t4 != (0:Int))(kj6(t0,true,e1,e2))(kj6(t0,(t6 != (0:Int)),e1,e2)))
theorem f5_7_eq(F:Nat)(Rj6 Rj7:St→Rz):∀ v,XAf5 F(bp Tryz.f5 124)(ef5j5 v)(kSeq(kc V5 Rj6 sp102)(kSeq(kc V5 Rj7 sp103) Kf71))=f5_7 F(Rj6∘ef5j6)(Rj7∘ef5j7) v:=by
 rintro⟨t0,t4,t6,e1,e2⟩;kernel_rfl
def f5_8(F:Nat)(kj7:Ty104→Rz):Ty103→Rz:=fun(t0,t39,e1,e2)=>(cond t39(some((.bool false),[]))(kj7(t0,e1,e2)))
theorem f5_8_eq(F:Nat)(Rj7:St→Rz):∀ v,XAf5 F(bp Tryz.f5 125)(ef5j6 v)(kSeq(kc V5 Rj7 sp103) Kf71)=f5_8 F(Rj7∘ef5j7) v:=by
 rintro⟨t0,t39,e1,e2⟩;kernel_rfl
def f5_9(F:Nat)(kj7:Ty104→Rz):Ty102→Rz:=fun v=>f5_7 F(f5_8 F kj7) kj7 v
theorem f5_9_eq(F:Nat)(Rj7:St→Rz):∀ v,XAf5 F(bp Tryz.f5 62)(ef5j5 v)(kSeq(kc V5 Rj7 sp103) Kf71)=f5_9 F(Rj7∘ef5j7) v:=
 seq_cut(by kernel_rfl)(by kernel_rfl) ef5j5 ef5j6 _(fun k=>f5_7 F k(Rj7∘ef5j7))(f5_8 F(Rj7∘ef5j7))
  (fun Rj6=>f5_7_eq F Rj6 Rj7)(f5_8_eq F Rj7)
def f5_10(F:Nat)(kj8:Ty102→Rz)(kj14:(Dk.D)×(Dk.R)→Rz):Ty104→Rz:=fun(t0,e1,e2)=>(kj8(t0,(↑t0.length:Int),(0:Int),e1,e2))
theorem f5_10_eq(F:Nat)(Rj8 Rj14:St→Rz):∀ v,XAf5 F(bp Tryz.f5 252)(ef5j7 v)(kSeq(kc V5 Rj8 sp100)(kSeq(kc V5 Rj14 sp107) Kf71))=f5_10 F(Rj8∘ef5j8)(Rj14∘ef5j14) v:=by
 rintro⟨t0,e1,e2⟩;kernel_rfl
def f5_11(F:Nat)(kj9:Ty105→Rz)(kl1:Ty102→Rz)(kj14:(Dk.D)×(Dk.R)→Rz):Ty102→Rz:=fun(t40,t41,t42,e1,e2)=>(kj9(t40,t41,t42,(decide(t42 < t41)),e1,e2))
theorem f5_11_eq(F:Nat)(Rj9 Rl1 Rj14:St→Rz):∀ v,XAf5 F(bp Tryz.f5 2024)(ef5l1 v)(kSeq(kc V5 Rj9 sp104)(kSeq(kc V5 Rl1 sp100)(kBlock 0(kSeq(kc V5 Rj14 sp107) Kf71))))=f5_11 F(Rj9∘ef5j9)(Rl1∘ef5l1)(Rj14∘ef5j14) v:=by
 rintro⟨t40,t41,t42,e1,e2⟩;kernel_rfl
def f5_12(F:Nat)(kj10 kl1:Ty102→Rz)(kj14:(Dk.D)×(Dk.R)→Rz):Ty105→Rz:=fun(t40,t41,t42,t43,e1,e2)=>(cond t43(kj10(t40,t41,t42,e1,e2))(kj14(e1,e2)))
theorem f5_12_eq(F:Nat)(Rj10 Rl1 Rj14:St→Rz):∀ v,XAf5 F(bp Tryz.f5 4050)(ef5j9 v)(kSeq(kc V5 Rj10 sp100)(kSeq(kc V5 Rl1 sp100)(kBlock 0(kSeq(kc V5 Rj14 sp107) Kf71))))=f5_12 F(Rj10∘ef5j10)(Rl1∘ef5l1)(Rj14∘ef5j14) v:=by
 rintro⟨t40,t41,t42,t43,e1,e2⟩;kernel_rfl
def f5_13(F:Nat)(kj11:Ty106→Rz)(kj13 kl1:Ty102→Rz)(kj14:(Dk.D)×(Dk.R)→Rz):Ty102→Rz:=fun(t40,t41,t42,e1,e2)=>(cond((decide(0≤t42))&&(decide(t42 < (↑t40.length:Int))))(kj11(t42,(t40.getD(Int.toNat t42) []),t40,t41,t42,e1,e2)) none)
theorem f5_13_eq(F:Nat)(Rj11 Rj13:St→Rz)(Rl1 Rj14:St→Rz):∀ v,XAf5 F(bp Tryz.f5 32408)(ef5j10 v)(kSeq(kc V5 Rj11 sp105)(kBlock 1(kSeq(kc V5 Rj13 sp100)(kSeq(kc V5 Rl1 sp100)(kBlock 0(kSeq(kc V5 Rj14 sp107) Kf71))))))=f5_13 F(Rj11∘ef5j11)(Rj13∘ef5j13)(Rl1∘ef5l1)(Rj14∘ef5j14) v:=by
 rintro⟨t40,t41,t42,e1,e2⟩;kernel_rfl
def f5_14(F:Nat)(kj12:Ty105→Rz)(kj13 kl1:Ty102→Rz)(kj14:(Dk.D)×(Dk.R)→Rz):Ty106→Rz:=fun(t7,t8,t40,t41,t42,e1,e2)=>(cond(decide(e2.s.length=e2.s.length∧e2.s.length < 8000))(kj12(t40,t41,t42,((Dk.write e1 t7 t8).2 != (Dk.rwrite e2 t7 t8).2),(Dk.write e1 t7 t8).1,(Dk.rwrite e2 t7 t8).1)) none)
theorem f5_14_eq(F:Nat)(Rj12 Rj13:St→Rz)(Rl1 Rj14:St→Rz):∀ v,XAf5 F(bp Tryz.f5 64818)(ef5j11 v)(kSeq(kc V5 Rj12 sp106)(kBlock 1(kSeq(kc V5 Rj13 sp100)(kSeq(kc V5 Rl1 sp100)(kBlock 0(kSeq(kc V5 Rj14 sp107) Kf71))))))=f5_14 F(Rj12∘ef5j12)(Rj13∘ef5j13)(Rl1∘ef5l1)(Rj14∘ef5j14) v:=by
 rintro⟨t7,t8,t40,t41,t42,e1,e2⟩;kernel_rfl
def f5_15(F:Nat)(kj13 kl1:Ty102→Rz)(kj14:(Dk.D)×(Dk.R)→Rz):Ty105→Rz:=fun(t40,t41,t42,t55,e1,e2)=>(cond t55(some((.bool false),[]))(kj13(t40,t41,t42,e1,e2)))
theorem f5_15_eq(F:Nat)(Rj13 Rl1 Rj14:St→Rz):∀ v,XAf5 F(bp Tryz.f5 64819)(ef5j12 v)(kBlock 1(kSeq(kc V5 Rj13 sp100)(kSeq(kc V5 Rl1 sp100)(kBlock 0(kSeq(kc V5 Rj14 sp107) Kf71)))))=f5_15 F(Rj13∘ef5j13)(Rl1∘ef5l1)(Rj14∘ef5j14) v:=by
 rintro⟨t40,t41,t42,t55,e1,e2⟩;kernel_rfl
def f5_16(F:Nat)(kj13 kl1:Ty102→Rz)(kj14:(Dk.D)×(Dk.R)→Rz):Ty106→Rz:=fun v=>f5_14 F(f5_15 F kj13 kl1 kj14) kj13 kl1 kj14 v
theorem f5_16_eq(F:Nat)(Rj13 Rl1 Rj14:St→Rz):∀ v,XAf5 F(bp Tryz.f5 32409)(ef5j11 v)(kBlock 1(kSeq(kc V5 Rj13 sp100)(kSeq(kc V5 Rl1 sp100)(kBlock 0(kSeq(kc V5 Rj14 sp107) Kf71)))))=f5_16 F(Rj13∘ef5j13)(Rl1∘ef5l1)(Rj14∘ef5j14) v:=
 seq_cut(by kernel_rfl)(by kernel_rfl) ef5j11 ef5j12 _(fun k=>f5_14 F k(Rj13∘ef5j13)(Rl1∘ef5l1)(Rj14∘ef5j14))(f5_15 F(Rj13∘ef5j13)(Rl1∘ef5l1)(Rj14∘ef5j14))
  (fun Rj12=>f5_14_eq F Rj12 Rj13 Rl1 Rj14)(f5_15_eq F Rj13 Rl1 Rj14)
def f5_17(F:Nat)(kj13 kl1:Ty102→Rz)(kj14:(Dk.D)×(Dk.R)→Rz):Ty102→Rz:=fun v=>f5_13 F(f5_16 F kj13 kl1 kj14) kj13 kl1 kj14 v
theorem f5_17_eq(F:Nat)(Rj13 Rl1 Rj14:St→Rz):∀ v,XAf5 F(bp Tryz.f5 16204)(ef5j10 v)(kBlock 1(kSeq(kc V5 Rj13 sp100)(kSeq(kc V5 Rl1 sp100)(kBlock 0(kSeq(kc V5 Rj14 sp107) Kf71)))))=f5_17 F(Rj13∘ef5j13)(Rl1∘ef5l1)(Rj14∘ef5j14) v:=
 seq_cut(by kernel_rfl)(by kernel_rfl) ef5j10 ef5j11 _(fun k=>f5_13 F k(Rj13∘ef5j13)(Rl1∘ef5l1)(Rj14∘ef5j14))(f5_16 F(Rj13∘ef5j13)(Rl1∘ef5l1)(Rj14∘ef5j14))
  (fun Rj11=>f5_13_eq F Rj11 Rj13 Rl1 Rj14)(f5_16_eq F Rj13 Rl1 Rj14)
def f5_18(F:Nat)(kj13 kl1:Ty102→Rz)(kj14:(Dk.D)×(Dk.R)→Rz):Ty102→Rz:=f5_17 F kj13 kl1 kj14
theorem f5_18_eq(F:Nat)(Rj13 Rl1 Rj14:St→Rz):∀ v,XAf5 F(bp Tryz.f5 8102)(ef5j10 v)(kSeq(kc V5 Rj13 sp100)(kSeq(kc V5 Rl1 sp100)(kBlock 0(kSeq(kc V5 Rj14 sp107) Kf71))))=f5_18 F(Rj13∘ef5j13)(Rl1∘ef5l1)(Rj14∘ef5j14) v:=fun v=>
 (block_in  (by kernel_rfl) _ _).trans(f5_17_eq F Rj13 Rl1 Rj14 v)
def f5_19(F:Nat)(kl1:Ty102→Rz)(kj14:(Dk.D)×(Dk.R)→Rz):Ty102→Rz:=fun(t40,t41,t42,e1,e2)=>(kl1(t40,t41,(IntKind.i64.wrap(t42+(1:Int))),e1,e2))
theorem f5_19_eq(F:Nat)(Rl1 Rj14:St→Rz):∀ v,XAf5 F(bp Tryz.f5 8103)(ef5j13 v)(kSeq(kc V5 Rl1 sp100)(kBlock 0(kSeq(kc V5 Rj14 sp107) Kf71)))=f5_19 F(Rl1∘ef5l1)(Rj14∘ef5j14) v:=by
 rintro⟨t40,t41,t42,e1,e2⟩;kernel_rfl
def f5_20(F:Nat)(kl1:Ty102→Rz)(kj14:(Dk.D)×(Dk.R)→Rz):Ty102→Rz:=fun v=>f5_18 F(f5_19 F kl1 kj14) kl1 kj14 v
theorem f5_20_eq(F:Nat)(Rl1 Rj14:St→Rz):∀ v,XAf5 F(bp Tryz.f5 4051)(ef5j10 v)(kSeq(kc V5 Rl1 sp100)(kBlock 0(kSeq(kc V5 Rj14 sp107) Kf71)))=f5_20 F(Rl1∘ef5l1)(Rj14∘ef5j14) v:=
 seq_cut(by kernel_rfl)(by kernel_rfl) ef5j10 ef5j13 _(fun k=>f5_18 F k(Rl1∘ef5l1)(Rj14∘ef5j14))(f5_19 F(Rl1∘ef5l1)(Rj14∘ef5j14))
  (fun Rj13=>f5_18_eq F Rj13 Rl1 Rj14)(f5_19_eq F Rl1 Rj14)
def f5_21(F:Nat)(kl1:Ty102→Rz)(kj14:(Dk.D)×(Dk.R)→Rz):Ty105→Rz:=fun v=>f5_12 F(f5_20 F kl1 kj14) kl1 kj14 v
theorem f5_21_eq(F:Nat)(Rl1 Rj14:St→Rz):∀ v,XAf5 F(bp Tryz.f5 2025)(ef5j9 v)(kSeq(kc V5 Rl1 sp100)(kBlock 0(kSeq(kc V5 Rj14 sp107) Kf71)))=f5_21 F(Rl1∘ef5l1)(Rj14∘ef5j14) v:=
 seq_cut(by kernel_rfl)(by kernel_rfl) ef5j9 ef5j10 _(fun k=>f5_12 F k(Rl1∘ef5l1)(Rj14∘ef5j14))(f5_20 F(Rl1∘ef5l1)(Rj14∘ef5j14))
  (fun Rj10=>f5_12_eq F Rj10 Rl1 Rj14)(f5_20_eq F Rl1 Rj14)
def f5_22(F:Nat)(kl1:Ty102→Rz)(kj14:(Dk.D)×(Dk.R)→Rz):Ty102→Rz:=fun v=>f5_11 F(f5_21 F kl1 kj14) kl1 kj14 v
theorem f5_22_eq(F:Nat)(Rl1 Rj14:St→Rz):∀ v,XAf5 F(bp Tryz.f5 1012)(ef5l1 v)(kSeq(kc V5 Rl1 sp100)(kBlock 0(kSeq(kc V5 Rj14 sp107) Kf71)))=f5_22 F(Rl1∘ef5l1)(Rj14∘ef5j14) v:=
 seq_cut(by kernel_rfl)(by kernel_rfl) ef5l1 ef5j9 _(fun k=>f5_11 F k(Rl1∘ef5l1)(Rj14∘ef5j14))(f5_21 F(Rl1∘ef5l1)(Rj14∘ef5j14))
  (fun Rj9=>f5_11_eq F Rj9 Rl1 Rj14)(f5_21_eq F Rl1 Rj14)
def f5_23_i:Ty102→(List Li)×Int×Int×(Dk.D)×(Dk.R):=fun(t40,t41,t42,e1,e2)=>(t40,t41,t42,e1,e2)
def f5_23(F:Nat)(kj14:(Dk.D)×(Dk.R)→Rz):Ty102→Rz:=fun v=>loopN(fun k=>f5_22 F k kj14) F(f5_23_i v)
theorem f5_23_eq(F:Nat)(Rj14:St→Rz):∀ v,XAf5 F(bp Tryz.f5 506)(ef5j8 v)(kBlock 0(kSeq(kc V5 Rj14 sp107) Kf71))=f5_23 F(Rj14∘ef5j14) v:=
 loop_cut(by kernel_rfl)(by kernel_rfl) ef5j8 ef5l1 _ f5_23_i(fun k=>f5_22 F k(Rj14∘ef5j14))
  (by rintro⟨t40,t41,t42,e1,e2⟩;kernel_rfl)(fun Rl1=>f5_22_eq F Rl1 Rj14)
def f5_24(F:Nat)(kj14:(Dk.D)×(Dk.R)→Rz):Ty102→Rz:=f5_23 F kj14
theorem f5_24_eq(F:Nat)(Rj14:St→Rz):∀ v,XAf5 F(bp Tryz.f5 253)(ef5j8 v)(kSeq(kc V5 Rj14 sp107) Kf71)=f5_24 F(Rj14∘ef5j14) v:=fun v=>
 (block_in  (by kernel_rfl) _ _).trans(f5_23_eq F Rj14 v)
def f5_25(F:Nat)(kj14:(Dk.D)×(Dk.R)→Rz):Ty104→Rz:=fun v=>f5_10 F(f5_24 F kj14) kj14 v
theorem f5_25_eq(F:Nat)(Rj14:St→Rz):∀ v,XAf5 F(bp Tryz.f5 126)(ef5j7 v)(kSeq(kc V5 Rj14 sp107) Kf71)=f5_25 F(Rj14∘ef5j14) v:=
 seq_cut(by kernel_rfl)(by kernel_rfl) ef5j7 ef5j8 _(fun k=>f5_10 F k(Rj14∘ef5j14))(f5_24 F(Rj14∘ef5j14))
  (fun Rj8=>f5_10_eq F Rj8 Rj14)(f5_24_eq F Rj14)
def f5_26(F:Nat)(kj15:Ty107→Rz):(Dk.D)×(Dk.R)→Rz:=fun(e1,e2)=>(cond((Dk.fine e1)&&(!e1.off))(kj15(0,e1,(Jr.openS(Jr.secsD e1)),e2)) none)
theorem f5_26_eq(F:Nat)(Rj15:St→Rz):∀ v,XAf5 F(bp Tryz.f5 254)(ef5j14 v)(kSeq(kc V5 Rj15 sp108) Kf71)=f5_26 F(Rj15∘ef5j15) v:=by
 rintro⟨e1,e2⟩;kernel_rfl
def f5_27(F:Nat)(kj16:Ty108→Rz):Ty107→Rz:=fun(t10,e1,e2,e3)=>(cond((decide(e3.s.length=e3.s.length∧e3.s.length < 8000))&&((Dk.rfine e3)&&(!e3.off)))(kj16(t10,0,e1,e2,e3,(Jr.openS(Jr.secsR e3)))) none)
theorem f5_27_eq(F:Nat)(Rj16:St→Rz):∀ v,XAf5 F(bp Tryz.f5 510)(ef5j15 v)(kSeq(kc V5 Rj16 sp109) Kf71)=f5_27 F(Rj16∘ef5j16) v:=by
 rintro⟨t10,e1,e2,e3⟩;kernel_rfl
def f5_28(F:Nat):Ty108→Rz:=fun(t10,t12,e1,e2,e3,e4)=>(cond(t10==t12)(cond((decide(e3.s.length=e3.s.length∧e3.s.length < 8000))&&((Jr.okS e2)&&(Jr.okS e4)))(some((.bool(Jr.same e2 e1 e4 e3)),[])) none)(some((.bool false),[])))
theorem f5_28_eq(F:Nat):∀ v,XAf5 F(bp Tryz.f5 511)(ef5j16 v) Kf71=f5_28 F v:=by
 rintro⟨t10,t12,e1,e2,e3,e4⟩;kernel_rfl
def f5_29(F:Nat):Ty107→Rz:=fun v=>f5_27 F(f5_28 F) v
theorem f5_29_eq(F:Nat):∀ v,XAf5 F(bp Tryz.f5 255)(ef5j15 v) Kf71=f5_29 F v:=
 seq_cut(by kernel_rfl)(by kernel_rfl) ef5j15 ef5j16 _(fun k=>f5_27 F k)(f5_28 F)
  (fun Rj16=>f5_27_eq F Rj16)(f5_28_eq F)
def f5_30(F:Nat):(Dk.D)×(Dk.R)→Rz:=fun v=>f5_26 F(f5_29 F) v
theorem f5_30_eq(F:Nat):∀ v,XAf5 F(bp Tryz.f5 127)(ef5j14 v) Kf71=f5_30 F v:=
 seq_cut(by kernel_rfl)(by kernel_rfl) ef5j14 ef5j15 _(fun k=>f5_26 F k)(f5_29 F)
  (fun Rj15=>f5_26_eq F Rj15)(f5_29_eq F)
def f5_31(F:Nat):Ty104→Rz:=fun v=>f5_25 F(f5_30 F) v
theorem f5_31_eq(F:Nat):∀ v,XAf5 F(bp Tryz.f5 63)(ef5j7 v) Kf71=f5_31 F v:=
 seq_cut(by kernel_rfl)(by kernel_rfl) ef5j7 ef5j14 _(fun k=>f5_25 F k)(f5_30 F)
  (fun Rj14=>f5_25_eq F Rj14)(f5_30_eq F)
def f5_32(F:Nat):Ty102→Rz:=fun v=>f5_9 F(f5_31 F) v
theorem f5_32_eq(F:Nat):∀ v,XAf5 F(bp Tryz.f5 31)(ef5j5 v) Kf71=f5_32 F v:=
 seq_cut(by kernel_rfl)(by kernel_rfl) ef5j5 ef5j7 _(fun k=>f5_9 F k)(f5_31 F)
  (fun Rj7=>f5_9_eq F Rj7)(f5_31_eq F)
def f5_33(F:Nat):Ty101→Rz:=fun v=>f5_6 F(f5_32 F) v
theorem f5_33_eq(F:Nat):∀ v,XAf5 F(bp Tryz.f5 15)(ef5j4 v) Kf71=f5_33 F v:=
 seq_cut(by kernel_rfl)(by kernel_rfl) ef5j4 ef5j5 _(fun k=>f5_6 F k)(f5_32 F)
  (fun Rj5=>f5_6_eq F Rj5)(f5_32_eq F)
def f5_34(F:Nat):(List Li)→Rz:=fun v=>f5_5 F(f5_33 F) v
theorem f5_34_eq(F:Nat):∀ v,XAf5 F(bp Tryz.f5 7)(ef5j3 v) Kf71=f5_34 F v:=
 seq_cut(by kernel_rfl)(by kernel_rfl) ef5j3 ef5j4 _(fun k=>f5_5 F k)(f5_33 F)
  (fun Rj4=>f5_5_eq F Rj4)(f5_33_eq F)
def f5_35(F:Nat):(List Li)→Rz:=fun v=>f5_4 F(f5_34 F) v
theorem f5_35_eq(F:Nat):∀ v,XAf5 F(bp Tryz.f5 3)(ef5j1 v) Kf71=f5_35 F v:=
 seq_cut(by kernel_rfl)(by kernel_rfl) ef5j1 ef5j3 _(fun k=>f5_4 F k)(f5_34 F)
  (fun Rj3=>f5_4_eq F Rj3)(f5_34_eq F)
def f5_36(F:Nat):(List Li)→Rz:=fun v=>f5_1 F(f5_35 F) v
theorem f5_36_eq(F:Nat):∀ v,XAf5 F(sub(bodyOf Tryz.f5) [])(ef5_a v) Kf71=f5_36 F v:=
 seq_cut(by kernel_rfl)(by kernel_rfl) ef5_a ef5j1 _(fun k=>f5_1 F k)(f5_35 F)
  (fun Rj1=>f5_1_eq F Rj1)(f5_35_eq F)
def f5(F:Nat):(List Li)→Rz:=f5_36 F
theorem f5_body(F:Nat)(a0:List Li):abody V5(Af5 F) Tryz.f5 [(.vs(.rS a0) 0 1)] []=f5 F a0:=
 (abody_in(c:=(sub(bodyOf Tryz.f5) []))(by kernel_rfl)(s:=ef5_a a0)(by kernel_rfl)).trans(f5_36_eq F a0)
def r5:CRun:=fun X H=>match X,H with
 | [(.vs(.rS a0) 0 1)],[]=>some(true,.bool true,[])
 | _,_=>none
theorem s5(a0:List Li)(h0:okV(.vs(.rS a0) 0 1)):∃ F,f5 F a0=some((.bool true),[]):=by
 refine⟨50,?_⟩
 simp only [f5,f5_36,f5_1,f5_35,f5_4,f5_2,f5_3]
 by_cases g1:(a0.length:Int) > (40:Int)
 ·rw [cond_pos g1];rfl
 rw [cond_neg g1]
 by_cases g2:a0.length=0
 ·rw [g2];rfl
 rw [show(((a0.length:Nat):Int)==(0:Int))=false by simpa using g2,cond_false]
 simp only [f5_34,f5_5,f5_33,f5_6,f5_32,f5_9,f5_7,f5_8,f5_31,f5_25,f5_10,f5_24,f5_23,f5_23_i]
 rw [show((decide(0 < ((a0.length:Nat):Int)))&&(decide(((a0.length:Nat):Int) < 4097)))=true by rw [dec_and,decide_eq_true_iff];omega,cond_true,cond_true,show((0:Int) != 0)=false from rfl,cond_false,cond_false]
 refine loopN_ind(fun m s=>∃ (k:Nat)(d:Dk.D)(r:Dk.R),s=(a0,(a0.length:Int),(k:Int),d,r)∧m=a0.length-k∧k≤a0.length∧Dk.Rel d r∧d.n=a0.length∧r.off=false∧r.left < 0)(fun m s K hi hk=>?_) 50 a0.length _(by omega)
  ⟨0,Dk.new(a0.length:Int),Dk.rnew(a0.length:Int),rfl,rfl,by omega,Dk.new_rel(by omega)(by omega),rfl,rfl,(show(-1:Int) < 0 by decide)⟩
 obtain⟨k,d,r,rfl,hm,hle,hR,hn,ho,hl⟩:=hi
 have hrn:=hR.n
 simp only [f5_22,f5_11,f5_21,f5_12]
 by_cases hlt:k < a0.length
 ·have hlt':(k:Int) < (a0.length:Int):=by omega
  rw [decide_eq_true hlt',cond_true]
  simp only [f5_20,f5_18,f5_17,f5_13,f5_16]
  rw [decide_eq_true hlt',Bool.and_true,cond_pos(by omega)]
  simp only [f5_14,f5_15,f5_19]
  obtain⟨w1,w2⟩:=hR.write(k:Int)(a0.getD(Int.toNat(k:Int)) [])
  obtain⟨o1,o2⟩:=Jr.rwrite_on ho hl(k:Int)(a0.getD(Int.toNat(k:Int)) [])
  rw [cond_pos⟨trivial,by omega⟩,w1,bne_self_eq_false,cond_false,i64w(x:=(k:Int)+1)(by omega)(by omega)]
  exact hk(m-1) _(by omega)⟨k+1,_,_,rfl,by omega,by omega,w2,by rw [Jr.write_n,hn],o1,o2⟩
 ·rw [decide_eq_false(show ¬ (k:Int) < (a0.length:Int) by omega),cond_false]
  simp only [f5_30,f5_26,f5_29,f5_27,f5_28]
  have hsl:(Jr.secsR r).length < 8000:=by simp only [Jr.secsR,List.length_map,List.length_range];omega
  rw [hR.fine,hR.off,ho,hR.rfine,Jr.secs_rel hR,Jr.openS_okS hsl,Jr.same_self hrn,show(true && !false)=true from rfl,cond_true,Bool.and_true,cond_pos⟨trivial,by omega⟩,show((0:Int)==0)=true from rfl,cond_true,show(true&&true)=true from rfl,Bool.and_true,cond_pos⟨trivial,by omega⟩]
theorem c5:CallOk Tryz.prog G37Z 5 r5:=callOk_of mixed tys eV5 Tryz.func5(by kernel_rfl)(c:=sub(bodyOf Tryz.f5) [])(by kernel_rfl)(by
 intro X H r H' h hX hH
 unfold r5 at h;split at h <;> try contradiction
 ·obtain⟨hp,rfl,rfl⟩:=inj3 h
  obtain⟨F,hF⟩:=s5 _(hX _ hm0)
  exact⟨Af5 F,(f5_body F _).trans hF⟩)
end Go.Am
end