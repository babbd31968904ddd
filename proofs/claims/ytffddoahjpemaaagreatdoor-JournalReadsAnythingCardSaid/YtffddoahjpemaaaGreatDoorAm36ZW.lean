/- Part of a proof. -/
import Derived.Test.YtffddoahjpemaaaGreatDoorAm36ZS
import Derived.Test.YtffddoahjpemaaaGreatDoorAm36ZH
import Derived.Test.YtffddoahjpemaaaGreatDoorAmJrn11
set_option linter.unusedSimpArgs false
set_option linter.unusedVariables false
section
namespace Go.Am
open Go Go.Proofs
abbrev sp92:List (Nat×Md):=[(0,.plain),(4,.plain),(5,.own 79),(6,.plain)]
abbrev sp93:List (Nat×Md):=[(4,.plain),(5,.plain),(11,.plain),(12,.plain),(13,.plain),(14,.plain),(15,.plain),(16,.plain)]
abbrev sp94:List (Nat×Md):=[(0,.plain),(4,.plain),(5,.plain),(6,.plain)]
abbrev sp95:List (Nat×Md):=[(4,.plain),(5,.plain),(11,.plain),(12,.plain)]
abbrev sp96:List (Nat×Md):=[(4,.plain),(5,.plain),(11,.plain),(12,.plain),(13,.plain)]
abbrev sp97:List (Nat×Md):=[(4,.plain),(5,.plain),(11,.plain),(12,.plain),(13,.plain),(14,.plain)]
abbrev sp98:List (Nat×Md):=[(4,.plain),(5,.plain),(11,.plain),(12,.plain),(13,.plain),(14,.plain),(15,.plain)]
abbrev sp99:List (Nat×Md):=[(4,.plain)]
abbrev Ty91:=(List (List Li))×Bool×Int
abbrev Ty92:=Nat×Int×(List (List Li))×(Dk.R)×(Jr.J)
abbrev Ty93:=Nat×(List (List Li))×(Dk.R)×(Jr.J)
abbrev Ty94:=Nat×Int×(List (List Li))×Int×Int×Int×Li×Bool×(Dk.R)×(Jr.J)
abbrev Ty95:=Nat×Int×Int×(List (List Li))×Int×Int×Int×Li×Bool×(Dk.R)×(Jr.J)
abbrev Ty96:=Nat×Int×Int×Li×(List (List Li))×Int×Int×Int×Li×Bool×(Dk.R)×(Jr.J)
abbrev Ty97:=Nat×Int×Int×Li×Bool×(List (List Li))×Int×Int×Int×Li×Bool×(Dk.R)×(Jr.J)
abbrev Ty98:=Nat×Int×Int×Li×Bool×Int×(List (List Li))×Int×Int×Int×Li×Bool×(Dk.R)×(Jr.J)
def lV22:List CEnt:=[(52,[none],r52),(54,[none],r54),(55,[none,none],r55),(56,[none],r56),(57,[none],r57),(58,[some 3,none],r58)]
def V22:Env:=mkEnv T36Z G37Z lV22
noncomputable abbrev Kf68:=kFin V22 none (Tryz.f22).results.toList
theorem eV22:EOk Tryz.prog V22:=eok_mk (by exact⟨c52,c54.more gsub,c55.more gsub,c56.more gsub,c57.more gsub,c58.more gsub,trivial⟩)
def Af22(F:Nat):Cuts:={ F:=F,at_:=fun n=>match n with | 4042=>some sp92 | 19053=>some sp54 | 25014=>some sp93 | _=>none,join:=fun n=>match n with | 1112=>some sp74 | 2110=>some sp73 | 3108=>some sp55 | 4044=>some sp94 | 18061=>some sp57 | 19059=>some sp54 | 20047=>some sp54 | 21044=>some sp95 | 22042=>some sp96 | 23040=>some sp97 | 24038=>some sp98 | 25016=>some sp93 | 30019=>some sp98 | 37003=>some sp99 | _=>none }
noncomputable abbrev XAf22(F:Nat){α:Type}:=@aexec α V22 (Af22 F)
def ef22_a:Ty91→St:=fun (a0s,a0o,a0l)=>⟨[(0,.ptr 0 0 3 0 0 0 3)],[(0,(rB a0s.length 1 a0o a0l)),(1,(tB a0s))],2,189,2⟩
def ef22j1:(Dk.R)→St:=fun e1=>⟨[(0,.ptr 0 0 3 0 0 0 3)],[(0,(rB e1.s.length 1 e1.off e1.left)),(1,(tB e1.s))],2,189,2⟩
def ef22j2:(Dk.R)×(Jr.J)→St:=fun (e1,e2)=>⟨[(0,.ptr 0 0 3 0 0 0 3),(4,.ptr 2 0 7 0 0 0 7)],[(0,(rB e1.s.length 1 e1.off e1.left)),(1,(tB e1.s)),(2,(jE 0 3 3 4 5 e2)),(3,(iB e2.nums)),(4,(sB e2.texts)),(5,(iB e2.bad))],6,189,2⟩
def ef22j3:(Dk.R)×(Jr.J)→St:=fun (e1,e2)=>⟨[(0,.ptr 0 0 3 0 0 0 3),(4,.ptr 2 0 7 0 0 0 7),(5,.ns)],[(0,(rB e1.s.length 1 e1.off e1.left)),(1,(tB e1.s)),(2,(jE 0 3 3 4 5 e2)),(3,(iB e2.nums)),(4,(sB e2.texts)),(5,(iB e2.bad))],6,189,2⟩
def ef22j4:Int×(Dk.R)×(Jr.J)→St:=fun (t6,e1,e2)=>⟨[(0,.ptr 0 0 3 0 0 0 3),(4,.ptr 2 0 7 0 0 0 7),(5,.ns),(6,.int .i64 t6)],[(0,(rB e1.s.length 1 e1.off e1.left)),(1,(tB e1.s)),(2,(jE 0 3 3 4 5 e2)),(3,(iB e2.nums)),(4,(sB e2.texts)),(5,(iB e2.bad))],6,189,2⟩
def ef22l1:Ty92→St:=fun (x1,t6,x10,e1,e2)=>⟨[(0,.ptr 0 0 3 0 0 0 3),(4,.ptr 2 0 7 0 0 0 7),(5,.own 3 x1 5),(6,.int .i64 t6)],[(0,(rB e1.s.length 1 e1.off e1.left)),(1,(tB e1.s)),(2,(jE 0 3 4 5 6 e2)),(3,(.cells (x1*5) (.rT [.int .i64,.int .i64,.int .i64,.str,.bool] x10) true)),(4,(iB e2.nums)),(5,(sB e2.texts)),(6,(iB e2.bad))],7,189,2⟩
def ef22j5:Ty93→St:=fun (x1,x9,e1,e2)=>⟨[(4,.ptr 2 0 7 0 0 0 7),(5,.own 3 x1 5)],[(0,(rB e1.s.length 1 e1.off e1.left)),(1,(tB e1.s)),(2,(jE 0 3 4 5 6 e2)),(3,(.cells (x1*5) (.rT [.int .i64,.int .i64,.int .i64,.str,.bool] x9) true)),(4,(iB e2.nums)),(5,(sB e2.texts)),(6,(iB e2.bad))],7,189,2⟩
def ef22j6:Ty92→St:=fun (x1,t11,x10,e1,e2)=>⟨[(4,.ptr 2 0 7 0 0 0 7),(5,.own 3 x1 5),(11,.int .i64 t11)],[(0,(rB e1.s.length 1 e1.off e1.left)),(1,(tB e1.s)),(2,(jE 0 3 4 5 6 e2)),(3,(.cells (x1*5) (.rT [.int .i64,.int .i64,.int .i64,.str,.bool] x10) true)),(4,(iB e2.nums)),(5,(sB e2.texts)),(6,(iB e2.bad))],7,189,2⟩
def ef22l2:Ty92→St:=ef22j6
def ef22j7:Ty92→St:=ef22j6
def ef22j8:Ty94→St:=fun (x1,t11,x10,x11,x12,x13,x14,x15,e1,e2)=>⟨[(4,.ptr 2 0 7 0 0 0 7),(5,.own 3 x1 5),(11,.int .i64 t11),(12,.ptr 4 0 5 0 0 0 5)],[(0,(rB e1.s.length 1 e1.off e1.left)),(1,(tB e1.s)),(2,(jE 0 3 5 6 7 e2)),(3,(.cells (x1*5) (.rT [.int .i64,.int .i64,.int .i64,.str,.bool] x10) true)),(4,(.cells 5 (.segs (.cons 1 (.one (.int .i64 x11)) (.cons 1 (.one (.int .i64 x12)) (.cons 1 (.one (.int .i64 x13)) (.cons 1 (.one (.str x14)) (.cons 1 (.one (.bool x15)) .nil)))))) true)),(5,(iB e2.nums)),(6,(sB e2.texts)),(7,(iB e2.bad))],8,189,2⟩
def ef22j9:Ty95→St:=fun (x1,t11,t13,x11,x12,x13,x14,x15,x16,e1,e2)=>⟨[(4,.ptr 2 0 7 0 0 0 7),(5,.own 3 x1 5),(11,.int .i64 t11),(12,.ptr 4 0 5 0 0 0 5),(13,.int .i64 t13)],[(0,(rB e1.s.length 1 e1.off e1.left)),(1,(tB e1.s)),(2,(jE 0 3 5 6 7 e2)),(3,(.cells (x1*5) (.rT [.int .i64,.int .i64,.int .i64,.str,.bool] x11) true)),(4,(.cells 5 (.segs (.cons 1 (.one (.int .i64 x12)) (.cons 1 (.one (.int .i64 x13)) (.cons 1 (.one (.int .i64 x14)) (.cons 1 (.one (.str x15)) (.cons 1 (.one (.bool x16)) .nil)))))) true)),(5,(iB e2.nums)),(6,(sB e2.texts)),(7,(iB e2.bad))],8,189,2⟩
def ef22j10:Ty96→St:=fun (x1,t11,t13,t14,x12,x13,x14,x15,x16,x17,e1,e2)=>⟨[(4,.ptr 2 0 7 0 0 0 7),(5,.own 3 x1 5),(11,.int .i64 t11),(12,.ptr 4 0 5 0 0 0 5),(13,.int .i64 t13),(14,.str t14)],[(0,(rB e1.s.length 1 e1.off e1.left)),(1,(tB e1.s)),(2,(jE 0 3 5 6 7 e2)),(3,(.cells (x1*5) (.rT [.int .i64,.int .i64,.int .i64,.str,.bool] x12) true)),(4,(.cells 5 (.segs (.cons 1 (.one (.int .i64 x13)) (.cons 1 (.one (.int .i64 x14)) (.cons 1 (.one (.int .i64 x15)) (.cons 1 (.one (.str x16)) (.cons 1 (.one (.bool x17)) .nil)))))) true)),(5,(iB e2.nums)),(6,(sB e2.texts)),(7,(iB e2.bad))],8,189,2⟩
def ef22j11:Ty97→St:=fun (x1,t11,t13,t14,t15,x13,x14,x15,x16,x17,x18,e1,e2)=>⟨[(4,.ptr 2 0 7 0 0 0 7),(5,.own 3 x1 5),(11,.int .i64 t11),(12,.ptr 4 0 5 0 0 0 5),(13,.int .i64 t13),(14,.str t14),(15,.bool t15)],[(0,(rB e1.s.length 1 e1.off e1.left)),(1,(tB e1.s)),(2,(jE 0 3 5 6 7 e2)),(3,(.cells (x1*5) (.rT [.int .i64,.int .i64,.int .i64,.str,.bool] x13) true)),(4,(.cells 5 (.segs (.cons 1 (.one (.int .i64 x14)) (.cons 1 (.one (.int .i64 x15)) (.cons 1 (.one (.int .i64 x16)) (.cons 1 (.one (.str x17)) (.cons 1 (.one (.bool x18)) .nil)))))) true)),(5,(iB e2.nums)),(6,(sB e2.texts)),(7,(iB e2.bad))],8,189,2⟩
def ef22j12:Ty98→St:=fun (x1,t11,t13,t14,t15,t16,x14,x15,x16,x17,x18,x19,e1,e2)=>⟨[(4,.ptr 2 0 7 0 0 0 7),(5,.own 3 x1 5),(11,.int .i64 t11),(12,.ptr 4 0 5 0 0 0 5),(13,.int .i64 t13),(14,.str t14),(15,.bool t15),(16,.int .i64 t16)],[(0,(rB e1.s.length 1 e1.off e1.left)),(1,(tB e1.s)),(2,(jE 0 3 5 6 7 e2)),(3,(.cells (x1*5) (.rT [.int .i64,.int .i64,.int .i64,.str,.bool] x14) true)),(4,(.cells 5 (.segs (.cons 1 (.one (.int .i64 x15)) (.cons 1 (.one (.int .i64 x16)) (.cons 1 (.one (.int .i64 x17)) (.cons 1 (.one (.str x18)) (.cons 1 (.one (.bool x19)) .nil)))))) true)),(5,(iB e2.nums)),(6,(sB e2.texts)),(7,(iB e2.bad))],8,189,2⟩
def ef22l3:Ty98→St:=ef22j12
def ef22j13:Ty97→St:=ef22j11
def ef22j14:(Dk.R)×(Jr.J)→St:=fun (e1,e2)=>⟨[(4,.ptr 2 0 7 0 0 0 7)],[(0,(rB e1.s.length 1 e1.off e1.left)),(1,(tB e1.s)),(2,(jE 0 3 3 4 5 e2)),(3,(iB e2.nums)),(4,(sB e2.texts)),(5,(iB e2.bad))],6,189,2⟩
def f22_1(F:Nat)(kj1:(Dk.R)→Rz):Ty91→Rz:=fun (a0s,a0o,a0l)=>(kj1 (Dk.R.mk a0s a0o a0l))
theorem f22_1_eq(F:Nat)(Rj1:St→Rz):∀ v,XAf22 F (bp Tryz.f22 2) (ef22_a v) (kSeq (kc V22 Rj1 sp74) Kf68)=f22_1 F (Rj1∘ef22j1) v:=by
 rintro⟨a0s,a0o,a0l⟩;kernel_rfl
def f22_2(F:Nat)(kj2:(Dk.R)×(Jr.J)→Rz):(Dk.R)→Rz:=fun e1=>(kj2 (e1,(Jr.J.mk [] [] [] (1:Int) (0:Int) false)))
theorem f22_2_eq(F:Nat)(Rj2:St→Rz):∀ v,XAf22 F (bp Tryz.f22 6) (ef22j1 v) (kSeq (kc V22 Rj2 sp73) Kf68)=f22_2 F (Rj2∘ef22j2) v:=by
 intro e1;kernel_rfl
def f22_3(F:Nat)(kj3:(Dk.R)×(Jr.J)→Rz):(Dk.R)×(Jr.J)→Rz:=fun (e1,e2)=>(kj3 (e1,e2))
theorem f22_3_eq(F:Nat)(Rj3:St→Rz):∀ v,XAf22 F (bp Tryz.f22 14) (ef22j2 v) (kSeq (kc V22 Rj3 sp55) Kf68)=f22_3 F (Rj3∘ef22j3) v:=by
 rintro⟨e1,e2⟩;kernel_rfl
def f22_4(F:Nat)(kj4:Int×(Dk.R)×(Jr.J)→Rz)(kj5:Ty93→Rz):(Dk.R)×(Jr.J)→Rz:=fun (e1,e2)=>(kj4 ((0:Int),e1,e2))
theorem f22_4_eq(F:Nat)(Rj4 Rj5:St→Rz):∀ v,XAf22 F (bp Tryz.f22 60) (ef22j3 v) (kSeq (kc V22 Rj4 sp94) (kSeq (kc V22 Rj5 sp57) Kf68))=f22_4 F (Rj4∘ef22j4) (Rj5∘ef22j5) v:=by
 rintro⟨e1,e2⟩;kernel_rfl
def f22_5(F:Nat)(kl1:Ty92→Rz)(kj5:Ty93→Rz):Ty92→Rz:=fun (x1,t6,x10,e1,e2)=>(cond (decide (e1.s.length=e1.s.length∧e1.s.length < 8000)) (cond (decide (t6 < (e1.s.length:Int))) (cond (decide (e1.s.length=e1.s.length∧e1.s.length < 8000)) (cond ((Dk.rread e1 t6).2 != (0:Int)) (some ((.tup (.cons 0 .nilp (.cons 0 (.int .i64 (Dk.rread e1 t6).2) .nil))),[(rB e1.s.length 1 e1.off e1.left),(tB e1.s)])) (cond (decide ((x1+1) < 1073741824)) (cond (!(Jr.blank (Dk.rread e1 t6).1)) (cond (!(Jr.unpack (Dk.rread e1 t6).1).ok) (cond (!(Jr.blank (Dk.rread e1 t6).1)) (cond (decide ((e2.bad.length+1) < 1073741824)) (cond (decide ((Jr.unpack (Dk.rread e1 t6).1).number≥e2.next)) (kl1 ((x1+1),(IntKind.i64.wrap (t6+(1:Int))),(x10++[[[(Jr.unpack (Dk.rread e1 t6).1).number],[(Jr.unpack (Dk.rread e1 t6).1).part],[(Jr.unpack (Dk.rread e1 t6).1).left],(Jr.unpack (Dk.rread e1 t6).1).payload,[(cond (Jr.unpack (Dk.rread e1 t6).1).ok 1 0)]]]),e1,(Jr.J.mk e2.nums e2.texts (e2.bad++[t6]) (IntKind.i64.wrap ((Jr.unpack (Dk.rread e1 t6).1).number+(1:Int))) (IntKind.i64.wrap (t6+(1:Int))) e2.closed))) (kl1 ((x1+1),(IntKind.i64.wrap (t6+(1:Int))),(x10++[[[(Jr.unpack (Dk.rread e1 t6).1).number],[(Jr.unpack (Dk.rread e1 t6).1).part],[(Jr.unpack (Dk.rread e1 t6).1).left],(Jr.unpack (Dk.rread e1 t6).1).payload,[(cond (Jr.unpack (Dk.rread e1 t6).1).ok 1 0)]]]),e1,(Jr.J.mk e2.nums e2.texts (e2.bad++[t6]) e2.next (IntKind.i64.wrap (t6+(1:Int))) e2.closed)))) none) (cond (decide ((Jr.unpack (Dk.rread e1 t6).1).number≥e2.next)) (kl1 ((x1+1),(IntKind.i64.wrap (t6+(1:Int))),(x10++[[[(Jr.unpack (Dk.rread e1 t6).1).number],[(Jr.unpack (Dk.rread e1 t6).1).part],[(Jr.unpack (Dk.rread e1 t6).1).left],(Jr.unpack (Dk.rread e1 t6).1).payload,[(cond (Jr.unpack (Dk.rread e1 t6).1).ok 1 0)]]]),e1,(Jr.J.mk e2.nums e2.texts e2.bad (IntKind.i64.wrap ((Jr.unpack (Dk.rread e1 t6).1).number+(1:Int))) (IntKind.i64.wrap (t6+(1:Int))) e2.closed))) (kl1 ((x1+1),(IntKind.i64.wrap (t6+(1:Int))),(x10++[[[(Jr.unpack (Dk.rread e1 t6).1).number],[(Jr.unpack (Dk.rread e1 t6).1).part],[(Jr.unpack (Dk.rread e1 t6).1).left],(Jr.unpack (Dk.rread e1 t6).1).payload,[(cond (Jr.unpack (Dk.rread e1 t6).1).ok 1 0)]]]),e1,(Jr.J.mk e2.nums e2.texts e2.bad e2.next (IntKind.i64.wrap (t6+(1:Int))) e2.closed))))) (cond (decide ((Jr.unpack (Dk.rread e1 t6).1).number≥e2.next)) (kl1 ((x1+1),(IntKind.i64.wrap (t6+(1:Int))),(x10++[[[(Jr.unpack (Dk.rread e1 t6).1).number],[(Jr.unpack (Dk.rread e1 t6).1).part],[(Jr.unpack (Dk.rread e1 t6).1).left],(Jr.unpack (Dk.rread e1 t6).1).payload,[(cond (Jr.unpack (Dk.rread e1 t6).1).ok 1 0)]]]),e1,(Jr.J.mk e2.nums e2.texts e2.bad (IntKind.i64.wrap ((Jr.unpack (Dk.rread e1 t6).1).number+(1:Int))) (IntKind.i64.wrap (t6+(1:Int))) e2.closed))) (kl1 ((x1+1),(IntKind.i64.wrap (t6+(1:Int))),(x10++[[[(Jr.unpack (Dk.rread e1 t6).1).number],[(Jr.unpack (Dk.rread e1 t6).1).part],[(Jr.unpack (Dk.rread e1 t6).1).left],(Jr.unpack (Dk.rread e1 t6).1).payload,[(cond (Jr.unpack (Dk.rread e1 t6).1).ok 1 0)]]]),e1,(Jr.J.mk e2.nums e2.texts e2.bad e2.next (IntKind.i64.wrap (t6+(1:Int))) e2.closed))))) (cond (!(Jr.unpack (Dk.rread e1 t6).1).ok) (cond (!(Jr.blank (Dk.rread e1 t6).1)) (cond (decide ((e2.bad.length+1) < 1073741824)) (cond (decide ((Jr.unpack (Dk.rread e1 t6).1).number≥e2.next)) (kl1 ((x1+1),(IntKind.i64.wrap (t6+(1:Int))),(x10++[[[(Jr.unpack (Dk.rread e1 t6).1).number],[(Jr.unpack (Dk.rread e1 t6).1).part],[(Jr.unpack (Dk.rread e1 t6).1).left],(Jr.unpack (Dk.rread e1 t6).1).payload,[(cond (Jr.unpack (Dk.rread e1 t6).1).ok 1 0)]]]),e1,(Jr.J.mk e2.nums e2.texts (e2.bad++[t6]) (IntKind.i64.wrap ((Jr.unpack (Dk.rread e1 t6).1).number+(1:Int))) e2.fin e2.closed))) (kl1 ((x1+1),(IntKind.i64.wrap (t6+(1:Int))),(x10++[[[(Jr.unpack (Dk.rread e1 t6).1).number],[(Jr.unpack (Dk.rread e1 t6).1).part],[(Jr.unpack (Dk.rread e1 t6).1).left],(Jr.unpack (Dk.rread e1 t6).1).payload,[(cond (Jr.unpack (Dk.rread e1 t6).1).ok 1 0)]]]),e1,(Jr.J.mk e2.nums e2.texts (e2.bad++[t6]) e2.next e2.fin e2.closed)))) none) (cond (decide ((Jr.unpack (Dk.rread e1 t6).1).number≥e2.next)) (kl1 ((x1+1),(IntKind.i64.wrap (t6+(1:Int))),(x10++[[[(Jr.unpack (Dk.rread e1 t6).1).number],[(Jr.unpack (Dk.rread e1 t6).1).part],[(Jr.unpack (Dk.rread e1 t6).1).left],(Jr.unpack (Dk.rread e1 t6).1).payload,[(cond (Jr.unpack (Dk.rread e1 t6).1).ok 1 0)]]]),e1,(Jr.J.mk e2.nums e2.texts e2.bad (IntKind.i64.wrap ((Jr.unpack (Dk.rread e1 t6).1).number+(1:Int))) e2.fin e2.closed))) (kl1 ((x1+1),(IntKind.i64.wrap (t6+(1:Int))),(x10++[[[(Jr.unpack (Dk.rread e1 t6).1).number],[(Jr.unpack (Dk.rread e1 t6).1).part],[(Jr.unpack (Dk.rread e1 t6).1).left],(Jr.unpack (Dk.rread e1 t6).1).payload,[(cond (Jr.unpack (Dk.rread e1 t6).1).ok 1 0)]]]),e1,e2)))) (cond (decide ((Jr.unpack (Dk.rread e1 t6).1).number≥e2.next)) (kl1 ((x1+1),(IntKind.i64.wrap (t6+(1:Int))),(x10++[[[(Jr.unpack (Dk.rread e1 t6).1).number],[(Jr.unpack (Dk.rread e1 t6).1).part],[(Jr.unpack (Dk.rread e1 t6).1).left],(Jr.unpack (Dk.rread e1 t6).1).payload,[(cond (Jr.unpack (Dk.rread e1 t6).1).ok 1 0)]]]),e1,(Jr.J.mk e2.nums e2.texts e2.bad (IntKind.i64.wrap ((Jr.unpack (Dk.rread e1 t6).1).number+(1:Int))) e2.fin e2.closed))) (kl1 ((x1+1),(IntKind.i64.wrap (t6+(1:Int))),(x10++[[[(Jr.unpack (Dk.rread e1 t6).1).number],[(Jr.unpack (Dk.rread e1 t6).1).part],[(Jr.unpack (Dk.rread e1 t6).1).left],(Jr.unpack (Dk.rread e1 t6).1).payload,[(cond (Jr.unpack (Dk.rread e1 t6).1).ok 1 0)]]]),e1,e2))))) none)) none) (kj5 (x1,x10,e1,e2))) none)
theorem f22_5_eq(F:Nat)(Rl1 Rj5:St→Rz):∀ v,XAf22 F (bp Tryz.f22 244) (ef22l1 v) (kSeq (kc V22 Rl1 sp92) (kBlock 0 (kSeq (kc V22 Rj5 sp57) Kf68)))=f22_5 F (Rl1∘ef22l1) (Rj5∘ef22j5) v:=by
 rintro⟨x1,t6,x10,e1,e2⟩;kernel_rfl
def f22_6_i:Int×(Dk.R)×(Jr.J)→Nat×Int×(List (List Li))×(Dk.R)×(Jr.J):=fun (t6,e1,e2)=>(0,t6,[],e1,e2)
def f22_6(F:Nat)(kj5:Ty93→Rz):Int×(Dk.R)×(Jr.J)→Rz:=fun v=>loopN (fun k=>f22_5 F k kj5) F (f22_6_i v)
theorem f22_6_eq(F:Nat)(Rj5:St→Rz):∀ v,XAf22 F (bp Tryz.f22 122) (ef22j4 v) (kBlock 0 (kSeq (kc V22 Rj5 sp57) Kf68))=f22_6 F (Rj5∘ef22j5) v:=
 loop_cut (by kernel_rfl) (by kernel_rfl) ef22j4 ef22l1 _ f22_6_i (fun k=>f22_5 F k (Rj5∘ef22j5))
  (by rintro⟨t6,e1,e2⟩;kernel_rfl) (fun Rl1=>f22_5_eq F Rl1 Rj5)
def f22_7(F:Nat)(kj5:Ty93→Rz):Int×(Dk.R)×(Jr.J)→Rz:=f22_6 F kj5
theorem f22_7_eq(F:Nat)(Rj5:St→Rz):∀ v,XAf22 F (bp Tryz.f22 61) (ef22j4 v) (kSeq (kc V22 Rj5 sp57) Kf68)=f22_7 F (Rj5∘ef22j5) v:=fun v=>
 (block_in  (by kernel_rfl) _ _).trans (f22_6_eq F Rj5 v)
def f22_8(F:Nat)(kj5:Ty93→Rz):(Dk.R)×(Jr.J)→Rz:=fun v=>f22_4 F (f22_7 F kj5) kj5 v
theorem f22_8_eq(F:Nat)(Rj5:St→Rz):∀ v,XAf22 F (bp Tryz.f22 30) (ef22j3 v) (kSeq (kc V22 Rj5 sp57) Kf68)=f22_8 F (Rj5∘ef22j5) v:=
 seq_cut (by kernel_rfl) (by kernel_rfl) ef22j3 ef22j4 _ (fun k=>f22_4 F k (Rj5∘ef22j5)) (f22_7 F (Rj5∘ef22j5))
  (fun Rj4=>f22_4_eq F Rj4 Rj5) (f22_7_eq F Rj5)
def f22_9(F:Nat)(kj6:Ty92→Rz):Ty93→Rz:=fun (x1,x9,e1,e2)=>(kj6 (x1,(0:Int),x9,e1,e2))
theorem f22_9_eq(F:Nat)(Rj6:St→Rz):∀ v,XAf22 F (bp Tryz.f22 62) (ef22j5 v) (kSeq (kc V22 Rj6 sp54) Kf68)=f22_9 F (Rj6∘ef22j6) v:=by
 rintro⟨x1,x9,e1,e2⟩;kernel_rfl
def f22_10(F:Nat)(kj7 kl2:Ty92→Rz)(kj14:(Dk.R)×(Jr.J)→Rz):Ty92→Rz:=fun (x1,t11,x10,e1,e2)=>(cond (decide (t11 < (↑x1:Int))) (kj7 (x1,t11,x10,e1,e2)) (kj14 (e1,e2)))
theorem f22_10_eq(F:Nat)(Rj7 Rl2 Rj14:St→Rz):∀ v,XAf22 F (bp Tryz.f22 1008) (ef22l2 v) (kSeq (kc V22 Rj7 sp54) (kSeq (kc V22 Rl2 sp54) (kBlock 2 (kSeq (kc V22 Rj14 sp99) Kf68))))=f22_10 F (Rj7∘ef22j7) (Rl2∘ef22l2) (Rj14∘ef22j14) v:=by
 rintro⟨x1,t11,x10,e1,e2⟩;kernel_rfl
def f22_11(F:Nat)(kj8:Ty94→Rz)(kl2:Ty92→Rz)(kj14:(Dk.R)×(Jr.J)→Rz):Ty92→Rz:=fun (x1,t11,x10,e1,e2)=>(cond ((decide (0≤t11))&&(decide (t11 < (↑x1:Int)))) (kj8 (x1,t11,x10,(((x10.getD (Int.toNat t11) []).getD 0 []).getD 0 0),(((x10.getD (Int.toNat t11) []).getD 1 []).getD 0 0),(((x10.getD (Int.toNat t11) []).getD 2 []).getD 0 0),((x10.getD (Int.toNat t11) []).getD 3 []),((((x10.getD (Int.toNat t11) []).getD 4 []).getD 0 0)==1),e1,e2)) none)
theorem f22_11_eq(F:Nat)(Rj8 Rl2 Rj14:St→Rz):∀ v,XAf22 F (bp Tryz.f22 4036) (ef22j7 v) (kSeq (kc V22 Rj8 sp95) (kBlock 3 (kSeq (kc V22 Rl2 sp54) (kBlock 2 (kSeq (kc V22 Rj14 sp99) Kf68)))))=f22_11 F (Rj8∘ef22j8) (Rl2∘ef22l2) (Rj14∘ef22j14) v:=by
 rintro⟨x1,t11,x10,e1,e2⟩;kernel_rfl
def f22_12(F:Nat)(kj9:Ty95→Rz)(kl2:Ty92→Rz)(kj14:(Dk.R)×(Jr.J)→Rz):Ty94→Rz:=fun (x1,t11,x10,x11,x12,x13,x14,x15,e1,e2)=>(kj9 (x1,t11,(Jr.count x13),x10,x11,x12,x13,x14,x15,e1,e2))
theorem f22_12_eq(F:Nat)(Rj9 Rl2 Rj14:St→Rz):∀ v,XAf22 F (bp Tryz.f22 8074) (ef22j8 v) (kSeq (kc V22 Rj9 sp96) (kBlock 3 (kSeq (kc V22 Rl2 sp54) (kBlock 2 (kSeq (kc V22 Rj14 sp99) Kf68)))))=f22_12 F (Rj9∘ef22j9) (Rl2∘ef22l2) (Rj14∘ef22j14) v:=by
 rintro⟨x1,t11,x10,x11,x12,x13,x14,x15,e1,e2⟩;kernel_rfl
def f22_13(F:Nat)(kj10:Ty96→Rz)(kl2:Ty92→Rz)(kj14:(Dk.R)×(Jr.J)→Rz):Ty95→Rz:=fun (x1,t11,t13,x11,x12,x13,x14,x15,x16,e1,e2)=>(kj10 (x1,t11,t13,[],x11,x12,x13,x14,x15,x16,e1,e2))
theorem f22_13_eq(F:Nat)(Rj10 Rl2 Rj14:St→Rz):∀ v,XAf22 F (bp Tryz.f22 16150) (ef22j9 v) (kSeq (kc V22 Rj10 sp97) (kBlock 3 (kSeq (kc V22 Rl2 sp54) (kBlock 2 (kSeq (kc V22 Rj14 sp99) Kf68)))))=f22_13 F (Rj10∘ef22j10) (Rl2∘ef22l2) (Rj14∘ef22j14) v:=by
 rintro⟨x1,t11,t13,x11,x12,x13,x14,x15,x16,e1,e2⟩;kernel_rfl
def f22_14(F:Nat)(kj11:Ty97→Rz)(kl2:Ty92→Rz)(kj14:(Dk.R)×(Jr.J)→Rz):Ty96→Rz:=fun (x1,t11,t13,t14,x12,x13,x14,x15,x16,x17,e1,e2)=>(cond x17 (cond (x14==(0:Int)) (kj11 (x1,t11,t13,t14,(decide ((IntKind.i64.wrap (t11+t13))≤(↑x1:Int))),x12,x13,x14,x15,x16,x17,e1,e2)) (kj11 (x1,t11,t13,t14,false,x12,x13,x14,x15,x16,x17,e1,e2))) (kj11 (x1,t11,t13,t14,false,x12,x13,x14,x15,x16,x17,e1,e2)))
theorem f22_14_eq(F:Nat)(Rj11 Rl2 Rj14:St→Rz):∀ v,XAf22 F (bp Tryz.f22 32302) (ef22j10 v) (kSeq (kc V22 Rj11 sp98) (kBlock 3 (kSeq (kc V22 Rl2 sp54) (kBlock 2 (kSeq (kc V22 Rj14 sp99) Kf68)))))=f22_14 F (Rj11∘ef22j11) (Rl2∘ef22l2) (Rj14∘ef22j14) v:=by
 rintro⟨x1,t11,t13,t14,x12,x13,x14,x15,x16,x17,e1,e2⟩;kernel_rfl
def f22_15(F:Nat)(kj12:Ty98→Rz)(kj13:Ty97→Rz)(kl2:Ty92→Rz)(kj14:(Dk.R)×(Jr.J)→Rz):Ty97→Rz:=fun (x1,t11,t13,t14,t15,x13,x14,x15,x16,x17,x18,e1,e2)=>(kj12 (x1,t11,t13,t14,t15,(0:Int),x13,x14,x15,x16,x17,x18,e1,e2))
theorem f22_15_eq(F:Nat)(Rj12 Rj13:St→Rz)(Rl2 Rj14:St→Rz):∀ v,XAf22 F (bp Tryz.f22 129212) (ef22j11 v) (kSeq (kc V22 Rj12 sp93) (kSeq (kc V22 Rj13 sp98) (kBlock 3 (kSeq (kc V22 Rl2 sp54) (kBlock 2 (kSeq (kc V22 Rj14 sp99) Kf68))))))=f22_15 F (Rj12∘ef22j12) (Rj13∘ef22j13) (Rl2∘ef22l2) (Rj14∘ef22j14) v:=by
 rintro⟨x1,t11,t13,t14,t15,x13,x14,x15,x16,x17,x18,e1,e2⟩;kernel_rfl
def f22_16(F:Nat)(kl3:Ty98→Rz)(kj13:Ty97→Rz)(kl2:Ty92→Rz)(kj14:(Dk.R)×(Jr.J)→Rz):Ty98→Rz:=fun (x1,t11,t13,t14,t15,t16,x14,x15,x16,x17,x18,x19,e1,e2)=>(cond t15 (cond (decide (t16 < t13)) (cond ((decide (0≤(IntKind.i64.wrap (t11+t16))))&&(decide ((IntKind.i64.wrap (t11+t16)) < (↑x1:Int)))) (cond ((((x14.getD (Int.toNat (IntKind.i64.wrap (t11+t16))) []).getD 4 []).getD 0 0)==1) (cond ((((x14.getD (Int.toNat (IntKind.i64.wrap (t11+t16))) []).getD 0 []).getD 0 0)==x15) (cond ((((x14.getD (Int.toNat (IntKind.i64.wrap (t11+t16))) []).getD 1 []).getD 0 0)==t16) (cond (decide ((t14.length+((x14.getD (Int.toNat (IntKind.i64.wrap (t11+t16))) []).getD 3 []).length) < 4611686018427387904)) (kl3 (x1,t11,t13,(t14++((x14.getD (Int.toNat (IntKind.i64.wrap (t11+t16))) []).getD 3 [])),((((x14.getD (Int.toNat (IntKind.i64.wrap (t11+t16))) []).getD 2 []).getD 0 0)==(IntKind.i64.wrap (x17-(IntKind.i64.wrap ((48:Int)*t16))))),(IntKind.i64.wrap (t16+(1:Int))),x14,x15,x16,x17,x18,x19,e1,e2)) none) (cond (decide ((t14.length+((x14.getD (Int.toNat (IntKind.i64.wrap (t11+t16))) []).getD 3 []).length) < 4611686018427387904)) (kl3 (x1,t11,t13,(t14++((x14.getD (Int.toNat (IntKind.i64.wrap (t11+t16))) []).getD 3 [])),false,(IntKind.i64.wrap (t16+(1:Int))),x14,x15,x16,x17,x18,x19,e1,e2)) none)) (cond (decide ((t14.length+((x14.getD (Int.toNat (IntKind.i64.wrap (t11+t16))) []).getD 3 []).length) < 4611686018427387904)) (kl3 (x1,t11,t13,(t14++((x14.getD (Int.toNat (IntKind.i64.wrap (t11+t16))) []).getD 3 [])),false,(IntKind.i64.wrap (t16+(1:Int))),x14,x15,x16,x17,x18,x19,e1,e2)) none)) (cond (decide ((t14.length+((x14.getD (Int.toNat (IntKind.i64.wrap (t11+t16))) []).getD 3 []).length) < 4611686018427387904)) (kl3 (x1,t11,t13,(t14++((x14.getD (Int.toNat (IntKind.i64.wrap (t11+t16))) []).getD 3 [])),false,(IntKind.i64.wrap (t16+(1:Int))),x14,x15,x16,x17,x18,x19,e1,e2)) none)) none) (kj13 (x1,t11,t13,t14,t15,x14,x15,x16,x17,x18,x19,e1,e2))) (kj13 (x1,t11,t13,t14,t15,x14,x15,x16,x17,x18,x19,e1,e2)))
theorem f22_16_eq(F:Nat)(Rl3 Rj13:St→Rz)(Rl2 Rj14:St→Rz):∀ v,XAf22 F (bp Tryz.f22 516852) (ef22l3 v) (kSeq (kc V22 Rl3 sp93) (kBlock 4 (kSeq (kc V22 Rj13 sp98) (kBlock 3 (kSeq (kc V22 Rl2 sp54) (kBlock 2 (kSeq (kc V22 Rj14 sp99) Kf68)))))))=f22_16 F (Rl3∘ef22l3) (Rj13∘ef22j13) (Rl2∘ef22l2) (Rj14∘ef22j14) v:=by
 rintro⟨x1,t11,t13,t14,t15,t16,x14,x15,x16,x17,x18,x19,e1,e2⟩;kernel_rfl
def f22_17_i:Ty98→Nat×Int×Int×Li×Bool×Int×(List (List Li))×Int×Int×Int×Li×Bool×(Dk.R)×(Jr.J):=fun (x1,t11,t13,t14,t15,t16,x14,x15,x16,x17,x18,x19,e1,e2)=>(x1,t11,t13,t14,t15,t16,x14,x15,x16,x17,x18,x19,e1,e2)
def f22_17(F:Nat)(kj13:Ty97→Rz)(kl2:Ty92→Rz)(kj14:(Dk.R)×(Jr.J)→Rz):Ty98→Rz:=fun v=>loopN (fun k=>f22_16 F k kj13 kl2 kj14) F (f22_17_i v)
theorem f22_17_eq(F:Nat)(Rj13 Rl2 Rj14:St→Rz):∀ v,XAf22 F (bp Tryz.f22 258426) (ef22j12 v) (kBlock 4 (kSeq (kc V22 Rj13 sp98) (kBlock 3 (kSeq (kc V22 Rl2 sp54) (kBlock 2 (kSeq (kc V22 Rj14 sp99) Kf68))))))=f22_17 F (Rj13∘ef22j13) (Rl2∘ef22l2) (Rj14∘ef22j14) v:=
 loop_cut (by kernel_rfl) (by kernel_rfl) ef22j12 ef22l3 _ f22_17_i (fun k=>f22_16 F k (Rj13∘ef22j13) (Rl2∘ef22l2) (Rj14∘ef22j14))
  (by rintro⟨x1,t11,t13,t14,t15,t16,x14,x15,x16,x17,x18,x19,e1,e2⟩;kernel_rfl) (fun Rl3=>f22_16_eq F Rl3 Rj13 Rl2 Rj14)
def f22_18(F:Nat)(kj13:Ty97→Rz)(kl2:Ty92→Rz)(kj14:(Dk.R)×(Jr.J)→Rz):Ty98→Rz:=f22_17 F kj13 kl2 kj14
theorem f22_18_eq(F:Nat)(Rj13 Rl2 Rj14:St→Rz):∀ v,XAf22 F (bp Tryz.f22 129213) (ef22j12 v) (kSeq (kc V22 Rj13 sp98) (kBlock 3 (kSeq (kc V22 Rl2 sp54) (kBlock 2 (kSeq (kc V22 Rj14 sp99) Kf68)))))=f22_18 F (Rj13∘ef22j13) (Rl2∘ef22l2) (Rj14∘ef22j14) v:=fun v=>
 (block_in  (by kernel_rfl) _ _).trans (f22_17_eq F Rj13 Rl2 Rj14 v)
def f22_19(F:Nat)(kj13:Ty97→Rz)(kl2:Ty92→Rz)(kj14:(Dk.R)×(Jr.J)→Rz):Ty97→Rz:=fun v=>f22_15 F (f22_18 F kj13 kl2 kj14) kj13 kl2 kj14 v
theorem f22_19_eq(F:Nat)(Rj13 Rl2 Rj14:St→Rz):∀ v,XAf22 F (bp Tryz.f22 64606) (ef22j11 v) (kSeq (kc V22 Rj13 sp98) (kBlock 3 (kSeq (kc V22 Rl2 sp54) (kBlock 2 (kSeq (kc V22 Rj14 sp99) Kf68)))))=f22_19 F (Rj13∘ef22j13) (Rl2∘ef22l2) (Rj14∘ef22j14) v:=
 seq_cut (by kernel_rfl) (by kernel_rfl) ef22j11 ef22j12 _ (fun k=>f22_15 F k (Rj13∘ef22j13) (Rl2∘ef22l2) (Rj14∘ef22j14)) (f22_18 F (Rj13∘ef22j13) (Rl2∘ef22l2) (Rj14∘ef22j14))
  (fun Rj12=>f22_15_eq F Rj12 Rj13 Rl2 Rj14) (f22_18_eq F Rj13 Rl2 Rj14)
def f22_20(F:Nat)(kl2:Ty92→Rz)(kj14:(Dk.R)×(Jr.J)→Rz):Ty97→Rz:=fun (x1,t11,t13,t14,t15,x13,x14,x15,x16,x17,x18,e1,e2)=>(cond (!t15) (kl2 (x1,(IntKind.i64.wrap (t11+(1:Int))),x13,e1,e2)) (cond (!(e2.nums.contains x14)) (cond (decide ((e2.nums.length+1) < 1073741824)) (cond (decide ((e2.texts.length+1) < 1073741824)) (kl2 (x1,(IntKind.i64.wrap (t11+t13)),x13,e1,(Jr.J.mk (e2.nums++[x14]) (e2.texts++[t14]) e2.bad e2.next e2.fin e2.closed))) none) none) (kl2 (x1,(IntKind.i64.wrap (t11+t13)),x13,e1,e2))))
theorem f22_20_eq(F:Nat)(Rl2 Rj14:St→Rz):∀ v,XAf22 F (bp Tryz.f22 64607) (ef22j13 v) (kBlock 3 (kSeq (kc V22 Rl2 sp54) (kBlock 2 (kSeq (kc V22 Rj14 sp99) Kf68))))=f22_20 F (Rl2∘ef22l2) (Rj14∘ef22j14) v:=by
 rintro⟨x1,t11,t13,t14,t15,x13,x14,x15,x16,x17,x18,e1,e2⟩;kernel_rfl
def f22_21(F:Nat)(kl2:Ty92→Rz)(kj14:(Dk.R)×(Jr.J)→Rz):Ty97→Rz:=fun v=>f22_19 F (f22_20 F kl2 kj14) kl2 kj14 v
theorem f22_21_eq(F:Nat)(Rl2 Rj14:St→Rz):∀ v,XAf22 F (bp Tryz.f22 32303) (ef22j11 v) (kBlock 3 (kSeq (kc V22 Rl2 sp54) (kBlock 2 (kSeq (kc V22 Rj14 sp99) Kf68))))=f22_21 F (Rl2∘ef22l2) (Rj14∘ef22j14) v:=
 seq_cut (by kernel_rfl) (by kernel_rfl) ef22j11 ef22j13 _ (fun k=>f22_19 F k (Rl2∘ef22l2) (Rj14∘ef22j14)) (f22_20 F (Rl2∘ef22l2) (Rj14∘ef22j14))
  (fun Rj13=>f22_19_eq F Rj13 Rl2 Rj14) (f22_20_eq F Rl2 Rj14)
def f22_22(F:Nat)(kl2:Ty92→Rz)(kj14:(Dk.R)×(Jr.J)→Rz):Ty96→Rz:=fun v=>f22_14 F (f22_21 F kl2 kj14) kl2 kj14 v
theorem f22_22_eq(F:Nat)(Rl2 Rj14:St→Rz):∀ v,XAf22 F (bp Tryz.f22 16151) (ef22j10 v) (kBlock 3 (kSeq (kc V22 Rl2 sp54) (kBlock 2 (kSeq (kc V22 Rj14 sp99) Kf68))))=f22_22 F (Rl2∘ef22l2) (Rj14∘ef22j14) v:=
 seq_cut (by kernel_rfl) (by kernel_rfl) ef22j10 ef22j11 _ (fun k=>f22_14 F k (Rl2∘ef22l2) (Rj14∘ef22j14)) (f22_21 F (Rl2∘ef22l2) (Rj14∘ef22j14))
  (fun Rj11=>f22_14_eq F Rj11 Rl2 Rj14) (f22_21_eq F Rl2 Rj14)
def f22_23(F:Nat)(kl2:Ty92→Rz)(kj14:(Dk.R)×(Jr.J)→Rz):Ty95→Rz:=fun v=>f22_13 F (f22_22 F kl2 kj14) kl2 kj14 v
theorem f22_23_eq(F:Nat)(Rl2 Rj14:St→Rz):∀ v,XAf22 F (bp Tryz.f22 8075) (ef22j9 v) (kBlock 3 (kSeq (kc V22 Rl2 sp54) (kBlock 2 (kSeq (kc V22 Rj14 sp99) Kf68))))=f22_23 F (Rl2∘ef22l2) (Rj14∘ef22j14) v:=
 seq_cut (by kernel_rfl) (by kernel_rfl) ef22j9 ef22j10 _ (fun k=>f22_13 F k (Rl2∘ef22l2) (Rj14∘ef22j14)) (f22_22 F (Rl2∘ef22l2) (Rj14∘ef22j14))
  (fun Rj10=>f22_13_eq F Rj10 Rl2 Rj14) (f22_22_eq F Rl2 Rj14)
def f22_24(F:Nat)(kl2:Ty92→Rz)(kj14:(Dk.R)×(Jr.J)→Rz):Ty94→Rz:=fun v=>f22_12 F (f22_23 F kl2 kj14) kl2 kj14 v
theorem f22_24_eq(F:Nat)(Rl2 Rj14:St→Rz):∀ v,XAf22 F (bp Tryz.f22 4037) (ef22j8 v) (kBlock 3 (kSeq (kc V22 Rl2 sp54) (kBlock 2 (kSeq (kc V22 Rj14 sp99) Kf68))))=f22_24 F (Rl2∘ef22l2) (Rj14∘ef22j14) v:=
 seq_cut (by kernel_rfl) (by kernel_rfl) ef22j8 ef22j9 _ (fun k=>f22_12 F k (Rl2∘ef22l2) (Rj14∘ef22j14)) (f22_23 F (Rl2∘ef22l2) (Rj14∘ef22j14))
  (fun Rj9=>f22_12_eq F Rj9 Rl2 Rj14) (f22_23_eq F Rl2 Rj14)
def f22_25(F:Nat)(kl2:Ty92→Rz)(kj14:(Dk.R)×(Jr.J)→Rz):Ty92→Rz:=fun v=>f22_11 F (f22_24 F kl2 kj14) kl2 kj14 v
theorem f22_25_eq(F:Nat)(Rl2 Rj14:St→Rz):∀ v,XAf22 F (bp Tryz.f22 2018) (ef22j7 v) (kBlock 3 (kSeq (kc V22 Rl2 sp54) (kBlock 2 (kSeq (kc V22 Rj14 sp99) Kf68))))=f22_25 F (Rl2∘ef22l2) (Rj14∘ef22j14) v:=
 seq_cut (by kernel_rfl) (by kernel_rfl) ef22j7 ef22j8 _ (fun k=>f22_11 F k (Rl2∘ef22l2) (Rj14∘ef22j14)) (f22_24 F (Rl2∘ef22l2) (Rj14∘ef22j14))
  (fun Rj8=>f22_11_eq F Rj8 Rl2 Rj14) (f22_24_eq F Rl2 Rj14)
def f22_26(F:Nat)(kl2:Ty92→Rz)(kj14:(Dk.R)×(Jr.J)→Rz):Ty92→Rz:=f22_25 F kl2 kj14
theorem f22_26_eq(F:Nat)(Rl2 Rj14:St→Rz):∀ v,XAf22 F (bp Tryz.f22 1009) (ef22j7 v) (kSeq (kc V22 Rl2 sp54) (kBlock 2 (kSeq (kc V22 Rj14 sp99) Kf68)))=f22_26 F (Rl2∘ef22l2) (Rj14∘ef22j14) v:=fun v=>
 (block_in  (by kernel_rfl) _ _).trans (f22_25_eq F Rl2 Rj14 v)
def f22_27(F:Nat)(kl2:Ty92→Rz)(kj14:(Dk.R)×(Jr.J)→Rz):Ty92→Rz:=fun v=>f22_10 F (f22_26 F kl2 kj14) kl2 kj14 v
theorem f22_27_eq(F:Nat)(Rl2 Rj14:St→Rz):∀ v,XAf22 F (bp Tryz.f22 504) (ef22l2 v) (kSeq (kc V22 Rl2 sp54) (kBlock 2 (kSeq (kc V22 Rj14 sp99) Kf68)))=f22_27 F (Rl2∘ef22l2) (Rj14∘ef22j14) v:=
 seq_cut (by kernel_rfl) (by kernel_rfl) ef22l2 ef22j7 _ (fun k=>f22_10 F k (Rl2∘ef22l2) (Rj14∘ef22j14)) (f22_26 F (Rl2∘ef22l2) (Rj14∘ef22j14))
  (fun Rj7=>f22_10_eq F Rj7 Rl2 Rj14) (f22_26_eq F Rl2 Rj14)
def f22_28_i:Ty92→Nat×Int×(List (List Li))×(Dk.R)×(Jr.J):=fun (x1,t11,x10,e1,e2)=>(x1,t11,x10,e1,e2)
def f22_28(F:Nat)(kj14:(Dk.R)×(Jr.J)→Rz):Ty92→Rz:=fun v=>loopN (fun k=>f22_27 F k kj14) F (f22_28_i v)
theorem f22_28_eq(F:Nat)(Rj14:St→Rz):∀ v,XAf22 F (bp Tryz.f22 252) (ef22j6 v) (kBlock 2 (kSeq (kc V22 Rj14 sp99) Kf68))=f22_28 F (Rj14∘ef22j14) v:=
 loop_cut (by kernel_rfl) (by kernel_rfl) ef22j6 ef22l2 _ f22_28_i (fun k=>f22_27 F k (Rj14∘ef22j14))
  (by rintro⟨x1,t11,x10,e1,e2⟩;kernel_rfl) (fun Rl2=>f22_27_eq F Rl2 Rj14)
def f22_29(F:Nat)(kj14:(Dk.R)×(Jr.J)→Rz):Ty92→Rz:=f22_28 F kj14
theorem f22_29_eq(F:Nat)(Rj14:St→Rz):∀ v,XAf22 F (bp Tryz.f22 126) (ef22j6 v) (kSeq (kc V22 Rj14 sp99) Kf68)=f22_29 F (Rj14∘ef22j14) v:=fun v=>
 (block_in  (by kernel_rfl) _ _).trans (f22_28_eq F Rj14 v)
def f22_30(F:Nat):(Dk.R)×(Jr.J)→Rz:=fun (e1,e2)=>(some ((.tup (.cons 0 (.ptr 2 0 7 0 0 0 7) (.cons 0 (.int .i64 0) .nil))),[(rB e1.s.length 1 e1.off e1.left),(tB e1.s),(jE 0 3 3 4 5 e2),(iB e2.nums),(sB e2.texts),(iB e2.bad)]))
theorem f22_30_eq(F:Nat):∀ v,XAf22 F (bp Tryz.f22 127) (ef22j14 v) Kf68=f22_30 F v:=by
 rintro⟨e1,e2⟩;kernel_rfl
def f22_31(F:Nat):Ty92→Rz:=fun v=>f22_29 F (f22_30 F) v
theorem f22_31_eq(F:Nat):∀ v,XAf22 F (bp Tryz.f22 63) (ef22j6 v) Kf68=f22_31 F v:=
 seq_cut (by kernel_rfl) (by kernel_rfl) ef22j6 ef22j14 _ (fun k=>f22_29 F k) (f22_30 F)
  (fun Rj14=>f22_29_eq F Rj14) (f22_30_eq F)
def f22_32(F:Nat):Ty93→Rz:=fun v=>f22_9 F (f22_31 F) v
theorem f22_32_eq(F:Nat):∀ v,XAf22 F (bp Tryz.f22 31) (ef22j5 v) Kf68=f22_32 F v:=
 seq_cut (by kernel_rfl) (by kernel_rfl) ef22j5 ef22j6 _ (fun k=>f22_9 F k) (f22_31 F)
  (fun Rj6=>f22_9_eq F Rj6) (f22_31_eq F)
def f22_33(F:Nat):(Dk.R)×(Jr.J)→Rz:=fun v=>f22_8 F (f22_32 F) v
theorem f22_33_eq(F:Nat):∀ v,XAf22 F (bp Tryz.f22 15) (ef22j3 v) Kf68=f22_33 F v:=
 seq_cut (by kernel_rfl) (by kernel_rfl) ef22j3 ef22j5 _ (fun k=>f22_8 F k) (f22_32 F)
  (fun Rj5=>f22_8_eq F Rj5) (f22_32_eq F)
def f22_34(F:Nat):(Dk.R)×(Jr.J)→Rz:=fun v=>f22_3 F (f22_33 F) v
theorem f22_34_eq(F:Nat):∀ v,XAf22 F (bp Tryz.f22 7) (ef22j2 v) Kf68=f22_34 F v:=
 seq_cut (by kernel_rfl) (by kernel_rfl) ef22j2 ef22j3 _ (fun k=>f22_3 F k) (f22_33 F)
  (fun Rj3=>f22_3_eq F Rj3) (f22_33_eq F)
def f22_35(F:Nat):(Dk.R)→Rz:=fun v=>f22_2 F (f22_34 F) v
theorem f22_35_eq(F:Nat):∀ v,XAf22 F (bp Tryz.f22 3) (ef22j1 v) Kf68=f22_35 F v:=
 seq_cut (by kernel_rfl) (by kernel_rfl) ef22j1 ef22j2 _ (fun k=>f22_2 F k) (f22_34 F)
  (fun Rj2=>f22_2_eq F Rj2) (f22_34_eq F)
def f22_36(F:Nat):Ty91→Rz:=fun v=>f22_1 F (f22_35 F) v
theorem f22_36_eq(F:Nat):∀ v,XAf22 F (sub (bodyOf Tryz.f22) []) (ef22_a v) Kf68=f22_36 F v:=
 seq_cut (by kernel_rfl) (by kernel_rfl) ef22_a ef22j1 _ (fun k=>f22_1 F k) (f22_35 F)
  (fun Rj1=>f22_1_eq F Rj1) (f22_35_eq F)
def f22(F:Nat):Ty91→Rz:=f22_36 F
theorem f22_body(F:Nat)(a0s:List (List Li))(a0o:Bool)(a0l:Int):abody V22 (Af22 F) Tryz.f22 [(.ptr 0 0 3 0 0 0 3)] [(rB a0s.length 1 a0o a0l),(tB a0s)]=f22 F (a0s,a0o,a0l):=
 (abody_in (by kernel_rfl) (by kernel_rfl)).trans (f22_36_eq F (a0s,a0o,a0l))
def r22:CRun:=fun X H=>match X,H with
 | [(.ptr 0 0 3 0 0 0 3)],[(.cells 3 (.segs (.cons 1 (.one (.own 1 a0n 4)) (.cons 1 (.one (.bool a0o)) (.cons 1 (.one (.int .i64 a0l)) .nil)))) true),(.cells z1 (.rT [.str,.str,.bool,.bool] a0s) true)]=>some ((decide (a0n=a0s.length∧a0n < 8000))&&((Dk.rfine (Dk.R.mk a0s a0o a0l))&&(!(Dk.R.mk a0s a0o a0l).off)),(.tup (.cons 0 (.ptr 2 0 7 0 0 0 7) (.cons 0 (.int .i64 0) .nil))),[(rB (Dk.R.mk a0s a0o a0l).s.length 1 (Dk.R.mk a0s a0o a0l).off (Dk.R.mk a0s a0o a0l).left),(.cells ((Dk.R.mk a0s a0o a0l).s.length*4) (.rT [.str,.str,.bool,.bool] (Dk.R.mk a0s a0o a0l).s) true),(jE 0 3 3 4 5 (Jr.openS (Jr.secsR (Dk.R.mk a0s a0o a0l)))),(.cells (Jr.openS (Jr.secsR (Dk.R.mk a0s a0o a0l))).nums.length (.rI .i64 (Jr.openS (Jr.secsR (Dk.R.mk a0s a0o a0l))).nums) true),(.cells (Jr.openS (Jr.secsR (Dk.R.mk a0s a0o a0l))).texts.length (.rS (Jr.openS (Jr.secsR (Dk.R.mk a0s a0o a0l))).texts) true),(.cells (Jr.openS (Jr.secsR (Dk.R.mk a0s a0o a0l))).bad.length (.rI .i64 (Jr.openS (Jr.secsR (Dk.R.mk a0s a0o a0l))).bad) true)])
 | _,_=>none
theorem s22(a0s:List (List Li))(a0o:Bool)(a0l:Int)(hp:((decide (a0s.length=a0s.length∧a0s.length < 8000))&&((Dk.rfine (Dk.R.mk a0s a0o a0l))&&(!(Dk.R.mk a0s a0o a0l).off)))=true)(k0:okB (rB a0s.length 1 a0o a0l))(k1:okB (tB a0s)):∃ F,f22 F (a0s,a0o,a0l)=some ((.tup (.cons 0 (.ptr 2 0 7 0 0 0 7) (.cons 0 (.int .i64 0) .nil))),[(rB (Dk.R.mk a0s a0o a0l).s.length 1 (Dk.R.mk a0s a0o a0l).off (Dk.R.mk a0s a0o a0l).left),(.cells ((Dk.R.mk a0s a0o a0l).s.length*4) (.rT [.str,.str,.bool,.bool] (Dk.R.mk a0s a0o a0l).s) true),(jE 0 3 3 4 5 (Jr.openS (Jr.secsR (Dk.R.mk a0s a0o a0l)))),(.cells (Jr.openS (Jr.secsR (Dk.R.mk a0s a0o a0l))).nums.length (.rI .i64 (Jr.openS (Jr.secsR (Dk.R.mk a0s a0o a0l))).nums) true),(.cells (Jr.openS (Jr.secsR (Dk.R.mk a0s a0o a0l))).texts.length (.rS (Jr.openS (Jr.secsR (Dk.R.mk a0s a0o a0l))).texts) true),(.cells (Jr.openS (Jr.secsR (Dk.R.mk a0s a0o a0l))).bad.length (.rI .i64 (Jr.openS (Jr.secsR (Dk.R.mk a0s a0o a0l))).bad) true)]):=by
 obtain⟨hp0,hp⟩:=Bool.and_eq_true_iff.1 hp
 obtain⟨hf,ho⟩:=Bool.and_eq_true_iff.1 hp
 have ho:a0o=false:=by simpa using ho
 have hn8:a0s.length < 8000:=(of_decide_eq_true hp0).2
 have hg:Dk.RGood (Dk.R.mk a0s a0o a0l):=Dk.rfine_iff.1 hf
 have hrd:=fun i (h:i < a0s.length)=>Jr.rread_ok (r:=Dk.R.mk a0s a0o a0l) hg ho (Jr.okT k1) (i:=i) h
 have hSl:(Jr.secsR (Dk.R.mk a0s a0o a0l)).length=a0s.length:=by simp [Jr.secsR]
 obtain⟨S,hS⟩:∃ S,S=Jr.secsR (Dk.R.mk a0s a0o a0l):=⟨_,rfl⟩
 rw [← hS] at hSl hrd ⊢
 have hSb:∀ s∈S,∀ x∈s,0≤x:=fun s hs x hx=>by
  obtain⟨i,hi,rfl⟩:=List.mem_iff_getElem.1 hs
  obtain⟨_,_,h3,h4⟩:=hrd i (by omega)
  rw [List.getD_eq_getElem?_getD,List.getElem?_eq_getElem hi] at h4
  rw [h4] at h3
  exact(h3 x hx).1
 refine⟨8001,?_⟩
 simp only [f22,f22_36,f22_1,f22_35,f22_2,f22_34,f22_3,f22_33,f22_8,f22_4,f22_7,f22_6,f22_6_i]
 refine loopN_from (fun i=>(i,(i:Int),Jr.rowsOf (S.take i),(Dk.R.mk a0s a0o a0l),Jr.J.mk [] [] (Jr.badOf S i) (Jr.nextOf S i) (Jr.finOf S i) false)) a0s.length rfl (fun i hi q=>?_) (fun q=>?_) 8001 (by omega)
 ·obtain⟨h1,h2,h3,h4⟩:=hrd i hi
  have hg:S.getD i []=(Dk.rread (Dk.R.mk a0s a0o a0l) (i:Int)).1:=h4.symm
  have hrow:Jr.rowsOf (S.take (i+1))=Jr.rowsOf (S.take i)++[(Jr.unpack (Dk.rread (Dk.R.mk a0s a0o a0l) (i:Int)).1).row]:=by
   rw [← hg,List.take_add_one,Jr.rowsOf,List.map_append,List.getElem?_eq_getElem (by omega),List.getD_eq_getElem?_getD,List.getElem?_eq_getElem (by omega)];rfl
  have hnx:Jr.nextOf S (i+1)=if (Jr.unpack (S.getD i [])).number+1 > Jr.nextOf S i then (Jr.unpack (S.getD i [])).number+1 else Jr.nextOf S i:=rfl
  have hfn:Jr.finOf S (i+1)=cond (Jr.blank (S.getD i [])) (Jr.finOf S i) ((i:Int)+1):=rfl
  have hbl:=Jr.badOf_len S i
  simp only [f22_5]
  rw [cond_pos ⟨trivial,hn8⟩,cond_pos (by omega),cond_pos ⟨trivial,hn8⟩,h1]
  simp only [hrow,hnx,hfn,Jr.badOf_succ,hg]
  have hnum:=Jr.unpack_num (Dk.rread (Dk.R.mk a0s a0o a0l) (i:Int)).1 (fun x hx=>(h3 x hx).1)
  rw [show(((0:Int) != 0)=false) from rfl,cond_false,cond_pos (by omega),i64w (x:=(i:Int)+1) (by omega) (by omega),i64w (x:=(Jr.unpack (Dk.rread (Dk.R.mk a0s a0o a0l) (i:Int)).1).number+1) (by omega) (by omega)]
  rw [cond_pos (show(Jr.badOf S i).length+1 < 1073741824 by omega)]
  by_cases hge:(Jr.unpack (Dk.rread (Dk.R.mk a0s a0o a0l) (i:Int)).1).number≥Jr.nextOf S i
  ·rw [decide_eq_true hge,if_pos (by omega)]
   cases Jr.blank (Dk.rread (Dk.R.mk a0s a0o a0l) (i:Int)).1 <;> cases hk:(Jr.unpack (Dk.rread (Dk.R.mk a0s a0o a0l) (i:Int)).1).ok <;> simp only [Bool.not_false,Bool.not_true,cond_true,cond_false,Bool.and_true,Bool.and_false,Bool.true_and,Bool.false_and,List.append_nil,Jr.Part.row,hk,Jr.b2i] <;> rfl
  ·rw [decide_eq_false hge,if_neg (by omega)]
   cases Jr.blank (Dk.rread (Dk.R.mk a0s a0o a0l) (i:Int)).1 <;> cases hk:(Jr.unpack (Dk.rread (Dk.R.mk a0s a0o a0l) (i:Int)).1).ok <;> simp only [Bool.not_false,Bool.not_true,cond_true,cond_false,Bool.and_true,Bool.and_false,Bool.true_and,Bool.false_and,List.append_nil,Jr.Part.row,hk,Jr.b2i] <;> rfl
 simp only [f22_5]
 rw [cond_pos ⟨trivial,hn8⟩,cond_neg (by omega),List.take_of_length_le (by omega)]
 simp only [f22_32,f22_9,f22_31,f22_29,f22_28,f22_28_i]
 have hopen:Jr.openS S=Jr.J.mk (Jr.collect (S.map Jr.unpack) a0s.length 0 ([],[])).1 (Jr.collect (S.map Jr.unpack) a0s.length 0 ([],[])).2 (Jr.badOf S a0s.length) (Jr.nextOf S a0s.length) (Jr.finOf S a0s.length) false:=by rw [Jr.openS,hSl]
 rw [hopen]
 obtain⟨T,hT⟩:∃ T,T=Jr.collect (S.map Jr.unpack) a0s.length 0 ([],[]):=⟨_,rfl⟩
 rw [← hT]
 obtain⟨RES,hR⟩:∃ RES,RES=f22_30 8001 ((Dk.R.mk a0s a0o a0l),Jr.J.mk T.1 T.2 (Jr.badOf S a0s.length) (Jr.nextOf S a0s.length) (Jr.finOf S a0s.length) false):=⟨_,rfl⟩
 show _=f22_30 8001 ((Dk.R.mk a0s a0o a0l),Jr.J.mk T.1 T.2 (Jr.badOf S a0s.length) (Jr.nextOf S a0s.length) (Jr.finOf S a0s.length) false)
 rw [← hR]
 have hrl:(Jr.rowsOf S).length=a0s.length:=by simp [Jr.rowsOf,hSl]
 have hlm:(S.map Jr.unpack).length=a0s.length:=by rw [List.length_map,hSl]
 refine loopN_ind (fun m s=>∃ (k:Nat) (a:List Int×List Li),s=(a0s.length,(k:Int),Jr.rowsOf S,(Dk.R.mk a0s a0o a0l),Jr.J.mk a.1 a.2 (Jr.badOf S a0s.length) (Jr.nextOf S a0s.length) (Jr.finOf S a0s.length) false)∧k≤a0s.length∧a0s.length-k≤m∧a.1.length≤k∧a.2.length≤k∧Jr.collect (S.map Jr.unpack) m k a=T) (fun m s K hi hk=>?_) 8001 a0s.length _ (by omega) ⟨0,([],[]),rfl,by omega,by omega,by simp,by simp,hT.symm⟩
 obtain⟨k,a,rfl,hle,hm,hl1,hl2,hc⟩:=hi
 simp only [f22_27,f22_10]
 by_cases hlt:k < a0s.length
 ·obtain⟨m',rfl⟩:∃ m',m=m'+1:=⟨m-1,by omega⟩
  rw [cond_pos (by omega)]
  have hP:=Jr.pt_S (S:=S) (j:=k) (by omega)
  have hlk:(Jr.pt (S.map Jr.unpack) k).ok=true→0≤(Jr.pt (S.map Jr.unpack) k).left∧(Jr.pt (S.map Jr.unpack) k).left≤8000:=by
   intro h
   rw [hP] at h ⊢
   exact Jr.unpack_left _ (fun x hx=>by
    have hm:S.getD k []∈S:=by rw [List.getD_eq_getElem?_getD,List.getElem?_eq_getElem (by omega)];exact List.getElem_mem _
    exact hSb _ hm x hx) h
  obtain⟨cn1,cn2⟩:=Jr.count_nn (Jr.pt (S.map Jr.unpack) k).left
  have hN:((Jr.recN (S.map Jr.unpack) k:Nat):Int)=Jr.count (Jr.pt (S.map Jr.unpack) k).left:=by rw [Jr.recN];omega
  rw [Jr.collect,cond_pos (show k < (S.map Jr.unpack).length by omega)] at hc
  simp only [f22_26,f22_25,f22_11,f22_24,f22_12,f22_23,f22_13,f22_22,f22_14,Int.toNat_natCast,dec_and]
  rw [cond_pos (by omega)]
  simp only [Jr.rows_get (S:=S) (j:=k) (by omega),Jr.Part.row,List.getD_cons_zero,List.getD_cons_succ,Jr.b2i_one]
  have hpl:∀ i,(Jr.pt (S.map Jr.unpack) i).payload.length≤48:=fun i=>by
   rcases Nat.lt_or_ge i S.length with h | h
   ·rw [Jr.pt_S h];exact Jr.unpack_short _
   ·rw [Jr.pt,List.getD_eq_getElem?_getD,List.getElem?_eq_none (by rw [List.length_map];omega)];exact Nat.zero_le _
  have hfin:∀ (w:Bool) (t:Li),w=Jr.recOk (S.map Jr.unpack) k→(w=true→t=Jr.recText (S.map Jr.unpack) k (Jr.recN (S.map Jr.unpack) k)) →
    f22_20 8001 K (f22_30 8001) (a0s.length,(k:Int),Jr.count (Jr.pt (S.map Jr.unpack) k).left,t,w,Jr.rowsOf S,(Jr.pt (S.map Jr.unpack) k).number,(Jr.pt (S.map Jr.unpack) k).part,(Jr.pt (S.map Jr.unpack) k).left,(Jr.pt (S.map Jr.unpack) k).payload,(Jr.pt (S.map Jr.unpack) k).ok,(Dk.R.mk a0s a0o a0l),Jr.J.mk a.1 a.2 (Jr.badOf S a0s.length) (Jr.nextOf S a0s.length) (Jr.finOf S a0s.length) false)=RES:=by
   intro w t hw ht
   simp only [f22_20]
   rw [← hw] at hc
   cases w with
   | false=>
    rw [cond_false] at hc
    simp only [Bool.not_false,cond_true]
    rw [i64w (x:=(k:Int)+1) (by omega) (by omega)]
    exact hk m' _ (by omega) ⟨k+1,a,rfl,by omega,by omega,by omega,by omega,hc⟩
   | true=>
    obtain⟨r1,r2⟩:=Jr.recN_pos hSb hw.symm
    rw [cond_true] at hc
    simp only [Bool.not_true,cond_false]
    rw [ht rfl,i64w (x:=(k:Int)+Jr.count (Jr.pt (S.map Jr.unpack) k).left) (by omega) (by omega),← hN]
    simp only [Jr.put1] at hc
    cases hcn:a.1.contains (Jr.pt (S.map Jr.unpack) k).number with
    | true=>
     rw [hcn,cond_true] at hc
     simp only [Bool.not_true,cond_false]
     exact hk m' _ (by omega) ⟨k+Jr.recN (S.map Jr.unpack) k,a,by simp,by omega,by omega,by omega,by omega,hc⟩
    | false=>
     rw [hcn,cond_false] at hc
     simp only [Bool.not_false,cond_true]
     rw [cond_pos (by omega),cond_pos (by omega)]
     exact hk m' _ (by omega) ⟨k+Jr.recN (S.map Jr.unpack) k,(a.1++[(Jr.pt (S.map Jr.unpack) k).number],a.2++[Jr.recText (S.map Jr.unpack) k (Jr.recN (S.map Jr.unpack) k)]),by simp,by omega,by omega,by simp only [List.length_append,List.length_singleton];omega,by simp only [List.length_append,List.length_singleton];omega,hc⟩
  have hin:∀ w0:Bool,w0=((Jr.pt (S.map Jr.unpack) k).ok&&decide ((Jr.pt (S.map Jr.unpack) k).part=0∧k+Jr.recN (S.map Jr.unpack) k≤(S.map Jr.unpack).length)) →
    f22_21 8001 K (f22_30 8001) (a0s.length,(k:Int),Jr.count (Jr.pt (S.map Jr.unpack) k).left,[],w0,Jr.rowsOf S,(Jr.pt (S.map Jr.unpack) k).number,(Jr.pt (S.map Jr.unpack) k).part,(Jr.pt (S.map Jr.unpack) k).left,(Jr.pt (S.map Jr.unpack) k).payload,(Jr.pt (S.map Jr.unpack) k).ok,(Dk.R.mk a0s a0o a0l),Jr.J.mk a.1 a.2 (Jr.badOf S a0s.length) (Jr.nextOf S a0s.length) (Jr.finOf S a0s.length) false)=RES:=by
   intro w0 hw0
   have hrec:Jr.recOk (S.map Jr.unpack) k=(w0&&(List.range (Jr.recN (S.map Jr.unpack) k)).all (Jr.partOk (S.map Jr.unpack) k)):=by rw [Jr.recOk,hw0]
   simp only [f22_21,f22_19,f22_15,f22_18,f22_17,f22_17_i]
   refine loopN_ind (fun m s=>∃ (i:Nat) (w:Bool) (t:Li),s=(a0s.length,(k:Int),Jr.count (Jr.pt (S.map Jr.unpack) k).left,t,w,(i:Int),Jr.rowsOf S,(Jr.pt (S.map Jr.unpack) k).number,(Jr.pt (S.map Jr.unpack) k).part,(Jr.pt (S.map Jr.unpack) k).left,(Jr.pt (S.map Jr.unpack) k).payload,(Jr.pt (S.map Jr.unpack) k).ok,(Dk.R.mk a0s a0o a0l),Jr.J.mk a.1 a.2 (Jr.badOf S a0s.length) (Jr.nextOf S a0s.length) (Jr.finOf S a0s.length) false) ∧
    m=Jr.recN (S.map Jr.unpack) k-i∧i≤Jr.recN (S.map Jr.unpack) k∧w=(w0&&(List.range i).all (Jr.partOk (S.map Jr.unpack) k))∧(w=true→t=Jr.recText (S.map Jr.unpack) k i)) (fun m s K2 hi2 hk2=>?_) 8001 (Jr.recN (S.map Jr.unpack) k) _ (by omega) ⟨0,w0,[],rfl,by omega,by omega,by simp,fun _=>rfl⟩
   obtain⟨i,w,t,rfl,hm2,hi2,hw,ht⟩:=hi2
   simp only [f22_16]
   cases hwc:w with
   | false=>
    rw [cond_false]
    refine hfin false t ?_ (fun h=>by cases h)
    rw [hrec]
    rw [hwc] at hw
    cases hc0:w0 with
    | false=>rfl
    | true=>
     rw [hc0,Bool.true_and] at hw
     rw [Bool.true_and]
     symm
     rw [← Bool.not_eq_true,List.all_eq_true]
     intro hall
     have:(List.range i).all (Jr.partOk (S.map Jr.unpack) k)=true:=List.all_eq_true.2 fun j hj=>hall j (by rw [List.mem_range] at hj ⊢;omega)
     rw [this] at hw;cases hw
   | true=>
    rw [cond_true]
    subst hwc
    have hw0t:w0=true:=by
     cases hc0:w0 with
     | true=>rfl
     | false=>rw [hc0,Bool.false_and] at hw;cases hw
    have h5:=hw0
    rw [hw0t] at h5
    have h6:=h5.symm
    rw [Bool.and_eq_true,decide_eq_true_eq] at h6
    obtain⟨hok,hpart,hroom⟩:=h6
    rw [hlm] at hroom
    by_cases hin:i < Jr.recN (S.map Jr.unpack) k
    ·rw [cond_pos (by omega),i64w (x:=(k:Int)+(i:Int)) (by omega) (by omega),dec_and,cond_pos (by omega)]
     have htl:t.length≤48*i:=by rw [ht rfl];exact Jr.recText_len hpl k i
     have hpi:=hpl (k+i)
     have hgi:(Jr.rowsOf S).getD (Int.toNat ((k:Int)+(i:Int))) []=(Jr.pt (S.map Jr.unpack) (k+i)).row:=by
      rw [show Int.toNat ((k:Int)+(i:Int))=k+i by omega];exact Jr.rows_get (by omega)
     simp only [hgi,Jr.Part.row,List.getD_cons_zero,List.getD_cons_succ,Jr.b2i_one]
     obtain⟨l1,l2⟩:=hlk hok
     rw [i64w (x:=(48:Int)*(i:Int)) (by omega) (by omega),i64w (x:=(Jr.pt (S.map Jr.unpack) k).left-48*(i:Int)) (by omega) (by omega),i64w (x:=(i:Int)+1) (by omega) (by omega),cond_pos (by omega)]
     have hgo:∀ w':Bool,w'=Jr.partOk (S.map Jr.unpack) k i→K2 (a0s.length,(k:Int),Jr.count (Jr.pt (S.map Jr.unpack) k).left,t++(Jr.pt (S.map Jr.unpack) (k+i)).payload,w',(i:Int)+1,Jr.rowsOf S,(Jr.pt (S.map Jr.unpack) k).number,(Jr.pt (S.map Jr.unpack) k).part,(Jr.pt (S.map Jr.unpack) k).left,(Jr.pt (S.map Jr.unpack) k).payload,(Jr.pt (S.map Jr.unpack) k).ok,(Dk.R.mk a0s a0o a0l),Jr.J.mk a.1 a.2 (Jr.badOf S a0s.length) (Jr.nextOf S a0s.length) (Jr.finOf S a0s.length) false)=RES:=fun w' hw'=>
      hk2 (m-1) _ (by omega) ⟨i+1,w',_,rfl,by omega,by omega,by rw [Jr.all_range_succ,← Bool.and_assoc,← hw,Bool.true_and,hw'],fun _=>by rw [Jr.recText_succ,← ht rfl]⟩
     have hpo:Jr.partOk (S.map Jr.unpack) k i=((Jr.pt (S.map Jr.unpack) (k+i)).ok&&((Jr.pt (S.map Jr.unpack) (k+i)).number==(Jr.pt (S.map Jr.unpack) k).number&&((Jr.pt (S.map Jr.unpack) (k+i)).part==(i:Int)&&(Jr.pt (S.map Jr.unpack) (k+i)).left==(Jr.pt (S.map Jr.unpack) k).left-48*(i:Int)))):=by
      rw [Jr.partOk,Bool.eq_iff_iff]
      simp only [Bool.and_eq_true,decide_eq_true_eq,beq_iff_eq]
     rw [hpo] at hgo
     generalize (Jr.pt (S.map Jr.unpack) (k+i)).ok=b1 at hgo ⊢
     generalize ((Jr.pt (S.map Jr.unpack) (k+i)).number==(Jr.pt (S.map Jr.unpack) k).number)=b2 at hgo ⊢
     generalize ((Jr.pt (S.map Jr.unpack) (k+i)).part==(i:Int))=b3 at hgo ⊢
     generalize ((Jr.pt (S.map Jr.unpack) (k+i)).left==(Jr.pt (S.map Jr.unpack) k).left-48*(i:Int))=b4 at hgo ⊢
     cases b1
     ·rw [cond_false,cond_pos (by omega)];exact hgo false rfl
     cases b2
     ·rw [cond_true,cond_false,cond_pos (by omega)];exact hgo false rfl
     cases b3
     ·rw [cond_true,cond_true,cond_false,cond_pos (by omega)];exact hgo false rfl
     rw [cond_true,cond_true,cond_true]
     exact hgo b4 (by cases b4 <;> rfl)
    ·rw [cond_neg (by omega)]
     have hie:i=Jr.recN (S.map Jr.unpack) k:=by omega
     subst hie
     exact hfin true t (by rw [hrec,← hw]) ht
  cases h1:(Jr.pt (S.map Jr.unpack) k).ok with
  | false=>
   rw [cond_false]
   have:=hin false (by rw [h1];rfl)
   rw [h1] at this
   exact this
  | true=>
   rw [cond_true]
   by_cases h2:(Jr.pt (S.map Jr.unpack) k).part=0
   ·rw [show((Jr.pt (S.map Jr.unpack) k).part==0)=true by simpa using h2,cond_true,i64w (x:=(k:Int)+Jr.count (Jr.pt (S.map Jr.unpack) k).left) (by omega) (by omega)]
    have:=hin (decide ((k:Int)+Jr.count (Jr.pt (S.map Jr.unpack) k).left≤(a0s.length:Int))) (by rw [h1,Bool.true_and,decide_eq_decide,hlm];omega)
    rw [h1] at this
    exact this
   ·rw [show((Jr.pt (S.map Jr.unpack) k).part==0)=false by simpa using h2,cond_false]
    have:=hin false (by rw [h1,Bool.true_and];symm;exact decide_eq_false (fun h=>h2 h.1))
    rw [h1] at this
    exact this
 ·rw [cond_neg (by omega)]
  have:k=a0s.length:=by omega
  subst this
  have hTa:T=a:=by
   rw [← hc]
   cases m with
   | zero=>rfl
   | succ m=>rw [Jr.collect,cond_neg (by omega)]
  rw [hR,hTa]
theorem c22:CallOk Tryz.prog G37Z 22 r22:=callOk_of mixed tys eV22 Tryz.func22 (by kernel_rfl) (c:=sub (bodyOf Tryz.f22) []) (by kernel_rfl) (by
 intro X H r H' h hX hH
 unfold r22 at h;split at h <;> try contradiction
 ·obtain⟨hp,rfl,rfl⟩:=inj3 h
  obtain rfl:=okB_size (hH _ hm1) rfl
  obtain rfl:=(of_decide_eq_true (Bool.and_eq_true_iff.1 hp).1).1
  obtain⟨F,hF⟩:=s22 _ _ _ hp (hH _ hm0) (hH _ hm1)
  exact⟨Af22 F,(f22_body F _ _ _).trans hF⟩)
end Go.Am
end
section
namespace Go.Am
open Go Go.Proofs
abbrev Ty99:=Li×(List Li)×Li×Int×Int×Bool×Nat×Li×(Lp)×(Lp)×Bool×Int×Li×(List Li)×Li×Int×Int×Bool×(List (List Li))×Bool×Int
abbrev Ty100:=(List (List Li))×Nat×(List (List Li))×Nat×Int×Int
def lV23:List CEnt:=[(10,[some 9,some 9],r10),(11,[none],r11),(12,[none],r12),(35,[none],r35),(36,[some 3,some 3],r36),(37,[none],r37),(38,[none],r38),(42,[none],r42),(59,[none],r59),(60,[none],r60)]
def V23:Env:=mkEnv T36Z G36Z lV23
noncomputable abbrev Kf69:=kFin V23 none (Tryz.f23).results.toList
theorem eV23:EOk Tryz.prog V23:=eok_mk (by exact⟨c10,c11,c12,c35,c36,c37,c38,c42,c59,c60,trivial⟩)
def Af23(F:Nat):Cuts:={ F:=F,at_:=fun _=>none,join:=fun _=>none }
def ef23_a:Ty99→St:=fun (a0N,a0T,a0B,a0x,a0f,a0c,a1n,a1b,a1p,a1w,a1o,a1l,a2N,a2T,a2B,a2x,a2f,a2c,a3s,a3o,a3l)=>⟨[(0,.ptr 0 0 7 0 0 0 7),(1,.ptr 1 0 7 0 0 0 7)],[(0,(jB 2 5 3 4 5 a0x a0f a0c)),(1,(jB 6 3 7 8 9 a2x a2f a2c)),(2,(dB 10 a1n 11 12 a1o a1l)),(3,(iB a0N)),(4,(iB a0B)),(5,(sB a0T)),(6,(rB a3s.length 13 a3o a3l)),(7,(iB a2N)),(8,(sB a2T)),(9,(iB a2B)),(10,(bB a1b)),(11,(pB a1p)),(12,(wB a1w)),(13,(tB a3s))],14,65,14⟩
def f23_1(F:Nat):Ty99→Rz:=fun (a0N,a0T,a0B,a0x,a0f,a0c,a1n,a1b,a1p,a1w,a1o,a1l,a2N,a2T,a2B,a2x,a2f,a2c,a3s,a3o,a3l)=>(cond (decide ((Jr.J.mk a0N a0T a0B a0x a0f a0c).nums.length < 1073741000)) (cond (decide ((Jr.J.mk a0N a0T a0B a0x a0f a0c).nums.length < 1073741824)) (cond ((Jr.J.mk a0N a0T a0B a0x a0f a0c).nums==a2N) (cond (decide ((Jr.J.mk a0N a0T a0B a0x a0f a0c).texts.length < 1073741000)) (cond (decide ((Jr.J.mk a0N a0T a0B a0x a0f a0c).texts.length < 1073741824)) (cond ((Jr.J.mk a0N a0T a0B a0x a0f a0c).texts==a2T) (cond (decide ((Jr.J.mk a0N a0T a0B a0x a0f a0c).nums.length < 1073741000∧(Jr.J.mk a0N a0T a0B a0x a0f a0c).next < 100000)) (cond ((decide (a3s.length=a3s.length∧a3s.length < 8000))&&((decide ((Jr.J.mk a2N a2T a2B a2x a2f a2c).nums.length < 1073741000∧(Jr.J.mk a2N a2T a2B a2x a2f a2c).next < 100000)))) (cond (decide ((Jr.damaged (Jr.J.mk a0N a0T a0B a0x a0f a0c)).length < 1073741824)) (cond ((Jr.damaged (Jr.J.mk a0N a0T a0B a0x a0f a0c))==(Jr.damaged (Jr.J.mk a2N a2T a2B a2x a2f a2c))) (cond (decide ((Jr.J.mk a0N a0T a0B a0x a0f a0c).bad.length < 1073741000)) (cond (decide ((Jr.J.mk a0N a0T a0B a0x a0f a0c).bad.length < 1073741824)) (cond ((Jr.J.mk a0N a0T a0B a0x a0f a0c).bad==(Jr.J.mk a2N a2T a2B a2x a2f a2c).bad) (cond ((Jr.J.mk a0N a0T a0B a0x a0f a0c).next==(Jr.J.mk a2N a2T a2B a2x a2f a2c).next) (cond (decide ((Dk.R.mk a3s a3o a3l).s.length=(Dk.R.mk a3s a3o a3l).s.length∧(Dk.R.mk a3s a3o a3l).s.length < 8000)) (some ((.bool ((IntKind.i64.wrap (((Dk.D.mk a1n a1b a1p a1w a1o a1l).n:Int)-(Jr.J.mk a0N a0T a0B a0x a0f a0c).fin))==(IntKind.i64.wrap (((Dk.R.mk a3s a3o a3l).s.length:Int)-(Jr.J.mk a2N a2T a2B a2x a2f a2c).fin)))),[(jE 2 5 3 4 5 (Jr.J.mk a0N a0T a0B a0x a0f a0c)),(jE 6 3 7 8 9 (Jr.J.mk a2N a2T a2B a2x a2f a2c)),(dE 10 (Dk.D.mk a1n a1b a1p a1w a1o a1l) 11 12),(.cells (Jr.J.mk a0N a0T a0B a0x a0f a0c).nums.length (.rI .i64 (Jr.J.mk a0N a0T a0B a0x a0f a0c).nums) true),(.cells (Jr.J.mk a0N a0T a0B a0x a0f a0c).bad.length (.rI .i64 (Jr.J.mk a0N a0T a0B a0x a0f a0c).bad) true),(.cells (Jr.J.mk a0N a0T a0B a0x a0f a0c).texts.length (.rS (Jr.J.mk a0N a0T a0B a0x a0f a0c).texts) true),(rB (Dk.R.mk a3s a3o a3l).s.length 13 (Dk.R.mk a3s a3o a3l).off (Dk.R.mk a3s a3o a3l).left),(.cells (Jr.J.mk a2N a2T a2B a2x a2f a2c).nums.length (.rI .i64 (Jr.J.mk a2N a2T a2B a2x a2f a2c).nums) true),(.cells (Jr.J.mk a2N a2T a2B a2x a2f a2c).texts.length (.rS (Jr.J.mk a2N a2T a2B a2x a2f a2c).texts) true),(.cells (Jr.J.mk a2N a2T a2B a2x a2f a2c).bad.length (.rI .i64 (Jr.J.mk a2N a2T a2B a2x a2f a2c).bad) true),(.cells (Dk.D.mk a1n a1b a1p a1w a1o a1l).blk.length (.rI .u8 (Dk.D.mk a1n a1b a1p a1w a1o a1l).blk) true),(pB (Dk.D.mk a1n a1b a1p a1w a1o a1l).pend),(wB (Dk.D.mk a1n a1b a1p a1w a1o a1l).worn),(.cells ((Dk.R.mk a3s a3o a3l).s.length*4) (.rT [.str,.str,.bool,.bool] (Dk.R.mk a3s a3o a3l).s) true)])) none) (some ((.bool false),[(jE 2 5 3 4 5 (Jr.J.mk a0N a0T a0B a0x a0f a0c)),(jE 6 3 7 8 9 (Jr.J.mk a2N a2T a2B a2x a2f a2c)),(dE 10 (Dk.D.mk a1n a1b a1p a1w a1o a1l) 11 12),(.cells (Jr.J.mk a0N a0T a0B a0x a0f a0c).nums.length (.rI .i64 (Jr.J.mk a0N a0T a0B a0x a0f a0c).nums) true),(.cells (Jr.J.mk a0N a0T a0B a0x a0f a0c).bad.length (.rI .i64 (Jr.J.mk a0N a0T a0B a0x a0f a0c).bad) true),(.cells (Jr.J.mk a0N a0T a0B a0x a0f a0c).texts.length (.rS (Jr.J.mk a0N a0T a0B a0x a0f a0c).texts) true),(rB (Dk.R.mk a3s a3o a3l).s.length 13 (Dk.R.mk a3s a3o a3l).off (Dk.R.mk a3s a3o a3l).left),(.cells (Jr.J.mk a2N a2T a2B a2x a2f a2c).nums.length (.rI .i64 (Jr.J.mk a2N a2T a2B a2x a2f a2c).nums) true),(.cells (Jr.J.mk a2N a2T a2B a2x a2f a2c).texts.length (.rS (Jr.J.mk a2N a2T a2B a2x a2f a2c).texts) true),(.cells (Jr.J.mk a2N a2T a2B a2x a2f a2c).bad.length (.rI .i64 (Jr.J.mk a2N a2T a2B a2x a2f a2c).bad) true),(.cells (Dk.D.mk a1n a1b a1p a1w a1o a1l).blk.length (.rI .u8 (Dk.D.mk a1n a1b a1p a1w a1o a1l).blk) true),(pB (Dk.D.mk a1n a1b a1p a1w a1o a1l).pend),(wB (Dk.D.mk a1n a1b a1p a1w a1o a1l).worn),(.cells ((Dk.R.mk a3s a3o a3l).s.length*4) (.rT [.str,.str,.bool,.bool] (Dk.R.mk a3s a3o a3l).s) true)]))) (some ((.bool false),[(jE 2 5 3 4 5 (Jr.J.mk a0N a0T a0B a0x a0f a0c)),(jE 6 3 7 8 9 (Jr.J.mk a2N a2T a2B a2x a2f a2c)),(dE 10 (Dk.D.mk a1n a1b a1p a1w a1o a1l) 11 12),(.cells (Jr.J.mk a0N a0T a0B a0x a0f a0c).nums.length (.rI .i64 (Jr.J.mk a0N a0T a0B a0x a0f a0c).nums) true),(.cells (Jr.J.mk a0N a0T a0B a0x a0f a0c).bad.length (.rI .i64 (Jr.J.mk a0N a0T a0B a0x a0f a0c).bad) true),(.cells (Jr.J.mk a0N a0T a0B a0x a0f a0c).texts.length (.rS (Jr.J.mk a0N a0T a0B a0x a0f a0c).texts) true),(rB (Dk.R.mk a3s a3o a3l).s.length 13 (Dk.R.mk a3s a3o a3l).off (Dk.R.mk a3s a3o a3l).left),(.cells (Jr.J.mk a2N a2T a2B a2x a2f a2c).nums.length (.rI .i64 (Jr.J.mk a2N a2T a2B a2x a2f a2c).nums) true),(.cells (Jr.J.mk a2N a2T a2B a2x a2f a2c).texts.length (.rS (Jr.J.mk a2N a2T a2B a2x a2f a2c).texts) true),(.cells (Jr.J.mk a2N a2T a2B a2x a2f a2c).bad.length (.rI .i64 (Jr.J.mk a2N a2T a2B a2x a2f a2c).bad) true),(.cells (Dk.D.mk a1n a1b a1p a1w a1o a1l).blk.length (.rI .u8 (Dk.D.mk a1n a1b a1p a1w a1o a1l).blk) true),(pB (Dk.D.mk a1n a1b a1p a1w a1o a1l).pend),(wB (Dk.D.mk a1n a1b a1p a1w a1o a1l).worn),(.cells ((Dk.R.mk a3s a3o a3l).s.length*4) (.rT [.str,.str,.bool,.bool] (Dk.R.mk a3s a3o a3l).s) true)]))) none) none) (some ((.bool false),[(jE 2 5 3 4 5 (Jr.J.mk a0N a0T a0B a0x a0f a0c)),(jE 6 3 7 8 9 (Jr.J.mk a2N a2T a2B a2x a2f a2c)),(dE 10 (Dk.D.mk a1n a1b a1p a1w a1o a1l) 11 12),(.cells (Jr.J.mk a0N a0T a0B a0x a0f a0c).nums.length (.rI .i64 (Jr.J.mk a0N a0T a0B a0x a0f a0c).nums) true),(.cells (Jr.J.mk a0N a0T a0B a0x a0f a0c).bad.length (.rI .i64 (Jr.J.mk a0N a0T a0B a0x a0f a0c).bad) true),(.cells (Jr.J.mk a0N a0T a0B a0x a0f a0c).texts.length (.rS (Jr.J.mk a0N a0T a0B a0x a0f a0c).texts) true),(rB (Dk.R.mk a3s a3o a3l).s.length 13 (Dk.R.mk a3s a3o a3l).off (Dk.R.mk a3s a3o a3l).left),(.cells (Jr.J.mk a2N a2T a2B a2x a2f a2c).nums.length (.rI .i64 (Jr.J.mk a2N a2T a2B a2x a2f a2c).nums) true),(.cells (Jr.J.mk a2N a2T a2B a2x a2f a2c).texts.length (.rS (Jr.J.mk a2N a2T a2B a2x a2f a2c).texts) true),(.cells (Jr.J.mk a2N a2T a2B a2x a2f a2c).bad.length (.rI .i64 (Jr.J.mk a2N a2T a2B a2x a2f a2c).bad) true),(.cells (Dk.D.mk a1n a1b a1p a1w a1o a1l).blk.length (.rI .u8 (Dk.D.mk a1n a1b a1p a1w a1o a1l).blk) true),(pB (Dk.D.mk a1n a1b a1p a1w a1o a1l).pend),(wB (Dk.D.mk a1n a1b a1p a1w a1o a1l).worn),(.cells ((Dk.R.mk a3s a3o a3l).s.length*4) (.rT [.str,.str,.bool,.bool] (Dk.R.mk a3s a3o a3l).s) true)]))) none) none) none) (some ((.bool false),[(jE 2 5 3 4 5 (Jr.J.mk a0N a0T a0B a0x a0f a0c)),(jB 6 3 7 8 9 a2x a2f a2c),(dE 10 (Dk.D.mk a1n a1b a1p a1w a1o a1l) 11 12),(.cells (Jr.J.mk a0N a0T a0B a0x a0f a0c).nums.length (.rI .i64 (Jr.J.mk a0N a0T a0B a0x a0f a0c).nums) true),(.cells (Jr.J.mk a0N a0T a0B a0x a0f a0c).bad.length (.rI .i64 (Jr.J.mk a0N a0T a0B a0x a0f a0c).bad) true),(.cells (Jr.J.mk a0N a0T a0B a0x a0f a0c).texts.length (.rS (Jr.J.mk a0N a0T a0B a0x a0f a0c).texts) true),(rB a3s.length 13 a3o a3l),(iB a2N),(sB a2T),(iB a2B),(.cells (Dk.D.mk a1n a1b a1p a1w a1o a1l).blk.length (.rI .u8 (Dk.D.mk a1n a1b a1p a1w a1o a1l).blk) true),(pB (Dk.D.mk a1n a1b a1p a1w a1o a1l).pend),(wB (Dk.D.mk a1n a1b a1p a1w a1o a1l).worn),(tB a3s)]))) none) none) (some ((.bool false),[(jE 2 5 3 4 5 (Jr.J.mk a0N a0T a0B a0x a0f a0c)),(jB 6 3 7 8 9 a2x a2f a2c),(dE 10 (Dk.D.mk a1n a1b a1p a1w a1o a1l) 11 12),(.cells (Jr.J.mk a0N a0T a0B a0x a0f a0c).nums.length (.rI .i64 (Jr.J.mk a0N a0T a0B a0x a0f a0c).nums) true),(.cells (Jr.J.mk a0N a0T a0B a0x a0f a0c).bad.length (.rI .i64 (Jr.J.mk a0N a0T a0B a0x a0f a0c).bad) true),(.cells (Jr.J.mk a0N a0T a0B a0x a0f a0c).texts.length (.rS (Jr.J.mk a0N a0T a0B a0x a0f a0c).texts) true),(rB a3s.length 13 a3o a3l),(iB a2N),(sB a2T),(iB a2B),(.cells (Dk.D.mk a1n a1b a1p a1w a1o a1l).blk.length (.rI .u8 (Dk.D.mk a1n a1b a1p a1w a1o a1l).blk) true),(pB (Dk.D.mk a1n a1b a1p a1w a1o a1l).pend),(wB (Dk.D.mk a1n a1b a1p a1w a1o a1l).worn),(tB a3s)]))) none) none)
theorem f23_1_eq(F:Nat):∀ v,aexec V23 (Af23 F) (sub (bodyOf Tryz.f23) []) (ef23_a v) Kf69=f23_1 F v:=by
 rintro⟨a0N,a0T,a0B,a0x,a0f,a0c,a1n,a1b,a1p,a1w,a1o,a1l,a2N,a2T,a2B,a2x,a2f,a2c,a3s,a3o,a3l⟩;kernel_rfl
def f23(F:Nat):Ty99→Rz:=f23_1 F
theorem f23_body(F:Nat)(a0N:Li)(a0T:List Li)(a0B:Li)(a0x a0f:Int)(a0c:Bool)(a1n:Nat)(a1b:Li)(a1p a1w:Lp)(a1o:Bool)(a1l:Int)(a2N:Li)(a2T:List Li)(a2B:Li)(a2x a2f:Int)(a2c:Bool)(a3s:List (List Li))(a3o:Bool)(a3l:Int):abody V23 (Af23 F) Tryz.f23 [(.ptr 0 0 7 0 0 0 7),.ptr 1 0 7 0 0 0 7] [(jB 2 5 3 4 5 a0x a0f a0c),(jB 6 3 7 8 9 a2x a2f a2c),(dB 10 a1n 11 12 a1o a1l),(iB a0N),(iB a0B),(sB a0T),(rB a3s.length 13 a3o a3l),(iB a2N),(sB a2T),(iB a2B),(bB a1b),(pB a1p),(wB a1w),(tB a3s)]=f23 F (a0N,a0T,a0B,a0x,a0f,a0c,a1n,a1b,a1p,a1w,a1o,a1l,a2N,a2T,a2B,a2x,a2f,a2c,a3s,a3o,a3l):=
 (abody_in (by kernel_rfl) (by kernel_rfl)).trans (f23_1_eq F (a0N,a0T,a0B,a0x,a0f,a0c,a1n,a1b,a1p,a1w,a1o,a1l,a2N,a2T,a2B,a2x,a2f,a2c,a3s,a3o,a3l))
def r23:CRun:=fun X H=>match X,H with
 | [(.ptr 0 0 7 0 0 0 7),.ptr 1 0 7 0 0 0 7],[b0,b1,b2,b3,b4,b5,b6,b7,b8,b9,b10,b11,b12,b13]=>(match b0 with
 | (.cells 7 (.segs (.cons 1 (.one (.ptr 2 0 5 0 0 0 5)) (.cons 1 (.one (.own 3 0 1)) (.cons 1 (.one (.own 4 0 1)) (.cons 1 (.one (.own 5 0 1)) (.cons 1 (.one (.int .i64 a0x)) (.cons 1 (.one (.int .i64 a0f)) (.cons 1 (.one (.bool a0c)) .nil)))))))) true)=>(match b1 with
 | (.cells 7 (.segs (.cons 1 (.one (.ptr 6 0 3 0 0 0 3)) (.cons 1 (.one (.own 7 0 1)) (.cons 1 (.one (.own 8 0 1)) (.cons 1 (.one (.own 9 0 1)) (.cons 1 (.one (.int .i64 a2x)) (.cons 1 (.one (.int .i64 a2f)) (.cons 1 (.one (.bool a2c)) .nil)))))))) true)=>(match b2 with
 | (.cells 5 (.segs (.cons 1 (.one (.own 10 a1n 64)) (.cons 1 (.one (.mp 11)) (.cons 1 (.one (.mp 12)) (.cons 1 (.one (.bool a1o)) (.cons 1 (.one (.int .i64 a1l)) .nil)))))) true)=>(match b3 with
 | (.cells z3 (.rI .i64 a0N) true)=>(match b4 with
 | (.cells z4 (.rI .i64 a0B) true)=>(match b5 with
 | (.cells z5 (.rS a0T) true)=>(match b6 with
 | (.cells 3 (.segs (.cons 1 (.one (.own 13 a3n 4)) (.cons 1 (.one (.bool a3o)) (.cons 1 (.one (.int .i64 a3l)) .nil)))) true)=>(match b7 with
 | (.cells z7 (.rI .i64 a2N) true)=>(match b8 with
 | (.cells z8 (.rS a2T) true)=>(match b9 with
 | (.cells z9 (.rI .i64 a2B) true)=>(match b10 with
 | (.cells z10 (.rI .u8 a1b) true)=>(match b11 with
 | (.cells 0 (.rM .i64 0 (.arr .u8 64) a1p) true)=>(match b12 with
 | (.cells 0 (.rM .i64 0 .bool a1w) true)=>(match b13 with
 | (.cells z13 (.rT [.str,.str,.bool,.bool] a3s) true)=>some ((decide (a3n=a3s.length∧a3n < 8000))&&((Jr.okS (Jr.J.mk a0N a0T a0B a0x a0f a0c))&&(Jr.okS (Jr.J.mk a2N a2T a2B a2x a2f a2c))),(.bool (Jr.same (Jr.J.mk a0N a0T a0B a0x a0f a0c) (Dk.D.mk a1n a1b a1p a1w a1o a1l) (Jr.J.mk a2N a2T a2B a2x a2f a2c) (Dk.R.mk a3s a3o a3l))),[(jE 2 5 3 4 5 (Jr.J.mk a0N a0T a0B a0x a0f a0c)),(jE 6 3 7 8 9 (Jr.J.mk a2N a2T a2B a2x a2f a2c)),(dE 10 (Dk.D.mk a1n a1b a1p a1w a1o a1l) 11 12),(.cells (Jr.J.mk a0N a0T a0B a0x a0f a0c).nums.length (.rI .i64 (Jr.J.mk a0N a0T a0B a0x a0f a0c).nums) true),(.cells (Jr.J.mk a0N a0T a0B a0x a0f a0c).bad.length (.rI .i64 (Jr.J.mk a0N a0T a0B a0x a0f a0c).bad) true),(.cells (Jr.J.mk a0N a0T a0B a0x a0f a0c).texts.length (.rS (Jr.J.mk a0N a0T a0B a0x a0f a0c).texts) true),(rB (Dk.R.mk a3s a3o a3l).s.length 13 (Dk.R.mk a3s a3o a3l).off (Dk.R.mk a3s a3o a3l).left),(.cells (Jr.J.mk a2N a2T a2B a2x a2f a2c).nums.length (.rI .i64 (Jr.J.mk a2N a2T a2B a2x a2f a2c).nums) true),(.cells (Jr.J.mk a2N a2T a2B a2x a2f a2c).texts.length (.rS (Jr.J.mk a2N a2T a2B a2x a2f a2c).texts) true),(.cells (Jr.J.mk a2N a2T a2B a2x a2f a2c).bad.length (.rI .i64 (Jr.J.mk a2N a2T a2B a2x a2f a2c).bad) true),(.cells (Dk.D.mk a1n a1b a1p a1w a1o a1l).blk.length (.rI .u8 (Dk.D.mk a1n a1b a1p a1w a1o a1l).blk) true),(pB (Dk.D.mk a1n a1b a1p a1w a1o a1l).pend),(wB (Dk.D.mk a1n a1b a1p a1w a1o a1l).worn),(.cells ((Dk.R.mk a3s a3o a3l).s.length*4) (.rT [.str,.str,.bool,.bool] (Dk.R.mk a3s a3o a3l).s) true)])
 | _=>none)
 | _=>none)
 | _=>none)
 | _=>none)
 | _=>none)
 | _=>none)
 | _=>none)
 | _=>none)
 | _=>none)
 | _=>none)
 | _=>none)
 | _=>none)
 | _=>none)
 | _=>none)
 | _,_=>none
theorem s23(a0N:Li)(a0T:List Li)(a0B:Li)(a0x a0f:Int)(a0c:Bool)(a1n:Nat)(a1b:Li)(a1p a1w:Lp)(a1o:Bool)(a1l:Int)(a2N:Li)(a2T:List Li)(a2B:Li)(a2x a2f:Int)(a2c:Bool)(a3s:List (List Li))(a3o:Bool)(a3l:Int)(hp:((decide (a3s.length=a3s.length∧a3s.length < 8000))&&((Jr.okS (Jr.J.mk a0N a0T a0B a0x a0f a0c))&&(Jr.okS (Jr.J.mk a2N a2T a2B a2x a2f a2c))))=true)(k0:okB (jB 2 5 3 4 5 a0x a0f a0c))(k1:okB (jB 6 3 7 8 9 a2x a2f a2c))(k2:okB (dB 10 a1n 11 12 a1o a1l))(k3:okB (iB a0N))(k4:okB (iB a0B))(k5:okB (sB a0T))(k6:okB (rB a3s.length 13 a3o a3l))(k7:okB (iB a2N))(k8:okB (sB a2T))(k9:okB (iB a2B))(k10:okB (bB a1b))(k11:okB (pB a1p))(k12:okB (wB a1w))(k13:okB (tB a3s)):∃ F,f23 F (a0N,a0T,a0B,a0x,a0f,a0c,a1n,a1b,a1p,a1w,a1o,a1l,a2N,a2T,a2B,a2x,a2f,a2c,a3s,a3o,a3l)=some ((.bool (Jr.same (Jr.J.mk a0N a0T a0B a0x a0f a0c) (Dk.D.mk a1n a1b a1p a1w a1o a1l) (Jr.J.mk a2N a2T a2B a2x a2f a2c) (Dk.R.mk a3s a3o a3l))),[(jE 2 5 3 4 5 (Jr.J.mk a0N a0T a0B a0x a0f a0c)),(jE 6 3 7 8 9 (Jr.J.mk a2N a2T a2B a2x a2f a2c)),(dE 10 (Dk.D.mk a1n a1b a1p a1w a1o a1l) 11 12),(.cells (Jr.J.mk a0N a0T a0B a0x a0f a0c).nums.length (.rI .i64 (Jr.J.mk a0N a0T a0B a0x a0f a0c).nums) true),(.cells (Jr.J.mk a0N a0T a0B a0x a0f a0c).bad.length (.rI .i64 (Jr.J.mk a0N a0T a0B a0x a0f a0c).bad) true),(.cells (Jr.J.mk a0N a0T a0B a0x a0f a0c).texts.length (.rS (Jr.J.mk a0N a0T a0B a0x a0f a0c).texts) true),(rB (Dk.R.mk a3s a3o a3l).s.length 13 (Dk.R.mk a3s a3o a3l).off (Dk.R.mk a3s a3o a3l).left),(.cells (Jr.J.mk a2N a2T a2B a2x a2f a2c).nums.length (.rI .i64 (Jr.J.mk a2N a2T a2B a2x a2f a2c).nums) true),(.cells (Jr.J.mk a2N a2T a2B a2x a2f a2c).texts.length (.rS (Jr.J.mk a2N a2T a2B a2x a2f a2c).texts) true),(.cells (Jr.J.mk a2N a2T a2B a2x a2f a2c).bad.length (.rI .i64 (Jr.J.mk a2N a2T a2B a2x a2f a2c).bad) true),(.cells (Dk.D.mk a1n a1b a1p a1w a1o a1l).blk.length (.rI .u8 (Dk.D.mk a1n a1b a1p a1w a1o a1l).blk) true),(pB (Dk.D.mk a1n a1b a1p a1w a1o a1l).pend),(wB (Dk.D.mk a1n a1b a1p a1w a1o a1l).worn),(.cells ((Dk.R.mk a3s a3o a3l).s.length*4) (.rT [.str,.str,.bool,.bool] (Dk.R.mk a3s a3o a3l).s) true)]):=by
 obtain⟨hp0,hp⟩:=Bool.and_eq_true_iff.1 hp
 obtain⟨hp1,hp2⟩:=Bool.and_eq_true_iff.1 hp
 obtain⟨p1,p2,p3,p4⟩:=of_decide_eq_true hp1
 obtain⟨r1,r2,r3,r4⟩:=of_decide_eq_true hp2
 have hn8:a3s.length < 8000:=(of_decide_eq_true hp0).2
 have hd:=Jr.damaged_len (Jr.J.mk a0N a0T a0B a0x a0f a0c)
 have p4':a0x < 100000:=p4
 have hd':(Jr.damaged (Jr.J.mk a0N a0T a0B a0x a0f a0c)).length≤(a0x-1).toNat:=hd
 have p1':a0N.length < 100000:=p1
 have p2':a0T.length < 100000:=p2
 have p3':a0B.length < 100000:=p3
 have r1':a2N.length < 100000:=r1
 have r4':a2x < 100000:=r4
 refine⟨0,?_⟩
 simp only [f23,f23_1,Jr.same]
 rw [cond_pos (show a0N.length < 1073741000 by omega),cond_pos (show a0N.length < 1073741824 by omega),cond_pos (show a0T.length < 1073741000 by omega),cond_pos (show a0T.length < 1073741824 by omega),cond_pos (show a0N.length < 1073741000∧a0x < 100000 by omega),
  dec_and,cond_pos ⟨⟨trivial,hn8⟩,by omega⟩,cond_pos (show(Jr.damaged (Jr.J.mk a0N a0T a0B a0x a0f a0c)).length < 1073741824 by omega),cond_pos (show a0B.length < 1073741000 by omega),cond_pos (show a0B.length < 1073741824 by omega),cond_pos ⟨trivial,hn8⟩]
 cases (a0N==a2N) <;> cases (a0T==a2T) <;> cases (Jr.damaged (Jr.J.mk a0N a0T a0B a0x a0f a0c)==Jr.damaged (Jr.J.mk a2N a2T a2B a2x a2f a2c)) <;> cases (a0B==a2B) <;> cases (a0x==a2x) <;> rfl
set_option maxRecDepth 100000 in
theorem c23:CallOk Tryz.prog G36Z 23 r23:=callOk_of mixed tys eV23 Tryz.func23 (by kernel_rfl) (c:=sub (bodyOf Tryz.f23) []) (by kernel_rfl) (by
 intro X H r H' h hX hH
 unfold r23 at h;split at h <;> try contradiction
 split at h <;> try contradiction
 split at h <;> try contradiction
 split at h <;> try contradiction
 split at h <;> try contradiction
 split at h <;> try contradiction
 split at h <;> try contradiction
 split at h <;> try contradiction
 split at h <;> try contradiction
 split at h <;> try contradiction
 split at h <;> try contradiction
 split at h <;> try contradiction
 split at h <;> try contradiction
 split at h <;> try contradiction
 split at h <;> try contradiction
 ·obtain⟨hp,rfl,rfl⟩:=inj3 h
  obtain rfl:=okB_size (hH _ hm3) rfl
  obtain rfl:=okB_size (hH _ hm4) rfl
  obtain rfl:=okB_size (hH _ hm5) rfl
  obtain rfl:=okB_size (hH _ hm7) rfl
  obtain rfl:=okB_size (hH _ hm8) rfl
  obtain rfl:=okB_size (hH _ hm9) rfl
  obtain rfl:=okB_size (hH _ hm10) rfl
  obtain rfl:=okB_size (hH _ hm13) rfl
  obtain rfl:=(of_decide_eq_true (Bool.and_eq_true_iff.1 hp).1).1
  obtain⟨F,hF⟩:=s23 _ _ _ _ _ _ _ _ _ _ _ _ _ _ _ _ _ _ _ _ _ hp (hH _ hm0) (hH _ hm1) (hH _ hm2) (hH _ hm3) (hH _ hm4) (hH _ hm5) (hH _ hm6) (hH _ hm7) (hH _ hm8) (hH _ hm9) (hH _ hm10) (hH _ hm11) (hH _ hm12) (hH _ hm13)
  exact⟨Af23 F,(f23_body F _ _ _ _ _ _ _ _ _ _ _ _ _ _ _ _ _ _ _ _ _).trans hF⟩)
def f19_1(F:Nat)(kj1:Ty32→Rz):Ty32→Rz:=fun (a0,a0n)=>(kj1 (a0,a0n))
def f19_2(F:Nat)(kj2:Ty100→Rz)(kj3:Ty32→Rz):Ty32→Rz:=fun (t0,x2)=>(kj2 (t0,x2,t0,x2,(↑x2:Int),(0:Int)))
def f19_3(F:Nat)(kl1:Ty100→Rz)(kj3:Ty32→Rz):Ty100→Rz:=fun (t0,x2,t5,x4,t6,t7)=>(cond (decide (t7 < t6)) (cond ((decide (0≤t7))&&(decide (t7 < (↑x4:Int)))) (cond (decide ((↑((t5.getD (Int.toNat t7) []).getD 5 []).length:Int) > (200:Int))) (some ((.bool false),[])) (kl1 (t0,x2,t5,x4,t6,(IntKind.i64.wrap (t7+(1:Int)))))) none) (kj3 (t0,x2)))
def f19_4_i:Ty100→(List (List Li))×Nat×(List (List Li))×Nat×Int×Int:=fun (t0,x2,t5,x4,t6,t7)=>(t0,x2,t5,x4,t6,t7)
def f19_4(F:Nat)(kj3:Ty32→Rz):Ty100→Rz:=fun v=>loopN (fun k=>f19_3 F k kj3) F (f19_4_i v)
def f19_5(F:Nat)(kj3:Ty32→Rz):Ty100→Rz:=f19_4 F kj3
def f19_6(F:Nat)(kj3:Ty32→Rz):Ty32→Rz:=fun v=>f19_2 F (f19_5 F kj3) kj3 v
def f19_7(F:Nat):Ty32→Rz:=fun (t0,x2)=>(some ((.bool (decide ((↑x2:Int)≤(30:Int)))),[]))
def f19_8(F:Nat):Ty32→Rz:=fun v=>f19_6 F (f19_7 F) v
def f19_9(F:Nat):Ty32→Rz:=fun v=>f19_1 F (f19_8 F) v
def f19(F:Nat):Ty32→Rz:=f19_9 F
end Go.Am
end
section
namespace Go.Am
open Go Go.Proofs
abbrev sp100:List (Nat×Md):=[(3,.plain),(5,.plain),(40,.plain),(41,.plain),(42,.plain)]
abbrev sp101:List (Nat×Md):=[(0,.plain),(3,.plain),(4,.plain),(5,.plain),(6,.plain)]
abbrev sp102:List (Nat×Md):=[(0,.plain),(3,.plain),(5,.plain)]
abbrev sp103:List (Nat×Md):=[(3,.plain),(5,.plain)]
abbrev Ty101:=(List Li)×Int×(Dk.D)
abbrev Ty102:=(List Li)×Int×Int×(Dk.D)×(Dk.R)
abbrev Ty103:=(List Li)×(Dk.D)×(Dk.R)
def lV5:List CEnt:=[(7,[],r7),(9,[none],r9),(20,[none],r20),(21,[none],r21),(22,[none],r22),(23,[none,none],r23),(32,[none,none,none],r32),(33,[none,none,none],r33)]
def V5:Env:=mkEnv T36Z G37Z lV5
noncomputable abbrev Kf71:=kFin V5 none (Tryz.f5).results.toList
theorem eV5:EOk Tryz.prog V5:=eok_mk (by exact⟨c7.more gsub,c9.more gsub,c20.more gsub,c21.more gsub,c22,c23.more gsub,c32.more gsub,c33.more gsub,trivial⟩)
def Af5(F:Nat):Cuts:={ F:=F,at_:=fun n=>match n with | 8018=>some sp100 | _=>none,join:=fun n=>match n with | 1050=>some sp74 | 3042=>some sp74 | 4040=>some sp35 | 5038=>some sp101 | 7030=>some sp102 | 8020=>some sp100 | 13007=>some sp103 | _=>none }
noncomputable abbrev XAf5(F:Nat){α:Type}:=@aexec α V5 (Af5 F)
def ef5_a:(List Li)→St:=fun a0=>⟨[(0,(.vs (.rS a0) 0 1))],[],0,78,0⟩
def ef5j1:(List Li)→St:=fun t0=>⟨[(0,(.vs (.rS t0) 0 1))],[],0,78,0⟩
def ef5j2:(List Li)→St:=ef5j1
def ef5j3:Ty101→St:=fun (t0,t4,e1)=>⟨[(0,(.vs (.rS t0) 0 1)),(3,.ptr 0 0 5 0 0 0 5),(4,.int .i64 t4)],[(0,(dE 1 e1 2 3)),(1,(bB e1.blk)),(2,(pB e1.pend)),(3,(wB e1.worn))],4,78,0⟩
def ef5j4:Ty102→St:=fun (t0,t4,t6,e1,e2)=>⟨[(0,(.vs (.rS t0) 0 1)),(3,.ptr 0 0 5 0 0 0 5),(4,.int .i64 t4),(5,.ptr 1 0 3 0 0 0 3),(6,.int .i64 t6)],[(0,(dE 2 e1 3 4)),(1,(rB e2.s.length 5 e2.off e2.left)),(2,(bB e1.blk)),(3,(pB e1.pend)),(4,(wB e1.worn)),(5,(tB e2.s))],6,78,0⟩
def ef5j5:Ty103→St:=fun (t0,e1,e2)=>⟨[(0,(.vs (.rS t0) 0 1)),(3,.ptr 0 0 5 0 0 0 5),(5,.ptr 1 0 3 0 0 0 3)],[(0,(dE 2 e1 3 4)),(1,(rB e2.s.length 5 e2.off e2.left)),(2,(bB e1.blk)),(3,(pB e1.pend)),(4,(wB e1.worn)),(5,(tB e2.s))],6,78,0⟩
def ef5j6:Ty102→St:=fun (t40,t41,t42,e1,e2)=>⟨[(3,.ptr 0 0 5 0 0 0 5),(5,.ptr 1 0 3 0 0 0 3),(40,(.vs (.rS t40) 0 1)),(41,.int .i64 t41),(42,.int .i64 t42)],[(0,(dE 2 e1 3 4)),(1,(rB e2.s.length 5 e2.off e2.left)),(2,(bB e1.blk)),(3,(pB e1.pend)),(4,(wB e1.worn)),(5,(tB e2.s))],6,78,0⟩
def ef5l1:Ty102→St:=ef5j6
def ef5j7:(Dk.D)×(Dk.R)→St:=fun (e1,e2)=>⟨[(3,.ptr 0 0 5 0 0 0 5),(5,.ptr 1 0 3 0 0 0 3)],[(0,(dE 2 e1 3 4)),(1,(rB e2.s.length 5 e2.off e2.left)),(2,(bB e1.blk)),(3,(pB e1.pend)),(4,(wB e1.worn)),(5,(tB e2.s))],6,78,0⟩
def f5_1(F:Nat)(kj1:(List Li)→Rz):(List Li)→Rz:=fun a0=>(kj1 a0)
theorem f5_1_eq(F:Nat)(Rj1:St→Rz):∀ v,XAf5 F (bp Tryz.f5 2) (ef5_a v) (kSeq (kc V5 Rj1 sp74) Kf71)=f5_1 F (Rj1∘ef5j1) v:=by
 intro a0;kernel_rfl
def f5_2(F:Nat)(kj2:(List Li)→Rz):(List Li)→Rz:=fun t0=>(cond (decide ((↑t0.length:Int) > (40:Int))) (some ((.bool true),[])) (cond ((↑t0.length:Int)==(0:Int)) (some ((.bool true),[])) (kj2 t0)))
theorem f5_2_eq(F:Nat)(Rj2:St→Rz):∀ v,XAf5 F (bp Tryz.f5 6) (ef5j1 v) (kSeq (kc V5 Rj2 sp74) Kf71)=f5_2 F (Rj2∘ef5j2) v:=by
 intro t0;kernel_rfl
def f5_3(F:Nat)(kj3:Ty101→Rz):(List Li)→Rz:=fun t0=>(cond ((decide (0 < (↑t0.length:Int)))&&(decide ((↑t0.length:Int) < 4097))) (kj3 (t0,0,(Dk.new (↑t0.length:Int)))) none)
theorem f5_3_eq(F:Nat)(Rj3:St→Rz):∀ v,XAf5 F (bp Tryz.f5 14) (ef5j2 v) (kSeq (kc V5 Rj3 sp35) Kf71)=f5_3 F (Rj3∘ef5j3) v:=by
 intro t0;kernel_rfl
def f5_4(F:Nat)(kj4:Ty102→Rz):Ty101→Rz:=fun (t0,t4,e1)=>(cond ((decide (0 < (↑t0.length:Int)))&&(decide ((↑t0.length:Int) < 4097))) (kj4 (t0,t4,0,e1,(Dk.rnew (↑t0.length:Int)))) none)
theorem f5_4_eq(F:Nat)(Rj4:St→Rz):∀ v,XAf5 F (bp Tryz.f5 30) (ef5j3 v) (kSeq (kc V5 Rj4 sp101) Kf71)=f5_4 F (Rj4∘ef5j4) v:=by
 rintro⟨t0,t4,e1⟩;kernel_rfl
def f5_5(F:Nat)(kj5:Ty103→Rz):Ty102→Rz:=fun (t0,t4,t6,e1,e2)=>(cond (t4 != (0:Int)) (some ((.bool false),[])) (cond (t6 != (0:Int)) (some ((.bool false),[])) (kj5 (t0,e1,e2))))
theorem f5_5_eq(F:Nat)(Rj5:St→Rz):∀ v,XAf5 F (bp Tryz.f5 62) (ef5j4 v) (kSeq (kc V5 Rj5 sp102) Kf71)=f5_5 F (Rj5∘ef5j5) v:=by
 rintro⟨t0,t4,t6,e1,e2⟩;kernel_rfl
def f5_6(F:Nat)(kj6:Ty102→Rz)(kj7:(Dk.D)×(Dk.R)→Rz):Ty103→Rz:=fun (t0,e1,e2)=>(kj6 (t0,(↑t0.length:Int),(0:Int),e1,e2))
theorem f5_6_eq(F:Nat)(Rj6 Rj7:St→Rz):∀ v,XAf5 F (bp Tryz.f5 252) (ef5j5 v) (kSeq (kc V5 Rj6 sp100) (kSeq (kc V5 Rj7 sp103) Kf71))=f5_6 F (Rj6∘ef5j6) (Rj7∘ef5j7) v:=by
 rintro⟨t0,e1,e2⟩;kernel_rfl
def f5_7(F:Nat)(kl1:Ty102→Rz)(kj7:(Dk.D)×(Dk.R)→Rz):Ty102→Rz:=fun (t40,t41,t42,e1,e2)=>(cond (decide (t42 < t41)) (cond ((decide (0≤t42))&&(decide (t42 < (↑t40.length:Int)))) (cond (decide (e2.s.length=e2.s.length∧e2.s.length < 8000)) (cond ((Dk.write e1 t42 (t40.getD (Int.toNat t42) [])).2 != (Dk.rwrite e2 t42 (t40.getD (Int.toNat t42) [])).2) (some ((.bool false),[])) (kl1 (t40,t41,(IntKind.i64.wrap (t42+(1:Int))),(Dk.write e1 t42 (t40.getD (Int.toNat t42) [])).1,(Dk.rwrite e2 t42 (t40.getD (Int.toNat t42) [])).1))) none) none) (kj7 (e1,e2)))
theorem f5_7_eq(F:Nat)(Rl1 Rj7:St→Rz):∀ v,XAf5 F (bp Tryz.f5 1012) (ef5l1 v) (kSeq (kc V5 Rl1 sp100) (kBlock 0 (kSeq (kc V5 Rj7 sp103) Kf71)))=f5_7 F (Rl1∘ef5l1) (Rj7∘ef5j7) v:=by
 rintro⟨t40,t41,t42,e1,e2⟩;kernel_rfl
def f5_8_i:Ty102→(List Li)×Int×Int×(Dk.D)×(Dk.R):=fun (t40,t41,t42,e1,e2)=>(t40,t41,t42,e1,e2)
def f5_8(F:Nat)(kj7:(Dk.D)×(Dk.R)→Rz):Ty102→Rz:=fun v=>loopN (fun k=>f5_7 F k kj7) F (f5_8_i v)
theorem f5_8_eq(F:Nat)(Rj7:St→Rz):∀ v,XAf5 F (bp Tryz.f5 506) (ef5j6 v) (kBlock 0 (kSeq (kc V5 Rj7 sp103) Kf71))=f5_8 F (Rj7∘ef5j7) v:=
 loop_cut (by kernel_rfl) (by kernel_rfl) ef5j6 ef5l1 _ f5_8_i (fun k=>f5_7 F k (Rj7∘ef5j7))
  (by rintro⟨t40,t41,t42,e1,e2⟩;kernel_rfl) (fun Rl1=>f5_7_eq F Rl1 Rj7)
def f5_9(F:Nat)(kj7:(Dk.D)×(Dk.R)→Rz):Ty102→Rz:=f5_8 F kj7
theorem f5_9_eq(F:Nat)(Rj7:St→Rz):∀ v,XAf5 F (bp Tryz.f5 253) (ef5j6 v) (kSeq (kc V5 Rj7 sp103) Kf71)=f5_9 F (Rj7∘ef5j7) v:=fun v=>
 (block_in  (by kernel_rfl) _ _).trans (f5_8_eq F Rj7 v)
def f5_10(F:Nat)(kj7:(Dk.D)×(Dk.R)→Rz):Ty103→Rz:=fun v=>f5_6 F (f5_9 F kj7) kj7 v
theorem f5_10_eq(F:Nat)(Rj7:St→Rz):∀ v,XAf5 F (bp Tryz.f5 126) (ef5j5 v) (kSeq (kc V5 Rj7 sp103) Kf71)=f5_10 F (Rj7∘ef5j7) v:=
 seq_cut (by kernel_rfl) (by kernel_rfl) ef5j5 ef5j6 _ (fun k=>f5_6 F k (Rj7∘ef5j7)) (f5_9 F (Rj7∘ef5j7))
  (fun Rj6=>f5_6_eq F Rj6 Rj7) (f5_9_eq F Rj7)
def f5_11(F:Nat):(Dk.D)×(Dk.R)→Rz:=fun (e1,e2)=>(cond ((Dk.fine e1)&&(!e1.off)) (cond ((decide (e2.s.length=e2.s.length∧e2.s.length < 8000))&&((Dk.rfine e2)&&(!e2.off))) (cond (0==0) (cond ((decide (e2.s.length=e2.s.length∧e2.s.length < 8000))&&((Jr.okS (Jr.openS (Jr.secsD e1)))&&(Jr.okS (Jr.openS (Jr.secsR e2))))) (some ((.bool (Jr.same (Jr.openS (Jr.secsD e1)) e1 (Jr.openS (Jr.secsR e2)) e2)),[])) none) (some ((.bool false),[]))) none) none)
theorem f5_11_eq(F:Nat):∀ v,XAf5 F (bp Tryz.f5 127) (ef5j7 v) Kf71=f5_11 F v:=by
 rintro⟨e1,e2⟩;kernel_rfl
def f5_12(F:Nat):Ty103→Rz:=fun v=>f5_10 F (f5_11 F) v
theorem f5_12_eq(F:Nat):∀ v,XAf5 F (bp Tryz.f5 63) (ef5j5 v) Kf71=f5_12 F v:=
 seq_cut (by kernel_rfl) (by kernel_rfl) ef5j5 ef5j7 _ (fun k=>f5_10 F k) (f5_11 F)
  (fun Rj7=>f5_10_eq F Rj7) (f5_11_eq F)
def f5_13(F:Nat):Ty102→Rz:=fun v=>f5_5 F (f5_12 F) v
theorem f5_13_eq(F:Nat):∀ v,XAf5 F (bp Tryz.f5 31) (ef5j4 v) Kf71=f5_13 F v:=
 seq_cut (by kernel_rfl) (by kernel_rfl) ef5j4 ef5j5 _ (fun k=>f5_5 F k) (f5_12 F)
  (fun Rj5=>f5_5_eq F Rj5) (f5_12_eq F)
def f5_14(F:Nat):Ty101→Rz:=fun v=>f5_4 F (f5_13 F) v
theorem f5_14_eq(F:Nat):∀ v,XAf5 F (bp Tryz.f5 15) (ef5j3 v) Kf71=f5_14 F v:=
 seq_cut (by kernel_rfl) (by kernel_rfl) ef5j3 ef5j4 _ (fun k=>f5_4 F k) (f5_13 F)
  (fun Rj4=>f5_4_eq F Rj4) (f5_13_eq F)
def f5_15(F:Nat):(List Li)→Rz:=fun v=>f5_3 F (f5_14 F) v
theorem f5_15_eq(F:Nat):∀ v,XAf5 F (bp Tryz.f5 7) (ef5j2 v) Kf71=f5_15 F v:=
 seq_cut (by kernel_rfl) (by kernel_rfl) ef5j2 ef5j3 _ (fun k=>f5_3 F k) (f5_14 F)
  (fun Rj3=>f5_3_eq F Rj3) (f5_14_eq F)
def f5_16(F:Nat):(List Li)→Rz:=fun v=>f5_2 F (f5_15 F) v
theorem f5_16_eq(F:Nat):∀ v,XAf5 F (bp Tryz.f5 3) (ef5j1 v) Kf71=f5_16 F v:=
 seq_cut (by kernel_rfl) (by kernel_rfl) ef5j1 ef5j2 _ (fun k=>f5_2 F k) (f5_15 F)
  (fun Rj2=>f5_2_eq F Rj2) (f5_15_eq F)
def f5_17(F:Nat):(List Li)→Rz:=fun v=>f5_1 F (f5_16 F) v
theorem f5_17_eq(F:Nat):∀ v,XAf5 F (sub (bodyOf Tryz.f5) []) (ef5_a v) Kf71=f5_17 F v:=
 seq_cut (by kernel_rfl) (by kernel_rfl) ef5_a ef5j1 _ (fun k=>f5_1 F k) (f5_16 F)
  (fun Rj1=>f5_1_eq F Rj1) (f5_16_eq F)
def f5(F:Nat):(List Li)→Rz:=f5_17 F
theorem f5_body(F:Nat)(a0:List Li):abody V5 (Af5 F) Tryz.f5 [(.vs (.rS a0) 0 1)] []=f5 F a0:=
 (abody_in (c:=(sub (bodyOf Tryz.f5) [])) (by kernel_rfl) (s:=ef5_a a0) (by kernel_rfl)).trans (f5_17_eq F a0)
def r5:CRun:=fun X H=>match X,H with
 | [(.vs (.rS a0) 0 1)],[]=>some (true,.bool true,[])
 | _,_=>none
theorem s5(a0:List Li)(h0:okV (.vs (.rS a0) 0 1)):∃ F,f5 F a0=some ((.bool true),[]):=by
 refine⟨50,?_⟩
 simp only [f5,f5_17,f5_1,f5_16,f5_2]
 by_cases g1:(a0.length:Int) > (40:Int)
 ·rw [cond_pos g1]
 rw [cond_neg g1]
 by_cases g2:a0.length=0
 ·rw [g2];rfl
 rw [show(((a0.length:Nat):Int)==(0:Int))=false by simpa using g2,cond_false]
 simp only [f5_15,f5_3,f5_14,f5_4,f5_13,f5_5,f5_12,f5_10,f5_6,f5_9,f5_8,f5_8_i]
 rw [show((decide (0 < ((a0.length:Nat):Int)))&&(decide (((a0.length:Nat):Int) < 4097)))=true by rw [dec_and,decide_eq_true_iff];omega,cond_true,cond_true,show((0:Int) != 0)=false from rfl,cond_false,cond_false]
 refine loopN_ind (fun m s=>∃ (k:Nat) (d:Dk.D) (r:Dk.R),s=(a0,(a0.length:Int),(k:Int),d,r)∧m=a0.length-k∧k≤a0.length∧Dk.Rel d r∧d.n=a0.length∧r.off=false∧r.left < 0) (fun m s K hi hk=>?_) 50 a0.length _ (by omega)
  ⟨0,Dk.new (a0.length:Int),Dk.rnew (a0.length:Int),rfl,rfl,by omega,Dk.new_rel (by omega) (by omega),rfl,rfl,(show(-1:Int) < 0 by decide)⟩
 obtain⟨k,d,r,rfl,hm,hle,hR,hn,ho,hl⟩:=hi
 have hrn:=hR.n
 simp only [f5_7]
 by_cases hlt:k < a0.length
 ·have hlt':(k:Int) < (a0.length:Int):=by omega
  rw [decide_eq_true hlt',cond_true]
  rw [Bool.and_true,cond_pos (by omega)]
  obtain⟨w1,w2⟩:=hR.write (k:Int) (a0.getD (Int.toNat (k:Int)) [])
  obtain⟨o1,o2⟩:=Jr.rwrite_on ho hl (k:Int) (a0.getD (Int.toNat (k:Int)) [])
  rw [cond_pos ⟨trivial,by omega⟩,w1,bne_self_eq_false,cond_false,i64w (x:=(k:Int)+1) (by omega) (by omega)]
  exact hk (m-1) _ (by omega) ⟨k+1,_,_,rfl,by omega,by omega,w2,by rw [Jr.write_n,hn],o1,o2⟩
 ·rw [decide_eq_false (show ¬ (k:Int) < (a0.length:Int) by omega),cond_false]
  simp only [f5_11]
  have hsl:(Jr.secsR r).length < 8000:=by simp only [Jr.secsR,List.length_map,List.length_range];omega
  rw [hR.fine,hR.off,ho,hR.rfine,Jr.secs_rel hR,Jr.openS_okS hsl,Jr.same_self hrn,show(true && !false)=true from rfl,cond_true,Bool.and_true,cond_pos ⟨trivial,by omega⟩,show(true&&true)=true from rfl,Bool.and_true,cond_pos ⟨trivial,by omega⟩]
  rfl
theorem c5:CallOk Tryz.prog G37Z 5 r5:=callOk_of mixed tys eV5 Tryz.func5 (by kernel_rfl) (c:=sub (bodyOf Tryz.f5) []) (by kernel_rfl) (by
 intro X H r H' h hX hH
 unfold r5 at h;split at h <;> try contradiction
 ·obtain⟨hp,rfl,rfl⟩:=inj3 h
  obtain⟨F,hF⟩:=s5 _ (hX _ hm0)
  exact⟨Af5 F,(f5_body F _).trans hF⟩)
end Go.Am
end