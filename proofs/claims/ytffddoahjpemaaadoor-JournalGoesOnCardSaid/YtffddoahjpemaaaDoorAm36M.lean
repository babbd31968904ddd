/- Part of a proof. -/
import Derived.Test.YtffddoahjpemaaaDoorAm36K
set_option linter.unusedVariables false
set_option linter.unusedSimpArgs false
namespace Go.Am
open Go Go.Proofs
abbrev sp75:List (Nat×Md):=[(0,.plain),(1,.plain),(7,.plain),(47,.plain),(48,.plain),(49,.plain)]
abbrev sp76:List (Nat×Md):=[(7,.plain),(11,.plain),(13,.own 2),(14,.own 9),(15,.plain),(71,.plain),(72,.plain),(73,.plain)]
abbrev sp77:List (Nat×Md):=[(0,.plain),(1,.plain),(2,.plain),(33,.plain)]
abbrev sp78:List (Nat×Md):=[(0,.plain),(1,.plain),(2,.plain),(7,.plain),(8,.plain)]
abbrev sp79:List (Nat×Md):=[(0,.plain),(1,.plain),(2,.plain),(7,.plain),(41,.plain)]
abbrev sp80:List (Nat×Md):=[(0,.plain),(1,.plain),(2,.plain),(7,.plain)]
abbrev sp81:List (Nat×Md):=[(0,.plain),(1,.plain),(7,.plain),(47,.plain),(48,.plain),(49,.plain),(50,.plain)]
abbrev sp82:List (Nat×Md):=[(0,.plain),(1,.plain),(7,.plain),(10,.plain),(47,.plain),(48,.plain),(49,.plain)]
abbrev sp83:List (Nat×Md):=[(1,.plain),(7,.plain)]
abbrev sp84:List (Nat×Md):=[(1,.plain),(7,.plain),(11,.plain),(12,.plain)]
abbrev sp85:List (Nat×Md):=[(1,.plain),(7,.plain),(11,.plain),(70,.plain)]
abbrev sp86:List (Nat×Md):=[(1,.plain),(7,.plain),(11,.plain)]
abbrev sp87:List (Nat×Md):=[(1,.plain),(7,.plain),(11,.plain),(13,.plain)]
abbrev sp88:List (Nat×Md):=[(1,.plain),(7,.plain),(11,.plain),(13,.plain),(14,.plain)]
abbrev sp89:List (Nat×Md):=[(1,.plain),(7,.plain),(11,.plain),(13,.plain),(14,.plain),(15,.plain)]
abbrev sp90:List (Nat×Md):=[(7,.plain),(11,.plain),(13,.plain),(14,.plain),(15,.plain),(71,.plain),(72,.plain),(73,.plain)]
abbrev sp91:List (Nat×Md):=[(7,.plain),(11,.plain),(13,.plain),(14,.plain),(15,.plain),(71,.plain),(72,.plain),(73,.plain),(74,.plain)]
abbrev sp92:List (Nat×Md):=[(7,.plain),(11,.plain),(13,.plain),(14,.plain),(15,.plain),(17,.plain),(71,.plain),(72,.plain),(73,.plain)]
abbrev sp93:List (Nat×Md):=[(7,.plain),(11,.plain),(13,.plain),(14,.plain),(15,.plain),(17,.plain),(18,.plain),(19,.plain),(71,.plain),(72,.plain),(73,.plain)]
abbrev sp94:List (Nat×Md):=[(7,.plain),(11,.plain),(13,.plain),(14,.plain),(15,.plain),(17,.plain),(18,.plain),(71,.plain),(72,.plain),(73,.plain),(84,.plain)]
abbrev sp95:List (Nat×Md):=[(7,.plain),(11,.plain),(13,.plain),(14,.plain),(15,.plain),(17,.plain),(18,.plain),(71,.plain),(72,.plain),(73,.plain),(84,.plain),(85,.plain)]
abbrev sp96:List (Nat×Md):=[(7,.plain),(11,.plain),(13,.plain),(14,.plain),(17,.plain),(18,.plain),(71,.plain),(72,.plain),(73,.plain),(89,.plain)]
abbrev sp97:List (Nat×Md):=[(7,.plain),(11,.plain),(13,.plain),(14,.plain),(17,.plain),(18,.plain),(71,.plain),(72,.plain),(73,.plain)]
abbrev sp98:List (Nat×Md):=[(7,.plain),(11,.plain),(13,.plain),(14,.plain)]
abbrev sp99:List (Nat×Md):=[(11,.plain),(13,.plain),(14,.plain),(20,.plain),(21,.plain)]
abbrev Ty67:=Int×(List (List Li))×Nat×Li
abbrev Ty68:=Int×(List (List Li))×Nat×Li×Bool
abbrev Ty69:=Int×(List (List Li))×Nat×Li×Int×(Dk.D)
abbrev Ty70:=Int×(List (List Li))×Nat×Li×Bool×(Dk.D)
abbrev Ty71:=Int×(List (List Li))×Nat×Li×(Dk.D)
abbrev Ty72:=Int×(List (List Li))×Nat×Li×Int×Int×(Dk.D)
abbrev Ty73:=Int×(List (List Li))×Nat×Li×Int×Int×Bool×(Dk.D)
abbrev Ty74:=Int×(List (List Li))×Nat×Int×Li×Int×Int×(Dk.D)
abbrev Ty75:=(List (List Li))×Nat×(Dk.D)
abbrev Ty76:=(List (List Li))×Nat×Int×(Dk.D)×(Jr.J)
abbrev Ty77:=(List (List Li))×Nat×Bool×(Dk.D)×(Jr.J)
abbrev Ty78:=(List (List Li))×Nat×(Dk.D)×(Jr.J)
abbrev Ty79:=Int×(List (List Li))×Nat×Int×Int×(Dk.D)×(Jr.J)
abbrev Ty80:=Int×(List (List Li))×Nat×Int×Int×Li×(List Li)×(Dk.D)×(Jr.J)
abbrev Ty81:=Int×(List (List Li))×Nat×Int×Int×Bool×Li×(List Li)×(Dk.D)×(Jr.J)
abbrev Ty82:=Int×(List (List Li))×Nat×Int×Int×Li×(List Li)×Int×Int×Int×Int×Int×Li×(Dk.D)×(Jr.J)
abbrev Ty83:=Int×Int×Int×(List (List Li))×Nat×Int×Int×Li×(List Li)×Int×Int×Int×Int×Int×Li×(Dk.D)×(Jr.J)
abbrev Ty84:=Int×Int×(List (List Li))×Nat×Int×Int×Int×Li×(List Li)×Int×Int×Int×Int×Int×Li×(Dk.D)×(Jr.J)
abbrev Ty85:=Int×Int×(List (List Li))×Nat×Int×Int×Int×Bool×Li×(List Li)×Int×Int×Int×Int×Int×Li×(Dk.D)×(Jr.J)
abbrev Ty86:=Int×(List (List Li))×Nat×Int×Int×Bool×Li×(List Li)×Int×Int×Int×Int×Int×Li×(Dk.D)×(Jr.J)
abbrev Ty87:=Li×(List Li)×(Dk.D)×(Jr.J)
abbrev Ty88:=Int×Li×(List Li)×(Dk.D)×(Jr.J)×(Jr.J)
def lV4v:List CEnt:=[(5,[],r5),(10,[some 9,some 9],r10),(13,[none],r13),(14,[none,none],r14),(15,[none],r15),(16,[none,none],r16),(17,[none],r17),(18,[some 3,some 3],r18),(19,[none],r19),(20,[none],r20)]
def V4v:Env:=mkEnv T36 G36 lV4v
noncomputable abbrev Kf54:=kFin V4v none (Tryd.f4).results.toList
theorem eV4v:EOk Tryd.prog V4v:=eok_mk (by exact⟨c5,c10,c13,c14,c15,c16,c17,c18,c19,c20,trivial⟩)
def Af4v(F:Nat):Cuts:={ F:=F,at_:=fun n=>match n with | 7012=>some sp75 | 18043=>some sp76 | _=>none,join:=fun n=>match n with | 1104=>some sp51 | 2005=>some sp77 | 3096=>some sp51 | 4094=>some sp78 | 5005=>some sp79 | 6086=>some sp80 | 7014=>some sp75 | 8006=>some sp75 | 8010=>some sp81 | 9001=>some sp82 | 10001=>some sp75 | 11069=>some sp83 | 12067=>some sp84 | 13005=>some sp85 | 14059=>some sp86 | 15057=>some sp87 | 16055=>some sp88 | 17053=>some sp89 | 18045=>some sp90 | 19037=>some sp90 | 19041=>some sp91 | 20032=>some sp92 | 21030=>some sp93 | 23028=>some sp94 | 24025=>some sp95 | 25005=>some sp96 | 26001=>some sp97 | 30001=>some sp76 | 31005=>some sp98 | 32003=>some sp99 | _=>none }
noncomputable abbrev XAf4v(F:Nat){α:Type}:=@aexec α V4v (Af4v F)
def ef4v_a:Ty67→St:=fun (a0,a1,a1n,a2)=>⟨[(0,.int .i64 a0),(1,(.vs (.rT [.int .i64,.int .i64,.int .i64,.int .i64,.int .u8,.sl .i64] a1) a1n 6)),(2,(.vs (.rI .u8 a2) 0 1))],[],0,139,0⟩
def ef4vj1:Ty67→St:=fun (t0,t1,x3,t2)=>⟨[(0,.int .i64 t0),(1,(.vs (.rT [.int .i64,.int .i64,.int .i64,.int .i64,.int .u8,.sl .i64] t1) x3 6)),(2,(.vs (.rI .u8 t2) 0 1))],[],0,139,0⟩
def ef4vj2:Ty68→St:=fun (t0,t1,x3,t2,t33)=>⟨[(0,.int .i64 t0),(1,(.vs (.rT [.int .i64,.int .i64,.int .i64,.int .i64,.int .u8,.sl .i64] t1) x3 6)),(2,(.vs (.rI .u8 t2) 0 1)),(33,.bool t33)],[],0,139,0⟩
def ef4vj3:Ty67→St:=ef4vj1
def ef4vj4:Ty69→St:=fun (t0,t1,x3,t2,t8,e1)=>⟨[(0,.int .i64 t0),(1,(.vs (.rT [.int .i64,.int .i64,.int .i64,.int .i64,.int .u8,.sl .i64] t1) x3 6)),(2,(.vs (.rI .u8 t2) 0 1)),(7,.ptr 0 0 5 0 0 0 5),(8,.int .i64 t8)],[(0,(dE 1 e1 2 3)),(1,(bB e1.blk)),(2,(pB e1.pend)),(3,(wB e1.worn))],4,139,0⟩
def ef4vj5:Ty70→St:=fun (t0,t1,x3,t2,t41,e1)=>⟨[(0,.int .i64 t0),(1,(.vs (.rT [.int .i64,.int .i64,.int .i64,.int .i64,.int .u8,.sl .i64] t1) x3 6)),(2,(.vs (.rI .u8 t2) 0 1)),(7,.ptr 0 0 5 0 0 0 5),(41,.bool t41)],[(0,(dE 1 e1 2 3)),(1,(bB e1.blk)),(2,(pB e1.pend)),(3,(wB e1.worn))],4,139,0⟩
def ef4vj6:Ty71→St:=fun (t0,t1,x3,t2,e1)=>⟨[(0,.int .i64 t0),(1,(.vs (.rT [.int .i64,.int .i64,.int .i64,.int .i64,.int .u8,.sl .i64] t1) x3 6)),(2,(.vs (.rI .u8 t2) 0 1)),(7,.ptr 0 0 5 0 0 0 5)],[(0,(dE 1 e1 2 3)),(1,(bB e1.blk)),(2,(pB e1.pend)),(3,(wB e1.worn))],4,139,0⟩
def ef4vj7:Ty72→St:=fun (t0,t1,x3,t47,t48,t49,e1)=>⟨[(0,.int .i64 t0),(1,(.vs (.rT [.int .i64,.int .i64,.int .i64,.int .i64,.int .u8,.sl .i64] t1) x3 6)),(7,.ptr 0 0 5 0 0 0 5),(47,(.vs (.rI .u8 t47) 0 1)),(48,.int .i64 t48),(49,.int .i64 t49)],[(0,(dE 1 e1 2 3)),(1,(bB e1.blk)),(2,(pB e1.pend)),(3,(wB e1.worn))],4,139,0⟩
def ef4vl1:Ty72→St:=ef4vj7
def ef4vj8:Ty73→St:=fun (t0,t1,x3,t47,t48,t49,t50,e1)=>⟨[(0,.int .i64 t0),(1,(.vs (.rT [.int .i64,.int .i64,.int .i64,.int .i64,.int .u8,.sl .i64] t1) x3 6)),(7,.ptr 0 0 5 0 0 0 5),(47,(.vs (.rI .u8 t47) 0 1)),(48,.int .i64 t48),(49,.int .i64 t49),(50,.bool t50)],[(0,(dE 1 e1 2 3)),(1,(bB e1.blk)),(2,(pB e1.pend)),(3,(wB e1.worn))],4,139,0⟩
def ef4vj9:Ty72→St:=ef4vj7
def ef4vj10:Ty74→St:=fun (t0,t1,x3,t10,t47,t48,t49,e1)=>⟨[(0,.int .i64 t0),(1,(.vs (.rT [.int .i64,.int .i64,.int .i64,.int .i64,.int .u8,.sl .i64] t1) x3 6)),(7,.ptr 0 0 5 0 0 0 5),(10,.int .u8 t10),(47,(.vs (.rI .u8 t47) 0 1)),(48,.int .i64 t48),(49,.int .i64 t49)],[(0,(dE 1 e1 2 3)),(1,(bB e1.blk)),(2,(pB e1.pend)),(3,(wB e1.worn))],4,139,0⟩
def ef4vj11:Ty72→St:=ef4vj7
def ef4vj12:Ty75→St:=fun (t1,x2,e1)=>⟨[(1,(.vs (.rT [.int .i64,.int .i64,.int .i64,.int .i64,.int .u8,.sl .i64] t1) x2 6)),(7,.ptr 0 0 5 0 0 0 5)],[(0,(dE 1 e1 2 3)),(1,(bB e1.blk)),(2,(pB e1.pend)),(3,(wB e1.worn))],4,139,0⟩
def ef4vj13:Ty76→St:=fun (t1,x2,t12,e1,e2)=>⟨[(1,(.vs (.rT [.int .i64,.int .i64,.int .i64,.int .i64,.int .u8,.sl .i64] t1) x2 6)),(7,.ptr 0 0 5 0 0 0 5),(11,.ptr 1 0 7 0 0 0 7),(12,.int .i64 t12)],[(0,(dE 2 e1 3 4)),(1,(jE 0 5 5 6 7 e2)),(2,(bB e1.blk)),(3,(pB e1.pend)),(4,(wB e1.worn)),(5,(iB e2.nums)),(6,(iB e2.bad)),(7,(sB e2.texts))],8,139,0⟩
def ef4vj14:Ty77→St:=fun (t1,x2,t70,e1,e2)=>⟨[(1,(.vs (.rT [.int .i64,.int .i64,.int .i64,.int .i64,.int .u8,.sl .i64] t1) x2 6)),(7,.ptr 0 0 5 0 0 0 5),(11,.ptr 1 0 7 0 0 0 7),(70,.bool t70)],[(0,(dE 2 e1 3 4)),(1,(jE 0 5 5 6 7 e2)),(2,(bB e1.blk)),(3,(pB e1.pend)),(4,(wB e1.worn)),(5,(iB e2.nums)),(6,(iB e2.bad)),(7,(sB e2.texts))],8,139,0⟩
def ef4vj15:Ty78→St:=fun (t1,x2,e1,e2)=>⟨[(1,(.vs (.rT [.int .i64,.int .i64,.int .i64,.int .i64,.int .u8,.sl .i64] t1) x2 6)),(7,.ptr 0 0 5 0 0 0 5),(11,.ptr 1 0 7 0 0 0 7)],[(0,(dE 2 e1 3 4)),(1,(jE 0 5 5 6 7 e2)),(2,(bB e1.blk)),(3,(pB e1.pend)),(4,(wB e1.worn)),(5,(iB e2.nums)),(6,(iB e2.bad)),(7,(sB e2.texts))],8,139,0⟩
def ef4vj16:Ty78→St:=fun (t1,x2,e1,e2)=>⟨[(1,(.vs (.rT [.int .i64,.int .i64,.int .i64,.int .i64,.int .u8,.sl .i64] t1) x2 6)),(7,.ptr 0 0 5 0 0 0 5),(11,.ptr 1 0 7 0 0 0 7),(13,.ns)],[(0,(dE 2 e1 3 4)),(1,(jE 0 5 5 6 7 e2)),(2,(bB e1.blk)),(3,(pB e1.pend)),(4,(wB e1.worn)),(5,(iB e2.nums)),(6,(iB e2.bad)),(7,(sB e2.texts))],8,139,0⟩
def ef4vj17:Ty78→St:=fun (t1,x2,e1,e2)=>⟨[(1,(.vs (.rT [.int .i64,.int .i64,.int .i64,.int .i64,.int .u8,.sl .i64] t1) x2 6)),(7,.ptr 0 0 5 0 0 0 5),(11,.ptr 1 0 7 0 0 0 7),(13,.ns),(14,.ns)],[(0,(dE 2 e1 3 4)),(1,(jE 0 5 5 6 7 e2)),(2,(bB e1.blk)),(3,(pB e1.pend)),(4,(wB e1.worn)),(5,(iB e2.nums)),(6,(iB e2.bad)),(7,(sB e2.texts))],8,139,0⟩
def ef4vj18:Ty76→St:=fun (t1,x2,t15,e1,e2)=>⟨[(1,(.vs (.rT [.int .i64,.int .i64,.int .i64,.int .i64,.int .u8,.sl .i64] t1) x2 6)),(7,.ptr 0 0 5 0 0 0 5),(11,.ptr 1 0 7 0 0 0 7),(13,.ns),(14,.ns),(15,.int .i64 t15)],[(0,(dE 2 e1 3 4)),(1,(jE 0 5 5 6 7 e2)),(2,(bB e1.blk)),(3,(pB e1.pend)),(4,(wB e1.worn)),(5,(iB e2.nums)),(6,(iB e2.bad)),(7,(sB e2.texts))],8,139,0⟩
def ef4vj19:Ty79→St:=fun (t15,t71,x3,t72,t73,e1,e2)=>⟨[(7,.ptr 0 0 5 0 0 0 5),(11,.ptr 1 0 7 0 0 0 7),(13,.ns),(14,.ns),(15,.int .i64 t15),(71,(.vs (.rT [.int .i64,.int .i64,.int .i64,.int .i64,.int .u8,.sl .i64] t71) x3 6)),(72,.int .i64 t72),(73,.int .i64 t73)],[(0,(dE 2 e1 3 4)),(1,(jE 0 5 5 6 7 e2)),(2,(bB e1.blk)),(3,(pB e1.pend)),(4,(wB e1.worn)),(5,(iB e2.nums)),(6,(iB e2.bad)),(7,(sB e2.texts))],8,139,0⟩
def ef4vl2:Ty80→St:=fun (t15,t71,x3,t72,t73,x12,x13,e1,e2)=>⟨[(7,.ptr 0 0 5 0 0 0 5),(11,.ptr 1 0 7 0 0 0 7),(13,.own 2 0 1),(14,.own 3 0 1),(15,.int .i64 t15),(71,(.vs (.rT [.int .i64,.int .i64,.int .i64,.int .i64,.int .u8,.sl .i64] t71) x3 6)),(72,.int .i64 t72),(73,.int .i64 t73)],[(0,(dE 4 e1 5 6)),(1,(jE 0 5 7 8 9 e2)),(2,(iB x12)),(3,(sB x13)),(4,(bB e1.blk)),(5,(pB e1.pend)),(6,(wB e1.worn)),(7,(iB e2.nums)),(8,(iB e2.bad)),(9,(sB e2.texts))],10,139,0⟩
def ef4vj20:Ty81→St:=fun (t15,t71,x3,t72,t73,t74,x13,x14,e1,e2)=>⟨[(7,.ptr 0 0 5 0 0 0 5),(11,.ptr 1 0 7 0 0 0 7),(13,.own 2 0 1),(14,.own 3 0 1),(15,.int .i64 t15),(71,(.vs (.rT [.int .i64,.int .i64,.int .i64,.int .i64,.int .u8,.sl .i64] t71) x3 6)),(72,.int .i64 t72),(73,.int .i64 t73),(74,.bool t74)],[(0,(dE 4 e1 5 6)),(1,(jE 0 5 7 8 9 e2)),(2,(iB x13)),(3,(sB x14)),(4,(bB e1.blk)),(5,(pB e1.pend)),(6,(wB e1.worn)),(7,(iB e2.nums)),(8,(iB e2.bad)),(9,(sB e2.texts))],10,139,0⟩
def ef4vj21:Ty80→St:=ef4vl2
def ef4vj22:Ty82→St:=fun (t15,t71,x3,t72,t73,x12,x13,x14,x15,x16,x17,x18,x19,e1,e2)=>⟨[(7,.ptr 0 0 5 0 0 0 5),(11,.ptr 1 0 7 0 0 0 7),(13,.own 2 0 1),(14,.own 3 0 1),(15,.int .i64 t15),(17,.ptr 4 0 6 0 0 0 6),(71,(.vs (.rT [.int .i64,.int .i64,.int .i64,.int .i64,.int .u8,.sl .i64] t71) x3 6)),(72,.int .i64 t72),(73,.int .i64 t73)],[(0,(dE 5 e1 6 7)),(1,(jE 0 5 8 9 10 e2)),(2,(iB x12)),(3,(sB x13)),(4,(.cells 6 (.segs (.cons 1 (.one (.int .i64 x14)) (.cons 1 (.one (.int .i64 x15)) (.cons 1 (.one (.int .i64 x16)) (.cons 1 (.one (.int .i64 x17)) (.cons 1 (.one (.int .u8 x18)) (.cons 1 (.one (.vs (.rI .i64 x19) 0 1)) .nil))))))) true)),(5,(bB e1.blk)),(6,(pB e1.pend)),(7,(wB e1.worn)),(8,(iB e2.nums)),(9,(iB e2.bad)),(10,(sB e2.texts))],11,139,0⟩
def ef4vj23:Ty83→St:=fun (t15,t18,t19,t71,x5,t72,t73,x14,x15,x16,x17,x18,x19,x20,x21,e1,e2)=>⟨[(7,.ptr 0 0 5 0 0 0 5),(11,.ptr 1 0 7 0 0 0 7),(13,.own 2 0 1),(14,.own 3 0 1),(15,.int .i64 t15),(17,.ptr 4 0 6 0 0 0 6),(18,.int .i64 t18),(19,.int .i64 t19),(71,(.vs (.rT [.int .i64,.int .i64,.int .i64,.int .i64,.int .u8,.sl .i64] t71) x5 6)),(72,.int .i64 t72),(73,.int .i64 t73)],[(0,(dE 5 e1 6 7)),(1,(jE 0 5 8 9 10 e2)),(2,(iB x14)),(3,(sB x15)),(4,(.cells 6 (.segs (.cons 1 (.one (.int .i64 x16)) (.cons 1 (.one (.int .i64 x17)) (.cons 1 (.one (.int .i64 x18)) (.cons 1 (.one (.int .i64 x19)) (.cons 1 (.one (.int .u8 x20)) (.cons 1 (.one (.vs (.rI .i64 x21) 0 1)) .nil))))))) true)),(5,(bB e1.blk)),(6,(pB e1.pend)),(7,(wB e1.worn)),(8,(iB e2.nums)),(9,(iB e2.bad)),(10,(sB e2.texts))],11,139,0⟩
def ef4vj24:Ty84→St:=fun (t15,t18,t71,x4,t72,t73,t84,x14,x15,x16,x17,x18,x19,x20,x21,e1,e2)=>⟨[(7,.ptr 0 0 5 0 0 0 5),(11,.ptr 1 0 7 0 0 0 7),(13,.own 2 0 1),(14,.own 3 0 1),(15,.int .i64 t15),(17,.ptr 4 0 6 0 0 0 6),(18,.int .i64 t18),(71,(.vs (.rT [.int .i64,.int .i64,.int .i64,.int .i64,.int .u8,.sl .i64] t71) x4 6)),(72,.int .i64 t72),(73,.int .i64 t73),(84,.int .i64 t84)],[(0,(dE 5 e1 6 7)),(1,(jE 0 5 8 9 10 e2)),(2,(iB x14)),(3,(sB x15)),(4,(.cells 6 (.segs (.cons 1 (.one (.int .i64 x16)) (.cons 1 (.one (.int .i64 x17)) (.cons 1 (.one (.int .i64 x18)) (.cons 1 (.one (.int .i64 x19)) (.cons 1 (.one (.int .u8 x20)) (.cons 1 (.one (.vs (.rI .i64 x21) 0 1)) .nil))))))) true)),(5,(bB e1.blk)),(6,(pB e1.pend)),(7,(wB e1.worn)),(8,(iB e2.nums)),(9,(iB e2.bad)),(10,(sB e2.texts))],11,139,0⟩
def ef4vj25:Ty85→St:=fun (t15,t18,t71,x4,t72,t73,t84,t85,x15,x16,x17,x18,x19,x20,x21,x22,e1,e2)=>⟨[(7,.ptr 0 0 5 0 0 0 5),(11,.ptr 1 0 7 0 0 0 7),(13,.own 2 0 1),(14,.own 3 0 1),(15,.int .i64 t15),(17,.ptr 4 0 6 0 0 0 6),(18,.int .i64 t18),(71,(.vs (.rT [.int .i64,.int .i64,.int .i64,.int .i64,.int .u8,.sl .i64] t71) x4 6)),(72,.int .i64 t72),(73,.int .i64 t73),(84,.int .i64 t84),(85,.bool t85)],[(0,(dE 5 e1 6 7)),(1,(jE 0 5 8 9 10 e2)),(2,(iB x15)),(3,(sB x16)),(4,(.cells 6 (.segs (.cons 1 (.one (.int .i64 x17)) (.cons 1 (.one (.int .i64 x18)) (.cons 1 (.one (.int .i64 x19)) (.cons 1 (.one (.int .i64 x20)) (.cons 1 (.one (.int .u8 x21)) (.cons 1 (.one (.vs (.rI .i64 x22) 0 1)) .nil))))))) true)),(5,(bB e1.blk)),(6,(pB e1.pend)),(7,(wB e1.worn)),(8,(iB e2.nums)),(9,(iB e2.bad)),(10,(sB e2.texts))],11,139,0⟩
def ef4vj26:Ty86→St:=fun (t18,t71,x3,t72,t73,t89,x13,x14,x15,x16,x17,x18,x19,x20,e1,e2)=>⟨[(7,.ptr 0 0 5 0 0 0 5),(11,.ptr 1 0 7 0 0 0 7),(13,.own 2 0 1),(14,.own 3 0 1),(17,.ptr 4 0 6 0 0 0 6),(18,.int .i64 t18),(71,(.vs (.rT [.int .i64,.int .i64,.int .i64,.int .i64,.int .u8,.sl .i64] t71) x3 6)),(72,.int .i64 t72),(73,.int .i64 t73),(89,.bool t89)],[(0,(dE 5 e1 6 7)),(1,(jE 0 5 8 9 10 e2)),(2,(iB x13)),(3,(sB x14)),(4,(.cells 6 (.segs (.cons 1 (.one (.int .i64 x15)) (.cons 1 (.one (.int .i64 x16)) (.cons 1 (.one (.int .i64 x17)) (.cons 1 (.one (.int .i64 x18)) (.cons 1 (.one (.int .u8 x19)) (.cons 1 (.one (.vs (.rI .i64 x20) 0 1)) .nil))))))) true)),(5,(bB e1.blk)),(6,(pB e1.pend)),(7,(wB e1.worn)),(8,(iB e2.nums)),(9,(iB e2.bad)),(10,(sB e2.texts))],11,139,0⟩
def ef4vj27:Ty82→St:=fun (t18,t71,x3,t72,t73,x12,x13,x14,x15,x16,x17,x18,x19,e1,e2)=>⟨[(7,.ptr 0 0 5 0 0 0 5),(11,.ptr 1 0 7 0 0 0 7),(13,.own 2 0 1),(14,.own 3 0 1),(17,.ptr 4 0 6 0 0 0 6),(18,.int .i64 t18),(71,(.vs (.rT [.int .i64,.int .i64,.int .i64,.int .i64,.int .u8,.sl .i64] t71) x3 6)),(72,.int .i64 t72),(73,.int .i64 t73)],[(0,(dE 5 e1 6 7)),(1,(jE 0 5 8 9 10 e2)),(2,(iB x12)),(3,(sB x13)),(4,(.cells 6 (.segs (.cons 1 (.one (.int .i64 x14)) (.cons 1 (.one (.int .i64 x15)) (.cons 1 (.one (.int .i64 x16)) (.cons 1 (.one (.int .i64 x17)) (.cons 1 (.one (.int .u8 x18)) (.cons 1 (.one (.vs (.rI .i64 x19) 0 1)) .nil))))))) true)),(5,(bB e1.blk)),(6,(pB e1.pend)),(7,(wB e1.worn)),(8,(iB e2.nums)),(9,(iB e2.bad)),(10,(sB e2.texts))],11,139,0⟩
def ef4vj28:Ty80→St:=ef4vl2
def ef4vj29:Ty87→St:=fun (x7,x8,e1,e2)=>⟨[(7,.ptr 0 0 5 0 0 0 5),(11,.ptr 1 0 7 0 0 0 7),(13,.own 2 0 1),(14,.own 3 0 1)],[(0,(dE 4 e1 5 6)),(1,(jE 0 5 7 8 9 e2)),(2,(iB x7)),(3,(sB x8)),(4,(bB e1.blk)),(5,(pB e1.pend)),(6,(wB e1.worn)),(7,(iB e2.nums)),(8,(iB e2.bad)),(9,(sB e2.texts))],10,139,0⟩
def ef4vj30:Ty88→St:=fun (t21,x8,x9,e1,e2,e3)=>⟨[(11,.ptr 0 0 7 0 0 0 7),(13,.own 1 0 1),(14,.own 2 0 1),(20,.ptr 3 0 7 0 0 0 7),(21,.int .i64 t21)],[(0,(jE 4 5 5 6 7 e2)),(1,(iB x8)),(2,(sB x9)),(3,(jE 4 5 8 9 10 e3)),(4,(dE 11 e1 12 13)),(5,(iB e2.nums)),(6,(iB e2.bad)),(7,(sB e2.texts)),(8,(iB e3.nums)),(9,(iB e3.bad)),(10,(sB e3.texts)),(11,(bB e1.blk)),(12,(pB e1.pend)),(13,(wB e1.worn))],14,139,0⟩
def f4v_1(F:Nat)(kj1:Ty67→Rz):Ty67→Rz:=fun (a0,a1,a1n,a2)=>(kj1 (a0,a1,a1n,a2))
theorem f4v_1_eq(F:Nat)(Rj1:St→Rz):∀ v,XAf4v F (bp Tryd.f4 2) (ef4v_a v) (kSeq (kc V4v Rj1 sp51) Kf54)=f4v_1 F (Rj1∘ef4vj1) v:=by
 rintro⟨a0,a1,a1n,a2⟩;kernel_rfl
def f4v_2(F:Nat)(kj2:Ty68→Rz)(kj3:Ty67→Rz):Ty67→Rz:=fun (t0,t1,x3,t2)=>(cond (decide (t0 > (200:Int))) (kj2 (t0,t1,x3,t2,true)) (cond (decide ((↑x3:Int) > (20:Int))) (kj2 (t0,t1,x3,t2,true)) (kj2 (t0,t1,x3,t2,(decide ((↑t2.length:Int) > (8:Int)))))))
theorem f4v_2_eq(F:Nat)(Rj2 Rj3:St→Rz):∀ v,XAf4v F (bp Tryd.f4 12) (ef4vj1 v) (kSeq (kc V4v Rj2 sp77) (kSeq (kc V4v Rj3 sp51) Kf54))=f4v_2 F (Rj2∘ef4vj2) (Rj3∘ef4vj3) v:=by
 rintro⟨t0,t1,x3,t2⟩;kernel_rfl
def f4v_3(F:Nat)(kj3:Ty67→Rz):Ty68→Rz:=fun (t0,t1,x3,t2,t33)=>(cond t33 (some ((.bool true),[])) (kj3 (t0,t1,x3,t2)))
theorem f4v_3_eq(F:Nat)(Rj3:St→Rz):∀ v,XAf4v F (bp Tryd.f4 13) (ef4vj2 v) (kSeq (kc V4v Rj3 sp51) Kf54)=f4v_3 F (Rj3∘ef4vj3) v:=by
 rintro⟨t0,t1,x3,t2,t33⟩;kernel_rfl
def f4v_4(F:Nat)(kj3:Ty67→Rz):Ty67→Rz:=fun v=>f4v_2 F (f4v_3 F kj3) kj3 v
theorem f4v_4_eq(F:Nat)(Rj3:St→Rz):∀ v,XAf4v F (bp Tryd.f4 6) (ef4vj1 v) (kSeq (kc V4v Rj3 sp51) Kf54)=f4v_4 F (Rj3∘ef4vj3) v:=
 seq_cut (by kernel_rfl) (by kernel_rfl) ef4vj1 ef4vj2 _ (fun k=>f4v_2 F k (Rj3∘ef4vj3)) (f4v_3 F (Rj3∘ef4vj3))
  (fun Rj2=>f4v_2_eq F Rj2 Rj3) (f4v_3_eq F Rj3)
def f4v_5(F:Nat)(kj4:Ty69→Rz):Ty67→Rz:=fun (t0,t1,x3,t2)=>(cond ((decide (0 < t0))&&(decide (t0 < 4097))) (kj4 (t0,t1,x3,t2,0,(Dk.new t0))) none)
theorem f4v_5_eq(F:Nat)(Rj4:St→Rz):∀ v,XAf4v F (bp Tryd.f4 14) (ef4vj3 v) (kSeq (kc V4v Rj4 sp78) Kf54)=f4v_5 F (Rj4∘ef4vj4) v:=by
 rintro⟨t0,t1,x3,t2⟩;kernel_rfl
def f4v_6(F:Nat)(kj5:Ty70→Rz)(kj6:Ty71→Rz):Ty69→Rz:=fun (t0,t1,x3,t2,t8,e1)=>(kj5 (t0,t1,x3,t2,(t8 != (0:Int)),e1))
theorem f4v_6_eq(F:Nat)(Rj5 Rj6:St→Rz):∀ v,XAf4v F (bp Tryd.f4 60) (ef4vj4 v) (kSeq (kc V4v Rj5 sp79) (kSeq (kc V4v Rj6 sp80) Kf54))=f4v_6 F (Rj5∘ef4vj5) (Rj6∘ef4vj6) v:=by
 rintro⟨t0,t1,x3,t2,t8,e1⟩;kernel_rfl
def f4v_7(F:Nat)(kj6:Ty71→Rz):Ty70→Rz:=fun (t0,t1,x3,t2,t41,e1)=>(cond t41 (some ((.bool (decide (t0 < (1:Int)))),[])) (kj6 (t0,t1,x3,t2,e1)))
theorem f4v_7_eq(F:Nat)(Rj6:St→Rz):∀ v,XAf4v F (bp Tryd.f4 61) (ef4vj5 v) (kSeq (kc V4v Rj6 sp80) Kf54)=f4v_7 F (Rj6∘ef4vj6) v:=by
 rintro⟨t0,t1,x3,t2,t41,e1⟩;kernel_rfl
def f4v_8(F:Nat)(kj6:Ty71→Rz):Ty69→Rz:=fun v=>f4v_6 F (f4v_7 F kj6) kj6 v
theorem f4v_8_eq(F:Nat)(Rj6:St→Rz):∀ v,XAf4v F (bp Tryd.f4 30) (ef4vj4 v) (kSeq (kc V4v Rj6 sp80) Kf54)=f4v_8 F (Rj6∘ef4vj6) v:=
 seq_cut (by kernel_rfl) (by kernel_rfl) ef4vj4 ef4vj5 _ (fun k=>f4v_6 F k (Rj6∘ef4vj6)) (f4v_7 F (Rj6∘ef4vj6))
  (fun Rj5=>f4v_6_eq F Rj5 Rj6) (f4v_7_eq F Rj6)
def f4v_9(F:Nat)(kj7:Ty72→Rz)(kj12:Ty75→Rz):Ty71→Rz:=fun (t0,t1,x3,t2,e1)=>(kj7 (t0,t1,x3,t2,(↑t2.length:Int),(0:Int),e1))
theorem f4v_9_eq(F:Nat)(Rj7 Rj12:St→Rz):∀ v,XAf4v F (bp Tryd.f4 124) (ef4vj6 v) (kSeq (kc V4v Rj7 sp75) (kSeq (kc V4v Rj12 sp83) Kf54))=f4v_9 F (Rj7∘ef4vj7) (Rj12∘ef4vj12) v:=by
 rintro⟨t0,t1,x3,t2,e1⟩;kernel_rfl
def f4v_10(F:Nat)(kj8:Ty73→Rz)(kl1:Ty72→Rz)(kj12:Ty75→Rz):Ty72→Rz:=fun (t0,t1,x3,t47,t48,t49,e1)=>(kj8 (t0,t1,x3,t47,t48,t49,(decide (t49 < t48)),e1))
theorem f4v_10_eq(F:Nat)(Rj8 Rl1 Rj12:St→Rz):∀ v,XAf4v F (bp Tryd.f4 1000) (ef4vl1 v) (kSeq (kc V4v Rj8 sp81) (kSeq (kc V4v Rl1 sp75) (kBlock 0 (kSeq (kc V4v Rj12 sp83) Kf54))))=f4v_10 F (Rj8∘ef4vj8) (Rl1∘ef4vl1) (Rj12∘ef4vj12) v:=by
 rintro⟨t0,t1,x3,t47,t48,t49,e1⟩;kernel_rfl
def f4v_11(F:Nat)(kj9 kl1:Ty72→Rz)(kj12:Ty75→Rz):Ty73→Rz:=fun (t0,t1,x3,t47,t48,t49,t50,e1)=>(cond t50 (kj9 (t0,t1,x3,t47,t48,t49,e1)) (kj12 (t1,x3,e1)))
theorem f4v_11_eq(F:Nat)(Rj9 Rl1 Rj12:St→Rz):∀ v,XAf4v F (bp Tryd.f4 2002) (ef4vj8 v) (kSeq (kc V4v Rj9 sp75) (kSeq (kc V4v Rl1 sp75) (kBlock 0 (kSeq (kc V4v Rj12 sp83) Kf54))))=f4v_11 F (Rj9∘ef4vj9) (Rl1∘ef4vl1) (Rj12∘ef4vj12) v:=by
 rintro⟨t0,t1,x3,t47,t48,t49,t50,e1⟩;kernel_rfl
def f4v_12(F:Nat)(kj10:Ty74→Rz)(kj11 kl1:Ty72→Rz)(kj12:Ty75→Rz):Ty72→Rz:=fun (t0,t1,x3,t47,t48,t49,e1)=>(cond ((decide (0≤t49))&&(decide (t49 < (↑t47.length:Int)))) (kj10 (t0,t1,x3,(t47.getD (Int.toNat t49) 0),t47,t48,t49,e1)) none)
theorem f4v_12_eq(F:Nat)(Rj10 Rj11:St→Rz)(Rl1 Rj12:St→Rz):∀ v,XAf4v F (bp Tryd.f4 16024) (ef4vj9 v) (kSeq (kc V4v Rj10 sp82) (kBlock 1 (kSeq (kc V4v Rj11 sp75) (kSeq (kc V4v Rl1 sp75) (kBlock 0 (kSeq (kc V4v Rj12 sp83) Kf54))))))=f4v_12 F (Rj10∘ef4vj10) (Rj11∘ef4vj11) (Rl1∘ef4vl1) (Rj12∘ef4vj12) v:=by
 rintro⟨t0,t1,x3,t47,t48,t49,e1⟩;kernel_rfl
def f4v_13(F:Nat)(kj11 kl1:Ty72→Rz)(kj12:Ty75→Rz):Ty74→Rz:=fun (t0,t1,x3,t10,t47,t48,t49,e1)=>(cond (!(t0==0)) (kj11 (t0,t1,x3,t47,t48,t49,(Dk.wear e1 (Int.tmod (IntKind.i64.wrap t10) t0)).1)) none)
theorem f4v_13_eq(F:Nat)(Rj11 Rl1 Rj12:St→Rz):∀ v,XAf4v F (bp Tryd.f4 16025) (ef4vj10 v) (kBlock 1 (kSeq (kc V4v Rj11 sp75) (kSeq (kc V4v Rl1 sp75) (kBlock 0 (kSeq (kc V4v Rj12 sp83) Kf54)))))=f4v_13 F (Rj11∘ef4vj11) (Rl1∘ef4vl1) (Rj12∘ef4vj12) v:=by
 rintro⟨t0,t1,x3,t10,t47,t48,t49,e1⟩;kernel_rfl
def f4v_14(F:Nat)(kj11 kl1:Ty72→Rz)(kj12:Ty75→Rz):Ty72→Rz:=fun v=>f4v_12 F (f4v_13 F kj11 kl1 kj12) kj11 kl1 kj12 v
theorem f4v_14_eq(F:Nat)(Rj11 Rl1 Rj12:St→Rz):∀ v,XAf4v F (bp Tryd.f4 8012) (ef4vj9 v) (kBlock 1 (kSeq (kc V4v Rj11 sp75) (kSeq (kc V4v Rl1 sp75) (kBlock 0 (kSeq (kc V4v Rj12 sp83) Kf54)))))=f4v_14 F (Rj11∘ef4vj11) (Rl1∘ef4vl1) (Rj12∘ef4vj12) v:=
 seq_cut (by kernel_rfl) (by kernel_rfl) ef4vj9 ef4vj10 _ (fun k=>f4v_12 F k (Rj11∘ef4vj11) (Rl1∘ef4vl1) (Rj12∘ef4vj12)) (f4v_13 F (Rj11∘ef4vj11) (Rl1∘ef4vl1) (Rj12∘ef4vj12))
  (fun Rj10=>f4v_12_eq F Rj10 Rj11 Rl1 Rj12) (f4v_13_eq F Rj11 Rl1 Rj12)
def f4v_15(F:Nat)(kj11 kl1:Ty72→Rz)(kj12:Ty75→Rz):Ty72→Rz:=f4v_14 F kj11 kl1 kj12
theorem f4v_15_eq(F:Nat)(Rj11 Rl1 Rj12:St→Rz):∀ v,XAf4v F (bp Tryd.f4 4006) (ef4vj9 v) (kSeq (kc V4v Rj11 sp75) (kSeq (kc V4v Rl1 sp75) (kBlock 0 (kSeq (kc V4v Rj12 sp83) Kf54))))=f4v_15 F (Rj11∘ef4vj11) (Rl1∘ef4vl1) (Rj12∘ef4vj12) v:=fun v=>
 (block_in  (by kernel_rfl) _ _).trans (f4v_14_eq F Rj11 Rl1 Rj12 v)
def f4v_16(F:Nat)(kl1:Ty72→Rz)(kj12:Ty75→Rz):Ty72→Rz:=fun (t0,t1,x3,t47,t48,t49,e1)=>(kl1 (t0,t1,x3,t47,t48,(IntKind.i64.wrap (t49+(1:Int))),e1))
theorem f4v_16_eq(F:Nat)(Rl1 Rj12:St→Rz):∀ v,XAf4v F (bp Tryd.f4 4007) (ef4vj11 v) (kSeq (kc V4v Rl1 sp75) (kBlock 0 (kSeq (kc V4v Rj12 sp83) Kf54)))=f4v_16 F (Rl1∘ef4vl1) (Rj12∘ef4vj12) v:=by
 rintro⟨t0,t1,x3,t47,t48,t49,e1⟩;kernel_rfl
def f4v_17(F:Nat)(kl1:Ty72→Rz)(kj12:Ty75→Rz):Ty72→Rz:=fun v=>f4v_15 F (f4v_16 F kl1 kj12) kl1 kj12 v
theorem f4v_17_eq(F:Nat)(Rl1 Rj12:St→Rz):∀ v,XAf4v F (bp Tryd.f4 2003) (ef4vj9 v) (kSeq (kc V4v Rl1 sp75) (kBlock 0 (kSeq (kc V4v Rj12 sp83) Kf54)))=f4v_17 F (Rl1∘ef4vl1) (Rj12∘ef4vj12) v:=
 seq_cut (by kernel_rfl) (by kernel_rfl) ef4vj9 ef4vj11 _ (fun k=>f4v_15 F k (Rl1∘ef4vl1) (Rj12∘ef4vj12)) (f4v_16 F (Rl1∘ef4vl1) (Rj12∘ef4vj12))
  (fun Rj11=>f4v_15_eq F Rj11 Rl1 Rj12) (f4v_16_eq F Rl1 Rj12)
def f4v_18(F:Nat)(kl1:Ty72→Rz)(kj12:Ty75→Rz):Ty73→Rz:=fun v=>f4v_11 F (f4v_17 F kl1 kj12) kl1 kj12 v
theorem f4v_18_eq(F:Nat)(Rl1 Rj12:St→Rz):∀ v,XAf4v F (bp Tryd.f4 1001) (ef4vj8 v) (kSeq (kc V4v Rl1 sp75) (kBlock 0 (kSeq (kc V4v Rj12 sp83) Kf54)))=f4v_18 F (Rl1∘ef4vl1) (Rj12∘ef4vj12) v:=
 seq_cut (by kernel_rfl) (by kernel_rfl) ef4vj8 ef4vj9 _ (fun k=>f4v_11 F k (Rl1∘ef4vl1) (Rj12∘ef4vj12)) (f4v_17 F (Rl1∘ef4vl1) (Rj12∘ef4vj12))
  (fun Rj9=>f4v_11_eq F Rj9 Rl1 Rj12) (f4v_17_eq F Rl1 Rj12)
def f4v_19(F:Nat)(kl1:Ty72→Rz)(kj12:Ty75→Rz):Ty72→Rz:=fun v=>f4v_10 F (f4v_18 F kl1 kj12) kl1 kj12 v
theorem f4v_19_eq(F:Nat)(Rl1 Rj12:St→Rz):∀ v,XAf4v F (bp Tryd.f4 500) (ef4vl1 v) (kSeq (kc V4v Rl1 sp75) (kBlock 0 (kSeq (kc V4v Rj12 sp83) Kf54)))=f4v_19 F (Rl1∘ef4vl1) (Rj12∘ef4vj12) v:=
 seq_cut (by kernel_rfl) (by kernel_rfl) ef4vl1 ef4vj8 _ (fun k=>f4v_10 F k (Rl1∘ef4vl1) (Rj12∘ef4vj12)) (f4v_18 F (Rl1∘ef4vl1) (Rj12∘ef4vj12))
  (fun Rj8=>f4v_10_eq F Rj8 Rl1 Rj12) (f4v_18_eq F Rl1 Rj12)
def f4v_20_i:Ty72→Int×(List (List Li))×Nat×Li×Int×Int×(Dk.D):=fun (t0,t1,x3,t47,t48,t49,e1)=>(t0,t1,x3,t47,t48,t49,e1)
def f4v_20(F:Nat)(kj12:Ty75→Rz):Ty72→Rz:=fun v=>loopN (fun k=>f4v_19 F k kj12) F (f4v_20_i v)
theorem f4v_20_eq(F:Nat)(Rj12:St→Rz):∀ v,XAf4v F (bp Tryd.f4 250) (ef4vj7 v) (kBlock 0 (kSeq (kc V4v Rj12 sp83) Kf54))=f4v_20 F (Rj12∘ef4vj12) v:=
 loop_cut (by kernel_rfl) (by kernel_rfl) ef4vj7 ef4vl1 _ f4v_20_i (fun k=>f4v_19 F k (Rj12∘ef4vj12))
  (by rintro⟨t0,t1,x3,t47,t48,t49,e1⟩;kernel_rfl) (fun Rl1=>f4v_19_eq F Rl1 Rj12)
def f4v_21(F:Nat)(kj12:Ty75→Rz):Ty72→Rz:=f4v_20 F kj12
theorem f4v_21_eq(F:Nat)(Rj12:St→Rz):∀ v,XAf4v F (bp Tryd.f4 125) (ef4vj7 v) (kSeq (kc V4v Rj12 sp83) Kf54)=f4v_21 F (Rj12∘ef4vj12) v:=fun v=>
 (block_in  (by kernel_rfl) _ _).trans (f4v_20_eq F Rj12 v)
def f4v_22(F:Nat)(kj12:Ty75→Rz):Ty71→Rz:=fun v=>f4v_9 F (f4v_21 F kj12) kj12 v
theorem f4v_22_eq(F:Nat)(Rj12:St→Rz):∀ v,XAf4v F (bp Tryd.f4 62) (ef4vj6 v) (kSeq (kc V4v Rj12 sp83) Kf54)=f4v_22 F (Rj12∘ef4vj12) v:=
 seq_cut (by kernel_rfl) (by kernel_rfl) ef4vj6 ef4vj7 _ (fun k=>f4v_9 F k (Rj12∘ef4vj12)) (f4v_21 F (Rj12∘ef4vj12))
  (fun Rj7=>f4v_9_eq F Rj7 Rj12) (f4v_21_eq F Rj12)
def f4v_23(F:Nat)(kj13:Ty76→Rz):Ty75→Rz:=fun (t1,x2,e1)=>(cond ((Dk.fine e1)&&(!e1.off)) (kj13 (t1,x2,0,e1,(Jr.openS (Jr.secsD e1)))) none)
theorem f4v_23_eq(F:Nat)(Rj13:St→Rz):∀ v,XAf4v F (bp Tryd.f4 126) (ef4vj12 v) (kSeq (kc V4v Rj13 sp84) Kf54)=f4v_23 F (Rj13∘ef4vj13) v:=by
 rintro⟨t1,x2,e1⟩;kernel_rfl
def f4v_24(F:Nat)(kj14:Ty77→Rz)(kj15:Ty78→Rz):Ty76→Rz:=fun (t1,x2,t12,e1,e2)=>(cond (t12 != (0:Int)) (kj14 (t1,x2,true,e1,e2)) (kj14 (t1,x2,false,e1,e2)))
theorem f4v_24_eq(F:Nat)(Rj14 Rj15:St→Rz):∀ v,XAf4v F (bp Tryd.f4 508) (ef4vj13 v) (kSeq (kc V4v Rj14 sp85) (kSeq (kc V4v Rj15 sp86) Kf54))=f4v_24 F (Rj14∘ef4vj14) (Rj15∘ef4vj15) v:=by
 rintro⟨t1,x2,t12,e1,e2⟩;kernel_rfl
def f4v_25(F:Nat)(kj15:Ty78→Rz):Ty77→Rz:=fun (t1,x2,t70,e1,e2)=>(cond t70 (some ((.bool false),[])) (kj15 (t1,x2,e1,e2)))
theorem f4v_25_eq(F:Nat)(Rj15:St→Rz):∀ v,XAf4v F (bp Tryd.f4 509) (ef4vj14 v) (kSeq (kc V4v Rj15 sp86) Kf54)=f4v_25 F (Rj15∘ef4vj15) v:=by
 rintro⟨t1,x2,t70,e1,e2⟩;kernel_rfl
def f4v_26(F:Nat)(kj15:Ty78→Rz):Ty76→Rz:=fun v=>f4v_24 F (f4v_25 F kj15) kj15 v
theorem f4v_26_eq(F:Nat)(Rj15:St→Rz):∀ v,XAf4v F (bp Tryd.f4 254) (ef4vj13 v) (kSeq (kc V4v Rj15 sp86) Kf54)=f4v_26 F (Rj15∘ef4vj15) v:=
 seq_cut (by kernel_rfl) (by kernel_rfl) ef4vj13 ef4vj14 _ (fun k=>f4v_24 F k (Rj15∘ef4vj15)) (f4v_25 F (Rj15∘ef4vj15))
  (fun Rj14=>f4v_24_eq F Rj14 Rj15) (f4v_25_eq F Rj15)
def f4v_27(F:Nat)(kj16:Ty78→Rz):Ty78→Rz:=fun (t1,x2,e1,e2)=>(kj16 (t1,x2,e1,e2))
theorem f4v_27_eq(F:Nat)(Rj16:St→Rz):∀ v,XAf4v F (bp Tryd.f4 510) (ef4vj15 v) (kSeq (kc V4v Rj16 sp87) Kf54)=f4v_27 F (Rj16∘ef4vj16) v:=by
 rintro⟨t1,x2,e1,e2⟩;kernel_rfl
def f4v_28(F:Nat)(kj17:Ty78→Rz):Ty78→Rz:=fun (t1,x2,e1,e2)=>(kj17 (t1,x2,e1,e2))
theorem f4v_28_eq(F:Nat)(Rj17:St→Rz):∀ v,XAf4v F (bp Tryd.f4 1022) (ef4vj16 v) (kSeq (kc V4v Rj17 sp88) Kf54)=f4v_28 F (Rj17∘ef4vj17) v:=by
 rintro⟨t1,x2,e1,e2⟩;kernel_rfl
def f4v_29(F:Nat)(kj18:Ty76→Rz):Ty78→Rz:=fun (t1,x2,e1,e2)=>(kj18 (t1,x2,(0:Int),e1,e2))
theorem f4v_29_eq(F:Nat)(Rj18:St→Rz):∀ v,XAf4v F (bp Tryd.f4 2046) (ef4vj17 v) (kSeq (kc V4v Rj18 sp89) Kf54)=f4v_29 F (Rj18∘ef4vj18) v:=by
 rintro⟨t1,x2,e1,e2⟩;kernel_rfl
def f4v_30(F:Nat)(kj19:Ty79→Rz)(kj29:Ty87→Rz):Ty76→Rz:=fun (t1,x2,t15,e1,e2)=>(kj19 (t15,t1,x2,(↑x2:Int),(0:Int),e1,e2))
theorem f4v_30_eq(F:Nat)(Rj19 Rj29:St→Rz):∀ v,XAf4v F (bp Tryd.f4 8188) (ef4vj18 v) (kSeq (kc V4v Rj19 sp90) (kSeq (kc V4v Rj29 sp98) Kf54))=f4v_30 F (Rj19∘ef4vj19) (Rj29∘ef4vj29) v:=by
 rintro⟨t1,x2,t15,e1,e2⟩;kernel_rfl
def f4v_31(F:Nat)(kj20:Ty81→Rz)(kl2:Ty80→Rz)(kj29:Ty87→Rz):Ty80→Rz:=fun (t15,t71,x3,t72,t73,x12,x13,e1,e2)=>(kj20 (t15,t71,x3,t72,t73,(decide (t73 < t72)),x12,x13,e1,e2))
theorem f4v_31_eq(F:Nat)(Rj20 Rl2 Rj29:St→Rz):∀ v,XAf4v F (bp Tryd.f4 65512) (ef4vl2 v) (kSeq (kc V4v Rj20 sp91) (kSeq (kc V4v Rl2 sp76) (kBlock 2 (kSeq (kc V4v Rj29 sp98) Kf54))))=f4v_31 F (Rj20∘ef4vj20) (Rl2∘ef4vl2) (Rj29∘ef4vj29) v:=by
 rintro⟨t15,t71,x3,t72,t73,x12,x13,e1,e2⟩;kernel_rfl
def f4v_32(F:Nat)(kj21 kl2:Ty80→Rz)(kj29:Ty87→Rz):Ty81→Rz:=fun (t15,t71,x3,t72,t73,t74,x13,x14,e1,e2)=>(cond t74 (kj21 (t15,t71,x3,t72,t73,x13,x14,e1,e2)) (kj29 (x13,x14,e1,e2)))
theorem f4v_32_eq(F:Nat)(Rj21 Rl2 Rj29:St→Rz):∀ v,XAf4v F (bp Tryd.f4 131026) (ef4vj20 v) (kSeq (kc V4v Rj21 sp90) (kSeq (kc V4v Rl2 sp76) (kBlock 2 (kSeq (kc V4v Rj29 sp98) Kf54))))=f4v_32 F (Rj21∘ef4vj21) (Rl2∘ef4vl2) (Rj29∘ef4vj29) v:=by
 rintro⟨t15,t71,x3,t72,t73,t74,x13,x14,e1,e2⟩;kernel_rfl
def f4v_33(F:Nat)(kj22:Ty82→Rz)(kj28 kl2:Ty80→Rz)(kj29:Ty87→Rz):Ty80→Rz:=fun (t15,t71,x3,t72,t73,x12,x13,e1,e2)=>(cond ((decide (0≤t73))&&(decide (t73 < (↑x3:Int)))) (kj22 (t15,t71,x3,t72,t73,x12,x13,(((t71.getD (Int.toNat t73) []).getD 0 []).getD 0 0),(((t71.getD (Int.toNat t73) []).getD 1 []).getD 0 0),(((t71.getD (Int.toNat t73) []).getD 2 []).getD 0 0),(((t71.getD (Int.toNat t73) []).getD 3 []).getD 0 0),(((t71.getD (Int.toNat t73) []).getD 4 []).getD 0 0),((t71.getD (Int.toNat t73) []).getD 5 []),e1,e2)) none)
theorem f4v_33_eq(F:Nat)(Rj22 Rj28:St→Rz)(Rl2 Rj29:St→Rz):∀ v,XAf4v F (bp Tryd.f4 1048216) (ef4vj21 v) (kSeq (kc V4v Rj22 sp92) (kBlock 3 (kSeq (kc V4v Rj28 sp76) (kSeq (kc V4v Rl2 sp76) (kBlock 2 (kSeq (kc V4v Rj29 sp98) Kf54))))))=f4v_33 F (Rj22∘ef4vj22) (Rj28∘ef4vj28) (Rl2∘ef4vl2) (Rj29∘ef4vj29) v:=by
 rintro⟨t15,t71,x3,t72,t73,x12,x13,e1,e2⟩;kernel_rfl
def f4v_34(F:Nat)(kj23:Ty83→Rz)(kj28 kl2:Ty80→Rz)(kj29:Ty87→Rz):Ty82→Rz:=fun (t15,t71,x3,t72,t73,x12,x13,x14,x15,x16,x17,x18,x19,e1,e2)=>(cond ((Dk.fine e1)&&(Jr.okJ e1 e2)) (kj23 (t15,(Jr.append Jr.DV e1 e2 (Jr.text x17 x18)).2.2.1,(Jr.append Jr.DV e1 e2 (Jr.text x17 x18)).2.2.2,t71,x3,t72,t73,x12,x13,x14,x15,x16,x17,x18,x19,(Jr.append Jr.DV e1 e2 (Jr.text x17 x18)).1,(Jr.append Jr.DV e1 e2 (Jr.text x17 x18)).2.1)) none)
theorem f4v_34_eq(F:Nat)(Rj23 Rj28:St→Rz)(Rl2 Rj29:St→Rz):∀ v,XAf4v F (bp Tryd.f4 2096434) (ef4vj22 v) (kSeq (kc V4v Rj23 sp93) (kBlock 3 (kSeq (kc V4v Rj28 sp76) (kSeq (kc V4v Rl2 sp76) (kBlock 2 (kSeq (kc V4v Rj29 sp98) Kf54))))))=f4v_34 F (Rj23∘ef4vj23) (Rj28∘ef4vj28) (Rl2∘ef4vl2) (Rj29∘ef4vj29) v:=by
 rintro⟨t15,t71,x3,t72,t73,x12,x13,x14,x15,x16,x17,x18,x19,e1,e2⟩;kernel_rfl
def f4v_35(F:Nat)(kj24:Ty84→Rz)(kj28 kl2:Ty80→Rz)(kj29:Ty87→Rz):Ty83→Rz:=fun (t15,t18,t19,t71,x5,t72,t73,x14,x15,x16,x17,x18,x19,x20,x21,e1,e2)=>(kj24 (t15,t18,t71,x5,t72,t73,t19,x14,x15,x16,x17,x18,x19,x20,x21,e1,e2))
theorem f4v_35_eq(F:Nat)(Rj24 Rj28:St→Rz)(Rl2 Rj29:St→Rz):∀ v,XAf4v F (bp Tryd.f4 4192870) (ef4vj23 v) (kSeq (kc V4v Rj24 sp94) (kBlock 3 (kSeq (kc V4v Rj28 sp76) (kSeq (kc V4v Rl2 sp76) (kBlock 2 (kSeq (kc V4v Rj29 sp98) Kf54))))))=f4v_35 F (Rj24∘ef4vj24) (Rj28∘ef4vj28) (Rl2∘ef4vl2) (Rj29∘ef4vj29) v:=by
 rintro⟨t15,t18,t19,t71,x5,t72,t73,x14,x15,x16,x17,x18,x19,x20,x21,e1,e2⟩;kernel_rfl
def f4v_36(F:Nat)(kj25:Ty85→Rz)(kj28 kl2:Ty80→Rz)(kj29:Ty87→Rz):Ty84→Rz:=fun (t15,t18,t71,x4,t72,t73,t84,x14,x15,x16,x17,x18,x19,x20,x21,e1,e2)=>(kj25 (t15,t18,t71,x4,t72,t73,t84,(t84==(0:Int)),x14,x15,x16,x17,x18,x19,x20,x21,e1,e2))
theorem f4v_36_eq(F:Nat)(Rj25 Rj28:St→Rz)(Rl2 Rj29:St→Rz):∀ v,XAf4v F (bp Tryd.f4 16771484) (ef4vj24 v) (kSeq (kc V4v Rj25 sp95) (kBlock 4 (kBlock 3 (kSeq (kc V4v Rj28 sp76) (kSeq (kc V4v Rl2 sp76) (kBlock 2 (kSeq (kc V4v Rj29 sp98) Kf54)))))))=f4v_36 F (Rj25∘ef4vj25) (Rj28∘ef4vj28) (Rl2∘ef4vl2) (Rj29∘ef4vj29) v:=by
 rintro⟨t15,t18,t71,x4,t72,t73,t84,x14,x15,x16,x17,x18,x19,x20,x21,e1,e2⟩;kernel_rfl
def f4v_37(F:Nat)(kj26:Ty86→Rz)(kj27:Ty82→Rz)(kj28 kl2:Ty80→Rz)(kj29:Ty87→Rz):Ty85→Rz:=fun (t15,t18,t71,x4,t72,t73,t84,t85,x15,x16,x17,x18,x19,x20,x21,x22,e1,e2)=>(kj26 (t18,t71,x4,t72,t73,(decide (t18≤t15)),x15,x16,x17,x18,x19,x20,x21,x22,e1,e2))
theorem f4v_37_eq(F:Nat)(Rj26 Rj27:St→Rz)(Rj28 Rl2 Rj29:St→Rz):∀ v,XAf4v F (bp Tryd.f4 134171880) (ef4vj25 v) (kSeq (kc V4v Rj26 sp96) (kSeq (kc V4v Rj27 sp97) (kBlock 4 (kBlock 3 (kSeq (kc V4v Rj28 sp76) (kSeq (kc V4v Rl2 sp76) (kBlock 2 (kSeq (kc V4v Rj29 sp98) Kf54))))))))=f4v_37 F (Rj26∘ef4vj26) (Rj27∘ef4vj27) (Rj28∘ef4vj28) (Rl2∘ef4vl2) (Rj29∘ef4vj29) v:=by
 rintro⟨t15,t18,t71,x4,t72,t73,t84,t85,x15,x16,x17,x18,x19,x20,x21,x22,e1,e2⟩;kernel_rfl
def f4v_38(F:Nat)(kj27:Ty82→Rz)(kj28 kl2:Ty80→Rz)(kj29:Ty87→Rz):Ty86→Rz:=fun (t18,t71,x3,t72,t73,t89,x13,x14,x15,x16,x17,x18,x19,x20,e1,e2)=>(cond t89 (some ((.bool false),[])) (kj27 (t18,t71,x3,t72,t73,x13,x14,x15,x16,x17,x18,x19,x20,e1,e2)))
theorem f4v_38_eq(F:Nat)(Rj27 Rj28:St→Rz)(Rl2 Rj29:St→Rz):∀ v,XAf4v F (bp Tryd.f4 134171881) (ef4vj26 v) (kSeq (kc V4v Rj27 sp97) (kBlock 4 (kBlock 3 (kSeq (kc V4v Rj28 sp76) (kSeq (kc V4v Rl2 sp76) (kBlock 2 (kSeq (kc V4v Rj29 sp98) Kf54)))))))=f4v_38 F (Rj27∘ef4vj27) (Rj28∘ef4vj28) (Rl2∘ef4vl2) (Rj29∘ef4vj29) v:=by
 rintro⟨t18,t71,x3,t72,t73,t89,x13,x14,x15,x16,x17,x18,x19,x20,e1,e2⟩;kernel_rfl
def f4v_39(F:Nat)(kj27:Ty82→Rz)(kj28 kl2:Ty80→Rz)(kj29:Ty87→Rz):Ty85→Rz:=fun v=>f4v_37 F (f4v_38 F kj27 kj28 kl2 kj29) kj27 kj28 kl2 kj29 v
theorem f4v_39_eq(F:Nat)(Rj27 Rj28:St→Rz)(Rl2 Rj29:St→Rz):∀ v,XAf4v F (bp Tryd.f4 67085940) (ef4vj25 v) (kSeq (kc V4v Rj27 sp97) (kBlock 4 (kBlock 3 (kSeq (kc V4v Rj28 sp76) (kSeq (kc V4v Rl2 sp76) (kBlock 2 (kSeq (kc V4v Rj29 sp98) Kf54)))))))=f4v_39 F (Rj27∘ef4vj27) (Rj28∘ef4vj28) (Rl2∘ef4vl2) (Rj29∘ef4vj29) v:=
 seq_cut (by kernel_rfl) (by kernel_rfl) ef4vj25 ef4vj26 _ (fun k=>f4v_37 F k (Rj27∘ef4vj27) (Rj28∘ef4vj28) (Rl2∘ef4vl2) (Rj29∘ef4vj29)) (f4v_38 F (Rj27∘ef4vj27) (Rj28∘ef4vj28) (Rl2∘ef4vl2) (Rj29∘ef4vj29))
  (fun Rj26=>f4v_37_eq F Rj26 Rj27 Rj28 Rl2 Rj29) (f4v_38_eq F Rj27 Rj28 Rl2 Rj29)
def f4v_40(F:Nat)(kj28 kl2:Ty80→Rz)(kj29:Ty87→Rz):Ty82→Rz:=fun (t18,t71,x3,t72,t73,x12,x13,x14,x15,x16,x17,x18,x19,e1,e2)=>(cond (decide ((x12.length+1) < 1073741824)) (cond (decide ((x13.length+1) < 1073741824)) (kj28 (t18,t71,x3,t72,t73,(x12++[t18]),(x13++[(Jr.text x17 x18)]),e1,e2)) none) none)
theorem f4v_40_eq(F:Nat)(Rj28 Rl2 Rj29:St→Rz):∀ v,XAf4v F (bp Tryd.f4 67085941) (ef4vj27 v) (kBlock 4 (kBlock 3 (kSeq (kc V4v Rj28 sp76) (kSeq (kc V4v Rl2 sp76) (kBlock 2 (kSeq (kc V4v Rj29 sp98) Kf54))))))=f4v_40 F (Rj28∘ef4vj28) (Rl2∘ef4vl2) (Rj29∘ef4vj29) v:=by
 rintro⟨t18,t71,x3,t72,t73,x12,x13,x14,x15,x16,x17,x18,x19,e1,e2⟩;kernel_rfl
def f4v_41(F:Nat)(kj28 kl2:Ty80→Rz)(kj29:Ty87→Rz):Ty85→Rz:=fun v=>f4v_39 F (f4v_40 F kj28 kl2 kj29) kj28 kl2 kj29 v
theorem f4v_41_eq(F:Nat)(Rj28 Rl2 Rj29:St→Rz):∀ v,XAf4v F (bp Tryd.f4 33542970) (ef4vj25 v) (kBlock 4 (kBlock 3 (kSeq (kc V4v Rj28 sp76) (kSeq (kc V4v Rl2 sp76) (kBlock 2 (kSeq (kc V4v Rj29 sp98) Kf54))))))=f4v_41 F (Rj28∘ef4vj28) (Rl2∘ef4vl2) (Rj29∘ef4vj29) v:=
 seq_cut (by kernel_rfl) (by kernel_rfl) ef4vj25 ef4vj27 _ (fun k=>f4v_39 F k (Rj28∘ef4vj28) (Rl2∘ef4vl2) (Rj29∘ef4vj29)) (f4v_40 F (Rj28∘ef4vj28) (Rl2∘ef4vl2) (Rj29∘ef4vj29))
  (fun Rj27=>f4v_39_eq F Rj27 Rj28 Rl2 Rj29) (f4v_40_eq F Rj28 Rl2 Rj29)
def f4v_42(F:Nat)(kj28 kl2:Ty80→Rz)(kj29:Ty87→Rz):Ty85→Rz:=fun (t15,t18,t71,x4,t72,t73,t84,t85,x15,x16,x17,x18,x19,x20,x21,x22,e1,e2)=>(cond (t84==(23:Int)) (cond (t84==(23:Int)) (kj28 (t15,t71,x4,t72,t73,x15,x16,e1,e2)) (some ((.bool false),[]))) (cond (t84==(21:Int)) (cond (t84==(21:Int)) (kj28 (t15,t71,x4,t72,t73,x15,x16,e1,e2)) (some ((.bool false),[]))) (cond (t84==(4:Int)) (kj28 (t15,t71,x4,t72,t73,x15,x16,e1,e2)) (some ((.bool false),[])))))
theorem f4v_42_eq(F:Nat)(Rj28 Rl2 Rj29:St→Rz):∀ v,XAf4v F (bp Tryd.f4 33542971) (ef4vj25 v) (kBlock 4 (kBlock 3 (kSeq (kc V4v Rj28 sp76) (kSeq (kc V4v Rl2 sp76) (kBlock 2 (kSeq (kc V4v Rj29 sp98) Kf54))))))=f4v_42 F (Rj28∘ef4vj28) (Rl2∘ef4vl2) (Rj29∘ef4vj29) v:=by
 rintro⟨t15,t18,t71,x4,t72,t73,t84,t85,x15,x16,x17,x18,x19,x20,x21,x22,e1,e2⟩;kernel_rfl
def f4v_43(F:Nat)(kj28 kl2:Ty80→Rz)(kj29:Ty87→Rz):Ty85→Rz:=fun v=>cond ((fun (t15,t18,t71,x4,t72,t73,t84,t85,x15,x16,x17,x18,x19,x20,x21,x22,e1,e2)=>t85) v) (f4v_41 F kj28 kl2 kj29 v) (f4v_42 F kj28 kl2 kj29 v)
theorem f4v_43_eq(F:Nat)(Rj28 Rl2 Rj29:St→Rz):∀ v,XAf4v F (bp Tryd.f4 16771485) (ef4vj25 v) (kBlock 4 (kBlock 3 (kSeq (kc V4v Rj28 sp76) (kSeq (kc V4v Rl2 sp76) (kBlock 2 (kSeq (kc V4v Rj29 sp98) Kf54))))))=f4v_43 F (Rj28∘ef4vj28) (Rl2∘ef4vl2) (Rj29∘ef4vj29) v:=
 cond_in (o:=.tmp 85) (by kernel_rfl) ef4vj25 _ (fun (t15,t18,t71,x4,t72,t73,t84,t85,x15,x16,x17,x18,x19,x20,x21,x22,e1,e2)=>t85) (by rintro⟨t15,t18,t71,x4,t72,t73,t84,t85,x15,x16,x17,x18,x19,x20,x21,x22,e1,e2⟩;kernel_rfl) _ _ (f4v_41_eq F Rj28 Rl2 Rj29) (f4v_42_eq F Rj28 Rl2 Rj29)
def f4v_44(F:Nat)(kj28 kl2:Ty80→Rz)(kj29:Ty87→Rz):Ty84→Rz:=fun v=>f4v_36 F (f4v_43 F kj28 kl2 kj29) kj28 kl2 kj29 v
theorem f4v_44_eq(F:Nat)(Rj28 Rl2 Rj29:St→Rz):∀ v,XAf4v F (bp Tryd.f4 8385742) (ef4vj24 v) (kBlock 4 (kBlock 3 (kSeq (kc V4v Rj28 sp76) (kSeq (kc V4v Rl2 sp76) (kBlock 2 (kSeq (kc V4v Rj29 sp98) Kf54))))))=f4v_44 F (Rj28∘ef4vj28) (Rl2∘ef4vl2) (Rj29∘ef4vj29) v:=
 seq_cut (by kernel_rfl) (by kernel_rfl) ef4vj24 ef4vj25 _ (fun k=>f4v_36 F k (Rj28∘ef4vj28) (Rl2∘ef4vl2) (Rj29∘ef4vj29)) (f4v_43 F (Rj28∘ef4vj28) (Rl2∘ef4vl2) (Rj29∘ef4vj29))
  (fun Rj25=>f4v_36_eq F Rj25 Rj28 Rl2 Rj29) (f4v_43_eq F Rj28 Rl2 Rj29)
def f4v_45(F:Nat)(kj28 kl2:Ty80→Rz)(kj29:Ty87→Rz):Ty84→Rz:=f4v_44 F kj28 kl2 kj29
theorem f4v_45_eq(F:Nat)(Rj28 Rl2 Rj29:St→Rz):∀ v,XAf4v F (bp Tryd.f4 4192871) (ef4vj24 v) (kBlock 3 (kSeq (kc V4v Rj28 sp76) (kSeq (kc V4v Rl2 sp76) (kBlock 2 (kSeq (kc V4v Rj29 sp98) Kf54)))))=f4v_45 F (Rj28∘ef4vj28) (Rl2∘ef4vl2) (Rj29∘ef4vj29) v:=fun v=>
 (block_in  (by kernel_rfl) _ _).trans (f4v_44_eq F Rj28 Rl2 Rj29 v)
def f4v_46(F:Nat)(kj28 kl2:Ty80→Rz)(kj29:Ty87→Rz):Ty83→Rz:=fun v=>f4v_35 F (f4v_45 F kj28 kl2 kj29) kj28 kl2 kj29 v
theorem f4v_46_eq(F:Nat)(Rj28 Rl2 Rj29:St→Rz):∀ v,XAf4v F (bp Tryd.f4 2096435) (ef4vj23 v) (kBlock 3 (kSeq (kc V4v Rj28 sp76) (kSeq (kc V4v Rl2 sp76) (kBlock 2 (kSeq (kc V4v Rj29 sp98) Kf54)))))=f4v_46 F (Rj28∘ef4vj28) (Rl2∘ef4vl2) (Rj29∘ef4vj29) v:=
 seq_cut (by kernel_rfl) (by kernel_rfl) ef4vj23 ef4vj24 _ (fun k=>f4v_35 F k (Rj28∘ef4vj28) (Rl2∘ef4vl2) (Rj29∘ef4vj29)) (f4v_45 F (Rj28∘ef4vj28) (Rl2∘ef4vl2) (Rj29∘ef4vj29))
  (fun Rj24=>f4v_35_eq F Rj24 Rj28 Rl2 Rj29) (f4v_45_eq F Rj28 Rl2 Rj29)
def f4v_47(F:Nat)(kj28 kl2:Ty80→Rz)(kj29:Ty87→Rz):Ty82→Rz:=fun v=>f4v_34 F (f4v_46 F kj28 kl2 kj29) kj28 kl2 kj29 v
theorem f4v_47_eq(F:Nat)(Rj28 Rl2 Rj29:St→Rz):∀ v,XAf4v F (bp Tryd.f4 1048217) (ef4vj22 v) (kBlock 3 (kSeq (kc V4v Rj28 sp76) (kSeq (kc V4v Rl2 sp76) (kBlock 2 (kSeq (kc V4v Rj29 sp98) Kf54)))))=f4v_47 F (Rj28∘ef4vj28) (Rl2∘ef4vl2) (Rj29∘ef4vj29) v:=
 seq_cut (by kernel_rfl) (by kernel_rfl) ef4vj22 ef4vj23 _ (fun k=>f4v_34 F k (Rj28∘ef4vj28) (Rl2∘ef4vl2) (Rj29∘ef4vj29)) (f4v_46 F (Rj28∘ef4vj28) (Rl2∘ef4vl2) (Rj29∘ef4vj29))
  (fun Rj23=>f4v_34_eq F Rj23 Rj28 Rl2 Rj29) (f4v_46_eq F Rj28 Rl2 Rj29)
def f4v_48(F:Nat)(kj28 kl2:Ty80→Rz)(kj29:Ty87→Rz):Ty80→Rz:=fun v=>f4v_33 F (f4v_47 F kj28 kl2 kj29) kj28 kl2 kj29 v
theorem f4v_48_eq(F:Nat)(Rj28 Rl2 Rj29:St→Rz):∀ v,XAf4v F (bp Tryd.f4 524108) (ef4vj21 v) (kBlock 3 (kSeq (kc V4v Rj28 sp76) (kSeq (kc V4v Rl2 sp76) (kBlock 2 (kSeq (kc V4v Rj29 sp98) Kf54)))))=f4v_48 F (Rj28∘ef4vj28) (Rl2∘ef4vl2) (Rj29∘ef4vj29) v:=
 seq_cut (by kernel_rfl) (by kernel_rfl) ef4vj21 ef4vj22 _ (fun k=>f4v_33 F k (Rj28∘ef4vj28) (Rl2∘ef4vl2) (Rj29∘ef4vj29)) (f4v_47 F (Rj28∘ef4vj28) (Rl2∘ef4vl2) (Rj29∘ef4vj29))
  (fun Rj22=>f4v_33_eq F Rj22 Rj28 Rl2 Rj29) (f4v_47_eq F Rj28 Rl2 Rj29)
def f4v_49(F:Nat)(kj28 kl2:Ty80→Rz)(kj29:Ty87→Rz):Ty80→Rz:=f4v_48 F kj28 kl2 kj29
theorem f4v_49_eq(F:Nat)(Rj28 Rl2 Rj29:St→Rz):∀ v,XAf4v F (bp Tryd.f4 262054) (ef4vj21 v) (kSeq (kc V4v Rj28 sp76) (kSeq (kc V4v Rl2 sp76) (kBlock 2 (kSeq (kc V4v Rj29 sp98) Kf54))))=f4v_49 F (Rj28∘ef4vj28) (Rl2∘ef4vl2) (Rj29∘ef4vj29) v:=fun v=>
 (block_in  (by kernel_rfl) _ _).trans (f4v_48_eq F Rj28 Rl2 Rj29 v)
def f4v_50(F:Nat)(kl2:Ty80→Rz)(kj29:Ty87→Rz):Ty80→Rz:=fun (t15,t71,x3,t72,t73,x12,x13,e1,e2)=>(kl2 (t15,t71,x3,t72,(IntKind.i64.wrap (t73+(1:Int))),x12,x13,e1,e2))
theorem f4v_50_eq(F:Nat)(Rl2 Rj29:St→Rz):∀ v,XAf4v F (bp Tryd.f4 262055) (ef4vj28 v) (kSeq (kc V4v Rl2 sp76) (kBlock 2 (kSeq (kc V4v Rj29 sp98) Kf54)))=f4v_50 F (Rl2∘ef4vl2) (Rj29∘ef4vj29) v:=by
 rintro⟨t15,t71,x3,t72,t73,x12,x13,e1,e2⟩;kernel_rfl
def f4v_51(F:Nat)(kl2:Ty80→Rz)(kj29:Ty87→Rz):Ty80→Rz:=fun v=>f4v_49 F (f4v_50 F kl2 kj29) kl2 kj29 v
theorem f4v_51_eq(F:Nat)(Rl2 Rj29:St→Rz):∀ v,XAf4v F (bp Tryd.f4 131027) (ef4vj21 v) (kSeq (kc V4v Rl2 sp76) (kBlock 2 (kSeq (kc V4v Rj29 sp98) Kf54)))=f4v_51 F (Rl2∘ef4vl2) (Rj29∘ef4vj29) v:=
 seq_cut (by kernel_rfl) (by kernel_rfl) ef4vj21 ef4vj28 _ (fun k=>f4v_49 F k (Rl2∘ef4vl2) (Rj29∘ef4vj29)) (f4v_50 F (Rl2∘ef4vl2) (Rj29∘ef4vj29))
  (fun Rj28=>f4v_49_eq F Rj28 Rl2 Rj29) (f4v_50_eq F Rl2 Rj29)
def f4v_52(F:Nat)(kl2:Ty80→Rz)(kj29:Ty87→Rz):Ty81→Rz:=fun v=>f4v_32 F (f4v_51 F kl2 kj29) kl2 kj29 v
theorem f4v_52_eq(F:Nat)(Rl2 Rj29:St→Rz):∀ v,XAf4v F (bp Tryd.f4 65513) (ef4vj20 v) (kSeq (kc V4v Rl2 sp76) (kBlock 2 (kSeq (kc V4v Rj29 sp98) Kf54)))=f4v_52 F (Rl2∘ef4vl2) (Rj29∘ef4vj29) v:=
 seq_cut (by kernel_rfl) (by kernel_rfl) ef4vj20 ef4vj21 _ (fun k=>f4v_32 F k (Rl2∘ef4vl2) (Rj29∘ef4vj29)) (f4v_51 F (Rl2∘ef4vl2) (Rj29∘ef4vj29))
  (fun Rj21=>f4v_32_eq F Rj21 Rl2 Rj29) (f4v_51_eq F Rl2 Rj29)
def f4v_53(F:Nat)(kl2:Ty80→Rz)(kj29:Ty87→Rz):Ty80→Rz:=fun v=>f4v_31 F (f4v_52 F kl2 kj29) kl2 kj29 v
theorem f4v_53_eq(F:Nat)(Rl2 Rj29:St→Rz):∀ v,XAf4v F (bp Tryd.f4 32756) (ef4vl2 v) (kSeq (kc V4v Rl2 sp76) (kBlock 2 (kSeq (kc V4v Rj29 sp98) Kf54)))=f4v_53 F (Rl2∘ef4vl2) (Rj29∘ef4vj29) v:=
 seq_cut (by kernel_rfl) (by kernel_rfl) ef4vl2 ef4vj20 _ (fun k=>f4v_31 F k (Rl2∘ef4vl2) (Rj29∘ef4vj29)) (f4v_52 F (Rl2∘ef4vl2) (Rj29∘ef4vj29))
  (fun Rj20=>f4v_31_eq F Rj20 Rl2 Rj29) (f4v_52_eq F Rl2 Rj29)
def f4v_54_i:Ty79→Int×(List (List Li))×Nat×Int×Int×Li×(List Li)×(Dk.D)×(Jr.J):=fun (t15,t71,x3,t72,t73,e1,e2)=>(t15,t71,x3,t72,t73,[],[],e1,e2)
def f4v_54(F:Nat)(kj29:Ty87→Rz):Ty79→Rz:=fun v=>loopN (fun k=>f4v_53 F k kj29) F (f4v_54_i v)
theorem f4v_54_eq(F:Nat)(Rj29:St→Rz):∀ v,XAf4v F (bp Tryd.f4 16378) (ef4vj19 v) (kBlock 2 (kSeq (kc V4v Rj29 sp98) Kf54))=f4v_54 F (Rj29∘ef4vj29) v:=
 loop_cut (by kernel_rfl) (by kernel_rfl) ef4vj19 ef4vl2 _ f4v_54_i (fun k=>f4v_53 F k (Rj29∘ef4vj29))
  (by rintro⟨t15,t71,x3,t72,t73,e1,e2⟩;kernel_rfl) (fun Rl2=>f4v_53_eq F Rl2 Rj29)
def f4v_55(F:Nat)(kj29:Ty87→Rz):Ty79→Rz:=f4v_54 F kj29
theorem f4v_55_eq(F:Nat)(Rj29:St→Rz):∀ v,XAf4v F (bp Tryd.f4 8189) (ef4vj19 v) (kSeq (kc V4v Rj29 sp98) Kf54)=f4v_55 F (Rj29∘ef4vj29) v:=fun v=>
 (block_in  (by kernel_rfl) _ _).trans (f4v_54_eq F Rj29 v)
def f4v_56(F:Nat)(kj29:Ty87→Rz):Ty76→Rz:=fun v=>f4v_30 F (f4v_55 F kj29) kj29 v
theorem f4v_56_eq(F:Nat)(Rj29:St→Rz):∀ v,XAf4v F (bp Tryd.f4 4094) (ef4vj18 v) (kSeq (kc V4v Rj29 sp98) Kf54)=f4v_56 F (Rj29∘ef4vj29) v:=
 seq_cut (by kernel_rfl) (by kernel_rfl) ef4vj18 ef4vj19 _ (fun k=>f4v_30 F k (Rj29∘ef4vj29)) (f4v_55 F (Rj29∘ef4vj29))
  (fun Rj19=>f4v_30_eq F Rj19 Rj29) (f4v_55_eq F Rj29)
def f4v_57(F:Nat)(kj30:Ty88→Rz):Ty87→Rz:=fun (x7,x8,e1,e2)=>(cond ((Dk.fine e1)&&(!e1.off)) (kj30 (0,x7,x8,e1,e2,(Jr.openS (Jr.secsD e1)))) none)
theorem f4v_57_eq(F:Nat)(Rj30:St→Rz):∀ v,XAf4v F (bp Tryd.f4 8190) (ef4vj29 v) (kSeq (kc V4v Rj30 sp99) Kf54)=f4v_57 F (Rj30∘ef4vj30) v:=by
 rintro⟨x7,x8,e1,e2⟩;kernel_rfl
def f4v_58(F:Nat):Ty88→Rz:=fun (t21,x8,x9,e1,e2,e3)=>(cond (t21==(0:Int)) (cond (decide (e2.nums.length < 1073741000)) (cond (decide (e2.nums.length < 1073741824)) (cond (e2.nums==x8) (cond (decide (e2.texts.length < 1073741000)) (cond (decide (e2.texts.length < 1073741824)) (cond (e2.texts==x9) (cond (decide (e3.nums.length < 1073741000)) (cond (decide (e3.nums.length < 1073741824)) (cond (e3.nums==x8) (cond (decide (e3.texts.length < 1073741000)) (cond (decide (e3.texts.length < 1073741824)) (some ((.bool (e3.texts==x9)),[])) none) none) (some ((.bool false),[]))) none) none) (some ((.bool false),[]))) none) none) (some ((.bool false),[]))) none) none) (some ((.bool false),[])))
theorem f4v_58_eq(F:Nat):∀ v,XAf4v F (bp Tryd.f4 8191) (ef4vj30 v) Kf54=f4v_58 F v:=by
 rintro⟨t21,x8,x9,e1,e2,e3⟩;kernel_rfl
def f4v_59(F:Nat):Ty87→Rz:=fun v=>f4v_57 F (f4v_58 F) v
theorem f4v_59_eq(F:Nat):∀ v,XAf4v F (bp Tryd.f4 4095) (ef4vj29 v) Kf54=f4v_59 F v:=
 seq_cut (by kernel_rfl) (by kernel_rfl) ef4vj29 ef4vj30 _ (fun k=>f4v_57 F k) (f4v_58 F)
  (fun Rj30=>f4v_57_eq F Rj30) (f4v_58_eq F)
def f4v_60(F:Nat):Ty76→Rz:=fun v=>f4v_56 F (f4v_59 F) v
theorem f4v_60_eq(F:Nat):∀ v,XAf4v F (bp Tryd.f4 2047) (ef4vj18 v) Kf54=f4v_60 F v:=
 seq_cut (by kernel_rfl) (by kernel_rfl) ef4vj18 ef4vj29 _ (fun k=>f4v_56 F k) (f4v_59 F)
  (fun Rj29=>f4v_56_eq F Rj29) (f4v_59_eq F)
def f4v_61(F:Nat):Ty78→Rz:=fun v=>f4v_29 F (f4v_60 F) v
theorem f4v_61_eq(F:Nat):∀ v,XAf4v F (bp Tryd.f4 1023) (ef4vj17 v) Kf54=f4v_61 F v:=
 seq_cut (by kernel_rfl) (by kernel_rfl) ef4vj17 ef4vj18 _ (fun k=>f4v_29 F k) (f4v_60 F)
  (fun Rj18=>f4v_29_eq F Rj18) (f4v_60_eq F)
def f4v_62(F:Nat):Ty78→Rz:=fun v=>f4v_28 F (f4v_61 F) v
theorem f4v_62_eq(F:Nat):∀ v,XAf4v F (bp Tryd.f4 511) (ef4vj16 v) Kf54=f4v_62 F v:=
 seq_cut (by kernel_rfl) (by kernel_rfl) ef4vj16 ef4vj17 _ (fun k=>f4v_28 F k) (f4v_61 F)
  (fun Rj17=>f4v_28_eq F Rj17) (f4v_61_eq F)
def f4v_63(F:Nat):Ty78→Rz:=fun v=>f4v_27 F (f4v_62 F) v
theorem f4v_63_eq(F:Nat):∀ v,XAf4v F (bp Tryd.f4 255) (ef4vj15 v) Kf54=f4v_63 F v:=
 seq_cut (by kernel_rfl) (by kernel_rfl) ef4vj15 ef4vj16 _ (fun k=>f4v_27 F k) (f4v_62 F)
  (fun Rj16=>f4v_27_eq F Rj16) (f4v_62_eq F)
def f4v_64(F:Nat):Ty76→Rz:=fun v=>f4v_26 F (f4v_63 F) v
theorem f4v_64_eq(F:Nat):∀ v,XAf4v F (bp Tryd.f4 127) (ef4vj13 v) Kf54=f4v_64 F v:=
 seq_cut (by kernel_rfl) (by kernel_rfl) ef4vj13 ef4vj15 _ (fun k=>f4v_26 F k) (f4v_63 F)
  (fun Rj15=>f4v_26_eq F Rj15) (f4v_63_eq F)
def f4v_65(F:Nat):Ty75→Rz:=fun v=>f4v_23 F (f4v_64 F) v
theorem f4v_65_eq(F:Nat):∀ v,XAf4v F (bp Tryd.f4 63) (ef4vj12 v) Kf54=f4v_65 F v:=
 seq_cut (by kernel_rfl) (by kernel_rfl) ef4vj12 ef4vj13 _ (fun k=>f4v_23 F k) (f4v_64 F)
  (fun Rj13=>f4v_23_eq F Rj13) (f4v_64_eq F)
def f4v_66(F:Nat):Ty71→Rz:=fun v=>f4v_22 F (f4v_65 F) v
theorem f4v_66_eq(F:Nat):∀ v,XAf4v F (bp Tryd.f4 31) (ef4vj6 v) Kf54=f4v_66 F v:=
 seq_cut (by kernel_rfl) (by kernel_rfl) ef4vj6 ef4vj12 _ (fun k=>f4v_22 F k) (f4v_65 F)
  (fun Rj12=>f4v_22_eq F Rj12) (f4v_65_eq F)
def f4v_67(F:Nat):Ty69→Rz:=fun v=>f4v_8 F (f4v_66 F) v
theorem f4v_67_eq(F:Nat):∀ v,XAf4v F (bp Tryd.f4 15) (ef4vj4 v) Kf54=f4v_67 F v:=
 seq_cut (by kernel_rfl) (by kernel_rfl) ef4vj4 ef4vj6 _ (fun k=>f4v_8 F k) (f4v_66 F)
  (fun Rj6=>f4v_8_eq F Rj6) (f4v_66_eq F)
def f4v_68(F:Nat):Ty67→Rz:=fun v=>f4v_5 F (f4v_67 F) v
theorem f4v_68_eq(F:Nat):∀ v,XAf4v F (bp Tryd.f4 7) (ef4vj3 v) Kf54=f4v_68 F v:=
 seq_cut (by kernel_rfl) (by kernel_rfl) ef4vj3 ef4vj4 _ (fun k=>f4v_5 F k) (f4v_67 F)
  (fun Rj4=>f4v_5_eq F Rj4) (f4v_67_eq F)
def f4v_69(F:Nat):Ty67→Rz:=fun v=>f4v_4 F (f4v_68 F) v
theorem f4v_69_eq(F:Nat):∀ v,XAf4v F (bp Tryd.f4 3) (ef4vj1 v) Kf54=f4v_69 F v:=
 seq_cut (by kernel_rfl) (by kernel_rfl) ef4vj1 ef4vj3 _ (fun k=>f4v_4 F k) (f4v_68 F)
  (fun Rj3=>f4v_4_eq F Rj3) (f4v_68_eq F)
def f4v_70(F:Nat):Ty67→Rz:=fun v=>f4v_1 F (f4v_69 F) v
theorem f4v_70_eq(F:Nat):∀ v,XAf4v F (sub (bodyOf Tryd.f4) []) (ef4v_a v) Kf54=f4v_70 F v:=
 seq_cut (by kernel_rfl) (by kernel_rfl) ef4v_a ef4vj1 _ (fun k=>f4v_1 F k) (f4v_69 F)
  (fun Rj1=>f4v_1_eq F Rj1) (f4v_69_eq F)
def f4v(F:Nat):Ty67→Rz:=f4v_70 F
theorem f4v_body(F:Nat)(a0:Int)(a1:List (List Li))(a1n:Nat)(a2:Li):abody V4v (Af4v F) Tryd.f4 [(.int .i64 a0),(.vs (.rT [.int .i64,.int .i64,.int .i64,.int .i64,.int .u8,.sl .i64] a1) a1n 6),(.vs (.rI .u8 a2) 0 1)] []=f4v F (a0,a1,a1n,a2):=
 (abody_in (by kernel_rfl) (by kernel_rfl)).trans (f4v_70_eq F (a0,a1,a1n,a2))
def r4v:CRun:=fun X H=>match X,H with
 | [(.int .i64 a0),(.vs (.rT [.int .i64,.int .i64,.int .i64,.int .i64,.int .u8,.sl .i64] a1) a1n 6),(.vs (.rI .u8 a2) 0 1)],[]=>some ((decide (0 < a0)),.bool true,[])
 | _,_=>none
theorem s4v(a0:Int)(a1:List (List Li))(a1n:Nat)(a2:Li)(hp:((decide (0 < a0)))=true)(h0:okV (.int .i64 a0))(h1:okV (.vs (.rT [.int .i64,.int .i64,.int .i64,.int .i64,.int .u8,.sl .i64] a1) a1n 6))(h2:okV (.vs (.rI .u8 a2) 0 1)):∃ F,f4v F (a0,a1,a1n,a2)=some ((.bool true),[]):=by
 have h0':0 < a0:=of_decide_eq_true hp
 have hz:(!(a0==0))=true:=by
  have:(a0==0)=false:=by simpa using (show a0≠0 by omega)
  rw [this];rfl
 refine⟨30,?_⟩
 simp only [f4v,f4v_70,f4v_1,f4v_69,f4v_4,f4v_2,f4v_3]
 by_cases g1:a0 > (200:Int)
 ·rw [cond_pos g1];rfl
 by_cases g2:(a1n:Int) > (20:Int)
 ·rw [cond_neg g1,cond_pos g2];rfl
 rw [cond_neg g1,cond_neg g2]
 by_cases g3:(a2.length:Int) > (8:Int)
 ·rw [decide_eq_true g3];rfl
 rw [decide_eq_false g3,cond_false]
 have hstep:∀ (k:Nat) (d:Dk.D) (r:Dk.R) (j:Jr.J) (gs:List Jr.Seg) (K:Ty80→Rz) (last:Int),k < a1n→Jr.Both d r j gs→gs.length≤k→d.n=a0.toNat→last < j.next →
   (∀ d' r' j' gs' last',Jr.Both d' r' j' gs'→gs'.length≤k+1→d'.n=a0.toNat→last' < j'.next→K (last',a1,a1n,(a1n:Int),((k+1:Nat):Int),j'.nums,j'.texts,d',j')=some ((.bool true),[])) →
   f4v_53 30 K (f4v_59 30) (last,a1,a1n,(a1n:Int),(k:Int),j.nums,j.texts,d,j)=some ((.bool true),[]):=by
  intro k d r j gs K last hk hB hg hn hl hK
  have hnl:j.nums.length≤gs.length:=by rw [hB.inv.found.1,List.length_map];exact List.length_filter_le _ _
  have htl:j.texts.length≤gs.length:=by rw [hB.inv.found.2,List.length_map];exact List.length_filter_le _ _
  simp only [f4v_53,f4v_31,f4v_52,f4v_32,f4v_51,f4v_49,f4v_48,f4v_33]
  rw [decide_eq_true (show(k:Int) < (a1n:Int) by omega),cond_true,Bool.and_true,cond_pos (by omega)]
  simp only [f4v_47,f4v_34]
  rw [hB.fine,hB.okJ (by omega) (by omega),Bool.and_self,cond_true]
  generalize et:Jr.text _ _=t
  obtain⟨r',gs',b',l',n',hA⟩:=hB.any (by omega) t
  generalize Jr.append Jr.DV d j t=A at *
  obtain⟨A1,A2,A3,A4⟩:=A
  simp only at b' l' n' hA ⊢
  simp only [f4v_46,f4v_35,f4v_45,f4v_44,f4v_36,f4v_43]
  have fin:∀ last',last' < A2.next→f4v_50 30 K (f4v_59 30) (last',a1,a1n,(a1n:Int),(k:Int),A2.nums,A2.texts,A1,A2)=some ((.bool true),[]):=fun last' hl'=>by
   simp only [f4v_50]
   rw [i64w (x:=(k:Int)+1) (by omega) (by omega)]
   exact hK A1 r' A2 gs' last' b' (by omega) (by omega) hl'
  rcases hA with ⟨rfl,rfl,q3,q4,q5⟩ | ⟨q1,q4,q5,q6⟩
  ·rw [show((0:Int)==0)=true from rfl]
   simp only [cond_true,f4v_41,f4v_39,f4v_37,f4v_38]
   rw [decide_eq_false (show ¬ (j.next≤last) by omega),cond_false]
   simp only [f4v_40]
   rw [cond_pos (by omega),cond_pos (by omega),et,← q4,← q5]
   exact fin _ (by omega)
  ·have:=fin last (by omega)
   rw [q4,q5] at this
   rcases q1 with rfl | rfl | rfl
   ·exact this
   ·exact this
   ·exact this
 have hend:∀ (d:Dk.D) (r:Dk.R),Jr.Fresh d r→d.n=a0.toNat→f4v_65 30 (a1,a1n,d)=some ((.bool true),[]):=by
  intro d r hF hn
  have hB:=hF.both
  have hnx:=hB.inv.next
  simp only [f4v_65,f4v_23]
  rw [hB.fine,hB.on,show(true && !false)=true from rfl,cond_true]
  obtain⟨J,eJ⟩:∃ J,J=Jr.openS (Jr.secsD d):=⟨_,rfl⟩
  have hJ:J.nums=[]∧J.texts=[]:=by
   have:=hB.inv.found
   rw [← eJ] at this
   exact this
  rw [← eJ] at hB hnx ⊢
  simp only [f4v_64,f4v_26,f4v_24,f4v_25,f4v_63,f4v_27,f4v_62,f4v_28,f4v_61,f4v_29,f4v_60,f4v_56,f4v_30,f4v_55,f4v_54,f4v_54_i]
  rw [show((0:Int) != 0)=false from rfl,cond_false,cond_false]
  refine loopN_ind (fun m s=>∃ (k:Nat) (d':Dk.D) (r':Dk.R) (j':Jr.J) (gs':List Jr.Seg) (last':Int),s=(last',a1,a1n,(a1n:Int),(k:Int),j'.nums,j'.texts,d',j')∧m=a1n-k∧k≤a1n∧Jr.Both d' r' j' gs'∧gs'.length≤k∧d'.n=a0.toNat∧last' < j'.next) (fun m s K hi hk=>?_) 30 a1n _ (by omega)
   ⟨0,d,r,J,[],0,by rw [hJ.1,hJ.2];rfl,rfl,by omega,hB,Nat.le_refl _,hn,by simp only [List.length_nil] at hnx;omega⟩
  obtain⟨k,d',r',j',gs',last',rfl,hm,hle,hB',hg,hn',hl⟩:=hi
  by_cases hlt:k < a1n
  ·exact hstep k d' r' j' gs' K last' hlt hB' hg hn' hl fun d2 r2 j2 gs2 last2 b2 g2 n2 l2=>hk (m-1) _ (by omega) ⟨k+1,d2,r2,j2,gs2,last2,rfl,by omega,by omega,b2,g2,n2,l2⟩
  ·simp only [f4v_53,f4v_31,f4v_52,f4v_32]
   rw [decide_eq_false (show ¬ (k:Int) < (a1n:Int) by omega),cond_false]
   have hnl:j'.nums.length≤gs'.length:=by rw [hB'.inv.found.1,List.length_map];exact List.length_filter_le _ _
   have htl:j'.texts.length≤gs'.length:=by rw [hB'.inv.found.2,List.length_map];exact List.length_filter_le _ _
   have hre:=hB'.inv.reopen
   simp only [f4v_59,f4v_57,f4v_58]
   rw [hB'.fine,hB'.on,show(true && !false)=true from rfl,cond_true,hB'.secs,hre.1,hre.2]
   simp only [beq_self_eq_true,cond_true]
   rw [cond_pos (by omega),cond_pos (by omega),cond_pos (by omega),cond_pos (by omega),cond_pos (by omega),cond_pos (by omega),cond_pos (by omega),cond_pos (by omega)]
 simp only [f4v_68,f4v_5,f4v_67,f4v_8,f4v_6,f4v_7]
 rw [dec_and,cond_pos ⟨by omega,by omega⟩,show((0:Int) != 0)=false from rfl,cond_false]
 simp only [f4v_66,f4v_22,f4v_9,f4v_21,f4v_20,f4v_20_i]
 have hn0:(Dk.new a0).n=a0.toNat:=rfl
 refine loopN_ind (fun m s=>∃ (k:Nat) (d:Dk.D) (r:Dk.R),s=(a0,a1,a1n,a2,(a2.length:Int),(k:Int),d)∧m=a2.length-k∧k≤a2.length∧Jr.Fresh d r∧d.n=a0.toNat) (fun m s K hi hk=>?_) 30 a2.length _ (by omega)
  ⟨0,Dk.new a0,Dk.rnew a0,rfl,rfl,by omega,Jr.fresh_new (by omega) (by omega),rfl⟩
 obtain⟨k,d,r,rfl,hm,hle,hF,hn⟩:=hi
 simp only [f4v_19,f4v_10,f4v_18,f4v_11]
 by_cases hlt:k < a2.length
 ·have hlt':(k:Int) < (a2.length:Int):=by omega
  rw [decide_eq_true hlt',cond_true]
  simp only [f4v_17,f4v_15,f4v_14,f4v_12,f4v_13,f4v_16]
  rw [decide_eq_true hlt',Bool.and_true,cond_pos (by omega),hz,cond_true,i64w (x:=(k:Int)+1) (by omega) (by omega)]
  obtain⟨f1,f2⟩:=hF.wear (Int.tmod (IntKind.i64.wrap (a2.getD (Int.toNat (k:Int)) 0)) a0)
  exact hk (m-1) _ (by omega) ⟨k+1,_,_,rfl,by omega,by omega,f1,by rw [f2,hn]⟩
 ·rw [decide_eq_false (show ¬ (k:Int) < (a2.length:Int) by omega),cond_false]
  exact hend d r hF hn
theorem c4v:CallOk Tryd.prog G36 4 r4v:=callOk_of mixed tys eV4v Tryd.func4 (by kernel_rfl) (c:=sub (bodyOf Tryd.f4) []) (by kernel_rfl) (by
 intro X H r H' h hX hH
 unfold r4v at h;split at h <;> try contradiction
 ·obtain⟨hp,rfl,rfl⟩:=inj3 h
  obtain⟨F,hF⟩:=s4v _ _ _ _ hp (hX _ hm0) (hX _ hm1) (hX _ hm2)
  exact⟨Af4v F,(f4v_body F _ _ _ _).trans hF⟩)
def lV4i:List CEnt:=[(5,[],r5),(13,[none],r13i)]
def V4i:Env:=mkEnv T36 G36 lV4i
noncomputable abbrev Kf55:=kFin V4i none (Tryd.f4).results.toList
theorem eV4i:EOk Tryd.prog V4i:=eok_mk (by exact⟨c5,c13i,trivial⟩)
def Af4i(F:Nat):Cuts:={ F:=F,at_:=fun _=>none,join:=fun n=>match n with | 1104=>some sp51 | 3096=>some sp51 | 4094=>some sp78 | _=>none }
noncomputable abbrev XAf4i(F:Nat){α:Type}:=@aexec α V4i (Af4i F)
def ef4i_a:Ty67→St:=ef4v_a
def ef4ij1:Ty67→St:=ef4vj1
def ef4ij2:Ty67→St:=ef4vj1
def ef4ij3:Ty67→St:=fun (t0,t1,x3,t2)=>⟨[(0,.int .i64 t0),(1,(.vs (.rT [.int .i64,.int .i64,.int .i64,.int .i64,.int .u8,.sl .i64] t1) x3 6)),(2,(.vs (.rI .u8 t2) 0 1)),(7,.nilp),(8,.int .i64 1)],[],0,139,0⟩
def f4i_1(F:Nat)(kj1:Ty67→Rz):Ty67→Rz:=fun (a0,a1,a1n,a2)=>(kj1 (a0,a1,a1n,a2))
theorem f4i_1_eq(F:Nat)(Rj1:St→Rz):∀ v,XAf4i F (bp Tryd.f4 2) (ef4i_a v) (kSeq (kc V4i Rj1 sp51) Kf55)=f4i_1 F (Rj1∘ef4ij1) v:=by
 rintro⟨a0,a1,a1n,a2⟩;kernel_rfl
def f4i_2(F:Nat)(kj2:Ty67→Rz):Ty67→Rz:=fun (t0,t1,x3,t2)=>(cond (decide (t0 > (200:Int))) (some ((.bool true),[])) (cond (decide ((↑x3:Int) > (20:Int))) (some ((.bool true),[])) (cond (decide ((↑t2.length:Int) > (8:Int))) (some ((.bool true),[])) (kj2 (t0,t1,x3,t2)))))
theorem f4i_2_eq(F:Nat)(Rj2:St→Rz):∀ v,XAf4i F (bp Tryd.f4 6) (ef4ij1 v) (kSeq (kc V4i Rj2 sp51) Kf55)=f4i_2 F (Rj2∘ef4ij2) v:=by
 rintro⟨t0,t1,x3,t2⟩;kernel_rfl
def f4i_3(F:Nat)(kj3:Ty67→Rz):Ty67→Rz:=fun (t0,t1,x3,t2)=>(cond (!((decide (0 < t0))&&(decide (t0 < 4097)))) (kj3 (t0,t1,x3,t2)) none)
theorem f4i_3_eq(F:Nat)(Rj3:St→Rz):∀ v,XAf4i F (bp Tryd.f4 14) (ef4ij2 v) (kSeq (kc V4i Rj3 sp78) Kf55)=f4i_3 F (Rj3∘ef4ij3) v:=by
 rintro⟨t0,t1,x3,t2⟩;kernel_rfl
def f4i_4(F:Nat):Ty67→Rz:=fun (t0,t1,x3,t2)=>(some ((.bool (decide (t0 < (1:Int)))),[]))
theorem f4i_4_eq(F:Nat):∀ v,XAf4i F (bp Tryd.f4 15) (ef4ij3 v) Kf55=f4i_4 F v:=by
 rintro⟨t0,t1,x3,t2⟩;kernel_rfl
def f4i_5(F:Nat):Ty67→Rz:=fun v=>f4i_3 F (f4i_4 F) v
theorem f4i_5_eq(F:Nat):∀ v,XAf4i F (bp Tryd.f4 7) (ef4ij2 v) Kf55=f4i_5 F v:=
 seq_cut (by kernel_rfl) (by kernel_rfl) ef4ij2 ef4ij3 _ (fun k=>f4i_3 F k) (f4i_4 F)
  (fun Rj3=>f4i_3_eq F Rj3) (f4i_4_eq F)
def f4i_6(F:Nat):Ty67→Rz:=fun v=>f4i_2 F (f4i_5 F) v
theorem f4i_6_eq(F:Nat):∀ v,XAf4i F (bp Tryd.f4 3) (ef4ij1 v) Kf55=f4i_6 F v:=
 seq_cut (by kernel_rfl) (by kernel_rfl) ef4ij1 ef4ij2 _ (fun k=>f4i_2 F k) (f4i_5 F)
  (fun Rj2=>f4i_2_eq F Rj2) (f4i_5_eq F)
def f4i_7(F:Nat):Ty67→Rz:=fun v=>f4i_1 F (f4i_6 F) v
theorem f4i_7_eq(F:Nat):∀ v,XAf4i F (sub (bodyOf Tryd.f4) []) (ef4i_a v) Kf55=f4i_7 F v:=
 seq_cut (by kernel_rfl) (by kernel_rfl) ef4i_a ef4ij1 _ (fun k=>f4i_1 F k) (f4i_6 F)
  (fun Rj1=>f4i_1_eq F Rj1) (f4i_6_eq F)
def f4i(F:Nat):Ty67→Rz:=f4i_7 F
theorem f4i_body(F:Nat)(a0:Int)(a1:List (List Li))(a1n:Nat)(a2:Li):abody V4i (Af4i F) Tryd.f4 [(.int .i64 a0),(.vs (.rT [.int .i64,.int .i64,.int .i64,.int .i64,.int .u8,.sl .i64] a1) a1n 6),(.vs (.rI .u8 a2) 0 1)] []=f4i F (a0,a1,a1n,a2):=
 (abody_in (by kernel_rfl) (by kernel_rfl)).trans (f4i_7_eq F (a0,a1,a1n,a2))
def r4i:CRun:=fun X H=>match X,H with
 | [(.int .i64 a0),(.vs (.rT [.int .i64,.int .i64,.int .i64,.int .i64,.int .u8,.sl .i64] a1) a1n 6),(.vs (.rI .u8 a2) 0 1)],[]=>some ((decide (a0 < 1)),.bool true,[])
 | _,_=>none
theorem s4i(a0:Int)(a1:List (List Li))(a1n:Nat)(a2:Li)(hp:((decide (a0 < 1)))=true)(h0:okV (.int .i64 a0))(h1:okV (.vs (.rT [.int .i64,.int .i64,.int .i64,.int .i64,.int .u8,.sl .i64] a1) a1n 6))(h2:okV (.vs (.rI .u8 a2) 0 1)):∃ F,f4i F (a0,a1,a1n,a2)=some ((.bool true),[]):=by
 have h0':a0 < 1:=of_decide_eq_true hp
 refine⟨0,?_⟩
 simp only [f4i,f4i_7,f4i_1,f4i_6,f4i_2,f4i_5,f4i_3,f4i_4]
 have e1:(!((decide (0 < a0))&&(decide (a0 < 4097))))=true:=by rw [decide_eq_false (show ¬ 0 < a0 by omega)];rfl
 rw [e1,cond_true,decide_eq_true h0']
 cases decide (a0 > (200:Int)) <;> cases decide ((a1n:Int) > (20:Int)) <;> cases decide ((a2.length:Int) > (8:Int)) <;> rfl
theorem c4i:CallOk Tryd.prog G36 4 r4i:=callOk_of mixed tys eV4i Tryd.func4 (by kernel_rfl) (c:=sub (bodyOf Tryd.f4) []) (by kernel_rfl) (by
 intro X H r H' h hX hH
 unfold r4i at h;split at h <;> try contradiction
 ·obtain⟨hp,rfl,rfl⟩:=inj3 h
  obtain⟨F,hF⟩:=s4i _ _ _ _ hp (hX _ hm0) (hX _ hm1) (hX _ hm2)
  exact⟨Af4i F,(f4i_body F _ _ _ _).trans hF⟩)
def r4:CRun:=fun X H=>match X,H with
 | [(.int .i64 a0),(.vs (.rT [.int .i64,.int .i64,.int .i64,.int .i64,.int .u8,.sl .i64] a1) a1n 6),(.vs (.rI .u8 a2) 0 1)],[]=>some (true,.bool true,[])
 | _,_=>none
theorem c4:CallOk Tryd.prog G36 4 r4:=c4v.or c4i fun A H r H' h=>by
 unfold r4 at h;split at h <;> try contradiction
 rename_i a0 a1 a1n a2
 simp only [Option.some.injEq,Prod.mk.injEq,true_and] at h
 obtain⟨rfl,rfl⟩:=h
 by_cases h0:0 < a0
 ·exact .inl (by simp only [r4v,decide_eq_true h0])
 ·exact .inr (by simp only [r4i,decide_eq_true (show a0 < 1 by omega)])
end Go.Am
