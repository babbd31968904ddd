/- Part of a proof. -/
import Derived.Test.YtffddoahjpemaaaGreatDoorAmJrn11
import Derived.KernelRfl
import Derived.Test.YtffddoahjpemaaaGreatDoorAm36ZI
import Derived.Test.YtffddoahjpemaaaGreatDoorAm36ZJ
import Derived.Test.YtffddoahjpemaaaGreatDoorAm36ZD
import Derived.Test.YtffddoahjpemaaaGreatDoorAmJrn7
set_option linter.unusedSimpArgs false
set_option linter.unusedVariables false
section
/- The example of the statements about the journal, evaluated on the specification's disk. -/
namespace Go.Jr
open Go Go.Am Go.Dk
abbrev xs50:List Int:=repeat_ [120] 50
abbrev zs:List Int:=List.replicate 64 0
abbrev sc(t:Li):List Li:=[t,[],[0],[0]]
def x1:List Int:=[1,0,0,0,0,0,1,0,97,0,0,0,0,0,0,0,0,0,0,0,0,0,0,0,0,0,0,0,0,0,0,0,0,0,0,0,0,0,0,0,0,0,0,0,0,0,0,0,0,0,0,0,0,0,0,0,84,154,118,26,131,73,143,214]
def x2:List Int:=[2,0,0,0,0,0,50,0,120,120,120,120,120,120,120,120,120,120,120,120,120,120,120,120,120,120,120,120,120,120,120,120,120,120,120,120,120,120,120,120,120,120,120,120,120,120,120,120,120,120,120,120,120,120,120,120,172,130,184,27,18,198,7,61]
def x3:List Int:=[2,0,0,0,1,0,2,0,120,120,0,0,0,0,0,0,0,0,0,0,0,0,0,0,0,0,0,0,0,0,0,0,0,0,0,0,0,0,0,0,0,0,0,0,0,0,0,0,0,0,0,0,0,0,0,0,208,101,239,173,36,191,246,241]
def x4:List Int:=[3,0,0,0,0,0,1,0,98,0,0,0,0,0,0,0,0,0,0,0,0,0,0,0,0,0,0,0,0,0,0,0,0,0,0,0,0,0,0,0,0,0,0,0,0,0,0,0,0,0,0,0,0,0,0,0,57,239,201,0,98,120,49,119]
def xt:List Int:=x2.set 8 56
def R1:R:=⟨[sc x1,sc zs,sc zs,sc zs],false,-1⟩
def R2:R:=⟨[sc x1,sc x2,sc x3,sc zs],false,-1⟩
def R3:R:=⟨[sc x1,sc xt,sc x3,sc zs],false,-1⟩
def R4:R:=⟨[sc x1,sc xt,sc x3,sc x4],false,-1⟩
def j0:J:=⟨[],[],[],1,0,false⟩
def j1:J:=⟨[1],[[97]],[],2,1,false⟩
def j2:J:=⟨[1,2],[[97],xs50],[],3,3,false⟩
def j3:J:=⟨[1],[[97]],[1],3,3,false⟩
def j4:J:=⟨[1,3],[[97],[98]],[1],4,4,false⟩
theorem t0:openS (secsR (rnew 4))=j0:=by kernel_rfl
theorem t1:append RV (rnew 4) j0 [97]=(R1,j1,1,0):=by kernel_rfl
theorem t2:append RV R1 j1 xs50=(R2,j2,2,0):=by kernel_rfl
theorem t3:rrot R2 1 70=(R3,0):=by kernel_rfl
theorem t4:openS (secsR R3)=j3:=by kernel_rfl
theorem t5:append RV R3 j3 [98]=(R4,j4,3,0):=by kernel_rfl
theorem t6:append RV R4 j4 [99]=(R4,j4,0,21):=by kernel_rfl
theorem Both.can{p:Prop}{n:Nat}(h:p)(hn:n=4):p:=h
abbrev Can(d:D)(j:J):Prop:=(Dk.fine d && !d.off)=true∧(Dk.fine d&&Jr.okJ d j)=true
theorem can{d:D}{r:R}{j:J}(h:DR d r)(hn:r.s.length=4)(ho:r.off=false)(hj:okJR j=true):Can d j:=by
 have h1:=Rel.pends h.1
 have h2:=h.1.n
 have h3:d.off=false:=h.1.off.trans ho
 have h4:okJ d j=true:=by
  rw [Jr.okJR,decide_eq_true_iff] at hj
  rw [Jr.okJ,decide_eq_true_iff]
  omega
 rw [Can,h.1.fine,h3,h4]
 exact⟨rfl,rfl⟩
structure Ex (D0:D) (J0:J) (E1 E2:D×J×Int×Int) (D3:D) (J3:J) (E4 E5:D×J×Int×Int):Prop where
 b0:Can D0 J0
 b1:Can E1.1 E1.2.1
 b3:Can D3 J3
 b4:Can E4.1 E4.2.1
 n0:D0.n=4
 n1:E1.1.n=4
 n2:E2.1.n=4
 n3:D3.n=4
 n4:E4.1.n=4
 x0:J0.next=1
 f0:J0.fin=0
 a1:E1.2.2=(1,0)
 a2:E2.2.2=(2,0)
 f2:E2.2.1.fin=3
 rot:(Dk.rot E2.1 1 70).2=0
 a4:E4.2.2=(3,0)
 a5:E5.2.2=(0,21)
 nums:E5.2.1.nums=[1,3]
 texts:E5.2.1.texts=[[97],[98]]
 next:E5.2.1.next=4
 bad:E5.2.1.bad=[1]
 damaged:damaged E5.2.1=[2]
theorem ex_of{D0:D}{J0:J}{E1 E2:D×J×Int×Int}{D3:D}{J3:J}{E4 E5:D×J×Int×Int}(eD0:D0=Dk.new 4)(eJ0:J0=openS (secsD D0))(e1:E1=append DV D0 J0 [97])
  (e2:E2=append DV E1.1 E1.2.1 xs50) (eD3:D3=(Dk.rot E2.1 1 70).1) (eJ3:J3=openS (secsD D3)) (e4:E4=append DV D3 J3 [98]) (e5:E5=append DV E4.1 E4.2.1 [99]):Ex D0 J0 E1 E2 D3 J3 E4 E5:=by
 have h0:DR D0 (rnew 4):=by rw [eD0];exact⟨new_rel (by decide) (by decide),by decide⟩
 have q0:J0=j0:=by rw [eJ0,secs_rel h0.1,t0]
 have h1:=append_rel devs h0 J0 [97]
 rw [← e1,q0,t1] at h1
 have h2:=append_rel devs h1.2 E1.2.1 xs50
 rw [← e2,h1.1,t2] at h2
 have h3:=h2.2.1.rot 1 70
 rw [t3,← eD3] at h3
 have n3:=h3.2.n
 have h3':DR D3 R3:=⟨h3.2,by rw [← n3];decide⟩
 have q3:J3=j3:=by rw [eJ3,secs_rel h3.2,t4]
 have h4:=append_rel devs h3' J3 [98]
 rw [← e4,q3,t5] at h4
 have h5:=append_rel devs h4.2 E4.2.1 [99]
 rw [← e5,h4.1,t6] at h5
 have m1:=h1.1
 have m2:=h2.1
 have m4:=h4.1
 have m5:=h5.1
 simp only at m1 m2 m4 m5
 exact {
  b0:=by rw [q0];exact can h0 rfl rfl rfl
  b1:=by rw [m1];exact can h1.2 rfl rfl rfl
  b3:=by rw [q3];exact can h3' rfl rfl rfl
  b4:=by rw [m4];exact can h4.2 rfl rfl rfl
  n0:=by rw [← h0.1.n];rfl
  n1:=by rw [← h1.2.1.n];rfl
  n2:=by rw [← h2.2.1.n];rfl
  n3:=by rw [← n3];rfl
  n4:=by rw [← h4.2.1.n];rfl
  x0:=by rw [q0];rfl
  f0:=by rw [q0];rfl
  a1:=by rw [m1]
  a2:=by rw [m2]
  f2:=by rw [m2];rfl
  rot:=h3.1
  a4:=by rw [m4]
  a5:=by rw [m5]
  nums:=by rw [m5];rfl
  texts:=by rw [m5];rfl
  next:=by rw [m5];rfl
  bad:=by rw [m5];rfl
  damaged:=by rw [m5];rfl }
theorem pack97:pack 1 [97]=([sector 1 [97] 0],0):=rfl
theorem unpack97:unpack (sector 1 [97] 0)=⟨1,0,1,[97],true⟩:=unpack_sector (by decide) (by decide) (by decide) (by decide)
end Go.Jr
end
section
namespace Go.Am
open Go Go.Proofs
abbrev sp58:List (Nat×Md):=[(1,.plain),(3,.plain),(4,.plain)]
abbrev sp59:List (Nat×Md):=[(1,.plain),(3,.plain),(54,.plain)]
abbrev sp60:List (Nat×Md):=[(1,.plain),(3,.plain)]
abbrev sp61:List (Nat×Md):=[(1,.plain),(3,.plain),(5,.plain),(6,.plain)]
abbrev sp62:List (Nat×Md):=[(1,.plain),(3,.plain),(5,.plain),(6,.plain),(7,.plain),(8,.plain)]
abbrev sp63:List (Nat×Md):=[(1,.plain),(5,.plain),(6,.plain),(7,.plain),(8,.plain),(9,.plain)]
abbrev sp64:List (Nat×Md):=[(1,.plain),(5,.plain),(6,.plain),(7,.plain),(8,.plain),(9,.plain),(10,.plain)]
abbrev sp65:List (Nat×Md):=[(5,.plain),(6,.plain),(7,.plain),(8,.plain),(9,.plain),(10,.plain),(11,.plain),(12,.plain)]
abbrev sp66:List (Nat×Md):=[(11,.plain),(104,.plain)]
abbrev sp67:List (Nat×Md):=[(11,.plain),(13,.plain),(14,.plain)]
abbrev sp68:List (Nat×Md):=[(11,.plain),(13,.plain),(14,.plain),(16,.plain)]
abbrev sp69:List (Nat×Md):=[(11,.plain),(13,.plain),(14,.plain),(16,.plain),(17,.plain),(18,.plain)]
abbrev sp70:List (Nat×Md):=[(11,.plain),(17,.plain),(137,.plain)]
abbrev sp71:List (Nat×Md):=[(11,.plain),(17,.plain)]
abbrev sp72:List (Nat×Md):=[(11,.plain),(19,.plain),(20,.plain),(21,.plain),(22,.plain),(23,.plain)]
abbrev Ty54:=Int×Int×Int×Int×(Dk.D)×(Jr.J)
abbrev Ty55:=Int×Int×Int×Int×Int×(Dk.D)
abbrev Ty56:=Int×Int×Int×Int×Int×Int×(Dk.D)
abbrev Ty57:=Int×Int×Int×Int×Int×Int×Int×(Dk.D)×(Jr.J)
abbrev Ty58:=Int×Int×Int×(Dk.D)×(Jr.J)
abbrev Ty59:=Int×Int×Int×(List Li)×Int×(Dk.D)×(Jr.J)
abbrev Ty60:=(List Li)×Bool×(Dk.D)×(Jr.J)
abbrev Ty61:=(List Li)×(Dk.D)×(Jr.J)
abbrev Ty62:=Int×Int×Int×Li×Bool×(Dk.D)×(Jr.J)
def lV7:List CEnt:=[(9,[none],r9),(10,[some 9,some 9],r10),(11,[none],r11),(12,[none],r12),(14,[none,none],r14),(20,[none],r20),(27,[none,none,none],r27),(34,[none],r34),(35,[none],r35),(36,[some 3,some 3],r36),(37,[none],r37),(38,[none],r38),(39,[none,none],r39),(40,[none,none],r40),(41,[none],r41),(42,[none],r42)]
def V7:Env:=mkEnv T36Z G36Z lV7
noncomputable abbrev Kf52:=kFin V7 none (Tryz.f7).results.toList
theorem eV7:EOk Tryz.prog V7:=eok_mk (by exact⟨c9,c10,c11,c12,c14,c20,c27,c34,c35,c36,c37,c38,c39,c40,c41,c42,trivial⟩)
def Af7(F:Nat):Cuts:={ F:=F,at_:=fun _=>none,join:=fun n=>match n with | 1057=>some [] | 2055=>some sp17 | 3005=>some [(1,.plain),(33,.plain)] | 4047=>some [(1,.plain)] | 5045=>some sp58 | 6005=>some sp59 | 7037=>some sp60 | 8035=>some sp61 | 9033=>some sp62 | 10031=>some sp63 | 11029=>some sp64 | 12027=>some sp65 | 13005=>some sp66 | 14019=>some [(11,.plain)] | 15017=>some sp67 | 16015=>some sp68 | 17013=>some sp69 | 18005=>some sp70 | 19005=>some sp71 | 20003=>some sp72 | _=>none }
noncomputable abbrev XAf7(F:Nat){α:Type}:=@aexec α V7 (Af7 F)
def ef7_a:Unit→St:=fun _=>⟨[],[],0,193,0⟩
def ef7j1:Unit→St:=ef7_a
def ef7j2:Int×(Dk.D)→St:=fun (t2,e1)=>⟨[(1,.ptr 0 0 5 0 0 0 5),(2,.int .i64 t2)],[(0,(dE 1 e1 2 3)),(1,(bB e1.blk)),(2,(pB e1.pend)),(3,(wB e1.worn))],4,193,0⟩
def ef7j3:Bool×(Dk.D)→St:=fun (t33,e1)=>⟨[(1,.ptr 0 0 5 0 0 0 5),(33,.bool t33)],[(0,(dE 1 e1 2 3)),(1,(bB e1.blk)),(2,(pB e1.pend)),(3,(wB e1.worn))],4,193,0⟩
def ef7j4:(Dk.D)→St:=fun e1=>⟨[(1,.ptr 0 0 5 0 0 0 5)],[(0,(dE 1 e1 2 3)),(1,(bB e1.blk)),(2,(pB e1.pend)),(3,(wB e1.worn))],4,193,0⟩
def ef7j5:Int×(Dk.D)×(Jr.J)→St:=fun (t4,e1,e2)=>⟨[(1,.ptr 0 0 5 0 0 0 5),(3,.ptr 1 0 7 0 0 0 7),(4,.int .i64 t4)],[(0,(dE 2 e1 3 4)),(1,(jE 0 5 5 6 7 e2)),(2,(bB e1.blk)),(3,(pB e1.pend)),(4,(wB e1.worn)),(5,(iB e2.nums)),(6,(iB e2.bad)),(7,(sB e2.texts))],8,193,0⟩
def ef7j6:Bool×(Dk.D)×(Jr.J)→St:=fun (t54,e1,e2)=>⟨[(1,.ptr 0 0 5 0 0 0 5),(3,.ptr 1 0 7 0 0 0 7),(54,.bool t54)],[(0,(dE 2 e1 3 4)),(1,(jE 0 5 5 6 7 e2)),(2,(bB e1.blk)),(3,(pB e1.pend)),(4,(wB e1.worn)),(5,(iB e2.nums)),(6,(iB e2.bad)),(7,(sB e2.texts))],8,193,0⟩
def ef7j7:(Dk.D)×(Jr.J)→St:=fun (e1,e2)=>⟨[(1,.ptr 0 0 5 0 0 0 5),(3,.ptr 1 0 7 0 0 0 7)],[(0,(dE 2 e1 3 4)),(1,(jE 0 5 5 6 7 e2)),(2,(bB e1.blk)),(3,(pB e1.pend)),(4,(wB e1.worn)),(5,(iB e2.nums)),(6,(iB e2.bad)),(7,(sB e2.texts))],8,193,0⟩
def ef7j8:Ty50→St:=fun (t5,t6,e1,e2)=>⟨[(1,.ptr 0 0 5 0 0 0 5),(3,.ptr 1 0 7 0 0 0 7),(5,.int .i64 t5),(6,.int .i64 t6)],[(0,(dE 2 e1 3 4)),(1,(jE 0 5 5 6 7 e2)),(2,(bB e1.blk)),(3,(pB e1.pend)),(4,(wB e1.worn)),(5,(iB e2.nums)),(6,(iB e2.bad)),(7,(sB e2.texts))],8,193,0⟩
def ef7j9:Ty54→St:=fun (t5,t6,t7,t8,e1,e2)=>⟨[(1,.ptr 0 0 5 0 0 0 5),(3,.ptr 1 0 7 0 0 0 7),(5,.int .i64 t5),(6,.int .i64 t6),(7,.int .i64 t7),(8,.int .i64 t8)],[(0,(dE 2 e1 3 4)),(1,(jE 0 5 5 6 7 e2)),(2,(bB e1.blk)),(3,(pB e1.pend)),(4,(wB e1.worn)),(5,(iB e2.nums)),(6,(iB e2.bad)),(7,(sB e2.texts))],8,193,0⟩
def ef7j10:Ty55→St:=fun (t5,t6,t7,t8,t9,e1)=>⟨[(1,.ptr 0 0 5 0 0 0 5),(5,.int .i64 t5),(6,.int .i64 t6),(7,.int .i64 t7),(8,.int .i64 t8),(9,.int .i64 t9)],[(0,(dE 1 e1 2 3)),(1,(bB e1.blk)),(2,(pB e1.pend)),(3,(wB e1.worn))],4,193,0⟩
def ef7j11:Ty56→St:=fun (t5,t6,t7,t8,t9,t10,e1)=>⟨[(1,.ptr 0 0 5 0 0 0 5),(5,.int .i64 t5),(6,.int .i64 t6),(7,.int .i64 t7),(8,.int .i64 t8),(9,.int .i64 t9),(10,.int .i64 t10)],[(0,(dE 1 e1 2 3)),(1,(bB e1.blk)),(2,(pB e1.pend)),(3,(wB e1.worn))],4,193,0⟩
def ef7j12:Ty57→St:=fun (t5,t6,t7,t8,t9,t10,t12,e1,e2)=>⟨[(5,.int .i64 t5),(6,.int .i64 t6),(7,.int .i64 t7),(8,.int .i64 t8),(9,.int .i64 t9),(10,.int .i64 t10),(11,.ptr 0 0 7 0 0 0 7),(12,.int .i64 t12)],[(0,(jE 1 5 2 3 4 e2)),(1,(dE 5 e1 6 7)),(2,(iB e2.nums)),(3,(iB e2.bad)),(4,(sB e2.texts)),(5,(bB e1.blk)),(6,(pB e1.pend)),(7,(wB e1.worn))],8,193,0⟩
def ef7j13:Bool×(Dk.D)×(Jr.J)→St:=fun (t104,e1,e2)=>⟨[(11,.ptr 0 0 7 0 0 0 7),(104,.bool t104)],[(0,(jE 1 5 2 3 4 e2)),(1,(dE 5 e1 6 7)),(2,(iB e2.nums)),(3,(iB e2.bad)),(4,(sB e2.texts)),(5,(bB e1.blk)),(6,(pB e1.pend)),(7,(wB e1.worn))],8,193,0⟩
def ef7j14:(Dk.D)×(Jr.J)→St:=fun (e1,e2)=>⟨[(11,.ptr 0 0 7 0 0 0 7)],[(0,(jE 1 5 2 3 4 e2)),(1,(dE 5 e1 6 7)),(2,(iB e2.nums)),(3,(iB e2.bad)),(4,(sB e2.texts)),(5,(bB e1.blk)),(6,(pB e1.pend)),(7,(wB e1.worn))],8,193,0⟩
def ef7j15:Ty50→St:=fun (t13,t14,e1,e2)=>⟨[(11,.ptr 0 0 7 0 0 0 7),(13,.int .i64 t13),(14,.int .i64 t14)],[(0,(jE 1 5 2 3 4 e2)),(1,(dE 5 e1 6 7)),(2,(iB e2.nums)),(3,(iB e2.bad)),(4,(sB e2.texts)),(5,(bB e1.blk)),(6,(pB e1.pend)),(7,(wB e1.worn))],8,193,0⟩
def ef7j16:Ty58→St:=fun (t13,t14,t16,e1,e2)=>⟨[(11,.ptr 0 0 7 0 0 0 7),(13,.int .i64 t13),(14,.int .i64 t14),(16,.int .i64 t16)],[(0,(jE 1 5 2 3 4 e2)),(1,(dE 5 e1 6 7)),(2,(iB e2.nums)),(3,(iB e2.bad)),(4,(sB e2.texts)),(5,(bB e1.blk)),(6,(pB e1.pend)),(7,(wB e1.worn))],8,193,0⟩
def ef7j17:Ty59→St:=fun (t13,t14,t16,t17,t18,e1,e2)=>⟨[(11,.ptr 0 0 7 0 0 0 7),(13,.int .i64 t13),(14,.int .i64 t14),(16,.int .i64 t16),(17,(.vs (.rS t17) 0 1)),(18,.int .i64 t18)],[(0,(jE 1 5 2 3 4 e2)),(1,(dE 5 e1 6 7)),(2,(iB e2.nums)),(3,(iB e2.bad)),(4,(sB e2.texts)),(5,(bB e1.blk)),(6,(pB e1.pend)),(7,(wB e1.worn))],8,193,0⟩
def ef7j18:Ty60→St:=fun (t17,t137,e1,e2)=>⟨[(11,.ptr 0 0 7 0 0 0 7),(17,(.vs (.rS t17) 0 1)),(137,.bool t137)],[(0,(jE 1 5 2 3 4 e2)),(1,(dE 5 e1 6 7)),(2,(iB e2.nums)),(3,(iB e2.bad)),(4,(sB e2.texts)),(5,(bB e1.blk)),(6,(pB e1.pend)),(7,(wB e1.worn))],8,193,0⟩
def ef7j19:Ty61→St:=fun (t17,e1,e2)=>⟨[(11,.ptr 0 0 7 0 0 0 7),(17,(.vs (.rS t17) 0 1))],[(0,(jE 1 5 2 3 4 e2)),(1,(dE 5 e1 6 7)),(2,(iB e2.nums)),(3,(iB e2.bad)),(4,(sB e2.texts)),(5,(bB e1.blk)),(6,(pB e1.pend)),(7,(wB e1.worn))],8,193,0⟩
def ef7j20:Ty62→St:=fun (t19,t20,t21,t22,t23,e1,e2)=>⟨[(11,.ptr 0 0 7 0 0 0 7),(19,.int .i64 t19),(20,.int .i64 t20),(21,.int .i64 t21),(22,.str t22),(23,.bool t23)],[(0,(jE 1 5 2 3 4 e2)),(1,(dE 5 e1 6 7)),(2,(iB e2.nums)),(3,(iB e2.bad)),(4,(sB e2.texts)),(5,(bB e1.blk)),(6,(pB e1.pend)),(7,(wB e1.worn))],8,193,0⟩
def f7_1(F:Nat)(kj1:Unit→Rz):Unit→Rz:=fun _=>(kj1 ())
theorem f7_1_eq(F:Nat)(Rj1:St→Rz):∀ v,XAf7 F (bp Tryz.f7 2) (ef7_a v) (kSeq (kc V7 Rj1 []) Kf52)=f7_1 F (Rj1∘ef7j1) v:=by
 intro _;kernel_rfl
def f7_2(F:Nat)(kj2:Int×(Dk.D)→Rz):Unit→Rz:=fun _=>(cond ((decide (0 < (4:Int)))&&(decide ((4:Int) < 4097))) (kj2 (0,(Dk.new (4:Int)))) none)
theorem f7_2_eq(F:Nat)(Rj2:St→Rz):∀ v,XAf7 F (bp Tryz.f7 6) (ef7j1 v) (kSeq (kc V7 Rj2 sp17) Kf52)=f7_2 F (Rj2∘ef7j2) v:=by
 intro _;kernel_rfl
def f7_3(F:Nat)(kj3:Bool×(Dk.D)→Rz)(kj4:(Dk.D)→Rz):Int×(Dk.D)→Rz:=fun (t2,e1)=>(cond (t2 != (0:Int)) (kj3 (true,e1)) (kj3 (false,e1)))
theorem f7_3_eq(F:Nat)(Rj3 Rj4:St→Rz):∀ v,XAf7 F (bp Tryz.f7 28) (ef7j2 v) (kSeq (kc V7 Rj3 [(1,.plain),(33,.plain)]) (kSeq (kc V7 Rj4 [(1,.plain)]) Kf52))=f7_3 F (Rj3∘ef7j3) (Rj4∘ef7j4) v:=by
 rintro⟨t2,e1⟩;kernel_rfl
def f7_4(F:Nat)(kj4:(Dk.D)→Rz):Bool×(Dk.D)→Rz:=fun (t33,e1)=>(cond t33 (some ((.bool false),[])) (kj4 e1))
theorem f7_4_eq(F:Nat)(Rj4:St→Rz):∀ v,XAf7 F (bp Tryz.f7 29) (ef7j3 v) (kSeq (kc V7 Rj4 [(1,.plain)]) Kf52)=f7_4 F (Rj4∘ef7j4) v:=by
 rintro⟨t33,e1⟩;kernel_rfl
def f7_5(F:Nat)(kj4:(Dk.D)→Rz):Int×(Dk.D)→Rz:=fun v=>f7_3 F (f7_4 F kj4) kj4 v
theorem f7_5_eq(F:Nat)(Rj4:St→Rz):∀ v,XAf7 F (bp Tryz.f7 14) (ef7j2 v) (kSeq (kc V7 Rj4 [(1,.plain)]) Kf52)=f7_5 F (Rj4∘ef7j4) v:=
 seq_cut (by kernel_rfl) (by kernel_rfl) ef7j2 ef7j3 _ (fun k=>f7_3 F k (Rj4∘ef7j4)) (f7_4 F (Rj4∘ef7j4))
  (fun Rj3=>f7_3_eq F Rj3 Rj4) (f7_4_eq F Rj4)
def f7_6(F:Nat)(kj5:Int×(Dk.D)×(Jr.J)→Rz):(Dk.D)→Rz:=fun e1=>(cond ((Dk.fine e1)&&(!e1.off)) (kj5 (0,e1,(Jr.openS (Jr.secsD e1)))) none)
theorem f7_6_eq(F:Nat)(Rj5:St→Rz):∀ v,XAf7 F (bp Tryz.f7 30) (ef7j4 v) (kSeq (kc V7 Rj5 sp58) Kf52)=f7_6 F (Rj5∘ef7j5) v:=by
 intro e1;kernel_rfl
def f7_7(F:Nat)(kj6:Bool×(Dk.D)×(Jr.J)→Rz)(kj7:(Dk.D)×(Jr.J)→Rz):Int×(Dk.D)×(Jr.J)→Rz:=fun (t4,e1,e2)=>(cond (t4 != (0:Int)) (kj6 (true,e1,e2)) (cond (e2.next != (1:Int)) (kj6 (true,e1,e2)) (kj6 (((IntKind.i64.wrap ((e1.n:Int)-e2.fin)) != (4:Int)),e1,e2))))
theorem f7_7_eq(F:Nat)(Rj6 Rj7:St→Rz):∀ v,XAf7 F (bp Tryz.f7 124) (ef7j5 v) (kSeq (kc V7 Rj6 sp59) (kSeq (kc V7 Rj7 sp60) Kf52))=f7_7 F (Rj6∘ef7j6) (Rj7∘ef7j7) v:=by
 rintro⟨t4,e1,e2⟩;kernel_rfl
def f7_8(F:Nat)(kj7:(Dk.D)×(Jr.J)→Rz):Bool×(Dk.D)×(Jr.J)→Rz:=fun (t54,e1,e2)=>(cond t54 (some ((.bool false),[])) (kj7 (e1,e2)))
theorem f7_8_eq(F:Nat)(Rj7:St→Rz):∀ v,XAf7 F (bp Tryz.f7 125) (ef7j6 v) (kSeq (kc V7 Rj7 sp60) Kf52)=f7_8 F (Rj7∘ef7j7) v:=by
 rintro⟨t54,e1,e2⟩;kernel_rfl
def f7_9(F:Nat)(kj7:(Dk.D)×(Jr.J)→Rz):Int×(Dk.D)×(Jr.J)→Rz:=fun v=>f7_7 F (f7_8 F kj7) kj7 v
theorem f7_9_eq(F:Nat)(Rj7:St→Rz):∀ v,XAf7 F (bp Tryz.f7 62) (ef7j5 v) (kSeq (kc V7 Rj7 sp60) Kf52)=f7_9 F (Rj7∘ef7j7) v:=
 seq_cut (by kernel_rfl) (by kernel_rfl) ef7j5 ef7j6 _ (fun k=>f7_7 F k (Rj7∘ef7j7)) (f7_8 F (Rj7∘ef7j7))
  (fun Rj6=>f7_7_eq F Rj6 Rj7) (f7_8_eq F Rj7)
def f7_10(F:Nat)(kj8:Ty50→Rz):(Dk.D)×(Jr.J)→Rz:=fun (e1,e2)=>(cond ((Dk.fine e1)&&(Jr.okJ e1 e2)) (kj8 ((Jr.append Jr.DV e1 e2 [97]).2.2.1,(Jr.append Jr.DV e1 e2 [97]).2.2.2,(Jr.append Jr.DV e1 e2 [97]).1,(Jr.append Jr.DV e1 e2 [97]).2.1)) none)
theorem f7_10_eq(F:Nat)(Rj8:St→Rz):∀ v,XAf7 F (bp Tryz.f7 126) (ef7j7 v) (kSeq (kc V7 Rj8 sp61) Kf52)=f7_10 F (Rj8∘ef7j8) v:=by
 rintro⟨e1,e2⟩;kernel_rfl
def f7_11(F:Nat)(kj9:Ty54→Rz):Ty50→Rz:=fun (t5,t6,e1,e2)=>(cond (decide (0≤(50:Int)∧(50:Int) < 1000∧[120].length < 1000)) (cond ((Dk.fine e1)&&(Jr.okJ e1 e2)) (kj9 (t5,t6,(Jr.append Jr.DV e1 e2 (Jr.repeat_ [120] (50:Int))).2.2.1,(Jr.append Jr.DV e1 e2 (Jr.repeat_ [120] (50:Int))).2.2.2,(Jr.append Jr.DV e1 e2 (Jr.repeat_ [120] (50:Int))).1,(Jr.append Jr.DV e1 e2 (Jr.repeat_ [120] (50:Int))).2.1)) none) none)
theorem f7_11_eq(F:Nat)(Rj9:St→Rz):∀ v,XAf7 F (bp Tryz.f7 254) (ef7j8 v) (kSeq (kc V7 Rj9 sp62) Kf52)=f7_11 F (Rj9∘ef7j9) v:=by
 rintro⟨t5,t6,e1,e2⟩;kernel_rfl
def f7_12(F:Nat)(kj10:Ty55→Rz):Ty54→Rz:=fun (t5,t6,t7,t8,e1,e2)=>(kj10 (t5,t6,t7,t8,(IntKind.i64.wrap ((e1.n:Int)-e2.fin)),e1))
theorem f7_12_eq(F:Nat)(Rj10:St→Rz):∀ v,XAf7 F (bp Tryz.f7 510) (ef7j9 v) (kSeq (kc V7 Rj10 sp63) Kf52)=f7_12 F (Rj10∘ef7j10) v:=by
 rintro⟨t5,t6,t7,t8,e1,e2⟩;kernel_rfl
def f7_13(F:Nat)(kj11:Ty56→Rz):Ty55→Rz:=fun (t5,t6,t7,t8,t9,e1)=>(kj11 (t5,t6,t7,t8,t9,(Dk.rot e1 (1:Int) (70:Int)).2,(Dk.rot e1 (1:Int) (70:Int)).1))
theorem f7_13_eq(F:Nat)(Rj11:St→Rz):∀ v,XAf7 F (bp Tryz.f7 1022) (ef7j10 v) (kSeq (kc V7 Rj11 sp64) Kf52)=f7_13 F (Rj11∘ef7j11) v:=by
 rintro⟨t5,t6,t7,t8,t9,e1⟩;kernel_rfl
def f7_14(F:Nat)(kj12:Ty57→Rz):Ty56→Rz:=fun (t5,t6,t7,t8,t9,t10,e1)=>(cond ((Dk.fine e1)&&(!e1.off)) (kj12 (t5,t6,t7,t8,t9,t10,0,e1,(Jr.openS (Jr.secsD e1)))) none)
theorem f7_14_eq(F:Nat)(Rj12:St→Rz):∀ v,XAf7 F (bp Tryz.f7 2046) (ef7j11 v) (kSeq (kc V7 Rj12 sp65) Kf52)=f7_14 F (Rj12∘ef7j12) v:=by
 rintro⟨t5,t6,t7,t8,t9,t10,e1⟩;kernel_rfl
def f7_15(F:Nat)(kj13:Bool×(Dk.D)×(Jr.J)→Rz)(kj14:(Dk.D)×(Jr.J)→Rz):Ty57→Rz:=fun (t5,t6,t7,t8,t9,t10,t12,e1,e2)=>(cond (t5 != (1:Int)) (kj13 (true,e1,e2)) (cond (t6 != (0:Int)) (kj13 (true,e1,e2)) (cond (t7 != (2:Int)) (kj13 (true,e1,e2)) (cond (t8 != (0:Int)) (kj13 (true,e1,e2)) (cond (t9 != (1:Int)) (kj13 (true,e1,e2)) (cond (t10 != (0:Int)) (kj13 (true,e1,e2)) (cond (t12 != (0:Int)) (kj13 (true,e1,e2)) (kj13 (false,e1,e2)))))))))
theorem f7_15_eq(F:Nat)(Rj13 Rj14:St→Rz):∀ v,XAf7 F (bp Tryz.f7 8188) (ef7j12 v) (kSeq (kc V7 Rj13 sp66) (kSeq (kc V7 Rj14 [(11,.plain)]) Kf52))=f7_15 F (Rj13∘ef7j13) (Rj14∘ef7j14) v:=by
 rintro⟨t5,t6,t7,t8,t9,t10,t12,e1,e2⟩;kernel_rfl
def f7_16(F:Nat)(kj14:(Dk.D)×(Jr.J)→Rz):Bool×(Dk.D)×(Jr.J)→Rz:=fun (t104,e1,e2)=>(cond t104 (some ((.bool false),[])) (kj14 (e1,e2)))
theorem f7_16_eq(F:Nat)(Rj14:St→Rz):∀ v,XAf7 F (bp Tryz.f7 8189) (ef7j13 v) (kSeq (kc V7 Rj14 [(11,.plain)]) Kf52)=f7_16 F (Rj14∘ef7j14) v:=by
 rintro⟨t104,e1,e2⟩;kernel_rfl
def f7_17(F:Nat)(kj14:(Dk.D)×(Jr.J)→Rz):Ty57→Rz:=fun v=>f7_15 F (f7_16 F kj14) kj14 v
theorem f7_17_eq(F:Nat)(Rj14:St→Rz):∀ v,XAf7 F (bp Tryz.f7 4094) (ef7j12 v) (kSeq (kc V7 Rj14 [(11,.plain)]) Kf52)=f7_17 F (Rj14∘ef7j14) v:=
 seq_cut (by kernel_rfl) (by kernel_rfl) ef7j12 ef7j13 _ (fun k=>f7_15 F k (Rj14∘ef7j14)) (f7_16 F (Rj14∘ef7j14))
  (fun Rj13=>f7_15_eq F Rj13 Rj14) (f7_16_eq F Rj14)
def f7_18(F:Nat)(kj15:Ty50→Rz):(Dk.D)×(Jr.J)→Rz:=fun (e1,e2)=>(cond ((Dk.fine e1)&&(Jr.okJ e1 e2)) (kj15 ((Jr.append Jr.DV e1 e2 [98]).2.2.1,(Jr.append Jr.DV e1 e2 [98]).2.2.2,(Jr.append Jr.DV e1 e2 [98]).1,(Jr.append Jr.DV e1 e2 [98]).2.1)) none)
theorem f7_18_eq(F:Nat)(Rj15:St→Rz):∀ v,XAf7 F (bp Tryz.f7 8190) (ef7j14 v) (kSeq (kc V7 Rj15 sp67) Kf52)=f7_18 F (Rj15∘ef7j15) v:=by
 rintro⟨e1,e2⟩;kernel_rfl
def f7_19(F:Nat)(kj16:Ty58→Rz):Ty50→Rz:=fun (t13,t14,e1,e2)=>(cond ((Dk.fine e1)&&(Jr.okJ e1 e2)) (kj16 (t13,t14,(Jr.append Jr.DV e1 e2 [99]).2.2.2,(Jr.append Jr.DV e1 e2 [99]).1,(Jr.append Jr.DV e1 e2 [99]).2.1)) none)
theorem f7_19_eq(F:Nat)(Rj16:St→Rz):∀ v,XAf7 F (bp Tryz.f7 16382) (ef7j15 v) (kSeq (kc V7 Rj16 sp68) Kf52)=f7_19 F (Rj16∘ef7j16) v:=by
 rintro⟨t13,t14,e1,e2⟩;kernel_rfl
def f7_20(F:Nat)(kj17:Ty59→Rz):Ty58→Rz:=fun (t13,t14,t16,e1,e2)=>(kj17 (t13,t14,t16,(Jr.pack (1:Int) [97]).1,(Jr.pack (1:Int) [97]).2,e1,e2))
theorem f7_20_eq(F:Nat)(Rj17:St→Rz):∀ v,XAf7 F (bp Tryz.f7 32766) (ef7j16 v) (kSeq (kc V7 Rj17 sp69) Kf52)=f7_20 F (Rj17∘ef7j17) v:=by
 rintro⟨t13,t14,t16,e1,e2⟩;kernel_rfl
def f7_21(F:Nat)(kj18:Ty60→Rz)(kj19:Ty61→Rz):Ty59→Rz:=fun (t13,t14,t16,t17,t18,e1,e2)=>(cond (t13 != (3:Int)) (kj18 (t17,true,e1,e2)) (cond (t14 != (0:Int)) (kj18 (t17,true,e1,e2)) (cond (t16 != (21:Int)) (kj18 (t17,true,e1,e2)) (cond ((↑t17.length:Int) != (1:Int)) (kj18 (t17,true,e1,e2)) (kj18 (t17,(t18 != (0:Int)),e1,e2))))))
theorem f7_21_eq(F:Nat)(Rj18 Rj19:St→Rz):∀ v,XAf7 F (bp Tryz.f7 131068) (ef7j17 v) (kSeq (kc V7 Rj18 sp70) (kSeq (kc V7 Rj19 sp71) Kf52))=f7_21 F (Rj18∘ef7j18) (Rj19∘ef7j19) v:=by
 rintro⟨t13,t14,t16,t17,t18,e1,e2⟩;kernel_rfl
def f7_22(F:Nat)(kj19:Ty61→Rz):Ty60→Rz:=fun (t17,t137,e1,e2)=>(cond t137 (some ((.bool false),[])) (kj19 (t17,e1,e2)))
theorem f7_22_eq(F:Nat)(Rj19:St→Rz):∀ v,XAf7 F (bp Tryz.f7 131069) (ef7j18 v) (kSeq (kc V7 Rj19 sp71) Kf52)=f7_22 F (Rj19∘ef7j19) v:=by
 rintro⟨t17,t137,e1,e2⟩;kernel_rfl
def f7_23(F:Nat)(kj19:Ty61→Rz):Ty59→Rz:=fun v=>f7_21 F (f7_22 F kj19) kj19 v
theorem f7_23_eq(F:Nat)(Rj19:St→Rz):∀ v,XAf7 F (bp Tryz.f7 65534) (ef7j17 v) (kSeq (kc V7 Rj19 sp71) Kf52)=f7_23 F (Rj19∘ef7j19) v:=
 seq_cut (by kernel_rfl) (by kernel_rfl) ef7j17 ef7j18 _ (fun k=>f7_21 F k (Rj19∘ef7j19)) (f7_22 F (Rj19∘ef7j19))
  (fun Rj18=>f7_21_eq F Rj18 Rj19) (f7_22_eq F Rj19)
def f7_24(F:Nat)(kj20:Ty62→Rz):Ty61→Rz:=fun (t17,e1,e2)=>(cond (decide ((0:Int) < (↑t17.length:Int))) (kj20 ((Jr.unpack (t17.getD 0 [])).number,(Jr.unpack (t17.getD 0 [])).part,(Jr.unpack (t17.getD 0 [])).left,(Jr.unpack (t17.getD 0 [])).payload,(Jr.unpack (t17.getD 0 [])).ok,e1,e2)) none)
theorem f7_24_eq(F:Nat)(Rj20:St→Rz):∀ v,XAf7 F (bp Tryz.f7 131070) (ef7j19 v) (kSeq (kc V7 Rj20 sp72) Kf52)=f7_24 F (Rj20∘ef7j20) v:=by
 rintro⟨t17,e1,e2⟩;kernel_rfl
def f7_25(F:Nat):Ty62→Rz:=fun (t19,t20,t21,t22,t23,e1,e2)=>(cond (decide (e2.nums.length < 1073741000)) (cond (decide (e2.nums.length < 1073741824)) (cond (e2.nums==[(1:Int),(3:Int)]) (cond (decide (e2.texts.length < 1073741000)) (cond (decide (e2.texts.length < 1073741824)) (cond (e2.texts==[[97],[98]]) (cond (decide (e2.nums.length < 1073741000∧e2.next < 100000)) (cond (decide ((Jr.damaged e2).length < 1073741824)) (cond ((Jr.damaged e2)==[(2:Int)]) (cond (decide (e2.bad.length < 1073741000)) (cond (decide (e2.bad.length < 1073741824)) (cond (e2.bad==[(1:Int)]) (cond ((Jr.count (49:Int))==(2:Int)) (cond (t19==(1:Int)) (cond (t20==(0:Int)) (cond (t21==(1:Int)) (cond ((t22:Li)==([97]:Li)) (some ((.bool t23),[])) (some ((.bool false),[]))) (some ((.bool false),[]))) (some ((.bool false),[]))) (some ((.bool false),[]))) (some ((.bool false),[]))) (some ((.bool false),[]))) none) none) (some ((.bool false),[]))) none) none) (some ((.bool false),[]))) none) none) (some ((.bool false),[]))) none) none)
theorem f7_25_eq(F:Nat):∀ v,XAf7 F (bp Tryz.f7 131071) (ef7j20 v) Kf52=f7_25 F v:=by
 rintro⟨t19,t20,t21,t22,t23,e1,e2⟩;kernel_rfl
def f7_26(F:Nat):Ty61→Rz:=fun v=>f7_24 F (f7_25 F) v
theorem f7_26_eq(F:Nat):∀ v,XAf7 F (bp Tryz.f7 65535) (ef7j19 v) Kf52=f7_26 F v:=
 seq_cut (by kernel_rfl) (by kernel_rfl) ef7j19 ef7j20 _ (fun k=>f7_24 F k) (f7_25 F)
  (fun Rj20=>f7_24_eq F Rj20) (f7_25_eq F)
def f7_27(F:Nat):Ty59→Rz:=fun v=>f7_23 F (f7_26 F) v
theorem f7_27_eq(F:Nat):∀ v,XAf7 F (bp Tryz.f7 32767) (ef7j17 v) Kf52=f7_27 F v:=
 seq_cut (by kernel_rfl) (by kernel_rfl) ef7j17 ef7j19 _ (fun k=>f7_23 F k) (f7_26 F)
  (fun Rj19=>f7_23_eq F Rj19) (f7_26_eq F)
def f7_28(F:Nat):Ty58→Rz:=fun v=>f7_20 F (f7_27 F) v
theorem f7_28_eq(F:Nat):∀ v,XAf7 F (bp Tryz.f7 16383) (ef7j16 v) Kf52=f7_28 F v:=
 seq_cut (by kernel_rfl) (by kernel_rfl) ef7j16 ef7j17 _ (fun k=>f7_20 F k) (f7_27 F)
  (fun Rj17=>f7_20_eq F Rj17) (f7_27_eq F)
def f7_29(F:Nat):Ty50→Rz:=fun v=>f7_19 F (f7_28 F) v
theorem f7_29_eq(F:Nat):∀ v,XAf7 F (bp Tryz.f7 8191) (ef7j15 v) Kf52=f7_29 F v:=
 seq_cut (by kernel_rfl) (by kernel_rfl) ef7j15 ef7j16 _ (fun k=>f7_19 F k) (f7_28 F)
  (fun Rj16=>f7_19_eq F Rj16) (f7_28_eq F)
def f7_30(F:Nat):(Dk.D)×(Jr.J)→Rz:=fun v=>f7_18 F (f7_29 F) v
theorem f7_30_eq(F:Nat):∀ v,XAf7 F (bp Tryz.f7 4095) (ef7j14 v) Kf52=f7_30 F v:=
 seq_cut (by kernel_rfl) (by kernel_rfl) ef7j14 ef7j15 _ (fun k=>f7_18 F k) (f7_29 F)
  (fun Rj15=>f7_18_eq F Rj15) (f7_29_eq F)
def f7_31(F:Nat):Ty57→Rz:=fun v=>f7_17 F (f7_30 F) v
theorem f7_31_eq(F:Nat):∀ v,XAf7 F (bp Tryz.f7 2047) (ef7j12 v) Kf52=f7_31 F v:=
 seq_cut (by kernel_rfl) (by kernel_rfl) ef7j12 ef7j14 _ (fun k=>f7_17 F k) (f7_30 F)
  (fun Rj14=>f7_17_eq F Rj14) (f7_30_eq F)
def f7_32(F:Nat):Ty56→Rz:=fun v=>f7_14 F (f7_31 F) v
theorem f7_32_eq(F:Nat):∀ v,XAf7 F (bp Tryz.f7 1023) (ef7j11 v) Kf52=f7_32 F v:=
 seq_cut (by kernel_rfl) (by kernel_rfl) ef7j11 ef7j12 _ (fun k=>f7_14 F k) (f7_31 F)
  (fun Rj12=>f7_14_eq F Rj12) (f7_31_eq F)
def f7_33(F:Nat):Ty55→Rz:=fun v=>f7_13 F (f7_32 F) v
theorem f7_33_eq(F:Nat):∀ v,XAf7 F (bp Tryz.f7 511) (ef7j10 v) Kf52=f7_33 F v:=
 seq_cut (by kernel_rfl) (by kernel_rfl) ef7j10 ef7j11 _ (fun k=>f7_13 F k) (f7_32 F)
  (fun Rj11=>f7_13_eq F Rj11) (f7_32_eq F)
def f7_34(F:Nat):Ty54→Rz:=fun v=>f7_12 F (f7_33 F) v
theorem f7_34_eq(F:Nat):∀ v,XAf7 F (bp Tryz.f7 255) (ef7j9 v) Kf52=f7_34 F v:=
 seq_cut (by kernel_rfl) (by kernel_rfl) ef7j9 ef7j10 _ (fun k=>f7_12 F k) (f7_33 F)
  (fun Rj10=>f7_12_eq F Rj10) (f7_33_eq F)
def f7_35(F:Nat):Ty50→Rz:=fun v=>f7_11 F (f7_34 F) v
theorem f7_35_eq(F:Nat):∀ v,XAf7 F (bp Tryz.f7 127) (ef7j8 v) Kf52=f7_35 F v:=
 seq_cut (by kernel_rfl) (by kernel_rfl) ef7j8 ef7j9 _ (fun k=>f7_11 F k) (f7_34 F)
  (fun Rj9=>f7_11_eq F Rj9) (f7_34_eq F)
def f7_36(F:Nat):(Dk.D)×(Jr.J)→Rz:=fun v=>f7_10 F (f7_35 F) v
theorem f7_36_eq(F:Nat):∀ v,XAf7 F (bp Tryz.f7 63) (ef7j7 v) Kf52=f7_36 F v:=
 seq_cut (by kernel_rfl) (by kernel_rfl) ef7j7 ef7j8 _ (fun k=>f7_10 F k) (f7_35 F)
  (fun Rj8=>f7_10_eq F Rj8) (f7_35_eq F)
def f7_37(F:Nat):Int×(Dk.D)×(Jr.J)→Rz:=fun v=>f7_9 F (f7_36 F) v
theorem f7_37_eq(F:Nat):∀ v,XAf7 F (bp Tryz.f7 31) (ef7j5 v) Kf52=f7_37 F v:=
 seq_cut (by kernel_rfl) (by kernel_rfl) ef7j5 ef7j7 _ (fun k=>f7_9 F k) (f7_36 F)
  (fun Rj7=>f7_9_eq F Rj7) (f7_36_eq F)
def f7_38(F:Nat):(Dk.D)→Rz:=fun v=>f7_6 F (f7_37 F) v
theorem f7_38_eq(F:Nat):∀ v,XAf7 F (bp Tryz.f7 15) (ef7j4 v) Kf52=f7_38 F v:=
 seq_cut (by kernel_rfl) (by kernel_rfl) ef7j4 ef7j5 _ (fun k=>f7_6 F k) (f7_37 F)
  (fun Rj5=>f7_6_eq F Rj5) (f7_37_eq F)
def f7_39(F:Nat):Int×(Dk.D)→Rz:=fun v=>f7_5 F (f7_38 F) v
theorem f7_39_eq(F:Nat):∀ v,XAf7 F (bp Tryz.f7 7) (ef7j2 v) Kf52=f7_39 F v:=
 seq_cut (by kernel_rfl) (by kernel_rfl) ef7j2 ef7j4 _ (fun k=>f7_5 F k) (f7_38 F)
  (fun Rj4=>f7_5_eq F Rj4) (f7_38_eq F)
def f7_40(F:Nat):Unit→Rz:=fun v=>f7_2 F (f7_39 F) v
theorem f7_40_eq(F:Nat):∀ v,XAf7 F (bp Tryz.f7 3) (ef7j1 v) Kf52=f7_40 F v:=
 seq_cut (by kernel_rfl) (by kernel_rfl) ef7j1 ef7j2 _ (fun k=>f7_2 F k) (f7_39 F)
  (fun Rj2=>f7_2_eq F Rj2) (f7_39_eq F)
def f7_41(F:Nat):Unit→Rz:=fun v=>f7_1 F (f7_40 F) v
theorem f7_41_eq(F:Nat):∀ v,XAf7 F (sub (bodyOf Tryz.f7) []) (ef7_a v) Kf52=f7_41 F v:=
 seq_cut (by kernel_rfl) (by kernel_rfl) ef7_a ef7j1 _ (fun k=>f7_1 F k) (f7_40 F)
  (fun Rj1=>f7_1_eq F Rj1) (f7_40_eq F)
def f7(F:Nat):Unit→Rz:=f7_41 F
theorem f7_body(F:Nat) : abody V7 (Af7 F) Tryz.f7 [] []=f7 F ():=
 (abody_in (by kernel_rfl) (by kernel_rfl)).trans (f7_41_eq F ())
def r7:CRun:=fun X H=>match X,H with
 | [],[]=>some (true,.bool true,[])
 | _,_=>none
theorem s7 : ∃ F,f7 F ()=some ((.bool true),[]):=by
 refine⟨0,?_⟩
 obtain⟨D0,eD0⟩:∃ D,D=Dk.new (4:Int):=⟨_,rfl⟩
 obtain⟨J0,eJ0⟩:∃ J,J=Jr.openS (Jr.secsD D0):=⟨_,rfl⟩
 obtain⟨E1,e1⟩:∃ E,E=Jr.append Jr.DV D0 J0 [97]:=⟨_,rfl⟩
 obtain⟨E2,e2⟩:∃ E,E=Jr.append Jr.DV E1.1 E1.2.1 (Jr.repeat_ [120] (50:Int)):=⟨_,rfl⟩
 obtain⟨D3,eD3⟩:∃ D,D=(Dk.rot E2.1 1 70).1:=⟨_,rfl⟩
 obtain⟨J3,eJ3⟩:∃ J,J=Jr.openS (Jr.secsD D3):=⟨_,rfl⟩
 obtain⟨E4,e4⟩:∃ E,E=Jr.append Jr.DV D3 J3 [98]:=⟨_,rfl⟩
 obtain⟨E5,e5⟩:∃ E,E=Jr.append Jr.DV E4.1 E4.2.1 [99]:=⟨_,rfl⟩
 have X:=Jr.ex_of eD0 eJ0 e1 e2 eD3 eJ3 e4 e5
 obtain⟨c0,k0⟩:=Jr.Both.can X.b0 X.n0
 obtain⟨_,k1⟩:=Jr.Both.can X.b1 X.n1
 obtain⟨c3,k3⟩:=Jr.Both.can X.b3 X.n3
 obtain⟨_,k4⟩:=Jr.Both.can X.b4 X.n4
 simp only [f7,f7_41,f7_1,f7_40,f7_2]
 rw [← eD0,show((decide (0 < (4:Int)))&&(decide ((4:Int) < 4097)))=true from rfl,cond_true]
 simp only [f7_39,f7_5,f7_3,f7_4,f7_38,f7_6]
 rw [show((0:Int) != 0)=false from rfl,cond_false,cond_false,c0,cond_true,← eJ0]
 simp only [f7_37,f7_9,f7_7,f7_8,f7_36,f7_10]
 rw [X.x0,X.n0,X.f0,show((0:Int) != 0)=false from rfl,show((1:Int) != 1)=false from rfl,show((IntKind.i64.wrap (((4:Nat):Int)-(0:Int))) != (4:Int))=false by decide,cond_false,cond_false,cond_false,k0,cond_true,← e1]
 simp only [f7_35,f7_11]
 rw [cond_pos (by decide),k1,cond_true,← e2]
 simp only [f7_34,f7_12]
 rw [X.n2,X.f2]
 simp only [f7_33,f7_13]
 rw [← eD3,X.rot]
 simp only [f7_32,f7_14]
 rw [c3,cond_true,← eJ3]
 simp only [f7_31,f7_17,f7_15,f7_16,f7_30,f7_18]
 simp only [X.a1,X.a2]
 rw [show((IntKind.i64.wrap (((4:Nat):Int)-(3:Int))) != (1:Int))=false by decide,show((0:Int) != 0)=false from rfl,show((1:Int) != 1)=false from rfl,show((2:Int) != 2)=false from rfl]
 simp only [cond_false]
 rw [k3,cond_true,← e4]
 simp only [f7_29,f7_19]
 rw [k4,cond_true,← e5]
 simp only [f7_28,f7_20,f7_27,f7_23,f7_21,f7_22,f7_26,f7_24]
 rw [Jr.pack97]
 simp only [X.a4,X.a5]
 rw [show((0:Int) != 0)=false from rfl,show((3:Int) != 3)=false from rfl,show((21:Int) != 21)=false from rfl,show((([Jr.sector 1 [97] 0].length:Nat):Int) != 1)=false from rfl]
 simp only [cond_false]
 rw [show(decide ((0:Int) < (([Jr.sector 1 [97] 0].length:Nat):Int)))=true from rfl,cond_true]
 simp only [List.getD_cons_zero,Jr.unpack97,f7_25,X.nums,X.texts,X.next,X.bad,X.damaged]
 rfl
theorem c7:CallOk Tryz.prog G36Z 7 r7:=callOk_of mixed tys eV7 Tryz.func7 (by kernel_rfl) (c:=sub (bodyOf Tryz.f7) []) (by kernel_rfl) (by
 intro X H r H' h hX hH
 unfold r7 at h;split at h <;> try contradiction
 ·obtain⟨hp,rfl,rfl⟩:=inj3 h
  obtain⟨F,hF⟩:=s7
  exact⟨Af7 F,(f7_body F).trans hF⟩)
end Go.Am
end
section
namespace Go.Am
open Go Go.Proofs
abbrev sp73:List (Nat×Md):=[(0,.plain),(4,.plain)]
abbrev sp74:List (Nat×Md):=[(0,.plain)]
abbrev Ty63:=Nat×(List (List Li))×Bool×Int
abbrev Ty64:=Nat×(List (List Li))×Bool×Int×Int
abbrev Ty65:=Nat×(List (List Li))×Bool×Int×Int×Li
abbrev Ty67:=Nat×Bool×Int×(List (List Li))
abbrev Ty68:=Int×Nat×Bool×Int×(List (List Li))
abbrev Ty69:=Int×Int×Nat×Bool×Int×(List (List Li))
def lV54:List CEnt:=[]
def V54:Env:=mkEnv T36Z G36Z lV54
noncomputable abbrev Kf53:=kFin V54 none (Tryz.f54).results.toList
theorem eV54:EOk Tryz.prog V54:=eok_mk (by exact trivial)
def Af54(F:Nat):Cuts:={ F:=F,at_:=fun _=>none,join:=fun _=>none }
def ef54_a:Ty63→St:=fun (a0n,a0s,a0o,a0l)=>⟨[(0,.ptr 0 0 3 0 0 0 3)],[(0,(rB a0n 1 a0o a0l)),(1,(.cells (a0n*4) (.rT [.str,.str,.bool,.bool] a0s) true))],2,8,2⟩
def f54_1(F:Nat):Ty63→Rz:=fun (a0n,a0s,a0o,a0l)=>(some ((.int .i64 (↑a0n:Int)),[(rB a0n 1 a0o a0l),(.cells (a0n*4) (.rT [.str,.str,.bool,.bool] a0s) true)]))
theorem f54_1_eq(F:Nat):∀ v,aexec V54 (Af54 F) (sub (bodyOf Tryz.f54) []) (ef54_a v) Kf53=f54_1 F v:=by
 rintro⟨a0n,a0s,a0o,a0l⟩;kernel_rfl
def f54(F:Nat):Ty63→Rz:=f54_1 F
theorem f54_body(F a0n:Nat)(a0s:List (List Li))(a0o:Bool)(a0l:Int):abody V54 (Af54 F) Tryz.f54 [(.ptr 0 0 3 0 0 0 3)] [(rB a0n 1 a0o a0l),(.cells (a0n*4) (.rT [.str,.str,.bool,.bool] a0s) true)]=f54 F (a0n,a0s,a0o,a0l):=
 (abody_in (by kernel_rfl) (by kernel_rfl)).trans (f54_1_eq F (a0n,a0s,a0o,a0l))
def r54:CRun:=fun X H=>match X,H with
 | [(.ptr 0 0 3 0 0 0 3)],[(.cells 3 (.segs (.cons 1 (.one (.own 1 a0n 4)) (.cons 1 (.one (.bool a0o)) (.cons 1 (.one (.int .i64 a0l)) .nil)))) true),(.cells z1 (.rT [.str,.str,.bool,.bool] a0s) true)]=>some ((decide (a0n=a0s.length∧a0n < 8000)),(.int .i64 ((Dk.R.mk a0s a0o a0l).s.length:Int)),[(rB (Dk.R.mk a0s a0o a0l).s.length 1 (Dk.R.mk a0s a0o a0l).off (Dk.R.mk a0s a0o a0l).left),(.cells ((Dk.R.mk a0s a0o a0l).s.length*4) (.rT [.str,.str,.bool,.bool] (Dk.R.mk a0s a0o a0l).s) true)])
 | _,_=>none
theorem s54(a0n:Nat)(a0s:List (List Li))(a0o:Bool)(a0l:Int)(hp:((decide (a0n=a0s.length∧a0n < 8000)))=true)(k0:okB (rB a0n 1 a0o a0l))(k1:okB (.cells (a0n*4) (.rT [.str,.str,.bool,.bool] a0s) true)):∃ F,f54 F (a0n,a0s,a0o,a0l)=some ((.int .i64 ((Dk.R.mk a0s a0o a0l).s.length:Int)),[(rB (Dk.R.mk a0s a0o a0l).s.length 1 (Dk.R.mk a0s a0o a0l).off (Dk.R.mk a0s a0o a0l).left),(.cells ((Dk.R.mk a0s a0o a0l).s.length*4) (.rT [.str,.str,.bool,.bool] (Dk.R.mk a0s a0o a0l).s) true)]):=by
 rw [decide_eq_true_iff] at hp
 exact⟨0,by simp only [f54,f54_1];rw [hp.1]⟩
theorem c54:CallOk Tryz.prog G36Z 54 r54:=callOk_of mixed tys eV54 Tryz.func54 (by kernel_rfl) (c:=sub (bodyOf Tryz.f54) []) (by kernel_rfl) (by
 intro X H r H' h hX hH
 unfold r54 at h;split at h <;> try contradiction
 ·obtain⟨hp,rfl,rfl⟩:=inj3 h
  obtain rfl:=okB_size (hH _ hm1) rfl
  obtain rfl:=(of_decide_eq_true hp).1
  obtain⟨F,hF⟩:=s54 _ _ _ _ hp (hH _ hm0) (hH _ hm1)
  exact⟨Af54 F,(f54_body F _ _ _ _).trans hF⟩)
def lV63:List CEnt:=[]
def V63:Env:=mkEnv T36Z G36Z lV63
noncomputable abbrev Kf54:=kFin V63 none (Tryz.f63).results.toList
theorem eV63:EOk Tryz.prog V63:=eok_mk (by exact trivial)
def Af63(F:Nat):Cuts:={ F:=F,at_:=fun _=>none,join:=fun _=>none }
def ef63_a:Ty64→St:=fun (a0n,a0s,a0o,a0l,a1)=>⟨[(0,.ptr 0 0 3 0 0 0 3),(1,.int .i64 a1)],[(0,(rB a0n 1 a0o a0l)),(1,(.cells (a0n*4) (.rT [.str,.str,.bool,.bool] a0s) true))],2,16,2⟩
def f63_1(F:Nat):Ty64→Rz:=fun (a0n,a0s,a0o,a0l,a1)=>(cond (decide (a1≥(0:Int))) (some ((.bool (decide (a1 < (↑a0n:Int)))),[(rB a0n 1 a0o a0l),(.cells (a0n*4) (.rT [.str,.str,.bool,.bool] a0s) true)])) (some ((.bool false),[(rB a0n 1 a0o a0l),(.cells (a0n*4) (.rT [.str,.str,.bool,.bool] a0s) true)])))
theorem f63_1_eq(F:Nat):∀ v,aexec V63 (Af63 F) (sub (bodyOf Tryz.f63) []) (ef63_a v) Kf54=f63_1 F v:=by
 rintro⟨a0n,a0s,a0o,a0l,a1⟩;kernel_rfl
def f63(F:Nat):Ty64→Rz:=f63_1 F
theorem f63_body(F a0n:Nat)(a0s:List (List Li))(a0o:Bool)(a0l a1:Int):abody V63 (Af63 F) Tryz.f63 [(.ptr 0 0 3 0 0 0 3),.int .i64 a1] [(rB a0n 1 a0o a0l),(.cells (a0n*4) (.rT [.str,.str,.bool,.bool] a0s) true)]=f63 F (a0n,a0s,a0o,a0l,a1):=
 (abody_in (by kernel_rfl) (by kernel_rfl)).trans (f63_1_eq F (a0n,a0s,a0o,a0l,a1))
def r63:CRun:=fun X H=>match X,H with
 | [(.ptr 0 0 3 0 0 0 3),.int .i64 a1],[(.cells 3 (.segs (.cons 1 (.one (.own 1 a0n 4)) (.cons 1 (.one (.bool a0o)) (.cons 1 (.one (.int .i64 a0l)) .nil)))) true),(.cells z1 (.rT [.str,.str,.bool,.bool] a0s) true)]=>some ((decide (a0n=a0s.length∧a0n < 8000)),(.bool (Dk.ris (Dk.R.mk a0s a0o a0l) a1)),[(rB (Dk.R.mk a0s a0o a0l).s.length 1 (Dk.R.mk a0s a0o a0l).off (Dk.R.mk a0s a0o a0l).left),(.cells ((Dk.R.mk a0s a0o a0l).s.length*4) (.rT [.str,.str,.bool,.bool] (Dk.R.mk a0s a0o a0l).s) true)])
 | _,_=>none
theorem s63(a0n:Nat)(a0s:List (List Li))(a0o:Bool)(a0l a1:Int)(hp:((decide (a0n=a0s.length∧a0n < 8000)))=true)(h1:okV (.int .i64 a1))(k0:okB (rB a0n 1 a0o a0l))(k1:okB (.cells (a0n*4) (.rT [.str,.str,.bool,.bool] a0s) true)):∃ F,f63 F (a0n,a0s,a0o,a0l,a1)=some ((.bool (Dk.ris (Dk.R.mk a0s a0o a0l) a1)),[(rB (Dk.R.mk a0s a0o a0l).s.length 1 (Dk.R.mk a0s a0o a0l).off (Dk.R.mk a0s a0o a0l).left),(.cells ((Dk.R.mk a0s a0o a0l).s.length*4) (.rT [.str,.str,.bool,.bool] (Dk.R.mk a0s a0o a0l).s) true)]):=by
 rw [decide_eq_true_iff] at hp
 refine⟨0,?_⟩
 simp only [f63,f63_1,Dk.ris]
 rw [hp.1]
 cases decide (a1≥0) <;> rfl
theorem c63:CallOk Tryz.prog G36Z 63 r63:=callOk_of mixed tys eV63 Tryz.func63 (by kernel_rfl) (c:=sub (bodyOf Tryz.f63) []) (by kernel_rfl) (by
 intro X H r H' h hX hH
 unfold r63 at h;split at h <;> try contradiction
 ·obtain⟨hp,rfl,rfl⟩:=inj3 h
  obtain rfl:=okB_size (hH _ hm1) rfl
  obtain rfl:=(of_decide_eq_true hp).1
  obtain⟨F,hF⟩:=s63 _ _ _ _ _ hp (hX _ hm1) (hH _ hm0) (hH _ hm1)
  exact⟨Af63 F,(f63_body F _ _ _ _ _).trans hF⟩)
def lV66:List CEnt:=[]
def V66:Env:=mkEnv T36Z G36Z lV66
noncomputable abbrev Kf55:=kFin V66 none (Tryz.f66).results.toList
theorem eV66:EOk Tryz.prog V66:=eok_mk (by exact trivial)
def Af66(F:Nat):Cuts:={ F:=F,at_:=fun _=>none,join:=fun _=>none }
def ef66_a:Ty63→St:=fun (a0n,a0s,a0o,a0l)=>⟨[(0,.ptr 0 0 3 0 0 0 3)],[(0,(rB a0n 1 a0o a0l)),(1,(.cells (a0n*4) (.rT [.str,.str,.bool,.bool] a0s) true))],2,23,2⟩
def f66_1(F:Nat):Ty63→Rz:=fun (a0n,a0s,a0o,a0l)=>(cond (a0l==(0:Int)) (some ((.int .i64 22),[(rB a0n 1 true a0l),(.cells (a0n*4) (.rT [.str,.str,.bool,.bool] a0s) true)])) (cond (decide (a0l > (0:Int))) (some ((.int .i64 0),[(rB a0n 1 a0o (IntKind.i64.wrap (a0l-(1:Int)))),(.cells (a0n*4) (.rT [.str,.str,.bool,.bool] a0s) true)])) (some ((.int .i64 0),[(rB a0n 1 a0o a0l),(.cells (a0n*4) (.rT [.str,.str,.bool,.bool] a0s) true)]))))
theorem f66_1_eq(F:Nat):∀ v,aexec V66 (Af66 F) (sub (bodyOf Tryz.f66) []) (ef66_a v) Kf55=f66_1 F v:=by
 rintro⟨a0n,a0s,a0o,a0l⟩;kernel_rfl
def f66(F:Nat):Ty63→Rz:=f66_1 F
theorem f66_body(F a0n:Nat)(a0s:List (List Li))(a0o:Bool)(a0l:Int):abody V66 (Af66 F) Tryz.f66 [(.ptr 0 0 3 0 0 0 3)] [(rB a0n 1 a0o a0l),(.cells (a0n*4) (.rT [.str,.str,.bool,.bool] a0s) true)]=f66 F (a0n,a0s,a0o,a0l):=
 (abody_in (by kernel_rfl) (by kernel_rfl)).trans (f66_1_eq F (a0n,a0s,a0o,a0l))
def r66:CRun:=fun X H=>match X,H with
 | [(.ptr 0 0 3 0 0 0 3)],[(.cells 3 (.segs (.cons 1 (.one (.own 1 a0n 4)) (.cons 1 (.one (.bool a0o)) (.cons 1 (.one (.int .i64 a0l)) .nil)))) true),(.cells z1 (.rT [.str,.str,.bool,.bool] a0s) true)]=>some ((decide (a0n=a0s.length∧a0n < 8000)),(.int .i64 (Dk.rstep (Dk.R.mk a0s a0o a0l)).2),[(rB (Dk.rstep (Dk.R.mk a0s a0o a0l)).1.s.length 1 (Dk.rstep (Dk.R.mk a0s a0o a0l)).1.off (Dk.rstep (Dk.R.mk a0s a0o a0l)).1.left),(.cells ((Dk.rstep (Dk.R.mk a0s a0o a0l)).1.s.length*4) (.rT [.str,.str,.bool,.bool] (Dk.rstep (Dk.R.mk a0s a0o a0l)).1.s) true)])
 | _,_=>none
theorem s66(a0n:Nat)(a0s:List (List Li))(a0o:Bool)(a0l:Int)(hp:((decide (a0n=a0s.length∧a0n < 8000)))=true)(k0:okB (rB a0n 1 a0o a0l))(k1:okB (.cells (a0n*4) (.rT [.str,.str,.bool,.bool] a0s) true)):∃ F,f66 F (a0n,a0s,a0o,a0l)=some ((.int .i64 (Dk.rstep (Dk.R.mk a0s a0o a0l)).2),[(rB (Dk.rstep (Dk.R.mk a0s a0o a0l)).1.s.length 1 (Dk.rstep (Dk.R.mk a0s a0o a0l)).1.off (Dk.rstep (Dk.R.mk a0s a0o a0l)).1.left),(.cells ((Dk.rstep (Dk.R.mk a0s a0o a0l)).1.s.length*4) (.rT [.str,.str,.bool,.bool] (Dk.rstep (Dk.R.mk a0s a0o a0l)).1.s) true)]):=by
 rw [decide_eq_true_iff] at hp
 refine⟨0,?_⟩
 simp only [f66,f66_1,Dk.rstep]
 rw [hp.1]
 cases (a0l==0)
 ·cases (decide (a0l > 0)) <;> rfl
 ·rfl
theorem c66:CallOk Tryz.prog G36Z 66 r66:=callOk_of mixed tys eV66 Tryz.func66 (by kernel_rfl) (c:=sub (bodyOf Tryz.f66) []) (by kernel_rfl) (by
 intro X H r H' h hX hH
 unfold r66 at h;split at h <;> try contradiction
 ·obtain⟨hp,rfl,rfl⟩:=inj3 h
  obtain rfl:=okB_size (hH _ hm1) rfl
  obtain rfl:=(of_decide_eq_true hp).1
  obtain⟨F,hF⟩:=s66 _ _ _ _ hp (hH _ hm0) (hH _ hm1)
  exact⟨Af66 F,(f66_body F _ _ _ _).trans hF⟩)
def lV55:List CEnt:=[(63,[none,none],r63)]
def V55:Env:=mkEnv T36Z G36Z lV55
noncomputable abbrev Kf56:=kFin V55 none (Tryz.f55).results.toList
theorem eV55:EOk Tryz.prog V55:=eok_mk (by exact⟨c63,trivial⟩)
def Af55(F:Nat):Cuts:={ F:=F,at_:=fun _=>none,join:=fun _=>none }
def ef55_a:Ty64→St:=fun (a0n,a0s,a0o,a0l,a1)=>⟨[(0,.ptr 0 0 3 0 0 0 3),(1,.int .i64 a1)],[(0,(rB a0n 1 a0o a0l)),(1,(.cells (a0n*4) (.rT [.str,.str,.bool,.bool] a0s) true))],2,38,2⟩
def f55_1(F:Nat):Ty64→Rz:=fun (a0n,a0s,a0o,a0l,a1)=>(cond a0o (some ((.tup (.cons 0 (.str []) (.cons 0 (.int .i64 22) .nil))),[(rB a0n 1 a0o a0l),(.cells (a0n*4) (.rT [.str,.str,.bool,.bool] a0s) true)])) (cond (decide (a0n=a0s.length∧a0n < 8000)) (cond (!(Dk.ris (Dk.R.mk a0s a0o a0l) a1)) (some ((.tup (.cons 0 (.str []) (.cons 0 (.int .i64 1) .nil))),[(rB (Dk.R.mk a0s a0o a0l).s.length 1 (Dk.R.mk a0s a0o a0l).off (Dk.R.mk a0s a0o a0l).left),(.cells ((Dk.R.mk a0s a0o a0l).s.length*4) (.rT [.str,.str,.bool,.bool] (Dk.R.mk a0s a0o a0l).s) true)])) (cond ((decide (0≤a1))&&(decide (a1 < (↑(Dk.R.mk a0s a0o a0l).s.length:Int)))) (cond (((((Dk.R.mk a0s a0o a0l).s.getD (Int.toNat a1) []).getD 2 []).getD 0 0)==1) (cond ((decide (0≤a1))&&(decide (a1 < (↑(Dk.R.mk a0s a0o a0l).s.length:Int)))) (some ((.tup (.cons 0 (.str (((Dk.R.mk a0s a0o a0l).s.getD (Int.toNat a1) []).getD 1 [])) (.cons 0 (.int .i64 0) .nil))),[(rB (Dk.R.mk a0s a0o a0l).s.length 1 (Dk.R.mk a0s a0o a0l).off (Dk.R.mk a0s a0o a0l).left),(.cells ((Dk.R.mk a0s a0o a0l).s.length*4) (.rT [.str,.str,.bool,.bool] (Dk.R.mk a0s a0o a0l).s) true)])) none) (cond ((decide (0≤a1))&&(decide (a1 < (↑(Dk.R.mk a0s a0o a0l).s.length:Int)))) (some ((.tup (.cons 0 (.str (((Dk.R.mk a0s a0o a0l).s.getD (Int.toNat a1) []).getD 0 [])) (.cons 0 (.int .i64 0) .nil))),[(rB (Dk.R.mk a0s a0o a0l).s.length 1 (Dk.R.mk a0s a0o a0l).off (Dk.R.mk a0s a0o a0l).left),(.cells ((Dk.R.mk a0s a0o a0l).s.length*4) (.rT [.str,.str,.bool,.bool] (Dk.R.mk a0s a0o a0l).s) true)])) none)) none)) none))
theorem f55_1_eq(F:Nat):∀ v,aexec V55 (Af55 F) (sub (bodyOf Tryz.f55) []) (ef55_a v) Kf56=f55_1 F v:=by
 rintro⟨a0n,a0s,a0o,a0l,a1⟩;kernel_rfl
def f55(F:Nat):Ty64→Rz:=f55_1 F
theorem f55_body(F a0n:Nat)(a0s:List (List Li))(a0o:Bool)(a0l a1:Int):abody V55 (Af55 F) Tryz.f55 [(.ptr 0 0 3 0 0 0 3),.int .i64 a1] [(rB a0n 1 a0o a0l),(.cells (a0n*4) (.rT [.str,.str,.bool,.bool] a0s) true)]=f55 F (a0n,a0s,a0o,a0l,a1):=
 (abody_in (by kernel_rfl) (by kernel_rfl)).trans (f55_1_eq F (a0n,a0s,a0o,a0l,a1))
def r55:CRun:=fun X H=>match X,H with
 | [(.ptr 0 0 3 0 0 0 3),.int .i64 a1],[(.cells 3 (.segs (.cons 1 (.one (.own 1 a0n 4)) (.cons 1 (.one (.bool a0o)) (.cons 1 (.one (.int .i64 a0l)) .nil)))) true),(.cells z1 (.rT [.str,.str,.bool,.bool] a0s) true)]=>some ((decide (a0n=a0s.length∧a0n < 8000)),(.tup (.cons 0 (.str (Dk.rread (Dk.R.mk a0s a0o a0l) a1).1) (.cons 0 (.int .i64 (Dk.rread (Dk.R.mk a0s a0o a0l) a1).2) .nil))),[(rB (Dk.R.mk a0s a0o a0l).s.length 1 (Dk.R.mk a0s a0o a0l).off (Dk.R.mk a0s a0o a0l).left),(.cells ((Dk.R.mk a0s a0o a0l).s.length*4) (.rT [.str,.str,.bool,.bool] (Dk.R.mk a0s a0o a0l).s) true)])
 | _,_=>none
theorem s55(a0n:Nat)(a0s:List (List Li))(a0o:Bool)(a0l a1:Int)(hp:((decide (a0n=a0s.length∧a0n < 8000)))=true)(h1:okV (.int .i64 a1))(k0:okB (rB a0n 1 a0o a0l))(k1:okB (.cells (a0n*4) (.rT [.str,.str,.bool,.bool] a0s) true)):∃ F,f55 F (a0n,a0s,a0o,a0l,a1)=some ((.tup (.cons 0 (.str (Dk.rread (Dk.R.mk a0s a0o a0l) a1).1) (.cons 0 (.int .i64 (Dk.rread (Dk.R.mk a0s a0o a0l) a1).2) .nil))),[(rB (Dk.R.mk a0s a0o a0l).s.length 1 (Dk.R.mk a0s a0o a0l).off (Dk.R.mk a0s a0o a0l).left),(.cells ((Dk.R.mk a0s a0o a0l).s.length*4) (.rT [.str,.str,.bool,.bool] (Dk.R.mk a0s a0o a0l).s) true)]):=by
 refine⟨0,?_⟩
 simp only [f55,f55_1,Dk.rread,hp,cond_true]
 rw [decide_eq_true_iff] at hp
 cases a0o
 ·cases h:Dk.ris (Dk.R.mk a0s false a0l) a1
  ·rfl
  ·have e:(decide (0≤a1)&&decide (a1 < (a0s.length:Int)))=true:=by rw [dec_and,decide_eq_true_iff];exact Dk.ris_iff.1 h
   simp only [e,cond_true,cond_false,Bool.not_true]
   cases hd:(((a0s.getD (Int.toNat a1) []).getD 2 []).getD 0 0==1) <;> simp only [Dk.fD,Dk.fN,Dk.fT,Dk.R.at,hd,cond_true,cond_false]
 ·rw [hp.1];rfl
theorem c55:CallOk Tryz.prog G36Z 55 r55:=callOk_of mixed tys eV55 Tryz.func55 (by kernel_rfl) (c:=sub (bodyOf Tryz.f55) []) (by kernel_rfl) (by
 intro X H r H' h hX hH
 unfold r55 at h;split at h <;> try contradiction
 ·obtain⟨hp,rfl,rfl⟩:=inj3 h
  obtain rfl:=okB_size (hH _ hm1) rfl
  obtain rfl:=(of_decide_eq_true hp).1
  obtain⟨F,hF⟩:=s55 _ _ _ _ _ hp (hX _ hm1) (hH _ hm0) (hH _ hm1)
  exact⟨Af55 F,(f55_body F _ _ _ _ _).trans hF⟩)
def lV33:List CEnt:=[(63,[none,none],r63),(66,[none],r66)]
def V33:Env:=mkEnv T36Z G36Z lV33
noncomputable abbrev Kf57:=kFin V33 none (Tryz.f33).results.toList
theorem eV33:EOk Tryz.prog V33:=eok_mk (by exact⟨c63,c66,trivial⟩)
def Af33(F:Nat):Cuts:={ F:=F,at_:=fun _=>none,join:=fun _=>none }
def ef33_a:Ty65→St:=fun (a0n,a0s,a0o,a0l,a1,a2)=>⟨[(0,.ptr 0 0 3 0 0 0 3),(1,.int .i64 a1),(2,.str a2)],[(0,(rB a0n 1 a0o a0l)),(1,(.cells (a0n*4) (.rT [.str,.str,.bool,.bool] a0s) true))],2,41,2⟩
def f33_1(F:Nat):Ty65→Rz:=fun (a0n,a0s,a0o,a0l,a1,a2)=>(cond a0o (some ((.int .i64 22),[(rB a0n 1 a0o a0l),(.cells (a0n*4) (.rT [.str,.str,.bool,.bool] a0s) true)])) (cond (decide (a0n=a0s.length∧a0n < 8000)) (cond (!(Dk.ris (Dk.R.mk a0s a0o a0l) a1)) (some ((.int .i64 1),[(rB (Dk.R.mk a0s a0o a0l).s.length 1 (Dk.R.mk a0s a0o a0l).off (Dk.R.mk a0s a0o a0l).left),(.cells ((Dk.R.mk a0s a0o a0l).s.length*4) (.rT [.str,.str,.bool,.bool] (Dk.R.mk a0s a0o a0l).s) true)])) (cond ((↑a2.length:Int) != (64:Int)) (some ((.int .i64 1),[(rB (Dk.R.mk a0s a0o a0l).s.length 1 (Dk.R.mk a0s a0o a0l).off (Dk.R.mk a0s a0o a0l).left),(.cells ((Dk.R.mk a0s a0o a0l).s.length*4) (.rT [.str,.str,.bool,.bool] (Dk.R.mk a0s a0o a0l).s) true)])) (cond (decide ((Dk.R.mk a0s a0o a0l).s.length=(Dk.R.mk a0s a0o a0l).s.length∧(Dk.R.mk a0s a0o a0l).s.length < 8000)) (cond ((Dk.rstep (Dk.R.mk a0s a0o a0l)).2 != (0:Int)) (some ((.int .i64 (Dk.rstep (Dk.R.mk a0s a0o a0l)).2),[(rB (Dk.rstep (Dk.R.mk a0s a0o a0l)).1.s.length 1 (Dk.rstep (Dk.R.mk a0s a0o a0l)).1.off (Dk.rstep (Dk.R.mk a0s a0o a0l)).1.left),(.cells ((Dk.rstep (Dk.R.mk a0s a0o a0l)).1.s.length*4) (.rT [.str,.str,.bool,.bool] (Dk.rstep (Dk.R.mk a0s a0o a0l)).1.s) true)])) (cond ((decide (0≤a1))&&(decide (a1 < (↑(Dk.rstep (Dk.R.mk a0s a0o a0l)).1.s.length:Int)))) (cond ((decide (0≤a1))&&(decide (a1 < (↑(Dk.rstep (Dk.R.mk a0s a0o a0l)).1.s.length:Int)))) (some ((.int .i64 0),[(rB (Dk.rstep (Dk.R.mk a0s a0o a0l)).1.s.length 1 (Dk.rstep (Dk.R.mk a0s a0o a0l)).1.off (Dk.rstep (Dk.R.mk a0s a0o a0l)).1.left),(.cells ((Dk.rstep (Dk.R.mk a0s a0o a0l)).1.s.length*4) (.rT [.str,.str,.bool,.bool] (((Dk.rstep (Dk.R.mk a0s a0o a0l)).1.s.set (Int.toNat a1) (tput ((Dk.rstep (Dk.R.mk a0s a0o a0l)).1.s.getD (Int.toNat a1) []) 1 a2)).set (Int.toNat a1) (tput (((Dk.rstep (Dk.R.mk a0s a0o a0l)).1.s.set (Int.toNat a1) (tput ((Dk.rstep (Dk.R.mk a0s a0o a0l)).1.s.getD (Int.toNat a1) []) 1 a2)).getD (Int.toNat a1) []) 2 [1]))) true)])) none) none)) none))) none))
theorem f33_1_eq(F:Nat):∀ v,aexec V33 (Af33 F) (sub (bodyOf Tryz.f33) []) (ef33_a v) Kf57=f33_1 F v:=by
 rintro⟨a0n,a0s,a0o,a0l,a1,a2⟩;kernel_rfl
def f33(F:Nat):Ty65→Rz:=f33_1 F
theorem f33_body(F a0n:Nat)(a0s:List (List Li))(a0o:Bool)(a0l a1:Int)(a2:Li):abody V33 (Af33 F) Tryz.f33 [(.ptr 0 0 3 0 0 0 3),.int .i64 a1,.str a2] [(rB a0n 1 a0o a0l),(.cells (a0n*4) (.rT [.str,.str,.bool,.bool] a0s) true)]=f33 F (a0n,a0s,a0o,a0l,a1,a2):=
 (abody_in (by kernel_rfl) (by kernel_rfl)).trans (f33_1_eq F (a0n,a0s,a0o,a0l,a1,a2))
def r33:CRun:=fun X H=>match X,H with
 | [(.ptr 0 0 3 0 0 0 3),.int .i64 a1,.str a2],[(.cells 3 (.segs (.cons 1 (.one (.own 1 a0n 4)) (.cons 1 (.one (.bool a0o)) (.cons 1 (.one (.int .i64 a0l)) .nil)))) true),(.cells z1 (.rT [.str,.str,.bool,.bool] a0s) true)]=>some ((decide (a0n=a0s.length∧a0n < 8000)),(.int .i64 (Dk.rwrite (Dk.R.mk a0s a0o a0l) a1 a2).2),[(rB (Dk.rwrite (Dk.R.mk a0s a0o a0l) a1 a2).1.s.length 1 (Dk.rwrite (Dk.R.mk a0s a0o a0l) a1 a2).1.off (Dk.rwrite (Dk.R.mk a0s a0o a0l) a1 a2).1.left),(.cells ((Dk.rwrite (Dk.R.mk a0s a0o a0l) a1 a2).1.s.length*4) (.rT [.str,.str,.bool,.bool] (Dk.rwrite (Dk.R.mk a0s a0o a0l) a1 a2).1.s) true)])
 | _,_=>none
theorem s33(a0n:Nat)(a0s:List (List Li))(a0o:Bool)(a0l a1:Int)(a2:Li)(hp:((decide (a0n=a0s.length∧a0n < 8000)))=true)(h1:okV (.int .i64 a1))(h2:okV (.str a2))(k0:okB (rB a0n 1 a0o a0l))(k1:okB (.cells (a0n*4) (.rT [.str,.str,.bool,.bool] a0s) true)):∃ F,f33 F (a0n,a0s,a0o,a0l,a1,a2)=some ((.int .i64 (Dk.rwrite (Dk.R.mk a0s a0o a0l) a1 a2).2),[(rB (Dk.rwrite (Dk.R.mk a0s a0o a0l) a1 a2).1.s.length 1 (Dk.rwrite (Dk.R.mk a0s a0o a0l) a1 a2).1.off (Dk.rwrite (Dk.R.mk a0s a0o a0l) a1 a2).1.left),(.cells ((Dk.rwrite (Dk.R.mk a0s a0o a0l) a1 a2).1.s.length*4) (.rT [.str,.str,.bool,.bool] (Dk.rwrite (Dk.R.mk a0s a0o a0l) a1 a2).1.s) true)]):=by
 refine⟨0,?_⟩
 simp only [f33,f33_1,Dk.rwrite,hp,cond_true]
 rw [decide_eq_true_iff] at hp
 cases a0o
 ·simp only [cond_false]
  have hs:decide (True∧a0s.length < 8000)=true:=by
   rw [decide_eq_true_iff];exact⟨trivial,by rw [← hp.1];exact hp.2⟩
  rw [hs]
  cases h:Dk.ris (Dk.R.mk a0s false a0l) a1
  ·rfl
  ·have e:(decide (0≤a1)&&decide (a1 < ((Dk.rstep (Dk.R.mk a0s false a0l)).1.s.length:Int)))=true:=by
    rw [Dk.rstep_same,dec_and,decide_eq_true_iff];exact Dk.ris_iff.1 h
   simp only [e,cond_true,cond_false,Bool.not_true]
   cases ((a2.length:Int) != 64)
   ·cases ((Dk.rstep (Dk.R.mk a0s false a0l)).2 != 0)
    ·simp only [cond_false,Dk.wput,List.length_set]
    ·rfl
   ·rfl
 ·rw [hp.1];rfl
theorem c33:CallOk Tryz.prog G36Z 33 r33:=callOk_of mixed tys eV33 Tryz.func33 (by kernel_rfl) (c:=sub (bodyOf Tryz.f33) []) (by kernel_rfl) (by
 intro X H r H' h hX hH
 unfold r33 at h;split at h <;> try contradiction
 ·obtain⟨hp,rfl,rfl⟩:=inj3 h
  obtain rfl:=okB_size (hH _ hm1) rfl
  obtain rfl:=(of_decide_eq_true hp).1
  obtain⟨F,hF⟩:=s33 _ _ _ _ _ _ hp (hX _ hm1) (hX _ hm2) (hH _ hm0) (hH _ hm1)
  exact⟨Af33 F,(f33_body F _ _ _ _ _ _).trans hF⟩)
def lV21:List CEnt:=[]
def V21:Env:=mkEnv T36Z G36Z lV21
noncomputable abbrev Kf60:=kFin V21 none (Tryz.f21).results.toList
theorem eV21:EOk Tryz.prog V21:=eok_mk (by exact trivial)
def Af21(F:Nat):Cuts:={ F:=F,at_:=fun n=>match n with | 5010=>some sp55 | _=>none,join:=fun n=>match n with | 1028=>some sp74 | 3020=>some sp74 | 4018=>some sp73 | 5012=>some sp55 | 8003=>some [(4,.plain)] | _=>none }
noncomputable abbrev XAf21(F:Nat){α:Type}:=@aexec α V21 (Af21 F)
def ef21_a:Int→St:=fun a0=>⟨[(0,.int .i64 a0)],[],0,32,0⟩
def ef21j1:Int→St:=fun t0=>⟨[(0,.int .i64 t0)],[],0,32,0⟩
def ef21j2:Int→St:=ef21j1
def ef21j3:Ty68→St:=fun (t0,x2,x3,x4,x5)=>⟨[(0,.int .i64 t0),(4,.ptr 0 0 3 0 0 0 3)],[(0,(rB x2 1 x3 x4)),(1,(.cells (x2*4) (.rT [.str,.str,.bool,.bool] x5) true))],2,32,0⟩
def ef21j4:Ty69→St:=fun (t0,t5,x3,x4,x5,x6)=>⟨[(0,.int .i64 t0),(4,.ptr 0 0 3 0 0 0 3),(5,.int .i64 t5)],[(0,(rB x3 1 x4 x5)),(1,(.cells (x3*4) (.rT [.str,.str,.bool,.bool] x6) true))],2,32,0⟩
def ef21l1:Ty69→St:=ef21j4
def ef21j5:Ty67→St:=fun (x1,x2,x3,x4)=>⟨[(4,.ptr 0 0 3 0 0 0 3)],[(0,(rB x1 1 x2 x3)),(1,(.cells (x1*4) (.rT [.str,.str,.bool,.bool] x4) true))],2,32,0⟩
def f21_1(F:Nat)(kj1:Int→Rz):Int→Rz:=fun a0=>(kj1 a0)
theorem f21_1_eq(F:Nat)(Rj1:St→Rz):∀ v,XAf21 F (bp Tryz.f21 2) (ef21_a v) (kSeq (kc V21 Rj1 sp74) Kf60)=f21_1 F (Rj1∘ef21j1) v:=by
 intro a0;kernel_rfl
def f21_2(F:Nat)(kj2:Int→Rz):Int→Rz:=fun t0=>(cond (decide (t0 < (1:Int))) (some ((.tup (.cons 0 .nilp (.cons 0 (.int .i64 1) .nil))),[])) (cond (decide (t0 > (4096:Int))) (some ((.tup (.cons 0 .nilp (.cons 0 (.int .i64 1) .nil))),[])) (kj2 t0)))
theorem f21_2_eq(F:Nat)(Rj2:St→Rz):∀ v,XAf21 F (bp Tryz.f21 6) (ef21j1 v) (kSeq (kc V21 Rj2 sp74) Kf60)=f21_2 F (Rj2∘ef21j2) v:=by
 intro t0;kernel_rfl
def f21_3(F:Nat)(kj3:Ty68→Rz):Int→Rz:=fun t0=>(kj3 (t0,0,false,(-1:Int),[]))
theorem f21_3_eq(F:Nat)(Rj3:St→Rz):∀ v,XAf21 F (bp Tryz.f21 14) (ef21j2 v) (kSeq (kc V21 Rj3 sp73) Kf60)=f21_3 F (Rj3∘ef21j3) v:=by
 intro t0;kernel_rfl
def f21_4(F:Nat)(kj4:Ty69→Rz)(kj5:Ty67→Rz):Ty68→Rz:=fun (t0,x2,x3,x4,x5)=>(kj4 (t0,(0:Int),x2,x3,x4,x5))
theorem f21_4_eq(F:Nat)(Rj4 Rj5:St→Rz):∀ v,XAf21 F (bp Tryz.f21 60) (ef21j3 v) (kSeq (kc V21 Rj4 sp55) (kSeq (kc V21 Rj5 [(4,.plain)]) Kf60))=f21_4 F (Rj4∘ef21j4) (Rj5∘ef21j5) v:=by
 rintro⟨t0,x2,x3,x4,x5⟩;kernel_rfl
def f21_5(F:Nat)(kl1:Ty69→Rz)(kj5:Ty67→Rz):Ty69→Rz:=fun (t0,t5,x3,x4,x5,x6)=>(cond (decide (t5 < t0)) (cond (decide ((x3+1) < 1073741824)) (kl1 (t0,(IntKind.i64.wrap (t5+(1:Int))),(x3+1),x4,x5,(x6++[[(List.replicate 64 0),[],[0],[0]]]))) none) (kj5 (x3,x4,x5,x6)))
theorem f21_5_eq(F:Nat)(Rl1 Rj5:St→Rz):∀ v,XAf21 F (bp Tryz.f21 244) (ef21l1 v) (kSeq (kc V21 Rl1 sp55) (kBlock 0 (kSeq (kc V21 Rj5 [(4,.plain)]) Kf60)))=f21_5 F (Rl1∘ef21l1) (Rj5∘ef21j5) v:=by
 rintro⟨t0,t5,x3,x4,x5,x6⟩;kernel_rfl
def f21_6_i:Ty69→Int×Int×Nat×Bool×Int×(List (List Li)):=fun (t0,t5,x3,x4,x5,x6)=>(t0,t5,x3,x4,x5,x6)
def f21_6(F:Nat)(kj5:Ty67→Rz):Ty69→Rz:=fun v=>loopN (fun k=>f21_5 F k kj5) F (f21_6_i v)
theorem f21_6_eq(F:Nat)(Rj5:St→Rz):∀ v,XAf21 F (bp Tryz.f21 122) (ef21j4 v) (kBlock 0 (kSeq (kc V21 Rj5 [(4,.plain)]) Kf60))=f21_6 F (Rj5∘ef21j5) v:=
 loop_cut (by kernel_rfl) (by kernel_rfl) ef21j4 ef21l1 _ f21_6_i (fun k=>f21_5 F k (Rj5∘ef21j5))
  (by rintro⟨t0,t5,x3,x4,x5,x6⟩;kernel_rfl) (fun Rl1=>f21_5_eq F Rl1 Rj5)
def f21_7(F:Nat)(kj5:Ty67→Rz):Ty69→Rz:=f21_6 F kj5
theorem f21_7_eq(F:Nat)(Rj5:St→Rz):∀ v,XAf21 F (bp Tryz.f21 61) (ef21j4 v) (kSeq (kc V21 Rj5 [(4,.plain)]) Kf60)=f21_7 F (Rj5∘ef21j5) v:=fun v=>
 (block_in  (by kernel_rfl) _ _).trans (f21_6_eq F Rj5 v)
def f21_8(F:Nat)(kj5:Ty67→Rz):Ty68→Rz:=fun v=>f21_4 F (f21_7 F kj5) kj5 v
theorem f21_8_eq(F:Nat)(Rj5:St→Rz):∀ v,XAf21 F (bp Tryz.f21 30) (ef21j3 v) (kSeq (kc V21 Rj5 [(4,.plain)]) Kf60)=f21_8 F (Rj5∘ef21j5) v:=
 seq_cut (by kernel_rfl) (by kernel_rfl) ef21j3 ef21j4 _ (fun k=>f21_4 F k (Rj5∘ef21j5)) (f21_7 F (Rj5∘ef21j5))
  (fun Rj4=>f21_4_eq F Rj4 Rj5) (f21_7_eq F Rj5)
def f21_9(F:Nat):Ty67→Rz:=fun (x1,x2,x3,x4)=>(some ((.tup (.cons 0 (.ptr 0 0 3 0 0 0 3) (.cons 0 (.int .i64 0) .nil))),[(rB x1 1 x2 x3),(.cells (x1*4) (.rT [.str,.str,.bool,.bool] x4) true)]))
theorem f21_9_eq(F:Nat):∀ v,XAf21 F (bp Tryz.f21 31) (ef21j5 v) Kf60=f21_9 F v:=by
 rintro⟨x1,x2,x3,x4⟩;kernel_rfl
def f21_10(F:Nat):Ty68→Rz:=fun v=>f21_8 F (f21_9 F) v
theorem f21_10_eq(F:Nat):∀ v,XAf21 F (bp Tryz.f21 15) (ef21j3 v) Kf60=f21_10 F v:=
 seq_cut (by kernel_rfl) (by kernel_rfl) ef21j3 ef21j5 _ (fun k=>f21_8 F k) (f21_9 F)
  (fun Rj5=>f21_8_eq F Rj5) (f21_9_eq F)
def f21_11(F:Nat):Int→Rz:=fun v=>f21_3 F (f21_10 F) v
theorem f21_11_eq(F:Nat):∀ v,XAf21 F (bp Tryz.f21 7) (ef21j2 v) Kf60=f21_11 F v:=
 seq_cut (by kernel_rfl) (by kernel_rfl) ef21j2 ef21j3 _ (fun k=>f21_3 F k) (f21_10 F)
  (fun Rj3=>f21_3_eq F Rj3) (f21_10_eq F)
def f21_12(F:Nat):Int→Rz:=fun v=>f21_2 F (f21_11 F) v
theorem f21_12_eq(F:Nat):∀ v,XAf21 F (bp Tryz.f21 3) (ef21j1 v) Kf60=f21_12 F v:=
 seq_cut (by kernel_rfl) (by kernel_rfl) ef21j1 ef21j2 _ (fun k=>f21_2 F k) (f21_11 F)
  (fun Rj2=>f21_2_eq F Rj2) (f21_11_eq F)
def f21_13(F:Nat):Int→Rz:=fun v=>f21_1 F (f21_12 F) v
theorem f21_13_eq(F:Nat):∀ v,XAf21 F (sub (bodyOf Tryz.f21) []) (ef21_a v) Kf60=f21_13 F v:=
 seq_cut (by kernel_rfl) (by kernel_rfl) ef21_a ef21j1 _ (fun k=>f21_1 F k) (f21_12 F)
  (fun Rj1=>f21_1_eq F Rj1) (f21_12_eq F)
def f21(F:Nat):Int→Rz:=f21_13 F
theorem f21_body(F:Nat)(a0:Int):abody V21 (Af21 F) Tryz.f21 [(.int .i64 a0)] []=f21 F a0:=
 (abody_in (c:=(sub (bodyOf Tryz.f21) [])) (by kernel_rfl) (s:=ef21_a a0) (by kernel_rfl)).trans (f21_13_eq F a0)
def r21:CRun:=fun X H=>match X,H with
 | [(.int .i64 a0)],[]=>some ((decide (0 < a0))&&(decide (a0 < 4097)),(.tup (.cons 0 (.ptr 0 0 3 0 0 0 3) (.cons 0 (.int .i64 0) .nil))),[(rB (Dk.rnew a0).s.length 1 (Dk.rnew a0).off (Dk.rnew a0).left),(.cells ((Dk.rnew a0).s.length*4) (.rT [.str,.str,.bool,.bool] (Dk.rnew a0).s) true)])
 | _,_=>none
theorem s21(a0:Int)(hp:((decide (0 < a0))&&(decide (a0 < 4097)))=true)(h0:okV (.int .i64 a0)):∃ F,f21 F a0=some ((.tup (.cons 0 (.ptr 0 0 3 0 0 0 3) (.cons 0 (.int .i64 0) .nil))),[(rB (Dk.rnew a0).s.length 1 (Dk.rnew a0).off (Dk.rnew a0).left),(.cells ((Dk.rnew a0).s.length*4) (.rT [.str,.str,.bool,.bool] (Dk.rnew a0).s) true)]):=by
 rw [dec_and,decide_eq_true_iff] at hp
 obtain⟨n,rfl⟩:∃ n:Nat,a0=(n:Int):=⟨a0.toNat,by omega⟩
 refine⟨n+1,?_⟩
 simp only [f21,f21_13,f21_1,f21_12,f21_2,f21_11,f21_3,f21_10,f21_8,f21_9,f21_4,f21_7,f21_6,f21_6_i]
 rw [cond_neg (by omega),cond_neg (by omega)]
 refine loopN_from (fun k=>((n:Int),(k:Int),k,false,(-1:Int),List.replicate k [List.replicate 64 0,[],[0],[0]])) n (by rfl) (fun k hk K=>?_) (fun K=>?_) (n+1) (by omega)
 ·simp only [f21_5,i64w (show -9223372036854775808≤(k:Int)+1 by omega) (by omega)]
  have e:List.replicate (k+1) ([List.replicate 64 0,[],[0],[0]]:List Li)=List.replicate k [List.replicate 64 0,[],[0],[0]]++[[List.replicate 64 0,[],[0],[0]]]:=List.replicate_succ'
  rw [cond_pos (show(k:Int) < (n:Int) by omega),cond_pos (by omega),e]
  rfl
 ·simp only [f21_5]
  rw [cond_neg (by omega)]
  simp only [f21_9,Dk.rnew,Int.toNat_natCast,List.length_replicate]
theorem c21:CallOk Tryz.prog G36Z 21 r21:=callOk_of mixed tys eV21 Tryz.func21 (by kernel_rfl) (c:=sub (bodyOf Tryz.f21) []) (by kernel_rfl) (by
 intro X H r H' h hX hH
 unfold r21 at h;split at h <;> try contradiction
 ·obtain⟨hp,rfl,rfl⟩:=inj3 h
  obtain⟨F,hF⟩:=s21 _ hp (hX _ hm0)
  exact⟨Af21 F,(f21_body F _).trans hF⟩)
end Go.Am
end
section
namespace Go.Am
open Go Go.Proofs
abbrev sp75:List (Nat×Md):=[(0,.plain),(2,.plain),(3,.plain),(4,.plain),(5,.plain)]
abbrev Ty70:=Li×Int×Int×Int×Li×Bool
abbrev Ty71:=Li×Int×Int×Int×Li×Bool×Int×Int×Int×Li×Bool
abbrev Ty72:=Li×Int×Int×Int×Int×Li×Bool×Int×Int×Int×Li×Bool
abbrev Ty73:=Li×Int×Int×Int×Int×Int×Li×Bool×Int×Int×Int×Li×Bool
def lV52:List CEnt:=[(82,[none],r82),(83,[some 5],r83)]
def V52:Env:=mkEnv T36Z G37Z lV52
noncomputable abbrev Kf61:=kFin V52 none (Tryz.f52).results.toList
theorem eV52:EOk Tryz.prog V52:=eok_mk (by exact⟨c82.more gsub,c83,trivial⟩)
def Af52(F:Nat):Cuts:={ F:=F,at_:=fun n=>match n with | 10016=>some sp75 | _=>none,join:=fun n=>match n with | 1052=>some sp23 | 3044=>some sp23 | 4042=>some sp2 | 6034=>some sp2 | 7032=>some sp21 | 9026=>some sp21 | 10018=>some sp75 | 14005=>some sp21 | _=>none }
noncomputable abbrev XAf52(F:Nat){α:Type}:=@aexec α V52 (Af52 F)
def ef52_a:Li→St:=fun a0=>⟨[(0,.str a0)],[],0,77,0⟩
def ef52j1:Ty70→St:=fun (t0,x2,x3,x4,x5,x6)=>⟨[(0,.str t0),(2,.ptr 0 0 5 0 0 0 5)],[(0,(.cells 5 (.segs (.cons 1 (.one (.int .i64 x2)) (.cons 1 (.one (.int .i64 x3)) (.cons 1 (.one (.int .i64 x4)) (.cons 1 (.one (.str x5)) (.cons 1 (.one (.bool x6)) .nil)))))) true))],1,77,0⟩
def ef52j2:Ty70→St:=ef52j1
def ef52j3:Ty71→St:=fun (t0,x2,x3,x4,x5,x6,x7,x8,x9,x10,x11)=>⟨[(0,.str t0),(2,.ptr 0 0 5 0 0 0 5),(3,.ptr 1 0 5 0 0 0 5)],[(0,(.cells 5 (.segs (.cons 1 (.one (.int .i64 x2)) (.cons 1 (.one (.int .i64 x3)) (.cons 1 (.one (.int .i64 x4)) (.cons 1 (.one (.str x5)) (.cons 1 (.one (.bool x6)) .nil)))))) true)),(1,(.cells 5 (.segs (.cons 1 (.one (.int .i64 x7)) (.cons 1 (.one (.int .i64 x8)) (.cons 1 (.one (.int .i64 x9)) (.cons 1 (.one (.str x10)) (.cons 1 (.one (.bool x11)) .nil)))))) true))],2,77,0⟩
def ef52j4:Ty71→St:=ef52j3
def ef52j5:Ty72→St:=fun (t0,t4,x3,x4,x5,x6,x7,x8,x9,x10,x11,x12)=>⟨[(0,.str t0),(2,.ptr 0 0 5 0 0 0 5),(3,.ptr 1 0 5 0 0 0 5),(4,.int .i64 t4)],[(0,(.cells 5 (.segs (.cons 1 (.one (.int .i64 x3)) (.cons 1 (.one (.int .i64 x4)) (.cons 1 (.one (.int .i64 x5)) (.cons 1 (.one (.str x6)) (.cons 1 (.one (.bool x7)) .nil)))))) true)),(1,(.cells 5 (.segs (.cons 1 (.one (.int .i64 x8)) (.cons 1 (.one (.int .i64 x9)) (.cons 1 (.one (.int .i64 x10)) (.cons 1 (.one (.str x11)) (.cons 1 (.one (.bool x12)) .nil)))))) true))],2,77,0⟩
def ef52j6:Ty72→St:=ef52j5
def ef52j7:Ty73→St:=fun (t0,t4,t5,x4,x5,x6,x7,x8,x9,x10,x11,x12,x13)=>⟨[(0,.str t0),(2,.ptr 0 0 5 0 0 0 5),(3,.ptr 1 0 5 0 0 0 5),(4,.int .i64 t4),(5,.int .i64 t5)],[(0,(.cells 5 (.segs (.cons 1 (.one (.int .i64 x4)) (.cons 1 (.one (.int .i64 x5)) (.cons 1 (.one (.int .i64 x6)) (.cons 1 (.one (.str x7)) (.cons 1 (.one (.bool x8)) .nil)))))) true)),(1,(.cells 5 (.segs (.cons 1 (.one (.int .i64 x9)) (.cons 1 (.one (.int .i64 x10)) (.cons 1 (.one (.int .i64 x11)) (.cons 1 (.one (.str x12)) (.cons 1 (.one (.bool x13)) .nil)))))) true))],2,77,0⟩
def ef52l1:Ty73→St:=ef52j7
def ef52j8:Ty72→St:=ef52j5
def f52_1(F:Nat)(kj1:Ty70→Rz):Li→Rz:=fun a0=>(kj1 (a0,(0:Int),(0:Int),(0:Int),[],false))
theorem f52_1_eq(F:Nat)(Rj1:St→Rz):∀ v,XAf52 F (bp Tryz.f52 2) (ef52_a v) (kSeq (kc V52 Rj1 sp23) Kf61)=f52_1 F (Rj1∘ef52j1) v:=by
 intro a0;kernel_rfl
def f52_2(F:Nat)(kj2:Ty70→Rz):Ty70→Rz:=fun (t0,x2,x3,x4,x5,x6)=>(cond ((↑t0.length:Int) != (64:Int)) (some ((.agg 5 (.segs (.cons 1 (.one (.int .i64 0)) (.cons 1 (.one (.int .i64 0)) (.cons 1 (.one (.int .i64 0)) (.cons 1 (.one (.str [])) (.cons 1 (.one (.bool false)) .nil))))))),[])) (kj2 (t0,x2,x3,x4,x5,x6)))
theorem f52_2_eq(F:Nat)(Rj2:St→Rz):∀ v,XAf52 F (bp Tryz.f52 6) (ef52j1 v) (kSeq (kc V52 Rj2 sp23) Kf61)=f52_2 F (Rj2∘ef52j2) v:=by
 rintro⟨t0,x2,x3,x4,x5,x6⟩;kernel_rfl
def f52_3(F:Nat)(kj3:Ty71→Rz):Ty70→Rz:=fun (t0,x2,x3,x4,x5,x6)=>(cond (decide ((4:Int)≤(↑t0.length:Int))) (cond (decide ((t0.take 4).length≤4)) (cond (decide ((6:Int)≤(↑t0.length:Int))) (cond (decide (((t0.take 6).drop 4).length≤4)) (cond (decide ((8:Int)≤(↑t0.length:Int))) (cond (decide (((t0.take 8).drop 6).length≤4)) (kj3 (t0,x2,x3,x4,x5,x6,(Jr.num (t0.take 4)),(Jr.num ((t0.take 6).drop 4)),(Jr.num ((t0.take 8).drop 6)),[],true)) none) none) none) none) none) none)
theorem f52_3_eq(F:Nat)(Rj3:St→Rz):∀ v,XAf52 F (bp Tryz.f52 14) (ef52j2 v) (kSeq (kc V52 Rj3 sp2) Kf61)=f52_3 F (Rj3∘ef52j3) v:=by
 rintro⟨t0,x2,x3,x4,x5,x6⟩;kernel_rfl
def f52_4(F:Nat)(kj4:Ty71→Rz):Ty71→Rz:=fun (t0,x2,x3,x4,x5,x6,x7,x8,x9,x10,x11)=>(cond (decide ((56:Int)≤(↑t0.length:Int))) (cond (decide ((t0.take 56).length < 1073730000)) (cond (!(((Jr.checked (t0.take 56)):Li)==(t0:Li))) (some ((.agg 5 (.segs (.cons 1 (.one (.int .i64 0)) (.cons 1 (.one (.int .i64 0)) (.cons 1 (.one (.int .i64 0)) (.cons 1 (.one (.str [])) (.cons 1 (.one (.bool false)) .nil))))))),[])) (cond (decide (x7 < (1:Int))) (some ((.agg 5 (.segs (.cons 1 (.one (.int .i64 0)) (.cons 1 (.one (.int .i64 0)) (.cons 1 (.one (.int .i64 0)) (.cons 1 (.one (.str [])) (.cons 1 (.one (.bool false)) .nil))))))),[])) (cond (decide (x7 > (4096:Int))) (some ((.agg 5 (.segs (.cons 1 (.one (.int .i64 0)) (.cons 1 (.one (.int .i64 0)) (.cons 1 (.one (.int .i64 0)) (.cons 1 (.one (.str [])) (.cons 1 (.one (.bool false)) .nil))))))),[])) (cond (decide ((IntKind.i64.wrap ((IntKind.i64.wrap ((48:Int)*x8))+x9)) > (8000:Int))) (some ((.agg 5 (.segs (.cons 1 (.one (.int .i64 0)) (.cons 1 (.one (.int .i64 0)) (.cons 1 (.one (.int .i64 0)) (.cons 1 (.one (.str [])) (.cons 1 (.one (.bool false)) .nil))))))),[])) (cond (decide (x9 < (1:Int))) (cond (decide (x8 > (0:Int))) (some ((.agg 5 (.segs (.cons 1 (.one (.int .i64 0)) (.cons 1 (.one (.int .i64 0)) (.cons 1 (.one (.int .i64 0)) (.cons 1 (.one (.str [])) (.cons 1 (.one (.bool false)) .nil))))))),[])) (kj4 (t0,x2,x3,x4,x5,x6,x7,x8,x9,x10,x11))) (kj4 (t0,x2,x3,x4,x5,x6,x7,x8,x9,x10,x11))))))) none) none)
theorem f52_4_eq(F:Nat)(Rj4:St→Rz):∀ v,XAf52 F (bp Tryz.f52 30) (ef52j3 v) (kSeq (kc V52 Rj4 sp2) Kf61)=f52_4 F (Rj4∘ef52j4) v:=by
 rintro⟨t0,x2,x3,x4,x5,x6,x7,x8,x9,x10,x11⟩;kernel_rfl
def f52_5(F:Nat)(kj5:Ty72→Rz):Ty71→Rz:=fun (t0,x2,x3,x4,x5,x6,x7,x8,x9,x10,x11)=>(kj5 (t0,x9,x2,x3,x4,x5,x6,x7,x8,x9,x10,x11))
theorem f52_5_eq(F:Nat)(Rj5:St→Rz):∀ v,XAf52 F (bp Tryz.f52 62) (ef52j4 v) (kSeq (kc V52 Rj5 sp21) Kf61)=f52_5 F (Rj5∘ef52j5) v:=by
 rintro⟨t0,x2,x3,x4,x5,x6,x7,x8,x9,x10,x11⟩;kernel_rfl
def f52_6(F:Nat)(kj6:Ty72→Rz):Ty72→Rz:=fun (t0,t4,x3,x4,x5,x6,x7,x8,x9,x10,x11,x12)=>(cond (decide (t4 > (48:Int))) (kj6 (t0,(48:Int),x3,x4,x5,x6,x7,x8,x9,x10,x11,x12)) (kj6 (t0,t4,x3,x4,x5,x6,x7,x8,x9,x10,x11,x12)))
theorem f52_6_eq(F:Nat)(Rj6:St→Rz):∀ v,XAf52 F (bp Tryz.f52 126) (ef52j5 v) (kSeq (kc V52 Rj6 sp21) Kf61)=f52_6 F (Rj6∘ef52j6) v:=by
 rintro⟨t0,t4,x3,x4,x5,x6,x7,x8,x9,x10,x11,x12⟩;kernel_rfl
def f52_7(F:Nat)(kj7:Ty73→Rz)(kj8:Ty72→Rz):Ty72→Rz:=fun (t0,t4,x3,x4,x5,x6,x7,x8,x9,x10,x11,x12)=>(kj7 (t0,t4,(IntKind.i64.wrap ((8:Int)+t4)),x3,x4,x5,x6,x7,x8,x9,x10,x11,x12))
theorem f52_7_eq(F:Nat)(Rj7 Rj8:St→Rz):∀ v,XAf52 F (bp Tryz.f52 508) (ef52j6 v) (kSeq (kc V52 Rj7 sp75) (kSeq (kc V52 Rj8 sp21) Kf61))=f52_7 F (Rj7∘ef52j7) (Rj8∘ef52j8) v:=by
 rintro⟨t0,t4,x3,x4,x5,x6,x7,x8,x9,x10,x11,x12⟩;kernel_rfl
def f52_8(F:Nat)(kl1:Ty73→Rz)(kj8:Ty72→Rz):Ty73→Rz:=fun (t0,t4,t5,x4,x5,x6,x7,x8,x9,x10,x11,x12,x13)=>(cond (decide (t5 < (56:Int))) (cond ((decide (0≤t5))&&(decide (t5 < (↑t0.length:Int)))) (cond ((t0.getD (Int.toNat t5) 0) != (0:Int)) (some ((.agg 5 (.segs (.cons 1 (.one (.int .i64 0)) (.cons 1 (.one (.int .i64 0)) (.cons 1 (.one (.int .i64 0)) (.cons 1 (.one (.str [])) (.cons 1 (.one (.bool false)) .nil))))))),[])) (kl1 (t0,t4,(IntKind.i64.wrap (t5+(1:Int))),x4,x5,x6,x7,x8,x9,x10,x11,x12,x13))) none) (kj8 (t0,t4,x4,x5,x6,x7,x8,x9,x10,x11,x12,x13)))
theorem f52_8_eq(F:Nat)(Rl1 Rj8:St→Rz):∀ v,XAf52 F (bp Tryz.f52 2036) (ef52l1 v) (kSeq (kc V52 Rl1 sp75) (kBlock 0 (kSeq (kc V52 Rj8 sp21) Kf61)))=f52_8 F (Rl1∘ef52l1) (Rj8∘ef52j8) v:=by
 rintro⟨t0,t4,t5,x4,x5,x6,x7,x8,x9,x10,x11,x12,x13⟩;kernel_rfl
def f52_9_i:Ty73→Li×Int×Int×Int×Int×Int×Li×Bool×Int×Int×Int×Li×Bool:=fun (t0,t4,t5,x4,x5,x6,x7,x8,x9,x10,x11,x12,x13)=>(t0,t4,t5,x4,x5,x6,x7,x8,x9,x10,x11,x12,x13)
def f52_9(F:Nat)(kj8:Ty72→Rz):Ty73→Rz:=fun v=>loopN (fun k=>f52_8 F k kj8) F (f52_9_i v)
theorem f52_9_eq(F:Nat)(Rj8:St→Rz):∀ v,XAf52 F (bp Tryz.f52 1018) (ef52j7 v) (kBlock 0 (kSeq (kc V52 Rj8 sp21) Kf61))=f52_9 F (Rj8∘ef52j8) v:=
 loop_cut (by kernel_rfl) (by kernel_rfl) ef52j7 ef52l1 _ f52_9_i (fun k=>f52_8 F k (Rj8∘ef52j8))
  (by rintro⟨t0,t4,t5,x4,x5,x6,x7,x8,x9,x10,x11,x12,x13⟩;kernel_rfl) (fun Rl1=>f52_8_eq F Rl1 Rj8)
def f52_10(F:Nat)(kj8:Ty72→Rz):Ty73→Rz:=f52_9 F kj8
theorem f52_10_eq(F:Nat)(Rj8:St→Rz):∀ v,XAf52 F (bp Tryz.f52 509) (ef52j7 v) (kSeq (kc V52 Rj8 sp21) Kf61)=f52_10 F (Rj8∘ef52j8) v:=fun v=>
 (block_in  (by kernel_rfl) _ _).trans (f52_9_eq F Rj8 v)
def f52_11(F:Nat)(kj8:Ty72→Rz):Ty72→Rz:=fun v=>f52_7 F (f52_10 F kj8) kj8 v
theorem f52_11_eq(F:Nat)(Rj8:St→Rz):∀ v,XAf52 F (bp Tryz.f52 254) (ef52j6 v) (kSeq (kc V52 Rj8 sp21) Kf61)=f52_11 F (Rj8∘ef52j8) v:=
 seq_cut (by kernel_rfl) (by kernel_rfl) ef52j6 ef52j7 _ (fun k=>f52_7 F k (Rj8∘ef52j8)) (f52_10 F (Rj8∘ef52j8))
  (fun Rj7=>f52_7_eq F Rj7 Rj8) (f52_10_eq F Rj8)
def f52_12(F:Nat):Ty72→Rz:=fun (t0,t4,x3,x4,x5,x6,x7,x8,x9,x10,x11,x12)=>(cond ((decide ((8:Int)≤(IntKind.i64.wrap ((8:Int)+t4))))&&(decide ((IntKind.i64.wrap ((8:Int)+t4))≤(↑t0.length:Int)))) (some ((.agg 5 (.segs (.cons 1 (.one (.int .i64 x8)) (.cons 1 (.one (.int .i64 x9)) (.cons 1 (.one (.int .i64 x10)) (.cons 1 (.one (.str ((t0.take (Int.toNat (IntKind.i64.wrap ((8:Int)+t4)))).drop 8))) (.cons 1 (.one (.bool x12)) .nil))))))),[])) none)
theorem f52_12_eq(F:Nat):∀ v,XAf52 F (bp Tryz.f52 255) (ef52j8 v) Kf61=f52_12 F v:=by
 rintro⟨t0,t4,x3,x4,x5,x6,x7,x8,x9,x10,x11,x12⟩;kernel_rfl
def f52_13(F:Nat):Ty72→Rz:=fun v=>f52_11 F (f52_12 F) v
theorem f52_13_eq(F:Nat):∀ v,XAf52 F (bp Tryz.f52 127) (ef52j6 v) Kf61=f52_13 F v:=
 seq_cut (by kernel_rfl) (by kernel_rfl) ef52j6 ef52j8 _ (fun k=>f52_11 F k) (f52_12 F)
  (fun Rj8=>f52_11_eq F Rj8) (f52_12_eq F)
def f52_14(F:Nat):Ty72→Rz:=fun v=>f52_6 F (f52_13 F) v
theorem f52_14_eq(F:Nat):∀ v,XAf52 F (bp Tryz.f52 63) (ef52j5 v) Kf61=f52_14 F v:=
 seq_cut (by kernel_rfl) (by kernel_rfl) ef52j5 ef52j6 _ (fun k=>f52_6 F k) (f52_13 F)
  (fun Rj6=>f52_6_eq F Rj6) (f52_13_eq F)
def f52_15(F:Nat):Ty71→Rz:=fun v=>f52_5 F (f52_14 F) v
theorem f52_15_eq(F:Nat):∀ v,XAf52 F (bp Tryz.f52 31) (ef52j4 v) Kf61=f52_15 F v:=
 seq_cut (by kernel_rfl) (by kernel_rfl) ef52j4 ef52j5 _ (fun k=>f52_5 F k) (f52_14 F)
  (fun Rj5=>f52_5_eq F Rj5) (f52_14_eq F)
def f52_16(F:Nat):Ty71→Rz:=fun v=>f52_4 F (f52_15 F) v
theorem f52_16_eq(F:Nat):∀ v,XAf52 F (bp Tryz.f52 15) (ef52j3 v) Kf61=f52_16 F v:=
 seq_cut (by kernel_rfl) (by kernel_rfl) ef52j3 ef52j4 _ (fun k=>f52_4 F k) (f52_15 F)
  (fun Rj4=>f52_4_eq F Rj4) (f52_15_eq F)
def f52_17(F:Nat):Ty70→Rz:=fun v=>f52_3 F (f52_16 F) v
theorem f52_17_eq(F:Nat):∀ v,XAf52 F (bp Tryz.f52 7) (ef52j2 v) Kf61=f52_17 F v:=
 seq_cut (by kernel_rfl) (by kernel_rfl) ef52j2 ef52j3 _ (fun k=>f52_3 F k) (f52_16 F)
  (fun Rj3=>f52_3_eq F Rj3) (f52_16_eq F)
def f52_18(F:Nat):Ty70→Rz:=fun v=>f52_2 F (f52_17 F) v
theorem f52_18_eq(F:Nat):∀ v,XAf52 F (bp Tryz.f52 3) (ef52j1 v) Kf61=f52_18 F v:=
 seq_cut (by kernel_rfl) (by kernel_rfl) ef52j1 ef52j2 _ (fun k=>f52_2 F k) (f52_17 F)
  (fun Rj2=>f52_2_eq F Rj2) (f52_17_eq F)
def f52_19(F:Nat):Li→Rz:=fun v=>f52_1 F (f52_18 F) v
theorem f52_19_eq(F:Nat):∀ v,XAf52 F (sub (bodyOf Tryz.f52) []) (ef52_a v) Kf61=f52_19 F v:=
 seq_cut (by kernel_rfl) (by kernel_rfl) ef52_a ef52j1 _ (fun k=>f52_1 F k) (f52_18 F)
  (fun Rj1=>f52_1_eq F Rj1) (f52_18_eq F)
def f52(F:Nat):Li→Rz:=f52_19 F
theorem f52_body(F:Nat)(a0:Li):abody V52 (Af52 F) Tryz.f52 [(.str a0)] []=f52 F a0:=
 (abody_in (c:=(sub (bodyOf Tryz.f52) [])) (by kernel_rfl) (s:=ef52_a a0) (by kernel_rfl)).trans (f52_19_eq F a0)
def r52:CRun:=fun X H=>match X,H with
 | [(.str a0)],[]=>some (true,(.agg 5 (.segs (.cons 1 (.one (.int .i64 (Jr.unpack a0).number)) (.cons 1 (.one (.int .i64 (Jr.unpack a0).part)) (.cons 1 (.one (.int .i64 (Jr.unpack a0).left)) (.cons 1 (.one (.str (Jr.unpack a0).payload)) (.cons 1 (.one (.bool (Jr.unpack a0).ok)) .nil))))))),[])
 | _,_=>none
theorem s52(a0:Li)(h0:okV (.str a0)):∃ F,f52 F a0=some ((.agg 5 (.segs (.cons 1 (.one (.int .i64 (Jr.unpack a0).number)) (.cons 1 (.one (.int .i64 (Jr.unpack a0).part)) (.cons 1 (.one (.int .i64 (Jr.unpack a0).left)) (.cons 1 (.one (.str (Jr.unpack a0).payload)) (.cons 1 (.one (.bool (Jr.unpack a0).ok)) .nil))))))),[]):=by
 refine⟨100,?_⟩
 simp only [f52_1,f52_2,f52_3,f52_4,f52_5,f52_6,f52_7,f52_9_i,f52_9,f52_10,f52_11,f52_13,f52_14,f52_15,f52_16,f52_17,f52_18,f52_19,f52,int_bne]
 by_cases hl:a0.length=64
 case neg=>
  rw [cond_pos (by omega),Jr.unpack_not (.inl hl)]
  rfl
 have hb:∀ x∈a0,0≤x∧x < 256:=fun x hx=>by have:=h0.2 x hx;omega
 have d6:(a0.take 6).drop 4=(a0.drop 4).take 2:=by rw [List.drop_take]
 have d8:(a0.take 8).drop 6=(a0.drop 6).take 2:=by rw [List.drop_take]
 simp only [d6,d8]
 have l4:(a0.take 4).length=4:=by rw [List.length_take];omega
 have l2:((a0.drop 4).take 2).length=2:=by rw [List.length_take,List.length_drop];omega
 have l2':((a0.drop 6).take 2).length=2:=by rw [List.length_take,List.length_drop];omega
 have l56:(a0.take 56).length=56:=by rw [List.length_take];omega
 obtain⟨n1,n2⟩:=Jr.num_bound (a0.take 4) fun x hx=>hb x (List.mem_of_mem_take hx)
 obtain⟨p1,p2⟩:=Jr.num_bound ((a0.drop 4).take 2) fun x hx=>hb x (List.mem_of_mem_drop (List.mem_of_mem_take hx))
 obtain⟨q1,q2⟩:=Jr.num_bound ((a0.drop 6).take 2) fun x hx=>hb x (List.mem_of_mem_drop (List.mem_of_mem_take hx))
 rw [l4,show(256:Int)^4=4294967296 from rfl] at n2
 rw [l2,show(256:Int)^2=65536 from rfl] at p2
 rw [l2',show(256:Int)^2=65536 from rfl] at q2
 rw [cond_neg (by omega),cond_pos (by omega),cond_pos (by omega),cond_pos (by omega),cond_pos (by omega),cond_pos (by omega),cond_pos (by omega),cond_pos (by omega),cond_pos (by omega),Jr.checked_eq hl,i64w (x:=48*Jr.num ((a0.drop 4).take 2)) (by omega) (by omega),i64w (x:=48*Jr.num ((a0.drop 4).take 2)+Jr.num ((a0.drop 6).take 2)) (by omega) (by omega)]
 have hm48:Jr.fN a0≤48:=Nat.min_le_right _ _
 have hmL:Jr.fN a0=min (Jr.num ((a0.drop 6).take 2)).toNat 48:=rfl
 by_cases c1:(Sha.hash (a0.take 56)).take 8=a0.drop 56
 case neg=>
  have e:(!((Sha.hash (a0.take 56)).take 8==a0.drop 56))=true:=by simpa using c1
  rw [e,cond_true,Jr.unpack_not (.inr (.inl c1))]
  rfl
 have e:(!((Sha.hash (a0.take 56)).take 8==a0.drop 56))=false:=by simp [c1]
 rw [e,cond_false]
 by_cases c2:Jr.num (a0.take 4) < 1
 ·rw [cond_pos c2,Jr.unpack_not (.inr (.inr (.inl (fun h=>by have:=h.1;rw [Jr.fNum] at this;omega))))]
  rfl
 by_cases c3:Jr.num (a0.take 4) > 4096
 ·rw [cond_neg c2,cond_pos c3,Jr.unpack_not (.inr (.inr (.inl (fun h=>by have:=h.2.1;rw [Jr.fNum] at this;omega))))]
  rfl
 by_cases c4:48*Jr.num ((a0.drop 4).take 2)+Jr.num ((a0.drop 6).take 2) > 8000
 ·rw [cond_neg c2,cond_neg c3,cond_pos c4,Jr.unpack_not (.inr (.inr (.inl (fun h=>by have:=h.2.2.1;rw [Jr.fPart,Jr.fLeft] at this;omega))))]
  rfl
 rw [cond_neg c2,cond_neg c3,cond_neg c4]
 by_cases c5:Jr.num ((a0.drop 6).take 2) < 1∧Jr.num ((a0.drop 4).take 2) > 0
 ·rw [cond_pos c5.1,cond_pos c5.2,Jr.unpack_not (.inr (.inr (.inl (fun h=>by have:=h.2.2.2;rw [Jr.fPart,Jr.fLeft] at this;omega))))]
  rfl
 have hskip:∀ X Y:Rz,cond (decide (Jr.num ((a0.drop 6).take 2) < 1)) (cond (decide (Jr.num ((a0.drop 4).take 2) > 0)) X Y) Y=Y:=fun X Y=>by
  by_cases h5:Jr.num ((a0.drop 6).take 2) < 1
  ·rw [cond_pos h5,cond_neg (by omega)]
  ·rw [cond_neg h5]
 rw [hskip]
 have key:∀ t:Int,t=(Jr.fN a0:Int)→loopN (fun k=>f52_8 100 k (f52_12 100)) 100 (a0,t,IntKind.i64.wrap (8+t),0,0,0,[],false,Jr.num (a0.take 4),Jr.num ((a0.drop 4).take 2),Jr.num ((a0.drop 6).take 2),[],true) =
   some ((.agg 5 (.segs (.cons 1 (.one (.int .i64 (Jr.unpack a0).number)) (.cons 1 (.one (.int .i64 (Jr.unpack a0).part)) (.cons 1 (.one (.int .i64 (Jr.unpack a0).left)) (.cons 1 (.one (.str (Jr.unpack a0).payload)) (.cons 1 (.one (.bool (Jr.unpack a0).ok)) .nil))))))),[]):=fun t ht=>by
  subst ht
  rw [i64w (x:=8+(Jr.fN a0:Int)) (by omega) (by omega)]
  refine loopN_ind (fun mm s=>∃ k:Nat,s=(a0,(Jr.fN a0:Int),8+(Jr.fN a0:Int)+(k:Int),0,0,0,[],false,Jr.num (a0.take 4),Jr.num ((a0.drop 4).take 2),Jr.num ((a0.drop 6).take 2),[],true)∧mm=48-Jr.fN a0-k∧k≤48-Jr.fN a0 ∧ ∀ j,j < k→a0.getD (8+Jr.fN a0+j) 0=0) (fun mm s K hi hk=>?_) 100 (48-Jr.fN a0) _ (by omega) ⟨0,by simp,by omega,by omega,fun j hj=>by omega⟩
  obtain⟨k,rfl,hm,hle,hz⟩:=hi
  have et:(8+(Jr.fN a0:Int)+(k:Int)).toNat=8+Jr.fN a0+k:=by omega
  simp only [f52_8,dec_and,et,int_bne]
  by_cases hlt:k < 48-Jr.fN a0
  ·rw [cond_pos (by omega),cond_pos (by omega)]
   by_cases h0:a0.getD (8+Jr.fN a0+k) 0=0
   ·rw [cond_neg (by omega),i64w (by omega) (by omega)]
    exact hk (mm-1) _ (by omega) ⟨k+1,by rw [show 8+(Jr.fN a0:Int)+((k+1:Nat):Int)=8+(Jr.fN a0:Int)+(k:Int)+1 by omega],by omega,by omega,fun j hj=>by
     by_cases hj':j=k
     ·subst hj';exact h0
     ·exact hz j (by omega)⟩
   ·rw [cond_pos h0,Jr.unpack_not (.inr (.inr (.inr fun h=>h0 ((Jr.zeros_iff (by omega)).1 h k hlt))))]
    rfl
  ·rw [cond_neg (by omega)]
   simp only [f52_12,dec_and]
   have t2:(8+(Jr.fN a0:Int)).toNat=8+Jr.fN a0:=by omega
   rw [i64w (x:=8+(Jr.fN a0:Int)) (by omega) (by omega),cond_pos (by omega),t2,Jr.unpack_is hl c1 ⟨by rw [Jr.fNum];omega,by rw [Jr.fNum];omega,by rw [Jr.fPart,Jr.fLeft];omega,by rw [Jr.fPart,Jr.fLeft];omega⟩ ((Jr.zeros_iff (by omega)).2 fun j hj=>hz j (by omega)),List.drop_take,show 8+Jr.fN a0-8=Jr.fN a0 by omega]
   rfl
 by_cases h48:Jr.num ((a0.drop 6).take 2) > 48
 ·rw [cond_pos h48];exact key 48 (by omega)
 ·rw [cond_neg h48];exact key _ (by omega)
theorem c52:CallOk Tryz.prog G37Z 52 r52:=callOk_of mixed tys eV52 Tryz.func52 (by kernel_rfl) (c:=sub (bodyOf Tryz.f52) []) (by kernel_rfl) (by
 intro X H r H' h hX hH
 unfold r52 at h;split at h <;> try contradiction
 ·obtain⟨hp,rfl,rfl⟩:=inj3 h
  obtain⟨F,hF⟩:=s52 _ (hX _ hm0)
  exact⟨Af52 F,(f52_body F _).trans hF⟩)
end Go.Am
end
section
namespace Go.Am
open Go Go.Proofs
abbrev sp83:List (Nat×Md):=[(0,.plain),(3,.own 2),(4,.plain)]
abbrev Ty80:=Li×(List Li)×Li×Int×Int×Bool×(List (List Li))×Bool×Int
abbrev Ty81:=Int×Li×(Dk.R)×(Jr.J)
abbrev Ty82:=Li×(Dk.R)×(Jr.J)
def lV56:List CEnt:=[]
def V56:Env:=mkEnv T36Z G36Z lV56
noncomputable abbrev Kf63:=kFin V56 none (Tryz.f56).results.toList
theorem eV56:EOk Tryz.prog V56:=eok_mk (by exact trivial)
def Af56(F:Nat):Cuts:={ F:=F,at_:=fun n=>match n with | 2016=>some sp24 | _=>none,join:=fun n=>match n with | 1024=>some sp74 | 2018=>some sp24 | 6003=>some [] | _=>none }
noncomputable abbrev XAf56(F:Nat){α:Type}:=@aexec α V56 (Af56 F)
def ef56_a:Li→St:=fun a0=>⟨[(0,.str a0)],[],0,14,0⟩
def ef56j1:Li→St:=fun t0=>⟨[(0,.str t0)],[],0,14,0⟩
def ef56j2:Li×Int→St:=fun (t0,t3)=>⟨[(0,.str t0),(3,.int .i64 t3)],[],0,14,0⟩
def ef56l1:Li×Int→St:=ef56j2
def ef56j3:Unit→St:=fun _=>⟨[],[],0,14,0⟩
def f56_1(F:Nat)(kj1:Li→Rz):Li→Rz:=fun a0=>(kj1 a0)
theorem f56_1_eq(F:Nat)(Rj1:St→Rz):∀ v,XAf56 F (bp Tryz.f56 2) (ef56_a v) (kSeq (kc V56 Rj1 sp74) Kf63)=f56_1 F (Rj1∘ef56j1) v:=by
 intro a0;kernel_rfl
def f56_2(F:Nat)(kj2:Li×Int→Rz)(kj3:Unit→Rz):Li→Rz:=fun t0=>(kj2 (t0,(0:Int)))
theorem f56_2_eq(F:Nat)(Rj2 Rj3:St→Rz):∀ v,XAf56 F (bp Tryz.f56 12) (ef56j1 v) (kSeq (kc V56 Rj2 sp24) (kSeq (kc V56 Rj3 []) Kf63))=f56_2 F (Rj2∘ef56j2) (Rj3∘ef56j3) v:=by
 intro t0;kernel_rfl
def f56_3(F:Nat)(kl1:Li×Int→Rz)(kj3:Unit→Rz):Li×Int→Rz:=fun (t0,t3)=>(cond (decide (t3 < (↑t0.length:Int))) (cond ((decide (0≤t3))&&(decide (t3 < (↑t0.length:Int)))) (cond ((t0.getD (Int.toNat t3) 0) != (0:Int)) (some ((.bool false),[])) (kl1 (t0,(IntKind.i64.wrap (t3+(1:Int)))))) none) (kj3 ()))
theorem f56_3_eq(F:Nat)(Rl1 Rj3:St→Rz):∀ v,XAf56 F (bp Tryz.f56 52) (ef56l1 v) (kSeq (kc V56 Rl1 sp24) (kBlock 0 (kSeq (kc V56 Rj3 []) Kf63)))=f56_3 F (Rl1∘ef56l1) (Rj3∘ef56j3) v:=by
 rintro⟨t0,t3⟩;kernel_rfl
def f56_4_i:Li×Int→Li×Int:=fun (t0,t3)=>(t0,t3)
def f56_4(F:Nat)(kj3:Unit→Rz):Li×Int→Rz:=fun v=>loopN (fun k=>f56_3 F k kj3) F (f56_4_i v)
theorem f56_4_eq(F:Nat)(Rj3:St→Rz):∀ v,XAf56 F (bp Tryz.f56 26) (ef56j2 v) (kBlock 0 (kSeq (kc V56 Rj3 []) Kf63))=f56_4 F (Rj3∘ef56j3) v:=
 loop_cut (by kernel_rfl) (by kernel_rfl) ef56j2 ef56l1 _ f56_4_i (fun k=>f56_3 F k (Rj3∘ef56j3))
  (by rintro⟨t0,t3⟩;kernel_rfl) (fun Rl1=>f56_3_eq F Rl1 Rj3)
def f56_5(F:Nat)(kj3:Unit→Rz):Li×Int→Rz:=f56_4 F kj3
theorem f56_5_eq(F:Nat)(Rj3:St→Rz):∀ v,XAf56 F (bp Tryz.f56 13) (ef56j2 v) (kSeq (kc V56 Rj3 []) Kf63)=f56_5 F (Rj3∘ef56j3) v:=fun v=>
 (block_in  (by kernel_rfl) _ _).trans (f56_4_eq F Rj3 v)
def f56_6(F:Nat)(kj3:Unit→Rz):Li→Rz:=fun v=>f56_2 F (f56_5 F kj3) kj3 v
theorem f56_6_eq(F:Nat)(Rj3:St→Rz):∀ v,XAf56 F (bp Tryz.f56 6) (ef56j1 v) (kSeq (kc V56 Rj3 []) Kf63)=f56_6 F (Rj3∘ef56j3) v:=
 seq_cut (by kernel_rfl) (by kernel_rfl) ef56j1 ef56j2 _ (fun k=>f56_2 F k (Rj3∘ef56j3)) (f56_5 F (Rj3∘ef56j3))
  (fun Rj2=>f56_2_eq F Rj2 Rj3) (f56_5_eq F Rj3)
def f56_7(F:Nat):Unit→Rz:=fun _=>(some ((.bool true),[]))
theorem f56_7_eq(F:Nat):∀ v,XAf56 F (bp Tryz.f56 7) (ef56j3 v) Kf63=f56_7 F v:=by
 intro _;kernel_rfl
def f56_8(F:Nat):Li→Rz:=fun v=>f56_6 F (f56_7 F) v
theorem f56_8_eq(F:Nat):∀ v,XAf56 F (bp Tryz.f56 3) (ef56j1 v) Kf63=f56_8 F v:=
 seq_cut (by kernel_rfl) (by kernel_rfl) ef56j1 ef56j3 _ (fun k=>f56_6 F k) (f56_7 F)
  (fun Rj3=>f56_6_eq F Rj3) (f56_7_eq F)
def f56_9(F:Nat):Li→Rz:=fun v=>f56_1 F (f56_8 F) v
theorem f56_9_eq(F:Nat):∀ v,XAf56 F (sub (bodyOf Tryz.f56) []) (ef56_a v) Kf63=f56_9 F v:=
 seq_cut (by kernel_rfl) (by kernel_rfl) ef56_a ef56j1 _ (fun k=>f56_1 F k) (f56_8 F)
  (fun Rj1=>f56_1_eq F Rj1) (f56_8_eq F)
def f56(F:Nat):Li→Rz:=f56_9 F
theorem f56_body(F:Nat)(a0:Li):abody V56 (Af56 F) Tryz.f56 [(.str a0)] []=f56 F a0:=
 (abody_in (c:=(sub (bodyOf Tryz.f56) [])) (by kernel_rfl) (s:=ef56_a a0) (by kernel_rfl)).trans (f56_9_eq F a0)
def r56:CRun:=fun X H=>match X,H with
 | [(.str a0)],[]=>some (true,(.bool (Jr.blank a0)),[])
 | _,_=>none
theorem s56(a0:Li)(h0:okV (.str a0)):∃ F,f56 F a0=some ((.bool (Jr.blank a0)),[]):=by
 have hl:a0.length < 4611686018427387904:=h0.1
 refine⟨a0.length+1,?_⟩
 simp only [f56,f56_9,f56_1,f56_8,f56_6,f56_2,f56_5,f56_4,f56_4_i]
 refine loopN_ind (fun m s=>∃ k:Nat,s=(a0,(k:Int))∧m=a0.length-k∧k≤a0.length∧(a0.take k).all (· == 0)=true) (fun m s K hi hk=>?_) (a0.length+1) a0.length _ (by omega) ⟨0,rfl,by omega,by omega,rfl⟩
 obtain⟨k,rfl,hm,hle,hb⟩:=hi
 simp only [f56_3,Int.toNat_natCast,dec_and]
 by_cases hlt:k < a0.length
 ·rw [cond_pos (by omega),cond_pos (by omega),i64w (by omega) (by omega)]
  have hs:=Jr.blank_take hlt hb
  cases h:(a0.getD k 0==0) with
  | true=>
   rw [h] at hs
   rw [show(a0.getD k 0 != 0)=false by rw [bne,h];rfl,cond_false]
   exact hk (m-1) _ (by omega) ⟨k+1,rfl,by omega,by omega,hs⟩
  | false=>
   rw [show(a0.getD k 0 != 0)=true by rw [bne,h];rfl,cond_true]
   have:Jr.blank a0=false:=by
    rw [Jr.blank,← List.take_append_drop (k+1) a0,List.all_append,hs,h];rfl
   rw [this]
 ·rw [cond_neg (by omega)]
  rw [show k=a0.length by omega,List.take_length] at hb
  simp only [f56_7,Jr.blank,hb]
theorem c56:CallOk Tryz.prog G36Z 56 r56:=callOk_of mixed tys eV56 Tryz.func56 (by kernel_rfl) (c:=sub (bodyOf Tryz.f56) []) (by kernel_rfl) (by
 intro X H r H' h hX hH
 unfold r56 at h;split at h <;> try contradiction
 ·obtain⟨hp,rfl,rfl⟩:=inj3 h
  obtain⟨F,hF⟩:=s56 _ (hX _ hm0)
  exact⟨Af56 F,(f56_body F _).trans hF⟩)
def lV58:List CEnt:=[]
def V58:Env:=mkEnv T36Z G36Z lV58
noncomputable abbrev Kf64:=kFin V58 none (Tryz.f58).results.toList
theorem eV58:EOk Tryz.prog V58:=eok_mk (by exact trivial)
def Af58(F:Nat):Cuts:={ F:=F,at_:=fun n=>match n with | 2016=>some sp39 | _=>none,join:=fun n=>match n with | 1024=>some sp37 | 2018=>some sp39 | 6003=>some [] | _=>none }
noncomputable abbrev XAf58(F:Nat){α:Type}:=@aexec α V58 (Af58 F)
def ef58_a:Li×Int→St:=fun (a0,a1)=>⟨[(0,(.vs (.rI .i64 a0) 0 1)),(1,.int .i64 a1)],[],0,18,0⟩
def ef58j1:Li×Int→St:=fun (t0,t1)=>⟨[(0,(.vs (.rI .i64 t0) 0 1)),(1,.int .i64 t1)],[],0,18,0⟩
def ef58j2:Li×Int×Int→St:=fun (t0,t1,t5)=>⟨[(0,(.vs (.rI .i64 t0) 0 1)),(1,.int .i64 t1),(5,.int .i64 t5)],[],0,18,0⟩
def ef58l1:Li×Int×Int→St:=ef58j2
def ef58j3:Unit→St:=fun _=>⟨[],[],0,18,0⟩
def f58_1(F:Nat)(kj1:Li×Int→Rz):Li×Int→Rz:=fun (a0,a1)=>(kj1 (a0,a1))
theorem f58_1_eq(F:Nat)(Rj1:St→Rz):∀ v,XAf58 F (bp Tryz.f58 2) (ef58_a v) (kSeq (kc V58 Rj1 sp37) Kf64)=f58_1 F (Rj1∘ef58j1) v:=by
 rintro⟨a0,a1⟩;kernel_rfl
def f58_2(F:Nat)(kj2:Li×Int×Int→Rz)(kj3:Unit→Rz):Li×Int→Rz:=fun (t0,t1)=>(kj2 (t0,t1,(0:Int)))
theorem f58_2_eq(F:Nat)(Rj2 Rj3:St→Rz):∀ v,XAf58 F (bp Tryz.f58 12) (ef58j1 v) (kSeq (kc V58 Rj2 sp39) (kSeq (kc V58 Rj3 []) Kf64))=f58_2 F (Rj2∘ef58j2) (Rj3∘ef58j3) v:=by
 rintro⟨t0,t1⟩;kernel_rfl
def f58_3(F:Nat)(kl1:Li×Int×Int→Rz)(kj3:Unit→Rz):Li×Int×Int→Rz:=fun (t0,t1,t5)=>(cond (decide (t5 < (↑t0.length:Int))) (cond ((decide (0≤t5))&&(decide (t5 < (↑t0.length:Int)))) (cond ((t0.getD (Int.toNat t5) 0)==t1) (some ((.bool true),[])) (kl1 (t0,t1,(IntKind.i64.wrap (t5+(1:Int)))))) none) (kj3 ()))
theorem f58_3_eq(F:Nat)(Rl1 Rj3:St→Rz):∀ v,XAf58 F (bp Tryz.f58 52) (ef58l1 v) (kSeq (kc V58 Rl1 sp39) (kBlock 0 (kSeq (kc V58 Rj3 []) Kf64)))=f58_3 F (Rl1∘ef58l1) (Rj3∘ef58j3) v:=by
 rintro⟨t0,t1,t5⟩;kernel_rfl
def f58_4_i:Li×Int×Int→Li×Int×Int:=fun (t0,t1,t5)=>(t0,t1,t5)
def f58_4(F:Nat)(kj3:Unit→Rz):Li×Int×Int→Rz:=fun v=>loopN (fun k=>f58_3 F k kj3) F (f58_4_i v)
theorem f58_4_eq(F:Nat)(Rj3:St→Rz):∀ v,XAf58 F (bp Tryz.f58 26) (ef58j2 v) (kBlock 0 (kSeq (kc V58 Rj3 []) Kf64))=f58_4 F (Rj3∘ef58j3) v:=
 loop_cut (by kernel_rfl) (by kernel_rfl) ef58j2 ef58l1 _ f58_4_i (fun k=>f58_3 F k (Rj3∘ef58j3))
  (by rintro⟨t0,t1,t5⟩;kernel_rfl) (fun Rl1=>f58_3_eq F Rl1 Rj3)
def f58_5(F:Nat)(kj3:Unit→Rz):Li×Int×Int→Rz:=f58_4 F kj3
theorem f58_5_eq(F:Nat)(Rj3:St→Rz):∀ v,XAf58 F (bp Tryz.f58 13) (ef58j2 v) (kSeq (kc V58 Rj3 []) Kf64)=f58_5 F (Rj3∘ef58j3) v:=fun v=>
 (block_in  (by kernel_rfl) _ _).trans (f58_4_eq F Rj3 v)
def f58_6(F:Nat)(kj3:Unit→Rz):Li×Int→Rz:=fun v=>f58_2 F (f58_5 F kj3) kj3 v
theorem f58_6_eq(F:Nat)(Rj3:St→Rz):∀ v,XAf58 F (bp Tryz.f58 6) (ef58j1 v) (kSeq (kc V58 Rj3 []) Kf64)=f58_6 F (Rj3∘ef58j3) v:=
 seq_cut (by kernel_rfl) (by kernel_rfl) ef58j1 ef58j2 _ (fun k=>f58_2 F k (Rj3∘ef58j3)) (f58_5 F (Rj3∘ef58j3))
  (fun Rj2=>f58_2_eq F Rj2 Rj3) (f58_5_eq F Rj3)
def f58_7(F:Nat):Unit→Rz:=fun _=>(some ((.bool false),[]))
theorem f58_7_eq(F:Nat):∀ v,XAf58 F (bp Tryz.f58 7) (ef58j3 v) Kf64=f58_7 F v:=by
 intro _;kernel_rfl
def f58_8(F:Nat):Li×Int→Rz:=fun v=>f58_6 F (f58_7 F) v
theorem f58_8_eq(F:Nat):∀ v,XAf58 F (bp Tryz.f58 3) (ef58j1 v) Kf64=f58_8 F v:=
 seq_cut (by kernel_rfl) (by kernel_rfl) ef58j1 ef58j3 _ (fun k=>f58_6 F k) (f58_7 F)
  (fun Rj3=>f58_6_eq F Rj3) (f58_7_eq F)
def f58_9(F:Nat):Li×Int→Rz:=fun v=>f58_1 F (f58_8 F) v
theorem f58_9_eq(F:Nat):∀ v,XAf58 F (sub (bodyOf Tryz.f58) []) (ef58_a v) Kf64=f58_9 F v:=
 seq_cut (by kernel_rfl) (by kernel_rfl) ef58_a ef58j1 _ (fun k=>f58_1 F k) (f58_8 F)
  (fun Rj1=>f58_1_eq F Rj1) (f58_8_eq F)
def f58(F:Nat):Li×Int→Rz:=f58_9 F
theorem f58_body(F:Nat)(a0:Li)(a1:Int):abody V58 (Af58 F) Tryz.f58 [(.vs (.rI .i64 a0) 0 1),.int .i64 a1] []=f58 F (a0,a1):=
 (abody_in (by kernel_rfl) (by kernel_rfl)).trans (f58_9_eq F (a0,a1))
def r58:CRun:=fun X H=>match X,H with
 | [(.vs (.rI .i64 a0) 0 1),.int .i64 a1],[]=>some (true,(.bool (a0.contains a1)),[])
 | _,_=>none
theorem s58(a0:Li)(a1:Int)(h0:okV (.vs (.rI .i64 a0) 0 1))(h1:okV (.int .i64 a1)):∃ F,f58 F (a0,a1)=some ((.bool (a0.contains a1)),[]):=by
 have hl:a0.length < 4611686018427387904:=h0.2
 refine⟨a0.length+1,?_⟩
 simp only [f58,f58_9,f58_1,f58_8,f58_6,f58_2,f58_5,f58_4,f58_4_i]
 refine loopN_ind (fun m s=>∃ k:Nat,s=(a0,a1,(k:Int))∧m=a0.length-k∧k≤a0.length∧(a0.take k).contains a1=false) (fun m s K hi hk=>?_) (a0.length+1) a0.length _ (by omega) ⟨0,rfl,by omega,by omega,rfl⟩
 obtain⟨k,rfl,hm,hle,hb⟩:=hi
 simp only [f58_3,Int.toNat_natCast,dec_and]
 by_cases hlt:k < a0.length
 ·rw [cond_pos (by omega),cond_pos (by omega),i64w (by omega) (by omega)]
  have hs:=Jr.contains_take hlt hb
  cases h:(a0.getD k 0==a1) with
  | false=>
   rw [h] at hs
   exact hk (m-1) _ (by omega) ⟨k+1,rfl,by omega,by omega,hs⟩
  | true=>
   have:a0.contains a1=true:=by
    rw [List.contains_iff_mem]
    have h2:a0.getD k 0=a1:=by simpa using h
    rw [← h2,List.getD_eq_getElem?_getD,List.getElem?_eq_getElem hlt];exact List.getElem_mem _
   rw [this];rfl
 ·rw [cond_neg (by omega)]
  rw [show k=a0.length by omega,List.take_length] at hb
  rw [hb];rfl
theorem c58:CallOk Tryz.prog G36Z 58 r58:=callOk_of mixed tys eV58 Tryz.func58 (by kernel_rfl) (c:=sub (bodyOf Tryz.f58) []) (by kernel_rfl) (by
 intro X H r H' h hX hH
 unfold r58 at h;split at h <;> try contradiction
 ·obtain⟨hp,rfl,rfl⟩:=inj3 h
  obtain⟨F,hF⟩:=s58 _ _ (hX _ hm0) (hX _ hm1)
  exact⟨Af58 F,(f58_body F _ _).trans hF⟩)
def lV60:List CEnt:=[(54,[none],r54)]
def V60:Env:=mkEnv T36Z G36Z lV60
noncomputable abbrev Kf65:=kFin V60 none (Tryz.f60).results.toList
theorem eV60:EOk Tryz.prog V60:=eok_mk (by exact⟨c54,trivial⟩)
def Af60(F:Nat):Cuts:={ F:=F,at_:=fun _=>none,join:=fun _=>none }
def ef60_a:Ty80→St:=fun (a0N,a0T,a0B,a0x,a0f,a0c,a1s,a1o,a1l)=>⟨[(0,.ptr 0 0 7 0 0 0 7)],[(0,(jB 1 3 2 3 4 a0x a0f a0c)),(1,(rB a1s.length 5 a1o a1l)),(2,(iB a0N)),(3,(sB a0T)),(4,(iB a0B)),(5,(tB a1s))],6,13,6⟩
def f60_1(F:Nat):Ty80→Rz:=fun (a0N,a0T,a0B,a0x,a0f,a0c,a1s,a1o,a1l)=>(cond (decide (a1s.length=a1s.length∧a1s.length < 8000)) (some ((.int .i64 (IntKind.i64.wrap (((Dk.R.mk a1s a1o a1l).s.length:Int)-a0f))),[(jB 1 3 2 3 4 a0x a0f a0c),(rB (Dk.R.mk a1s a1o a1l).s.length 5 (Dk.R.mk a1s a1o a1l).off (Dk.R.mk a1s a1o a1l).left),(iB a0N),(sB a0T),(iB a0B),(.cells ((Dk.R.mk a1s a1o a1l).s.length*4) (.rT [.str,.str,.bool,.bool] (Dk.R.mk a1s a1o a1l).s) true)])) none)
theorem f60_1_eq(F:Nat):∀ v,aexec V60 (Af60 F) (sub (bodyOf Tryz.f60) []) (ef60_a v) Kf65=f60_1 F v:=by
 rintro⟨a0N,a0T,a0B,a0x,a0f,a0c,a1s,a1o,a1l⟩;kernel_rfl
def f60(F:Nat):Ty80→Rz:=f60_1 F
theorem f60_body(F:Nat)(a0N:Li)(a0T:List Li)(a0B:Li)(a0x a0f:Int)(a0c:Bool)(a1s:List (List Li))(a1o:Bool)(a1l:Int):abody V60 (Af60 F) Tryz.f60 [(.ptr 0 0 7 0 0 0 7)] [(jB 1 3 2 3 4 a0x a0f a0c),(rB a1s.length 5 a1o a1l),(iB a0N),(sB a0T),(iB a0B),(tB a1s)]=f60 F (a0N,a0T,a0B,a0x,a0f,a0c,a1s,a1o,a1l):=
 (abody_in (by kernel_rfl) (by kernel_rfl)).trans (f60_1_eq F (a0N,a0T,a0B,a0x,a0f,a0c,a1s,a1o,a1l))
def r60:CRun:=fun X H=>match X,H with
 | [(.ptr 0 0 7 0 0 0 7)],[(.cells 7 (.segs (.cons 1 (.one (.ptr 1 0 3 0 0 0 3)) (.cons 1 (.one (.own 2 0 1)) (.cons 1 (.one (.own 3 0 1)) (.cons 1 (.one (.own 4 0 1)) (.cons 1 (.one (.int .i64 a0x)) (.cons 1 (.one (.int .i64 a0f)) (.cons 1 (.one (.bool a0c)) .nil)))))))) true),(.cells 3 (.segs (.cons 1 (.one (.own 5 a1n 4)) (.cons 1 (.one (.bool a1o)) (.cons 1 (.one (.int .i64 a1l)) .nil)))) true),(.cells z2 (.rI .i64 a0N) true),(.cells z3 (.rS a0T) true),(.cells z4 (.rI .i64 a0B) true),(.cells z5 (.rT [.str,.str,.bool,.bool] a1s) true)]=>some ((decide (a1n=a1s.length∧a1n < 8000)),(.int .i64 (IntKind.i64.wrap (((Dk.R.mk a1s a1o a1l).s.length:Int)-(Jr.J.mk a0N a0T a0B a0x a0f a0c).fin))),[(jE 1 3 2 3 4 (Jr.J.mk a0N a0T a0B a0x a0f a0c)),(rB (Dk.R.mk a1s a1o a1l).s.length 5 (Dk.R.mk a1s a1o a1l).off (Dk.R.mk a1s a1o a1l).left),(.cells (Jr.J.mk a0N a0T a0B a0x a0f a0c).nums.length (.rI .i64 (Jr.J.mk a0N a0T a0B a0x a0f a0c).nums) true),(.cells (Jr.J.mk a0N a0T a0B a0x a0f a0c).texts.length (.rS (Jr.J.mk a0N a0T a0B a0x a0f a0c).texts) true),(.cells (Jr.J.mk a0N a0T a0B a0x a0f a0c).bad.length (.rI .i64 (Jr.J.mk a0N a0T a0B a0x a0f a0c).bad) true),(.cells ((Dk.R.mk a1s a1o a1l).s.length*4) (.rT [.str,.str,.bool,.bool] (Dk.R.mk a1s a1o a1l).s) true)])
 | _,_=>none
theorem s60(a0N:Li)(a0T:List Li)(a0B:Li)(a0x a0f:Int)(a0c:Bool)(a1s:List (List Li))(a1o:Bool)(a1l:Int)(hp:((decide (a1s.length=a1s.length∧a1s.length < 8000)))=true)(k0:okB (jB 1 3 2 3 4 a0x a0f a0c))(k1:okB (rB a1s.length 5 a1o a1l))(k2:okB (iB a0N))(k3:okB (sB a0T))(k4:okB (iB a0B))(k5:okB (tB a1s)):∃ F,f60 F (a0N,a0T,a0B,a0x,a0f,a0c,a1s,a1o,a1l)=some ((.int .i64 (IntKind.i64.wrap (((Dk.R.mk a1s a1o a1l).s.length:Int)-(Jr.J.mk a0N a0T a0B a0x a0f a0c).fin))),[(jE 1 3 2 3 4 (Jr.J.mk a0N a0T a0B a0x a0f a0c)),(rB (Dk.R.mk a1s a1o a1l).s.length 5 (Dk.R.mk a1s a1o a1l).off (Dk.R.mk a1s a1o a1l).left),(.cells (Jr.J.mk a0N a0T a0B a0x a0f a0c).nums.length (.rI .i64 (Jr.J.mk a0N a0T a0B a0x a0f a0c).nums) true),(.cells (Jr.J.mk a0N a0T a0B a0x a0f a0c).texts.length (.rS (Jr.J.mk a0N a0T a0B a0x a0f a0c).texts) true),(.cells (Jr.J.mk a0N a0T a0B a0x a0f a0c).bad.length (.rI .i64 (Jr.J.mk a0N a0T a0B a0x a0f a0c).bad) true),(.cells ((Dk.R.mk a1s a1o a1l).s.length*4) (.rT [.str,.str,.bool,.bool] (Dk.R.mk a1s a1o a1l).s) true)]):=by
 refine⟨0,?_⟩
 simp only [f60,f60_1]
 rw [cond_pos ⟨trivial,(of_decide_eq_true hp).2⟩]
theorem c60:CallOk Tryz.prog G36Z 60 r60:=callOk_of mixed tys eV60 Tryz.func60 (by kernel_rfl) (c:=sub (bodyOf Tryz.f60) []) (by kernel_rfl) (by
 intro X H r H' h hX hH
 unfold r60 at h;split at h <;> try contradiction
 ·obtain⟨hp,rfl,rfl⟩:=inj3 h
  obtain rfl:=okB_size (hH _ hm2) rfl
  obtain rfl:=okB_size (hH _ hm3) rfl
  obtain rfl:=okB_size (hH _ hm4) rfl
  obtain rfl:=okB_size (hH _ hm5) rfl
  obtain rfl:=(of_decide_eq_true hp).1
  obtain⟨F,hF⟩:=s60 _ _ _ _ _ _ _ _ _ hp (hH _ hm0) (hH _ hm1) (hH _ hm2) (hH _ hm3) (hH _ hm4) (hH _ hm5)
  exact⟨Af60 F,(f60_body F _ _ _ _ _ _ _ _ _).trans hF⟩)
def lV59:List CEnt:=[(58,[some 3,none],r58)]
def V59:Env:=mkEnv T36Z G36Z lV59
noncomputable abbrev Kf66:=kFin V59 (some [(2,.view 3)]) (Tryz.f59).results.toList
theorem eV59:EOk Tryz.prog V59:=eok_mk (by exact⟨c58,trivial⟩)
def Af59(F:Nat):Cuts:={ F:=F,at_:=fun n=>match n with | 3016=>some sp83 | _=>none,join:=fun n=>match n with | 1026=>some sp74 | 2024=>some sp24 | 3018=>some sp35 | 8003=>some [(3,.plain)] | _=>none,fin:=(some [(2,.view 3)]) }
noncomputable abbrev XAf59(F:Nat){α:Type}:=@aexec α V59 (Af59 F)
def ef59_a:Ty80→St:=fun (a0N,a0T,a0B,a0x,a0f,a0c,a1s,a1o,a1l)=>⟨[(0,.ptr 0 0 7 0 0 0 7)],[(0,(jB 1 3 2 3 4 a0x a0f a0c)),(1,(rB a1s.length 5 a1o a1l)),(2,(iB a0N)),(3,(sB a0T)),(4,(iB a0B)),(5,(tB a1s))],6,27,6⟩
def ef59j1:(Dk.R)×(Jr.J)→St:=fun (e1,e2)=>⟨[(0,.ptr 0 0 7 0 0 0 7)],[(0,(jE 1 3 2 3 4 e2)),(1,(rB e1.s.length 5 e1.off e1.left)),(2,(iB e2.nums)),(3,(sB e2.texts)),(4,(iB e2.bad)),(5,(tB e1.s))],6,27,6⟩
def ef59j2:(Dk.R)×(Jr.J)→St:=fun (e1,e2)=>⟨[(0,.ptr 0 0 7 0 0 0 7),(3,.ns)],[(0,(jE 1 3 2 3 4 e2)),(1,(rB e1.s.length 5 e1.off e1.left)),(2,(iB e2.nums)),(3,(sB e2.texts)),(4,(iB e2.bad)),(5,(tB e1.s))],6,27,6⟩
def ef59j3:Int×(Dk.R)×(Jr.J)→St:=fun (t4,e1,e2)=>⟨[(0,.ptr 0 0 7 0 0 0 7),(3,.ns),(4,.int .i64 t4)],[(0,(jE 1 3 2 3 4 e2)),(1,(rB e1.s.length 5 e1.off e1.left)),(2,(iB e2.nums)),(3,(sB e2.texts)),(4,(iB e2.bad)),(5,(tB e1.s))],6,27,6⟩
def ef59l1:Ty81→St:=fun (t4,x12,e1,e2)=>⟨[(0,.ptr 0 0 7 0 0 0 7),(3,.own 6 0 1),(4,.int .i64 t4)],[(0,(jE 1 3 2 3 4 e2)),(1,(rB e1.s.length 5 e1.off e1.left)),(2,(iB e2.nums)),(3,(sB e2.texts)),(4,(iB e2.bad)),(5,(tB e1.s)),(6,(iB x12))],7,27,6⟩
def ef59j4:Ty82→St:=fun (x11,e1,e2)=>⟨[(3,.own 6 0 1)],[(0,(jE 1 3 2 3 4 e2)),(1,(rB e1.s.length 5 e1.off e1.left)),(2,(iB e2.nums)),(3,(sB e2.texts)),(4,(iB e2.bad)),(5,(tB e1.s)),(6,(iB x11))],7,27,6⟩
def f59_1(F:Nat)(kj1:(Dk.R)×(Jr.J)→Rz):Ty80→Rz:=fun (a0N,a0T,a0B,a0x,a0f,a0c,a1s,a1o,a1l)=>(kj1 ((Dk.R.mk a1s a1o a1l),(Jr.J.mk a0N a0T a0B a0x a0f a0c)))
theorem f59_1_eq(F:Nat)(Rj1:St→Rz):∀ v,XAf59 F (bp Tryz.f59 2) (ef59_a v) (kSeq (kc V59 Rj1 sp74) Kf66)=f59_1 F (Rj1∘ef59j1) v:=by
 rintro⟨a0N,a0T,a0B,a0x,a0f,a0c,a1s,a1o,a1l⟩;kernel_rfl
def f59_2(F:Nat)(kj2:(Dk.R)×(Jr.J)→Rz):(Dk.R)×(Jr.J)→Rz:=fun (e1,e2)=>(kj2 (e1,e2))
theorem f59_2_eq(F:Nat)(Rj2:St→Rz):∀ v,XAf59 F (bp Tryz.f59 6) (ef59j1 v) (kSeq (kc V59 Rj2 sp24) Kf66)=f59_2 F (Rj2∘ef59j2) v:=by
 rintro⟨e1,e2⟩;kernel_rfl
def f59_3(F:Nat)(kj3:Int×(Dk.R)×(Jr.J)→Rz)(kj4:Ty82→Rz):(Dk.R)×(Jr.J)→Rz:=fun (e1,e2)=>(kj3 ((1:Int),e1,e2))
theorem f59_3_eq(F:Nat)(Rj3 Rj4:St→Rz):∀ v,XAf59 F (bp Tryz.f59 28) (ef59j2 v) (kSeq (kc V59 Rj3 sp35) (kSeq (kc V59 Rj4 [(3,.plain)]) Kf66))=f59_3 F (Rj3∘ef59j3) (Rj4∘ef59j4) v:=by
 rintro⟨e1,e2⟩;kernel_rfl
def f59_4(F:Nat)(kl1:Ty81→Rz)(kj4:Ty82→Rz):Ty81→Rz:=fun (t4,x12,e1,e2)=>(cond (decide (t4 < e2.next)) (cond (!(e2.nums.contains t4)) (cond (decide ((x12.length+1) < 1073741824)) (kl1 ((IntKind.i64.wrap (t4+(1:Int))),(x12++[t4]),e1,e2)) none) (kl1 ((IntKind.i64.wrap (t4+(1:Int))),x12,e1,e2))) (kj4 (x12,e1,e2)))
theorem f59_4_eq(F:Nat)(Rl1 Rj4:St→Rz):∀ v,XAf59 F (bp Tryz.f59 116) (ef59l1 v) (kSeq (kc V59 Rl1 sp83) (kBlock 0 (kSeq (kc V59 Rj4 [(3,.plain)]) Kf66)))=f59_4 F (Rl1∘ef59l1) (Rj4∘ef59j4) v:=by
 rintro⟨t4,x12,e1,e2⟩;kernel_rfl
def f59_5_i:Int×(Dk.R)×(Jr.J)→Int×Li×(Dk.R)×(Jr.J):=fun (t4,e1,e2)=>(t4,[],e1,e2)
def f59_5(F:Nat)(kj4:Ty82→Rz):Int×(Dk.R)×(Jr.J)→Rz:=fun v=>loopN (fun k=>f59_4 F k kj4) F (f59_5_i v)
theorem f59_5_eq(F:Nat)(Rj4:St→Rz):∀ v,XAf59 F (bp Tryz.f59 58) (ef59j3 v) (kBlock 0 (kSeq (kc V59 Rj4 [(3,.plain)]) Kf66))=f59_5 F (Rj4∘ef59j4) v:=
 loop_cut (by kernel_rfl) (by kernel_rfl) ef59j3 ef59l1 _ f59_5_i (fun k=>f59_4 F k (Rj4∘ef59j4))
  (by rintro⟨t4,e1,e2⟩;kernel_rfl) (fun Rl1=>f59_4_eq F Rl1 Rj4)
def f59_6(F:Nat)(kj4:Ty82→Rz):Int×(Dk.R)×(Jr.J)→Rz:=f59_5 F kj4
theorem f59_6_eq(F:Nat)(Rj4:St→Rz):∀ v,XAf59 F (bp Tryz.f59 29) (ef59j3 v) (kSeq (kc V59 Rj4 [(3,.plain)]) Kf66)=f59_6 F (Rj4∘ef59j4) v:=fun v=>
 (block_in  (by kernel_rfl) _ _).trans (f59_5_eq F Rj4 v)
def f59_7(F:Nat)(kj4:Ty82→Rz):(Dk.R)×(Jr.J)→Rz:=fun v=>f59_3 F (f59_6 F kj4) kj4 v
theorem f59_7_eq(F:Nat)(Rj4:St→Rz):∀ v,XAf59 F (bp Tryz.f59 14) (ef59j2 v) (kSeq (kc V59 Rj4 [(3,.plain)]) Kf66)=f59_7 F (Rj4∘ef59j4) v:=
 seq_cut (by kernel_rfl) (by kernel_rfl) ef59j2 ef59j3 _ (fun k=>f59_3 F k (Rj4∘ef59j4)) (f59_6 F (Rj4∘ef59j4))
  (fun Rj3=>f59_3_eq F Rj3 Rj4) (f59_6_eq F Rj4)
def f59_8(F:Nat):Ty82→Rz:=fun (x11,e1,e2)=>(some ((.vs (.rI .i64 x11) 0 1),[(jE 1 3 2 3 4 e2),(rB e1.s.length 5 e1.off e1.left),(iB e2.nums),(sB e2.texts),(iB e2.bad),(tB e1.s)]))
theorem f59_8_eq(F:Nat):∀ v,XAf59 F (bp Tryz.f59 15) (ef59j4 v) Kf66=f59_8 F v:=by
 rintro⟨x11,e1,e2⟩;kernel_rfl
def f59_9(F:Nat):(Dk.R)×(Jr.J)→Rz:=fun v=>f59_7 F (f59_8 F) v
theorem f59_9_eq(F:Nat):∀ v,XAf59 F (bp Tryz.f59 7) (ef59j2 v) Kf66=f59_9 F v:=
 seq_cut (by kernel_rfl) (by kernel_rfl) ef59j2 ef59j4 _ (fun k=>f59_7 F k) (f59_8 F)
  (fun Rj4=>f59_7_eq F Rj4) (f59_8_eq F)
def f59_10(F:Nat):(Dk.R)×(Jr.J)→Rz:=fun v=>f59_2 F (f59_9 F) v
theorem f59_10_eq(F:Nat):∀ v,XAf59 F (bp Tryz.f59 3) (ef59j1 v) Kf66=f59_10 F v:=
 seq_cut (by kernel_rfl) (by kernel_rfl) ef59j1 ef59j2 _ (fun k=>f59_2 F k) (f59_9 F)
  (fun Rj2=>f59_2_eq F Rj2) (f59_9_eq F)
def f59_11(F:Nat):Ty80→Rz:=fun v=>f59_1 F (f59_10 F) v
theorem f59_11_eq(F:Nat):∀ v,XAf59 F (sub (bodyOf Tryz.f59) []) (ef59_a v) Kf66=f59_11 F v:=
 seq_cut (by kernel_rfl) (by kernel_rfl) ef59_a ef59j1 _ (fun k=>f59_1 F k) (f59_10 F)
  (fun Rj1=>f59_1_eq F Rj1) (f59_10_eq F)
def f59(F:Nat):Ty80→Rz:=f59_11 F
theorem f59_body(F:Nat)(a0N:Li)(a0T:List Li)(a0B:Li)(a0x a0f:Int)(a0c:Bool)(a1s:List (List Li))(a1o:Bool)(a1l:Int):abody V59 (Af59 F) Tryz.f59 [(.ptr 0 0 7 0 0 0 7)] [(jB 1 3 2 3 4 a0x a0f a0c),(rB a1s.length 5 a1o a1l),(iB a0N),(sB a0T),(iB a0B),(tB a1s)]=f59 F (a0N,a0T,a0B,a0x,a0f,a0c,a1s,a1o,a1l):=
 (abody_in (by kernel_rfl) (by kernel_rfl)).trans (f59_11_eq F (a0N,a0T,a0B,a0x,a0f,a0c,a1s,a1o,a1l))
def r59:CRun:=fun X H=>match X,H with
 | [(.ptr 0 0 7 0 0 0 7)],[(.cells 7 (.segs (.cons 1 (.one (.ptr 1 0 3 0 0 0 3)) (.cons 1 (.one (.own 2 0 1)) (.cons 1 (.one (.own 3 0 1)) (.cons 1 (.one (.own 4 0 1)) (.cons 1 (.one (.int .i64 a0x)) (.cons 1 (.one (.int .i64 a0f)) (.cons 1 (.one (.bool a0c)) .nil)))))))) true),(.cells 3 (.segs (.cons 1 (.one (.own 5 a1n 4)) (.cons 1 (.one (.bool a1o)) (.cons 1 (.one (.int .i64 a1l)) .nil)))) true),(.cells z2 (.rI .i64 a0N) true),(.cells z3 (.rS a0T) true),(.cells z4 (.rI .i64 a0B) true),(.cells z5 (.rT [.str,.str,.bool,.bool] a1s) true)]=>some ((decide (a1n=a1s.length∧a1n < 8000))&&((decide ((Jr.J.mk a0N a0T a0B a0x a0f a0c).nums.length < 1073741000∧(Jr.J.mk a0N a0T a0B a0x a0f a0c).next < 100000))),(.vs (.rI .i64 (Jr.damaged (Jr.J.mk a0N a0T a0B a0x a0f a0c))) 0 1),[(jE 1 3 2 3 4 (Jr.J.mk a0N a0T a0B a0x a0f a0c)),(rB (Dk.R.mk a1s a1o a1l).s.length 5 (Dk.R.mk a1s a1o a1l).off (Dk.R.mk a1s a1o a1l).left),(.cells (Jr.J.mk a0N a0T a0B a0x a0f a0c).nums.length (.rI .i64 (Jr.J.mk a0N a0T a0B a0x a0f a0c).nums) true),(.cells (Jr.J.mk a0N a0T a0B a0x a0f a0c).texts.length (.rS (Jr.J.mk a0N a0T a0B a0x a0f a0c).texts) true),(.cells (Jr.J.mk a0N a0T a0B a0x a0f a0c).bad.length (.rI .i64 (Jr.J.mk a0N a0T a0B a0x a0f a0c).bad) true),(.cells ((Dk.R.mk a1s a1o a1l).s.length*4) (.rT [.str,.str,.bool,.bool] (Dk.R.mk a1s a1o a1l).s) true)])
 | _,_=>none
theorem s59(a0N:Li)(a0T:List Li)(a0B:Li)(a0x a0f:Int)(a0c:Bool)(a1s:List (List Li))(a1o:Bool)(a1l:Int)(hp:((decide (a1s.length=a1s.length∧a1s.length < 8000))&&((decide ((Jr.J.mk a0N a0T a0B a0x a0f a0c).nums.length < 1073741000∧(Jr.J.mk a0N a0T a0B a0x a0f a0c).next < 100000))))=true)(k0:okB (jB 1 3 2 3 4 a0x a0f a0c))(k1:okB (rB a1s.length 5 a1o a1l))(k2:okB (iB a0N))(k3:okB (sB a0T))(k4:okB (iB a0B))(k5:okB (tB a1s)):∃ F,f59 F (a0N,a0T,a0B,a0x,a0f,a0c,a1s,a1o,a1l)=some ((.vs (.rI .i64 (Jr.damaged (Jr.J.mk a0N a0T a0B a0x a0f a0c))) 0 1),[(jE 1 3 2 3 4 (Jr.J.mk a0N a0T a0B a0x a0f a0c)),(rB (Dk.R.mk a1s a1o a1l).s.length 5 (Dk.R.mk a1s a1o a1l).off (Dk.R.mk a1s a1o a1l).left),(.cells (Jr.J.mk a0N a0T a0B a0x a0f a0c).nums.length (.rI .i64 (Jr.J.mk a0N a0T a0B a0x a0f a0c).nums) true),(.cells (Jr.J.mk a0N a0T a0B a0x a0f a0c).texts.length (.rS (Jr.J.mk a0N a0T a0B a0x a0f a0c).texts) true),(.cells (Jr.J.mk a0N a0T a0B a0x a0f a0c).bad.length (.rI .i64 (Jr.J.mk a0N a0T a0B a0x a0f a0c).bad) true),(.cells ((Dk.R.mk a1s a1o a1l).s.length*4) (.rT [.str,.str,.bool,.bool] (Dk.R.mk a1s a1o a1l).s) true)]):=by
 obtain⟨hp0,hp⟩:=Bool.and_eq_true_iff.1 hp
 obtain⟨hp1,hp2⟩:=of_decide_eq_true hp
 have hp2:a0x < 100000:=hp2
 obtain⟨F,hF⟩:∃ F,F=200000:=⟨_,rfl⟩
 refine⟨F,?_⟩
 simp only [f59,f59_11,f59_1,f59_10,f59_2,f59_9,f59_7,f59_3,f59_6,f59_5,f59_5_i]
 refine loopN_from (fun i=>((i:Int)+1,((List.range i).filter fun i:Nat=>!a0N.contains ((i:Int)+1)).map fun i:Nat=>(i:Int)+1,(Dk.R.mk a1s a1o a1l),(Jr.J.mk a0N a0T a0B a0x a0f a0c))) (a0x-1).toNat rfl (fun i hi q=>?_) (fun q=>?_) F (by omega)
 ·simp only [f59_4]
  have hlen:(((List.range i).filter fun i:Nat=>!a0N.contains ((i:Int)+1)).map fun i:Nat=>(i:Int)+1).length≤i:=by
   rw [List.length_map];exact Nat.le_trans (List.length_filter_le _ _) (by simp)
  rw [cond_pos (by omega),i64w (by omega) (by omega),Jr.dam_step]
  cases (!a0N.contains ((i:Int)+1))
  ·rw [cond_false,cond_false,List.append_nil];rfl
  ·rw [cond_true,cond_true,cond_pos (by omega)];rfl
 ·simp only [f59_4]
  rw [cond_neg (by omega)]
  rfl
theorem c59:CallOk Tryz.prog G36Z 59 r59:=callOk_of mixed tys eV59 Tryz.func59 (by kernel_rfl) (c:=sub (bodyOf Tryz.f59) []) (by kernel_rfl) (by
 intro X H r H' h hX hH
 unfold r59 at h;split at h <;> try contradiction
 ·obtain⟨hp,rfl,rfl⟩:=inj3 h
  obtain rfl:=okB_size (hH _ hm2) rfl
  obtain rfl:=okB_size (hH _ hm3) rfl
  obtain rfl:=okB_size (hH _ hm4) rfl
  obtain rfl:=okB_size (hH _ hm5) rfl
  obtain rfl:=(of_decide_eq_true (Bool.and_eq_true_iff.1 hp).1).1
  obtain⟨F,hF⟩:=s59 _ _ _ _ _ _ _ _ _ hp (hH _ hm0) (hH _ hm1) (hH _ hm2) (hH _ hm3) (hH _ hm4) (hH _ hm5)
  exact⟨Af59 F,(f59_body F _ _ _ _ _ _ _ _ _).trans hF⟩)
end Go.Am
end