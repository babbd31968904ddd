/- Part of a proof. -/
import Derived.Test.YtffddoahjpemaaaGreatDoorAmJrn11
import Derived.KernelRfl
import Derived.Test.YtffddoahjpemaaaGreatDoorAm36ZI
import Derived.Test.YtffddoahjpemaaaGreatDoorAm36ZJ
import Derived.Test.YtffddoahjpemaaaGreatDoorAm36ZD
import Derived.Test.YtffddoahjpemaaaGreatDoorAmJrn7
import Derived.Test.YtffddoahjpemaaaGreatDoorAm36ZH
import Derived.Test.YtffddoahjpemaaaGreatDoorAmPackOk36Z
set_option linter.unusedSimpArgs false
set_option linter.unusedVariables false
section
/- The example of the statements about the journal, evaluated on the specification's disk. -/
namespace Go.Jr
open Go Go.Am Go.Dk
abbrev Oc:List Int:=repeat_ [120] 50
abbrev zs:List Int:=List.replicate 64 0
abbrev sc(t:Li):List Li:=[t,[],[0],[0]]
def x1:List Int:=[1,0,0,0,0,0,1,0,97,0,0,0,0,0,0,0,0,0,0,0,0,0,0,0,0,0,0,0,0,0,0,0,0,0,0,0,0,0,0,0,0,0,0,0,0,0,0,0,0,0,0,0,0,0,0,0,84,154,118,26,131,73,143,214]
def x2:List Int:=[2,0,0,0,0,0,50,0,120,120,120,120,120,120,120,120,120,120,120,120,120,120,120,120,120,120,120,120,120,120,120,120,120,120,120,120,120,120,120,120,120,120,120,120,120,120,120,120,120,120,120,120,120,120,120,120,172,130,184,27,18,198,7,61]
def x3:List Int:=[2,0,0,0,1,0,2,0,120,120,0,0,0,0,0,0,0,0,0,0,0,0,0,0,0,0,0,0,0,0,0,0,0,0,0,0,0,0,0,0,0,0,0,0,0,0,0,0,0,0,0,0,0,0,0,0,208,101,239,173,36,191,246,241]
def x4:List Int:=[3,0,0,0,0,0,1,0,98,0,0,0,0,0,0,0,0,0,0,0,0,0,0,0,0,0,0,0,0,0,0,0,0,0,0,0,0,0,0,0,0,0,0,0,0,0,0,0,0,0,0,0,0,0,0,0,57,239,201,0,98,120,49,119]
def xt:List Int:=x2.set 8 56
def R1:R:=⟨[sc x1,sc zs,sc zs,sc zs],false,-1⟩
def R2:R:=⟨[sc x1,sc x2,sc x3,sc zs],false,-1⟩
def R3:R:=⟨[sc x1,sc xt,sc x3,sc zs],false,-1⟩
def R4:R:=⟨[sc x1,sc xt,sc x3,sc x4],false,-1⟩
def j0:J:=⟨[],[],[],1,0,false⟩
def j1:J:=⟨[1],[[97]],[],2,1,false⟩
def j2:J:=⟨[1,2],[[97],Oc],[],3,3,false⟩
def j3:J:=⟨[1],[[97]],[1],3,3,false⟩
def j4:J:=⟨[1,3],[[97],[98]],[1],4,4,false⟩
theorem t0:openS (dQ (js 4))=j0:=by kernel_rfl
theorem t1:append RV (js 4) j0 [97]=(R1,j1,1,0):=by kernel_rfl
theorem t2:append RV R1 j1 Oc=(R2,j2,2,0):=by kernel_rfl
theorem t3:rQ R2 1 70=(R3,0):=by kernel_rfl
theorem t4:openS (dQ R3)=j3:=by kernel_rfl
theorem t5:append RV R3 j3 [98]=(R4,j4,3,0):=by kernel_rfl
theorem t6:append RV R4 j4 [99]=(R4,j4,0,21):=by kernel_rfl
theorem Both.can{p:Prop}{n:Nat}(h:p)(hn:n=4):p:=h
abbrev Can(d:D)(j:J):Prop:=(Dk.fine d && !d.off)=true∧(Dk.fine d&&Jr.okJ d j)=true
theorem can{d:D}{r:R}{j:J}(h:DR d r)(hn:r.s.length=4)(ho:r.off=false)(hj:okJR j=true):Can d j:=by
 have h1:=Rel.pends h.1
 have h2:=h.1.n
 have h3:d.off=false:=h.1.off.trans ho
 have h4:okJ d j=true:=by
  rw [Jr.okJR,decide_eq_true_iff] at hj
  rw [Jr.okJ,decide_eq_true_iff]
  omega
 rw [Can,h.1.fine,h3,h4]
 exact⟨rfl,rfl⟩
structure Ex (D0:D) (J0:J) (E1 E2:D×J×Int×Int) (D3:D) (J3:J) (E4 E5:D×J×Int×Int):Prop where
 b0:Can D0 J0
 b1:Can E1.1 E1.2.1
 b3:Can D3 J3
 b4:Can E4.1 E4.2.1
 n0:D0.n=4
 n1:E1.1.n=4
 n2:E2.1.n=4
 n3:D3.n=4
 n4:E4.1.n=4
 x0:J0.next=1
 f0:J0.fin=0
 a1:E1.2.2=(1,0)
 a2:E2.2.2=(2,0)
 f2:E2.2.1.fin=3
 rot:(Dk.rot E2.1 1 70).2=0
 a4:E4.2.2=(3,0)
 a5:E5.2.2=(0,21)
 nums:E5.2.1.nums=[1,3]
 texts:E5.2.1.texts=[[97],[98]]
 next:E5.2.1.next=4
 bad:E5.2.1.bad=[1]
 damaged:damaged E5.2.1=[2]
theorem ex_of{D0:D}{J0:J}{E1 E2:D×J×Int×Int}{D3:D}{J3:J}{E4 E5:D×J×Int×Int}(eD0:D0=Dk.new 4)(eJ0:J0=openS (secsD D0))(e1:E1=append DV D0 J0 [97])
  (e2:E2=append DV E1.1 E1.2.1 Oc) (eD3:D3=(Dk.rot E2.1 1 70).1) (eJ3:J3=openS (secsD D3)) (e4:E4=append DV D3 J3 [98]) (e5:E5=append DV E4.1 E4.2.1 [99]):Ex D0 J0 E1 E2 D3 J3 E4 E5:=by
 have h0:DR D0 (js 4):=by rw [eD0];exact⟨yj (by decide) (by decide),by decide⟩
 have q0:J0=j0:=by rw [eJ0,km h0.1,t0]
 have h1:=dq oH h0 J0 [97]
 rw [← e1,q0,t1] at h1
 have h2:=dq oH h1.2 E1.2.1 Oc
 rw [← e2,h1.1,t2] at h2
 have h3:=h2.2.1.rot 1 70
 rw [t3,← eD3] at h3
 have n3:=h3.2.n
 have h3':DR D3 R3:=⟨h3.2,by rw [← n3];decide⟩
 have q3:J3=j3:=by rw [eJ3,km h3.2,t4]
 have h4:=dq oH h3' J3 [98]
 rw [← e4,q3,t5] at h4
 have h5:=dq oH h4.2 E4.2.1 [99]
 rw [← e5,h4.1,t6] at h5
 have m1:=h1.1
 have m2:=h2.1
 have m4:=h4.1
 have m5:=h5.1
 simp only at m1 m2 m4 m5
 exact {
  b0:=by rw [q0];exact can h0 rfl rfl rfl
  b1:=by rw [m1];exact can h1.2 rfl rfl rfl
  b3:=by rw [q3];exact can h3' rfl rfl rfl
  b4:=by rw [m4];exact can h4.2 rfl rfl rfl
  n0:=by rw [← h0.1.n];rfl
  n1:=by rw [← h1.2.1.n];rfl
  n2:=by rw [← h2.2.1.n];rfl
  n3:=by rw [← n3];rfl
  n4:=by rw [← h4.2.1.n];rfl
  x0:=by rw [q0];rfl
  f0:=by rw [q0];rfl
  a1:=by rw [m1]
  a2:=by rw [m2]
  f2:=by rw [m2];rfl
  rot:=h3.1
  a4:=by rw [m4]
  a5:=by rw [m5]
  nums:=by rw [m5];rfl
  texts:=by rw [m5];rfl
  next:=by rw [m5];rfl
  bad:=by rw [m5];rfl
  damaged:=by rw [m5];rfl }
theorem pack97:pack 1 [97]=([sector 1 [97] 0],0):=rfl
theorem unpack97:unpack (sector 1 [97] 0)=⟨1,0,1,[97],true⟩:=cf (by decide) (by decide) (by decide) (by decide)
end Go.Jr
end
section
namespace Go.Am
open Go Go.Proofs
abbrev Od:List (Nat×Md):=[(1,.plain),(3,.plain),(4,.plain)]
abbrev a09:List (Nat×Md):=[(1,.plain),(3,.plain),(54,.plain)]
abbrev yF:List (Nat×Md):=[(1,.plain),(3,.plain)]
abbrev a1a:List (Nat×Md):=[(1,.plain),(3,.plain),(5,.plain),(6,.plain)]
abbrev a1c:List (Nat×Md):=[(1,.plain),(3,.plain),(5,.plain),(6,.plain),(7,.plain),(8,.plain)]
abbrev a1d:List (Nat×Md):=[(1,.plain),(5,.plain),(6,.plain),(7,.plain),(8,.plain),(9,.plain)]
abbrev a1e:List (Nat×Md):=[(1,.plain),(5,.plain),(6,.plain),(7,.plain),(8,.plain),(9,.plain),(10,.plain)]
abbrev a1f:List (Nat×Md):=[(5,.plain),(6,.plain),(7,.plain),(8,.plain),(9,.plain),(10,.plain),(11,.plain),(12,.plain)]
abbrev a1g:List (Nat×Md):=[(11,.plain),(104,.plain)]
abbrev a1h:List (Nat×Md):=[(11,.plain),(13,.plain),(14,.plain)]
abbrev a1i:List (Nat×Md):=[(11,.plain),(13,.plain),(14,.plain),(16,.plain)]
abbrev a1j:List (Nat×Md):=[(11,.plain),(13,.plain),(14,.plain),(16,.plain),(17,.plain),(18,.plain)]
abbrev a1k:List (Nat×Md):=[(11,.plain),(17,.plain),(137,.plain)]
abbrev Oe:List (Nat×Md):=[(11,.plain),(17,.plain)]
abbrev a1m:List (Nat×Md):=[(11,.plain),(19,.plain),(20,.plain),(21,.plain),(22,.plain),(23,.plain)]
abbrev acv:=Int×Int×Int×Int×(Dk.D)×(Jr.J)
abbrev acw:=Int×Int×Int×Int×Int×(Dk.D)
abbrev acx:=Int×Int×Int×Int×Int×Int×(Dk.D)
abbrev acy:=Int×Int×Int×Int×Int×Int×Int×(Dk.D)×(Jr.J)
abbrev acz:=Int×Int×Int×(Dk.D)×(Jr.J)
abbrev acA:=Int×Int×Int×(List Li)×Int×(Dk.D)×(Jr.J)
abbrev acB:=(List Li)×Bool×(Dk.D)×(Jr.J)
abbrev Of:=(List Li)×(Dk.D)×(Jr.J)
abbrev acC:=Int×Int×Int×Li×Bool×(Dk.D)×(Jr.J)
def lV7:List aF:=[(9,[none],r9),(10,[some 9,some 9],r10),(11,[none],r11),(12,[none],r12),(14,[none,none],r14),(20,[none],r20),(27,[none,none,none],r27),(34,[none],r34),(35,[none],r35),(36,[some 3,some 3],r36),(37,[none],r37),(38,[none],r38),(39,[none,none],r39),(40,[none,none],r40),(41,[none],r41),(42,[none],r42)]
def V7:Env:=ar aE ao lV7
noncomputable abbrev br:=aI V7 none (Tryz.f7).results.toList
theorem eV7:EOk Tryz.prog V7:=aj (by exact⟨c9,c10,c11,c12,c14,c20,c27,c34,c35,c36,c37,c38,c39,c40,c41,c42,trivial⟩)
def Af7(F:Nat):Cuts:={ F:=F,at_:=fun _=>none,join:=fun n=>match n with | 1057=>some [] | 2055=>some xy | 3005=>some [(1,.plain),(33,.plain)] | 4047=>some [(1,.plain)] | 5045=>some Od | 6005=>some a09 | 7037=>some yF | 8035=>some a1a | 9033=>some a1c | 10031=>some a1d | 11029=>some a1e | 12027=>some a1f | 13005=>some a1g | 14019=>some [(11,.plain)] | 15017=>some a1h | 16015=>some a1i | 17013=>some a1j | 18005=>some a1k | 19005=>some Oe | 20003=>some a1m | _=>none }
abbrev qf7(F n:Nat){σ:Type}(e:σ→St)(K:Ex→St→Rz)(N:σ→Rz):=Qe V7 (Af7 F) (bp Tryz.f7 n) e K N
def Og:Unit→St:=fun _=>hS [] [] 193 0
def Oh:Unit→St:=Og
def B6:Int×(Dk.D)→St:=fun (b,a)=>hS [pS 1 0 5,iS 2 b] [dE 1 a 2 3,bB a.blk,pB a.pend,wB a.worn] 193 0
def aeT:Bool×(Dk.D)→St:=fun (b,a)=>hS [pS 1 0 5,(33,.bool b)] [dE 1 a 2 3,bB a.blk,pB a.pend,wB a.worn] 193 0
def qf:(Dk.D)→St:=fun a=>hS [pS 1 0 5] [dE 1 a 2 3,bB a.blk,pB a.pend,wB a.worn] 193 0
def B7:Int×(Dk.D)×(Jr.J)→St:=fun (c,a,b)=>hS [pS 1 0 5,pS 3 1 7,iS 4 c] [dE 2 a 3 4,jE 0 5 5 6 7 b,bB a.blk,pB a.pend,wB a.worn,iB b.nums,iB b.bad,sB b.texts] 193 0
def aeU:Bool×(Dk.D)×(Jr.J)→St:=fun (c,a,b)=>hS [pS 1 0 5,pS 3 1 7,(54,.bool c)] [dE 2 a 3 4,jE 0 5 5 6 7 b,bB a.blk,pB a.pend,wB a.worn,iB b.nums,iB b.bad,sB b.texts] 193 0
def qg:(Dk.D)×(Jr.J)→St:=fun (a,b)=>hS [pS 1 0 5,pS 3 1 7] [dE 2 a 3 4,jE 0 5 5 6 7 b,bB a.blk,pB a.pend,wB a.worn,iB b.nums,iB b.bad,sB b.texts] 193 0
def Oi:kW→St:=fun (c,d,a,b)=>hS [pS 1 0 5,pS 3 1 7,iS 5 c,iS 6 d] [dE 2 a 3 4,jE 0 5 5 6 7 b,bB a.blk,pB a.pend,wB a.worn,iB b.nums,iB b.bad,sB b.texts] 193 0
def Oj:acv→St:=fun (c,d,e,f,a,b)=>hS [pS 1 0 5,pS 3 1 7,iS 5 c,iS 6 d,iS 7 e,iS 8 f] [dE 2 a 3 4,jE 0 5 5 6 7 b,bB a.blk,pB a.pend,wB a.worn,iB b.nums,iB b.bad,sB b.texts] 193 0
def G6:acw→St:=fun (b,c,d,e,f,a)=>hS [pS 1 0 5,iS 5 b,iS 6 c,iS 7 d,iS 8 e,iS 9 f] [dE 1 a 2 3,bB a.blk,pB a.pend,wB a.worn] 193 0
def G7:acx→St:=fun (b,c,d,e,f,g,a)=>hS [pS 1 0 5,iS 5 b,iS 6 c,iS 7 d,iS 8 e,iS 9 f,iS 10 g] [dE 1 a 2 3,bB a.blk,pB a.pend,wB a.worn] 193 0
def vZ:acy→St:=fun (c,d,e,f,g,h,i,a,b)=>hS [iS 5 c,iS 6 d,iS 7 e,iS 8 f,iS 9 g,iS 10 h,pS 11 0 7,iS 12 i] [jE 1 5 2 3 4 b,dE 5 a 6 7,iB b.nums,iB b.bad,sB b.texts,bB a.blk,pB a.pend,wB a.worn] 193 0
def U6:Bool×(Dk.D)×(Jr.J)→St:=fun (c,a,b)=>hS [pS 11 0 7,(104,.bool c)] [jE 1 5 2 3 4 b,dE 5 a 6 7,iB b.nums,iB b.bad,sB b.texts,bB a.blk,pB a.pend,wB a.worn] 193 0
def lR:(Dk.D)×(Jr.J)→St:=fun (a,b)=>hS [pS 11 0 7] [jE 1 5 2 3 4 b,dE 5 a 6 7,iB b.nums,iB b.bad,sB b.texts,bB a.blk,pB a.pend,wB a.worn] 193 0
def G8:kW→St:=fun (c,d,a,b)=>hS [pS 11 0 7,iS 13 c,iS 14 d] [jE 1 5 2 3 4 b,dE 5 a 6 7,iB b.nums,iB b.bad,sB b.texts,bB a.blk,pB a.pend,wB a.worn] 193 0
def G9:acz→St:=fun (c,d,e,a,b)=>hS [pS 11 0 7,iS 13 c,iS 14 d,iS 16 e] [jE 1 5 2 3 4 b,dE 5 a 6 7,iB b.nums,iB b.bad,sB b.texts,bB a.blk,pB a.pend,wB a.worn] 193 0
def v2:acA→St:=fun (c,d,e,f,g,a,b)=>hS [pS 11 0 7,iS 13 c,iS 14 d,iS 16 e,(17,(z12 f)),iS 18 g] [jE 1 5 2 3 4 b,dE 5 a 6 7,iB b.nums,iB b.bad,sB b.texts,bB a.blk,pB a.pend,wB a.worn] 193 0
def U7:acB→St:=fun (c,d,a,b)=>hS [pS 11 0 7,(17,(z12 c)),(137,.bool d)] [jE 1 5 2 3 4 b,dE 5 a 6 7,iB b.nums,iB b.bad,sB b.texts,bB a.blk,pB a.pend,wB a.worn] 193 0
def lT:Of→St:=fun (c,a,b)=>hS [pS 11 0 7,(17,(z12 c))] [jE 1 5 2 3 4 b,dE 5 a 6 7,iB b.nums,iB b.bad,sB b.texts,bB a.blk,pB a.pend,wB a.worn] 193 0
def U8:acC→St:=fun (c,d,e,f,g,a,b)=>hS [pS 11 0 7,iS 19 c,iS 20 d,iS 21 e,(22,.str f),(23,.bool g)] [jE 1 5 2 3 4 b,dE 5 a 6 7,iB b.nums,iB b.bad,sB b.texts,bB a.blk,pB a.pend,wB a.worn] 193 0
def Ol(F:Nat)(a:Unit→Rz):Unit→Rz:=fun _=>(a ())
theorem aZv F Rj1:qf7 F 2 Og (kq V7 Rj1 [] br) (Ol F (Rj1∘Oh)):=fun _=>by kernel_rfl
def Om(F:Nat)(a:Int×(Dk.D)→Rz):Unit→Rz:=fun _=>(cond ((decide (0 < (4:Int)))&&(decide ((4:Int) < 4097))) (a (0,(Dk.new (4:Int)))) none)
theorem aZw F Rj2:qf7 F 6 Oh (kq V7 Rj2 xy br) (Om F (Rj2∘B6)):=fun _=>by kernel_rfl
def On(F:Nat)(a:Bool×(Dk.D)→Rz)(d:(Dk.D)→Rz):Int×(Dk.D)→Rz:=fun (c,b)=>(cond (c != (0:Int)) (a (true,b)) (a (false,b)))
theorem aZx F Rj3 Rj4:qf7 F 28 B6 (kq V7 Rj3 [(1,.plain),(33,.plain)] (kq V7 Rj4 [(1,.plain)] br)) (On F (Rj3∘aeT) (Rj4∘qf)):=fun _=>by kernel_rfl
def acD(F:Nat)(a:(Dk.D)→Rz):Bool×(Dk.D)→Rz:=fun (b,c)=>(cond b (some ((.bool false),[])) (a c))
theorem aZy F Rj4:qf7 F 29 aeT (kq V7 Rj4 [(1,.plain)] br) (acD F (Rj4∘qf)):=fun _=>by kernel_rfl
def Oo(F:Nat)(a):=On F (acD F a) a
theorem aZz F Rj4:qf7 F 14 B6 (kq V7 Rj4 [(1,.plain)] br) (Oo F (Rj4∘qf)):=sqC (fun k=>On F k (Rj4∘qf)) (fun Rj3=>aZx F Rj3 Rj4) (aZy F Rj4)
def Oq(F:Nat)(b:Int×(Dk.D)×(Jr.J)→Rz):(Dk.D)→Rz:=fun a=>(cond ((Dk.fine a)&&(!a.off)) (b (0,a,(Jr.openS (Jr.secsD a)))) none)
theorem aZA F Rj5:qf7 F 30 qf (kq V7 Rj5 Od br) (Oq F (Rj5∘B7)):=fun _=>by kernel_rfl
def Or(F:Nat)(c:Bool×(Dk.D)×(Jr.J)→Rz)(e:(Dk.D)×(Jr.J)→Rz):Int×(Dk.D)×(Jr.J)→Rz:=fun (d,b,a)=>(cond (d != (0:Int)) (c (true,b,a)) (cond (a.next != (1:Int)) (c (true,b,a)) (c (((IntKind.i64.wrap ((b.n:Int)-a.fin)) != (4:Int)),b,a))))
theorem aZB F Rj6 Rj7:qf7 F 124 B7 (kq V7 Rj6 a09 (kq V7 Rj7 yF br)) (Or F (Rj6∘aeU) (Rj7∘qg)):=fun _=>by kernel_rfl
def acE(F:Nat)(a:(Dk.D)×(Jr.J)→Rz):Bool×(Dk.D)×(Jr.J)→Rz:=fun (b,c,d)=>(cond b (some ((.bool false),[])) (a (c,d)))
theorem aZC F Rj7:qf7 F 125 aeU (kq V7 Rj7 yF br) (acE F (Rj7∘qg)):=fun _=>by kernel_rfl
def Ot(F:Nat)(a):=Or F (acE F a) a
theorem aZD F Rj7:qf7 F 62 B7 (kq V7 Rj7 yF br) (Ot F (Rj7∘qg)):=sqC (fun k=>Or F k (Rj7∘qg)) (fun Rj6=>aZB F Rj6 Rj7) (aZC F Rj7)
def B8(F:Nat)(c:kW→Rz):(Dk.D)×(Jr.J)→Rz:=fun (a,b)=>(cond ((Dk.fine a)&&(Jr.okJ a b)) (c ((Jr.append Jr.DV a b [97]).2.2.1,(Jr.append Jr.DV a b [97]).2.2.2,(Jr.append Jr.DV a b [97]).1,(Jr.append Jr.DV a b [97]).2.1)) none)
theorem acF F Rj8:qf7 F 126 qg (kq V7 Rj8 a1a br) (B8 F (Rj8∘Oi)):=fun _=>by kernel_rfl
def B9(F:Nat)(c:acv→Rz):kW→Rz:=fun (d,e,a,b)=>(cond (decide (0≤(50:Int)∧(50:Int) < 1000∧[120].length < 1000)) (cond ((Dk.fine a)&&(Jr.okJ a b)) (c (d,e,(Jr.append Jr.DV a b (Jr.repeat_ [120] (50:Int))).2.2.1,(Jr.append Jr.DV a b (Jr.repeat_ [120] (50:Int))).2.2.2,(Jr.append Jr.DV a b (Jr.repeat_ [120] (50:Int))).1,(Jr.append Jr.DV a b (Jr.repeat_ [120] (50:Int))).2.1)) none) none)
theorem acG F Rj9:qf7 F 254 Oi (kq V7 Rj9 a1c br) (B9 F (Rj9∘Oj)):=fun _=>by kernel_rfl
def Ca(F:Nat)(b:acw→Rz):acv→Rz:=fun (c,d,e,f,a,g)=>(b (c,d,e,f,(IntKind.i64.wrap ((a.n:Int)-g.fin)),a))
theorem acH F Rj10:qf7 F 510 Oj (kq V7 Rj10 a1d br) (Ca F (Rj10∘G6)):=fun _=>by kernel_rfl
def Cb(F:Nat)(b:acx→Rz):acw→Rz:=fun (c,d,e,f,g,a)=>(b (c,d,e,f,g,(Dk.rot a (1:Int) (70:Int)).2,(Dk.rot a (1:Int) (70:Int)).1))
theorem acI F Rj11:qf7 F 1022 G6 (kq V7 Rj11 a1e br) (Cb F (Rj11∘G7)):=fun _=>by kernel_rfl
def Cc(F:Nat)(b:acy→Rz):acx→Rz:=fun (c,d,e,f,g,h,a)=>(cond ((Dk.fine a)&&(!a.off)) (b (c,d,e,f,g,h,0,a,(Jr.openS (Jr.secsD a)))) none)
theorem acJ F Rj12:qf7 F 2046 G7 (kq V7 Rj12 a1f br) (Cc F (Rj12∘vZ)):=fun _=>by kernel_rfl
def Cd(F:Nat)(a:Bool×(Dk.D)×(Jr.J)→Rz)(k:(Dk.D)×(Jr.J)→Rz):acy→Rz:=fun (d,e,f,g,h,i,j,b,c)=>(cond (d != (1:Int)) (a (true,b,c)) (cond (e != (0:Int)) (a (true,b,c)) (cond (f != (2:Int)) (a (true,b,c)) (cond (g != (0:Int)) (a (true,b,c)) (cond (h != (1:Int)) (a (true,b,c)) (cond (i != (0:Int)) (a (true,b,c)) (cond (j != (0:Int)) (a (true,b,c)) (a (false,b,c)))))))))
theorem acK F Rj13 Rj14:qf7 F 8188 vZ (kq V7 Rj13 a1g (kq V7 Rj14 [(11,.plain)] br)) (Cd F (Rj13∘U6) (Rj14∘lR)):=fun _=>by kernel_rfl
def Ou(F:Nat)(a:(Dk.D)×(Jr.J)→Rz):Bool×(Dk.D)×(Jr.J)→Rz:=fun (b,c,d)=>(cond b (some ((.bool false),[])) (a (c,d)))
theorem acL F Rj14:qf7 F 8189 U6 (kq V7 Rj14 [(11,.plain)] br) (Ou F (Rj14∘lR)):=fun _=>by kernel_rfl
def Ce(F:Nat)(a):=Cd F (Ou F a) a
theorem acM F Rj14:qf7 F 4094 vZ (kq V7 Rj14 [(11,.plain)] br) (Ce F (Rj14∘lR)):=sqC (fun k=>Cd F k (Rj14∘lR)) (fun Rj13=>acK F Rj13 Rj14) (acL F Rj14)
def Cf(F:Nat)(c:kW→Rz):(Dk.D)×(Jr.J)→Rz:=fun (a,b)=>(cond ((Dk.fine a)&&(Jr.okJ a b)) (c ((Jr.append Jr.DV a b [98]).2.2.1,(Jr.append Jr.DV a b [98]).2.2.2,(Jr.append Jr.DV a b [98]).1,(Jr.append Jr.DV a b [98]).2.1)) none)
theorem acN F Rj15:qf7 F 8190 lR (kq V7 Rj15 a1h br) (Cf F (Rj15∘G8)):=fun _=>by kernel_rfl
def Cg(F:Nat)(c:acz→Rz):kW→Rz:=fun (d,e,a,b)=>(cond ((Dk.fine a)&&(Jr.okJ a b)) (c (d,e,(Jr.append Jr.DV a b [99]).2.2.2,(Jr.append Jr.DV a b [99]).1,(Jr.append Jr.DV a b [99]).2.1)) none)
theorem acO F Rj16:qf7 F 16382 G8 (kq V7 Rj16 a1i br) (Cg F (Rj16∘G9)):=fun _=>by kernel_rfl
def Ch(F:Nat)(a:acA→Rz):acz→Rz:=fun (b,c,d,e,f)=>(a (b,c,d,(Jr.pack (1:Int) [97]).1,(Jr.pack (1:Int) [97]).2,e,f))
theorem acP F Rj17:qf7 F 32766 G9 (kq V7 Rj17 a1j br) (Ch F (Rj17∘v2)):=fun _=>by kernel_rfl
def Ci(F:Nat)(b:acB→Rz)(i:Of→Rz):acA→Rz:=fun (e,f,g,a,h,c,d)=>(cond (e != (3:Int)) (b (a,true,c,d)) (cond (f != (0:Int)) (b (a,true,c,d)) (cond (g != (21:Int)) (b (a,true,c,d)) (cond ((↑a.length:Int) != (1:Int)) (b (a,true,c,d)) (b (a,(h != (0:Int)),c,d))))))
theorem acQ F Rj18 Rj19:qf7 F 131068 v2 (kq V7 Rj18 a1k (kq V7 Rj19 Oe br)) (Ci F (Rj18∘U7) (Rj19∘lT)):=fun _=>by kernel_rfl
def Ov(F:Nat)(a:Of→Rz):acB→Rz:=fun (b,c,d,e)=>(cond c (some ((.bool false),[])) (a (b,d,e)))
theorem acR F Rj19:qf7 F 131069 U7 (kq V7 Rj19 Oe br) (Ov F (Rj19∘lT)):=fun _=>by kernel_rfl
def Cj(F:Nat)(a):=Ci F (Ov F a) a
theorem acS F Rj19:qf7 F 65534 v2 (kq V7 Rj19 Oe br) (Cj F (Rj19∘lT)):=sqC (fun k=>Ci F k (Rj19∘lT)) (fun Rj18=>acQ F Rj18 Rj19) (acR F Rj19)
def Cl(F:Nat)(b:acC→Rz):Of→Rz:=fun (a,c,d)=>(cond (decide ((0:Int) < (↑a.length:Int))) (b ((Jr.unpack (a.getD 0 [])).number,(Jr.unpack (a.getD 0 [])).part,(Jr.unpack (a.getD 0 [])).left,(Jr.unpack (a.getD 0 [])).payload,(Jr.unpack (a.getD 0 [])).ok,c,d)) none)
theorem acT F Rj20:qf7 F 131070 lT (kq V7 Rj20 a1m br) (Cl F (Rj20∘U8)):=fun _=>by kernel_rfl
def Ow(F:Nat):acC→Rz:=fun (b,c,d,e,f,g,a)=>(cond (decide (a.nums.length < 1073741000)) (cond (decide (a.nums.length < 1073741824)) (cond (a.nums==[(1:Int),(3:Int)]) (cond (decide (a.texts.length < 1073741000)) (cond (decide (a.texts.length < 1073741824)) (cond (a.texts==[[97],[98]]) (cond (decide (a.nums.length < 1073741000∧a.next < 100000)) (cond (decide ((Jr.damaged a).length < 1073741824)) (cond ((Jr.damaged a)==[(2:Int)]) (cond (decide (a.bad.length < 1073741000)) (cond (decide (a.bad.length < 1073741824)) (cond (a.bad==[(1:Int)]) (cond ((Jr.count (49:Int))==(2:Int)) (cond (b==(1:Int)) (cond (c==(0:Int)) (cond (d==(1:Int)) (cond ((e:Li)==([97]:Li)) (some ((.bool f),[])) (some ((.bool false),[]))) (some ((.bool false),[]))) (some ((.bool false),[]))) (some ((.bool false),[]))) (some ((.bool false),[]))) (some ((.bool false),[]))) none) none) (some ((.bool false),[]))) none) none) (some ((.bool false),[]))) none) none) (some ((.bool false),[]))) none) none)
theorem acU F:qf7 F 131071 U8 br (Ow F):=fun _=>by kernel_rfl
def Ox(F:Nat):=Cl F (Ow F)
theorem acV F:qf7 F 65535 lT br (Ox F):=sqC (Cl F) (fun Rj20=>acT F Rj20) (acU F)
def Oy(F:Nat):=Cj F (Ox F)
theorem acW F:qf7 F 32767 v2 br (Oy F):=sqC (Cj F) (fun Rj19=>acS F Rj19) (acV F)
def Oz(F:Nat):=Ch F (Oy F)
theorem acX F:qf7 F 16383 G9 br (Oz F):=sqC (Ch F) (fun Rj17=>acP F Rj17) (acW F)
def OA(F:Nat):=Cg F (Oz F)
theorem acY F:qf7 F 8191 G8 br (OA F):=sqC (Cg F) (fun Rj16=>acO F Rj16) (acX F)
def OB(F:Nat):=Cf F (OA F)
theorem acZ F:qf7 F 4095 lR br (OB F):=sqC (Cf F) (fun Rj15=>acN F Rj15) (acY F)
def OC(F:Nat):=Ce F (OB F)
theorem ac0 F:qf7 F 2047 vZ br (OC F):=sqC (Ce F) (fun Rj14=>acM F Rj14) (acZ F)
def OD(F:Nat):=Cc F (OC F)
theorem ac1 F:qf7 F 1023 G7 br (OD F):=sqC (Cc F) (fun Rj12=>acJ F Rj12) (ac0 F)
def OE(F:Nat):=Cb F (OD F)
theorem ac2 F:qf7 F 511 G6 br (OE F):=sqC (Cb F) (fun Rj11=>acI F Rj11) (ac1 F)
def OG(F:Nat):=Ca F (OE F)
theorem ac3 F:qf7 F 255 Oj br (OG F):=sqC (Ca F) (fun Rj10=>acH F Rj10) (ac2 F)
def OH(F:Nat):=B9 F (OG F)
theorem ac4 F:qf7 F 127 Oi br (OH F):=sqC (B9 F) (fun Rj9=>acG F Rj9) (ac3 F)
def OI(F:Nat):=B8 F (OH F)
theorem ac5 F:qf7 F 63 qg br (OI F):=sqC (B8 F) (fun Rj8=>acF F Rj8) (ac4 F)
def OJ(F:Nat):=Ot F (OI F)
theorem ac6 F:qf7 F 31 B7 br (OJ F):=sqC (Ot F) (fun Rj7=>aZD F Rj7) (ac5 F)
def OL(F:Nat):=Oq F (OJ F)
theorem ac7 F:qf7 F 15 qf br (OL F):=sqC (Oq F) (fun Rj5=>aZA F Rj5) (ac6 F)
def OM(F:Nat):=Oo F (OL F)
theorem ac8 F:qf7 F 7 B6 br (OM F):=sqC (Oo F) (fun Rj4=>aZz F Rj4) (ac7 F)
def ON(F:Nat):=Om F (OM F)
theorem ac9 F:qf7 F 3 Oh br (ON F):=sqC (Om F) (fun Rj2=>aZw F Rj2) (ac8 F)
def OO(F:Nat):=Ol F (ON F)
theorem ada F:qf7 F 1 Og br (OO F):=sqC (Ol F) (fun Rj1=>aZv F Rj1) (ac9 F)
def f7(F:Nat):Unit→Rz:=OO F
def r7:aB:=fun X H=>match X,H with
 | [],[]=>some (true,.bool true,[])
 | _,_=>none
theorem s7 : ∃ F,f7 F ()=some ((.bool true),[]):=by
 refine⟨0,?_⟩
 obtain⟨D0,eD0⟩:∃ D,D=Dk.new (4:Int):=⟨_,rfl⟩
 obtain⟨J0,eJ0⟩:∃ J,J=Jr.openS (Jr.secsD D0):=⟨_,rfl⟩
 obtain⟨E1,e1⟩:∃ E,E=Jr.append Jr.DV D0 J0 [97]:=⟨_,rfl⟩
 obtain⟨E2,e2⟩:∃ E,E=Jr.append Jr.DV E1.1 E1.2.1 (Jr.repeat_ [120] (50:Int)):=⟨_,rfl⟩
 obtain⟨D3,eD3⟩:∃ D,D=(Dk.rot E2.1 1 70).1:=⟨_,rfl⟩
 obtain⟨J3,eJ3⟩:∃ J,J=Jr.openS (Jr.secsD D3):=⟨_,rfl⟩
 obtain⟨E4,e4⟩:∃ E,E=Jr.append Jr.DV D3 J3 [98]:=⟨_,rfl⟩
 obtain⟨E5,e5⟩:∃ E,E=Jr.append Jr.DV E4.1 E4.2.1 [99]:=⟨_,rfl⟩
 have X:=Jr.ex_of eD0 eJ0 e1 e2 eD3 eJ3 e4 e5
 obtain⟨c0,k0⟩:=Jr.Both.can X.b0 X.n0
 obtain⟨_,k1⟩:=Jr.Both.can X.b1 X.n1
 obtain⟨c3,k3⟩:=Jr.Both.can X.b3 X.n3
 obtain⟨_,k4⟩:=Jr.Both.can X.b4 X.n4
 simp only [f7,OO,Ol,ON,Om]
 rw [← eD0,show((decide (0 < (4:Int)))&&(decide ((4:Int) < 4097)))=true from rfl,cond_true]
 simp only [OM,Oo,On,acD,OL,Oq]
 rw [show((0:Int) != 0)=false from rfl,cond_false,cond_false,c0,cond_true,← eJ0]
 simp only [OJ,Ot,Or,acE,OI,B8]
 rw [X.x0,X.n0,X.f0,show((0:Int) != 0)=false from rfl,show((1:Int) != 1)=false from rfl,show((IntKind.i64.wrap (((4:Nat):Int)-(0:Int))) != (4:Int))=false by decide,cond_false,cond_false,cond_false,k0,cond_true,← e1]
 simp only [OH,B9]
 rw [aa (by decide),k1,cond_true,← e2]
 simp only [OG,Ca]
 rw [X.n2,X.f2]
 simp only [OE,Cb]
 rw [← eD3,X.rot]
 simp only [OD,Cc]
 rw [c3,cond_true,← eJ3]
 simp only [OC,Ce,Cd,Ou,OB,Cf]
 simp only [X.a1,X.a2]
 rw [show((IntKind.i64.wrap (((4:Nat):Int)-(3:Int))) != (1:Int))=false by decide,show((0:Int) != 0)=false from rfl,show((1:Int) != 1)=false from rfl,show((2:Int) != 2)=false from rfl]
 simp only [cond_false]
 rw [k3,cond_true,← e4]
 simp only [OA,Cg]
 rw [k4,cond_true,← e5]
 simp only [Oz,Ch,Oy,Cj,Ci,Ov,Ox,Cl]
 rw [Jr.pack97]
 simp only [X.a4,X.a5]
 rw [show((0:Int) != 0)=false from rfl,show((3:Int) != 3)=false from rfl,show((21:Int) != 21)=false from rfl,show((([Jr.sector 1 [97] 0].length:Nat):Int) != 1)=false from rfl]
 simp only [cond_false]
 rw [show(decide ((0:Int) < (([Jr.sector 1 [97] 0].length:Nat):Int)))=true from rfl,cond_true]
 simp only [List.getD_cons_zero,Jr.unpack97,Ow,X.nums,X.texts,X.next,X.bad,X.damaged]
 rfl
theorem c7:Ck 7 r7:=ck eV7 Tryz.func7 (by
 intro X H r H' h hX hH
 unfold r7 at h;split at h <;> try contradiction
 ·obtain⟨hp,rfl,rfl⟩:=aJ h
  obtain⟨F,hF⟩:=s7
  exact⟨_,abC (ada F) hF⟩)
end Go.Am
end
section
namespace Go.Am
open Go Go.Proofs
abbrev OP:List (Nat×Md):=[(0,.plain),(2,.plain),(3,.plain),(4,.plain),(5,.plain)]
abbrev bj:List (Nat×Md):=[(0,.plain),(1,.plain),(6,.own 9),(7,.plain)]
abbrev OQ:List (Nat×Md):=[(0,.plain),(1,.plain),(6,.own 9),(7,.plain),(8,.plain),(9,.plain),(10,.plain)]
abbrev a1q:List (Nat×Md):=[(0,.plain),(1,.plain),(6,.own 9)]
abbrev a1r:List (Nat×Md):=[(0,.plain),(1,.plain),(6,.own 9),(7,.plain),(8,.plain)]
abbrev yG:List (Nat×Md):=[(0,.plain),(1,.plain),(6,.own 9),(7,.plain),(8,.plain),(9,.plain)]
abbrev yH:List (Nat×Md):=[(0,.plain),(1,.plain),(6,.own 9),(7,.plain),(9,.plain)]
abbrev cP:List (Nat×Md):=[(6,.own 9)]
abbrev yI:=Li×Int×Int×Int×Li×Bool
abbrev yJ:=Li×Int×Int×Int×Li×Bool×Int×Int×Int×Li×Bool
abbrev kw:=Li×Int×Int×Int×Int×Li×Bool×Int×Int×Int×Li×Bool
abbrev sr:=Li×Int×Int×Int×Int×Int×Li×Bool×Int×Int×Int×Li×Bool
abbrev adb:=Int×Li×(List Li)
abbrev dC:=Int×Li×Int×(List Li)
abbrev adc:=Int×Li×Int×Li×(List Li)
abbrev mP:=Int×Li×Int×Li×(List Li)×Li
abbrev sw:=Int×Li×Int×Li×Int×(List Li)×Li
abbrev Ha:=Int×Li×Int×(List Li)×Li
def a6d:List aF:=[(82,[none],r82),(83,[some 5],r83)]
def V52:Env:=ar aE eo a6d
noncomputable abbrev dW:=aI V52 none (Tryz.f52).results.toList
theorem a6e:EOk Tryz.prog V52:=aj (by exact⟨c82.more dN,c83,trivial⟩)
def a6f(F:Nat):Cuts:={ F:=F,at_:=fun n=>match n with | 10016=>some OP | _=>none,join:=fun n=>match n with | 1052=>some nU | 3044=>some nU | 4042=>some sp2 | 6034=>some sp2 | 7032=>some gR | 9026=>some gR | 10018=>some OP | 14005=>some gR | _=>none }
abbrev dX(F n:Nat){σ:Type}(e:σ→St)(K:Ex→St→Rz)(N:σ→Rz):=Qe V52 (a6f F) (bp Tryz.f52 n) e K N
def U9:Li→St:=fun a=>hS [(0,.str a)] [] 77 0
def v7:yI→St:=fun (a,b,c,d,e,f)=>hS [(0,.str a),pS 2 0 5] [z1 b c d e f] 77 0
def Hb:yI→St:=v7
def v8:yJ→St:=fun (a,b,c,d,e,f,g,h,i,j,k)=>hS [(0,.str a),pS 2 0 5,pS 3 1 5] [z1 b c d e f,z1 g h i j k] 77 0
def Hd:yJ→St:=v8
def oW:kw→St:=fun (a,b,c,d,e,f,g,h,i,j,k,l)=>hS [(0,.str a),pS 2 0 5,pS 3 1 5,iS 4 b] [z1 c d e f g,z1 h i j k l] 77 0
def wa:kw→St:=oW
def wb:sr→St:=fun (a,b,c,d,e,f,g,h,i,j,k,l,m)=>hS [(0,.str a),pS 2 0 5,pS 3 1 5,iS 4 b,iS 5 c] [z1 d e f g h,z1 i j k l m] 77 0
def Va:sr→St:=wb
def jh:kw→St:=oW
def Cm(F:Nat)(a:yI→Rz):Li→Rz:=fun b=>(a (b,(0:Int),(0:Int),(0:Int),[],false))
theorem ade F Rj1:dX F 2 U9 (kq V52 Rj1 nU dW) (Cm F (Rj1∘v7)):=fun _=>by kernel_rfl
def Cn(F:Nat)(b:yI→Rz):yI→Rz:=fun (a,c,d,e,f,g)=>(cond ((↑a.length:Int) != (64:Int)) (some ((.agg 5 (.segs (.cons 1 (.one (.int .i64 0)) (.cons 1 (.one (.int .i64 0)) (.cons 1 (.one (.int .i64 0)) (.cons 1 (.one (.str [])) (.cons 1 (.one (.bool false)) .nil))))))),[])) (b (a,c,d,e,f,g)))
theorem adf F Rj2:dX F 6 v7 (kq V52 Rj2 nU dW) (Cn F (Rj2∘Hb)):=fun _=>by kernel_rfl
def Co(F:Nat)(b:yJ→Rz):yI→Rz:=fun (a,c,d,e,f,g)=>(cond (decide ((4:Int)≤(↑a.length:Int))) (cond (decide ((a.take 4).length≤4)) (cond (decide ((6:Int)≤(↑a.length:Int))) (cond (decide (((a.take 6).drop 4).length≤4)) (cond (decide ((8:Int)≤(↑a.length:Int))) (cond (decide (((a.take 8).drop 6).length≤4)) (b (a,c,d,e,f,g,(Jr.num (a.take 4)),(Jr.num ((a.take 6).drop 4)),(Jr.num ((a.take 8).drop 6)),[],true)) none) none) none) none) none) none)
theorem adg F Rj3:dX F 14 Hb (kq V52 Rj3 sp2 dW) (Co F (Rj3∘v8)):=fun _=>by kernel_rfl
def Cp(F:Nat)(e:yJ→Rz):yJ→Rz:=fun (a,f,g,h,i,j,b,c,d,k,l)=>(cond (decide ((56:Int)≤(↑a.length:Int))) (cond (decide ((a.take 56).length < 1073730000)) (cond (!(((Jr.checked (a.take 56)):Li)==(a:Li))) (some ((.agg 5 (.segs (.cons 1 (.one (.int .i64 0)) (.cons 1 (.one (.int .i64 0)) (.cons 1 (.one (.int .i64 0)) (.cons 1 (.one (.str [])) (.cons 1 (.one (.bool false)) .nil))))))),[])) (cond (decide (b < (1:Int))) (some ((.agg 5 (.segs (.cons 1 (.one (.int .i64 0)) (.cons 1 (.one (.int .i64 0)) (.cons 1 (.one (.int .i64 0)) (.cons 1 (.one (.str [])) (.cons 1 (.one (.bool false)) .nil))))))),[])) (cond (decide (b > (4096:Int))) (some ((.agg 5 (.segs (.cons 1 (.one (.int .i64 0)) (.cons 1 (.one (.int .i64 0)) (.cons 1 (.one (.int .i64 0)) (.cons 1 (.one (.str [])) (.cons 1 (.one (.bool false)) .nil))))))),[])) (cond (decide ((IntKind.i64.wrap ((IntKind.i64.wrap ((48:Int)*c))+d)) > (8000:Int))) (some ((.agg 5 (.segs (.cons 1 (.one (.int .i64 0)) (.cons 1 (.one (.int .i64 0)) (.cons 1 (.one (.int .i64 0)) (.cons 1 (.one (.str [])) (.cons 1 (.one (.bool false)) .nil))))))),[])) (cond (decide (d < (1:Int))) (cond (decide (c > (0:Int))) (some ((.agg 5 (.segs (.cons 1 (.one (.int .i64 0)) (.cons 1 (.one (.int .i64 0)) (.cons 1 (.one (.int .i64 0)) (.cons 1 (.one (.str [])) (.cons 1 (.one (.bool false)) .nil))))))),[])) (e (a,f,g,h,i,j,b,c,d,k,l))) (e (a,f,g,h,i,j,b,c,d,k,l))))))) none) none)
theorem adh F Rj4:dX F 30 v8 (kq V52 Rj4 sp2 dW) (Cp F (Rj4∘Hd)):=fun _=>by kernel_rfl
def Cq(F:Nat)(b:kw→Rz):yJ→Rz:=fun (c,d,e,f,g,h,i,j,a,k,l)=>(b (c,a,d,e,f,g,h,i,j,a,k,l))
theorem adi F Rj5:dX F 62 Hd (kq V52 Rj5 gR dW) (Cq F (Rj5∘oW)):=fun _=>by kernel_rfl
def Cr(F:Nat)(a:kw→Rz):kw→Rz:=fun (b,c,d,e,f,g,h,i,j,k,l,m)=>(cond (decide (c > (48:Int))) (a (b,(48:Int),d,e,f,g,h,i,j,k,l,m)) (a (b,c,d,e,f,g,h,i,j,k,l,m)))
theorem adj F Rj6:dX F 126 oW (kq V52 Rj6 gR dW) (Cr F (Rj6∘wa)):=fun _=>by kernel_rfl
def Cs(F:Nat)(b:sr→Rz)(n:kw→Rz):kw→Rz:=fun (c,a,d,e,f,g,h,i,j,k,l,m)=>(b (c,a,(IntKind.i64.wrap ((8:Int)+a)),d,e,f,g,h,i,j,k,l,m))
theorem adk F Rj7 Rj8:dX F 508 wa (kq V52 Rj7 OP (kq V52 Rj8 gR dW)) (Cs F (Rj7∘wb) (Rj8∘jh)):=fun _=>by kernel_rfl
def wc(F:Nat)(n:sr→Rz)(o:kw→Rz):sr→Rz:=fun (b,c,a,d,e,f,g,h,i,j,k,l,m)=>(cond (decide (a < (56:Int))) (cond ((decide (0≤a))&&(decide (a < (↑b.length:Int)))) (cond ((b.getD (Int.toNat a) 0) != (0:Int)) (some ((.agg 5 (.segs (.cons 1 (.one (.int .i64 0)) (.cons 1 (.one (.int .i64 0)) (.cons 1 (.one (.int .i64 0)) (.cons 1 (.one (.str [])) (.cons 1 (.one (.bool false)) .nil))))))),[])) (n (b,c,(IntKind.i64.wrap (a+(1:Int))),d,e,f,g,h,i,j,k,l,m))) none) (o (b,c,d,e,f,g,h,i,j,k,l,m)))
theorem adl F Rl1 Rj8:dX F 2036 Va (kq V52 Rl1 OP (ae 0 (kq V52 Rj8 gR dW))) (wc F (Rl1∘Va) (Rj8∘jh)):=fun _=>by kernel_rfl
def yK:sr→Li×Int×Int×Int×Int×Int×Li×Bool×Int×Int×Int×Li×Bool:=fun (a,b,c,d,e,f,g,h,i,j,k,l,m)=>(a,b,c,d,e,f,g,h,i,j,k,l,m)
def OR(F:Nat)(a:kw→Rz):sr→Rz:=fun v=>ay (fun k=>wc F k a) F (yK v)
theorem adm F Rj8:dX F 1018 wb (ae 0 (kq V52 Rj8 gR dW)) (OR F (Rj8∘jh)):=lpC yK (fun k=>wc F k (Rj8∘jh)) (fun Rl1=>adl F Rl1 Rj8)
def He(F:Nat)(a):=OR F a
theorem Vb F Rj8:dX F 509 wb (kq V52 Rj8 gR dW) (He F (Rj8∘jh)):=biC (adm F Rj8)
def wd(F:Nat)(a):=Cs F (He F a) a
theorem Vd F Rj8:dX F 254 wa (kq V52 Rj8 gR dW) (wd F (Rj8∘jh)):=sqC (fun k=>Cs F k (Rj8∘jh)) (fun Rj7=>adk F Rj7 Rj8) (Vb F Rj8)
def we(F:Nat):kw→Rz:=fun (b,a,g,h,i,j,k,c,d,e,l,f)=>(cond ((decide ((8:Int)≤(IntKind.i64.wrap ((8:Int)+a))))&&(decide ((IntKind.i64.wrap ((8:Int)+a))≤(↑b.length:Int)))) (some ((.agg 5 (.segs (.cons 1 (.one (.int .i64 c)) (.cons 1 (.one (.int .i64 d)) (.cons 1 (.one (.int .i64 e)) (.cons 1 (.one (.str ((b.take (Int.toNat (IntKind.i64.wrap ((8:Int)+a)))).drop 8))) (.cons 1 (.one (.bool f)) .nil))))))),[])) none)
theorem Ve F:dX F 255 jh dW (we F):=fun _=>by kernel_rfl
def Hf(F:Nat):=wd F (we F)
theorem Vf F:dX F 127 wa dW (Hf F):=sqC (wd F) (fun Rj8=>Vd F Rj8) (Ve F)
def Hg(F:Nat):=Cr F (Hf F)
theorem Vg F:dX F 63 oW dW (Hg F):=sqC (Cr F) (fun Rj6=>adj F Rj6) (Vf F)
def Hh(F:Nat):=Cq F (Hg F)
theorem Vh F:dX F 31 Hd dW (Hh F):=sqC (Cq F) (fun Rj5=>adi F Rj5) (Vg F)
def Hi(F:Nat):=Cp F (Hh F)
theorem Vi F:dX F 15 v8 dW (Hi F):=sqC (Cp F) (fun Rj4=>adh F Rj4) (Vh F)
def Hj(F:Nat):=Co F (Hi F)
theorem Vj F:dX F 7 Hb dW (Hj F):=sqC (Co F) (fun Rj3=>adg F Rj3) (Vi F)
def Hk(F:Nat):=Cn F (Hj F)
theorem Vk F:dX F 3 v7 dW (Hk F):=sqC (Cn F) (fun Rj2=>adf F Rj2) (Vj F)
def Hl(F:Nat):=Cm F (Hk F)
theorem Vl F:dX F 1 U9 dW (Hl F):=sqC (Cm F) (fun Rj1=>ade F Rj1) (Vk F)
def f52(F:Nat):Li→Rz:=Hl F
def r52:aB:=fun X H=>match X,H with
 | [(.str a0)],[]=>some (true,(.agg 5 (.segs (.cons 1 (.one (.int .i64 (Jr.unpack a0).number)) (.cons 1 (.one (.int .i64 (Jr.unpack a0).part)) (.cons 1 (.one (.int .i64 (Jr.unpack a0).left)) (.cons 1 (.one (.str (Jr.unpack a0).payload)) (.cons 1 (.one (.bool (Jr.unpack a0).ok)) .nil))))))),[])
 | _,_=>none
theorem s52(a0:Li)(h0:okV (.str a0)):∃ F,f52 F a0=some ((.agg 5 (.segs (.cons 1 (.one (.int .i64 (Jr.unpack a0).number)) (.cons 1 (.one (.int .i64 (Jr.unpack a0).part)) (.cons 1 (.one (.int .i64 (Jr.unpack a0).left)) (.cons 1 (.one (.str (Jr.unpack a0).payload)) (.cons 1 (.one (.bool (Jr.unpack a0).ok)) .nil))))))),[]):=by
 refine⟨100,?_⟩
 simp only [Cm,Cn,Co,Cp,Cq,Cr,Cs,yK,OR,He,wd,Hf,Hg,Hh,Hi,Hj,Hk,Hl,f52,fh]
 by_cases hl:a0.length=64
 case neg=>
  rw [aa (by omega),Jr.unpack_not (.inl hl)]
  rfl
 have hb:∀ x∈a0,0≤x∧x < 256:=fun x hx=>by have:=h0.2 x hx;omega
 have d6:(a0.take 6).drop 4=(a0.drop 4).take 2:=by rw [List.drop_take]
 have d8:(a0.take 8).drop 6=(a0.drop 6).take 2:=by rw [List.drop_take]
 simp only [d6,d8]
 have l4:(a0.take 4).length=4:=by rw [List.length_take];omega
 have l2:((a0.drop 4).take 2).length=2:=by rw [List.length_take,List.length_drop];omega
 have l2':((a0.drop 6).take 2).length=2:=by rw [List.length_take,List.length_drop];omega
 have l56:(a0.take 56).length=56:=by rw [List.length_take];omega
 obtain⟨n1,n2⟩:=Jr.num_bound (a0.take 4) fun x hx=>hb x (List.mem_of_mem_take hx)
 obtain⟨p1,p2⟩:=Jr.num_bound ((a0.drop 4).take 2) fun x hx=>hb x (List.mem_of_mem_drop (List.mem_of_mem_take hx))
 obtain⟨q1,q2⟩:=Jr.num_bound ((a0.drop 6).take 2) fun x hx=>hb x (List.mem_of_mem_drop (List.mem_of_mem_take hx))
 rw [l4,show(256:Int)^4=4294967296 from rfl] at n2
 rw [l2,show(256:Int)^2=65536 from rfl] at p2
 rw [l2',show(256:Int)^2=65536 from rfl] at q2
 rw [ad (by omega),aa (by omega),aa (by omega),aa (by omega),aa (by omega),aa (by omega),aa (by omega),aa (by omega),aa (by omega),Jr.checked_eq hl,ah (x:=48*Jr.num ((a0.drop 4).take 2)) (by omega) (by omega),ah (x:=48*Jr.num ((a0.drop 4).take 2)+Jr.num ((a0.drop 6).take 2)) (by omega) (by omega)]
 have hm48:Jr.fN a0≤48:=Nat.min_le_right _ _
 have hmL:Jr.fN a0=min (Jr.num ((a0.drop 6).take 2)).toNat 48:=rfl
 by_cases c1:(Sha.hash (a0.take 56)).take 8=a0.drop 56
 case neg=>
  have e:(!((Sha.hash (a0.take 56)).take 8==a0.drop 56))=true:=by simpa using c1
  rw [e,cond_true,Jr.unpack_not (.inr (.inl c1))]
  rfl
 have e:(!((Sha.hash (a0.take 56)).take 8==a0.drop 56))=false:=by simp [c1]
 rw [e,cond_false]
 by_cases c2:Jr.num (a0.take 4) < 1
 ·rw [aa c2,Jr.unpack_not (.inr (.inr (.inl (fun h=>by have:=h.1;rw [Jr.fNum] at this;omega))))]
  rfl
 by_cases c3:Jr.num (a0.take 4) > 4096
 ·rw [ad c2,aa c3,Jr.unpack_not (.inr (.inr (.inl (fun h=>by have:=h.2.1;rw [Jr.fNum] at this;omega))))]
  rfl
 by_cases c4:48*Jr.num ((a0.drop 4).take 2)+Jr.num ((a0.drop 6).take 2) > 8000
 ·rw [ad c2,ad c3,aa c4,Jr.unpack_not (.inr (.inr (.inl (fun h=>by have:=h.2.2.1;rw [Jr.fPart,Jr.fLeft] at this;omega))))]
  rfl
 rw [ad c2,ad c3,ad c4]
 by_cases c5:Jr.num ((a0.drop 6).take 2) < 1∧Jr.num ((a0.drop 4).take 2) > 0
 ·rw [aa c5.1,aa c5.2,Jr.unpack_not (.inr (.inr (.inl (fun h=>by have:=h.2.2.2;rw [Jr.fPart,Jr.fLeft] at this;omega))))]
  rfl
 have hskip:∀ X Y:Rz,cond (decide (Jr.num ((a0.drop 6).take 2) < 1)) (cond (decide (Jr.num ((a0.drop 4).take 2) > 0)) X Y) Y=Y:=fun X Y=>by
  by_cases h5:Jr.num ((a0.drop 6).take 2) < 1
  ·rw [aa h5,ad (by omega)]
  ·rw [ad h5]
 rw [hskip]
 have key:∀ t:Int,t=(Jr.fN a0:Int)→ay (fun k=>wc 100 k (we 100)) 100 (a0,t,IntKind.i64.wrap (8+t),0,0,0,[],false,Jr.num (a0.take 4),Jr.num ((a0.drop 4).take 2),Jr.num ((a0.drop 6).take 2),[],true) =
   some ((.agg 5 (.segs (.cons 1 (.one (.int .i64 (Jr.unpack a0).number)) (.cons 1 (.one (.int .i64 (Jr.unpack a0).part)) (.cons 1 (.one (.int .i64 (Jr.unpack a0).left)) (.cons 1 (.one (.str (Jr.unpack a0).payload)) (.cons 1 (.one (.bool (Jr.unpack a0).ok)) .nil))))))),[]):=fun t ht=>by
  subst ht
  rw [ah (x:=8+(Jr.fN a0:Int)) (by omega) (by omega)]
  refine cA (fun mm s=>∃ k:Nat,s=(a0,(Jr.fN a0:Int),8+(Jr.fN a0:Int)+(k:Int),0,0,0,[],false,Jr.num (a0.take 4),Jr.num ((a0.drop 4).take 2),Jr.num ((a0.drop 6).take 2),[],true)∧mm=48-Jr.fN a0-k∧k≤48-Jr.fN a0 ∧ ∀ j,j < k→a0.getD (8+Jr.fN a0+j) 0=0) (fun mm s K hi hk=>?_) 100 (48-Jr.fN a0) _ (by omega) ⟨0,by simp,by omega,by omega,fun j hj=>by omega⟩
  obtain⟨k,rfl,hm,hle,hz⟩:=hi
  have et:(8+(Jr.fN a0:Int)+(k:Int)).toNat=8+Jr.fN a0+k:=by omega
  simp only [wc,ap,et,fh]
  by_cases hlt:k < 48-Jr.fN a0
  ·rw [aa (by omega),aa (by omega)]
   by_cases h0:a0.getD (8+Jr.fN a0+k) 0=0
   ·rw [ad (by omega),ah (by omega) (by omega)]
    exact hk (mm-1) _ (by omega) ⟨k+1,by rw [show 8+(Jr.fN a0:Int)+((k+1:Nat):Int)=8+(Jr.fN a0:Int)+(k:Int)+1 by omega],by omega,by omega,fun j hj=>by
     by_cases hj':j=k
     ·subst hj';exact h0
     ·exact hz j (by omega)⟩
   ·rw [aa h0,Jr.unpack_not (.inr (.inr (.inr fun h=>h0 ((Jr.zeros_iff (by omega)).1 h k hlt))))]
    rfl
  ·rw [ad (by omega)]
   simp only [we,ap]
   have t2:(8+(Jr.fN a0:Int)).toNat=8+Jr.fN a0:=by omega
   rw [ah (x:=8+(Jr.fN a0:Int)) (by omega) (by omega),aa (by omega),t2,Jr.unpack_is hl c1 ⟨by rw [Jr.fNum];omega,by rw [Jr.fNum];omega,by rw [Jr.fPart,Jr.fLeft];omega,by rw [Jr.fPart,Jr.fLeft];omega⟩ ((Jr.zeros_iff (by omega)).2 fun j hj=>hz j (by omega)),List.drop_take,show 8+Jr.fN a0-8=Jr.fN a0 by omega]
   rfl
 by_cases h48:Jr.num ((a0.drop 6).take 2) > 48
 ·rw [aa h48];exact key 48 (by omega)
 ·rw [ad h48];exact key _ (by omega)
theorem c52:CallOk Tryz.prog eo 52 r52:=dF mixed tys a6e Tryz.func52 (by kernel_rfl) (c:=sub (cZ Tryz.f52) []) (by kernel_rfl) (by
 intro X H r H' h hX hH
 unfold r52 at h;split at h <;> try contradiction
 ·obtain⟨hp,rfl,rfl⟩:=aJ h
  obtain⟨F,hF⟩:=s52 _ (hX _ hm0)
  exact⟨_,abC (Vl F) hF⟩)
def a6g:List aF:=[(57,[none],r57),(83,[some 5],r83),(84,[none,none],r84)]
def V53:Env:=ar aE eo a6g
noncomputable abbrev bU:=aI V53 (some [(4,.view 9),(5,.plain)]) (Tryz.f53).results.toList
theorem a6h:EOk Tryz.prog V53:=aj (by exact⟨c57.more dN,c83,c84.more dN,trivial⟩)
def a6i(F:Nat):Cuts:={ F:=F,at_:=fun n=>match n with | 7041=>some bj | 14018=>some OQ | _=>none,join:=fun n=>match n with | 1067=>some cU | 3059=>some cU | 5051=>some cU | 6049=>some a1q | 7043=>some bj | 8001=>some bj | 9035=>some bj | 10030=>some a1r | 11028=>some yG | 12026=>some yG | 13024=>some yG | 14020=>some OQ | 20001=>some yH | 21003=>some cP | _=>none,fin:=(some [(4,.view 9),(5,.plain)]) }
abbrev bV(F n:Nat){σ:Type}(e:σ→St)(K:Ex→St→Rz)(N:σ→Rz):=Qe V53 (a6i F) (bp Tryz.f53 n) e K N
def W4:Int×Li→St:=fun (a,b)=>hS [iS 0 a,(1,.str b)] [] 64 0
def oY:Int×Li→St:=fun (a,b)=>hS [iS 0 a,(1,.str b)] [] 64 0
def Hm:Int×Li→St:=oY
def Hn:Int×Li→St:=oY
abbrev z13 a b:=(.cells a (.rS b) true:Blk)
def wh:adb→St:=fun (b,c,a)=>hS [iS 0 b,(1,.str c),(6,.own 0 0 1)] [z13 a.length a] 64 0
def lU:dC→St:=fun (b,c,d,a)=>hS [iS 0 b,(1,.str c),(6,.own 0 0 1),iS 7 d] [z13 a.length a] 64 0
def aX:dC→St:=lU
def oZ:dC→St:=lU
def Ho:adc→St:=fun (b,c,d,e,a)=>hS [iS 0 b,(1,.str c),(6,.own 0 0 1),iS 7 d,(8,.str e)] [z13 a.length a] 64 0
def o7:mP→St:=fun (c,d,e,f,a,b)=>hS [iS 0 c,(1,.str d),(6,.own 0 0 1),iS 7 e,(8,.str f),(9,.own 1 0 1)] [z13 a.length a,z8 b.length b] 64 0
def Hp:mP→St:=o7
def qh:mP→St:=o7
def qi:sw→St:=fun (c,d,e,f,g,a,b)=>hS [iS 0 c,(1,.str d),(6,.own 0 0 1),iS 7 e,(8,.str f),(9,.own 1 0 1),iS 10 g] [z13 a.length a,z8 b.length b] 64 0
def W5:sw→St:=qi
def gh:Ha→St:=fun (c,d,e,a,b)=>hS [iS 0 c,(1,.str d),(6,.own 0 0 1),iS 7 e,(9,.own 1 0 1)] [z13 a.length a,z8 b.length b] 64 0
def bi:dC→St:=lU
def aL:(List Li)→St:=fun a=>hS [(6,.own 0 0 1)] [z13 a.length a] 64 0
def Ct(F:Nat)(a:Int×Li→Rz):Int×Li→Rz:=fun (b,c)=>(a (b,c))
theorem adn F Rj1:bV F 2 W4 (kq V53 Rj1 cU bU) (Ct F (Rj1∘oY)):=fun _=>by kernel_rfl
def Cu(F:Nat)(b:Int×Li→Rz):Int×Li→Rz:=fun (a,c)=>(cond (decide (a < (1:Int))) (some ((.tup (.cons 0 (.vs (.rS []) 0 1) (.cons 0 (.int .i64 1) .nil))),[])) (cond (decide (a > (4096:Int))) (some ((.tup (.cons 0 (.vs (.rS []) 0 1) (.cons 0 (.int .i64 1) .nil))),[])) (b (a,c))))
theorem ado F Rj2:bV F 6 oY (kq V53 Rj2 cU bU) (Cu F (Rj2∘Hm)):=fun _=>by kernel_rfl
def Cv(F:Nat)(b:Int×Li→Rz):Int×Li→Rz:=fun (c,a)=>(cond (decide ((↑a.length:Int) > (8000:Int))) (some ((.tup (.cons 0 (.vs (.rS []) 0 1) (.cons 0 (.int .i64 4) .nil))),[])) (b (c,a)))
theorem adp F Rj3:bV F 14 Hm (kq V53 Rj3 cU bU) (Cv F (Rj3∘Hn)):=fun _=>by kernel_rfl
def Cw(F:Nat)(a:adb→Rz):Int×Li→Rz:=fun (b,c)=>(a (b,c,[]))
theorem adq F Rj4:bV F 30 Hn (kq V53 Rj4 a1q bU) (Cw F (Rj4∘wh)):=fun _=>by kernel_rfl
def Cx(F:Nat)(a:dC→Rz)(e:(List Li)→Rz):adb→Rz:=fun (b,c,d)=>(a (b,c,(0:Int),d))
theorem adr F Rj5 Rj14:bV F 124 wh (kq V53 Rj5 bj (kq V53 Rj14 cP bU)) (Cx F (Rj5∘lU) (Rj14∘aL)):=fun _=>by kernel_rfl
def wi(F:Nat)(d g:dC→Rz)(e:(List Li)→Rz):dC→Rz:=fun (f,a,b,c)=>(cond (decide (b < (Jr.count (↑a.length:Int)))) (d (f,a,b,c)) (e c))
theorem ads F Rj6 Rl1 Rj14:bV F 1000 aX (kq V53 Rj6 bj (kq V53 Rl1 bj (ae 0 (kq V53 Rj14 cP bU)))) (wi F (Rj6∘oZ) (Rl1∘aX) (Rj14∘aL)):=fun _=>by kernel_rfl
def Cy(F:Nat)(c:adc→Rz)(f g:dC→Rz)(h:(List Li)→Rz):dC→Rz:=fun (d,a,b,e)=>(cond (((decide (0≤(IntKind.i64.wrap ((48:Int)*b))))&&(decide ((IntKind.i64.wrap ((48:Int)*b))≤(↑a.length:Int))))&&(decide ((↑a.length:Int)≤(↑a.length:Int)))) (c (d,a,b,((a.take a.length).drop (Int.toNat (IntKind.i64.wrap ((48:Int)*b)))),e)) none)
theorem adt F Rj7 Rj13 Rl1 Rj14:bV F 8008 oZ (kq V53 Rj7 a1r (ae 1 (kq V53 Rj13 bj (kq V53 Rl1 bj (ae 0 (kq V53 Rj14 cP bU)))))) (Cy F (Rj7∘Ho) (Rj13∘bi) (Rl1∘aX) (Rj14∘aL)):=fun _=>by kernel_rfl
def Cz(F:Nat)(b:mP→Rz)(g h:dC→Rz)(i:(List Li)→Rz):adc→Rz:=fun (a,c,d,e,f)=>(cond ((decide (0≤a))&&((decide (0 < (4:Int)))&&(decide ((4:Int)≤4)))) (b (a,c,d,e,f,(Jr.small a (Int.toNat (4:Int))))) none)
theorem adu F Rj8 Rj13 Rl1 Rj14:bV F 16018 Ho (kq V53 Rj8 yG (ae 1 (kq V53 Rj13 bj (kq V53 Rl1 bj (ae 0 (kq V53 Rj14 cP bU)))))) (Cz F (Rj8∘o7) (Rj13∘bi) (Rl1∘aX) (Rj14∘aL)):=fun _=>by kernel_rfl
def CB(F:Nat)(c:mP→Rz)(h i:dC→Rz)(j:(List Li)→Rz):mP→Rz:=fun (d,e,a,f,g,b)=>(cond ((decide (0≤a))&&((decide (0 < (2:Int)))&&(decide ((2:Int)≤4)))) (cond (decide ((b.length+(Jr.small a (Int.toNat (2:Int))).length) < 1073741824)) (c (d,e,a,f,g,(b++(Jr.small a (Int.toNat (2:Int)))))) none) none)
theorem adv F Rj9 Rj13 Rl1 Rj14:bV F 32038 o7 (kq V53 Rj9 yG (ae 1 (kq V53 Rj13 bj (kq V53 Rl1 bj (ae 0 (kq V53 Rj14 cP bU)))))) (CB F (Rj9∘Hp) (Rj13∘bi) (Rl1∘aX) (Rj14∘aL)):=fun _=>by kernel_rfl
def wj(F:Nat)(c:mP→Rz)(h i:dC→Rz)(j:(List Li)→Rz):mP→Rz:=fun (d,e,f,a,g,b)=>(cond ((decide (0≤(↑a.length:Int)))&&((decide (0 < (2:Int)))&&(decide ((2:Int)≤4)))) (cond (decide ((b.length+(Jr.small (↑a.length:Int) (Int.toNat (2:Int))).length) < 1073741824)) (c (d,e,f,a,g,(b++(Jr.small (↑a.length:Int) (Int.toNat (2:Int)))))) none) none)
theorem W6 F Rj10 Rj13 Rl1 Rj14:bV F 64078 Hp (kq V53 Rj10 yG (ae 1 (kq V53 Rj13 bj (kq V53 Rl1 bj (ae 0 (kq V53 Rj14 cP bU)))))) (wj F (Rj10∘qh) (Rj13∘bi) (Rl1∘aX) (Rj14∘aL)):=fun _=>by kernel_rfl
def wl(F:Nat)(a:sw→Rz)(h:Ha→Rz)(i j:dC→Rz)(k:(List Li)→Rz):mP→Rz:=fun (b,c,d,e,f,g)=>(a (b,c,d,e,(0:Int),f,g))
theorem W7 F Rj11 Rj12 Rj13 Rl1 Rj14:bV F 256316 qh (kq V53 Rj11 OQ (kq V53 Rj12 yH (ae 1 (kq V53 Rj13 bj (kq V53 Rl1 bj (ae 0 (kq V53 Rj14 cP bU))))))) (wl F (Rj11∘qi) (Rj12∘gh) (Rj13∘bi) (Rl1∘aX) (Rj14∘aL)):=fun _=>by kernel_rfl
def o8(F:Nat)(h:sw→Rz)(i:Ha→Rz)(j k:dC→Rz)(l:(List Li)→Rz):sw→Rz:=fun (d,e,f,b,a,g,c)=>(cond (decide (a < (48:Int))) (cond (decide (a < (↑b.length:Int))) (cond ((decide (0≤a))&&(decide (a < (↑b.length:Int)))) (cond (decide ((c.length+1) < 1073741824)) (h (d,e,f,b,(IntKind.i64.wrap (a+(1:Int))),g,(c++[(b.getD (Int.toNat a) 0)]))) none) none) (cond (decide ((c.length+1) < 1073741824)) (h (d,e,f,b,(IntKind.i64.wrap (a+(1:Int))),g,(c++[(0:Int)]))) none)) (i (d,e,f,g,c)))
theorem W8 F Rl2 Rj12 Rj13 Rl1 Rj14:bV F 1025268 W5 (kq V53 Rl2 OQ (ae 2 (kq V53 Rj12 yH (ae 1 (kq V53 Rj13 bj (kq V53 Rl1 bj (ae 0 (kq V53 Rj14 cP bU)))))))) (o8 F (Rl2∘W5) (Rj12∘gh) (Rj13∘bi) (Rl1∘aX) (Rj14∘aL)):=fun _=>by kernel_rfl
def sx:sw→Int×Li×Int×Li×Int×(List Li)×Li:=fun (a,b,c,d,e,f,g)=>(a,b,c,d,e,f,g)
def Hq(F:Nat)(a:Ha→Rz)(b c:dC→Rz)(d:(List Li)→Rz):sw→Rz:=fun v=>ay (fun k=>o8 F k a b c d) F (sx v)
theorem W9 F Rj12 Rj13 Rl1 Rj14:bV F 512634 qi (ae 2 (kq V53 Rj12 yH (ae 1 (kq V53 Rj13 bj (kq V53 Rl1 bj (ae 0 (kq V53 Rj14 cP bU))))))) (Hq F (Rj12∘gh) (Rj13∘bi) (Rl1∘aX) (Rj14∘aL)):=lpC sx (fun k=>o8 F k (Rj12∘gh) (Rj13∘bi) (Rl1∘aX) (Rj14∘aL)) (fun Rl2=>W8 F Rl2 Rj12 Rj13 Rl1 Rj14)
def Hr(F:Nat)(a)(b c)(d):=Hq F a b c d
theorem Xa F Rj12 Rj13 Rl1 Rj14:bV F 256317 qi (kq V53 Rj12 yH (ae 1 (kq V53 Rj13 bj (kq V53 Rl1 bj (ae 0 (kq V53 Rj14 cP bU)))))) (Hr F (Rj12∘gh) (Rj13∘bi) (Rl1∘aX) (Rj14∘aL)):=biC (W9 F Rj12 Rj13 Rl1 Rj14)
def wm(F:Nat)(a)(b c)(d):=wl F (Hr F a b c d) a b c d
theorem Xb F Rj12 Rj13 Rl1 Rj14:bV F 128158 qh (kq V53 Rj12 yH (ae 1 (kq V53 Rj13 bj (kq V53 Rl1 bj (ae 0 (kq V53 Rj14 cP bU)))))) (wm F (Rj12∘gh) (Rj13∘bi) (Rl1∘aX) (Rj14∘aL)):=sqC (fun k=>wl F k (Rj12∘gh) (Rj13∘bi) (Rl1∘aX) (Rj14∘aL)) (fun Rj11=>W7 F Rj11 Rj12 Rj13 Rl1 Rj14) (Xa F Rj12 Rj13 Rl1 Rj14)
def Ht(F:Nat)(c g:dC→Rz)(h:(List Li)→Rz):Ha→Rz:=fun (d,e,f,a,b)=>(cond (decide (b.length < 1073730000)) (cond (decide ((a.length+1) < 1073741824)) (c (d,e,f,(a++[(Jr.checked b)]))) none) none)
theorem Xc F Rj13 Rl1 Rj14:bV F 128159 gh (ae 1 (kq V53 Rj13 bj (kq V53 Rl1 bj (ae 0 (kq V53 Rj14 cP bU))))) (Ht F (Rj13∘bi) (Rl1∘aX) (Rj14∘aL)):=fun _=>by kernel_rfl
def Hu(F:Nat)(a b)(c):=wm F (Ht F a b c) a b c
theorem Xd F Rj13 Rl1 Rj14:bV F 64079 qh (ae 1 (kq V53 Rj13 bj (kq V53 Rl1 bj (ae 0 (kq V53 Rj14 cP bU))))) (Hu F (Rj13∘bi) (Rl1∘aX) (Rj14∘aL)):=sqC (fun k=>wm F k (Rj13∘bi) (Rl1∘aX) (Rj14∘aL)) (fun Rj12=>Xb F Rj12 Rj13 Rl1 Rj14) (Xc F Rj13 Rl1 Rj14)
def Hv(F:Nat)(a b)(c):=wj F (Hu F a b c) a b c
theorem Xe F Rj13 Rl1 Rj14:bV F 32039 Hp (ae 1 (kq V53 Rj13 bj (kq V53 Rl1 bj (ae 0 (kq V53 Rj14 cP bU))))) (Hv F (Rj13∘bi) (Rl1∘aX) (Rj14∘aL)):=sqC (fun k=>wj F k (Rj13∘bi) (Rl1∘aX) (Rj14∘aL)) (fun Rj10=>W6 F Rj10 Rj13 Rl1 Rj14) (Xd F Rj13 Rl1 Rj14)
def Hw(F:Nat)(a b)(c):=CB F (Hv F a b c) a b c
theorem Xf F Rj13 Rl1 Rj14:bV F 16019 o7 (ae 1 (kq V53 Rj13 bj (kq V53 Rl1 bj (ae 0 (kq V53 Rj14 cP bU))))) (Hw F (Rj13∘bi) (Rl1∘aX) (Rj14∘aL)):=sqC (fun k=>CB F k (Rj13∘bi) (Rl1∘aX) (Rj14∘aL)) (fun Rj9=>adv F Rj9 Rj13 Rl1 Rj14) (Xe F Rj13 Rl1 Rj14)
def Hx(F:Nat)(a b)(c):=Cz F (Hw F a b c) a b c
theorem Xg F Rj13 Rl1 Rj14:bV F 8009 Ho (ae 1 (kq V53 Rj13 bj (kq V53 Rl1 bj (ae 0 (kq V53 Rj14 cP bU))))) (Hx F (Rj13∘bi) (Rl1∘aX) (Rj14∘aL)):=sqC (fun k=>Cz F k (Rj13∘bi) (Rl1∘aX) (Rj14∘aL)) (fun Rj8=>adu F Rj8 Rj13 Rl1 Rj14) (Xf F Rj13 Rl1 Rj14)
def Hy(F:Nat)(a b)(c):=Cy F (Hx F a b c) a b c
theorem Xh F Rj13 Rl1 Rj14:bV F 4004 oZ (ae 1 (kq V53 Rj13 bj (kq V53 Rl1 bj (ae 0 (kq V53 Rj14 cP bU))))) (Hy F (Rj13∘bi) (Rl1∘aX) (Rj14∘aL)):=sqC (fun k=>Cy F k (Rj13∘bi) (Rl1∘aX) (Rj14∘aL)) (fun Rj7=>adt F Rj7 Rj13 Rl1 Rj14) (Xg F Rj13 Rl1 Rj14)
def wn(F:Nat)(a b)(c):=Hy F a b c
theorem Xi F Rj13 Rl1 Rj14:bV F 2002 oZ (kq V53 Rj13 bj (kq V53 Rl1 bj (ae 0 (kq V53 Rj14 cP bU)))) (wn F (Rj13∘bi) (Rl1∘aX) (Rj14∘aL)):=biC (Xh F Rj13 Rl1 Rj14)
def Hz(F:Nat)(a:dC→Rz)(f:(List Li)→Rz):dC→Rz:=fun (b,c,d,e)=>(a (b,c,(IntKind.i64.wrap (d+(1:Int))),e))
theorem Xj F Rl1 Rj14:bV F 2003 bi (kq V53 Rl1 bj (ae 0 (kq V53 Rj14 cP bU))) (Hz F (Rl1∘aX) (Rj14∘aL)):=fun _=>by kernel_rfl
def HA(F:Nat)(a)(b):=wn F (Hz F a b) a b
theorem Xk F Rl1 Rj14:bV F 1001 oZ (kq V53 Rl1 bj (ae 0 (kq V53 Rj14 cP bU))) (HA F (Rl1∘aX) (Rj14∘aL)):=sqC (fun k=>wn F k (Rl1∘aX) (Rj14∘aL)) (fun Rj13=>Xi F Rj13 Rl1 Rj14) (Xj F Rl1 Rj14)
def o9(F:Nat)(a)(b):=wi F (HA F a b) a b
theorem Xl F Rl1 Rj14:bV F 500 aX (kq V53 Rl1 bj (ae 0 (kq V53 Rj14 cP bU))) (o9 F (Rl1∘aX) (Rj14∘aL)):=sqC (fun k=>wi F k (Rl1∘aX) (Rj14∘aL)) (fun Rj6=>ads F Rj6 Rl1 Rj14) (Xk F Rl1 Rj14)
def sy:dC→Int×Li×Int×(List Li):=fun (a,b,c,d)=>(a,b,c,d)
def HB(F:Nat)(a:(List Li)→Rz):dC→Rz:=fun v=>ay (fun k=>o9 F k a) F (sy v)
theorem Xm F Rj14:bV F 250 lU (ae 0 (kq V53 Rj14 cP bU)) (HB F (Rj14∘aL)):=lpC sy (fun k=>o9 F k (Rj14∘aL)) (fun Rl1=>Xl F Rl1 Rj14)
def HC(F:Nat)(a):=HB F a
theorem Xn F Rj14:bV F 125 lU (kq V53 Rj14 cP bU) (HC F (Rj14∘aL)):=biC (Xm F Rj14)
def wq(F:Nat)(a):=Cx F (HC F a) a
theorem Xo F Rj14:bV F 62 wh (kq V53 Rj14 cP bU) (wq F (Rj14∘aL)):=sqC (fun k=>Cx F k (Rj14∘aL)) (fun Rj5=>adr F Rj5 Rj14) (Xn F Rj14)
def HD(F:Nat):(List Li)→Rz:=fun a=>(some ((.tup (.cons 0 (.vs (.rS a) 0 1) (.cons 0 (.int .i64 0) .nil))),[]))
theorem Xp F:bV F 63 aL bU (HD F):=fun _=>by kernel_rfl
def HE(F:Nat):=wq F (HD F)
theorem Xq F:bV F 31 wh bU (HE F):=sqC (wq F) (fun Rj14=>Xo F Rj14) (Xp F)
def HF(F:Nat):=Cw F (HE F)
theorem Xr F:bV F 15 Hn bU (HF F):=sqC (Cw F) (fun Rj4=>adq F Rj4) (Xq F)
def HG(F:Nat):=Cv F (HF F)
theorem Xt F:bV F 7 Hm bU (HG F):=sqC (Cv F) (fun Rj3=>adp F Rj3) (Xr F)
def HH(F:Nat):=Cu F (HG F)
theorem Xu F:bV F 3 oY bU (HH F):=sqC (Cu F) (fun Rj2=>ado F Rj2) (Xt F)
def HI(F:Nat):=Ct F (HH F)
theorem Xv F:bV F 1 W4 bU (HI F):=sqC (Ct F) (fun Rj1=>adn F Rj1) (Xu F)
def f53(F:Nat):Int×Li→Rz:=HI F
def r53:aB:=fun X H=>match X,H with
 | [(.int .i64 a0),.str a1],[]=>some ((decide (a1.length < 1073730000)),(.tup (.cons 0 (.vs (.rS (Jr.pack a0 a1).1) 0 1) (.cons 0 (.int .i64 (Jr.pack a0 a1).2) .nil))),[])
 | _,_=>none
theorem s53(a0:Int)(a1:Li)(hp:((decide (a1.length < 1073730000)))=true)(h0:okV (.int .i64 a0))(h1:okV (.str a1)):∃ F,f53 F (a0,a1)=some ((.tup (.cons 0 (.vs (.rS (Jr.pack a0 a1).1) 0 1) (.cons 0 (.int .i64 (Jr.pack a0 a1).2) .nil))),[]):=by
 have hl:=of_decide_eq_true hp
 refine⟨200,?_⟩
 simp only [f53,HI,Ct,HH,Cu,HG,Cv,HF,Cw,HE,Cx,HC,HB,sy,wq]
 by_cases c1:a0 < 1
 ·rw [aa c1,Jr.pack,aa (.inl c1)]
 by_cases c2:a0 > 4096
 ·rw [ad c1,aa c2,Jr.pack,aa (.inr c2)]
 by_cases c3:(a1.length:Int) > 8000
 ·rw [ad c1,ad c2,aa c3,Jr.pack,ad (by omega),aa c3]
 rw [ad c1,ad c2,ad c3,Jr.pack,ad (by omega),ad (by omega)]
 obtain⟨k1,k2,k3,k4,k5⟩:=Jr.count_ok (show a1.length≤8000 by omega)
 refine aH (fun i=>(a0,a1,(i:Int),(List.range i).map (Jr.sector a0 a1))) (Jr.count a1.length).toNat (by simp) (fun i hi k=>?_) (fun k=>?_) 200 (by omega)
 ·simp only [o9,wi]
  rw [aa (by omega)]
  simp only [HA,wn,Hy,Cy,ap]
  rw [ah (x:=48*(i:Int)) (by omega) (by omega),aa (by omega)]
  have er:(a1.take a1.length).drop ((48:Int)*(i:Int)).toNat=Jr.rest a1 i:=by rw [List.take_length,Jr.rest];congr 1
  have rl:=Jr.rest_len a1 i
  rw [er]
  have hf:Jr.front a0 a1 i=Jr.small a0 4++Jr.small (i:Int) 2++Jr.small ((Jr.rest a1 i).length:Int) 2++Jr.fill (Jr.rest a1 i):=rfl
  generalize Jr.rest a1 i=r at *
  simp only [Hx,Cz,ap]
  rw [aa (by omega)]
  simp only [Hw,CB,ap]
  rw [aa (by omega),aa (by rw [Jr.small_len,Jr.small_len];decide)]
  simp only [Hv,wj,ap]
  rw [aa (by omega),aa (by rw [List.length_append,Jr.small_len,Jr.small_len,Jr.small_len];decide)]
  simp only [Hu,wm,wl,Hr,Hq,sx]
  have e4:Int.toNat (4:Int)=4:=rfl
  have e2:Int.toNat (2:Int)=2:=rfl
  rw [e4,e2]
  have hbl:(Jr.small a0 4++Jr.small (i:Int) 2++Jr.small (r.length:Int) 2).length=8:=by simp only [List.length_append,Jr.small_len]
  generalize Jr.small a0 4++Jr.small (i:Int) 2++Jr.small (r.length:Int) 2=b at *
  refine aH (fun j=>(a0,a1,(i:Int),r,(j:Int),(List.range i).map (Jr.sector a0 a1),b++(List.range j).map fun q=>r.getD q 0)) 48 (by simp) (fun j hj q=>?_) (fun q=>?_) 200 (by omega)
  ·simp only [o8,ap,Int.toNat_natCast]
   rw [aa (by omega)]
   have hlen:(b++(List.range j).map fun q=>r.getD q 0).length=8+j:=by rw [List.length_append,hbl,List.length_map,List.length_range]
   have es:(b++(List.range j).map fun q=>r.getD q 0)++[r.getD j 0]=b++(List.range (j+1)).map fun q=>r.getD q 0:=by rw [List.range_succ,List.map_append,← List.append_assoc];rfl
   by_cases hr:(j:Int) < (r.length:Int)
   ·rw [aa hr,aa (by omega),aa (by omega),ah (by omega) (by omega),es];rfl
   ·have e0:r.getD j 0=0:=by rw [List.getD_eq_getElem?_getD,List.getElem?_eq_none (by omega)];rfl
    rw [e0] at es
    rw [ad hr,aa (by omega),ah (by omega) (by omega),es];rfl
  ·simp only [o8]
   rw [ad (by omega),Jr.fill_map]
   simp only [Ht,Hz]
   rw [aa (by rw [List.length_append,hbl,Jr.fill_len];decide),aa (by rw [List.length_map,List.length_range];omega),ah (by omega) (by omega),← hf,List.range_succ,List.map_append]
   rfl
 ·simp only [o9,wi]
  rw [ad (by omega)]
  simp only [HD]
  rfl
theorem c53:CallOk Tryz.prog eo 53 r53:=dF mixed tys a6h Tryz.func53 (by kernel_rfl) (c:=sub (cZ Tryz.f53) []) (by kernel_rfl) (by
 intro X H r H' h hX hH
 unfold r53 at h;split at h <;> try contradiction
 ·obtain⟨hp,rfl,rfl⟩:=aJ h
  obtain⟨F,hF⟩:=s53 _ _ hp (hX _ hm0) (hX _ hm1)
  exact⟨_,abC (Xv F) hF⟩)
end Go.Am
end
section
namespace Go.Am
open Go Go.Proofs
abbrev pa:List (Nat×Md):=[(0,.plain)]
abbrev a1s:=Nat×(List (List Li))×Bool×Int
abbrev a1t:=Nat×(List (List Li))×Bool×Int×Int
abbrev a1u:=Nat×(List (List Li))×Bool×Int×Int×Li
abbrev OS:=Nat×Bool×Int×(List (List Li))
abbrev adw:=Int×Nat×Bool×Int×(List (List Li))
def a2v(F:Nat):a1u→Rz:=fun (e,a,b,c,d,f)=>(cond b (some ((.int .i64 22),[(rB e 1 b c),(.cells (e*4) (.rT [.str,.str,.bool,.bool] a) true)])) (cond (decide (e=a.length∧e < 8000)) (cond (!(Dk.ris (Dk.R.mk a b c) d)) (some ((.int .i64 1),[(rB (Dk.R.mk a b c).s.length 1 (Dk.R.mk a b c).off (Dk.R.mk a b c).left),(.cells ((Dk.R.mk a b c).s.length*4) (.rT [.str,.str,.bool,.bool] (Dk.R.mk a b c).s) true)])) (cond ((↑f.length:Int) != (64:Int)) (some ((.int .i64 1),[(rB (Dk.R.mk a b c).s.length 1 (Dk.R.mk a b c).off (Dk.R.mk a b c).left),(.cells ((Dk.R.mk a b c).s.length*4) (.rT [.str,.str,.bool,.bool] (Dk.R.mk a b c).s) true)])) (cond (decide ((Dk.R.mk a b c).s.length=(Dk.R.mk a b c).s.length∧(Dk.R.mk a b c).s.length < 8000)) (cond ((Dk.rstep (Dk.R.mk a b c)).2 != (0:Int)) (some ((.int .i64 (Dk.rstep (Dk.R.mk a b c)).2),[(rB (Dk.rstep (Dk.R.mk a b c)).1.s.length 1 (Dk.rstep (Dk.R.mk a b c)).1.off (Dk.rstep (Dk.R.mk a b c)).1.left),(.cells ((Dk.rstep (Dk.R.mk a b c)).1.s.length*4) (.rT [.str,.str,.bool,.bool] (Dk.rstep (Dk.R.mk a b c)).1.s) true)])) (cond ((decide (0≤d))&&(decide (d < (↑(Dk.rstep (Dk.R.mk a b c)).1.s.length:Int)))) (cond ((decide (0≤d))&&(decide (d < (↑(Dk.rstep (Dk.R.mk a b c)).1.s.length:Int)))) (some ((.int .i64 0),[(rB (Dk.rstep (Dk.R.mk a b c)).1.s.length 1 (Dk.rstep (Dk.R.mk a b c)).1.off (Dk.rstep (Dk.R.mk a b c)).1.left),(.cells ((Dk.rstep (Dk.R.mk a b c)).1.s.length*4) (.rT [.str,.str,.bool,.bool] (((Dk.rstep (Dk.R.mk a b c)).1.s.set (Int.toNat d) (bf ((Dk.rstep (Dk.R.mk a b c)).1.s.getD (Int.toNat d) []) 1 f)).set (Int.toNat d) (bf (((Dk.rstep (Dk.R.mk a b c)).1.s.set (Int.toNat d) (bf ((Dk.rstep (Dk.R.mk a b c)).1.s.getD (Int.toNat d) []) 1 f)).getD (Int.toNat d) []) 2 [1]))) true)])) none) none)) none))) none))
def f33(F:Nat):a1u→Rz:=a2v F
end Go.Am
end
section
namespace Go.Am
open Go Go.Proofs
abbrev OT:List (Nat×Md):=[(0,.plain),(1,.plain),(8,.plain),(9,.plain),(10,.plain)]
abbrev OU:List (Nat×Md):=[(0,.plain),(3,.plain),(15,.plain),(16,.plain)]
abbrev yL:List (Nat×Md):=[(3,.plain)]
abbrev adx:=Nat×Li×(Lp)×(Lp)×Bool×Int×Li
abbrev sA:=Li×Li×Int×Int×(Dk.D)
abbrev ady:=Nat×Bool×Int×Li×(Lp)×(Lp)
abbrev adz:=Nat×Bool×Int×Li×(Lp)×(Lp)×(List Li)
abbrev OV:=Int×Int×Nat×Bool×Int×Li×(Lp)×(Lp)×(List Li)
abbrev adA:=Int×Int×Nat×Bool×Int×Li×(Lp)×(Lp)×(List Li)×Nat
abbrev HJ:=Nat×Bool×Int×Li×(Lp)×(Lp)×(List Li)×Nat
abbrev a1v:=Int×Nat×Bool×Int×(List (List Li))×(List Li)
abbrev OW:=Nat×Bool×Int×(List (List Li))×(List Li)
def a6j:List aF:=[]
def V13:Env:=ar aE ao a6j
noncomputable abbrev a6k:=aI V13 none (Tryz.f13).results.toList
theorem a6l:EOk Tryz.prog V13:=aj (by exact trivial)
def a6m(F:Nat):Cuts:={ F:=F,at_:=fun _=>none,join:=fun _=>none }
abbrev a6n(F n:Nat){σ:Type}(e:σ→St)(K:Ex→St→Rz)(N:σ→Rz):=Qe V13 (a6m F) (bp Tryz.f13 n) e K N
def a1x:mF→St:=fun (a,b,c,d,e,f,g)=>hS [pS 0 0 5,iS 1 g] [dB 1 a 2 3 e f,bB b,pB c,wB d] 8 4
def aeV(F:Nat):mF→Rz:=fun (a,b,c,d,e,g,f)=>(some ((.tup .nil),[(dB 1 a 2 3 e f),(bB b),(pB c),(wB d)]))
theorem adB F:a6n F 1 a1x a6k (aeV F):=fun _=>by kernel_rfl
def f13(F:Nat):mF→Rz:=aeV F
def r13:aB:=fun X H=>match X,H with
 | [(.ptr 0 0 5 0 0 0 5),.int .i64 a1],[(.cells 5 (.segs (.cons 1 (.one (.own 1 a0n 64)) (.cons 1 (.one (.mp 2)) (.cons 1 (.one (.mp 3)) (.cons 1 (.one (.bool a0o)) (.cons 1 (.one (.int .i64 a0l)) .nil)))))) true),(.cells z1 (.rI .u8 a0b) true),(.cells 0 (.rM .i64 0 (.arr .u8 64) a0p) true),(.cells 0 (.rM .i64 0 .bool a0w) true)]=>some (true,.tup .nil,[(dE 1 (Dk.trip (Dk.D.mk a0n a0b a0p a0w a0o a0l) a1) 2 3),(.cells (Dk.trip (Dk.D.mk a0n a0b a0p a0w a0o a0l) a1).blk.length (.rI .u8 (Dk.trip (Dk.D.mk a0n a0b a0p a0w a0o a0l) a1).blk) true),(pB (Dk.trip (Dk.D.mk a0n a0b a0p a0w a0o a0l) a1).pend),(wB (Dk.trip (Dk.D.mk a0n a0b a0p a0w a0o a0l) a1).worn)])
 | _,_=>none
theorem s13(a0n:Nat)(a0b:Li)(a0p a0w:Lp)(a0o:Bool)(a0l a1:Int)(h1:okV (.int .i64 a1))(k0:okB (dB 1 a0n 2 3 a0o a0l))(k1:okB (bB a0b))(k2:okB (pB a0p))(k3:okB (wB a0w)):∃ F,f13 F (a0n,a0b,a0p,a0w,a0o,a0l,a1)=some ((.tup .nil),[(dE 1 (Dk.trip (Dk.D.mk a0n a0b a0p a0w a0o a0l) a1) 2 3),(.cells (Dk.trip (Dk.D.mk a0n a0b a0p a0w a0o a0l) a1).blk.length (.rI .u8 (Dk.trip (Dk.D.mk a0n a0b a0p a0w a0o a0l) a1).blk) true),(pB (Dk.trip (Dk.D.mk a0n a0b a0p a0w a0o a0l) a1).pend),(wB (Dk.trip (Dk.D.mk a0n a0b a0p a0w a0o a0l) a1).worn)]):=by exact⟨0,rfl⟩
theorem c13:Ck 13 r13:=ck a6l Tryz.func13 (by
 intro X H r H' h hX hH
 unfold r13 at h;split at h <;> try contradiction
 ·obtain⟨hp,rfl,rfl⟩:=aJ h
  obtain rfl:=am (hH _ hm1) rfl
  obtain⟨F,hF⟩:=s13 _ _ _ _ _ _ _ (hX _ hm1) (hH _ hm0) (hH _ hm1) (hH _ hm2) (hH _ hm3)
  exact⟨_,abC (adB F) hF⟩)
def a6o:List aF:=[(50,[none],r50),(51,[none,none,none],r51)]
def V16:Env:=ar aE ao a6o
noncomputable abbrev sC:=aI V16 none (Tryz.f16).results.toList
theorem a6p:EOk Tryz.prog V16:=aj (by exact⟨c50,c51,trivial⟩)
def a6q(F:Nat):Cuts:={ F:=F,at_:=fun n=>match n with | 1020=>some OT | _=>none,join:=fun n=>match n with | 1022=>some OT | 8001=>some pa | _=>none }
abbrev sD(F n:Nat){σ:Type}(e:σ→St)(K:Ex→St→Rz)(N:σ→Rz):=Qe V16 (a6q F) (bp Tryz.f16 n) e K N
def HK:adx→St:=fun (a,b,c,d,e,f,g)=>hS [pS 0 0 5,lS 1 g] [dB 1 a 2 3 e f,bB b,pB c,wB d] 34 4
def wt:sA→St:=fun (b,c,d,e,a)=>hS [pS 0 0 5,lS 1 b,lS 8 c,iS 9 d,iS 10 e] [dE 1 a 2 3,bB a.blk,pB a.pend,wB a.worn] 34 4
def Xw:sA→St:=wt
def ji:(Dk.D)→St:=fun a=>hS [pS 0 0 5] [dE 1 a 2 3,bB a.blk,pB a.pend,wB a.worn] 34 4
def CC(F:Nat)(g:sA→Rz)(i:(Dk.D)→Rz):adx→Rz:=fun (a,b,c,d,e,f,h)=>(cond (decide ((Dk.D.mk a b c d e f).pend.length < 1073741824)) (g (h,(Dk.pending (Dk.D.mk a b c d e f)),(↑(Dk.pending (Dk.D.mk a b c d e f)).length:Int),(0:Int),(Dk.D.mk a b c d e f))) none)
theorem adC F Rj1 Rj2:sD F 4 HK (kq V16 Rj1 OT (kq V16 Rj2 pa sC)) (CC F (Rj1∘wt) (Rj2∘ji)):=fun _=>by kernel_rfl
def wu(F:Nat)(f:sA→Rz)(g:(Dk.D)→Rz):sA→Rz:=fun (d,c,e,a,b)=>(cond (decide (a < e)) (cond ((decide (0≤a))&&(decide (a < (↑c.length:Int)))) (cond (decide (a < (↑d.length:Int))) (cond ((decide (0≤a))&&(decide (a < (↑d.length:Int)))) (cond ((Dk.inD b (c.getD (Int.toNat a) 0))&&(decide (b.blk.length=b.n*64))) (f (d,c,e,(IntKind.i64.wrap (a+(1:Int))),(Dk.settle b (c.getD (Int.toNat a) 0) (d.getD (Int.toNat a) 0)))) none) none) (cond ((Dk.inD b (c.getD (Int.toNat a) 0))&&(decide (b.blk.length=b.n*64))) (f (d,c,e,(IntKind.i64.wrap (a+(1:Int))),(Dk.settle b (c.getD (Int.toNat a) 0) (64:Int)))) none)) none) (g b))
theorem adD F Rl1 Rj2:sD F 20 Xw (kq V16 Rl1 OT (ae 0 (kq V16 Rj2 pa sC))) (wu F (Rl1∘Xw) (Rj2∘ji)):=fun _=>by kernel_rfl
def yM:sA→Li×Li×Int×Int×(Dk.D):=fun (a,b,c,d,e)=>(a,b,c,d,e)
def OX(F:Nat)(a:(Dk.D)→Rz):sA→Rz:=fun v=>ay (fun k=>wu F k a) F (yM v)
theorem adE F Rj2:sD F 10 wt (ae 0 (kq V16 Rj2 pa sC)) (OX F (Rj2∘ji)):=lpC yM (fun k=>wu F k (Rj2∘ji)) (fun Rl1=>adD F Rl1 Rj2)
def OY(F:Nat)(a):=OX F a
theorem adF F Rj2:sD F 5 wt (kq V16 Rj2 pa sC) (OY F (Rj2∘ji)):=biC (adE F Rj2)
def CE(F:Nat)(a):=CC F (OY F a) a
theorem adG F Rj2:sD F 2 HK (kq V16 Rj2 pa sC) (CE F (Rj2∘ji)):=sqC (fun k=>CC F k (Rj2∘ji)) (fun Rj1=>adC F Rj1 Rj2) (adF F Rj2)
def OZ(F:Nat):(Dk.D)→Rz:=fun a=>(some ((.tup .nil),[(dB 1 a.n 2 3 false (-1:Int)),(bB a.blk),(pB a.pend),(wB a.worn)]))
theorem adH F:sD F 3 ji sC (OZ F):=fun _=>by kernel_rfl
def O0(F:Nat):=CE F (OZ F)
theorem adI F:sD F 1 HK sC (O0 F):=sqC (CE F) (fun Rj2=>adG F Rj2) (adH F)
def f16(F:Nat):adx→Rz:=O0 F
def r16:aB:=fun X H=>match X,H with
 | [(.ptr 0 0 5 0 0 0 5),(.vs (.rI .i64 a1) 0 1)],[(.cells 5 (.segs (.cons 1 (.one (.own 1 a0n 64)) (.cons 1 (.one (.mp 2)) (.cons 1 (.one (.mp 3)) (.cons 1 (.one (.bool a0o)) (.cons 1 (.one (.int .i64 a0l)) .nil)))))) true),(.cells z1 (.rI .u8 a0b) true),(.cells 0 (.rM .i64 0 (.arr .u8 64) a0p) true),(.cells 0 (.rM .i64 0 .bool a0w) true)]=>some ((Dk.fine (Dk.D.mk a0n a0b a0p a0w a0o a0l)),.tup .nil,[(dE 1 (Dk.mount (Dk.D.mk a0n a0b a0p a0w a0o a0l) a1) 2 3),(.cells (Dk.mount (Dk.D.mk a0n a0b a0p a0w a0o a0l) a1).blk.length (.rI .u8 (Dk.mount (Dk.D.mk a0n a0b a0p a0w a0o a0l) a1).blk) true),(pB (Dk.mount (Dk.D.mk a0n a0b a0p a0w a0o a0l) a1).pend),(wB (Dk.mount (Dk.D.mk a0n a0b a0p a0w a0o a0l) a1).worn)])
 | _,_=>none
theorem s16(a0n:Nat)(a0b:Li)(a0p a0w:Lp)(a0o:Bool)(a0l:Int)(a1:Li)(hp:((Dk.fine (Dk.D.mk a0n a0b a0p a0w a0o a0l)))=true)(h1:okV (.vs (.rI .i64 a1) 0 1))(k0:okB (dB 1 a0n 2 3 a0o a0l))(k1:okB (bB a0b))(k2:okB (pB a0p))(k3:okB (wB a0w)):∃ F,f16 F (a0n,a0b,a0p,a0w,a0o,a0l,a1)=some ((.tup .nil),[(dE 1 (Dk.mount (Dk.D.mk a0n a0b a0p a0w a0o a0l) a1) 2 3),(.cells (Dk.mount (Dk.D.mk a0n a0b a0p a0w a0o a0l) a1).blk.length (.rI .u8 (Dk.mount (Dk.D.mk a0n a0b a0p a0w a0o a0l) a1).blk) true),(pB (Dk.mount (Dk.D.mk a0n a0b a0p a0w a0o a0l) a1).pend),(wB (Dk.mount (Dk.D.mk a0n a0b a0p a0w a0o a0l) a1).worn)]):=by
 obtain⟨⟨hn,hl,hpl,hwl⟩,hin⟩:=Dk.fine_iff hp
 have hok:Dk.Ok (Dk.D.mk a0n a0b a0p a0w a0o a0l):=⟨hl,Dk.vals64 k2⟩
 have hlen:=Dk.pending_len (Dk.D.mk a0n a0b a0p a0w a0o a0l)
 revert hin hok hlen hp
 generalize hd:Dk.D.mk a0n a0b a0p a0w a0o a0l=d
 intro hp hin hok hlen
 have hpl':d.pend.length < 8000:=by rw [← hd];exact hpl
 refine⟨d.pend.length+1,?_⟩
 simp only [f16,O0,CE,CC,OY,OX,yM,hd]
 have hpl2:a0p.length < 8000:=hpl
 rw [aa (show a0p.length < 1073741824 by omega)]
 refine aH (fun k=>(a1,Dk.pending d,((Dk.pending d).length:Int),(k:Int),Dk.mountK a1 (Dk.pending d) k d)) d.pend.length (by rfl) (fun k hk K=>?_) (fun K=>?_) (d.pend.length+1) (by omega)
 ·have hk':k < (Dk.pending d).length:=by omega
  obtain⟨q1,q2⟩:=Dk.mountK_ok (picks:=a1) hok hin k (by omega)
  have e1:(decide (0≤(k:Int))&&decide ((k:Int) < ((Dk.pending d).length:Int)))=true:=by rw [ap,decide_eq_true_iff];omega
  have e2:(Dk.inD (Dk.mountK a1 (Dk.pending d) k d) ((Dk.pending d).getD k 0)&&decide ((Dk.mountK a1 (Dk.pending d) k d).blk.length=(Dk.mountK a1 (Dk.pending d) k d).n*64))=true:=by
   rw [Dk.inD_n q2,hin _ (Dk.mem_at hk')];simp [q1.len]
  simp only [wu,Int.toNat_natCast,e1,e2,cond_true,ah (show -9223372036854775808≤(k:Int)+1 by omega) (by omega)]
  rw [aa (show(k:Int) < ((Dk.pending d).length:Int) by omega),Dk.mountK_succ hk']
  by_cases hq:k < a1.length
  ·have e3:(decide (0≤(k:Int))&&decide ((k:Int) < (a1.length:Int)))=true:=by rw [ap,decide_eq_true_iff];omega
   rw [aa (show(k:Int) < (a1.length:Int) by omega),e3,Dk.getD_in hq 0 64]
   rfl
  ·rw [ad (show ¬ (k:Int) < (a1.length:Int) by omega),Dk.getD_far (by omega) 64]
   rfl
 ·simp only [wu]
  rw [ad (show ¬ ((d.pend.length:Nat):Int) < ((Dk.pending d).length:Int) by omega)]
  obtain⟨q1,q2⟩:=Dk.mountK_ok (picks:=a1) hok hin _ (Nat.le_refl _)
  have e0:Dk.mountK a1 (Dk.pending d) d.pend.length d=Dk.mountAll a1 (Dk.pending d) 0 d:=by rw [← hlen];exact Dk.mountK_all a1 d
  rw [Dk.mountK_all] at q1
  rw [e0]
  simp only [OZ,Dk.mount] <;> rw [← q1.len]
theorem c16:Ck 16 r16:=ck a6p Tryz.func16 (by
 intro X H r H' h hX hH
 unfold r16 at h;split at h <;> try contradiction
 ·obtain⟨hp,rfl,rfl⟩:=aJ h
  obtain rfl:=am (hH _ hm1) rfl
  obtain⟨F,hF⟩:=s16 _ _ _ _ _ _ _ hp (hX _ hm1) (hH _ hm0) (hH _ hm1) (hH _ hm2) (hH _ hm3)
  exact⟨_,abC (adI F) hF⟩)
def a6r:List aF:=[]
def V18:Env:=ar aE ao a6r
noncomputable abbrev kx:=aI V18 (some [(2,.view 9)]) (Tryz.f18).results.toList
theorem a6s:EOk Tryz.prog V18:=aj (by exact trivial)
def a6t(F:Nat):Cuts:={ F:=F,at_:=fun n=>match n with | 3012=>some OU | _=>none,join:=fun n=>match n with | 1022=>some pa | 2020=>some dc | 3014=>some OU | 7003=>some yL | _=>none,fin:=(some [(2,.view 9)]) }
abbrev ky(F n:Nat){σ:Type}(e:σ→St)(K:Ex→St→Rz)(N:σ→Rz):=Qe V18 (a6t F) (bp Tryz.f18 n) e K N
def Xx:eu→St:=fun (a,b,c,d,e,f)=>hS [pS 0 0 5] [dB 1 a 2 3 e f,bB b,pB c,wB d] 32 4
def HL:ady→St:=fun (a,b,c,d,e,f)=>hS [pS 0 0 5] [dB 1 a 2 3 b c,bB d,pB e,wB f] 32 4
def wv:adz→St:=fun (a,b,c,d,e,f,g)=>hS [pS 0 0 5,(3,.own 4 0 1)] [dB 1 a 2 3 b c,bB d,pB e,wB f,sB g] 32 4
def HM:OV→St:=fun (a,b,c,d,e,f,g,h,i)=>hS [pS 0 0 5,(3,.own 4 0 1),iS 15 a,iS 16 b] [dB 1 c 2 3 d e,bB f,pB g,wB h,sB i] 32 4
def Xy:adA→St:=fun (a,b,c,d,e,f,g,h,i,j)=>hS [pS 0 0 5,(3,.own 4 0 1),iS 15 a,iS 16 b] [dB 1 c 2 3 d e,bB f,pB g,wB h,z13 j i] 32 4
def jk:HJ→St:=fun (a,b,c,d,e,f,g,h)=>hS [(3,.own 4 0 1)] [dB 1 a 2 3 b c,bB d,pB e,wB f,z13 h g] 32 4
def CG(F:Nat)(a:ady→Rz):eu→Rz:=fun (b,c,d,e,f,g)=>(a (b,f,g,c,d,e))
theorem adJ F Rj1:ky F 2 Xx (kq V18 Rj1 pa kx) (CG F (Rj1∘HL)):=fun _=>by kernel_rfl
def CH(F:Nat)(b:adz→Rz):ady→Rz:=fun (a,c,d,e,f,g)=>(cond (((decide (0≤(↑a:Int)))&&(decide ((↑a:Int)≤(↑a:Int))))&&(decide ((↑a:Int) < 1073741824))) (b (a,c,d,e,f,g,(List.replicate (Int.toNat (↑a:Int)) []))) none)
theorem adK F Rj2:ky F 6 HL (kq V18 Rj2 dc kx) (CH F (Rj2∘wv)):=fun _=>by kernel_rfl
def CJ(F:Nat)(b:OV→Rz)(i:HJ→Rz):adz→Rz:=fun (a,c,d,e,f,g,h)=>(b ((↑a:Int),(0:Int),a,c,d,e,f,g,h))
theorem adL F Rj3 Rj4:ky F 28 wv (kq V18 Rj3 OU (kq V18 Rj4 yL kx)) (CJ F (Rj3∘HM) (Rj4∘jk)):=fun _=>by kernel_rfl
def ww(F:Nat)(k:adA→Rz)(l:HJ→Rz):adA→Rz:=fun (e,a,b,f,g,c,h,i,d,j)=>(cond (decide (a < e)) (cond ((decide (0≤a))&&(decide (a < (↑b:Int)))) (cond ((decide (0≤a))&&(decide (a < (↑d.length:Int)))) (k (e,(IntKind.i64.wrap (a+(1:Int))),b,f,g,c,h,i,(d.set (Int.toNat a) ((c.drop (0+(0+((Int.toNat a)*64)))).take 64)),j)) none) none) (l (b,f,g,c,h,i,d,j)))
theorem adM F Rl1 Rj4:ky F 116 Xy (kq V18 Rl1 OU (ae 0 (kq V18 Rj4 yL kx))) (ww F (Rl1∘Xy) (Rj4∘jk)):=fun _=>by kernel_rfl
def yN:OV→Int×Int×Nat×Bool×Int×Li×(Lp)×(Lp)×(List Li)×Nat:=fun (b,c,d,e,f,g,h,i,a)=>(b,c,d,e,f,g,h,i,a,a.length)
def O1(F:Nat)(a:HJ→Rz):OV→Rz:=fun v=>ay (fun k=>ww F k a) F (yN v)
theorem adN F Rj4:ky F 58 HM (ae 0 (kq V18 Rj4 yL kx)) (O1 F (Rj4∘jk)):=lpC yN (fun k=>ww F k (Rj4∘jk)) (fun Rl1=>adM F Rl1 Rj4)
def O2(F:Nat)(a):=O1 F a
theorem adO F Rj4:ky F 29 HM (kq V18 Rj4 yL kx) (O2 F (Rj4∘jk)):=biC (adN F Rj4)
def CL(F:Nat)(a):=CJ F (O2 F a) a
theorem adP F Rj4:ky F 14 wv (kq V18 Rj4 yL kx) (CL F (Rj4∘jk)):=sqC (fun k=>CJ F k (Rj4∘jk)) (fun Rj3=>adL F Rj3 Rj4) (adO F Rj4)
def O3(F:Nat):HJ→Rz:=fun (a,b,c,d,e,f,g,h)=>(some ((.vs (.rS g) 0 1),[(dB 1 a 2 3 b c),(bB d),(pB e),(wB f)]))
theorem adQ F:ky F 15 jk kx (O3 F):=fun _=>by kernel_rfl
def O4(F:Nat):=CL F (O3 F)
theorem adR F:ky F 7 wv kx (O4 F):=sqC (CL F) (fun Rj4=>adP F Rj4) (adQ F)
def HN(F:Nat):=CH F (O4 F)
theorem Xz F:ky F 3 HL kx (HN F):=sqC (CH F) (fun Rj2=>adK F Rj2) (adR F)
def HO(F:Nat):=CG F (HN F)
theorem XA F:ky F 1 Xx kx (HO F):=sqC (CG F) (fun Rj1=>adJ F Rj1) (Xz F)
def f18(F:Nat):eu→Rz:=HO F
def r18:aB:=fun X H=>match X,H with
 | [(.ptr 0 0 5 0 0 0 5)],[(.cells 5 (.segs (.cons 1 (.one (.own 1 a0n 64)) (.cons 1 (.one (.mp 2)) (.cons 1 (.one (.mp 3)) (.cons 1 (.one (.bool a0o)) (.cons 1 (.one (.int .i64 a0l)) .nil)))))) true),(.cells z1 (.rI .u8 a0b) true),(.cells 0 (.rM .i64 0 (.arr .u8 64) a0p) true),(.cells 0 (.rM .i64 0 .bool a0w) true)]=>some ((decide ((Dk.D.mk a0n a0b a0p a0w a0o a0l).blk.length=(Dk.D.mk a0n a0b a0p a0w a0o a0l).n*64∧(Dk.D.mk a0n a0b a0p a0w a0o a0l).n < 8000)),(.vs (.rS (Dk.image (Dk.D.mk a0n a0b a0p a0w a0o a0l))) 0 1),[(dE 1 (Dk.D.mk a0n a0b a0p a0w a0o a0l) 2 3),(.cells (Dk.D.mk a0n a0b a0p a0w a0o a0l).blk.length (.rI .u8 (Dk.D.mk a0n a0b a0p a0w a0o a0l).blk) true),(pB (Dk.D.mk a0n a0b a0p a0w a0o a0l).pend),(wB (Dk.D.mk a0n a0b a0p a0w a0o a0l).worn)])
 | _,_=>none
theorem s18(a0n:Nat)(a0b:Li)(a0p a0w:Lp)(a0o:Bool)(a0l:Int)(hp:((decide ((Dk.D.mk a0n a0b a0p a0w a0o a0l).blk.length=(Dk.D.mk a0n a0b a0p a0w a0o a0l).n*64∧(Dk.D.mk a0n a0b a0p a0w a0o a0l).n < 8000)))=true)(k0:okB (dB 1 a0n 2 3 a0o a0l))(k1:okB (bB a0b))(k2:okB (pB a0p))(k3:okB (wB a0w)):∃ F,f18 F (a0n,a0b,a0p,a0w,a0o,a0l)=some ((.vs (.rS (Dk.image (Dk.D.mk a0n a0b a0p a0w a0o a0l))) 0 1),[(dE 1 (Dk.D.mk a0n a0b a0p a0w a0o a0l) 2 3),(.cells (Dk.D.mk a0n a0b a0p a0w a0o a0l).blk.length (.rI .u8 (Dk.D.mk a0n a0b a0p a0w a0o a0l).blk) true),(pB (Dk.D.mk a0n a0b a0p a0w a0o a0l).pend),(wB (Dk.D.mk a0n a0b a0p a0w a0o a0l).worn)]):=by
 rw [decide_eq_true_iff] at hp
 obtain⟨hl,hn⟩:=hp
 refine⟨a0n+1,?_⟩
 have e:((decide (0≤(a0n:Int))&&decide ((a0n:Int)≤(a0n:Int)))&&decide ((a0n:Int) < 1073741824))=true:=by simp at hn ⊢;omega
 simp only [f18,HO,CG,HN,CH,O4,CL,O3,CJ,O2,O1,yN,e,cond_true,Int.toNat_natCast]
 refine aH (fun k=>((a0n:Int),(k:Int),a0n,a0o,a0l,a0b,a0p,a0w,(List.range k).map (fun i=>Dk.sec a0b i)++List.replicate (a0n-k) [],a0n)) a0n (by simp) (fun k hk K=>?_) (fun K=>?_) (a0n+1) (by omega)
 ·have e1:(decide (0≤(k:Int))&&decide ((k:Int) < (a0n:Int)))=true:=by rw [ap,decide_eq_true_iff];omega
  have e2:(decide (0≤(k:Int))&&decide ((k:Int) < ((((List.range k).map (fun i=>Dk.sec a0b i)++List.replicate (a0n-k) []).length:Nat):Int)))=true:=by
   rw [ap,decide_eq_true_iff];simp;omega
  simp only [ww,e1,e2,cond_true,ah (show -9223372036854775808≤(k:Int)+1 by omega) (by simp at hn;omega),Int.toNat_natCast,Nat.zero_add]
  rw [aa (show(k:Int) < (a0n:Int) by omega),ru (fun i=>Dk.sec a0b i) [] a0n k hk (by simp [Dk.sec])]
  rfl
 ·simp only [ww]
  rw [ad (by omega)]
  simp only [Nat.sub_self,List.replicate_zero,List.append_nil]
  rfl
theorem c18:Ck 18 r18:=ck a6s Tryz.func18 (by
 intro X H r H' h hX hH
 unfold r18 at h;split at h <;> try contradiction
 ·obtain⟨hp,rfl,rfl⟩:=aJ h
  obtain rfl:=am (hH _ hm1) rfl
  obtain⟨F,hF⟩:=s18 _ _ _ _ _ _ hp (hH _ hm0) (hH _ hm1) (hH _ hm2) (hH _ hm3)
  exact⟨_,abC (XA F) hF⟩)
def a2w(F:Nat):a1t→Rz:=fun (e,a,b,c,d)=>(cond (decide (e=a.length∧e < 8000)) (cond (!(Dk.ris (Dk.R.mk a b c) d)) (some ((.int .i64 1),[(rB (Dk.R.mk a b c).s.length 1 (Dk.R.mk a b c).off (Dk.R.mk a b c).left),(.cells ((Dk.R.mk a b c).s.length*4) (.rT [.str,.str,.bool,.bool] (Dk.R.mk a b c).s) true)])) (cond ((decide (0≤d))&&(decide (d < (↑(Dk.R.mk a b c).s.length:Int)))) (some ((.int .i64 0),[(rB (Dk.R.mk a b c).s.length 1 (Dk.R.mk a b c).off (Dk.R.mk a b c).left),(.cells ((Dk.R.mk a b c).s.length*4) (.rT [.str,.str,.bool,.bool] ((Dk.R.mk a b c).s.set (Int.toNat d) (bf ((Dk.R.mk a b c).s.getD (Int.toNat d) []) 3 [1]))) true)])) none)) none)
def f30(F:Nat):a1t→Rz:=a2w F
def a2x(F:Nat)(a:OS→Rz):a1s→Rz:=fun (b,c,d,e)=>(a (b,d,e,c))
def a2y(F:Nat)(a:OS→Rz):OS→Rz:=fun (b,c,d,e)=>(a (b,c,d,e))
def a2z(F:Nat)(a:adw→Rz)(f:OW→Rz):OS→Rz:=fun (b,c,d,e)=>(a ((0:Int),b,c,d,e))
def a2A(F:Nat)(g:a1v→Rz)(h:OW→Rz):a1v→Rz:=fun (a,b,e,f,c,d)=>(cond (decide (a < (↑b:Int))) (cond ((decide (0≤a))&&(decide (a < (↑b:Int)))) (cond (decide ((d.length+1) < 1073741824)) (g ((IntKind.i64.wrap (a+(1:Int))),b,e,f,c,(d++[((c.getD (Int.toNat a) []).getD 0 [])]))) none) none) (h (b,e,f,c,d)))
def aZE:adw→Int×Nat×Bool×Int×(List (List Li))×(List Li):=fun (a,b,c,d,e)=>(a,b,c,d,e,[])
def a2B(F:Nat)(a:OW→Rz):adw→Rz:=fun v=>ay (fun k=>a2A F k a) F (aZE v)
def a2C(F:Nat)(a):=a2B F a
def a2D(F:Nat)(a):=a2z F (a2C F a) a
def a2E(F:Nat):OW→Rz:=fun (a,b,c,d,e)=>(some ((.vs (.rS e) 0 1),[(rB a 1 b c),(.cells (a*4) (.rT [.str,.str,.bool,.bool] d) true)]))
def a2F(F:Nat):=a2D F (a2E F)
def a1y(F:Nat):=a2y F (a2F F)
def a1z(F:Nat):=a2x F (a1y F)
def f31(F:Nat):a1s→Rz:=a1z F
end Go.Am
end
section
namespace Go.Am
open Go Go.Proofs
abbrev a1A:List (Nat×Md):=[(1,.plain),(3,.plain),(4,.own 5),(5,.plain)]
abbrev a1B:List (Nat×Md):=[(1,.plain),(3,.plain),(4,.plain),(5,.plain)]
abbrev yO:=Int×Int×Int×Int×Int×Li
abbrev yP:=Int×Int×Int×Int×Int×Int×Li
abbrev O5:=Int×Int×Int×Int×Int×Int×Int×Li
abbrev adS:=Int×Int×Int×Int×Int×Int×Int×Li×Li
def a6u:List aF:=[]
def V15:Env:=ar aE ao a6u
noncomputable abbrev iG:=aI V15 none (Tryz.f15).results.toList
theorem a6v:EOk Tryz.prog V15:=aj (by exact trivial)
def a6w(F:Nat):Cuts:={ F:=F,at_:=fun n=>match n with | 4010=>some a1A | _=>none,join:=fun n=>match n with | 1022=>some [(1,.plain)] | 2020=>some yF | 3018=>some Od | 4012=>some a1B | 7003=>some [(4,.plain)] | _=>none }
abbrev iH(F n:Nat){σ:Type}(e:σ→St)(K:Ex→St→Rz)(N:σ→Rz):=Qe V15 (a6w F) (bp Tryz.f15 n) e K N
abbrev z10 a b c d e f:=(.agg 6 (.segs (.cons 1 (.one (.int .i64 a)) (.cons 1 (.one (.int .i64 b)) (.cons 1 (.one (.int .i64 c)) (.cons 1 (.one (.int .i64 d)) (.cons 1 (.one (.int .u8 e)) (.cons 1 (.one (.vs (.rI .i64 f) 0 1)) .nil))))))):AV)
def XB:yO→St:=fun (a,b,c,d,e,f)=>hS [(0,(z10 a b c d e f))] [] 25 0
abbrev z3 a b c d e f:=(.cells 6 (.segs (.cons 1 (.one (.int .i64 a)) (.cons 1 (.one (.int .i64 b)) (.cons 1 (.one (.int .i64 c)) (.cons 1 (.one (.int .i64 d)) (.cons 1 (.one (.int .u8 e)) (.cons 1 (.one (.vs (.rI .i64 f) 0 1)) .nil))))))) true:Blk)
def HQ:yO→St:=fun (a,b,c,d,e,f)=>hS [pS 1 0 6] [z3 a b c d e f] 25 0
def HS:yP→St:=fun (a,b,c,d,e,f,g)=>hS [pS 1 0 6,iS 3 a] [z3 b c d e f g] 25 0
def wx:yP→St:=fun (a,b,c,d,e,f,g)=>hS [pS 1 0 6,iS 3 a,(4,.ns)] [z3 b c d e f g] 25 0
def HT:O5→St:=fun (a,b,c,d,e,f,g,h)=>hS [pS 1 0 6,iS 3 a,(4,.ns),iS 5 b] [z3 c d e f g h] 25 0
def XC:adS→St:=fun (a,b,c,d,e,f,g,h,i)=>hS [pS 1 0 6,iS 3 a,(4,.own 1 0 1),iS 5 b] [z3 c d e f g h,bB i] 25 0
def jl:Li→St:=fun a=>hS [(4,.own 0 0 1)] [bB a] 25 0
def CM(F:Nat)(a:yO→Rz):yO→Rz:=fun (b,c,d,e,f,g)=>(a (b,c,d,e,f,g))
theorem adT F Rj1:iH F 2 XB (kq V15 Rj1 [(1,.plain)] iG) (CM F (Rj1∘HQ)):=fun _=>by kernel_rfl
def CN(F:Nat)(b:yP→Rz):yO→Rz:=fun (c,d,e,a,f,g)=>(b ((if (8100:Int) < (if (0:Int) > a then (0:Int) else a) then (8100:Int) else (if (0:Int) > a then (0:Int) else a)),c,d,e,a,f,g))
theorem adU F Rj2:iH F 6 HQ (kq V15 Rj2 yF iG) (CN F (Rj2∘HS)):=fun _=>by kernel_rfl
def CO(F:Nat)(a:yP→Rz):yP→Rz:=fun (b,c,d,e,f,g,h)=>(a (b,c,d,e,f,g,h))
theorem adV F Rj3:iH F 14 HS (kq V15 Rj3 Od iG) (CO F (Rj3∘wx)):=fun _=>by kernel_rfl
def CP(F:Nat)(a:O5→Rz)(i:Li→Rz):yP→Rz:=fun (b,c,d,e,f,g,h)=>(a (b,(0:Int),c,d,e,f,g,h))
theorem adW F Rj4 Rj5:iH F 60 wx (kq V15 Rj4 a1B (kq V15 Rj5 [(4,.plain)] iG)) (CP F (Rj4∘HT) (Rj5∘jl)):=fun _=>by kernel_rfl
def wy(F:Nat)(e:adS→Rz)(f:Li→Rz):adS→Rz:=fun (c,a,g,h,i,j,d,k,b)=>(cond (decide (a < c)) (cond (decide ((b.length+1) < 1073741824)) (e (c,(IntKind.i64.wrap (a+(1:Int))),g,h,i,j,d,k,(b++[(IntKind.u8.wrap (d+(IntKind.u8.wrap a)))]))) none) (f b))
theorem adX F Rl1 Rj5:iH F 244 XC (kq V15 Rl1 a1A (ae 0 (kq V15 Rj5 [(4,.plain)] iG))) (wy F (Rl1∘XC) (Rj5∘jl)):=fun _=>by kernel_rfl
def yQ:O5→Int×Int×Int×Int×Int×Int×Int×Li×Li:=fun (a,b,c,d,e,f,g,h)=>(a,b,c,d,e,f,g,h,[])
def O6(F:Nat)(a:Li→Rz):O5→Rz:=fun v=>ay (fun k=>wy F k a) F (yQ v)
theorem adY F Rj5:iH F 122 HT (ae 0 (kq V15 Rj5 [(4,.plain)] iG)) (O6 F (Rj5∘jl)):=lpC yQ (fun k=>wy F k (Rj5∘jl)) (fun Rl1=>adX F Rl1 Rj5)
def O7(F:Nat)(a):=O6 F a
theorem adZ F Rj5:iH F 61 HT (kq V15 Rj5 [(4,.plain)] iG) (O7 F (Rj5∘jl)):=biC (adY F Rj5)
def CQ(F:Nat)(a):=CP F (O7 F a) a
theorem ad0 F Rj5:iH F 30 wx (kq V15 Rj5 [(4,.plain)] iG) (CQ F (Rj5∘jl)):=sqC (fun k=>CP F k (Rj5∘jl)) (fun Rj4=>adW F Rj4 Rj5) (adZ F Rj5)
def aeW(F:Nat):Li→Rz:=fun a=>(some ((.str a),[]))
theorem ad1 F:iH F 31 jl iG (aeW F):=fun _=>by kernel_rfl
def HU(F:Nat):=CQ F (aeW F)
theorem XD F:iH F 15 wx iG (HU F):=sqC (CQ F) (fun Rj5=>ad0 F Rj5) (ad1 F)
def HV(F:Nat):=CO F (HU F)
theorem XE F:iH F 7 HS iG (HV F):=sqC (CO F) (fun Rj3=>adV F Rj3) (XD F)
def HW(F:Nat):=CN F (HV F)
theorem XF F:iH F 3 HQ iG (HW F):=sqC (CN F) (fun Rj2=>adU F Rj2) (XE F)
def HY(F:Nat):=CM F (HW F)
theorem XG F:iH F 1 XB iG (HY F):=sqC (CM F) (fun Rj1=>adT F Rj1) (XF F)
def f15(F:Nat):yO→Rz:=HY F
def r15:aB:=fun X H=>match X,H with
 | [(.agg 6 (.segs (.cons 1 (.one (.int .i64 a0_0)) (.cons 1 (.one (.int .i64 a0_1)) (.cons 1 (.one (.int .i64 a0_2)) (.cons 1 (.one (.int .i64 a0_3)) (.cons 1 (.one (.int .u8 a0_4)) (.cons 1 (.one (.vs (.rI .i64 a0_5) 0 1)) .nil))))))))],[]=>some (true,(.str (Jr.text a0_3 a0_4)),[])
 | _,_=>none
theorem s15(a0_0 a0_1:Int)(a0_2 a0_3 a0_4:Int)(a0_5:Li)(h0:okV (.agg 6 (.segs (.cons 1 (.one (.int .i64 a0_0)) (.cons 1 (.one (.int .i64 a0_1)) (.cons 1 (.one (.int .i64 a0_2)) (.cons 1 (.one (.int .i64 a0_3)) (.cons 1 (.one (.int .u8 a0_4)) (.cons 1 (.one (.vs (.rI .i64 a0_5) 0 1)) .nil))))))))):∃ F,f15 F (a0_0,a0_1,a0_2,a0_3,a0_4,a0_5)=some ((.str (Jr.text a0_3 a0_4)),[]):=by
 have hN:=Jr.textN_le a0_3
 obtain⟨F,hF⟩:∃ F,F=8200:=⟨_,rfl⟩
 refine⟨F,?_⟩
 simp only [f15,HY,CM,HW,CN,HV,CO,HU,CQ,CP,O7,O6,yQ]
 refine aH (fun i=>(Jr.textN a0_3,(i:Int),a0_0,a0_1,a0_2,a0_3,a0_4,a0_5,(List.range i).map fun k:Nat=>IntKind.u8.wrap (a0_4+IntKind.u8.wrap (k:Int)))) (Jr.textN a0_3).toNat rfl (fun i hi q=>?_) (fun q=>?_) F (by omega)
 ·simp only [wy]
  rw [aa (by omega),aa (by rw [List.length_map,List.length_range];omega),ah (by omega) (by omega),List.range_succ,List.map_append]
  rfl
 ·simp only [wy]
  rw [ad (by omega)]
  rfl
theorem c15:Ck 15 r15:=ck a6v Tryz.func15 (by
 intro X H r H' h hX hH
 unfold r15 at h;split at h <;> try contradiction
 ·obtain⟨hp,rfl,rfl⟩:=aJ h
  obtain⟨F,hF⟩:=s15 _ _ _ _ _ _ (hX _ hm0)
  exact⟨_,abC (XG F) hF⟩)
end Go.Am
end
section
/- A journal on a disk whose power fails while a record is appended. -/
namespace Go.Jr
open Go Go.Am Go.Dk
def txt(l:RL)(k:Nat):List Int:=text (((l.getD k []).getD 3 []).getD 0 0) (((l.getD k []).getD 4 []).getD 0 0)
def filled(n:Int)(l:RL):Nat→D×J×List Li
 | 0=>(new n,openS (secsD (new n)),[])
 | k+1=>((append DV (filled n l k).1 (filled n l k).2.1 (txt l k)).1,(append DV (filled n l k).1 (filled n l k).2.1 (txt l k)).2.1,
   cond ((append DV (filled n l k).1 (filled n l k).2.1 (txt l k)).2.2.2==0) ((filled n l k).2.2++[txt l k]) (filled n l k).2.2)
def genuine1(ts:List Li)(s:Li):Bool:=!(unpack s).ok || (decide ((unpack s).number≤(ts.length:Int))&&((pack (unpack s).number (ts.getD ((unpack s).number-1).toNat [])).2==0 &&
 (decide ((unpack s).part < ((pack (unpack s).number (ts.getD ((unpack s).number-1).toNat [])).1.length:Int))&&((pack (unpack s).number (ts.getD ((unpack s).number-1).toNat [])).1.getD (unpack s).part.toNat []==s))))
def genuine(img ts:List Li):Bool:=img.all (genuine1 ts)
def shortT(ts:List Li):Bool:=ts.all fun t=>decide (t.length < 10000)
structure Whole (d:D) (r:R) (j:J) (gs:List Seg):Prop where
 both:Both d r j gs
 full:∀ g∈gs,g.full=true
 fresh:∀ i,i < r.s.length→fW (r.s.getD i [])=false
theorem Whole.texts{d:D}{r:R}{j:J}{gs:List Seg}(h:Whole d r j gs):j.nums=gs.map Seg.num∧j.texts=gs.map Seg.text:=by
 have e:gs.filter Seg.full=gs:=List.filter_eq_self.2 h.full
 have:=h.both.inv.found
 rw [e] at this;exact this
theorem fill_ok{n:Int}(h0:0 < n)(h1:n < 4000)(l:RL):∀ k,k < 4000 → ∃ r gs,Whole (filled n l k).1 r (filled n l k).2.1 gs∧gs.length≤k∧(filled n l k).1.n=n.toNat∧(filled n l k).2.2=(filled n l k).2.1.texts
 | 0,_=>by
  have h:=U4 (n:=n) h0 (by omega)
  refine⟨js n,[],⟨h.both,fun g hg=>(by cases hg),fun i hi=>by rw [so hi];rfl⟩,Nat.le_refl _,rfl,?_⟩
  exact h.both.inv.found.2.symm
 | k+1,hk=>by
  obtain⟨r,gs,hg,hl,hn,ht⟩:=fill_ok h0 h1 l k (by omega)
  obtain⟨e,q⟩:=dq oH hg.both.rel (filled n l k).2.1 (txt l k)
  obtain⟨gs',a1,a2,a3,a4,a5,a6⟩:=hg.both.inv.any (by omega) (txt l k)
  obtain⟨a6,a7⟩:=a6 hg.fresh hg.full
  rw [← e] at a1 a5
  refine⟨_,gs',⟨⟨q,a1⟩,a6,fun i hi=>?_⟩,by omega,?_,?_⟩
  ·rw [a3] at hi;rw [a4 i hi];exact hg.fresh i hi
  ·show(append DV (filled n l k).1 (filled n l k).2.1 (txt l k)).1.n=_
   rw [← q.1.n,a3,hg.both.n,hn]
  ·show cond ((append DV (filled n l k).1 (filled n l k).2.1 (txt l k)).2.2.2==0) ((filled n l k).2.2++[txt l k]) (filled n l k).2.2=(append DV (filled n l k).1 (filled n l k).2.1 (txt l k)).2.1.texts
   rcases a5 with ⟨b1,b2,b3,b4⟩ | ⟨b1,b2,b3⟩
   ·rw [b1,b4,ht];rfl
   ·rw [b3,ht]
    rcases b1 with b | b | b <;> rw [b] <;> rfl
def bW(A:Li)(p:Nat):List Int:=A.take p++zero.drop p
def yR(t:Li)(k:Nat):List Int:=Jr.fill (rest t k)
theorem HZ{n:Int}{t:List Int}{k:Nat}(h0:0≤n)(h1:n < 256)(hk:k < 256):∃ (b c:Int) (tl:Li),sector n t k=n :: 0 :: 0 :: 0 :: (k:Int) :: 0 :: b :: c :: tl:=by
 have e1:n%256=n:=by omega
 have e2:n / 256=0:=by omega
 have e3:(k:Int)%256=k:=by omega
 have e4:(k:Int) / 256=0:=by omega
 have e:sector n t k=n :: 0 :: 0 :: 0 :: (k:Int) :: 0 :: (((rest t k).length:Int)%256) :: (((rest t k).length:Int) / 256%256) :: (yR t k++(Sha.hash (front n t k)).take 8):=by
  simp only [sector,checked]
  rw [show front n t k++(Sha.hash (front n t k)).take 8=(small n 4++small (k:Int) 2++small ((rest t k).length:Int) 2)++(yR t k++(Sha.hash (front n t k)).take 8) by rw [← List.append_assoc];rfl]
  generalize yR t k++(Sha.hash (front n t k)).take 8=tl
  simp only [mE,vN,List.cons_append,List.nil_append,e1,e2,e3,e4]
  rfl
 exact⟨_,_,_,e⟩
theorem XH{A:List Int}{n k b c:Int}{tl:List Int}(hA:A=n :: 0 :: 0 :: 0 :: k :: 0 :: b :: c :: tl):∀ p,1≤p→fNum (bW A p)=n∧(5≤p→fPart (bW A p)=k)∧(p≤4→fPart (bW A p)=0∧fLeft (bW A p)=0)
 | 0,h=>by omega
 | 1,_=>by subst hA;exact⟨by simp [bW,fNum,num,List.replicate_succ],fun h=>by omega,fun _=>⟨by simp [bW,fPart,num,List.replicate_succ],by simp [bW,fLeft,num,List.replicate_succ]⟩⟩
 | 2,_=>by subst hA;exact⟨by simp [bW,fNum,num,List.replicate_succ],fun h=>by omega,fun _=>⟨by simp [bW,fPart,num,List.replicate_succ],by simp [bW,fLeft,num,List.replicate_succ]⟩⟩
 | 3,_=>by subst hA;exact⟨by simp [bW,fNum,num,List.replicate_succ],fun h=>by omega,fun _=>⟨by simp [bW,fPart,num,List.replicate_succ],by simp [bW,fLeft,num,List.replicate_succ]⟩⟩
 | 4,_=>by subst hA;exact⟨by simp [bW,fNum,num,List.replicate_succ],fun h=>by omega,fun _=>⟨by simp [bW,fPart,num,List.replicate_succ],by simp [bW,fLeft,num,List.replicate_succ]⟩⟩
 | 5,_=>by subst hA;exact⟨by simp [bW,fNum,num,List.replicate_succ],fun _=>by simp [bW,fPart,num,List.replicate_succ],fun h=>by omega⟩
 | p+6,_=>by
  subst hA
  refine⟨by simp [bW,fNum,num],fun _=>by simp [bW,fPart,num],fun h=>by omega⟩
theorem H4{n:Int}{t:List Int}{k p:Nat}{ts:List Li}(h1:1≤n)(h2:n < 256)(ht:t.length≤8000)(hk:(k:Int) < count t.length)(hl:ts.getD (n-1).toNat []=t)(hg:genuine1 ts (bW (sector n t k) p)=true):
  (unpack (bW (sector n t k) p)).ok=false∨bW (sector n t k) p=sector n t k:=by
 obtain⟨c1,c2,c3,c4,c5⟩:=count_ok ht
 cases hok:(unpack (bW (sector n t k) p)).ok with
 | false=>exact .inl rfl
 | true=>
  right
  by_cases hp:p=0
  ·subst hp
   rw [show bW (sector n t k) 0=zero from rfl,iE] at hok
   cases hok
  obtain⟨b,c,tl,hA⟩:=HZ (n:=n) (t:=t) (k:=k) (by omega) h2 (by omega)
  obtain⟨n1,n2,n3⟩:=XH hA p (by omega)
  have hu:unpack (bW (sector n t k) p)=⟨fNum (bW (sector n t k) p),fPart (bW (sector n t k) p),fLeft (bW (sector n t k) p),((bW (sector n t k) p).drop 8).take (fN (bW (sector n t k) p)),true⟩:=by
   unfold unpack at hok ⊢
   cases hgd:cd (bW (sector n t k) p) with
   | true=>rfl
   | false=>rw [hgd] at hok;cases hok
  have hpk:pack n t=(sectors n t,0):=by
   unfold pack
   rw [ad (by omega),ad (by omega)]
  rw [genuine1,hok] at hg
  simp only [Bool.not_true,Bool.false_or,Bool.and_eq_true,decide_eq_true_eq,beq_iff_eq] at hg
  rw [hu] at hg
  simp only [n1,hl,hpk] at hg
  obtain⟨_,_,g3,g4⟩:=hg
  rw [sectors_len] at g3
  by_cases hp5:5≤p
  ·rw [n2 hp5] at g4
   rw [show((k:Int)).toNat=k from rfl,ee (by omega)] at g4
   exact g4.symm
  ·obtain⟨m1,m2⟩:=n3 (by omega)
   rw [m1,show(0:Int).toNat=0 from rfl,ee (by omega)] at g4
   by_cases hk0:k=0
   ·subst hk0;exact g4.symm
   ·have hus:=cf h1 (by omega) ht (k:=0) (by omega)
    rw [g4,hu] at hus
    have:=congrArg Part.left hus
    simp only [m2] at this
    have:t.length=0:=by omega
    have h0:count t.length=1:=by rw [this];rfl
    omega
theorem wz{r:R}(ho:r.off=false)(a:Int)(L:List Li):∀ k,(writes RV a L k r).2=0→(writes RV a L k r).1.off=false
 | 0,_=>ho
 | k+1,h=>by
  rw [writes] at h ⊢
  cases he:((writes RV a L k r).2 != 0) with
  | true=>rw [he] at h;rw [cond_true] at h;rw [h] at he;cases he
  | false=>
   rw [he] at h
   simp only [cond_false] at h ⊢
   have ih:=wz ho a L k (by simpa using he)
   generalize (writes RV a L k r).1=q at *
   show(bX q (a+k) (L.getD k [])).1.off=false
   have h:(bX q (a+k) (L.getD k [])).2=0:=h
   simp only [bX,ih] at h ⊢
   cases hi:ris q (a+k)
   ·exact ih
   ·rw [hi] at h
    cases h64:(((L.getD k []).length:Int) != 64)
    ·rw [h64] at h
     cases hs:((rstep q).2 != 0)
     ·rw [hs] at h
      simp only [Bool.not_true,cond_false]
      unfold rstep at hs ⊢
      cases hz:(q.left==0)
      ·cases decide (q.left > 0) <;> exact ih
      ·rw [hz] at hs;cases hs
     ·rw [hs] at h
      simp only [Bool.not_true,cond_false,cond_true] at h
      rw [h] at hs;cases hs
    ·exact ih
theorem XI{r0 r:R}{a w:Nat}{L:List Li}(h:Pnd r0 r a w L)(picks:Li)(hz:∀ i,i < r0.s.length→a≤i→fT (r0.s.getD i [])=zero)(hw:∀ i,i < r0.s.length→fW (r0.s.getD i [])=false):
  (∀ i,i < r0.s.length→i < a∨a+w≤i→fT ((bD r picks).s.getD i [])=fT (r0.s.getD i [])) ∧ ∀ i,i < r0.s.length→a≤i→i < a+w → ∃ p,fT ((bD r picks).s.getD i [])=bW (L.getD (i-a) []) p:=by
 have hl:=h.len
 constructor
 ·intro i hi hc
  rw [mG picks (by omega),h.dirty i (by omega),if_neg (by rw [decide_eq_true_iff];omega),h.text i (by omega)]
 ·intro i hi h1 h2
  refine⟨clamp (picks.getD (b8 fD r.s i).length 64),?_⟩
  rw [mG picks (by omega),h.dirty i (by omega),if_pos (by rw [decide_eq_true_iff];omega)]
  simp only [settled]
  rw [h.worn i (by omega),hw i hi,Bool.not_false,cond_true,h.next i (by omega) h1 h2,h.text i (by omega),hz i hi h1]
  rfl
end Go.Jr
end
section
/- What Open finds after the power failed while a record was appended. -/
namespace Go.Jr
open Go Go.Am Go.Dk
theorem Whole.again{d:D}{r:R}{j:J}{gs:List Seg}(h:Whole d r j gs)(hm:gs.length < 4096):Whole d r (openS (secsD d)) gs:=
 ⟨⟨h.both.rel,by rw [h.both.secs];exact h.both.inv.again hm h.full⟩,h.full,h.fresh⟩
theorem Whole.damaged{d:D}{r:R}{j:J}{gs:List Seg}(h:Whole d r j gs):Jr.damaged j=[]:=by
 rw [Jr.damaged,List.map_eq_nil_iff,List.filter_eq_nil_iff]
 intro i hi
 rw [List.mem_range,h.both.inv.next] at hi
 have:j.nums.contains ((i:Int)+1)=true:=by
  rw [List.contains_iff_mem,h.texts.1,h.both.inv.nums]
  exact List.mem_map.2 ⟨i,by rw [List.mem_range];omega,rfl⟩
 rw [this];decide
theorem grow{d:D}{r:R}{j:J}{gs:List Seg}(h:Whole d r j gs)(hm:gs.length < 4096){t:List Int}(ht:t.length≤8000)(hr:count t.length≤(r.s.length:Int)-j.fin){s2:List (List Li)}(hl:s2.length=r.s.length)
  (old:∀ i,i < r.s.length→i < (gs.flatMap Seg.L).length∨(gs.flatMap Seg.L).length+(count t.length).toNat≤i→fT (s2.getD i [])=fT (r.s.getD i []))
  (new:∀ i,i < (count t.length).toNat→fT (s2.getD ((gs.flatMap Seg.L).length+i) [])=sector j.next t i∨(unpack (fT (s2.getD ((gs.flatMap Seg.L).length+i) []))).ok=false) :
  (openS (s2.map fT)).texts=j.texts++[t]∨((openS (s2.map fT)).texts=j.texts∧¬ ∀ i,i < (count t.length).toNat→fT (s2.getD ((gs.flatMap Seg.L).length+i) [])=sector j.next t i):=by
 obtain⟨c1,c2,c3,c4,c5⟩:=count_ok ht
 have hI:=h.both.inv
 have hnext:=hI.next
 have hfin:=hI.fin
 generalize ha:(gs.flatMap Seg.L).length=a at *
 generalize hc:(count t.length).toNat=m at *
 let g:Seg:=⟨j.next,t,(List.range m).map fun i=>fT (s2.getD (a+i) [])⟩
 have gl:g.L.length=m:=by simp [g]
 have ga:∀ i,i < m→g.L.getD i []=fT (s2.getD (a+i) []):=fun i hi=>by
  simp [g,List.getD_eq_getElem?_getD,List.getElem?_map,List.getElem?_range hi]
 have hg:g.Ok:=⟨by show 1≤j.next;omega,by show j.next≤4096;omega,ht,by rw [gl];exact hc.symm,fun i hi=>by rw [ga i (by omega)];exact new i (by omega)⟩
 have hflat:((gs++[g]).flatMap Seg.L).length=a+m:=by
  rw [List.flatMap_append,List.length_append,ha,List.flatMap_cons,List.flatMap_nil,List.append_nil,gl]
 have holds:s2.map fT=(gs++[g]).flatMap Seg.L++List.replicate (s2.length-((gs++[g]).flatMap Seg.L).length) zero:=by
  apply List.ext_getElem?
  intro i
  rw [hflat,hl,List.flatMap_append,List.flatMap_cons,List.flatMap_nil,List.append_nil]
  by_cases hi:i < r.s.length
  ·have hiq:i < s2.length:=by omega
   have e1:(s2.map fT)[i]?=some (fT (s2.getD i [])):=by
    rw [List.getElem?_map,List.getElem?_eq_getElem hiq,List.getD_eq_getElem?_getD,List.getElem?_eq_getElem hiq];rfl
   rw [e1]
   by_cases h1:i < a
   ·rw [List.append_assoc,List.getElem?_append_left (by omega),old i hi (.inl h1),hI.at_ hi,List.getD_eq_getElem?_getD,List.getElem?_append_left (by omega),List.getElem?_eq_getElem (by omega)]
    rfl
   ·by_cases h2:i < a+m
    ·rw [List.append_assoc,List.getElem?_append_right (by omega),List.getElem?_append_left (by omega),ha]
     have:=ga (i-a) (by omega)
     rw [show a+(i-a)=i by omega] at this
     rw [← this,List.getD_eq_getElem?_getD,List.getElem?_eq_getElem (by omega)]
     rfl
    ·rw [List.getElem?_append_right (by rw [List.length_append];omega),List.getElem?_replicate,if_pos (by rw [List.length_append];omega),old i hi (.inr (by omega)),hI.free (by omega) hi]
  ·rw [List.getElem?_eq_none (by rw [List.length_map];omega),List.getElem?_eq_none (by simp only [List.length_append,List.length_replicate];omega)]
 have hnum:(gs++[g]).map Seg.num=(List.range (gs++[g]).length).map fun i:Nat=>(i:Int)+1:=by
  rw [List.map_append,hI.nums,List.length_append,List.length_singleton,List.range_succ,List.map_append]
  show _++[j.next]=_++[((gs.length:Nat):Int)+1]
  rw [hnext]
 have hnd:((gs++[g]).map Seg.num).Nodup:=by
  rw [hnum,List.nodup_iff_pairwise_ne,List.pairwise_map]
  exact(List.nodup_range (n:=(gs++[g]).length)).imp fun hne=>by omega
 have hoks:∀ x∈gs++[g],x.Ok:=fun x hx=>by
  rcases List.mem_append.1 hx with hx | hx
  ·exact hI.oks x hx
  ·rw [List.mem_singleton] at hx;rw [hx];exact hg
 have hseg:=(mH (oV (s2.length-((gs++[g]).flatMap Seg.L).length)) hoks hnd).2
 rw [← holds] at hseg
 rw [hseg,List.filter_append,List.map_append,List.filter_eq_self.2 h.full,← h.texts.2]
 cases hf:g.full with
 | true=>left;simp [hf];rfl
 | false=>
  right
  refine⟨by simp [hf],fun hall=>?_⟩
  obtain⟨i,hi,hb⟩:=hg.spoiled hf
  rw [ga i (by omega),hall i (by omega),cf (by omega) (by omega) ht (by omega)] at hb
  cases hb
theorem aZF{s2:List (List Li)}{ts:List Li}(h:genuine (s2.map fT) ts=true){i:Nat}(hi:i < s2.length):genuine1 ts (fT (s2.getD i []))=true:=by
 rw [genuine,List.all_eq_true] at h
 apply h
 rw [List.getD_eq_getElem?_getD,List.getElem?_eq_getElem hi]
 exact List.mem_map.2 ⟨_,List.getElem_mem hi,rfl⟩
theorem survive{d:D}{r:R}{j:J}{gs:List Seg}(h:Whole d r j gs)(hm:gs.length≤12){tr:Int}(h0:0≤tr)(h1:tr≤255)(t picks:Li):
  ∃ r1 r2,DR (trip d tr) r1∧DR (append DV (trip d tr) j t).1 r2∧Rel (mount (append DV (trip d tr) j t).1 picks) (bD r2 picks)∧r2.s.length=d.n ∧
   (genuine (image (mount (append DV (trip d tr) j t).1 picks)) (j.texts++[t])=true →
    (openS (secsD (mount (append DV (trip d tr) j t).1 picks))).texts=j.texts++[t]∨((append DV (trip d tr) j t).2.2.2≠0∧(openS (secsD (mount (append DV (trip d tr) j t).1 picks))).texts=j.texts)):=by
 have hI:=h.both.inv
 have hR1:Rel (trip d tr) (bI r tr):=h.both.rel.1.trip tr (by omega) (by omega)
 have hD1:DR (trip d tr) (bI r tr):=⟨hR1,h.both.rel.2⟩
 obtain⟨e,q⟩:=dq oH hD1 j t
 have hM:=q.1.mount picks
 have hrn:=h.both.n
 have hs1:(bI r tr).s=r.s:=rfl
 have ho1:(bI r tr).off=false:=hI.on
 have hc1:Clean (bI r tr):=⟨hR1.good,hI.clean.none⟩
 have hcont:secsD (mount (append DV (trip d tr) j t).1 picks)=(bD (append RV (bI r tr) j t).1 picks).s.map fT:=by
  rw [km hM]
  exact jD ⟨hM.good,fun i hi=>Ix picks (by rw [rmount_len] at hi;exact hi)⟩ rfl
 have himg:image (mount (append DV (trip d tr) j t).1 picks)=(bD (append RV (bI r tr) j t).1 picks).s.map fT:=by rw [hM.image];rfl
 have hlen2:(append RV (bI r tr) j t).1.s.length=r.s.length→_:=fun h=>h
 refine⟨_,_,hD1,q,hM,?_,?_⟩
 ·rw [q.1.n]
  have hw:∀ k,(writes DV j.fin (sectors j.next t) k (trip d tr)).1.n=d.n:=fun k=>by
   induction k with
   | zero=>rfl
   | succ k ih=>
    rw [writes]
    cases ((writes DV j.fin (sectors j.next t) k (trip d tr)).2 != 0)
    ·exact(Jk _ _ _).trans ih
    ·exact ih
  have hall:(writeAll DV (trip d tr) j.fin (sectors j.next t)).1.n=d.n:=by
   rw [writeAll]
   cases ((writes DV j.fin (sectors j.next t) (sectors j.next t).length (trip d tr)).2 != 0)
   ·cases ((DV.flush (writes DV j.fin (sectors j.next t) (sectors j.next t).length (trip d tr)).1).2 != 0)
    ·exact(yr _).trans (hw _)
    ·exact(yr _).trans (hw _)
   ·exact hw _
  simp only [Jr.append]
  cases j.closed
  ·cases decide ((8000:Int) < t.length)
   ·cases decide (j.next > 4096)
    ·cases decide (count t.length > DV.n (trip d tr)-j.fin)
     ·cases ((writeAll DV (trip d tr) j.fin (sectors j.next t)).2.1 != 0)
      ·cases (!(writeAll DV (trip d tr) j.fin (sectors j.next t)).2.2) <;> exact hall
      ·exact hall
     ·rfl
    ·rfl
   ·rfl
  ·rfl
 rw [hcont,himg,e]
 have hsame:(openS ((bD (bI r tr) picks).s.map fT)).texts=j.texts:=by
  have:=oG picks hc1.none
  rw [show(bD (bI r tr) picks).s.map fT=dn (bD (bI r tr) picks) from rfl,this]
  show(openS (r.s.map fT)).texts=j.texts
  rw [← jD hI.clean hI.on]
  exact hI.reopen.2
 by_cases hlong:8000 < t.length∨4096 < j.next
 ·rw [qL hI.opened hlong]
  intro _
  exact .inr ⟨(show(4:Int)≠0 by decide),hsame⟩
 by_cases hfull:count t.length > (r.s.length:Int)-j.fin
 ·rw [qM (V:=RV) (d:=bI r tr) (j:=j) (t:=t) hI.opened (by omega) (by omega) hfull]
  intro _
  exact .inr ⟨(show(21:Int)≠0 by decide),hsame⟩
 have ht:t.length≤8000:=by omega
 obtain⟨c1,c2,c3,c4,c5⟩:=count_ok ht
 have hnext:=hI.next
 have hfin:=hI.fin
 have hgrow:=fun {s2}=>grow h (by omega) (t:=t) ht (by omega) (s2:=s2)
 have hLl:(sectors j.next t).length=(count t.length).toNat:=sectors_len _ _
 have hL:∀ i,i < (sectors j.next t).length→(sectors j.next t).getD i []=sector j.next t i:=fun i hi=>ee (by omega)
 have hfree:=fun i=>hI.free (i:=i)
 have happ:=qN (V:=RV) (d:=bI r tr) (j:=j) (t:=t) hI.opened (by omega) (by omega) (show count t.length≤((bI r tr).s.length:Int)-j.fin by rw [hs1];omega)
 rw [hfin] at happ
 have hroom:=hI.room
 generalize ha:(gs.flatMap Seg.L).length=a at *
 have hroom':a+(sectors j.next t).length≤(bI r tr).s.length:=by rw [hs1];omega
 obtain⟨⟨w,w1,w2,w3⟩,_⟩:=oU (Pnd.start hc1 a (sectors j.next t)) hroom' (fun i hi=>by rw [hL i hi,sector_len]) (sectors j.next t).length (Nat.le_refl _)
 have hts:(j.texts++[t]).getD (j.next-1).toNat []=t:=by
  have:j.texts.length=gs.length:=by rw [h.texts.2,List.length_map]
  rw [hnext,show((gs.length:Int)+1-1).toNat=j.texts.length by omega,List.getD_eq_getElem?_getD,List.getElem?_append_right (Nat.le_refl _),Nat.sub_self];rfl
 have hoff:∀ x:R,Pnd (bI r tr) x a w (sectors j.next t)→genuine ((bD x picks).s.map fT) (j.texts++[t])=true→(openS ((bD x picks).s.map fT)).texts=j.texts++[t]∨(openS ((bD x picks).s.map fT)).texts=j.texts:=by
  intro x hx hgen
  obtain⟨m1,m2⟩:=XI hx picks (fun i hi h1=>hfree i h1 hi) h.fresh
  have hxl:(bD x picks).s.length=r.s.length:=by rw [rmount_len,hx.len];rfl
  have:=hgrow (s2:=(bD x picks).s) hxl (fun i hi hc=>m1 i hi (by omega)) (fun i hi=>by
   by_cases hiw:i < w
   ·obtain⟨p,hp⟩:=m2 (a+i) (by rw [hs1];omega) (by omega) (by omega)
    rw [Nat.add_sub_cancel_left,hL i (by omega)] at hp
    have hg1:=aZF hgen (i:=a+i) (by omega)
    rw [hp] at hg1 ⊢
    exact(H4 (by omega) (by omega) ht (by omega) hts hg1).symm
   ·right
    rw [m1 (a+i) (by rw [hs1];omega) (by omega),show(bI r tr).s=r.s from rfl,hfree (a+i) (by omega) (by omega)]
    exact iE)
  rcases this with h | h
  ·exact .inl h
  ·exact .inr h.1
 generalize hq:writes RV (a:Int) (sectors j.next t) (sectors j.next t).length (bI r tr)=Q at *
 have hfl:RV.flush=aO:=rfl
 by_cases hQ:Q.2=0
 ·have hqo:Q.1.off=false:=by rw [← hq];exact wz ho1 _ _ _ (by rw [hq];exact hQ)
  by_cases hst:(rstep Q.1).2=0
  ·-- all of it is written
   obtain rfl:=w3 hQ
   obtain⟨f1,f2,f3,f4,f5,f6⟩:=G5 w2 hqo hst
   have hr2:=kX f2 (f4.trans hqo) (a:=a) (L:=sectors j.next t) (sectors j.next t).length (by rw [f3];exact hroom')
   have hW:writeAll RV (bI r tr) (a:Int) (sectors j.next t)=((aO Q.1).1,0,(reads RV (aO Q.1).1 a (sectors j.next t) (sectors j.next t).length).1):=by
    rw [writeAll,hq,hQ,hfl,f1,hr2];rfl
   have hnew:∀ i,i < (sectors j.next t).length→fT ((aO Q.1).1.s.getD (a+i) [])=sector j.next t i:=fun i hi=>by
    rw [(f6 (a+i) (by rw [hs1];rw [hs1] at hroom';omega)).2,if_pos ⟨by omega,by omega,h.fresh (a+i) (by rw [hs1] at hroom';omega)⟩,Nat.add_sub_cancel_left,hL i hi]
   have hm2:=oG picks f2.none
   have hmap:(bD (aO Q.1).1 picks).s.map fT=(aO Q.1).1.s.map fT:=hm2
   have hg2:=hgrow (s2:=(aO Q.1).1.s) (f3.trans rfl) (fun i hi hc=>by
    rw [(f6 i (by rw [hs1];exact hi)).2,if_neg (by omega)];rfl) (fun i hi=>.inl (hnew i (by omega)))
   intro _
   left
   have e1:(append RV (bI r tr) j t).1=(aO Q.1).1:=by
    rw [happ,hW]
    cases (reads RV (aO Q.1).1 a (sectors j.next t) (sectors j.next t).length).1 <;> rfl
   rw [e1,hmap]
   rcases hg2 with h | h
   ·exact h
   ·exact absurd (fun i hi=>hnew i (by omega)) h.2
  ·-- the power fails when all is pending
   have hrf:aO Q.1=((rstep Q.1).1,(rstep Q.1).2):=by
    simp only [aO,hqo,cond_false]
    rw [show((rstep Q.1).2 != 0)=true by simpa using hst];rfl
   have hW:writeAll RV (bI r tr) (a:Int) (sectors j.next t)=((rstep Q.1).1,(rstep Q.1).2,false):=by
    rw [writeAll,hq,hQ,hfl,hrf]
    simp only [bne_self_eq_false,cond_false]
    rw [show((rstep Q.1).2 != 0)=true by simpa using hst];rfl
   intro hgen
   have e1:(append RV (bI r tr) j t).1=(rstep Q.1).1∧(append RV (bI r tr) j t).2.2.2=(rstep Q.1).2:=by
    rw [happ,hW]
    simp only
    rw [show((rstep Q.1).2 != 0)=true by simpa using hst];exact⟨rfl,rfl⟩
   rw [e1.1] at hgen ⊢
   rw [e1.2]
   rcases hoff _ w2.step hgen with h | h
   ·exact .inl h
   ·exact .inr ⟨hst,h⟩
 ·have hW:writeAll RV (bI r tr) (a:Int) (sectors j.next t)=(Q.1,Q.2,false):=by
   rw [writeAll,hq,show(Q.2 != 0)=true by simpa using hQ];rfl
  intro hgen
  have e1:(append RV (bI r tr) j t).1=Q.1∧(append RV (bI r tr) j t).2.2.2=Q.2:=by
   rw [happ,hW]
   simp only
   rw [show(Q.2 != 0)=true by simpa using hQ];exact⟨rfl,rfl⟩
  rw [e1.1] at hgen ⊢
  rw [e1.2]
  rcases hoff _ w2 hgen with h | h
  ·exact .inl h
  ·exact .inr ⟨hQ,h⟩
theorem unpack_lo(s:Li)(hb:∀ x∈s,0≤x)(h:(unpack s).ok=true):1≤(unpack s).number∧(unpack s).number≤4096∧0≤(unpack s).part:=by
 unfold unpack at h ⊢
 cases hg:cd s with
 | false=>rw [hg] at h;cases h
 | true=>
  have hn:∀ (b:Li),(∀ x∈b,0≤x)→0≤num b:=fun b=>by
   induction b with
   | nil=>intro _;exact Int.le_refl _
   | cons x b ih=>
    intro hx
    rw [num_cons]
    have:=ih fun y hy=>hx y (.tail _ hy)
    have:=hx x (.head _)
    omega
  simp only [cd,Bool.and_eq_true,decide_eq_true_eq] at hg
  have h2:=hn ((s.drop 4).take 2) fun x hx=>hb x (List.mem_of_mem_drop (List.mem_of_mem_take hx))
  exact⟨hg.1.2.1,hg.1.2.2.1,h2⟩
theorem genuine_step{img ts:List Li}{k:Nat}(h:k < img.length)(hb:(img.take k).all (genuine1 ts)=true):(img.take (k+1)).all (genuine1 ts)=genuine1 ts (img.getD k []):=by
 rw [List.take_add_one,List.all_append,hb,List.getElem?_eq_getElem h,List.getD_eq_getElem?_getD,List.getElem?_eq_getElem h]
 simp
theorem not_genuine{img ts:List Li}{k:Nat}(h:k < img.length)(hb:genuine1 ts (img.getD k [])=false):genuine img ts=false:=by
 rw [genuine,← Bool.not_eq_true,List.all_eq_true]
 intro hall
 have:=hall img[k] (List.getElem_mem h)
 rw [List.getD_eq_getElem?_getD,List.getElem?_eq_getElem h] at hb
 rw [show genuine1 ts img[k]=false from hb] at this;cases this
theorem Whole.lens{d:D}{r:R}{j:J}{gs:List Seg}(h:Whole d r j gs):j.texts.length=gs.length∧j.nums.length=gs.length ∧ ∀ t∈j.texts,t.length≤8000:=by
 refine⟨by rw [h.texts.2,List.length_map],by rw [h.texts.1,List.length_map],fun t ht=>?_⟩
 rw [h.texts.2] at ht
 obtain⟨g,hg,rfl⟩:=List.mem_map.1 ht
 exact(h.both.inv.oks g hg).text
end Go.Jr
end