/- Part of a proof. -/
import Derived.Test.YtffddoahjpemaaaGreatDoorAmJrn11
import Derived.KernelRfl
import Derived.Test.YtffddoahjpemaaaGreatDoorAm36ZI
import Derived.Test.YtffddoahjpemaaaGreatDoorAm36ZJ
import Derived.Test.YtffddoahjpemaaaGreatDoorAm36ZD
import Derived.Test.YtffddoahjpemaaaGreatDoorAmJrn7
set_option linter.unusedSimpArgs false
set_option linter.unusedVariables false
section
/- The example of the statements about the journal, evaluated on the specification's disk. -/
namespace Go.Jr
open Go Go.Am Go.Dk
abbrev aEC:List Int:=repeat_ [120] 50
abbrev zs:List Int:=List.replicate 64 0
abbrev sc(t:Li):List Li:=[t,[],[0],[0]]
def x1:List Int:=[1,0,0,0,0,0,1,0,97,0,0,0,0,0,0,0,0,0,0,0,0,0,0,0,0,0,0,0,0,0,0,0,0,0,0,0,0,0,0,0,0,0,0,0,0,0,0,0,0,0,0,0,0,0,0,0,84,154,118,26,131,73,143,214]
def x2:List Int:=[2,0,0,0,0,0,50,0,120,120,120,120,120,120,120,120,120,120,120,120,120,120,120,120,120,120,120,120,120,120,120,120,120,120,120,120,120,120,120,120,120,120,120,120,120,120,120,120,120,120,120,120,120,120,120,120,172,130,184,27,18,198,7,61]
def x3:List Int:=[2,0,0,0,1,0,2,0,120,120,0,0,0,0,0,0,0,0,0,0,0,0,0,0,0,0,0,0,0,0,0,0,0,0,0,0,0,0,0,0,0,0,0,0,0,0,0,0,0,0,0,0,0,0,0,0,208,101,239,173,36,191,246,241]
def x4:List Int:=[3,0,0,0,0,0,1,0,98,0,0,0,0,0,0,0,0,0,0,0,0,0,0,0,0,0,0,0,0,0,0,0,0,0,0,0,0,0,0,0,0,0,0,0,0,0,0,0,0,0,0,0,0,0,0,0,57,239,201,0,98,120,49,119]
def xt:List Int:=x2.set 8 56
def R1:R:=⟨[sc x1,sc zs,sc zs,sc zs],false,-1⟩
def R2:R:=⟨[sc x1,sc x2,sc x3,sc zs],false,-1⟩
def R3:R:=⟨[sc x1,sc xt,sc x3,sc zs],false,-1⟩
def R4:R:=⟨[sc x1,sc xt,sc x3,sc x4],false,-1⟩
def j0:J:=⟨[],[],[],1,0,false⟩
def j1:J:=⟨[1],[[97]],[],2,1,false⟩
def j2:J:=⟨[1,2],[[97],aEC],[],3,3,false⟩
def j3:J:=⟨[1],[[97]],[1],3,3,false⟩
def j4:J:=⟨[1,3],[[97],[98]],[1],4,4,false⟩
theorem t0:openS (secsR (rnew 4))=j0:=by kernel_rfl
theorem t1:append RV (rnew 4) j0 [97]=(R1,j1,1,0):=by kernel_rfl
theorem t2:append RV R1 j1 aEC=(R2,j2,2,0):=by kernel_rfl
theorem t3:rrot R2 1 70=(R3,0):=by kernel_rfl
theorem t4:openS (secsR R3)=j3:=by kernel_rfl
theorem t5:append RV R3 j3 [98]=(R4,j4,3,0):=by kernel_rfl
theorem t6:append RV R4 j4 [99]=(R4,j4,0,21):=by kernel_rfl
theorem Both.can{p:Prop}{n:Nat}(h:p)(hn:n=4):p:=h
abbrev Can(d:D)(j:J):Prop:=(Dk.fine d && !d.off)=true∧(Dk.fine d&&Jr.okJ d j)=true
theorem can{d:D}{r:R}{j:J}(h:DR d r)(hn:r.s.length=4)(ho:r.off=false)(hj:okJR j=true):Can d j:=by
 have h1:=Rel.pends h.1
 have h2:=h.1.n
 have h3:d.off=false:=h.1.off.trans ho
 have h4:okJ d j=true:=by
  rw [Jr.okJR,decide_eq_true_iff] at hj
  rw [Jr.okJ,decide_eq_true_iff]
  omega
 rw [Can,h.1.fine,h3,h4]
 exact⟨rfl,rfl⟩
structure Ex (D0:D) (J0:J) (E1 E2:D×J×Int×Int) (D3:D) (J3:J) (E4 E5:D×J×Int×Int):Prop where
 b0:Can D0 J0
 b1:Can E1.1 E1.2.1
 b3:Can D3 J3
 b4:Can E4.1 E4.2.1
 n0:D0.n=4
 n1:E1.1.n=4
 n2:E2.1.n=4
 n3:D3.n=4
 n4:E4.1.n=4
 x0:J0.next=1
 f0:J0.fin=0
 a1:E1.2.2=(1,0)
 a2:E2.2.2=(2,0)
 f2:E2.2.1.fin=3
 rot:(Dk.rot E2.1 1 70).2=0
 a4:E4.2.2=(3,0)
 a5:E5.2.2=(0,21)
 nums:E5.2.1.nums=[1,3]
 texts:E5.2.1.texts=[[97],[98]]
 next:E5.2.1.next=4
 bad:E5.2.1.bad=[1]
 damaged:damaged E5.2.1=[2]
theorem ex_of{D0:D}{J0:J}{E1 E2:D×J×Int×Int}{D3:D}{J3:J}{E4 E5:D×J×Int×Int}(eD0:D0=Dk.new 4)(eJ0:J0=openS (secsD D0))(e1:E1=append DV D0 J0 [97])
  (e2:E2=append DV E1.1 E1.2.1 aEC) (eD3:D3=(Dk.rot E2.1 1 70).1) (eJ3:J3=openS (secsD D3)) (e4:E4=append DV D3 J3 [98]) (e5:E5=append DV E4.1 E4.2.1 [99]):Ex D0 J0 E1 E2 D3 J3 E4 E5:=by
 have h0:DR D0 (rnew 4):=by rw [eD0];exact⟨new_rel (by decide) (by decide),by decide⟩
 have q0:J0=j0:=by rw [eJ0,secs_rel h0.1,t0]
 have h1:=append_rel devs h0 J0 [97]
 rw [← e1,q0,t1] at h1
 have h2:=append_rel devs h1.2 E1.2.1 aEC
 rw [← e2,h1.1,t2] at h2
 have h3:=h2.2.1.rot 1 70
 rw [t3,← eD3] at h3
 have n3:=h3.2.n
 have h3':DR D3 R3:=⟨h3.2,by rw [← n3];decide⟩
 have q3:J3=j3:=by rw [eJ3,secs_rel h3.2,t4]
 have h4:=append_rel devs h3' J3 [98]
 rw [← e4,q3,t5] at h4
 have h5:=append_rel devs h4.2 E4.2.1 [99]
 rw [← e5,h4.1,t6] at h5
 have m1:=h1.1
 have m2:=h2.1
 have m4:=h4.1
 have m5:=h5.1
 simp only at m1 m2 m4 m5
 exact {
  b0:=by rw [q0];exact can h0 rfl rfl rfl
  b1:=by rw [m1];exact can h1.2 rfl rfl rfl
  b3:=by rw [q3];exact can h3' rfl rfl rfl
  b4:=by rw [m4];exact can h4.2 rfl rfl rfl
  n0:=by rw [← h0.1.n];rfl
  n1:=by rw [← h1.2.1.n];rfl
  n2:=by rw [← h2.2.1.n];rfl
  n3:=by rw [← n3];rfl
  n4:=by rw [← h4.2.1.n];rfl
  x0:=by rw [q0];rfl
  f0:=by rw [q0];rfl
  a1:=by rw [m1]
  a2:=by rw [m2]
  f2:=by rw [m2];rfl
  rot:=h3.1
  a4:=by rw [m4]
  a5:=by rw [m5]
  nums:=by rw [m5];rfl
  texts:=by rw [m5];rfl
  next:=by rw [m5];rfl
  bad:=by rw [m5];rfl
  damaged:=by rw [m5];rfl }
theorem pack97:pack 1 [97]=([sector 1 [97] 0],0):=rfl
theorem unpack97:unpack (sector 1 [97] 0)=⟨1,0,1,[97],true⟩:=VN (by decide) (by decide) (by decide) (by decide)
end Go.Jr
end
section
namespace Go.Am
open Go Go.Proofs
abbrev aED:List (Nat×Md):=[(1,.plain),(3,.plain),(4,.plain)]
abbrev a87:List (Nat×Md):=[(1,.plain),(3,.plain),(54,.plain)]
abbrev aoN:List (Nat×Md):=[(1,.plain),(3,.plain)]
abbrev a88:List (Nat×Md):=[(1,.plain),(3,.plain),(5,.plain),(6,.plain)]
abbrev a89:List (Nat×Md):=[(1,.plain),(3,.plain),(5,.plain),(6,.plain),(7,.plain),(8,.plain)]
abbrev a9a:List (Nat×Md):=[(1,.plain),(5,.plain),(6,.plain),(7,.plain),(8,.plain),(9,.plain)]
abbrev a9b:List (Nat×Md):=[(1,.plain),(5,.plain),(6,.plain),(7,.plain),(8,.plain),(9,.plain),(10,.plain)]
abbrev a9c:List (Nat×Md):=[(5,.plain),(6,.plain),(7,.plain),(8,.plain),(9,.plain),(10,.plain),(11,.plain),(12,.plain)]
abbrev a9d:List (Nat×Md):=[(11,.plain),(104,.plain)]
abbrev a9e:List (Nat×Md):=[(11,.plain),(13,.plain),(14,.plain)]
abbrev a9f:List (Nat×Md):=[(11,.plain),(13,.plain),(14,.plain),(16,.plain)]
abbrev a9g:List (Nat×Md):=[(11,.plain),(13,.plain),(14,.plain),(16,.plain),(17,.plain),(18,.plain)]
abbrev a9h:List (Nat×Md):=[(11,.plain),(17,.plain),(137,.plain)]
abbrev aEE:List (Nat×Md):=[(11,.plain),(17,.plain)]
abbrev a9i:List (Nat×Md):=[(11,.plain),(19,.plain),(20,.plain),(21,.plain),(22,.plain),(23,.plain)]
abbrev aUB:=Int×Int×Int×Int×(Dk.D)×(Jr.J)
abbrev aUC:=Int×Int×Int×Int×Int×(Dk.D)
abbrev aUD:=Int×Int×Int×Int×Int×Int×(Dk.D)
abbrev aUE:=Int×Int×Int×Int×Int×Int×Int×(Dk.D)×(Jr.J)
abbrev aUF:=Int×Int×Int×(Dk.D)×(Jr.J)
abbrev aUG:=Int×Int×Int×(List Li)×Int×(Dk.D)×(Jr.J)
abbrev aUH:=(List Li)×Bool×(Dk.D)×(Jr.J)
abbrev aEF:=(List Li)×(Dk.D)×(Jr.J)
abbrev aUI:=Int×Int×Int×Li×Bool×(Dk.D)×(Jr.J)
def lV7:List hI:=[(9,[none],r9),(10,[some 9,some 9],r10),(11,[none],r11),(12,[none],r12),(14,[none,none],r14),(20,[none],r20),(27,[none,none,none],r27),(34,[none],r34),(35,[none],r35),(36,[some 3,some 3],r36),(37,[none],r37),(38,[none],r38),(39,[none,none],r39),(40,[none,none],r40),(41,[none],r41),(42,[none],r42)]
def V7:Env:=dL fP dM lV7
noncomputable abbrev uM:=ij V7 none (Tryz.f7).results.toList
theorem eV7:EOk Tryz.prog V7:=bL (by exact⟨c9,c10,c11,c12,c14,c20,c27,c34,c35,c36,c37,c38,c39,c40,c41,c42,trivial⟩)
def Af7(F:Nat):Cuts:={ F:=F,at_:=fun _=>none,join:=fun n=>match n with | 1057=>some [] | 2055=>some anN | 3005=>some [(1,.plain),(33,.plain)] | 4047=>some [(1,.plain)] | 5045=>some aED | 6005=>some a87 | 7037=>some aoN | 8035=>some a88 | 9033=>some a89 | 10031=>some a9a | 11029=>some a9b | 12027=>some a9c | 13005=>some a9d | 14019=>some [(11,.plain)] | 15017=>some a9e | 16015=>some a9f | 17013=>some a9g | 18005=>some a9h | 19005=>some aEE | 20003=>some a9i | _=>none }
abbrev qf7(F n:Nat){σ:Type}(e:σ→St)(K:Ex→St→Rz)(N:σ→Rz):=Qe V7 (Af7 F) (bp Tryz.f7 n) e K N
def aEG:Unit→St:=fun _=>hS [] [] 193 0
def aEH:Unit→St:=aEG
def ari:Int×(Dk.D)→St:=fun (b,a)=>hS [pS 1 0 5,iS 2 b] [dE 1 a 2 3,bB a.blk,pB a.pend,wB a.worn] 193 0
def aYY:Bool×(Dk.D)→St:=fun (b,a)=>hS [pS 1 0 5,(33,.bool b)] [dE 1 a 2 3,bB a.blk,pB a.pend,wB a.worn] 193 0
def aie:(Dk.D)→St:=fun a=>hS [pS 1 0 5] [dE 1 a 2 3,bB a.blk,pB a.pend,wB a.worn] 193 0
def arj:Int×(Dk.D)×(Jr.J)→St:=fun (c,a,b)=>hS [pS 1 0 5,pS 3 1 7,iS 4 c] [dE 2 a 3 4,jE 0 5 5 6 7 b,bB a.blk,pB a.pend,wB a.worn,iB b.nums,iB b.bad,sB b.texts] 193 0
def aYZ:Bool×(Dk.D)×(Jr.J)→St:=fun (c,a,b)=>hS [pS 1 0 5,pS 3 1 7,(54,.bool c)] [dE 2 a 3 4,jE 0 5 5 6 7 b,bB a.blk,pB a.pend,wB a.worn,iB b.nums,iB b.bad,sB b.texts] 193 0
def aif:(Dk.D)×(Jr.J)→St:=fun (a,b)=>hS [pS 1 0 5,pS 3 1 7] [dE 2 a 3 4,jE 0 5 5 6 7 b,bB a.blk,pB a.pend,wB a.worn,iB b.nums,iB b.bad,sB b.texts] 193 0
def aEI:YV→St:=fun (c,d,a,b)=>hS [pS 1 0 5,pS 3 1 7,iS 5 c,iS 6 d] [dE 2 a 3 4,jE 0 5 5 6 7 b,bB a.blk,pB a.pend,wB a.worn,iB b.nums,iB b.bad,sB b.texts] 193 0
def aEJ:aUB→St:=fun (c,d,e,f,a,b)=>hS [pS 1 0 5,pS 3 1 7,iS 5 c,iS 6 d,iS 7 e,iS 8 f] [dE 2 a 3 4,jE 0 5 5 6 7 b,bB a.blk,pB a.pend,wB a.worn,iB b.nums,iB b.bad,sB b.texts] 193 0
def awn:aUC→St:=fun (b,c,d,e,f,a)=>hS [pS 1 0 5,iS 5 b,iS 6 c,iS 7 d,iS 8 e,iS 9 f] [dE 1 a 2 3,bB a.blk,pB a.pend,wB a.worn] 193 0
def awo:aUD→St:=fun (b,c,d,e,f,g,a)=>hS [pS 1 0 5,iS 5 b,iS 6 c,iS 7 d,iS 8 e,iS 9 f,iS 10 g] [dE 1 a 2 3,bB a.blk,pB a.pend,wB a.worn] 193 0
def alZ:aUE→St:=fun (c,d,e,f,g,h,i,a,b)=>hS [iS 5 c,iS 6 d,iS 7 e,iS 8 f,iS 9 g,iS 10 h,pS 11 0 7,iS 12 i] [jE 1 5 2 3 4 b,dE 5 a 6 7,iB b.nums,iB b.bad,sB b.texts,bB a.blk,pB a.pend,wB a.worn] 193 0
def aLS:Bool×(Dk.D)×(Jr.J)→St:=fun (c,a,b)=>hS [pS 11 0 7,(104,.bool c)] [jE 1 5 2 3 4 b,dE 5 a 6 7,iB b.nums,iB b.bad,sB b.texts,bB a.blk,pB a.pend,wB a.worn] 193 0
def abH:(Dk.D)×(Jr.J)→St:=fun (a,b)=>hS [pS 11 0 7] [jE 1 5 2 3 4 b,dE 5 a 6 7,iB b.nums,iB b.bad,sB b.texts,bB a.blk,pB a.pend,wB a.worn] 193 0
def awp:YV→St:=fun (c,d,a,b)=>hS [pS 11 0 7,iS 13 c,iS 14 d] [jE 1 5 2 3 4 b,dE 5 a 6 7,iB b.nums,iB b.bad,sB b.texts,bB a.blk,pB a.pend,wB a.worn] 193 0
def awq:aUF→St:=fun (c,d,e,a,b)=>hS [pS 11 0 7,iS 13 c,iS 14 d,iS 16 e] [jE 1 5 2 3 4 b,dE 5 a 6 7,iB b.nums,iB b.bad,sB b.texts,bB a.blk,pB a.pend,wB a.worn] 193 0
def al0:aUG→St:=fun (c,d,e,f,g,a,b)=>hS [pS 11 0 7,iS 13 c,iS 14 d,iS 16 e,(17,(z13 f)),iS 18 g] [jE 1 5 2 3 4 b,dE 5 a 6 7,iB b.nums,iB b.bad,sB b.texts,bB a.blk,pB a.pend,wB a.worn] 193 0
def aLT:aUH→St:=fun (c,d,a,b)=>hS [pS 11 0 7,(17,(z13 c)),(137,.bool d)] [jE 1 5 2 3 4 b,dE 5 a 6 7,iB b.nums,iB b.bad,sB b.texts,bB a.blk,pB a.pend,wB a.worn] 193 0
def abI:aEF→St:=fun (c,a,b)=>hS [pS 11 0 7,(17,(z13 c))] [jE 1 5 2 3 4 b,dE 5 a 6 7,iB b.nums,iB b.bad,sB b.texts,bB a.blk,pB a.pend,wB a.worn] 193 0
def aLU:aUI→St:=fun (c,d,e,f,g,a,b)=>hS [pS 11 0 7,iS 19 c,iS 20 d,iS 21 e,(22,.str f),(23,.bool g)] [jE 1 5 2 3 4 b,dE 5 a 6 7,iB b.nums,iB b.bad,sB b.texts,bB a.blk,pB a.pend,wB a.worn] 193 0
def aEK(F:Nat)(a:Unit→Rz):Unit→Rz:=fun _=>(a ())
theorem a7L F Rj1:qf7 F 2 aEG (kq V7 Rj1 [] uM) (aEK F (Rj1∘aEH)):=fun _=>by kernel_rfl
def aEL(F:Nat)(a:Int×(Dk.D)→Rz):Unit→Rz:=fun _=>(cond ((decide (0 < (4:Int)))&&(decide ((4:Int) < 4097))) (a (0,(Dk.new (4:Int)))) none)
theorem a7M F Rj2:qf7 F 6 aEH (kq V7 Rj2 anN uM) (aEL F (Rj2∘ari)):=fun _=>by kernel_rfl
def aEM(F:Nat)(a:Bool×(Dk.D)→Rz)(d:(Dk.D)→Rz):Int×(Dk.D)→Rz:=fun (c,b)=>(cond (c != (0:Int)) (a (true,b)) (a (false,b)))
theorem a7N F Rj3 Rj4:qf7 F 28 ari (kq V7 Rj3 [(1,.plain),(33,.plain)] (kq V7 Rj4 [(1,.plain)] uM)) (aEM F (Rj3∘aYY) (Rj4∘aie)):=fun _=>by kernel_rfl
def aUJ(F:Nat)(a:(Dk.D)→Rz):Bool×(Dk.D)→Rz:=fun (b,c)=>(cond b (some ((.bool false),[])) (a c))
theorem a7O F Rj4:qf7 F 29 aYY (kq V7 Rj4 [(1,.plain)] uM) (aUJ F (Rj4∘aie)):=fun _=>by kernel_rfl
def aEN(F:Nat)(a):=aEM F (aUJ F a) a
theorem a7P F Rj4:qf7 F 14 ari (kq V7 Rj4 [(1,.plain)] uM) (aEN F (Rj4∘aie)):=sqC (fun k=>aEM F k (Rj4∘aie)) (fun Rj3=>a7N F Rj3 Rj4) (a7O F Rj4)
def aEO(F:Nat)(b:Int×(Dk.D)×(Jr.J)→Rz):(Dk.D)→Rz:=fun a=>(cond ((Dk.fine a)&&(!a.off)) (b (0,a,(Jr.openS (Jr.secsD a)))) none)
theorem a7Q F Rj5:qf7 F 30 aie (kq V7 Rj5 aED uM) (aEO F (Rj5∘arj)):=fun _=>by kernel_rfl
def aEP(F:Nat)(c:Bool×(Dk.D)×(Jr.J)→Rz)(e:(Dk.D)×(Jr.J)→Rz):Int×(Dk.D)×(Jr.J)→Rz:=fun (d,b,a)=>(cond (d != (0:Int)) (c (true,b,a)) (cond (a.next != (1:Int)) (c (true,b,a)) (c (((IntKind.i64.wrap ((b.n:Int)-a.fin)) != (4:Int)),b,a))))
theorem a7R F Rj6 Rj7:qf7 F 124 arj (kq V7 Rj6 a87 (kq V7 Rj7 aoN uM)) (aEP F (Rj6∘aYZ) (Rj7∘aif)):=fun _=>by kernel_rfl
def aUK(F:Nat)(a:(Dk.D)×(Jr.J)→Rz):Bool×(Dk.D)×(Jr.J)→Rz:=fun (b,c,d)=>(cond b (some ((.bool false),[])) (a (c,d)))
theorem a7S F Rj7:qf7 F 125 aYZ (kq V7 Rj7 aoN uM) (aUK F (Rj7∘aif)):=fun _=>by kernel_rfl
def aEQ(F:Nat)(a):=aEP F (aUK F a) a
theorem a7T F Rj7:qf7 F 62 arj (kq V7 Rj7 aoN uM) (aEQ F (Rj7∘aif)):=sqC (fun k=>aEP F k (Rj7∘aif)) (fun Rj6=>a7R F Rj6 Rj7) (a7S F Rj7)
def ark(F:Nat)(c:YV→Rz):(Dk.D)×(Jr.J)→Rz:=fun (a,b)=>(cond ((Dk.fine a)&&(Jr.okJ a b)) (c ((Jr.append Jr.DV a b [97]).2.2.1,(Jr.append Jr.DV a b [97]).2.2.2,(Jr.append Jr.DV a b [97]).1,(Jr.append Jr.DV a b [97]).2.1)) none)
theorem aUL F Rj8:qf7 F 126 aif (kq V7 Rj8 a88 uM) (ark F (Rj8∘aEI)):=fun _=>by kernel_rfl
def arl(F:Nat)(c:aUB→Rz):YV→Rz:=fun (d,e,a,b)=>(cond (decide (0≤(50:Int)∧(50:Int) < 1000∧[120].length < 1000)) (cond ((Dk.fine a)&&(Jr.okJ a b)) (c (d,e,(Jr.append Jr.DV a b (Jr.repeat_ [120] (50:Int))).2.2.1,(Jr.append Jr.DV a b (Jr.repeat_ [120] (50:Int))).2.2.2,(Jr.append Jr.DV a b (Jr.repeat_ [120] (50:Int))).1,(Jr.append Jr.DV a b (Jr.repeat_ [120] (50:Int))).2.1)) none) none)
theorem aUM F Rj9:qf7 F 254 aEI (kq V7 Rj9 a89 uM) (arl F (Rj9∘aEJ)):=fun _=>by kernel_rfl
def arm(F:Nat)(b:aUC→Rz):aUB→Rz:=fun (c,d,e,f,a,g)=>(b (c,d,e,f,(IntKind.i64.wrap ((a.n:Int)-g.fin)),a))
theorem aUN F Rj10:qf7 F 510 aEJ (kq V7 Rj10 a9a uM) (arm F (Rj10∘awn)):=fun _=>by kernel_rfl
def arn(F:Nat)(b:aUD→Rz):aUC→Rz:=fun (c,d,e,f,g,a)=>(b (c,d,e,f,g,(Dk.rot a (1:Int) (70:Int)).2,(Dk.rot a (1:Int) (70:Int)).1))
theorem aUO F Rj11:qf7 F 1022 awn (kq V7 Rj11 a9b uM) (arn F (Rj11∘awo)):=fun _=>by kernel_rfl
def aro(F:Nat)(b:aUE→Rz):aUD→Rz:=fun (c,d,e,f,g,h,a)=>(cond ((Dk.fine a)&&(!a.off)) (b (c,d,e,f,g,h,0,a,(Jr.openS (Jr.secsD a)))) none)
theorem aUP F Rj12:qf7 F 2046 awo (kq V7 Rj12 a9c uM) (aro F (Rj12∘alZ)):=fun _=>by kernel_rfl
def arp(F:Nat)(a:Bool×(Dk.D)×(Jr.J)→Rz)(k:(Dk.D)×(Jr.J)→Rz):aUE→Rz:=fun (d,e,f,g,h,i,j,b,c)=>(cond (d != (1:Int)) (a (true,b,c)) (cond (e != (0:Int)) (a (true,b,c)) (cond (f != (2:Int)) (a (true,b,c)) (cond (g != (0:Int)) (a (true,b,c)) (cond (h != (1:Int)) (a (true,b,c)) (cond (i != (0:Int)) (a (true,b,c)) (cond (j != (0:Int)) (a (true,b,c)) (a (false,b,c)))))))))
theorem aUQ F Rj13 Rj14:qf7 F 8188 alZ (kq V7 Rj13 a9d (kq V7 Rj14 [(11,.plain)] uM)) (arp F (Rj13∘aLS) (Rj14∘abH)):=fun _=>by kernel_rfl
def aER(F:Nat)(a:(Dk.D)×(Jr.J)→Rz):Bool×(Dk.D)×(Jr.J)→Rz:=fun (b,c,d)=>(cond b (some ((.bool false),[])) (a (c,d)))
theorem aUR F Rj14:qf7 F 8189 aLS (kq V7 Rj14 [(11,.plain)] uM) (aER F (Rj14∘abH)):=fun _=>by kernel_rfl
def arq(F:Nat)(a):=arp F (aER F a) a
theorem aUS F Rj14:qf7 F 4094 alZ (kq V7 Rj14 [(11,.plain)] uM) (arq F (Rj14∘abH)):=sqC (fun k=>arp F k (Rj14∘abH)) (fun Rj13=>aUQ F Rj13 Rj14) (aUR F Rj14)
def ars(F:Nat)(c:YV→Rz):(Dk.D)×(Jr.J)→Rz:=fun (a,b)=>(cond ((Dk.fine a)&&(Jr.okJ a b)) (c ((Jr.append Jr.DV a b [98]).2.2.1,(Jr.append Jr.DV a b [98]).2.2.2,(Jr.append Jr.DV a b [98]).1,(Jr.append Jr.DV a b [98]).2.1)) none)
theorem aUT F Rj15:qf7 F 8190 abH (kq V7 Rj15 a9e uM) (ars F (Rj15∘awp)):=fun _=>by kernel_rfl
def art(F:Nat)(c:aUF→Rz):YV→Rz:=fun (d,e,a,b)=>(cond ((Dk.fine a)&&(Jr.okJ a b)) (c (d,e,(Jr.append Jr.DV a b [99]).2.2.2,(Jr.append Jr.DV a b [99]).1,(Jr.append Jr.DV a b [99]).2.1)) none)
theorem aUU F Rj16:qf7 F 16382 awp (kq V7 Rj16 a9f uM) (art F (Rj16∘awq)):=fun _=>by kernel_rfl
def aru(F:Nat)(a:aUG→Rz):aUF→Rz:=fun (b,c,d,e,f)=>(a (b,c,d,(Jr.pack (1:Int) [97]).1,(Jr.pack (1:Int) [97]).2,e,f))
theorem aUV F Rj17:qf7 F 32766 awq (kq V7 Rj17 a9g uM) (aru F (Rj17∘al0)):=fun _=>by kernel_rfl
def arv(F:Nat)(b:aUH→Rz)(i:aEF→Rz):aUG→Rz:=fun (e,f,g,a,h,c,d)=>(cond (e != (3:Int)) (b (a,true,c,d)) (cond (f != (0:Int)) (b (a,true,c,d)) (cond (g != (21:Int)) (b (a,true,c,d)) (cond ((↑a.length:Int) != (1:Int)) (b (a,true,c,d)) (b (a,(h != (0:Int)),c,d))))))
theorem aUW F Rj18 Rj19:qf7 F 131068 al0 (kq V7 Rj18 a9h (kq V7 Rj19 aEE uM)) (arv F (Rj18∘aLT) (Rj19∘abI)):=fun _=>by kernel_rfl
def aES(F:Nat)(a:aEF→Rz):aUH→Rz:=fun (b,c,d,e)=>(cond c (some ((.bool false),[])) (a (b,d,e)))
theorem aUX F Rj19:qf7 F 131069 aLT (kq V7 Rj19 aEE uM) (aES F (Rj19∘abI)):=fun _=>by kernel_rfl
def arw(F:Nat)(a):=arv F (aES F a) a
theorem aUY F Rj19:qf7 F 65534 al0 (kq V7 Rj19 aEE uM) (arw F (Rj19∘abI)):=sqC (fun k=>arv F k (Rj19∘abI)) (fun Rj18=>aUW F Rj18 Rj19) (aUX F Rj19)
def arx(F:Nat)(b:aUI→Rz):aEF→Rz:=fun (a,c,d)=>(cond (decide ((0:Int) < (↑a.length:Int))) (b ((Jr.unpack (a.getD 0 [])).number,(Jr.unpack (a.getD 0 [])).part,(Jr.unpack (a.getD 0 [])).left,(Jr.unpack (a.getD 0 [])).payload,(Jr.unpack (a.getD 0 [])).ok,c,d)) none)
theorem aUZ F Rj20:qf7 F 131070 abI (kq V7 Rj20 a9i uM) (arx F (Rj20∘aLU)):=fun _=>by kernel_rfl
def aET(F:Nat):aUI→Rz:=fun (b,c,d,e,f,g,a)=>(cond (decide (a.nums.length < 1073741000)) (cond (decide (a.nums.length < 1073741824)) (cond (a.nums==[(1:Int),(3:Int)]) (cond (decide (a.texts.length < 1073741000)) (cond (decide (a.texts.length < 1073741824)) (cond (a.texts==[[97],[98]]) (cond (decide (a.nums.length < 1073741000∧a.next < 100000)) (cond (decide ((Jr.damaged a).length < 1073741824)) (cond ((Jr.damaged a)==[(2:Int)]) (cond (decide (a.bad.length < 1073741000)) (cond (decide (a.bad.length < 1073741824)) (cond (a.bad==[(1:Int)]) (cond ((Jr.count (49:Int))==(2:Int)) (cond (b==(1:Int)) (cond (c==(0:Int)) (cond (d==(1:Int)) (cond ((e:Li)==([97]:Li)) (some ((.bool f),[])) (some ((.bool false),[]))) (some ((.bool false),[]))) (some ((.bool false),[]))) (some ((.bool false),[]))) (some ((.bool false),[]))) (some ((.bool false),[]))) none) none) (some ((.bool false),[]))) none) none) (some ((.bool false),[]))) none) none) (some ((.bool false),[]))) none) none)
theorem aU0 F:qf7 F 131071 aLU uM (aET F):=fun _=>by kernel_rfl
def aEU(F:Nat):=arx F (aET F)
theorem aU1 F:qf7 F 65535 abI uM (aEU F):=sqC (arx F) (fun Rj20=>aUZ F Rj20) (aU0 F)
def aEV(F:Nat):=arw F (aEU F)
theorem aU2 F:qf7 F 32767 al0 uM (aEV F):=sqC (arw F) (fun Rj19=>aUY F Rj19) (aU1 F)
def aEW(F:Nat):=aru F (aEV F)
theorem aU3 F:qf7 F 16383 awq uM (aEW F):=sqC (aru F) (fun Rj17=>aUV F Rj17) (aU2 F)
def aEX(F:Nat):=art F (aEW F)
theorem aVf F:qf7 F 8191 awp uM (aEX F):=sqC (art F) (fun Rj16=>aUU F Rj16) (aU3 F)
def aEY(F:Nat):=ars F (aEX F)
theorem aVg F:qf7 F 4095 abH uM (aEY F):=sqC (ars F) (fun Rj15=>aUT F Rj15) (aVf F)
def aEZ(F:Nat):=arq F (aEY F)
theorem aVh F:qf7 F 2047 alZ uM (aEZ F):=sqC (arq F) (fun Rj14=>aUS F Rj14) (aVg F)
def aE0(F:Nat):=aro F (aEZ F)
theorem aVi F:qf7 F 1023 awo uM (aE0 F):=sqC (aro F) (fun Rj12=>aUP F Rj12) (aVh F)
def aE1(F:Nat):=arn F (aE0 F)
theorem aVj F:qf7 F 511 awn uM (aE1 F):=sqC (arn F) (fun Rj11=>aUO F Rj11) (aVi F)
def aE2(F:Nat):=arm F (aE1 F)
theorem aVk F:qf7 F 255 aEJ uM (aE2 F):=sqC (arm F) (fun Rj10=>aUN F Rj10) (aVj F)
def aE3(F:Nat):=arl F (aE2 F)
theorem aVl F:qf7 F 127 aEI uM (aE3 F):=sqC (arl F) (fun Rj9=>aUM F Rj9) (aVk F)
def aE4(F:Nat):=ark F (aE3 F)
theorem aVm F:qf7 F 63 aif uM (aE4 F):=sqC (ark F) (fun Rj8=>aUL F Rj8) (aVl F)
def aE5(F:Nat):=aEQ F (aE4 F)
theorem aVn F:qf7 F 31 arj uM (aE5 F):=sqC (aEQ F) (fun Rj7=>a7T F Rj7) (aVm F)
def aE6(F:Nat):=aEO F (aE5 F)
theorem aVo F:qf7 F 15 aie uM (aE6 F):=sqC (aEO F) (fun Rj5=>a7Q F Rj5) (aVn F)
def aE7(F:Nat):=aEN F (aE6 F)
theorem aVp F:qf7 F 7 ari uM (aE7 F):=sqC (aEN F) (fun Rj4=>a7P F Rj4) (aVo F)
def aE8(F:Nat):=aEL F (aE7 F)
theorem aVq F:qf7 F 3 aEH uM (aE8 F):=sqC (aEL F) (fun Rj2=>a7M F Rj2) (aVp F)
def aE9(F:Nat):=aEK F (aE8 F)
theorem aVr F:qf7 F 1 aEG uM (aE9 F):=sqC (aEK F) (fun Rj1=>a7L F Rj1) (aVq F)
def f7(F:Nat):Unit→Rz:=aE9 F
def r7:eP:=fun X H=>match X,H with
 | [],[]=>some (true,.bool true,[])
 | _,_=>none
theorem s7 : ∃ F,f7 F ()=some ((.bool true),[]):=by
 refine⟨0,?_⟩
 obtain⟨D0,eD0⟩:∃ D,D=Dk.new (4:Int):=⟨_,rfl⟩
 obtain⟨J0,eJ0⟩:∃ J,J=Jr.openS (Jr.secsD D0):=⟨_,rfl⟩
 obtain⟨E1,e1⟩:∃ E,E=Jr.append Jr.DV D0 J0 [97]:=⟨_,rfl⟩
 obtain⟨E2,e2⟩:∃ E,E=Jr.append Jr.DV E1.1 E1.2.1 (Jr.repeat_ [120] (50:Int)):=⟨_,rfl⟩
 obtain⟨D3,eD3⟩:∃ D,D=(Dk.rot E2.1 1 70).1:=⟨_,rfl⟩
 obtain⟨J3,eJ3⟩:∃ J,J=Jr.openS (Jr.secsD D3):=⟨_,rfl⟩
 obtain⟨E4,e4⟩:∃ E,E=Jr.append Jr.DV D3 J3 [98]:=⟨_,rfl⟩
 obtain⟨E5,e5⟩:∃ E,E=Jr.append Jr.DV E4.1 E4.2.1 [99]:=⟨_,rfl⟩
 have X:=Jr.ex_of eD0 eJ0 e1 e2 eD3 eJ3 e4 e5
 obtain⟨c0,k0⟩:=Jr.Both.can X.b0 X.n0
 obtain⟨_,k1⟩:=Jr.Both.can X.b1 X.n1
 obtain⟨c3,k3⟩:=Jr.Both.can X.b3 X.n3
 obtain⟨_,k4⟩:=Jr.Both.can X.b4 X.n4
 simp only [f7,aE9,aEK,aE8,aEL]
 rw [← eD0,show((decide (0 < (4:Int)))&&(decide ((4:Int) < 4097)))=true from rfl,cond_true]
 simp only [aE7,aEN,aEM,aUJ,aE6,aEO]
 rw [show((0:Int) != 0)=false from rfl,cond_false,cond_false,c0,cond_true,← eJ0]
 simp only [aE5,aEQ,aEP,aUK,aE4,ark]
 rw [X.x0,X.n0,X.f0,show((0:Int) != 0)=false from rfl,show((1:Int) != 1)=false from rfl,show((IntKind.i64.wrap (((4:Nat):Int)-(0:Int))) != (4:Int))=false by decide,cond_false,cond_false,cond_false,k0,cond_true,← e1]
 simp only [aE3,arl]
 rw [aK (by decide),k1,cond_true,← e2]
 simp only [aE2,arm]
 rw [X.n2,X.f2]
 simp only [aE1,arn]
 rw [← eD3,X.rot]
 simp only [aE0,aro]
 rw [c3,cond_true,← eJ3]
 simp only [aEZ,arq,arp,aER,aEY,ars]
 simp only [X.a1,X.a2]
 rw [show((IntKind.i64.wrap (((4:Nat):Int)-(3:Int))) != (1:Int))=false by decide,show((0:Int) != 0)=false from rfl,show((1:Int) != 1)=false from rfl,show((2:Int) != 2)=false from rfl]
 simp only [cond_false]
 rw [k3,cond_true,← e4]
 simp only [aEX,art]
 rw [k4,cond_true,← e5]
 simp only [aEW,aru,aEV,arw,arv,aES,aEU,arx]
 rw [Jr.pack97]
 simp only [X.a4,X.a5]
 rw [show((0:Int) != 0)=false from rfl,show((3:Int) != 3)=false from rfl,show((21:Int) != 21)=false from rfl,show((([Jr.sector 1 [97] 0].length:Nat):Int) != 1)=false from rfl]
 simp only [cond_false]
 rw [show(decide ((0:Int) < (([Jr.sector 1 [97] 0].length:Nat):Int)))=true from rfl,cond_true]
 simp only [List.getD_cons_zero,Jr.unpack97,aET,X.nums,X.texts,X.next,X.bad,X.damaged]
 rfl
theorem c7:Ck 7 r7:=ck eV7 Tryz.func7 (by
 intro X H r H' h hX hH
 unfold r7 at h;split at h <;> try contradiction
 ·obtain⟨hp,rfl,rfl⟩:=ik h
  obtain⟨F,hF⟩:=s7
  exact⟨_,abC (aVr F) hF⟩)
end Go.Am
end
section
namespace Go.Am
open Go Go.Proofs
abbrev YX:List (Nat×Md):=[(0,.plain),(4,.plain)]
abbrev q8:List (Nat×Md):=[(0,.plain)]
abbrev VS:=Nat×(List (List Li))×Bool×Int
abbrev VT:=Nat×(List (List Li))×Bool×Int×Int
abbrev aVs:=Nat×(List (List Li))×Bool×Int×Int×Li
abbrev aoO:=Nat×(List (List Li))×Bool×Int×Int×Int
abbrev u6:=Nat×Bool×Int×(List (List Li))
abbrev D1:=Int×Nat×Bool×Int×(List (List Li))
abbrev P7:=Int×Int×Nat×Bool×Int×(List (List Li))
def bd1:List hI:=[]
def V54:Env:=dL fP dM bd1
noncomputable abbrev bd2:=ij V54 none (Tryz.f54).results.toList
theorem bd3:EOk Tryz.prog V54:=bL (by exact trivial)
def bd4(F:Nat):Cuts:={ F:=F,at_:=fun _=>none,join:=fun _=>none }
abbrev bd5(F n:Nat){σ:Type}(e:σ→St)(K:Ex→St→Rz)(N:σ→Rz):=Qe V54 (bd4 F) (bp Tryz.f54 n) e K N
abbrev z2 a b:=(.cells (a*4) (.rT [.str,.str,.bool,.bool] b) true:Blk)
def a9j:VS→St:=fun (a,b,c,d)=>hS [pS 0 0 3] [rB a 1 c d,z2 a b] 8 2
def aFa(F:Nat):VS→Rz:=fun (a,b,c,d)=>(some ((.int .i64 (↑a:Int)),[(rB a 1 c d),(.cells (a*4) (.rT [.str,.str,.bool,.bool] b) true)]))
theorem aVt F:bd5 F 1 a9j bd2 (aFa F):=fun _=>by kernel_rfl
def f54(F:Nat):VS→Rz:=aFa F
def r54:eP:=fun X H=>match X,H with
 | [(.ptr 0 0 3 0 0 0 3)],[(.cells 3 (.segs (.cons 1 (.one (.own 1 a0n 4)) (.cons 1 (.one (.bool a0o)) (.cons 1 (.one (.int .i64 a0l)) .nil)))) true),(.cells z1 (.rT [.str,.str,.bool,.bool] a0s) true)]=>some ((decide (a0n=a0s.length∧a0n < 8000)),(.int .i64 ((Dk.R.mk a0s a0o a0l).s.length:Int)),[(rB (Dk.R.mk a0s a0o a0l).s.length 1 (Dk.R.mk a0s a0o a0l).off (Dk.R.mk a0s a0o a0l).left),(.cells ((Dk.R.mk a0s a0o a0l).s.length*4) (.rT [.str,.str,.bool,.bool] (Dk.R.mk a0s a0o a0l).s) true)])
 | _,_=>none
theorem s54(a0n:Nat)(a0s:List (List Li))(a0o:Bool)(a0l:Int)(hp:((decide (a0n=a0s.length∧a0n < 8000)))=true)(k0:okB (rB a0n 1 a0o a0l))(k1:okB (.cells (a0n*4) (.rT [.str,.str,.bool,.bool] a0s) true)):∃ F,f54 F (a0n,a0s,a0o,a0l)=some ((.int .i64 ((Dk.R.mk a0s a0o a0l).s.length:Int)),[(rB (Dk.R.mk a0s a0o a0l).s.length 1 (Dk.R.mk a0s a0o a0l).off (Dk.R.mk a0s a0o a0l).left),(.cells ((Dk.R.mk a0s a0o a0l).s.length*4) (.rT [.str,.str,.bool,.bool] (Dk.R.mk a0s a0o a0l).s) true)]):=by
 rw [decide_eq_true_iff] at hp
 exact⟨0,by simp only [f54,aFa];rw [hp.1]⟩
theorem c54:Ck 54 r54:=ck bd3 Tryz.func54 (by
 intro X H r H' h hX hH
 unfold r54 at h;split at h <;> try contradiction
 ·obtain⟨hp,rfl,rfl⟩:=ik h
  obtain rfl:=bh (hH _ hm1) rfl
  obtain rfl:=(of_decide_eq_true hp).1
  obtain⟨F,hF⟩:=s54 _ _ _ _ hp (hH _ hm0) (hH _ hm1)
  exact⟨_,abC (aVt F) hF⟩)
def bd6:List hI:=[]
def V63:Env:=dL fP dM bd6
noncomputable abbrev bd7:=ij V63 none (Tryz.f63).results.toList
theorem bd8:EOk Tryz.prog V63:=bL (by exact trivial)
def bd9(F:Nat):Cuts:={ F:=F,at_:=fun _=>none,join:=fun _=>none }
abbrev bea(F n:Nat){σ:Type}(e:σ→St)(K:Ex→St→Rz)(N:σ→Rz):=Qe V63 (bd9 F) (bp Tryz.f63 n) e K N
def a9k:VT→St:=fun (a,b,c,d,e)=>hS [pS 0 0 3,iS 1 e] [rB a 1 c d,z2 a b] 16 2
def aFb(F:Nat):VT→Rz:=fun (a,b,c,d,e)=>(cond (decide (e≥(0:Int))) (some ((.bool (decide (e < (↑a:Int)))),[(rB a 1 c d),(.cells (a*4) (.rT [.str,.str,.bool,.bool] b) true)])) (some ((.bool false),[(rB a 1 c d),(.cells (a*4) (.rT [.str,.str,.bool,.bool] b) true)])))
theorem aVu F:bea F 1 a9k bd7 (aFb F):=fun _=>by kernel_rfl
def f63(F:Nat):VT→Rz:=aFb F
def r63:eP:=fun X H=>match X,H with
 | [(.ptr 0 0 3 0 0 0 3),.int .i64 a1],[(.cells 3 (.segs (.cons 1 (.one (.own 1 a0n 4)) (.cons 1 (.one (.bool a0o)) (.cons 1 (.one (.int .i64 a0l)) .nil)))) true),(.cells z1 (.rT [.str,.str,.bool,.bool] a0s) true)]=>some ((decide (a0n=a0s.length∧a0n < 8000)),(.bool (Dk.ris (Dk.R.mk a0s a0o a0l) a1)),[(rB (Dk.R.mk a0s a0o a0l).s.length 1 (Dk.R.mk a0s a0o a0l).off (Dk.R.mk a0s a0o a0l).left),(.cells ((Dk.R.mk a0s a0o a0l).s.length*4) (.rT [.str,.str,.bool,.bool] (Dk.R.mk a0s a0o a0l).s) true)])
 | _,_=>none
theorem s63(a0n:Nat)(a0s:List (List Li))(a0o:Bool)(a0l a1:Int)(hp:((decide (a0n=a0s.length∧a0n < 8000)))=true)(h1:okV (.int .i64 a1))(k0:okB (rB a0n 1 a0o a0l))(k1:okB (.cells (a0n*4) (.rT [.str,.str,.bool,.bool] a0s) true)):∃ F,f63 F (a0n,a0s,a0o,a0l,a1)=some ((.bool (Dk.ris (Dk.R.mk a0s a0o a0l) a1)),[(rB (Dk.R.mk a0s a0o a0l).s.length 1 (Dk.R.mk a0s a0o a0l).off (Dk.R.mk a0s a0o a0l).left),(.cells ((Dk.R.mk a0s a0o a0l).s.length*4) (.rT [.str,.str,.bool,.bool] (Dk.R.mk a0s a0o a0l).s) true)]):=by
 rw [decide_eq_true_iff] at hp
 refine⟨0,?_⟩
 simp only [f63,aFb,Dk.ris]
 rw [hp.1]
 cases decide (a1≥0) <;> rfl
theorem c63:Ck 63 r63:=ck bd8 Tryz.func63 (by
 intro X H r H' h hX hH
 unfold r63 at h;split at h <;> try contradiction
 ·obtain⟨hp,rfl,rfl⟩:=ik h
  obtain rfl:=bh (hH _ hm1) rfl
  obtain rfl:=(of_decide_eq_true hp).1
  obtain⟨F,hF⟩:=s63 _ _ _ _ _ hp (hX _ hm1) (hH _ hm0) (hH _ hm1)
  exact⟨_,abC (aVu F) hF⟩)
def beb:List hI:=[]
def V66:Env:=dL fP dM beb
noncomputable abbrev bec:=ij V66 none (Tryz.f66).results.toList
theorem bed:EOk Tryz.prog V66:=bL (by exact trivial)
def bee(F:Nat):Cuts:={ F:=F,at_:=fun _=>none,join:=fun _=>none }
abbrev bef(F n:Nat){σ:Type}(e:σ→St)(K:Ex→St→Rz)(N:σ→Rz):=Qe V66 (bee F) (bp Tryz.f66 n) e K N
def a9l:VS→St:=fun (a,b,c,d)=>hS [pS 0 0 3] [rB a 1 c d,z2 a b] 23 2
def aFc(F:Nat):VS→Rz:=fun (a,c,d,b)=>(cond (b==(0:Int)) (some ((.int .i64 22),[(rB a 1 true b),(.cells (a*4) (.rT [.str,.str,.bool,.bool] c) true)])) (cond (decide (b > (0:Int))) (some ((.int .i64 0),[(rB a 1 d (IntKind.i64.wrap (b-(1:Int)))),(.cells (a*4) (.rT [.str,.str,.bool,.bool] c) true)])) (some ((.int .i64 0),[(rB a 1 d b),(.cells (a*4) (.rT [.str,.str,.bool,.bool] c) true)]))))
theorem aVv F:bef F 1 a9l bec (aFc F):=fun _=>by kernel_rfl
def f66(F:Nat):VS→Rz:=aFc F
def r66:eP:=fun X H=>match X,H with
 | [(.ptr 0 0 3 0 0 0 3)],[(.cells 3 (.segs (.cons 1 (.one (.own 1 a0n 4)) (.cons 1 (.one (.bool a0o)) (.cons 1 (.one (.int .i64 a0l)) .nil)))) true),(.cells z1 (.rT [.str,.str,.bool,.bool] a0s) true)]=>some ((decide (a0n=a0s.length∧a0n < 8000)),(.int .i64 (Dk.rstep (Dk.R.mk a0s a0o a0l)).2),[(rB (Dk.rstep (Dk.R.mk a0s a0o a0l)).1.s.length 1 (Dk.rstep (Dk.R.mk a0s a0o a0l)).1.off (Dk.rstep (Dk.R.mk a0s a0o a0l)).1.left),(.cells ((Dk.rstep (Dk.R.mk a0s a0o a0l)).1.s.length*4) (.rT [.str,.str,.bool,.bool] (Dk.rstep (Dk.R.mk a0s a0o a0l)).1.s) true)])
 | _,_=>none
theorem s66(a0n:Nat)(a0s:List (List Li))(a0o:Bool)(a0l:Int)(hp:((decide (a0n=a0s.length∧a0n < 8000)))=true)(k0:okB (rB a0n 1 a0o a0l))(k1:okB (.cells (a0n*4) (.rT [.str,.str,.bool,.bool] a0s) true)):∃ F,f66 F (a0n,a0s,a0o,a0l)=some ((.int .i64 (Dk.rstep (Dk.R.mk a0s a0o a0l)).2),[(rB (Dk.rstep (Dk.R.mk a0s a0o a0l)).1.s.length 1 (Dk.rstep (Dk.R.mk a0s a0o a0l)).1.off (Dk.rstep (Dk.R.mk a0s a0o a0l)).1.left),(.cells ((Dk.rstep (Dk.R.mk a0s a0o a0l)).1.s.length*4) (.rT [.str,.str,.bool,.bool] (Dk.rstep (Dk.R.mk a0s a0o a0l)).1.s) true)]):=by
 rw [decide_eq_true_iff] at hp
 refine⟨0,?_⟩
 simp only [f66,aFc,Dk.rstep]
 rw [hp.1]
 cases (a0l==0)
 ·cases (decide (a0l > 0)) <;> rfl
 ·rfl
theorem c66:Ck 66 r66:=ck bed Tryz.func66 (by
 intro X H r H' h hX hH
 unfold r66 at h;split at h <;> try contradiction
 ·obtain⟨hp,rfl,rfl⟩:=ik h
  obtain rfl:=bh (hH _ hm1) rfl
  obtain rfl:=(of_decide_eq_true hp).1
  obtain⟨F,hF⟩:=s66 _ _ _ _ hp (hH _ hm0) (hH _ hm1)
  exact⟨_,abC (aVv F) hF⟩)
def beg:List hI:=[(63,[none,none],r63)]
def V55:Env:=dL fP dM beg
noncomputable abbrev beh:=ij V55 none (Tryz.f55).results.toList
theorem bei:EOk Tryz.prog V55:=bL (by exact⟨c63,trivial⟩)
def bej(F:Nat):Cuts:={ F:=F,at_:=fun _=>none,join:=fun _=>none }
abbrev bek(F n:Nat){σ:Type}(e:σ→St)(K:Ex→St→Rz)(N:σ→Rz):=Qe V55 (bej F) (bp Tryz.f55 n) e K N
def a9m:VT→St:=fun (a,b,c,d,e)=>hS [pS 0 0 3,iS 1 e] [rB a 1 c d,z2 a b] 38 2
def aFd(F:Nat):VT→Rz:=fun (e,a,b,c,d)=>(cond b (some ((.tup (.cons 0 (.str []) (.cons 0 (.int .i64 22) .nil))),[(rB e 1 b c),(.cells (e*4) (.rT [.str,.str,.bool,.bool] a) true)])) (cond (decide (e=a.length∧e < 8000)) (cond (!(Dk.ris (Dk.R.mk a b c) d)) (some ((.tup (.cons 0 (.str []) (.cons 0 (.int .i64 1) .nil))),[(rB (Dk.R.mk a b c).s.length 1 (Dk.R.mk a b c).off (Dk.R.mk a b c).left),(.cells ((Dk.R.mk a b c).s.length*4) (.rT [.str,.str,.bool,.bool] (Dk.R.mk a b c).s) true)])) (cond ((decide (0≤d))&&(decide (d < (↑(Dk.R.mk a b c).s.length:Int)))) (cond (((((Dk.R.mk a b c).s.getD (Int.toNat d) []).getD 2 []).getD 0 0)==1) (cond ((decide (0≤d))&&(decide (d < (↑(Dk.R.mk a b c).s.length:Int)))) (some ((.tup (.cons 0 (.str (((Dk.R.mk a b c).s.getD (Int.toNat d) []).getD 1 [])) (.cons 0 (.int .i64 0) .nil))),[(rB (Dk.R.mk a b c).s.length 1 (Dk.R.mk a b c).off (Dk.R.mk a b c).left),(.cells ((Dk.R.mk a b c).s.length*4) (.rT [.str,.str,.bool,.bool] (Dk.R.mk a b c).s) true)])) none) (cond ((decide (0≤d))&&(decide (d < (↑(Dk.R.mk a b c).s.length:Int)))) (some ((.tup (.cons 0 (.str (((Dk.R.mk a b c).s.getD (Int.toNat d) []).getD 0 [])) (.cons 0 (.int .i64 0) .nil))),[(rB (Dk.R.mk a b c).s.length 1 (Dk.R.mk a b c).off (Dk.R.mk a b c).left),(.cells ((Dk.R.mk a b c).s.length*4) (.rT [.str,.str,.bool,.bool] (Dk.R.mk a b c).s) true)])) none)) none)) none))
theorem aVw F:bek F 1 a9m beh (aFd F):=fun _=>by kernel_rfl
def f55(F:Nat):VT→Rz:=aFd F
def r55:eP:=fun X H=>match X,H with
 | [(.ptr 0 0 3 0 0 0 3),.int .i64 a1],[(.cells 3 (.segs (.cons 1 (.one (.own 1 a0n 4)) (.cons 1 (.one (.bool a0o)) (.cons 1 (.one (.int .i64 a0l)) .nil)))) true),(.cells z1 (.rT [.str,.str,.bool,.bool] a0s) true)]=>some ((decide (a0n=a0s.length∧a0n < 8000)),(.tup (.cons 0 (.str (Dk.rread (Dk.R.mk a0s a0o a0l) a1).1) (.cons 0 (.int .i64 (Dk.rread (Dk.R.mk a0s a0o a0l) a1).2) .nil))),[(rB (Dk.R.mk a0s a0o a0l).s.length 1 (Dk.R.mk a0s a0o a0l).off (Dk.R.mk a0s a0o a0l).left),(.cells ((Dk.R.mk a0s a0o a0l).s.length*4) (.rT [.str,.str,.bool,.bool] (Dk.R.mk a0s a0o a0l).s) true)])
 | _,_=>none
theorem s55(a0n:Nat)(a0s:List (List Li))(a0o:Bool)(a0l a1:Int)(hp:((decide (a0n=a0s.length∧a0n < 8000)))=true)(h1:okV (.int .i64 a1))(k0:okB (rB a0n 1 a0o a0l))(k1:okB (.cells (a0n*4) (.rT [.str,.str,.bool,.bool] a0s) true)):∃ F,f55 F (a0n,a0s,a0o,a0l,a1)=some ((.tup (.cons 0 (.str (Dk.rread (Dk.R.mk a0s a0o a0l) a1).1) (.cons 0 (.int .i64 (Dk.rread (Dk.R.mk a0s a0o a0l) a1).2) .nil))),[(rB (Dk.R.mk a0s a0o a0l).s.length 1 (Dk.R.mk a0s a0o a0l).off (Dk.R.mk a0s a0o a0l).left),(.cells ((Dk.R.mk a0s a0o a0l).s.length*4) (.rT [.str,.str,.bool,.bool] (Dk.R.mk a0s a0o a0l).s) true)]):=by
 refine⟨0,?_⟩
 simp only [f55,aFd,Dk.rread,hp,cond_true]
 rw [decide_eq_true_iff] at hp
 cases a0o
 ·cases h:Dk.ris (Dk.R.mk a0s false a0l) a1
  ·rfl
  ·have e:(decide (0≤a1)&&decide (a1 < (a0s.length:Int)))=true:=by rw [cH,decide_eq_true_iff];exact Dk.ris_iff.1 h
   simp only [e,cond_true,cond_false,Bool.not_true]
   cases hd:(((a0s.getD (Int.toNat a1) []).getD 2 []).getD 0 0==1) <;> simp only [Dk.fD,Dk.fN,Dk.fT,Dk.R.at,hd,cond_true,cond_false]
 ·rw [hp.1];rfl
theorem c55:Ck 55 r55:=ck bei Tryz.func55 (by
 intro X H r H' h hX hH
 unfold r55 at h;split at h <;> try contradiction
 ·obtain⟨hp,rfl,rfl⟩:=ik h
  obtain rfl:=bh (hH _ hm1) rfl
  obtain rfl:=(of_decide_eq_true hp).1
  obtain⟨F,hF⟩:=s55 _ _ _ _ _ hp (hX _ hm1) (hH _ hm0) (hH _ hm1)
  exact⟨_,abC (aVw F) hF⟩)
def bel:List hI:=[(63,[none,none],r63),(66,[none],r66)]
def V33:Env:=dL fP dM bel
noncomputable abbrev bem:=ij V33 none (Tryz.f33).results.toList
theorem ben:EOk Tryz.prog V33:=bL (by exact⟨c63,c66,trivial⟩)
def beo(F:Nat):Cuts:={ F:=F,at_:=fun _=>none,join:=fun _=>none }
abbrev bep(F n:Nat){σ:Type}(e:σ→St)(K:Ex→St→Rz)(N:σ→Rz):=Qe V33 (beo F) (bp Tryz.f33 n) e K N
def a9n:aVs→St:=fun (a,b,c,d,e,f)=>hS [pS 0 0 3,iS 1 e,(2,.str f)] [rB a 1 c d,z2 a b] 41 2
def aFe(F:Nat):aVs→Rz:=fun (e,a,b,c,d,f)=>(cond b (some ((.int .i64 22),[(rB e 1 b c),(.cells (e*4) (.rT [.str,.str,.bool,.bool] a) true)])) (cond (decide (e=a.length∧e < 8000)) (cond (!(Dk.ris (Dk.R.mk a b c) d)) (some ((.int .i64 1),[(rB (Dk.R.mk a b c).s.length 1 (Dk.R.mk a b c).off (Dk.R.mk a b c).left),(.cells ((Dk.R.mk a b c).s.length*4) (.rT [.str,.str,.bool,.bool] (Dk.R.mk a b c).s) true)])) (cond ((↑f.length:Int) != (64:Int)) (some ((.int .i64 1),[(rB (Dk.R.mk a b c).s.length 1 (Dk.R.mk a b c).off (Dk.R.mk a b c).left),(.cells ((Dk.R.mk a b c).s.length*4) (.rT [.str,.str,.bool,.bool] (Dk.R.mk a b c).s) true)])) (cond (decide ((Dk.R.mk a b c).s.length=(Dk.R.mk a b c).s.length∧(Dk.R.mk a b c).s.length < 8000)) (cond ((Dk.rstep (Dk.R.mk a b c)).2 != (0:Int)) (some ((.int .i64 (Dk.rstep (Dk.R.mk a b c)).2),[(rB (Dk.rstep (Dk.R.mk a b c)).1.s.length 1 (Dk.rstep (Dk.R.mk a b c)).1.off (Dk.rstep (Dk.R.mk a b c)).1.left),(.cells ((Dk.rstep (Dk.R.mk a b c)).1.s.length*4) (.rT [.str,.str,.bool,.bool] (Dk.rstep (Dk.R.mk a b c)).1.s) true)])) (cond ((decide (0≤d))&&(decide (d < (↑(Dk.rstep (Dk.R.mk a b c)).1.s.length:Int)))) (cond ((decide (0≤d))&&(decide (d < (↑(Dk.rstep (Dk.R.mk a b c)).1.s.length:Int)))) (some ((.int .i64 0),[(rB (Dk.rstep (Dk.R.mk a b c)).1.s.length 1 (Dk.rstep (Dk.R.mk a b c)).1.off (Dk.rstep (Dk.R.mk a b c)).1.left),(.cells ((Dk.rstep (Dk.R.mk a b c)).1.s.length*4) (.rT [.str,.str,.bool,.bool] (((Dk.rstep (Dk.R.mk a b c)).1.s.set (Int.toNat d) (pu ((Dk.rstep (Dk.R.mk a b c)).1.s.getD (Int.toNat d) []) 1 f)).set (Int.toNat d) (pu (((Dk.rstep (Dk.R.mk a b c)).1.s.set (Int.toNat d) (pu ((Dk.rstep (Dk.R.mk a b c)).1.s.getD (Int.toNat d) []) 1 f)).getD (Int.toNat d) []) 2 [1]))) true)])) none) none)) none))) none))
theorem aVx F:bep F 1 a9n bem (aFe F):=fun _=>by kernel_rfl
def f33(F:Nat):aVs→Rz:=aFe F
def r33:eP:=fun X H=>match X,H with
 | [(.ptr 0 0 3 0 0 0 3),.int .i64 a1,.str a2],[(.cells 3 (.segs (.cons 1 (.one (.own 1 a0n 4)) (.cons 1 (.one (.bool a0o)) (.cons 1 (.one (.int .i64 a0l)) .nil)))) true),(.cells z1 (.rT [.str,.str,.bool,.bool] a0s) true)]=>some ((decide (a0n=a0s.length∧a0n < 8000)),(.int .i64 (Dk.rwrite (Dk.R.mk a0s a0o a0l) a1 a2).2),[(rB (Dk.rwrite (Dk.R.mk a0s a0o a0l) a1 a2).1.s.length 1 (Dk.rwrite (Dk.R.mk a0s a0o a0l) a1 a2).1.off (Dk.rwrite (Dk.R.mk a0s a0o a0l) a1 a2).1.left),(.cells ((Dk.rwrite (Dk.R.mk a0s a0o a0l) a1 a2).1.s.length*4) (.rT [.str,.str,.bool,.bool] (Dk.rwrite (Dk.R.mk a0s a0o a0l) a1 a2).1.s) true)])
 | _,_=>none
theorem s33(a0n:Nat)(a0s:List (List Li))(a0o:Bool)(a0l a1:Int)(a2:Li)(hp:((decide (a0n=a0s.length∧a0n < 8000)))=true)(h1:okV (.int .i64 a1))(h2:okV (.str a2))(k0:okB (rB a0n 1 a0o a0l))(k1:okB (.cells (a0n*4) (.rT [.str,.str,.bool,.bool] a0s) true)):∃ F,f33 F (a0n,a0s,a0o,a0l,a1,a2)=some ((.int .i64 (Dk.rwrite (Dk.R.mk a0s a0o a0l) a1 a2).2),[(rB (Dk.rwrite (Dk.R.mk a0s a0o a0l) a1 a2).1.s.length 1 (Dk.rwrite (Dk.R.mk a0s a0o a0l) a1 a2).1.off (Dk.rwrite (Dk.R.mk a0s a0o a0l) a1 a2).1.left),(.cells ((Dk.rwrite (Dk.R.mk a0s a0o a0l) a1 a2).1.s.length*4) (.rT [.str,.str,.bool,.bool] (Dk.rwrite (Dk.R.mk a0s a0o a0l) a1 a2).1.s) true)]):=by
 refine⟨0,?_⟩
 simp only [f33,aFe,Dk.rwrite,hp,cond_true]
 rw [decide_eq_true_iff] at hp
 cases a0o
 ·simp only [cond_false]
  have hs:decide (True∧a0s.length < 8000)=true:=by
   rw [decide_eq_true_iff];exact⟨trivial,by rw [← hp.1];exact hp.2⟩
  rw [hs]
  cases h:Dk.ris (Dk.R.mk a0s false a0l) a1
  ·rfl
  ·have e:(decide (0≤a1)&&decide (a1 < ((Dk.rstep (Dk.R.mk a0s false a0l)).1.s.length:Int)))=true:=by
    rw [Dk.rstep_same,cH,decide_eq_true_iff];exact Dk.ris_iff.1 h
   simp only [e,cond_true,cond_false,Bool.not_true]
   cases ((a2.length:Int) != 64)
   ·cases ((Dk.rstep (Dk.R.mk a0s false a0l)).2 != 0)
    ·simp only [cond_false,Dk.wput,List.length_set]
    ·rfl
   ·rfl
 ·rw [hp.1];rfl
theorem c33:Ck 33 r33:=ck ben Tryz.func33 (by
 intro X H r H' h hX hH
 unfold r33 at h;split at h <;> try contradiction
 ·obtain⟨hp,rfl,rfl⟩:=ik h
  obtain rfl:=bh (hH _ hm1) rfl
  obtain rfl:=(of_decide_eq_true hp).1
  obtain⟨F,hF⟩:=s33 _ _ _ _ _ _ hp (hX _ hm1) (hX _ hm2) (hH _ hm0) (hH _ hm1)
  exact⟨_,abC (aVx F) hF⟩)
def ber:List hI:=[]
def V62:Env:=dL fP dM ber
noncomputable abbrev bes:=ij V62 none (Tryz.f62).results.toList
theorem bet:EOk Tryz.prog V62:=bL (by exact trivial)
def beu(F:Nat):Cuts:={ F:=F,at_:=fun _=>none,join:=fun _=>none }
abbrev bev(F n:Nat){σ:Type}(e:σ→St)(K:Ex→St→Rz)(N:σ→Rz):=Qe V62 (beu F) (bp Tryz.f62 n) e K N
def a9o:aoO→St:=fun (a,b,c,d,e,f)=>hS [pS 0 0 3,iS 1 e,iS 2 f] [rB a 1 c d,z2 a b] 39 2
def aF6(F:Nat):aoO→Rz:=fun (d,c,e,f,b,a)=>(cond ((decide (0≤b))&&(decide (b < (↑d:Int)))) (cond (!((((c.getD (Int.toNat b) []).getD 3 []).getD 0 0)==1)) (cond ((decide ((0:Int)≤(if (if (64:Int) < a then (64:Int) else a) > (0:Int) then (if (64:Int) < a then (64:Int) else a) else (0:Int))))&&(decide ((if (if (64:Int) < a then (64:Int) else a) > (0:Int) then (if (64:Int) < a then (64:Int) else a) else (0:Int))≤(↑((c.getD (Int.toNat b) []).getD 1 []).length:Int)))) (cond (((decide (0≤(if (if (64:Int) < a then (64:Int) else a) > (0:Int) then (if (64:Int) < a then (64:Int) else a) else (0:Int))))&&(decide ((if (if (64:Int) < a then (64:Int) else a) > (0:Int) then (if (64:Int) < a then (64:Int) else a) else (0:Int))≤(↑((c.getD (Int.toNat b) []).getD 0 []).length:Int))))&&(decide ((↑((c.getD (Int.toNat b) []).getD 0 []).length:Int)≤(↑((c.getD (Int.toNat b) []).getD 0 []).length:Int)))) (cond (decide (((((c.getD (Int.toNat b) []).getD 1 []).take (Int.toNat (if (if (64:Int) < a then (64:Int) else a) > (0:Int) then (if (64:Int) < a then (64:Int) else a) else (0:Int)))).length+((((c.getD (Int.toNat b) []).getD 0 []).take ((c.getD (Int.toNat b) []).getD 0 []).length).drop (Int.toNat (if (if (64:Int) < a then (64:Int) else a) > (0:Int) then (if (64:Int) < a then (64:Int) else a) else (0:Int)))).length) < 4611686018427387904)) (cond ((decide (0≤b))&&(decide (b < (↑d:Int)))) (some ((.tup .nil),[(rB d 1 e f),(.cells (d*4) (.rT [.str,.str,.bool,.bool] (c.set (Int.toNat b) [((((c.getD (Int.toNat b) []).getD 1 []).take (Int.toNat (if (if (64:Int) < a then (64:Int) else a) > (0:Int) then (if (64:Int) < a then (64:Int) else a) else (0:Int))))++((((c.getD (Int.toNat b) []).getD 0 []).take ((c.getD (Int.toNat b) []).getD 0 []).length).drop (Int.toNat (if (if (64:Int) < a then (64:Int) else a) > (0:Int) then (if (64:Int) < a then (64:Int) else a) else (0:Int))))),[],[0],[(cond ((((c.getD (Int.toNat b) []).getD 3 []).getD 0 0)==1) 1 0)]])) true)])) none) none) none) none) (cond ((decide (0≤b))&&(decide (b < (↑d:Int)))) (some ((.tup .nil),[(rB d 1 e f),(.cells (d*4) (.rT [.str,.str,.bool,.bool] (c.set (Int.toNat b) [((c.getD (Int.toNat b) []).getD 0 []),[],[0],[(cond ((((c.getD (Int.toNat b) []).getD 3 []).getD 0 0)==1) 1 0)]])) true)])) none)) none)
theorem aVy F:bev F 1 a9o bes (aF6 F):=fun _=>by kernel_rfl
def f62(F:Nat):aoO→Rz:=aF6 F
def r62:eP:=fun X H=>match X,H with
 | [(.ptr 0 0 3 0 0 0 3),.int .i64 a1,.int .i64 a2],[(.cells 3 (.segs (.cons 1 (.one (.own 1 a0n 4)) (.cons 1 (.one (.bool a0o)) (.cons 1 (.one (.int .i64 a0l)) .nil)))) true),(.cells z1 (.rT [.str,.str,.bool,.bool] a0s) true)]=>some ((decide (a0n=a0s.length∧a0n < 8000))&&((Dk.ris (Dk.R.mk a0s a0o a0l) a1)&&(Dk.rlen (Dk.R.mk a0s a0o a0l) a1)),.tup .nil,[(rB (Dk.rsettle (Dk.R.mk a0s a0o a0l) a1 a2).s.length 1 (Dk.rsettle (Dk.R.mk a0s a0o a0l) a1 a2).off (Dk.rsettle (Dk.R.mk a0s a0o a0l) a1 a2).left),(.cells ((Dk.rsettle (Dk.R.mk a0s a0o a0l) a1 a2).s.length*4) (.rT [.str,.str,.bool,.bool] (Dk.rsettle (Dk.R.mk a0s a0o a0l) a1 a2).s) true)])
 | _,_=>none
theorem s62(a0n:Nat)(a0s:List (List Li))(a0o:Bool)(a0l a1 a2:Int)(hp:((decide (a0n=a0s.length∧a0n < 8000))&&((Dk.ris (Dk.R.mk a0s a0o a0l) a1)&&(Dk.rlen (Dk.R.mk a0s a0o a0l) a1)))=true)(h1:okV (.int .i64 a1))(h2:okV (.int .i64 a2))(k0:okB (rB a0n 1 a0o a0l))(k1:okB (.cells (a0n*4) (.rT [.str,.str,.bool,.bool] a0s) true)):∃ F,f62 F (a0n,a0s,a0o,a0l,a1,a2)=some ((.tup .nil),[(rB (Dk.rsettle (Dk.R.mk a0s a0o a0l) a1 a2).s.length 1 (Dk.rsettle (Dk.R.mk a0s a0o a0l) a1 a2).off (Dk.rsettle (Dk.R.mk a0s a0o a0l) a1 a2).left),(.cells ((Dk.rsettle (Dk.R.mk a0s a0o a0l) a1 a2).s.length*4) (.rT [.str,.str,.bool,.bool] (Dk.rsettle (Dk.R.mk a0s a0o a0l) a1 a2).s) true)]):=by
 rw [Bool.and_eq_true,Bool.and_eq_true,decide_eq_true_iff] at hp
 obtain⟨⟨hn,hlt⟩,hr,hl⟩:=hp
 have hl:((a0s.getD (Int.toNat a1) []).getD 0 []).length=64∧((a0s.getD (Int.toNat a1) []).getD 1 []).length=64:=of_decide_eq_true hl
 have hc:(0:Int)≤(if (if 64 < a2 then 64 else a2) > 0 then (if 64 < a2 then 64 else a2) else 0)∧(if (if 64 < a2 then 64 else a2) > 0 then (if 64 < a2 then 64 else a2) else 0)≤64:=by
  constructor <;> (split <;> (try split) <;> omega)
 have hk:Dk.clamp a2=Int.toNat (if (if 64 < a2 then 64 else a2) > 0 then (if 64 < a2 then 64 else a2) else 0):=rfl
 refine⟨0,?_⟩
 simp only [f62,aF6,Dk.rsettle,Dk.settled,Dk.R.at,Dk.fW,Dk.fN,Dk.fT,hk]
 generalize (if (if 64 < a2 then 64 else a2) > 0 then (if 64 < a2 then 64 else a2) else 0)=c at hc
 have e:(decide (0≤a1)&&decide (a1 < (a0n:Int)))=true:=by rw [cH,decide_eq_true_iff,hn];exact Dk.ris_iff.1 hr
 have e1:(decide (0≤c)&&decide (c≤(((a0s.getD (Int.toNat a1) []).getD 1 []).length:Int)))=true:=by rw [cH,decide_eq_true_iff,hl.2];omega
 have e2:((decide (0≤c)&&decide (c≤(((a0s.getD (Int.toNat a1) []).getD 0 []).length:Int)))&&decide ((((a0s.getD (Int.toNat a1) []).getD 0 []).length:Int)≤(((a0s.getD (Int.toNat a1) []).getD 0 []).length:Int)))=true:=by
  rw [cH,cH,decide_eq_true_iff,hl.1];omega
 have e3:decide (((((a0s.getD (Int.toNat a1) []).getD 1 []).take (Int.toNat c)).length+(((a0s.getD (Int.toNat a1) []).getD 0 []).drop (Int.toNat c)).length) < 4611686018427387904)=true:=by
  rw [decide_eq_true_iff];simp only [List.length_take,List.length_drop,hl.1,hl.2];omega
 simp only [List.take_length]
 simp only [e,e1,e2,e3,cond_true,List.length_set]
 cases (((a0s.getD (Int.toNat a1) []).getD 3 []).getD 0 0==1) <;> simp only [Bool.not_true,Bool.not_false,cond_true,cond_false,hn]
theorem c62:Ck 62 r62:=ck bet Tryz.func62 (by
 intro X H r H' h hX hH
 unfold r62 at h;split at h <;> try contradiction
 ·obtain⟨hp,rfl,rfl⟩:=ik h
  obtain rfl:=bh (hH _ hm1) rfl
  obtain rfl:=(of_decide_eq_true (Bool.and_eq_true_iff.1 hp).1).1
  obtain⟨F,hF⟩:=s62 _ _ _ _ _ _ hp (hX _ hm1) (hX _ hm2) (hH _ hm0) (hH _ hm1)
  exact⟨_,abC (aVy F) hF⟩)
def bew:List hI:=[(62,[none,none,none],r62),(66,[none],r66)]
def V61:Env:=dL fP dM bew
noncomputable abbrev Kr:=ij V61 none (Tryz.f61).results.toList
theorem bex:EOk Tryz.prog V61:=bL (by exact⟨c62,c66,trivial⟩)
def bey(F:Nat):Cuts:={ F:=F,at_:=fun n=>match n with | 7014=>some YX | _=>none,join:=fun n=>match n with | 1040=>some q8 | 3032=>some q8 | 4030=>some xe | 6022=>some q8 | 7016=>some YX | 11003=>some [] | _=>none }
abbrev Ks(F n:Nat){σ:Type}(e:σ→St)(K:Ex→St→Rz)(N:σ→Rz):=Qe V61 (bey F) (bp Tryz.f61 n) e K N
def aLV:VS→St:=fun (a,b,c,d)=>hS [pS 0 0 3] [rB a 1 c d,z2 a b] 34 2
def ahi:u6→St:=fun (a,b,c,d)=>hS [pS 0 0 3] [rB a 1 b c,z2 a d] 34 2
def awr:u6→St:=ahi
def aws:D1→St:=fun (b,a,c,d,e)=>hS [pS 0 0 3,iS 3 b] [rB a 1 c d,z2 a e] 34 2
def al1:u6→St:=ahi
def al2:D1→St:=fun (b,a,c,d,e)=>hS [pS 0 0 3,iS 4 b] [rB a 1 c d,z2 a e] 34 2
def aLW:D1→St:=al2
def Vw:u6→St:=fun (a,b,c,d)=>hS [] [rB a 1 b c,z2 a d] 34 2
def ary(F:Nat)(a:u6→Rz):VS→Rz:=fun (b,c,d,e)=>(a (b,d,e,c))
theorem aVz F Rj1:Ks F 2 aLV (kq V61 Rj1 q8 Kr) (ary F (Rj1∘ahi)):=fun _=>by kernel_rfl
def arz(F:Nat)(e:u6→Rz):u6→Rz:=fun (a,b,c,d)=>(cond b (some ((.int .i64 22),[(rB a 1 b c),(.cells (a*4) (.rT [.str,.str,.bool,.bool] d) true)])) (e (a,b,c,d)))
theorem aVA F Rj2:Ks F 6 ahi (kq V61 Rj2 q8 Kr) (arz F (Rj2∘awr)):=fun _=>by kernel_rfl
def arA(F:Nat)(e:D1→Rz):u6→Rz:=fun (d,b,c,a)=>(cond (decide (d=a.length∧d < 8000)) (e ((Dk.rstep (Dk.R.mk a b c)).2,(Dk.rstep (Dk.R.mk a b c)).1.s.length,(Dk.rstep (Dk.R.mk a b c)).1.off,(Dk.rstep (Dk.R.mk a b c)).1.left,(Dk.rstep (Dk.R.mk a b c)).1.s)) none)
theorem aVB F Rj3:Ks F 14 awr (kq V61 Rj3 xe Kr) (arA F (Rj3∘aws)):=fun _=>by kernel_rfl
def arB(F:Nat)(f:u6→Rz):D1→Rz:=fun (b,a,c,d,e)=>(cond (b != (0:Int)) (some ((.int .i64 b),[(rB a 1 c d),(.cells (a*4) (.rT [.str,.str,.bool,.bool] e) true)])) (f (a,c,d,e)))
theorem aVC F Rj4:Ks F 30 aws (kq V61 Rj4 q8 Kr) (arB F (Rj4∘al1)):=fun _=>by kernel_rfl
def arC(F:Nat)(a:D1→Rz)(f:u6→Rz):u6→Rz:=fun (b,c,d,e)=>(a ((0:Int),b,c,d,e))
theorem aVD F Rj5 Rj6:Ks F 124 al1 (kq V61 Rj5 YX (kq V61 Rj6 [] Kr)) (arC F (Rj5∘al2) (Rj6∘Vw)):=fun _=>by kernel_rfl
def al3(F:Nat)(f:D1→Rz)(g:u6→Rz):D1→Rz:=fun (a,e,c,d,b)=>(cond (decide (a < (↑e:Int))) (cond ((decide (0≤a))&&(decide (a < (↑e:Int)))) (cond ((((b.getD (Int.toNat a) []).getD 2 []).getD 0 0)==1) (cond ((decide (e=b.length∧e < 8000))&&((Dk.ris (Dk.R.mk b c d) a)&&(Dk.rlen (Dk.R.mk b c d) a))) (f ((IntKind.i64.wrap (a+(1:Int))),(Dk.rsettle (Dk.R.mk b c d) a (64:Int)).s.length,(Dk.rsettle (Dk.R.mk b c d) a (64:Int)).off,(Dk.rsettle (Dk.R.mk b c d) a (64:Int)).left,(Dk.rsettle (Dk.R.mk b c d) a (64:Int)).s)) none) (f ((IntKind.i64.wrap (a+(1:Int))),e,c,d,b))) none) (g (e,c,d,b)))
theorem aVE F Rl1 Rj6:Ks F 500 aLW (kq V61 Rl1 YX (aV 0 (kq V61 Rj6 [] Kr))) (al3 F (Rl1∘aLW) (Rj6∘Vw)):=fun _=>by kernel_rfl
def aoP:D1→Int×Nat×Bool×Int×(List (List Li)):=fun (a,b,c,d,e)=>(a,b,c,d,e)
def aF7(F:Nat)(a:u6→Rz):D1→Rz:=fun v=>eT (fun k=>al3 F k a) F (aoP v)
theorem aVF F Rj6:Ks F 250 al2 (aV 0 (kq V61 Rj6 [] Kr)) (aF7 F (Rj6∘Vw)):=lpC aoP (fun k=>al3 F k (Rj6∘Vw)) (fun Rl1=>aVE F Rl1 Rj6)
def aF8(F:Nat)(a):=aF7 F a
theorem aVG F Rj6:Ks F 125 al2 (kq V61 Rj6 [] Kr) (aF8 F (Rj6∘Vw)):=biC (aVF F Rj6)
def arD(F:Nat)(a):=arC F (aF8 F a) a
theorem aVH F Rj6:Ks F 62 al1 (kq V61 Rj6 [] Kr) (arD F (Rj6∘Vw)):=sqC (fun k=>arC F k (Rj6∘Vw)) (fun Rj5=>aVD F Rj5 Rj6) (aVG F Rj6)
def aLX(F:Nat):u6→Rz:=fun (a,b,c,d)=>(some ((.int .i64 0),[(rB a 1 b c),(.cells (a*4) (.rT [.str,.str,.bool,.bool] d) true)]))
theorem aLY F:Ks F 63 Vw Kr (aLX F):=fun _=>by kernel_rfl
def awt(F:Nat):=arD F (aLX F)
theorem aLZ F:Ks F 31 al1 Kr (awt F):=sqC (arD F) (fun Rj6=>aVH F Rj6) (aLY F)
def awu(F:Nat):=arB F (awt F)
theorem aL0 F:Ks F 15 aws Kr (awu F):=sqC (arB F) (fun Rj4=>aVC F Rj4) (aLZ F)
def awv(F:Nat):=arA F (awu F)
theorem aL1 F:Ks F 7 awr Kr (awv F):=sqC (arA F) (fun Rj3=>aVB F Rj3) (aL0 F)
def aww(F:Nat):=arz F (awv F)
theorem aL2 F:Ks F 3 ahi Kr (aww F):=sqC (arz F) (fun Rj2=>aVA F Rj2) (aL1 F)
def awx(F:Nat):=ary F (aww F)
theorem aL3 F:Ks F 1 aLV Kr (awx F):=sqC (ary F) (fun Rj1=>aVz F Rj1) (aL2 F)
def f61(F:Nat):VS→Rz:=awx F
def r61:eP:=fun X H=>match X,H with
 | [(.ptr 0 0 3 0 0 0 3)],[(.cells 3 (.segs (.cons 1 (.one (.own 1 a0n 4)) (.cons 1 (.one (.bool a0o)) (.cons 1 (.one (.int .i64 a0l)) .nil)))) true),(.cells z1 (.rT [.str,.str,.bool,.bool] a0s) true)]=>some ((decide (a0n=a0s.length∧a0n < 8000))&&((Dk.rfine (Dk.R.mk a0s a0o a0l))),(.int .i64 (Dk.rflush (Dk.R.mk a0s a0o a0l)).2),[(rB (Dk.rflush (Dk.R.mk a0s a0o a0l)).1.s.length 1 (Dk.rflush (Dk.R.mk a0s a0o a0l)).1.off (Dk.rflush (Dk.R.mk a0s a0o a0l)).1.left),(.cells ((Dk.rflush (Dk.R.mk a0s a0o a0l)).1.s.length*4) (.rT [.str,.str,.bool,.bool] (Dk.rflush (Dk.R.mk a0s a0o a0l)).1.s) true)])
 | _,_=>none
theorem s61(a0n:Nat)(a0s:List (List Li))(a0o:Bool)(a0l:Int)(hp:((decide (a0n=a0s.length∧a0n < 8000))&&((Dk.rfine (Dk.R.mk a0s a0o a0l))))=true)(k0:okB (rB a0n 1 a0o a0l))(k1:okB (.cells (a0n*4) (.rT [.str,.str,.bool,.bool] a0s) true)):∃ F,f61 F (a0n,a0s,a0o,a0l)=some ((.int .i64 (Dk.rflush (Dk.R.mk a0s a0o a0l)).2),[(rB (Dk.rflush (Dk.R.mk a0s a0o a0l)).1.s.length 1 (Dk.rflush (Dk.R.mk a0s a0o a0l)).1.off (Dk.rflush (Dk.R.mk a0s a0o a0l)).1.left),(.cells ((Dk.rflush (Dk.R.mk a0s a0o a0l)).1.s.length*4) (.rT [.str,.str,.bool,.bool] (Dk.rflush (Dk.R.mk a0s a0o a0l)).1.s) true)]):=by
 rw [Bool.and_eq_true,decide_eq_true_iff] at hp
 obtain⟨⟨hn,hlt⟩,hf⟩:=hp
 have hg:=Dk.rfine_iff.1 hf
 subst hn
 refine⟨a0s.length+1,?_⟩
 simp only [f61,awx,ary,aww,arz,awv,arA,awu,arB,awt,arD,arC,aF8,aF7,aoP]
 cases a0o
 ·have e0:decide (True∧a0s.length < 8000)=true:=by rw [decide_eq_true_iff];exact⟨trivial,hlt⟩
  simp only [cond_false]
  rw [e0,cond_true]
  generalize hr:Dk.R.mk a0s false a0l=r at hg
  have hs:a0s=r.s:=by rw [← hr]
  have ho:r.off=false:=by rw [← hr]
  have hs1:=Dk.rstep_same r
  cases hst:((Dk.rstep r).2 != 0)
  ·have ef:Dk.rflush r=(Dk.rflushK (Dk.rstep r).1 r.s.length,0):=by simp only [Dk.rflush,ho,hst,cond_false]
   rw [ef,cond_false]
   have hg1:Dk.RGood (Dk.rstep r).1:=by unfold Dk.RGood;rw [hs1];exact hg
   generalize (Dk.rstep r).1=e at hs1 hg1
   have hes:=congrArg List.length hs1
   have hsl:=congrArg List.length hs
   refine iR (fun k=>((k:Int),(Dk.rflushK e k).s.length,(Dk.rflushK e k).off,(Dk.rflushK e k).left,(Dk.rflushK e k).s)) r.s.length (by rfl) (fun k hk K=>?_) (fun K=>?_) (a0s.length+1) (by omega)
   ·obtain⟨q1,q2⟩:=Dk.rflushK_good hg1 k (by omega)
    have q3:=q1.1
    have e1:(decide (0≤(k:Int))&&decide ((k:Int) < ((Dk.rflushK e k).s.length:Int)))=true:=by rw [cH,decide_eq_true_iff];omega
    simp only [al3,e1,cond_true,bM (show -9223372036854775808≤(k:Int)+1 by omega) (by omega),Int.toNat_natCast]
    rw [aK (show(k:Int) < ((Dk.rflushK e k).s.length:Int) by omega),Dk.rflushK_succ]
    cases hd:((((Dk.rflushK e k).s.getD k []).getD 2 []).getD 0 0==1)
    ·have hd':Dk.fD ((Dk.rflushK e k).at k)=false:=hd
     rw [hd'];rfl
    ·have hd':Dk.fD ((Dk.rflushK e k).at k)=true:=hd
     have e2:(decide (True∧(Dk.rflushK e k).s.length < 8000)&&(Dk.ris (Dk.R.mk (Dk.rflushK e k).s (Dk.rflushK e k).off (Dk.rflushK e k).left) k&&Dk.rlen (Dk.R.mk (Dk.rflushK e k).s (Dk.rflushK e k).off (Dk.rflushK e k).left) k))=true:=by
      rw [Bool.and_eq_true,Bool.and_eq_true,decide_eq_true_iff]
      exact⟨⟨trivial,q3⟩,Dk.ris_iff.2 ⟨by omega,show(k:Int) < ((Dk.rflushK e k).s.length:Int) by omega⟩,Dk.rlen_of q1 (by omega) hd'⟩
     rw [hd',e2];rfl
   ·simp only [al3]
    obtain⟨q1,q2⟩:=Dk.rflushK_good hg1 r.s.length (by omega)
    rw [ba (by omega)]
    rfl
  ·have ef:Dk.rflush r=Dk.rstep r:=by simp only [Dk.rflush,ho,hst,cond_false,cond_true]
   rw [ef];rfl
 ·rfl
theorem c61:Ck 61 r61:=ck bex Tryz.func61 (by
 intro X H r H' h hX hH
 unfold r61 at h;split at h <;> try contradiction
 ·obtain⟨hp,rfl,rfl⟩:=ik h
  obtain rfl:=bh (hH _ hm1) rfl
  obtain rfl:=(of_decide_eq_true (Bool.and_eq_true_iff.1 hp).1).1
  obtain⟨F,hF⟩:=s61 _ _ _ _ hp (hH _ hm0) (hH _ hm1)
  exact⟨_,abC (aL3 F) hF⟩)
def bez:List hI:=[]
def V21:Env:=dL fP dM bez
noncomputable abbrev Qr:=ij V21 none (Tryz.f21).results.toList
theorem beA:EOk Tryz.prog V21:=bL (by exact trivial)
def beB(F:Nat):Cuts:={ F:=F,at_:=fun n=>match n with | 5010=>some VQ | _=>none,join:=fun n=>match n with | 1028=>some q8 | 3020=>some q8 | 4018=>some YX | 5012=>some VQ | 8003=>some [(4,.plain)] | _=>none }
abbrev Qs(F n:Nat){σ:Type}(e:σ→St)(K:Ex→St→Rz)(N:σ→Rz):=Qe V21 (beB F) (bp Tryz.f21 n) e K N
def aL4:Int→St:=fun a=>hS [iS 0 a] [] 32 0
def al4:Int→St:=fun a=>hS [iS 0 a] [] 32 0
def awy:Int→St:=al4
def al5:D1→St:=fun (b,a,c,d,e)=>hS [iS 0 b,pS 4 0 3] [rB a 1 c d,z2 a e] 32 0
def al6:P7→St:=fun (b,c,a,d,e,f)=>hS [iS 0 b,pS 4 0 3,iS 5 c] [rB a 1 d e,z2 a f] 32 0
def aL5:P7→St:=al6
def Vx:u6→St:=fun (a,b,c,d)=>hS [pS 4 0 3] [rB a 1 b c,z2 a d] 32 0
def arE(F:Nat)(a:Int→Rz):Int→Rz:=fun b=>(a b)
theorem aVI F Rj1:Qs F 2 aL4 (kq V21 Rj1 q8 Qr) (arE F (Rj1∘al4)):=fun _=>by kernel_rfl
def arF(F:Nat)(b:Int→Rz):Int→Rz:=fun a=>(cond (decide (a < (1:Int))) (some ((.tup (.cons 0 .nilp (.cons 0 (.int .i64 1) .nil))),[])) (cond (decide (a > (4096:Int))) (some ((.tup (.cons 0 .nilp (.cons 0 (.int .i64 1) .nil))),[])) (b a)))
theorem aVJ F Rj2:Qs F 6 al4 (kq V21 Rj2 q8 Qr) (arF F (Rj2∘awy)):=fun _=>by kernel_rfl
def arG(F:Nat)(a:D1→Rz):Int→Rz:=fun b=>(a (b,0,false,(-1:Int),[]))
theorem aVK F Rj3:Qs F 14 awy (kq V21 Rj3 YX Qr) (arG F (Rj3∘al5)):=fun _=>by kernel_rfl
def arH(F:Nat)(a:P7→Rz)(g:u6→Rz):D1→Rz:=fun (b,c,d,e,f)=>(a (b,(0:Int),c,d,e,f))
theorem aVL F Rj4 Rj5:Qs F 60 al5 (kq V21 Rj4 VQ (kq V21 Rj5 [(4,.plain)] Qr)) (arH F (Rj4∘al6) (Rj5∘Vx)):=fun _=>by kernel_rfl
def al7(F:Nat)(g:P7→Rz)(h:u6→Rz):P7→Rz:=fun (b,c,a,d,e,f)=>(cond (decide (c < b)) (cond (decide ((a+1) < 1073741824)) (g (b,(IntKind.i64.wrap (c+(1:Int))),(a+1),d,e,(f++[[(List.replicate 64 0),[],[0],[0]]]))) none) (h (a,d,e,f)))
theorem aVM F Rl1 Rj5:Qs F 244 aL5 (kq V21 Rl1 VQ (aV 0 (kq V21 Rj5 [(4,.plain)] Qr))) (al7 F (Rl1∘aL5) (Rj5∘Vx)):=fun _=>by kernel_rfl
def aoQ:P7→Int×Int×Nat×Bool×Int×(List (List Li)):=fun (a,b,c,d,e,f)=>(a,b,c,d,e,f)
def aF9(F:Nat)(a:u6→Rz):P7→Rz:=fun v=>eT (fun k=>al7 F k a) F (aoQ v)
theorem aVN F Rj5:Qs F 122 al6 (aV 0 (kq V21 Rj5 [(4,.plain)] Qr)) (aF9 F (Rj5∘Vx)):=lpC aoQ (fun k=>al7 F k (Rj5∘Vx)) (fun Rl1=>aVM F Rl1 Rj5)
def aGa(F:Nat)(a):=aF9 F a
theorem aVO F Rj5:Qs F 61 al6 (kq V21 Rj5 [(4,.plain)] Qr) (aGa F (Rj5∘Vx)):=biC (aVN F Rj5)
def arI(F:Nat)(a):=arH F (aGa F a) a
theorem aVP F Rj5:Qs F 30 al5 (kq V21 Rj5 [(4,.plain)] Qr) (arI F (Rj5∘Vx)):=sqC (fun k=>arH F k (Rj5∘Vx)) (fun Rj4=>aVL F Rj4 Rj5) (aVO F Rj5)
def arJ(F:Nat):u6→Rz:=fun (a,b,c,d)=>(some ((.tup (.cons 0 (.ptr 0 0 3 0 0 0 3) (.cons 0 (.int .i64 0) .nil))),[(rB a 1 b c),(.cells (a*4) (.rT [.str,.str,.bool,.bool] d) true)]))
theorem aVQ F:Qs F 31 Vx Qr (arJ F):=fun _=>by kernel_rfl
def awz(F:Nat):=arI F (arJ F)
theorem aL6 F:Qs F 15 al5 Qr (awz F):=sqC (arI F) (fun Rj5=>aVP F Rj5) (aVQ F)
def awA(F:Nat):=arG F (awz F)
theorem aL7 F:Qs F 7 awy Qr (awA F):=sqC (arG F) (fun Rj3=>aVK F Rj3) (aL6 F)
def awB(F:Nat):=arF F (awA F)
theorem aL8 F:Qs F 3 al4 Qr (awB F):=sqC (arF F) (fun Rj2=>aVJ F Rj2) (aL7 F)
def awC(F:Nat):=arE F (awB F)
theorem aL9 F:Qs F 1 aL4 Qr (awC F):=sqC (arE F) (fun Rj1=>aVI F Rj1) (aL8 F)
def f21(F:Nat):Int→Rz:=awC F
def r21:eP:=fun X H=>match X,H with
 | [(.int .i64 a0)],[]=>some ((decide (0 < a0))&&(decide (a0 < 4097)),(.tup (.cons 0 (.ptr 0 0 3 0 0 0 3) (.cons 0 (.int .i64 0) .nil))),[(rB (Dk.rnew a0).s.length 1 (Dk.rnew a0).off (Dk.rnew a0).left),(.cells ((Dk.rnew a0).s.length*4) (.rT [.str,.str,.bool,.bool] (Dk.rnew a0).s) true)])
 | _,_=>none
theorem s21(a0:Int)(hp:((decide (0 < a0))&&(decide (a0 < 4097)))=true)(h0:okV (.int .i64 a0)):∃ F,f21 F a0=some ((.tup (.cons 0 (.ptr 0 0 3 0 0 0 3) (.cons 0 (.int .i64 0) .nil))),[(rB (Dk.rnew a0).s.length 1 (Dk.rnew a0).off (Dk.rnew a0).left),(.cells ((Dk.rnew a0).s.length*4) (.rT [.str,.str,.bool,.bool] (Dk.rnew a0).s) true)]):=by
 rw [cH,decide_eq_true_iff] at hp
 obtain⟨n,rfl⟩:∃ n:Nat,a0=(n:Int):=⟨a0.toNat,by omega⟩
 refine⟨n+1,?_⟩
 simp only [f21,awC,arE,awB,arF,awA,arG,awz,arI,arJ,arH,aGa,aF9,aoQ]
 rw [ba (by omega),ba (by omega)]
 refine iR (fun k=>((n:Int),(k:Int),k,false,(-1:Int),List.replicate k [List.replicate 64 0,[],[0],[0]])) n (by rfl) (fun k hk K=>?_) (fun K=>?_) (n+1) (by omega)
 ·simp only [al7,bM (show -9223372036854775808≤(k:Int)+1 by omega) (by omega)]
  have e:List.replicate (k+1) ([List.replicate 64 0,[],[0],[0]]:List Li)=List.replicate k [List.replicate 64 0,[],[0],[0]]++[[List.replicate 64 0,[],[0],[0]]]:=List.replicate_succ'
  rw [aK (show(k:Int) < (n:Int) by omega),aK (by omega),e]
  rfl
 ·simp only [al7]
  rw [ba (by omega)]
  simp only [arJ,Dk.rnew,Int.toNat_natCast,List.length_replicate]
theorem c21:Ck 21 r21:=ck beA Tryz.func21 (by
 intro X H r H' h hX hH
 unfold r21 at h;split at h <;> try contradiction
 ·obtain⟨hp,rfl,rfl⟩:=ik h
  obtain⟨F,hF⟩:=s21 _ hp (hX _ hm0)
  exact⟨_,abC (aL9 F) hF⟩)
end Go.Am
end
section
namespace Go.Am
open Go Go.Proofs
abbrev aGb:List (Nat×Md):=[(0,.plain),(2,.plain),(3,.plain),(4,.plain),(5,.plain)]
abbrev re:List (Nat×Md):=[(0,.plain),(1,.plain),(6,.own 9),(7,.plain)]
abbrev aGc:List (Nat×Md):=[(0,.plain),(1,.plain),(6,.own 9),(7,.plain),(8,.plain),(9,.plain),(10,.plain)]
abbrev a9p:List (Nat×Md):=[(0,.plain),(1,.plain),(6,.own 9)]
abbrev a9q:List (Nat×Md):=[(0,.plain),(1,.plain),(6,.own 9),(7,.plain),(8,.plain)]
abbrev aoR:List (Nat×Md):=[(0,.plain),(1,.plain),(6,.own 9),(7,.plain),(8,.plain),(9,.plain)]
abbrev aoS:List (Nat×Md):=[(0,.plain),(1,.plain),(6,.own 9),(7,.plain),(9,.plain)]
abbrev zY:List (Nat×Md):=[(6,.own 9)]
abbrev aoT:=Li×Int×Int×Int×Li×Bool
abbrev aoU:=Li×Int×Int×Int×Li×Bool×Int×Int×Int×Li×Bool
abbrev WC:=Li×Int×Int×Int×Int×Li×Bool×Int×Int×Int×Li×Bool
abbrev ajw:=Li×Int×Int×Int×Int×Int×Li×Bool×Int×Int×Int×Li×Bool
abbrev aVR:=Int×Li×(List Li)
abbrev D4:=Int×Li×Int×(List Li)
abbrev aVS:=Int×Li×Int×Li×(List Li)
abbrev afQ:=Int×Li×Int×Li×(List Li)×Li
abbrev ajx:=Int×Li×Int×Li×Int×(List Li)×Li
abbrev awD:=Int×Li×Int×(List Li)×Li
def beC:List hI:=[(82,[none],r82),(83,[some 5],r83)]
def V52:Env:=dL fP DW beC
noncomputable abbrev Ek:=ij V52 none (Tryz.f52).results.toList
theorem beD:EOk Tryz.prog V52:=bL (by exact⟨c82.more uP,c83,trivial⟩)
def beE(F:Nat):Cuts:={ F:=F,at_:=fun n=>match n with | 10016=>some aGb | _=>none,join:=fun n=>match n with | 1052=>some agT | 3044=>some agT | 4042=>some sp2 | 6034=>some sp2 | 7032=>some P0 | 9026=>some P0 | 10018=>some aGb | 14005=>some P0 | _=>none }
abbrev El(F n:Nat){σ:Type}(e:σ→St)(K:Ex→St→Rz)(N:σ→Rz):=Qe V52 (beE F) (bp Tryz.f52 n) e K N
def aMa:Li→St:=fun a=>hS [(0,.str a)] [] 77 0
def al8:aoT→St:=fun (a,b,c,d,e,f)=>hS [(0,.str a),pS 2 0 5] [z1 b c d e f] 77 0
def awE:aoT→St:=al8
def al9:aoU→St:=fun (a,b,c,d,e,f,g,h,i,j,k)=>hS [(0,.str a),pS 2 0 5,pS 3 1 5] [z1 b c d e f,z1 g h i j k] 77 0
def awF:aoU→St:=al9
def ahj:WC→St:=fun (a,b,c,d,e,f,g,h,i,j,k,l)=>hS [(0,.str a),pS 2 0 5,pS 3 1 5,iS 4 b] [z1 c d e f g,z1 h i j k l] 77 0
def ama:WC→St:=ahj
def amb:ajw→St:=fun (a,b,c,d,e,f,g,h,i,j,k,l,m)=>hS [(0,.str a),pS 2 0 5,pS 3 1 5,iS 4 b,iS 5 c] [z1 d e f g h,z1 i j k l m] 77 0
def aMb:ajw→St:=amb
def Vy:WC→St:=ahj
def arK(F:Nat)(a:aoT→Rz):Li→Rz:=fun b=>(a (b,(0:Int),(0:Int),(0:Int),[],false))
theorem aVT F Rj1:El F 2 aMa (kq V52 Rj1 agT Ek) (arK F (Rj1∘al8)):=fun _=>by kernel_rfl
def arL(F:Nat)(b:aoT→Rz):aoT→Rz:=fun (a,c,d,e,f,g)=>(cond ((↑a.length:Int) != (64:Int)) (some ((.agg 5 (.segs (.cons 1 (.one (.int .i64 0)) (.cons 1 (.one (.int .i64 0)) (.cons 1 (.one (.int .i64 0)) (.cons 1 (.one (.str [])) (.cons 1 (.one (.bool false)) .nil))))))),[])) (b (a,c,d,e,f,g)))
theorem aVU F Rj2:El F 6 al8 (kq V52 Rj2 agT Ek) (arL F (Rj2∘awE)):=fun _=>by kernel_rfl
def arM(F:Nat)(b:aoU→Rz):aoT→Rz:=fun (a,c,d,e,f,g)=>(cond (decide ((4:Int)≤(↑a.length:Int))) (cond (decide ((a.take 4).length≤4)) (cond (decide ((6:Int)≤(↑a.length:Int))) (cond (decide (((a.take 6).drop 4).length≤4)) (cond (decide ((8:Int)≤(↑a.length:Int))) (cond (decide (((a.take 8).drop 6).length≤4)) (b (a,c,d,e,f,g,(Jr.num (a.take 4)),(Jr.num ((a.take 6).drop 4)),(Jr.num ((a.take 8).drop 6)),[],true)) none) none) none) none) none) none)
theorem aVV F Rj3:El F 14 awE (kq V52 Rj3 sp2 Ek) (arM F (Rj3∘al9)):=fun _=>by kernel_rfl
def arN(F:Nat)(e:aoU→Rz):aoU→Rz:=fun (a,f,g,h,i,j,b,c,d,k,l)=>(cond (decide ((56:Int)≤(↑a.length:Int))) (cond (decide ((a.take 56).length < 1073730000)) (cond (!(((Jr.checked (a.take 56)):Li)==(a:Li))) (some ((.agg 5 (.segs (.cons 1 (.one (.int .i64 0)) (.cons 1 (.one (.int .i64 0)) (.cons 1 (.one (.int .i64 0)) (.cons 1 (.one (.str [])) (.cons 1 (.one (.bool false)) .nil))))))),[])) (cond (decide (b < (1:Int))) (some ((.agg 5 (.segs (.cons 1 (.one (.int .i64 0)) (.cons 1 (.one (.int .i64 0)) (.cons 1 (.one (.int .i64 0)) (.cons 1 (.one (.str [])) (.cons 1 (.one (.bool false)) .nil))))))),[])) (cond (decide (b > (4096:Int))) (some ((.agg 5 (.segs (.cons 1 (.one (.int .i64 0)) (.cons 1 (.one (.int .i64 0)) (.cons 1 (.one (.int .i64 0)) (.cons 1 (.one (.str [])) (.cons 1 (.one (.bool false)) .nil))))))),[])) (cond (decide ((IntKind.i64.wrap ((IntKind.i64.wrap ((48:Int)*c))+d)) > (8000:Int))) (some ((.agg 5 (.segs (.cons 1 (.one (.int .i64 0)) (.cons 1 (.one (.int .i64 0)) (.cons 1 (.one (.int .i64 0)) (.cons 1 (.one (.str [])) (.cons 1 (.one (.bool false)) .nil))))))),[])) (cond (decide (d < (1:Int))) (cond (decide (c > (0:Int))) (some ((.agg 5 (.segs (.cons 1 (.one (.int .i64 0)) (.cons 1 (.one (.int .i64 0)) (.cons 1 (.one (.int .i64 0)) (.cons 1 (.one (.str [])) (.cons 1 (.one (.bool false)) .nil))))))),[])) (e (a,f,g,h,i,j,b,c,d,k,l))) (e (a,f,g,h,i,j,b,c,d,k,l))))))) none) none)
theorem aVW F Rj4:El F 30 al9 (kq V52 Rj4 sp2 Ek) (arN F (Rj4∘awF)):=fun _=>by kernel_rfl
def arO(F:Nat)(b:WC→Rz):aoU→Rz:=fun (c,d,e,f,g,h,i,j,a,k,l)=>(b (c,a,d,e,f,g,h,i,j,a,k,l))
theorem aVX F Rj5:El F 62 awF (kq V52 Rj5 P0 Ek) (arO F (Rj5∘ahj)):=fun _=>by kernel_rfl
def arP(F:Nat)(a:WC→Rz):WC→Rz:=fun (b,c,d,e,f,g,h,i,j,k,l,m)=>(cond (decide (c > (48:Int))) (a (b,(48:Int),d,e,f,g,h,i,j,k,l,m)) (a (b,c,d,e,f,g,h,i,j,k,l,m)))
theorem aVY F Rj6:El F 126 ahj (kq V52 Rj6 P0 Ek) (arP F (Rj6∘ama)):=fun _=>by kernel_rfl
def arQ(F:Nat)(b:ajw→Rz)(n:WC→Rz):WC→Rz:=fun (c,a,d,e,f,g,h,i,j,k,l,m)=>(b (c,a,(IntKind.i64.wrap ((8:Int)+a)),d,e,f,g,h,i,j,k,l,m))
theorem aVZ F Rj7 Rj8:El F 508 ama (kq V52 Rj7 aGb (kq V52 Rj8 P0 Ek)) (arQ F (Rj7∘amb) (Rj8∘Vy)):=fun _=>by kernel_rfl
def amc(F:Nat)(n:ajw→Rz)(o:WC→Rz):ajw→Rz:=fun (b,c,a,d,e,f,g,h,i,j,k,l,m)=>(cond (decide (a < (56:Int))) (cond ((decide (0≤a))&&(decide (a < (↑b.length:Int)))) (cond ((b.getD (Int.toNat a) 0) != (0:Int)) (some ((.agg 5 (.segs (.cons 1 (.one (.int .i64 0)) (.cons 1 (.one (.int .i64 0)) (.cons 1 (.one (.int .i64 0)) (.cons 1 (.one (.str [])) (.cons 1 (.one (.bool false)) .nil))))))),[])) (n (b,c,(IntKind.i64.wrap (a+(1:Int))),d,e,f,g,h,i,j,k,l,m))) none) (o (b,c,d,e,f,g,h,i,j,k,l,m)))
theorem aV0 F Rl1 Rj8:El F 2036 aMb (kq V52 Rl1 aGb (aV 0 (kq V52 Rj8 P0 Ek))) (amc F (Rl1∘aMb) (Rj8∘Vy)):=fun _=>by kernel_rfl
def aoV:ajw→Li×Int×Int×Int×Int×Int×Li×Bool×Int×Int×Int×Li×Bool:=fun (a,b,c,d,e,f,g,h,i,j,k,l,m)=>(a,b,c,d,e,f,g,h,i,j,k,l,m)
def aGd(F:Nat)(a:WC→Rz):ajw→Rz:=fun v=>eT (fun k=>amc F k a) F (aoV v)
theorem aV1 F Rj8:El F 1018 amb (aV 0 (kq V52 Rj8 P0 Ek)) (aGd F (Rj8∘Vy)):=lpC aoV (fun k=>amc F k (Rj8∘Vy)) (fun Rl1=>aV0 F Rl1 Rj8)
def axl(F:Nat)(a):=aGd F a
theorem aMc F Rj8:El F 509 amb (kq V52 Rj8 P0 Ek) (axl F (Rj8∘Vy)):=biC (aV1 F Rj8)
def amd(F:Nat)(a):=arQ F (axl F a) a
theorem aMd F Rj8:El F 254 ama (kq V52 Rj8 P0 Ek) (amd F (Rj8∘Vy)):=sqC (fun k=>arQ F k (Rj8∘Vy)) (fun Rj7=>aVZ F Rj7 Rj8) (aMc F Rj8)
def ame(F:Nat):WC→Rz:=fun (b,a,g,h,i,j,k,c,d,e,l,f)=>(cond ((decide ((8:Int)≤(IntKind.i64.wrap ((8:Int)+a))))&&(decide ((IntKind.i64.wrap ((8:Int)+a))≤(↑b.length:Int)))) (some ((.agg 5 (.segs (.cons 1 (.one (.int .i64 c)) (.cons 1 (.one (.int .i64 d)) (.cons 1 (.one (.int .i64 e)) (.cons 1 (.one (.str ((b.take (Int.toNat (IntKind.i64.wrap ((8:Int)+a)))).drop 8))) (.cons 1 (.one (.bool f)) .nil))))))),[])) none)
theorem aMe F:El F 255 Vy Ek (ame F):=fun _=>by kernel_rfl
def axm(F:Nat):=amd F (ame F)
theorem aMf F:El F 127 ama Ek (axm F):=sqC (amd F) (fun Rj8=>aMd F Rj8) (aMe F)
def axn(F:Nat):=arP F (axm F)
theorem aMg F:El F 63 ahj Ek (axn F):=sqC (arP F) (fun Rj6=>aVY F Rj6) (aMf F)
def axo(F:Nat):=arO F (axn F)
theorem aMh F:El F 31 awF Ek (axo F):=sqC (arO F) (fun Rj5=>aVX F Rj5) (aMg F)
def axp(F:Nat):=arN F (axo F)
theorem aMi F:El F 15 al9 Ek (axp F):=sqC (arN F) (fun Rj4=>aVW F Rj4) (aMh F)
def axq(F:Nat):=arM F (axp F)
theorem aMj F:El F 7 awE Ek (axq F):=sqC (arM F) (fun Rj3=>aVV F Rj3) (aMi F)
def axr(F:Nat):=arL F (axq F)
theorem aMk F:El F 3 al8 Ek (axr F):=sqC (arL F) (fun Rj2=>aVU F Rj2) (aMj F)
def axs(F:Nat):=arK F (axr F)
theorem aMl F:El F 1 aMa Ek (axs F):=sqC (arK F) (fun Rj1=>aVT F Rj1) (aMk F)
def f52(F:Nat):Li→Rz:=axs F
def r52:eP:=fun X H=>match X,H with
 | [(.str a0)],[]=>some (true,(.agg 5 (.segs (.cons 1 (.one (.int .i64 (Jr.unpack a0).number)) (.cons 1 (.one (.int .i64 (Jr.unpack a0).part)) (.cons 1 (.one (.int .i64 (Jr.unpack a0).left)) (.cons 1 (.one (.str (Jr.unpack a0).payload)) (.cons 1 (.one (.bool (Jr.unpack a0).ok)) .nil))))))),[])
 | _,_=>none
theorem s52(a0:Li)(h0:okV (.str a0)):∃ F,f52 F a0=some ((.agg 5 (.segs (.cons 1 (.one (.int .i64 (Jr.unpack a0).number)) (.cons 1 (.one (.int .i64 (Jr.unpack a0).part)) (.cons 1 (.one (.int .i64 (Jr.unpack a0).left)) (.cons 1 (.one (.str (Jr.unpack a0).payload)) (.cons 1 (.one (.bool (Jr.unpack a0).ok)) .nil))))))),[]):=by
 refine⟨100,?_⟩
 simp only [arK,arL,arM,arN,arO,arP,arQ,aoV,aGd,axl,amd,axm,axn,axo,axp,axq,axr,axs,f52,JX]
 by_cases hl:a0.length=64
 case neg=>
  rw [aK (by omega),Jr.unpack_not (.inl hl)]
  rfl
 have hb:∀ x∈a0,0≤x∧x < 256:=fun x hx=>by have:=h0.2 x hx;omega
 have d6:(a0.take 6).drop 4=(a0.drop 4).take 2:=by rw [List.drop_take]
 have d8:(a0.take 8).drop 6=(a0.drop 6).take 2:=by rw [List.drop_take]
 simp only [d6,d8]
 have l4:(a0.take 4).length=4:=by rw [List.length_take];omega
 have l2:((a0.drop 4).take 2).length=2:=by rw [List.length_take,List.length_drop];omega
 have l2':((a0.drop 6).take 2).length=2:=by rw [List.length_take,List.length_drop];omega
 have l56:(a0.take 56).length=56:=by rw [List.length_take];omega
 obtain⟨n1,n2⟩:=Jr.num_bound (a0.take 4) fun x hx=>hb x (List.mem_of_mem_take hx)
 obtain⟨p1,p2⟩:=Jr.num_bound ((a0.drop 4).take 2) fun x hx=>hb x (List.mem_of_mem_drop (List.mem_of_mem_take hx))
 obtain⟨q1,q2⟩:=Jr.num_bound ((a0.drop 6).take 2) fun x hx=>hb x (List.mem_of_mem_drop (List.mem_of_mem_take hx))
 rw [l4,show(256:Int)^4=4294967296 from rfl] at n2
 rw [l2,show(256:Int)^2=65536 from rfl] at p2
 rw [l2',show(256:Int)^2=65536 from rfl] at q2
 rw [ba (by omega),aK (by omega),aK (by omega),aK (by omega),aK (by omega),aK (by omega),aK (by omega),aK (by omega),aK (by omega),Jr.checked_eq hl,bM (x:=48*Jr.num ((a0.drop 4).take 2)) (by omega) (by omega),bM (x:=48*Jr.num ((a0.drop 4).take 2)+Jr.num ((a0.drop 6).take 2)) (by omega) (by omega)]
 have hm48:Jr.fN a0≤48:=Nat.min_le_right _ _
 have hmL:Jr.fN a0=min (Jr.num ((a0.drop 6).take 2)).toNat 48:=rfl
 by_cases c1:(Sha.hash (a0.take 56)).take 8=a0.drop 56
 case neg=>
  have e:(!((Sha.hash (a0.take 56)).take 8==a0.drop 56))=true:=by simpa using c1
  rw [e,cond_true,Jr.unpack_not (.inr (.inl c1))]
  rfl
 have e:(!((Sha.hash (a0.take 56)).take 8==a0.drop 56))=false:=by simp [c1]
 rw [e,cond_false]
 by_cases c2:Jr.num (a0.take 4) < 1
 ·rw [aK c2,Jr.unpack_not (.inr (.inr (.inl (fun h=>by have:=h.1;rw [Jr.fNum] at this;omega))))]
  rfl
 by_cases c3:Jr.num (a0.take 4) > 4096
 ·rw [ba c2,aK c3,Jr.unpack_not (.inr (.inr (.inl (fun h=>by have:=h.2.1;rw [Jr.fNum] at this;omega))))]
  rfl
 by_cases c4:48*Jr.num ((a0.drop 4).take 2)+Jr.num ((a0.drop 6).take 2) > 8000
 ·rw [ba c2,ba c3,aK c4,Jr.unpack_not (.inr (.inr (.inl (fun h=>by have:=h.2.2.1;rw [Jr.fPart,Jr.fLeft] at this;omega))))]
  rfl
 rw [ba c2,ba c3,ba c4]
 by_cases c5:Jr.num ((a0.drop 6).take 2) < 1∧Jr.num ((a0.drop 4).take 2) > 0
 ·rw [aK c5.1,aK c5.2,Jr.unpack_not (.inr (.inr (.inl (fun h=>by have:=h.2.2.2;rw [Jr.fPart,Jr.fLeft] at this;omega))))]
  rfl
 have hskip:∀ X Y:Rz,cond (decide (Jr.num ((a0.drop 6).take 2) < 1)) (cond (decide (Jr.num ((a0.drop 4).take 2) > 0)) X Y) Y=Y:=fun X Y=>by
  by_cases h5:Jr.num ((a0.drop 6).take 2) < 1
  ·rw [aK h5,ba (by omega)]
  ·rw [ba h5]
 rw [hskip]
 have key:∀ t:Int,t=(Jr.fN a0:Int)→eT (fun k=>amc 100 k (ame 100)) 100 (a0,t,IntKind.i64.wrap (8+t),0,0,0,[],false,Jr.num (a0.take 4),Jr.num ((a0.drop 4).take 2),Jr.num ((a0.drop 6).take 2),[],true) =
   some ((.agg 5 (.segs (.cons 1 (.one (.int .i64 (Jr.unpack a0).number)) (.cons 1 (.one (.int .i64 (Jr.unpack a0).part)) (.cons 1 (.one (.int .i64 (Jr.unpack a0).left)) (.cons 1 (.one (.str (Jr.unpack a0).payload)) (.cons 1 (.one (.bool (Jr.unpack a0).ok)) .nil))))))),[]):=fun t ht=>by
  subst ht
  rw [bM (x:=8+(Jr.fN a0:Int)) (by omega) (by omega)]
  refine pv (fun mm s=>∃ k:Nat,s=(a0,(Jr.fN a0:Int),8+(Jr.fN a0:Int)+(k:Int),0,0,0,[],false,Jr.num (a0.take 4),Jr.num ((a0.drop 4).take 2),Jr.num ((a0.drop 6).take 2),[],true)∧mm=48-Jr.fN a0-k∧k≤48-Jr.fN a0 ∧ ∀ j,j < k→a0.getD (8+Jr.fN a0+j) 0=0) (fun mm s K hi hk=>?_) 100 (48-Jr.fN a0) _ (by omega) ⟨0,by simp,by omega,by omega,fun j hj=>by omega⟩
  obtain⟨k,rfl,hm,hle,hz⟩:=hi
  have et:(8+(Jr.fN a0:Int)+(k:Int)).toNat=8+Jr.fN a0+k:=by omega
  simp only [amc,cH,et,JX]
  by_cases hlt:k < 48-Jr.fN a0
  ·rw [aK (by omega),aK (by omega)]
   by_cases h0:a0.getD (8+Jr.fN a0+k) 0=0
   ·rw [ba (by omega),bM (by omega) (by omega)]
    exact hk (mm-1) _ (by omega) ⟨k+1,by rw [show 8+(Jr.fN a0:Int)+((k+1:Nat):Int)=8+(Jr.fN a0:Int)+(k:Int)+1 by omega],by omega,by omega,fun j hj=>by
     by_cases hj':j=k
     ·subst hj';exact h0
     ·exact hz j (by omega)⟩
   ·rw [aK h0,Jr.unpack_not (.inr (.inr (.inr fun h=>h0 ((Jr.zeros_iff (by omega)).1 h k hlt))))]
    rfl
  ·rw [ba (by omega)]
   simp only [ame,cH]
   have t2:(8+(Jr.fN a0:Int)).toNat=8+Jr.fN a0:=by omega
   rw [bM (x:=8+(Jr.fN a0:Int)) (by omega) (by omega),aK (by omega),t2,Jr.unpack_is hl c1 ⟨by rw [Jr.fNum];omega,by rw [Jr.fNum];omega,by rw [Jr.fPart,Jr.fLeft];omega,by rw [Jr.fPart,Jr.fLeft];omega⟩ ((Jr.zeros_iff (by omega)).2 fun j hj=>hz j (by omega)),List.drop_take,show 8+Jr.fN a0-8=Jr.fN a0 by omega]
   rfl
 by_cases h48:Jr.num ((a0.drop 6).take 2) > 48
 ·rw [aK h48];exact key 48 (by omega)
 ·rw [ba h48];exact key _ (by omega)
theorem c52:CallOk Tryz.prog DW 52 r52:=Ao mixed tys beD Tryz.func52 (by kernel_rfl) (c:=sub (zZ Tryz.f52) []) (by kernel_rfl) (by
 intro X H r H' h hX hH
 unfold r52 at h;split at h <;> try contradiction
 ·obtain⟨hp,rfl,rfl⟩:=ik h
  obtain⟨F,hF⟩:=s52 _ (hX _ hm0)
  exact⟨_,abC (aMl F) hF⟩)
def beF:List hI:=[(57,[none],r57),(83,[some 5],r83),(84,[none,none],r84)]
def V53:Env:=dL fP DW beF
noncomputable abbrev wZ:=ij V53 (some [(4,.view 9),(5,.plain)]) (Tryz.f53).results.toList
theorem beG:EOk Tryz.prog V53:=bL (by exact⟨c57.more uP,c83,c84.more uP,trivial⟩)
def beH(F:Nat):Cuts:={ F:=F,at_:=fun n=>match n with | 7041=>some re | 14018=>some aGc | _=>none,join:=fun n=>match n with | 1067=>some uY | 3059=>some uY | 5051=>some uY | 6049=>some a9p | 7043=>some re | 8001=>some re | 9035=>some re | 10030=>some a9q | 11028=>some aoR | 12026=>some aoR | 13024=>some aoR | 14020=>some aGc | 20001=>some aoS | 21003=>some zY | _=>none,fin:=(some [(4,.view 9),(5,.plain)]) }
abbrev w8(F n:Nat){σ:Type}(e:σ→St)(K:Ex→St→Rz)(N:σ→Rz):=Qe V53 (beH F) (bp Tryz.f53 n) e K N
def aMm:Int×Li→St:=fun (a,b)=>hS [iS 0 a,(1,.str b)] [] 64 0
def ahk:Int×Li→St:=fun (a,b)=>hS [iS 0 a,(1,.str b)] [] 64 0
def axt:Int×Li→St:=ahk
def axu:Int×Li→St:=ahk
abbrev z14 a b:=(.cells a (.rS b) true:Blk)
def amf:aVR→St:=fun (b,c,a)=>hS [iS 0 b,(1,.str c),(6,.own 0 0 1)] [z14 a.length a] 64 0
def abJ:D4→St:=fun (b,c,d,a)=>hS [iS 0 b,(1,.str c),(6,.own 0 0 1),iS 7 d] [z14 a.length a] 64 0
def oh:D4→St:=abJ
def ahl:D4→St:=abJ
def axv:aVS→St:=fun (b,c,d,e,a)=>hS [iS 0 b,(1,.str c),(6,.own 0 0 1),iS 7 d,(8,.str e)] [z14 a.length a] 64 0
def ahm:afQ→St:=fun (c,d,e,f,a,b)=>hS [iS 0 c,(1,.str d),(6,.own 0 0 1),iS 7 e,(8,.str f),(9,.own 1 0 1)] [z14 a.length a,z10 b.length b] 64 0
def axw:afQ→St:=ahm
def aig:afQ→St:=ahm
def aih:ajx→St:=fun (c,d,e,f,g,a,b)=>hS [iS 0 c,(1,.str d),(6,.own 0 0 1),iS 7 e,(8,.str f),(9,.own 1 0 1),iS 10 g] [z14 a.length a,z10 b.length b] 64 0
def aMn:ajx→St:=aih
def KE:awD→St:=fun (c,d,e,a,b)=>hS [iS 0 c,(1,.str d),(6,.own 0 0 1),iS 7 e,(9,.own 1 0 1)] [z14 a.length a,z10 b.length b] 64 0
def rb:D4→St:=abJ
def lr:(List Li)→St:=fun a=>hS [(6,.own 0 0 1)] [z14 a.length a] 64 0
def arR(F:Nat)(a:Int×Li→Rz):Int×Li→Rz:=fun (b,c)=>(a (b,c))
theorem aV2 F Rj1:w8 F 2 aMm (kq V53 Rj1 uY wZ) (arR F (Rj1∘ahk)):=fun _=>by kernel_rfl
def arS(F:Nat)(b:Int×Li→Rz):Int×Li→Rz:=fun (a,c)=>(cond (decide (a < (1:Int))) (some ((.tup (.cons 0 (.vs (.rS []) 0 1) (.cons 0 (.int .i64 1) .nil))),[])) (cond (decide (a > (4096:Int))) (some ((.tup (.cons 0 (.vs (.rS []) 0 1) (.cons 0 (.int .i64 1) .nil))),[])) (b (a,c))))
theorem aV3 F Rj2:w8 F 6 ahk (kq V53 Rj2 uY wZ) (arS F (Rj2∘axt)):=fun _=>by kernel_rfl
def arT(F:Nat)(b:Int×Li→Rz):Int×Li→Rz:=fun (c,a)=>(cond (decide ((↑a.length:Int) > (8000:Int))) (some ((.tup (.cons 0 (.vs (.rS []) 0 1) (.cons 0 (.int .i64 4) .nil))),[])) (b (c,a)))
theorem aV4 F Rj3:w8 F 14 axt (kq V53 Rj3 uY wZ) (arT F (Rj3∘axu)):=fun _=>by kernel_rfl
def arU(F:Nat)(a:aVR→Rz):Int×Li→Rz:=fun (b,c)=>(a (b,c,[]))
theorem aV5 F Rj4:w8 F 30 axu (kq V53 Rj4 a9p wZ) (arU F (Rj4∘amf)):=fun _=>by kernel_rfl
def arV(F:Nat)(a:D4→Rz)(e:(List Li)→Rz):aVR→Rz:=fun (b,c,d)=>(a (b,c,(0:Int),d))
theorem aV6 F Rj5 Rj14:w8 F 124 amf (kq V53 Rj5 re (kq V53 Rj14 zY wZ)) (arV F (Rj5∘abJ) (Rj14∘lr)):=fun _=>by kernel_rfl
def amg(F:Nat)(d g:D4→Rz)(e:(List Li)→Rz):D4→Rz:=fun (f,a,b,c)=>(cond (decide (b < (Jr.count (↑a.length:Int)))) (d (f,a,b,c)) (e c))
theorem aV7 F Rj6 Rl1 Rj14:w8 F 1000 oh (kq V53 Rj6 re (kq V53 Rl1 re (aV 0 (kq V53 Rj14 zY wZ)))) (amg F (Rj6∘ahl) (Rl1∘oh) (Rj14∘lr)):=fun _=>by kernel_rfl
def arW(F:Nat)(c:aVS→Rz)(f g:D4→Rz)(h:(List Li)→Rz):D4→Rz:=fun (d,a,b,e)=>(cond (((decide (0≤(IntKind.i64.wrap ((48:Int)*b))))&&(decide ((IntKind.i64.wrap ((48:Int)*b))≤(↑a.length:Int))))&&(decide ((↑a.length:Int)≤(↑a.length:Int)))) (c (d,a,b,((a.take a.length).drop (Int.toNat (IntKind.i64.wrap ((48:Int)*b)))),e)) none)
theorem aV8 F Rj7 Rj13 Rl1 Rj14:w8 F 8008 ahl (kq V53 Rj7 a9q (aV 1 (kq V53 Rj13 re (kq V53 Rl1 re (aV 0 (kq V53 Rj14 zY wZ)))))) (arW F (Rj7∘axv) (Rj13∘rb) (Rl1∘oh) (Rj14∘lr)):=fun _=>by kernel_rfl
def arX(F:Nat)(b:afQ→Rz)(g h:D4→Rz)(i:(List Li)→Rz):aVS→Rz:=fun (a,c,d,e,f)=>(cond ((decide (0≤a))&&((decide (0 < (4:Int)))&&(decide ((4:Int)≤4)))) (b (a,c,d,e,f,(Jr.small a (Int.toNat (4:Int))))) none)
theorem aV9 F Rj8 Rj13 Rl1 Rj14:w8 F 16018 axv (kq V53 Rj8 aoR (aV 1 (kq V53 Rj13 re (kq V53 Rl1 re (aV 0 (kq V53 Rj14 zY wZ)))))) (arX F (Rj8∘ahm) (Rj13∘rb) (Rl1∘oh) (Rj14∘lr)):=fun _=>by kernel_rfl
def arY(F:Nat)(c:afQ→Rz)(h i:D4→Rz)(j:(List Li)→Rz):afQ→Rz:=fun (d,e,a,f,g,b)=>(cond ((decide (0≤a))&&((decide (0 < (2:Int)))&&(decide ((2:Int)≤4)))) (cond (decide ((b.length+(Jr.small a (Int.toNat (2:Int))).length) < 1073741824)) (c (d,e,a,f,g,(b++(Jr.small a (Int.toNat (2:Int)))))) none) none)
theorem aWa F Rj9 Rj13 Rl1 Rj14:w8 F 32038 ahm (kq V53 Rj9 aoR (aV 1 (kq V53 Rj13 re (kq V53 Rl1 re (aV 0 (kq V53 Rj14 zY wZ)))))) (arY F (Rj9∘axw) (Rj13∘rb) (Rl1∘oh) (Rj14∘lr)):=fun _=>by kernel_rfl
def amk(F:Nat)(c:afQ→Rz)(h i:D4→Rz)(j:(List Li)→Rz):afQ→Rz:=fun (d,e,f,a,g,b)=>(cond ((decide (0≤(↑a.length:Int)))&&((decide (0 < (2:Int)))&&(decide ((2:Int)≤4)))) (cond (decide ((b.length+(Jr.small (↑a.length:Int) (Int.toNat (2:Int))).length) < 1073741824)) (c (d,e,f,a,g,(b++(Jr.small (↑a.length:Int) (Int.toNat (2:Int)))))) none) none)
theorem aMo F Rj10 Rj13 Rl1 Rj14:w8 F 64078 axw (kq V53 Rj10 aoR (aV 1 (kq V53 Rj13 re (kq V53 Rl1 re (aV 0 (kq V53 Rj14 zY wZ)))))) (amk F (Rj10∘aig) (Rj13∘rb) (Rl1∘oh) (Rj14∘lr)):=fun _=>by kernel_rfl
def aml(F:Nat)(a:ajx→Rz)(h:awD→Rz)(i j:D4→Rz)(k:(List Li)→Rz):afQ→Rz:=fun (b,c,d,e,f,g)=>(a (b,c,d,e,(0:Int),f,g))
theorem aMp F Rj11 Rj12 Rj13 Rl1 Rj14:w8 F 256316 aig (kq V53 Rj11 aGc (kq V53 Rj12 aoS (aV 1 (kq V53 Rj13 re (kq V53 Rl1 re (aV 0 (kq V53 Rj14 zY wZ))))))) (aml F (Rj11∘aih) (Rj12∘KE) (Rj13∘rb) (Rl1∘oh) (Rj14∘lr)):=fun _=>by kernel_rfl
def ahn(F:Nat)(h:ajx→Rz)(i:awD→Rz)(j k:D4→Rz)(l:(List Li)→Rz):ajx→Rz:=fun (d,e,f,b,a,g,c)=>(cond (decide (a < (48:Int))) (cond (decide (a < (↑b.length:Int))) (cond ((decide (0≤a))&&(decide (a < (↑b.length:Int)))) (cond (decide ((c.length+1) < 1073741824)) (h (d,e,f,b,(IntKind.i64.wrap (a+(1:Int))),g,(c++[(b.getD (Int.toNat a) 0)]))) none) none) (cond (decide ((c.length+1) < 1073741824)) (h (d,e,f,b,(IntKind.i64.wrap (a+(1:Int))),g,(c++[(0:Int)]))) none)) (i (d,e,f,g,c)))
theorem aMq F Rl2 Rj12 Rj13 Rl1 Rj14:w8 F 1025268 aMn (kq V53 Rl2 aGc (aV 2 (kq V53 Rj12 aoS (aV 1 (kq V53 Rj13 re (kq V53 Rl1 re (aV 0 (kq V53 Rj14 zY wZ)))))))) (ahn F (Rl2∘aMn) (Rj12∘KE) (Rj13∘rb) (Rl1∘oh) (Rj14∘lr)):=fun _=>by kernel_rfl
def ajy:ajx→Int×Li×Int×Li×Int×(List Li)×Li:=fun (a,b,c,d,e,f,g)=>(a,b,c,d,e,f,g)
def axx(F:Nat)(a:awD→Rz)(b c:D4→Rz)(d:(List Li)→Rz):ajx→Rz:=fun v=>eT (fun k=>ahn F k a b c d) F (ajy v)
theorem aMr F Rj12 Rj13 Rl1 Rj14:w8 F 512634 aih (aV 2 (kq V53 Rj12 aoS (aV 1 (kq V53 Rj13 re (kq V53 Rl1 re (aV 0 (kq V53 Rj14 zY wZ))))))) (axx F (Rj12∘KE) (Rj13∘rb) (Rl1∘oh) (Rj14∘lr)):=lpC ajy (fun k=>ahn F k (Rj12∘KE) (Rj13∘rb) (Rl1∘oh) (Rj14∘lr)) (fun Rl2=>aMq F Rl2 Rj12 Rj13 Rl1 Rj14)
def axy(F:Nat)(a)(b c)(d):=axx F a b c d
theorem aMs F Rj12 Rj13 Rl1 Rj14:w8 F 256317 aih (kq V53 Rj12 aoS (aV 1 (kq V53 Rj13 re (kq V53 Rl1 re (aV 0 (kq V53 Rj14 zY wZ)))))) (axy F (Rj12∘KE) (Rj13∘rb) (Rl1∘oh) (Rj14∘lr)):=biC (aMr F Rj12 Rj13 Rl1 Rj14)
def amm(F:Nat)(a)(b c)(d):=aml F (axy F a b c d) a b c d
theorem aMt F Rj12 Rj13 Rl1 Rj14:w8 F 128158 aig (kq V53 Rj12 aoS (aV 1 (kq V53 Rj13 re (kq V53 Rl1 re (aV 0 (kq V53 Rj14 zY wZ)))))) (amm F (Rj12∘KE) (Rj13∘rb) (Rl1∘oh) (Rj14∘lr)):=sqC (fun k=>aml F k (Rj12∘KE) (Rj13∘rb) (Rl1∘oh) (Rj14∘lr)) (fun Rj11=>aMp F Rj11 Rj12 Rj13 Rl1 Rj14) (aMs F Rj12 Rj13 Rl1 Rj14)
def axz(F:Nat)(c g:D4→Rz)(h:(List Li)→Rz):awD→Rz:=fun (d,e,f,a,b)=>(cond (decide (b.length < 1073730000)) (cond (decide ((a.length+1) < 1073741824)) (c (d,e,f,(a++[(Jr.checked b)]))) none) none)
theorem aMu F Rj13 Rl1 Rj14:w8 F 128159 KE (aV 1 (kq V53 Rj13 re (kq V53 Rl1 re (aV 0 (kq V53 Rj14 zY wZ))))) (axz F (Rj13∘rb) (Rl1∘oh) (Rj14∘lr)):=fun _=>by kernel_rfl
def axA(F:Nat)(a b)(c):=amm F (axz F a b c) a b c
theorem aMv F Rj13 Rl1 Rj14:w8 F 64079 aig (aV 1 (kq V53 Rj13 re (kq V53 Rl1 re (aV 0 (kq V53 Rj14 zY wZ))))) (axA F (Rj13∘rb) (Rl1∘oh) (Rj14∘lr)):=sqC (fun k=>amm F k (Rj13∘rb) (Rl1∘oh) (Rj14∘lr)) (fun Rj12=>aMt F Rj12 Rj13 Rl1 Rj14) (aMu F Rj13 Rl1 Rj14)
def axB(F:Nat)(a b)(c):=amk F (axA F a b c) a b c
theorem aMw F Rj13 Rl1 Rj14:w8 F 32039 axw (aV 1 (kq V53 Rj13 re (kq V53 Rl1 re (aV 0 (kq V53 Rj14 zY wZ))))) (axB F (Rj13∘rb) (Rl1∘oh) (Rj14∘lr)):=sqC (fun k=>amk F k (Rj13∘rb) (Rl1∘oh) (Rj14∘lr)) (fun Rj10=>aMo F Rj10 Rj13 Rl1 Rj14) (aMv F Rj13 Rl1 Rj14)
def axC(F:Nat)(a b)(c):=arY F (axB F a b c) a b c
theorem aMx F Rj13 Rl1 Rj14:w8 F 16019 ahm (aV 1 (kq V53 Rj13 re (kq V53 Rl1 re (aV 0 (kq V53 Rj14 zY wZ))))) (axC F (Rj13∘rb) (Rl1∘oh) (Rj14∘lr)):=sqC (fun k=>arY F k (Rj13∘rb) (Rl1∘oh) (Rj14∘lr)) (fun Rj9=>aWa F Rj9 Rj13 Rl1 Rj14) (aMw F Rj13 Rl1 Rj14)
def axD(F:Nat)(a b)(c):=arX F (axC F a b c) a b c
theorem aMy F Rj13 Rl1 Rj14:w8 F 8009 axv (aV 1 (kq V53 Rj13 re (kq V53 Rl1 re (aV 0 (kq V53 Rj14 zY wZ))))) (axD F (Rj13∘rb) (Rl1∘oh) (Rj14∘lr)):=sqC (fun k=>arX F k (Rj13∘rb) (Rl1∘oh) (Rj14∘lr)) (fun Rj8=>aV9 F Rj8 Rj13 Rl1 Rj14) (aMx F Rj13 Rl1 Rj14)
def axE(F:Nat)(a b)(c):=arW F (axD F a b c) a b c
theorem aMz F Rj13 Rl1 Rj14:w8 F 4004 ahl (aV 1 (kq V53 Rj13 re (kq V53 Rl1 re (aV 0 (kq V53 Rj14 zY wZ))))) (axE F (Rj13∘rb) (Rl1∘oh) (Rj14∘lr)):=sqC (fun k=>arW F k (Rj13∘rb) (Rl1∘oh) (Rj14∘lr)) (fun Rj7=>aV8 F Rj7 Rj13 Rl1 Rj14) (aMy F Rj13 Rl1 Rj14)
def amn(F:Nat)(a b)(c):=axE F a b c
theorem aMA F Rj13 Rl1 Rj14:w8 F 2002 ahl (kq V53 Rj13 re (kq V53 Rl1 re (aV 0 (kq V53 Rj14 zY wZ)))) (amn F (Rj13∘rb) (Rl1∘oh) (Rj14∘lr)):=biC (aMz F Rj13 Rl1 Rj14)
def axF(F:Nat)(a:D4→Rz)(f:(List Li)→Rz):D4→Rz:=fun (b,c,d,e)=>(a (b,c,(IntKind.i64.wrap (d+(1:Int))),e))
theorem aMB F Rl1 Rj14:w8 F 2003 rb (kq V53 Rl1 re (aV 0 (kq V53 Rj14 zY wZ))) (axF F (Rl1∘oh) (Rj14∘lr)):=fun _=>by kernel_rfl
def axG(F:Nat)(a)(b):=amn F (axF F a b) a b
theorem aMC F Rl1 Rj14:w8 F 1001 ahl (kq V53 Rl1 re (aV 0 (kq V53 Rj14 zY wZ))) (axG F (Rl1∘oh) (Rj14∘lr)):=sqC (fun k=>amn F k (Rl1∘oh) (Rj14∘lr)) (fun Rj13=>aMA F Rj13 Rl1 Rj14) (aMB F Rl1 Rj14)
def aho(F:Nat)(a)(b):=amg F (axG F a b) a b
theorem aMD F Rl1 Rj14:w8 F 500 oh (kq V53 Rl1 re (aV 0 (kq V53 Rj14 zY wZ))) (aho F (Rl1∘oh) (Rj14∘lr)):=sqC (fun k=>amg F k (Rl1∘oh) (Rj14∘lr)) (fun Rj6=>aV7 F Rj6 Rl1 Rj14) (aMC F Rl1 Rj14)
def ajz:D4→Int×Li×Int×(List Li):=fun (a,b,c,d)=>(a,b,c,d)
def axH(F:Nat)(a:(List Li)→Rz):D4→Rz:=fun v=>eT (fun k=>aho F k a) F (ajz v)
theorem aME F Rj14:w8 F 250 abJ (aV 0 (kq V53 Rj14 zY wZ)) (axH F (Rj14∘lr)):=lpC ajz (fun k=>aho F k (Rj14∘lr)) (fun Rl1=>aMD F Rl1 Rj14)
def axI(F:Nat)(a):=axH F a
theorem aMF F Rj14:w8 F 125 abJ (kq V53 Rj14 zY wZ) (axI F (Rj14∘lr)):=biC (aME F Rj14)
def amo(F:Nat)(a):=arV F (axI F a) a
theorem aMG F Rj14:w8 F 62 amf (kq V53 Rj14 zY wZ) (amo F (Rj14∘lr)):=sqC (fun k=>arV F k (Rj14∘lr)) (fun Rj5=>aV6 F Rj5 Rj14) (aMF F Rj14)
def axJ(F:Nat):(List Li)→Rz:=fun a=>(some ((.tup (.cons 0 (.vs (.rS a) 0 1) (.cons 0 (.int .i64 0) .nil))),[]))
theorem aMH F:w8 F 63 lr wZ (axJ F):=fun _=>by kernel_rfl
def axK(F:Nat):=amo F (axJ F)
theorem aMI F:w8 F 31 amf wZ (axK F):=sqC (amo F) (fun Rj14=>aMG F Rj14) (aMH F)
def axL(F:Nat):=arU F (axK F)
theorem aMJ F:w8 F 15 axu wZ (axL F):=sqC (arU F) (fun Rj4=>aV5 F Rj4) (aMI F)
def axM(F:Nat):=arT F (axL F)
theorem aMK F:w8 F 7 axt wZ (axM F):=sqC (arT F) (fun Rj3=>aV4 F Rj3) (aMJ F)
def axN(F:Nat):=arS F (axM F)
theorem aML F:w8 F 3 ahk wZ (axN F):=sqC (arS F) (fun Rj2=>aV3 F Rj2) (aMK F)
def axO(F:Nat):=arR F (axN F)
theorem aMM F:w8 F 1 aMm wZ (axO F):=sqC (arR F) (fun Rj1=>aV2 F Rj1) (aML F)
def f53(F:Nat):Int×Li→Rz:=axO F
def r53:eP:=fun X H=>match X,H with
 | [(.int .i64 a0),.str a1],[]=>some ((decide (a1.length < 1073730000)),(.tup (.cons 0 (.vs (.rS (Jr.pack a0 a1).1) 0 1) (.cons 0 (.int .i64 (Jr.pack a0 a1).2) .nil))),[])
 | _,_=>none
theorem s53(a0:Int)(a1:Li)(hp:((decide (a1.length < 1073730000)))=true)(h0:okV (.int .i64 a0))(h1:okV (.str a1)):∃ F,f53 F (a0,a1)=some ((.tup (.cons 0 (.vs (.rS (Jr.pack a0 a1).1) 0 1) (.cons 0 (.int .i64 (Jr.pack a0 a1).2) .nil))),[]):=by
 have hl:=of_decide_eq_true hp
 refine⟨200,?_⟩
 simp only [f53,axO,arR,axN,arS,axM,arT,axL,arU,axK,arV,axI,axH,ajz,amo]
 by_cases c1:a0 < 1
 ·rw [aK c1,Jr.pack,aK (.inl c1)]
 by_cases c2:a0 > 4096
 ·rw [ba c1,aK c2,Jr.pack,aK (.inr c2)]
 by_cases c3:(a1.length:Int) > 8000
 ·rw [ba c1,ba c2,aK c3,Jr.pack,ba (by omega),aK c3]
 rw [ba c1,ba c2,ba c3,Jr.pack,ba (by omega),ba (by omega)]
 obtain⟨k1,k2,k3,k4,k5⟩:=Jr.count_ok (show a1.length≤8000 by omega)
 refine iR (fun i=>(a0,a1,(i:Int),(List.range i).map (Jr.sector a0 a1))) (Jr.count a1.length).toNat (by simp) (fun i hi k=>?_) (fun k=>?_) 200 (by omega)
 ·simp only [aho,amg]
  rw [aK (by omega)]
  simp only [axG,amn,axE,arW,cH]
  rw [bM (x:=48*(i:Int)) (by omega) (by omega),aK (by omega)]
  have er:(a1.take a1.length).drop ((48:Int)*(i:Int)).toNat=Jr.rest a1 i:=by rw [List.take_length,Jr.rest];congr 1
  have rl:=Jr.rest_len a1 i
  rw [er]
  have hf:Jr.front a0 a1 i=Jr.small a0 4++Jr.small (i:Int) 2++Jr.small ((Jr.rest a1 i).length:Int) 2++Jr.fill (Jr.rest a1 i):=rfl
  generalize Jr.rest a1 i=r at *
  simp only [axD,arX,cH]
  rw [aK (by omega)]
  simp only [axC,arY,cH]
  rw [aK (by omega),aK (by rw [Jr.small_len,Jr.small_len];decide)]
  simp only [axB,amk,cH]
  rw [aK (by omega),aK (by rw [List.length_append,Jr.small_len,Jr.small_len,Jr.small_len];decide)]
  simp only [axA,amm,aml,axy,axx,ajy]
  have e4:Int.toNat (4:Int)=4:=rfl
  have e2:Int.toNat (2:Int)=2:=rfl
  rw [e4,e2]
  have hbl:(Jr.small a0 4++Jr.small (i:Int) 2++Jr.small (r.length:Int) 2).length=8:=by simp only [List.length_append,Jr.small_len]
  generalize Jr.small a0 4++Jr.small (i:Int) 2++Jr.small (r.length:Int) 2=b at *
  refine iR (fun j=>(a0,a1,(i:Int),r,(j:Int),(List.range i).map (Jr.sector a0 a1),b++(List.range j).map fun q=>r.getD q 0)) 48 (by simp) (fun j hj q=>?_) (fun q=>?_) 200 (by omega)
  ·simp only [ahn,cH,Int.toNat_natCast]
   rw [aK (by omega)]
   have hlen:(b++(List.range j).map fun q=>r.getD q 0).length=8+j:=by rw [List.length_append,hbl,List.length_map,List.length_range]
   have es:(b++(List.range j).map fun q=>r.getD q 0)++[r.getD j 0]=b++(List.range (j+1)).map fun q=>r.getD q 0:=by rw [List.range_succ,List.map_append,← List.append_assoc];rfl
   by_cases hr:(j:Int) < (r.length:Int)
   ·rw [aK hr,aK (by omega),aK (by omega),bM (by omega) (by omega),es];rfl
   ·have e0:r.getD j 0=0:=by rw [List.getD_eq_getElem?_getD,List.getElem?_eq_none (by omega)];rfl
    rw [e0] at es
    rw [ba hr,aK (by omega),bM (by omega) (by omega),es];rfl
  ·simp only [ahn]
   rw [ba (by omega),Jr.fill_map]
   simp only [axz,axF]
   rw [aK (by rw [List.length_append,hbl,Jr.fill_len];decide),aK (by rw [List.length_map,List.length_range];omega),bM (by omega) (by omega),← hf,List.range_succ,List.map_append]
   rfl
 ·simp only [aho,amg]
  rw [ba (by omega)]
  simp only [axJ]
  rfl
theorem c53:CallOk Tryz.prog DW 53 r53:=Ao mixed tys beG Tryz.func53 (by kernel_rfl) (c:=sub (zZ Tryz.f53) []) (by kernel_rfl) (by
 intro X H r H' h hX hH
 unfold r53 at h;split at h <;> try contradiction
 ·obtain⟨hp,rfl,rfl⟩:=ik h
  obtain⟨F,hF⟩:=s53 _ _ hp (hX _ hm0) (hX _ hm1)
  exact⟨_,abC (aMM F) hF⟩)
end Go.Am
end