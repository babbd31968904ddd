/- Part of a proof. -/
import Derived.Test.YtgdibbphgdkllaaAmReg3
import Derived.Test.YtgdibbphgdkllaaAmIsl6
set_option linter.unusedSimpArgs false
set_option linter.unusedVariables false
section
namespace Go.Am
open Go Go.Proofs
def lVG3835:List CEnt:=[]
def VG3835:Env:=mkEnv T38 G38 lVG3835
noncomputable abbrev Kf51:=kFin VG3835 none (Try.f35).results.toList
theorem eVG3835:EOk Try.prog VG3835:=eok_mk (by exact trivial)
def Af35(F:Nat):Cuts:={ F:=F,at_:=fun n=>match n with | 2016=>some sp65 | _=>none,join:=fun n=>match n with | 1024=>some sp67 | 2018=>some sp65 | 6003=>some [] | _=>none }
noncomputable abbrev XAf35(F:Nat){α:Type}:=@aexec α VG3835 (Af35 F)
def ef35_a:(List Bool)→St:=fun a0=>⟨[(0,(.vs (.rB a0) 0 1))],[],0,15,0⟩
def ef35j1:(List Bool)→St:=fun t0=>⟨[(0,(.vs (.rB t0) 0 1))],[],0,15,0⟩
def ef35j2:(List Bool)×Int→St:=fun (t0,t3)=>⟨[(0,(.vs (.rB t0) 0 1)),(3,.int .i64 t3)],[],0,15,0⟩
def ef35l1:(List Bool)×Int→St:=ef35j2
def ef35j3:Unit→St:=fun _=>⟨[],[],0,15,0⟩
def f35_1(F:Nat)(kf35j1:(List Bool)→Rz):(List Bool)→Rz:=fun a0=>(kf35j1 a0)
theorem f35_1_eq(F:Nat)(Rf35j1:St→Rz):∀ v,XAf35 F (bp Try.f35 2) (ef35_a v) (kSeq (kc VG3835 Rf35j1 sp67) Kf51)=f35_1 F (Rf35j1∘ef35j1) v:=by
 intro a0;kernel_rfl
def f35_2(F:Nat)(kf35j2:(List Bool)×Int→Rz)(kf35j3:Unit→Rz):(List Bool)→Rz:=fun t0=>(kf35j2 (t0,(0:Int)))
theorem f35_2_eq(F:Nat)(Rf35j2:St→Rz)(Rf35j3:St→Rz):∀ v,XAf35 F (bp Try.f35 12) (ef35j1 v) (kSeq (kc VG3835 Rf35j2 sp65) (kSeq (kc VG3835 Rf35j3 []) Kf51))=f35_2 F (Rf35j2∘ef35j2) (Rf35j3∘ef35j3) v:=by
 intro t0;kernel_rfl
def f35_3(F:Nat)(kf35l1:(List Bool)×Int→Rz)(kf35j3:Unit→Rz):(List Bool)×Int→Rz:=fun (t0,t3)=>(cond (decide (t3 < (↑t0.length:Int))) (cond ((decide (0≤t3))&&(decide (t3 < (↑t0.length:Int)))) (cond (t0.getD (Int.toNat t3) false) (some ((.int .i64 t3),[])) (kf35l1 (t0,(IntKind.i64.wrap (t3+(1:Int)))))) none) (kf35j3 ()))
theorem f35_3_eq(F:Nat)(Rf35l1:St→Rz)(Rf35j3:St→Rz):∀ v,XAf35 F (bp Try.f35 52) (ef35l1 v) (kSeq (kc VG3835 Rf35l1 sp65) (kBlock 0 (kSeq (kc VG3835 Rf35j3 []) Kf51)))=f35_3 F (Rf35l1∘ef35l1) (Rf35j3∘ef35j3) v:=by
 rintro⟨t0,t3⟩;kernel_rfl
def f35_4_i:(List Bool)×Int→(List Bool)×Int:=fun (t0,t3)=>(t0,t3)
def f35_4(F:Nat)(kf35j3:Unit→Rz):(List Bool)×Int→Rz:=fun v=>loopN (fun k=>f35_3 F k kf35j3) F (f35_4_i v)
theorem f35_4_eq(F:Nat)(Rf35j3:St→Rz):∀ v,XAf35 F (bp Try.f35 26) (ef35j2 v) (kBlock 0 (kSeq (kc VG3835 Rf35j3 []) Kf51))=f35_4 F (Rf35j3∘ef35j3) v:=
 loop_cut (by kernel_rfl) (by kernel_rfl) ef35j2 ef35l1 _ f35_4_i (fun k=>f35_3 F k (Rf35j3∘ef35j3))
  (by rintro⟨t0,t3⟩;kernel_rfl) (fun Rf35l1=>f35_3_eq F Rf35l1 Rf35j3)
def f35_5(F:Nat)(kf35j3:Unit→Rz):(List Bool)×Int→Rz:=f35_4 F kf35j3
theorem f35_5_eq(F:Nat)(Rf35j3:St→Rz):∀ v,XAf35 F (bp Try.f35 13) (ef35j2 v) (kSeq (kc VG3835 Rf35j3 []) Kf51)=f35_5 F (Rf35j3∘ef35j3) v:=fun v=>
 (block_in  (by kernel_rfl) _ _).trans (f35_4_eq F Rf35j3 v)
def f35_6(F:Nat)(kf35j3:Unit→Rz):(List Bool)→Rz:=fun v=>f35_2 F (f35_5 F kf35j3) kf35j3 v
theorem f35_6_eq(F:Nat)(Rf35j3:St→Rz):∀ v,XAf35 F (bp Try.f35 6) (ef35j1 v) (kSeq (kc VG3835 Rf35j3 []) Kf51)=f35_6 F (Rf35j3∘ef35j3) v:=
 seq_cut (by kernel_rfl) (by kernel_rfl) ef35j1 ef35j2 _ (fun k=>f35_2 F k (Rf35j3∘ef35j3)) (f35_5 F (Rf35j3∘ef35j3))
  (fun Rf35j2=>f35_2_eq F Rf35j2 Rf35j3) (f35_5_eq F Rf35j3)
def f35_7(F:Nat):Unit→Rz:=fun _=>(some ((.int .i64 (-1:Int)),[]))
theorem f35_7_eq(F:Nat):∀ v,XAf35 F (bp Try.f35 7) (ef35j3 v) Kf51=f35_7 F v:=by
 intro _;kernel_rfl
def f35_8(F:Nat):(List Bool)→Rz:=fun v=>f35_6 F (f35_7 F) v
theorem f35_8_eq(F:Nat):∀ v,XAf35 F (bp Try.f35 3) (ef35j1 v) Kf51=f35_8 F v:=
 seq_cut (by kernel_rfl) (by kernel_rfl) ef35j1 ef35j3 _ (fun k=>f35_6 F k) (f35_7 F)
  (fun Rf35j3=>f35_6_eq F Rf35j3) (f35_7_eq F)
def f35_9(F:Nat):(List Bool)→Rz:=fun v=>f35_1 F (f35_8 F) v
theorem f35_9_eq(F:Nat):∀ v,XAf35 F (sub (bodyOf Try.f35) []) (ef35_a v) Kf51=f35_9 F v:=
 seq_cut (by kernel_rfl) (by kernel_rfl) ef35_a ef35j1 _ (fun k=>f35_1 F k) (f35_8 F)
  (fun Rf35j1=>f35_1_eq F Rf35j1) (f35_8_eq F)
def f35(F:Nat):(List Bool)→Rz:=f35_9 F
theorem f35_body(F:Nat)(a0:List Bool):abody VG3835 (Af35 F) Try.f35 [(.vs (.rB a0) 0 1)] []=f35 F a0:=
 (abody_in (c:=(sub (bodyOf Try.f35) [])) (by kernel_rfl) (s:=ef35_a a0) (by kernel_rfl)).trans (f35_9_eq F a0)
def r35:CRun:=fun X H=>match X,H with
 | [(.vs (.rB a0) 0 1)],[]=>some (true,(.int .i64 (Reg.first a0)),[])
 | _,_=>none
theorem s35(a0:List Bool)(h0:okV (.vs (.rB a0) 0 1)):∃ F,f35 F a0=some ((.int .i64 (Reg.first a0)),[]):=by
 have hlen:a0.length < 4611686018427387904:=h0
 refine⟨a0.length+1,?_⟩
 simp only [f35,f35_9,f35_1,f35_8,f35_6,f35_2,f35_5,f35_4,f35_4_i]
 have hb:a0.length < 4611686018427387904:=hlen
 refine(loopN_scan (fun i=>(a0,(i:Int))) a0.length (fun i=>if (a0.getD i false)=true then some (some (AV.int .i64 (i:Int),[])) else none) (some (AV.int .i64 (-1),[])) (by rfl) (fun i hi k=>?_) (fun k=>?_) _ (by omega)).trans ?_
 ·simp only [f35_3,dec_and]
  rw [cond_pos (by omega),cond_pos (by omega),Int.toNat_natCast,i64w (by omega) (by omega)]
  cases (a0.getD i false) <;> rfl
 ·simp only [f35_3]
  rw [cond_neg (by omega)]
  rfl
 ·rw [scan_idx (fun x=>x) a0 false (fun i=>some (AV.int .i64 (i:Int),[]))]
  have e:(fun x:Bool=>x)=fun x=>x==true:=funext fun x=>by cases x <;> rfl
  rw [e]
  unfold Reg.first Reg.idx
  cases a0.findIdx? _ <;> rfl
theorem c35:CallOk Try.prog G38 35 r35:=callOk_of (V:=VG3835) mixed tys eVG3835 (f:=35) (fn:=Try.f35) Try.func35 (by kernel_rfl) (c:=sub (bodyOf Try.f35) []) (by kernel_rfl) (by
 intro X H r H' h hX hH
 unfold r35 at h;split at h <;> try contradiction
 ·simp only [Option.some.injEq,Prod.mk.injEq] at h
  obtain⟨hp,rfl,rfl⟩:=h
  obtain⟨F,hF⟩:=s35 _ (hX _ (.head _))
  exact⟨Af35 F,(f35_body F _).trans hF⟩)
end Go.Am
end
section
namespace Go.Am
open Go Go.Proofs
abbrev sp96:List (Nat×Md):=[(0,.plain),(5,.plain),(13,.plain),(14,.plain),(15,.plain),(16,.plain),(17,.own 22),(18,.plain)]
abbrev sp97:List (Nat×Md):=[(13,.plain),(14,.plain),(15,.plain),(16,.plain),(19,.plain),(20,.plain)]
abbrev sp98:List (Nat×Md):=[(13,.plain),(14,.plain),(15,.plain),(16,.plain),(19,.plain),(20,.plain),(21,.plain)]
abbrev sp99:List (Nat×Md):=[(14,.plain),(15,.plain),(16,.view 2),(19,.plain),(22,.plain),(24,.plain)]
abbrev sp100:List (Nat×Md):=[(14,.plain),(15,.plain),(16,.plain),(19,.plain),(22,.plain),(24,.plain),(25,.plain),(26,.plain),(27,.plain),(28,.plain),(29,.plain)]
abbrev sp101:List (Nat×Md):=[(0,.plain),(1,.plain),(2,.plain),(3,.plain),(4,.plain),(5,.plain)]
abbrev sp102:List (Nat×Md):=[(0,.plain),(1,.plain),(3,.plain),(4,.plain),(5,.plain),(13,.plain)]
abbrev sp103:List (Nat×Md):=[(0,.plain),(1,.plain),(4,.plain),(5,.plain),(13,.plain),(14,.plain)]
abbrev sp104:List (Nat×Md):=[(0,.plain),(1,.plain),(5,.plain),(13,.plain),(14,.plain),(15,.plain)]
abbrev sp105:List (Nat×Md):=[(0,.plain),(5,.plain),(13,.plain),(14,.plain),(15,.plain),(16,.plain)]
abbrev sp106:List (Nat×Md):=[(0,.plain),(5,.plain),(13,.plain),(14,.plain),(15,.plain),(16,.plain),(17,.plain)]
abbrev sp107:List (Nat×Md):=[(0,.plain),(5,.plain),(13,.plain),(14,.plain),(15,.plain),(16,.plain),(17,.plain),(18,.plain)]
abbrev sp108:List (Nat×Md):=[(0,.plain),(13,.plain),(14,.plain),(15,.plain),(16,.plain),(17,.plain)]
abbrev sp109:List (Nat×Md):=[(13,.plain),(14,.plain),(15,.plain),(16,.plain),(19,.plain)]
abbrev sp110:List (Nat×Md):=[(13,.plain),(14,.plain),(15,.plain),(16,.plain),(19,.plain),(22,.plain),(23,.plain)]
abbrev sp111:List (Nat×Md):=[(13,.plain),(14,.plain),(15,.plain),(16,.plain),(19,.plain),(22,.plain)]
abbrev sp112:List (Nat×Md):=[(14,.plain),(15,.plain),(16,.plain),(19,.plain),(22,.plain)]
abbrev sp113:List (Nat×Md):=[(14,.plain),(15,.plain),(16,.plain),(19,.plain),(22,.plain),(24,.plain)]
abbrev sp114:List (Nat×Md):=[(14,.plain),(15,.plain),(16,.plain),(19,.plain),(22,.plain),(24,.plain),(25,.plain)]
abbrev sp115:List (Nat×Md):=[(14,.plain),(15,.plain),(16,.plain),(19,.plain),(22,.plain),(24,.plain),(25,.plain),(26,.plain)]
abbrev sp116:List (Nat×Md):=[(14,.plain),(15,.plain),(16,.plain),(19,.plain),(22,.plain),(24,.plain),(25,.plain),(26,.plain),(27,.plain)]
abbrev sp117:List (Nat×Md):=[(14,.plain),(15,.plain),(16,.plain),(19,.plain),(22,.plain),(24,.plain),(25,.plain),(26,.plain),(27,.plain),(28,.plain)]
abbrev sp118:List (Nat×Md):=[(14,.plain),(15,.plain),(16,.plain),(19,.plain),(22,.plain),(24,.plain),(27,.plain),(28,.plain)]
abbrev Ty117:=Li×Li×Int×Int×Li×Int
abbrev Ty118:=Li×Li×Int×Li×Int×Int
abbrev Ty119:=Li×Li×Li×Int×Int×(List Bool)
abbrev Ty120:=Li×Li×Int×Int×(List Bool)×Li
abbrev Ty121:=Li×Li×Int×Int×Int×(List Bool)×Li
abbrev Ty122:=Li×Li×Int×Int×Int×(List Bool)×Li×(List Li)
abbrev Ty123:=Li×Int×Int×(List Bool)×Li×(List Li)
abbrev Ty124:=Int×Int×(List Bool)×Li×(List Li)
abbrev Ty125:=Int×Int×Int×(List Bool)×Li×(List Li)
abbrev Ty126:=Int×Int×Int×Int×(List Bool)×Li×(List Li)
abbrev Ty127:=Int×Int×Int×(List Bool)×Li×(List Li)×Li
abbrev Ty128:=Int×Int×(List Bool)×Li×(List Li)×Li
abbrev Ty129:=Int×(List Bool)×Li×(List Li)×Li
abbrev Ty130:=Int×Li×Int×(List Bool)×(List Li)×Li
abbrev Ty131:=Int×Li×Int×Li×(List Bool)×(List Li)×Li
abbrev Ty132:=Int×Li×Int×Li×Int×(List Bool)×(List Li)×Li
abbrev Ty133:=Int×Li×Int×Li×Int×Bool×(List Bool)×(List Li)×Li
abbrev Ty134:=Int×Li×Int×Li×Int×Bool×Bool×(List Bool)×(List Li)×Li
abbrev Ty135:=Int×Li×Int×Li×Int×Bool×Bool×Int×(List Bool)×(List Li)×Li
abbrev Ty136:=Int×Li×Int×Bool×Bool×(List Bool)×(List Li)×Li
def lVG389:List CEnt:=[(10,[none,none],r10),(11,[some 3,none,none],r11),(12,[some 3,none,none],r12),(13,[none,none],r13),(15,[some 22,some 3,some 4],r15),(19,[],r19),(32,[some 3,some 3],r32),(34,[some 22,some 22],r34),(35,[some 4],r35)]
def VG389:Env:=mkEnv T38 G38 lVG389
noncomputable abbrev Kf53:=kFin VG389 none (Try.f9).results.toList
theorem eVG389:EOk Try.prog VG389:=eok_mk (by exact⟨c10,c11,c12,c13,c15,c19,c32,c34,c35,trivial⟩)
def Af9(F:Nat):Cuts:={ F:=F,at_:=fun n=>match n with | 7010=>some sp96 | 12029=>some sp97 | 15016=>some sp98 | 25057=>some sp99 | 34020=>some sp100 | _=>none,join:=fun n=>match n with | 1144=>some sp101 | 2142=>some sp102 | 3140=>some sp103 | 4138=>some sp104 | 5136=>some sp105 | 6134=>some sp106 | 7012=>some sp107 | 10119=>some sp108 | 11117=>some sp109 | 12031=>some sp97 | 13001=>some sp97 | 14023=>some sp97 | 15018=>some sp98 | 19083=>some sp109 | 20081=>some sp110 | 22073=>some sp111 | 24065=>some sp112 | 25059=>some sp113 | 26001=>some sp113 | 27051=>some sp113 | 29040=>some sp113 | 30038=>some sp114 | 31036=>some sp115 | 32034=>some sp116 | 33032=>some sp117 | 34022=>some sp100 | 40007=>some sp118 | 42003=>some [] | _=>none }
noncomputable abbrev XAf9(F:Nat){α:Type}:=@aexec α VG389 (Af9 F)
def ef9_a:Ty92→St:=fun (a0,a1,a2,a3,a4,a5)=>⟨[(0,(.vs (.rI .i64 a0) 0 1)),(1,(.vs (.rI .i64 a1) 0 1)),(2,.int .i64 a2),(3,.int .i64 a3),(4,.int .i64 a4),(5,(.vs (.rI .i64 a5) 0 1))],[],0,207,0⟩
def ef9j1:Ty92→St:=fun (t0,t1,t2,t3,t4,t5)=>⟨[(0,(.vs (.rI .i64 t0) 0 1)),(1,(.vs (.rI .i64 t1) 0 1)),(2,.int .i64 t2),(3,.int .i64 t3),(4,.int .i64 t4),(5,(.vs (.rI .i64 t5) 0 1))],[],0,207,0⟩
def ef9j2:Ty117→St:=fun (t0,t1,t3,t4,t5,t13)=>⟨[(0,(.vs (.rI .i64 t0) 0 1)),(1,(.vs (.rI .i64 t1) 0 1)),(3,.int .i64 t3),(4,.int .i64 t4),(5,(.vs (.rI .i64 t5) 0 1)),(13,.int .i64 t13)],[],0,207,0⟩
def ef9j3:Ty118→St:=fun (t0,t1,t4,t5,t13,t14)=>⟨[(0,(.vs (.rI .i64 t0) 0 1)),(1,(.vs (.rI .i64 t1) 0 1)),(4,.int .i64 t4),(5,(.vs (.rI .i64 t5) 0 1)),(13,.int .i64 t13),(14,.int .i64 t14)],[],0,207,0⟩
def ef9j4:Ty119→St:=fun (t0,t1,t5,t13,t14,x6)=>⟨[(0,(.vs (.rI .i64 t0) 0 1)),(1,(.vs (.rI .i64 t1) 0 1)),(5,(.vs (.rI .i64 t5) 0 1)),(13,.int .i64 t13),(14,.int .i64 t14),(15,.own 0 0 1)],[(0,(.cells x6.length (.rB x6) true))],1,207,0⟩
def ef9j5:Ty120→St:=fun (t0,t5,t13,t14,x5,x6)=>⟨[(0,(.vs (.rI .i64 t0) 0 1)),(5,(.vs (.rI .i64 t5) 0 1)),(13,.int .i64 t13),(14,.int .i64 t14),(15,.own 0 0 1),(16,.own 1 0 1)],[(0,(.cells x5.length (.rB x5) true)),(1,(.cells x6.length (.rI .i64 x6) true))],2,207,0⟩
def ef9j6:Ty120→St:=fun (t0,t5,t13,t14,x5,x6)=>⟨[(0,(.vs (.rI .i64 t0) 0 1)),(5,(.vs (.rI .i64 t5) 0 1)),(13,.int .i64 t13),(14,.int .i64 t14),(15,.own 0 0 1),(16,.own 1 0 1),(17,.ns)],[(0,(.cells x5.length (.rB x5) true)),(1,(.cells x6.length (.rI .i64 x6) true))],2,207,0⟩
def ef9j7:Ty121→St:=fun (t0,t5,t13,t14,t18,x6,x7)=>⟨[(0,(.vs (.rI .i64 t0) 0 1)),(5,(.vs (.rI .i64 t5) 0 1)),(13,.int .i64 t13),(14,.int .i64 t14),(15,.own 0 0 1),(16,.own 1 0 1),(17,.ns),(18,.int .i64 t18)],[(0,(.cells x6.length (.rB x6) true)),(1,(.cells x7.length (.rI .i64 x7) true))],2,207,0⟩
def ef9l1:Ty122→St:=fun (t0,t5,t13,t14,t18,x6,x7,x8)=>⟨[(0,(.vs (.rI .i64 t0) 0 1)),(5,(.vs (.rI .i64 t5) 0 1)),(13,.int .i64 t13),(14,.int .i64 t14),(15,.own 0 0 1),(16,.own 1 0 1),(17,.own 2 0 1),(18,.int .i64 t18)],[(0,(.cells x6.length (.rB x6) true)),(1,(.cells x7.length (.rI .i64 x7) true)),(2,(.cells x8.length (.rL .i64 x8) true))],3,207,0⟩
def ef9j8:Ty123→St:=fun (t0,t13,t14,x4,x5,x6)=>⟨[(0,(.vs (.rI .i64 t0) 0 1)),(13,.int .i64 t13),(14,.int .i64 t14),(15,.own 0 0 1),(16,.own 1 0 1),(17,.own 2 0 1)],[(0,(.cells x4.length (.rB x4) true)),(1,(.cells x5.length (.rI .i64 x5) true)),(2,(.cells x6.length (.rL .i64 x6) true))],3,207,0⟩
def ef9j9:Ty124→St:=fun (t13,t14,x3,x4,x5)=>⟨[(13,.int .i64 t13),(14,.int .i64 t14),(15,.own 0 0 1),(16,.own 1 0 1),(19,.own 2 0 1)],[(0,(.cells x3.length (.rB x3) true)),(1,(.cells x4.length (.rI .i64 x4) true)),(2,(.cells x5.length (.rL .i64 x5) true))],3,207,0⟩
def ef9j10:Ty125→St:=fun (t13,t14,t20,x4,x5,x6)=>⟨[(13,.int .i64 t13),(14,.int .i64 t14),(15,.own 0 0 1),(16,.own 1 0 1),(19,.own 2 0 1),(20,.int .i64 t20)],[(0,(.cells x4.length (.rB x4) true)),(1,(.cells x5.length (.rI .i64 x5) true)),(2,(.cells x6.length (.rL .i64 x6) true))],3,207,0⟩
def ef9l2:Ty125→St:=ef9j10
def ef9j11:Ty125→St:=ef9j10
def ef9j12:Ty126→St:=fun (t13,t14,t20,t21,x5,x6,x7)=>⟨[(13,.int .i64 t13),(14,.int .i64 t14),(15,.own 0 0 1),(16,.own 1 0 1),(19,.own 2 0 1),(20,.int .i64 t20),(21,.int .i64 t21)],[(0,(.cells x5.length (.rB x5) true)),(1,(.cells x6.length (.rI .i64 x6) true)),(2,(.cells x7.length (.rL .i64 x7) true))],3,207,0⟩
def ef9l3:Ty126→St:=ef9j12
def ef9j13:Ty125→St:=ef9j10
def ef9j14:Ty124→St:=ef9j9
def ef9j15:Ty127→St:=fun (t13,t14,t23,x4,x5,x6,x7)=>⟨[(13,.int .i64 t13),(14,.int .i64 t14),(15,.own 0 0 1),(16,.own 1 0 1),(19,.own 2 0 1),(22,.own 3 0 1),(23,.int .i64 t23)],[(0,(.cells x4.length (.rB x4) true)),(1,(.cells x5.length (.rI .i64 x5) true)),(2,(.cells x6.length (.rL .i64 x6) true)),(3,(.cells x7.length (.rI .i64 x7) true))],4,207,0⟩
def ef9j16:Ty128→St:=fun (t13,t14,x3,x4,x5,x6)=>⟨[(13,.int .i64 t13),(14,.int .i64 t14),(15,.own 0 0 1),(16,.own 1 0 1),(19,.own 2 0 1),(22,.own 3 0 1)],[(0,(.cells x3.length (.rB x3) true)),(1,(.cells x4.length (.rI .i64 x4) true)),(2,(.cells x5.length (.rL .i64 x5) true)),(3,(.cells x6.length (.rI .i64 x6) true))],4,207,0⟩
def ef9j17:Ty129→St:=fun (t14,x2,x3,x4,x5)=>⟨[(14,.int .i64 t14),(15,.own 0 0 1),(16,.own 1 0 1),(19,.own 2 0 1),(22,.own 3 0 1)],[(0,(.cells x2.length (.rB x2) true)),(1,(.cells x3.length (.rI .i64 x3) true)),(2,(.cells x4.length (.rL .i64 x4) true)),(3,(.cells x5.length (.rI .i64 x5) true))],4,207,0⟩
def ef9j18:Ty128→St:=fun (t14,t24,x3,x4,x5,x6)=>⟨[(14,.int .i64 t14),(15,.own 0 0 1),(16,.own 1 0 1),(19,.own 2 0 1),(22,.own 3 0 1),(24,.int .i64 t24)],[(0,(.cells x3.length (.rB x3) true)),(1,(.cells x4.length (.rI .i64 x4) true)),(2,(.cells x5.length (.rL .i64 x5) true)),(3,(.cells x6.length (.rI .i64 x6) true))],4,207,0⟩
def ef9l4:Ty130→St:=fun (t14,t16,t24,x4,x5,x6)=>⟨[(14,.int .i64 t14),(15,.own 0 0 1),(16,(.vs (.rI .i64 t16) 0 1)),(19,.own 1 0 1),(22,.own 2 0 1),(24,.int .i64 t24)],[(0,(.cells x4.length (.rB x4) true)),(1,(.cells x5.length (.rL .i64 x5) true)),(2,(.cells x6.length (.rI .i64 x6) true))],3,207,0⟩
def ef9j19:Ty130→St:=ef9l4
def ef9j20:Ty130→St:=ef9l4
def ef9j21:Ty131→St:=fun (t14,t16,t24,t25,x5,x6,x7)=>⟨[(14,.int .i64 t14),(15,.own 0 0 1),(16,(.vs (.rI .i64 t16) 0 1)),(19,.own 1 0 1),(22,.own 2 0 1),(24,.int .i64 t24),(25,(.vs (.rI .i64 t25) 0 1))],[(0,(.cells x5.length (.rB x5) true)),(1,(.cells x6.length (.rL .i64 x6) true)),(2,(.cells x7.length (.rI .i64 x7) true))],3,207,0⟩
def ef9j22:Ty132→St:=fun (t14,t16,t24,t25,t26,x6,x7,x8)=>⟨[(14,.int .i64 t14),(15,.own 0 0 1),(16,(.vs (.rI .i64 t16) 0 1)),(19,.own 1 0 1),(22,.own 2 0 1),(24,.int .i64 t24),(25,(.vs (.rI .i64 t25) 0 1)),(26,.int .i64 t26)],[(0,(.cells x6.length (.rB x6) true)),(1,(.cells x7.length (.rL .i64 x7) true)),(2,(.cells x8.length (.rI .i64 x8) true))],3,207,0⟩
def ef9j23:Ty133→St:=fun (t14,t16,t24,t25,t26,t27,x7,x8,x9)=>⟨[(14,.int .i64 t14),(15,.own 0 0 1),(16,(.vs (.rI .i64 t16) 0 1)),(19,.own 1 0 1),(22,.own 2 0 1),(24,.int .i64 t24),(25,(.vs (.rI .i64 t25) 0 1)),(26,.int .i64 t26),(27,.bool t27)],[(0,(.cells x7.length (.rB x7) true)),(1,(.cells x8.length (.rL .i64 x8) true)),(2,(.cells x9.length (.rI .i64 x9) true))],3,207,0⟩
def ef9j24:Ty134→St:=fun (t14,t16,t24,t25,t26,t27,t28,x8,x9,x10)=>⟨[(14,.int .i64 t14),(15,.own 0 0 1),(16,(.vs (.rI .i64 t16) 0 1)),(19,.own 1 0 1),(22,.own 2 0 1),(24,.int .i64 t24),(25,(.vs (.rI .i64 t25) 0 1)),(26,.int .i64 t26),(27,.bool t27),(28,.bool t28)],[(0,(.cells x8.length (.rB x8) true)),(1,(.cells x9.length (.rL .i64 x9) true)),(2,(.cells x10.length (.rI .i64 x10) true))],3,207,0⟩
def ef9j25:Ty135→St:=fun (t14,t16,t24,t25,t26,t27,t28,t29,x9,x10,x11)=>⟨[(14,.int .i64 t14),(15,.own 0 0 1),(16,(.vs (.rI .i64 t16) 0 1)),(19,.own 1 0 1),(22,.own 2 0 1),(24,.int .i64 t24),(25,(.vs (.rI .i64 t25) 0 1)),(26,.int .i64 t26),(27,.bool t27),(28,.bool t28),(29,.int .i64 t29)],[(0,(.cells x9.length (.rB x9) true)),(1,(.cells x10.length (.rL .i64 x10) true)),(2,(.cells x11.length (.rI .i64 x11) true))],3,207,0⟩
def ef9l5:Ty135→St:=ef9j25
def ef9j26:Ty136→St:=fun (t14,t16,t24,t27,t28,x6,x7,x8)=>⟨[(14,.int .i64 t14),(15,.own 0 0 1),(16,(.vs (.rI .i64 t16) 0 1)),(19,.own 1 0 1),(22,.own 2 0 1),(24,.int .i64 t24),(27,.bool t27),(28,.bool t28)],[(0,(.cells x6.length (.rB x6) true)),(1,(.cells x7.length (.rL .i64 x7) true)),(2,(.cells x8.length (.rI .i64 x8) true))],3,207,0⟩
def ef9j27:Ty130→St:=ef9l4
def ef9j28:Unit→St:=fun _=>⟨[],[],0,207,0⟩
def f9_1(F:Nat)(kf9j1:Ty92→Rz):Ty92→Rz:=fun (a0,a1,a2,a3,a4,a5)=>(kf9j1 (a0,a1,a2,a3,a4,a5))
theorem f9_1_eq(F:Nat)(Rf9j1:St→Rz):∀ v,XAf9 F (bp Try.f9 2) (ef9_a v) (kSeq (kc VG389 Rf9j1 sp101) Kf53)=f9_1 F (Rf9j1∘ef9j1) v:=by
 rintro⟨a0,a1,a2,a3,a4,a5⟩;kernel_rfl
def f9_2(F:Nat)(kf9j2:Ty117→Rz):Ty92→Rz:=fun (t0,t1,t2,t3,t4,t5)=>(cond (decide (0 < (13:Int))) (kf9j2 (t0,t1,t3,t4,t5,(Reg.around t2 (13:Int)))) none)
theorem f9_2_eq(F:Nat)(Rf9j2:St→Rz):∀ v,XAf9 F (bp Try.f9 6) (ef9j1 v) (kSeq (kc VG389 Rf9j2 sp102) Kf53)=f9_2 F (Rf9j2∘ef9j2) v:=by
 rintro⟨t0,t1,t2,t3,t4,t5⟩;kernel_rfl
def f9_3(F:Nat)(kf9j3:Ty118→Rz):Ty117→Rz:=fun (t0,t1,t3,t4,t5,t13)=>(cond (decide (0 < (6:Int))) (kf9j3 (t0,t1,t4,t5,t13,(IntKind.i64.wrap ((1:Int)+(Reg.around t3 (6:Int)))))) none)
theorem f9_3_eq(F:Nat)(Rf9j3:St→Rz):∀ v,XAf9 F (bp Try.f9 14) (ef9j2 v) (kSeq (kc VG389 Rf9j3 sp103) Kf53)=f9_3 F (Rf9j3∘ef9j3) v:=by
 rintro⟨t0,t1,t3,t4,t5,t13⟩;kernel_rfl
def f9_4(F:Nat)(kf9j4:Ty119→Rz):Ty118→Rz:=fun (t0,t1,t4,t5,t13,t14)=>(cond ((decide (0≤t14))&&(decide (Int.toNat t14 < 1073741000))) (kf9j4 (t0,t1,t5,t13,t14,(Reg.ups t4 (Int.toNat t14)))) none)
theorem f9_4_eq(F:Nat)(Rf9j4:St→Rz):∀ v,XAf9 F (bp Try.f9 30) (ef9j3 v) (kSeq (kc VG389 Rf9j4 sp104) Kf53)=f9_4 F (Rf9j4∘ef9j4) v:=by
 rintro⟨t0,t1,t4,t5,t13,t14⟩;kernel_rfl
def f9_5(F:Nat)(kf9j5:Ty120→Rz):Ty119→Rz:=fun (t0,t1,t5,t13,t14,x6)=>(cond (((decide (0≤t13))&&(decide (Int.toNat t13 < 1073741000)))&&((decide (0≤t14))&&(decide (Int.toNat t14 < 1073741000)))) (kf9j5 (t0,t5,t13,t14,x6,(Reg.owners t1 (Int.toNat t13) t14))) none)
theorem f9_5_eq(F:Nat)(Rf9j5:St→Rz):∀ v,XAf9 F (bp Try.f9 62) (ef9j4 v) (kSeq (kc VG389 Rf9j5 sp105) Kf53)=f9_5 F (Rf9j5∘ef9j5) v:=by
 rintro⟨t0,t1,t5,t13,t14,x6⟩;kernel_rfl
def f9_6(F:Nat)(kf9j6:Ty120→Rz):Ty120→Rz:=fun (t0,t5,t13,t14,x5,x6)=>(kf9j6 (t0,t5,t13,t14,x5,x6))
theorem f9_6_eq(F:Nat)(Rf9j6:St→Rz):∀ v,XAf9 F (bp Try.f9 126) (ef9j5 v) (kSeq (kc VG389 Rf9j6 sp106) Kf53)=f9_6 F (Rf9j6∘ef9j6) v:=by
 rintro⟨t0,t5,t13,t14,x5,x6⟩;kernel_rfl
def f9_7(F:Nat)(kf9j7:Ty121→Rz)(kf9j8:Ty123→Rz):Ty120→Rz:=fun (t0,t5,t13,t14,x5,x6)=>(kf9j7 (t0,t5,t13,t14,(0:Int),x5,x6))
theorem f9_7_eq(F:Nat)(Rf9j7:St→Rz)(Rf9j8:St→Rz):∀ v,XAf9 F (bp Try.f9 508) (ef9j6 v) (kSeq (kc VG389 Rf9j7 sp107) (kSeq (kc VG389 Rf9j8 sp108) Kf53))=f9_7 F (Rf9j7∘ef9j7) (Rf9j8∘ef9j8) v:=by
 rintro⟨t0,t5,t13,t14,x5,x6⟩;kernel_rfl
def f9_8(F:Nat)(kf9l1:Ty122→Rz)(kf9j8:Ty123→Rz):Ty122→Rz:=fun (t0,t5,t13,t14,t18,x6,x7,x8)=>(cond (decide ((IntKind.i64.wrap (t18+(1:Int))) < (↑t5.length:Int))) (cond (decide (t18 < (12:Int))) (cond (decide (t13 > (0:Int))) (cond ((decide (0≤t18))&&(decide (t18 < (↑t5.length:Int)))) (cond (decide (0 < t13)) (cond ((decide (0≤(IntKind.i64.wrap (t18+(1:Int)))))&&(decide ((IntKind.i64.wrap (t18+(1:Int))) < (↑t5.length:Int)))) (cond (decide (0 < t13)) (cond (decide ((x8.length+1) < 1073741824)) (kf9l1 (t0,t5,t13,t14,(IntKind.i64.wrap (t18+(2:Int))),x6,x7,(x8++[[(Reg.around (t5.getD (Int.toNat t18) 0) t13),(Reg.around (t5.getD (Int.toNat (IntKind.i64.wrap (t18+(1:Int)))) 0) t13)]]))) none) none) none) none) none) (kf9j8 (t0,t13,t14,x6,x7,x8))) (kf9j8 (t0,t13,t14,x6,x7,x8))) (kf9j8 (t0,t13,t14,x6,x7,x8)))
theorem f9_8_eq(F:Nat)(Rf9l1:St→Rz)(Rf9j8:St→Rz):∀ v,XAf9 F (bp Try.f9 2036) (ef9l1 v) (kSeq (kc VG389 Rf9l1 sp96) (kBlock 0 (kSeq (kc VG389 Rf9j8 sp108) Kf53)))=f9_8 F (Rf9l1∘ef9l1) (Rf9j8∘ef9j8) v:=by
 rintro⟨t0,t5,t13,t14,t18,x6,x7,x8⟩;kernel_rfl
def f9_9_i:Ty121→Li×Li×Int×Int×Int×(List Bool)×Li×(List Li):=fun (t0,t5,t13,t14,t18,x6,x7)=>(t0,t5,t13,t14,t18,x6,x7,[])
def f9_9(F:Nat)(kf9j8:Ty123→Rz):Ty121→Rz:=fun v=>loopN (fun k=>f9_8 F k kf9j8) F (f9_9_i v)
theorem f9_9_eq(F:Nat)(Rf9j8:St→Rz):∀ v,XAf9 F (bp Try.f9 1018) (ef9j7 v) (kBlock 0 (kSeq (kc VG389 Rf9j8 sp108) Kf53))=f9_9 F (Rf9j8∘ef9j8) v:=
 loop_cut (by kernel_rfl) (by kernel_rfl) ef9j7 ef9l1 _ f9_9_i (fun k=>f9_8 F k (Rf9j8∘ef9j8))
  (by rintro⟨t0,t5,t13,t14,t18,x6,x7⟩;kernel_rfl) (fun Rf9l1=>f9_8_eq F Rf9l1 Rf9j8)
def f9_10(F:Nat)(kf9j8:Ty123→Rz):Ty121→Rz:=f9_9 F kf9j8
theorem f9_10_eq(F:Nat)(Rf9j8:St→Rz):∀ v,XAf9 F (bp Try.f9 509) (ef9j7 v) (kSeq (kc VG389 Rf9j8 sp108) Kf53)=f9_10 F (Rf9j8∘ef9j8) v:=fun v=>
 (block_in  (by kernel_rfl) _ _).trans (f9_9_eq F Rf9j8 v)
def f9_11(F:Nat)(kf9j8:Ty123→Rz):Ty120→Rz:=fun v=>f9_7 F (f9_10 F kf9j8) kf9j8 v
theorem f9_11_eq(F:Nat)(Rf9j8:St→Rz):∀ v,XAf9 F (bp Try.f9 254) (ef9j6 v) (kSeq (kc VG389 Rf9j8 sp108) Kf53)=f9_11 F (Rf9j8∘ef9j8) v:=
 seq_cut (by kernel_rfl) (by kernel_rfl) ef9j6 ef9j7 _ (fun k=>f9_7 F k (Rf9j8∘ef9j8)) (f9_10 F (Rf9j8∘ef9j8))
  (fun Rf9j7=>f9_7_eq F Rf9j7 Rf9j8) (f9_10_eq F Rf9j8)
def f9_12(F:Nat)(kf9j9:Ty124→Rz):Ty123→Rz:=fun (t0,t13,t14,x4,x5,x6)=>(cond ((decide (0≤t13))&&(decide (Int.toNat t13 < 1073741000))) (cond ((decide ((Reg.groups t0 (Int.toNat t13) 6).flatten.length < 1073740000))&&(decide ((Reg.groups t0 (Int.toNat t13) 6).length+x6.length < 1073741000))) (kf9j9 (t13,t14,x4,x5,(Isl.merge (Reg.groups t0 (Int.toNat t13) 6) x6))) none) none)
theorem f9_12_eq(F:Nat)(Rf9j9:St→Rz):∀ v,XAf9 F (bp Try.f9 510) (ef9j8 v) (kSeq (kc VG389 Rf9j9 sp109) Kf53)=f9_12 F (Rf9j9∘ef9j9) v:=by
 rintro⟨t0,t13,t14,x4,x5,x6⟩;kernel_rfl
def f9_13(F:Nat)(kf9j10:Ty125→Rz)(kf9j14:Ty124→Rz):Ty124→Rz:=fun (t13,t14,x3,x4,x5)=>(kf9j10 (t13,t14,(0:Int),x3,x4,x5))
theorem f9_13_eq(F:Nat)(Rf9j10:St→Rz)(Rf9j14:St→Rz):∀ v,XAf9 F (bp Try.f9 2044) (ef9j9 v) (kSeq (kc VG389 Rf9j10 sp97) (kSeq (kc VG389 Rf9j14 sp109) Kf53))=f9_13 F (Rf9j10∘ef9j10) (Rf9j14∘ef9j14) v:=by
 rintro⟨t13,t14,x3,x4,x5⟩;kernel_rfl
def f9_14(F:Nat)(kf9j11:Ty125→Rz)(kf9l2:Ty125→Rz)(kf9j14:Ty124→Rz):Ty125→Rz:=fun (t13,t14,t20,x4,x5,x6)=>(cond (decide (t20 < (↑x6.length:Int))) (kf9j11 (t13,t14,t20,x4,x5,x6)) (kf9j14 (t13,t14,x4,x5,x6)))
theorem f9_14_eq(F:Nat)(Rf9j11:St→Rz)(Rf9l2:St→Rz)(Rf9j14:St→Rz):∀ v,XAf9 F (bp Try.f9 16360) (ef9l2 v) (kSeq (kc VG389 Rf9j11 sp97) (kSeq (kc VG389 Rf9l2 sp97) (kBlock 2 (kSeq (kc VG389 Rf9j14 sp109) Kf53))))=f9_14 F (Rf9j11∘ef9j11) (Rf9l2∘ef9l2) (Rf9j14∘ef9j14) v:=by
 rintro⟨t13,t14,t20,x4,x5,x6⟩;kernel_rfl
def f9_15(F:Nat)(kf9j12:Ty126→Rz)(kf9j13:Ty125→Rz)(kf9l2:Ty125→Rz)(kf9j14:Ty124→Rz):Ty125→Rz:=fun (t13,t14,t20,x4,x5,x6)=>(kf9j12 (t13,t14,t20,(0:Int),x4,x5,x6))
theorem f9_15_eq(F:Nat)(Rf9j12:St→Rz)(Rf9j13:St→Rz)(Rf9l2:St→Rz)(Rf9j14:St→Rz):∀ v,XAf9 F (bp Try.f9 130888) (ef9j11 v) (kSeq (kc VG389 Rf9j12 sp98) (kBlock 3 (kSeq (kc VG389 Rf9j13 sp97) (kSeq (kc VG389 Rf9l2 sp97) (kBlock 2 (kSeq (kc VG389 Rf9j14 sp109) Kf53))))))=f9_15 F (Rf9j12∘ef9j12) (Rf9j13∘ef9j13) (Rf9l2∘ef9l2) (Rf9j14∘ef9j14) v:=by
 rintro⟨t13,t14,t20,x4,x5,x6⟩;kernel_rfl
def f9_16(F:Nat)(kf9l3:Ty126→Rz)(kf9j13:Ty125→Rz)(kf9l2:Ty125→Rz)(kf9j14:Ty124→Rz):Ty126→Rz:=fun (t13,t14,t20,t21,x5,x6,x7)=>(cond ((decide (0≤t20))&&(decide (t20 < (↑x7.length:Int)))) (cond (decide (t21 < (↑(x7.getD (Int.toNat t20) []).length:Int))) (cond ((decide (0≤t20))&&(decide (t20 < (↑x7.length:Int)))) (cond ((decide (0≤t21))&&(decide (t21 < (↑(x7.getD (Int.toNat t20) []).length:Int)))) (cond (decide (((x7.getD (Int.toNat t20) []).getD (Int.toNat t21) 0) < (0:Int))) (some ((.bool false),[])) (cond ((decide (0≤t20))&&(decide (t20 < (↑x7.length:Int)))) (cond ((decide (0≤t21))&&(decide (t21 < (↑(x7.getD (Int.toNat t20) []).length:Int)))) (cond (decide (((x7.getD (Int.toNat t20) []).getD (Int.toNat t21) 0)≥t13)) (some ((.bool false),[])) (kf9l3 (t13,t14,t20,(IntKind.i64.wrap (t21+(1:Int))),x5,x6,x7))) none) none)) none) none) (kf9j13 (t13,t14,t20,x5,x6,x7))) none)
theorem f9_16_eq(F:Nat)(Rf9l3:St→Rz)(Rf9j13:St→Rz)(Rf9l2:St→Rz)(Rf9j14:St→Rz):∀ v,XAf9 F (bp Try.f9 523556) (ef9l3 v) (kSeq (kc VG389 Rf9l3 sp98) (kBlock 4 (kBlock 3 (kSeq (kc VG389 Rf9j13 sp97) (kSeq (kc VG389 Rf9l2 sp97) (kBlock 2 (kSeq (kc VG389 Rf9j14 sp109) Kf53)))))))=f9_16 F (Rf9l3∘ef9l3) (Rf9j13∘ef9j13) (Rf9l2∘ef9l2) (Rf9j14∘ef9j14) v:=by
 rintro⟨t13,t14,t20,t21,x5,x6,x7⟩;kernel_rfl
def f9_17_i:Ty126→Int×Int×Int×Int×(List Bool)×Li×(List Li):=fun (t13,t14,t20,t21,x5,x6,x7)=>(t13,t14,t20,t21,x5,x6,x7)
def f9_17(F:Nat)(kf9j13:Ty125→Rz)(kf9l2:Ty125→Rz)(kf9j14:Ty124→Rz):Ty126→Rz:=fun v=>loopN (fun k=>f9_16 F k kf9j13 kf9l2 kf9j14) F (f9_17_i v)
theorem f9_17_eq(F:Nat)(Rf9j13:St→Rz)(Rf9l2:St→Rz)(Rf9j14:St→Rz):∀ v,XAf9 F (bp Try.f9 261778) (ef9j12 v) (kBlock 4 (kBlock 3 (kSeq (kc VG389 Rf9j13 sp97) (kSeq (kc VG389 Rf9l2 sp97) (kBlock 2 (kSeq (kc VG389 Rf9j14 sp109) Kf53))))))=f9_17 F (Rf9j13∘ef9j13) (Rf9l2∘ef9l2) (Rf9j14∘ef9j14) v:=
 loop_cut (by kernel_rfl) (by kernel_rfl) ef9j12 ef9l3 _ f9_17_i (fun k=>f9_16 F k (Rf9j13∘ef9j13) (Rf9l2∘ef9l2) (Rf9j14∘ef9j14))
  (by rintro⟨t13,t14,t20,t21,x5,x6,x7⟩;kernel_rfl) (fun Rf9l3=>f9_16_eq F Rf9l3 Rf9j13 Rf9l2 Rf9j14)
def f9_18(F:Nat)(kf9j13:Ty125→Rz)(kf9l2:Ty125→Rz)(kf9j14:Ty124→Rz):Ty126→Rz:=f9_17 F kf9j13 kf9l2 kf9j14
theorem f9_18_eq(F:Nat)(Rf9j13:St→Rz)(Rf9l2:St→Rz)(Rf9j14:St→Rz):∀ v,XAf9 F (bp Try.f9 130889) (ef9j12 v) (kBlock 3 (kSeq (kc VG389 Rf9j13 sp97) (kSeq (kc VG389 Rf9l2 sp97) (kBlock 2 (kSeq (kc VG389 Rf9j14 sp109) Kf53)))))=f9_18 F (Rf9j13∘ef9j13) (Rf9l2∘ef9l2) (Rf9j14∘ef9j14) v:=fun v=>
 (block_in  (by kernel_rfl) _ _).trans (f9_17_eq F Rf9j13 Rf9l2 Rf9j14 v)
def f9_19(F:Nat)(kf9j13:Ty125→Rz)(kf9l2:Ty125→Rz)(kf9j14:Ty124→Rz):Ty125→Rz:=fun v=>f9_15 F (f9_18 F kf9j13 kf9l2 kf9j14) kf9j13 kf9l2 kf9j14 v
theorem f9_19_eq(F:Nat)(Rf9j13:St→Rz)(Rf9l2:St→Rz)(Rf9j14:St→Rz):∀ v,XAf9 F (bp Try.f9 65444) (ef9j11 v) (kBlock 3 (kSeq (kc VG389 Rf9j13 sp97) (kSeq (kc VG389 Rf9l2 sp97) (kBlock 2 (kSeq (kc VG389 Rf9j14 sp109) Kf53)))))=f9_19 F (Rf9j13∘ef9j13) (Rf9l2∘ef9l2) (Rf9j14∘ef9j14) v:=
 seq_cut (by kernel_rfl) (by kernel_rfl) ef9j11 ef9j12 _ (fun k=>f9_15 F k (Rf9j13∘ef9j13) (Rf9l2∘ef9l2) (Rf9j14∘ef9j14)) (f9_18 F (Rf9j13∘ef9j13) (Rf9l2∘ef9l2) (Rf9j14∘ef9j14))
  (fun Rf9j12=>f9_15_eq F Rf9j12 Rf9j13 Rf9l2 Rf9j14) (f9_18_eq F Rf9j13 Rf9l2 Rf9j14)
def f9_20(F:Nat)(kf9j13:Ty125→Rz)(kf9l2:Ty125→Rz)(kf9j14:Ty124→Rz):Ty125→Rz:=f9_19 F kf9j13 kf9l2 kf9j14
theorem f9_20_eq(F:Nat)(Rf9j13:St→Rz)(Rf9l2:St→Rz)(Rf9j14:St→Rz):∀ v,XAf9 F (bp Try.f9 32722) (ef9j11 v) (kSeq (kc VG389 Rf9j13 sp97) (kSeq (kc VG389 Rf9l2 sp97) (kBlock 2 (kSeq (kc VG389 Rf9j14 sp109) Kf53))))=f9_20 F (Rf9j13∘ef9j13) (Rf9l2∘ef9l2) (Rf9j14∘ef9j14) v:=fun v=>
 (block_in  (by kernel_rfl) _ _).trans (f9_19_eq F Rf9j13 Rf9l2 Rf9j14 v)
def f9_21(F:Nat)(kf9l2:Ty125→Rz)(kf9j14:Ty124→Rz):Ty125→Rz:=fun (t13,t14,t20,x4,x5,x6)=>(kf9l2 (t13,t14,(IntKind.i64.wrap (t20+(1:Int))),x4,x5,x6))
theorem f9_21_eq(F:Nat)(Rf9l2:St→Rz)(Rf9j14:St→Rz):∀ v,XAf9 F (bp Try.f9 32723) (ef9j13 v) (kSeq (kc VG389 Rf9l2 sp97) (kBlock 2 (kSeq (kc VG389 Rf9j14 sp109) Kf53)))=f9_21 F (Rf9l2∘ef9l2) (Rf9j14∘ef9j14) v:=by
 rintro⟨t13,t14,t20,x4,x5,x6⟩;kernel_rfl
def f9_22(F:Nat)(kf9l2:Ty125→Rz)(kf9j14:Ty124→Rz):Ty125→Rz:=fun v=>f9_20 F (f9_21 F kf9l2 kf9j14) kf9l2 kf9j14 v
theorem f9_22_eq(F:Nat)(Rf9l2:St→Rz)(Rf9j14:St→Rz):∀ v,XAf9 F (bp Try.f9 16361) (ef9j11 v) (kSeq (kc VG389 Rf9l2 sp97) (kBlock 2 (kSeq (kc VG389 Rf9j14 sp109) Kf53)))=f9_22 F (Rf9l2∘ef9l2) (Rf9j14∘ef9j14) v:=
 seq_cut (by kernel_rfl) (by kernel_rfl) ef9j11 ef9j13 _ (fun k=>f9_20 F k (Rf9l2∘ef9l2) (Rf9j14∘ef9j14)) (f9_21 F (Rf9l2∘ef9l2) (Rf9j14∘ef9j14))
  (fun Rf9j13=>f9_20_eq F Rf9j13 Rf9l2 Rf9j14) (f9_21_eq F Rf9l2 Rf9j14)
def f9_23(F:Nat)(kf9l2:Ty125→Rz)(kf9j14:Ty124→Rz):Ty125→Rz:=fun v=>f9_14 F (f9_22 F kf9l2 kf9j14) kf9l2 kf9j14 v
theorem f9_23_eq(F:Nat)(Rf9l2:St→Rz)(Rf9j14:St→Rz):∀ v,XAf9 F (bp Try.f9 8180) (ef9l2 v) (kSeq (kc VG389 Rf9l2 sp97) (kBlock 2 (kSeq (kc VG389 Rf9j14 sp109) Kf53)))=f9_23 F (Rf9l2∘ef9l2) (Rf9j14∘ef9j14) v:=
 seq_cut (by kernel_rfl) (by kernel_rfl) ef9l2 ef9j11 _ (fun k=>f9_14 F k (Rf9l2∘ef9l2) (Rf9j14∘ef9j14)) (f9_22 F (Rf9l2∘ef9l2) (Rf9j14∘ef9j14))
  (fun Rf9j11=>f9_14_eq F Rf9j11 Rf9l2 Rf9j14) (f9_22_eq F Rf9l2 Rf9j14)
def f9_24_i:Ty125→Int×Int×Int×(List Bool)×Li×(List Li):=fun (t13,t14,t20,x4,x5,x6)=>(t13,t14,t20,x4,x5,x6)
def f9_24(F:Nat)(kf9j14:Ty124→Rz):Ty125→Rz:=fun v=>loopN (fun k=>f9_23 F k kf9j14) F (f9_24_i v)
theorem f9_24_eq(F:Nat)(Rf9j14:St→Rz):∀ v,XAf9 F (bp Try.f9 4090) (ef9j10 v) (kBlock 2 (kSeq (kc VG389 Rf9j14 sp109) Kf53))=f9_24 F (Rf9j14∘ef9j14) v:=
 loop_cut (by kernel_rfl) (by kernel_rfl) ef9j10 ef9l2 _ f9_24_i (fun k=>f9_23 F k (Rf9j14∘ef9j14))
  (by rintro⟨t13,t14,t20,x4,x5,x6⟩;kernel_rfl) (fun Rf9l2=>f9_23_eq F Rf9l2 Rf9j14)
def f9_25(F:Nat)(kf9j14:Ty124→Rz):Ty125→Rz:=f9_24 F kf9j14
theorem f9_25_eq(F:Nat)(Rf9j14:St→Rz):∀ v,XAf9 F (bp Try.f9 2045) (ef9j10 v) (kSeq (kc VG389 Rf9j14 sp109) Kf53)=f9_25 F (Rf9j14∘ef9j14) v:=fun v=>
 (block_in  (by kernel_rfl) _ _).trans (f9_24_eq F Rf9j14 v)
def f9_26(F:Nat)(kf9j14:Ty124→Rz):Ty124→Rz:=fun v=>f9_13 F (f9_25 F kf9j14) kf9j14 v
theorem f9_26_eq(F:Nat)(Rf9j14:St→Rz):∀ v,XAf9 F (bp Try.f9 1022) (ef9j9 v) (kSeq (kc VG389 Rf9j14 sp109) Kf53)=f9_26 F (Rf9j14∘ef9j14) v:=
 seq_cut (by kernel_rfl) (by kernel_rfl) ef9j9 ef9j10 _ (fun k=>f9_13 F k (Rf9j14∘ef9j14)) (f9_25 F (Rf9j14∘ef9j14))
  (fun Rf9j10=>f9_13_eq F Rf9j10 Rf9j14) (f9_25_eq F Rf9j14)
def f9_27(F:Nat)(kf9j15:Ty127→Rz):Ty124→Rz:=fun (t13,t14,x3,x4,x5)=>(cond (decide (x4.length < 1073741000)) (kf9j15 (t13,t14,(Reg.own x5 x4 x3).2,x3,x4,x5,(Reg.own x5 x4 x3).1)) none)
theorem f9_27_eq(F:Nat)(Rf9j15:St→Rz):∀ v,XAf9 F (bp Try.f9 2046) (ef9j14 v) (kSeq (kc VG389 Rf9j15 sp110) Kf53)=f9_27 F (Rf9j15∘ef9j15) v:=by
 rintro⟨t13,t14,x3,x4,x5⟩;kernel_rfl
def f9_28(F:Nat)(kf9j16:Ty128→Rz):Ty127→Rz:=fun (t13,t14,t23,x4,x5,x6,x7)=>(cond (t23 != (0:Int)) (cond (t23==(6:Int)) (cond (decide ((Reg.first x4) < (0:Int))) (some ((.bool true),[])) (some ((.bool false),[]))) (some ((.bool false),[]))) (kf9j16 (t13,t14,x4,x5,x6,x7)))
theorem f9_28_eq(F:Nat)(Rf9j16:St→Rz):∀ v,XAf9 F (bp Try.f9 4094) (ef9j15 v) (kSeq (kc VG389 Rf9j16 sp111) Kf53)=f9_28 F (Rf9j16∘ef9j16) v:=by
 rintro⟨t13,t14,t23,x4,x5,x6,x7⟩;kernel_rfl
def f9_29(F:Nat)(kf9j17:Ty129→Rz):Ty128→Rz:=fun (t13,t14,x3,x4,x5,x6)=>(cond ((↑x6.length:Int) != t13) (some ((.bool false),[])) (kf9j17 (t14,x3,x4,x5,x6)))
theorem f9_29_eq(F:Nat)(Rf9j17:St→Rz):∀ v,XAf9 F (bp Try.f9 8190) (ef9j16 v) (kSeq (kc VG389 Rf9j17 sp112) Kf53)=f9_29 F (Rf9j17∘ef9j17) v:=by
 rintro⟨t13,t14,x3,x4,x5,x6⟩;kernel_rfl
def f9_30(F:Nat)(kf9j18:Ty128→Rz)(kf9j28:Unit→Rz):Ty129→Rz:=fun (t14,x2,x3,x4,x5)=>(kf9j18 (t14,(0:Int),x2,x3,x4,x5))
theorem f9_30_eq(F:Nat)(Rf9j18:St→Rz)(Rf9j28:St→Rz):∀ v,XAf9 F (bp Try.f9 32764) (ef9j17 v) (kSeq (kc VG389 Rf9j18 sp113) (kSeq (kc VG389 Rf9j28 []) Kf53))=f9_30 F (Rf9j18∘ef9j18) (Rf9j28∘ef9j28) v:=by
 rintro⟨t14,x2,x3,x4,x5⟩;kernel_rfl
def f9_31(F:Nat)(kf9j19:Ty130→Rz)(kf9l4:Ty130→Rz)(kf9j28:Unit→Rz):Ty130→Rz:=fun (t14,t16,t24,x4,x5,x6)=>(cond (decide (t24 < (↑x5.length:Int))) (kf9j19 (t14,t16,t24,x4,x5,x6)) (kf9j28 ()))
theorem f9_31_eq(F:Nat)(Rf9j19:St→Rz)(Rf9l4:St→Rz)(Rf9j28:St→Rz):∀ v,XAf9 F (bp Try.f9 262120) (ef9l4 v) (kSeq (kc VG389 Rf9j19 sp113) (kSeq (kc VG389 Rf9l4 sp99) (kBlock 6 (kSeq (kc VG389 Rf9j28 []) Kf53))))=f9_31 F (Rf9j19∘ef9j19) (Rf9l4∘ef9l4) (Rf9j28∘ef9j28) v:=by
 rintro⟨t14,t16,t24,x4,x5,x6⟩;kernel_rfl
def f9_32(F:Nat)(kf9j20:Ty130→Rz)(kf9j27:Ty130→Rz)(kf9l4:Ty130→Rz)(kf9j28:Unit→Rz):Ty130→Rz:=fun (t14,t16,t24,x4,x5,x6)=>(cond ((decide (0≤t24))&&(decide (t24 < (↑x5.length:Int)))) (cond ((↑(x5.getD (Int.toNat t24) []).length:Int)==(0:Int)) (some ((.bool false),[])) (kf9j20 (t14,t16,t24,x4,x5,x6))) none)
theorem f9_32_eq(F:Nat)(Rf9j20:St→Rz)(Rf9j27:St→Rz)(Rf9l4:St→Rz)(Rf9j28:St→Rz):∀ v,XAf9 F (bp Try.f9 2096968) (ef9j19 v) (kSeq (kc VG389 Rf9j20 sp113) (kBlock 7 (kSeq (kc VG389 Rf9j27 sp113) (kSeq (kc VG389 Rf9l4 sp99) (kBlock 6 (kSeq (kc VG389 Rf9j28 []) Kf53))))))=f9_32 F (Rf9j20∘ef9j20) (Rf9j27∘ef9j27) (Rf9l4∘ef9l4) (Rf9j28∘ef9j28) v:=by
 rintro⟨t14,t16,t24,x4,x5,x6⟩;kernel_rfl
def f9_33(F:Nat)(kf9j21:Ty131→Rz)(kf9j27:Ty130→Rz)(kf9l4:Ty130→Rz)(kf9j28:Unit→Rz):Ty130→Rz:=fun (t14,t16,t24,x4,x5,x6)=>(cond ((decide (0≤t24))&&(decide (t24 < (↑x5.length:Int)))) (cond (decide ((x5.getD (Int.toNat t24) []).length < 1073741000)) (kf9j21 (t14,t16,t24,(Reg.need (x5.getD (Int.toNat t24) []) t16),x4,x5,x6)) none) none)
theorem f9_33_eq(F:Nat)(Rf9j21:St→Rz)(Rf9j27:St→Rz)(Rf9l4:St→Rz)(Rf9j28:St→Rz):∀ v,XAf9 F (bp Try.f9 4193938) (ef9j20 v) (kSeq (kc VG389 Rf9j21 sp114) (kBlock 7 (kSeq (kc VG389 Rf9j27 sp113) (kSeq (kc VG389 Rf9l4 sp99) (kBlock 6 (kSeq (kc VG389 Rf9j28 []) Kf53))))))=f9_33 F (Rf9j21∘ef9j21) (Rf9j27∘ef9j27) (Rf9l4∘ef9l4) (Rf9j28∘ef9j28) v:=by
 rintro⟨t14,t16,t24,x4,x5,x6⟩;kernel_rfl
def f9_34(F:Nat)(kf9j22:Ty132→Rz)(kf9j27:Ty130→Rz)(kf9l4:Ty130→Rz)(kf9j28:Unit→Rz):Ty131→Rz:=fun (t14,t16,t24,t25,x5,x6,x7)=>(cond ((decide (0≤t24))&&(decide (t24 < (↑x6.length:Int)))) (cond (decide ((0:Int) < (↑(x6.getD (Int.toNat t24) []).length:Int))) (cond ((decide (0≤((x6.getD (Int.toNat t24) []).getD 0 0)))&&(decide (((x6.getD (Int.toNat t24) []).getD 0 0) < (↑x7.length:Int)))) (kf9j22 (t14,t16,t24,t25,(x7.getD (Int.toNat ((x6.getD (Int.toNat t24) []).getD 0 0)) 0),x5,x6,x7)) none) none) none)
theorem f9_34_eq(F:Nat)(Rf9j22:St→Rz)(Rf9j27:St→Rz)(Rf9l4:St→Rz)(Rf9j28:St→Rz):∀ v,XAf9 F (bp Try.f9 8387878) (ef9j21 v) (kSeq (kc VG389 Rf9j22 sp115) (kBlock 7 (kSeq (kc VG389 Rf9j27 sp113) (kSeq (kc VG389 Rf9l4 sp99) (kBlock 6 (kSeq (kc VG389 Rf9j28 []) Kf53))))))=f9_34 F (Rf9j22∘ef9j22) (Rf9j27∘ef9j27) (Rf9l4∘ef9l4) (Rf9j28∘ef9j28) v:=by
 rintro⟨t14,t16,t24,t25,x5,x6,x7⟩;kernel_rfl
def f9_35(F:Nat)(kf9j23:Ty133→Rz)(kf9j27:Ty130→Rz)(kf9l4:Ty130→Rz)(kf9j28:Unit→Rz):Ty132→Rz:=fun (t14,t16,t24,t25,t26,x6,x7,x8)=>(kf9j23 (t14,t16,t24,t25,t26,false,x6,x7,x8))
theorem f9_35_eq(F:Nat)(Rf9j23:St→Rz)(Rf9j27:St→Rz)(Rf9l4:St→Rz)(Rf9j28:St→Rz):∀ v,XAf9 F (bp Try.f9 16775758) (ef9j22 v) (kSeq (kc VG389 Rf9j23 sp116) (kBlock 7 (kSeq (kc VG389 Rf9j27 sp113) (kSeq (kc VG389 Rf9l4 sp99) (kBlock 6 (kSeq (kc VG389 Rf9j28 []) Kf53))))))=f9_35 F (Rf9j23∘ef9j23) (Rf9j27∘ef9j27) (Rf9l4∘ef9l4) (Rf9j28∘ef9j28) v:=by
 rintro⟨t14,t16,t24,t25,t26,x6,x7,x8⟩;kernel_rfl
def f9_36(F:Nat)(kf9j24:Ty134→Rz)(kf9j27:Ty130→Rz)(kf9l4:Ty130→Rz)(kf9j28:Unit→Rz):Ty133→Rz:=fun (t14,t16,t24,t25,t26,t27,x7,x8,x9)=>(kf9j24 (t14,t16,t24,t25,t26,t27,false,x7,x8,x9))
theorem f9_36_eq(F:Nat)(Rf9j24:St→Rz)(Rf9j27:St→Rz)(Rf9l4:St→Rz)(Rf9j28:St→Rz):∀ v,XAf9 F (bp Try.f9 33551518) (ef9j23 v) (kSeq (kc VG389 Rf9j24 sp117) (kBlock 7 (kSeq (kc VG389 Rf9j27 sp113) (kSeq (kc VG389 Rf9l4 sp99) (kBlock 6 (kSeq (kc VG389 Rf9j28 []) Kf53))))))=f9_36 F (Rf9j24∘ef9j24) (Rf9j27∘ef9j27) (Rf9l4∘ef9l4) (Rf9j28∘ef9j28) v:=by
 rintro⟨t14,t16,t24,t25,t26,t27,x7,x8,x9⟩;kernel_rfl
def f9_37(F:Nat)(kf9j25:Ty135→Rz)(kf9j26:Ty136→Rz)(kf9j27:Ty130→Rz)(kf9l4:Ty130→Rz)(kf9j28:Unit→Rz):Ty134→Rz:=fun (t14,t16,t24,t25,t26,t27,t28,x8,x9,x10)=>(kf9j25 (t14,t16,t24,t25,t26,t27,t28,(0:Int),x8,x9,x10))
theorem f9_37_eq(F:Nat)(Rf9j25:St→Rz)(Rf9j26:St→Rz)(Rf9j27:St→Rz)(Rf9l4:St→Rz)(Rf9j28:St→Rz):∀ v,XAf9 F (bp Try.f9 134206076) (ef9j24 v) (kSeq (kc VG389 Rf9j25 sp100) (kSeq (kc VG389 Rf9j26 sp118) (kBlock 7 (kSeq (kc VG389 Rf9j27 sp113) (kSeq (kc VG389 Rf9l4 sp99) (kBlock 6 (kSeq (kc VG389 Rf9j28 []) Kf53)))))))=f9_37 F (Rf9j25∘ef9j25) (Rf9j26∘ef9j26) (Rf9j27∘ef9j27) (Rf9l4∘ef9l4) (Rf9j28∘ef9j28) v:=by
 rintro⟨t14,t16,t24,t25,t26,t27,t28,x8,x9,x10⟩;kernel_rfl
def f9_38(F:Nat)(kf9l5:Ty135→Rz)(kf9j26:Ty136→Rz)(kf9j27:Ty130→Rz)(kf9l4:Ty130→Rz)(kf9j28:Unit→Rz):Ty135→Rz:=fun (t14,t16,t24,t25,t26,t27,t28,t29,x9,x10,x11)=>(cond (decide (t29 < (↑t25.length:Int))) (cond ((decide (0≤t29))&&(decide (t29 < (↑t25.length:Int)))) (cond (decide ((t25.getD (Int.toNat t29) 0) < (0:Int))) (some ((.bool false),[])) (cond ((decide (0≤t29))&&(decide (t29 < (↑t25.length:Int)))) (cond (decide ((t25.getD (Int.toNat t29) 0)≥t14)) (some ((.bool false),[])) (cond t27 (cond t28 (kf9l5 (t14,t16,t24,t25,t26,true,true,(IntKind.i64.wrap (t29+(1:Int))),x9,x10,x11)) (cond ((decide (0≤t29))&&(decide (t29 < (↑t25.length:Int)))) (kf9l5 (t14,t16,t24,t25,t26,true,((t25.getD (Int.toNat t29) 0)==t26),(IntKind.i64.wrap (t29+(1:Int))),x9,x10,x11)) none)) (cond ((decide (0≤t29))&&(decide (t29 < (↑t25.length:Int)))) (cond ((decide (0≤(t25.getD (Int.toNat t29) 0)))&&(decide ((t25.getD (Int.toNat t29) 0) < (↑x9.length:Int)))) (cond t28 (kf9l5 (t14,t16,t24,t25,t26,(x9.getD (Int.toNat (t25.getD (Int.toNat t29) 0)) false),true,(IntKind.i64.wrap (t29+(1:Int))),x9,x10,x11)) (cond ((decide (0≤t29))&&(decide (t29 < (↑t25.length:Int)))) (kf9l5 (t14,t16,t24,t25,t26,(x9.getD (Int.toNat (t25.getD (Int.toNat t29) 0)) false),((t25.getD (Int.toNat t29) 0)==t26),(IntKind.i64.wrap (t29+(1:Int))),x9,x10,x11)) none)) none) none))) none)) none) (kf9j26 (t14,t16,t24,t27,t28,x9,x10,x11)))
theorem f9_38_eq(F:Nat)(Rf9l5:St→Rz)(Rf9j26:St→Rz)(Rf9j27:St→Rz)(Rf9l4:St→Rz)(Rf9j28:St→Rz):∀ v,XAf9 F (bp Try.f9 536824308) (ef9l5 v) (kSeq (kc VG389 Rf9l5 sp100) (kBlock 8 (kSeq (kc VG389 Rf9j26 sp118) (kBlock 7 (kSeq (kc VG389 Rf9j27 sp113) (kSeq (kc VG389 Rf9l4 sp99) (kBlock 6 (kSeq (kc VG389 Rf9j28 []) Kf53))))))))=f9_38 F (Rf9l5∘ef9l5) (Rf9j26∘ef9j26) (Rf9j27∘ef9j27) (Rf9l4∘ef9l4) (Rf9j28∘ef9j28) v:=by
 rintro⟨t14,t16,t24,t25,t26,t27,t28,t29,x9,x10,x11⟩;kernel_rfl
def f9_39_i:Ty135→Int×Li×Int×Li×Int×Bool×Bool×Int×(List Bool)×(List Li)×Li:=fun (t14,t16,t24,t25,t26,t27,t28,t29,x9,x10,x11)=>(t14,t16,t24,t25,t26,t27,t28,t29,x9,x10,x11)
def f9_39(F:Nat)(kf9j26:Ty136→Rz)(kf9j27:Ty130→Rz)(kf9l4:Ty130→Rz)(kf9j28:Unit→Rz):Ty135→Rz:=fun v=>loopN (fun k=>f9_38 F k kf9j26 kf9j27 kf9l4 kf9j28) F (f9_39_i v)
theorem f9_39_eq(F:Nat)(Rf9j26:St→Rz)(Rf9j27:St→Rz)(Rf9l4:St→Rz)(Rf9j28:St→Rz):∀ v,XAf9 F (bp Try.f9 268412154) (ef9j25 v) (kBlock 8 (kSeq (kc VG389 Rf9j26 sp118) (kBlock 7 (kSeq (kc VG389 Rf9j27 sp113) (kSeq (kc VG389 Rf9l4 sp99) (kBlock 6 (kSeq (kc VG389 Rf9j28 []) Kf53)))))))=f9_39 F (Rf9j26∘ef9j26) (Rf9j27∘ef9j27) (Rf9l4∘ef9l4) (Rf9j28∘ef9j28) v:=
 loop_cut (by kernel_rfl) (by kernel_rfl) ef9j25 ef9l5 _ f9_39_i (fun k=>f9_38 F k (Rf9j26∘ef9j26) (Rf9j27∘ef9j27) (Rf9l4∘ef9l4) (Rf9j28∘ef9j28))
  (by rintro⟨t14,t16,t24,t25,t26,t27,t28,t29,x9,x10,x11⟩;kernel_rfl) (fun Rf9l5=>f9_38_eq F Rf9l5 Rf9j26 Rf9j27 Rf9l4 Rf9j28)
def f9_40(F:Nat)(kf9j26:Ty136→Rz)(kf9j27:Ty130→Rz)(kf9l4:Ty130→Rz)(kf9j28:Unit→Rz):Ty135→Rz:=f9_39 F kf9j26 kf9j27 kf9l4 kf9j28
theorem f9_40_eq(F:Nat)(Rf9j26:St→Rz)(Rf9j27:St→Rz)(Rf9l4:St→Rz)(Rf9j28:St→Rz):∀ v,XAf9 F (bp Try.f9 134206077) (ef9j25 v) (kSeq (kc VG389 Rf9j26 sp118) (kBlock 7 (kSeq (kc VG389 Rf9j27 sp113) (kSeq (kc VG389 Rf9l4 sp99) (kBlock 6 (kSeq (kc VG389 Rf9j28 []) Kf53))))))=f9_40 F (Rf9j26∘ef9j26) (Rf9j27∘ef9j27) (Rf9l4∘ef9l4) (Rf9j28∘ef9j28) v:=fun v=>
 (block_in  (by kernel_rfl) _ _).trans (f9_39_eq F Rf9j26 Rf9j27 Rf9l4 Rf9j28 v)
def f9_41(F:Nat)(kf9j26:Ty136→Rz)(kf9j27:Ty130→Rz)(kf9l4:Ty130→Rz)(kf9j28:Unit→Rz):Ty134→Rz:=fun v=>f9_37 F (f9_40 F kf9j26 kf9j27 kf9l4 kf9j28) kf9j26 kf9j27 kf9l4 kf9j28 v
theorem f9_41_eq(F:Nat)(Rf9j26:St→Rz)(Rf9j27:St→Rz)(Rf9l4:St→Rz)(Rf9j28:St→Rz):∀ v,XAf9 F (bp Try.f9 67103038) (ef9j24 v) (kSeq (kc VG389 Rf9j26 sp118) (kBlock 7 (kSeq (kc VG389 Rf9j27 sp113) (kSeq (kc VG389 Rf9l4 sp99) (kBlock 6 (kSeq (kc VG389 Rf9j28 []) Kf53))))))=f9_41 F (Rf9j26∘ef9j26) (Rf9j27∘ef9j27) (Rf9l4∘ef9l4) (Rf9j28∘ef9j28) v:=
 seq_cut (by kernel_rfl) (by kernel_rfl) ef9j24 ef9j25 _ (fun k=>f9_37 F k (Rf9j26∘ef9j26) (Rf9j27∘ef9j27) (Rf9l4∘ef9l4) (Rf9j28∘ef9j28)) (f9_40 F (Rf9j26∘ef9j26) (Rf9j27∘ef9j27) (Rf9l4∘ef9l4) (Rf9j28∘ef9j28))
  (fun Rf9j25=>f9_37_eq F Rf9j25 Rf9j26 Rf9j27 Rf9l4 Rf9j28) (f9_40_eq F Rf9j26 Rf9j27 Rf9l4 Rf9j28)
def f9_42(F:Nat)(kf9j27:Ty130→Rz)(kf9l4:Ty130→Rz)(kf9j28:Unit→Rz):Ty136→Rz:=fun (t14,t16,t24,t27,t28,x6,x7,x8)=>(cond t27 (cond (!t28) (some ((.bool false),[])) (kf9j27 (t14,t16,t24,x6,x7,x8))) (kf9j27 (t14,t16,t24,x6,x7,x8)))
theorem f9_42_eq(F:Nat)(Rf9j27:St→Rz)(Rf9l4:St→Rz)(Rf9j28:St→Rz):∀ v,XAf9 F (bp Try.f9 67103039) (ef9j26 v) (kBlock 7 (kSeq (kc VG389 Rf9j27 sp113) (kSeq (kc VG389 Rf9l4 sp99) (kBlock 6 (kSeq (kc VG389 Rf9j28 []) Kf53)))))=f9_42 F (Rf9j27∘ef9j27) (Rf9l4∘ef9l4) (Rf9j28∘ef9j28) v:=by
 rintro⟨t14,t16,t24,t27,t28,x6,x7,x8⟩;kernel_rfl
def f9_43(F:Nat)(kf9j27:Ty130→Rz)(kf9l4:Ty130→Rz)(kf9j28:Unit→Rz):Ty134→Rz:=fun v=>f9_41 F (f9_42 F kf9j27 kf9l4 kf9j28) kf9j27 kf9l4 kf9j28 v
theorem f9_43_eq(F:Nat)(Rf9j27:St→Rz)(Rf9l4:St→Rz)(Rf9j28:St→Rz):∀ v,XAf9 F (bp Try.f9 33551519) (ef9j24 v) (kBlock 7 (kSeq (kc VG389 Rf9j27 sp113) (kSeq (kc VG389 Rf9l4 sp99) (kBlock 6 (kSeq (kc VG389 Rf9j28 []) Kf53)))))=f9_43 F (Rf9j27∘ef9j27) (Rf9l4∘ef9l4) (Rf9j28∘ef9j28) v:=
 seq_cut (by kernel_rfl) (by kernel_rfl) ef9j24 ef9j26 _ (fun k=>f9_41 F k (Rf9j27∘ef9j27) (Rf9l4∘ef9l4) (Rf9j28∘ef9j28)) (f9_42 F (Rf9j27∘ef9j27) (Rf9l4∘ef9l4) (Rf9j28∘ef9j28))
  (fun Rf9j26=>f9_41_eq F Rf9j26 Rf9j27 Rf9l4 Rf9j28) (f9_42_eq F Rf9j27 Rf9l4 Rf9j28)
def f9_44(F:Nat)(kf9j27:Ty130→Rz)(kf9l4:Ty130→Rz)(kf9j28:Unit→Rz):Ty133→Rz:=fun v=>f9_36 F (f9_43 F kf9j27 kf9l4 kf9j28) kf9j27 kf9l4 kf9j28 v
theorem f9_44_eq(F:Nat)(Rf9j27:St→Rz)(Rf9l4:St→Rz)(Rf9j28:St→Rz):∀ v,XAf9 F (bp Try.f9 16775759) (ef9j23 v) (kBlock 7 (kSeq (kc VG389 Rf9j27 sp113) (kSeq (kc VG389 Rf9l4 sp99) (kBlock 6 (kSeq (kc VG389 Rf9j28 []) Kf53)))))=f9_44 F (Rf9j27∘ef9j27) (Rf9l4∘ef9l4) (Rf9j28∘ef9j28) v:=
 seq_cut (by kernel_rfl) (by kernel_rfl) ef9j23 ef9j24 _ (fun k=>f9_36 F k (Rf9j27∘ef9j27) (Rf9l4∘ef9l4) (Rf9j28∘ef9j28)) (f9_43 F (Rf9j27∘ef9j27) (Rf9l4∘ef9l4) (Rf9j28∘ef9j28))
  (fun Rf9j24=>f9_36_eq F Rf9j24 Rf9j27 Rf9l4 Rf9j28) (f9_43_eq F Rf9j27 Rf9l4 Rf9j28)
def f9_45(F:Nat)(kf9j27:Ty130→Rz)(kf9l4:Ty130→Rz)(kf9j28:Unit→Rz):Ty132→Rz:=fun v=>f9_35 F (f9_44 F kf9j27 kf9l4 kf9j28) kf9j27 kf9l4 kf9j28 v
theorem f9_45_eq(F:Nat)(Rf9j27:St→Rz)(Rf9l4:St→Rz)(Rf9j28:St→Rz):∀ v,XAf9 F (bp Try.f9 8387879) (ef9j22 v) (kBlock 7 (kSeq (kc VG389 Rf9j27 sp113) (kSeq (kc VG389 Rf9l4 sp99) (kBlock 6 (kSeq (kc VG389 Rf9j28 []) Kf53)))))=f9_45 F (Rf9j27∘ef9j27) (Rf9l4∘ef9l4) (Rf9j28∘ef9j28) v:=
 seq_cut (by kernel_rfl) (by kernel_rfl) ef9j22 ef9j23 _ (fun k=>f9_35 F k (Rf9j27∘ef9j27) (Rf9l4∘ef9l4) (Rf9j28∘ef9j28)) (f9_44 F (Rf9j27∘ef9j27) (Rf9l4∘ef9l4) (Rf9j28∘ef9j28))
  (fun Rf9j23=>f9_35_eq F Rf9j23 Rf9j27 Rf9l4 Rf9j28) (f9_44_eq F Rf9j27 Rf9l4 Rf9j28)
def f9_46(F:Nat)(kf9j27:Ty130→Rz)(kf9l4:Ty130→Rz)(kf9j28:Unit→Rz):Ty131→Rz:=fun v=>f9_34 F (f9_45 F kf9j27 kf9l4 kf9j28) kf9j27 kf9l4 kf9j28 v
theorem f9_46_eq(F:Nat)(Rf9j27:St→Rz)(Rf9l4:St→Rz)(Rf9j28:St→Rz):∀ v,XAf9 F (bp Try.f9 4193939) (ef9j21 v) (kBlock 7 (kSeq (kc VG389 Rf9j27 sp113) (kSeq (kc VG389 Rf9l4 sp99) (kBlock 6 (kSeq (kc VG389 Rf9j28 []) Kf53)))))=f9_46 F (Rf9j27∘ef9j27) (Rf9l4∘ef9l4) (Rf9j28∘ef9j28) v:=
 seq_cut (by kernel_rfl) (by kernel_rfl) ef9j21 ef9j22 _ (fun k=>f9_34 F k (Rf9j27∘ef9j27) (Rf9l4∘ef9l4) (Rf9j28∘ef9j28)) (f9_45 F (Rf9j27∘ef9j27) (Rf9l4∘ef9l4) (Rf9j28∘ef9j28))
  (fun Rf9j22=>f9_34_eq F Rf9j22 Rf9j27 Rf9l4 Rf9j28) (f9_45_eq F Rf9j27 Rf9l4 Rf9j28)
def f9_47(F:Nat)(kf9j27:Ty130→Rz)(kf9l4:Ty130→Rz)(kf9j28:Unit→Rz):Ty130→Rz:=fun v=>f9_33 F (f9_46 F kf9j27 kf9l4 kf9j28) kf9j27 kf9l4 kf9j28 v
theorem f9_47_eq(F:Nat)(Rf9j27:St→Rz)(Rf9l4:St→Rz)(Rf9j28:St→Rz):∀ v,XAf9 F (bp Try.f9 2096969) (ef9j20 v) (kBlock 7 (kSeq (kc VG389 Rf9j27 sp113) (kSeq (kc VG389 Rf9l4 sp99) (kBlock 6 (kSeq (kc VG389 Rf9j28 []) Kf53)))))=f9_47 F (Rf9j27∘ef9j27) (Rf9l4∘ef9l4) (Rf9j28∘ef9j28) v:=
 seq_cut (by kernel_rfl) (by kernel_rfl) ef9j20 ef9j21 _ (fun k=>f9_33 F k (Rf9j27∘ef9j27) (Rf9l4∘ef9l4) (Rf9j28∘ef9j28)) (f9_46 F (Rf9j27∘ef9j27) (Rf9l4∘ef9l4) (Rf9j28∘ef9j28))
  (fun Rf9j21=>f9_33_eq F Rf9j21 Rf9j27 Rf9l4 Rf9j28) (f9_46_eq F Rf9j27 Rf9l4 Rf9j28)
def f9_48(F:Nat)(kf9j27:Ty130→Rz)(kf9l4:Ty130→Rz)(kf9j28:Unit→Rz):Ty130→Rz:=fun v=>f9_32 F (f9_47 F kf9j27 kf9l4 kf9j28) kf9j27 kf9l4 kf9j28 v
theorem f9_48_eq(F:Nat)(Rf9j27:St→Rz)(Rf9l4:St→Rz)(Rf9j28:St→Rz):∀ v,XAf9 F (bp Try.f9 1048484) (ef9j19 v) (kBlock 7 (kSeq (kc VG389 Rf9j27 sp113) (kSeq (kc VG389 Rf9l4 sp99) (kBlock 6 (kSeq (kc VG389 Rf9j28 []) Kf53)))))=f9_48 F (Rf9j27∘ef9j27) (Rf9l4∘ef9l4) (Rf9j28∘ef9j28) v:=
 seq_cut (by kernel_rfl) (by kernel_rfl) ef9j19 ef9j20 _ (fun k=>f9_32 F k (Rf9j27∘ef9j27) (Rf9l4∘ef9l4) (Rf9j28∘ef9j28)) (f9_47 F (Rf9j27∘ef9j27) (Rf9l4∘ef9l4) (Rf9j28∘ef9j28))
  (fun Rf9j20=>f9_32_eq F Rf9j20 Rf9j27 Rf9l4 Rf9j28) (f9_47_eq F Rf9j27 Rf9l4 Rf9j28)
def f9_49(F:Nat)(kf9j27:Ty130→Rz)(kf9l4:Ty130→Rz)(kf9j28:Unit→Rz):Ty130→Rz:=f9_48 F kf9j27 kf9l4 kf9j28
theorem f9_49_eq(F:Nat)(Rf9j27:St→Rz)(Rf9l4:St→Rz)(Rf9j28:St→Rz):∀ v,XAf9 F (bp Try.f9 524242) (ef9j19 v) (kSeq (kc VG389 Rf9j27 sp113) (kSeq (kc VG389 Rf9l4 sp99) (kBlock 6 (kSeq (kc VG389 Rf9j28 []) Kf53))))=f9_49 F (Rf9j27∘ef9j27) (Rf9l4∘ef9l4) (Rf9j28∘ef9j28) v:=fun v=>
 (block_in  (by kernel_rfl) _ _).trans (f9_48_eq F Rf9j27 Rf9l4 Rf9j28 v)
def f9_50(F:Nat)(kf9l4:Ty130→Rz)(kf9j28:Unit→Rz):Ty130→Rz:=fun (t14,t16,t24,x4,x5,x6)=>(kf9l4 (t14,t16,(IntKind.i64.wrap (t24+(1:Int))),x4,x5,x6))
theorem f9_50_eq(F:Nat)(Rf9l4:St→Rz)(Rf9j28:St→Rz):∀ v,XAf9 F (bp Try.f9 524243) (ef9j27 v) (kSeq (kc VG389 Rf9l4 sp99) (kBlock 6 (kSeq (kc VG389 Rf9j28 []) Kf53)))=f9_50 F (Rf9l4∘ef9l4) (Rf9j28∘ef9j28) v:=by
 rintro⟨t14,t16,t24,x4,x5,x6⟩;kernel_rfl
def f9_51(F:Nat)(kf9l4:Ty130→Rz)(kf9j28:Unit→Rz):Ty130→Rz:=fun v=>f9_49 F (f9_50 F kf9l4 kf9j28) kf9l4 kf9j28 v
theorem f9_51_eq(F:Nat)(Rf9l4:St→Rz)(Rf9j28:St→Rz):∀ v,XAf9 F (bp Try.f9 262121) (ef9j19 v) (kSeq (kc VG389 Rf9l4 sp99) (kBlock 6 (kSeq (kc VG389 Rf9j28 []) Kf53)))=f9_51 F (Rf9l4∘ef9l4) (Rf9j28∘ef9j28) v:=
 seq_cut (by kernel_rfl) (by kernel_rfl) ef9j19 ef9j27 _ (fun k=>f9_49 F k (Rf9l4∘ef9l4) (Rf9j28∘ef9j28)) (f9_50 F (Rf9l4∘ef9l4) (Rf9j28∘ef9j28))
  (fun Rf9j27=>f9_49_eq F Rf9j27 Rf9l4 Rf9j28) (f9_50_eq F Rf9l4 Rf9j28)
def f9_52(F:Nat)(kf9l4:Ty130→Rz)(kf9j28:Unit→Rz):Ty130→Rz:=fun v=>f9_31 F (f9_51 F kf9l4 kf9j28) kf9l4 kf9j28 v
theorem f9_52_eq(F:Nat)(Rf9l4:St→Rz)(Rf9j28:St→Rz):∀ v,XAf9 F (bp Try.f9 131060) (ef9l4 v) (kSeq (kc VG389 Rf9l4 sp99) (kBlock 6 (kSeq (kc VG389 Rf9j28 []) Kf53)))=f9_52 F (Rf9l4∘ef9l4) (Rf9j28∘ef9j28) v:=
 seq_cut (by kernel_rfl) (by kernel_rfl) ef9l4 ef9j19 _ (fun k=>f9_31 F k (Rf9l4∘ef9l4) (Rf9j28∘ef9j28)) (f9_51 F (Rf9l4∘ef9l4) (Rf9j28∘ef9j28))
  (fun Rf9j19=>f9_31_eq F Rf9j19 Rf9l4 Rf9j28) (f9_51_eq F Rf9l4 Rf9j28)
def f9_53_i:Ty128→Int×Li×Int×(List Bool)×(List Li)×Li:=fun (t14,t24,x3,x4,x5,x6)=>(t14,x4,t24,x3,x5,x6)
def f9_53(F:Nat)(kf9j28:Unit→Rz):Ty128→Rz:=fun v=>loopN (fun k=>f9_52 F k kf9j28) F (f9_53_i v)
theorem f9_53_eq(F:Nat)(Rf9j28:St→Rz):∀ v,XAf9 F (bp Try.f9 65530) (ef9j18 v) (kBlock 6 (kSeq (kc VG389 Rf9j28 []) Kf53))=f9_53 F (Rf9j28∘ef9j28) v:=
 loop_cut (by kernel_rfl) (by kernel_rfl) ef9j18 ef9l4 _ f9_53_i (fun k=>f9_52 F k (Rf9j28∘ef9j28))
  (by rintro⟨t14,t24,x3,x4,x5,x6⟩;kernel_rfl) (fun Rf9l4=>f9_52_eq F Rf9l4 Rf9j28)
def f9_54(F:Nat)(kf9j28:Unit→Rz):Ty128→Rz:=f9_53 F kf9j28
theorem f9_54_eq(F:Nat)(Rf9j28:St→Rz):∀ v,XAf9 F (bp Try.f9 32765) (ef9j18 v) (kSeq (kc VG389 Rf9j28 []) Kf53)=f9_54 F (Rf9j28∘ef9j28) v:=fun v=>
 (block_in  (by kernel_rfl) _ _).trans (f9_53_eq F Rf9j28 v)
def f9_55(F:Nat)(kf9j28:Unit→Rz):Ty129→Rz:=fun v=>f9_30 F (f9_54 F kf9j28) kf9j28 v
theorem f9_55_eq(F:Nat)(Rf9j28:St→Rz):∀ v,XAf9 F (bp Try.f9 16382) (ef9j17 v) (kSeq (kc VG389 Rf9j28 []) Kf53)=f9_55 F (Rf9j28∘ef9j28) v:=
 seq_cut (by kernel_rfl) (by kernel_rfl) ef9j17 ef9j18 _ (fun k=>f9_30 F k (Rf9j28∘ef9j28)) (f9_54 F (Rf9j28∘ef9j28))
  (fun Rf9j18=>f9_30_eq F Rf9j18 Rf9j28) (f9_54_eq F Rf9j28)
def f9_56(F:Nat):Unit→Rz:=fun _=>(some ((.bool true),[]))
theorem f9_56_eq(F:Nat):∀ v,XAf9 F (bp Try.f9 16383) (ef9j28 v) Kf53=f9_56 F v:=by
 intro _;kernel_rfl
def f9_57(F:Nat):Ty129→Rz:=fun v=>f9_55 F (f9_56 F) v
theorem f9_57_eq(F:Nat):∀ v,XAf9 F (bp Try.f9 8191) (ef9j17 v) Kf53=f9_57 F v:=
 seq_cut (by kernel_rfl) (by kernel_rfl) ef9j17 ef9j28 _ (fun k=>f9_55 F k) (f9_56 F)
  (fun Rf9j28=>f9_55_eq F Rf9j28) (f9_56_eq F)
def f9_58(F:Nat):Ty128→Rz:=fun v=>f9_29 F (f9_57 F) v
theorem f9_58_eq(F:Nat):∀ v,XAf9 F (bp Try.f9 4095) (ef9j16 v) Kf53=f9_58 F v:=
 seq_cut (by kernel_rfl) (by kernel_rfl) ef9j16 ef9j17 _ (fun k=>f9_29 F k) (f9_57 F)
  (fun Rf9j17=>f9_29_eq F Rf9j17) (f9_57_eq F)
def f9_59(F:Nat):Ty127→Rz:=fun v=>f9_28 F (f9_58 F) v
theorem f9_59_eq(F:Nat):∀ v,XAf9 F (bp Try.f9 2047) (ef9j15 v) Kf53=f9_59 F v:=
 seq_cut (by kernel_rfl) (by kernel_rfl) ef9j15 ef9j16 _ (fun k=>f9_28 F k) (f9_58 F)
  (fun Rf9j16=>f9_28_eq F Rf9j16) (f9_58_eq F)
def f9_60(F:Nat):Ty124→Rz:=fun v=>f9_27 F (f9_59 F) v
theorem f9_60_eq(F:Nat):∀ v,XAf9 F (bp Try.f9 1023) (ef9j14 v) Kf53=f9_60 F v:=
 seq_cut (by kernel_rfl) (by kernel_rfl) ef9j14 ef9j15 _ (fun k=>f9_27 F k) (f9_59 F)
  (fun Rf9j15=>f9_27_eq F Rf9j15) (f9_59_eq F)
def f9_61(F:Nat):Ty124→Rz:=fun v=>f9_26 F (f9_60 F) v
theorem f9_61_eq(F:Nat):∀ v,XAf9 F (bp Try.f9 511) (ef9j9 v) Kf53=f9_61 F v:=
 seq_cut (by kernel_rfl) (by kernel_rfl) ef9j9 ef9j14 _ (fun k=>f9_26 F k) (f9_60 F)
  (fun Rf9j14=>f9_26_eq F Rf9j14) (f9_60_eq F)
def f9_62(F:Nat):Ty123→Rz:=fun v=>f9_12 F (f9_61 F) v
theorem f9_62_eq(F:Nat):∀ v,XAf9 F (bp Try.f9 255) (ef9j8 v) Kf53=f9_62 F v:=
 seq_cut (by kernel_rfl) (by kernel_rfl) ef9j8 ef9j9 _ (fun k=>f9_12 F k) (f9_61 F)
  (fun Rf9j9=>f9_12_eq F Rf9j9) (f9_61_eq F)
def f9_63(F:Nat):Ty120→Rz:=fun v=>f9_11 F (f9_62 F) v
theorem f9_63_eq(F:Nat):∀ v,XAf9 F (bp Try.f9 127) (ef9j6 v) Kf53=f9_63 F v:=
 seq_cut (by kernel_rfl) (by kernel_rfl) ef9j6 ef9j8 _ (fun k=>f9_11 F k) (f9_62 F)
  (fun Rf9j8=>f9_11_eq F Rf9j8) (f9_62_eq F)
def f9_64(F:Nat):Ty120→Rz:=fun v=>f9_6 F (f9_63 F) v
theorem f9_64_eq(F:Nat):∀ v,XAf9 F (bp Try.f9 63) (ef9j5 v) Kf53=f9_64 F v:=
 seq_cut (by kernel_rfl) (by kernel_rfl) ef9j5 ef9j6 _ (fun k=>f9_6 F k) (f9_63 F)
  (fun Rf9j6=>f9_6_eq F Rf9j6) (f9_63_eq F)
def f9_65(F:Nat):Ty119→Rz:=fun v=>f9_5 F (f9_64 F) v
theorem f9_65_eq(F:Nat):∀ v,XAf9 F (bp Try.f9 31) (ef9j4 v) Kf53=f9_65 F v:=
 seq_cut (by kernel_rfl) (by kernel_rfl) ef9j4 ef9j5 _ (fun k=>f9_5 F k) (f9_64 F)
  (fun Rf9j5=>f9_5_eq F Rf9j5) (f9_64_eq F)
def f9_66(F:Nat):Ty118→Rz:=fun v=>f9_4 F (f9_65 F) v
theorem f9_66_eq(F:Nat):∀ v,XAf9 F (bp Try.f9 15) (ef9j3 v) Kf53=f9_66 F v:=
 seq_cut (by kernel_rfl) (by kernel_rfl) ef9j3 ef9j4 _ (fun k=>f9_4 F k) (f9_65 F)
  (fun Rf9j4=>f9_4_eq F Rf9j4) (f9_65_eq F)
def f9_67(F:Nat):Ty117→Rz:=fun v=>f9_3 F (f9_66 F) v
theorem f9_67_eq(F:Nat):∀ v,XAf9 F (bp Try.f9 7) (ef9j2 v) Kf53=f9_67 F v:=
 seq_cut (by kernel_rfl) (by kernel_rfl) ef9j2 ef9j3 _ (fun k=>f9_3 F k) (f9_66 F)
  (fun Rf9j3=>f9_3_eq F Rf9j3) (f9_66_eq F)
def f9_68(F:Nat):Ty92→Rz:=fun v=>f9_2 F (f9_67 F) v
theorem f9_68_eq(F:Nat):∀ v,XAf9 F (bp Try.f9 3) (ef9j1 v) Kf53=f9_68 F v:=
 seq_cut (by kernel_rfl) (by kernel_rfl) ef9j1 ef9j2 _ (fun k=>f9_2 F k) (f9_67 F)
  (fun Rf9j2=>f9_2_eq F Rf9j2) (f9_67_eq F)
def f9_69(F:Nat):Ty92→Rz:=fun v=>f9_1 F (f9_68 F) v
theorem f9_69_eq(F:Nat):∀ v,XAf9 F (sub (bodyOf Try.f9) []) (ef9_a v) Kf53=f9_69 F v:=
 seq_cut (by kernel_rfl) (by kernel_rfl) ef9_a ef9j1 _ (fun k=>f9_1 F k) (f9_68 F)
  (fun Rf9j1=>f9_1_eq F Rf9j1) (f9_68_eq F)
def f9(F:Nat):Ty92→Rz:=f9_69 F
theorem f9_body(F:Nat)(a0:List Int)(a1:List Int)(a2:Int)(a3:Int)(a4:Int)(a5:List Int):abody VG389 (Af9 F) Try.f9 [(.vs (.rI .i64 a0) 0 1),(.vs (.rI .i64 a1) 0 1),.int .i64 a2,.int .i64 a3,.int .i64 a4,(.vs (.rI .i64 a5) 0 1)] []=f9 F (a0,a1,a2,a3,a4,a5):=
 (abody_in (c:=(sub (bodyOf Try.f9) [])) (by kernel_rfl) (s:=ef9_a (a0,a1,a2,a3,a4,a5)) (by kernel_rfl)).trans (f9_69_eq F (a0,a1,a2,a3,a4,a5))
def r9:CRun:=fun X H=>match X,H with
 | [(.vs (.rI .i64 a0) 0 1),(.vs (.rI .i64 a1) 0 1),.int .i64 a2,.int .i64 a3,.int .i64 a4,(.vs (.rI .i64 a5) 0 1)],[]=>some (true,.bool true,[])
 | _,_=>none
theorem s9(a0:List Int)(a1:List Int)(a2:Int)(a3:Int)(a4:Int)(a5:List Int)(h0:okV (.vs (.rI .i64 a0) 0 1))(h1:okV (.vs (.rI .i64 a1) 0 1))(h2:okV (.int .i64 a2))(h3:okV (.int .i64 a3))(h4:okV (.int .i64 a4))(h5:okV (.vs (.rI .i64 a5) 0 1)):∃ F,f9 F (a0,a1,a2,a3,a4,a5)=some ((.bool true),[]):=by
 have hr1:=Reg.around_lt (n:=a2) (m:=13) (by decide)
 have hr2:=Reg.around_lt (n:=a3) (m:=6) (by decide)
 have hl5:a5.length < 4611686018427387904:=h5.2
 refine⟨100,?_⟩
 simp only [f9_1,f9_2,f9_3,f9_4,f9_5,f9_6,f9_7,f9_9_i,f9_9,f9_10,f9_11,f9_12,f9_13,f9_14,f9_15,f9_16,f9_17_i,f9_17,f9_18,f9_19,f9_20,f9_21,f9_22,f9_23,f9_24_i,f9_24,f9_25,f9_26,f9_27,f9_28,f9_29,f9_30,f9_31,f9_32,f9_33,f9_34,f9_35,f9_36,f9_37,f9_38,f9_39_i,f9_39,f9_40,f9_41,f9_42,f9_43,f9_44,f9_45,f9_46,f9_47,f9_48,f9_49,f9_50,f9_51,f9_52,f9_53_i,f9_53,f9_54,f9_55,f9_56,f9_57,f9_58,f9_59,f9_60,f9_61,f9_62,f9_63,f9_64,f9_65,f9_66,f9_67,f9_68,f9_69,f9,dec_and]
 rw [cond_pos (by decide),cond_pos (by decide),i64w (by omega) (by omega)]
 generalize Reg.around a2 13=k at hr1
 generalize hh:(1:Int)+Reg.around a3 6=h
 have ul:=Reg.ups_len a4 h.toNat
 have ol:=Reg.owners_len a1 k.toNat h
 have om:∀ v∈Reg.owners a1 k.toNat h,-1≤v∧v < h:=fun v hv=>Reg.owners_mem (by omega) hv
 rw [cond_pos (by omega),cond_pos (by omega)]
 generalize Reg.ups a4 h.toNat=u at ul
 generalize Reg.owners a1 k.toNat h=o at ol om
 have tail:∀ L:List Li,L.length≤14→f9_12 100 (f9_61 100) (a0,k,h,u,o,L)=some ((.bool true),[]):=by
  intro L hL
  have hM:=Isl.merged_ok a0 k.toNat 6 L
  have hf:=Isl.gr_flat a0 k.toNat 6
  have hgl:=Reg.groups_len a0 k.toNat 6
  simp only [f9_12,dec_and]
  rw [cond_pos (by omega),cond_pos (by omega)]
  generalize Isl.merge (Reg.groups a0 k.toNat 6) L=M at hM
  have hml:=hM.many
  simp only [f9_13,f9_24_i,f9_24,f9_25,f9_26,f9_27,f9_28,f9_29,f9_30,f9_53_i,f9_53,f9_54,f9_55,f9_56,f9_57,f9_58,f9_59,f9_60,f9_61,dec_and]
  have inner1:∀ i,i < M.length → ∀ k13 k12 k19,loopN (fun k=>f9_16 100 k k13 k12 k19) 100 (k,h,(i:Int),0,u,o,M)=k13 (k,h,(i:Int),u,o,M):=by
   intro i hi k13 k12 k19
   have hl:=Isl.getD_len hM.len i
   refine loopN_from (fun j=>(k,h,(i:Int),(j:Int),u,o,M)) (M.getD i []).length (by rfl) (fun j hj kk=>?_) (fun kk=>?_) _ (by omega)
   ·have hx:=hM.rng _ (Isl.getD_mem' hi) _ (Isl.getD_mem hj)
    simp only [f9_16,dec_and,Int.toNat_natCast]
    rw [cond_pos (by omega),cond_pos (by omega),cond_pos (by omega),cond_pos (by omega),cond_neg (by omega),cond_pos (by omega),cond_pos (by omega),cond_neg (by omega),i64w (by omega) (by omega)]
    rfl
   ·simp only [f9_16,dec_and,Int.toNat_natCast]
    rw [cond_pos (by omega),cond_neg (by omega)]
  refine loopN_from (fun i=>(k,h,(i:Int),u,o,M)) M.length (by rfl) (fun i hi kk=>?_) (fun kk=>?_) _ (by omega)
  ·simp only [f9_14,f9_15,f9_17_i,f9_17,f9_18,f9_19,f9_20,f9_21,f9_22,f9_23,dec_and,Int.toNat_natCast]
   rw [cond_pos (by omega)]
   refine(inner1 i hi _ _ _).trans ?_
   simp only [f9_14,f9_15,f9_17_i,f9_17,f9_18,f9_19,f9_20,f9_21,f9_22,f9_23,dec_and,Int.toNat_natCast]
   rw [i64w (by omega) (by omega)]
   rfl
  simp only [f9_14,f9_15,f9_17_i,f9_17,f9_18,f9_19,f9_20,f9_21,f9_22,f9_23,dec_and]
  rw [cond_neg (by omega)]
  simp only [f9_13,f9_24_i,f9_24,f9_25,f9_26,f9_27,f9_28,f9_29,f9_30,f9_53_i,f9_53,f9_54,f9_55,f9_56,f9_57,f9_58,f9_59,f9_60,f9_61,dec_and]
  have hv:Reg.valid M o.length o u=true:=Reg.valid_of (by omega) (by omega) (by rw [ol];exact hM.val) (fun v hv=>by have:=om v hv;omega)
  rw [cond_pos (by omega)]
  rcases Reg.own_err hv with he | ⟨he,h1,h2⟩
  case inr=>
   rw [he,show((6:Int) != 0)=true from rfl,cond_true,show((6:Int)==6)=true from rfl,cond_true,cond_pos h2]
  obtain⟨_,f2,_,f4⟩:=Reg.own_facts he
  rw [he,show((0:Int) != 0)=false from rfl,cond_false]
  generalize (Reg.own M o u).1=A at f2 f4
  rw [show((A.length:Int) != k)=false by rw [bne_eq_false_iff_eq];omega,cond_false]
  have inner2:∀ i,i < M.length → ∀ ow k40 k26 k25 k42,loopN (fun k=>f9_38 100 k k40 k26 k25 k42) 100 (h,o,(i:Int),Reg.need (M.getD i []) o,ow,false,false,0,u,M,A) =
    k40 (h,o,(i:Int),(Reg.need (M.getD i []) o).any (fun c=>u.getD c.toNat false),(Reg.need (M.getD i []) o).any (fun c=>c==ow),u,M,A):=by
   intro i hi ow k40 k26 k25 k42
   have hl:=Isl.getD_len hM.len i
   have hnl:=Reg.need_len (M.getD i []) o
   have hn:=Isl.need_lt (g:=M.getD i []) (o:=o) (h:=h) fun v hv=>(om v hv).2
   generalize Reg.need (M.getD i []) o=N at hnl hn
   refine loopN_from (fun j=>(h,o,(i:Int),N,ow,(N.take j).any (fun c=>u.getD c.toNat false),(N.take j).any (fun c=>c==ow),(j:Int),u,M,A)) N.length (by rfl) (fun j hj kk=>?_) (fun kk=>?_) _ (by omega)
   ·have hc:=hn _ (Isl.getD_mem hj)
    have e1:(N.take (j+1)).any (fun c=>u.getD c.toNat false)=((N.take j).any (fun c=>u.getD c.toNat false) || u.getD (N.getD j 0).toNat false):=by rw [← Reg.take_get N 0 j hj];simp
    have e2:(N.take (j+1)).any (fun c=>c==ow)=((N.take j).any (fun c=>c==ow) || (N.getD j 0==ow)):=by rw [← Reg.take_get N 0 j hj];simp
    have ew:IntKind.i64.wrap ((j:Int)+1)=(j:Int)+1:=i64w (by omega) (by omega)
    simp only [f9_38,dec_and,Int.toNat_natCast,e1,e2,ew]
    rw [cond_pos (by omega),cond_pos (by omega),cond_neg (by omega),cond_pos (by omega),cond_neg (by omega)]
    generalize (N.take j).any (fun c=>u.getD c.toNat false)=b1
    generalize (N.take j).any (fun c=>c==ow)=b2
    cases b1 <;> cases b2
    ·simp only [cond_false]
     rw [cond_pos (by omega),cond_pos (by omega),cond_pos (by omega)];rfl
    ·simp only [cond_false,cond_true]
     rw [cond_pos (by omega),cond_pos (by omega)];rfl
    ·simp only [cond_false,cond_true]
     rw [cond_pos (by omega)];rfl
    ·rfl
   ·simp only [f9_38]
    rw [cond_neg (by omega),List.take_length]
  refine loopN_from (fun i=>(h,o,(i:Int),u,M,A)) M.length (by rfl) (fun i hi kk=>?_) (fun kk=>?_) _ (by omega)
  ·have hm:=Isl.getD_mem' hi
   have hp:=hM.pos _ hm
   have hl:=Isl.getD_len hM.len i
   have hx:=hM.rng _ hm _ (Isl.getD_mem hp)
   obtain⟨⟨q1,q2⟩,q3⟩:=f4 _ hm
   have q4:=q3 _ (Isl.getD_mem hp)
   simp only [f9_31,f9_32,f9_33,f9_34,f9_35,f9_36,f9_37,f9_39_i,f9_39,f9_40,f9_41,f9_42,f9_43,f9_44,f9_45,f9_46,f9_47,f9_48,f9_49,f9_50,f9_51,f9_52,dec_and,Int.toNat_natCast]
   rw [cond_pos (by omega),cond_pos (by omega),show(((M.getD i []).length:Int)==0)=false by rw [beq_eq_false_iff_ne];omega,cond_false,cond_pos (by omega),cond_pos (by omega),cond_pos (by omega),cond_pos (by omega),cond_pos (by omega),q4]
   refine(inner2 i hi _ _ _ _ _).trans ?_
   simp only [f9_31,f9_32,f9_33,f9_34,f9_35,f9_36,f9_37,f9_39_i,f9_39,f9_40,f9_41,f9_42,f9_43,f9_44,f9_45,f9_46,f9_47,f9_48,f9_49,f9_50,f9_51,f9_52,dec_and,Int.toNat_natCast]
   have nxt:kk (h,o,IntKind.i64.wrap ((i:Int)+1),u,M,A)=kk (h,o,((i+1:Nat):Int),u,M,A):=by rw [i64w (by omega) (by omega)];rfl
   rw [nxt]
   cases hs:(Reg.need (M.getD i []) o).any (fun c=>u.getD c.toNat false) with
   | false=>rfl
   | true=>
    obtain⟨c,hc,hcu⟩:=List.any_eq_true.1 hs
    have hcl:=Isl.need_lt (g:=M.getD i []) (o:=o) (h:=h) (fun v hv=>(om v hv).2) c hc
    have ho:=Isl.owner_needs (fun d hd=>by have:=hM.rng _ hm d hd;omega) q1 hc (by omega) hcu
    rw [show(Reg.need (M.getD i []) o).any (fun c=>c==Reg.best (M.getD i []) o u)=true from List.any_eq_true.2 ⟨_,ho,by simp⟩]
    rfl
  simp only [f9_31,f9_32,f9_33,f9_34,f9_35,f9_36,f9_37,f9_39_i,f9_39,f9_40,f9_41,f9_42,f9_43,f9_44,f9_45,f9_46,f9_47,f9_48,f9_49,f9_50,f9_51,f9_52,dec_and]
  rw [cond_neg (by omega)]
  rfl
 refine loopN_ind (fun m s=>∃ (i:Nat) (L:List Li),s=(a0,a5,k,h,(i:Int),u,o,L)∧i+m=20∧i≤13∧L.length≤i) ?_ _ 20 _ (by omega) ⟨0,[],rfl,rfl,by omega,Nat.le_refl _⟩
 rintro m s kk ⟨i,L,rfl,hm,hi,hL⟩ hk
 have e1:IntKind.i64.wrap ((i:Int)+1)=(i:Int)+1:=i64w (by omega) (by omega)
 have e2:IntKind.i64.wrap ((i:Int)+2)=(i:Int)+2:=i64w (by omega) (by omega)
 simp only [f9_8,dec_and,e1,e2]
 have fin:=tail L (by omega)
 by_cases c1:(i:Int)+1 < (a5.length:Int)
 ·rw [cond_pos c1]
  by_cases c2:(i:Int) < 12
  ·rw [cond_pos c2]
   by_cases c3:k > 0
   ·rw [cond_pos c3,cond_pos (by omega),cond_pos c3,cond_pos (by omega),cond_pos c3,cond_pos (by omega)]
    exact hk (m-2) _ (by omega) ⟨i+2,_,rfl,by omega,by omega,by simp;omega⟩
   ·rw [cond_neg c3];exact fin
  ·rw [cond_neg c2];exact fin
 ·rw [cond_neg c1];exact fin
theorem c9:CallOk Try.prog G38 9 r9:=callOk_of (V:=VG389) mixed tys eVG389 (f:=9) (fn:=Try.f9) Try.func9 (by kernel_rfl) (c:=sub (bodyOf Try.f9) []) (by kernel_rfl) (by
 intro X H r H' h hX hH
 unfold r9 at h;split at h <;> try contradiction
 ·simp only [Option.some.injEq,Prod.mk.injEq] at h
  obtain⟨hp,rfl,rfl⟩:=h
  obtain⟨F,hF⟩:=s9 _ _ _ _ _ _ (hX _ (.head _)) (hX _ (.tail _ (.head _))) (hX _ (.tail _ (.tail _ (.head _)))) (hX _ (.tail _ (.tail _ (.tail _ (.head _))))) (hX _ (.tail _ (.tail _ (.tail _ (.tail _ (.head _)))))) (hX _ (.tail _ (.tail _ (.tail _ (.tail _ (.tail _ (.head _)))))))
  exact⟨Af9 F,(f9_body F _ _ _ _ _ _).trans hF⟩)
end Go.Am
end