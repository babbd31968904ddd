/- Part of a proof. -/
import Derived.Test.YtgdibbphgdkllaaAmIsl3
import Derived.Test.YtgdibbphgdkllaaAmVals38
import Derived.Test.YtgdibbphgdkllaaAmReg3
set_option linter.unusedSimpArgs false
set_option linter.unusedVariables false
section
namespace Go.Am
open Go Go.Proofs
abbrev sp77:List (Nat×Md):=[(0,.plain),(1,.plain),(5,.plain),(26,.plain),(27,.plain),(28,.plain)]
abbrev sp78:List (Nat×Md):=[(0,.plain),(5,.plain),(8,.plain),(37,.plain),(38,.plain),(39,.plain)]
abbrev sp79:List (Nat×Md):=[(0,.plain),(5,.plain),(8,.plain),(11,.plain),(12,.plain),(37,.plain),(38,.plain),(39,.plain),(43,.plain),(44,.plain),(45,.plain)]
abbrev sp80:List (Nat×Md):=[(8,.plain),(17,.plain),(18,.own 2),(73,.plain),(74,.plain),(75,.plain)]
abbrev sp81:List (Nat×Md):=[(17,.plain),(22,.own 22),(100,.plain),(101,.plain),(102,.plain)]
abbrev sp82:List (Nat×Md):=[(0,.plain),(1,.plain),(5,.plain),(8,.plain)]
abbrev sp83:List (Nat×Md):=[(0,.plain),(5,.plain),(8,.plain),(37,.plain),(38,.plain),(39,.plain),(40,.plain)]
abbrev sp84:List (Nat×Md):=[(0,.plain),(5,.plain),(8,.plain),(10,.plain),(37,.plain),(38,.plain),(39,.plain)]
abbrev sp85:List (Nat×Md):=[(0,.plain),(5,.plain),(8,.plain),(10,.plain),(11,.plain),(12,.plain),(37,.plain),(38,.plain),(39,.plain)]
abbrev sp86:List (Nat×Md):=[(0,.plain),(8,.plain)]
abbrev sp87:List (Nat×Md):=[(0,.plain),(8,.plain),(17,.plain)]
abbrev sp88:List (Nat×Md):=[(0,.plain),(8,.plain),(17,.plain),(18,.plain)]
abbrev sp89:List (Nat×Md):=[(8,.plain),(17,.plain),(18,.plain),(73,.plain),(74,.plain),(75,.plain)]
abbrev sp90:List (Nat×Md):=[(17,.plain),(18,.plain),(22,.plain)]
abbrev sp91:List (Nat×Md):=[(17,.plain),(22,.plain),(100,.plain),(101,.plain),(102,.plain)]
abbrev Ty93:=Int×(List (List Int×List Int))
abbrev Ty94:=Li×(List Li)
abbrev Ty95:=Li×(List Li)×(List (List Int×List Int))
abbrev Ty96:=Li×(List Li)×Li×Int×Int×(List (List Int×List Int))
abbrev Ty97:=Li×(List Li)×Int×Int×(List (List Int×List Int))
abbrev Ty98:=Li×(List Li)×Int×Int×Bool×(List (List Int×List Int))
abbrev Ty99:=Li×Li×(List Li)×Int×Int×(List (List Int×List Int))
abbrev Ty100:=Li×Li×Int×Bool×(List Li)×Int×Int×(List (List Int×List Int))
abbrev Ty101:=Li×Int×Bool×(List Li)×Int×Int×Li×Int×Int×(List (List Int×List Int))
abbrev Ty102:=Li×(List (List Int×List Int))
abbrev Ty103:=Li×(List (List Int×List Int))×(List (List Int×List Int))
abbrev Ty104:=Li×Int×Int×(List (List Int×List Int))×(List (List Int×List Int))
abbrev Ty105:=Li×Int×Int×(List (List Int×List Int))×Li×(List (List Int×List Int))
abbrev Ty106:=(List (List Int×List Int))×Li
abbrev Ty107:=Int×Int×(List (List Int×List Int))×Li
abbrev Ty108:=Int×Int×(List (List Int×List Int))×(List Li)×Li
noncomputable section
def lVG3863:List CEnt:=[]
def VG3863:Env:=mkEnv T38 G38 lVG3863
noncomputable abbrev Kf40:=kFin VG3863 none (Try.f63).results.toList
theorem eVG3863:EOk Try.prog VG3863:=eok_mk (by exact trivial)
def Af63(F:Nat):Cuts:={ F:=F,at_:=fun n=>match n with | 1010=>some sp7 | _=>none,join:=fun n=>match n with | 1016=>some sp7 | 4003=>some sp67 | _=>none }
noncomputable abbrev XAf63(F:Nat){α:Type}:=@aexec α VG3863 (Af63 F)
def ef63_a:Ty93→St:=fun (a0,a1)=>⟨[(0,.int .i64 a0),(1,.ptr 0 0 1 0 0 0 1)],[(0,(.cells 1 (.one (.mp 1)) true)),(1,(.cells 0 (.rM .i64 0 (.one .i64) a1) true))],2,20,2⟩
def ef63j1:Ty93→St:=fun (t0,x2)=>⟨[(0,.int .i64 t0),(1,.ptr 0 0 1 0 0 0 1)],[(0,(.cells 1 (.one (.mp 1)) true)),(1,(.cells 0 (.rM .i64 0 (.one .i64) x2) true))],2,20,2⟩
def ef63l1:Ty93→St:=ef63j1
def ef63j2:Ty93→St:=fun (t0,x2)=>⟨[(0,.int .i64 t0)],[(0,(.cells 1 (.one (.mp 1)) true)),(1,(.cells 0 (.rM .i64 0 (.one .i64) x2) true))],2,20,2⟩
def f63_1(F:Nat)(kf63j1:Ty93→Rz):Ty93→Rz:=fun (a0,a1)=>(kf63j1 (a0,a1))
theorem f63_1_eq(F:Nat)(Rf63j1:St→Rz):∀ v,XAf63 F (bp Try.f63 2) (ef63_a v) (kSeq (kc VG3863 Rf63j1 sp7) Kf40)=f63_1 F (Rf63j1∘ef63j1) v:=by
 rintro⟨a0,a1⟩;kernel_rfl
def f63_2(F:Nat)(kf63l1:Ty93→Rz)(kf63j2:Ty93→Rz):Ty93→Rz:=fun (t0,x2)=>(cond (((mget (mzero (.one .i64)) x2 [t0]).getD 0 0) != t0) (kf63l1 (((mget (mzero (.one .i64)) (mput x2 [t0] [((mget (mzero (.one .i64)) x2 [((mget (mzero (.one .i64)) x2 [t0]).getD 0 0)]).getD 0 0)]) [t0]).getD 0 0),(mput x2 [t0] [((mget (mzero (.one .i64)) x2 [((mget (mzero (.one .i64)) x2 [t0]).getD 0 0)]).getD 0 0)]))) (kf63j2 (t0,x2)))
theorem f63_2_eq(F:Nat)(Rf63l1:St→Rz)(Rf63j2:St→Rz):∀ v,XAf63 F (bp Try.f63 24) (ef63l1 v) (kSeq (kc VG3863 Rf63l1 sp7) (kBlock 0 (kSeq (kc VG3863 Rf63j2 sp67) Kf40)))=f63_2 F (Rf63l1∘ef63l1) (Rf63j2∘ef63j2) v:=by
 rintro⟨t0,x2⟩;kernel_rfl
def f63_3_i:Ty93→Int×(List (List Int×List Int)):=fun (t0,x2)=>(t0,x2)
def f63_3(F:Nat)(kf63j2:Ty93→Rz):Ty93→Rz:=fun v=>loopN (fun k=>f63_2 F k kf63j2) F (f63_3_i v)
theorem f63_3_eq(F:Nat)(Rf63j2:St→Rz):∀ v,XAf63 F (bp Try.f63 12) (ef63j1 v) (kBlock 0 (kSeq (kc VG3863 Rf63j2 sp67) Kf40))=f63_3 F (Rf63j2∘ef63j2) v:=
 loop_cut (by kernel_rfl) (by kernel_rfl) ef63j1 ef63l1 _ f63_3_i (fun k=>f63_2 F k (Rf63j2∘ef63j2))
  (by rintro⟨t0,x2⟩;kernel_rfl) (fun Rf63l1=>f63_2_eq F Rf63l1 Rf63j2)
def f63_4(F:Nat)(kf63j2:Ty93→Rz):Ty93→Rz:=f63_3 F kf63j2
theorem f63_4_eq(F:Nat)(Rf63j2:St→Rz):∀ v,XAf63 F (bp Try.f63 6) (ef63j1 v) (kSeq (kc VG3863 Rf63j2 sp67) Kf40)=f63_4 F (Rf63j2∘ef63j2) v:=fun v=>
 (block_in  (by kernel_rfl) _ _).trans (f63_3_eq F Rf63j2 v)
def f63_5(F:Nat):Ty93→Rz:=fun (t0,x2)=>(some ((.int .i64 t0),[(.cells 1 (.one (.mp 1)) true),(.cells 0 (.rM .i64 0 (.one .i64) x2) true)]))
theorem f63_5_eq(F:Nat):∀ v,XAf63 F (bp Try.f63 7) (ef63j2 v) Kf40=f63_5 F v:=by
 rintro⟨t0,x2⟩;kernel_rfl
def f63_6(F:Nat):Ty93→Rz:=fun v=>f63_4 F (f63_5 F) v
theorem f63_6_eq(F:Nat):∀ v,XAf63 F (bp Try.f63 3) (ef63j1 v) Kf40=f63_6 F v:=
 seq_cut (by kernel_rfl) (by kernel_rfl) ef63j1 ef63j2 _ (fun k=>f63_4 F k) (f63_5 F)
  (fun Rf63j2=>f63_4_eq F Rf63j2) (f63_5_eq F)
def f63_7(F:Nat):Ty93→Rz:=fun v=>f63_1 F (f63_6 F) v
theorem f63_7_eq(F:Nat):∀ v,XAf63 F (sub (bodyOf Try.f63) []) (ef63_a v) Kf40=f63_7 F v:=
 seq_cut (by kernel_rfl) (by kernel_rfl) ef63_a ef63j1 _ (fun k=>f63_1 F k) (f63_6 F)
  (fun Rf63j1=>f63_1_eq F Rf63j1) (f63_6_eq F)
def f63(F:Nat):Ty93→Rz:=f63_7 F
theorem f63_body(F:Nat)(a0:Int)(a1:List (List Int×List Int)):abody VG3863 (Af63 F) Try.f63 [(.int .i64 a0),.ptr 0 0 1 0 0 0 1] [(.cells 1 (.one (.mp 1)) true),(.cells 0 (.rM .i64 0 (.one .i64) a1) true)]=f63 F (a0,a1):=
 (abody_in (c:=(sub (bodyOf Try.f63) [])) (by kernel_rfl) (s:=ef63_a (a0,a1)) (by kernel_rfl)).trans (f63_7_eq F (a0,a1))
def r63:CRun:=fun X H=>match X,H with
 | [(.int .i64 a0),.ptr 0 0 1 0 0 0 1],[(.cells 1 (.one (.mp 1)) true),(.cells 0 (.rM .i64 0 (.one .i64) a1) true)]=>some ((Isl.fok a1 a0),(.int .i64 (Isl.fv a1 a0)),[(.cells 1 (.one (.mp 1)) true),(.cells 0 (.rM .i64 0 (.one .i64) (Isl.fe a1 a0)) true)])
 | _,_=>none
theorem s63(a0:Int)(a1:List (List Int×List Int))(hp:((Isl.fok a1 a0))=true)(h0:okV (.int .i64 a0))(k0:okB (.cells 1 (.one (.mp 1)) true))(k1:okB (.cells 0 (.rM .i64 0 (.one .i64) a1) true)):∃ F,f63 F (a0,a1)=some ((.int .i64 (Isl.fv a1 a0)),[(.cells 1 (.one (.mp 1)) true),(.cells 0 (.rM .i64 0 (.one .i64) (Isl.fe a1 a0)) true)]):=by
 have key:∀ (F:Nat) (es:Isl.Ents) (x:Int) (es':Isl.Ents) (r:Int),Isl.Steps es x es' r → ∃ N,∀ G,N < G→loopN (fun k=>f63_2 F k (f63_5 F)) G (x,es)=some ((.int .i64 r),[(.cells 1 (.one (.mp 1)) true),(.cells 0 (.rM .i64 0 (.one .i64) es') true)]):=by
  intro F es x es' r h
  induction h with
  | base es x h=>
   refine⟨0,fun G hG=>?_⟩
   obtain⟨G,rfl⟩:∃ n,G=n+1:=⟨G-1,by omega⟩
   simp only [loopN,f63_2,f63_5]
   have h':(mget (mzero (.one .i64)) es [x]).getD 0 0=x:=h
   have e:((mget (mzero (.one .i64)) es [x]).getD 0 0 != x)=false:=by rw [h'];simp
   rw [e];rfl
  | step es x es' r h ht ih=>
   obtain⟨N,hN⟩:=ih
   refine⟨N+1,fun G hG=>?_⟩
   obtain⟨G,rfl⟩:∃ n,G=n+1:=⟨G-1,by omega⟩
   have h':(mget (mzero (.one .i64)) es [x]).getD 0 0≠x:=h
   have e:((mget (mzero (.one .i64)) es [x]).getD 0 0 != x)=true:=bne_iff_ne.2 h'
   rw [loopN]
   show f63_2 F (loopN (fun k=>f63_2 F k (f63_5 F)) G) (f63_5 F) (x,es)=_
   rw [← hN G (by omega)]
   simp only [f63_2]
   rw [e];rfl
 have hs:∃ es' r,Isl.Steps a1 a0 es' r:=by
  unfold Isl.fok at hp
  simpa using hp
 obtain⟨es',r,h⟩:=hs
 obtain⟨e1,e2,_⟩:=h.eqs
 rw [e1,e2]
 obtain⟨N,hN⟩:=key 0 a1 a0 es' r h
 refine⟨N+1,?_⟩
 simp only [f63_1,f63_3_i,f63_3,f63_4,f63_5,f63_6,f63_7,f63]
 exact hN (N+1) (by omega)
theorem c63:CallOk Try.prog G38 63 r63:=callOk_of (V:=VG3863) mixed tys eVG3863 (f:=63) (fn:=Try.f63) Try.func63 (by kernel_rfl) (c:=sub (bodyOf Try.f63) []) (by kernel_rfl) (by
 intro X H r H' h hX hH
 unfold r63 at h;split at h <;> try contradiction
 ·simp only [Option.some.injEq,Prod.mk.injEq] at h
  obtain⟨hp,rfl,rfl⟩:=h
  obtain⟨F,hF⟩:=s63 _ _ hp (hX _ (.head _)) (hH _ (.head _)) (hH _ (.tail _ (.head _)))
  exact⟨Af63 F,(f63_body F _ _).trans hF⟩)
def lVG3852:List CEnt:=[(63,[none,none],r63)]
def VG3852:Env:={ mkEnv T38 G38 lVG3852 with mv:=fun n=>match n with | 72=>1 | 95=>1 | _=>0 }
noncomputable abbrev Kf41:=kFin VG3852 (some [(4,.own 22)]) (Try.f52).results.toList
theorem eVG3852:EOk Try.prog VG3852:=eok_mk (T:=T38) (G:=G38) (l:=lVG3852) (by exact⟨c63,trivial⟩)
def Af52(F:Nat):Cuts:={ F:=F,at_:=fun n=>match n with | 3012=>some sp77 | 9051=>some sp78 | 13034=>some sp79 | 26020=>some sp80 | 35012=>some sp81 | _=>none,join:=fun n=>match n with | 1131=>some sp7 | 2128=>some sp12 | 3014=>some sp77 | 7111=>some sp12 | 8107=>some sp82 | 8109=>some sp82 | 9053=>some sp78 | 10045=>some sp78 | 10049=>some sp83 | 11040=>some sp84 | 12038=>some sp85 | 13036=>some sp79 | 22001=>some sp78 | 23051=>some sp86 | 24049=>some sp87 | 25047=>some sp88 | 26022=>some sp89 | 33022=>some [(17,.mfix),(18,.plain)] | 34020=>some sp90 | 35014=>some sp91 | 39003=>some [(22,.plain)] | _=>none,fin:=(some [(4,.own 22)]) }
noncomputable abbrev XAf52(F:Nat){α:Type}:=@aexec α VG3852 (Af52 F)
def ef52_a:Ty94→St:=fun (a0,a1)=>⟨[(0,(.vs (.rI .i64 a0) 0 1)),(1,(.vs (.rL .i64 a1) 0 1))],[],0,114,0⟩
def ef52j1:Ty94→St:=fun (t0,t1)=>⟨[(0,(.vs (.rI .i64 t0) 0 1)),(1,(.vs (.rL .i64 t1) 0 1))],[],0,114,0⟩
def ef52j2:Ty95→St:=fun (t0,t1,x3)=>⟨[(0,(.vs (.rI .i64 t0) 0 1)),(1,(.vs (.rL .i64 t1) 0 1)),(5,.ptr 0 0 1 0 0 0 1)],[(0,(.cells 1 (.one (.mp 1)) true)),(1,(.cells 0 (.rM .i64 0 (.one .i64) x3) true))],2,114,0⟩
def ef52j3:Ty96→St:=fun (t0,t1,t26,t27,t28,x6)=>⟨[(0,(.vs (.rI .i64 t0) 0 1)),(1,(.vs (.rL .i64 t1) 0 1)),(5,.ptr 0 0 1 0 0 0 1),(26,(.vs (.rI .i64 t26) 0 1)),(27,.int .i64 t27),(28,.int .i64 t28)],[(0,(.cells 1 (.one (.mp 1)) true)),(1,(.cells 0 (.rM .i64 0 (.one .i64) x6) true))],2,114,0⟩
def ef52l1:Ty96→St:=ef52j3
def ef52j4:Ty95→St:=ef52j2
def ef52j5:Ty95→St:=fun (t0,t1,x3)=>⟨[(0,(.vs (.rI .i64 t0) 0 1)),(1,(.vs (.rL .i64 t1) 0 1)),(5,.ptr 0 0 1 0 0 0 1),(8,(.fn 63 (.cons 0 (.ptr 0 0 1 0 0 0 1) .nil)))],[(0,(.cells 1 (.one (.mp 1)) true)),(1,(.cells 0 (.rM .i64 0 (.one .i64) x3) true))],2,114,0⟩
def ef52j6:Ty95→St:=ef52j5
def ef52j7:Ty97→St:=fun (t0,t37,t38,t39,x5)=>⟨[(0,(.vs (.rI .i64 t0) 0 1)),(5,.ptr 0 0 1 0 0 0 1),(8,(.fn 63 (.cons 0 (.ptr 0 0 1 0 0 0 1) .nil))),(37,(.vs (.rL .i64 t37) 0 1)),(38,.int .i64 t38),(39,.int .i64 t39)],[(0,(.cells 1 (.one (.mp 1)) true)),(1,(.cells 0 (.rM .i64 0 (.one .i64) x5) true))],2,114,0⟩
def ef52l2:Ty97→St:=ef52j7
def ef52j8:Ty98→St:=fun (t0,t37,t38,t39,t40,x6)=>⟨[(0,(.vs (.rI .i64 t0) 0 1)),(5,.ptr 0 0 1 0 0 0 1),(8,(.fn 63 (.cons 0 (.ptr 0 0 1 0 0 0 1) .nil))),(37,(.vs (.rL .i64 t37) 0 1)),(38,.int .i64 t38),(39,.int .i64 t39),(40,.bool t40)],[(0,(.cells 1 (.one (.mp 1)) true)),(1,(.cells 0 (.rM .i64 0 (.one .i64) x6) true))],2,114,0⟩
def ef52j9:Ty97→St:=ef52j7
def ef52j10:Ty99→St:=fun (t0,t10,t37,t38,t39,x6)=>⟨[(0,(.vs (.rI .i64 t0) 0 1)),(5,.ptr 0 0 1 0 0 0 1),(8,(.fn 63 (.cons 0 (.ptr 0 0 1 0 0 0 1) .nil))),(10,(.vs (.rI .i64 t10) 0 1)),(37,(.vs (.rL .i64 t37) 0 1)),(38,.int .i64 t38),(39,.int .i64 t39)],[(0,(.cells 1 (.one (.mp 1)) true)),(1,(.cells 0 (.rM .i64 0 (.one .i64) x6) true))],2,114,0⟩
def ef52j11:Ty100→St:=fun (t0,t10,t11,t12,t37,t38,t39,x8)=>⟨[(0,(.vs (.rI .i64 t0) 0 1)),(5,.ptr 0 0 1 0 0 0 1),(8,(.fn 63 (.cons 0 (.ptr 0 0 1 0 0 0 1) .nil))),(10,(.vs (.rI .i64 t10) 0 1)),(11,.int .i64 t11),(12,.bool t12),(37,(.vs (.rL .i64 t37) 0 1)),(38,.int .i64 t38),(39,.int .i64 t39)],[(0,(.cells 1 (.one (.mp 1)) true)),(1,(.cells 0 (.rM .i64 0 (.one .i64) x8) true))],2,114,0⟩
def ef52j12:Ty101→St:=fun (t0,t11,t12,t37,t38,t39,t43,t44,t45,x10)=>⟨[(0,(.vs (.rI .i64 t0) 0 1)),(5,.ptr 0 0 1 0 0 0 1),(8,(.fn 63 (.cons 0 (.ptr 0 0 1 0 0 0 1) .nil))),(11,.int .i64 t11),(12,.bool t12),(37,(.vs (.rL .i64 t37) 0 1)),(38,.int .i64 t38),(39,.int .i64 t39),(43,(.vs (.rI .i64 t43) 0 1)),(44,.int .i64 t44),(45,.int .i64 t45)],[(0,(.cells 1 (.one (.mp 1)) true)),(1,(.cells 0 (.rM .i64 0 (.one .i64) x10) true))],2,114,0⟩
def ef52l3:Ty101→St:=ef52j12
def ef52j13:Ty97→St:=ef52j7
def ef52j14:Ty102→St:=fun (t0,x2)=>⟨[(0,(.vs (.rI .i64 t0) 0 1)),(8,(.fn 63 (.cons 0 (.ptr 0 0 1 0 0 0 1) .nil)))],[(0,(.cells 1 (.one (.mp 1)) true)),(1,(.cells 0 (.rM .i64 0 (.one .i64) x2) true))],2,114,0⟩
def ef52j15:Ty103→St:=fun (t0,x2,x3)=>⟨[(0,(.vs (.rI .i64 t0) 0 1)),(8,(.fn 63 (.cons 0 (.ptr 0 0 1 0 0 0 1) .nil))),(17,.mp 1)],[(0,(.cells 1 (.one (.mp 2)) true)),(1,(.cells 0 (.rM .i64 0 (.osl .i64) x2) true)),(2,(.cells 0 (.rM .i64 0 (.one .i64) x3) true))],3,114,0⟩
def ef52j16:Ty103→St:=fun (t0,x2,x3)=>⟨[(0,(.vs (.rI .i64 t0) 0 1)),(8,(.fn 63 (.cons 0 (.ptr 0 0 1 0 0 0 1) .nil))),(17,.mp 1),(18,.ns)],[(0,(.cells 1 (.one (.mp 2)) true)),(1,(.cells 0 (.rM .i64 0 (.osl .i64) x2) true)),(2,(.cells 0 (.rM .i64 0 (.one .i64) x3) true))],3,114,0⟩
def ef52j17:Ty104→St:=fun (t73,t74,t75,x4,x5)=>⟨[(8,(.fn 63 (.cons 0 (.ptr 0 0 1 0 0 0 1) .nil))),(17,.mp 1),(18,.ns),(73,(.vs (.rI .i64 t73) 0 1)),(74,.int .i64 t74),(75,.int .i64 t75)],[(0,(.cells 1 (.one (.mp 2)) true)),(1,(.cells 0 (.rM .i64 0 (.osl .i64) x4) true)),(2,(.cells 0 (.rM .i64 0 (.one .i64) x5) true))],3,114,0⟩
def ef52l4:Ty105→St:=fun (t73,t74,t75,x4,x5,x6)=>⟨[(8,(.fn 63 (.cons 0 (.ptr 0 0 1 0 0 0 1) .nil))),(17,.mp 1),(18,.own 2 0 1),(73,(.vs (.rI .i64 t73) 0 1)),(74,.int .i64 t74),(75,.int .i64 t75)],[(0,(.cells 1 (.one (.mp 3)) true)),(1,(.cells 0 (.rM .i64 0 (.osl .i64) x4) true)),(2,(.cells x5.length (.rI .i64 x5) true)),(3,(.cells 0 (.rM .i64 0 (.one .i64) x6) true))],4,114,0⟩
def ef52j18:Ty106→St:=fun (x1,x2)=>⟨[(17,.mp 0),(18,.own 1 0 1)],[(0,(.cells 0 (.rM .i64 0 (.sl .i64) x1) true)),(1,(.cells x2.length (.rI .i64 x2) true))],2,114,0⟩
def ef52j19:Ty106→St:=fun (x1,x2)=>⟨[(17,.mp 0),(18,.own 1 0 1),(22,.ns)],[(0,(.cells 0 (.rM .i64 0 (.sl .i64) x1) true)),(1,(.cells x2.length (.rI .i64 x2) true))],2,114,0⟩
def ef52j20:Ty107→St:=fun (t101,t102,x3,x4)=>⟨[(17,.mp 0),(22,.ns),(100,.own 1 0 1),(101,.int .i64 t101),(102,.int .i64 t102)],[(0,(.cells 0 (.rM .i64 0 (.sl .i64) x3) true)),(1,(.cells x4.length (.rI .i64 x4) true))],2,114,0⟩
def ef52l5:Ty108→St:=fun (t101,t102,x3,x4,x5)=>⟨[(17,.mp 0),(22,.own 1 0 1),(100,.own 2 0 1),(101,.int .i64 t101),(102,.int .i64 t102)],[(0,(.cells 0 (.rM .i64 0 (.sl .i64) x3) true)),(1,(.cells x4.length (.rL .i64 x4) true)),(2,(.cells x5.length (.rI .i64 x5) true))],3,114,0⟩
def ef52j21:(List Li)→St:=fun x1=>⟨[(22,.own 0 0 1)],[(0,(.cells x1.length (.rL .i64 x1) true))],1,114,0⟩
def f52_1(F:Nat)(kf52j1:Ty94→Rz):Ty94→Rz:=fun (a0,a1)=>(kf52j1 (a0,a1))
theorem f52_1_eq(F:Nat)(Rf52j1:St→Rz):∀ v,XAf52 F (bp Try.f52 2) (ef52_a v) (kSeq (kc VG3852 Rf52j1 sp7) Kf41)=f52_1 F (Rf52j1∘ef52j1) v:=by
 rintro⟨a0,a1⟩;kernel_rfl
def f52_2(F:Nat)(kf52j2:Ty95→Rz):Ty94→Rz:=fun (t0,t1)=>(kf52j2 (t0,t1,[]))
theorem f52_2_eq(F:Nat)(Rf52j2:St→Rz):∀ v,XAf52 F (bp Try.f52 12) (ef52j1 v) (kSeq (kc VG3852 Rf52j2 sp12) Kf41)=f52_2 F (Rf52j2∘ef52j2) v:=by
 rintro⟨t0,t1⟩;kernel_rfl
def f52_3(F:Nat)(kf52j3:Ty96→Rz)(kf52j4:Ty95→Rz):Ty95→Rz:=fun (t0,t1,x3)=>(kf52j3 (t0,t1,t0,(↑t0.length:Int),(0:Int),x3))
theorem f52_3_eq(F:Nat)(Rf52j3:St→Rz)(Rf52j4:St→Rz):∀ v,XAf52 F (bp Try.f52 52) (ef52j2 v) (kSeq (kc VG3852 Rf52j3 sp77) (kSeq (kc VG3852 Rf52j4 sp12) Kf41))=f52_3 F (Rf52j3∘ef52j3) (Rf52j4∘ef52j4) v:=by
 rintro⟨t0,t1,x3⟩;kernel_rfl
def f52_4(F:Nat)(kf52l1:Ty96→Rz)(kf52j4:Ty95→Rz):Ty96→Rz:=fun (t0,t1,t26,t27,t28,x6)=>(cond (decide (t28 < t27)) (cond ((decide (0≤t28))&&(decide (t28 < (↑t26.length:Int)))) (kf52l1 (t0,t1,t26,t27,(IntKind.i64.wrap (t28+(1:Int))),(mput x6 [(t26.getD (Int.toNat t28) 0)] [(t26.getD (Int.toNat t28) 0)]))) none) (kf52j4 (t0,t1,x6)))
theorem f52_4_eq(F:Nat)(Rf52l1:St→Rz)(Rf52j4:St→Rz):∀ v,XAf52 F (bp Try.f52 212) (ef52l1 v) (kSeq (kc VG3852 Rf52l1 sp77) (kBlock 0 (kSeq (kc VG3852 Rf52j4 sp12) Kf41)))=f52_4 F (Rf52l1∘ef52l1) (Rf52j4∘ef52j4) v:=by
 rintro⟨t0,t1,t26,t27,t28,x6⟩;kernel_rfl
def f52_5_i:Ty96→Li×(List Li)×Li×Int×Int×(List (List Int×List Int)):=fun (t0,t1,t26,t27,t28,x6)=>(t0,t1,t26,t27,t28,x6)
def f52_5(F:Nat)(kf52j4:Ty95→Rz):Ty96→Rz:=fun v=>loopN (fun k=>f52_4 F k kf52j4) F (f52_5_i v)
theorem f52_5_eq(F:Nat)(Rf52j4:St→Rz):∀ v,XAf52 F (bp Try.f52 106) (ef52j3 v) (kBlock 0 (kSeq (kc VG3852 Rf52j4 sp12) Kf41))=f52_5 F (Rf52j4∘ef52j4) v:=
 loop_cut (by kernel_rfl) (by kernel_rfl) ef52j3 ef52l1 _ f52_5_i (fun k=>f52_4 F k (Rf52j4∘ef52j4))
  (by rintro⟨t0,t1,t26,t27,t28,x6⟩;kernel_rfl) (fun Rf52l1=>f52_4_eq F Rf52l1 Rf52j4)
def f52_6(F:Nat)(kf52j4:Ty95→Rz):Ty96→Rz:=f52_5 F kf52j4
theorem f52_6_eq(F:Nat)(Rf52j4:St→Rz):∀ v,XAf52 F (bp Try.f52 53) (ef52j3 v) (kSeq (kc VG3852 Rf52j4 sp12) Kf41)=f52_6 F (Rf52j4∘ef52j4) v:=fun v=>
 (block_in  (by kernel_rfl) _ _).trans (f52_5_eq F Rf52j4 v)
def f52_7(F:Nat)(kf52j4:Ty95→Rz):Ty95→Rz:=fun v=>f52_3 F (f52_6 F kf52j4) kf52j4 v
theorem f52_7_eq(F:Nat)(Rf52j4:St→Rz):∀ v,XAf52 F (bp Try.f52 26) (ef52j2 v) (kSeq (kc VG3852 Rf52j4 sp12) Kf41)=f52_7 F (Rf52j4∘ef52j4) v:=
 seq_cut (by kernel_rfl) (by kernel_rfl) ef52j2 ef52j3 _ (fun k=>f52_3 F k (Rf52j4∘ef52j4)) (f52_6 F (Rf52j4∘ef52j4))
  (fun Rf52j3=>f52_3_eq F Rf52j3 Rf52j4) (f52_6_eq F Rf52j4)
def f52_8(F:Nat)(kf52j5:Ty95→Rz):Ty95→Rz:=fun (t0,t1,x3)=>(kf52j5 (t0,t1,x3))
theorem f52_8_eq(F:Nat)(Rf52j5:St→Rz):∀ v,XAf52 F (bp Try.f52 54) (ef52j4 v) (kSeq (kc VG3852 Rf52j5 sp82) Kf41)=f52_8 F (Rf52j5∘ef52j5) v:=by
 rintro⟨t0,t1,x3⟩;kernel_rfl
def f52_9(F:Nat)(kf52j6:Ty95→Rz):Ty95→Rz:=fun (t0,t1,x3)=>(kf52j6 (t0,t1,x3))
theorem f52_9_eq(F:Nat)(Rf52j6:St→Rz):∀ v,XAf52 F (bp Try.f52 110) (ef52j5 v) (kSeq (kc VG3852 Rf52j6 sp82) Kf41)=f52_9 F (Rf52j6∘ef52j6) v:=by
 rintro⟨t0,t1,x3⟩;kernel_rfl
def f52_10(F:Nat)(kf52j7:Ty97→Rz)(kf52j14:Ty102→Rz):Ty95→Rz:=fun (t0,t1,x3)=>(kf52j7 (t0,t1,(↑t1.length:Int),(0:Int),x3))
theorem f52_10_eq(F:Nat)(Rf52j7:St→Rz)(Rf52j14:St→Rz):∀ v,XAf52 F (bp Try.f52 444) (ef52j6 v) (kSeq (kc VG3852 Rf52j7 sp78) (kSeq (kc VG3852 Rf52j14 sp86) Kf41))=f52_10 F (Rf52j7∘ef52j7) (Rf52j14∘ef52j14) v:=by
 rintro⟨t0,t1,x3⟩;kernel_rfl
def f52_11(F:Nat)(kf52j8:Ty98→Rz)(kf52l2:Ty97→Rz)(kf52j14:Ty102→Rz):Ty97→Rz:=fun (t0,t37,t38,t39,x5)=>(kf52j8 (t0,t37,t38,t39,(decide (t39 < t38)),x5))
theorem f52_11_eq(F:Nat)(Rf52j8:St→Rz)(Rf52l2:St→Rz)(Rf52j14:St→Rz):∀ v,XAf52 F (bp Try.f52 3560) (ef52l2 v) (kSeq (kc VG3852 Rf52j8 sp83) (kSeq (kc VG3852 Rf52l2 sp78) (kBlock 2 (kSeq (kc VG3852 Rf52j14 sp86) Kf41))))=f52_11 F (Rf52j8∘ef52j8) (Rf52l2∘ef52l2) (Rf52j14∘ef52j14) v:=by
 rintro⟨t0,t37,t38,t39,x5⟩;kernel_rfl
def f52_12(F:Nat)(kf52j9:Ty97→Rz)(kf52l2:Ty97→Rz)(kf52j14:Ty102→Rz):Ty98→Rz:=fun (t0,t37,t38,t39,t40,x6)=>(cond t40 (kf52j9 (t0,t37,t38,t39,x6)) (kf52j14 (t0,x6)))
theorem f52_12_eq(F:Nat)(Rf52j9:St→Rz)(Rf52l2:St→Rz)(Rf52j14:St→Rz):∀ v,XAf52 F (bp Try.f52 7122) (ef52j8 v) (kSeq (kc VG3852 Rf52j9 sp78) (kSeq (kc VG3852 Rf52l2 sp78) (kBlock 2 (kSeq (kc VG3852 Rf52j14 sp86) Kf41))))=f52_12 F (Rf52j9∘ef52j9) (Rf52l2∘ef52l2) (Rf52j14∘ef52j14) v:=by
 rintro⟨t0,t37,t38,t39,t40,x6⟩;kernel_rfl
def f52_13(F:Nat)(kf52j10:Ty99→Rz)(kf52j13:Ty97→Rz)(kf52l2:Ty97→Rz)(kf52j14:Ty102→Rz):Ty97→Rz:=fun (t0,t37,t38,t39,x5)=>(cond ((decide (0≤t39))&&(decide (t39 < (↑t37.length:Int)))) (kf52j10 (t0,(t37.getD (Int.toNat t39) []),t37,t38,t39,x5)) none)
theorem f52_13_eq(F:Nat)(Rf52j10:St→Rz)(Rf52j13:St→Rz)(Rf52l2:St→Rz)(Rf52j14:St→Rz):∀ v,XAf52 F (bp Try.f52 56984) (ef52j9 v) (kSeq (kc VG3852 Rf52j10 sp84) (kBlock 3 (kSeq (kc VG3852 Rf52j13 sp78) (kSeq (kc VG3852 Rf52l2 sp78) (kBlock 2 (kSeq (kc VG3852 Rf52j14 sp86) Kf41))))))=f52_13 F (Rf52j10∘ef52j10) (Rf52j13∘ef52j13) (Rf52l2∘ef52l2) (Rf52j14∘ef52j14) v:=by
 rintro⟨t0,t37,t38,t39,x5⟩;kernel_rfl
def f52_14(F:Nat)(kf52j11:Ty100→Rz)(kf52j13:Ty97→Rz)(kf52l2:Ty97→Rz)(kf52j14:Ty102→Rz):Ty99→Rz:=fun (t0,t10,t37,t38,t39,x6)=>(kf52j11 (t0,t10,(0:Int),false,t37,t38,t39,x6))
theorem f52_14_eq(F:Nat)(Rf52j11:St→Rz)(Rf52j13:St→Rz)(Rf52l2:St→Rz)(Rf52j14:St→Rz):∀ v,XAf52 F (bp Try.f52 113970) (ef52j10 v) (kSeq (kc VG3852 Rf52j11 sp85) (kBlock 3 (kSeq (kc VG3852 Rf52j13 sp78) (kSeq (kc VG3852 Rf52l2 sp78) (kBlock 2 (kSeq (kc VG3852 Rf52j14 sp86) Kf41))))))=f52_14 F (Rf52j11∘ef52j11) (Rf52j13∘ef52j13) (Rf52l2∘ef52l2) (Rf52j14∘ef52j14) v:=by
 rintro⟨t0,t10,t37,t38,t39,x6⟩;kernel_rfl
def f52_15(F:Nat)(kf52j12:Ty101→Rz)(kf52j13:Ty97→Rz)(kf52l2:Ty97→Rz)(kf52j14:Ty102→Rz):Ty100→Rz:=fun (t0,t10,t11,t12,t37,t38,t39,x8)=>(kf52j12 (t0,t11,t12,t37,t38,t39,t10,(↑t10.length:Int),(0:Int),x8))
theorem f52_15_eq(F:Nat)(Rf52j12:St→Rz)(Rf52j13:St→Rz)(Rf52l2:St→Rz)(Rf52j14:St→Rz):∀ v,XAf52 F (bp Try.f52 227942) (ef52j11 v) (kSeq (kc VG3852 Rf52j12 sp79) (kBlock 3 (kSeq (kc VG3852 Rf52j13 sp78) (kSeq (kc VG3852 Rf52l2 sp78) (kBlock 2 (kSeq (kc VG3852 Rf52j14 sp86) Kf41))))))=f52_15 F (Rf52j12∘ef52j12) (Rf52j13∘ef52j13) (Rf52l2∘ef52l2) (Rf52j14∘ef52j14) v:=by
 rintro⟨t0,t10,t11,t12,t37,t38,t39,x8⟩;kernel_rfl
def f52_16(F:Nat)(kf52l3:Ty101→Rz)(kf52j13:Ty97→Rz)(kf52l2:Ty97→Rz)(kf52j14:Ty102→Rz):Ty101→Rz:=fun (t0,t11,t12,t37,t38,t39,t43,t44,t45,x10)=>(cond (decide (t45 < t44)) (cond ((decide (0≤t45))&&(decide (t45 < (↑t43.length:Int)))) (cond (!(mhas x10 [(t43.getD (Int.toNat t45) 0)])) (kf52l3 (t0,t11,t12,t37,t38,t39,t43,t44,(IntKind.i64.wrap (t45+(1:Int))),x10)) (cond (!t12) (kf52l3 (t0,(t43.getD (Int.toNat t45) 0),true,t37,t38,t39,t43,t44,(IntKind.i64.wrap (t45+(1:Int))),x10)) (cond (Isl.fok x10 (t43.getD (Int.toNat t45) 0)) (cond (Isl.fok (Isl.fe x10 (t43.getD (Int.toNat t45) 0)) t11) (cond (decide ((mput (Isl.fe (Isl.fe x10 (t43.getD (Int.toNat t45) 0)) t11) [(Isl.fv x10 (t43.getD (Int.toNat t45) 0))] [(Isl.fv (Isl.fe x10 (t43.getD (Int.toNat t45) 0)) t11)]).length < 4611686018427387904)) (cond ((↑(mput (Isl.fe (Isl.fe x10 (t43.getD (Int.toNat t45) 0)) t11) [(Isl.fv x10 (t43.getD (Int.toNat t45) 0))] [(Isl.fv (Isl.fe x10 (t43.getD (Int.toNat t45) 0)) t11)]).length:Int)==(1:Int)) (kf52j13 (t0,t37,t38,t39,(mput (Isl.fe (Isl.fe x10 (t43.getD (Int.toNat t45) 0)) t11) [(Isl.fv x10 (t43.getD (Int.toNat t45) 0))] [(Isl.fv (Isl.fe x10 (t43.getD (Int.toNat t45) 0)) t11)]))) (kf52l3 (t0,t11,t12,t37,t38,t39,t43,t44,(IntKind.i64.wrap (t45+(1:Int))),(mput (Isl.fe (Isl.fe x10 (t43.getD (Int.toNat t45) 0)) t11) [(Isl.fv x10 (t43.getD (Int.toNat t45) 0))] [(Isl.fv (Isl.fe x10 (t43.getD (Int.toNat t45) 0)) t11)])))) none) none) none))) none) (kf52j13 (t0,t37,t38,t39,x10)))
theorem f52_16_eq(F:Nat)(Rf52l3:St→Rz)(Rf52j13:St→Rz)(Rf52l2:St→Rz)(Rf52j14:St→Rz):∀ v,XAf52 F (bp Try.f52 911772) (ef52l3 v) (kSeq (kc VG3852 Rf52l3 sp79) (kBlock 4 (kBlock 3 (kSeq (kc VG3852 Rf52j13 sp78) (kSeq (kc VG3852 Rf52l2 sp78) (kBlock 2 (kSeq (kc VG3852 Rf52j14 sp86) Kf41)))))))=f52_16 F (Rf52l3∘ef52l3) (Rf52j13∘ef52j13) (Rf52l2∘ef52l2) (Rf52j14∘ef52j14) v:=by
 rintro⟨t0,t11,t12,t37,t38,t39,t43,t44,t45,x10⟩;kernel_rfl
def f52_17_i:Ty101→Li×Int×Bool×(List Li)×Int×Int×Li×Int×Int×(List (List Int×List Int)):=fun (t0,t11,t12,t37,t38,t39,t43,t44,t45,x10)=>(t0,t11,t12,t37,t38,t39,t43,t44,t45,x10)
def f52_17(F:Nat)(kf52j13:Ty97→Rz)(kf52l2:Ty97→Rz)(kf52j14:Ty102→Rz):Ty101→Rz:=fun v=>loopN (fun k=>f52_16 F k kf52j13 kf52l2 kf52j14) F (f52_17_i v)
theorem f52_17_eq(F:Nat)(Rf52j13:St→Rz)(Rf52l2:St→Rz)(Rf52j14:St→Rz):∀ v,XAf52 F (bp Try.f52 455886) (ef52j12 v) (kBlock 4 (kBlock 3 (kSeq (kc VG3852 Rf52j13 sp78) (kSeq (kc VG3852 Rf52l2 sp78) (kBlock 2 (kSeq (kc VG3852 Rf52j14 sp86) Kf41))))))=f52_17 F (Rf52j13∘ef52j13) (Rf52l2∘ef52l2) (Rf52j14∘ef52j14) v:=
 loop_cut (by kernel_rfl) (by kernel_rfl) ef52j12 ef52l3 _ f52_17_i (fun k=>f52_16 F k (Rf52j13∘ef52j13) (Rf52l2∘ef52l2) (Rf52j14∘ef52j14))
  (by rintro⟨t0,t11,t12,t37,t38,t39,t43,t44,t45,x10⟩;kernel_rfl) (fun Rf52l3=>f52_16_eq F Rf52l3 Rf52j13 Rf52l2 Rf52j14)
def f52_18(F:Nat)(kf52j13:Ty97→Rz)(kf52l2:Ty97→Rz)(kf52j14:Ty102→Rz):Ty101→Rz:=f52_17 F kf52j13 kf52l2 kf52j14
theorem f52_18_eq(F:Nat)(Rf52j13:St→Rz)(Rf52l2:St→Rz)(Rf52j14:St→Rz):∀ v,XAf52 F (bp Try.f52 227943) (ef52j12 v) (kBlock 3 (kSeq (kc VG3852 Rf52j13 sp78) (kSeq (kc VG3852 Rf52l2 sp78) (kBlock 2 (kSeq (kc VG3852 Rf52j14 sp86) Kf41)))))=f52_18 F (Rf52j13∘ef52j13) (Rf52l2∘ef52l2) (Rf52j14∘ef52j14) v:=fun v=>
 (block_in  (by kernel_rfl) _ _).trans (f52_17_eq F Rf52j13 Rf52l2 Rf52j14 v)
def f52_19(F:Nat)(kf52j13:Ty97→Rz)(kf52l2:Ty97→Rz)(kf52j14:Ty102→Rz):Ty100→Rz:=fun v=>f52_15 F (f52_18 F kf52j13 kf52l2 kf52j14) kf52j13 kf52l2 kf52j14 v
theorem f52_19_eq(F:Nat)(Rf52j13:St→Rz)(Rf52l2:St→Rz)(Rf52j14:St→Rz):∀ v,XAf52 F (bp Try.f52 113971) (ef52j11 v) (kBlock 3 (kSeq (kc VG3852 Rf52j13 sp78) (kSeq (kc VG3852 Rf52l2 sp78) (kBlock 2 (kSeq (kc VG3852 Rf52j14 sp86) Kf41)))))=f52_19 F (Rf52j13∘ef52j13) (Rf52l2∘ef52l2) (Rf52j14∘ef52j14) v:=
 seq_cut (by kernel_rfl) (by kernel_rfl) ef52j11 ef52j12 _ (fun k=>f52_15 F k (Rf52j13∘ef52j13) (Rf52l2∘ef52l2) (Rf52j14∘ef52j14)) (f52_18 F (Rf52j13∘ef52j13) (Rf52l2∘ef52l2) (Rf52j14∘ef52j14))
  (fun Rf52j12=>f52_15_eq F Rf52j12 Rf52j13 Rf52l2 Rf52j14) (f52_18_eq F Rf52j13 Rf52l2 Rf52j14)
def f52_20(F:Nat)(kf52j13:Ty97→Rz)(kf52l2:Ty97→Rz)(kf52j14:Ty102→Rz):Ty99→Rz:=fun v=>f52_14 F (f52_19 F kf52j13 kf52l2 kf52j14) kf52j13 kf52l2 kf52j14 v
theorem f52_20_eq(F:Nat)(Rf52j13:St→Rz)(Rf52l2:St→Rz)(Rf52j14:St→Rz):∀ v,XAf52 F (bp Try.f52 56985) (ef52j10 v) (kBlock 3 (kSeq (kc VG3852 Rf52j13 sp78) (kSeq (kc VG3852 Rf52l2 sp78) (kBlock 2 (kSeq (kc VG3852 Rf52j14 sp86) Kf41)))))=f52_20 F (Rf52j13∘ef52j13) (Rf52l2∘ef52l2) (Rf52j14∘ef52j14) v:=
 seq_cut (by kernel_rfl) (by kernel_rfl) ef52j10 ef52j11 _ (fun k=>f52_14 F k (Rf52j13∘ef52j13) (Rf52l2∘ef52l2) (Rf52j14∘ef52j14)) (f52_19 F (Rf52j13∘ef52j13) (Rf52l2∘ef52l2) (Rf52j14∘ef52j14))
  (fun Rf52j11=>f52_14_eq F Rf52j11 Rf52j13 Rf52l2 Rf52j14) (f52_19_eq F Rf52j13 Rf52l2 Rf52j14)
def f52_21(F:Nat)(kf52j13:Ty97→Rz)(kf52l2:Ty97→Rz)(kf52j14:Ty102→Rz):Ty97→Rz:=fun v=>f52_13 F (f52_20 F kf52j13 kf52l2 kf52j14) kf52j13 kf52l2 kf52j14 v
theorem f52_21_eq(F:Nat)(Rf52j13:St→Rz)(Rf52l2:St→Rz)(Rf52j14:St→Rz):∀ v,XAf52 F (bp Try.f52 28492) (ef52j9 v) (kBlock 3 (kSeq (kc VG3852 Rf52j13 sp78) (kSeq (kc VG3852 Rf52l2 sp78) (kBlock 2 (kSeq (kc VG3852 Rf52j14 sp86) Kf41)))))=f52_21 F (Rf52j13∘ef52j13) (Rf52l2∘ef52l2) (Rf52j14∘ef52j14) v:=
 seq_cut (by kernel_rfl) (by kernel_rfl) ef52j9 ef52j10 _ (fun k=>f52_13 F k (Rf52j13∘ef52j13) (Rf52l2∘ef52l2) (Rf52j14∘ef52j14)) (f52_20 F (Rf52j13∘ef52j13) (Rf52l2∘ef52l2) (Rf52j14∘ef52j14))
  (fun Rf52j10=>f52_13_eq F Rf52j10 Rf52j13 Rf52l2 Rf52j14) (f52_20_eq F Rf52j13 Rf52l2 Rf52j14)
def f52_22(F:Nat)(kf52j13:Ty97→Rz)(kf52l2:Ty97→Rz)(kf52j14:Ty102→Rz):Ty97→Rz:=f52_21 F kf52j13 kf52l2 kf52j14
theorem f52_22_eq(F:Nat)(Rf52j13:St→Rz)(Rf52l2:St→Rz)(Rf52j14:St→Rz):∀ v,XAf52 F (bp Try.f52 14246) (ef52j9 v) (kSeq (kc VG3852 Rf52j13 sp78) (kSeq (kc VG3852 Rf52l2 sp78) (kBlock 2 (kSeq (kc VG3852 Rf52j14 sp86) Kf41))))=f52_22 F (Rf52j13∘ef52j13) (Rf52l2∘ef52l2) (Rf52j14∘ef52j14) v:=fun v=>
 (block_in  (by kernel_rfl) _ _).trans (f52_21_eq F Rf52j13 Rf52l2 Rf52j14 v)
def f52_23(F:Nat)(kf52l2:Ty97→Rz)(kf52j14:Ty102→Rz):Ty97→Rz:=fun (t0,t37,t38,t39,x5)=>(kf52l2 (t0,t37,t38,(IntKind.i64.wrap (t39+(1:Int))),x5))
theorem f52_23_eq(F:Nat)(Rf52l2:St→Rz)(Rf52j14:St→Rz):∀ v,XAf52 F (bp Try.f52 14247) (ef52j13 v) (kSeq (kc VG3852 Rf52l2 sp78) (kBlock 2 (kSeq (kc VG3852 Rf52j14 sp86) Kf41)))=f52_23 F (Rf52l2∘ef52l2) (Rf52j14∘ef52j14) v:=by
 rintro⟨t0,t37,t38,t39,x5⟩;kernel_rfl
def f52_24(F:Nat)(kf52l2:Ty97→Rz)(kf52j14:Ty102→Rz):Ty97→Rz:=fun v=>f52_22 F (f52_23 F kf52l2 kf52j14) kf52l2 kf52j14 v
theorem f52_24_eq(F:Nat)(Rf52l2:St→Rz)(Rf52j14:St→Rz):∀ v,XAf52 F (bp Try.f52 7123) (ef52j9 v) (kSeq (kc VG3852 Rf52l2 sp78) (kBlock 2 (kSeq (kc VG3852 Rf52j14 sp86) Kf41)))=f52_24 F (Rf52l2∘ef52l2) (Rf52j14∘ef52j14) v:=
 seq_cut (by kernel_rfl) (by kernel_rfl) ef52j9 ef52j13 _ (fun k=>f52_22 F k (Rf52l2∘ef52l2) (Rf52j14∘ef52j14)) (f52_23 F (Rf52l2∘ef52l2) (Rf52j14∘ef52j14))
  (fun Rf52j13=>f52_22_eq F Rf52j13 Rf52l2 Rf52j14) (f52_23_eq F Rf52l2 Rf52j14)
def f52_25(F:Nat)(kf52l2:Ty97→Rz)(kf52j14:Ty102→Rz):Ty98→Rz:=fun v=>f52_12 F (f52_24 F kf52l2 kf52j14) kf52l2 kf52j14 v
theorem f52_25_eq(F:Nat)(Rf52l2:St→Rz)(Rf52j14:St→Rz):∀ v,XAf52 F (bp Try.f52 3561) (ef52j8 v) (kSeq (kc VG3852 Rf52l2 sp78) (kBlock 2 (kSeq (kc VG3852 Rf52j14 sp86) Kf41)))=f52_25 F (Rf52l2∘ef52l2) (Rf52j14∘ef52j14) v:=
 seq_cut (by kernel_rfl) (by kernel_rfl) ef52j8 ef52j9 _ (fun k=>f52_12 F k (Rf52l2∘ef52l2) (Rf52j14∘ef52j14)) (f52_24 F (Rf52l2∘ef52l2) (Rf52j14∘ef52j14))
  (fun Rf52j9=>f52_12_eq F Rf52j9 Rf52l2 Rf52j14) (f52_24_eq F Rf52l2 Rf52j14)
def f52_26(F:Nat)(kf52l2:Ty97→Rz)(kf52j14:Ty102→Rz):Ty97→Rz:=fun v=>f52_11 F (f52_25 F kf52l2 kf52j14) kf52l2 kf52j14 v
theorem f52_26_eq(F:Nat)(Rf52l2:St→Rz)(Rf52j14:St→Rz):∀ v,XAf52 F (bp Try.f52 1780) (ef52l2 v) (kSeq (kc VG3852 Rf52l2 sp78) (kBlock 2 (kSeq (kc VG3852 Rf52j14 sp86) Kf41)))=f52_26 F (Rf52l2∘ef52l2) (Rf52j14∘ef52j14) v:=
 seq_cut (by kernel_rfl) (by kernel_rfl) ef52l2 ef52j8 _ (fun k=>f52_11 F k (Rf52l2∘ef52l2) (Rf52j14∘ef52j14)) (f52_25 F (Rf52l2∘ef52l2) (Rf52j14∘ef52j14))
  (fun Rf52j8=>f52_11_eq F Rf52j8 Rf52l2 Rf52j14) (f52_25_eq F Rf52l2 Rf52j14)
def f52_27_i:Ty97→Li×(List Li)×Int×Int×(List (List Int×List Int)):=fun (t0,t37,t38,t39,x5)=>(t0,t37,t38,t39,x5)
def f52_27(F:Nat)(kf52j14:Ty102→Rz):Ty97→Rz:=fun v=>loopN (fun k=>f52_26 F k kf52j14) F (f52_27_i v)
theorem f52_27_eq(F:Nat)(Rf52j14:St→Rz):∀ v,XAf52 F (bp Try.f52 890) (ef52j7 v) (kBlock 2 (kSeq (kc VG3852 Rf52j14 sp86) Kf41))=f52_27 F (Rf52j14∘ef52j14) v:=
 loop_cut (by kernel_rfl) (by kernel_rfl) ef52j7 ef52l2 _ f52_27_i (fun k=>f52_26 F k (Rf52j14∘ef52j14))
  (by rintro⟨t0,t37,t38,t39,x5⟩;kernel_rfl) (fun Rf52l2=>f52_26_eq F Rf52l2 Rf52j14)
def f52_28(F:Nat)(kf52j14:Ty102→Rz):Ty97→Rz:=f52_27 F kf52j14
theorem f52_28_eq(F:Nat)(Rf52j14:St→Rz):∀ v,XAf52 F (bp Try.f52 445) (ef52j7 v) (kSeq (kc VG3852 Rf52j14 sp86) Kf41)=f52_28 F (Rf52j14∘ef52j14) v:=fun v=>
 (block_in  (by kernel_rfl) _ _).trans (f52_27_eq F Rf52j14 v)
def f52_29(F:Nat)(kf52j14:Ty102→Rz):Ty95→Rz:=fun v=>f52_10 F (f52_28 F kf52j14) kf52j14 v
theorem f52_29_eq(F:Nat)(Rf52j14:St→Rz):∀ v,XAf52 F (bp Try.f52 222) (ef52j6 v) (kSeq (kc VG3852 Rf52j14 sp86) Kf41)=f52_29 F (Rf52j14∘ef52j14) v:=
 seq_cut (by kernel_rfl) (by kernel_rfl) ef52j6 ef52j7 _ (fun k=>f52_10 F k (Rf52j14∘ef52j14)) (f52_28 F (Rf52j14∘ef52j14))
  (fun Rf52j7=>f52_10_eq F Rf52j7 Rf52j14) (f52_28_eq F Rf52j14)
def f52_30(F:Nat)(kf52j15:Ty103→Rz):Ty102→Rz:=fun (t0,x2)=>(kf52j15 (t0,[],x2))
theorem f52_30_eq(F:Nat)(Rf52j15:St→Rz):∀ v,XAf52 F (bp Try.f52 446) (ef52j14 v) (kSeq (kc VG3852 Rf52j15 sp87) Kf41)=f52_30 F (Rf52j15∘ef52j15) v:=by
 rintro⟨t0,x2⟩;kernel_rfl
def f52_31(F:Nat)(kf52j16:Ty103→Rz):Ty103→Rz:=fun (t0,x2,x3)=>(kf52j16 (t0,x2,x3))
theorem f52_31_eq(F:Nat)(Rf52j16:St→Rz):∀ v,XAf52 F (bp Try.f52 894) (ef52j15 v) (kSeq (kc VG3852 Rf52j16 sp88) Kf41)=f52_31 F (Rf52j16∘ef52j16) v:=by
 rintro⟨t0,x2,x3⟩;kernel_rfl
def f52_32(F:Nat)(kf52j17:Ty104→Rz)(kf52j18:Ty106→Rz):Ty103→Rz:=fun (t0,x2,x3)=>(kf52j17 (t0,(↑t0.length:Int),(0:Int),x2,x3))
theorem f52_32_eq(F:Nat)(Rf52j17:St→Rz)(Rf52j18:St→Rz):∀ v,XAf52 F (bp Try.f52 3580) (ef52j16 v) (kSeq (kc VG3852 Rf52j17 sp89) (kSeq (kc VG3852 Rf52j18 [(17,.mfix),(18,.plain)]) Kf41))=f52_32 F (Rf52j17∘ef52j17) (Rf52j18∘ef52j18) v:=by
 rintro⟨t0,x2,x3⟩;kernel_rfl
def f52_33(F:Nat)(kf52l4:Ty105→Rz)(kf52j18:Ty106→Rz):Ty105→Rz:=fun (t73,t74,t75,x4,x5,x6)=>(cond (decide (t75 < t74)) (cond ((decide (0≤t75))&&(decide (t75 < (↑t73.length:Int)))) (cond (Isl.fok x6 (t73.getD (Int.toNat t75) 0)) (cond ((↑(mget [] x4 [(Isl.fv x6 (t73.getD (Int.toNat t75) 0))]).length:Int)==(0:Int)) (cond (decide ((x5.length+1) < 1073741824)) (cond (decide (((mget [] x4 [(Isl.fv x6 (t73.getD (Int.toNat t75) 0))]).length+1) < 1073741824)) (cond ((([(Isl.fv x6 (t73.getD (Int.toNat t75) 0))]:List Int)==[(Isl.fv x6 (t73.getD (Int.toNat t75) 0))])&&(decide (0 < ((mget [] x4 [(Isl.fv x6 (t73.getD (Int.toNat t75) 0))])++[(t73.getD (Int.toNat t75) 0)]).length))) (kf52l4 (t73,t74,(IntKind.i64.wrap (t75+(1:Int))),(mput x4 [(Isl.fv x6 (t73.getD (Int.toNat t75) 0))] ((mget [] x4 [(Isl.fv x6 (t73.getD (Int.toNat t75) 0))])++[(t73.getD (Int.toNat t75) 0)])),(x5++[(Isl.fv x6 (t73.getD (Int.toNat t75) 0))]),(Isl.fe x6 (t73.getD (Int.toNat t75) 0)))) none) none) none) (cond (decide (((mget [] x4 [(Isl.fv x6 (t73.getD (Int.toNat t75) 0))]).length+1) < 1073741824)) (cond ((([(Isl.fv x6 (t73.getD (Int.toNat t75) 0))]:List Int)==[(Isl.fv x6 (t73.getD (Int.toNat t75) 0))])&&(decide (0 < ((mget [] x4 [(Isl.fv x6 (t73.getD (Int.toNat t75) 0))])++[(t73.getD (Int.toNat t75) 0)]).length))) (kf52l4 (t73,t74,(IntKind.i64.wrap (t75+(1:Int))),(mput x4 [(Isl.fv x6 (t73.getD (Int.toNat t75) 0))] ((mget [] x4 [(Isl.fv x6 (t73.getD (Int.toNat t75) 0))])++[(t73.getD (Int.toNat t75) 0)])),x5,(Isl.fe x6 (t73.getD (Int.toNat t75) 0)))) none) none)) none) none) (kf52j18 (x4,x5)))
theorem f52_33_eq(F:Nat)(Rf52l4:St→Rz)(Rf52j18:St→Rz):∀ v,XAf52 F (bp Try.f52 14324) (ef52l4 v) (kSeq (kc VG3852 Rf52l4 sp80) (kBlock 6 (kSeq (kc VG3852 Rf52j18 [(17,.mfix),(18,.plain)]) Kf41)))=f52_33 F (Rf52l4∘ef52l4) (Rf52j18∘ef52j18) v:=by
 rintro⟨t73,t74,t75,x4,x5,x6⟩;kernel_rfl
def f52_34_i:Ty104→Li×Int×Int×(List (List Int×List Int))×Li×(List (List Int×List Int)):=fun (t73,t74,t75,x4,x5)=>(t73,t74,t75,x4,[],x5)
def f52_34(F:Nat)(kf52j18:Ty106→Rz):Ty104→Rz:=fun v=>loopN (fun k=>f52_33 F k kf52j18) F (f52_34_i v)
theorem f52_34_eq(F:Nat)(Rf52j18:St→Rz):∀ v,XAf52 F (bp Try.f52 7162) (ef52j17 v) (kBlock 6 (kSeq (kc VG3852 Rf52j18 [(17,.mfix),(18,.plain)]) Kf41))=f52_34 F (Rf52j18∘ef52j18) v:=
 loop_cut (by kernel_rfl) (by kernel_rfl) ef52j17 ef52l4 _ f52_34_i (fun k=>f52_33 F k (Rf52j18∘ef52j18))
  (by rintro⟨t73,t74,t75,x4,x5⟩;kernel_rfl) (fun Rf52l4=>f52_33_eq F Rf52l4 Rf52j18)
def f52_35(F:Nat)(kf52j18:Ty106→Rz):Ty104→Rz:=f52_34 F kf52j18
theorem f52_35_eq(F:Nat)(Rf52j18:St→Rz):∀ v,XAf52 F (bp Try.f52 3581) (ef52j17 v) (kSeq (kc VG3852 Rf52j18 [(17,.mfix),(18,.plain)]) Kf41)=f52_35 F (Rf52j18∘ef52j18) v:=fun v=>
 (block_in  (by kernel_rfl) _ _).trans (f52_34_eq F Rf52j18 v)
def f52_36(F:Nat)(kf52j18:Ty106→Rz):Ty103→Rz:=fun v=>f52_32 F (f52_35 F kf52j18) kf52j18 v
theorem f52_36_eq(F:Nat)(Rf52j18:St→Rz):∀ v,XAf52 F (bp Try.f52 1790) (ef52j16 v) (kSeq (kc VG3852 Rf52j18 [(17,.mfix),(18,.plain)]) Kf41)=f52_36 F (Rf52j18∘ef52j18) v:=
 seq_cut (by kernel_rfl) (by kernel_rfl) ef52j16 ef52j17 _ (fun k=>f52_32 F k (Rf52j18∘ef52j18)) (f52_35 F (Rf52j18∘ef52j18))
  (fun Rf52j17=>f52_32_eq F Rf52j17 Rf52j18) (f52_35_eq F Rf52j18)
def f52_37(F:Nat)(kf52j19:Ty106→Rz):Ty106→Rz:=fun (x1,x2)=>(kf52j19 (x1,x2))
theorem f52_37_eq(F:Nat)(Rf52j19:St→Rz):∀ v,XAf52 F (bp Try.f52 3582) (ef52j18 v) (kSeq (kc VG3852 Rf52j19 sp90) Kf41)=f52_37 F (Rf52j19∘ef52j19) v:=by
 rintro⟨x1,x2⟩;kernel_rfl
def f52_38(F:Nat)(kf52j20:Ty107→Rz)(kf52j21:(List Li)→Rz):Ty106→Rz:=fun (x1,x2)=>(kf52j20 ((↑x2.length:Int),(0:Int),x1,x2))
theorem f52_38_eq(F:Nat)(Rf52j20:St→Rz)(Rf52j21:St→Rz):∀ v,XAf52 F (bp Try.f52 14332) (ef52j19 v) (kSeq (kc VG3852 Rf52j20 sp91) (kSeq (kc VG3852 Rf52j21 [(22,.plain)]) Kf41))=f52_38 F (Rf52j20∘ef52j20) (Rf52j21∘ef52j21) v:=by
 rintro⟨x1,x2⟩;kernel_rfl
def f52_39(F:Nat)(kf52l5:Ty108→Rz)(kf52j21:(List Li)→Rz):Ty108→Rz:=fun (t101,t102,x3,x4,x5)=>(cond (decide (t102 < t101)) (cond ((decide (0≤t102))&&(decide (t102 < (↑x5.length:Int)))) (cond (decide ((x4.length+1) < 1073741824)) (kf52l5 (t101,(IntKind.i64.wrap (t102+(1:Int))),x3,(x4++[(mget (mzero (.sl .i64)) x3 [(x5.getD (Int.toNat t102) 0)])]),x5)) none) none) (kf52j21 x4))
theorem f52_39_eq(F:Nat)(Rf52l5:St→Rz)(Rf52j21:St→Rz):∀ v,XAf52 F (bp Try.f52 57332) (ef52l5 v) (kSeq (kc VG3852 Rf52l5 sp81) (kBlock 8 (kSeq (kc VG3852 Rf52j21 [(22,.plain)]) Kf41)))=f52_39 F (Rf52l5∘ef52l5) (Rf52j21∘ef52j21) v:=by
 rintro⟨t101,t102,x3,x4,x5⟩;kernel_rfl
def f52_40_i:Ty107→Int×Int×(List (List Int×List Int))×(List Li)×Li:=fun (t101,t102,x3,x4)=>(t101,t102,x3,[],x4)
def f52_40(F:Nat)(kf52j21:(List Li)→Rz):Ty107→Rz:=fun v=>loopN (fun k=>f52_39 F k kf52j21) F (f52_40_i v)
theorem f52_40_eq(F:Nat)(Rf52j21:St→Rz):∀ v,XAf52 F (bp Try.f52 28666) (ef52j20 v) (kBlock 8 (kSeq (kc VG3852 Rf52j21 [(22,.plain)]) Kf41))=f52_40 F (Rf52j21∘ef52j21) v:=
 loop_cut (by kernel_rfl) (by kernel_rfl) ef52j20 ef52l5 _ f52_40_i (fun k=>f52_39 F k (Rf52j21∘ef52j21))
  (by rintro⟨t101,t102,x3,x4⟩;kernel_rfl) (fun Rf52l5=>f52_39_eq F Rf52l5 Rf52j21)
def f52_41(F:Nat)(kf52j21:(List Li)→Rz):Ty107→Rz:=f52_40 F kf52j21
theorem f52_41_eq(F:Nat)(Rf52j21:St→Rz):∀ v,XAf52 F (bp Try.f52 14333) (ef52j20 v) (kSeq (kc VG3852 Rf52j21 [(22,.plain)]) Kf41)=f52_41 F (Rf52j21∘ef52j21) v:=fun v=>
 (block_in  (by kernel_rfl) _ _).trans (f52_40_eq F Rf52j21 v)
def f52_42(F:Nat)(kf52j21:(List Li)→Rz):Ty106→Rz:=fun v=>f52_38 F (f52_41 F kf52j21) kf52j21 v
theorem f52_42_eq(F:Nat)(Rf52j21:St→Rz):∀ v,XAf52 F (bp Try.f52 7166) (ef52j19 v) (kSeq (kc VG3852 Rf52j21 [(22,.plain)]) Kf41)=f52_42 F (Rf52j21∘ef52j21) v:=
 seq_cut (by kernel_rfl) (by kernel_rfl) ef52j19 ef52j20 _ (fun k=>f52_38 F k (Rf52j21∘ef52j21)) (f52_41 F (Rf52j21∘ef52j21))
  (fun Rf52j20=>f52_38_eq F Rf52j20 Rf52j21) (f52_41_eq F Rf52j21)
def f52_43(F:Nat):(List Li)→Rz:=fun x1=>(some ((.own 0 0 1),[(.cells x1.length (.rL .i64 x1) true)]))
theorem f52_43_eq(F:Nat):∀ v,XAf52 F (bp Try.f52 7167) (ef52j21 v) Kf41=f52_43 F v:=by
 intro x1;kernel_rfl
def f52_44(F:Nat):Ty106→Rz:=fun v=>f52_42 F (f52_43 F) v
theorem f52_44_eq(F:Nat):∀ v,XAf52 F (bp Try.f52 3583) (ef52j19 v) Kf41=f52_44 F v:=
 seq_cut (by kernel_rfl) (by kernel_rfl) ef52j19 ef52j21 _ (fun k=>f52_42 F k) (f52_43 F)
  (fun Rf52j21=>f52_42_eq F Rf52j21) (f52_43_eq F)
def f52_45(F:Nat):Ty106→Rz:=fun v=>f52_37 F (f52_44 F) v
theorem f52_45_eq(F:Nat):∀ v,XAf52 F (bp Try.f52 1791) (ef52j18 v) Kf41=f52_45 F v:=
 seq_cut (by kernel_rfl) (by kernel_rfl) ef52j18 ef52j19 _ (fun k=>f52_37 F k) (f52_44 F)
  (fun Rf52j19=>f52_37_eq F Rf52j19) (f52_44_eq F)
def f52_46(F:Nat):Ty103→Rz:=fun v=>f52_36 F (f52_45 F) v
theorem f52_46_eq(F:Nat):∀ v,XAf52 F (bp Try.f52 895) (ef52j16 v) Kf41=f52_46 F v:=
 seq_cut (by kernel_rfl) (by kernel_rfl) ef52j16 ef52j18 _ (fun k=>f52_36 F k) (f52_45 F)
  (fun Rf52j18=>f52_36_eq F Rf52j18) (f52_45_eq F)
def f52_47(F:Nat):Ty103→Rz:=fun v=>f52_31 F (f52_46 F) v
theorem f52_47_eq(F:Nat):∀ v,XAf52 F (bp Try.f52 447) (ef52j15 v) Kf41=f52_47 F v:=
 seq_cut (by kernel_rfl) (by kernel_rfl) ef52j15 ef52j16 _ (fun k=>f52_31 F k) (f52_46 F)
  (fun Rf52j16=>f52_31_eq F Rf52j16) (f52_46_eq F)
def f52_48(F:Nat):Ty102→Rz:=fun v=>f52_30 F (f52_47 F) v
theorem f52_48_eq(F:Nat):∀ v,XAf52 F (bp Try.f52 223) (ef52j14 v) Kf41=f52_48 F v:=
 seq_cut (by kernel_rfl) (by kernel_rfl) ef52j14 ef52j15 _ (fun k=>f52_30 F k) (f52_47 F)
  (fun Rf52j15=>f52_30_eq F Rf52j15) (f52_47_eq F)
def f52_49(F:Nat):Ty95→Rz:=fun v=>f52_29 F (f52_48 F) v
theorem f52_49_eq(F:Nat):∀ v,XAf52 F (bp Try.f52 111) (ef52j6 v) Kf41=f52_49 F v:=
 seq_cut (by kernel_rfl) (by kernel_rfl) ef52j6 ef52j14 _ (fun k=>f52_29 F k) (f52_48 F)
  (fun Rf52j14=>f52_29_eq F Rf52j14) (f52_48_eq F)
def f52_50(F:Nat):Ty95→Rz:=fun v=>f52_9 F (f52_49 F) v
theorem f52_50_eq(F:Nat):∀ v,XAf52 F (bp Try.f52 55) (ef52j5 v) Kf41=f52_50 F v:=
 seq_cut (by kernel_rfl) (by kernel_rfl) ef52j5 ef52j6 _ (fun k=>f52_9 F k) (f52_49 F)
  (fun Rf52j6=>f52_9_eq F Rf52j6) (f52_49_eq F)
def f52_51(F:Nat):Ty95→Rz:=fun v=>f52_8 F (f52_50 F) v
theorem f52_51_eq(F:Nat):∀ v,XAf52 F (bp Try.f52 27) (ef52j4 v) Kf41=f52_51 F v:=
 seq_cut (by kernel_rfl) (by kernel_rfl) ef52j4 ef52j5 _ (fun k=>f52_8 F k) (f52_50 F)
  (fun Rf52j5=>f52_8_eq F Rf52j5) (f52_50_eq F)
def f52_52(F:Nat):Ty95→Rz:=fun v=>f52_7 F (f52_51 F) v
theorem f52_52_eq(F:Nat):∀ v,XAf52 F (bp Try.f52 13) (ef52j2 v) Kf41=f52_52 F v:=
 seq_cut (by kernel_rfl) (by kernel_rfl) ef52j2 ef52j4 _ (fun k=>f52_7 F k) (f52_51 F)
  (fun Rf52j4=>f52_7_eq F Rf52j4) (f52_51_eq F)
def f52_53(F:Nat):Ty94→Rz:=fun v=>f52_2 F (f52_52 F) v
theorem f52_53_eq(F:Nat):∀ v,XAf52 F (bp Try.f52 6) (ef52j1 v) Kf41=f52_53 F v:=
 seq_cut (by kernel_rfl) (by kernel_rfl) ef52j1 ef52j2 _ (fun k=>f52_2 F k) (f52_52 F)
  (fun Rf52j2=>f52_2_eq F Rf52j2) (f52_52_eq F)
def f52_54(F:Nat):Ty94→Rz:=f52_53 F
theorem f52_54_eq(F:Nat):∀ v,XAf52 F (bp Try.f52 3) (ef52j1 v) Kf41=f52_54 F v:=fun v=>
 (scope_in  (by kernel_rfl) _ _).trans (f52_53_eq F v)
def f52_55(F:Nat):Ty94→Rz:=fun v=>f52_1 F (f52_54 F) v
theorem f52_55_eq(F:Nat):∀ v,XAf52 F (sub (bodyOf Try.f52) []) (ef52_a v) Kf41=f52_55 F v:=
 seq_cut (by kernel_rfl) (by kernel_rfl) ef52_a ef52j1 _ (fun k=>f52_1 F k) (f52_54 F)
  (fun Rf52j1=>f52_1_eq F Rf52j1) (f52_54_eq F)
def f52(F:Nat):Ty94→Rz:=f52_55 F
theorem f52_body(F:Nat)(a0:List Int)(a1:List Li):abody VG3852 (Af52 F) Try.f52 [(.vs (.rI .i64 a0) 0 1),(.vs (.rL .i64 a1) 0 1)] []=f52 F (a0,a1):=
 (abody_in (c:=(sub (bodyOf Try.f52) [])) (by kernel_rfl) (s:=ef52_a (a0,a1)) (by kernel_rfl)).trans (f52_55_eq F (a0,a1))
def r52:CRun:=fun X H=>match X,H with
 | [(.vs (.rI .i64 a0) 0 1),(.vs (.rL .i64 a1) 0 1)],[]=>some (((decide (a0.length < 1073740000))&&(Isl.inc a0)),.own 0 0 1,[(.cells (Isl.clss a0 a1).length (.rL .i64 (Isl.clss a0 a1)) true)])
 | _,_=>none
theorem s52(a0:List Int)(a1:List Li)(hp:(((decide (a0.length < 1073740000))&&(Isl.inc a0)))=true)(h0:okV (.vs (.rI .i64 a0) 0 1))(h1:okV (.vs (.rL .i64 a1) 0 1)):∃ F,f52 F (a0,a1)=some ((.own 0 0 1),[(.cells (Isl.clss a0 a1).length (.rL .i64 (Isl.clss a0 a1)) true)]):=by
 simp only [Bool.and_eq_true,decide_eq_true_eq] at hp
 have hs:=Isl.inc_iff.1 hp.2
 have hnd:=hs.nodup
 have hl1:=h1.2
 obtain⟨F,hF⟩:∃ F,F=4611686018427387914:=⟨_,rfl⟩
 refine⟨F,?_⟩
 have fin:∀ (ρ:Int→Int) (g:Isl.Ents),(∀ q,mget [] g [q]=Isl.gOf ρ a0 q)→(∀ x∈a0,∀ y∈a0,ρ x=ρ y↔Isl.Conn a0 a1 x y) →
   f52_45 F (g,Isl.oOf ρ [] a0)=some ((.own 0 0 1),[(.cells (Isl.clss a0 a1).length (.rL .i64 (Isl.clss a0 a1)) true)]):=by
  intro ρ g hg hc
  have hol:=Isl.oOf_len ρ a0 []
  rw [← Isl.groups_eq hs hc]
  generalize Isl.oOf ρ [] a0=o at hol
  simp only [f52_37,f52_38,f52_40_i,f52_40,f52_41,f52_42,f52_43,f52_44,f52_45]
  refine loopN_from (fun i=>((o.length:Int),(i:Int),g,(o.take i).map (Isl.gOf ρ a0),o)) o.length (by rfl) (fun i hi k=>?_) (fun k=>?_) _ (by omega)
  ·have e:mget (mzero (.sl .i64)) g [o.getD i 0]=Isl.gOf ρ a0 (o.getD i 0):=hg _
   simp only [f52_39,dec_and,Int.toNat_natCast,e]
   rw [cond_pos (by omega),cond_pos (by omega),cond_pos (by simp;omega),i64w (by omega) (by omega),← Reg.take_get o 0 i hi,List.map_append]
   rfl
  ·simp only [f52_39,f52_37,f52_38,f52_40_i,f52_40,f52_41,f52_42,f52_43,f52_44,f52_45]
   rw [cond_neg (by omega),List.take_length]
 have grp:∀ p,Isl.UF a0 a1 a1 p→f52_48 F (a0,Isl.tab a0 p)=some ((.own 0 0 1),[(.cells (Isl.clss a0 a1).length (.rL .i64 (Isl.clss a0 a1)) true)]):=by
  intro p hp'
  simp only [f52_30,f52_31,f52_32,f52_34_i,f52_34,f52_35,f52_36,f52_46,f52_47,f52_48]
  refine loopN_ind (fun m s=>∃ (g:Isl.Ents) (p':Int→Int),s=(a0,(a0.length:Int),((a0.length-m:Nat):Int),g,Isl.oOf (Isl.rt p) [] (a0.take (a0.length-m)),Isl.tab a0 p')∧m≤a0.length∧(∀ q,mget [] g [q]=Isl.gOf (Isl.rt p) (a0.take (a0.length-m)) q)∧(∃ rk,Isl.Fr a0 p' rk) ∧ ∀ y∈a0,Isl.rt p' y=Isl.rt p y)
   ?_ _ a0.length _ (by omega) ⟨[],p,by rw [Nat.sub_self];rfl,Nat.le_refl _,fun q=>by rw [Nat.sub_self];rfl,hp'.fr,fun _ _=>rfl⟩
  rintro m s k ⟨g,p',rfl,hm,hg,hfr,hrt⟩ hk
  simp only [f52_33,dec_and,Int.toNat_natCast]
  cases m with
  | zero=>
   rw [Nat.sub_zero,List.take_length] at hg ⊢
   rw [cond_neg (by omega)]
   exact fin (Isl.rt p) g hg fun x hx y hy=>hp'.conn hx hy
  | succ m=>
   have hi:a0.length-(m+1) < a0.length:=by omega
   have hx:=Isl.getD_mem hi
   have ht:=Reg.take_get a0 0 _ hi
   rw [show a0.length-(m+1)+1=a0.length-m by omega] at ht
   have hpl:(a0.take (a0.length-(m+1))).length=a0.length-(m+1):=by rw [List.length_take];omega
   have hol:=Isl.oOf_len (Isl.rt p) (a0.take (a0.length-(m+1))) []
   have hos:=Isl.oOf_snoc (Isl.rt p) (a0.getD (a0.length-(m+1)) 0) (a0.take (a0.length-(m+1))) []
   rw [ht,List.nil_append] at hos
   generalize a0.take (a0.length-(m+1))=pre at hg ht hpl hol hos
   obtain⟨x,ex⟩:∃ x,a0.getD (a0.length-(m+1)) 0=x:=⟨_,rfl⟩
   simp only [ex] at hx ht hos ⊢
   obtain⟨p2,f1,f2,f3,f4,f5,_⟩:=Isl.find_ok hnd hfr hx
   rw [hrt x hx] at f2
   have hgl:(Isl.gOf (Isl.rt p) pre (Isl.rt p x)).length≤pre.length:=List.length_filter_le _ _
   rw [cond_pos (by omega),cond_pos (by omega)]
   simp only [f1,f2,f3,cond_true,hg,int_beq]
   rw [i64w (by omega) (by omega),show((a0.length-(m+1):Nat):Int)+1=((a0.length-m:Nat):Int) by omega]
   have hq:∀ q,mget [] (mput g [Isl.rt p x] (Isl.gOf (Isl.rt p) pre (Isl.rt p x)++[x])) [q]=Isl.gOf (Isl.rt p) (a0.take (a0.length-m)) q:=fun q=>by
    rw [Isl.mget_mput,hg,← ht,Isl.gOf_snoc]
    by_cases h:q=Isl.rt p x
    ·rw [if_pos (by rw [h]),if_pos h,h]
    ·rw [if_neg (by simpa using h),if_neg h]
   have hl0:(([Isl.rt p x]:List Int)==[Isl.rt p x]&&decide (0 < (Isl.gOf (Isl.rt p) pre (Isl.rt p x)++[x]).length))=true:=by simp
   simp only [hl0,cond_true]
   by_cases h:((Isl.gOf (Isl.rt p) pre (Isl.rt p x)).length:Int)=0
   ·rw [cond_pos h,cond_pos (by omega),cond_pos (by omega)]
    refine hk m _ (by omega) ⟨_,p2,?_,by omega,hq,f4,fun y hy=>(f5 y hy).trans (hrt y hy)⟩
    rw [hos,if_pos (by omega)]
   ·rw [cond_neg h,cond_pos (by omega)]
    refine hk m _ (by omega) ⟨_,p2,?_,by omega,hq,f4,fun y hy=>(f5 y hy).trans (hrt y hy)⟩
    rw [hos,if_neg (by omega),List.append_nil]
 simp only [f52_1,f52_2,f52_3,f52_5_i,f52_5,f52_6,f52_7,f52_8,f52_9,f52_10,f52_11,f52_12,f52_13,f52_14,f52_15,f52_16,f52_17_i,f52_17,f52_18,f52_19,f52_20,f52_21,f52_22,f52_23,f52_24,f52_25,f52_26,f52_27_i,f52_27,f52_28,f52_29,f52_30,f52_31,f52_32,f52_33,f52_34_i,f52_34,f52_35,f52_36,f52_37,f52_38,f52_39,f52_40_i,f52_40,f52_41,f52_42,f52_43,f52_44,f52_45,f52_46,f52_47,f52_48,f52_49,f52_50,f52_51,f52_52,f52_53,f52_54,f52_55,f52,f52_8,f52_9,f52_10,f52_25,f52_26,f52_27_i,f52_27,f52_28,f52_29,f52_49,f52_50,f52_51]
 refine loopN_from (fun i=>(a0,a1,a0,(a0.length:Int),(i:Int),Isl.tab (a0.take i) fun x=>x)) a0.length (by rfl) (fun i hi k=>?_) (fun k=>?_) _ (by omega)
 ·have hx:a0.getD i 0∉a0.take i:=by
   have hn:=hnd
   rw [← List.take_append_drop i a0,Isl.drop_get hi] at hn
   intro h'
   exact(List.nodup_append.1 hn).2.2 _ h' _ (List.mem_cons_self ..) rfl
  have e:=Isl.tab_snoc (fun x=>x) hx
  rw [Reg.take_get a0 0 i hi] at e
  simp only [f52_4,dec_and,Int.toNat_natCast]
  rw [cond_pos (by omega),cond_pos (by omega),i64w (by omega) (by omega)]
  rw [e]
  rfl
 simp only [f52_4,f52_8,f52_9,f52_10,f52_25,f52_26,f52_27_i,f52_27,f52_28,f52_29,f52_49,f52_50,f52_51]
 rw [cond_neg (by omega),List.take_length]
 refine loopN_ind (fun m s=>∃ p:Int→Int,s=(a0,a1,(a1.length:Int),((a1.length-m:Nat):Int),Isl.tab a0 p)∧m≤a1.length∧Isl.UF a0 a1 (a1.take (a1.length-m)) p) ?_ _ a1.length _ (by omega) ⟨_,by rw [Nat.sub_self];rfl,Nat.le_refl _,by rw [Nat.sub_self];exact Isl.UF.start⟩
 rintro m s k ⟨p,rfl,hm,hu⟩ hk
 simp only [f52_11,f52_12,f52_13,f52_14,f52_15,f52_17_i,f52_17,f52_18,f52_19,f52_20,f52_21,f52_22,f52_23,f52_24,f52_25,f52_26,f52_27_i,f52_27,f52_28]
 cases m with
 | zero=>
  rw [Nat.sub_zero,List.take_length] at hu
  rw [cond_neg (by omega)]
  exact grp p hu
 | succ m=>
  have hi:a1.length-(m+1) < a1.length:=by omega
  have ht:=Reg.take_get a1 [] _ hi
  rw [show a1.length-(m+1)+1=a1.length-m by omega] at ht
  have hl:a1.getD (a1.length-(m+1)) []∈a1:=by rw [List.getD_eq_getElem?_getD,List.getElem?_eq_getElem hi];exact List.getElem_mem hi
  have hll:=(h1.1 _ hl).2
  simp only [dec_and,Int.toNat_natCast]
  rw [cond_pos (by omega),cond_pos (by omega)]
  generalize a1.getD (a1.length-(m+1)) []=l at hl ht hll
  generalize a1.take (a1.length-(m+1))=dn at hu ht
  have nxt:∀ p',Isl.UF a0 a1 (dn++[l]) p'→k (a0,a1,(a1.length:Int),IntKind.i64.wrap (((a1.length-(m+1):Nat):Int)+1),Isl.tab a0 p')=some ((.own 0 0 1),[(.cells (Isl.clss a0 a1).length (.rL .i64 (Isl.clss a0 a1)) true)]):=fun p' hu'=>by
   rw [i64w (by omega) (by omega),show((a1.length-(m+1):Nat):Int)+1=((a1.length-m:Nat):Int) by omega]
   exact hk m _ (by omega) ⟨p',rfl,by omega,by rw [← ht];exact hu'⟩
  refine loopN_ind (fun q s=>∃ (p':Int→Int) (f:Int) (b:Bool),s=(a0,f,b,a1,(a1.length:Int),((a1.length-(m+1):Nat):Int),l,(l.length:Int),((l.length-q:Nat):Int),Isl.tab a0 p')∧q≤l.length∧Isl.InL a0 a1 dn l (l.take (l.length-q)) p' f b) ?_ _ l.length _ (by omega)
   ⟨p,0,false,by rw [Nat.sub_self];rfl,Nat.le_refl _,by rw [Nat.sub_self];exact⟨hu,fun _ y hy=>by simp at hy,fun h=>by cases h⟩⟩
  rintro q s k2 ⟨p',f,b,rfl,hq,hin⟩ hk2
  simp only [f52_16,dec_and,Int.toNat_natCast]
  cases q with
  | zero=>
   rw [Nat.sub_zero,List.take_length] at hin
   rw [cond_neg (by omega)]
   exact nxt p' hin.done
  | succ q=>
   have hj:l.length-(q+1) < l.length:=by omega
   have hy:=Isl.getD_mem hj
   have htl:=Reg.take_get l 0 _ hj
   rw [show l.length-(q+1)+1=l.length-q by omega] at htl
   have hw:IntKind.i64.wrap (((l.length-(q+1):Nat):Int)+1)=((l.length-q:Nat):Int):=by rw [i64w (by omega) (by omega)];omega
   rw [cond_pos (by omega),cond_pos (by omega)]
   obtain⟨y,ey⟩:∃ y,l.getD (l.length-(q+1)) 0=y:=⟨_,rfl⟩
   simp only [ey] at hy htl ⊢
   simp only [Isl.mhas_tab,hw]
   cases hh:a0.any (fun z=>z==y) with
   | false=>
    simp only [Bool.not_false,cond_true]
    exact hk2 q _ (by omega) ⟨p',f,b,rfl,by omega,by rw [← htl];exact hin.skip (Isl.any_false.1 hh)⟩
   | true=>
    have hys:=Isl.any_iff.1 hh
    simp only [Bool.not_true,cond_false]
    cases b with
    | false=>
     simp only [Bool.not_false,cond_true]
     exact hk2 q _ (by omega) ⟨p',y,true,rfl,by omega,by rw [← htl];exact hin.first hys hy⟩
    | true=>
     obtain⟨p2,c1,c2,c3,c4⟩:=hin.join hnd hl hys hy
     simp only [Bool.not_true,cond_false,c1,c2,c3,cond_true,Isl.tab_len,int_beq]
     rw [cond_pos (by omega)]
     by_cases h1':(a0.length:Int)=1
     ·rw [cond_pos h1']
      exact nxt p2 (c4.alone (by omega))
     ·rw [cond_neg h1']
      exact hk2 q _ (by omega) ⟨p2,f,true,rfl,by omega,by rw [← htl];exact c4⟩
theorem c52:CallOk Try.prog G38 52 r52:=callOk_of (V:=VG3852) mixed tys eVG3852 (f:=52) (fn:=Try.f52) Try.func52 (by kernel_rfl) (c:=sub (bodyOf Try.f52) []) (by kernel_rfl) (by
 intro X H r H' h hX hH
 unfold r52 at h;split at h <;> try contradiction
 ·simp only [Option.some.injEq,Prod.mk.injEq] at h
  obtain⟨hp,rfl,rfl⟩:=h
  obtain⟨F,hF⟩:=s52 _ _ hp (hX _ (.head _)) (hX _ (.tail _ (.head _)))
  exact⟨Af52 F,(f52_body F _ _).trans hF⟩)
end
end Go.Am
end
section
namespace Go.Am
open Go Go.Proofs
abbrev sp92:List (Nat×Md):=[(0,.plain),(3,.plain),(9,.plain),(10,.plain),(11,.plain)]
abbrev sp93:List (Nat×Md):=[(6,.plain),(25,.plain),(26,.plain),(27,.plain)]
abbrev sp94:List (Nat×Md):=[(0,.plain),(6,.plain)]
abbrev sp95:List (Nat×Md):=[(6,.plain)]
abbrev Ty109:=(List Li)×Int×(List Li)×Int×Int
abbrev Ty110:=(List Li)×Li
abbrev Ty111:=(List Li)×Int×Int×Li
abbrev Ty112:=Int×(List Li)×(List Li)
abbrev Ty113:=Int×Int×Int×(List Li)×(List Li)
abbrev Ty114:=(List Li)×(List Li)×(List Li)
abbrev Ty115:=Int×Int×(List Li)×(List Li)×(List Li)
def lVG3865:List CEnt:=[]
def VG3865:Env:=mkEnv T38 G38 lVG3865
noncomputable abbrev Kf42:=kFin VG3865 none (Try.f65).results.toList
theorem eVG3865:EOk Try.prog VG3865:=eok_mk (by exact trivial)
def Af65(F:Nat):Cuts:={ F:=F,at_:=fun _=>none,join:=fun _=>none }
def ef65_a:Li→St:=fun a0=>⟨[(0,(.vs (.rI .i64 a0) 0 1))],[],0,4,0⟩
def f65_1(F:Nat):Li→Rz:=fun a0=>(some ((.fn 82 (.cons 0 (.ptr 0 0 1 0 0 0 1) .nil)),[(.cells 1 (.one (.vs (.rI .i64 a0) 0 1)) true)]))
theorem f65_1_eq(F:Nat):∀ v,aexec VG3865 (Af65 F) (sub (bodyOf Try.f65) []) (ef65_a v) Kf42=f65_1 F v:=by
 intro a0;kernel_rfl
def f65(F:Nat):Li→Rz:=f65_1 F
theorem f65_body(F:Nat)(a0:List Int):abody VG3865 (Af65 F) Try.f65 [(.vs (.rI .i64 a0) 0 1)] []=f65 F a0:=
 (abody_in (c:=(sub (bodyOf Try.f65) [])) (by kernel_rfl) (s:=ef65_a a0) (by kernel_rfl)).trans (f65_1_eq F a0)
def r65:CRun:=fun X H=>match X,H with
 | [(.vs (.rI .i64 a0) 0 1)],[]=>some (true,(.fn 82 (.cons 0 (.ptr 0 0 1 0 0 0 1) .nil)),[(.cells 1 (.one (.vs (.rI .i64 a0) 0 1)) true)])
 | _,_=>none
theorem s65(a0:List Int)(h0:okV (.vs (.rI .i64 a0) 0 1)):∃ F,f65 F a0=some ((.fn 82 (.cons 0 (.ptr 0 0 1 0 0 0 1) .nil)),[(.cells 1 (.one (.vs (.rI .i64 a0) 0 1)) true)]):=⟨0,rfl⟩
theorem c65:CallOk Try.prog G38 65 r65:=callOk_of (V:=VG3865) mixed tys eVG3865 (f:=65) (fn:=Try.f65) Try.func65 (by kernel_rfl) (c:=sub (bodyOf Try.f65) []) (by kernel_rfl) (by
 intro X H r H' h hX hH
 unfold r65 at h;split at h <;> try contradiction
 ·simp only [Option.some.injEq,Prod.mk.injEq] at h
  obtain⟨hp,rfl,rfl⟩:=h
  obtain⟨F,hF⟩:=s65 _ (hX _ (.head _))
  exact⟨Af65 F,(f65_body F _).trans hF⟩)
def r90:CRun:=runAppV 82
theorem c90:CallOk Try.prog G38 90 r90:=cAppV90
def lVG3881:List CEnt:=[(90,[none,none],r90)]
def VG3881:Env:=mkEnv T38 G38 lVG3881
noncomputable abbrev Kf43:=kFin VG3881 none (Try.f81).results.toList
theorem eVG3881:EOk Try.prog VG3881:=eok_mk (by exact⟨c90,trivial⟩)
def Af81(F:Nat):Cuts:={ F:=F,at_:=fun _=>none,join:=fun _=>none }
def ef81_a:Li→St:=fun a0=>⟨[(0,(.fn 82 (.cons 0 (.ptr 0 0 1 0 0 0 1) .nil)))],[(0,(.cells 1 (.one (.vs (.rI .i64 a0) 0 1)) true))],1,5,1⟩
def f81_1(F:Nat):Li→Rz:=fun a0=>(cond (decide (a0.length < 1073740000)) (some ((.own 1 0 1),[(.cells 1 (.one (.vs (.rI .i64 a0) 0 1)) true),(.cells a0.length (.rI .i64 a0) true)])) none)
theorem f81_1_eq(F:Nat):∀ v,aexec VG3881 (Af81 F) (sub (bodyOf Try.f81) []) (ef81_a v) Kf43=f81_1 F v:=by
 intro a0;kernel_rfl
def f81(F:Nat):Li→Rz:=f81_1 F
theorem f81_body(F:Nat)(a0:List Int):abody VG3881 (Af81 F) Try.f81 [(.fn 82 (.cons 0 (.ptr 0 0 1 0 0 0 1) .nil))] [(.cells 1 (.one (.vs (.rI .i64 a0) 0 1)) true)]=f81 F a0:=
 (abody_in (c:=(sub (bodyOf Try.f81) [])) (by kernel_rfl) (s:=ef81_a a0) (by kernel_rfl)).trans (f81_1_eq F a0)
def r81:CRun:=fun X H=>match X,H with
 | [(.fn 82 (.cons 0 (.ptr 0 0 1 0 0 0 1) .nil))],[(.cells 1 (.one (.vs (.rI .i64 a0) 0 1)) true)]=>some ((decide (a0.length < 1073740000)),.own 1 0 1,[(.cells 1 (.one (.vs (.rI .i64 a0) 0 1)) true),(.cells a0.length (.rI .i64 a0) true)])
 | _,_=>none
theorem s81(a0:List Int)(hp:((decide (a0.length < 1073740000)))=true)(k0:okB (.cells 1 (.one (.vs (.rI .i64 a0) 0 1)) true)):∃ F,f81 F a0=some ((.own 1 0 1),[(.cells 1 (.one (.vs (.rI .i64 a0) 0 1)) true),(.cells a0.length (.rI .i64 a0) true)]):=⟨0,by simp only [f81,f81_1];rw [hp];rfl⟩
theorem c81:CallOk Try.prog G38 81 r81:=callOk_of (V:=VG3881) mixed tys eVG3881 (f:=81) (fn:=Try.f81) Try.func81 (by kernel_rfl) (c:=sub (bodyOf Try.f81) []) (by kernel_rfl) (by
 intro X H r H' h hX hH
 unfold r81 at h;split at h <;> try contradiction
 ·simp only [Option.some.injEq,Prod.mk.injEq] at h
  obtain⟨hp,rfl,rfl⟩:=h
  obtain⟨F,hF⟩:=s81 _ hp (hH _ (.head _))
  exact⟨Af81 F,(f81_body F _).trans hF⟩)
def lVG3864:List CEnt:=[(50,[none],r50),(81,[none],r81)]
def VG3864:Env:=mkEnv T38 G38 lVG3864
noncomputable abbrev Kf44:=kFin VG3864 none (Try.f64).results.toList
theorem eVG3864:EOk Try.prog VG3864:=eok_mk (by exact⟨c50,c81,trivial⟩)
def Af64(F:Nat):Cuts:={ F:=F,at_:=fun _=>none,join:=fun _=>none }
def ef64_a:Li→St:=fun a0=>⟨[(0,(.fn 82 (.cons 0 (.ptr 0 0 1 0 0 0 1) .nil)))],[(0,(.cells 1 (.one (.vs (.rI .i64 a0) 0 1)) true))],1,9,1⟩
def f64_1(F:Nat):Li→Rz:=fun a0=>(cond (decide (a0.length < 1073740000)) (cond (decide (a0.length < 1073741824)) (some ((.own 1 0 1),[(.cells 1 (.one (.vs (.rI .i64 a0) 0 1)) true),(.cells a0.length (.rI .i64 (sortI a0)) true)])) none) none)
theorem f64_1_eq(F:Nat):∀ v,aexec VG3864 (Af64 F) (sub (bodyOf Try.f64) []) (ef64_a v) Kf44=f64_1 F v:=by
 intro a0;kernel_rfl
def f64(F:Nat):Li→Rz:=f64_1 F
theorem f64_body(F:Nat)(a0:List Int):abody VG3864 (Af64 F) Try.f64 [(.fn 82 (.cons 0 (.ptr 0 0 1 0 0 0 1) .nil))] [(.cells 1 (.one (.vs (.rI .i64 a0) 0 1)) true)]=f64 F a0:=
 (abody_in (c:=(sub (bodyOf Try.f64) [])) (by kernel_rfl) (s:=ef64_a a0) (by kernel_rfl)).trans (f64_1_eq F a0)
def r64:CRun:=fun X H=>match X,H with
 | [(.fn 82 (.cons 0 (.ptr 0 0 1 0 0 0 1) .nil))],[(.cells 1 (.one (.vs (.rI .i64 a0) 0 1)) true)]=>some ((decide (a0.length < 1073740000)),.own 1 0 1,[(.cells 1 (.one (.vs (.rI .i64 a0) 0 1)) true),(.cells a0.length (.rI .i64 (sortI a0)) true)])
 | _,_=>none
theorem s64(a0:List Int)(hp:((decide (a0.length < 1073740000)))=true)(k0:okB (.cells 1 (.one (.vs (.rI .i64 a0) 0 1)) true)):∃ F,f64 F a0=some ((.own 1 0 1),[(.cells 1 (.one (.vs (.rI .i64 a0) 0 1)) true),(.cells a0.length (.rI .i64 (sortI a0)) true)]):=by
 refine⟨0,?_⟩
 simp only [f64,f64_1]
 have hp':=of_decide_eq_true hp
 rw [hp,decide_eq_true (by omega)]
 rfl
theorem c64:CallOk Try.prog G38 64 r64:=callOk_of (V:=VG3864) mixed tys eVG3864 (f:=64) (fn:=Try.f64) Try.func64 (by kernel_rfl) (c:=sub (bodyOf Try.f64) []) (by kernel_rfl) (by
 intro X H r H' h hX hH
 unfold r64 at h;split at h <;> try contradiction
 ·simp only [Option.some.injEq,Prod.mk.injEq] at h
  obtain⟨hp,rfl,rfl⟩:=h
  obtain⟨F,hF⟩:=s64 _ hp (hH _ (.head _))
  exact⟨Af64 F,(f64_body F _).trans hF⟩)
def lVG3853:List CEnt:=[(51,[none],r51),(64,[none],r64),(65,[some 3],r65)]
def VG3853:Env:=mkEnv T38 G38 lVG3853
noncomputable abbrev Kf45:=kFin VG3853 (some [(2,.view 3)]) (Try.f53).results.toList
theorem eVG3853:EOk Try.prog VG3853:=eok_mk (by exact⟨c51,c64,c65,trivial⟩)
def Af53(F:Nat):Cuts:={ F:=F,at_:=fun _=>none,join:=fun _=>none,fin:=(some [(2,.view 3)]) }
def ef53_a:Li→St:=fun a0=>⟨[(0,(.vs (.rI .i64 a0) 0 1))],[],0,7,0⟩
def f53_1(F:Nat):Li→Rz:=fun a0=>(cond (decide (a0.length < 1073740000)) (cond (decide ((sortI a0).length < 1073741824)) (some ((.vs (.rI .i64 (Reg.compact (sortI a0))) 0 1),[])) none) none)
theorem f53_1_eq(F:Nat):∀ v,aexec VG3853 (Af53 F) (sub (bodyOf Try.f53) []) (ef53_a v) Kf45=f53_1 F v:=by
 intro a0;kernel_rfl
def f53(F:Nat):Li→Rz:=f53_1 F
theorem f53_body(F:Nat)(a0:List Int):abody VG3853 (Af53 F) Try.f53 [(.vs (.rI .i64 a0) 0 1)] []=f53 F a0:=
 (abody_in (c:=(sub (bodyOf Try.f53) [])) (by kernel_rfl) (s:=ef53_a a0) (by kernel_rfl)).trans (f53_1_eq F a0)
def r53:CRun:=fun X H=>match X,H with
 | [(.vs (.rI .i64 a0) 0 1)],[]=>some ((decide (a0.length < 1073740000)),(.vs (.rI .i64 (Isl.set a0)) 0 1),[])
 | _,_=>none
theorem s53(a0:List Int)(hp:((decide (a0.length < 1073740000)))=true)(h0:okV (.vs (.rI .i64 a0) 0 1)):∃ F,f53 F a0=some ((.vs (.rI .i64 (Isl.set a0)) 0 1),[]):=by
 refine⟨0,?_⟩
 simp only [f53,f53_1]
 have hp':=of_decide_eq_true hp
 have:=sortI_len a0
 rw [hp,decide_eq_true (by omega),Isl.set_eq]
 rfl
theorem c53:CallOk Try.prog G38 53 r53:=callOk_of (V:=VG3853) mixed tys eVG3853 (f:=53) (fn:=Try.f53) Try.func53 (by kernel_rfl) (c:=sub (bodyOf Try.f53) []) (by kernel_rfl) (by
 intro X H r H' h hX hH
 unfold r53 at h;split at h <;> try contradiction
 ·simp only [Option.some.injEq,Prod.mk.injEq] at h
  obtain⟨hp,rfl,rfl⟩:=h
  obtain⟨F,hF⟩:=s53 _ hp (hX _ (.head _))
  exact⟨Af53 F,(f53_body F _).trans hF⟩)
def lVG3866:List CEnt:=[]
def VG3866:Env:=mkEnv T38 G38 lVG3866
noncomputable abbrev Kf46:=kFin VG3866 (some [(4,.own 3)]) (Try.f66).results.toList
theorem eVG3866:EOk Try.prog VG3866:=eok_mk (by exact trivial)
def Af66(F:Nat):Cuts:={ F:=F,at_:=fun _=>none,join:=fun _=>none,fin:=(some [(4,.own 3)]) }
def ef66_a:Int→St:=fun a1=>⟨[(0,.ns),(1,.int .i64 a1)],[],0,27,0⟩
def f66_1(F:Nat):Int→Rz:=fun a1=>(cond (decide (a1 < (0:Int))) none (cond (decide ((IntKind.i64.wrap (a1-(0:Int))) > (0:Int))) (cond ((decide (0 < (IntKind.i64.wrap (a1-(0:Int)))))&&(decide ((IntKind.i64.wrap (a1-(0:Int))) < 1073741824))) (cond (decide ((0:Int)≤(↑(List.replicate (Int.toNat (IntKind.i64.wrap (a1-(0:Int)))) 0).length:Int))) (some ((.own 0 0 1),[(.cells 0 (.rI .i64 ((List.replicate (Int.toNat (IntKind.i64.wrap (a1-(0:Int)))) 0).take 0)) true)])) none) none) (some ((.own 0 0 1),[(.cells 0 (.rI .i64 []) true)]))))
theorem f66_1_eq(F:Nat):∀ v,aexec VG3866 (Af66 F) (sub (bodyOf Try.f66) []) (ef66_a v) Kf46=f66_1 F v:=by
 intro a1;kernel_rfl
def f66(F:Nat):Int→Rz:=f66_1 F
theorem f66_body(F:Nat)(a1:Int):abody VG3866 (Af66 F) Try.f66 [.ns,.int .i64 a1] []=f66 F a1:=
 (abody_in (c:=(sub (bodyOf Try.f66) [])) (by kernel_rfl) (s:=ef66_a a1) (by kernel_rfl)).trans (f66_1_eq F a1)
def r66:CRun:=fun X H=>match X,H with
 | [.ns,.int .i64 a1],[]=>some (((decide (0≤a1))&&(decide (Int.toNat a1 < 1073741000))),.own 0 0 1,[(.cells 0 (.rI .i64 []) true)])
 | _,_=>none
theorem s66(a1:Int)(hp:(((decide (0≤a1))&&(decide (Int.toNat a1 < 1073741000))))=true)(h1:okV (.int .i64 a1)):∃ F,f66 F a1=some ((.own 0 0 1),[(.cells 0 (.rI .i64 []) true)]):=by
 simp only [Bool.and_eq_true,decide_eq_true_eq] at hp
 refine⟨0,?_⟩
 simp only [f66,f66_1,Int.sub_zero,dec_and]
 rw [cond_neg (by omega),i64w (by omega) (by omega)]
 by_cases h:a1 > 0
 ·rw [cond_pos h,cond_pos (by omega),cond_pos (by omega),List.take_zero]
 ·rw [cond_neg h]
theorem c66:CallOk Try.prog G38 66 r66:=callOk_of (V:=VG3866) mixed tys eVG3866 (f:=66) (fn:=Try.f66) Try.func66 (by kernel_rfl) (c:=sub (bodyOf Try.f66) []) (by kernel_rfl) (by
 intro X H r H' h hX hH
 unfold r66 at h;split at h <;> try contradiction
 ·simp only [Option.some.injEq,Prod.mk.injEq] at h
  obtain⟨hp,rfl,rfl⟩:=h
  obtain⟨F,hF⟩:=s66 _ hp (hX _ (.tail _ (.head _)))
  exact⟨Af66 F,(f66_body F _).trans hF⟩)
def lVG3867:List CEnt:=[]
def VG3867:Env:=mkEnv T38 G38 lVG3867
noncomputable abbrev Kf47:=kFin VG3867 (some [(4,.own 22)]) (Try.f67).results.toList
theorem eVG3867:EOk Try.prog VG3867:=eok_mk (by exact trivial)
def Af67(F:Nat):Cuts:={ F:=F,at_:=fun _=>none,join:=fun _=>none,fin:=(some [(4,.own 22)]) }
def ef67_a:Int→St:=ef66_a
def f67_1(F:Nat):Int→Rz:=fun a1=>(cond (decide (a1 < (0:Int))) none (cond (decide ((IntKind.i64.wrap (a1-(0:Int))) > (0:Int))) (cond ((decide (0 < (IntKind.i64.wrap (a1-(0:Int)))))&&(decide ((IntKind.i64.wrap (a1-(0:Int))) < 1073741824))) (cond (decide ((0:Int)≤(↑(List.replicate (Int.toNat (IntKind.i64.wrap (a1-(0:Int)))) ([]:List Int)).length:Int))) (some ((.own 0 0 1),[(.cells 0 (.rL .i64 ((List.replicate (Int.toNat (IntKind.i64.wrap (a1-(0:Int)))) ([]:List Int)).take 0)) true)])) none) none) (some ((.own 0 0 1),[(.cells 0 (.rL .i64 []) true)]))))
theorem f67_1_eq(F:Nat):∀ v,aexec VG3867 (Af67 F) (sub (bodyOf Try.f67) []) (ef67_a v) Kf47=f67_1 F v:=by
 intro a1;kernel_rfl
def f67(F:Nat):Int→Rz:=f67_1 F
theorem f67_body(F:Nat)(a1:Int):abody VG3867 (Af67 F) Try.f67 [.ns,.int .i64 a1] []=f67 F a1:=
 (abody_in (c:=(sub (bodyOf Try.f67) [])) (by kernel_rfl) (s:=ef67_a a1) (by kernel_rfl)).trans (f67_1_eq F a1)
def r67:CRun:=fun X H=>match X,H with
 | [.ns,.int .i64 a1],[]=>some (((decide (0≤a1))&&(decide (Int.toNat a1 < 1073741000))),.own 0 0 1,[(.cells 0 (.rL .i64 []) true)])
 | _,_=>none
theorem s67(a1:Int)(hp:(((decide (0≤a1))&&(decide (Int.toNat a1 < 1073741000))))=true)(h1:okV (.int .i64 a1)):∃ F,f67 F a1=some ((.own 0 0 1),[(.cells 0 (.rL .i64 []) true)]):=by
 simp only [Bool.and_eq_true,decide_eq_true_eq] at hp
 refine⟨0,?_⟩
 simp only [f67,f67_1,Int.sub_zero,dec_and]
 rw [cond_neg (by omega),i64w (by omega) (by omega)]
 by_cases h:a1 > 0
 ·rw [cond_pos h,cond_pos (by omega),cond_pos (by omega),List.take_zero]
 ·rw [cond_neg h]
theorem c67:CallOk Try.prog G38 67 r67:=callOk_of (V:=VG3867) mixed tys eVG3867 (f:=67) (fn:=Try.f67) Try.func67 (by kernel_rfl) (c:=sub (bodyOf Try.f67) []) (by kernel_rfl) (by
 intro X H r H' h hX hH
 unfold r67 at h;split at h <;> try contradiction
 ·simp only [Option.some.injEq,Prod.mk.injEq] at h
  obtain⟨hp,rfl,rfl⟩:=h
  obtain⟨F,hF⟩:=s67 _ hp (hX _ (.tail _ (.head _)))
  exact⟨Af67 F,(f67_body F _).trans hF⟩)
def lVG3854:List CEnt:=[(66,[none,none],r66)]
def VG3854:Env:=mkEnv T38 G38 lVG3854
noncomputable abbrev Kf48:=kFin VG3854 (some [(2,.own 3)]) (Try.f54).results.toList
theorem eVG3854:EOk Try.prog VG3854:=eok_mk (by exact⟨c66,trivial⟩)
def Af54(F:Nat):Cuts:={ F:=F,at_:=fun n=>match n with | 3018=>some sp92 | 11012=>some sp93 | _=>none,join:=fun n=>match n with | 1047=>some sp67 | 2045=>some sp65 | 3020=>some sp92 | 9022=>some sp65 | 10020=>some sp94 | 11014=>some sp93 | 15003=>some sp95 | _=>none,fin:=(some [(2,.own 3)]) }
noncomputable abbrev XAf54(F:Nat){α:Type}:=@aexec α VG3854 (Af54 F)
def ef54_a:(List Li)→St:=fun a0=>⟨[(0,(.vs (.rL .i64 a0) 0 1))],[],0,36,0⟩
def ef54j1:(List Li)→St:=fun t0=>⟨[(0,(.vs (.rL .i64 t0) 0 1))],[],0,36,0⟩
def ef54j2:(List Li)×Int→St:=fun (t0,t3)=>⟨[(0,(.vs (.rL .i64 t0) 0 1)),(3,.int .i64 t3)],[],0,36,0⟩
def ef54j3:Ty109→St:=fun (t0,t3,t9,t10,t11)=>⟨[(0,(.vs (.rL .i64 t0) 0 1)),(3,.int .i64 t3),(9,(.vs (.rL .i64 t9) 0 1)),(10,.int .i64 t10),(11,.int .i64 t11)],[],0,36,0⟩
def ef54l1:Ty109→St:=ef54j3
def ef54j4:(List Li)×Int→St:=ef54j2
def ef54j5:Ty110→St:=fun (t0,x2)=>⟨[(0,(.vs (.rL .i64 t0) 0 1)),(6,.own 0 0 1)],[(0,(.cells x2.length (.rI .i64 x2) true))],1,36,0⟩
def ef54j6:Ty111→St:=fun (t25,t26,t27,x4)=>⟨[(6,.own 0 0 1),(25,(.vs (.rL .i64 t25) 0 1)),(26,.int .i64 t26),(27,.int .i64 t27)],[(0,(.cells x4.length (.rI .i64 x4) true))],1,36,0⟩
def ef54l2:Ty111→St:=ef54j6
def ef54j7:Li→St:=fun x1=>⟨[(6,.own 0 0 1)],[(0,(.cells x1.length (.rI .i64 x1) true))],1,36,0⟩
def f54_1(F:Nat)(kf54j1:(List Li)→Rz):(List Li)→Rz:=fun a0=>(kf54j1 a0)
theorem f54_1_eq(F:Nat)(Rf54j1:St→Rz):∀ v,XAf54 F (bp Try.f54 2) (ef54_a v) (kSeq (kc VG3854 Rf54j1 sp67) Kf48)=f54_1 F (Rf54j1∘ef54j1) v:=by
 intro a0;kernel_rfl
def f54_2(F:Nat)(kf54j2:(List Li)×Int→Rz):(List Li)→Rz:=fun t0=>(kf54j2 (t0,(0:Int)))
theorem f54_2_eq(F:Nat)(Rf54j2:St→Rz):∀ v,XAf54 F (bp Try.f54 6) (ef54j1 v) (kSeq (kc VG3854 Rf54j2 sp65) Kf48)=f54_2 F (Rf54j2∘ef54j2) v:=by
 intro t0;kernel_rfl
def f54_3(F:Nat)(kf54j3:Ty109→Rz)(kf54j4:(List Li)×Int→Rz):(List Li)×Int→Rz:=fun (t0,t3)=>(kf54j3 (t0,t3,t0,(↑t0.length:Int),(0:Int)))
theorem f54_3_eq(F:Nat)(Rf54j3:St→Rz)(Rf54j4:St→Rz):∀ v,XAf54 F (bp Try.f54 28) (ef54j2 v) (kSeq (kc VG3854 Rf54j3 sp92) (kSeq (kc VG3854 Rf54j4 sp65) Kf48))=f54_3 F (Rf54j3∘ef54j3) (Rf54j4∘ef54j4) v:=by
 rintro⟨t0,t3⟩;kernel_rfl
def f54_4(F:Nat)(kf54l1:Ty109→Rz)(kf54j4:(List Li)×Int→Rz):Ty109→Rz:=fun (t0,t3,t9,t10,t11)=>(cond (decide (t11 < t10)) (cond ((decide (0≤t11))&&(decide (t11 < (↑t9.length:Int)))) (cond (decide ((IntKind.i64.wrap (t3+(↑(t9.getD (Int.toNat t11) []).length:Int))) < (0:Int))) none (kf54l1 (t0,(IntKind.i64.wrap (t3+(↑(t9.getD (Int.toNat t11) []).length:Int))),t9,t10,(IntKind.i64.wrap (t11+(1:Int)))))) none) (kf54j4 (t0,t3)))
theorem f54_4_eq(F:Nat)(Rf54l1:St→Rz)(Rf54j4:St→Rz):∀ v,XAf54 F (bp Try.f54 116) (ef54l1 v) (kSeq (kc VG3854 Rf54l1 sp92) (kBlock 0 (kSeq (kc VG3854 Rf54j4 sp65) Kf48)))=f54_4 F (Rf54l1∘ef54l1) (Rf54j4∘ef54j4) v:=by
 rintro⟨t0,t3,t9,t10,t11⟩;kernel_rfl
def f54_5_i:Ty109→(List Li)×Int×(List Li)×Int×Int:=fun (t0,t3,t9,t10,t11)=>(t0,t3,t9,t10,t11)
def f54_5(F:Nat)(kf54j4:(List Li)×Int→Rz):Ty109→Rz:=fun v=>loopN (fun k=>f54_4 F k kf54j4) F (f54_5_i v)
theorem f54_5_eq(F:Nat)(Rf54j4:St→Rz):∀ v,XAf54 F (bp Try.f54 58) (ef54j3 v) (kBlock 0 (kSeq (kc VG3854 Rf54j4 sp65) Kf48))=f54_5 F (Rf54j4∘ef54j4) v:=
 loop_cut (by kernel_rfl) (by kernel_rfl) ef54j3 ef54l1 _ f54_5_i (fun k=>f54_4 F k (Rf54j4∘ef54j4))
  (by rintro⟨t0,t3,t9,t10,t11⟩;kernel_rfl) (fun Rf54l1=>f54_4_eq F Rf54l1 Rf54j4)
def f54_6(F:Nat)(kf54j4:(List Li)×Int→Rz):Ty109→Rz:=f54_5 F kf54j4
theorem f54_6_eq(F:Nat)(Rf54j4:St→Rz):∀ v,XAf54 F (bp Try.f54 29) (ef54j3 v) (kSeq (kc VG3854 Rf54j4 sp65) Kf48)=f54_6 F (Rf54j4∘ef54j4) v:=fun v=>
 (block_in  (by kernel_rfl) _ _).trans (f54_5_eq F Rf54j4 v)
def f54_7(F:Nat)(kf54j4:(List Li)×Int→Rz):(List Li)×Int→Rz:=fun v=>f54_3 F (f54_6 F kf54j4) kf54j4 v
theorem f54_7_eq(F:Nat)(Rf54j4:St→Rz):∀ v,XAf54 F (bp Try.f54 14) (ef54j2 v) (kSeq (kc VG3854 Rf54j4 sp65) Kf48)=f54_7 F (Rf54j4∘ef54j4) v:=
 seq_cut (by kernel_rfl) (by kernel_rfl) ef54j2 ef54j3 _ (fun k=>f54_3 F k (Rf54j4∘ef54j4)) (f54_6 F (Rf54j4∘ef54j4))
  (fun Rf54j3=>f54_3_eq F Rf54j3 Rf54j4) (f54_6_eq F Rf54j4)
def f54_8(F:Nat)(kf54j5:Ty110→Rz):(List Li)×Int→Rz:=fun (t0,t3)=>(cond ((decide (0≤t3))&&(decide (Int.toNat t3 < 1073741000))) (kf54j5 (t0,[])) none)
theorem f54_8_eq(F:Nat)(Rf54j5:St→Rz):∀ v,XAf54 F (bp Try.f54 30) (ef54j4 v) (kSeq (kc VG3854 Rf54j5 sp94) Kf48)=f54_8 F (Rf54j5∘ef54j5) v:=by
 rintro⟨t0,t3⟩;kernel_rfl
def f54_9(F:Nat)(kf54j6:Ty111→Rz)(kf54j7:Li→Rz):Ty110→Rz:=fun (t0,x2)=>(kf54j6 (t0,(↑t0.length:Int),(0:Int),x2))
theorem f54_9_eq(F:Nat)(Rf54j6:St→Rz)(Rf54j7:St→Rz):∀ v,XAf54 F (bp Try.f54 124) (ef54j5 v) (kSeq (kc VG3854 Rf54j6 sp93) (kSeq (kc VG3854 Rf54j7 sp95) Kf48))=f54_9 F (Rf54j6∘ef54j6) (Rf54j7∘ef54j7) v:=by
 rintro⟨t0,x2⟩;kernel_rfl
def f54_10(F:Nat)(kf54l2:Ty111→Rz)(kf54j7:Li→Rz):Ty111→Rz:=fun (t25,t26,t27,x4)=>(cond (decide (t27 < t26)) (cond ((decide (0≤t27))&&(decide (t27 < (↑t25.length:Int)))) (cond (decide ((x4.length+(t25.getD (Int.toNat t27) []).length) < 1073741824)) (kf54l2 (t25,t26,(IntKind.i64.wrap (t27+(1:Int))),(x4++(t25.getD (Int.toNat t27) [])))) none) none) (kf54j7 x4))
theorem f54_10_eq(F:Nat)(Rf54l2:St→Rz)(Rf54j7:St→Rz):∀ v,XAf54 F (bp Try.f54 500) (ef54l2 v) (kSeq (kc VG3854 Rf54l2 sp93) (kBlock 2 (kSeq (kc VG3854 Rf54j7 sp95) Kf48)))=f54_10 F (Rf54l2∘ef54l2) (Rf54j7∘ef54j7) v:=by
 rintro⟨t25,t26,t27,x4⟩;kernel_rfl
def f54_11_i:Ty111→(List Li)×Int×Int×Li:=fun (t25,t26,t27,x4)=>(t25,t26,t27,x4)
def f54_11(F:Nat)(kf54j7:Li→Rz):Ty111→Rz:=fun v=>loopN (fun k=>f54_10 F k kf54j7) F (f54_11_i v)
theorem f54_11_eq(F:Nat)(Rf54j7:St→Rz):∀ v,XAf54 F (bp Try.f54 250) (ef54j6 v) (kBlock 2 (kSeq (kc VG3854 Rf54j7 sp95) Kf48))=f54_11 F (Rf54j7∘ef54j7) v:=
 loop_cut (by kernel_rfl) (by kernel_rfl) ef54j6 ef54l2 _ f54_11_i (fun k=>f54_10 F k (Rf54j7∘ef54j7))
  (by rintro⟨t25,t26,t27,x4⟩;kernel_rfl) (fun Rf54l2=>f54_10_eq F Rf54l2 Rf54j7)
def f54_12(F:Nat)(kf54j7:Li→Rz):Ty111→Rz:=f54_11 F kf54j7
theorem f54_12_eq(F:Nat)(Rf54j7:St→Rz):∀ v,XAf54 F (bp Try.f54 125) (ef54j6 v) (kSeq (kc VG3854 Rf54j7 sp95) Kf48)=f54_12 F (Rf54j7∘ef54j7) v:=fun v=>
 (block_in  (by kernel_rfl) _ _).trans (f54_11_eq F Rf54j7 v)
def f54_13(F:Nat)(kf54j7:Li→Rz):Ty110→Rz:=fun v=>f54_9 F (f54_12 F kf54j7) kf54j7 v
theorem f54_13_eq(F:Nat)(Rf54j7:St→Rz):∀ v,XAf54 F (bp Try.f54 62) (ef54j5 v) (kSeq (kc VG3854 Rf54j7 sp95) Kf48)=f54_13 F (Rf54j7∘ef54j7) v:=
 seq_cut (by kernel_rfl) (by kernel_rfl) ef54j5 ef54j6 _ (fun k=>f54_9 F k (Rf54j7∘ef54j7)) (f54_12 F (Rf54j7∘ef54j7))
  (fun Rf54j6=>f54_9_eq F Rf54j6 Rf54j7) (f54_12_eq F Rf54j7)
def f54_14(F:Nat):Li→Rz:=fun x1=>(some ((.own 0 0 1),[(.cells x1.length (.rI .i64 x1) true)]))
theorem f54_14_eq(F:Nat):∀ v,XAf54 F (bp Try.f54 63) (ef54j7 v) Kf48=f54_14 F v:=by
 intro x1;kernel_rfl
def f54_15(F:Nat):Ty110→Rz:=fun v=>f54_13 F (f54_14 F) v
theorem f54_15_eq(F:Nat):∀ v,XAf54 F (bp Try.f54 31) (ef54j5 v) Kf48=f54_15 F v:=
 seq_cut (by kernel_rfl) (by kernel_rfl) ef54j5 ef54j7 _ (fun k=>f54_13 F k) (f54_14 F)
  (fun Rf54j7=>f54_13_eq F Rf54j7) (f54_14_eq F)
def f54_16(F:Nat):(List Li)×Int→Rz:=fun v=>f54_8 F (f54_15 F) v
theorem f54_16_eq(F:Nat):∀ v,XAf54 F (bp Try.f54 15) (ef54j4 v) Kf48=f54_16 F v:=
 seq_cut (by kernel_rfl) (by kernel_rfl) ef54j4 ef54j5 _ (fun k=>f54_8 F k) (f54_15 F)
  (fun Rf54j5=>f54_8_eq F Rf54j5) (f54_15_eq F)
def f54_17(F:Nat):(List Li)×Int→Rz:=fun v=>f54_7 F (f54_16 F) v
theorem f54_17_eq(F:Nat):∀ v,XAf54 F (bp Try.f54 7) (ef54j2 v) Kf48=f54_17 F v:=
 seq_cut (by kernel_rfl) (by kernel_rfl) ef54j2 ef54j4 _ (fun k=>f54_7 F k) (f54_16 F)
  (fun Rf54j4=>f54_7_eq F Rf54j4) (f54_16_eq F)
def f54_18(F:Nat):(List Li)→Rz:=fun v=>f54_2 F (f54_17 F) v
theorem f54_18_eq(F:Nat):∀ v,XAf54 F (bp Try.f54 3) (ef54j1 v) Kf48=f54_18 F v:=
 seq_cut (by kernel_rfl) (by kernel_rfl) ef54j1 ef54j2 _ (fun k=>f54_2 F k) (f54_17 F)
  (fun Rf54j2=>f54_2_eq F Rf54j2) (f54_17_eq F)
def f54_19(F:Nat):(List Li)→Rz:=fun v=>f54_1 F (f54_18 F) v
theorem f54_19_eq(F:Nat):∀ v,XAf54 F (sub (bodyOf Try.f54) []) (ef54_a v) Kf48=f54_19 F v:=
 seq_cut (by kernel_rfl) (by kernel_rfl) ef54_a ef54j1 _ (fun k=>f54_1 F k) (f54_18 F)
  (fun Rf54j1=>f54_1_eq F Rf54j1) (f54_18_eq F)
def f54(F:Nat):(List Li)→Rz:=f54_19 F
theorem f54_body(F:Nat)(a0:List Li):abody VG3854 (Af54 F) Try.f54 [(.vs (.rL .i64 a0) 0 1)] []=f54 F a0:=
 (abody_in (c:=(sub (bodyOf Try.f54) [])) (by kernel_rfl) (s:=ef54_a a0) (by kernel_rfl)).trans (f54_19_eq F a0)
def r54:CRun:=fun X H=>match X,H with
 | [(.vs (.rL .i64 a0) 0 1)],[]=>some ((decide (a0.flatten.length < 1073740000)),.own 0 0 1,[(.cells a0.flatten.length (.rI .i64 a0.flatten) true)])
 | _,_=>none
theorem s54(a0:List Li)(hp:((decide (a0.flatten.length < 1073740000)))=true)(h0:okV (.vs (.rL .i64 a0) 0 1)):∃ F,f54 F a0=some ((.own 0 0 1),[(.cells a0.flatten.length (.rI .i64 a0.flatten) true)]):=by
 simp only [decide_eq_true_eq] at hp
 have hl:=h0.2
 refine⟨a0.length+1,?_⟩
 simp only [f54_1,f54_2,f54_3,f54_5_i,f54_5,f54_6,f54_7,f54_8,f54_9,f54_10,f54_11_i,f54_11,f54_12,f54_13,f54_14,f54_15,f54_16,f54_17,f54_18,f54_19,f54]
 have hfl:∀ i,i < a0.length→(a0.take (i+1)).flatten=(a0.take i).flatten++a0.getD i []:=fun i hi=>by rw [← Reg.take_get a0 [] i hi];simp
 refine loopN_from (fun i=>(a0,((a0.take i).flatten.length:Int),a0,(a0.length:Int),(i:Int))) a0.length (by rfl) (fun i hi k=>?_) (fun k=>?_) _ (by omega)
 ·have e:=hfl i hi
  have hle:=Isl.flatten_take_le a0 (i+1)
  have e2:((a0.take (i+1)).flatten.length:Int)=((a0.take i).flatten.length:Int)+((a0.getD i []).length:Int):=by rw [e,List.length_append];omega
  simp only [f54_4,dec_and,Int.toNat_natCast]
  have hw:IntKind.i64.wrap (((a0.take i).flatten.length:Int)+((a0.getD i []).length:Int))=((a0.take (i+1)).flatten.length:Int):=by rw [i64w (by omega) (by omega),e2]
  simp only [hw]
  rw [cond_pos (by omega),cond_pos (by omega),cond_neg (by omega),i64w (by omega) (by omega)]
  rfl
 ·simp only [f54_4,f54_1,f54_2,f54_3,f54_5_i,f54_5,f54_6,f54_7,f54_8,f54_9,f54_10,f54_11_i,f54_11,f54_12,f54_13,f54_14,f54_15,f54_16,f54_17,f54_18,f54_19,f54,dec_and,Int.toNat_natCast]
  rw [cond_neg (by omega),List.take_length,cond_pos (by omega)]
  refine loopN_from (fun i=>(a0,(a0.length:Int),(i:Int),(a0.take i).flatten)) a0.length (by rfl) (fun i hi k=>?_) (fun k=>?_) _ (by omega)
  ·have e:=hfl i hi
   have hle:=Isl.flatten_take_le a0 (i+1)
   rw [e,List.length_append] at hle
   simp only [f54_10,dec_and,Int.toNat_natCast]
   rw [cond_pos (by omega),cond_pos (by omega),cond_pos (by omega),i64w (by omega) (by omega),e]
   rfl
  ·simp only [f54_10,f54_14]
   rw [cond_neg (by omega),List.take_length]
theorem c54:CallOk Try.prog G38 54 r54:=callOk_of (V:=VG3854) mixed tys eVG3854 (f:=54) (fn:=Try.f54) Try.func54 (by kernel_rfl) (c:=sub (bodyOf Try.f54) []) (by kernel_rfl) (by
 intro X H r H' h hX hH
 unfold r54 at h;split at h <;> try contradiction
 ·simp only [Option.some.injEq,Prod.mk.injEq] at h
  obtain⟨hp,rfl,rfl⟩:=h
  obtain⟨F,hF⟩:=s54 _ hp (hX _ (.head _))
  exact⟨Af54 F,(f54_body F _).trans hF⟩)
def lVG3855:List CEnt:=[(67,[none,none],r67)]
def VG3855:Env:=mkEnv T38 G38 lVG3855
noncomputable abbrev Kf49:=kFin VG3855 (some [(2,.own 22)]) (Try.f55).results.toList
theorem eVG3855:EOk Try.prog VG3855:=eok_mk (by exact⟨c67,trivial⟩)
def Af55(F:Nat):Cuts:={ F:=F,at_:=fun n=>match n with | 3018=>some sp92 | 11012=>some sp93 | _=>none,join:=fun n=>match n with | 1047=>some sp67 | 2045=>some sp65 | 3020=>some sp92 | 9022=>some sp65 | 10020=>some sp94 | 11014=>some sp93 | 15003=>some sp95 | _=>none,fin:=(some [(2,.own 22)]) }
noncomputable abbrev XAf55(F:Nat){α:Type}:=@aexec α VG3855 (Af55 F)
def ef55_a:Ty20→St:=fun (a0,a1)=>⟨[(0,.own 0 0 1)],[(0,(.cells 2 (.segs (.cons 1 (.one (.vs (.rL .i64 a0) 0 1)) (.cons 1 (.one (.vs (.rL .i64 a1) 0 1)) .nil))) true))],1,36,1⟩
def ef55j1:Ty20→St:=fun (x1,x2)=>⟨[(0,.own 0 0 1)],[(0,(.cells 2 (.segs (.cons 1 (.one (.vs (.rL .i64 x1) 0 1)) (.cons 1 (.one (.vs (.rL .i64 x2) 0 1)) .nil))) true))],1,36,1⟩
def ef55j2:Ty112→St:=fun (t3,x2,x3)=>⟨[(0,.own 0 0 1),(3,.int .i64 t3)],[(0,(.cells 2 (.segs (.cons 1 (.one (.vs (.rL .i64 x2) 0 1)) (.cons 1 (.one (.vs (.rL .i64 x3) 0 1)) .nil))) true))],1,36,1⟩
def ef55j3:Ty113→St:=fun (t3,t10,t11,x4,x5)=>⟨[(0,.own 0 0 1),(3,.int .i64 t3),(9,.own 0 0 1),(10,.int .i64 t10),(11,.int .i64 t11)],[(0,(.cells 2 (.segs (.cons 1 (.one (.vs (.rL .i64 x4) 0 1)) (.cons 1 (.one (.vs (.rL .i64 x5) 0 1)) .nil))) true))],1,36,1⟩
def ef55l1:Ty113→St:=ef55j3
def ef55j4:Ty112→St:=ef55j2
def ef55j5:Ty114→St:=fun (x1,x2,x3)=>⟨[(0,.own 0 0 1),(6,.own 1 0 1)],[(0,(.cells 2 (.segs (.cons 1 (.one (.vs (.rL .i64 x1) 0 1)) (.cons 1 (.one (.vs (.rL .i64 x2) 0 1)) .nil))) true)),(1,(.cells x3.length (.rL .i64 x3) true))],2,36,1⟩
def ef55j6:Ty115→St:=fun (t26,t27,x3,x4,x5)=>⟨[(6,.own 1 0 1),(25,.own 0 0 1),(26,.int .i64 t26),(27,.int .i64 t27)],[(0,(.cells 2 (.segs (.cons 1 (.one (.vs (.rL .i64 x3) 0 1)) (.cons 1 (.one (.vs (.rL .i64 x4) 0 1)) .nil))) true)),(1,(.cells x5.length (.rL .i64 x5) true))],2,36,1⟩
def ef55l2:Ty115→St:=ef55j6
def ef55j7:Ty114→St:=fun (x1,x2,x3)=>⟨[(6,.own 1 0 1)],[(0,(.cells 2 (.segs (.cons 1 (.one (.vs (.rL .i64 x1) 0 1)) (.cons 1 (.one (.vs (.rL .i64 x2) 0 1)) .nil))) true)),(1,(.cells x3.length (.rL .i64 x3) true))],2,36,1⟩
def f55_1(F:Nat)(kf55j1:Ty20→Rz):Ty20→Rz:=fun (a0,a1)=>(kf55j1 (a0,a1))
theorem f55_1_eq(F:Nat)(Rf55j1:St→Rz):∀ v,XAf55 F (bp Try.f55 2) (ef55_a v) (kSeq (kc VG3855 Rf55j1 sp67) Kf49)=f55_1 F (Rf55j1∘ef55j1) v:=by
 rintro⟨a0,a1⟩;kernel_rfl
def f55_2(F:Nat)(kf55j2:Ty112→Rz):Ty20→Rz:=fun (x1,x2)=>(kf55j2 ((0:Int),x1,x2))
theorem f55_2_eq(F:Nat)(Rf55j2:St→Rz):∀ v,XAf55 F (bp Try.f55 6) (ef55j1 v) (kSeq (kc VG3855 Rf55j2 sp65) Kf49)=f55_2 F (Rf55j2∘ef55j2) v:=by
 rintro⟨x1,x2⟩;kernel_rfl
def f55_3(F:Nat)(kf55j3:Ty113→Rz)(kf55j4:Ty112→Rz):Ty112→Rz:=fun (t3,x2,x3)=>(kf55j3 (t3,(2:Int),(0:Int),x2,x3))
theorem f55_3_eq(F:Nat)(Rf55j3:St→Rz)(Rf55j4:St→Rz):∀ v,XAf55 F (bp Try.f55 28) (ef55j2 v) (kSeq (kc VG3855 Rf55j3 sp92) (kSeq (kc VG3855 Rf55j4 sp65) Kf49))=f55_3 F (Rf55j3∘ef55j3) (Rf55j4∘ef55j4) v:=by
 rintro⟨t3,x2,x3⟩;kernel_rfl
def f55_4(F:Nat)(kf55l1:Ty113→Rz)(kf55j4:Ty112→Rz):Ty113→Rz:=fun (t3,t10,t11,x4,x5)=>(cond (decide (t11 < t10)) (cond ((decide (0≤t11))&&(decide (t11 < (2:Int)))) (cond (Nat.beq (Int.toNat t11) 0) (cond (decide ((IntKind.i64.wrap (t3+(↑x4.length:Int))) < (0:Int))) none (kf55l1 ((IntKind.i64.wrap (t3+(↑x4.length:Int))),t10,(IntKind.i64.wrap (t11+(1:Int))),x4,x5))) (cond (Nat.beq (Int.toNat t11) 1) (cond (decide ((IntKind.i64.wrap (t3+(↑x5.length:Int))) < (0:Int))) none (kf55l1 ((IntKind.i64.wrap (t3+(↑x5.length:Int))),t10,(IntKind.i64.wrap (t11+(1:Int))),x4,x5))) none)) none) (kf55j4 (t3,x4,x5)))
theorem f55_4_eq(F:Nat)(Rf55l1:St→Rz)(Rf55j4:St→Rz):∀ v,XAf55 F (bp Try.f55 116) (ef55l1 v) (kSeq (kc VG3855 Rf55l1 sp92) (kBlock 0 (kSeq (kc VG3855 Rf55j4 sp65) Kf49)))=f55_4 F (Rf55l1∘ef55l1) (Rf55j4∘ef55j4) v:=by
 rintro⟨t3,t10,t11,x4,x5⟩;kernel_rfl
def f55_5_i:Ty113→Int×Int×Int×(List Li)×(List Li):=fun (t3,t10,t11,x4,x5)=>(t3,t10,t11,x4,x5)
def f55_5(F:Nat)(kf55j4:Ty112→Rz):Ty113→Rz:=fun v=>loopN (fun k=>f55_4 F k kf55j4) F (f55_5_i v)
theorem f55_5_eq(F:Nat)(Rf55j4:St→Rz):∀ v,XAf55 F (bp Try.f55 58) (ef55j3 v) (kBlock 0 (kSeq (kc VG3855 Rf55j4 sp65) Kf49))=f55_5 F (Rf55j4∘ef55j4) v:=
 loop_cut (by kernel_rfl) (by kernel_rfl) ef55j3 ef55l1 _ f55_5_i (fun k=>f55_4 F k (Rf55j4∘ef55j4))
  (by rintro⟨t3,t10,t11,x4,x5⟩;kernel_rfl) (fun Rf55l1=>f55_4_eq F Rf55l1 Rf55j4)
def f55_6(F:Nat)(kf55j4:Ty112→Rz):Ty113→Rz:=f55_5 F kf55j4
theorem f55_6_eq(F:Nat)(Rf55j4:St→Rz):∀ v,XAf55 F (bp Try.f55 29) (ef55j3 v) (kSeq (kc VG3855 Rf55j4 sp65) Kf49)=f55_6 F (Rf55j4∘ef55j4) v:=fun v=>
 (block_in  (by kernel_rfl) _ _).trans (f55_5_eq F Rf55j4 v)
def f55_7(F:Nat)(kf55j4:Ty112→Rz):Ty112→Rz:=fun v=>f55_3 F (f55_6 F kf55j4) kf55j4 v
theorem f55_7_eq(F:Nat)(Rf55j4:St→Rz):∀ v,XAf55 F (bp Try.f55 14) (ef55j2 v) (kSeq (kc VG3855 Rf55j4 sp65) Kf49)=f55_7 F (Rf55j4∘ef55j4) v:=
 seq_cut (by kernel_rfl) (by kernel_rfl) ef55j2 ef55j3 _ (fun k=>f55_3 F k (Rf55j4∘ef55j4)) (f55_6 F (Rf55j4∘ef55j4))
  (fun Rf55j3=>f55_3_eq F Rf55j3 Rf55j4) (f55_6_eq F Rf55j4)
def f55_8(F:Nat)(kf55j5:Ty114→Rz):Ty112→Rz:=fun (t3,x2,x3)=>(cond ((decide (0≤t3))&&(decide (Int.toNat t3 < 1073741000))) (kf55j5 (x2,x3,[])) none)
theorem f55_8_eq(F:Nat)(Rf55j5:St→Rz):∀ v,XAf55 F (bp Try.f55 30) (ef55j4 v) (kSeq (kc VG3855 Rf55j5 sp94) Kf49)=f55_8 F (Rf55j5∘ef55j5) v:=by
 rintro⟨t3,x2,x3⟩;kernel_rfl
def f55_9(F:Nat)(kf55j6:Ty115→Rz)(kf55j7:Ty114→Rz):Ty114→Rz:=fun (x1,x2,x3)=>(kf55j6 ((2:Int),(0:Int),x1,x2,x3))
theorem f55_9_eq(F:Nat)(Rf55j6:St→Rz)(Rf55j7:St→Rz):∀ v,XAf55 F (bp Try.f55 124) (ef55j5 v) (kSeq (kc VG3855 Rf55j6 sp93) (kSeq (kc VG3855 Rf55j7 sp95) Kf49))=f55_9 F (Rf55j6∘ef55j6) (Rf55j7∘ef55j7) v:=by
 rintro⟨x1,x2,x3⟩;kernel_rfl
def f55_10(F:Nat)(kf55l2:Ty115→Rz)(kf55j7:Ty114→Rz):Ty115→Rz:=fun (t26,t27,x3,x4,x5)=>(cond (decide (t27 < t26)) (cond ((decide (0≤t27))&&(decide (t27 < (2:Int)))) (cond (Nat.beq (Int.toNat t27) 0) (cond (decide ((x5.length+x3.length) < 1073741824)) (kf55l2 (t26,(IntKind.i64.wrap (t27+(1:Int))),x3,x4,(x5++x3))) none) (cond (Nat.beq (Int.toNat t27) 1) (cond (decide ((x5.length+x4.length) < 1073741824)) (kf55l2 (t26,(IntKind.i64.wrap (t27+(1:Int))),x3,x4,(x5++x4))) none) none)) none) (kf55j7 (x3,x4,x5)))
theorem f55_10_eq(F:Nat)(Rf55l2:St→Rz)(Rf55j7:St→Rz):∀ v,XAf55 F (bp Try.f55 500) (ef55l2 v) (kSeq (kc VG3855 Rf55l2 sp93) (kBlock 2 (kSeq (kc VG3855 Rf55j7 sp95) Kf49)))=f55_10 F (Rf55l2∘ef55l2) (Rf55j7∘ef55j7) v:=by
 rintro⟨t26,t27,x3,x4,x5⟩;kernel_rfl
def f55_11_i:Ty115→Int×Int×(List Li)×(List Li)×(List Li):=fun (t26,t27,x3,x4,x5)=>(t26,t27,x3,x4,x5)
def f55_11(F:Nat)(kf55j7:Ty114→Rz):Ty115→Rz:=fun v=>loopN (fun k=>f55_10 F k kf55j7) F (f55_11_i v)
theorem f55_11_eq(F:Nat)(Rf55j7:St→Rz):∀ v,XAf55 F (bp Try.f55 250) (ef55j6 v) (kBlock 2 (kSeq (kc VG3855 Rf55j7 sp95) Kf49))=f55_11 F (Rf55j7∘ef55j7) v:=
 loop_cut (by kernel_rfl) (by kernel_rfl) ef55j6 ef55l2 _ f55_11_i (fun k=>f55_10 F k (Rf55j7∘ef55j7))
  (by rintro⟨t26,t27,x3,x4,x5⟩;kernel_rfl) (fun Rf55l2=>f55_10_eq F Rf55l2 Rf55j7)
def f55_12(F:Nat)(kf55j7:Ty114→Rz):Ty115→Rz:=f55_11 F kf55j7
theorem f55_12_eq(F:Nat)(Rf55j7:St→Rz):∀ v,XAf55 F (bp Try.f55 125) (ef55j6 v) (kSeq (kc VG3855 Rf55j7 sp95) Kf49)=f55_12 F (Rf55j7∘ef55j7) v:=fun v=>
 (block_in  (by kernel_rfl) _ _).trans (f55_11_eq F Rf55j7 v)
def f55_13(F:Nat)(kf55j7:Ty114→Rz):Ty114→Rz:=fun v=>f55_9 F (f55_12 F kf55j7) kf55j7 v
theorem f55_13_eq(F:Nat)(Rf55j7:St→Rz):∀ v,XAf55 F (bp Try.f55 62) (ef55j5 v) (kSeq (kc VG3855 Rf55j7 sp95) Kf49)=f55_13 F (Rf55j7∘ef55j7) v:=
 seq_cut (by kernel_rfl) (by kernel_rfl) ef55j5 ef55j6 _ (fun k=>f55_9 F k (Rf55j7∘ef55j7)) (f55_12 F (Rf55j7∘ef55j7))
  (fun Rf55j6=>f55_9_eq F Rf55j6 Rf55j7) (f55_12_eq F Rf55j7)
def f55_14(F:Nat):Ty114→Rz:=fun (x1,x2,x3)=>(some ((.own 1 0 1),[(.cells 2 (.segs (.cons 1 (.one (.vs (.rL .i64 x1) 0 1)) (.cons 1 (.one (.vs (.rL .i64 x2) 0 1)) .nil))) true),(.cells x3.length (.rL .i64 x3) true)]))
theorem f55_14_eq(F:Nat):∀ v,XAf55 F (bp Try.f55 63) (ef55j7 v) Kf49=f55_14 F v:=by
 rintro⟨x1,x2,x3⟩;kernel_rfl
def f55_15(F:Nat):Ty114→Rz:=fun v=>f55_13 F (f55_14 F) v
theorem f55_15_eq(F:Nat):∀ v,XAf55 F (bp Try.f55 31) (ef55j5 v) Kf49=f55_15 F v:=
 seq_cut (by kernel_rfl) (by kernel_rfl) ef55j5 ef55j7 _ (fun k=>f55_13 F k) (f55_14 F)
  (fun Rf55j7=>f55_13_eq F Rf55j7) (f55_14_eq F)
def f55_16(F:Nat):Ty112→Rz:=fun v=>f55_8 F (f55_15 F) v
theorem f55_16_eq(F:Nat):∀ v,XAf55 F (bp Try.f55 15) (ef55j4 v) Kf49=f55_16 F v:=
 seq_cut (by kernel_rfl) (by kernel_rfl) ef55j4 ef55j5 _ (fun k=>f55_8 F k) (f55_15 F)
  (fun Rf55j5=>f55_8_eq F Rf55j5) (f55_15_eq F)
def f55_17(F:Nat):Ty112→Rz:=fun v=>f55_7 F (f55_16 F) v
theorem f55_17_eq(F:Nat):∀ v,XAf55 F (bp Try.f55 7) (ef55j2 v) Kf49=f55_17 F v:=
 seq_cut (by kernel_rfl) (by kernel_rfl) ef55j2 ef55j4 _ (fun k=>f55_7 F k) (f55_16 F)
  (fun Rf55j4=>f55_7_eq F Rf55j4) (f55_16_eq F)
def f55_18(F:Nat):Ty20→Rz:=fun v=>f55_2 F (f55_17 F) v
theorem f55_18_eq(F:Nat):∀ v,XAf55 F (bp Try.f55 3) (ef55j1 v) Kf49=f55_18 F v:=
 seq_cut (by kernel_rfl) (by kernel_rfl) ef55j1 ef55j2 _ (fun k=>f55_2 F k) (f55_17 F)
  (fun Rf55j2=>f55_2_eq F Rf55j2) (f55_17_eq F)
def f55_19(F:Nat):Ty20→Rz:=fun v=>f55_1 F (f55_18 F) v
theorem f55_19_eq(F:Nat):∀ v,XAf55 F (sub (bodyOf Try.f55) []) (ef55_a v) Kf49=f55_19 F v:=
 seq_cut (by kernel_rfl) (by kernel_rfl) ef55_a ef55j1 _ (fun k=>f55_1 F k) (f55_18 F)
  (fun Rf55j1=>f55_1_eq F Rf55j1) (f55_18_eq F)
def f55(F:Nat):Ty20→Rz:=f55_19 F
theorem f55_body(F:Nat)(a0:List Li)(a1:List Li):abody VG3855 (Af55 F) Try.f55 [(.own 0 0 1)] [(.cells 2 (.segs (.cons 1 (.one (.vs (.rL .i64 a0) 0 1)) (.cons 1 (.one (.vs (.rL .i64 a1) 0 1)) .nil))) true)]=f55 F (a0,a1):=
 (abody_in (c:=(sub (bodyOf Try.f55) [])) (by kernel_rfl) (s:=ef55_a (a0,a1)) (by kernel_rfl)).trans (f55_19_eq F (a0,a1))
def r55:CRun:=fun X H=>match X,H with
 | [(.own 0 0 1)],[(.cells 2 (.segs (.cons 1 (.one (.vs (.rL .i64 a0) 0 1)) (.cons 1 (.one (.vs (.rL .i64 a1) 0 1)) .nil))) true)]=>some ((decide (a0.length+a1.length < 1073741000)),.own 1 0 1,[(.cells 2 (.segs (.cons 1 (.one (.vs (.rL .i64 a0) 0 1)) (.cons 1 (.one (.vs (.rL .i64 a1) 0 1)) .nil))) true),(.cells (a0++a1).length (.rL .i64 (a0++a1)) true)])
 | _,_=>none
theorem s55(a0:List Li)(a1:List Li)(hp:((decide (a0.length+a1.length < 1073741000)))=true)(k0:okB (.cells 2 (.segs (.cons 1 (.one (.vs (.rL .i64 a0) 0 1)) (.cons 1 (.one (.vs (.rL .i64 a1) 0 1)) .nil))) true)):∃ F,f55 F (a0,a1)=some ((.own 1 0 1),[(.cells 2 (.segs (.cons 1 (.one (.vs (.rL .i64 a0) 0 1)) (.cons 1 (.one (.vs (.rL .i64 a1) 0 1)) .nil))) true),(.cells (a0++a1).length (.rL .i64 (a0++a1)) true)]):=by
 simp only [decide_eq_true_eq] at hp
 obtain⟨F,hF⟩:∃ F,F=10:=⟨_,rfl⟩
 refine⟨F,?_⟩
 simp only [f55_1,f55_2,f55_3,f55_5_i,f55_5,f55_6,f55_7,f55_8,f55_9,f55_10,f55_11_i,f55_11,f55_12,f55_13,f55_14,f55_15,f55_16,f55_17,f55_18,f55_19,f55]
 have w0:IntKind.i64.wrap (0+(a0.length:Int))=(a0.length:Int):=by rw [Int.zero_add];exact i64w (by omega) (by omega)
 have w1:IntKind.i64.wrap ((a0.length:Int)+(a1.length:Int))=((a0.length+a1.length:Nat):Int):=by rw [i64w (by omega) (by omega)];omega
 refine loopN_from (fun i=>((match i with | 0=>0 | 1=>(a0.length:Int) | _=>((a0.length+a1.length:Nat):Int)),2,(i:Int),a0,a1)) 2 (by rfl) (fun i hi k=>?_) (fun k=>?_) _ (by omega)
 ·simp only [f55_4,dec_and,Int.toNat_natCast]
  rw [cond_pos (by omega),cond_pos (by omega),i64w (x:=(i:Int)+1) (by omega) (by omega)]
  match i,hi with
  | 0,_=>
   simp only [w0]
   show cond true (cond (decide ((a0.length:Int) < 0)) none _) _=_
   rw [cond_true,cond_neg (by omega)];rfl
  | 1,_=>
   simp only [w1]
   show cond false _ (cond true (cond (decide (((a0.length+a1.length:Nat):Int) < 0)) none _) _)=_
   rw [cond_false,cond_true,cond_neg (by omega)];rfl
 ·simp only [f55_4,f55_1,f55_2,f55_3,f55_5_i,f55_5,f55_6,f55_7,f55_8,f55_9,f55_10,f55_11_i,f55_11,f55_12,f55_13,f55_14,f55_15,f55_16,f55_17,f55_18,f55_19,f55,dec_and,Int.toNat_natCast]
  rw [cond_neg (by omega),cond_pos (by omega)]
  refine loopN_from (fun i=>(2,(i:Int),a0,a1,(match i with | 0=>[] | 1=>a0 | _=>a0++a1))) 2 (by rfl) (fun i hi k=>?_) (fun k=>?_) _ (by omega)
  ·simp only [f55_10,dec_and,Int.toNat_natCast]
   rw [cond_pos (by omega),cond_pos (by omega),i64w (by omega) (by omega)]
   match i,hi with
   | 0,_=>
    show cond true (cond (decide (0+a0.length < 1073741824)) (k (2,((0:Nat):Int)+1,a0,a1,[]++a0)) none) _=_
    rw [cond_true,cond_pos (by omega)];rfl
   | 1,_=>
    show cond false _ (cond true (cond (decide (a0.length+a1.length < 1073741824)) (k (2,((1:Nat):Int)+1,a0,a1,a0++a1)) none) _)=_
    rw [cond_false,cond_true,cond_pos (by omega)];rfl
  ·simp only [f55_10,f55_14]
   rw [cond_neg (by omega)]
theorem c55:CallOk Try.prog G38 55 r55:=callOk_of (V:=VG3855) mixed tys eVG3855 (f:=55) (fn:=Try.f55) Try.func55 (by kernel_rfl) (c:=sub (bodyOf Try.f55) []) (by kernel_rfl) (by
 intro X H r H' h hX hH
 unfold r55 at h;split at h <;> try contradiction
 ·simp only [Option.some.injEq,Prod.mk.injEq] at h
  obtain⟨hp,rfl,rfl⟩:=h
  obtain⟨F,hF⟩:=s55 _ _ hp (hH _ (.head _))
  exact⟨Af55 F,(f55_body F _ _).trans hF⟩)
end Go.Am
end
section
namespace Go.Am
open Go Go.Proofs
def lVG3834:List CEnt:=[(52,[some 3,some 22],r52),(53,[some 3],r53),(54,[some 22],r54),(55,[none],r55)]
def VG3834:Env:=mkEnv T38 G38 lVG3834
noncomputable abbrev Kf50:=kFin VG3834 (some [(4,.own 22)]) (Try.f34).results.toList
theorem eVG3834:EOk Try.prog VG3834:=eok_mk (by exact⟨c52,c53,c54,c55,trivial⟩)
def Af34(F:Nat):Cuts:={ F:=F,at_:=fun _=>none,join:=fun _=>none,fin:=(some [(4,.own 22)]) }
def ef34_a:Ty20→St:=fun (a0,a1)=>⟨[(0,(.vs (.rL .i64 a0) 0 1)),(1,(.vs (.rL .i64 a1) 0 1))],[],0,13,0⟩
def f34_1(F:Nat):Ty20→Rz:=fun (a0,a1)=>(cond (decide (a0.flatten.length < 1073740000)) (cond (decide (a0.flatten.length < 1073740000)) (cond (decide (a0.length+a1.length < 1073741000)) (cond ((decide ((Isl.set a0.flatten).length < 1073740000))&&(Isl.inc (Isl.set a0.flatten))) (some ((.own 0 0 1),[(.cells (Isl.clss (Isl.set a0.flatten) (a0++a1)).length (.rL .i64 (Isl.clss (Isl.set a0.flatten) (a0++a1))) true)])) none) none) none) none)
theorem f34_1_eq(F:Nat):∀ v,aexec VG3834 (Af34 F) (sub (bodyOf Try.f34) []) (ef34_a v) Kf50=f34_1 F v:=by
 rintro⟨a0,a1⟩;kernel_rfl
def f34(F:Nat):Ty20→Rz:=f34_1 F
theorem f34_body(F:Nat)(a0:List Li)(a1:List Li):abody VG3834 (Af34 F) Try.f34 [(.vs (.rL .i64 a0) 0 1),(.vs (.rL .i64 a1) 0 1)] []=f34 F (a0,a1):=
 (abody_in (c:=(sub (bodyOf Try.f34) [])) (by kernel_rfl) (s:=ef34_a (a0,a1)) (by kernel_rfl)).trans (f34_1_eq F (a0,a1))
def r34:CRun:=fun X H=>match X,H with
 | [(.vs (.rL .i64 a0) 0 1),(.vs (.rL .i64 a1) 0 1)],[]=>some (((decide (a0.flatten.length < 1073740000))&&(decide (a0.length+a1.length < 1073741000))),.own 0 0 1,[(.cells (Isl.merge a0 a1).length (.rL .i64 (Isl.merge a0 a1)) true)])
 | _,_=>none
theorem s34(a0:List Li)(a1:List Li)(hp:(((decide (a0.flatten.length < 1073740000))&&(decide (a0.length+a1.length < 1073741000))))=true)(h0:okV (.vs (.rL .i64 a0) 0 1))(h1:okV (.vs (.rL .i64 a1) 0 1)):∃ F,f34 F (a0,a1)=some ((.own 0 0 1),[(.cells (Isl.merge a0 a1).length (.rL .i64 (Isl.merge a0 a1)) true)]):=by
 simp only [Bool.and_eq_true,decide_eq_true_eq] at hp
 refine⟨0,?_⟩
 have:=Isl.set_len a0.flatten
 simp only [f34,f34_1,Isl.merge]
 rw [cond_pos (by omega),cond_pos (by omega),cond_pos (by omega),Isl.inc_iff.2 (Isl.set_lt _),decide_eq_true (by omega)]
 rfl
theorem c34:CallOk Try.prog G38 34 r34:=callOk_of (V:=VG3834) mixed tys eVG3834 (f:=34) (fn:=Try.f34) Try.func34 (by kernel_rfl) (c:=sub (bodyOf Try.f34) []) (by kernel_rfl) (by
 intro X H r H' h hX hH
 unfold r34 at h;split at h <;> try contradiction
 ·simp only [Option.some.injEq,Prod.mk.injEq] at h
  obtain⟨hp,rfl,rfl⟩:=h
  obtain⟨F,hF⟩:=s34 _ _ hp (hX _ (.head _)) (hX _ (.tail _ (.head _)))
  exact⟨Af34 F,(f34_body F _ _).trans hF⟩)
end Go.Am
end
section
/- Package island: laws of classes. -/
namespace Go.Am.Isl
open Go Go.Am
variable {s : List Int} {links : List (List Int)}
theorem clss_bound(hs:Lt s)(links:List (List Int)):(clss s links).length≤s.length ∧ ∀ g∈clss s links,g.length≤s.length:=by
 rw [clss_eq hs]
 refine⟨?_,fun g hg=>?_⟩
 ·rw [List.length_map];exact List.length_filter_le _ _
 ·obtain⟨x,_,rfl⟩:=List.mem_map.1 hg
  exact List.length_filter_le _ _
theorem getD_len{l:List (List Int)}{k:Nat}(hb:∀ g∈l,g.length≤k)(i:Nat):(l.getD i []).length≤k:=by
 rw [List.getD_eq_getElem?_getD]
 cases h:l[i]? with
 | none=>simp
 | some x=>exact hb x (List.mem_of_getElem? h)
variable {x y z r : Int}
theorem mem_part:y∈part s links x↔y∈s∧Conn s links x y:=by
 unfold part;rw [List.mem_filter];simp only [decide_eq_true_eq]
open Classical in
theorem isRep_iff:isRep s links r=true ↔ ∀ y∈s,y < r→¬ Conn s links y r:=by
 unfold isRep;rw [decide_eq_true_eq]
theorem part_lt(hs:Lt s):Lt (part s links x):=hs.filter _
theorem mem_clss(hs:Lt s){g:List Int}:g∈clss s links ↔ ∃ r∈s,isRep s links r=true∧g=part s links r:=by
 rw [clss_eq hs,List.mem_map]
 constructor
 ·rintro⟨r,h,rfl⟩
  obtain⟨h1,h2⟩:=List.mem_filter.1 h
  exact⟨r,h1,h2,rfl⟩
 ·rintro⟨r,h1,h2,rfl⟩
  exact⟨r,List.mem_filter.2 ⟨h1,h2⟩,rfl⟩
theorem conn_part(hx:x∈part s links r)(hc:Conn s links x y):Conn (part s links r) links x y:=by
 induction hc with
 | refl=>exact .refl
 | step y z l h hl hy hz hs ih=>exact .step y z l ih hl hy hz (mem_part.2 ⟨hs,(mem_part.1 hx).2.trans (.step y z l h hl hy hz hs)⟩)
theorem part_conn(hr:r∈s):∀ x∈part s links r,∀ y∈part s links r,Conn (part s links r) links x y:=fun x hx y hy=>
 conn_part hx (((mem_part.1 hx).2.symm hr).trans (mem_part.1 hy).2)
theorem part_ne(hr:r∈s):part s links r≠[]:=fun e=>by
 have:r∈part s links r:=mem_part.2 ⟨hr,.refl⟩
 rw [e] at this;simp at this
theorem getD_mem'{l:List (List Int)}{i:Nat}(h:i < l.length):l.getD i []∈l:=by
 rw [List.getD_eq_getElem?_getD,List.getElem?_eq_getElem h];exact List.getElem_mem h
theorem rep_unique{q:Int}(hr:r∈s)(hq:q∈s)(h1:isRep s links r=true)(h2:isRep s links q=true)(hc:Conn s links r q):r=q:=by
 rcases Int.lt_trichotomy r q with h | h | h
 ·exact absurd hc (isRep_iff.1 h2 r hr h)
 ·exact h
 ·exact absurd (hc.symm hr) (isRep_iff.1 h1 q hq h)
theorem clss_at(hs:Lt s){i:Nat}(hi:i < (clss s links).length):∃ r∈s,isRep s links r=true∧(clss s links).getD i []=part s links r∧(s.filter (isRep s links)).getD i 0=r∧i < (s.filter (isRep s links)).length:=by
 have e:=clss_eq hs links
 have hl:i < (s.filter (isRep s links)).length:=by rw [e,List.length_map] at hi;exact hi
 have hm:=getD_mem hl
 obtain⟨h1,h2⟩:=List.mem_filter.1 hm
 refine⟨_,h1,h2,?_,rfl,hl⟩
 rw [e,List.getD_eq_getElem?_getD,List.getElem?_map,List.getD_eq_getElem?_getD,List.getElem?_eq_getElem hl]
 rfl
theorem clss_disj(hs:Lt s){i j:Nat}(hi:i < (clss s links).length)(hj:j < (clss s links).length)(h1:x∈(clss s links).getD i [])(h2:x∈(clss s links).getD j []):i=j:=by
 obtain⟨r,a1,a2,a3,a4,a5⟩:=clss_at hs hi
 obtain⟨q,b1,b2,b3,b4,b5⟩:=clss_at hs hj
 rw [a3] at h1;rw [b3] at h2
 have e:=rep_unique a1 b1 a2 b2 ((mem_part.1 h1).2.trans ((mem_part.1 h2).2.symm b1))
 have hl:Lt (s.filter (isRep s links)):=hs.filter _
 rcases Nat.lt_trichotomy i j with h | h | h
 ·have:=hl.get h b5;omega
 ·exact h
 ·have:=hl.get h a5;omega
theorem clss_nodup(hs:Lt s):(clss s links).flatten.Nodup:=by
 refine List.pairwise_flatten.2 ?_
 refine⟨fun g hg=>?_,?_⟩
 ·obtain⟨r,h1,_,rfl⟩:=(mem_clss hs).1 hg
  exact(part_lt hs).nodup
 ·rw [List.pairwise_iff_getElem]
  intro i j hi hj hij x h1 x' h2 e
  subst e
  have eg:∀ (j:Nat) (h:j < (clss s links).length),(clss s links).getD j []=(clss s links)[j]:=fun j h=>by rw [List.getD_eq_getElem?_getD,List.getElem?_eq_getElem h];rfl
  rw [← eg i hi] at h1;rw [← eg j hj] at h2
  have:=clss_disj hs hi hj h1 h2
  omega
theorem group_ok(hs:Lt s){g:List Int}(hg:g∈clss s links):Lt g∧0 < g.length∧(∀ x∈g,x∈s)∧(∀ x∈g,∀ y∈g,Conn s links x y) ∧ ∀ x∈g,∀ y∈g,Conn g links x y:=by
 obtain⟨r,h1,_,rfl⟩:=(mem_clss hs).1 hg
 exact⟨part_lt hs,List.length_pos_iff.2 (part_ne h1),fun x hx=>(mem_part.1 hx).1,fun x hx y hy=>((mem_part.1 hx).2.symm h1).trans (mem_part.1 hy).2,part_conn h1⟩
end Go.Am.Isl
end
section
/- Groups that have merged, and who owns them. -/
namespace Go.Am.Isl
open Go Go.Am
variable {links : List (List Int)}
theorem gr_range(l:List Int)(n many:Nat):∀ x∈(Reg.groups l n many).flatten,0≤x∧x < (n:Int):=fun x hx=>by
 obtain⟨g,hg,hxg⟩:=List.mem_flatten.1 hx
 obtain⟨_,_,q,_,rfl⟩:=Reg.groups_mem hg
 exact(Reg.cls_mem hxg).1
theorem gr_flat(l:List Int)(n many:Nat):(Reg.groups l n many).flatten.length≤n:=by
 have:=nodup_len (Reg.groups_disj l n many) (m:=nums n) fun x hx=>mem_nums.2 (gr_range l n many x hx)
 rw [nums_len] at this
 exact this
structure Merged (M:List (List Int)) (n:Nat):Prop where
 rng:∀ g∈M,∀ x∈g,0≤x∧x < (n:Int)
 pos:∀ g∈M,0 < g.length
 len:∀ g∈M,g.length≤n
 many:M.length≤n
 val:∃ m,Reg.vgs n M (List.replicate n false)=Option.some m
theorem merged_ok(l:List Int)(n many:Nat)(more:List (List Int)):Merged (merge (Reg.groups l n many) more) n:=by
 have hs:=set_lt (Reg.groups l n many).flatten
 have hr:∀ x∈set (Reg.groups l n many).flatten,0≤x∧x < (n:Int):=fun x hx=>gr_range l n many x (mem_set.1 hx)
 have hsl:(set (Reg.groups l n many).flatten).length≤n:=Nat.le_trans (set_len _) (gr_flat l n many)
 have hb:=clss_bound hs (Reg.groups l n many++more)
 have rng:∀ g∈merge (Reg.groups l n many) more,∀ x∈g,0≤x∧x < (n:Int):=fun g hg x hx=>hr x ((group_ok hs hg).2.2.1 x hx)
 have pos:∀ g∈merge (Reg.groups l n many) more,0 < g.length:=fun g hg=>(group_ok hs hg).2.1
 refine⟨rng,pos,fun g hg=>Nat.le_trans (hb.2 g hg) hsl,Nat.le_trans hb.1 hsl,Reg.vgs_some (by simp) (fun d hd=>?_) (clss_nodup hs) pos⟩
 obtain⟨g,hg,hdg⟩:=List.mem_flatten.1 hd
 have:=rng g hg d hdg
 refine⟨this,?_⟩
 rw [List.getD_eq_getElem?_getD,List.getElem?_replicate]
 split <;> rfl
theorem has_pos{g o:List Int}{c:Int}:0 < Reg.has g o c ↔ ∃ d∈g,o.getD d.toNat 0=c:=by
 unfold Reg.has
 rw [show(0 < ((g.filter fun d=>decide (o.getD d.toNat 0=c)).length:Int))↔0 < (g.filter fun d=>decide (o.getD d.toNat 0=c)).length by omega,List.length_pos_iff_exists_mem]
 constructor
 ·rintro⟨d,hd⟩
  obtain⟨h1,h2⟩:=List.mem_filter.1 hd
  exact⟨d,h1,of_decide_eq_true h2⟩
 ·rintro⟨d,h1,h2⟩
  exact⟨d,List.mem_filter.2 ⟨h1,decide_eq_true h2⟩⟩
theorem mem_owned{g o:List Int}{c:Int}:c∈Reg.owned g o ↔ ∃ d∈g,(0≤d∧d < (o.length:Int))∧0≤o.getD d.toNat 0∧o.getD d.toNat 0=c:=by
 unfold Reg.owned
 rw [List.mem_map]
 constructor
 ·rintro⟨d,hd,rfl⟩
  obtain⟨h1,h2⟩:=List.mem_filter.1 hd
  simp only [Bool.and_eq_true,decide_eq_true_eq] at h2
  exact⟨d,h1,⟨h2.1,h2.2.1⟩,h2.2.2,rfl⟩
 ·rintro⟨d,h1,⟨h2,h3⟩,h4,rfl⟩
  refine⟨d,List.mem_filter.2 ⟨h1,?_⟩,rfl⟩
  simp only [Bool.and_eq_true,decide_eq_true_eq]
  exact⟨h2,h3,h4⟩
theorem need_lt{g o:List Int}{h:Int}(ho:∀ v∈o,v < h):∀ c∈Reg.need g o,0≤c∧c < h:=fun c hc=>by
 obtain⟨d,h1,⟨h2,h3⟩,h4,rfl⟩:=mem_owned.1 (Reg.mem_need.1 hc)
 refine⟨h4,ho _ ?_⟩
 exact getD_mem (by omega)
theorem owner_needs{g o:List Int}{u:List Bool}(hr:∀ d∈g,0≤d∧d < (o.length:Int))(hb:0≤Reg.best g o u){c:Int}(hc:c∈Reg.need g o)(hcu:c < (u.length:Int))(hu:u.getD c.toNat false=true):Reg.best g o u∈Reg.need g o:=by
 obtain⟨d,h1,⟨h2,h3⟩,h4,rfl⟩:=mem_owned.1 (Reg.mem_need.1 hc)
 have hm:=Reg.best_max g o u (o.getD d.toNat 0).toNat (by omega) hu
 have hp:=(has_pos (g:=g) (o:=o) (c:=o.getD d.toNat 0)).2 ⟨d,h1,rfl⟩
 rw [Int.toNat_of_nonneg h4] at hm
 obtain⟨e,he,hv⟩:=has_pos.1 (show 0 < Reg.has g o (Reg.best g o u) by omega)
 refine Reg.mem_need.2 (mem_owned.2 ⟨e,he,hr e he,by omega,hv⟩)
end Go.Am.Isl
end