/- Part of a proof. -/
import Derived.Test.YtffddoahjpemaaaGreatDoorAm36ZF
import Derived.Test.YtffddoahjpemaaaGreatDoorAmJrn11
import Derived.Test.YtffddoahjpemaaaGreatDoorAm36ZH
set_option linter.unusedSimpArgs false
set_option linter.unusedVariables false
section
namespace Go.Am
open Go Go.Proofs
abbrev a9r:List (Nat×Md):=[(0,.plain),(3,.own 2),(4,.plain)]
abbrev aGe:List (Nat×Md):=[(0,.plain),(1,.plain),(6,.plain),(7,.plain),(8,.plain),(10,.plain)]
abbrev aGf:List (Nat×Md):=[(0,.plain),(1,.plain),(6,.plain),(7,.plain),(8,.plain),(13,.plain),(14,.plain)]
abbrev a9s:List (Nat×Md):=[(0,.plain),(1,.plain),(6,.plain)]
abbrev a9t:List (Nat×Md):=[(0,.plain),(1,.plain),(6,.plain),(7,.plain)]
abbrev P8:List (Nat×Md):=[(0,.plain),(1,.plain),(6,.plain),(7,.plain),(8,.plain)]
abbrev a9u:List (Nat×Md):=[(0,.plain),(1,.plain),(6,.plain),(7,.plain),(8,.plain),(12,.plain)]
abbrev a9v:List (Nat×Md):=[(0,.plain),(1,.plain),(6,.plain),(7,.plain),(8,.plain),(13,.plain)]
abbrev aoW:List (Nat×Md):=[(0,.plain),(1,.plain),(6,.plain),(13,.plain)]
abbrev aoX:=Li×(List Li)×Li×Int×Int×Bool×(List (List Li))×Bool×Int
abbrev aWb:=Int×Li×(Dk.R)×(Jr.J)
abbrev EL:=Li×(Dk.R)×(Jr.J)
abbrev aWc:=Li×(List Li)×Li×Int×Int×Bool×(List (List Li))×Bool×Int×Li
abbrev aWd:=Li×Int×(Dk.R)×(Jr.J)
abbrev aWe:=Li×Int×Int×(Dk.R)×(Jr.J)
abbrev EM:=Li×Int×Int×(List Li)×(Dk.R)×(Jr.J)
abbrev YY:=Li×Int×Int×(List Li)×Int×(Dk.R)×(Jr.J)
abbrev aWf:=Li×Int×Int×(List Li)×Bool×(Dk.R)×(Jr.J)
abbrev ajA:=Li×Int×Int×(List Li)×Bool×Int×(Dk.R)×(Jr.J)
abbrev axP:=Li×Int×Bool×(Dk.R)×(Jr.J)
def beI:List hI:=[]
def V56:Env:=dL fP dM beI
noncomputable abbrev afR:=ij V56 none (Tryz.f56).results.toList
theorem beJ:EOk Tryz.prog V56:=bL (by exact trivial)
def beK(F:Nat):Cuts:={ F:=F,at_:=fun n=>match n with | 2016=>some xe | _=>none,join:=fun n=>match n with | 1024=>some q8 | 2018=>some xe | 6003=>some [] | _=>none }
abbrev afS(F n:Nat){σ:Type}(e:σ→St)(K:Ex→St→Rz)(N:σ→Rz):=Qe V56 (beK F) (bp Tryz.f56 n) e K N
def aMN:Li→St:=fun a=>hS [(0,.str a)] [] 14 0
def amq:Li→St:=fun a=>hS [(0,.str a)] [] 14 0
def amr:Li×Int→St:=fun (a,b)=>hS [(0,.str a),iS 3 b] [] 14 0
def aMO:Li×Int→St:=amr
def Vz:Unit→St:=fun _=>hS [] [] 14 0
def arZ(F:Nat)(a:Li→Rz):Li→Rz:=fun b=>(a b)
theorem aWg F Rj1:afS F 2 aMN (kq V56 Rj1 q8 afR) (arZ F (Rj1∘amq)):=fun _=>by kernel_rfl
def ar0(F:Nat)(a:Li×Int→Rz)(c:Unit→Rz):Li→Rz:=fun b=>(a (b,(0:Int)))
theorem aWh F Rj2 Rj3:afS F 12 amq (kq V56 Rj2 xe (kq V56 Rj3 [] afR)) (ar0 F (Rj2∘amr) (Rj3∘Vz)):=fun _=>by kernel_rfl
def ar1(F:Nat)(c:Li×Int→Rz)(d:Unit→Rz):Li×Int→Rz:=fun (b,a)=>(cond (decide (a < (↑b.length:Int))) (cond ((decide (0≤a))&&(decide (a < (↑b.length:Int)))) (cond ((b.getD (Int.toNat a) 0) != (0:Int)) (some ((.bool false),[])) (c (b,(IntKind.i64.wrap (a+(1:Int)))))) none) (d ()))
theorem aWi F Rl1 Rj3:afS F 52 aMO (kq V56 Rl1 xe (aV 0 (kq V56 Rj3 [] afR))) (ar1 F (Rl1∘aMO) (Rj3∘Vz)):=fun _=>by kernel_rfl
def aoY:Li×Int→Li×Int:=fun (a,b)=>(a,b)
def aGg(F:Nat)(a:Unit→Rz):Li×Int→Rz:=fun v=>eT (fun k=>ar1 F k a) F (aoY v)
theorem aWj F Rj3:afS F 26 amr (aV 0 (kq V56 Rj3 [] afR)) (aGg F (Rj3∘Vz)):=lpC aoY (fun k=>ar1 F k (Rj3∘Vz)) (fun Rl1=>aWi F Rl1 Rj3)
def aGh(F:Nat)(a):=aGg F a
theorem aWk F Rj3:afS F 13 amr (kq V56 Rj3 [] afR) (aGh F (Rj3∘Vz)):=biC (aWj F Rj3)
def ar2(F:Nat)(a):=ar0 F (aGh F a) a
theorem aWl F Rj3:afS F 6 amq (kq V56 Rj3 [] afR) (ar2 F (Rj3∘Vz)):=sqC (fun k=>ar0 F k (Rj3∘Vz)) (fun Rj2=>aWh F Rj2 Rj3) (aWk F Rj3)
def aGi(F:Nat):Unit→Rz:=fun _=>(some ((.bool true),[]))
theorem aWm F:afS F 7 Vz afR (aGi F):=fun _=>by kernel_rfl
def aGj(F:Nat):=ar2 F (aGi F)
theorem aWn F:afS F 3 amq afR (aGj F):=sqC (ar2 F) (fun Rj3=>aWl F Rj3) (aWm F)
def aGk(F:Nat):=arZ F (aGj F)
theorem aWo F:afS F 1 aMN afR (aGk F):=sqC (arZ F) (fun Rj1=>aWg F Rj1) (aWn F)
def f56(F:Nat):Li→Rz:=aGk F
def r56:eP:=fun X H=>match X,H with
 | [(.str a0)],[]=>some (true,(.bool (Jr.blank a0)),[])
 | _,_=>none
theorem s56(a0:Li)(h0:okV (.str a0)):∃ F,f56 F a0=some ((.bool (Jr.blank a0)),[]):=by
 have hl:a0.length < 4611686018427387904:=h0.1
 refine⟨a0.length+1,?_⟩
 simp only [f56,aGk,arZ,aGj,ar2,ar0,aGh,aGg,aoY]
 refine pv (fun m s=>∃ k:Nat,s=(a0,(k:Int))∧m=a0.length-k∧k≤a0.length∧(a0.take k).all (· == 0)=true) (fun m s K hi hk=>?_) (a0.length+1) a0.length _ (by omega) ⟨0,rfl,by omega,by omega,rfl⟩
 obtain⟨k,rfl,hm,hle,hb⟩:=hi
 simp only [ar1,Int.toNat_natCast,cH]
 by_cases hlt:k < a0.length
 ·rw [aK (by omega),aK (by omega),bM (by omega) (by omega)]
  have hs:=Jr.blank_take hlt hb
  cases h:(a0.getD k 0==0) with
  | true=>
   rw [h] at hs
   rw [show(a0.getD k 0 != 0)=false by rw [bne,h];rfl,cond_false]
   exact hk (m-1) _ (by omega) ⟨k+1,rfl,by omega,by omega,hs⟩
  | false=>
   rw [show(a0.getD k 0 != 0)=true by rw [bne,h];rfl,cond_true]
   have:Jr.blank a0=false:=by
    rw [Jr.blank,← List.take_append_drop (k+1) a0,List.all_append,hs,h];rfl
   rw [this]
 ·rw [ba (by omega)]
  rw [show k=a0.length by omega,List.take_length] at hb
  simp only [aGi,Jr.blank,hb]
theorem c56:Ck 56 r56:=ck beJ Tryz.func56 (by
 intro X H r H' h hX hH
 unfold r56 at h;split at h <;> try contradiction
 ·obtain⟨hp,rfl,rfl⟩:=ik h
  obtain⟨F,hF⟩:=s56 _ (hX _ hm0)
  exact⟨_,abC (aWo F) hF⟩)
def beL:List hI:=[]
def V58:Env:=dL fP dM beL
noncomputable abbrev afT:=ij V58 none (Tryz.f58).results.toList
theorem beM:EOk Tryz.prog V58:=bL (by exact trivial)
def beN(F:Nat):Cuts:={ F:=F,at_:=fun n=>match n with | 2016=>some VO | _=>none,join:=fun n=>match n with | 1024=>some uY | 2018=>some VO | 6003=>some [] | _=>none }
abbrev afU(F n:Nat){σ:Type}(e:σ→St)(K:Ex→St→Rz)(N:σ→Rz):=Qe V58 (beN F) (bp Tryz.f58 n) e K N
def aMP:Li×Int→St:=fun (a,b)=>hS [lS 0 a,iS 1 b] [] 18 0
def ams:Li×Int→St:=fun (a,b)=>hS [lS 0 a,iS 1 b] [] 18 0
def amt:Li×Int×Int→St:=fun (a,b,c)=>hS [lS 0 a,iS 1 b,iS 5 c] [] 18 0
def aMQ:Li×Int×Int→St:=amt
def VA:Unit→St:=fun _=>hS [] [] 18 0
def ar4(F:Nat)(a:Li×Int→Rz):Li×Int→Rz:=fun (b,c)=>(a (b,c))
theorem aWp F Rj1:afU F 2 aMP (kq V58 Rj1 uY afT) (ar4 F (Rj1∘ams)):=fun _=>by kernel_rfl
def ar5(F:Nat)(a:Li×Int×Int→Rz)(d:Unit→Rz):Li×Int→Rz:=fun (b,c)=>(a (b,c,(0:Int)))
theorem aWq F Rj2 Rj3:afU F 12 ams (kq V58 Rj2 VO (kq V58 Rj3 [] afT)) (ar5 F (Rj2∘amt) (Rj3∘VA)):=fun _=>by kernel_rfl
def ar6(F:Nat)(d:Li×Int×Int→Rz)(e:Unit→Rz):Li×Int×Int→Rz:=fun (b,c,a)=>(cond (decide (a < (↑b.length:Int))) (cond ((decide (0≤a))&&(decide (a < (↑b.length:Int)))) (cond ((b.getD (Int.toNat a) 0)==c) (some ((.bool true),[])) (d (b,c,(IntKind.i64.wrap (a+(1:Int)))))) none) (e ()))
theorem aWr F Rl1 Rj3:afU F 52 aMQ (kq V58 Rl1 VO (aV 0 (kq V58 Rj3 [] afT))) (ar6 F (Rl1∘aMQ) (Rj3∘VA)):=fun _=>by kernel_rfl
def aoZ:Li×Int×Int→Li×Int×Int:=fun (a,b,c)=>(a,b,c)
def aGl(F:Nat)(a:Unit→Rz):Li×Int×Int→Rz:=fun v=>eT (fun k=>ar6 F k a) F (aoZ v)
theorem aWs F Rj3:afU F 26 amt (aV 0 (kq V58 Rj3 [] afT)) (aGl F (Rj3∘VA)):=lpC aoZ (fun k=>ar6 F k (Rj3∘VA)) (fun Rl1=>aWr F Rl1 Rj3)
def aGm(F:Nat)(a):=aGl F a
theorem aWt F Rj3:afU F 13 amt (kq V58 Rj3 [] afT) (aGm F (Rj3∘VA)):=biC (aWs F Rj3)
def ar7(F:Nat)(a):=ar5 F (aGm F a) a
theorem aWu F Rj3:afU F 6 ams (kq V58 Rj3 [] afT) (ar7 F (Rj3∘VA)):=sqC (fun k=>ar5 F k (Rj3∘VA)) (fun Rj2=>aWq F Rj2 Rj3) (aWt F Rj3)
def aY0(F:Nat):Unit→Rz:=fun _=>(some ((.bool false),[]))
theorem aWv F:afU F 7 VA afT (aY0 F):=fun _=>by kernel_rfl
def aGn(F:Nat):=ar7 F (aY0 F)
theorem aWw F:afU F 3 ams afT (aGn F):=sqC (ar7 F) (fun Rj3=>aWu F Rj3) (aWv F)
def aGo(F:Nat):=ar4 F (aGn F)
theorem aWx F:afU F 1 aMP afT (aGo F):=sqC (ar4 F) (fun Rj1=>aWp F Rj1) (aWw F)
def f58(F:Nat):Li×Int→Rz:=aGo F
def r58:eP:=fun X H=>match X,H with
 | [(.vs (.rI .i64 a0) 0 1),.int .i64 a1],[]=>some (true,(.bool (a0.contains a1)),[])
 | _,_=>none
theorem s58(a0:Li)(a1:Int)(h0:okV (.vs (.rI .i64 a0) 0 1))(h1:okV (.int .i64 a1)):∃ F,f58 F (a0,a1)=some ((.bool (a0.contains a1)),[]):=by
 have hl:a0.length < 4611686018427387904:=h0.2
 refine⟨a0.length+1,?_⟩
 simp only [f58,aGo,ar4,aGn,ar7,ar5,aGm,aGl,aoZ]
 refine pv (fun m s=>∃ k:Nat,s=(a0,a1,(k:Int))∧m=a0.length-k∧k≤a0.length∧(a0.take k).contains a1=false) (fun m s K hi hk=>?_) (a0.length+1) a0.length _ (by omega) ⟨0,rfl,by omega,by omega,rfl⟩
 obtain⟨k,rfl,hm,hle,hb⟩:=hi
 simp only [ar6,Int.toNat_natCast,cH]
 by_cases hlt:k < a0.length
 ·rw [aK (by omega),aK (by omega),bM (by omega) (by omega)]
  have hs:=Jr.contains_take hlt hb
  cases h:(a0.getD k 0==a1) with
  | false=>
   rw [h] at hs
   exact hk (m-1) _ (by omega) ⟨k+1,rfl,by omega,by omega,hs⟩
  | true=>
   have:a0.contains a1=true:=by
    rw [List.contains_iff_mem]
    have h2:a0.getD k 0=a1:=by simpa using h
    rw [← h2,List.getD_eq_getElem?_getD,List.getElem?_eq_getElem hlt];exact List.getElem_mem _
   rw [this];rfl
 ·rw [ba (by omega)]
  rw [show k=a0.length by omega,List.take_length] at hb
  rw [hb];rfl
theorem c58:Ck 58 r58:=ck beM Tryz.func58 (by
 intro X H r H' h hX hH
 unfold r58 at h;split at h <;> try contradiction
 ·obtain⟨hp,rfl,rfl⟩:=ik h
  obtain⟨F,hF⟩:=s58 _ _ (hX _ hm0) (hX _ hm1)
  exact⟨_,abC (aWx F) hF⟩)
def beO:List hI:=[(54,[none],r54)]
def V60:Env:=dL fP dM beO
noncomputable abbrev beP:=ij V60 none (Tryz.f60).results.toList
theorem beQ:EOk Tryz.prog V60:=bL (by exact⟨c54,trivial⟩)
def beR(F:Nat):Cuts:={ F:=F,at_:=fun _=>none,join:=fun _=>none }
abbrev beS(F n:Nat){σ:Type}(e:σ→St)(K:Ex→St→Rz)(N:σ→Rz):=Qe V60 (beR F) (bp Tryz.f60 n) e K N
def a9w:aoX→St:=fun (b,c,d,e,f,g,a,h,i)=>hS [pS 0 0 7] [jB 1 3 2 3 4 e f g,rB a.length 5 h i,iB b,sB c,iB d,tB a] 13 6
def aGp(F:Nat):aoX→Rz:=fun (e,f,g,h,d,i,a,b,c)=>(cond (decide (a.length=a.length∧a.length < 8000)) (some ((.int .i64 (IntKind.i64.wrap (((Dk.R.mk a b c).s.length:Int)-d))),[(jB 1 3 2 3 4 h d i),(rB (Dk.R.mk a b c).s.length 5 (Dk.R.mk a b c).off (Dk.R.mk a b c).left),(iB e),(sB f),(iB g),(.cells ((Dk.R.mk a b c).s.length*4) (.rT [.str,.str,.bool,.bool] (Dk.R.mk a b c).s) true)])) none)
theorem aWy F:beS F 1 a9w beP (aGp F):=fun _=>by kernel_rfl
def f60(F:Nat):aoX→Rz:=aGp F
def r60:eP:=fun X H=>match X,H with
 | [(.ptr 0 0 7 0 0 0 7)],[(.cells 7 (.segs (.cons 1 (.one (.ptr 1 0 3 0 0 0 3)) (.cons 1 (.one (.own 2 0 1)) (.cons 1 (.one (.own 3 0 1)) (.cons 1 (.one (.own 4 0 1)) (.cons 1 (.one (.int .i64 a0x)) (.cons 1 (.one (.int .i64 a0f)) (.cons 1 (.one (.bool a0c)) .nil)))))))) true),(.cells 3 (.segs (.cons 1 (.one (.own 5 a1n 4)) (.cons 1 (.one (.bool a1o)) (.cons 1 (.one (.int .i64 a1l)) .nil)))) true),(.cells z2 (.rI .i64 a0N) true),(.cells z3 (.rS a0T) true),(.cells z4 (.rI .i64 a0B) true),(.cells z5 (.rT [.str,.str,.bool,.bool] a1s) true)]=>some ((decide (a1n=a1s.length∧a1n < 8000)),(.int .i64 (IntKind.i64.wrap (((Dk.R.mk a1s a1o a1l).s.length:Int)-(Jr.J.mk a0N a0T a0B a0x a0f a0c).fin))),[(jE 1 3 2 3 4 (Jr.J.mk a0N a0T a0B a0x a0f a0c)),(rB (Dk.R.mk a1s a1o a1l).s.length 5 (Dk.R.mk a1s a1o a1l).off (Dk.R.mk a1s a1o a1l).left),(.cells (Jr.J.mk a0N a0T a0B a0x a0f a0c).nums.length (.rI .i64 (Jr.J.mk a0N a0T a0B a0x a0f a0c).nums) true),(.cells (Jr.J.mk a0N a0T a0B a0x a0f a0c).texts.length (.rS (Jr.J.mk a0N a0T a0B a0x a0f a0c).texts) true),(.cells (Jr.J.mk a0N a0T a0B a0x a0f a0c).bad.length (.rI .i64 (Jr.J.mk a0N a0T a0B a0x a0f a0c).bad) true),(.cells ((Dk.R.mk a1s a1o a1l).s.length*4) (.rT [.str,.str,.bool,.bool] (Dk.R.mk a1s a1o a1l).s) true)])
 | _,_=>none
theorem s60(a0N:Li)(a0T:List Li)(a0B:Li)(a0x a0f:Int)(a0c:Bool)(a1s:List (List Li))(a1o:Bool)(a1l:Int)(hp:((decide (a1s.length=a1s.length∧a1s.length < 8000)))=true)(k0:okB (jB 1 3 2 3 4 a0x a0f a0c))(k1:okB (rB a1s.length 5 a1o a1l))(k2:okB (iB a0N))(k3:okB (sB a0T))(k4:okB (iB a0B))(k5:okB (tB a1s)):∃ F,f60 F (a0N,a0T,a0B,a0x,a0f,a0c,a1s,a1o,a1l)=some ((.int .i64 (IntKind.i64.wrap (((Dk.R.mk a1s a1o a1l).s.length:Int)-(Jr.J.mk a0N a0T a0B a0x a0f a0c).fin))),[(jE 1 3 2 3 4 (Jr.J.mk a0N a0T a0B a0x a0f a0c)),(rB (Dk.R.mk a1s a1o a1l).s.length 5 (Dk.R.mk a1s a1o a1l).off (Dk.R.mk a1s a1o a1l).left),(.cells (Jr.J.mk a0N a0T a0B a0x a0f a0c).nums.length (.rI .i64 (Jr.J.mk a0N a0T a0B a0x a0f a0c).nums) true),(.cells (Jr.J.mk a0N a0T a0B a0x a0f a0c).texts.length (.rS (Jr.J.mk a0N a0T a0B a0x a0f a0c).texts) true),(.cells (Jr.J.mk a0N a0T a0B a0x a0f a0c).bad.length (.rI .i64 (Jr.J.mk a0N a0T a0B a0x a0f a0c).bad) true),(.cells ((Dk.R.mk a1s a1o a1l).s.length*4) (.rT [.str,.str,.bool,.bool] (Dk.R.mk a1s a1o a1l).s) true)]):=by
 refine⟨0,?_⟩
 simp only [f60,aGp]
 rw [aK ⟨trivial,(of_decide_eq_true hp).2⟩]
theorem c60:Ck 60 r60:=ck beQ Tryz.func60 (by
 intro X H r H' h hX hH
 unfold r60 at h;split at h <;> try contradiction
 ·obtain⟨hp,rfl,rfl⟩:=ik h
  obtain rfl:=bh (hH _ hm2) rfl
  obtain rfl:=bh (hH _ hm3) rfl
  obtain rfl:=bh (hH _ hm4) rfl
  obtain rfl:=bh (hH _ hm5) rfl
  obtain rfl:=(of_decide_eq_true hp).1
  obtain⟨F,hF⟩:=s60 _ _ _ _ _ _ _ _ _ hp (hH _ hm0) (hH _ hm1) (hH _ hm2) (hH _ hm3) (hH _ hm4) (hH _ hm5)
  exact⟨_,abC (aWy F) hF⟩)
def beT:List hI:=[(58,[some 3,none],r58)]
def V59:Env:=dL fP dM beT
noncomputable abbrev WE:=ij V59 (some [(2,.view 3)]) (Tryz.f59).results.toList
theorem beU:EOk Tryz.prog V59:=bL (by exact⟨c58,trivial⟩)
def beV(F:Nat):Cuts:={ F:=F,at_:=fun n=>match n with | 3016=>some a9r | _=>none,join:=fun n=>match n with | 1026=>some q8 | 2024=>some xe | 3018=>some ag8 | 8003=>some [(3,.plain)] | _=>none,fin:=(some [(2,.view 3)]) }
abbrev WF(F n:Nat){σ:Type}(e:σ→St)(K:Ex→St→Rz)(N:σ→Rz):=Qe V59 (beV F) (bp Tryz.f59 n) e K N
def aMR:aoX→St:=fun (b,c,d,e,f,g,a,h,i)=>hS [pS 0 0 7] [jB 1 3 2 3 4 e f g,rB a.length 5 h i,iB b,sB c,iB d,tB a] 27 6
def axQ:(Dk.R)×(Jr.J)→St:=fun (a,b)=>hS [pS 0 0 7] [jE 1 3 2 3 4 b,rB a.s.length 5 a.off a.left,iB b.nums,sB b.texts,iB b.bad,tB a.s] 27 6
def amu:(Dk.R)×(Jr.J)→St:=fun (a,b)=>hS [pS 0 0 7,(3,.ns)] [jE 1 3 2 3 4 b,rB a.s.length 5 a.off a.left,iB b.nums,sB b.texts,iB b.bad,tB a.s] 27 6
def axR:Int×(Dk.R)×(Jr.J)→St:=fun (c,a,b)=>hS [pS 0 0 7,(3,.ns),iS 4 c] [jE 1 3 2 3 4 b,rB a.s.length 5 a.off a.left,iB b.nums,sB b.texts,iB b.bad,tB a.s] 27 6
def aMS:aWb→St:=fun (c,d,a,b)=>hS [pS 0 0 7,(3,.own 6 0 1),iS 4 c] [jE 1 3 2 3 4 b,rB a.s.length 5 a.off a.left,iB b.nums,sB b.texts,iB b.bad,tB a.s,iB d] 27 6
def VB:EL→St:=fun (c,a,b)=>hS [(3,.own 6 0 1)] [jE 1 3 2 3 4 b,rB a.s.length 5 a.off a.left,iB b.nums,sB b.texts,iB b.bad,tB a.s,iB c] 27 6
def ar8(F:Nat)(a:(Dk.R)×(Jr.J)→Rz):aoX→Rz:=fun (b,c,d,e,f,g,h,i,j)=>(a ((Dk.R.mk h i j),(Jr.J.mk b c d e f g)))
theorem aWz F Rj1:WF F 2 aMR (kq V59 Rj1 q8 WE) (ar8 F (Rj1∘axQ)):=fun _=>by kernel_rfl
def ar9(F:Nat)(a:(Dk.R)×(Jr.J)→Rz):(Dk.R)×(Jr.J)→Rz:=fun (b,c)=>(a (b,c))
theorem aWA F Rj2:WF F 6 axQ (kq V59 Rj2 xe WE) (ar9 F (Rj2∘amu)):=fun _=>by kernel_rfl
def asa(F:Nat)(a:Int×(Dk.R)×(Jr.J)→Rz)(d:EL→Rz):(Dk.R)×(Jr.J)→Rz:=fun (b,c)=>(a ((1:Int),b,c))
theorem aWB F Rj3 Rj4:WF F 28 amu (kq V59 Rj3 ag8 (kq V59 Rj4 [(3,.plain)] WE)) (asa F (Rj3∘axR) (Rj4∘VB)):=fun _=>by kernel_rfl
def amv(F:Nat)(e:aWb→Rz)(f:EL→Rz):aWb→Rz:=fun (a,c,d,b)=>(cond (decide (a < b.next)) (cond (!(b.nums.contains a)) (cond (decide ((c.length+1) < 1073741824)) (e ((IntKind.i64.wrap (a+(1:Int))),(c++[a]),d,b)) none) (e ((IntKind.i64.wrap (a+(1:Int))),c,d,b))) (f (c,d,b)))
theorem aWC F Rl1 Rj4:WF F 116 aMS (kq V59 Rl1 a9r (aV 0 (kq V59 Rj4 [(3,.plain)] WE))) (amv F (Rl1∘aMS) (Rj4∘VB)):=fun _=>by kernel_rfl
def ao0:Int×(Dk.R)×(Jr.J)→Int×Li×(Dk.R)×(Jr.J):=fun (a,b,c)=>(a,[],b,c)
def aGq(F:Nat)(a:EL→Rz):Int×(Dk.R)×(Jr.J)→Rz:=fun v=>eT (fun k=>amv F k a) F (ao0 v)
theorem aWD F Rj4:WF F 58 axR (aV 0 (kq V59 Rj4 [(3,.plain)] WE)) (aGq F (Rj4∘VB)):=lpC ao0 (fun k=>amv F k (Rj4∘VB)) (fun Rl1=>aWC F Rl1 Rj4)
def aGr(F:Nat)(a):=aGq F a
theorem aWE F Rj4:WF F 29 axR (kq V59 Rj4 [(3,.plain)] WE) (aGr F (Rj4∘VB)):=biC (aWD F Rj4)
def asb(F:Nat)(a):=asa F (aGr F a) a
theorem aWF F Rj4:WF F 14 amu (kq V59 Rj4 [(3,.plain)] WE) (asb F (Rj4∘VB)):=sqC (fun k=>asa F k (Rj4∘VB)) (fun Rj3=>aWB F Rj3 Rj4) (aWE F Rj4)
def aY1(F:Nat):EL→Rz:=fun (c,a,b)=>(some ((.vs (.rI .i64 c) 0 1),[(jE 1 3 2 3 4 b),(rB a.s.length 5 a.off a.left),(iB b.nums),(sB b.texts),(iB b.bad),(tB a.s)]))
theorem aWG F:WF F 15 VB WE (aY1 F):=fun _=>by kernel_rfl
def aGs(F:Nat):=asb F (aY1 F)
theorem aWH F:WF F 7 amu WE (aGs F):=sqC (asb F) (fun Rj4=>aWF F Rj4) (aWG F)
def axS(F:Nat):=ar9 F (aGs F)
theorem aMT F:WF F 3 axQ WE (axS F):=sqC (ar9 F) (fun Rj2=>aWA F Rj2) (aWH F)
def axT(F:Nat):=ar8 F (axS F)
theorem aMU F:WF F 1 aMR WE (axT F):=sqC (ar8 F) (fun Rj1=>aWz F Rj1) (aMT F)
def f59(F:Nat):aoX→Rz:=axT F
def r59:eP:=fun X H=>match X,H with
 | [(.ptr 0 0 7 0 0 0 7)],[(.cells 7 (.segs (.cons 1 (.one (.ptr 1 0 3 0 0 0 3)) (.cons 1 (.one (.own 2 0 1)) (.cons 1 (.one (.own 3 0 1)) (.cons 1 (.one (.own 4 0 1)) (.cons 1 (.one (.int .i64 a0x)) (.cons 1 (.one (.int .i64 a0f)) (.cons 1 (.one (.bool a0c)) .nil)))))))) true),(.cells 3 (.segs (.cons 1 (.one (.own 5 a1n 4)) (.cons 1 (.one (.bool a1o)) (.cons 1 (.one (.int .i64 a1l)) .nil)))) true),(.cells z2 (.rI .i64 a0N) true),(.cells z3 (.rS a0T) true),(.cells z4 (.rI .i64 a0B) true),(.cells z5 (.rT [.str,.str,.bool,.bool] a1s) true)]=>some ((decide (a1n=a1s.length∧a1n < 8000))&&((decide ((Jr.J.mk a0N a0T a0B a0x a0f a0c).nums.length < 1073741000∧(Jr.J.mk a0N a0T a0B a0x a0f a0c).next < 100000))),(.vs (.rI .i64 (Jr.damaged (Jr.J.mk a0N a0T a0B a0x a0f a0c))) 0 1),[(jE 1 3 2 3 4 (Jr.J.mk a0N a0T a0B a0x a0f a0c)),(rB (Dk.R.mk a1s a1o a1l).s.length 5 (Dk.R.mk a1s a1o a1l).off (Dk.R.mk a1s a1o a1l).left),(.cells (Jr.J.mk a0N a0T a0B a0x a0f a0c).nums.length (.rI .i64 (Jr.J.mk a0N a0T a0B a0x a0f a0c).nums) true),(.cells (Jr.J.mk a0N a0T a0B a0x a0f a0c).texts.length (.rS (Jr.J.mk a0N a0T a0B a0x a0f a0c).texts) true),(.cells (Jr.J.mk a0N a0T a0B a0x a0f a0c).bad.length (.rI .i64 (Jr.J.mk a0N a0T a0B a0x a0f a0c).bad) true),(.cells ((Dk.R.mk a1s a1o a1l).s.length*4) (.rT [.str,.str,.bool,.bool] (Dk.R.mk a1s a1o a1l).s) true)])
 | _,_=>none
theorem s59(a0N:Li)(a0T:List Li)(a0B:Li)(a0x a0f:Int)(a0c:Bool)(a1s:List (List Li))(a1o:Bool)(a1l:Int)(hp:((decide (a1s.length=a1s.length∧a1s.length < 8000))&&((decide ((Jr.J.mk a0N a0T a0B a0x a0f a0c).nums.length < 1073741000∧(Jr.J.mk a0N a0T a0B a0x a0f a0c).next < 100000))))=true)(k0:okB (jB 1 3 2 3 4 a0x a0f a0c))(k1:okB (rB a1s.length 5 a1o a1l))(k2:okB (iB a0N))(k3:okB (sB a0T))(k4:okB (iB a0B))(k5:okB (tB a1s)):∃ F,f59 F (a0N,a0T,a0B,a0x,a0f,a0c,a1s,a1o,a1l)=some ((.vs (.rI .i64 (Jr.damaged (Jr.J.mk a0N a0T a0B a0x a0f a0c))) 0 1),[(jE 1 3 2 3 4 (Jr.J.mk a0N a0T a0B a0x a0f a0c)),(rB (Dk.R.mk a1s a1o a1l).s.length 5 (Dk.R.mk a1s a1o a1l).off (Dk.R.mk a1s a1o a1l).left),(.cells (Jr.J.mk a0N a0T a0B a0x a0f a0c).nums.length (.rI .i64 (Jr.J.mk a0N a0T a0B a0x a0f a0c).nums) true),(.cells (Jr.J.mk a0N a0T a0B a0x a0f a0c).texts.length (.rS (Jr.J.mk a0N a0T a0B a0x a0f a0c).texts) true),(.cells (Jr.J.mk a0N a0T a0B a0x a0f a0c).bad.length (.rI .i64 (Jr.J.mk a0N a0T a0B a0x a0f a0c).bad) true),(.cells ((Dk.R.mk a1s a1o a1l).s.length*4) (.rT [.str,.str,.bool,.bool] (Dk.R.mk a1s a1o a1l).s) true)]):=by
 obtain⟨hp0,hp⟩:=Bool.and_eq_true_iff.1 hp
 obtain⟨hp1,hp2⟩:=of_decide_eq_true hp
 have hp2:a0x < 100000:=hp2
 obtain⟨F,hF⟩:∃ F,F=200000:=⟨_,rfl⟩
 refine⟨F,?_⟩
 simp only [f59,axT,ar8,axS,ar9,aGs,asb,asa,aGr,aGq,ao0]
 refine iR (fun i=>((i:Int)+1,((List.range i).filter fun i:Nat=>!a0N.contains ((i:Int)+1)).map fun i:Nat=>(i:Int)+1,(Dk.R.mk a1s a1o a1l),(Jr.J.mk a0N a0T a0B a0x a0f a0c))) (a0x-1).toNat rfl (fun i hi q=>?_) (fun q=>?_) F (by omega)
 ·simp only [amv]
  have hlen:(((List.range i).filter fun i:Nat=>!a0N.contains ((i:Int)+1)).map fun i:Nat=>(i:Int)+1).length≤i:=by
   rw [List.length_map];exact Nat.le_trans (List.length_filter_le _ _) (by simp)
  rw [aK (by omega),bM (by omega) (by omega),Jr.dam_step]
  cases (!a0N.contains ((i:Int)+1))
  ·rw [cond_false,cond_false,List.append_nil];rfl
  ·rw [cond_true,cond_true,aK (by omega)];rfl
 ·simp only [amv]
  rw [ba (by omega)]
  rfl
theorem c59:Ck 59 r59:=ck beU Tryz.func59 (by
 intro X H r H' h hX hH
 unfold r59 at h;split at h <;> try contradiction
 ·obtain⟨hp,rfl,rfl⟩:=ik h
  obtain rfl:=bh (hH _ hm2) rfl
  obtain rfl:=bh (hH _ hm3) rfl
  obtain rfl:=bh (hH _ hm4) rfl
  obtain rfl:=bh (hH _ hm5) rfl
  obtain rfl:=(of_decide_eq_true (Bool.and_eq_true_iff.1 hp).1).1
  obtain⟨F,hF⟩:=s59 _ _ _ _ _ _ _ _ _ hp (hH _ hm0) (hH _ hm1) (hH _ hm2) (hH _ hm3) (hH _ hm4) (hH _ hm5)
  exact⟨_,abC (aMU F) hF⟩)
def beW:List hI:=[(33,[none,none,none],r33),(53,[none,none],r53),(55,[none,none],r55),(57,[none],r57),(60,[none],r60),(61,[none],r61)]
def V24:Env:=dL fP DW beW
noncomputable abbrev uT:=ij V24 (some [(4,.plain),(5,.plain),(0,.touch 1),(0,.touch 2)]) (Tryz.f24).results.toList
theorem beX:EOk Tryz.prog V24:=bL (by exact⟨c33.more uP,c53,c55.more uP,c57.more uP,c60.more uP,c61.more uP,trivial⟩)
def beY(F:Nat):Cuts:={ F:=F,at_:=fun n=>match n with | 13020=>some aGe | 25022=>some aGf | _=>none,join:=fun n=>match n with | 1115=>some uY | 3107=>some uY | 5099=>some uY | 7091=>some uY | 8089=>some a9s | 9087=>some a9t | 10085=>some P8 | 11083=>some P8 | 12081=>some P8 | 13022=>some aGe | 19056=>some P8 | 20054=>some a9u | 23044=>some P8 | 24042=>some a9v | 25024=>some aGf | 32015=>some aoW | _=>none,fin:=(some [(4,.plain),(5,.plain),(0,.touch 1),(0,.touch 2)]) }
abbrev uU(F n:Nat){σ:Type}(e:σ→St)(K:Ex→St→Rz)(N:σ→Rz):=Qe V24 (beY F) (bp Tryz.f24 n) e K N
def aMV:aWc→St:=fun (b,c,d,e,f,g,a,h,i,j)=>hS [pS 0 0 7,(1,.str j)] [jB 1 3 2 3 4 e f g,rB a.length 5 h i,iB b,sB c,iB d,tB a] 153 6
def abK:EL→St:=fun (c,a,b)=>hS [pS 0 0 7,(1,.str c)] [jE 1 3 2 3 4 b,rB a.s.length 5 a.off a.left,iB b.nums,sB b.texts,iB b.bad,tB a.s] 153 6
def axU:EL→St:=abK
def axV:EL→St:=abK
def axW:EL→St:=abK
def axX:aWd→St:=fun (c,d,a,b)=>hS [pS 0 0 7,(1,.str c),iS 6 d] [jE 1 3 2 3 4 b,rB a.s.length 5 a.off a.left,iB b.nums,sB b.texts,iB b.bad,tB a.s] 153 6
def axY:aWe→St:=fun (c,d,e,a,b)=>hS [pS 0 0 7,(1,.str c),iS 6 d,iS 7 e] [jE 1 3 2 3 4 b,rB a.s.length 5 a.off a.left,iB b.nums,sB b.texts,iB b.bad,tB a.s] 153 6
def WG:EM→St:=fun (c,d,e,f,a,b)=>hS [pS 0 0 7,(1,.str c),iS 6 d,iS 7 e,(8,(z13 f))] [jE 1 3 2 3 4 b,rB a.s.length 5 a.off a.left,iB b.nums,sB b.texts,iB b.bad,tB a.s] 153 6
def axZ:EM→St:=WG
def amw:EM→St:=WG
def aii:YY→St:=fun (c,d,e,f,g,a,b)=>hS [pS 0 0 7,(1,.str c),iS 6 d,iS 7 e,(8,(z13 f)),iS 10 g] [jE 1 3 2 3 4 b,rB a.s.length 5 a.off a.left,iB b.nums,sB b.texts,iB b.bad,tB a.s] 153 6
def aMW:YY→St:=aii
def J1:EM→St:=WG
def ao1:YY→St:=fun (c,d,e,f,g,a,b)=>hS [pS 0 0 7,(1,.str c),iS 6 d,iS 7 e,(8,(z13 f)),iS 12 g] [jE 1 3 2 3 4 b,rB a.s.length 5 a.off a.left,iB b.nums,sB b.texts,iB b.bad,tB a.s] 153 6
def ao6:EM→St:=WG
def aij:aWf→St:=fun (c,d,e,f,g,a,b)=>hS [pS 0 0 7,(1,.str c),iS 6 d,iS 7 e,(8,(z13 f)),(13,.bool g)] [jE 1 3 2 3 4 b,rB a.s.length 5 a.off a.left,iB b.nums,sB b.texts,iB b.bad,tB a.s] 153 6
def aik:ajA→St:=fun (c,d,e,f,g,h,a,b)=>hS [pS 0 0 7,(1,.str c),iS 6 d,iS 7 e,(8,(z13 f)),(13,.bool g),iS 14 h] [jE 1 3 2 3 4 b,rB a.s.length 5 a.off a.left,iB b.nums,sB b.texts,iB b.bad,tB a.s] 153 6
def aMX:ajA→St:=aik
def KF:axP→St:=fun (c,d,e,a,b)=>hS [pS 0 0 7,(1,.str c),iS 6 d,(13,.bool e)] [jE 1 3 2 3 4 b,rB a.s.length 5 a.off a.left,iB b.nums,sB b.texts,iB b.bad,tB a.s] 153 6
def asc(F:Nat)(a:EL→Rz):aWc→Rz:=fun (b,c,d,e,f,g,h,i,j,k)=>(a (k,(Dk.R.mk h i j),(Jr.J.mk b c d e f g)))
theorem aWI F Rj1:uU F 2 aMV (kq V24 Rj1 uY uT) (asc F (Rj1∘abK)):=fun _=>by kernel_rfl
def asd(F:Nat)(c:EL→Rz):EL→Rz:=fun (d,b,a)=>(cond a.closed (some ((.tup (.cons 0 (.int .i64 0) (.cons 0 (.int .i64 22) .nil))),[(jE 1 3 6 7 4 a),(rB b.s.length 5 b.off b.left),.gone,.gone,(iB a.bad),(tB b.s),(iB a.nums),(sB a.texts)])) (c (d,b,a)))
theorem aWJ F Rj2:uU F 6 abK (kq V24 Rj2 uY uT) (asd F (Rj2∘axU)):=fun _=>by kernel_rfl
def ase(F:Nat)(d:EL→Rz):EL→Rz:=fun (c,b,a)=>(cond (decide ((↑c.length:Int) > (8000:Int))) (some ((.tup (.cons 0 (.int .i64 0) (.cons 0 (.int .i64 4) .nil))),[(jE 1 3 6 7 4 a),(rB b.s.length 5 b.off b.left),.gone,.gone,(iB a.bad),(tB b.s),(iB a.nums),(sB a.texts)])) (cond (decide (a.next > (4096:Int))) (some ((.tup (.cons 0 (.int .i64 0) (.cons 0 (.int .i64 4) .nil))),[(jE 1 3 6 7 4 a),(rB b.s.length 5 b.off b.left),.gone,.gone,(iB a.bad),(tB b.s),(iB a.nums),(sB a.texts)])) (d (c,b,a))))
theorem aWK F Rj3:uU F 14 axU (kq V24 Rj3 uY uT) (ase F (Rj3∘axV)):=fun _=>by kernel_rfl
def asf(F:Nat)(d:EL→Rz):EL→Rz:=fun (c,a,b)=>(cond (decide (a.s.length=a.s.length∧a.s.length < 8000)) (cond (decide ((Jr.count (↑c.length:Int)) > (IntKind.i64.wrap ((a.s.length:Int)-b.fin)))) (some ((.tup (.cons 0 (.int .i64 0) (.cons 0 (.int .i64 21) .nil))),[(jE 1 3 6 7 4 b),(rB a.s.length 5 a.off a.left),.gone,.gone,(iB b.bad),(tB a.s),(iB b.nums),(sB b.texts)])) (d (c,a,b))) none)
theorem aWL F Rj4:uU F 30 axV (kq V24 Rj4 uY uT) (asf F (Rj4∘axW)):=fun _=>by kernel_rfl
def asg(F:Nat)(b:aWd→Rz):EL→Rz:=fun (c,d,a)=>(b (c,a.next,d,a))
theorem aWM F Rj5:uU F 62 axW (kq V24 Rj5 a9s uT) (asg F (Rj5∘axX)):=fun _=>by kernel_rfl
def ash(F:Nat)(b:aWe→Rz):aWd→Rz:=fun (c,d,e,a)=>(b (c,d,a.fin,e,a))
theorem aWN F Rj6:uU F 126 axX (kq V24 Rj6 a9t uT) (ash F (Rj6∘axY)):=fun _=>by kernel_rfl
def asi(F:Nat)(c:EM→Rz):aWe→Rz:=fun (a,b,d,e,f)=>(cond (decide (a.length < 1073730000)) (c (a,b,d,(Jr.pack b a).1,e,f)) none)
theorem aWO F Rj7:uU F 254 axY (kq V24 Rj7 P8 uT) (asi F (Rj7∘WG)):=fun _=>by kernel_rfl
def asj(F:Nat)(c:EM→Rz):EM→Rz:=fun (d,b,e,f,g,a)=>(c (d,b,e,f,g,(Jr.J.mk a.nums a.texts a.bad (IntKind.i64.wrap (b+(1:Int))) a.fin a.closed)))
theorem aWP F Rj8:uU F 510 WG (kq V24 Rj8 P8 uT) (asj F (Rj8∘axZ)):=fun _=>by kernel_rfl
def asl(F:Nat)(d:EM→Rz):EM→Rz:=fun (e,f,b,c,g,a)=>(d (e,f,b,c,g,(Jr.J.mk a.nums a.texts a.bad a.next (IntKind.i64.wrap (b+(↑c.length:Int))) a.closed)))
theorem aWQ F Rj9:uU F 1022 axZ (kq V24 Rj9 P8 uT) (asl F (Rj9∘amw)):=fun _=>by kernel_rfl
def amx(F:Nat)(a:YY→Rz)(h:EM→Rz):EM→Rz:=fun (b,c,d,e,f,g)=>(a (b,c,d,e,(0:Int),f,g))
theorem aMY F Rj10 Rj11:uU F 4092 amw (kq V24 Rj10 aGe (kq V24 Rj11 P8 uT)) (amx F (Rj10∘aii) (Rj11∘J1)):=fun _=>by kernel_rfl
def amy(F:Nat)(h:YY→Rz)(i:EM→Rz):YY→Rz:=fun (f,g,d,b,a,c,e)=>(cond (decide (a < (↑b.length:Int))) (cond ((decide (0≤a))&&(decide (a < (↑b.length:Int)))) (cond (decide (c.s.length=c.s.length∧c.s.length < 8000)) (cond ((Dk.rwrite c (IntKind.i64.wrap (d+a)) (b.getD (Int.toNat a) [])).2 != (0:Int)) (some ((.tup (.cons 0 (.int .i64 0) (.cons 0 (.int .i64 (Dk.rwrite c (IntKind.i64.wrap (d+a)) (b.getD (Int.toNat a) [])).2) .nil))),[(jB 1 3 6 7 4 e.next e.fin true),(rB (Dk.rwrite c (IntKind.i64.wrap (d+a)) (b.getD (Int.toNat a) [])).1.s.length 5 (Dk.rwrite c (IntKind.i64.wrap (d+a)) (b.getD (Int.toNat a) [])).1.off (Dk.rwrite c (IntKind.i64.wrap (d+a)) (b.getD (Int.toNat a) [])).1.left),.gone,.gone,(iB e.bad),(.cells ((Dk.rwrite c (IntKind.i64.wrap (d+a)) (b.getD (Int.toNat a) [])).1.s.length*4) (.rT [.str,.str,.bool,.bool] (Dk.rwrite c (IntKind.i64.wrap (d+a)) (b.getD (Int.toNat a) [])).1.s) true),(iB e.nums),(sB e.texts)])) (h (f,g,d,b,(IntKind.i64.wrap (a+(1:Int))),(Dk.rwrite c (IntKind.i64.wrap (d+a)) (b.getD (Int.toNat a) [])).1,e))) none) none) (i (f,g,d,b,c,e)))
theorem aMZ F Rl1 Rj11:uU F 16372 aMW (kq V24 Rl1 aGe (aV 0 (kq V24 Rj11 P8 uT))) (amy F (Rl1∘aMW) (Rj11∘J1)):=fun _=>by kernel_rfl
def ajB:YY→Li×Int×Int×(List Li)×Int×(Dk.R)×(Jr.J):=fun (a,b,c,d,e,f,g)=>(a,b,c,d,e,f,g)
def ax0(F:Nat)(a:EM→Rz):YY→Rz:=fun v=>eT (fun k=>amy F k a) F (ajB v)
theorem aM0 F Rj11:uU F 8186 aii (aV 0 (kq V24 Rj11 P8 uT)) (ax0 F (Rj11∘J1)):=lpC ajB (fun k=>amy F k (Rj11∘J1)) (fun Rl1=>aMZ F Rl1 Rj11)
def ax1(F:Nat)(a):=ax0 F a
theorem aM1 F Rj11:uU F 4093 aii (kq V24 Rj11 P8 uT) (ax1 F (Rj11∘J1)):=biC (aM0 F Rj11)
def amz(F:Nat)(a):=amx F (ax1 F a) a
theorem aM2 F Rj11:uU F 2046 amw (kq V24 Rj11 P8 uT) (amz F (Rj11∘J1)):=sqC (fun k=>amx F k (Rj11∘J1)) (fun Rj10=>aMY F Rj10 Rj11) (aM1 F Rj11)
def amA(F:Nat)(b:YY→Rz):EM→Rz:=fun (c,d,e,f,a,g)=>(cond ((decide (a.s.length=a.s.length∧a.s.length < 8000))&&((Dk.rfine a))) (b (c,d,e,f,(Dk.rflush a).2,(Dk.rflush a).1,g)) none)
theorem aM3 F Rj12:uU F 4094 J1 (kq V24 Rj12 a9u uT) (amA F (Rj12∘ao1)):=fun _=>by kernel_rfl
def amB(F:Nat)(d:EM→Rz):YY→Rz:=fun (e,f,g,h,c,b,a)=>(cond (c != (0:Int)) (some ((.tup (.cons 0 (.int .i64 0) (.cons 0 (.int .i64 c) .nil))),[(jB 1 3 6 7 4 a.next a.fin true),(rB b.s.length 5 b.off b.left),.gone,.gone,(iB a.bad),(tB b.s),(iB a.nums),(sB a.texts)])) (d (e,f,g,h,b,a)))
theorem aM4 F Rj13:uU F 8190 ao1 (kq V24 Rj13 P8 uT) (amB F (Rj13∘ao6)):=fun _=>by kernel_rfl
def amC(F:Nat)(a:aWf→Rz):EM→Rz:=fun (b,c,d,e,f,g)=>(a (b,c,d,e,true,f,g))
theorem aM5 F Rj14:uU F 16382 ao6 (kq V24 Rj14 a9v uT) (amC F (Rj14∘aij)):=fun _=>by kernel_rfl
def amD(F:Nat)(a:ajA→Rz)(i:axP→Rz):aWf→Rz:=fun (b,c,d,e,f,g,h)=>(a (b,c,d,e,f,(0:Int),g,h))
theorem aM6 F Rj15 Rj16:uU F 65532 aij (kq V24 Rj15 aGf (kq V24 Rj16 aoW uT)) (amD F (Rj15∘aik) (Rj16∘KF)):=fun _=>by kernel_rfl
def amE(F:Nat)(h:ajA→Rz)(j:axP→Rz):ajA→Rz:=fun (f,g,d,e,i,b,a,c)=>(cond (decide (b < (↑e.length:Int))) (cond (decide (a.s.length=a.s.length∧a.s.length < 8000)) (cond ((Dk.rread a (IntKind.i64.wrap (d+b))).2 != (0:Int)) (some ((.tup (.cons 0 (.int .i64 0) (.cons 0 (.int .i64 (Dk.rread a (IntKind.i64.wrap (d+b))).2) .nil))),[(jB 1 3 6 7 4 c.next c.fin true),(rB a.s.length 5 a.off a.left),.gone,.gone,(iB c.bad),(tB a.s),(iB c.nums),(sB c.texts)])) (cond i (cond ((decide (0≤b))&&(decide (b < (↑e.length:Int)))) (h (f,g,d,e,(((Dk.rread a (IntKind.i64.wrap (d+b))).1:Li)==((e.getD (Int.toNat b) []):Li)),(IntKind.i64.wrap (b+(1:Int))),a,c)) none) (h (f,g,d,e,false,(IntKind.i64.wrap (b+(1:Int))),a,c)))) none) (j (f,g,i,a,c)))
theorem aM7 F Rl2 Rj16:uU F 262132 aMX (kq V24 Rl2 aGf (aV 2 (kq V24 Rj16 aoW uT))) (amE F (Rl2∘aMX) (Rj16∘KF)):=fun _=>by kernel_rfl
def ajC:ajA→Li×Int×Int×(List Li)×Bool×Int×(Dk.R)×(Jr.J):=fun (a,b,c,d,e,f,g,h)=>(a,b,c,d,e,f,g,h)
def ax2(F:Nat)(a:axP→Rz):ajA→Rz:=fun v=>eT (fun k=>amE F k a) F (ajC v)
theorem aM8 F Rj16:uU F 131066 aik (aV 2 (kq V24 Rj16 aoW uT)) (ax2 F (Rj16∘KF)):=lpC ajC (fun k=>amE F k (Rj16∘KF)) (fun Rl2=>aM7 F Rl2 Rj16)
def ax3(F:Nat)(a):=ax2 F a
theorem aM9 F Rj16:uU F 65533 aik (kq V24 Rj16 aoW uT) (ax3 F (Rj16∘KF)):=biC (aM8 F Rj16)
def amF(F:Nat)(a):=amD F (ax3 F a) a
theorem aNa F Rj16:uU F 32766 aij (kq V24 Rj16 aoW uT) (amF F (Rj16∘KF)):=sqC (fun k=>amD F k (Rj16∘KF)) (fun Rj15=>aM6 F Rj15 Rj16) (aM9 F Rj16)
def ax4(F:Nat):axP→Rz:=fun (d,c,e,b,a)=>(cond (!e) (some ((.tup (.cons 0 (.int .i64 0) (.cons 0 (.int .i64 23) .nil))),[(jE 1 3 6 7 4 a),(rB b.s.length 5 b.off b.left),.gone,.gone,(iB a.bad),(tB b.s),(iB a.nums),(sB a.texts)])) (cond (decide ((a.nums.length+1) < 1073741824)) (cond (decide ((a.texts.length+1) < 1073741824)) (some ((.tup (.cons 0 (.int .i64 c) (.cons 0 (.int .i64 0) .nil))),[(jE 1 3 6 7 4 a),(rB b.s.length 5 b.off b.left),.gone,.gone,(iB a.bad),(tB b.s),(.cells (a.nums++[c]).length (.rI .i64 (a.nums++[c])) true),(.cells (a.texts++[d]).length (.rS (a.texts++[d])) true)])) none) none))
theorem aNb F:uU F 32767 KF uT (ax4 F):=fun _=>by kernel_rfl
def ax5(F:Nat):=amF F (ax4 F)
theorem aNc F:uU F 16383 aij uT (ax5 F):=sqC (amF F) (fun Rj16=>aNa F Rj16) (aNb F)
def ax6(F:Nat):=amC F (ax5 F)
theorem aNd F:uU F 8191 ao6 uT (ax6 F):=sqC (amC F) (fun Rj14=>aM5 F Rj14) (aNc F)
def ax7(F:Nat):=amB F (ax6 F)
theorem aNe F:uU F 4095 ao1 uT (ax7 F):=sqC (amB F) (fun Rj13=>aM4 F Rj13) (aNd F)
def ax8(F:Nat):=amA F (ax7 F)
theorem aNf F:uU F 2047 J1 uT (ax8 F):=sqC (amA F) (fun Rj12=>aM3 F Rj12) (aNe F)
def ax9(F:Nat):=amz F (ax8 F)
theorem aNg F:uU F 1023 amw uT (ax9 F):=sqC (amz F) (fun Rj11=>aM2 F Rj11) (aNf F)
def aya(F:Nat):=asl F (ax9 F)
theorem aNh F:uU F 511 axZ uT (aya F):=sqC (asl F) (fun Rj9=>aWQ F Rj9) (aNg F)
def ayb(F:Nat):=asj F (aya F)
theorem aNi F:uU F 255 WG uT (ayb F):=sqC (asj F) (fun Rj8=>aWP F Rj8) (aNh F)
def ayc(F:Nat):=asi F (ayb F)
theorem aNj F:uU F 127 axY uT (ayc F):=sqC (asi F) (fun Rj7=>aWO F Rj7) (aNi F)
def ayd(F:Nat):=ash F (ayc F)
theorem aNk F:uU F 63 axX uT (ayd F):=sqC (ash F) (fun Rj6=>aWN F Rj6) (aNj F)
def aye(F:Nat):=asg F (ayd F)
theorem aNl F:uU F 31 axW uT (aye F):=sqC (asg F) (fun Rj5=>aWM F Rj5) (aNk F)
def ayf(F:Nat):=asf F (aye F)
theorem aNm F:uU F 15 axV uT (ayf F):=sqC (asf F) (fun Rj4=>aWL F Rj4) (aNl F)
def ayg(F:Nat):=ase F (ayf F)
theorem aNn F:uU F 7 axU uT (ayg F):=sqC (ase F) (fun Rj3=>aWK F Rj3) (aNm F)
def ayh(F:Nat):=asd F (ayg F)
theorem aNo F:uU F 3 abK uT (ayh F):=sqC (asd F) (fun Rj2=>aWJ F Rj2) (aNn F)
def ayi(F:Nat):=asc F (ayh F)
theorem aNp F:uU F 1 aMV uT (ayi F):=sqC (asc F) (fun Rj1=>aWI F Rj1) (aNo F)
def f24(F:Nat):aWc→Rz:=ayi F
def r24:eP:=fun X H=>match X,H with
 | [(.ptr 0 0 7 0 0 0 7),.str a2],[(.cells 7 (.segs (.cons 1 (.one (.ptr 1 0 3 0 0 0 3)) (.cons 1 (.one (.own 2 0 1)) (.cons 1 (.one (.own 3 0 1)) (.cons 1 (.one (.own 4 0 1)) (.cons 1 (.one (.int .i64 a0x)) (.cons 1 (.one (.int .i64 a0f)) (.cons 1 (.one (.bool a0c)) .nil)))))))) true),(.cells 3 (.segs (.cons 1 (.one (.own 5 a1n 4)) (.cons 1 (.one (.bool a1o)) (.cons 1 (.one (.int .i64 a1l)) .nil)))) true),(.cells z2 (.rI .i64 a0N) true),(.cells z3 (.rS a0T) true),(.cells z4 (.rI .i64 a0B) true),(.cells z5 (.rT [.str,.str,.bool,.bool] a1s) true)]=>some ((decide (a1n=a1s.length∧a1n < 8000))&&((Dk.rfine (Dk.R.mk a1s a1o a1l))&&(Jr.okJR (Jr.J.mk a0N a0T a0B a0x a0f a0c))),(.tup (.cons 0 (.int .i64 (Jr.append Jr.RV (Dk.R.mk a1s a1o a1l) (Jr.J.mk a0N a0T a0B a0x a0f a0c) a2).2.2.1) (.cons 0 (.int .i64 (Jr.append Jr.RV (Dk.R.mk a1s a1o a1l) (Jr.J.mk a0N a0T a0B a0x a0f a0c) a2).2.2.2) .nil))),[(jE 1 3 6 7 4 (Jr.append Jr.RV (Dk.R.mk a1s a1o a1l) (Jr.J.mk a0N a0T a0B a0x a0f a0c) a2).2.1),(rB (Jr.append Jr.RV (Dk.R.mk a1s a1o a1l) (Jr.J.mk a0N a0T a0B a0x a0f a0c) a2).1.s.length 5 (Jr.append Jr.RV (Dk.R.mk a1s a1o a1l) (Jr.J.mk a0N a0T a0B a0x a0f a0c) a2).1.off (Jr.append Jr.RV (Dk.R.mk a1s a1o a1l) (Jr.J.mk a0N a0T a0B a0x a0f a0c) a2).1.left),.gone,.gone,(.cells (Jr.append Jr.RV (Dk.R.mk a1s a1o a1l) (Jr.J.mk a0N a0T a0B a0x a0f a0c) a2).2.1.bad.length (.rI .i64 (Jr.append Jr.RV (Dk.R.mk a1s a1o a1l) (Jr.J.mk a0N a0T a0B a0x a0f a0c) a2).2.1.bad) true),(.cells ((Jr.append Jr.RV (Dk.R.mk a1s a1o a1l) (Jr.J.mk a0N a0T a0B a0x a0f a0c) a2).1.s.length*4) (.rT [.str,.str,.bool,.bool] (Jr.append Jr.RV (Dk.R.mk a1s a1o a1l) (Jr.J.mk a0N a0T a0B a0x a0f a0c) a2).1.s) true),(.cells (Jr.append Jr.RV (Dk.R.mk a1s a1o a1l) (Jr.J.mk a0N a0T a0B a0x a0f a0c) a2).2.1.nums.length (.rI .i64 (Jr.append Jr.RV (Dk.R.mk a1s a1o a1l) (Jr.J.mk a0N a0T a0B a0x a0f a0c) a2).2.1.nums) true),(.cells (Jr.append Jr.RV (Dk.R.mk a1s a1o a1l) (Jr.J.mk a0N a0T a0B a0x a0f a0c) a2).2.1.texts.length (.rS (Jr.append Jr.RV (Dk.R.mk a1s a1o a1l) (Jr.J.mk a0N a0T a0B a0x a0f a0c) a2).2.1.texts) true)])
 | _,_=>none
theorem s24(a0N:Li)(a0T:List Li)(a0B:Li)(a0x a0f:Int)(a0c:Bool)(a1s:List (List Li))(a1o:Bool)(a1l:Int)(a2:Li)(hp:((decide (a1s.length=a1s.length∧a1s.length < 8000))&&((Dk.rfine (Dk.R.mk a1s a1o a1l))&&(Jr.okJR (Jr.J.mk a0N a0T a0B a0x a0f a0c))))=true)(h1:okV (.str a2))(k0:okB (jB 1 3 2 3 4 a0x a0f a0c))(k1:okB (rB a1s.length 5 a1o a1l))(k2:okB (iB a0N))(k3:okB (sB a0T))(k4:okB (iB a0B))(k5:okB (tB a1s)):∃ F,f24 F (a0N,a0T,a0B,a0x,a0f,a0c,a1s,a1o,a1l,a2)=some ((.tup (.cons 0 (.int .i64 (Jr.append Jr.RV (Dk.R.mk a1s a1o a1l) (Jr.J.mk a0N a0T a0B a0x a0f a0c) a2).2.2.1) (.cons 0 (.int .i64 (Jr.append Jr.RV (Dk.R.mk a1s a1o a1l) (Jr.J.mk a0N a0T a0B a0x a0f a0c) a2).2.2.2) .nil))),[(jE 1 3 6 7 4 (Jr.append Jr.RV (Dk.R.mk a1s a1o a1l) (Jr.J.mk a0N a0T a0B a0x a0f a0c) a2).2.1),(rB (Jr.append Jr.RV (Dk.R.mk a1s a1o a1l) (Jr.J.mk a0N a0T a0B a0x a0f a0c) a2).1.s.length 5 (Jr.append Jr.RV (Dk.R.mk a1s a1o a1l) (Jr.J.mk a0N a0T a0B a0x a0f a0c) a2).1.off (Jr.append Jr.RV (Dk.R.mk a1s a1o a1l) (Jr.J.mk a0N a0T a0B a0x a0f a0c) a2).1.left),.gone,.gone,(.cells (Jr.append Jr.RV (Dk.R.mk a1s a1o a1l) (Jr.J.mk a0N a0T a0B a0x a0f a0c) a2).2.1.bad.length (.rI .i64 (Jr.append Jr.RV (Dk.R.mk a1s a1o a1l) (Jr.J.mk a0N a0T a0B a0x a0f a0c) a2).2.1.bad) true),(.cells ((Jr.append Jr.RV (Dk.R.mk a1s a1o a1l) (Jr.J.mk a0N a0T a0B a0x a0f a0c) a2).1.s.length*4) (.rT [.str,.str,.bool,.bool] (Jr.append Jr.RV (Dk.R.mk a1s a1o a1l) (Jr.J.mk a0N a0T a0B a0x a0f a0c) a2).1.s) true),(.cells (Jr.append Jr.RV (Dk.R.mk a1s a1o a1l) (Jr.J.mk a0N a0T a0B a0x a0f a0c) a2).2.1.nums.length (.rI .i64 (Jr.append Jr.RV (Dk.R.mk a1s a1o a1l) (Jr.J.mk a0N a0T a0B a0x a0f a0c) a2).2.1.nums) true),(.cells (Jr.append Jr.RV (Dk.R.mk a1s a1o a1l) (Jr.J.mk a0N a0T a0B a0x a0f a0c) a2).2.1.texts.length (.rS (Jr.append Jr.RV (Dk.R.mk a1s a1o a1l) (Jr.J.mk a0N a0T a0B a0x a0f a0c) a2).2.1.texts) true)]):=by
 obtain⟨hp0,hp⟩:=Bool.and_eq_true_iff.1 hp
 obtain⟨hf,hp⟩:=Bool.and_eq_true_iff.1 hp
 obtain⟨q2,q3,q4,q5,q6,q7⟩:=of_decide_eq_true hp
 have hn8:a1s.length < 8000:=(of_decide_eq_true hp0).2
 have q2:0≤a0f:=q2
 have q3:a0f < 100000:=q3
 have q4:0 < a0x:=q4
 have q5:a0x < 100000:=q5
 have q6:a0N.length < 100000:=q6
 have q7:a0T.length < 100000:=q7
 have hg:Dk.RGood (Dk.R.mk a1s a1o a1l):=Dk.rfine_iff.1 hf
 refine⟨400,?_⟩
 simp only [f24,ayi,asc,ayh,asd,ayg,ase]
 simp only [Jr.append,show Jr.RV.n (Dk.R.mk a1s a1o a1l)=(a1s.length:Int) from rfl]
 cases a0c with
 | true=>rfl
 | false=>
 simp only [cond_false]
 by_cases h1:(8000:Int) < (a2.length:Int)
 ·rw [show decide ((a2.length:Int) > (8000:Int))=true from decide_eq_true h1];rfl
 rw [show decide ((a2.length:Int) > (8000:Int))=false from decide_eq_false h1]
 simp only [cond_false]
 by_cases h2:a0x > (4096:Int)
 ·rw [decide_eq_true h2];rfl
 rw [decide_eq_false h2]
 simp only [cond_false,ayf,asf]
 rw [aK ⟨trivial,hn8⟩,bM (x:=(a1s.length:Int)-a0f) (by omega) (by omega)]
 by_cases h3:Jr.count (a2.length:Int) > (a1s.length:Int)-a0f
 ·rw [decide_eq_true h3];rfl
 rw [decide_eq_false h3]
 have hpk:Jr.pack a0x a2=(Jr.sectors a0x a2,0):=by
  unfold Jr.pack
  rw [ba (by omega),ba h1]
 have hct:=(Jr.count_ok (n:=a2.length) (by omega))
 have hsl:(Jr.sectors a0x a2).length=(Jr.count a2.length).toNat:=Jr.sectors_len _ _
 simp only [cond_false,aye,asg,ayd,ash,ayc,asi,ayb,asj,aya,asl,ax9,amz,amx,ax1,ax0,ajB,hpk]
 rw [aK (by omega),bM (x:=a0x+1) (by omega) (by omega)]
 have hfin:IntKind.i64.wrap (a0f+((Jr.sectors a0x a2).length:Int))=a0f+Jr.count (a2.length:Int):=by rw [bM (by omega) (by omega)];omega
 rw [hfin]
 generalize Jr.sectors a0x a2=L at *
 obtain⟨T,hT⟩:∃ T,T=Jr.writeAll Jr.RV (Dk.R.mk a1s a1o a1l) a0f L:=⟨_,rfl⟩
 rw [← hT]
 refine pv (fun m s=>∃ k:Nat,s=(a2,a0x,a0f,L,(k:Int),(Jr.writes Jr.RV a0f L k (Dk.R.mk a1s a1o a1l)).1,(Jr.J.mk a0N a0T a0B (a0x+1) (a0f+Jr.count (a2.length:Int)) false))∧m=L.length-k∧k≤L.length∧(Jr.writes Jr.RV a0f L k (Dk.R.mk a1s a1o a1l)).2=0) (fun m s K hi hk=>?_) 400 L.length _ (by omega) ⟨0,rfl,by omega,by omega,rfl⟩
 obtain⟨k,rfl,hm,hle,hz⟩:=hi
 obtain⟨wg,wl⟩:=Jr.writesR_good hg a0f L k
 have wl:(Jr.writes Jr.RV a0f L k (Dk.R.mk a1s a1o a1l)).1.s.length=a1s.length:=wl
 simp only [amy,Int.toNat_natCast,cH]
 by_cases hlt:k < L.length
 ·rw [aK (by omega),aK (by omega),aK ⟨trivial,by omega⟩,bM (x:=a0f+(k:Int)) (by omega) (by omega),bM (x:=(k:Int)+1) (by omega) (by omega)]
  have hs:=Jr.writes_succ (V:=Jr.RV) (a:=a0f) (L:=L) hz
  have hs':Dk.rwrite (Jr.writes Jr.RV a0f L k (Dk.R.mk a1s a1o a1l)).1 (a0f+k) (L.getD k [])=Jr.writes Jr.RV a0f L (k+1) (Dk.R.mk a1s a1o a1l):=hs.symm
  rw [hs']
  cases he:((Jr.writes Jr.RV a0f L (k+1) (Dk.R.mk a1s a1o a1l)).2 != 0) with
  | false=>
   rw [cond_false]
   exact hk (m-1) _ (by omega) ⟨k+1,rfl,by omega,by omega,by simpa using he⟩
  | true=>
   have hw:=Jr.writes_stop (V:=Jr.RV) (a:=a0f) (L:=L) (d:=(Dk.R.mk a1s a1o a1l)) (k:=k+1) (by simpa using he) (L.length-(k+1))
   rw [show k+1+(L.length-(k+1))=L.length by omega] at hw
   have hall:T=((Jr.writes Jr.RV a0f L (k+1) (Dk.R.mk a1s a1o a1l)).1,(Jr.writes Jr.RV a0f L (k+1) (Dk.R.mk a1s a1o a1l)).2,false):=by
    rw [hT,Jr.writeAll,hw,he];rfl
   rw [hall]
   simp only [he,cond_true]
 rw [ba (by omega)]
 have hkl:k=L.length:=by omega
 subst hkl
 obtain⟨w,hw⟩:∃ w,w=Jr.writes Jr.RV a0f L L.length (Dk.R.mk a1s a1o a1l):=⟨_,rfl⟩
 have hall:T=cond ((Dk.rflush w.1).2 != 0) ((Dk.rflush w.1).1,(Dk.rflush w.1).2,false) ((Dk.rflush w.1).1,(Jr.reads Jr.RV (Dk.rflush w.1).1 a0f L L.length).2,(Jr.reads Jr.RV (Dk.rflush w.1).1 a0f L L.length).1):=by
  rw [hT,Jr.writeAll,← hw,show((w.2 != 0)=false) by rw [hw,hz];rfl];rfl
 rw [← hw] at wg wl ⊢
 have hfw:Dk.rfine w.1=true:=Dk.rfine_iff.2 wg
 have hfl:=Jr.rflush_len w.1
 simp only [ax8,amA,ax7,amB,ax6,amC,ax5,amF,amD,ax3,ax2,ajC]
 rw [hfw,Bool.and_true,aK ⟨trivial,by omega⟩]
 cases hfe:((Dk.rflush w.1).2 != 0) with
 | true=>rw [hfe] at hall;rw [hall];simp only [hfe,cond_true]
 | false=>
 rw [hfe] at hall
 simp only [cond_false] at hall ⊢
 generalize (Dk.rflush w.1).1=e at *
 refine pv (fun m s=>∃ k:Nat,s=(a2,a0x,a0f,L,(Jr.reads Jr.RV e a0f L k).1,(k:Int),e,(Jr.J.mk a0N a0T a0B (a0x+1) (a0f+Jr.count (a2.length:Int)) false))∧m=L.length-k∧k≤L.length∧(Jr.reads Jr.RV e a0f L k).2=0) (fun m s K hi hk=>?_) 400 L.length _ (by omega) ⟨0,rfl,by omega,by omega,rfl⟩
 obtain⟨k,rfl,hm,hle,hz⟩:=hi
 simp only [amE,Int.toNat_natCast,cH]
 by_cases hlt:k < L.length
 ·rw [aK (by omega),aK ⟨trivial,by omega⟩,aK (by omega),bM (x:=a0f+(k:Int)) (by omega) (by omega),bM (x:=(k:Int)+1) (by omega) (by omega)]
  have hs:=Jr.reads_succ (V:=Jr.RV) (a:=a0f) (L:=L) hz
  rw [show Jr.RV.read e (a0f+k)=Dk.rread e (a0f+k) from rfl] at hs
  cases he:((Dk.rread e (a0f+k)).2 != 0) with
  | false=>
   rw [he,cond_false] at hs
   have hgo:K (a2,a0x,a0f,L,(Jr.reads Jr.RV e a0f L (k+1)).1,((k:Int)+1),e,(Jr.J.mk a0N a0T a0B (a0x+1) (a0f+Jr.count (a2.length:Int)) false))=_:=hk (m-1) _ (by omega) ⟨k+1,rfl,by omega,by omega,by rw [hs]⟩
   rw [hs] at hgo
   rw [← hgo]
   rw [show((Dk.rread e (a0f+(k:Int))).1==L.getD k [])=(L.getD k []==(Dk.rread e (a0f+(k:Int))).1) from Bool.eq_iff_iff.2 (by rw [beq_iff_eq,beq_iff_eq];exact eq_comm)]
   cases (Jr.reads Jr.RV e a0f L k).1 <;> rfl
  | true=>
   rw [he,cond_true] at hs
   have hw:=Jr.reads_stop (V:=Jr.RV) (a:=a0f) (L:=L) (d:=e) (k:=k+1) (by rw [hs];simpa using he) (L.length-(k+1))
   rw [show k+1+(L.length-(k+1))=L.length by omega,hs] at hw
   rw [hw] at hall
   rw [hall]
   simp only [he,cond_true]
 ·rw [ba (by omega)]
  have hkl:k=L.length:=by omega
  subst hkl
  rw [hz] at hall
  rw [hall]
  simp only [ax4]
  rw [show((0:Int) != 0)=false from rfl]
  cases (Jr.reads Jr.RV e a0f L L.length).1 with
  | false=>rfl
  | true=>
   simp only [Bool.not_true,cond_false]
   rw [aK (by omega),aK (by omega)]
theorem c24:CallOk Tryz.prog DW 24 r24:=Ao mixed tys beX Tryz.func24 (by kernel_rfl) (c:=sub (zZ Tryz.f24) []) (by kernel_rfl) (by
 intro X H r H' h hX hH
 unfold r24 at h;split at h <;> try contradiction
 ·obtain⟨hp,rfl,rfl⟩:=ik h
  obtain rfl:=bh (hH _ hm2) rfl
  obtain rfl:=bh (hH _ hm3) rfl
  obtain rfl:=bh (hH _ hm4) rfl
  obtain rfl:=bh (hH _ hm5) rfl
  obtain rfl:=(of_decide_eq_true (Bool.and_eq_true_iff.1 hp).1).1
  obtain⟨F,hF⟩:=s24 _ _ _ _ _ _ _ _ _ _ hp (hX _ hm1) (hH _ hm0) (hH _ hm1) (hH _ hm2) (hH _ hm3) (hH _ hm4) (hH _ hm5)
  exact⟨_,abC (aNp F) hF⟩)
end Go.Am
end
section
namespace Go.Am
open Go Go.Proofs
abbrev a9x:List (Nat×Md):=[(0,.plain),(4,.plain),(5,.own 79),(6,.plain)]
abbrev aGt:List (Nat×Md):=[(4,.plain),(5,.plain),(11,.plain),(12,.plain),(13,.plain),(14,.plain),(15,.plain),(16,.plain)]
abbrev a9y:List (Nat×Md):=[(0,.plain),(4,.plain),(5,.plain),(6,.plain)]
abbrev a9z:List (Nat×Md):=[(4,.plain),(5,.plain),(11,.plain),(12,.plain)]
abbrev a9A:List (Nat×Md):=[(4,.plain),(5,.plain),(11,.plain),(12,.plain),(13,.plain)]
abbrev a9B:List (Nat×Md):=[(4,.plain),(5,.plain),(11,.plain),(12,.plain),(13,.plain),(14,.plain)]
abbrev ahp:List (Nat×Md):=[(4,.plain),(5,.plain),(11,.plain),(12,.plain),(13,.plain),(14,.plain),(15,.plain)]
abbrev xa:List (Nat×Md):=[(4,.plain)]
abbrev aWR:=(List (List Li))×Bool×Int
abbrev D5:=Nat×Int×(List (List Li))×(Dk.R)×(Jr.J)
abbrev ayj:=Nat×(List (List Li))×(Dk.R)×(Jr.J)
abbrev aWS:=Nat×Int×(List (List Li))×Int×Int×Int×Li×Bool×(Dk.R)×(Jr.J)
abbrev aWT:=Nat×Int×Int×(List (List Li))×Int×Int×Int×Li×Bool×(Dk.R)×(Jr.J)
abbrev aWU:=Nat×Int×Int×Li×(List (List Li))×Int×Int×Int×Li×Bool×(Dk.R)×(Jr.J)
abbrev ahq:=Nat×Int×Int×Li×Bool×(List (List Li))×Int×Int×Int×Li×Bool×(Dk.R)×(Jr.J)
abbrev ajD:=Nat×Int×Int×Li×Bool×Int×(List (List Li))×Int×Int×Int×Li×Bool×(Dk.R)×(Jr.J)
def be0:List hI:=[(52,[none],r52),(54,[none],r54),(55,[none,none],r55),(56,[none],r56),(57,[none],r57),(58,[some 3,none],r58)]
def V22:Env:=dL fP DW be0
noncomputable abbrev uZ:=ij V22 none (Tryz.f22).results.toList
theorem be1:EOk Tryz.prog V22:=bL (by exact⟨c52,c54.more uP,c55.more uP,c56.more uP,c57.more uP,c58.more uP,trivial⟩)
def be3(F:Nat):Cuts:={ F:=F,at_:=fun n=>match n with | 4042=>some a9x | 19053=>some zN | 25014=>some aGt | _=>none,join:=fun n=>match n with | 1112=>some q8 | 2110=>some YX | 3108=>some VQ | 4044=>some a9y | 18061=>some VR | 19059=>some zN | 20047=>some zN | 21044=>some a9z | 22042=>some a9A | 23040=>some a9B | 24038=>some ahp | 25016=>some aGt | 30019=>some ahp | 37003=>some xa | _=>none }
abbrev u3(F n:Nat){σ:Type}(e:σ→St)(K:Ex→St→Rz)(N:σ→Rz):=Qe V22 (be3 F) (bp Tryz.f22 n) e K N
def aNq:aWR→St:=fun (a,b,c)=>hS [pS 0 0 3] [rB a.length 1 b c,tB a] 189 2
def ayk:(Dk.R)→St:=fun a=>hS [pS 0 0 3] [rB a.s.length 1 a.off a.left,tB a.s] 189 2
def ayl:(Dk.R)×(Jr.J)→St:=fun (a,b)=>hS [pS 0 0 3,pS 4 2 7] [rB a.s.length 1 a.off a.left,tB a.s,jE 0 3 3 4 5 b,iB b.nums,sB b.texts,iB b.bad] 189 2
def amG:(Dk.R)×(Jr.J)→St:=fun (a,b)=>hS [pS 0 0 3,pS 4 2 7,(5,.ns)] [rB a.s.length 1 a.off a.left,tB a.s,jE 0 3 3 4 5 b,iB b.nums,sB b.texts,iB b.bad] 189 2
def aym:Int×(Dk.R)×(Jr.J)→St:=fun (c,a,b)=>hS [pS 0 0 3,pS 4 2 7,(5,.ns),iS 6 c] [rB a.s.length 1 a.off a.left,tB a.s,jE 0 3 3 4 5 b,iB b.nums,sB b.texts,iB b.bad] 189 2
def aNr:D5→St:=fun (c,d,e,a,b)=>hS [pS 0 0 3,pS 4 2 7,(5,.own 3 c 5),iS 6 d] [rB a.s.length 1 a.off a.left,tB a.s,jE 0 3 4 5 6 b,z7 c e,iB b.nums,sB b.texts,iB b.bad] 189 2
def P9:ayj→St:=fun (c,d,a,b)=>hS [pS 4 2 7,(5,.own 3 c 5)] [rB a.s.length 1 a.off a.left,tB a.s,jE 0 3 4 5 6 b,z7 c d,iB b.nums,sB b.texts,iB b.bad] 189 2
def abL:D5→St:=fun (c,d,e,a,b)=>hS [pS 4 2 7,(5,.own 3 c 5),iS 11 d] [rB a.s.length 1 a.off a.left,tB a.s,jE 0 3 4 5 6 b,z7 c e,iB b.nums,sB b.texts,iB b.bad] 189 2
def rc:D5→St:=abL
def amH:D5→St:=abL
def ayn:aWS→St:=fun (c,d,e,f,g,h,i,j,a,b)=>hS [pS 4 2 7,(5,.own 3 c 5),iS 11 d,pS 12 4 5] [rB a.s.length 1 a.off a.left,tB a.s,jE 0 3 5 6 7 b,z7 c e,z1 f g h i j,iB b.nums,sB b.texts,iB b.bad] 189 2
def ayo:aWT→St:=fun (c,d,e,f,g,h,i,j,k,a,b)=>hS [pS 4 2 7,(5,.own 3 c 5),iS 11 d,pS 12 4 5,iS 13 e] [rB a.s.length 1 a.off a.left,tB a.s,jE 0 3 5 6 7 b,z7 c f,z1 g h i j k,iB b.nums,sB b.texts,iB b.bad] 189 2
def ao7:aWU→St:=fun (c,d,e,f,g,h,i,j,k,l,a,b)=>hS [pS 4 2 7,(5,.own 3 c 5),iS 11 d,pS 12 4 5,iS 13 e,(14,.str f)] [rB a.s.length 1 a.off a.left,tB a.s,jE 0 3 5 6 7 b,z7 c g,z1 h i j k l,iB b.nums,sB b.texts,iB b.bad] 189 2
def abM:ahq→St:=fun (c,d,e,f,g,h,i,j,k,l,m,a,b)=>hS [pS 4 2 7,(5,.own 3 c 5),iS 11 d,pS 12 4 5,iS 13 e,(14,.str f),(15,.bool g)] [rB a.s.length 1 a.off a.left,tB a.s,jE 0 3 5 6 7 b,z7 c h,z1 i j k l m,iB b.nums,sB b.texts,iB b.bad] 189 2
def ail:ajD→St:=fun (c,d,e,f,g,h,i,j,k,l,m,n,a,b)=>hS [pS 4 2 7,(5,.own 3 c 5),iS 11 d,pS 12 4 5,iS 13 e,(14,.str f),(15,.bool g),iS 16 h] [rB a.s.length 1 a.off a.left,tB a.s,jE 0 3 5 6 7 b,z7 c i,z1 j k l m n,iB b.nums,sB b.texts,iB b.bad] 189 2
def aNs:ajD→St:=ail
def KG:ahq→St:=abM
def ob:(Dk.R)×(Jr.J)→St:=fun (a,b)=>hS [pS 4 2 7] [rB a.s.length 1 a.off a.left,tB a.s,jE 0 3 3 4 5 b,iB b.nums,sB b.texts,iB b.bad] 189 2
def asm(F:Nat)(a:(Dk.R)→Rz):aWR→Rz:=fun (b,c,d)=>(a (Dk.R.mk b c d))
theorem aWV F Rj1:u3 F 2 aNq (kq V22 Rj1 q8 uZ) (asm F (Rj1∘ayk)):=fun _=>by kernel_rfl
def asn(F:Nat)(a:(Dk.R)×(Jr.J)→Rz):(Dk.R)→Rz:=fun b=>(a (b,(Jr.J.mk [] [] [] (1:Int) (0:Int) false)))
theorem aWW F Rj2:u3 F 6 ayk (kq V22 Rj2 YX uZ) (asn F (Rj2∘ayl)):=fun _=>by kernel_rfl
def aso(F:Nat)(a:(Dk.R)×(Jr.J)→Rz):(Dk.R)×(Jr.J)→Rz:=fun (b,c)=>(a (b,c))
theorem aWX F Rj3:u3 F 14 ayl (kq V22 Rj3 VQ uZ) (aso F (Rj3∘amG)):=fun _=>by kernel_rfl
def asp(F:Nat)(a:Int×(Dk.R)×(Jr.J)→Rz)(d:ayj→Rz):(Dk.R)×(Jr.J)→Rz:=fun (b,c)=>(a ((0:Int),b,c))
theorem aWY F Rj4 Rj5:u3 F 60 amG (kq V22 Rj4 a9y (kq V22 Rj5 VR uZ)) (asp F (Rj4∘aym) (Rj5∘P9)):=fun _=>by kernel_rfl
def amI(F:Nat)(f:D5→Rz)(g:ayj→Rz):D5→Rz:=fun (d,b,e,a,c)=>(cond (decide (a.s.length=a.s.length∧a.s.length < 8000)) (cond (decide (b < (a.s.length:Int))) (cond (decide (a.s.length=a.s.length∧a.s.length < 8000)) (cond ((Dk.rread a b).2 != (0:Int)) (some ((.tup (.cons 0 .nilp (.cons 0 (.int .i64 (Dk.rread a b).2) .nil))),[(rB a.s.length 1 a.off a.left),(tB a.s)])) (cond (decide ((d+1) < 1073741824)) (cond (!(Jr.blank (Dk.rread a b).1)) (cond (!(Jr.unpack (Dk.rread a b).1).ok) (cond (!(Jr.blank (Dk.rread a b).1)) (cond (decide ((c.bad.length+1) < 1073741824)) (cond (decide ((Jr.unpack (Dk.rread a b).1).number≥c.next)) (f ((d+1),(IntKind.i64.wrap (b+(1:Int))),(e++[[[(Jr.unpack (Dk.rread a b).1).number],[(Jr.unpack (Dk.rread a b).1).part],[(Jr.unpack (Dk.rread a b).1).left],(Jr.unpack (Dk.rread a b).1).payload,[(cond (Jr.unpack (Dk.rread a b).1).ok 1 0)]]]),a,(Jr.J.mk c.nums c.texts (c.bad++[b]) (IntKind.i64.wrap ((Jr.unpack (Dk.rread a b).1).number+(1:Int))) (IntKind.i64.wrap (b+(1:Int))) c.closed))) (f ((d+1),(IntKind.i64.wrap (b+(1:Int))),(e++[[[(Jr.unpack (Dk.rread a b).1).number],[(Jr.unpack (Dk.rread a b).1).part],[(Jr.unpack (Dk.rread a b).1).left],(Jr.unpack (Dk.rread a b).1).payload,[(cond (Jr.unpack (Dk.rread a b).1).ok 1 0)]]]),a,(Jr.J.mk c.nums c.texts (c.bad++[b]) c.next (IntKind.i64.wrap (b+(1:Int))) c.closed)))) none) (cond (decide ((Jr.unpack (Dk.rread a b).1).number≥c.next)) (f ((d+1),(IntKind.i64.wrap (b+(1:Int))),(e++[[[(Jr.unpack (Dk.rread a b).1).number],[(Jr.unpack (Dk.rread a b).1).part],[(Jr.unpack (Dk.rread a b).1).left],(Jr.unpack (Dk.rread a b).1).payload,[(cond (Jr.unpack (Dk.rread a b).1).ok 1 0)]]]),a,(Jr.J.mk c.nums c.texts c.bad (IntKind.i64.wrap ((Jr.unpack (Dk.rread a b).1).number+(1:Int))) (IntKind.i64.wrap (b+(1:Int))) c.closed))) (f ((d+1),(IntKind.i64.wrap (b+(1:Int))),(e++[[[(Jr.unpack (Dk.rread a b).1).number],[(Jr.unpack (Dk.rread a b).1).part],[(Jr.unpack (Dk.rread a b).1).left],(Jr.unpack (Dk.rread a b).1).payload,[(cond (Jr.unpack (Dk.rread a b).1).ok 1 0)]]]),a,(Jr.J.mk c.nums c.texts c.bad c.next (IntKind.i64.wrap (b+(1:Int))) c.closed))))) (cond (decide ((Jr.unpack (Dk.rread a b).1).number≥c.next)) (f ((d+1),(IntKind.i64.wrap (b+(1:Int))),(e++[[[(Jr.unpack (Dk.rread a b).1).number],[(Jr.unpack (Dk.rread a b).1).part],[(Jr.unpack (Dk.rread a b).1).left],(Jr.unpack (Dk.rread a b).1).payload,[(cond (Jr.unpack (Dk.rread a b).1).ok 1 0)]]]),a,(Jr.J.mk c.nums c.texts c.bad (IntKind.i64.wrap ((Jr.unpack (Dk.rread a b).1).number+(1:Int))) (IntKind.i64.wrap (b+(1:Int))) c.closed))) (f ((d+1),(IntKind.i64.wrap (b+(1:Int))),(e++[[[(Jr.unpack (Dk.rread a b).1).number],[(Jr.unpack (Dk.rread a b).1).part],[(Jr.unpack (Dk.rread a b).1).left],(Jr.unpack (Dk.rread a b).1).payload,[(cond (Jr.unpack (Dk.rread a b).1).ok 1 0)]]]),a,(Jr.J.mk c.nums c.texts c.bad c.next (IntKind.i64.wrap (b+(1:Int))) c.closed))))) (cond (!(Jr.unpack (Dk.rread a b).1).ok) (cond (!(Jr.blank (Dk.rread a b).1)) (cond (decide ((c.bad.length+1) < 1073741824)) (cond (decide ((Jr.unpack (Dk.rread a b).1).number≥c.next)) (f ((d+1),(IntKind.i64.wrap (b+(1:Int))),(e++[[[(Jr.unpack (Dk.rread a b).1).number],[(Jr.unpack (Dk.rread a b).1).part],[(Jr.unpack (Dk.rread a b).1).left],(Jr.unpack (Dk.rread a b).1).payload,[(cond (Jr.unpack (Dk.rread a b).1).ok 1 0)]]]),a,(Jr.J.mk c.nums c.texts (c.bad++[b]) (IntKind.i64.wrap ((Jr.unpack (Dk.rread a b).1).number+(1:Int))) c.fin c.closed))) (f ((d+1),(IntKind.i64.wrap (b+(1:Int))),(e++[[[(Jr.unpack (Dk.rread a b).1).number],[(Jr.unpack (Dk.rread a b).1).part],[(Jr.unpack (Dk.rread a b).1).left],(Jr.unpack (Dk.rread a b).1).payload,[(cond (Jr.unpack (Dk.rread a b).1).ok 1 0)]]]),a,(Jr.J.mk c.nums c.texts (c.bad++[b]) c.next c.fin c.closed)))) none) (cond (decide ((Jr.unpack (Dk.rread a b).1).number≥c.next)) (f ((d+1),(IntKind.i64.wrap (b+(1:Int))),(e++[[[(Jr.unpack (Dk.rread a b).1).number],[(Jr.unpack (Dk.rread a b).1).part],[(Jr.unpack (Dk.rread a b).1).left],(Jr.unpack (Dk.rread a b).1).payload,[(cond (Jr.unpack (Dk.rread a b).1).ok 1 0)]]]),a,(Jr.J.mk c.nums c.texts c.bad (IntKind.i64.wrap ((Jr.unpack (Dk.rread a b).1).number+(1:Int))) c.fin c.closed))) (f ((d+1),(IntKind.i64.wrap (b+(1:Int))),(e++[[[(Jr.unpack (Dk.rread a b).1).number],[(Jr.unpack (Dk.rread a b).1).part],[(Jr.unpack (Dk.rread a b).1).left],(Jr.unpack (Dk.rread a b).1).payload,[(cond (Jr.unpack (Dk.rread a b).1).ok 1 0)]]]),a,c)))) (cond (decide ((Jr.unpack (Dk.rread a b).1).number≥c.next)) (f ((d+1),(IntKind.i64.wrap (b+(1:Int))),(e++[[[(Jr.unpack (Dk.rread a b).1).number],[(Jr.unpack (Dk.rread a b).1).part],[(Jr.unpack (Dk.rread a b).1).left],(Jr.unpack (Dk.rread a b).1).payload,[(cond (Jr.unpack (Dk.rread a b).1).ok 1 0)]]]),a,(Jr.J.mk c.nums c.texts c.bad (IntKind.i64.wrap ((Jr.unpack (Dk.rread a b).1).number+(1:Int))) c.fin c.closed))) (f ((d+1),(IntKind.i64.wrap (b+(1:Int))),(e++[[[(Jr.unpack (Dk.rread a b).1).number],[(Jr.unpack (Dk.rread a b).1).part],[(Jr.unpack (Dk.rread a b).1).left],(Jr.unpack (Dk.rread a b).1).payload,[(cond (Jr.unpack (Dk.rread a b).1).ok 1 0)]]]),a,c))))) none)) none) (g (d,e,a,c))) none)
theorem aWZ F Rl1 Rj5:u3 F 244 aNr (kq V22 Rl1 a9x (aV 0 (kq V22 Rj5 VR uZ))) (amI F (Rl1∘aNr) (Rj5∘P9)):=fun _=>by kernel_rfl
def ao8:Int×(Dk.R)×(Jr.J)→Nat×Int×(List (List Li))×(Dk.R)×(Jr.J):=fun (a,b,c)=>(0,a,[],b,c)
def aGu(F:Nat)(a:ayj→Rz):Int×(Dk.R)×(Jr.J)→Rz:=fun v=>eT (fun k=>amI F k a) F (ao8 v)
theorem aW0 F Rj5:u3 F 122 aym (aV 0 (kq V22 Rj5 VR uZ)) (aGu F (Rj5∘P9)):=lpC ao8 (fun k=>amI F k (Rj5∘P9)) (fun Rl1=>aWZ F Rl1 Rj5)
def aGv(F:Nat)(a):=aGu F a
theorem aW1 F Rj5:u3 F 61 aym (kq V22 Rj5 VR uZ) (aGv F (Rj5∘P9)):=biC (aW0 F Rj5)
def asq(F:Nat)(a):=asp F (aGv F a) a
theorem aW2 F Rj5:u3 F 30 amG (kq V22 Rj5 VR uZ) (asq F (Rj5∘P9)):=sqC (fun k=>asp F k (Rj5∘P9)) (fun Rj4=>aWY F Rj4 Rj5) (aW1 F Rj5)
def asr(F:Nat)(a:D5→Rz):ayj→Rz:=fun (b,c,d,e)=>(a (b,(0:Int),c,d,e))
theorem aW3 F Rj6:u3 F 62 P9 (kq V22 Rj6 zN uZ) (asr F (Rj6∘abL)):=fun _=>by kernel_rfl
def amJ(F:Nat)(e h:D5→Rz)(f:(Dk.R)×(Jr.J)→Rz):D5→Rz:=fun (a,b,g,c,d)=>(cond (decide (b < (↑a:Int))) (e (a,b,g,c,d)) (f (c,d)))
theorem aNt F Rj7 Rl2 Rj14:u3 F 1008 rc (kq V22 Rj7 zN (kq V22 Rl2 zN (aV 2 (kq V22 Rj14 xa uZ)))) (amJ F (Rj7∘amH) (Rl2∘rc) (Rj14∘ob)):=fun _=>by kernel_rfl
def amK(F:Nat)(d:aWS→Rz)(g:D5→Rz)(h:(Dk.R)×(Jr.J)→Rz):D5→Rz:=fun (c,a,b,e,f)=>(cond ((decide (0≤a))&&(decide (a < (↑c:Int)))) (d (c,a,b,(((b.getD (Int.toNat a) []).getD 0 []).getD 0 0),(((b.getD (Int.toNat a) []).getD 1 []).getD 0 0),(((b.getD (Int.toNat a) []).getD 2 []).getD 0 0),((b.getD (Int.toNat a) []).getD 3 []),((((b.getD (Int.toNat a) []).getD 4 []).getD 0 0)==1),e,f)) none)
theorem aNu F Rj8 Rl2 Rj14:u3 F 4036 amH (kq V22 Rj8 a9z (aV 3 (kq V22 Rl2 zN (aV 2 (kq V22 Rj14 xa uZ))))) (amK F (Rj8∘ayn) (Rl2∘rc) (Rj14∘ob)):=fun _=>by kernel_rfl
def amL(F:Nat)(b:aWT→Rz)(l:D5→Rz)(m:(Dk.R)×(Jr.J)→Rz):aWS→Rz:=fun (c,d,e,f,g,a,h,i,j,k)=>(b (c,d,(Jr.count a),e,f,g,a,h,i,j,k))
theorem aNv F Rj9 Rl2 Rj14:u3 F 8074 ayn (kq V22 Rj9 a9A (aV 3 (kq V22 Rl2 zN (aV 2 (kq V22 Rj14 xa uZ))))) (amL F (Rj9∘ayo) (Rl2∘rc) (Rj14∘ob)):=fun _=>by kernel_rfl
def amM(F:Nat)(a:aWU→Rz)(m:D5→Rz)(n:(Dk.R)×(Jr.J)→Rz):aWT→Rz:=fun (b,c,d,e,f,g,h,i,j,k,l)=>(a (b,c,d,[],e,f,g,h,i,j,k,l))
theorem aNw F Rj10 Rl2 Rj14:u3 F 16150 ayo (kq V22 Rj10 a9B (aV 3 (kq V22 Rl2 zN (aV 2 (kq V22 Rj14 xa uZ))))) (amM F (Rj10∘ao7) (Rl2∘rc) (Rj14∘ob)):=fun _=>by kernel_rfl
def amN(F:Nat)(f:ahq→Rz)(n:D5→Rz)(o:(Dk.R)×(Jr.J)→Rz):aWU→Rz:=fun (a,b,c,g,h,i,d,j,k,e,l,m)=>(cond e (cond (d==(0:Int)) (f (a,b,c,g,(decide ((IntKind.i64.wrap (b+c))≤(↑a:Int))),h,i,d,j,k,e,l,m)) (f (a,b,c,g,false,h,i,d,j,k,e,l,m))) (f (a,b,c,g,false,h,i,d,j,k,e,l,m)))
theorem aNx F Rj11 Rl2 Rj14:u3 F 32302 ao7 (kq V22 Rj11 ahp (aV 3 (kq V22 Rl2 zN (aV 2 (kq V22 Rj14 xa uZ))))) (amN F (Rj11∘abM) (Rl2∘rc) (Rj14∘ob)):=fun _=>by kernel_rfl
def amO(F:Nat)(a:ajD→Rz)(o:ahq→Rz)(p:D5→Rz)(q:(Dk.R)×(Jr.J)→Rz):ahq→Rz:=fun (b,c,d,e,f,g,h,i,j,k,l,m,n)=>(a (b,c,d,e,f,(0:Int),g,h,i,j,k,l,m,n))
theorem aNy F Rj12 Rj13 Rl2 Rj14:u3 F 129212 abM (kq V22 Rj12 aGt (kq V22 Rj13 ahp (aV 3 (kq V22 Rl2 zN (aV 2 (kq V22 Rj14 xa uZ)))))) (amO F (Rj12∘ail) (Rj13∘KG) (Rl2∘rc) (Rj14∘ob)):=fun _=>by kernel_rfl
def amP(F:Nat)(n:ajD→Rz)(p:ahq→Rz)(q:D5→Rz)(r:(Dk.R)×(Jr.J)→Rz):ajD→Rz:=fun (e,b,f,d,o,a,c,g,i,h,j,k,l,m)=>(cond o (cond (decide (a < f)) (cond ((decide (0≤(IntKind.i64.wrap (b+a))))&&(decide ((IntKind.i64.wrap (b+a)) < (↑e:Int)))) (cond ((((c.getD (Int.toNat (IntKind.i64.wrap (b+a))) []).getD 4 []).getD 0 0)==1) (cond ((((c.getD (Int.toNat (IntKind.i64.wrap (b+a))) []).getD 0 []).getD 0 0)==g) (cond ((((c.getD (Int.toNat (IntKind.i64.wrap (b+a))) []).getD 1 []).getD 0 0)==a) (cond (decide ((d.length+((c.getD (Int.toNat (IntKind.i64.wrap (b+a))) []).getD 3 []).length) < 4611686018427387904)) (n (e,b,f,(d++((c.getD (Int.toNat (IntKind.i64.wrap (b+a))) []).getD 3 [])),((((c.getD (Int.toNat (IntKind.i64.wrap (b+a))) []).getD 2 []).getD 0 0)==(IntKind.i64.wrap (h-(IntKind.i64.wrap ((48:Int)*a))))),(IntKind.i64.wrap (a+(1:Int))),c,g,i,h,j,k,l,m)) none) (cond (decide ((d.length+((c.getD (Int.toNat (IntKind.i64.wrap (b+a))) []).getD 3 []).length) < 4611686018427387904)) (n (e,b,f,(d++((c.getD (Int.toNat (IntKind.i64.wrap (b+a))) []).getD 3 [])),false,(IntKind.i64.wrap (a+(1:Int))),c,g,i,h,j,k,l,m)) none)) (cond (decide ((d.length+((c.getD (Int.toNat (IntKind.i64.wrap (b+a))) []).getD 3 []).length) < 4611686018427387904)) (n (e,b,f,(d++((c.getD (Int.toNat (IntKind.i64.wrap (b+a))) []).getD 3 [])),false,(IntKind.i64.wrap (a+(1:Int))),c,g,i,h,j,k,l,m)) none)) (cond (decide ((d.length+((c.getD (Int.toNat (IntKind.i64.wrap (b+a))) []).getD 3 []).length) < 4611686018427387904)) (n (e,b,f,(d++((c.getD (Int.toNat (IntKind.i64.wrap (b+a))) []).getD 3 [])),false,(IntKind.i64.wrap (a+(1:Int))),c,g,i,h,j,k,l,m)) none)) none) (p (e,b,f,d,o,c,g,i,h,j,k,l,m))) (p (e,b,f,d,o,c,g,i,h,j,k,l,m)))
theorem aNz F Rl3 Rj13 Rl2 Rj14:u3 F 516852 aNs (kq V22 Rl3 aGt (aV 4 (kq V22 Rj13 ahp (aV 3 (kq V22 Rl2 zN (aV 2 (kq V22 Rj14 xa uZ))))))) (amP F (Rl3∘aNs) (Rj13∘KG) (Rl2∘rc) (Rj14∘ob)):=fun _=>by kernel_rfl
def ajE:ajD→Nat×Int×Int×Li×Bool×Int×(List (List Li))×Int×Int×Int×Li×Bool×(Dk.R)×(Jr.J):=fun (a,b,c,d,e,f,g,h,i,j,k,l,m,n)=>(a,b,c,d,e,f,g,h,i,j,k,l,m,n)
def ayp(F:Nat)(a:ahq→Rz)(b:D5→Rz)(c:(Dk.R)×(Jr.J)→Rz):ajD→Rz:=fun v=>eT (fun k=>amP F k a b c) F (ajE v)
theorem aNA F Rj13 Rl2 Rj14:u3 F 258426 ail (aV 4 (kq V22 Rj13 ahp (aV 3 (kq V22 Rl2 zN (aV 2 (kq V22 Rj14 xa uZ)))))) (ayp F (Rj13∘KG) (Rl2∘rc) (Rj14∘ob)):=lpC ajE (fun k=>amP F k (Rj13∘KG) (Rl2∘rc) (Rj14∘ob)) (fun Rl3=>aNz F Rl3 Rj13 Rl2 Rj14)
def ayq(F:Nat)(a)(b)(c):=ayp F a b c
theorem aNB F Rj13 Rl2 Rj14:u3 F 129213 ail (kq V22 Rj13 ahp (aV 3 (kq V22 Rl2 zN (aV 2 (kq V22 Rj14 xa uZ))))) (ayq F (Rj13∘KG) (Rl2∘rc) (Rj14∘ob)):=biC (aNA F Rj13 Rl2 Rj14)
def amQ(F:Nat)(a)(b)(c):=amO F (ayq F a b c) a b c
theorem aNC F Rj13 Rl2 Rj14:u3 F 64606 abM (kq V22 Rj13 ahp (aV 3 (kq V22 Rl2 zN (aV 2 (kq V22 Rj14 xa uZ))))) (amQ F (Rj13∘KG) (Rl2∘rc) (Rj14∘ob)):=sqC (fun k=>amO F k (Rj13∘KG) (Rl2∘rc) (Rj14∘ob)) (fun Rj12=>aNy F Rj12 Rj13 Rl2 Rj14) (aNB F Rj13 Rl2 Rj14)
def amR(F:Nat)(b:D5→Rz)(k:(Dk.R)×(Jr.J)→Rz):ahq→Rz:=fun (c,d,g,i,j,e,h,l,m,n,o,f,a)=>(cond (!j) (b (c,(IntKind.i64.wrap (d+(1:Int))),e,f,a)) (cond (!(a.nums.contains h)) (cond (decide ((a.nums.length+1) < 1073741824)) (cond (decide ((a.texts.length+1) < 1073741824)) (b (c,(IntKind.i64.wrap (d+g)),e,f,(Jr.J.mk (a.nums++[h]) (a.texts++[i]) a.bad a.next a.fin a.closed))) none) none) (b (c,(IntKind.i64.wrap (d+g)),e,f,a))))
theorem aND F Rl2 Rj14:u3 F 64607 KG (aV 3 (kq V22 Rl2 zN (aV 2 (kq V22 Rj14 xa uZ)))) (amR F (Rl2∘rc) (Rj14∘ob)):=fun _=>by kernel_rfl
def amS(F:Nat)(a)(b):=amQ F (amR F a b) a b
theorem aNE F Rl2 Rj14:u3 F 32303 abM (aV 3 (kq V22 Rl2 zN (aV 2 (kq V22 Rj14 xa uZ)))) (amS F (Rl2∘rc) (Rj14∘ob)):=sqC (fun k=>amQ F k (Rl2∘rc) (Rj14∘ob)) (fun Rj13=>aNC F Rj13 Rl2 Rj14) (aND F Rl2 Rj14)
def ayr(F:Nat)(a)(b):=amN F (amS F a b) a b
theorem aNF F Rl2 Rj14:u3 F 16151 ao7 (aV 3 (kq V22 Rl2 zN (aV 2 (kq V22 Rj14 xa uZ)))) (ayr F (Rl2∘rc) (Rj14∘ob)):=sqC (fun k=>amN F k (Rl2∘rc) (Rj14∘ob)) (fun Rj11=>aNx F Rj11 Rl2 Rj14) (aNE F Rl2 Rj14)
def ays(F:Nat)(a)(b):=amM F (ayr F a b) a b
theorem aNG F Rl2 Rj14:u3 F 8075 ayo (aV 3 (kq V22 Rl2 zN (aV 2 (kq V22 Rj14 xa uZ)))) (ays F (Rl2∘rc) (Rj14∘ob)):=sqC (fun k=>amM F k (Rl2∘rc) (Rj14∘ob)) (fun Rj10=>aNw F Rj10 Rl2 Rj14) (aNF F Rl2 Rj14)
def ayt(F:Nat)(a)(b):=amL F (ays F a b) a b
theorem aNH F Rl2 Rj14:u3 F 4037 ayn (aV 3 (kq V22 Rl2 zN (aV 2 (kq V22 Rj14 xa uZ)))) (ayt F (Rl2∘rc) (Rj14∘ob)):=sqC (fun k=>amL F k (Rl2∘rc) (Rj14∘ob)) (fun Rj9=>aNv F Rj9 Rl2 Rj14) (aNG F Rl2 Rj14)
def ayu(F:Nat)(a)(b):=amK F (ayt F a b) a b
theorem aNI F Rl2 Rj14:u3 F 2018 amH (aV 3 (kq V22 Rl2 zN (aV 2 (kq V22 Rj14 xa uZ)))) (ayu F (Rl2∘rc) (Rj14∘ob)):=sqC (fun k=>amK F k (Rl2∘rc) (Rj14∘ob)) (fun Rj8=>aNu F Rj8 Rl2 Rj14) (aNH F Rl2 Rj14)
def ayv(F:Nat)(a)(b):=ayu F a b
theorem aNJ F Rl2 Rj14:u3 F 1009 amH (kq V22 Rl2 zN (aV 2 (kq V22 Rj14 xa uZ))) (ayv F (Rl2∘rc) (Rj14∘ob)):=biC (aNI F Rl2 Rj14)
def amT(F:Nat)(a)(b):=amJ F (ayv F a b) a b
theorem aNK F Rl2 Rj14:u3 F 504 rc (kq V22 Rl2 zN (aV 2 (kq V22 Rj14 xa uZ))) (amT F (Rl2∘rc) (Rj14∘ob)):=sqC (fun k=>amJ F k (Rl2∘rc) (Rj14∘ob)) (fun Rj7=>aNt F Rj7 Rl2 Rj14) (aNJ F Rl2 Rj14)
def ajF:D5→Nat×Int×(List (List Li))×(Dk.R)×(Jr.J):=fun (a,b,c,d,e)=>(a,b,c,d,e)
def ayw(F:Nat)(a:(Dk.R)×(Jr.J)→Rz):D5→Rz:=fun v=>eT (fun k=>amT F k a) F (ajF v)
theorem aNL F Rj14:u3 F 252 abL (aV 2 (kq V22 Rj14 xa uZ)) (ayw F (Rj14∘ob)):=lpC ajF (fun k=>amT F k (Rj14∘ob)) (fun Rl2=>aNK F Rl2 Rj14)
def amU(F:Nat)(a):=ayw F a
theorem aNM F Rj14:u3 F 126 abL (kq V22 Rj14 xa uZ) (amU F (Rj14∘ob)):=biC (aNL F Rj14)
def abN(F:Nat):(Dk.R)×(Jr.J)→Rz:=fun (a,b)=>(some ((.tup (.cons 0 (.ptr 2 0 7 0 0 0 7) (.cons 0 (.int .i64 0) .nil))),[(rB a.s.length 1 a.off a.left),(tB a.s),(jE 0 3 3 4 5 b),(iB b.nums),(sB b.texts),(iB b.bad)]))
theorem aNN F:u3 F 127 ob uZ (abN F):=fun _=>by kernel_rfl
def ayx(F:Nat):=amU F (abN F)
theorem aNO F:u3 F 63 abL uZ (ayx F):=sqC (amU F) (fun Rj14=>aNM F Rj14) (aNN F)
def ayy(F:Nat):=asr F (ayx F)
theorem aNP F:u3 F 31 P9 uZ (ayy F):=sqC (asr F) (fun Rj6=>aW3 F Rj6) (aNO F)
def ayz(F:Nat):=asq F (ayy F)
theorem aNQ F:u3 F 15 amG uZ (ayz F):=sqC (asq F) (fun Rj5=>aW2 F Rj5) (aNP F)
def ayA(F:Nat):=aso F (ayz F)
theorem aNR F:u3 F 7 ayl uZ (ayA F):=sqC (aso F) (fun Rj3=>aWX F Rj3) (aNQ F)
def ayB(F:Nat):=asn F (ayA F)
theorem aNS F:u3 F 3 ayk uZ (ayB F):=sqC (asn F) (fun Rj2=>aWW F Rj2) (aNR F)
def ayC(F:Nat):=asm F (ayB F)
theorem aNT F:u3 F 1 aNq uZ (ayC F):=sqC (asm F) (fun Rj1=>aWV F Rj1) (aNS F)
def f22(F:Nat):aWR→Rz:=ayC F
def r22:eP:=fun X H=>match X,H with
 | [(.ptr 0 0 3 0 0 0 3)],[(.cells 3 (.segs (.cons 1 (.one (.own 1 a0n 4)) (.cons 1 (.one (.bool a0o)) (.cons 1 (.one (.int .i64 a0l)) .nil)))) true),(.cells z1 (.rT [.str,.str,.bool,.bool] a0s) true)]=>some ((decide (a0n=a0s.length∧a0n < 8000))&&((Dk.rfine (Dk.R.mk a0s a0o a0l))&&(!(Dk.R.mk a0s a0o a0l).off)),(.tup (.cons 0 (.ptr 2 0 7 0 0 0 7) (.cons 0 (.int .i64 0) .nil))),[(rB (Dk.R.mk a0s a0o a0l).s.length 1 (Dk.R.mk a0s a0o a0l).off (Dk.R.mk a0s a0o a0l).left),(.cells ((Dk.R.mk a0s a0o a0l).s.length*4) (.rT [.str,.str,.bool,.bool] (Dk.R.mk a0s a0o a0l).s) true),(jE 0 3 3 4 5 (Jr.openS (Jr.secsR (Dk.R.mk a0s a0o a0l)))),(.cells (Jr.openS (Jr.secsR (Dk.R.mk a0s a0o a0l))).nums.length (.rI .i64 (Jr.openS (Jr.secsR (Dk.R.mk a0s a0o a0l))).nums) true),(.cells (Jr.openS (Jr.secsR (Dk.R.mk a0s a0o a0l))).texts.length (.rS (Jr.openS (Jr.secsR (Dk.R.mk a0s a0o a0l))).texts) true),(.cells (Jr.openS (Jr.secsR (Dk.R.mk a0s a0o a0l))).bad.length (.rI .i64 (Jr.openS (Jr.secsR (Dk.R.mk a0s a0o a0l))).bad) true)])
 | _,_=>none
theorem s22(a0s:List (List Li))(a0o:Bool)(a0l:Int)(hp:((decide (a0s.length=a0s.length∧a0s.length < 8000))&&((Dk.rfine (Dk.R.mk a0s a0o a0l))&&(!(Dk.R.mk a0s a0o a0l).off)))=true)(k0:okB (rB a0s.length 1 a0o a0l))(k1:okB (tB a0s)):∃ F,f22 F (a0s,a0o,a0l)=some ((.tup (.cons 0 (.ptr 2 0 7 0 0 0 7) (.cons 0 (.int .i64 0) .nil))),[(rB (Dk.R.mk a0s a0o a0l).s.length 1 (Dk.R.mk a0s a0o a0l).off (Dk.R.mk a0s a0o a0l).left),(.cells ((Dk.R.mk a0s a0o a0l).s.length*4) (.rT [.str,.str,.bool,.bool] (Dk.R.mk a0s a0o a0l).s) true),(jE 0 3 3 4 5 (Jr.openS (Jr.secsR (Dk.R.mk a0s a0o a0l)))),(.cells (Jr.openS (Jr.secsR (Dk.R.mk a0s a0o a0l))).nums.length (.rI .i64 (Jr.openS (Jr.secsR (Dk.R.mk a0s a0o a0l))).nums) true),(.cells (Jr.openS (Jr.secsR (Dk.R.mk a0s a0o a0l))).texts.length (.rS (Jr.openS (Jr.secsR (Dk.R.mk a0s a0o a0l))).texts) true),(.cells (Jr.openS (Jr.secsR (Dk.R.mk a0s a0o a0l))).bad.length (.rI .i64 (Jr.openS (Jr.secsR (Dk.R.mk a0s a0o a0l))).bad) true)]):=by
 obtain⟨hp0,hp⟩:=Bool.and_eq_true_iff.1 hp
 obtain⟨hf,ho⟩:=Bool.and_eq_true_iff.1 hp
 have ho:a0o=false:=by simpa using ho
 have hn8:a0s.length < 8000:=(of_decide_eq_true hp0).2
 have hg:Dk.RGood (Dk.R.mk a0s a0o a0l):=Dk.rfine_iff.1 hf
 have hrd:=fun i (h:i < a0s.length)=>Jr.rread_ok (r:=Dk.R.mk a0s a0o a0l) hg ho (Jr.okT k1) (i:=i) h
 have hSl:(Jr.secsR (Dk.R.mk a0s a0o a0l)).length=a0s.length:=by simp [Jr.secsR]
 obtain⟨S,hS⟩:∃ S,S=Jr.secsR (Dk.R.mk a0s a0o a0l):=⟨_,rfl⟩
 rw [← hS] at hSl hrd ⊢
 have hSb:∀ s∈S,∀ x∈s,0≤x:=fun s hs x hx=>by
  obtain⟨i,hi,rfl⟩:=List.mem_iff_getElem.1 hs
  obtain⟨_,_,h3,h4⟩:=hrd i (by omega)
  rw [List.getD_eq_getElem?_getD,List.getElem?_eq_getElem hi] at h4
  rw [h4] at h3
  exact(h3 x hx).1
 refine⟨8001,?_⟩
 simp only [f22,ayC,asm,ayB,asn,ayA,aso,ayz,asq,asp,aGv,aGu,ao8]
 refine iR (fun i=>(i,(i:Int),Jr.rowsOf (S.take i),(Dk.R.mk a0s a0o a0l),Jr.J.mk [] [] (Jr.badOf S i) (Jr.nextOf S i) (Jr.finOf S i) false)) a0s.length rfl (fun i hi q=>?_) (fun q=>?_) 8001 (by omega)
 ·obtain⟨h1,h2,h3,h4⟩:=hrd i hi
  have hg:S.getD i []=(Dk.rread (Dk.R.mk a0s a0o a0l) (i:Int)).1:=h4.symm
  have hrow:Jr.rowsOf (S.take (i+1))=Jr.rowsOf (S.take i)++[(Jr.unpack (Dk.rread (Dk.R.mk a0s a0o a0l) (i:Int)).1).row]:=by
   rw [← hg,List.take_add_one,Jr.rowsOf,List.map_append,List.getElem?_eq_getElem (by omega),List.getD_eq_getElem?_getD,List.getElem?_eq_getElem (by omega)];rfl
  have hnx:Jr.nextOf S (i+1)=if (Jr.unpack (S.getD i [])).number+1 > Jr.nextOf S i then (Jr.unpack (S.getD i [])).number+1 else Jr.nextOf S i:=rfl
  have hfn:Jr.finOf S (i+1)=cond (Jr.blank (S.getD i [])) (Jr.finOf S i) ((i:Int)+1):=rfl
  have hbl:=Jr.badOf_len S i
  simp only [amI]
  rw [aK ⟨trivial,hn8⟩,aK (by omega),aK ⟨trivial,hn8⟩,h1]
  simp only [hrow,hnx,hfn,Jr.badOf_succ,hg]
  have hnum:=Jr.unpack_num (Dk.rread (Dk.R.mk a0s a0o a0l) (i:Int)).1 (fun x hx=>(h3 x hx).1)
  rw [show(((0:Int) != 0)=false) from rfl,cond_false,aK (by omega),bM (x:=(i:Int)+1) (by omega) (by omega),bM (x:=(Jr.unpack (Dk.rread (Dk.R.mk a0s a0o a0l) (i:Int)).1).number+1) (by omega) (by omega)]
  rw [aK (show(Jr.badOf S i).length+1 < 1073741824 by omega)]
  by_cases hge:(Jr.unpack (Dk.rread (Dk.R.mk a0s a0o a0l) (i:Int)).1).number≥Jr.nextOf S i
  ·rw [decide_eq_true hge,if_pos (by omega)]
   cases Jr.blank (Dk.rread (Dk.R.mk a0s a0o a0l) (i:Int)).1 <;> cases hk:(Jr.unpack (Dk.rread (Dk.R.mk a0s a0o a0l) (i:Int)).1).ok <;> simp only [Bool.not_false,Bool.not_true,cond_true,cond_false,Bool.and_true,Bool.and_false,Bool.true_and,Bool.false_and,List.append_nil,Jr.Part.row,hk,Jr.b2i] <;> rfl
  ·rw [decide_eq_false hge,if_neg (by omega)]
   cases Jr.blank (Dk.rread (Dk.R.mk a0s a0o a0l) (i:Int)).1 <;> cases hk:(Jr.unpack (Dk.rread (Dk.R.mk a0s a0o a0l) (i:Int)).1).ok <;> simp only [Bool.not_false,Bool.not_true,cond_true,cond_false,Bool.and_true,Bool.and_false,Bool.true_and,Bool.false_and,List.append_nil,Jr.Part.row,hk,Jr.b2i] <;> rfl
 simp only [amI]
 rw [aK ⟨trivial,hn8⟩,ba (by omega),List.take_of_length_le (by omega)]
 simp only [ayy,asr,ayx,amU,ayw,ajF]
 have hopen:Jr.openS S=Jr.J.mk (Jr.collect (S.map Jr.unpack) a0s.length 0 ([],[])).1 (Jr.collect (S.map Jr.unpack) a0s.length 0 ([],[])).2 (Jr.badOf S a0s.length) (Jr.nextOf S a0s.length) (Jr.finOf S a0s.length) false:=by rw [Jr.openS,hSl]
 rw [hopen]
 obtain⟨T,hT⟩:∃ T,T=Jr.collect (S.map Jr.unpack) a0s.length 0 ([],[]):=⟨_,rfl⟩
 rw [← hT]
 obtain⟨RES,hR⟩:∃ RES,RES=abN 8001 ((Dk.R.mk a0s a0o a0l),Jr.J.mk T.1 T.2 (Jr.badOf S a0s.length) (Jr.nextOf S a0s.length) (Jr.finOf S a0s.length) false):=⟨_,rfl⟩
 show _=abN 8001 ((Dk.R.mk a0s a0o a0l),Jr.J.mk T.1 T.2 (Jr.badOf S a0s.length) (Jr.nextOf S a0s.length) (Jr.finOf S a0s.length) false)
 rw [← hR]
 have hrl:(Jr.rowsOf S).length=a0s.length:=by simp [Jr.rowsOf,hSl]
 have hlm:(S.map Jr.unpack).length=a0s.length:=by rw [List.length_map,hSl]
 refine pv (fun m s=>∃ (k:Nat) (a:List Int×List Li),s=(a0s.length,(k:Int),Jr.rowsOf S,(Dk.R.mk a0s a0o a0l),Jr.J.mk a.1 a.2 (Jr.badOf S a0s.length) (Jr.nextOf S a0s.length) (Jr.finOf S a0s.length) false)∧k≤a0s.length∧a0s.length-k≤m∧a.1.length≤k∧a.2.length≤k∧Jr.collect (S.map Jr.unpack) m k a=T) (fun m s K hi hk=>?_) 8001 a0s.length _ (by omega) ⟨0,([],[]),rfl,by omega,by omega,by simp,by simp,hT.symm⟩
 obtain⟨k,a,rfl,hle,hm,hl1,hl2,hc⟩:=hi
 simp only [amT,amJ]
 by_cases hlt:k < a0s.length
 ·obtain⟨m',rfl⟩:∃ m',m=m'+1:=⟨m-1,by omega⟩
  rw [aK (by omega)]
  have hP:=Jr.pt_S (S:=S) (j:=k) (by omega)
  have hlk:(Jr.pt (S.map Jr.unpack) k).ok=true→0≤(Jr.pt (S.map Jr.unpack) k).left∧(Jr.pt (S.map Jr.unpack) k).left≤8000:=by
   intro h
   rw [hP] at h ⊢
   exact Jr.unpack_left _ (fun x hx=>by
    have hm:S.getD k []∈S:=by rw [List.getD_eq_getElem?_getD,List.getElem?_eq_getElem (by omega)];exact List.getElem_mem _
    exact hSb _ hm x hx) h
  obtain⟨cn1,cn2⟩:=Jr.count_nn (Jr.pt (S.map Jr.unpack) k).left
  have hN:((Jr.recN (S.map Jr.unpack) k:Nat):Int)=Jr.count (Jr.pt (S.map Jr.unpack) k).left:=by rw [Jr.recN];omega
  rw [Jr.collect,aK (show k < (S.map Jr.unpack).length by omega)] at hc
  simp only [ayv,ayu,amK,ayt,amL,ays,amM,ayr,amN,Int.toNat_natCast,cH]
  rw [aK (by omega)]
  simp only [Jr.rows_get (S:=S) (j:=k) (by omega),Jr.Part.row,List.getD_cons_zero,List.getD_cons_succ,Jr.b2i_one]
  have hpl:∀ i,(Jr.pt (S.map Jr.unpack) i).payload.length≤48:=fun i=>by
   rcases Nat.lt_or_ge i S.length with h | h
   ·rw [Jr.pt_S h];exact Jr.unpack_short _
   ·rw [Jr.pt,List.getD_eq_getElem?_getD,List.getElem?_eq_none (by rw [List.length_map];omega)];exact Nat.zero_le _
  have hfin:∀ (w:Bool) (t:Li),w=Jr.recOk (S.map Jr.unpack) k→(w=true→t=Jr.recText (S.map Jr.unpack) k (Jr.recN (S.map Jr.unpack) k)) →
    amR 8001 K (abN 8001) (a0s.length,(k:Int),Jr.count (Jr.pt (S.map Jr.unpack) k).left,t,w,Jr.rowsOf S,(Jr.pt (S.map Jr.unpack) k).number,(Jr.pt (S.map Jr.unpack) k).part,(Jr.pt (S.map Jr.unpack) k).left,(Jr.pt (S.map Jr.unpack) k).payload,(Jr.pt (S.map Jr.unpack) k).ok,(Dk.R.mk a0s a0o a0l),Jr.J.mk a.1 a.2 (Jr.badOf S a0s.length) (Jr.nextOf S a0s.length) (Jr.finOf S a0s.length) false)=RES:=by
   intro w t hw ht
   simp only [amR]
   rw [← hw] at hc
   cases w with
   | false=>
    rw [cond_false] at hc
    simp only [Bool.not_false,cond_true]
    rw [bM (x:=(k:Int)+1) (by omega) (by omega)]
    exact hk m' _ (by omega) ⟨k+1,a,rfl,by omega,by omega,by omega,by omega,hc⟩
   | true=>
    obtain⟨r1,r2⟩:=Jr.recN_pos hSb hw.symm
    rw [cond_true] at hc
    simp only [Bool.not_true,cond_false]
    rw [ht rfl,bM (x:=(k:Int)+Jr.count (Jr.pt (S.map Jr.unpack) k).left) (by omega) (by omega),← hN]
    simp only [Jr.put1] at hc
    cases hcn:a.1.contains (Jr.pt (S.map Jr.unpack) k).number with
    | true=>
     rw [hcn,cond_true] at hc
     simp only [Bool.not_true,cond_false]
     exact hk m' _ (by omega) ⟨k+Jr.recN (S.map Jr.unpack) k,a,by simp,by omega,by omega,by omega,by omega,hc⟩
    | false=>
     rw [hcn,cond_false] at hc
     simp only [Bool.not_false,cond_true]
     rw [aK (by omega),aK (by omega)]
     exact hk m' _ (by omega) ⟨k+Jr.recN (S.map Jr.unpack) k,(a.1++[(Jr.pt (S.map Jr.unpack) k).number],a.2++[Jr.recText (S.map Jr.unpack) k (Jr.recN (S.map Jr.unpack) k)]),by simp,by omega,by omega,by simp only [List.length_append,List.length_singleton];omega,by simp only [List.length_append,List.length_singleton];omega,hc⟩
  have hin:∀ w0:Bool,w0=((Jr.pt (S.map Jr.unpack) k).ok&&decide ((Jr.pt (S.map Jr.unpack) k).part=0∧k+Jr.recN (S.map Jr.unpack) k≤(S.map Jr.unpack).length)) →
    amS 8001 K (abN 8001) (a0s.length,(k:Int),Jr.count (Jr.pt (S.map Jr.unpack) k).left,[],w0,Jr.rowsOf S,(Jr.pt (S.map Jr.unpack) k).number,(Jr.pt (S.map Jr.unpack) k).part,(Jr.pt (S.map Jr.unpack) k).left,(Jr.pt (S.map Jr.unpack) k).payload,(Jr.pt (S.map Jr.unpack) k).ok,(Dk.R.mk a0s a0o a0l),Jr.J.mk a.1 a.2 (Jr.badOf S a0s.length) (Jr.nextOf S a0s.length) (Jr.finOf S a0s.length) false)=RES:=by
   intro w0 hw0
   have hrec:Jr.recOk (S.map Jr.unpack) k=(w0&&(List.range (Jr.recN (S.map Jr.unpack) k)).all (Jr.partOk (S.map Jr.unpack) k)):=by rw [Jr.recOk,hw0]
   simp only [amS,amQ,amO,ayq,ayp,ajE]
   refine pv (fun m s=>∃ (i:Nat) (w:Bool) (t:Li),s=(a0s.length,(k:Int),Jr.count (Jr.pt (S.map Jr.unpack) k).left,t,w,(i:Int),Jr.rowsOf S,(Jr.pt (S.map Jr.unpack) k).number,(Jr.pt (S.map Jr.unpack) k).part,(Jr.pt (S.map Jr.unpack) k).left,(Jr.pt (S.map Jr.unpack) k).payload,(Jr.pt (S.map Jr.unpack) k).ok,(Dk.R.mk a0s a0o a0l),Jr.J.mk a.1 a.2 (Jr.badOf S a0s.length) (Jr.nextOf S a0s.length) (Jr.finOf S a0s.length) false) ∧
    m=Jr.recN (S.map Jr.unpack) k-i∧i≤Jr.recN (S.map Jr.unpack) k∧w=(w0&&(List.range i).all (Jr.partOk (S.map Jr.unpack) k))∧(w=true→t=Jr.recText (S.map Jr.unpack) k i)) (fun m s K2 hi2 hk2=>?_) 8001 (Jr.recN (S.map Jr.unpack) k) _ (by omega) ⟨0,w0,[],rfl,by omega,by omega,by simp,fun _=>rfl⟩
   obtain⟨i,w,t,rfl,hm2,hi2,hw,ht⟩:=hi2
   simp only [amP]
   cases hwc:w with
   | false=>
    rw [cond_false]
    refine hfin false t ?_ (fun h=>by cases h)
    rw [hrec]
    rw [hwc] at hw
    cases hc0:w0 with
    | false=>rfl
    | true=>
     rw [hc0,Bool.true_and] at hw
     rw [Bool.true_and]
     symm
     rw [← Bool.not_eq_true,List.all_eq_true]
     intro hall
     have:(List.range i).all (Jr.partOk (S.map Jr.unpack) k)=true:=List.all_eq_true.2 fun j hj=>hall j (by rw [List.mem_range] at hj ⊢;omega)
     rw [this] at hw;cases hw
   | true=>
    rw [cond_true]
    subst hwc
    have hw0t:w0=true:=by
     cases hc0:w0 with
     | true=>rfl
     | false=>rw [hc0,Bool.false_and] at hw;cases hw
    have h5:=hw0
    rw [hw0t] at h5
    have h6:=h5.symm
    rw [Bool.and_eq_true,decide_eq_true_eq] at h6
    obtain⟨hok,hpart,hroom⟩:=h6
    rw [hlm] at hroom
    by_cases hin:i < Jr.recN (S.map Jr.unpack) k
    ·rw [aK (by omega),bM (x:=(k:Int)+(i:Int)) (by omega) (by omega),cH,aK (by omega)]
     have htl:t.length≤48*i:=by rw [ht rfl];exact Jr.recText_len hpl k i
     have hpi:=hpl (k+i)
     have hgi:(Jr.rowsOf S).getD (Int.toNat ((k:Int)+(i:Int))) []=(Jr.pt (S.map Jr.unpack) (k+i)).row:=by
      rw [show Int.toNat ((k:Int)+(i:Int))=k+i by omega];exact Jr.rows_get (by omega)
     simp only [hgi,Jr.Part.row,List.getD_cons_zero,List.getD_cons_succ,Jr.b2i_one]
     obtain⟨l1,l2⟩:=hlk hok
     rw [bM (x:=(48:Int)*(i:Int)) (by omega) (by omega),bM (x:=(Jr.pt (S.map Jr.unpack) k).left-48*(i:Int)) (by omega) (by omega),bM (x:=(i:Int)+1) (by omega) (by omega),aK (by omega)]
     have hgo:∀ w':Bool,w'=Jr.partOk (S.map Jr.unpack) k i→K2 (a0s.length,(k:Int),Jr.count (Jr.pt (S.map Jr.unpack) k).left,t++(Jr.pt (S.map Jr.unpack) (k+i)).payload,w',(i:Int)+1,Jr.rowsOf S,(Jr.pt (S.map Jr.unpack) k).number,(Jr.pt (S.map Jr.unpack) k).part,(Jr.pt (S.map Jr.unpack) k).left,(Jr.pt (S.map Jr.unpack) k).payload,(Jr.pt (S.map Jr.unpack) k).ok,(Dk.R.mk a0s a0o a0l),Jr.J.mk a.1 a.2 (Jr.badOf S a0s.length) (Jr.nextOf S a0s.length) (Jr.finOf S a0s.length) false)=RES:=fun w' hw'=>
      hk2 (m-1) _ (by omega) ⟨i+1,w',_,rfl,by omega,by omega,by rw [Jr.all_range_succ,← Bool.and_assoc,← hw,Bool.true_and,hw'],fun _=>by rw [Jr.recText_succ,← ht rfl]⟩
     have hpo:Jr.partOk (S.map Jr.unpack) k i=((Jr.pt (S.map Jr.unpack) (k+i)).ok&&((Jr.pt (S.map Jr.unpack) (k+i)).number==(Jr.pt (S.map Jr.unpack) k).number&&((Jr.pt (S.map Jr.unpack) (k+i)).part==(i:Int)&&(Jr.pt (S.map Jr.unpack) (k+i)).left==(Jr.pt (S.map Jr.unpack) k).left-48*(i:Int)))):=by
      rw [Jr.partOk,Bool.eq_iff_iff]
      simp only [Bool.and_eq_true,decide_eq_true_eq,beq_iff_eq]
     rw [hpo] at hgo
     generalize (Jr.pt (S.map Jr.unpack) (k+i)).ok=b1 at hgo ⊢
     generalize ((Jr.pt (S.map Jr.unpack) (k+i)).number==(Jr.pt (S.map Jr.unpack) k).number)=b2 at hgo ⊢
     generalize ((Jr.pt (S.map Jr.unpack) (k+i)).part==(i:Int))=b3 at hgo ⊢
     generalize ((Jr.pt (S.map Jr.unpack) (k+i)).left==(Jr.pt (S.map Jr.unpack) k).left-48*(i:Int))=b4 at hgo ⊢
     cases b1
     ·rw [cond_false,aK (by omega)];exact hgo false rfl
     cases b2
     ·rw [cond_true,cond_false,aK (by omega)];exact hgo false rfl
     cases b3
     ·rw [cond_true,cond_true,cond_false,aK (by omega)];exact hgo false rfl
     rw [cond_true,cond_true,cond_true]
     exact hgo b4 (by cases b4 <;> rfl)
    ·rw [ba (by omega)]
     have hie:i=Jr.recN (S.map Jr.unpack) k:=by omega
     subst hie
     exact hfin true t (by rw [hrec,← hw]) ht
  cases h1:(Jr.pt (S.map Jr.unpack) k).ok with
  | false=>
   rw [cond_false]
   have:=hin false (by rw [h1];rfl)
   rw [h1] at this
   exact this
  | true=>
   rw [cond_true]
   by_cases h2:(Jr.pt (S.map Jr.unpack) k).part=0
   ·rw [show((Jr.pt (S.map Jr.unpack) k).part==0)=true by simpa using h2,cond_true,bM (x:=(k:Int)+Jr.count (Jr.pt (S.map Jr.unpack) k).left) (by omega) (by omega)]
    have:=hin (decide ((k:Int)+Jr.count (Jr.pt (S.map Jr.unpack) k).left≤(a0s.length:Int))) (by rw [h1,Bool.true_and,decide_eq_decide,hlm];omega)
    rw [h1] at this
    exact this
   ·rw [show((Jr.pt (S.map Jr.unpack) k).part==0)=false by simpa using h2,cond_false]
    have:=hin false (by rw [h1,Bool.true_and];symm;exact decide_eq_false (fun h=>h2 h.1))
    rw [h1] at this
    exact this
 ·rw [ba (by omega)]
  have:k=a0s.length:=by omega
  subst this
  have hTa:T=a:=by
   rw [← hc]
   cases m with
   | zero=>rfl
   | succ m=>rw [Jr.collect,ba (by omega)]
  rw [hR,hTa]
theorem c22:CallOk Tryz.prog DW 22 r22:=Ao mixed tys be1 Tryz.func22 (by kernel_rfl) (c:=sub (zZ Tryz.f22) []) (by kernel_rfl) (by
 intro X H r H' h hX hH
 unfold r22 at h;split at h <;> try contradiction
 ·obtain⟨hp,rfl,rfl⟩:=ik h
  obtain rfl:=bh (hH _ hm1) rfl
  obtain rfl:=(of_decide_eq_true (Bool.and_eq_true_iff.1 hp).1).1
  obtain⟨F,hF⟩:=s22 _ _ _ hp (hH _ hm0) (hH _ hm1)
  exact⟨_,abC (aNT F) hF⟩)
end Go.Am
end
section
namespace Go.Am
open Go Go.Proofs
abbrev aW4:=Li×(List Li)×Li×Int×Int×Bool×Nat×Li×(Lp)×(Lp)×Bool×Int×Li×(List Li)×Li×Int×Int×Bool×(List (List Li))×Bool×Int
abbrev afV:=(List (List Li))×Nat×(List (List Li))×Nat×Int×Int
def be5:List hI:=[(10,[some 9,some 9],r10),(11,[none],r11),(12,[none],r12),(35,[none],r35),(36,[some 3,some 3],r36),(37,[none],r37),(38,[none],r38),(42,[none],r42),(59,[none],r59),(60,[none],r60)]
def V23:Env:=dL fP dM be5
noncomputable abbrev be6:=ij V23 none (Tryz.f23).results.toList
theorem be7:EOk Tryz.prog V23:=bL (by exact⟨c10,c11,c12,c35,c36,c37,c38,c42,c59,c60,trivial⟩)
def be9(F:Nat):Cuts:={ F:=F,at_:=fun _=>none,join:=fun _=>none }
abbrev bfa(F n:Nat){σ:Type}(e:σ→St)(K:Ex→St→Rz)(N:σ→Rz):=Qe V23 (be9 F) (bp Tryz.f23 n) e K N
def a9C:aW4→St:=fun (b,c,d,e,f,g,h,i,j,k,l,m,n,o,p,q,r,s,a,t,u)=>hS [pS 0 0 7,pS 1 1 7] [jB 2 5 3 4 5 e f g,jB 6 3 7 8 9 q r s,dB 10 h 11 12 l m,iB b,iB d,sB c,rB a.length 13 t u,iB n,sB o,iB p,bB i,pB j,wB k,tB a] 65 14
def aGw(F:Nat):aW4→Rz:=fun (a,b,c,d,e,f,m,o,p,q,r,t,g,h,i,j,k,l,u,v,w)=>(cond (decide ((Jr.J.mk a b c d e f).nums.length < 1073741000)) (cond (decide ((Jr.J.mk a b c d e f).nums.length < 1073741824)) (cond ((Jr.J.mk a b c d e f).nums==g) (cond (decide ((Jr.J.mk a b c d e f).texts.length < 1073741000)) (cond (decide ((Jr.J.mk a b c d e f).texts.length < 1073741824)) (cond ((Jr.J.mk a b c d e f).texts==h) (cond (decide ((Jr.J.mk a b c d e f).nums.length < 1073741000∧(Jr.J.mk a b c d e f).next < 100000)) (cond ((decide (u.length=u.length∧u.length < 8000))&&((decide ((Jr.J.mk g h i j k l).nums.length < 1073741000∧(Jr.J.mk g h i j k l).next < 100000)))) (cond (decide ((Jr.damaged (Jr.J.mk a b c d e f)).length < 1073741824)) (cond ((Jr.damaged (Jr.J.mk a b c d e f))==(Jr.damaged (Jr.J.mk g h i j k l))) (cond (decide ((Jr.J.mk a b c d e f).bad.length < 1073741000)) (cond (decide ((Jr.J.mk a b c d e f).bad.length < 1073741824)) (cond ((Jr.J.mk a b c d e f).bad==(Jr.J.mk g h i j k l).bad) (cond ((Jr.J.mk a b c d e f).next==(Jr.J.mk g h i j k l).next) (cond (decide ((Dk.R.mk u v w).s.length=(Dk.R.mk u v w).s.length∧(Dk.R.mk u v w).s.length < 8000)) (some ((.bool ((IntKind.i64.wrap (((Dk.D.mk m o p q r t).n:Int)-(Jr.J.mk a b c d e f).fin))==(IntKind.i64.wrap (((Dk.R.mk u v w).s.length:Int)-(Jr.J.mk g h i j k l).fin)))),[(jE 2 5 3 4 5 (Jr.J.mk a b c d e f)),(jE 6 3 7 8 9 (Jr.J.mk g h i j k l)),(dE 10 (Dk.D.mk m o p q r t) 11 12),(.cells (Jr.J.mk a b c d e f).nums.length (.rI .i64 (Jr.J.mk a b c d e f).nums) true),(.cells (Jr.J.mk a b c d e f).bad.length (.rI .i64 (Jr.J.mk a b c d e f).bad) true),(.cells (Jr.J.mk a b c d e f).texts.length (.rS (Jr.J.mk a b c d e f).texts) true),(rB (Dk.R.mk u v w).s.length 13 (Dk.R.mk u v w).off (Dk.R.mk u v w).left),(.cells (Jr.J.mk g h i j k l).nums.length (.rI .i64 (Jr.J.mk g h i j k l).nums) true),(.cells (Jr.J.mk g h i j k l).texts.length (.rS (Jr.J.mk g h i j k l).texts) true),(.cells (Jr.J.mk g h i j k l).bad.length (.rI .i64 (Jr.J.mk g h i j k l).bad) true),(.cells (Dk.D.mk m o p q r t).blk.length (.rI .u8 (Dk.D.mk m o p q r t).blk) true),(pB (Dk.D.mk m o p q r t).pend),(wB (Dk.D.mk m o p q r t).worn),(.cells ((Dk.R.mk u v w).s.length*4) (.rT [.str,.str,.bool,.bool] (Dk.R.mk u v w).s) true)])) none) (some ((.bool false),[(jE 2 5 3 4 5 (Jr.J.mk a b c d e f)),(jE 6 3 7 8 9 (Jr.J.mk g h i j k l)),(dE 10 (Dk.D.mk m o p q r t) 11 12),(.cells (Jr.J.mk a b c d e f).nums.length (.rI .i64 (Jr.J.mk a b c d e f).nums) true),(.cells (Jr.J.mk a b c d e f).bad.length (.rI .i64 (Jr.J.mk a b c d e f).bad) true),(.cells (Jr.J.mk a b c d e f).texts.length (.rS (Jr.J.mk a b c d e f).texts) true),(rB (Dk.R.mk u v w).s.length 13 (Dk.R.mk u v w).off (Dk.R.mk u v w).left),(.cells (Jr.J.mk g h i j k l).nums.length (.rI .i64 (Jr.J.mk g h i j k l).nums) true),(.cells (Jr.J.mk g h i j k l).texts.length (.rS (Jr.J.mk g h i j k l).texts) true),(.cells (Jr.J.mk g h i j k l).bad.length (.rI .i64 (Jr.J.mk g h i j k l).bad) true),(.cells (Dk.D.mk m o p q r t).blk.length (.rI .u8 (Dk.D.mk m o p q r t).blk) true),(pB (Dk.D.mk m o p q r t).pend),(wB (Dk.D.mk m o p q r t).worn),(.cells ((Dk.R.mk u v w).s.length*4) (.rT [.str,.str,.bool,.bool] (Dk.R.mk u v w).s) true)]))) (some ((.bool false),[(jE 2 5 3 4 5 (Jr.J.mk a b c d e f)),(jE 6 3 7 8 9 (Jr.J.mk g h i j k l)),(dE 10 (Dk.D.mk m o p q r t) 11 12),(.cells (Jr.J.mk a b c d e f).nums.length (.rI .i64 (Jr.J.mk a b c d e f).nums) true),(.cells (Jr.J.mk a b c d e f).bad.length (.rI .i64 (Jr.J.mk a b c d e f).bad) true),(.cells (Jr.J.mk a b c d e f).texts.length (.rS (Jr.J.mk a b c d e f).texts) true),(rB (Dk.R.mk u v w).s.length 13 (Dk.R.mk u v w).off (Dk.R.mk u v w).left),(.cells (Jr.J.mk g h i j k l).nums.length (.rI .i64 (Jr.J.mk g h i j k l).nums) true),(.cells (Jr.J.mk g h i j k l).texts.length (.rS (Jr.J.mk g h i j k l).texts) true),(.cells (Jr.J.mk g h i j k l).bad.length (.rI .i64 (Jr.J.mk g h i j k l).bad) true),(.cells (Dk.D.mk m o p q r t).blk.length (.rI .u8 (Dk.D.mk m o p q r t).blk) true),(pB (Dk.D.mk m o p q r t).pend),(wB (Dk.D.mk m o p q r t).worn),(.cells ((Dk.R.mk u v w).s.length*4) (.rT [.str,.str,.bool,.bool] (Dk.R.mk u v w).s) true)]))) none) none) (some ((.bool false),[(jE 2 5 3 4 5 (Jr.J.mk a b c d e f)),(jE 6 3 7 8 9 (Jr.J.mk g h i j k l)),(dE 10 (Dk.D.mk m o p q r t) 11 12),(.cells (Jr.J.mk a b c d e f).nums.length (.rI .i64 (Jr.J.mk a b c d e f).nums) true),(.cells (Jr.J.mk a b c d e f).bad.length (.rI .i64 (Jr.J.mk a b c d e f).bad) true),(.cells (Jr.J.mk a b c d e f).texts.length (.rS (Jr.J.mk a b c d e f).texts) true),(rB (Dk.R.mk u v w).s.length 13 (Dk.R.mk u v w).off (Dk.R.mk u v w).left),(.cells (Jr.J.mk g h i j k l).nums.length (.rI .i64 (Jr.J.mk g h i j k l).nums) true),(.cells (Jr.J.mk g h i j k l).texts.length (.rS (Jr.J.mk g h i j k l).texts) true),(.cells (Jr.J.mk g h i j k l).bad.length (.rI .i64 (Jr.J.mk g h i j k l).bad) true),(.cells (Dk.D.mk m o p q r t).blk.length (.rI .u8 (Dk.D.mk m o p q r t).blk) true),(pB (Dk.D.mk m o p q r t).pend),(wB (Dk.D.mk m o p q r t).worn),(.cells ((Dk.R.mk u v w).s.length*4) (.rT [.str,.str,.bool,.bool] (Dk.R.mk u v w).s) true)]))) none) none) none) (some ((.bool false),[(jE 2 5 3 4 5 (Jr.J.mk a b c d e f)),(jB 6 3 7 8 9 j k l),(dE 10 (Dk.D.mk m o p q r t) 11 12),(.cells (Jr.J.mk a b c d e f).nums.length (.rI .i64 (Jr.J.mk a b c d e f).nums) true),(.cells (Jr.J.mk a b c d e f).bad.length (.rI .i64 (Jr.J.mk a b c d e f).bad) true),(.cells (Jr.J.mk a b c d e f).texts.length (.rS (Jr.J.mk a b c d e f).texts) true),(rB u.length 13 v w),(iB g),(sB h),(iB i),(.cells (Dk.D.mk m o p q r t).blk.length (.rI .u8 (Dk.D.mk m o p q r t).blk) true),(pB (Dk.D.mk m o p q r t).pend),(wB (Dk.D.mk m o p q r t).worn),(tB u)]))) none) none) (some ((.bool false),[(jE 2 5 3 4 5 (Jr.J.mk a b c d e f)),(jB 6 3 7 8 9 j k l),(dE 10 (Dk.D.mk m o p q r t) 11 12),(.cells (Jr.J.mk a b c d e f).nums.length (.rI .i64 (Jr.J.mk a b c d e f).nums) true),(.cells (Jr.J.mk a b c d e f).bad.length (.rI .i64 (Jr.J.mk a b c d e f).bad) true),(.cells (Jr.J.mk a b c d e f).texts.length (.rS (Jr.J.mk a b c d e f).texts) true),(rB u.length 13 v w),(iB g),(sB h),(iB i),(.cells (Dk.D.mk m o p q r t).blk.length (.rI .u8 (Dk.D.mk m o p q r t).blk) true),(pB (Dk.D.mk m o p q r t).pend),(wB (Dk.D.mk m o p q r t).worn),(tB u)]))) none) none)
theorem aW5 F:bfa F 1 a9C be6 (aGw F):=fun _=>by kernel_rfl
def f23(F:Nat):aW4→Rz:=aGw F
def r23:eP:=fun X H=>match X,H with
 | [(.ptr 0 0 7 0 0 0 7),.ptr 1 0 7 0 0 0 7],[b0,b1,b2,b3,b4,b5,b6,b7,b8,b9,b10,b11,b12,b13]=>(match b0 with
 | (.cells 7 (.segs (.cons 1 (.one (.ptr 2 0 5 0 0 0 5)) (.cons 1 (.one (.own 3 0 1)) (.cons 1 (.one (.own 4 0 1)) (.cons 1 (.one (.own 5 0 1)) (.cons 1 (.one (.int .i64 a0x)) (.cons 1 (.one (.int .i64 a0f)) (.cons 1 (.one (.bool a0c)) .nil)))))))) true)=>(match b1 with
 | (.cells 7 (.segs (.cons 1 (.one (.ptr 6 0 3 0 0 0 3)) (.cons 1 (.one (.own 7 0 1)) (.cons 1 (.one (.own 8 0 1)) (.cons 1 (.one (.own 9 0 1)) (.cons 1 (.one (.int .i64 a2x)) (.cons 1 (.one (.int .i64 a2f)) (.cons 1 (.one (.bool a2c)) .nil)))))))) true)=>(match b2 with
 | (.cells 5 (.segs (.cons 1 (.one (.own 10 a1n 64)) (.cons 1 (.one (.mp 11)) (.cons 1 (.one (.mp 12)) (.cons 1 (.one (.bool a1o)) (.cons 1 (.one (.int .i64 a1l)) .nil)))))) true)=>(match b3 with
 | (.cells z3 (.rI .i64 a0N) true)=>(match b4 with
 | (.cells z4 (.rI .i64 a0B) true)=>(match b5 with
 | (.cells z5 (.rS a0T) true)=>(match b6 with
 | (.cells 3 (.segs (.cons 1 (.one (.own 13 a3n 4)) (.cons 1 (.one (.bool a3o)) (.cons 1 (.one (.int .i64 a3l)) .nil)))) true)=>(match b7 with
 | (.cells z7 (.rI .i64 a2N) true)=>(match b8 with
 | (.cells z8 (.rS a2T) true)=>(match b9 with
 | (.cells z9 (.rI .i64 a2B) true)=>(match b10 with
 | (.cells z10 (.rI .u8 a1b) true)=>(match b11 with
 | (.cells 0 (.rM .i64 0 (.arr .u8 64) a1p) true)=>(match b12 with
 | (.cells 0 (.rM .i64 0 .bool a1w) true)=>(match b13 with
 | (.cells z13 (.rT [.str,.str,.bool,.bool] a3s) true)=>some ((decide (a3n=a3s.length∧a3n < 8000))&&((Jr.okS (Jr.J.mk a0N a0T a0B a0x a0f a0c))&&(Jr.okS (Jr.J.mk a2N a2T a2B a2x a2f a2c))),(.bool (Jr.same (Jr.J.mk a0N a0T a0B a0x a0f a0c) (Dk.D.mk a1n a1b a1p a1w a1o a1l) (Jr.J.mk a2N a2T a2B a2x a2f a2c) (Dk.R.mk a3s a3o a3l))),[(jE 2 5 3 4 5 (Jr.J.mk a0N a0T a0B a0x a0f a0c)),(jE 6 3 7 8 9 (Jr.J.mk a2N a2T a2B a2x a2f a2c)),(dE 10 (Dk.D.mk a1n a1b a1p a1w a1o a1l) 11 12),(.cells (Jr.J.mk a0N a0T a0B a0x a0f a0c).nums.length (.rI .i64 (Jr.J.mk a0N a0T a0B a0x a0f a0c).nums) true),(.cells (Jr.J.mk a0N a0T a0B a0x a0f a0c).bad.length (.rI .i64 (Jr.J.mk a0N a0T a0B a0x a0f a0c).bad) true),(.cells (Jr.J.mk a0N a0T a0B a0x a0f a0c).texts.length (.rS (Jr.J.mk a0N a0T a0B a0x a0f a0c).texts) true),(rB (Dk.R.mk a3s a3o a3l).s.length 13 (Dk.R.mk a3s a3o a3l).off (Dk.R.mk a3s a3o a3l).left),(.cells (Jr.J.mk a2N a2T a2B a2x a2f a2c).nums.length (.rI .i64 (Jr.J.mk a2N a2T a2B a2x a2f a2c).nums) true),(.cells (Jr.J.mk a2N a2T a2B a2x a2f a2c).texts.length (.rS (Jr.J.mk a2N a2T a2B a2x a2f a2c).texts) true),(.cells (Jr.J.mk a2N a2T a2B a2x a2f a2c).bad.length (.rI .i64 (Jr.J.mk a2N a2T a2B a2x a2f a2c).bad) true),(.cells (Dk.D.mk a1n a1b a1p a1w a1o a1l).blk.length (.rI .u8 (Dk.D.mk a1n a1b a1p a1w a1o a1l).blk) true),(pB (Dk.D.mk a1n a1b a1p a1w a1o a1l).pend),(wB (Dk.D.mk a1n a1b a1p a1w a1o a1l).worn),(.cells ((Dk.R.mk a3s a3o a3l).s.length*4) (.rT [.str,.str,.bool,.bool] (Dk.R.mk a3s a3o a3l).s) true)])
 | _=>none)
 | _=>none)
 | _=>none)
 | _=>none)
 | _=>none)
 | _=>none)
 | _=>none)
 | _=>none)
 | _=>none)
 | _=>none)
 | _=>none)
 | _=>none)
 | _=>none)
 | _=>none)
 | _,_=>none
theorem s23(a0N:Li)(a0T:List Li)(a0B:Li)(a0x a0f:Int)(a0c:Bool)(a1n:Nat)(a1b:Li)(a1p a1w:Lp)(a1o:Bool)(a1l:Int)(a2N:Li)(a2T:List Li)(a2B:Li)(a2x a2f:Int)(a2c:Bool)(a3s:List (List Li))(a3o:Bool)(a3l:Int)(hp:((decide (a3s.length=a3s.length∧a3s.length < 8000))&&((Jr.okS (Jr.J.mk a0N a0T a0B a0x a0f a0c))&&(Jr.okS (Jr.J.mk a2N a2T a2B a2x a2f a2c))))=true)(k0:okB (jB 2 5 3 4 5 a0x a0f a0c))(k1:okB (jB 6 3 7 8 9 a2x a2f a2c))(k2:okB (dB 10 a1n 11 12 a1o a1l))(k3:okB (iB a0N))(k4:okB (iB a0B))(k5:okB (sB a0T))(k6:okB (rB a3s.length 13 a3o a3l))(k7:okB (iB a2N))(k8:okB (sB a2T))(k9:okB (iB a2B))(k10:okB (bB a1b))(k11:okB (pB a1p))(k12:okB (wB a1w))(k13:okB (tB a3s)):∃ F,f23 F (a0N,a0T,a0B,a0x,a0f,a0c,a1n,a1b,a1p,a1w,a1o,a1l,a2N,a2T,a2B,a2x,a2f,a2c,a3s,a3o,a3l)=some ((.bool (Jr.same (Jr.J.mk a0N a0T a0B a0x a0f a0c) (Dk.D.mk a1n a1b a1p a1w a1o a1l) (Jr.J.mk a2N a2T a2B a2x a2f a2c) (Dk.R.mk a3s a3o a3l))),[(jE 2 5 3 4 5 (Jr.J.mk a0N a0T a0B a0x a0f a0c)),(jE 6 3 7 8 9 (Jr.J.mk a2N a2T a2B a2x a2f a2c)),(dE 10 (Dk.D.mk a1n a1b a1p a1w a1o a1l) 11 12),(.cells (Jr.J.mk a0N a0T a0B a0x a0f a0c).nums.length (.rI .i64 (Jr.J.mk a0N a0T a0B a0x a0f a0c).nums) true),(.cells (Jr.J.mk a0N a0T a0B a0x a0f a0c).bad.length (.rI .i64 (Jr.J.mk a0N a0T a0B a0x a0f a0c).bad) true),(.cells (Jr.J.mk a0N a0T a0B a0x a0f a0c).texts.length (.rS (Jr.J.mk a0N a0T a0B a0x a0f a0c).texts) true),(rB (Dk.R.mk a3s a3o a3l).s.length 13 (Dk.R.mk a3s a3o a3l).off (Dk.R.mk a3s a3o a3l).left),(.cells (Jr.J.mk a2N a2T a2B a2x a2f a2c).nums.length (.rI .i64 (Jr.J.mk a2N a2T a2B a2x a2f a2c).nums) true),(.cells (Jr.J.mk a2N a2T a2B a2x a2f a2c).texts.length (.rS (Jr.J.mk a2N a2T a2B a2x a2f a2c).texts) true),(.cells (Jr.J.mk a2N a2T a2B a2x a2f a2c).bad.length (.rI .i64 (Jr.J.mk a2N a2T a2B a2x a2f a2c).bad) true),(.cells (Dk.D.mk a1n a1b a1p a1w a1o a1l).blk.length (.rI .u8 (Dk.D.mk a1n a1b a1p a1w a1o a1l).blk) true),(pB (Dk.D.mk a1n a1b a1p a1w a1o a1l).pend),(wB (Dk.D.mk a1n a1b a1p a1w a1o a1l).worn),(.cells ((Dk.R.mk a3s a3o a3l).s.length*4) (.rT [.str,.str,.bool,.bool] (Dk.R.mk a3s a3o a3l).s) true)]):=by
 obtain⟨hp0,hp⟩:=Bool.and_eq_true_iff.1 hp
 obtain⟨hp1,hp2⟩:=Bool.and_eq_true_iff.1 hp
 obtain⟨p1,p2,p3,p4⟩:=of_decide_eq_true hp1
 obtain⟨r1,r2,r3,r4⟩:=of_decide_eq_true hp2
 have hn8:a3s.length < 8000:=(of_decide_eq_true hp0).2
 have hd:=Jr.damaged_len (Jr.J.mk a0N a0T a0B a0x a0f a0c)
 have p4':a0x < 100000:=p4
 have hd':(Jr.damaged (Jr.J.mk a0N a0T a0B a0x a0f a0c)).length≤(a0x-1).toNat:=hd
 have p1':a0N.length < 100000:=p1
 have p2':a0T.length < 100000:=p2
 have p3':a0B.length < 100000:=p3
 have r1':a2N.length < 100000:=r1
 have r4':a2x < 100000:=r4
 refine⟨0,?_⟩
 simp only [f23,aGw,Jr.same]
 rw [aK (show a0N.length < 1073741000 by omega),aK (show a0N.length < 1073741824 by omega),aK (show a0T.length < 1073741000 by omega),aK (show a0T.length < 1073741824 by omega),aK (show a0N.length < 1073741000∧a0x < 100000 by omega),
  cH,aK ⟨⟨trivial,hn8⟩,by omega⟩,aK (show(Jr.damaged (Jr.J.mk a0N a0T a0B a0x a0f a0c)).length < 1073741824 by omega),aK (show a0B.length < 1073741000 by omega),aK (show a0B.length < 1073741824 by omega),aK ⟨trivial,hn8⟩]
 cases (a0N==a2N) <;> cases (a0T==a2T) <;> cases (Jr.damaged (Jr.J.mk a0N a0T a0B a0x a0f a0c)==Jr.damaged (Jr.J.mk a2N a2T a2B a2x a2f a2c)) <;> cases (a0B==a2B) <;> cases (a0x==a2x) <;> rfl
set_option maxRecDepth 100000 in
theorem c23:Ck 23 r23:=ck be7 Tryz.func23 (by
 intro X H r H' h hX hH
 unfold r23 at h;split at h <;> try contradiction
 split at h <;> try contradiction
 split at h <;> try contradiction
 split at h <;> try contradiction
 split at h <;> try contradiction
 split at h <;> try contradiction
 split at h <;> try contradiction
 split at h <;> try contradiction
 split at h <;> try contradiction
 split at h <;> try contradiction
 split at h <;> try contradiction
 split at h <;> try contradiction
 split at h <;> try contradiction
 split at h <;> try contradiction
 split at h <;> try contradiction
 ·obtain⟨hp,rfl,rfl⟩:=ik h
  obtain rfl:=bh (hH _ hm3) rfl
  obtain rfl:=bh (hH _ hm4) rfl
  obtain rfl:=bh (hH _ hm5) rfl
  obtain rfl:=bh (hH _ hm7) rfl
  obtain rfl:=bh (hH _ hm8) rfl
  obtain rfl:=bh (hH _ hm9) rfl
  obtain rfl:=bh (hH _ a78) rfl
  obtain rfl:=bh (hH _ a79) rfl
  obtain rfl:=(of_decide_eq_true (Bool.and_eq_true_iff.1 hp).1).1
  obtain⟨F,hF⟩:=s23 _ _ _ _ _ _ _ _ _ _ _ _ _ _ _ _ _ _ _ _ _ hp (hH _ hm0) (hH _ hm1) (hH _ hm2) (hH _ hm3) (hH _ hm4) (hH _ hm5) (hH _ hm6) (hH _ hm7) (hH _ hm8) (hH _ hm9) (hH _ a78) (hH _ baA) (hH _ baB) (hH _ a79)
  exact⟨_,abC (aW5 F) hF⟩)
def bfb:List hI:=[]
def V19:Env:=dL fP dM bfb
noncomputable abbrev afW:=ij V19 none (Tryz.f19).results.toList
theorem bfc:EOk Tryz.prog V19:=bL (by exact trivial)
def bfd(F:Nat):Cuts:={ F:=F,at_:=fun n=>match n with | 2018=>some aoB | _=>none,join:=fun n=>match n with | 1026=>some q8 | 2020=>some aoB | 7003=>some q8 | _=>none }
abbrev afX(F n:Nat){σ:Type}(e:σ→St)(K:Ex→St→Rz)(N:σ→Rz):=Qe V19 (bfd F) (bp Tryz.f19 n) e K N
abbrev z4 a b:=(.vs (.rT [.int .i64,.int .i64,.int .i64,.int .i64,.int .u8,.sl .i64] a) b 6:AV)
def aNU:DZ→St:=fun (a,b)=>hS [(0,(z4 a b))] [] 19 0
def ahs:DZ→St:=fun (a,b)=>hS [(0,(z4 a b))] [] 19 0
def amW:afV→St:=fun (a,b,c,d,e,f)=>hS [(0,(z4 a b)),(5,(z4 c d)),iS 6 e,iS 7 f] [] 19 0
def aNV:afV→St:=amW
def VC:DZ→St:=ahs
def ass(F:Nat)(a:DZ→Rz):DZ→Rz:=fun (b,c)=>(a (b,c))
theorem aW6 F Rj1:afX F 2 aNU (kq V19 Rj1 q8 afW) (ass F (Rj1∘ahs)):=fun _=>by kernel_rfl
def ast(F:Nat)(c:afV→Rz)(d:DZ→Rz):DZ→Rz:=fun (b,a)=>(c (b,a,b,a,(↑a:Int),(0:Int)))
theorem aW7 F Rj2 Rj3:afX F 12 ahs (kq V19 Rj2 aoB (kq V19 Rj3 q8 afW)) (ast F (Rj2∘amW) (Rj3∘VC)):=fun _=>by kernel_rfl
def asu(F:Nat)(g:afV→Rz)(h:DZ→Rz):afV→Rz:=fun (b,c,d,e,f,a)=>(cond (decide (a < f)) (cond ((decide (0≤a))&&(decide (a < (↑e:Int)))) (cond (decide ((↑((d.getD (Int.toNat a) []).getD 5 []).length:Int) > (200:Int))) (some ((.bool false),[])) (g (b,c,d,e,f,(IntKind.i64.wrap (a+(1:Int)))))) none) (h (b,c)))
theorem aW8 F Rl1 Rj3:afX F 52 aNV (kq V19 Rl1 aoB (aV 0 (kq V19 Rj3 q8 afW))) (asu F (Rl1∘aNV) (Rj3∘VC)):=fun _=>by kernel_rfl
def ao9:afV→(List (List Li))×Nat×(List (List Li))×Nat×Int×Int:=fun (a,b,c,d,e,f)=>(a,b,c,d,e,f)
def aGx(F:Nat)(a:DZ→Rz):afV→Rz:=fun v=>eT (fun k=>asu F k a) F (ao9 v)
theorem aW9 F Rj3:afX F 26 amW (aV 0 (kq V19 Rj3 q8 afW)) (aGx F (Rj3∘VC)):=lpC ao9 (fun k=>asu F k (Rj3∘VC)) (fun Rl1=>aW8 F Rl1 Rj3)
def aGy(F:Nat)(a):=aGx F a
theorem aXa F Rj3:afX F 13 amW (kq V19 Rj3 q8 afW) (aGy F (Rj3∘VC)):=biC (aW9 F Rj3)
def asv(F:Nat)(a):=ast F (aGy F a) a
theorem aXb F Rj3:afX F 6 ahs (kq V19 Rj3 q8 afW) (asv F (Rj3∘VC)):=sqC (fun k=>ast F k (Rj3∘VC)) (fun Rj2=>aW7 F Rj2 Rj3) (aXa F Rj3)
def aGz(F:Nat):DZ→Rz:=fun (b,a)=>(some ((.bool (decide ((↑a:Int)≤(30:Int)))),[]))
theorem aXc F:afX F 7 VC afW (aGz F):=fun _=>by kernel_rfl
def aGA(F:Nat):=asv F (aGz F)
theorem aXd F:afX F 3 ahs afW (aGA F):=sqC (asv F) (fun Rj3=>aXb F Rj3) (aXc F)
def aGB(F:Nat):=ass F (aGA F)
theorem aXe F:afX F 1 aNU afW (aGB F):=sqC (ass F) (fun Rj1=>aW6 F Rj1) (aXd F)
def f19(F:Nat):DZ→Rz:=aGB F
def r19:eP:=fun X H=>match X,H with
 | [(.vs (.rT [.int .i64,.int .i64,.int .i64,.int .i64,.int .u8,.sl .i64] a0) a0n 6)],[]=>some (true,(.bool (Jr.few a0 a0n)),[])
 | _,_=>none
theorem s19(a0:List (List Li))(a0n:Nat)(h0:okV (.vs (.rT [.int .i64,.int .i64,.int .i64,.int .i64,.int .u8,.sl .i64] a0) a0n 6)):∃ F,f19 F (a0,a0n)=some ((.bool (Jr.few a0 a0n)),[]):=by
 have hn:a0.length*6=a0n*6:=h0.1
 have hn:a0n=a0.length:=by omega
 have hl:a0n < 4611686018427387904:=h0.2.1
 subst hn
 refine⟨a0.length+1,?_⟩
 simp only [f19,aGB,ass,aGA,asv,ast,aGy,aGx,ao9]
 refine pv (fun m s=>∃ k:Nat,s=(a0,a0.length,a0,a0.length,(a0.length:Int),(k:Int))∧m=a0.length-k∧k≤a0.length∧(a0.take k).all (fun x=>decide ((x.getD 5 []).length≤200))=true) (fun m s K hi hk=>?_) (a0.length+1) a0.length _ (by omega) ⟨0,rfl,by omega,by omega,rfl⟩
 obtain⟨k,rfl,hm,hle,hb⟩:=hi
 simp only [asu,Int.toNat_natCast,cH]
 by_cases hlt:k < a0.length
 ·rw [aK (by omega),aK (by omega),bM (by omega) (by omega)]
  have hget:a0.getD k []=a0[k]:=by rw [List.getD_eq_getElem?_getD,List.getElem?_eq_getElem hlt];rfl
  by_cases h:((a0.getD k []).getD 5 []).length≤200
  ·rw [ba (by omega)]
   refine hk (m-1) _ (by omega) ⟨k+1,rfl,by omega,by omega,?_⟩
   rw [List.take_add_one,List.all_append,hb,List.getElem?_eq_getElem hlt]
   rw [hget] at h
   simp only [Option.toList_some,List.all_cons,List.all_nil,decide_eq_true h,Bool.and_self]
  ·rw [aK (by omega)]
   have:Jr.few a0 a0.length=false:=by
    have ha:a0.all (fun x=>decide ((x.getD 5 []).length≤200))=false:=by
     rw [← Bool.not_eq_true,List.all_eq_true]
     intro hall
     have:=hall a0[k] (List.getElem_mem _)
     rw [hget] at h
     exact h (of_decide_eq_true this)
    rw [Jr.few,ha];rfl
   rw [this]
 ·rw [ba (by omega)]
  rw [show k=a0.length by omega,List.take_length] at hb
  simp only [aGz,Jr.few,hb,Bool.true_and]
  congr 3
  rw [decide_eq_decide];omega
theorem c19:Ck 19 r19:=ck bfc Tryz.func19 (by
 intro X H r H' h hX hH
 unfold r19 at h;split at h <;> try contradiction
 ·obtain⟨hp,rfl,rfl⟩:=ik h
  obtain⟨F,hF⟩:=s19 _ _ (hX _ hm0)
  exact⟨_,abC (aXe F) hF⟩)
end Go.Am
end