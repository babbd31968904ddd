/- Part of a proof. -/
import Derived.Test.YtffddoahjpemaaaGreatDoorAmJrn7
set_option linter.unusedVariables false
set_option linter.unusedSimpArgs false
namespace Go.Am
open Go Go.Proofs
abbrev aDN:List (Nat×Md):=[(5,.plain),(6,.plain),(7,.plain),(32,.plain),(33,.plain),(34,.plain)]
abbrev aDO:List (Nat×Md):=[(0,.plain),(5,.plain),(6,.plain)]
abbrev aoB:List (Nat×Md):=[(0,.plain),(5,.plain),(6,.plain),(7,.plain)]
abbrev aoC:List (Nat×Md):=[(6,.plain),(7,.plain)]
abbrev aDP:List (Nat×Md):=[(0,.plain),(1,.plain),(7,.plain),(8,.plain)]
abbrev aDQ:List (Nat×Md):=[(0,.plain),(3,.plain),(12,.plain),(13,.plain),(14,.plain)]
abbrev aDR:List (Nat×Md):=[(0,.plain),(3,.plain),(6,.own 3),(7,.plain)]
abbrev a8H:List (Nat×Md):=[(0,.plain),(3,.plain),(6,.own 3)]
abbrev DZ:=(List (List Li))×Nat
abbrev aSY:=(List (List Li))×Nat×Int×Int×Int×Li×Bool
abbrev aoD:=(List (List Li))×Nat×Int×Int×Int×Int×Li×Bool
abbrev aSZ:=(List (List Li))×Nat×Int×Li×Int×Int×Int×Li×Bool
abbrev ajm:=Int×Li×(List (List Li))×Nat×Int×Int×Int×Int×Int×Li×Bool
abbrev ajn:=Li×Int×Int×Int
abbrev Er:=Li×(List Li)×Li×Int×Int×Bool×Nat×Li×(Lp)×(Lp)×Bool×Int
abbrev aha:=(Lp)×(Dk.D)×(Jr.J)
abbrev ajo:=Int×Int×(Lp)×(Dk.D)×(Jr.J)
abbrev aS0:=(Lp)×Li×(Dk.D)×(Jr.J)
abbrev ajp:=Int×(Lp)×Li×(Dk.D)×(Jr.J)
abbrev avI:=Li×(Dk.D)×(Jr.J)
def bcS:List hI:=[(34,[none],r34)]
def V46:Env:=dL fP dM bcS
noncomputable abbrev EI:=ij V46 none (Tryz.f46).results.toList
theorem bcT:EOk Tryz.prog V46:=bL (by exact⟨c34,trivial⟩)
def bcU(F:Nat):Cuts:={ F:=F,at_:=fun n=>match n with | 7020=>some aDN | _=>none,join:=fun n=>match n with | 1042=>some [(0,.plain)] | 2040=>some [(0,.plain),(5,.plain)] | 3038=>some aDO | 5030=>some aDO | 6028=>some aoB | 7022=>some aDN | 13003=>some aoC | _=>none }
abbrev EJ(F n:Nat){σ:Type}(e:σ→St)(K:Ex→St→Rz)(N:σ→Rz):=Qe V46 (bcU F) (bp Tryz.f46 n) e K N
abbrev z12 a b:=(.vs (.rT [.int .i64,.int .i64,.int .i64,.str,.bool] a) b 5:AV)
def aJ1:DZ→St:=fun (a,b)=>hS [(0,(z12 a b))] [] 72 0
def avJ:DZ→St:=fun (a,b)=>hS [(0,(z12 a b))] [] 72 0
abbrev z1 a b c d e:=(.cells 5 (.segs (.cons 1 (.one (.int .i64 a)) (.cons 1 (.one (.int .i64 b)) (.cons 1 (.one (.int .i64 c)) (.cons 1 (.one (.str d)) (.cons 1 (.one (.bool e)) .nil)))))) true:Blk)
def avK:aSY→St:=fun (a,b,c,d,e,f,g)=>hS [(0,(z12 a b)),pS 5 0 5] [z1 c d e f g] 72 0
def alD:aoD→St:=fun (a,b,c,d,e,f,g,h)=>hS [(0,(z12 a b)),pS 5 0 5,iS 6 c] [z1 d e f g h] 72 0
def avL:aoD→St:=alD
def alE:aSZ→St:=fun (a,b,c,d,e,f,g,h,i)=>hS [(0,(z12 a b)),pS 5 0 5,iS 6 c,(7,.str d)] [z1 e f g h i] 72 0
def alF:ajm→St:=fun (a,b,c,d,e,f,g,h,i,j,k)=>hS [pS 5 0 5,iS 6 a,(7,.str b),(32,(z12 c d)),iS 33 e,iS 34 f] [z1 g h i j k] 72 0
def aJ2:ajm→St:=alF
def Vs:Int×Li→St:=fun (a,b)=>hS [iS 6 a,(7,.str b)] [] 72 0
def aqJ(F:Nat)(a:DZ→Rz):DZ→Rz:=fun (b,c)=>(a (b,c))
theorem aS1 F Rj1:EJ F 2 aJ1 (kq V46 Rj1 [(0,.plain)] EI) (aqJ F (Rj1∘avJ)):=fun _=>by kernel_rfl
def aqK(F:Nat)(c:aSY→Rz):DZ→Rz:=fun (a,b)=>(cond (decide ((0:Int) < (↑b:Int))) (c (a,b,(((a.getD 0 []).getD 0 []).getD 0 0),(((a.getD 0 []).getD 1 []).getD 0 0),(((a.getD 0 []).getD 2 []).getD 0 0),((a.getD 0 []).getD 3 []),((((a.getD 0 []).getD 4 []).getD 0 0)==1))) none)
theorem aS2 F Rj2:EJ F 6 avJ (kq V46 Rj2 [(0,.plain),(5,.plain)] EI) (aqK F (Rj2∘avK)):=fun _=>by kernel_rfl
def aqL(F:Nat)(b:aoD→Rz):aSY→Rz:=fun (c,d,e,f,a,g,h)=>(b (c,d,(Jr.count a),e,f,a,g,h))
theorem aS3 F Rj3:EJ F 14 avK (kq V46 Rj3 aDO EI) (aqL F (Rj3∘alD)):=fun _=>by kernel_rfl
def aqM(F:Nat)(e:aoD→Rz):aoD→Rz:=fun (f,a,b,g,c,h,i,d)=>(cond (!d) (some ((.tup (.cons 0 (.str []) (.cons 0 (.int .i64 0) (.cons 0 (.bool false) .nil)))),[])) (cond (c != (0:Int)) (some ((.tup (.cons 0 (.str []) (.cons 0 (.int .i64 0) (.cons 0 (.bool false) .nil)))),[])) (cond (decide (b > (↑a:Int))) (some ((.tup (.cons 0 (.str []) (.cons 0 (.int .i64 0) (.cons 0 (.bool false) .nil)))),[])) (e (f,a,b,g,c,h,i,d)))))
theorem aS4 F Rj4:EJ F 30 alD (kq V46 Rj4 aDO EI) (aqM F (Rj4∘avL)):=fun _=>by kernel_rfl
def aqN(F:Nat)(a:aSZ→Rz):aoD→Rz:=fun (b,c,d,e,f,g,h,i)=>(a (b,c,d,[],e,f,g,h,i))
theorem aS5 F Rj5:EJ F 62 avL (kq V46 Rj5 aoB EI) (aqN F (Rj5∘alE)):=fun _=>by kernel_rfl
def aqO(F:Nat)(b:ajm→Rz)(k:Int×Li→Rz):aSZ→Rz:=fun (c,d,a,e,f,g,h,i,j)=>(cond ((decide ((0:Int)≤a))&&(decide (a≤(↑d:Int)))) (b (a,e,(c.take (Int.toNat a)),(Int.toNat a),(↑(Int.toNat a):Int),(0:Int),f,g,h,i,j)) none)
theorem aS6 F Rj6 Rj7:EJ F 252 alE (kq V46 Rj6 aDN (kq V46 Rj7 aoC EI)) (aqO F (Rj6∘alF) (Rj7∘Vs)):=fun _=>by kernel_rfl
def aqP(F:Nat)(i:ajm→Rz)(j:Int×Li→Rz):ajm→Rz:=fun (d,c,b,e,f,a,g,k,h,l,m)=>(cond (decide (a < f)) (cond ((decide (0≤a))&&(decide (a < (↑e:Int)))) (cond (!((((b.getD (Int.toNat a) []).getD 4 []).getD 0 0)==1)) (some ((.tup (.cons 0 (.str []) (.cons 0 (.int .i64 0) (.cons 0 (.bool false) .nil)))),[])) (cond ((((b.getD (Int.toNat a) []).getD 0 []).getD 0 0) != g) (some ((.tup (.cons 0 (.str []) (.cons 0 (.int .i64 0) (.cons 0 (.bool false) .nil)))),[])) (cond ((((b.getD (Int.toNat a) []).getD 1 []).getD 0 0) != a) (some ((.tup (.cons 0 (.str []) (.cons 0 (.int .i64 0) (.cons 0 (.bool false) .nil)))),[])) (cond ((((b.getD (Int.toNat a) []).getD 2 []).getD 0 0) != (IntKind.i64.wrap (h-(IntKind.i64.wrap ((48:Int)*a))))) (some ((.tup (.cons 0 (.str []) (.cons 0 (.int .i64 0) (.cons 0 (.bool false) .nil)))),[])) (cond (decide ((c.length+((b.getD (Int.toNat a) []).getD 3 []).length) < 4611686018427387904)) (i (d,(c++((b.getD (Int.toNat a) []).getD 3 [])),b,e,f,(IntKind.i64.wrap (a+(1:Int))),g,k,h,l,m)) none))))) none) (j (d,c)))
theorem aS7 F Rl1 Rj7:EJ F 1012 aJ2 (kq V46 Rl1 aDN (aV 0 (kq V46 Rj7 aoC EI))) (aqP F (Rl1∘aJ2) (Rj7∘Vs)):=fun _=>by kernel_rfl
def aoE:ajm→Int×Li×(List (List Li))×Nat×Int×Int×Int×Int×Int×Li×Bool:=fun (a,b,c,d,e,f,g,h,i,j,k)=>(a,b,c,d,e,f,g,h,i,j,k)
def aDS(F:Nat)(a:Int×Li→Rz):ajm→Rz:=fun v=>eT (fun k=>aqP F k a) F (aoE v)
theorem aS8 F Rj7:EJ F 506 alF (aV 0 (kq V46 Rj7 aoC EI)) (aDS F (Rj7∘Vs)):=lpC aoE (fun k=>aqP F k (Rj7∘Vs)) (fun Rl1=>aS7 F Rl1 Rj7)
def aDT(F:Nat)(a):=aDS F a
theorem aS9 F Rj7:EJ F 253 alF (kq V46 Rj7 aoC EI) (aDT F (Rj7∘Vs)):=biC (aS8 F Rj7)
def alG(F:Nat)(a):=aqO F (aDT F a) a
theorem aJ3 F Rj7:EJ F 126 alE (kq V46 Rj7 aoC EI) (alG F (Rj7∘Vs)):=sqC (fun k=>aqO F k (Rj7∘Vs)) (fun Rj6=>aS6 F Rj6 Rj7) (aS9 F Rj7)
def avM(F:Nat):Int×Li→Rz:=fun (a,b)=>(some ((.tup (.cons 0 (.str b) (.cons 0 (.int .i64 a) (.cons 0 (.bool true) .nil)))),[]))
theorem aJ4 F:EJ F 127 Vs EI (avM F):=fun _=>by kernel_rfl
def avN(F:Nat):=alG F (avM F)
theorem aJ5 F:EJ F 63 alE EI (avN F):=sqC (alG F) (fun Rj7=>aJ3 F Rj7) (aJ4 F)
def avO(F:Nat):=aqN F (avN F)
theorem aJ6 F:EJ F 31 avL EI (avO F):=sqC (aqN F) (fun Rj5=>aS5 F Rj5) (aJ5 F)
def avP(F:Nat):=aqM F (avO F)
theorem aJ7 F:EJ F 15 alD EI (avP F):=sqC (aqM F) (fun Rj4=>aS4 F Rj4) (aJ6 F)
def avQ(F:Nat):=aqL F (avP F)
theorem aJ8 F:EJ F 7 avK EI (avQ F):=sqC (aqL F) (fun Rj3=>aS3 F Rj3) (aJ7 F)
def avR(F:Nat):=aqK F (avQ F)
theorem aJ9 F:EJ F 3 avJ EI (avR F):=sqC (aqK F) (fun Rj2=>aS2 F Rj2) (aJ8 F)
def avS(F:Nat):=aqJ F (avR F)
theorem aKa F:EJ F 1 aJ1 EI (avS F):=sqC (aqJ F) (fun Rj1=>aS1 F Rj1) (aJ9 F)
def f46(F:Nat):DZ→Rz:=avS F
def r46:eP:=fun X H=>match X,H with
 | [(.vs (.rT [.int .i64,.int .i64,.int .i64,.str,.bool] a0) a0n 5)],[]=>some ((decide (0 < a0.length))&&(Jr.shortR a0),(.tup (.cons 0 (.str (Jr.rec a0).1) (.cons 0 (.int .i64 (Jr.rec a0).2.1) (.cons 0 (.bool (Jr.rec a0).2.2) .nil)))),[])
 | _,_=>none
theorem s46(a0:List (List Li))(a0n:Nat)(hp:((decide (0 < a0.length))&&(Jr.shortR a0))=true)(h0:okV (.vs (.rT [.int .i64,.int .i64,.int .i64,.str,.bool] a0) a0n 5)):∃ F,f46 F (a0,a0n)=some ((.tup (.cons 0 (.str (Jr.rec a0).1) (.cons 0 (.int .i64 (Jr.rec a0).2.1) (.cons 0 (.bool (Jr.rec a0).2.2) .nil)))),[]):=by
 obtain⟨hp0,hsh⟩:=Bool.and_eq_true_iff.1 hp
 have hp0:=of_decide_eq_true hp0
 have hn:a0n=a0.length:=by have:a0.length*5=a0n*5:=h0.1;omega
 subst hn
 have hpt:∀ i,i < a0.length→Jr.pt (a0.map Jr.unrow) i=Jr.unrow (a0.getD i []):=fun i hi=>Jr.pt_map hi
 have h0p:Jr.pt (a0.map Jr.unrow) 0=Jr.unrow (a0.getD 0 []):=hpt 0 hp0
 obtain⟨l,hl⟩:∃ l,l=a0.map Jr.unrow:=⟨_,rfl⟩
 have hll:l.length=a0.length:=by rw [hl];simp
 have hrec:Jr.rec a0=cond (Jr.recOk l 0) (Jr.recText l 0 (Jr.recN l 0),(Jr.recN l 0:Int),true) ([],0,false):=by rw [hl];rfl
 have hpay:∀ i,(Jr.pt l i).payload.length≤64:=fun i=>by rw [hl];exact Jr.short_pt hsh i
 rw [hrec]
 rw [← hl] at h0p hpt
 refine⟨400,?_⟩
 simp only [f46,avS,aqJ,avR,aqK,avQ,aqL,avP,aqM,avO,aqN,avN,alG,aqO,aDT,aDS,aoE]
 rw [aK (by omega)]
 have e0:(((a0.getD 0 []).getD 0 []).getD 0 0)=(Jr.pt l 0).number:=by rw [h0p];rfl
 have e1:(((a0.getD 0 []).getD 1 []).getD 0 0)=(Jr.pt l 0).part:=by rw [h0p];rfl
 have e2:(((a0.getD 0 []).getD 2 []).getD 0 0)=(Jr.pt l 0).left:=by rw [h0p];rfl
 have e4:((((a0.getD 0 []).getD 4 []).getD 0 0)==1)=(Jr.pt l 0).ok:=by rw [h0p];rfl
 simp only [e0,e1,e2,e4]
 cases hok:(Jr.pt l 0).ok with
 | false=>
  have:Jr.recOk l 0=false:=by rw [Jr.recOk,hok];rfl
  rw [this];rfl
 | true=>
 simp only [Bool.not_true,cond_false,JX]
 by_cases hpart:(Jr.pt l 0).part=0
 case neg=>
  have:Jr.recOk l 0=false:=by rw [Jr.recOk,decide_eq_false (fun h=>hpart h.1),Bool.and_false,Bool.false_and]
  rw [this,aK hpart];rfl
 rw [ba (fun h=>h hpart)]
 have hc0:0≤Jr.count (Jr.pt l 0).left∧Jr.count (Jr.pt l 0).left≤200∧(0 < Jr.count (Jr.pt l 0).left→0≤(Jr.pt l 0).left∧(Jr.pt l 0).left≤8000):=by
  unfold Jr.count
  by_cases h:(Jr.pt l 0).left < 0∨8000 < (Jr.pt l 0).left
  ·rw [aK h];exact⟨by omega,by omega,fun h=>by omega⟩
  ·rw [ba h]
   split <;> exact⟨by omega,by omega,fun _=>by omega⟩
 have hN:(Jr.recN l 0:Int)=Jr.count (Jr.pt l 0).left:=by rw [Jr.recN];omega
 by_cases hcnt:Jr.count (Jr.pt l 0).left > (a0.length:Int)
 case pos=>
  have:Jr.recOk l 0=false:=by rw [Jr.recOk,decide_eq_false (fun h=>by have:=h.2;omega),Bool.and_false,Bool.false_and]
  rw [this,aK hcnt];rfl
 rw [ba hcnt]
 simp only [cH]
 rw [aK (by omega),← hN,Int.toNat_natCast]
 obtain⟨n,hn⟩:∃ n,n=Jr.recN l 0:=⟨_,rfl⟩
 rw [← hn] at hN ⊢
 have hna:n≤a0.length:=by omega
 have hR:∀ i,i < n→Jr.partOk l 0 i=false→Jr.recOk l 0=false:=fun i hi h=>by
  rw [Jr.recOk,← hn,Bool.and_eq_false_iff]
  right
  rw [List.all_eq_false]
  exact⟨i,List.mem_range.2 hi,by rw [h];decide⟩
 refine pv (fun m s=>∃ i:Nat,s=((n:Int),Jr.recText l 0 i,a0.take n,n,(n:Int),(i:Int),(Jr.pt l 0).number,(Jr.pt l 0).part,(Jr.pt l 0).left,(a0.getD 0 []).getD 3 [],true)∧m=n-i∧i≤n ∧ ∀ j,j < i→Jr.partOk l 0 j=true) (fun m s K hi hk=>?_) 400 n _ (by omega) ⟨0,rfl,by omega,by omega,fun j hj=>by omega⟩
 obtain⟨i,rfl,hm,hle,hall⟩:=hi
 simp only [aqP,Int.toNat_natCast,cH]
 by_cases hlt:i < n
 ·have ht:(a0.take n).getD i []=a0.getD i []:=by
   rw [List.getD_eq_getElem?_getD,List.getElem?_take,if_pos hlt,List.getD_eq_getElem?_getD]
  have hpi:=hpt i (by omega)
  have f0:(((a0.getD i []).getD 0 []).getD 0 0)=(Jr.pt l i).number:=by rw [hpi];rfl
  have f1:(((a0.getD i []).getD 1 []).getD 0 0)=(Jr.pt l i).part:=by rw [hpi];rfl
  have f2:(((a0.getD i []).getD 2 []).getD 0 0)=(Jr.pt l i).left:=by rw [hpi];rfl
  have f3:((a0.getD i []).getD 3 [])=(Jr.pt l i).payload:=by rw [hpi];rfl
  have f4:((((a0.getD i []).getD 4 []).getD 0 0)==1)=(Jr.pt l i).ok:=by rw [hpi];rfl
  have hleft:=hc0.2.2 (by omega)
  rw [aK (by omega),aK (by omega)]
  simp only [ht,f0,f1,f2,f3,f4,JX]
  rw [bM (x:=(48:Int)*i) (by omega) (by omega),bM (x:=(Jr.pt l 0).left-48*i) (by omega) (by omega),bM (x:=(i:Int)+1) (by omega) (by omega)]
  have hP:Jr.partOk l 0 i=((Jr.pt l i).ok&&decide ((Jr.pt l i).number=(Jr.pt l 0).number∧(Jr.pt l i).part=(i:Int)∧(Jr.pt l i).left=(Jr.pt l 0).left-48*i)):=by
   rw [Jr.partOk,Nat.zero_add]
  cases hoki:(Jr.pt l i).ok with
  | false=>rw [hR i hlt (by rw [hP,hoki];rfl)];rfl
  | true=>
  simp only [Bool.not_true,cond_false]
  by_cases g1:(Jr.pt l i).number=(Jr.pt l 0).number
  case neg=>rw [aK g1,hR i hlt (by rw [hP,decide_eq_false (fun h=>g1 h.1),Bool.and_false])];rfl
  rw [ba (fun h=>h g1)]
  by_cases g2:(Jr.pt l i).part=(i:Int)
  case neg=>rw [aK g2,hR i hlt (by rw [hP,decide_eq_false (fun h=>g2 h.2.1),Bool.and_false])];rfl
  rw [ba (fun h=>h g2)]
  by_cases g3:(Jr.pt l i).left=(Jr.pt l 0).left-48*i
  case neg=>rw [aK g3,hR i hlt (by rw [hP,decide_eq_false (fun h=>g3 h.2.2),Bool.and_false])];rfl
  rw [ba (fun h=>h g3)]
  have hlen:=Jr.recText_len hpay 0 i
  have hpi2:=hpay i
  rw [aK (by omega)]
  refine hk (m-1) _ (by omega) ⟨i+1,?_,by omega,by omega,fun j hj=>?_⟩
  ·rw [Jr.recText_succ,Nat.zero_add];rfl
  ·by_cases hj':j=i
   ·subst hj';rw [hP,hoki,decide_eq_true ⟨g1,g2,g3⟩];rfl
   ·exact hall j (by omega)
 ·rw [ba (by omega)]
  have hin:i=n:=by omega
  subst hin
  have:Jr.recOk l 0=true:=by
   rw [Jr.recOk,hok,← hn,decide_eq_true ⟨hpart,by omega⟩,Bool.and_self,Bool.true_and,List.all_eq_true]
   intro j hj
   exact hall j (List.mem_range.1 hj)
  rw [this]
  simp only [avM]
  rfl
theorem c46:Ck 46 r46:=ck bcT Tryz.func46 (by
 intro X H r H' h hX hH
 unfold r46 at h;split at h <;> try contradiction
 ·obtain⟨hp,rfl,rfl⟩:=ik h
  obtain⟨F,hF⟩:=s46 _ _ hp (hX _ hm0)
  exact⟨_,abC (aKa F) hF⟩)
def bcV:List hI:=[]
def V78:Env:=dL fP dM bcV
noncomputable abbrev afL:=ij V78 none (Tryz.f78).results.toList
theorem bcW:EOk Tryz.prog V78:=bL (by exact trivial)
def bcX(F:Nat):Cuts:={ F:=F,at_:=fun n=>match n with | 2018=>some aDP | _=>none,join:=fun n=>match n with | 1026=>some uY | 2020=>some aDP | 7003=>some [] | _=>none }
abbrev afM(F n:Nat){σ:Type}(e:σ→St)(K:Ex→St→Rz)(N:σ→Rz):=Qe V78 (bcX F) (bp Tryz.f78 n) e K N
def aKb:Li×Int→St:=fun (a,b)=>hS [lS 0 a,iS 1 b] [] 19 0
def alH:Li×Int→St:=fun (a,b)=>hS [lS 0 a,iS 1 b] [] 19 0
def alI:ajn→St:=fun (a,b,c,d)=>hS [lS 0 a,iS 1 b,iS 7 c,iS 8 d] [] 19 0
def aKc:ajn→St:=alI
def Vt:Unit→St:=fun _=>hS [] [] 19 0
def aqQ(F:Nat)(a:Li×Int→Rz):Li×Int→Rz:=fun (b,c)=>(a (b,c))
theorem aTa F Rj1:afM F 2 aKb (kq V78 Rj1 uY afL) (aqQ F (Rj1∘alH)):=fun _=>by kernel_rfl
def aqR(F:Nat)(b:ajn→Rz)(d:Unit→Rz):Li×Int→Rz:=fun (a,c)=>(b (a,c,(↑a.length:Int),(0:Int)))
theorem aTb F Rj2 Rj3:afM F 12 alH (kq V78 Rj2 aDP (kq V78 Rj3 [] afL)) (aqR F (Rj2∘alI) (Rj3∘Vt)):=fun _=>by kernel_rfl
def aqS(F:Nat)(e:ajn→Rz)(f:Unit→Rz):ajn→Rz:=fun (b,c,d,a)=>(cond (decide (a < d)) (cond ((decide (0≤a))&&(decide (a < (↑b.length:Int)))) (cond (c==(b.getD (Int.toNat a) 0)) (some ((.int .i64 a),[])) (e (b,c,d,(IntKind.i64.wrap (a+(1:Int)))))) none) (f ()))
theorem aTc F Rl1 Rj3:afM F 52 aKc (kq V78 Rl1 aDP (aV 0 (kq V78 Rj3 [] afL))) (aqS F (Rl1∘aKc) (Rj3∘Vt)):=fun _=>by kernel_rfl
def aoF:ajn→Li×Int×Int×Int:=fun (a,b,c,d)=>(a,b,c,d)
def aDU(F:Nat)(a:Unit→Rz):ajn→Rz:=fun v=>eT (fun k=>aqS F k a) F (aoF v)
theorem aTd F Rj3:afM F 26 alI (aV 0 (kq V78 Rj3 [] afL)) (aDU F (Rj3∘Vt)):=lpC aoF (fun k=>aqS F k (Rj3∘Vt)) (fun Rl1=>aTc F Rl1 Rj3)
def aDV(F:Nat)(a):=aDU F a
theorem aTe F Rj3:afM F 13 alI (kq V78 Rj3 [] afL) (aDV F (Rj3∘Vt)):=biC (aTd F Rj3)
def aqT(F:Nat)(a):=aqR F (aDV F a) a
theorem aTf F Rj3:afM F 6 alH (kq V78 Rj3 [] afL) (aqT F (Rj3∘Vt)):=sqC (fun k=>aqR F k (Rj3∘Vt)) (fun Rj2=>aTb F Rj2 Rj3) (aTe F Rj3)
def aDW(F:Nat):Unit→Rz:=fun _=>(some ((.int .i64 (-1:Int)),[]))
theorem aTg F:afM F 7 Vt afL (aDW F):=fun _=>by kernel_rfl
def aDX(F:Nat):=aqT F (aDW F)
theorem aTh F:afM F 3 alH afL (aDX F):=sqC (aqT F) (fun Rj3=>aTf F Rj3) (aTg F)
def aDY(F:Nat):=aqQ F (aDX F)
theorem aTi F:afM F 1 aKb afL (aDY F):=sqC (aqQ F) (fun Rj1=>aTa F Rj1) (aTh F)
def f78(F:Nat):Li×Int→Rz:=aDY F
def r78:eP:=fun X H=>match X,H with
 | [(.vs (.rI .i64 a0) 0 1),.int .i64 a1],[]=>some (true,(.int .i64 (Jr.idx a0 a1)),[])
 | _,_=>none
theorem s78(a0:Li)(a1:Int)(h0:okV (.vs (.rI .i64 a0) 0 1))(h1:okV (.int .i64 a1)):∃ F,f78 F (a0,a1)=some ((.int .i64 (Jr.idx a0 a1)),[]):=by
 have hl:a0.length < 4611686018427387904:=h0.2
 refine⟨a0.length+1,?_⟩
 simp only [f78,aDY,aqQ,aDX,aqT,aDW,aqR,aDV,aDU,aoF]
 refine pv (fun m s=>∃ k:Nat,s=(a0,a1,(a0.length:Int),(k:Int))∧m=a0.length-k∧k≤a0.length∧Jr.idx a0 a1=Jr.idxGo a1 (a0.drop k) k) (fun m s K hi hk=>?_) (a0.length+1) a0.length _ (by omega) ⟨0,rfl,by omega,by omega,rfl⟩
 obtain⟨k,rfl,hm,hle,heq⟩:=hi
 simp only [aqS,Int.toNat_natCast,cH]
 by_cases hlt:k < a0.length
 ·rw [aK (by omega),aK (by omega),bM (by omega) (by omega)]
  rw [Jr.idxGo_drop hlt] at heq
  cases h:(a1==a0.getD k 0)
  ·rw [h] at heq
   exact hk (m-1) _ (by omega) ⟨k+1,rfl,by omega,by omega,heq⟩
  ·rw [h] at heq
   rw [heq];rfl
 ·rw [ba (by omega)]
  have:k=a0.length:=by omega
  subst this
  rw [List.drop_length] at heq
  rw [heq];rfl
theorem c78:Ck 78 r78:=ck bcW Tryz.func78 (by
 intro X H r H' h hX hH
 unfold r78 at h;split at h <;> try contradiction
 ·obtain⟨hp,rfl,rfl⟩:=ik h
  obtain⟨F,hF⟩:=s78 _ _ (hX _ hm0) (hX _ hm1)
  exact⟨_,abC (aTi F) hF⟩)
def bcY:List hI:=[(78,[some 3,none],r78)]
def V47:Env:=dL fP dM bcY
noncomputable abbrev bcZ:=ij V47 none (Tryz.f47).results.toList
theorem bc4:EOk Tryz.prog V47:=bL (by exact⟨c78,trivial⟩)
def bc5(F:Nat):Cuts:={ F:=F,at_:=fun _=>none,join:=fun _=>none }
abbrev bc6(F n:Nat){σ:Type}(e:σ→St)(K:Ex→St→Rz)(N:σ→Rz):=Qe V47 (bc5 F) (bp Tryz.f47 n) e K N
def a8I:Li×Int→St:=fun (a,b)=>hS [lS 0 a,iS 1 b] [] 9 0
def aDZ(F:Nat):Li×Int→Rz:=fun (a,b)=>(some ((.bool (decide ((Jr.idx a b)≥(0:Int)))),[]))
theorem aTj F:bc6 F 1 a8I bcZ (aDZ F):=fun _=>by kernel_rfl
def f47(F:Nat):Li×Int→Rz:=aDZ F
def r47:eP:=fun X H=>match X,H with
 | [(.vs (.rI .i64 a0) 0 1),.int .i64 a1],[]=>some (true,(.bool (a0.contains a1)),[])
 | _,_=>none
theorem s47(a0:Li)(a1:Int)(h0:okV (.vs (.rI .i64 a0) 0 1))(h1:okV (.int .i64 a1)):∃ F,f47 F (a0,a1)=some ((.bool (a0.contains a1)),[]):=by
 refine⟨0,?_⟩
 simp only [f47,aDZ]
 rw [show decide (Jr.idx a0 a1≥0)=a0.contains a1 from Jr.idx_contains a1 a0 0]
theorem c47:Ck 47 r47:=ck bc4 Tryz.func47 (by
 intro X H r H' h hX hH
 unfold r47 at h;split at h <;> try contradiction
 ·obtain⟨hp,rfl,rfl⟩:=ik h
  obtain⟨F,hF⟩:=s47 _ _ (hX _ hm0) (hX _ hm1)
  exact⟨_,abC (aTj F) hF⟩)
def bc7:List hI:=[]
def V67:Env:=dL fP dM bc7
noncomputable abbrev a8J:=ij V67 (some [(2,.own 3)]) (Tryz.f67).results.toList
theorem bc8:EOk Tryz.prog V67:=bL (by exact trivial)
def aD0(F:Nat):Cuts:={ F:=F,at_:=fun _=>none,join:=fun _=>none,fin:=(some [(2,.own 3)]) }
abbrev bak(F n:Nat){σ:Type}(e:σ→St)(K:Ex→St→Rz)(N:σ→Rz):=Qe V67 (aD0 F) (bp Tryz.f67 n) e K N
def aBi:Li→St:=fun a=>hS [(0,(.vs (.rI .i64 a) 2 1))] [] 8 0
def avT(F:Nat):Li→Rz:=fun a=>(cond (decide ((0+a.length) < 1073741824)) (some ((.own 0 0 1),[(.cells ([]++a).length (.rI .i64 ([]++a)) true)])) none)
theorem aKd F:bak F 1 aBi a8J (avT F):=fun _=>by kernel_rfl
def aTk(F:Nat):Li→Rz:=avT F
theorem aKe(F:Nat)(a0:Li):Et V67 (aD0 F) Tryz.f67 [(.vs (.rI .i64 a0) 2 1)] []=aTk F a0:=
 (ai1 (c:=(sub (zZ Tryz.f67) [])) (by kernel_rfl) (s:=aBi a0) (by kernel_rfl)).trans (aKd F a0)
def bal(F:Nat):Cuts:={ F:=F,at_:=fun _=>none,join:=fun _=>none,fin:=(some [(2,.own 3)]) }
abbrev bam(F n:Nat){σ:Type}(e:σ→St)(K:Ex→St→Rz)(N:σ→Rz):=Qe V67 (bal F) (bp Tryz.f67 n) e K N
def a7s:Unit→St:=fun _=>hS [(0,(.vs (.rI .i64 []) 3 1))] [] 8 0
def aKf(F:Nat):Unit→Rz:=fun _=>(some ((.own 0 0 1),[(.cells 0 (.rI .i64 []) true)]))
theorem aKg F:bam F 1 a7s a8J (aKf F):=fun _=>by kernel_rfl
def bc9(F:Nat):Unit→Rz:=aKf F
def r67:eP:=fun X H=>match X,H with
 | [(.vs (.rI .i64 a0) 0 1)],[]=>some ((decide (a0.length < 1073741000)),.own 0 0 1,[(iB a0)])
 | _,_=>none
theorem bda(a0:Li)(hp:((decide (a0.length < 1073741000)))=true)(h0:okV (.vs (.rI .i64 a0) 0 1)):∃ F,aTk F a0=some ((.own 0 0 1),[(iB a0)]):=by
 have h:=of_decide_eq_true hp
 refine⟨0,?_⟩
 simp only [aTk,avT,List.nil_append]
 rw [aK (by omega)]
theorem bdb:∃ F,bc9 F ()=some ((.own 0 0 1),[(.cells ([]:Li).length (.rI .i64 ([]:Li)) true)]):=⟨0,rfl⟩
theorem c67:CallOk Tryz.prog dM 67 r67:=akl (V:=V67) mixed tys bc8 (f:=67) (fn:=Tryz.f67) Tryz.func67 (by kernel_rfl) (c:=sub (zZ Tryz.f67) []) (by kernel_rfl) (by
 intro X H R H' h
 unfold r67 at h;split at h <;> try contradiction
 rename_i a0
 obtain⟨hp,rfl,rfl⟩:=ik h
 refine⟨_,rfl,rfl,fun hok=>⟨?_,fun hz=>?_⟩⟩
 ·obtain⟨F,hF⟩:=bda a0 hp hok
  exact⟨aD0 F,(aKe F a0).trans hF⟩
 ·have e:a0=[]:=List.length_eq_zero_iff.mp hz
  subst e
  obtain⟨F,hF⟩:=bdb
  exact⟨_,abC (aKg F) hF⟩)
def bdc:List hI:=[]
def V48:Env:=dL fP dM bdc
noncomputable abbrev a8K:=ij V48 (some [(2,.own 9)]) (Tryz.f48).results.toList
theorem bdd:EOk Tryz.prog V48:=bL (by exact trivial)
def aD1(F:Nat):Cuts:={ F:=F,at_:=fun _=>none,join:=fun _=>none,fin:=(some [(2,.own 9)]) }
abbrev ban(F n:Nat){σ:Type}(e:σ→St)(K:Ex→St→Rz)(N:σ→Rz):=Qe V48 (aD1 F) (bp Tryz.f48 n) e K N
def aBj:(List Li)→St:=fun a=>hS [(0,(.vs (.rS a) 2 1))] [] 8 0
def avU(F:Nat):(List Li)→Rz:=fun a=>(cond (decide ((0+a.length) < 1073741824)) (some ((.own 0 0 1),[(.cells ([]++a).length (.rS ([]++a)) true)])) none)
theorem aKh F:ban F 1 aBj a8K (avU F):=fun _=>by kernel_rfl
def aTl(F:Nat):(List Li)→Rz:=avU F
theorem aKi(F:Nat)(a0:List Li):Et V48 (aD1 F) Tryz.f48 [(.vs (.rS a0) 2 1)] []=aTl F a0:=
 (ai1 (c:=(sub (zZ Tryz.f48) [])) (by kernel_rfl) (s:=aBj a0) (by kernel_rfl)).trans (aKh F a0)
def bao(F:Nat):Cuts:={ F:=F,at_:=fun _=>none,join:=fun _=>none,fin:=(some [(2,.own 9)]) }
abbrev bap(F n:Nat){σ:Type}(e:σ→St)(K:Ex→St→Rz)(N:σ→Rz):=Qe V48 (bao F) (bp Tryz.f48 n) e K N
def a7t:Unit→St:=fun _=>hS [(0,(.vs (.rS []) 3 1))] [] 8 0
def aLc(F:Nat):Unit→Rz:=fun _=>(some ((.own 0 0 1),[(.cells 0 (.rS []) true)]))
theorem aLd F:bap F 1 a7t a8K (aLc F):=fun _=>by kernel_rfl
def bde(F:Nat):Unit→Rz:=aLc F
def r48:eP:=fun X H=>match X,H with
 | [(.vs (.rS a0) 0 1)],[]=>some ((decide (a0.length < 1073741000)),.own 0 0 1,[(sB a0)])
 | _,_=>none
theorem bdf(a0:List Li)(hp:((decide (a0.length < 1073741000)))=true)(h0:okV (.vs (.rS a0) 0 1)):∃ F,aTl F a0=some ((.own 0 0 1),[(sB a0)]):=by
 have h:=of_decide_eq_true hp
 refine⟨0,?_⟩
 simp only [aTl,avU,List.nil_append]
 rw [aK (by omega)]
theorem bdg:∃ F,bde F ()=some ((.own 0 0 1),[(.cells ([]:List Li).length (.rS ([]:List Li)) true)]):=⟨0,rfl⟩
theorem c48:CallOk Tryz.prog dM 48 r48:=akl (V:=V48) mixed tys bdd (f:=48) (fn:=Tryz.f48) Tryz.func48 (by kernel_rfl) (c:=sub (zZ Tryz.f48) []) (by kernel_rfl) (by
 intro X H R H' h
 unfold r48 at h;split at h <;> try contradiction
 rename_i a0
 obtain⟨hp,rfl,rfl⟩:=ik h
 refine⟨_,rfl,rfl,fun hok=>⟨?_,fun hz=>?_⟩⟩
 ·obtain⟨F,hF⟩:=bdf a0 hp hok
  exact⟨aD1 F,(aKi F a0).trans hF⟩
 ·have e:a0=[]:=List.length_eq_zero_iff.mp hz
  subst e
  obtain⟨F,hF⟩:=bdg
  exact⟨_,abC (aLd F) hF⟩)
def bdh:List hI:=[(67,[some 3],r67)]
def V42:Env:=dL fP dM bdh
noncomputable abbrev bdi:=ij V42 (some [(2,.own 3)]) (Tryz.f42).results.toList
theorem bdj:EOk Tryz.prog V42:=bL (by exact⟨c67,trivial⟩)
def bdk(F:Nat):Cuts:={ F:=F,at_:=fun _=>none,join:=fun _=>none,fin:=(some [(2,.own 3)]) }
abbrev bdl(F n:Nat){σ:Type}(e:σ→St)(K:Ex→St→Rz)(N:σ→Rz):=Qe V42 (bdk F) (bp Tryz.f42 n) e K N
def avV:Er→St:=fun (a,b,c,d,e,f,g,h,i,j,k,l)=>hS [pS 0 0 7] [jB 1 5 2 3 4 d e f,dB 5 g 6 7 k l,iB a,iB c,sB b,bB h,pB i,wB j] 8 8
def aD2(F:Nat):Er→Rz:=fun (a,b,c,d,e,f,g,h,i,j,k,l)=>(cond (decide (a.length < 1073741000)) (some ((.own 8 0 1),[(jB 1 5 2 3 4 d e f),(dB 5 g 6 7 k l),(iB a),(iB c),(sB b),(bB h),(pB i),(wB j),(iB a)])) none)
theorem aTm F:bdl F 1 avV bdi (aD2 F):=fun _=>by kernel_rfl
def f42(F:Nat):Er→Rz:=aD2 F
def r42:eP:=fun X H=>match X,H with
 | [(.ptr 0 0 7 0 0 0 7)],[(.cells 7 (.segs (.cons 1 (.one (.ptr 1 0 5 0 0 0 5)) (.cons 1 (.one (.own 2 0 1)) (.cons 1 (.one (.own 3 0 1)) (.cons 1 (.one (.own 4 0 1)) (.cons 1 (.one (.int .i64 a0x)) (.cons 1 (.one (.int .i64 a0f)) (.cons 1 (.one (.bool a0c)) .nil)))))))) true),(.cells 5 (.segs (.cons 1 (.one (.own 5 a1n 64)) (.cons 1 (.one (.mp 6)) (.cons 1 (.one (.mp 7)) (.cons 1 (.one (.bool a1o)) (.cons 1 (.one (.int .i64 a1l)) .nil)))))) true),(.cells z2 (.rI .i64 a0N) true),(.cells z3 (.rI .i64 a0B) true),(.cells z4 (.rS a0T) true),(.cells z5 (.rI .u8 a1b) true),(.cells 0 (.rM .i64 0 (.arr .u8 64) a1p) true),(.cells 0 (.rM .i64 0 .bool a1w) true)]=>some ((decide ((Jr.J.mk a0N a0T a0B a0x a0f a0c).nums.length < 1073741000)),.own 8 0 1,[(jE 1 5 2 3 4 (Jr.J.mk a0N a0T a0B a0x a0f a0c)),(dE 5 (Dk.D.mk a1n a1b a1p a1w a1o a1l) 6 7),(.cells (Jr.J.mk a0N a0T a0B a0x a0f a0c).nums.length (.rI .i64 (Jr.J.mk a0N a0T a0B a0x a0f a0c).nums) true),(.cells (Jr.J.mk a0N a0T a0B a0x a0f a0c).bad.length (.rI .i64 (Jr.J.mk a0N a0T a0B a0x a0f a0c).bad) true),(.cells (Jr.J.mk a0N a0T a0B a0x a0f a0c).texts.length (.rS (Jr.J.mk a0N a0T a0B a0x a0f a0c).texts) true),(.cells (Dk.D.mk a1n a1b a1p a1w a1o a1l).blk.length (.rI .u8 (Dk.D.mk a1n a1b a1p a1w a1o a1l).blk) true),(pB (Dk.D.mk a1n a1b a1p a1w a1o a1l).pend),(wB (Dk.D.mk a1n a1b a1p a1w a1o a1l).worn),(.cells (Jr.J.mk a0N a0T a0B a0x a0f a0c).nums.length (.rI .i64 (Jr.J.mk a0N a0T a0B a0x a0f a0c).nums) true)])
 | _,_=>none
theorem s42(a0N:Li)(a0T:List Li)(a0B:Li)(a0x a0f:Int)(a0c:Bool)(a1n:Nat)(a1b:Li)(a1p a1w:Lp)(a1o:Bool)(a1l:Int)(hp:((decide ((Jr.J.mk a0N a0T a0B a0x a0f a0c).nums.length < 1073741000)))=true)(k0:okB (jB 1 5 2 3 4 a0x a0f a0c))(k1:okB (dB 5 a1n 6 7 a1o a1l))(k2:okB (iB a0N))(k3:okB (iB a0B))(k4:okB (sB a0T))(k5:okB (bB a1b))(k6:okB (pB a1p))(k7:okB (wB a1w)):∃ F,f42 F (a0N,a0T,a0B,a0x,a0f,a0c,a1n,a1b,a1p,a1w,a1o,a1l)=some ((.own 8 0 1),[(jE 1 5 2 3 4 (Jr.J.mk a0N a0T a0B a0x a0f a0c)),(dE 5 (Dk.D.mk a1n a1b a1p a1w a1o a1l) 6 7),(.cells (Jr.J.mk a0N a0T a0B a0x a0f a0c).nums.length (.rI .i64 (Jr.J.mk a0N a0T a0B a0x a0f a0c).nums) true),(.cells (Jr.J.mk a0N a0T a0B a0x a0f a0c).bad.length (.rI .i64 (Jr.J.mk a0N a0T a0B a0x a0f a0c).bad) true),(.cells (Jr.J.mk a0N a0T a0B a0x a0f a0c).texts.length (.rS (Jr.J.mk a0N a0T a0B a0x a0f a0c).texts) true),(.cells (Dk.D.mk a1n a1b a1p a1w a1o a1l).blk.length (.rI .u8 (Dk.D.mk a1n a1b a1p a1w a1o a1l).blk) true),(pB (Dk.D.mk a1n a1b a1p a1w a1o a1l).pend),(wB (Dk.D.mk a1n a1b a1p a1w a1o a1l).worn),(.cells (Jr.J.mk a0N a0T a0B a0x a0f a0c).nums.length (.rI .i64 (Jr.J.mk a0N a0T a0B a0x a0f a0c).nums) true)]):=by
 refine⟨0,?_⟩
 simp only [f42,aD2]
 rw [aK (of_decide_eq_true hp)]
theorem c42:Ck 42 r42:=ck bdj Tryz.func42 (by
 intro X H r H' h hX hH
 unfold r42 at h;split at h <;> try contradiction
 ·obtain⟨hp,rfl,rfl⟩:=ik h
  obtain rfl:=bh (hH _ hm2) rfl
  obtain rfl:=bh (hH _ hm3) rfl
  obtain rfl:=bh (hH _ hm4) rfl
  obtain rfl:=bh (hH _ hm5) rfl
  obtain⟨F,hF⟩:=s42 _ _ _ _ _ _ _ _ _ _ _ _ hp (hH _ hm0) (hH _ hm1) (hH _ hm2) (hH _ hm3) (hH _ hm4) (hH _ hm5) (hH _ hm6) (hH _ hm7)
  exact⟨_,abC (aTm F) hF⟩)
def bdm:List hI:=[(48,[some 9],r48)]
def V11:Env:=dL fP dM bdm
noncomputable abbrev bdn:=ij V11 (some [(2,.own 9)]) (Tryz.f11).results.toList
theorem bdo:EOk Tryz.prog V11:=bL (by exact⟨c48,trivial⟩)
def bdp(F:Nat):Cuts:={ F:=F,at_:=fun _=>none,join:=fun _=>none,fin:=(some [(2,.own 9)]) }
abbrev bdq(F n:Nat){σ:Type}(e:σ→St)(K:Ex→St→Rz)(N:σ→Rz):=Qe V11 (bdp F) (bp Tryz.f11 n) e K N
def a8L:Er→St:=avV
def aD3(F:Nat):Er→Rz:=fun (b,a,c,d,e,f,g,h,i,j,k,l)=>(cond (decide (a.length < 1073741000)) (some ((.own 8 0 1),[(jB 1 5 2 3 4 d e f),(dB 5 g 6 7 k l),(iB b),(iB c),(sB a),(bB h),(pB i),(wB j),(sB a)])) none)
theorem aTn F:bdq F 1 a8L bdn (aD3 F):=fun _=>by kernel_rfl
def f11(F:Nat):Er→Rz:=aD3 F
def r11:eP:=fun X H=>match X,H with
 | [(.ptr 0 0 7 0 0 0 7)],[(.cells 7 (.segs (.cons 1 (.one (.ptr 1 0 5 0 0 0 5)) (.cons 1 (.one (.own 2 0 1)) (.cons 1 (.one (.own 3 0 1)) (.cons 1 (.one (.own 4 0 1)) (.cons 1 (.one (.int .i64 a0x)) (.cons 1 (.one (.int .i64 a0f)) (.cons 1 (.one (.bool a0c)) .nil)))))))) true),(.cells 5 (.segs (.cons 1 (.one (.own 5 a1n 64)) (.cons 1 (.one (.mp 6)) (.cons 1 (.one (.mp 7)) (.cons 1 (.one (.bool a1o)) (.cons 1 (.one (.int .i64 a1l)) .nil)))))) true),(.cells z2 (.rI .i64 a0N) true),(.cells z3 (.rI .i64 a0B) true),(.cells z4 (.rS a0T) true),(.cells z5 (.rI .u8 a1b) true),(.cells 0 (.rM .i64 0 (.arr .u8 64) a1p) true),(.cells 0 (.rM .i64 0 .bool a1w) true)]=>some ((decide ((Jr.J.mk a0N a0T a0B a0x a0f a0c).texts.length < 1073741000)),.own 8 0 1,[(jE 1 5 2 3 4 (Jr.J.mk a0N a0T a0B a0x a0f a0c)),(dE 5 (Dk.D.mk a1n a1b a1p a1w a1o a1l) 6 7),(.cells (Jr.J.mk a0N a0T a0B a0x a0f a0c).nums.length (.rI .i64 (Jr.J.mk a0N a0T a0B a0x a0f a0c).nums) true),(.cells (Jr.J.mk a0N a0T a0B a0x a0f a0c).bad.length (.rI .i64 (Jr.J.mk a0N a0T a0B a0x a0f a0c).bad) true),(.cells (Jr.J.mk a0N a0T a0B a0x a0f a0c).texts.length (.rS (Jr.J.mk a0N a0T a0B a0x a0f a0c).texts) true),(.cells (Dk.D.mk a1n a1b a1p a1w a1o a1l).blk.length (.rI .u8 (Dk.D.mk a1n a1b a1p a1w a1o a1l).blk) true),(pB (Dk.D.mk a1n a1b a1p a1w a1o a1l).pend),(wB (Dk.D.mk a1n a1b a1p a1w a1o a1l).worn),(.cells (Jr.J.mk a0N a0T a0B a0x a0f a0c).texts.length (.rS (Jr.J.mk a0N a0T a0B a0x a0f a0c).texts) true)])
 | _,_=>none
theorem s11(a0N:Li)(a0T:List Li)(a0B:Li)(a0x a0f:Int)(a0c:Bool)(a1n:Nat)(a1b:Li)(a1p a1w:Lp)(a1o:Bool)(a1l:Int)(hp:((decide ((Jr.J.mk a0N a0T a0B a0x a0f a0c).texts.length < 1073741000)))=true)(k0:okB (jB 1 5 2 3 4 a0x a0f a0c))(k1:okB (dB 5 a1n 6 7 a1o a1l))(k2:okB (iB a0N))(k3:okB (iB a0B))(k4:okB (sB a0T))(k5:okB (bB a1b))(k6:okB (pB a1p))(k7:okB (wB a1w)):∃ F,f11 F (a0N,a0T,a0B,a0x,a0f,a0c,a1n,a1b,a1p,a1w,a1o,a1l)=some ((.own 8 0 1),[(jE 1 5 2 3 4 (Jr.J.mk a0N a0T a0B a0x a0f a0c)),(dE 5 (Dk.D.mk a1n a1b a1p a1w a1o a1l) 6 7),(.cells (Jr.J.mk a0N a0T a0B a0x a0f a0c).nums.length (.rI .i64 (Jr.J.mk a0N a0T a0B a0x a0f a0c).nums) true),(.cells (Jr.J.mk a0N a0T a0B a0x a0f a0c).bad.length (.rI .i64 (Jr.J.mk a0N a0T a0B a0x a0f a0c).bad) true),(.cells (Jr.J.mk a0N a0T a0B a0x a0f a0c).texts.length (.rS (Jr.J.mk a0N a0T a0B a0x a0f a0c).texts) true),(.cells (Dk.D.mk a1n a1b a1p a1w a1o a1l).blk.length (.rI .u8 (Dk.D.mk a1n a1b a1p a1w a1o a1l).blk) true),(pB (Dk.D.mk a1n a1b a1p a1w a1o a1l).pend),(wB (Dk.D.mk a1n a1b a1p a1w a1o a1l).worn),(.cells (Jr.J.mk a0N a0T a0B a0x a0f a0c).texts.length (.rS (Jr.J.mk a0N a0T a0B a0x a0f a0c).texts) true)]):=by
 refine⟨0,?_⟩
 simp only [f11,aD3]
 rw [aK (of_decide_eq_true hp)]
theorem c11:Ck 11 r11:=ck bdo Tryz.func11 (by
 intro X H r H' h hX hH
 unfold r11 at h;split at h <;> try contradiction
 ·obtain⟨hp,rfl,rfl⟩:=ik h
  obtain rfl:=bh (hH _ hm2) rfl
  obtain rfl:=bh (hH _ hm3) rfl
  obtain rfl:=bh (hH _ hm4) rfl
  obtain rfl:=bh (hH _ hm5) rfl
  obtain⟨F,hF⟩:=s11 _ _ _ _ _ _ _ _ _ _ _ _ hp (hH _ hm0) (hH _ hm1) (hH _ hm2) (hH _ hm3) (hH _ hm4) (hH _ hm5) (hH _ hm6) (hH _ hm7)
  exact⟨_,abC (aTn F) hF⟩)
def bdr:List hI:=[(67,[some 3],r67)]
def V35:Env:=dL fP dM bdr
noncomputable abbrev bds:=ij V35 (some [(2,.own 3)]) (Tryz.f35).results.toList
theorem bdt:EOk Tryz.prog V35:=bL (by exact⟨c67,trivial⟩)
def bdu(F:Nat):Cuts:={ F:=F,at_:=fun _=>none,join:=fun _=>none,fin:=(some [(2,.own 3)]) }
abbrev bdv(F n:Nat){σ:Type}(e:σ→St)(K:Ex→St→Rz)(N:σ→Rz):=Qe V35 (bdu F) (bp Tryz.f35 n) e K N
def a8M:Er→St:=avV
def aD4(F:Nat):Er→Rz:=fun (b,c,a,d,e,f,g,h,i,j,k,l)=>(cond (decide (a.length < 1073741000)) (some ((.own 8 0 1),[(jB 1 5 2 3 4 d e f),(dB 5 g 6 7 k l),(iB b),(iB a),(sB c),(bB h),(pB i),(wB j),(iB a)])) none)
theorem aTo F:bdv F 1 a8M bds (aD4 F):=fun _=>by kernel_rfl
def f35(F:Nat):Er→Rz:=aD4 F
def r35:eP:=fun X H=>match X,H with
 | [(.ptr 0 0 7 0 0 0 7)],[(.cells 7 (.segs (.cons 1 (.one (.ptr 1 0 5 0 0 0 5)) (.cons 1 (.one (.own 2 0 1)) (.cons 1 (.one (.own 3 0 1)) (.cons 1 (.one (.own 4 0 1)) (.cons 1 (.one (.int .i64 a0x)) (.cons 1 (.one (.int .i64 a0f)) (.cons 1 (.one (.bool a0c)) .nil)))))))) true),(.cells 5 (.segs (.cons 1 (.one (.own 5 a1n 64)) (.cons 1 (.one (.mp 6)) (.cons 1 (.one (.mp 7)) (.cons 1 (.one (.bool a1o)) (.cons 1 (.one (.int .i64 a1l)) .nil)))))) true),(.cells z2 (.rI .i64 a0N) true),(.cells z3 (.rI .i64 a0B) true),(.cells z4 (.rS a0T) true),(.cells z5 (.rI .u8 a1b) true),(.cells 0 (.rM .i64 0 (.arr .u8 64) a1p) true),(.cells 0 (.rM .i64 0 .bool a1w) true)]=>some ((decide ((Jr.J.mk a0N a0T a0B a0x a0f a0c).bad.length < 1073741000)),.own 8 0 1,[(jE 1 5 2 3 4 (Jr.J.mk a0N a0T a0B a0x a0f a0c)),(dE 5 (Dk.D.mk a1n a1b a1p a1w a1o a1l) 6 7),(.cells (Jr.J.mk a0N a0T a0B a0x a0f a0c).nums.length (.rI .i64 (Jr.J.mk a0N a0T a0B a0x a0f a0c).nums) true),(.cells (Jr.J.mk a0N a0T a0B a0x a0f a0c).bad.length (.rI .i64 (Jr.J.mk a0N a0T a0B a0x a0f a0c).bad) true),(.cells (Jr.J.mk a0N a0T a0B a0x a0f a0c).texts.length (.rS (Jr.J.mk a0N a0T a0B a0x a0f a0c).texts) true),(.cells (Dk.D.mk a1n a1b a1p a1w a1o a1l).blk.length (.rI .u8 (Dk.D.mk a1n a1b a1p a1w a1o a1l).blk) true),(pB (Dk.D.mk a1n a1b a1p a1w a1o a1l).pend),(wB (Dk.D.mk a1n a1b a1p a1w a1o a1l).worn),(.cells (Jr.J.mk a0N a0T a0B a0x a0f a0c).bad.length (.rI .i64 (Jr.J.mk a0N a0T a0B a0x a0f a0c).bad) true)])
 | _,_=>none
theorem s35(a0N:Li)(a0T:List Li)(a0B:Li)(a0x a0f:Int)(a0c:Bool)(a1n:Nat)(a1b:Li)(a1p a1w:Lp)(a1o:Bool)(a1l:Int)(hp:((decide ((Jr.J.mk a0N a0T a0B a0x a0f a0c).bad.length < 1073741000)))=true)(k0:okB (jB 1 5 2 3 4 a0x a0f a0c))(k1:okB (dB 5 a1n 6 7 a1o a1l))(k2:okB (iB a0N))(k3:okB (iB a0B))(k4:okB (sB a0T))(k5:okB (bB a1b))(k6:okB (pB a1p))(k7:okB (wB a1w)):∃ F,f35 F (a0N,a0T,a0B,a0x,a0f,a0c,a1n,a1b,a1p,a1w,a1o,a1l)=some ((.own 8 0 1),[(jE 1 5 2 3 4 (Jr.J.mk a0N a0T a0B a0x a0f a0c)),(dE 5 (Dk.D.mk a1n a1b a1p a1w a1o a1l) 6 7),(.cells (Jr.J.mk a0N a0T a0B a0x a0f a0c).nums.length (.rI .i64 (Jr.J.mk a0N a0T a0B a0x a0f a0c).nums) true),(.cells (Jr.J.mk a0N a0T a0B a0x a0f a0c).bad.length (.rI .i64 (Jr.J.mk a0N a0T a0B a0x a0f a0c).bad) true),(.cells (Jr.J.mk a0N a0T a0B a0x a0f a0c).texts.length (.rS (Jr.J.mk a0N a0T a0B a0x a0f a0c).texts) true),(.cells (Dk.D.mk a1n a1b a1p a1w a1o a1l).blk.length (.rI .u8 (Dk.D.mk a1n a1b a1p a1w a1o a1l).blk) true),(pB (Dk.D.mk a1n a1b a1p a1w a1o a1l).pend),(wB (Dk.D.mk a1n a1b a1p a1w a1o a1l).worn),(.cells (Jr.J.mk a0N a0T a0B a0x a0f a0c).bad.length (.rI .i64 (Jr.J.mk a0N a0T a0B a0x a0f a0c).bad) true)]):=by
 refine⟨0,?_⟩
 simp only [f35,aD4]
 rw [aK (of_decide_eq_true hp)]
theorem c35:Ck 35 r35:=ck bdt Tryz.func35 (by
 intro X H r H' h hX hH
 unfold r35 at h;split at h <;> try contradiction
 ·obtain⟨hp,rfl,rfl⟩:=ik h
  obtain rfl:=bh (hH _ hm2) rfl
  obtain rfl:=bh (hH _ hm3) rfl
  obtain rfl:=bh (hH _ hm4) rfl
  obtain rfl:=bh (hH _ hm5) rfl
  obtain⟨F,hF⟩:=s35 _ _ _ _ _ _ _ _ _ _ _ _ hp (hH _ hm0) (hH _ hm1) (hH _ hm2) (hH _ hm3) (hH _ hm4) (hH _ hm5) (hH _ hm6) (hH _ hm7)
  exact⟨_,abC (aTo F) hF⟩)
def bdw:List hI:=[]
def V37:Env:=dL fP dM bdw
noncomputable abbrev bdx:=ij V37 none (Tryz.f37).results.toList
theorem bdy:EOk Tryz.prog V37:=bL (by exact trivial)
def bdz(F:Nat):Cuts:={ F:=F,at_:=fun _=>none,join:=fun _=>none }
abbrev bdA(F n:Nat){σ:Type}(e:σ→St)(K:Ex→St→Rz)(N:σ→Rz):=Qe V37 (bdz F) (bp Tryz.f37 n) e K N
def a8N:Er→St:=fun (a,b,c,d,e,f,g,h,i,j,k,l)=>hS [pS 0 0 7] [jB 1 5 2 3 4 d e f,dB 5 g 6 7 k l,iB a,iB c,sB b,bB h,pB i,wB j] 7 8
def aYQ(F:Nat):Er→Rz:=fun (b,c,d,a,e,f,g,h,i,j,k,l)=>(some ((.int .i64 a),[(jB 1 5 2 3 4 a e f),(dB 5 g 6 7 k l),(iB b),(iB d),(sB c),(bB h),(pB i),(wB j)]))
theorem aTp F:bdA F 1 a8N bdx (aYQ F):=fun _=>by kernel_rfl
def f37(F:Nat):Er→Rz:=aYQ F
def r37:eP:=fun X H=>match X,H with
 | [(.ptr 0 0 7 0 0 0 7)],[(.cells 7 (.segs (.cons 1 (.one (.ptr 1 0 5 0 0 0 5)) (.cons 1 (.one (.own 2 0 1)) (.cons 1 (.one (.own 3 0 1)) (.cons 1 (.one (.own 4 0 1)) (.cons 1 (.one (.int .i64 a0x)) (.cons 1 (.one (.int .i64 a0f)) (.cons 1 (.one (.bool a0c)) .nil)))))))) true),(.cells 5 (.segs (.cons 1 (.one (.own 5 a1n 64)) (.cons 1 (.one (.mp 6)) (.cons 1 (.one (.mp 7)) (.cons 1 (.one (.bool a1o)) (.cons 1 (.one (.int .i64 a1l)) .nil)))))) true),(.cells z2 (.rI .i64 a0N) true),(.cells z3 (.rI .i64 a0B) true),(.cells z4 (.rS a0T) true),(.cells z5 (.rI .u8 a1b) true),(.cells 0 (.rM .i64 0 (.arr .u8 64) a1p) true),(.cells 0 (.rM .i64 0 .bool a1w) true)]=>some (true,(.int .i64 (Jr.J.mk a0N a0T a0B a0x a0f a0c).next),[(jE 1 5 2 3 4 (Jr.J.mk a0N a0T a0B a0x a0f a0c)),(dE 5 (Dk.D.mk a1n a1b a1p a1w a1o a1l) 6 7),(.cells (Jr.J.mk a0N a0T a0B a0x a0f a0c).nums.length (.rI .i64 (Jr.J.mk a0N a0T a0B a0x a0f a0c).nums) true),(.cells (Jr.J.mk a0N a0T a0B a0x a0f a0c).bad.length (.rI .i64 (Jr.J.mk a0N a0T a0B a0x a0f a0c).bad) true),(.cells (Jr.J.mk a0N a0T a0B a0x a0f a0c).texts.length (.rS (Jr.J.mk a0N a0T a0B a0x a0f a0c).texts) true),(.cells (Dk.D.mk a1n a1b a1p a1w a1o a1l).blk.length (.rI .u8 (Dk.D.mk a1n a1b a1p a1w a1o a1l).blk) true),(pB (Dk.D.mk a1n a1b a1p a1w a1o a1l).pend),(wB (Dk.D.mk a1n a1b a1p a1w a1o a1l).worn)])
 | _,_=>none
theorem s37(a0N:Li)(a0T:List Li)(a0B:Li)(a0x a0f:Int)(a0c:Bool)(a1n:Nat)(a1b:Li)(a1p a1w:Lp)(a1o:Bool)(a1l:Int)(k0:okB (jB 1 5 2 3 4 a0x a0f a0c))(k1:okB (dB 5 a1n 6 7 a1o a1l))(k2:okB (iB a0N))(k3:okB (iB a0B))(k4:okB (sB a0T))(k5:okB (bB a1b))(k6:okB (pB a1p))(k7:okB (wB a1w)):∃ F,f37 F (a0N,a0T,a0B,a0x,a0f,a0c,a1n,a1b,a1p,a1w,a1o,a1l)=some ((.int .i64 (Jr.J.mk a0N a0T a0B a0x a0f a0c).next),[(jE 1 5 2 3 4 (Jr.J.mk a0N a0T a0B a0x a0f a0c)),(dE 5 (Dk.D.mk a1n a1b a1p a1w a1o a1l) 6 7),(.cells (Jr.J.mk a0N a0T a0B a0x a0f a0c).nums.length (.rI .i64 (Jr.J.mk a0N a0T a0B a0x a0f a0c).nums) true),(.cells (Jr.J.mk a0N a0T a0B a0x a0f a0c).bad.length (.rI .i64 (Jr.J.mk a0N a0T a0B a0x a0f a0c).bad) true),(.cells (Jr.J.mk a0N a0T a0B a0x a0f a0c).texts.length (.rS (Jr.J.mk a0N a0T a0B a0x a0f a0c).texts) true),(.cells (Dk.D.mk a1n a1b a1p a1w a1o a1l).blk.length (.rI .u8 (Dk.D.mk a1n a1b a1p a1w a1o a1l).blk) true),(pB (Dk.D.mk a1n a1b a1p a1w a1o a1l).pend),(wB (Dk.D.mk a1n a1b a1p a1w a1o a1l).worn)]):=⟨0,rfl⟩
theorem c37:Ck 37 r37:=ck bdy Tryz.func37 (by
 intro X H r H' h hX hH
 unfold r37 at h;split at h <;> try contradiction
 ·obtain⟨hp,rfl,rfl⟩:=ik h
  obtain rfl:=bh (hH _ hm2) rfl
  obtain rfl:=bh (hH _ hm3) rfl
  obtain rfl:=bh (hH _ hm4) rfl
  obtain rfl:=bh (hH _ hm5) rfl
  obtain⟨F,hF⟩:=s37 _ _ _ _ _ _ _ _ _ _ _ _ (hH _ hm0) (hH _ hm1) (hH _ hm2) (hH _ hm3) (hH _ hm4) (hH _ hm5) (hH _ hm6) (hH _ hm7)
  exact⟨_,abC (aTp F) hF⟩)
def bdB:List hI:=[(43,[none],r43)]
def V38:Env:=dL fP dM bdB
noncomputable abbrev bdC:=ij V38 none (Tryz.f38).results.toList
theorem bdD:EOk Tryz.prog V38:=bL (by exact⟨c43,trivial⟩)
def bdE(F:Nat):Cuts:={ F:=F,at_:=fun _=>none,join:=fun _=>none }
abbrev bdF(F n:Nat){σ:Type}(e:σ→St)(K:Ex→St→Rz)(N:σ→Rz):=Qe V38 (bdE F) (bp Tryz.f38 n) e K N
def a8O:Er→St:=fun (a,b,c,d,e,f,g,h,i,j,k,l)=>hS [pS 0 0 7] [jB 1 5 2 3 4 d e f,dB 5 g 6 7 k l,iB a,iB c,sB b,bB h,pB i,wB j] 13 8
def aYR(F:Nat):Er→Rz:=fun (h,i,j,k,g,l,a,b,c,d,e,f)=>(some ((.int .i64 (IntKind.i64.wrap (((Dk.D.mk a b c d e f).n:Int)-g))),[(jB 1 5 2 3 4 k g l),(dE 5 (Dk.D.mk a b c d e f) 6 7),(iB h),(iB j),(sB i),(.cells (Dk.D.mk a b c d e f).blk.length (.rI .u8 (Dk.D.mk a b c d e f).blk) true),(pB (Dk.D.mk a b c d e f).pend),(wB (Dk.D.mk a b c d e f).worn)]))
theorem aTq F:bdF F 1 a8O bdC (aYR F):=fun _=>by kernel_rfl
def f38(F:Nat):Er→Rz:=aYR F
def r38:eP:=fun X H=>match X,H with
 | [(.ptr 0 0 7 0 0 0 7)],[(.cells 7 (.segs (.cons 1 (.one (.ptr 1 0 5 0 0 0 5)) (.cons 1 (.one (.own 2 0 1)) (.cons 1 (.one (.own 3 0 1)) (.cons 1 (.one (.own 4 0 1)) (.cons 1 (.one (.int .i64 a0x)) (.cons 1 (.one (.int .i64 a0f)) (.cons 1 (.one (.bool a0c)) .nil)))))))) true),(.cells 5 (.segs (.cons 1 (.one (.own 5 a1n 64)) (.cons 1 (.one (.mp 6)) (.cons 1 (.one (.mp 7)) (.cons 1 (.one (.bool a1o)) (.cons 1 (.one (.int .i64 a1l)) .nil)))))) true),(.cells z2 (.rI .i64 a0N) true),(.cells z3 (.rI .i64 a0B) true),(.cells z4 (.rS a0T) true),(.cells z5 (.rI .u8 a1b) true),(.cells 0 (.rM .i64 0 (.arr .u8 64) a1p) true),(.cells 0 (.rM .i64 0 .bool a1w) true)]=>some (true,(.int .i64 (IntKind.i64.wrap (((Dk.D.mk a1n a1b a1p a1w a1o a1l).n:Int)-(Jr.J.mk a0N a0T a0B a0x a0f a0c).fin))),[(jE 1 5 2 3 4 (Jr.J.mk a0N a0T a0B a0x a0f a0c)),(dE 5 (Dk.D.mk a1n a1b a1p a1w a1o a1l) 6 7),(.cells (Jr.J.mk a0N a0T a0B a0x a0f a0c).nums.length (.rI .i64 (Jr.J.mk a0N a0T a0B a0x a0f a0c).nums) true),(.cells (Jr.J.mk a0N a0T a0B a0x a0f a0c).bad.length (.rI .i64 (Jr.J.mk a0N a0T a0B a0x a0f a0c).bad) true),(.cells (Jr.J.mk a0N a0T a0B a0x a0f a0c).texts.length (.rS (Jr.J.mk a0N a0T a0B a0x a0f a0c).texts) true),(.cells (Dk.D.mk a1n a1b a1p a1w a1o a1l).blk.length (.rI .u8 (Dk.D.mk a1n a1b a1p a1w a1o a1l).blk) true),(pB (Dk.D.mk a1n a1b a1p a1w a1o a1l).pend),(wB (Dk.D.mk a1n a1b a1p a1w a1o a1l).worn)])
 | _,_=>none
theorem s38(a0N:Li)(a0T:List Li)(a0B:Li)(a0x a0f:Int)(a0c:Bool)(a1n:Nat)(a1b:Li)(a1p a1w:Lp)(a1o:Bool)(a1l:Int)(k0:okB (jB 1 5 2 3 4 a0x a0f a0c))(k1:okB (dB 5 a1n 6 7 a1o a1l))(k2:okB (iB a0N))(k3:okB (iB a0B))(k4:okB (sB a0T))(k5:okB (bB a1b))(k6:okB (pB a1p))(k7:okB (wB a1w)):∃ F,f38 F (a0N,a0T,a0B,a0x,a0f,a0c,a1n,a1b,a1p,a1w,a1o,a1l)=some ((.int .i64 (IntKind.i64.wrap (((Dk.D.mk a1n a1b a1p a1w a1o a1l).n:Int)-(Jr.J.mk a0N a0T a0B a0x a0f a0c).fin))),[(jE 1 5 2 3 4 (Jr.J.mk a0N a0T a0B a0x a0f a0c)),(dE 5 (Dk.D.mk a1n a1b a1p a1w a1o a1l) 6 7),(.cells (Jr.J.mk a0N a0T a0B a0x a0f a0c).nums.length (.rI .i64 (Jr.J.mk a0N a0T a0B a0x a0f a0c).nums) true),(.cells (Jr.J.mk a0N a0T a0B a0x a0f a0c).bad.length (.rI .i64 (Jr.J.mk a0N a0T a0B a0x a0f a0c).bad) true),(.cells (Jr.J.mk a0N a0T a0B a0x a0f a0c).texts.length (.rS (Jr.J.mk a0N a0T a0B a0x a0f a0c).texts) true),(.cells (Dk.D.mk a1n a1b a1p a1w a1o a1l).blk.length (.rI .u8 (Dk.D.mk a1n a1b a1p a1w a1o a1l).blk) true),(pB (Dk.D.mk a1n a1b a1p a1w a1o a1l).pend),(wB (Dk.D.mk a1n a1b a1p a1w a1o a1l).worn)]):=⟨0,rfl⟩
theorem c38:Ck 38 r38:=ck bdD Tryz.func38 (by
 intro X H r H' h hX hH
 unfold r38 at h;split at h <;> try contradiction
 ·obtain⟨hp,rfl,rfl⟩:=ik h
  obtain rfl:=bh (hH _ hm2) rfl
  obtain rfl:=bh (hH _ hm3) rfl
  obtain rfl:=bh (hH _ hm4) rfl
  obtain rfl:=bh (hH _ hm5) rfl
  obtain⟨F,hF⟩:=s38 _ _ _ _ _ _ _ _ _ _ _ _ (hH _ hm0) (hH _ hm1) (hH _ hm2) (hH _ hm3) (hH _ hm4) (hH _ hm5) (hH _ hm6) (hH _ hm7)
  exact⟨_,abC (aTq F) hF⟩)
def bdG:List hI:=[]
def V12:Env:=dL fP dM bdG
noncomputable abbrev Ef:=ij V12 (some [(2,.view 3)]) (Tryz.f12).results.toList
theorem bdH:EOk Tryz.prog V12:=bL (by exact trivial)
def bdI(F:Nat):Cuts:={ F:=F,at_:=fun n=>match n with | 3012=>some aDQ | 9014=>some aDR | _=>none,join:=fun n=>match n with | 1043=>some [(0,.plain)] | 2041=>some xe | 3014=>some aDQ | 7024=>some xe | 8022=>some a8H | 9016=>some aDR | 13003=>some [(6,.own 3)] | _=>none,fin:=(some [(2,.view 3)]) }
abbrev Eg(F n:Nat){σ:Type}(e:σ→St)(K:Ex→St→Rz)(N:σ→Rz):=Qe V12 (bdI F) (bp Tryz.f12 n) e K N
def aLe:Er→St:=fun (a,b,c,d,e,f,g,h,i,j,k,l)=>hS [pS 0 0 7] [jB 1 5 2 3 4 d e f,dB 5 g 6 7 k l,iB a,iB c,sB b,bB h,pB i,wB j] 38 8
def avW:(Dk.D)×(Jr.J)→St:=fun (a,b)=>hS [pS 0 0 7] [jE 1 5 2 3 4 b,dE 5 a 6 7,iB b.nums,iB b.bad,sB b.texts,bB a.blk,pB a.pend,wB a.worn] 38 8
def ahb:aha→St:=fun (c,a,b)=>hS [pS 0 0 7,(3,.mp 8)] [jE 1 5 2 3 4 b,dE 5 a 6 7,iB b.nums,iB b.bad,sB b.texts,bB a.blk,pB a.pend,wB a.worn,wB c] 38 8
def alJ:ajo→St:=fun (c,d,e,a,b)=>hS [pS 0 0 7,(3,.mp 8),(12,.own 2 0 1),iS 13 c,iS 14 d] [jE 1 5 2 3 4 b,dE 5 a 6 7,iB b.nums,iB b.bad,sB b.texts,bB a.blk,pB a.pend,wB a.worn,wB e] 38 8
def aLf:ajo→St:=alJ
def P4:aha→St:=ahb
def alK:aS0→St:=fun (c,d,a,b)=>hS [pS 0 0 7,(3,.mp 8),(6,.own 9 0 1)] [jE 1 5 2 3 4 b,dE 5 a 6 7,iB b.nums,iB b.bad,sB b.texts,bB a.blk,pB a.pend,wB a.worn,wB c,iB d] 38 8
def alL:ajp→St:=fun (c,d,e,a,b)=>hS [pS 0 0 7,(3,.mp 8),(6,.own 9 0 1),iS 7 c] [jE 1 5 2 3 4 b,dE 5 a 6 7,iB b.nums,iB b.bad,sB b.texts,bB a.blk,pB a.pend,wB a.worn,wB d,iB e] 38 8
def aLg:ajp→St:=alL
def Vu:avI→St:=fun (c,a,b)=>hS [(6,.own 8 0 1)] [jE 1 5 2 3 4 b,dE 5 a 6 7,iB b.nums,iB b.bad,sB b.texts,bB a.blk,pB a.pend,wB a.worn,iB c] 38 8
def aqU(F:Nat)(a:(Dk.D)×(Jr.J)→Rz):Er→Rz:=fun (b,c,d,e,f,g,h,i,j,k,l,m)=>(a ((Dk.D.mk h i j k l m),(Jr.J.mk b c d e f g)))
theorem aTr F Rj1:Eg F 2 aLe (kq V12 Rj1 [(0,.plain)] Ef) (aqU F (Rj1∘avW)):=fun _=>by kernel_rfl
def aqV(F:Nat)(a:aha→Rz):(Dk.D)×(Jr.J)→Rz:=fun (b,c)=>(a ([],b,c))
theorem aTs F Rj2:Eg F 6 avW (kq V12 Rj2 xe Ef) (aqV F (Rj2∘ahb)):=fun _=>by kernel_rfl
def aqW(F:Nat)(b:ajo→Rz)(e:aha→Rz):aha→Rz:=fun (c,d,a)=>(b ((↑a.nums.length:Int),(0:Int),c,d,a))
theorem aTt F Rj3 Rj4:Eg F 28 ahb (kq V12 Rj3 aDQ (kq V12 Rj4 xe Ef)) (aqW F (Rj3∘alJ) (Rj4∘P4)):=fun _=>by kernel_rfl
def alM(F:Nat)(f:ajo→Rz)(g:aha→Rz):ajo→Rz:=fun (c,a,d,e,b)=>(cond (decide (a < c)) (cond ((decide (0≤a))&&(decide (a < (↑b.nums.length:Int)))) (f (c,(IntKind.i64.wrap (a+(1:Int))),(u9 d [(b.nums.getD (Int.toNat a) 0)] [(cond true 1 0)]),e,b)) none) (g (d,e,b)))
theorem aTu F Rl1 Rj4:Eg F 116 aLf (kq V12 Rl1 aDQ (aV 0 (kq V12 Rj4 xe Ef))) (alM F (Rl1∘aLf) (Rj4∘P4)):=fun _=>by kernel_rfl
def aoG:ajo→Int×Int×(Lp)×(Dk.D)×(Jr.J):=fun (a,b,c,d,e)=>(a,b,c,d,e)
def aD5(F:Nat)(a:aha→Rz):ajo→Rz:=fun v=>eT (fun k=>alM F k a) F (aoG v)
theorem aTv F Rj4:Eg F 58 alJ (aV 0 (kq V12 Rj4 xe Ef)) (aD5 F (Rj4∘P4)):=lpC aoG (fun k=>alM F k (Rj4∘P4)) (fun Rl1=>aTu F Rl1 Rj4)
def aD6(F:Nat)(a):=aD5 F a
theorem aTw F Rj4:Eg F 29 alJ (kq V12 Rj4 xe Ef) (aD6 F (Rj4∘P4)):=biC (aTv F Rj4)
def aqX(F:Nat)(a):=aqW F (aD6 F a) a
theorem aTx F Rj4:Eg F 14 ahb (kq V12 Rj4 xe Ef) (aqX F (Rj4∘P4)):=sqC (fun k=>aqW F k (Rj4∘P4)) (fun Rj3=>aTt F Rj3 Rj4) (aTw F Rj4)
def aqY(F:Nat)(a:aS0→Rz):aha→Rz:=fun (b,c,d)=>(a (b,[],c,d))
theorem aTy F Rj5:Eg F 30 P4 (kq V12 Rj5 a8H Ef) (aqY F (Rj5∘alK)):=fun _=>by kernel_rfl
def aqZ(F:Nat)(a:ajp→Rz)(f:avI→Rz):aS0→Rz:=fun (b,c,d,e)=>(a ((1:Int),b,c,d,e))
theorem aTz F Rj6 Rj7:Eg F 124 alK (kq V12 Rj6 aDR (kq V12 Rj7 [(6,.own 3)] Ef)) (aqZ F (Rj6∘alL) (Rj7∘Vu)):=fun _=>by kernel_rfl
def ahc(F:Nat)(f:ajp→Rz)(g:avI→Rz):ajp→Rz:=fun (a,d,b,e,c)=>(cond (decide (a < c.next)) (cond (!((u5 (EO .bool) d [a]).getD 0 0==1)) (cond (decide ((b.length+1) < 1073741824)) (f ((IntKind.i64.wrap (a+(1:Int))),d,(b++[a]),e,c)) none) (f ((IntKind.i64.wrap (a+(1:Int))),d,b,e,c))) (g (b,e,c)))
theorem aLh F Rl2 Rj7:Eg F 500 aLg (kq V12 Rl2 aDR (aV 2 (kq V12 Rj7 [(6,.own 3)] Ef))) (ahc F (Rl2∘aLg) (Rj7∘Vu)):=fun _=>by kernel_rfl
def ajq:ajp→Int×(Lp)×Li×(Dk.D)×(Jr.J):=fun (a,b,c,d,e)=>(a,b,c,d,e)
def avX(F:Nat)(a:avI→Rz):ajp→Rz:=fun v=>eT (fun k=>ahc F k a) F (ajq v)
theorem aLi F Rj7:Eg F 250 alL (aV 2 (kq V12 Rj7 [(6,.own 3)] Ef)) (avX F (Rj7∘Vu)):=lpC ajq (fun k=>ahc F k (Rj7∘Vu)) (fun Rl2=>aLh F Rl2 Rj7)
def avY(F:Nat)(a):=avX F a
theorem aLj F Rj7:Eg F 125 alL (kq V12 Rj7 [(6,.own 3)] Ef) (avY F (Rj7∘Vu)):=biC (aLi F Rj7)
def alN(F:Nat)(a):=aqZ F (avY F a) a
theorem aLk F Rj7:Eg F 62 alK (kq V12 Rj7 [(6,.own 3)] Ef) (alN F (Rj7∘Vu)):=sqC (fun k=>aqZ F k (Rj7∘Vu)) (fun Rj6=>aTz F Rj6 Rj7) (aLj F Rj7)
def avZ(F:Nat):avI→Rz:=fun (c,a,b)=>(some ((.vs (.rI .i64 c) 0 1),[(jE 1 5 2 3 4 b),(dE 5 a 6 7),(iB b.nums),(iB b.bad),(sB b.texts),(bB a.blk),(pB a.pend),(wB a.worn)]))
theorem aLl F:Eg F 63 Vu Ef (avZ F):=fun _=>by kernel_rfl
def av0(F:Nat):=alN F (avZ F)
theorem aLm F:Eg F 31 alK Ef (av0 F):=sqC (alN F) (fun Rj7=>aLk F Rj7) (aLl F)
def alO(F:Nat):=aqY F (av0 F)
theorem aLn F:Eg F 15 P4 Ef (alO F):=sqC (aqY F) (fun Rj5=>aTy F Rj5) (aLm F)
def av1(F:Nat):=aqX F (alO F)
theorem aLo F:Eg F 7 ahb Ef (av1 F):=sqC (aqX F) (fun Rj4=>aTx F Rj4) (aLn F)
def av2(F:Nat):=aqV F (av1 F)
theorem aLp F:Eg F 3 avW Ef (av2 F):=sqC (aqV F) (fun Rj2=>aTs F Rj2) (aLo F)
def av3(F:Nat):=aqU F (av2 F)
theorem aLq F:Eg F 1 aLe Ef (av3 F):=sqC (aqU F) (fun Rj1=>aTr F Rj1) (aLp F)
def f12(F:Nat):Er→Rz:=av3 F
def r12:eP:=fun X H=>match X,H with
 | [(.ptr 0 0 7 0 0 0 7)],[(.cells 7 (.segs (.cons 1 (.one (.ptr 1 0 5 0 0 0 5)) (.cons 1 (.one (.own 2 0 1)) (.cons 1 (.one (.own 3 0 1)) (.cons 1 (.one (.own 4 0 1)) (.cons 1 (.one (.int .i64 a0x)) (.cons 1 (.one (.int .i64 a0f)) (.cons 1 (.one (.bool a0c)) .nil)))))))) true),(.cells 5 (.segs (.cons 1 (.one (.own 5 a1n 64)) (.cons 1 (.one (.mp 6)) (.cons 1 (.one (.mp 7)) (.cons 1 (.one (.bool a1o)) (.cons 1 (.one (.int .i64 a1l)) .nil)))))) true),(.cells z2 (.rI .i64 a0N) true),(.cells z3 (.rI .i64 a0B) true),(.cells z4 (.rS a0T) true),(.cells z5 (.rI .u8 a1b) true),(.cells 0 (.rM .i64 0 (.arr .u8 64) a1p) true),(.cells 0 (.rM .i64 0 .bool a1w) true)]=>some ((decide ((Jr.J.mk a0N a0T a0B a0x a0f a0c).nums.length < 1073741000∧(Jr.J.mk a0N a0T a0B a0x a0f a0c).next < 100000)),(.vs (.rI .i64 (Jr.damaged (Jr.J.mk a0N a0T a0B a0x a0f a0c))) 0 1),[(jE 1 5 2 3 4 (Jr.J.mk a0N a0T a0B a0x a0f a0c)),(dE 5 (Dk.D.mk a1n a1b a1p a1w a1o a1l) 6 7),(.cells (Jr.J.mk a0N a0T a0B a0x a0f a0c).nums.length (.rI .i64 (Jr.J.mk a0N a0T a0B a0x a0f a0c).nums) true),(.cells (Jr.J.mk a0N a0T a0B a0x a0f a0c).bad.length (.rI .i64 (Jr.J.mk a0N a0T a0B a0x a0f a0c).bad) true),(.cells (Jr.J.mk a0N a0T a0B a0x a0f a0c).texts.length (.rS (Jr.J.mk a0N a0T a0B a0x a0f a0c).texts) true),(.cells (Dk.D.mk a1n a1b a1p a1w a1o a1l).blk.length (.rI .u8 (Dk.D.mk a1n a1b a1p a1w a1o a1l).blk) true),(pB (Dk.D.mk a1n a1b a1p a1w a1o a1l).pend),(wB (Dk.D.mk a1n a1b a1p a1w a1o a1l).worn)])
 | _,_=>none
theorem s12(a0N:Li)(a0T:List Li)(a0B:Li)(a0x a0f:Int)(a0c:Bool)(a1n:Nat)(a1b:Li)(a1p a1w:Lp)(a1o:Bool)(a1l:Int)(hp:((decide ((Jr.J.mk a0N a0T a0B a0x a0f a0c).nums.length < 1073741000∧(Jr.J.mk a0N a0T a0B a0x a0f a0c).next < 100000)))=true)(k0:okB (jB 1 5 2 3 4 a0x a0f a0c))(k1:okB (dB 5 a1n 6 7 a1o a1l))(k2:okB (iB a0N))(k3:okB (iB a0B))(k4:okB (sB a0T))(k5:okB (bB a1b))(k6:okB (pB a1p))(k7:okB (wB a1w)):∃ F,f12 F (a0N,a0T,a0B,a0x,a0f,a0c,a1n,a1b,a1p,a1w,a1o,a1l)=some ((.vs (.rI .i64 (Jr.damaged (Jr.J.mk a0N a0T a0B a0x a0f a0c))) 0 1),[(jE 1 5 2 3 4 (Jr.J.mk a0N a0T a0B a0x a0f a0c)),(dE 5 (Dk.D.mk a1n a1b a1p a1w a1o a1l) 6 7),(.cells (Jr.J.mk a0N a0T a0B a0x a0f a0c).nums.length (.rI .i64 (Jr.J.mk a0N a0T a0B a0x a0f a0c).nums) true),(.cells (Jr.J.mk a0N a0T a0B a0x a0f a0c).bad.length (.rI .i64 (Jr.J.mk a0N a0T a0B a0x a0f a0c).bad) true),(.cells (Jr.J.mk a0N a0T a0B a0x a0f a0c).texts.length (.rS (Jr.J.mk a0N a0T a0B a0x a0f a0c).texts) true),(.cells (Dk.D.mk a1n a1b a1p a1w a1o a1l).blk.length (.rI .u8 (Dk.D.mk a1n a1b a1p a1w a1o a1l).blk) true),(pB (Dk.D.mk a1n a1b a1p a1w a1o a1l).pend),(wB (Dk.D.mk a1n a1b a1p a1w a1o a1l).worn)]):=by
 obtain⟨hp1,hp2⟩:=of_decide_eq_true hp
 obtain⟨F,hF⟩:∃ F,F=a0N.length+200000:=⟨_,rfl⟩
 refine⟨F,?_⟩
 simp only [f12,av3,aqU,av2,aqV,av1,aqX,alO,aqW,aD6,aD5,aoG]
 have hp1:a0N.length < 1073741000:=hp1
 have hp2:a0x < 100000:=hp2
 refine iR (fun i=>((a0N.length:Int),(i:Int),(a0N.take i).foldl (fun m n=>u9 m [n] [1]) [],(Dk.D.mk a1n a1b a1p a1w a1o a1l),(Jr.J.mk a0N a0T a0B a0x a0f a0c))) a0N.length rfl (fun i hi q=>?_) (fun q=>?_) F (by omega)
 ·simp only [alM,Int.toNat_natCast,cH]
  rw [aK (by omega),aK (by omega),bM (by omega) (by omega),List.take_add_one,List.foldl_append,List.getElem?_eq_getElem hi,List.getD_eq_getElem?_getD,List.getElem?_eq_getElem hi]
  rfl
 simp only [alM]
 rw [ba (by omega),List.take_length]
 simp only [alO,aqY,av0,alN,avZ,aqZ,avY,avX,ajq]
 have hth:∀ t,((u5 (EO .bool) (a0N.foldl (fun m n=>u9 m [n] [1]) []) [t]).getD 0 0==1)=a0N.contains t:=fun t=>by
  have:=Jr.there_get t a0N [] (fun e he=>by cases he)
  rw [show u7 ([]:Dk.Es) [t]=false from rfl,Bool.or_false] at this
  exact this
 refine iR (fun i=>((i:Int)+1,a0N.foldl (fun m n=>u9 m [n] [1]) [],((List.range i).filter fun i:Nat=>!a0N.contains ((i:Int)+1)).map fun i:Nat=>(i:Int)+1,(Dk.D.mk a1n a1b a1p a1w a1o a1l),(Jr.J.mk a0N a0T a0B a0x a0f a0c))) (a0x-1).toNat rfl (fun i hi q=>?_) (fun q=>?_) F (by omega)
 ·simp only [ahc]
  have hlen:(((List.range i).filter fun i:Nat=>!a0N.contains ((i:Int)+1)).map fun i:Nat=>(i:Int)+1).length≤i:=by
   rw [List.length_map];exact Nat.le_trans (List.length_filter_le _ _) (by simp)
  rw [aK (by omega),hth,bM (by omega) (by omega),Jr.dam_step]
  cases (!a0N.contains ((i:Int)+1))
  ·rw [cond_false,cond_false,List.append_nil];rfl
  ·rw [cond_true,cond_true,aK (by omega)];rfl
 ·simp only [ahc]
  rw [ba (by omega)]
  rfl
theorem c12:Ck 12 r12:=ck bdH Tryz.func12 (by
 intro X H r H' h hX hH
 unfold r12 at h;split at h <;> try contradiction
 ·obtain⟨hp,rfl,rfl⟩:=ik h
  obtain rfl:=bh (hH _ hm2) rfl
  obtain rfl:=bh (hH _ hm3) rfl
  obtain rfl:=bh (hH _ hm4) rfl
  obtain rfl:=bh (hH _ hm5) rfl
  obtain⟨F,hF⟩:=s12 _ _ _ _ _ _ _ _ _ _ _ _ hp (hH _ hm0) (hH _ hm1) (hH _ hm2) (hH _ hm3) (hH _ hm4) (hH _ hm5) (hH _ hm6) (hH _ hm7)
  exact⟨_,abC (aLq F) hF⟩)
end Go.Am
