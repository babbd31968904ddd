/- Part of a proof. -/
import Derived.Test.YtffddoahjpemaaaGreatDoorAmJrn7
set_option linter.unusedVariables false
set_option linter.unusedSimpArgs false
namespace Go.Am
open Go Go.Proofs
abbrev Nm:List (Nat×Md):=[(5,.plain),(6,.plain),(7,.plain),(32,.plain),(33,.plain),(34,.plain)]
abbrev Nn:List (Nat×Md):=[(0,.plain),(5,.plain),(6,.plain)]
abbrev a0F:List (Nat×Md):=[(0,.plain),(5,.plain),(6,.plain),(7,.plain)]
abbrev yt:List (Nat×Md):=[(6,.plain),(7,.plain)]
abbrev Np:List (Nat×Md):=[(0,.plain),(1,.plain),(7,.plain),(8,.plain)]
abbrev Nq:List (Nat×Md):=[(0,.plain),(3,.plain),(12,.plain),(13,.plain),(14,.plain)]
abbrev Nr:List (Nat×Md):=[(0,.plain),(3,.plain),(6,.own 3),(7,.plain)]
abbrev a0G:List (Nat×Md):=[(0,.plain),(3,.plain),(6,.own 3)]
abbrev mJ:=(List (List Li))×Nat
abbrev aaY:=(List (List Li))×Nat×Int×Int×Int×Li×Bool
abbrev yu:=(List (List Li))×Nat×Int×Int×Int×Int×Li×Bool
abbrev aaZ:=(List (List Li))×Nat×Int×Li×Int×Int×Int×Li×Bool
abbrev rY:=Int×Li×(List (List Li))×Nat×Int×Int×Int×Int×Int×Li×Bool
abbrev rZ:=Li×Int×Int×Int
abbrev ez:=Li×(List Li)×Li×Int×Int×Bool×Nat×Li×(Lp)×(Lp)×Bool×Int
abbrev oL:=(Lp)×(Dk.D)×(Jr.J)
abbrev sa:=Int×Int×(Lp)×(Dk.D)×(Jr.J)
abbrev aa0:=(Lp)×Li×(Dk.D)×(Jr.J)
abbrev sb:=Int×(Lp)×Li×(Dk.D)×(Jr.J)
abbrev Gm:=Li×(Dk.D)×(Jr.J)
def a43:List aF:=[(34,[none],r34)]
def V46:Env:=ar aE ao a43
noncomputable abbrev eW:=aI V46 none (Tryz.f46).results.toList
theorem a45:EOk Tryz.prog V46:=aj (by exact⟨c34,trivial⟩)
def a47(F:Nat):Cuts:={ F:=F,at_:=fun n=>match n with | 7020=>some Nm | _=>none,join:=fun n=>match n with | 1042=>some [(0,.plain)] | 2040=>some [(0,.plain),(5,.plain)] | 3038=>some Nn | 5030=>some Nn | 6028=>some a0F | 7022=>some Nm | 13003=>some yt | _=>none }
abbrev eX(F n:Nat){σ:Type}(e:σ→St)(K:Ex→St→Rz)(N:σ→Rz):=Qe V46 (a47 F) (bp Tryz.f46 n) e K N
abbrev z11 a b:=(.vs (.rT [.int .i64,.int .i64,.int .i64,.str,.bool] a) b 5:AV)
def TY:mJ→St:=fun (a,b)=>hS [(0,(z11 a b))] [] 72 0
def Gn:mJ→St:=fun (a,b)=>hS [(0,(z11 a b))] [] 72 0
abbrev z1 a b c d e:=(.cells 5 (.segs (.cons 1 (.one (.int .i64 a)) (.cons 1 (.one (.int .i64 b)) (.cons 1 (.one (.int .i64 c)) (.cons 1 (.one (.str d)) (.cons 1 (.one (.bool e)) .nil)))))) true:Blk)
def Gp:aaY→St:=fun (a,b,c,d,e,f,g)=>hS [(0,(z11 a b)),pS 5 0 5] [z1 c d e f g] 72 0
def vB:yu→St:=fun (a,b,c,d,e,f,g,h)=>hS [(0,(z11 a b)),pS 5 0 5,iS 6 c] [z1 d e f g h] 72 0
def Gq:yu→St:=vB
def vC:aaZ→St:=fun (a,b,c,d,e,f,g,h,i)=>hS [(0,(z11 a b)),pS 5 0 5,iS 6 c,(7,.str d)] [z1 e f g h i] 72 0
def vD:rY→St:=fun (a,b,c,d,e,f,g,h,i,j,k)=>hS [pS 5 0 5,iS 6 a,(7,.str b),(32,(z11 c d)),iS 33 e,iS 34 f] [z1 g h i j k] 72 0
def TZ:rY→St:=vD
def jd:Int×Li→St:=fun (a,b)=>hS [iS 6 a,(7,.str b)] [] 72 0
def Bo(F:Nat)(a:mJ→Rz):mJ→Rz:=fun (b,c)=>(a (b,c))
theorem aa1 F Rj1:eX F 2 TY (kq V46 Rj1 [(0,.plain)] eW) (Bo F (Rj1∘Gn)):=fun _=>by kernel_rfl
def Bp(F:Nat)(c:aaY→Rz):mJ→Rz:=fun (a,b)=>(cond (decide ((0:Int) < (↑b:Int))) (c (a,b,(((a.getD 0 []).getD 0 []).getD 0 0),(((a.getD 0 []).getD 1 []).getD 0 0),(((a.getD 0 []).getD 2 []).getD 0 0),((a.getD 0 []).getD 3 []),((((a.getD 0 []).getD 4 []).getD 0 0)==1))) none)
theorem aa2 F Rj2:eX F 6 Gn (kq V46 Rj2 [(0,.plain),(5,.plain)] eW) (Bp F (Rj2∘Gp)):=fun _=>by kernel_rfl
def Bq(F:Nat)(b:yu→Rz):aaY→Rz:=fun (c,d,e,f,a,g,h)=>(b (c,d,(Jr.count a),e,f,a,g,h))
theorem aa3 F Rj3:eX F 14 Gp (kq V46 Rj3 Nn eW) (Bq F (Rj3∘vB)):=fun _=>by kernel_rfl
def Br(F:Nat)(e:yu→Rz):yu→Rz:=fun (f,a,b,g,c,h,i,d)=>(cond (!d) (some ((.tup (.cons 0 (.str []) (.cons 0 (.int .i64 0) (.cons 0 (.bool false) .nil)))),[])) (cond (c != (0:Int)) (some ((.tup (.cons 0 (.str []) (.cons 0 (.int .i64 0) (.cons 0 (.bool false) .nil)))),[])) (cond (decide (b > (↑a:Int))) (some ((.tup (.cons 0 (.str []) (.cons 0 (.int .i64 0) (.cons 0 (.bool false) .nil)))),[])) (e (f,a,b,g,c,h,i,d)))))
theorem aa4 F Rj4:eX F 30 vB (kq V46 Rj4 Nn eW) (Br F (Rj4∘Gq)):=fun _=>by kernel_rfl
def Bu(F:Nat)(a:aaZ→Rz):yu→Rz:=fun (b,c,d,e,f,g,h,i)=>(a (b,c,d,[],e,f,g,h,i))
theorem aa5 F Rj5:eX F 62 Gq (kq V46 Rj5 a0F eW) (Bu F (Rj5∘vC)):=fun _=>by kernel_rfl
def Bv(F:Nat)(b:rY→Rz)(k:Int×Li→Rz):aaZ→Rz:=fun (c,d,a,e,f,g,h,i,j)=>(cond ((decide ((0:Int)≤a))&&(decide (a≤(↑d:Int)))) (b (a,e,(c.take (Int.toNat a)),(Int.toNat a),(↑(Int.toNat a):Int),(0:Int),f,g,h,i,j)) none)
theorem aa6 F Rj6 Rj7:eX F 252 vC (kq V46 Rj6 Nm (kq V46 Rj7 yt eW)) (Bv F (Rj6∘vD) (Rj7∘jd)):=fun _=>by kernel_rfl
def Bw(F:Nat)(i:rY→Rz)(j:Int×Li→Rz):rY→Rz:=fun (d,c,b,e,f,a,g,k,h,l,m)=>(cond (decide (a < f)) (cond ((decide (0≤a))&&(decide (a < (↑e:Int)))) (cond (!((((b.getD (Int.toNat a) []).getD 4 []).getD 0 0)==1)) (some ((.tup (.cons 0 (.str []) (.cons 0 (.int .i64 0) (.cons 0 (.bool false) .nil)))),[])) (cond ((((b.getD (Int.toNat a) []).getD 0 []).getD 0 0) != g) (some ((.tup (.cons 0 (.str []) (.cons 0 (.int .i64 0) (.cons 0 (.bool false) .nil)))),[])) (cond ((((b.getD (Int.toNat a) []).getD 1 []).getD 0 0) != a) (some ((.tup (.cons 0 (.str []) (.cons 0 (.int .i64 0) (.cons 0 (.bool false) .nil)))),[])) (cond ((((b.getD (Int.toNat a) []).getD 2 []).getD 0 0) != (IntKind.i64.wrap (h-(IntKind.i64.wrap ((48:Int)*a))))) (some ((.tup (.cons 0 (.str []) (.cons 0 (.int .i64 0) (.cons 0 (.bool false) .nil)))),[])) (cond (decide ((c.length+((b.getD (Int.toNat a) []).getD 3 []).length) < 4611686018427387904)) (i (d,(c++((b.getD (Int.toNat a) []).getD 3 [])),b,e,f,(IntKind.i64.wrap (a+(1:Int))),g,k,h,l,m)) none))))) none) (j (d,c)))
theorem aa7 F Rl1 Rj7:eX F 1012 TZ (kq V46 Rl1 Nm (ae 0 (kq V46 Rj7 yt eW))) (Bw F (Rl1∘TZ) (Rj7∘jd)):=fun _=>by kernel_rfl
def yv:rY→Int×Li×(List (List Li))×Nat×Int×Int×Int×Int×Int×Li×Bool:=fun (a,b,c,d,e,f,g,h,i,j,k)=>(a,b,c,d,e,f,g,h,i,j,k)
def Ns(F:Nat)(a:Int×Li→Rz):rY→Rz:=fun v=>ay (fun k=>Bw F k a) F (yv v)
theorem aa8 F Rj7:eX F 506 vD (ae 0 (kq V46 Rj7 yt eW)) (Ns F (Rj7∘jd)):=lpC yv (fun k=>Bw F k (Rj7∘jd)) (fun Rl1=>aa7 F Rl1 Rj7)
def Nt(F:Nat)(a):=Ns F a
theorem aa9 F Rj7:eX F 253 vD (kq V46 Rj7 yt eW) (Nt F (Rj7∘jd)):=biC (aa8 F Rj7)
def vE(F:Nat)(a):=Bv F (Nt F a) a
theorem T8 F Rj7:eX F 126 vC (kq V46 Rj7 yt eW) (vE F (Rj7∘jd)):=sqC (fun k=>Bv F k (Rj7∘jd)) (fun Rj6=>aa6 F Rj6 Rj7) (aa9 F Rj7)
def Gr(F:Nat):Int×Li→Rz:=fun (a,b)=>(some ((.tup (.cons 0 (.str b) (.cons 0 (.int .i64 a) (.cons 0 (.bool true) .nil)))),[]))
theorem T9 F:eX F 127 jd eW (Gr F):=fun _=>by kernel_rfl
def Gs(F:Nat):=vE F (Gr F)
theorem Ua F:eX F 63 vC eW (Gs F):=sqC (vE F) (fun Rj7=>T8 F Rj7) (T9 F)
def Gt(F:Nat):=Bu F (Gs F)
theorem Ub F:eX F 31 Gq eW (Gt F):=sqC (Bu F) (fun Rj5=>aa5 F Rj5) (Ua F)
def Gu(F:Nat):=Br F (Gt F)
theorem Uc F:eX F 15 vB eW (Gu F):=sqC (Br F) (fun Rj4=>aa4 F Rj4) (Ub F)
def Gv(F:Nat):=Bq F (Gu F)
theorem Ud F:eX F 7 Gp eW (Gv F):=sqC (Bq F) (fun Rj3=>aa3 F Rj3) (Uc F)
def Gw(F:Nat):=Bp F (Gv F)
theorem Ue F:eX F 3 Gn eW (Gw F):=sqC (Bp F) (fun Rj2=>aa2 F Rj2) (Ud F)
def Gx(F:Nat):=Bo F (Gw F)
theorem Uf F:eX F 1 TY eW (Gx F):=sqC (Bo F) (fun Rj1=>aa1 F Rj1) (Ue F)
def f46(F:Nat):mJ→Rz:=Gx F
def r46:aB:=fun X H=>match X,H with
 | [(.vs (.rT [.int .i64,.int .i64,.int .i64,.str,.bool] a0) a0n 5)],[]=>some ((decide (0 < a0.length))&&(Jr.shortR a0),(.tup (.cons 0 (.str (Jr.rec a0).1) (.cons 0 (.int .i64 (Jr.rec a0).2.1) (.cons 0 (.bool (Jr.rec a0).2.2) .nil)))),[])
 | _,_=>none
theorem s46(a0:List (List Li))(a0n:Nat)(hp:((decide (0 < a0.length))&&(Jr.shortR a0))=true)(h0:okV (.vs (.rT [.int .i64,.int .i64,.int .i64,.str,.bool] a0) a0n 5)):∃ F,f46 F (a0,a0n)=some ((.tup (.cons 0 (.str (Jr.rec a0).1) (.cons 0 (.int .i64 (Jr.rec a0).2.1) (.cons 0 (.bool (Jr.rec a0).2.2) .nil)))),[]):=by
 obtain⟨hp0,hsh⟩:=Bool.and_eq_true_iff.1 hp
 have hp0:=of_decide_eq_true hp0
 have hn:a0n=a0.length:=by have:a0.length*5=a0n*5:=h0.1;omega
 subst hn
 have hpt:∀ i,i < a0.length→Jr.pt (a0.map Jr.unrow) i=Jr.unrow (a0.getD i []):=fun i hi=>Jr.pt_map hi
 have h0p:Jr.pt (a0.map Jr.unrow) 0=Jr.unrow (a0.getD 0 []):=hpt 0 hp0
 obtain⟨l,hl⟩:∃ l,l=a0.map Jr.unrow:=⟨_,rfl⟩
 have hll:l.length=a0.length:=by rw [hl];simp
 have hrec:Jr.rec a0=cond (Jr.recOk l 0) (Jr.recText l 0 (Jr.recN l 0),(Jr.recN l 0:Int),true) ([],0,false):=by rw [hl];rfl
 have hpay:∀ i,(Jr.pt l i).payload.length≤64:=fun i=>by rw [hl];exact Jr.short_pt hsh i
 rw [hrec]
 rw [← hl] at h0p hpt
 refine⟨400,?_⟩
 simp only [f46,Gx,Bo,Gw,Bp,Gv,Bq,Gu,Br,Gt,Bu,Gs,vE,Bv,Nt,Ns,yv]
 rw [aa (by omega)]
 have e0:(((a0.getD 0 []).getD 0 []).getD 0 0)=(Jr.pt l 0).number:=by rw [h0p];rfl
 have e1:(((a0.getD 0 []).getD 1 []).getD 0 0)=(Jr.pt l 0).part:=by rw [h0p];rfl
 have e2:(((a0.getD 0 []).getD 2 []).getD 0 0)=(Jr.pt l 0).left:=by rw [h0p];rfl
 have e4:((((a0.getD 0 []).getD 4 []).getD 0 0)==1)=(Jr.pt l 0).ok:=by rw [h0p];rfl
 simp only [e0,e1,e2,e4]
 cases hok:(Jr.pt l 0).ok with
 | false=>
  have:Jr.recOk l 0=false:=by rw [Jr.recOk,hok];rfl
  rw [this];rfl
 | true=>
 simp only [Bool.not_true,cond_false,fh]
 by_cases hpart:(Jr.pt l 0).part=0
 case neg=>
  have:Jr.recOk l 0=false:=by rw [Jr.recOk,decide_eq_false (fun h=>hpart h.1),Bool.and_false,Bool.false_and]
  rw [this,aa hpart];rfl
 rw [ad (fun h=>h hpart)]
 have hc0:0≤Jr.count (Jr.pt l 0).left∧Jr.count (Jr.pt l 0).left≤200∧(0 < Jr.count (Jr.pt l 0).left→0≤(Jr.pt l 0).left∧(Jr.pt l 0).left≤8000):=by
  unfold Jr.count
  by_cases h:(Jr.pt l 0).left < 0∨8000 < (Jr.pt l 0).left
  ·rw [aa h];exact⟨by omega,by omega,fun h=>by omega⟩
  ·rw [ad h]
   split <;> exact⟨by omega,by omega,fun _=>by omega⟩
 have hN:(Jr.recN l 0:Int)=Jr.count (Jr.pt l 0).left:=by rw [Jr.recN];omega
 by_cases hcnt:Jr.count (Jr.pt l 0).left > (a0.length:Int)
 case pos=>
  have:Jr.recOk l 0=false:=by rw [Jr.recOk,decide_eq_false (fun h=>by have:=h.2;omega),Bool.and_false,Bool.false_and]
  rw [this,aa hcnt];rfl
 rw [ad hcnt]
 simp only [ap]
 rw [aa (by omega),← hN,Int.toNat_natCast]
 obtain⟨n,hn⟩:∃ n,n=Jr.recN l 0:=⟨_,rfl⟩
 rw [← hn] at hN ⊢
 have hna:n≤a0.length:=by omega
 have hR:∀ i,i < n→Jr.partOk l 0 i=false→Jr.recOk l 0=false:=fun i hi h=>by
  rw [Jr.recOk,← hn,Bool.and_eq_false_iff]
  right
  rw [List.all_eq_false]
  exact⟨i,List.mem_range.2 hi,by rw [h];decide⟩
 refine cA (fun m s=>∃ i:Nat,s=((n:Int),Jr.recText l 0 i,a0.take n,n,(n:Int),(i:Int),(Jr.pt l 0).number,(Jr.pt l 0).part,(Jr.pt l 0).left,(a0.getD 0 []).getD 3 [],true)∧m=n-i∧i≤n ∧ ∀ j,j < i→Jr.partOk l 0 j=true) (fun m s K hi hk=>?_) 400 n _ (by omega) ⟨0,rfl,by omega,by omega,fun j hj=>by omega⟩
 obtain⟨i,rfl,hm,hle,hall⟩:=hi
 simp only [Bw,Int.toNat_natCast,ap]
 by_cases hlt:i < n
 ·have ht:(a0.take n).getD i []=a0.getD i []:=by
   rw [List.getD_eq_getElem?_getD,List.getElem?_take,if_pos hlt,List.getD_eq_getElem?_getD]
  have hpi:=hpt i (by omega)
  have f0:(((a0.getD i []).getD 0 []).getD 0 0)=(Jr.pt l i).number:=by rw [hpi];rfl
  have f1:(((a0.getD i []).getD 1 []).getD 0 0)=(Jr.pt l i).part:=by rw [hpi];rfl
  have f2:(((a0.getD i []).getD 2 []).getD 0 0)=(Jr.pt l i).left:=by rw [hpi];rfl
  have f3:((a0.getD i []).getD 3 [])=(Jr.pt l i).payload:=by rw [hpi];rfl
  have f4:((((a0.getD i []).getD 4 []).getD 0 0)==1)=(Jr.pt l i).ok:=by rw [hpi];rfl
  have hleft:=hc0.2.2 (by omega)
  rw [aa (by omega),aa (by omega)]
  simp only [ht,f0,f1,f2,f3,f4,fh]
  rw [ah (x:=(48:Int)*i) (by omega) (by omega),ah (x:=(Jr.pt l 0).left-48*i) (by omega) (by omega),ah (x:=(i:Int)+1) (by omega) (by omega)]
  have hP:Jr.partOk l 0 i=((Jr.pt l i).ok&&decide ((Jr.pt l i).number=(Jr.pt l 0).number∧(Jr.pt l i).part=(i:Int)∧(Jr.pt l i).left=(Jr.pt l 0).left-48*i)):=by
   rw [Jr.partOk,Nat.zero_add]
  cases hoki:(Jr.pt l i).ok with
  | false=>rw [hR i hlt (by rw [hP,hoki];rfl)];rfl
  | true=>
  simp only [Bool.not_true,cond_false]
  by_cases g1:(Jr.pt l i).number=(Jr.pt l 0).number
  case neg=>rw [aa g1,hR i hlt (by rw [hP,decide_eq_false (fun h=>g1 h.1),Bool.and_false])];rfl
  rw [ad (fun h=>h g1)]
  by_cases g2:(Jr.pt l i).part=(i:Int)
  case neg=>rw [aa g2,hR i hlt (by rw [hP,decide_eq_false (fun h=>g2 h.2.1),Bool.and_false])];rfl
  rw [ad (fun h=>h g2)]
  by_cases g3:(Jr.pt l i).left=(Jr.pt l 0).left-48*i
  case neg=>rw [aa g3,hR i hlt (by rw [hP,decide_eq_false (fun h=>g3 h.2.2),Bool.and_false])];rfl
  rw [ad (fun h=>h g3)]
  have hlen:=Jr.recText_len hpay 0 i
  have hpi2:=hpay i
  rw [aa (by omega)]
  refine hk (m-1) _ (by omega) ⟨i+1,?_,by omega,by omega,fun j hj=>?_⟩
  ·rw [Jr.recText_succ,Nat.zero_add];rfl
  ·by_cases hj':j=i
   ·subst hj';rw [hP,hoki,decide_eq_true ⟨g1,g2,g3⟩];rfl
   ·exact hall j (by omega)
 ·rw [ad (by omega)]
  have hin:i=n:=by omega
  subst hin
  have:Jr.recOk l 0=true:=by
   rw [Jr.recOk,hok,← hn,decide_eq_true ⟨hpart,by omega⟩,Bool.and_self,Bool.true_and,List.all_eq_true]
   intro j hj
   exact hall j (List.mem_range.1 hj)
  rw [this]
  simp only [Gr]
  rfl
theorem c46:Ck 46 r46:=ck a45 Tryz.func46 (by
 intro X H r H' h hX hH
 unfold r46 at h;split at h <;> try contradiction
 ·obtain⟨hp,rfl,rfl⟩:=aJ h
  obtain⟨F,hF⟩:=s46 _ _ hp (hX _ hm0)
  exact⟨_,abC (Uf F) hF⟩)
def a48:List aF:=[]
def V78:Env:=ar aE ao a48
noncomputable abbrev mK:=aI V78 none (Tryz.f78).results.toList
theorem a49:EOk Tryz.prog V78:=aj (by exact trivial)
def a5a(F:Nat):Cuts:={ F:=F,at_:=fun n=>match n with | 2018=>some Np | _=>none,join:=fun n=>match n with | 1026=>some cU | 2020=>some Np | 7003=>some [] | _=>none }
abbrev mL(F n:Nat){σ:Type}(e:σ→St)(K:Ex→St→Rz)(N:σ→Rz):=Qe V78 (a5a F) (bp Tryz.f78 n) e K N
def Ug:Li×Int→St:=fun (a,b)=>hS [lS 0 a,iS 1 b] [] 19 0
def vF:Li×Int→St:=fun (a,b)=>hS [lS 0 a,iS 1 b] [] 19 0
def vG:rZ→St:=fun (a,b,c,d)=>hS [lS 0 a,iS 1 b,iS 7 c,iS 8 d] [] 19 0
def Uh:rZ→St:=vG
def je:Unit→St:=fun _=>hS [] [] 19 0
def Bz(F:Nat)(a:Li×Int→Rz):Li×Int→Rz:=fun (b,c)=>(a (b,c))
theorem aba F Rj1:mL F 2 Ug (kq V78 Rj1 cU mK) (Bz F (Rj1∘vF)):=fun _=>by kernel_rfl
def BA(F:Nat)(b:rZ→Rz)(d:Unit→Rz):Li×Int→Rz:=fun (a,c)=>(b (a,c,(↑a.length:Int),(0:Int)))
theorem abb F Rj2 Rj3:mL F 12 vF (kq V78 Rj2 Np (kq V78 Rj3 [] mK)) (BA F (Rj2∘vG) (Rj3∘je)):=fun _=>by kernel_rfl
def BB(F:Nat)(e:rZ→Rz)(f:Unit→Rz):rZ→Rz:=fun (b,c,d,a)=>(cond (decide (a < d)) (cond ((decide (0≤a))&&(decide (a < (↑b.length:Int)))) (cond (c==(b.getD (Int.toNat a) 0)) (some ((.int .i64 a),[])) (e (b,c,d,(IntKind.i64.wrap (a+(1:Int)))))) none) (f ()))
theorem abc F Rl1 Rj3:mL F 52 Uh (kq V78 Rl1 Np (ae 0 (kq V78 Rj3 [] mK))) (BB F (Rl1∘Uh) (Rj3∘je)):=fun _=>by kernel_rfl
def yw:rZ→Li×Int×Int×Int:=fun (a,b,c,d)=>(a,b,c,d)
def Nu(F:Nat)(a:Unit→Rz):rZ→Rz:=fun v=>ay (fun k=>BB F k a) F (yw v)
theorem abd F Rj3:mL F 26 vG (ae 0 (kq V78 Rj3 [] mK)) (Nu F (Rj3∘je)):=lpC yw (fun k=>BB F k (Rj3∘je)) (fun Rl1=>abc F Rl1 Rj3)
def Nv(F:Nat)(a):=Nu F a
theorem abe F Rj3:mL F 13 vG (kq V78 Rj3 [] mK) (Nv F (Rj3∘je)):=biC (abd F Rj3)
def BC(F:Nat)(a):=BA F (Nv F a) a
theorem abf F Rj3:mL F 6 vF (kq V78 Rj3 [] mK) (BC F (Rj3∘je)):=sqC (fun k=>BA F k (Rj3∘je)) (fun Rj2=>abb F Rj2 Rj3) (abe F Rj3)
def Nw(F:Nat):Unit→Rz:=fun _=>(some ((.int .i64 (-1:Int)),[]))
theorem abg F:mL F 7 je mK (Nw F):=fun _=>by kernel_rfl
def Nx(F:Nat):=BC F (Nw F)
theorem abh F:mL F 3 vF mK (Nx F):=sqC (BC F) (fun Rj3=>abf F Rj3) (abg F)
def Ny(F:Nat):=Bz F (Nx F)
theorem abj F:mL F 1 Ug mK (Ny F):=sqC (Bz F) (fun Rj1=>aba F Rj1) (abh F)
def f78(F:Nat):Li×Int→Rz:=Ny F
def r78:aB:=fun X H=>match X,H with
 | [(.vs (.rI .i64 a0) 0 1),.int .i64 a1],[]=>some (true,(.int .i64 (Jr.idx a0 a1)),[])
 | _,_=>none
theorem s78(a0:Li)(a1:Int)(h0:okV (.vs (.rI .i64 a0) 0 1))(h1:okV (.int .i64 a1)):∃ F,f78 F (a0,a1)=some ((.int .i64 (Jr.idx a0 a1)),[]):=by
 have hl:a0.length < 4611686018427387904:=h0.2
 refine⟨a0.length+1,?_⟩
 simp only [f78,Ny,Bz,Nx,BC,Nw,BA,Nv,Nu,yw]
 refine cA (fun m s=>∃ k:Nat,s=(a0,a1,(a0.length:Int),(k:Int))∧m=a0.length-k∧k≤a0.length∧Jr.idx a0 a1=Jr.idxGo a1 (a0.drop k) k) (fun m s K hi hk=>?_) (a0.length+1) a0.length _ (by omega) ⟨0,rfl,by omega,by omega,rfl⟩
 obtain⟨k,rfl,hm,hle,heq⟩:=hi
 simp only [BB,Int.toNat_natCast,ap]
 by_cases hlt:k < a0.length
 ·rw [aa (by omega),aa (by omega),ah (by omega) (by omega)]
  rw [Jr.idxGo_drop hlt] at heq
  cases h:(a1==a0.getD k 0)
  ·rw [h] at heq
   exact hk (m-1) _ (by omega) ⟨k+1,rfl,by omega,by omega,heq⟩
  ·rw [h] at heq
   rw [heq];rfl
 ·rw [ad (by omega)]
  have:k=a0.length:=by omega
  subst this
  rw [List.drop_length] at heq
  rw [heq];rfl
theorem c78:Ck 78 r78:=ck a49 Tryz.func78 (by
 intro X H r H' h hX hH
 unfold r78 at h;split at h <;> try contradiction
 ·obtain⟨hp,rfl,rfl⟩:=aJ h
  obtain⟨F,hF⟩:=s78 _ _ (hX _ hm0) (hX _ hm1)
  exact⟨_,abC (abj F) hF⟩)
def a5b:List aF:=[(78,[some 3,none],r78)]
def V47:Env:=ar aE ao a5b
noncomputable abbrev a5c:=aI V47 none (Tryz.f47).results.toList
theorem a5d:EOk Tryz.prog V47:=aj (by exact⟨c78,trivial⟩)
def a5e(F:Nat):Cuts:={ F:=F,at_:=fun _=>none,join:=fun _=>none }
abbrev a5f(F n:Nat){σ:Type}(e:σ→St)(K:Ex→St→Rz)(N:σ→Rz):=Qe V47 (a5e F) (bp Tryz.f47 n) e K N
def a0H:Li×Int→St:=fun (a,b)=>hS [lS 0 a,iS 1 b] [] 9 0
def Nz(F:Nat):Li×Int→Rz:=fun (a,b)=>(some ((.bool (decide ((Jr.idx a b)≥(0:Int)))),[]))
theorem abk F:a5f F 1 a0H a5c (Nz F):=fun _=>by kernel_rfl
def f47(F:Nat):Li×Int→Rz:=Nz F
def r47:aB:=fun X H=>match X,H with
 | [(.vs (.rI .i64 a0) 0 1),.int .i64 a1],[]=>some (true,(.bool (a0.contains a1)),[])
 | _,_=>none
theorem s47(a0:Li)(a1:Int)(h0:okV (.vs (.rI .i64 a0) 0 1))(h1:okV (.int .i64 a1)):∃ F,f47 F (a0,a1)=some ((.bool (a0.contains a1)),[]):=by
 refine⟨0,?_⟩
 simp only [f47,Nz]
 rw [show decide (Jr.idx a0 a1≥0)=a0.contains a1 from Jr.idx_contains a1 a0 0]
theorem c47:Ck 47 r47:=ck a5d Tryz.func47 (by
 intro X H r H' h hX hH
 unfold r47 at h;split at h <;> try contradiction
 ·obtain⟨hp,rfl,rfl⟩:=aJ h
  obtain⟨F,hF⟩:=s47 _ _ (hX _ hm0) (hX _ hm1)
  exact⟨_,abC (abk F) hF⟩)
def a5g:List aF:=[]
def V67:Env:=ar aE ao a5g
noncomputable abbrev a0I:=aI V67 (some [(2,.own 3)]) (Tryz.f67).results.toList
theorem a5h:EOk Tryz.prog V67:=aj (by exact trivial)
def NA(F:Nat):Cuts:={ F:=F,at_:=fun _=>none,join:=fun _=>none,fin:=(some [(2,.own 3)]) }
abbrev a2j(F n:Nat){σ:Type}(e:σ→St)(K:Ex→St→Rz)(N:σ→Rz):=Qe V67 (NA F) (bp Tryz.f67 n) e K N
def Jl:Li→St:=fun a=>hS [(0,(.vs (.rI .i64 a) 2 1))] [] 8 0
def Gy(F:Nat):Li→Rz:=fun a=>(cond (decide ((0+a.length) < 1073741824)) (some ((.own 0 0 1),[(.cells ([]++a).length (.rI .i64 ([]++a)) true)])) none)
theorem Ui F:a2j F 1 Jl a0I (Gy F):=fun _=>by kernel_rfl
def abl(F:Nat):Li→Rz:=Gy F
theorem Uj(F:Nat)(a0:Li):eC V67 (NA F) Tryz.f67 [(.vs (.rI .i64 a0) 2 1)] []=abl F a0:=
 (rq (c:=(sub (cZ Tryz.f67) [])) (by kernel_rfl) (s:=Jl a0) (by kernel_rfl)).trans (Ui F a0)
def a2k(F:Nat):Cuts:={ F:=F,at_:=fun _=>none,join:=fun _=>none,fin:=(some [(2,.own 3)]) }
abbrev a2l(F n:Nat){σ:Type}(e:σ→St)(K:Ex→St→Rz)(N:σ→Rz):=Qe V67 (a2k F) (bp Tryz.f67 n) e K N
def aZb:Unit→St:=fun _=>hS [(0,(.vs (.rI .i64 []) 3 1))] [] 8 0
def Uk(F:Nat):Unit→Rz:=fun _=>(some ((.own 0 0 1),[(.cells 0 (.rI .i64 []) true)]))
theorem Ul F:a2l F 1 aZb a0I (Uk F):=fun _=>by kernel_rfl
def a5i(F:Nat):Unit→Rz:=Uk F
def r67:aB:=fun X H=>match X,H with
 | [(.vs (.rI .i64 a0) 0 1)],[]=>some ((decide (a0.length < 1073741000)),.own 0 0 1,[(iB a0)])
 | _,_=>none
theorem a5j(a0:Li)(hp:((decide (a0.length < 1073741000)))=true)(h0:okV (.vs (.rI .i64 a0) 0 1)):∃ F,abl F a0=some ((.own 0 0 1),[(iB a0)]):=by
 have h:=of_decide_eq_true hp
 refine⟨0,?_⟩
 simp only [abl,Gy,List.nil_append]
 rw [aa (by omega)]
theorem a5k:∃ F,a5i F ()=some ((.own 0 0 1),[(.cells ([]:Li).length (.rI .i64 ([]:Li)) true)]):=⟨0,rfl⟩
theorem c67:CallOk Tryz.prog ao 67 r67:=tw (V:=V67) mixed tys a5h (f:=67) (fn:=Tryz.f67) Tryz.func67 (by kernel_rfl) (c:=sub (cZ Tryz.f67) []) (by kernel_rfl) (by
 intro X H R H' h
 unfold r67 at h;split at h <;> try contradiction
 rename_i a0
 obtain⟨hp,rfl,rfl⟩:=aJ h
 refine⟨_,rfl,rfl,fun hok=>⟨?_,fun hz=>?_⟩⟩
 ·obtain⟨F,hF⟩:=a5j a0 hp hok
  exact⟨NA F,(Uj F a0).trans hF⟩
 ·have e:a0=[]:=List.length_eq_zero_iff.mp hz
  subst e
  obtain⟨F,hF⟩:=a5k
  exact⟨_,abC (Ul F) hF⟩)
def a5l:List aF:=[]
def V48:Env:=ar aE ao a5l
noncomputable abbrev a0J:=aI V48 (some [(2,.own 9)]) (Tryz.f48).results.toList
theorem a5m:EOk Tryz.prog V48:=aj (by exact trivial)
def NB(F:Nat):Cuts:={ F:=F,at_:=fun _=>none,join:=fun _=>none,fin:=(some [(2,.own 9)]) }
abbrev a2m(F n:Nat){σ:Type}(e:σ→St)(K:Ex→St→Rz)(N:σ→Rz):=Qe V48 (NB F) (bp Tryz.f48 n) e K N
def Jm:(List Li)→St:=fun a=>hS [(0,(.vs (.rS a) 2 1))] [] 8 0
def Gz(F:Nat):(List Li)→Rz:=fun a=>(cond (decide ((0+a.length) < 1073741824)) (some ((.own 0 0 1),[(.cells ([]++a).length (.rS ([]++a)) true)])) none)
theorem Um F:a2m F 1 Jm a0J (Gz F):=fun _=>by kernel_rfl
def abm(F:Nat):(List Li)→Rz:=Gz F
theorem Un(F:Nat)(a0:List Li):eC V48 (NB F) Tryz.f48 [(.vs (.rS a0) 2 1)] []=abm F a0:=
 (rq (c:=(sub (cZ Tryz.f48) [])) (by kernel_rfl) (s:=Jm a0) (by kernel_rfl)).trans (Um F a0)
def a2n(F:Nat):Cuts:={ F:=F,at_:=fun _=>none,join:=fun _=>none,fin:=(some [(2,.own 9)]) }
abbrev a2o(F n:Nat){σ:Type}(e:σ→St)(K:Ex→St→Rz)(N:σ→Rz):=Qe V48 (a2n F) (bp Tryz.f48 n) e K N
def aZc:Unit→St:=fun _=>hS [(0,(.vs (.rS []) 3 1))] [] 8 0
def Uo(F:Nat):Unit→Rz:=fun _=>(some ((.own 0 0 1),[(.cells 0 (.rS []) true)]))
theorem Up F:a2o F 1 aZc a0J (Uo F):=fun _=>by kernel_rfl
def a5n(F:Nat):Unit→Rz:=Uo F
def r48:aB:=fun X H=>match X,H with
 | [(.vs (.rS a0) 0 1)],[]=>some ((decide (a0.length < 1073741000)),.own 0 0 1,[(sB a0)])
 | _,_=>none
theorem a5o(a0:List Li)(hp:((decide (a0.length < 1073741000)))=true)(h0:okV (.vs (.rS a0) 0 1)):∃ F,abm F a0=some ((.own 0 0 1),[(sB a0)]):=by
 have h:=of_decide_eq_true hp
 refine⟨0,?_⟩
 simp only [abm,Gz,List.nil_append]
 rw [aa (by omega)]
theorem a5p:∃ F,a5n F ()=some ((.own 0 0 1),[(.cells ([]:List Li).length (.rS ([]:List Li)) true)]):=⟨0,rfl⟩
theorem c48:CallOk Tryz.prog ao 48 r48:=tw (V:=V48) mixed tys a5m (f:=48) (fn:=Tryz.f48) Tryz.func48 (by kernel_rfl) (c:=sub (cZ Tryz.f48) []) (by kernel_rfl) (by
 intro X H R H' h
 unfold r48 at h;split at h <;> try contradiction
 rename_i a0
 obtain⟨hp,rfl,rfl⟩:=aJ h
 refine⟨_,rfl,rfl,fun hok=>⟨?_,fun hz=>?_⟩⟩
 ·obtain⟨F,hF⟩:=a5o a0 hp hok
  exact⟨NB F,(Un F a0).trans hF⟩
 ·have e:a0=[]:=List.length_eq_zero_iff.mp hz
  subst e
  obtain⟨F,hF⟩:=a5p
  exact⟨_,abC (Up F) hF⟩)
def a5q:List aF:=[(67,[some 3],r67)]
def V42:Env:=ar aE ao a5q
noncomputable abbrev a5r:=aI V42 (some [(2,.own 3)]) (Tryz.f42).results.toList
theorem a5s:EOk Tryz.prog V42:=aj (by exact⟨c67,trivial⟩)
def a5t(F:Nat):Cuts:={ F:=F,at_:=fun _=>none,join:=fun _=>none,fin:=(some [(2,.own 3)]) }
abbrev a5u(F n:Nat){σ:Type}(e:σ→St)(K:Ex→St→Rz)(N:σ→Rz):=Qe V42 (a5t F) (bp Tryz.f42 n) e K N
def GA:ez→St:=fun (a,b,c,d,e,f,g,h,i,j,k,l)=>hS [pS 0 0 7] [jB 1 5 2 3 4 d e f,dB 5 g 6 7 k l,iB a,iB c,sB b,bB h,pB i,wB j] 8 8
def NC(F:Nat):ez→Rz:=fun (a,b,c,d,e,f,g,h,i,j,k,l)=>(cond (decide (a.length < 1073741000)) (some ((.own 8 0 1),[(jB 1 5 2 3 4 d e f),(dB 5 g 6 7 k l),(iB a),(iB c),(sB b),(bB h),(pB i),(wB j),(iB a)])) none)
theorem abn F:a5u F 1 GA a5r (NC F):=fun _=>by kernel_rfl
def f42(F:Nat):ez→Rz:=NC F
def r42:aB:=fun X H=>match X,H with
 | [(.ptr 0 0 7 0 0 0 7)],[(.cells 7 (.segs (.cons 1 (.one (.ptr 1 0 5 0 0 0 5)) (.cons 1 (.one (.own 2 0 1)) (.cons 1 (.one (.own 3 0 1)) (.cons 1 (.one (.own 4 0 1)) (.cons 1 (.one (.int .i64 a0x)) (.cons 1 (.one (.int .i64 a0f)) (.cons 1 (.one (.bool a0c)) .nil)))))))) true),(.cells 5 (.segs (.cons 1 (.one (.own 5 a1n 64)) (.cons 1 (.one (.mp 6)) (.cons 1 (.one (.mp 7)) (.cons 1 (.one (.bool a1o)) (.cons 1 (.one (.int .i64 a1l)) .nil)))))) true),(.cells z2 (.rI .i64 a0N) true),(.cells z3 (.rI .i64 a0B) true),(.cells z4 (.rS a0T) true),(.cells z5 (.rI .u8 a1b) true),(.cells 0 (.rM .i64 0 (.arr .u8 64) a1p) true),(.cells 0 (.rM .i64 0 .bool a1w) true)]=>some ((decide ((Jr.J.mk a0N a0T a0B a0x a0f a0c).nums.length < 1073741000)),.own 8 0 1,[(jE 1 5 2 3 4 (Jr.J.mk a0N a0T a0B a0x a0f a0c)),(dE 5 (Dk.D.mk a1n a1b a1p a1w a1o a1l) 6 7),(.cells (Jr.J.mk a0N a0T a0B a0x a0f a0c).nums.length (.rI .i64 (Jr.J.mk a0N a0T a0B a0x a0f a0c).nums) true),(.cells (Jr.J.mk a0N a0T a0B a0x a0f a0c).bad.length (.rI .i64 (Jr.J.mk a0N a0T a0B a0x a0f a0c).bad) true),(.cells (Jr.J.mk a0N a0T a0B a0x a0f a0c).texts.length (.rS (Jr.J.mk a0N a0T a0B a0x a0f a0c).texts) true),(.cells (Dk.D.mk a1n a1b a1p a1w a1o a1l).blk.length (.rI .u8 (Dk.D.mk a1n a1b a1p a1w a1o a1l).blk) true),(pB (Dk.D.mk a1n a1b a1p a1w a1o a1l).pend),(wB (Dk.D.mk a1n a1b a1p a1w a1o a1l).worn),(.cells (Jr.J.mk a0N a0T a0B a0x a0f a0c).nums.length (.rI .i64 (Jr.J.mk a0N a0T a0B a0x a0f a0c).nums) true)])
 | _,_=>none
theorem s42(a0N:Li)(a0T:List Li)(a0B:Li)(a0x a0f:Int)(a0c:Bool)(a1n:Nat)(a1b:Li)(a1p a1w:Lp)(a1o:Bool)(a1l:Int)(hp:((decide ((Jr.J.mk a0N a0T a0B a0x a0f a0c).nums.length < 1073741000)))=true)(k0:okB (jB 1 5 2 3 4 a0x a0f a0c))(k1:okB (dB 5 a1n 6 7 a1o a1l))(k2:okB (iB a0N))(k3:okB (iB a0B))(k4:okB (sB a0T))(k5:okB (bB a1b))(k6:okB (pB a1p))(k7:okB (wB a1w)):∃ F,f42 F (a0N,a0T,a0B,a0x,a0f,a0c,a1n,a1b,a1p,a1w,a1o,a1l)=some ((.own 8 0 1),[(jE 1 5 2 3 4 (Jr.J.mk a0N a0T a0B a0x a0f a0c)),(dE 5 (Dk.D.mk a1n a1b a1p a1w a1o a1l) 6 7),(.cells (Jr.J.mk a0N a0T a0B a0x a0f a0c).nums.length (.rI .i64 (Jr.J.mk a0N a0T a0B a0x a0f a0c).nums) true),(.cells (Jr.J.mk a0N a0T a0B a0x a0f a0c).bad.length (.rI .i64 (Jr.J.mk a0N a0T a0B a0x a0f a0c).bad) true),(.cells (Jr.J.mk a0N a0T a0B a0x a0f a0c).texts.length (.rS (Jr.J.mk a0N a0T a0B a0x a0f a0c).texts) true),(.cells (Dk.D.mk a1n a1b a1p a1w a1o a1l).blk.length (.rI .u8 (Dk.D.mk a1n a1b a1p a1w a1o a1l).blk) true),(pB (Dk.D.mk a1n a1b a1p a1w a1o a1l).pend),(wB (Dk.D.mk a1n a1b a1p a1w a1o a1l).worn),(.cells (Jr.J.mk a0N a0T a0B a0x a0f a0c).nums.length (.rI .i64 (Jr.J.mk a0N a0T a0B a0x a0f a0c).nums) true)]):=by
 refine⟨0,?_⟩
 simp only [f42,NC]
 rw [aa (of_decide_eq_true hp)]
theorem c42:Ck 42 r42:=ck a5s Tryz.func42 (by
 intro X H r H' h hX hH
 unfold r42 at h;split at h <;> try contradiction
 ·obtain⟨hp,rfl,rfl⟩:=aJ h
  obtain rfl:=am (hH _ hm2) rfl
  obtain rfl:=am (hH _ hm3) rfl
  obtain rfl:=am (hH _ hm4) rfl
  obtain rfl:=am (hH _ hm5) rfl
  obtain⟨F,hF⟩:=s42 _ _ _ _ _ _ _ _ _ _ _ _ hp (hH _ hm0) (hH _ hm1) (hH _ hm2) (hH _ hm3) (hH _ hm4) (hH _ hm5) (hH _ hm6) (hH _ hm7)
  exact⟨_,abC (abn F) hF⟩)
def a5v:List aF:=[(48,[some 9],r48)]
def V11:Env:=ar aE ao a5v
noncomputable abbrev a5w:=aI V11 (some [(2,.own 9)]) (Tryz.f11).results.toList
theorem a5x:EOk Tryz.prog V11:=aj (by exact⟨c48,trivial⟩)
def a5y(F:Nat):Cuts:={ F:=F,at_:=fun _=>none,join:=fun _=>none,fin:=(some [(2,.own 9)]) }
abbrev a5z(F n:Nat){σ:Type}(e:σ→St)(K:Ex→St→Rz)(N:σ→Rz):=Qe V11 (a5y F) (bp Tryz.f11 n) e K N
def a0K:ez→St:=GA
def ND(F:Nat):ez→Rz:=fun (b,a,c,d,e,f,g,h,i,j,k,l)=>(cond (decide (a.length < 1073741000)) (some ((.own 8 0 1),[(jB 1 5 2 3 4 d e f),(dB 5 g 6 7 k l),(iB b),(iB c),(sB a),(bB h),(pB i),(wB j),(sB a)])) none)
theorem abo F:a5z F 1 a0K a5w (ND F):=fun _=>by kernel_rfl
def f11(F:Nat):ez→Rz:=ND F
def r11:aB:=fun X H=>match X,H with
 | [(.ptr 0 0 7 0 0 0 7)],[(.cells 7 (.segs (.cons 1 (.one (.ptr 1 0 5 0 0 0 5)) (.cons 1 (.one (.own 2 0 1)) (.cons 1 (.one (.own 3 0 1)) (.cons 1 (.one (.own 4 0 1)) (.cons 1 (.one (.int .i64 a0x)) (.cons 1 (.one (.int .i64 a0f)) (.cons 1 (.one (.bool a0c)) .nil)))))))) true),(.cells 5 (.segs (.cons 1 (.one (.own 5 a1n 64)) (.cons 1 (.one (.mp 6)) (.cons 1 (.one (.mp 7)) (.cons 1 (.one (.bool a1o)) (.cons 1 (.one (.int .i64 a1l)) .nil)))))) true),(.cells z2 (.rI .i64 a0N) true),(.cells z3 (.rI .i64 a0B) true),(.cells z4 (.rS a0T) true),(.cells z5 (.rI .u8 a1b) true),(.cells 0 (.rM .i64 0 (.arr .u8 64) a1p) true),(.cells 0 (.rM .i64 0 .bool a1w) true)]=>some ((decide ((Jr.J.mk a0N a0T a0B a0x a0f a0c).texts.length < 1073741000)),.own 8 0 1,[(jE 1 5 2 3 4 (Jr.J.mk a0N a0T a0B a0x a0f a0c)),(dE 5 (Dk.D.mk a1n a1b a1p a1w a1o a1l) 6 7),(.cells (Jr.J.mk a0N a0T a0B a0x a0f a0c).nums.length (.rI .i64 (Jr.J.mk a0N a0T a0B a0x a0f a0c).nums) true),(.cells (Jr.J.mk a0N a0T a0B a0x a0f a0c).bad.length (.rI .i64 (Jr.J.mk a0N a0T a0B a0x a0f a0c).bad) true),(.cells (Jr.J.mk a0N a0T a0B a0x a0f a0c).texts.length (.rS (Jr.J.mk a0N a0T a0B a0x a0f a0c).texts) true),(.cells (Dk.D.mk a1n a1b a1p a1w a1o a1l).blk.length (.rI .u8 (Dk.D.mk a1n a1b a1p a1w a1o a1l).blk) true),(pB (Dk.D.mk a1n a1b a1p a1w a1o a1l).pend),(wB (Dk.D.mk a1n a1b a1p a1w a1o a1l).worn),(.cells (Jr.J.mk a0N a0T a0B a0x a0f a0c).texts.length (.rS (Jr.J.mk a0N a0T a0B a0x a0f a0c).texts) true)])
 | _,_=>none
theorem s11(a0N:Li)(a0T:List Li)(a0B:Li)(a0x a0f:Int)(a0c:Bool)(a1n:Nat)(a1b:Li)(a1p a1w:Lp)(a1o:Bool)(a1l:Int)(hp:((decide ((Jr.J.mk a0N a0T a0B a0x a0f a0c).texts.length < 1073741000)))=true)(k0:okB (jB 1 5 2 3 4 a0x a0f a0c))(k1:okB (dB 5 a1n 6 7 a1o a1l))(k2:okB (iB a0N))(k3:okB (iB a0B))(k4:okB (sB a0T))(k5:okB (bB a1b))(k6:okB (pB a1p))(k7:okB (wB a1w)):∃ F,f11 F (a0N,a0T,a0B,a0x,a0f,a0c,a1n,a1b,a1p,a1w,a1o,a1l)=some ((.own 8 0 1),[(jE 1 5 2 3 4 (Jr.J.mk a0N a0T a0B a0x a0f a0c)),(dE 5 (Dk.D.mk a1n a1b a1p a1w a1o a1l) 6 7),(.cells (Jr.J.mk a0N a0T a0B a0x a0f a0c).nums.length (.rI .i64 (Jr.J.mk a0N a0T a0B a0x a0f a0c).nums) true),(.cells (Jr.J.mk a0N a0T a0B a0x a0f a0c).bad.length (.rI .i64 (Jr.J.mk a0N a0T a0B a0x a0f a0c).bad) true),(.cells (Jr.J.mk a0N a0T a0B a0x a0f a0c).texts.length (.rS (Jr.J.mk a0N a0T a0B a0x a0f a0c).texts) true),(.cells (Dk.D.mk a1n a1b a1p a1w a1o a1l).blk.length (.rI .u8 (Dk.D.mk a1n a1b a1p a1w a1o a1l).blk) true),(pB (Dk.D.mk a1n a1b a1p a1w a1o a1l).pend),(wB (Dk.D.mk a1n a1b a1p a1w a1o a1l).worn),(.cells (Jr.J.mk a0N a0T a0B a0x a0f a0c).texts.length (.rS (Jr.J.mk a0N a0T a0B a0x a0f a0c).texts) true)]):=by
 refine⟨0,?_⟩
 simp only [f11,ND]
 rw [aa (of_decide_eq_true hp)]
theorem c11:Ck 11 r11:=ck a5x Tryz.func11 (by
 intro X H r H' h hX hH
 unfold r11 at h;split at h <;> try contradiction
 ·obtain⟨hp,rfl,rfl⟩:=aJ h
  obtain rfl:=am (hH _ hm2) rfl
  obtain rfl:=am (hH _ hm3) rfl
  obtain rfl:=am (hH _ hm4) rfl
  obtain rfl:=am (hH _ hm5) rfl
  obtain⟨F,hF⟩:=s11 _ _ _ _ _ _ _ _ _ _ _ _ hp (hH _ hm0) (hH _ hm1) (hH _ hm2) (hH _ hm3) (hH _ hm4) (hH _ hm5) (hH _ hm6) (hH _ hm7)
  exact⟨_,abC (abo F) hF⟩)
def a5A:List aF:=[(67,[some 3],r67)]
def V35:Env:=ar aE ao a5A
noncomputable abbrev a5B:=aI V35 (some [(2,.own 3)]) (Tryz.f35).results.toList
theorem a5C:EOk Tryz.prog V35:=aj (by exact⟨c67,trivial⟩)
def a5D(F:Nat):Cuts:={ F:=F,at_:=fun _=>none,join:=fun _=>none,fin:=(some [(2,.own 3)]) }
abbrev a5E(F n:Nat){σ:Type}(e:σ→St)(K:Ex→St→Rz)(N:σ→Rz):=Qe V35 (a5D F) (bp Tryz.f35 n) e K N
def a0L:ez→St:=GA
def NE(F:Nat):ez→Rz:=fun (b,c,a,d,e,f,g,h,i,j,k,l)=>(cond (decide (a.length < 1073741000)) (some ((.own 8 0 1),[(jB 1 5 2 3 4 d e f),(dB 5 g 6 7 k l),(iB b),(iB a),(sB c),(bB h),(pB i),(wB j),(iB a)])) none)
theorem abp F:a5E F 1 a0L a5B (NE F):=fun _=>by kernel_rfl
def f35(F:Nat):ez→Rz:=NE F
def r35:aB:=fun X H=>match X,H with
 | [(.ptr 0 0 7 0 0 0 7)],[(.cells 7 (.segs (.cons 1 (.one (.ptr 1 0 5 0 0 0 5)) (.cons 1 (.one (.own 2 0 1)) (.cons 1 (.one (.own 3 0 1)) (.cons 1 (.one (.own 4 0 1)) (.cons 1 (.one (.int .i64 a0x)) (.cons 1 (.one (.int .i64 a0f)) (.cons 1 (.one (.bool a0c)) .nil)))))))) true),(.cells 5 (.segs (.cons 1 (.one (.own 5 a1n 64)) (.cons 1 (.one (.mp 6)) (.cons 1 (.one (.mp 7)) (.cons 1 (.one (.bool a1o)) (.cons 1 (.one (.int .i64 a1l)) .nil)))))) true),(.cells z2 (.rI .i64 a0N) true),(.cells z3 (.rI .i64 a0B) true),(.cells z4 (.rS a0T) true),(.cells z5 (.rI .u8 a1b) true),(.cells 0 (.rM .i64 0 (.arr .u8 64) a1p) true),(.cells 0 (.rM .i64 0 .bool a1w) true)]=>some ((decide ((Jr.J.mk a0N a0T a0B a0x a0f a0c).bad.length < 1073741000)),.own 8 0 1,[(jE 1 5 2 3 4 (Jr.J.mk a0N a0T a0B a0x a0f a0c)),(dE 5 (Dk.D.mk a1n a1b a1p a1w a1o a1l) 6 7),(.cells (Jr.J.mk a0N a0T a0B a0x a0f a0c).nums.length (.rI .i64 (Jr.J.mk a0N a0T a0B a0x a0f a0c).nums) true),(.cells (Jr.J.mk a0N a0T a0B a0x a0f a0c).bad.length (.rI .i64 (Jr.J.mk a0N a0T a0B a0x a0f a0c).bad) true),(.cells (Jr.J.mk a0N a0T a0B a0x a0f a0c).texts.length (.rS (Jr.J.mk a0N a0T a0B a0x a0f a0c).texts) true),(.cells (Dk.D.mk a1n a1b a1p a1w a1o a1l).blk.length (.rI .u8 (Dk.D.mk a1n a1b a1p a1w a1o a1l).blk) true),(pB (Dk.D.mk a1n a1b a1p a1w a1o a1l).pend),(wB (Dk.D.mk a1n a1b a1p a1w a1o a1l).worn),(.cells (Jr.J.mk a0N a0T a0B a0x a0f a0c).bad.length (.rI .i64 (Jr.J.mk a0N a0T a0B a0x a0f a0c).bad) true)])
 | _,_=>none
theorem s35(a0N:Li)(a0T:List Li)(a0B:Li)(a0x a0f:Int)(a0c:Bool)(a1n:Nat)(a1b:Li)(a1p a1w:Lp)(a1o:Bool)(a1l:Int)(hp:((decide ((Jr.J.mk a0N a0T a0B a0x a0f a0c).bad.length < 1073741000)))=true)(k0:okB (jB 1 5 2 3 4 a0x a0f a0c))(k1:okB (dB 5 a1n 6 7 a1o a1l))(k2:okB (iB a0N))(k3:okB (iB a0B))(k4:okB (sB a0T))(k5:okB (bB a1b))(k6:okB (pB a1p))(k7:okB (wB a1w)):∃ F,f35 F (a0N,a0T,a0B,a0x,a0f,a0c,a1n,a1b,a1p,a1w,a1o,a1l)=some ((.own 8 0 1),[(jE 1 5 2 3 4 (Jr.J.mk a0N a0T a0B a0x a0f a0c)),(dE 5 (Dk.D.mk a1n a1b a1p a1w a1o a1l) 6 7),(.cells (Jr.J.mk a0N a0T a0B a0x a0f a0c).nums.length (.rI .i64 (Jr.J.mk a0N a0T a0B a0x a0f a0c).nums) true),(.cells (Jr.J.mk a0N a0T a0B a0x a0f a0c).bad.length (.rI .i64 (Jr.J.mk a0N a0T a0B a0x a0f a0c).bad) true),(.cells (Jr.J.mk a0N a0T a0B a0x a0f a0c).texts.length (.rS (Jr.J.mk a0N a0T a0B a0x a0f a0c).texts) true),(.cells (Dk.D.mk a1n a1b a1p a1w a1o a1l).blk.length (.rI .u8 (Dk.D.mk a1n a1b a1p a1w a1o a1l).blk) true),(pB (Dk.D.mk a1n a1b a1p a1w a1o a1l).pend),(wB (Dk.D.mk a1n a1b a1p a1w a1o a1l).worn),(.cells (Jr.J.mk a0N a0T a0B a0x a0f a0c).bad.length (.rI .i64 (Jr.J.mk a0N a0T a0B a0x a0f a0c).bad) true)]):=by
 refine⟨0,?_⟩
 simp only [f35,NE]
 rw [aa (of_decide_eq_true hp)]
theorem c35:Ck 35 r35:=ck a5C Tryz.func35 (by
 intro X H r H' h hX hH
 unfold r35 at h;split at h <;> try contradiction
 ·obtain⟨hp,rfl,rfl⟩:=aJ h
  obtain rfl:=am (hH _ hm2) rfl
  obtain rfl:=am (hH _ hm3) rfl
  obtain rfl:=am (hH _ hm4) rfl
  obtain rfl:=am (hH _ hm5) rfl
  obtain⟨F,hF⟩:=s35 _ _ _ _ _ _ _ _ _ _ _ _ hp (hH _ hm0) (hH _ hm1) (hH _ hm2) (hH _ hm3) (hH _ hm4) (hH _ hm5) (hH _ hm6) (hH _ hm7)
  exact⟨_,abC (abp F) hF⟩)
def a5F:List aF:=[]
def V37:Env:=ar aE ao a5F
noncomputable abbrev a5G:=aI V37 none (Tryz.f37).results.toList
theorem a5H:EOk Tryz.prog V37:=aj (by exact trivial)
def a5I(F:Nat):Cuts:={ F:=F,at_:=fun _=>none,join:=fun _=>none }
abbrev a5J(F n:Nat){σ:Type}(e:σ→St)(K:Ex→St→Rz)(N:σ→Rz):=Qe V37 (a5I F) (bp Tryz.f37 n) e K N
def a0M:ez→St:=fun (a,b,c,d,e,f,g,h,i,j,k,l)=>hS [pS 0 0 7] [jB 1 5 2 3 4 d e f,dB 5 g 6 7 k l,iB a,iB c,sB b,bB h,pB i,wB j] 7 8
def aeL(F:Nat):ez→Rz:=fun (b,c,d,a,e,f,g,h,i,j,k,l)=>(some ((.int .i64 a),[(jB 1 5 2 3 4 a e f),(dB 5 g 6 7 k l),(iB b),(iB d),(sB c),(bB h),(pB i),(wB j)]))
theorem abq F:a5J F 1 a0M a5G (aeL F):=fun _=>by kernel_rfl
def f37(F:Nat):ez→Rz:=aeL F
def r37:aB:=fun X H=>match X,H with
 | [(.ptr 0 0 7 0 0 0 7)],[(.cells 7 (.segs (.cons 1 (.one (.ptr 1 0 5 0 0 0 5)) (.cons 1 (.one (.own 2 0 1)) (.cons 1 (.one (.own 3 0 1)) (.cons 1 (.one (.own 4 0 1)) (.cons 1 (.one (.int .i64 a0x)) (.cons 1 (.one (.int .i64 a0f)) (.cons 1 (.one (.bool a0c)) .nil)))))))) true),(.cells 5 (.segs (.cons 1 (.one (.own 5 a1n 64)) (.cons 1 (.one (.mp 6)) (.cons 1 (.one (.mp 7)) (.cons 1 (.one (.bool a1o)) (.cons 1 (.one (.int .i64 a1l)) .nil)))))) true),(.cells z2 (.rI .i64 a0N) true),(.cells z3 (.rI .i64 a0B) true),(.cells z4 (.rS a0T) true),(.cells z5 (.rI .u8 a1b) true),(.cells 0 (.rM .i64 0 (.arr .u8 64) a1p) true),(.cells 0 (.rM .i64 0 .bool a1w) true)]=>some (true,(.int .i64 (Jr.J.mk a0N a0T a0B a0x a0f a0c).next),[(jE 1 5 2 3 4 (Jr.J.mk a0N a0T a0B a0x a0f a0c)),(dE 5 (Dk.D.mk a1n a1b a1p a1w a1o a1l) 6 7),(.cells (Jr.J.mk a0N a0T a0B a0x a0f a0c).nums.length (.rI .i64 (Jr.J.mk a0N a0T a0B a0x a0f a0c).nums) true),(.cells (Jr.J.mk a0N a0T a0B a0x a0f a0c).bad.length (.rI .i64 (Jr.J.mk a0N a0T a0B a0x a0f a0c).bad) true),(.cells (Jr.J.mk a0N a0T a0B a0x a0f a0c).texts.length (.rS (Jr.J.mk a0N a0T a0B a0x a0f a0c).texts) true),(.cells (Dk.D.mk a1n a1b a1p a1w a1o a1l).blk.length (.rI .u8 (Dk.D.mk a1n a1b a1p a1w a1o a1l).blk) true),(pB (Dk.D.mk a1n a1b a1p a1w a1o a1l).pend),(wB (Dk.D.mk a1n a1b a1p a1w a1o a1l).worn)])
 | _,_=>none
theorem s37(a0N:Li)(a0T:List Li)(a0B:Li)(a0x a0f:Int)(a0c:Bool)(a1n:Nat)(a1b:Li)(a1p a1w:Lp)(a1o:Bool)(a1l:Int)(k0:okB (jB 1 5 2 3 4 a0x a0f a0c))(k1:okB (dB 5 a1n 6 7 a1o a1l))(k2:okB (iB a0N))(k3:okB (iB a0B))(k4:okB (sB a0T))(k5:okB (bB a1b))(k6:okB (pB a1p))(k7:okB (wB a1w)):∃ F,f37 F (a0N,a0T,a0B,a0x,a0f,a0c,a1n,a1b,a1p,a1w,a1o,a1l)=some ((.int .i64 (Jr.J.mk a0N a0T a0B a0x a0f a0c).next),[(jE 1 5 2 3 4 (Jr.J.mk a0N a0T a0B a0x a0f a0c)),(dE 5 (Dk.D.mk a1n a1b a1p a1w a1o a1l) 6 7),(.cells (Jr.J.mk a0N a0T a0B a0x a0f a0c).nums.length (.rI .i64 (Jr.J.mk a0N a0T a0B a0x a0f a0c).nums) true),(.cells (Jr.J.mk a0N a0T a0B a0x a0f a0c).bad.length (.rI .i64 (Jr.J.mk a0N a0T a0B a0x a0f a0c).bad) true),(.cells (Jr.J.mk a0N a0T a0B a0x a0f a0c).texts.length (.rS (Jr.J.mk a0N a0T a0B a0x a0f a0c).texts) true),(.cells (Dk.D.mk a1n a1b a1p a1w a1o a1l).blk.length (.rI .u8 (Dk.D.mk a1n a1b a1p a1w a1o a1l).blk) true),(pB (Dk.D.mk a1n a1b a1p a1w a1o a1l).pend),(wB (Dk.D.mk a1n a1b a1p a1w a1o a1l).worn)]):=⟨0,rfl⟩
theorem c37:Ck 37 r37:=ck a5H Tryz.func37 (by
 intro X H r H' h hX hH
 unfold r37 at h;split at h <;> try contradiction
 ·obtain⟨hp,rfl,rfl⟩:=aJ h
  obtain rfl:=am (hH _ hm2) rfl
  obtain rfl:=am (hH _ hm3) rfl
  obtain rfl:=am (hH _ hm4) rfl
  obtain rfl:=am (hH _ hm5) rfl
  obtain⟨F,hF⟩:=s37 _ _ _ _ _ _ _ _ _ _ _ _ (hH _ hm0) (hH _ hm1) (hH _ hm2) (hH _ hm3) (hH _ hm4) (hH _ hm5) (hH _ hm6) (hH _ hm7)
  exact⟨_,abC (abq F) hF⟩)
def a5K:List aF:=[(43,[none],r43)]
def V38:Env:=ar aE ao a5K
noncomputable abbrev a5L:=aI V38 none (Tryz.f38).results.toList
theorem a5M:EOk Tryz.prog V38:=aj (by exact⟨c43,trivial⟩)
def a5N(F:Nat):Cuts:={ F:=F,at_:=fun _=>none,join:=fun _=>none }
abbrev a5O(F n:Nat){σ:Type}(e:σ→St)(K:Ex→St→Rz)(N:σ→Rz):=Qe V38 (a5N F) (bp Tryz.f38 n) e K N
def a0O:ez→St:=fun (a,b,c,d,e,f,g,h,i,j,k,l)=>hS [pS 0 0 7] [jB 1 5 2 3 4 d e f,dB 5 g 6 7 k l,iB a,iB c,sB b,bB h,pB i,wB j] 13 8
def aeM(F:Nat):ez→Rz:=fun (h,i,j,k,g,l,a,b,c,d,e,f)=>(some ((.int .i64 (IntKind.i64.wrap (((Dk.D.mk a b c d e f).n:Int)-g))),[(jB 1 5 2 3 4 k g l),(dE 5 (Dk.D.mk a b c d e f) 6 7),(iB h),(iB j),(sB i),(.cells (Dk.D.mk a b c d e f).blk.length (.rI .u8 (Dk.D.mk a b c d e f).blk) true),(pB (Dk.D.mk a b c d e f).pend),(wB (Dk.D.mk a b c d e f).worn)]))
theorem abr F:a5O F 1 a0O a5L (aeM F):=fun _=>by kernel_rfl
def f38(F:Nat):ez→Rz:=aeM F
def r38:aB:=fun X H=>match X,H with
 | [(.ptr 0 0 7 0 0 0 7)],[(.cells 7 (.segs (.cons 1 (.one (.ptr 1 0 5 0 0 0 5)) (.cons 1 (.one (.own 2 0 1)) (.cons 1 (.one (.own 3 0 1)) (.cons 1 (.one (.own 4 0 1)) (.cons 1 (.one (.int .i64 a0x)) (.cons 1 (.one (.int .i64 a0f)) (.cons 1 (.one (.bool a0c)) .nil)))))))) true),(.cells 5 (.segs (.cons 1 (.one (.own 5 a1n 64)) (.cons 1 (.one (.mp 6)) (.cons 1 (.one (.mp 7)) (.cons 1 (.one (.bool a1o)) (.cons 1 (.one (.int .i64 a1l)) .nil)))))) true),(.cells z2 (.rI .i64 a0N) true),(.cells z3 (.rI .i64 a0B) true),(.cells z4 (.rS a0T) true),(.cells z5 (.rI .u8 a1b) true),(.cells 0 (.rM .i64 0 (.arr .u8 64) a1p) true),(.cells 0 (.rM .i64 0 .bool a1w) true)]=>some (true,(.int .i64 (IntKind.i64.wrap (((Dk.D.mk a1n a1b a1p a1w a1o a1l).n:Int)-(Jr.J.mk a0N a0T a0B a0x a0f a0c).fin))),[(jE 1 5 2 3 4 (Jr.J.mk a0N a0T a0B a0x a0f a0c)),(dE 5 (Dk.D.mk a1n a1b a1p a1w a1o a1l) 6 7),(.cells (Jr.J.mk a0N a0T a0B a0x a0f a0c).nums.length (.rI .i64 (Jr.J.mk a0N a0T a0B a0x a0f a0c).nums) true),(.cells (Jr.J.mk a0N a0T a0B a0x a0f a0c).bad.length (.rI .i64 (Jr.J.mk a0N a0T a0B a0x a0f a0c).bad) true),(.cells (Jr.J.mk a0N a0T a0B a0x a0f a0c).texts.length (.rS (Jr.J.mk a0N a0T a0B a0x a0f a0c).texts) true),(.cells (Dk.D.mk a1n a1b a1p a1w a1o a1l).blk.length (.rI .u8 (Dk.D.mk a1n a1b a1p a1w a1o a1l).blk) true),(pB (Dk.D.mk a1n a1b a1p a1w a1o a1l).pend),(wB (Dk.D.mk a1n a1b a1p a1w a1o a1l).worn)])
 | _,_=>none
theorem s38(a0N:Li)(a0T:List Li)(a0B:Li)(a0x a0f:Int)(a0c:Bool)(a1n:Nat)(a1b:Li)(a1p a1w:Lp)(a1o:Bool)(a1l:Int)(k0:okB (jB 1 5 2 3 4 a0x a0f a0c))(k1:okB (dB 5 a1n 6 7 a1o a1l))(k2:okB (iB a0N))(k3:okB (iB a0B))(k4:okB (sB a0T))(k5:okB (bB a1b))(k6:okB (pB a1p))(k7:okB (wB a1w)):∃ F,f38 F (a0N,a0T,a0B,a0x,a0f,a0c,a1n,a1b,a1p,a1w,a1o,a1l)=some ((.int .i64 (IntKind.i64.wrap (((Dk.D.mk a1n a1b a1p a1w a1o a1l).n:Int)-(Jr.J.mk a0N a0T a0B a0x a0f a0c).fin))),[(jE 1 5 2 3 4 (Jr.J.mk a0N a0T a0B a0x a0f a0c)),(dE 5 (Dk.D.mk a1n a1b a1p a1w a1o a1l) 6 7),(.cells (Jr.J.mk a0N a0T a0B a0x a0f a0c).nums.length (.rI .i64 (Jr.J.mk a0N a0T a0B a0x a0f a0c).nums) true),(.cells (Jr.J.mk a0N a0T a0B a0x a0f a0c).bad.length (.rI .i64 (Jr.J.mk a0N a0T a0B a0x a0f a0c).bad) true),(.cells (Jr.J.mk a0N a0T a0B a0x a0f a0c).texts.length (.rS (Jr.J.mk a0N a0T a0B a0x a0f a0c).texts) true),(.cells (Dk.D.mk a1n a1b a1p a1w a1o a1l).blk.length (.rI .u8 (Dk.D.mk a1n a1b a1p a1w a1o a1l).blk) true),(pB (Dk.D.mk a1n a1b a1p a1w a1o a1l).pend),(wB (Dk.D.mk a1n a1b a1p a1w a1o a1l).worn)]):=⟨0,rfl⟩
theorem c38:Ck 38 r38:=ck a5M Tryz.func38 (by
 intro X H r H' h hX hH
 unfold r38 at h;split at h <;> try contradiction
 ·obtain⟨hp,rfl,rfl⟩:=aJ h
  obtain rfl:=am (hH _ hm2) rfl
  obtain rfl:=am (hH _ hm3) rfl
  obtain rfl:=am (hH _ hm4) rfl
  obtain rfl:=am (hH _ hm5) rfl
  obtain⟨F,hF⟩:=s38 _ _ _ _ _ _ _ _ _ _ _ _ (hH _ hm0) (hH _ hm1) (hH _ hm2) (hH _ hm3) (hH _ hm4) (hH _ hm5) (hH _ hm6) (hH _ hm7)
  exact⟨_,abC (abr F) hF⟩)
def a5P:List aF:=[]
def V12:Env:=ar aE ao a5P
noncomputable abbrev dR:=aI V12 (some [(2,.view 3)]) (Tryz.f12).results.toList
theorem a5Q:EOk Tryz.prog V12:=aj (by exact trivial)
def a5R(F:Nat):Cuts:={ F:=F,at_:=fun n=>match n with | 3012=>some Nq | 9014=>some Nr | _=>none,join:=fun n=>match n with | 1043=>some [(0,.plain)] | 2041=>some dc | 3014=>some Nq | 7024=>some dc | 8022=>some a0G | 9016=>some Nr | 13003=>some [(6,.own 3)] | _=>none,fin:=(some [(2,.view 3)]) }
abbrev dS(F n:Nat){σ:Type}(e:σ→St)(K:Ex→St→Rz)(N:σ→Rz):=Qe V12 (a5R F) (bp Tryz.f12 n) e K N
def Uq:ez→St:=fun (a,b,c,d,e,f,g,h,i,j,k,l)=>hS [pS 0 0 7] [jB 1 5 2 3 4 d e f,dB 5 g 6 7 k l,iB a,iB c,sB b,bB h,pB i,wB j] 38 8
def GB:(Dk.D)×(Jr.J)→St:=fun (a,b)=>hS [pS 0 0 7] [jE 1 5 2 3 4 b,dE 5 a 6 7,iB b.nums,iB b.bad,sB b.texts,bB a.blk,pB a.pend,wB a.worn] 38 8
def oM:oL→St:=fun (c,a,b)=>hS [pS 0 0 7,(3,.mp 8)] [jE 1 5 2 3 4 b,dE 5 a 6 7,iB b.nums,iB b.bad,sB b.texts,bB a.blk,pB a.pend,wB a.worn,wB c] 38 8
def vH:sa→St:=fun (c,d,e,a,b)=>hS [pS 0 0 7,(3,.mp 8),(12,.own 2 0 1),iS 13 c,iS 14 d] [jE 1 5 2 3 4 b,dE 5 a 6 7,iB b.nums,iB b.bad,sB b.texts,bB a.blk,pB a.pend,wB a.worn,wB e] 38 8
def Ur:sa→St:=vH
def gX:oL→St:=oM
def vI:aa0→St:=fun (c,d,a,b)=>hS [pS 0 0 7,(3,.mp 8),(6,.own 9 0 1)] [jE 1 5 2 3 4 b,dE 5 a 6 7,iB b.nums,iB b.bad,sB b.texts,bB a.blk,pB a.pend,wB a.worn,wB c,iB d] 38 8
def vJ:sb→St:=fun (c,d,e,a,b)=>hS [pS 0 0 7,(3,.mp 8),(6,.own 9 0 1),iS 7 c] [jE 1 5 2 3 4 b,dE 5 a 6 7,iB b.nums,iB b.bad,sB b.texts,bB a.blk,pB a.pend,wB a.worn,wB d,iB e] 38 8
def Us:sb→St:=vJ
def jf:Gm→St:=fun (c,a,b)=>hS [(6,.own 8 0 1)] [jE 1 5 2 3 4 b,dE 5 a 6 7,iB b.nums,iB b.bad,sB b.texts,bB a.blk,pB a.pend,wB a.worn,iB c] 38 8
def BD(F:Nat)(a:(Dk.D)×(Jr.J)→Rz):ez→Rz:=fun (b,c,d,e,f,g,h,i,j,k,l,m)=>(a ((Dk.D.mk h i j k l m),(Jr.J.mk b c d e f g)))
theorem abt F Rj1:dS F 2 Uq (kq V12 Rj1 [(0,.plain)] dR) (BD F (Rj1∘GB)):=fun _=>by kernel_rfl
def BE(F:Nat)(a:oL→Rz):(Dk.D)×(Jr.J)→Rz:=fun (b,c)=>(a ([],b,c))
theorem abu F Rj2:dS F 6 GB (kq V12 Rj2 dc dR) (BE F (Rj2∘oM)):=fun _=>by kernel_rfl
def BF(F:Nat)(b:sa→Rz)(e:oL→Rz):oL→Rz:=fun (c,d,a)=>(b ((↑a.nums.length:Int),(0:Int),c,d,a))
theorem abv F Rj3 Rj4:dS F 28 oM (kq V12 Rj3 Nq (kq V12 Rj4 dc dR)) (BF F (Rj3∘vH) (Rj4∘gX)):=fun _=>by kernel_rfl
def vK(F:Nat)(f:sa→Rz)(g:oL→Rz):sa→Rz:=fun (c,a,d,e,b)=>(cond (decide (a < c)) (cond ((decide (0≤a))&&(decide (a < (↑b.nums.length:Int)))) (f (c,(IntKind.i64.wrap (a+(1:Int))),(bY d [(b.nums.getD (Int.toNat a) 0)] [(cond true 1 0)]),e,b)) none) (g (d,e,b)))
theorem abw F Rl1 Rj4:dS F 116 Ur (kq V12 Rl1 Nq (ae 0 (kq V12 Rj4 dc dR))) (vK F (Rl1∘Ur) (Rj4∘gX)):=fun _=>by kernel_rfl
def yx:sa→Int×Int×(Lp)×(Dk.D)×(Jr.J):=fun (a,b,c,d,e)=>(a,b,c,d,e)
def NF(F:Nat)(a:oL→Rz):sa→Rz:=fun v=>ay (fun k=>vK F k a) F (yx v)
theorem abx F Rj4:dS F 58 vH (ae 0 (kq V12 Rj4 dc dR)) (NF F (Rj4∘gX)):=lpC yx (fun k=>vK F k (Rj4∘gX)) (fun Rl1=>abw F Rl1 Rj4)
def NG(F:Nat)(a):=NF F a
theorem aby F Rj4:dS F 29 vH (kq V12 Rj4 dc dR) (NG F (Rj4∘gX)):=biC (abx F Rj4)
def BG(F:Nat)(a):=BF F (NG F a) a
theorem abz F Rj4:dS F 14 oM (kq V12 Rj4 dc dR) (BG F (Rj4∘gX)):=sqC (fun k=>BF F k (Rj4∘gX)) (fun Rj3=>abv F Rj3 Rj4) (aby F Rj4)
def BH(F:Nat)(a:aa0→Rz):oL→Rz:=fun (b,c,d)=>(a (b,[],c,d))
theorem abA F Rj5:dS F 30 gX (kq V12 Rj5 a0G dR) (BH F (Rj5∘vI)):=fun _=>by kernel_rfl
def BI(F:Nat)(a:sb→Rz)(f:Gm→Rz):aa0→Rz:=fun (b,c,d,e)=>(a ((1:Int),b,c,d,e))
theorem abO F Rj6 Rj7:dS F 124 vI (kq V12 Rj6 Nr (kq V12 Rj7 [(6,.own 3)] dR)) (BI F (Rj6∘vJ) (Rj7∘jf)):=fun _=>by kernel_rfl
def oN(F:Nat)(f:sb→Rz)(g:Gm→Rz):sb→Rz:=fun (a,d,b,e,c)=>(cond (decide (a < c.next)) (cond (!((bO (fa .bool) d [a]).getD 0 0==1)) (cond (decide ((b.length+1) < 1073741824)) (f ((IntKind.i64.wrap (a+(1:Int))),d,(b++[a]),e,c)) none) (f ((IntKind.i64.wrap (a+(1:Int))),d,b,e,c))) (g (b,e,c)))
theorem Ut F Rl2 Rj7:dS F 500 Us (kq V12 Rl2 Nr (ae 2 (kq V12 Rj7 [(6,.own 3)] dR))) (oN F (Rl2∘Us) (Rj7∘jf)):=fun _=>by kernel_rfl
def sd:sb→Int×(Lp)×Li×(Dk.D)×(Jr.J):=fun (a,b,c,d,e)=>(a,b,c,d,e)
def GE(F:Nat)(a:Gm→Rz):sb→Rz:=fun v=>ay (fun k=>oN F k a) F (sd v)
theorem Uu F Rj7:dS F 250 vJ (ae 2 (kq V12 Rj7 [(6,.own 3)] dR)) (GE F (Rj7∘jf)):=lpC sd (fun k=>oN F k (Rj7∘jf)) (fun Rl2=>Ut F Rl2 Rj7)
def GF(F:Nat)(a):=GE F a
theorem Uv F Rj7:dS F 125 vJ (kq V12 Rj7 [(6,.own 3)] dR) (GF F (Rj7∘jf)):=biC (Uu F Rj7)
def vL(F:Nat)(a):=BI F (GF F a) a
theorem Uw F Rj7:dS F 62 vI (kq V12 Rj7 [(6,.own 3)] dR) (vL F (Rj7∘jf)):=sqC (fun k=>BI F k (Rj7∘jf)) (fun Rj6=>abO F Rj6 Rj7) (Uv F Rj7)
def GG(F:Nat):Gm→Rz:=fun (c,a,b)=>(some ((.vs (.rI .i64 c) 0 1),[(jE 1 5 2 3 4 b),(dE 5 a 6 7),(iB b.nums),(iB b.bad),(sB b.texts),(bB a.blk),(pB a.pend),(wB a.worn)]))
theorem Ux F:dS F 63 jf dR (GG F):=fun _=>by kernel_rfl
def GH(F:Nat):=vL F (GG F)
theorem Uy F:dS F 31 vI dR (GH F):=sqC (vL F) (fun Rj7=>Uw F Rj7) (Ux F)
def vM(F:Nat):=BH F (GH F)
theorem Uz F:dS F 15 gX dR (vM F):=sqC (BH F) (fun Rj5=>abA F Rj5) (Uy F)
def GI(F:Nat):=BG F (vM F)
theorem UA F:dS F 7 oM dR (GI F):=sqC (BG F) (fun Rj4=>abz F Rj4) (Uz F)
def GK(F:Nat):=BE F (GI F)
theorem UB F:dS F 3 GB dR (GK F):=sqC (BE F) (fun Rj2=>abu F Rj2) (UA F)
def GL(F:Nat):=BD F (GK F)
theorem UC F:dS F 1 Uq dR (GL F):=sqC (BD F) (fun Rj1=>abt F Rj1) (UB F)
def f12(F:Nat):ez→Rz:=GL F
def r12:aB:=fun X H=>match X,H with
 | [(.ptr 0 0 7 0 0 0 7)],[(.cells 7 (.segs (.cons 1 (.one (.ptr 1 0 5 0 0 0 5)) (.cons 1 (.one (.own 2 0 1)) (.cons 1 (.one (.own 3 0 1)) (.cons 1 (.one (.own 4 0 1)) (.cons 1 (.one (.int .i64 a0x)) (.cons 1 (.one (.int .i64 a0f)) (.cons 1 (.one (.bool a0c)) .nil)))))))) true),(.cells 5 (.segs (.cons 1 (.one (.own 5 a1n 64)) (.cons 1 (.one (.mp 6)) (.cons 1 (.one (.mp 7)) (.cons 1 (.one (.bool a1o)) (.cons 1 (.one (.int .i64 a1l)) .nil)))))) true),(.cells z2 (.rI .i64 a0N) true),(.cells z3 (.rI .i64 a0B) true),(.cells z4 (.rS a0T) true),(.cells z5 (.rI .u8 a1b) true),(.cells 0 (.rM .i64 0 (.arr .u8 64) a1p) true),(.cells 0 (.rM .i64 0 .bool a1w) true)]=>some ((decide ((Jr.J.mk a0N a0T a0B a0x a0f a0c).nums.length < 1073741000∧(Jr.J.mk a0N a0T a0B a0x a0f a0c).next < 100000)),(.vs (.rI .i64 (Jr.damaged (Jr.J.mk a0N a0T a0B a0x a0f a0c))) 0 1),[(jE 1 5 2 3 4 (Jr.J.mk a0N a0T a0B a0x a0f a0c)),(dE 5 (Dk.D.mk a1n a1b a1p a1w a1o a1l) 6 7),(.cells (Jr.J.mk a0N a0T a0B a0x a0f a0c).nums.length (.rI .i64 (Jr.J.mk a0N a0T a0B a0x a0f a0c).nums) true),(.cells (Jr.J.mk a0N a0T a0B a0x a0f a0c).bad.length (.rI .i64 (Jr.J.mk a0N a0T a0B a0x a0f a0c).bad) true),(.cells (Jr.J.mk a0N a0T a0B a0x a0f a0c).texts.length (.rS (Jr.J.mk a0N a0T a0B a0x a0f a0c).texts) true),(.cells (Dk.D.mk a1n a1b a1p a1w a1o a1l).blk.length (.rI .u8 (Dk.D.mk a1n a1b a1p a1w a1o a1l).blk) true),(pB (Dk.D.mk a1n a1b a1p a1w a1o a1l).pend),(wB (Dk.D.mk a1n a1b a1p a1w a1o a1l).worn)])
 | _,_=>none
theorem s12(a0N:Li)(a0T:List Li)(a0B:Li)(a0x a0f:Int)(a0c:Bool)(a1n:Nat)(a1b:Li)(a1p a1w:Lp)(a1o:Bool)(a1l:Int)(hp:((decide ((Jr.J.mk a0N a0T a0B a0x a0f a0c).nums.length < 1073741000∧(Jr.J.mk a0N a0T a0B a0x a0f a0c).next < 100000)))=true)(k0:okB (jB 1 5 2 3 4 a0x a0f a0c))(k1:okB (dB 5 a1n 6 7 a1o a1l))(k2:okB (iB a0N))(k3:okB (iB a0B))(k4:okB (sB a0T))(k5:okB (bB a1b))(k6:okB (pB a1p))(k7:okB (wB a1w)):∃ F,f12 F (a0N,a0T,a0B,a0x,a0f,a0c,a1n,a1b,a1p,a1w,a1o,a1l)=some ((.vs (.rI .i64 (Jr.damaged (Jr.J.mk a0N a0T a0B a0x a0f a0c))) 0 1),[(jE 1 5 2 3 4 (Jr.J.mk a0N a0T a0B a0x a0f a0c)),(dE 5 (Dk.D.mk a1n a1b a1p a1w a1o a1l) 6 7),(.cells (Jr.J.mk a0N a0T a0B a0x a0f a0c).nums.length (.rI .i64 (Jr.J.mk a0N a0T a0B a0x a0f a0c).nums) true),(.cells (Jr.J.mk a0N a0T a0B a0x a0f a0c).bad.length (.rI .i64 (Jr.J.mk a0N a0T a0B a0x a0f a0c).bad) true),(.cells (Jr.J.mk a0N a0T a0B a0x a0f a0c).texts.length (.rS (Jr.J.mk a0N a0T a0B a0x a0f a0c).texts) true),(.cells (Dk.D.mk a1n a1b a1p a1w a1o a1l).blk.length (.rI .u8 (Dk.D.mk a1n a1b a1p a1w a1o a1l).blk) true),(pB (Dk.D.mk a1n a1b a1p a1w a1o a1l).pend),(wB (Dk.D.mk a1n a1b a1p a1w a1o a1l).worn)]):=by
 obtain⟨hp1,hp2⟩:=of_decide_eq_true hp
 obtain⟨F,hF⟩:∃ F,F=a0N.length+200000:=⟨_,rfl⟩
 refine⟨F,?_⟩
 simp only [f12,GL,BD,GK,BE,GI,BG,vM,BF,NG,NF,yx]
 have hp1:a0N.length < 1073741000:=hp1
 have hp2:a0x < 100000:=hp2
 refine aH (fun i=>((a0N.length:Int),(i:Int),(a0N.take i).foldl (fun m n=>bY m [n] [1]) [],(Dk.D.mk a1n a1b a1p a1w a1o a1l),(Jr.J.mk a0N a0T a0B a0x a0f a0c))) a0N.length rfl (fun i hi q=>?_) (fun q=>?_) F (by omega)
 ·simp only [vK,Int.toNat_natCast,ap]
  rw [aa (by omega),aa (by omega),ah (by omega) (by omega),List.take_add_one,List.foldl_append,List.getElem?_eq_getElem hi,List.getD_eq_getElem?_getD,List.getElem?_eq_getElem hi]
  rfl
 simp only [vK]
 rw [ad (by omega),List.take_length]
 simp only [vM,BH,GH,vL,GG,BI,GF,GE,sd]
 have hth:∀ t,((bO (fa .bool) (a0N.foldl (fun m n=>bY m [n] [1]) []) [t]).getD 0 0==1)=a0N.contains t:=fun t=>by
  have:=Jr.there_get t a0N [] (fun e he=>by cases he)
  rw [show bP ([]:Dk.Es) [t]=false from rfl,Bool.or_false] at this
  exact this
 refine aH (fun i=>((i:Int)+1,a0N.foldl (fun m n=>bY m [n] [1]) [],((List.range i).filter fun i:Nat=>!a0N.contains ((i:Int)+1)).map fun i:Nat=>(i:Int)+1,(Dk.D.mk a1n a1b a1p a1w a1o a1l),(Jr.J.mk a0N a0T a0B a0x a0f a0c))) (a0x-1).toNat rfl (fun i hi q=>?_) (fun q=>?_) F (by omega)
 ·simp only [oN]
  have hlen:(((List.range i).filter fun i:Nat=>!a0N.contains ((i:Int)+1)).map fun i:Nat=>(i:Int)+1).length≤i:=by
   rw [List.length_map];exact Nat.le_trans (List.length_filter_le _ _) (by simp)
  rw [aa (by omega),hth,ah (by omega) (by omega),Jr.dam_step]
  cases (!a0N.contains ((i:Int)+1))
  ·rw [cond_false,cond_false,List.append_nil];rfl
  ·rw [cond_true,cond_true,aa (by omega)];rfl
 ·simp only [oN]
  rw [ad (by omega)]
  rfl
theorem c12:Ck 12 r12:=ck a5Q Tryz.func12 (by
 intro X H r H' h hX hH
 unfold r12 at h;split at h <;> try contradiction
 ·obtain⟨hp,rfl,rfl⟩:=aJ h
  obtain rfl:=am (hH _ hm2) rfl
  obtain rfl:=am (hH _ hm3) rfl
  obtain rfl:=am (hH _ hm4) rfl
  obtain rfl:=am (hH _ hm5) rfl
  obtain⟨F,hF⟩:=s12 _ _ _ _ _ _ _ _ _ _ _ _ hp (hH _ hm0) (hH _ hm1) (hH _ hm2) (hH _ hm3) (hH _ hm4) (hH _ hm5) (hH _ hm6) (hH _ hm7)
  exact⟨_,abC (UC F) hF⟩)
end Go.Am
