/- Part of a proof. -/
import Derived.Test.YtffddoahjpemaaaGreatDoorAmJrn14
import Derived.Test.YtffddoahjpemaaaGreatDoorAmJrn11
set_option linter.unusedVariables false
set_option linter.unusedSimpArgs false
namespace Go.Am
open Go Go.Proofs
abbrev a1C:List (Nat×Md):=[(7,.plain),(9,.plain),(11,.own 9),(38,.plain),(39,.plain),(40,.plain)]
abbrev O8:List (Nat×Md):=[(1,.plain),(7,.plain),(8,.plain)]
abbrev a1D:List (Nat×Md):=[(1,.plain),(7,.plain),(9,.plain),(10,.plain)]
abbrev a1E:List (Nat×Md):=[(1,.plain),(7,.plain),(9,.plain)]
abbrev a1F:List (Nat×Md):=[(1,.plain),(7,.plain),(9,.plain),(11,.plain)]
abbrev a1G:List (Nat×Md):=[(7,.plain),(9,.plain),(11,.plain),(38,.plain),(39,.plain),(40,.plain)]
abbrev yS:List (Nat×Md):=[(7,.plain),(11,.plain)]
abbrev O9:List (Nat×Md):=[(1,.plain),(10,.plain),(11,.plain),(12,.plain)]
abbrev jt:=Int×(List (List Li))×Nat
abbrev ad2:=(List (List Li))×Nat×Int×(Dk.D)
abbrev ad3:=(List (List Li))×Nat×(Dk.D)
abbrev ad4:=(List (List Li))×Nat×Int×(Dk.D)×(Jr.J)
abbrev qj:=(List (List Li))×Nat×(Dk.D)×(Jr.J)
abbrev CS:=(List (List Li))×Nat×Int×Int×(Dk.D)×(Jr.J)
abbrev Pa:=(List (List Li))×Nat×Int×Int×(List Li)×(Dk.D)×(Jr.J)
abbrev wA:=(List Li)×(Dk.D)
abbrev mQ:=(List Li)×(List Li)×Int×Int
abbrev qk:=Int×(List (List Li))×Nat×Int×Int×Int×Int×Int×Li×Int×Li
def lV8:List aF:=[(9,[none],r9),(14,[none,none],r14),(15,[none],r15),(20,[none],r20)]
def V8:Env:=ar aE ao lV8
noncomputable abbrev dY:=aI V8 (some [(4,.plain),(5,.view 9),(6,.plain)]) (Tryz.f8).results.toList
theorem eV8:EOk Tryz.prog V8:=aj (by exact⟨c9,c14,c15,c20,trivial⟩)
def Af8(F:Nat):Cuts:={ F:=F,at_:=fun n=>match n with | 9018=>some a1C | _=>none,join:=fun n=>match n with | 1048=>some cU | 2046=>some O8 | 4038=>some [(1,.plain),(7,.plain)] | 5036=>some a1D | 7028=>some a1E | 8026=>some a1F | 9020=>some a1G | 15003=>some yS | _=>none,fin:=(some [(4,.plain),(5,.view 9),(6,.plain)]) }
abbrev qf8(F n:Nat){σ:Type}(e:σ→St)(K:Ex→St→Rz)(N:σ→Rz):=Qe V8 (Af8 F) (bp Tryz.f8 n) e K N
abbrev z5 a b:=(.vs (.rT [.int .i64,.int .i64,.int .i64,.int .i64,.int .u8,.sl .i64] a) b 6:AV)
def Pb:jt→St:=fun (a,b,c)=>hS [iS 0 a,(1,(z5 b c))] [] 61 0
def CU:jt→St:=fun (a,b,c)=>hS [iS 0 a,(1,(z5 b c))] [] 61 0
def Pd:ad2→St:=fun (b,c,d,a)=>hS [(1,(z5 b c)),pS 7 0 5,iS 8 d] [dE 1 a 2 3,bB a.blk,pB a.pend,wB a.worn] 61 0
def Pe:ad3→St:=fun (b,c,a)=>hS [(1,(z5 b c)),pS 7 0 5] [dE 1 a 2 3,bB a.blk,pB a.pend,wB a.worn] 61 0
def Pf:ad4→St:=fun (c,d,e,a,b)=>hS [(1,(z5 c d)),pS 7 0 5,pS 9 1 7,iS 10 e] [dE 2 a 3 4,jE 0 5 5 6 7 b,bB a.blk,pB a.pend,wB a.worn,iB b.nums,iB b.bad,sB b.texts] 61 0
def Pg:qj→St:=fun (c,d,a,b)=>hS [(1,(z5 c d)),pS 7 0 5,pS 9 1 7] [dE 2 a 3 4,jE 0 5 5 6 7 b,bB a.blk,pB a.pend,wB a.worn,iB b.nums,iB b.bad,sB b.texts] 61 0
def CV:qj→St:=fun (c,d,a,b)=>hS [(1,(z5 c d)),pS 7 0 5,pS 9 1 7,(11,.ns)] [dE 2 a 3 4,jE 0 5 5 6 7 b,bB a.blk,pB a.pend,wB a.worn,iB b.nums,iB b.bad,sB b.texts] 61 0
def Ph:CS→St:=fun (c,d,e,f,a,b)=>hS [pS 7 0 5,pS 9 1 7,(11,.ns),(38,(z5 c d)),iS 39 e,iS 40 f] [dE 2 a 3 4,jE 0 5 5 6 7 b,bB a.blk,pB a.pend,wB a.worn,iB b.nums,iB b.bad,sB b.texts] 61 0
def aeX:Pa→St:=fun (c,d,e,f,g,a,b)=>hS [pS 7 0 5,pS 9 1 7,(11,.own 2 0 1),(38,(z5 c d)),iS 39 e,iS 40 f] [dE 3 a 4 5,jE 0 5 6 7 8 b,sB g,bB a.blk,pB a.pend,wB a.worn,iB b.nums,iB b.bad,sB b.texts] 61 0
def kP:wA→St:=fun (b,a)=>hS [pS 7 0 5,(11,.own 1 0 1)] [dE 2 a 3 4,sB b,bB a.blk,pB a.pend,wB a.worn] 61 0
def Pi(F:Nat)(a:jt→Rz):jt→Rz:=fun (b,c,d)=>(a (b,c,d))
theorem aZG F Rj1:qf8 F 2 Pb (kq V8 Rj1 cU dY) (Pi F (Rj1∘CU)):=fun _=>by kernel_rfl
def Pj(F:Nat)(b:ad2→Rz):jt→Rz:=fun (a,c,d)=>(cond ((decide (0 < a))&&(decide (a < 4097))) (b (c,d,0,(Dk.new a))) none)
theorem aZH F Rj2:qf8 F 6 CU (kq V8 Rj2 O8 dY) (Pj F (Rj2∘Pd)):=fun _=>by kernel_rfl
def Pk(F:Nat)(a:ad3→Rz):ad2→Rz:=fun (b,c,d,e)=>(cond (d != (0:Int)) (some ((.tup (.cons 0 .nilp (.cons 0 (.vs (.rS []) 0 1) (.cons 0 (.bool false) .nil)))),[])) (a (b,c,e)))
theorem aZI F Rj3:qf8 F 14 Pd (kq V8 Rj3 [(1,.plain),(7,.plain)] dY) (Pk F (Rj3∘Pe)):=fun _=>by kernel_rfl
def Pl(F:Nat)(b:ad4→Rz):ad3→Rz:=fun (c,d,a)=>(cond ((Dk.fine a)&&(!a.off)) (b (c,d,0,a,(Jr.openS (Jr.secsD a)))) none)
theorem aZJ F Rj4:qf8 F 30 Pe (kq V8 Rj4 a1D dY) (Pl F (Rj4∘Pf)):=fun _=>by kernel_rfl
def Pm(F:Nat)(a:qj→Rz):ad4→Rz:=fun (b,c,d,e,f)=>(cond (d != (0:Int)) (some ((.tup (.cons 0 .nilp (.cons 0 (.vs (.rS []) 0 1) (.cons 0 (.bool false) .nil)))),[])) (a (b,c,e,f)))
theorem aZK F Rj5:qf8 F 62 Pf (kq V8 Rj5 a1E dY) (Pm F (Rj5∘Pg)):=fun _=>by kernel_rfl
def Pn(F:Nat)(a:qj→Rz):qj→Rz:=fun (b,c,d,e)=>(a (b,c,d,e))
theorem aZL F Rj6:qf8 F 126 Pg (kq V8 Rj6 a1F dY) (Pn F (Rj6∘CV)):=fun _=>by kernel_rfl
def Po(F:Nat)(b:CS→Rz)(f:wA→Rz):qj→Rz:=fun (c,a,d,e)=>(b (c,a,(↑a:Int),(0:Int),d,e))
theorem aZM F Rj7 Rj8:qf8 F 508 CV (kq V8 Rj7 a1G (kq V8 Rj8 yS dY)) (Po F (Rj7∘Ph) (Rj8∘kP)):=fun _=>by kernel_rfl
def H5(F:Nat)(h:Pa→Rz)(i:wA→Rz):Pa→Rz:=fun (b,f,g,a,e,c,d)=>(cond (decide (a < g)) (cond ((decide (0≤a))&&(decide (a < (↑f:Int)))) (cond ((Dk.fine c)&&(Jr.okJ c d)) (cond ((Jr.append Jr.DV c d (Jr.text (((b.getD (Int.toNat a) []).getD 3 []).getD 0 0) (((b.getD (Int.toNat a) []).getD 4 []).getD 0 0))).2.2.2==(0:Int)) (cond (decide ((e.length+1) < 1073741824)) (h (b,f,g,(IntKind.i64.wrap (a+(1:Int))),(e++[(Jr.text (((b.getD (Int.toNat a) []).getD 3 []).getD 0 0) (((b.getD (Int.toNat a) []).getD 4 []).getD 0 0))]),(Jr.append Jr.DV c d (Jr.text (((b.getD (Int.toNat a) []).getD 3 []).getD 0 0) (((b.getD (Int.toNat a) []).getD 4 []).getD 0 0))).1,(Jr.append Jr.DV c d (Jr.text (((b.getD (Int.toNat a) []).getD 3 []).getD 0 0) (((b.getD (Int.toNat a) []).getD 4 []).getD 0 0))).2.1)) none) (h (b,f,g,(IntKind.i64.wrap (a+(1:Int))),e,(Jr.append Jr.DV c d (Jr.text (((b.getD (Int.toNat a) []).getD 3 []).getD 0 0) (((b.getD (Int.toNat a) []).getD 4 []).getD 0 0))).1,(Jr.append Jr.DV c d (Jr.text (((b.getD (Int.toNat a) []).getD 3 []).getD 0 0) (((b.getD (Int.toNat a) []).getD 4 []).getD 0 0))).2.1))) none) none) (i (e,c)))
theorem aZN F Rl1 Rj8:qf8 F 2036 aeX (kq V8 Rl1 a1C (ae 0 (kq V8 Rj8 yS dY))) (H5 F (Rl1∘aeX) (Rj8∘kP)):=fun _=>by kernel_rfl
def H6:CS→(List (List Li))×Nat×Int×Int×(List Li)×(Dk.D)×(Jr.J):=fun (a,b,c,d,e,f)=>(a,b,c,d,[],e,f)
def ad5(F:Nat)(a:wA→Rz):CS→Rz:=fun v=>ay (fun k=>H5 F k a) F (H6 v)
theorem aZO F Rj8:qf8 F 1018 Ph (ae 0 (kq V8 Rj8 yS dY)) (ad5 F (Rj8∘kP)):=lpC H6 (fun k=>H5 F k (Rj8∘kP)) (fun Rl1=>aZN F Rl1 Rj8)
def Pp(F:Nat)(a):=ad5 F a
theorem ad6 F Rj8:qf8 F 509 Ph (kq V8 Rj8 yS dY) (Pp F (Rj8∘kP)):=biC (aZO F Rj8)
def Pq(F:Nat)(a):=Po F (Pp F a) a
theorem ad7 F Rj8:qf8 F 254 CV (kq V8 Rj8 yS dY) (Pq F (Rj8∘kP)):=sqC (fun k=>Po F k (Rj8∘kP)) (fun Rj7=>aZM F Rj7 Rj8) (ad6 F Rj8)
def aeY(F:Nat):wA→Rz:=fun (b,a)=>(some ((.tup (.cons 0 (.ptr 0 0 5 0 0 0 5) (.cons 0 (.vs (.rS b) 0 1) (.cons 0 (.bool true) .nil)))),[(dE 1 a 2 3),(bB a.blk),(pB a.pend),(wB a.worn)]))
theorem ad8 F:qf8 F 255 kP dY (aeY F):=fun _=>by kernel_rfl
def Pr(F:Nat):=Pq F (aeY F)
theorem ad9 F:qf8 F 127 CV dY (Pr F):=sqC (Pq F) (fun Rj8=>ad7 F Rj8) (ad8 F)
def Pt(F:Nat):=Pn F (Pr F)
theorem aea F:qf8 F 63 Pg dY (Pt F):=sqC (Pn F) (fun Rj6=>aZL F Rj6) (ad9 F)
def Pu(F:Nat):=Pm F (Pt F)
theorem aeb F:qf8 F 31 Pf dY (Pu F):=sqC (Pm F) (fun Rj5=>aZK F Rj5) (aea F)
def Pv(F:Nat):=Pl F (Pu F)
theorem aec F:qf8 F 15 Pe dY (Pv F):=sqC (Pl F) (fun Rj4=>aZJ F Rj4) (aeb F)
def Pw(F:Nat):=Pk F (Pv F)
theorem aed F:qf8 F 7 Pd dY (Pw F):=sqC (Pk F) (fun Rj3=>aZI F Rj3) (aec F)
def Px(F:Nat):=Pj F (Pw F)
theorem aee F:qf8 F 3 CU dY (Px F):=sqC (Pj F) (fun Rj2=>aZH F Rj2) (aed F)
def Py(F:Nat):=Pi F (Px F)
theorem aef F:qf8 F 1 Pb dY (Py F):=sqC (Pi F) (fun Rj1=>aZG F Rj1) (aee F)
def f8(F:Nat):jt→Rz:=Py F
def r8:aB:=fun X H=>match X,H with
 | [(.int .i64 a0),(.vs (.rT [.int .i64,.int .i64,.int .i64,.int .i64,.int .u8,.sl .i64] a1) a1n 6)],[]=>some ((decide (0 < a0∧a0 < 4000))&&(decide (a1n < 4000)),(.tup (.cons 0 (.ptr 0 0 5 0 0 0 5) (.cons 0 (.vs (.rS (Jr.filled a0 a1 a1n).2.2) 0 1) (.cons 0 (.bool true) .nil)))),[(dE 1 (Jr.filled a0 a1 a1n).1 2 3),(.cells (Jr.filled a0 a1 a1n).1.blk.length (.rI .u8 (Jr.filled a0 a1 a1n).1.blk) true),(pB (Jr.filled a0 a1 a1n).1.pend),(wB (Jr.filled a0 a1 a1n).1.worn)])
 | _,_=>none
theorem s8(a0:Int)(a1:List (List Li))(a1n:Nat)(hp:((decide (0 < a0∧a0 < 4000))&&(decide (a1n < 4000)))=true)(h0:okV (.int .i64 a0))(h1:okV (.vs (.rT [.int .i64,.int .i64,.int .i64,.int .i64,.int .u8,.sl .i64] a1) a1n 6)):∃ F,f8 F (a0,a1,a1n)=some ((.tup (.cons 0 (.ptr 0 0 5 0 0 0 5) (.cons 0 (.vs (.rS (Jr.filled a0 a1 a1n).2.2) 0 1) (.cons 0 (.bool true) .nil)))),[(dE 1 (Jr.filled a0 a1 a1n).1 2 3),(.cells (Jr.filled a0 a1 a1n).1.blk.length (.rI .u8 (Jr.filled a0 a1 a1n).1.blk) true),(pB (Jr.filled a0 a1 a1n).1.pend),(wB (Jr.filled a0 a1 a1n).1.worn)]):=by
 obtain⟨hp1,hp2⟩:=Bool.and_eq_true_iff.1 hp
 obtain⟨hp1,hp1'⟩:=of_decide_eq_true hp1
 have hp2:=of_decide_eq_true hp2
 have hcn:((decide (0 < a0))&&(decide (a0 < 4097)))=true:=by rw [ap,decide_eq_true_iff];omega
 have hok:=Jr.fill_ok hp1 hp1' a1
 obtain⟨r0,gs0,w0,_,_,_⟩:=hok 0 (by omega)
 have hf0:Dk.fine (Dk.new a0)=true:=w0.both.fine
 have ho0:(Dk.new a0).off=false:=w0.both.on
 obtain⟨F,hF⟩:∃ F,F=a1n+1:=⟨_,rfl⟩
 refine⟨F,?_⟩
 simp only [f8,Py,Pi,Px,Pj,Pw,Pk,Pv,Pl,Pu,Pm,Pt,Pn,Pr,Po,Pp,ad5,H6]
 rw [hcn,cond_true,show((0:Int) != 0)=false from rfl,cond_false,hf0,ho0,show(true && !false)=true from rfl,cond_true,cond_false]
 refine aH (fun i=>(a1,a1n,(a1n:Int),(i:Int),(Jr.filled a0 a1 i).2.2,(Jr.filled a0 a1 i).1,(Jr.filled a0 a1 i).2.1)) a1n rfl (fun i hi q=>?_) (fun q=>?_) F (by omega)
 ·obtain⟨r,gs,w,hl,hn,ht⟩:=hok i (by omega)
  have hlen:(Jr.filled a0 a1 i).2.2.length≤i:=by rw [ht,w.lens.1];exact hl
  have hlt:(i:Int) < (a1n:Int):=by omega
  have hfl:∀ (x:Dk.D×Jr.J×Int×Int),x=Jr.append Jr.DV (Jr.filled a0 a1 i).1 (Jr.filled a0 a1 i).2.1 (Jr.txt a1 i)→Jr.filled a0 a1 (i+1)=(x.1,x.2.1,cond (x.2.2.2==0) ((Jr.filled a0 a1 i).2.2++[Jr.txt a1 i]) (Jr.filled a0 a1 i).2.2):=fun x hx=>by rw [hx];rfl
  simp only [H5,Int.toNat_natCast]
  rw [decide_eq_true hlt,cond_true,Bool.and_true,aa (by omega),w.both.fine,w.both.okJ (by omega) (by omega),Bool.and_self,cond_true,ah (x:=(i:Int)+1) (by omega) (by omega)]
  rw [show Jr.text (((a1.getD i []).getD 3 []).getD 0 0) (((a1.getD i []).getD 4 []).getD 0 0)=Jr.txt a1 i from rfl]
  rw [hfl _ rfl]
  generalize Jr.append Jr.DV (Jr.filled a0 a1 i).1 (Jr.filled a0 a1 i).2.1 (Jr.txt a1 i)=x
  cases (x.2.2.2==0)
  ·rfl
  ·rw [cond_true,cond_true,aa (by omega)];rfl
 ·simp only [H5]
  rw [decide_eq_false (show ¬ (a1n:Int) < (a1n:Int) by omega),cond_false]
  rfl
theorem c8:Ck 8 r8:=ck eV8 Tryz.func8 (by
 intro X H r H' h hX hH
 unfold r8 at h;split at h <;> try contradiction
 ·obtain⟨hp,rfl,rfl⟩:=aJ h
  obtain⟨F,hF⟩:=s8 _ _ _ hp (hX _ hm0) (hX _ hm1)
  exact⟨_,abC (aef F) hF⟩)
def a6x:List aF:=[(20,[none],aaU)]
def V8i:Env:=ar aE ao a6x
noncomputable abbrev H7:=aI V8i (some [(4,.plain),(5,.view 9),(6,.plain)]) (Tryz.f8).results.toList
theorem a6y:EOk Tryz.prog V8i:=aj (by exact⟨a42,trivial⟩)
def a6z(F:Nat):Cuts:={ F:=F,at_:=fun _=>none,join:=fun n=>match n with | 1048=>some cU | 2046=>some O8 | _=>none,fin:=(some [(4,.plain),(5,.view 9),(6,.plain)]) }
abbrev H8(F n:Nat){σ:Type}(e:σ→St)(K:Ex→St→Rz)(N:σ→Rz):=Qe V8i (a6z F) (bp Tryz.f8 n) e K N
def XJ:jt→St:=Pb
def H9:jt→St:=CU
def XK:mJ→St:=fun (a,b)=>hS [(1,(z5 a b)),(7,.nilp),(8,.int .i64 1)] [] 61 0
def CW(F:Nat)(a:jt→Rz):jt→Rz:=fun (b,c,d)=>(a (b,c,d))
theorem aeg F Rj1:H8 F 2 XJ (kq V8i Rj1 cU H7) (CW F (Rj1∘H9)):=fun _=>by kernel_rfl
def CX(F:Nat)(b:mJ→Rz):jt→Rz:=fun (a,c,d)=>(cond (!((decide (0 < a))&&(decide (a < 4097)))) (b (c,d)) none)
theorem aeh F Rj2:H8 F 6 H9 (kq V8i Rj2 O8 H7) (CX F (Rj2∘XK)):=fun _=>by kernel_rfl
def Pz(F:Nat):mJ→Rz:=fun (a,b)=>(some ((.tup (.cons 0 .nilp (.cons 0 (.vs (.rS []) 0 1) (.cons 0 (.bool false) .nil)))),[]))
theorem aei F:H8 F 7 XK H7 (Pz F):=fun _=>by kernel_rfl
def PC(F:Nat):=CX F (Pz F)
theorem aej F:H8 F 3 H9 H7 (PC F):=sqC (CX F) (fun Rj2=>aeh F Rj2) (aei F)
def PD(F:Nat):=CW F (PC F)
theorem aek F:H8 F 1 XJ H7 (PD F):=sqC (CW F) (fun Rj1=>aeg F Rj1) (aej F)
def f8i(F:Nat):jt→Rz:=PD F
def r8i:aB:=fun X H=>match X,H with
 | [(.int .i64 a0),(.vs (.rT [.int .i64,.int .i64,.int .i64,.int .i64,.int .u8,.sl .i64] a1) a1n 6)],[]=>some ((decide (a0 < 1)),(.tup (.cons 0 .nilp (.cons 0 (.vs (.rS []) 0 1) (.cons 0 (.bool false) .nil)))),[])
 | _,_=>none
theorem s8i(a0:Int)(a1:List (List Li))(a1n:Nat)(hp:((decide (a0 < 1)))=true)(h0:okV (.int .i64 a0))(h1:okV (.vs (.rT [.int .i64,.int .i64,.int .i64,.int .i64,.int .u8,.sl .i64] a1) a1n 6)):∃ F,f8i F (a0,a1,a1n)=some ((.tup (.cons 0 .nilp (.cons 0 (.vs (.rS []) 0 1) (.cons 0 (.bool false) .nil)))),[]):=by
 have h0':a0 < 1:=of_decide_eq_true hp
 refine⟨0,?_⟩
 have e1:(!((decide (0 < a0))&&(decide (a0 < 4097))))=true:=by rw [decide_eq_false (show ¬ 0 < a0 by omega)];rfl
 simp only [f8i,PD,CW,PC,CX,Pz]
 rw [e1,cond_true]
theorem c8i:Ck 8 r8i:=ck a6y Tryz.func8 (by
 intro X H r H' h hX hH
 unfold r8i at h;split at h <;> try contradiction
 ·obtain⟨hp,rfl,rfl⟩:=aJ h
  obtain⟨F,hF⟩:=s8i _ _ _ hp (hX _ hm0) (hX _ hm1)
  exact⟨_,abC (aek F) hF⟩)
def a6A:List aF:=[(52,[none],r52),(53,[none,none],r53)]
def V17:Env:=ar aE eo a6A
noncomputable abbrev mR:=aI V17 none (Tryz.f17).results.toList
theorem a6B:EOk Tryz.prog V17:=aj (by exact⟨c52,c53,trivial⟩)
def a6C(F:Nat):Cuts:={ F:=F,at_:=fun n=>match n with | 2036=>some O9 | _=>none,join:=fun n=>match n with | 1044=>some cU | 2038=>some O9 | 12003=>some [] | _=>none }
abbrev mS(F n:Nat){σ:Type}(e:σ→St)(K:Ex→St→Rz)(N:σ→Rz):=Qe V17 (a6C F) (bp Tryz.f17 n) e K N
def XL:fL→St:=fun (a,b)=>hS [(0,(z12 a)),(1,(z12 b))] [] 57 0
def wC:fL→St:=fun (a,b)=>hS [(0,(z12 a)),(1,(z12 b))] [] 57 0
def wE:mQ→St:=fun (a,b,c,d)=>hS [(1,(z12 a)),(10,(z12 b)),iS 11 c,iS 12 d] [] 57 0
def XM:mQ→St:=wE
def jm:Unit→St:=fun _=>hS [] [] 57 0
def CY(F:Nat)(a:fL→Rz):fL→Rz:=fun (b,c)=>(a (b,c))
theorem ael F Rj1:mS F 2 XL (kq V17 Rj1 cU mR) (CY F (Rj1∘wC)):=fun _=>by kernel_rfl
def CZ(F:Nat)(b:mQ→Rz)(d:Unit→Rz):fL→Rz:=fun (a,c)=>(b (c,a,(↑a.length:Int),(0:Int)))
theorem aem F Rj2 Rj3:mS F 12 wC (kq V17 Rj2 O9 (kq V17 Rj3 [] mR)) (CZ F (Rj2∘wE) (Rj3∘jm)):=fun _=>by kernel_rfl
def C0(F:Nat)(e:mQ→Rz)(f:Unit→Rz):mQ→Rz:=fun (c,b,d,a)=>(cond (decide (a < d)) (cond ((decide (0≤a))&&(decide (a < (↑b.length:Int)))) (cond (!(Jr.unpack (b.getD (Int.toNat a) [])).ok) (e (c,b,d,(IntKind.i64.wrap (a+(1:Int))))) (cond (decide ((Jr.unpack (b.getD (Int.toNat a) [])).number > (↑c.length:Int))) (some ((.bool false),[])) (cond ((decide (0≤(IntKind.i64.wrap ((Jr.unpack (b.getD (Int.toNat a) [])).number-(1:Int)))))&&(decide ((IntKind.i64.wrap ((Jr.unpack (b.getD (Int.toNat a) [])).number-(1:Int))) < (↑c.length:Int)))) (cond (decide ((c.getD (Int.toNat (IntKind.i64.wrap ((Jr.unpack (b.getD (Int.toNat a) [])).number-(1:Int)))) []).length < 1073730000)) (cond ((Jr.pack (Jr.unpack (b.getD (Int.toNat a) [])).number (c.getD (Int.toNat (IntKind.i64.wrap ((Jr.unpack (b.getD (Int.toNat a) [])).number-(1:Int)))) [])).2 != (0:Int)) (some ((.bool false),[])) (cond (decide ((Jr.unpack (b.getD (Int.toNat a) [])).part≥(↑(Jr.pack (Jr.unpack (b.getD (Int.toNat a) [])).number (c.getD (Int.toNat (IntKind.i64.wrap ((Jr.unpack (b.getD (Int.toNat a) [])).number-(1:Int)))) [])).1.length:Int))) (some ((.bool false),[])) (cond ((decide (0≤(Jr.unpack (b.getD (Int.toNat a) [])).part))&&(decide ((Jr.unpack (b.getD (Int.toNat a) [])).part < (↑(Jr.pack (Jr.unpack (b.getD (Int.toNat a) [])).number (c.getD (Int.toNat (IntKind.i64.wrap ((Jr.unpack (b.getD (Int.toNat a) [])).number-(1:Int)))) [])).1.length:Int)))) (cond (!((((Jr.pack (Jr.unpack (b.getD (Int.toNat a) [])).number (c.getD (Int.toNat (IntKind.i64.wrap ((Jr.unpack (b.getD (Int.toNat a) [])).number-(1:Int)))) [])).1.getD (Int.toNat (Jr.unpack (b.getD (Int.toNat a) [])).part) []):Li)==((b.getD (Int.toNat a) []):Li))) (some ((.bool false),[])) (e (c,b,d,(IntKind.i64.wrap (a+(1:Int)))))) none))) none) none))) none) (f ()))
theorem aen F Rl1 Rj3:mS F 52 XM (kq V17 Rl1 O9 (ae 0 (kq V17 Rj3 [] mR))) (C0 F (Rl1∘XM) (Rj3∘jm)):=fun _=>by kernel_rfl
def yT:mQ→(List Li)×(List Li)×Int×Int:=fun (a,b,c,d)=>(a,b,c,d)
def PE(F:Nat)(a:Unit→Rz):mQ→Rz:=fun v=>ay (fun k=>C0 F k a) F (yT v)
theorem aeo F Rj3:mS F 26 wE (ae 0 (kq V17 Rj3 [] mR)) (PE F (Rj3∘jm)):=lpC yT (fun k=>C0 F k (Rj3∘jm)) (fun Rl1=>aen F Rl1 Rj3)
def PG(F:Nat)(a):=PE F a
theorem aep F Rj3:mS F 13 wE (kq V17 Rj3 [] mR) (PG F (Rj3∘jm)):=biC (aeo F Rj3)
def C2(F:Nat)(a):=CZ F (PG F a) a
theorem aer F Rj3:mS F 6 wC (kq V17 Rj3 [] mR) (C2 F (Rj3∘jm)):=sqC (fun k=>CZ F k (Rj3∘jm)) (fun Rj2=>aem F Rj2 Rj3) (aep F Rj3)
def PH(F:Nat):Unit→Rz:=fun _=>(some ((.bool true),[]))
theorem aes F:mS F 7 jm mR (PH F):=fun _=>by kernel_rfl
def PI(F:Nat):=C2 F (PH F)
theorem aet F:mS F 3 wC mR (PI F):=sqC (C2 F) (fun Rj3=>aer F Rj3) (aes F)
def PK(F:Nat):=CY F (PI F)
theorem aeu F:mS F 1 XL mR (PK F):=sqC (CY F) (fun Rj1=>ael F Rj1) (aet F)
def f17(F:Nat):fL→Rz:=PK F
def r17:aB:=fun X H=>match X,H with
 | [(.vs (.rS a0) 0 1),(.vs (.rS a1) 0 1)],[]=>some ((decide (a1.length < 100000))&&(Jr.shortT a1),(.bool (Jr.genuine a0 a1)),[])
 | _,_=>none
theorem s17(a0 a1:List Li)(hp:((decide (a1.length < 100000))&&(Jr.shortT a1))=true)(h0:okV (.vs (.rS a0) 0 1))(h1:okV (.vs (.rS a1) 0 1)):∃ F,f17 F (a0,a1)=some ((.bool (Jr.genuine a0 a1)),[]):=by
 obtain⟨hp1,hp2⟩:=Bool.and_eq_true_iff.1 hp
 have hp1:=of_decide_eq_true hp1
 have hl:a0.length < 4611686018427387904:=h0.2
 have hsh:∀ i,i < a1.length→(a1.getD i []).length < 10000:=fun i hi=>by
  rw [Jr.shortT,List.all_eq_true] at hp2
  have:=hp2 _ (List.getElem_mem hi)
  rw [List.getD_eq_getElem?_getD,List.getElem?_eq_getElem hi]
  exact of_decide_eq_true this
 obtain⟨F,hF⟩:∃ F,F=a0.length+1:=⟨_,rfl⟩
 refine⟨F,?_⟩
 simp only [f17,PK,CY,PI,C2,CZ,PG,PE,yT]
 refine cA (fun m s=>∃ k:Nat,s=(a1,a0,(a0.length:Int),(k:Int))∧m=a0.length-k∧k≤a0.length∧(a0.take k).all (Jr.genuine1 a1)=true) (fun m s K hi hk=>?_) F a0.length _ (by omega) ⟨0,rfl,by omega,by omega,rfl⟩
 obtain⟨k,rfl,hm,hle,hb⟩:=hi
 simp only [C0,Int.toNat_natCast]
 by_cases hlt:k < a0.length
 ·have hlt':(k:Int) < (a0.length:Int):=by omega
  have hs:=Jr.genuine_step hlt hb
  have hby:∀ x∈a0.getD k [],0≤x:=fun x hx=>by
   rw [List.getD_eq_getElem?_getD,List.getElem?_eq_getElem hlt] at hx
   exact((h0.1 _ (List.getElem_mem hlt)).2 x hx).1
  rw [decide_eq_true hlt',cond_true,Bool.and_true,aa (by omega),ah (x:=(k:Int)+1) (by omega) (by omega)]
  have hgo:Jr.genuine1 a1 (a0.getD k [])=true→K (a1,a0,(a0.length:Int),(k:Int)+1)=some ((.bool (Jr.genuine a0 a1)),[]):=fun h=>hk (m-1) _ (by omega) ⟨k+1,rfl,by omega,by omega,by rw [hs,h]⟩
  have hno:Jr.genuine1 a1 (a0.getD k [])=false→some ((.bool false:AV),([]:List Blk))=some ((.bool (Jr.genuine a0 a1)),[]):=fun h=>by rw [Jr.not_genuine hlt h]
  have hlo:=Jr.unpack_lo (a0.getD k []) hby
  have hdef:Jr.genuine1 a1 (a0.getD k [])=(!(Jr.unpack (a0.getD k [])).ok || (decide ((Jr.unpack (a0.getD k [])).number≤(a1.length:Int))&&((Jr.pack (Jr.unpack (a0.getD k [])).number (a1.getD ((Jr.unpack (a0.getD k [])).number-1).toNat [])).2==0 &&
   (decide ((Jr.unpack (a0.getD k [])).part < ((Jr.pack (Jr.unpack (a0.getD k [])).number (a1.getD ((Jr.unpack (a0.getD k [])).number-1).toNat [])).1.length:Int))&&((Jr.pack (Jr.unpack (a0.getD k [])).number (a1.getD ((Jr.unpack (a0.getD k [])).number-1).toNat [])).1.getD (Jr.unpack (a0.getD k [])).part.toNat []==a0.getD k []))))):=rfl
  cases hok:(Jr.unpack (a0.getD k [])).ok with
  | false=>
   rw [hok] at hdef
   exact hgo (by rw [hdef];rfl)
  | true=>
   rw [hok] at hdef
   obtain⟨l1,l2,l3⟩:=hlo hok
   clear hlo
   obtain⟨n,en⟩:∃ n,n=(Jr.unpack (a0.getD k [])).number:=⟨_,rfl⟩
   obtain⟨q,eq⟩:∃ q,q=(Jr.unpack (a0.getD k [])).part:=⟨_,rfl⟩
   rw [← en,← eq] at hdef
   rw [← en] at l1 l2
   rw [← eq] at l3
   simp only [← en,← eq]
   simp only [Bool.not_true,cond_false]
   by_cases hn:n≤(a1.length:Int)
   ·rw [decide_eq_false (show ¬ n > (a1.length:Int) by omega),cond_false,ah (x:=n-1) (by omega) (by omega),ap,aa (by omega),aa (by have:=hsh (n-1).toNat (by omega);omega)]
    rw [decide_eq_true hn] at hdef
    obtain⟨P,eP⟩:∃ P,P=Jr.pack n (a1.getD (n-1).toNat []):=⟨_,rfl⟩
    simp only [← eP] at hdef ⊢
    by_cases he:P.2=0
    ·rw [he] at hdef
     rw [he,show((0:Int) != 0)=false from rfl,cond_false]
     by_cases hq:q < (P.1.length:Int)
     ·rw [decide_eq_false (show ¬ q≥(P.1.length:Int) by omega),cond_false,ap,aa ⟨l3,hq⟩]
      rw [decide_eq_true hq] at hdef
      cases hx:(P.1.getD q.toNat []==a0.getD k []) with
      | true=>rw [hx] at hdef;exact hgo (by rw [hdef];rfl)
      | false=>rw [hx] at hdef;exact hno (by rw [hdef];rfl)
     ·rw [decide_eq_true (show q≥(P.1.length:Int) by omega),cond_true]
      rw [decide_eq_false hq] at hdef
      exact hno (by rw [hdef];rfl)
    ·rw [show(P.2 != 0)=true by simpa using he,cond_true]
     rw [show(P.2==0)=false by simpa using he] at hdef
     exact hno (by rw [hdef];rfl)
   ·rw [decide_eq_true (show n > (a1.length:Int) by omega),cond_true]
    rw [decide_eq_false hn] at hdef
    exact hno (by rw [hdef];rfl)
 ·rw [decide_eq_false (show ¬ (k:Int) < (a0.length:Int) by omega),cond_false]
  rw [show k=a0.length by omega,List.take_length] at hb
  simp only [PH,Jr.genuine,hb]
theorem c17:CallOk Tryz.prog eo 17 r17:=dF mixed tys a6B Tryz.func17 (by kernel_rfl) (c:=sub (cZ Tryz.f17) []) (by kernel_rfl) (by
 intro X H r H' h hX hH
 unfold r17 at h;split at h <;> try contradiction
 ·obtain⟨hp,rfl,rfl⟩:=aJ h
  obtain⟨F,hF⟩:=s17 _ _ hp (hX _ hm0) (hX _ hm1)
  exact⟨_,abC (aeu F) hF⟩)
def a6D:List aF:=[(7,[],r7),(8,[none,none],r8),(9,[none],r9),(10,[some 9,some 9],r10),(11,[none],r11),(12,[none],r12),(13,[none,none],r13),(14,[none,none],r14),(15,[none],r15),(16,[none,some 3],r16),(17,[some 9,some 9],r17),(18,[none],r18)]
def V3v:Env:=ar aE eo a6D
noncomputable abbrev a6E:=aI V3v none (Tryz.f3).results.toList
theorem a6F:EOk Tryz.prog V3v:=aj (by exact⟨c7.more dN,c8.more dN,c9.more dN,c10.more dN,c11.more dN,c12.more dN,c13.more dN,c14.more dN,c15.more dN,c16.more dN,c17,c18.more dN,trivial⟩)
def a6G(F:Nat):Cuts:={ F:=F,at_:=fun _=>none,join:=fun _=>none }
abbrev a6H(F n:Nat){σ:Type}(e:σ→St)(K:Ex→St→Rz)(N:σ→Rz):=Qe V3v (a6G F) (bp Tryz.f3 n) e K N
def XN:qk→St:=fun (a,b,c,d,e,f,g,h,i,j,k)=>hS [iS 0 a,(1,(z5 b c)),(2,(z10 d e f g h i)),(3,.int .u8 j),lS 4 k] [] 130 0
def PL(F:Nat):qk→Rz:=fun (a,c,b,h,i,j,d,e,k,f,g)=>(cond (decide (a > (200:Int))) (some ((.bool true),[])) (cond (decide ((↑b:Int) > (12:Int))) (some ((.bool true),[])) (cond (decide ((↑g.length:Int) > (200:Int))) (some ((.bool true),[])) (cond ((decide (0 < a∧a < 4000))&&(decide (b < 4000))) (cond ((Dk.fine (Jr.filled a c b).1)&&(!(Jr.filled a c b).1.off)) (cond (0 != (0:Int)) (some ((.bool false),[])) (cond (decide ((Jr.openS (Jr.secsD (Jr.filled a c b).1)).texts.length < 1073741000)) (cond (decide ((Jr.openS (Jr.secsD (Jr.filled a c b).1)).texts.length < 1073741824)) (cond (!((Jr.openS (Jr.secsD (Jr.filled a c b).1)).texts==(Jr.filled a c b).2.2)) (some ((.bool false),[])) (cond (decide ((Jr.openS (Jr.secsD (Jr.filled a c b).1)).nums.length < 1073741000∧(Jr.openS (Jr.secsD (Jr.filled a c b).1)).next < 100000)) (cond (decide ((↑(Jr.damaged (Jr.openS (Jr.secsD (Jr.filled a c b).1))).length:Int) > (0:Int))) (some ((.bool false),[])) (cond ((Dk.fine (Dk.trip (Jr.filled a c b).1 (IntKind.i64.wrap f)))&&(Jr.okJ (Dk.trip (Jr.filled a c b).1 (IntKind.i64.wrap f)) (Jr.openS (Jr.secsD (Jr.filled a c b).1)))) (cond (Dk.fine (Jr.append Jr.DV (Dk.trip (Jr.filled a c b).1 (IntKind.i64.wrap f)) (Jr.openS (Jr.secsD (Jr.filled a c b).1)) (Jr.text d e)).1) (cond (decide ((Dk.mount (Jr.append Jr.DV (Dk.trip (Jr.filled a c b).1 (IntKind.i64.wrap f)) (Jr.openS (Jr.secsD (Jr.filled a c b).1)) (Jr.text d e)).1 g).blk.length=(Dk.mount (Jr.append Jr.DV (Dk.trip (Jr.filled a c b).1 (IntKind.i64.wrap f)) (Jr.openS (Jr.secsD (Jr.filled a c b).1)) (Jr.text d e)).1 g).n*64∧(Dk.mount (Jr.append Jr.DV (Dk.trip (Jr.filled a c b).1 (IntKind.i64.wrap f)) (Jr.openS (Jr.secsD (Jr.filled a c b).1)) (Jr.text d e)).1 g).n < 8000)) (cond (decide ((0+(Jr.filled a c b).2.2.length) < 1073741824)) (cond (decide ((([]++(Jr.filled a c b).2.2).length+1) < 1073741824)) (cond ((decide ((([]++(Jr.filled a c b).2.2)++[(Jr.text d e)]).length < 100000))&&(Jr.shortT (([]++(Jr.filled a c b).2.2)++[(Jr.text d e)]))) (cond (!(Jr.genuine (Dk.image (Dk.mount (Jr.append Jr.DV (Dk.trip (Jr.filled a c b).1 (IntKind.i64.wrap f)) (Jr.openS (Jr.secsD (Jr.filled a c b).1)) (Jr.text d e)).1 g)) (([]++(Jr.filled a c b).2.2)++[(Jr.text d e)]))) (some ((.bool true),[])) (cond ((Dk.fine (Dk.mount (Jr.append Jr.DV (Dk.trip (Jr.filled a c b).1 (IntKind.i64.wrap f)) (Jr.openS (Jr.secsD (Jr.filled a c b).1)) (Jr.text d e)).1 g))&&(!(Dk.mount (Jr.append Jr.DV (Dk.trip (Jr.filled a c b).1 (IntKind.i64.wrap f)) (Jr.openS (Jr.secsD (Jr.filled a c b).1)) (Jr.text d e)).1 g).off)) (cond (0 != (0:Int)) (some ((.bool false),[])) (cond (decide ((Jr.openS (Jr.secsD (Dk.mount (Jr.append Jr.DV (Dk.trip (Jr.filled a c b).1 (IntKind.i64.wrap f)) (Jr.openS (Jr.secsD (Jr.filled a c b).1)) (Jr.text d e)).1 g))).texts.length < 1073741000)) (cond (decide ((0+(Jr.filled a c b).2.2.length) < 1073741824)) (cond (decide ((([]++(Jr.filled a c b).2.2).length+1) < 1073741824)) (cond (decide ((Jr.openS (Jr.secsD (Dk.mount (Jr.append Jr.DV (Dk.trip (Jr.filled a c b).1 (IntKind.i64.wrap f)) (Jr.openS (Jr.secsD (Jr.filled a c b).1)) (Jr.text d e)).1 g))).texts.length < 1073741824)) (cond ((Jr.openS (Jr.secsD (Dk.mount (Jr.append Jr.DV (Dk.trip (Jr.filled a c b).1 (IntKind.i64.wrap f)) (Jr.openS (Jr.secsD (Jr.filled a c b).1)) (Jr.text d e)).1 g))).texts==(([]++(Jr.filled a c b).2.2)++[(Jr.text d e)])) (some ((.bool true),[])) (cond ((Jr.append Jr.DV (Dk.trip (Jr.filled a c b).1 (IntKind.i64.wrap f)) (Jr.openS (Jr.secsD (Jr.filled a c b).1)) (Jr.text d e)).2.2.2 != (0:Int)) (cond (decide ((Jr.openS (Jr.secsD (Dk.mount (Jr.append Jr.DV (Dk.trip (Jr.filled a c b).1 (IntKind.i64.wrap f)) (Jr.openS (Jr.secsD (Jr.filled a c b).1)) (Jr.text d e)).1 g))).texts.length < 1073741824)) (some ((.bool ((Jr.openS (Jr.secsD (Dk.mount (Jr.append Jr.DV (Dk.trip (Jr.filled a c b).1 (IntKind.i64.wrap f)) (Jr.openS (Jr.secsD (Jr.filled a c b).1)) (Jr.text d e)).1 g))).texts==(Jr.filled a c b).2.2)),[])) none) (some ((.bool false),[])))) none) none) none) none)) none)) none) none) none) none) none) none)) none)) none) none)) none) none))))
theorem aev F:a6H F 1 XN a6E (PL F):=fun _=>by kernel_rfl
def f3v(F:Nat):qk→Rz:=PL F
def r3v:aB:=fun X H=>match X,H with
 | [(.int .i64 a0),(.vs (.rT [.int .i64,.int .i64,.int .i64,.int .i64,.int .u8,.sl .i64] a1) a1n 6),(.agg 6 (.segs (.cons 1 (.one (.int .i64 a2_0)) (.cons 1 (.one (.int .i64 a2_1)) (.cons 1 (.one (.int .i64 a2_2)) (.cons 1 (.one (.int .i64 a2_3)) (.cons 1 (.one (.int .u8 a2_4)) (.cons 1 (.one (.vs (.rI .i64 a2_5) 0 1)) .nil)))))))),.int .u8 a3,(.vs (.rI .i64 a4) 0 1)],[]=>some ((decide (0 < a0)),.bool true,[])
 | _,_=>none
theorem s3v(a0:Int)(a1:List (List Li))(a1n:Nat)(a2_0 a2_1:Int)(a2_2 a2_3 a2_4:Int)(a2_5:Li)(a3:Int)(a4:Li)(hp:((decide (0 < a0)))=true)(h0:okV (.int .i64 a0))(h1:okV (.vs (.rT [.int .i64,.int .i64,.int .i64,.int .i64,.int .u8,.sl .i64] a1) a1n 6))(h2:okV (.agg 6 (.segs (.cons 1 (.one (.int .i64 a2_0)) (.cons 1 (.one (.int .i64 a2_1)) (.cons 1 (.one (.int .i64 a2_2)) (.cons 1 (.one (.int .i64 a2_3)) (.cons 1 (.one (.int .u8 a2_4)) (.cons 1 (.one (.vs (.rI .i64 a2_5) 0 1)) .nil)))))))))(h3:okV (.int .u8 a3))(h4:okV (.vs (.rI .i64 a4) 0 1)):∃ F,f3v F (a0,a1,a1n,a2_0,a2_1,a2_2,a2_3,a2_4,a2_5,a3,a4)=some ((.bool true),[]):=by
 have hpos:0 < a0:=of_decide_eq_true hp
 have h3':0≤a3∧a3≤255:=jX h3
 refine⟨0,?_⟩
 simp only [f3v,PL]
 by_cases g1:a0 > (200:Int)
 ·rw [aa g1]
 by_cases g2:(a1n:Int) > (12:Int)
 ·rw [ad g1,aa g2]
 by_cases g3:(a4.length:Int) > (200:Int)
 ·rw [ad g1,ad g2,aa g3]
 rw [ad g1,ad g2,ad g3]
 obtain⟨r,gs,w,hl,hn,ht⟩:=Jr.fill_ok hpos (show a0 < 4000 by omega) a1 a1n (by omega)
 obtain⟨D,eD⟩:∃ D,D=(Jr.filled a0 a1 a1n).1:=⟨_,rfl⟩
 obtain⟨T,eT⟩:∃ T,T=(Jr.filled a0 a1 a1n).2.2:=⟨_,rfl⟩
 rw [← eD] at w hn
 have w':=w.again (by omega)
 have hJT:(Jr.openS (Jr.secsD D)).texts=T:=by rw [eT,ht,w'.texts.2,w.texts.2]
 obtain⟨J,eJ⟩:∃ J,J=Jr.openS (Jr.secsD D):=⟨_,rfl⟩
 rw [← eJ] at w' hJT
 have hfD:=w'.both.fine
 have hoD:=w'.both.on
 obtain⟨q1,q2,q3⟩:=w'.lens
 have hnx:=w'.both.inv.next
 have hdm:=w'.damaged
 obtain⟨r1,r2,s1,s2,s3,s4,s5⟩:=Jr.survive w' (by omega) h3'.1 h3'.2 (Jr.text a2_3 a2_4) a4
 have hokJ:Jr.okJ (Dk.trip D a3) J=true:=by
  have h1:=Jr.Rel.pends s1.1
  have h2:(Dk.trip D a3).n=D.n:=rfl
  have h3:=w'.both.inv.fin
  have h4:=w'.both.inv.room
  have h5:=w'.both.n
  simp only [Jr.okJ,decide_eq_true_eq]
  omega
 have hJM:=Jr.openS_bounds (Jr.secsD (Dk.mount (Jr.append Jr.DV (Dk.trip D a3) J (Jr.text a2_3 a2_4)).1 a4))
 have hMn:(Dk.mount (Jr.append Jr.DV (Dk.trip D a3) J (Jr.text a2_3 a2_4)).1 a4).n=D.n:=by rw [← s3.n,Dk.rmount_len,s4]
 have hsl:(Jr.secsD (Dk.mount (Jr.append Jr.DV (Dk.trip D a3) J (Jr.text a2_3 a2_4)).1 a4)).length=D.n:=by simp only [Jr.secsD,List.length_map,List.length_range,hMn]
 have hst:Jr.shortT (T++[Jr.text a2_3 a2_4])=true:=by
  rw [Jr.shortT,List.all_eq_true]
  intro t ht'
  rw [decide_eq_true_iff]
  rcases List.mem_append.1 ht' with ht' | ht'
  ·have:=q3 t (by rw [hJT];exact ht');omega
  ·rw [List.mem_singleton] at ht';rw [ht'];have:=Jr.text_len a2_3 a2_4;omega
 rw [hJT] at q1 s5
 simp only [← eD,← eT,← eJ]
 rw [ah (x:=a3) (by omega) (by omega)]
 simp only [List.nil_append,hdm,hJT]
 rw [hfD,hoD,s1.1.fine,s2.1.fine,s3.fine,hokJ,hst,show(Dk.mount (Jr.append Jr.DV (Dk.trip D a3) J (Jr.text a2_3 a2_4)).1 a4).off=false from rfl]
 generalize Jr.append Jr.DV (Dk.trip D a3) J (Jr.text a2_3 a2_4)=A at *
 generalize hM:Dk.mount A.1 a4=M at *
 generalize hX:Jr.text a2_3 a2_4=X at *
 have hlen:=s3.len
 have hTX:(T++[X]).length=T.length+1:=by simp
 have hJl:(Jr.openS (Jr.secsD M)).texts.length < 1073741000:=by have:=hJM.2.1;omega
 rw [ap,aa ⟨⟨by omega,by omega⟩,by omega⟩,show(true && !false)=true from rfl,cond_true,show((0:Int) != 0)=false from rfl,cond_false,aa (show T.length < 1073741000 by omega),aa (show T.length < 1073741824 by omega),beq_self_eq_true,Bool.not_true,cond_false,
  aa (show J.nums.length < 1073741000∧J.next < 100000 by omega),ad (show ¬ ((([]:Li).length:Nat):Int) > 0 by decide),show(true&&true)=true from rfl,cond_true,cond_true,aa ⟨hlen,by omega⟩,aa (show 0+T.length < 1073741824 by omega),aa (show T.length+1 < 1073741824 by omega),Bool.and_true,aa (show(T++[X]).length < 100000 by omega)]
 cases hgen:Jr.genuine (Dk.image M) (T++[X]) with
 | false=>rfl
 | true=>
  rw [Bool.not_true,cond_false,cond_true,cond_false,aa hJl,aa (show 0+T.length < 1073741824 by omega),aa (show T.length+1 < 1073741824 by omega),aa (show(Jr.openS (Jr.secsD M)).texts.length < 1073741824 by omega)]
  rcases s5 hgen with e | ⟨e1,e2⟩
  ·rw [e,beq_self_eq_true];rfl
  ·rw [show(A.2.2.2 != 0)=true by simpa using e1,cond_true,aa (show(Jr.openS (Jr.secsD M)).texts.length < 1073741824 by omega),e2,beq_self_eq_true]
   cases (T==T++[X]) <;> rfl
theorem c3v:CallOk Tryz.prog eo 3 r3v:=dF mixed tys a6F Tryz.func3 (by kernel_rfl) (c:=sub (cZ Tryz.f3) []) (by kernel_rfl) (by
 intro X H r H' h hX hH
 unfold r3v at h;split at h <;> try contradiction
 ·obtain⟨hp,rfl,rfl⟩:=aJ h
  obtain⟨F,hF⟩:=s3v _ _ _ _ _ _ _ _ _ _ _ hp (hX _ hm0) (hX _ hm1) (hX _ hm2) (hX _ hm3) (hX _ hm4)
  exact⟨_,abC (aev F) hF⟩)
def a6I:List aF:=[(7,[],r7),(8,[none,none],r8i)]
def V3i:Env:=ar aE eo a6I
noncomputable abbrev a6J:=aI V3i none (Tryz.f3).results.toList
theorem a6K:EOk Tryz.prog V3i:=aj (by exact⟨c7.more dN,c8i.more dN,trivial⟩)
def a6L(F:Nat):Cuts:={ F:=F,at_:=fun _=>none,join:=fun _=>none }
abbrev a6M(F n:Nat){σ:Type}(e:σ→St)(K:Ex→St→Rz)(N:σ→Rz):=Qe V3i (a6L F) (bp Tryz.f3 n) e K N
def a1H:qk→St:=XN
def PM(F:Nat):qk→Rz:=fun (a,d,b,e,f,g,h,i,j,k,c)=>(cond (decide (a > (200:Int))) (some ((.bool true),[])) (cond (decide ((↑b:Int) > (12:Int))) (some ((.bool true),[])) (cond (decide ((↑c.length:Int) > (200:Int))) (some ((.bool true),[])) (cond (decide (a < 1)) (some ((.bool (decide (a < (1:Int)))),[])) none))))
theorem aew F:a6M F 1 a1H a6J (PM F):=fun _=>by kernel_rfl
def f3i(F:Nat):qk→Rz:=PM F
def r3i:aB:=fun X H=>match X,H with
 | [(.int .i64 a0),(.vs (.rT [.int .i64,.int .i64,.int .i64,.int .i64,.int .u8,.sl .i64] a1) a1n 6),(.agg 6 (.segs (.cons 1 (.one (.int .i64 a2_0)) (.cons 1 (.one (.int .i64 a2_1)) (.cons 1 (.one (.int .i64 a2_2)) (.cons 1 (.one (.int .i64 a2_3)) (.cons 1 (.one (.int .u8 a2_4)) (.cons 1 (.one (.vs (.rI .i64 a2_5) 0 1)) .nil)))))))),.int .u8 a3,(.vs (.rI .i64 a4) 0 1)],[]=>some ((decide (a0 < 1)),.bool true,[])
 | _,_=>none
theorem s3i(a0:Int)(a1:List (List Li))(a1n:Nat)(a2_0 a2_1:Int)(a2_2 a2_3 a2_4:Int)(a2_5:Li)(a3:Int)(a4:Li)(hp:((decide (a0 < 1)))=true)(h0:okV (.int .i64 a0))(h1:okV (.vs (.rT [.int .i64,.int .i64,.int .i64,.int .i64,.int .u8,.sl .i64] a1) a1n 6))(h2:okV (.agg 6 (.segs (.cons 1 (.one (.int .i64 a2_0)) (.cons 1 (.one (.int .i64 a2_1)) (.cons 1 (.one (.int .i64 a2_2)) (.cons 1 (.one (.int .i64 a2_3)) (.cons 1 (.one (.int .u8 a2_4)) (.cons 1 (.one (.vs (.rI .i64 a2_5) 0 1)) .nil)))))))))(h3:okV (.int .u8 a3))(h4:okV (.vs (.rI .i64 a4) 0 1)):∃ F,f3i F (a0,a1,a1n,a2_0,a2_1,a2_2,a2_3,a2_4,a2_5,a3,a4)=some ((.bool true),[]):=by
 have h0':a0 < 1:=of_decide_eq_true hp
 refine⟨0,?_⟩
 simp only [f3i,PM]
 rw [decide_eq_true h0',cond_true]
 cases decide (a0 > (200:Int)) <;> cases decide ((a1n:Int) > (12:Int)) <;> cases decide ((a4.length:Int) > (200:Int)) <;> rfl
theorem c3i:CallOk Tryz.prog eo 3 r3i:=dF mixed tys a6K Tryz.func3 (by kernel_rfl) (c:=sub (cZ Tryz.f3) []) (by kernel_rfl) (by
 intro X H r H' h hX hH
 unfold r3i at h;split at h <;> try contradiction
 ·obtain⟨hp,rfl,rfl⟩:=aJ h
  obtain⟨F,hF⟩:=s3i _ _ _ _ _ _ _ _ _ _ _ hp (hX _ hm0) (hX _ hm1) (hX _ hm2) (hX _ hm3) (hX _ hm4)
  exact⟨_,abC (aew F) hF⟩)
def r3:aB:=fun X H=>match X,H with
 | [(.int .i64 a0),(.vs (.rT [.int .i64,.int .i64,.int .i64,.int .i64,.int .u8,.sl .i64] a1) a1n 6),(.agg 6 (.segs (.cons 1 (.one (.int .i64 a2_0)) (.cons 1 (.one (.int .i64 a2_1)) (.cons 1 (.one (.int .i64 a2_2)) (.cons 1 (.one (.int .i64 a2_3)) (.cons 1 (.one (.int .u8 a2_4)) (.cons 1 (.one (.vs (.rI .i64 a2_5) 0 1)) .nil)))))))),.int .u8 a3,(.vs (.rI .i64 a4) 0 1)],[]=>some (true,.bool true,[])
 | _,_=>none
theorem c3:CallOk Tryz.prog eo 3 r3:=c3v.or c3i fun A H r H' h=>by
 unfold r3 at h;split at h <;> try contradiction
 rename_i a0 a1 a1n a2_0 a2_1 a2_2 a2_3 a2_4 a2_5 a3 a4
 simp only [Option.some.injEq,Prod.mk.injEq,true_and] at h
 obtain⟨rfl,rfl⟩:=h
 by_cases h0:0 < a0
 ·exact .inl (by simp only [r3v,decide_eq_true h0])
 ·exact .inr (by simp only [r3i,decide_eq_true (show a0 < 1 by omega)])
end Go.Am
