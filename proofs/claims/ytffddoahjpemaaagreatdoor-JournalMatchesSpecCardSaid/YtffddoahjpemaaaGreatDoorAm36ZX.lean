/- Part of a proof. -/
import Derived.Test.YtffddoahjpemaaaGreatDoorAm36ZF
import Derived.Test.YtffddoahjpemaaaGreatDoorAmJrn7
import Derived.Test.YtffddoahjpemaaaGreatDoorAm36ZH
import Derived.Test.YtffddoahjpemaaaGreatDoorAmJrn11
import Derived.Test.YtffddoahjpemaaaGreatDoorAm36ZV
set_option linter.unusedSimpArgs false
set_option linter.unusedVariables false
section
namespace Go.Am
open Go Go.Proofs
abbrev asw:List (Nat×Md):=[(0,.plain),(1,.plain),(8,.plain),(9,.plain),(10,.plain)]
abbrev asx:List (Nat×Md):=[(0,.plain),(3,.plain),(15,.plain),(16,.plain)]
abbrev Kf:List (Nat×Md):=[(3,.plain)]
abbrev asy:List (Nat×Md):=[(0,.plain),(1,.plain),(4,.plain),(5,.plain)]
abbrev aY2:List (Nat×Md):=[(0,.plain),(1,.plain),(4,.plain)]
abbrev a6N:List (Nat×Md):=[(0,.plain),(3,.own 9),(4,.plain)]
abbrev aGC:=Nat×Li×(Lp)×(Lp)×Bool×Int×Li
abbrev afY:=Li×Li×Int×Int×(Dk.D)
abbrev aGD:=Nat×Bool×Int×Li×(Lp)×(Lp)
abbrev aGE:=Nat×Bool×Int×Li×(Lp)×(Lp)×(List Li)
abbrev asz:=Int×Int×Nat×Bool×Int×Li×(Lp)×(Lp)×(List Li)
abbrev aGF:=Int×Int×Nat×Bool×Int×Li×(Lp)×(Lp)×(List Li)×Nat
abbrev amX:=Nat×Bool×Int×Li×(Lp)×(Lp)×(List Li)×Nat
abbrev aGG:=Nat×(List (List Li))×Bool×Int×Li
abbrev aGH:=Li×Int×Nat×Bool×Int×(List (List Li))
abbrev afZ:=Li×Int×Int×Nat×Bool×Int×(List (List Li))
abbrev aGI:=Int×Nat×Bool×Int×(List (List Li))×(List Li)
abbrev amY:=Nat×Bool×Int×(List (List Li))×(List Li)
def bfe:List hI:=[]
def V13:Env:=dL fP dM bfe
noncomputable abbrev bff:=ij V13 none (Tryz.f13).results.toList
theorem bfg:EOk Tryz.prog V13:=bL (by exact trivial)
def bfh(F:Nat):Cuts:={ F:=F,at_:=fun _=>none,join:=fun _=>none }
abbrev bfi(F n:Nat){σ:Type}(e:σ→St)(K:Ex→St→Rz)(N:σ→Rz):=Qe V13 (bfh F) (bp Tryz.f13 n) e K N
def a9D:VP→St:=fun (a,b,c,d,e,f,g)=>hS [pS 0 0 5,iS 1 g] [dB 1 a 2 3 e f,bB b,pB c,wB d] 8 4
def a6O(F:Nat):VP→Rz:=fun (a,b,c,d,e,g,f)=>(some ((.tup .nil),[(dB 1 a 2 3 e f),(bB b),(pB c),(wB d)]))
theorem aXf F:bfi F 1 a9D bff (a6O F):=fun _=>by kernel_rfl
def f13(F:Nat):VP→Rz:=a6O F
def r13:eP:=fun X H=>match X,H with
 | [(.ptr 0 0 5 0 0 0 5),.int .i64 a1],[(.cells 5 (.segs (.cons 1 (.one (.own 1 a0n 64)) (.cons 1 (.one (.mp 2)) (.cons 1 (.one (.mp 3)) (.cons 1 (.one (.bool a0o)) (.cons 1 (.one (.int .i64 a0l)) .nil)))))) true),(.cells z1 (.rI .u8 a0b) true),(.cells 0 (.rM .i64 0 (.arr .u8 64) a0p) true),(.cells 0 (.rM .i64 0 .bool a0w) true)]=>some (true,.tup .nil,[(dE 1 (Dk.trip (Dk.D.mk a0n a0b a0p a0w a0o a0l) a1) 2 3),(.cells (Dk.trip (Dk.D.mk a0n a0b a0p a0w a0o a0l) a1).blk.length (.rI .u8 (Dk.trip (Dk.D.mk a0n a0b a0p a0w a0o a0l) a1).blk) true),(pB (Dk.trip (Dk.D.mk a0n a0b a0p a0w a0o a0l) a1).pend),(wB (Dk.trip (Dk.D.mk a0n a0b a0p a0w a0o a0l) a1).worn)])
 | _,_=>none
theorem s13(a0n:Nat)(a0b:Li)(a0p a0w:Lp)(a0o:Bool)(a0l a1:Int)(h1:okV (.int .i64 a1))(k0:okB (dB 1 a0n 2 3 a0o a0l))(k1:okB (bB a0b))(k2:okB (pB a0p))(k3:okB (wB a0w)):∃ F,f13 F (a0n,a0b,a0p,a0w,a0o,a0l,a1)=some ((.tup .nil),[(dE 1 (Dk.trip (Dk.D.mk a0n a0b a0p a0w a0o a0l) a1) 2 3),(.cells (Dk.trip (Dk.D.mk a0n a0b a0p a0w a0o a0l) a1).blk.length (.rI .u8 (Dk.trip (Dk.D.mk a0n a0b a0p a0w a0o a0l) a1).blk) true),(pB (Dk.trip (Dk.D.mk a0n a0b a0p a0w a0o a0l) a1).pend),(wB (Dk.trip (Dk.D.mk a0n a0b a0p a0w a0o a0l) a1).worn)]):=by exact⟨0,rfl⟩
theorem c13:Ck 13 r13:=ck bfg Tryz.func13 (by
 intro X H r H' h hX hH
 unfold r13 at h;split at h <;> try contradiction
 ·obtain⟨hp,rfl,rfl⟩:=ik h
  obtain rfl:=bh (hH _ hm1) rfl
  obtain⟨F,hF⟩:=s13 _ _ _ _ _ _ _ (hX _ hm1) (hH _ hm0) (hH _ hm1) (hH _ hm2) (hH _ hm3)
  exact⟨_,abC (aXf F) hF⟩)
def bfj:List hI:=[(50,[none],r50),(51,[none,none,none],r51)]
def V16:Env:=dL fP dM bfj
noncomputable abbrev ajG:=ij V16 none (Tryz.f16).results.toList
theorem bfk:EOk Tryz.prog V16:=bL (by exact⟨c50,c51,trivial⟩)
def bfl(F:Nat):Cuts:={ F:=F,at_:=fun n=>match n with | 1020=>some asw | _=>none,join:=fun n=>match n with | 1022=>some asw | 8001=>some q8 | _=>none }
abbrev ajH(F n:Nat){σ:Type}(e:σ→St)(K:Ex→St→Rz)(N:σ→Rz):=Qe V16 (bfl F) (bp Tryz.f16 n) e K N
def ayD:aGC→St:=fun (a,b,c,d,e,f,g)=>hS [pS 0 0 5,lS 1 g] [dB 1 a 2 3 e f,bB b,pB c,wB d] 34 4
def amZ:afY→St:=fun (b,c,d,e,a)=>hS [pS 0 0 5,lS 1 b,lS 8 c,iS 9 d,iS 10 e] [dE 1 a 2 3,bB a.blk,pB a.pend,wB a.worn] 34 4
def aNW:afY→St:=amZ
def VD:(Dk.D)→St:=fun a=>hS [pS 0 0 5] [dE 1 a 2 3,bB a.blk,pB a.pend,wB a.worn] 34 4
def asA(F:Nat)(g:afY→Rz)(i:(Dk.D)→Rz):aGC→Rz:=fun (a,b,c,d,e,f,h)=>(cond (decide ((Dk.D.mk a b c d e f).pend.length < 1073741824)) (g (h,(Dk.pending (Dk.D.mk a b c d e f)),(↑(Dk.pending (Dk.D.mk a b c d e f)).length:Int),(0:Int),(Dk.D.mk a b c d e f))) none)
theorem aXg F Rj1 Rj2:ajH F 4 ayD (kq V16 Rj1 asw (kq V16 Rj2 q8 ajG)) (asA F (Rj1∘amZ) (Rj2∘VD)):=fun _=>by kernel_rfl
def am0(F:Nat)(f:afY→Rz)(g:(Dk.D)→Rz):afY→Rz:=fun (d,c,e,a,b)=>(cond (decide (a < e)) (cond ((decide (0≤a))&&(decide (a < (↑c.length:Int)))) (cond (decide (a < (↑d.length:Int))) (cond ((decide (0≤a))&&(decide (a < (↑d.length:Int)))) (cond ((Dk.inD b (c.getD (Int.toNat a) 0))&&(decide (b.blk.length=b.n*64))) (f (d,c,e,(IntKind.i64.wrap (a+(1:Int))),(Dk.settle b (c.getD (Int.toNat a) 0) (d.getD (Int.toNat a) 0)))) none) none) (cond ((Dk.inD b (c.getD (Int.toNat a) 0))&&(decide (b.blk.length=b.n*64))) (f (d,c,e,(IntKind.i64.wrap (a+(1:Int))),(Dk.settle b (c.getD (Int.toNat a) 0) (64:Int)))) none)) none) (g b))
theorem aXh F Rl1 Rj2:ajH F 20 aNW (kq V16 Rl1 asw (aV 0 (kq V16 Rj2 q8 ajG))) (am0 F (Rl1∘aNW) (Rj2∘VD)):=fun _=>by kernel_rfl
def apa:afY→Li×Li×Int×Int×(Dk.D):=fun (a,b,c,d,e)=>(a,b,c,d,e)
def aGJ(F:Nat)(a:(Dk.D)→Rz):afY→Rz:=fun v=>eT (fun k=>am0 F k a) F (apa v)
theorem aXi F Rj2:ajH F 10 amZ (aV 0 (kq V16 Rj2 q8 ajG)) (aGJ F (Rj2∘VD)):=lpC apa (fun k=>am0 F k (Rj2∘VD)) (fun Rl1=>aXh F Rl1 Rj2)
def aGK(F:Nat)(a):=aGJ F a
theorem aXj F Rj2:ajH F 5 amZ (kq V16 Rj2 q8 ajG) (aGK F (Rj2∘VD)):=biC (aXi F Rj2)
def asY(F:Nat)(a):=asA F (aGK F a) a
theorem aXk F Rj2:ajH F 2 ayD (kq V16 Rj2 q8 ajG) (asY F (Rj2∘VD)):=sqC (fun k=>asA F k (Rj2∘VD)) (fun Rj1=>aXg F Rj1 Rj2) (aXj F Rj2)
def aGL(F:Nat):(Dk.D)→Rz:=fun a=>(some ((.tup .nil),[(dB 1 a.n 2 3 false (-1:Int)),(bB a.blk),(pB a.pend),(wB a.worn)]))
theorem aXl F:ajH F 3 VD ajG (aGL F):=fun _=>by kernel_rfl
def aGM(F:Nat):=asY F (aGL F)
theorem aXm F:ajH F 1 ayD ajG (aGM F):=sqC (asY F) (fun Rj2=>aXk F Rj2) (aXl F)
def f16(F:Nat):aGC→Rz:=aGM F
def r16:eP:=fun X H=>match X,H with
 | [(.ptr 0 0 5 0 0 0 5),(.vs (.rI .i64 a1) 0 1)],[(.cells 5 (.segs (.cons 1 (.one (.own 1 a0n 64)) (.cons 1 (.one (.mp 2)) (.cons 1 (.one (.mp 3)) (.cons 1 (.one (.bool a0o)) (.cons 1 (.one (.int .i64 a0l)) .nil)))))) true),(.cells z1 (.rI .u8 a0b) true),(.cells 0 (.rM .i64 0 (.arr .u8 64) a0p) true),(.cells 0 (.rM .i64 0 .bool a0w) true)]=>some ((Dk.fine (Dk.D.mk a0n a0b a0p a0w a0o a0l)),.tup .nil,[(dE 1 (Dk.mount (Dk.D.mk a0n a0b a0p a0w a0o a0l) a1) 2 3),(.cells (Dk.mount (Dk.D.mk a0n a0b a0p a0w a0o a0l) a1).blk.length (.rI .u8 (Dk.mount (Dk.D.mk a0n a0b a0p a0w a0o a0l) a1).blk) true),(pB (Dk.mount (Dk.D.mk a0n a0b a0p a0w a0o a0l) a1).pend),(wB (Dk.mount (Dk.D.mk a0n a0b a0p a0w a0o a0l) a1).worn)])
 | _,_=>none
theorem s16(a0n:Nat)(a0b:Li)(a0p a0w:Lp)(a0o:Bool)(a0l:Int)(a1:Li)(hp:((Dk.fine (Dk.D.mk a0n a0b a0p a0w a0o a0l)))=true)(h1:okV (.vs (.rI .i64 a1) 0 1))(k0:okB (dB 1 a0n 2 3 a0o a0l))(k1:okB (bB a0b))(k2:okB (pB a0p))(k3:okB (wB a0w)):∃ F,f16 F (a0n,a0b,a0p,a0w,a0o,a0l,a1)=some ((.tup .nil),[(dE 1 (Dk.mount (Dk.D.mk a0n a0b a0p a0w a0o a0l) a1) 2 3),(.cells (Dk.mount (Dk.D.mk a0n a0b a0p a0w a0o a0l) a1).blk.length (.rI .u8 (Dk.mount (Dk.D.mk a0n a0b a0p a0w a0o a0l) a1).blk) true),(pB (Dk.mount (Dk.D.mk a0n a0b a0p a0w a0o a0l) a1).pend),(wB (Dk.mount (Dk.D.mk a0n a0b a0p a0w a0o a0l) a1).worn)]):=by
 obtain⟨⟨hn,hl,hpl,hwl⟩,hin⟩:=Dk.fine_iff hp
 have hok:Dk.Ok (Dk.D.mk a0n a0b a0p a0w a0o a0l):=⟨hl,Dk.vals64 k2⟩
 have hlen:=Dk.pending_len (Dk.D.mk a0n a0b a0p a0w a0o a0l)
 revert hin hok hlen hp
 generalize hd:Dk.D.mk a0n a0b a0p a0w a0o a0l=d
 intro hp hin hok hlen
 have hpl':d.pend.length < 8000:=by rw [← hd];exact hpl
 refine⟨d.pend.length+1,?_⟩
 simp only [f16,aGM,asY,asA,aGK,aGJ,apa,hd]
 have hpl2:a0p.length < 8000:=hpl
 rw [aK (show a0p.length < 1073741824 by omega)]
 refine iR (fun k=>(a1,Dk.pending d,((Dk.pending d).length:Int),(k:Int),Dk.mountK a1 (Dk.pending d) k d)) d.pend.length (by rfl) (fun k hk K=>?_) (fun K=>?_) (d.pend.length+1) (by omega)
 ·have hk':k < (Dk.pending d).length:=by omega
  obtain⟨q1,q2⟩:=Dk.mountK_ok (picks:=a1) hok hin k (by omega)
  have e1:(decide (0≤(k:Int))&&decide ((k:Int) < ((Dk.pending d).length:Int)))=true:=by rw [cH,decide_eq_true_iff];omega
  have e2:(Dk.inD (Dk.mountK a1 (Dk.pending d) k d) ((Dk.pending d).getD k 0)&&decide ((Dk.mountK a1 (Dk.pending d) k d).blk.length=(Dk.mountK a1 (Dk.pending d) k d).n*64))=true:=by
   rw [Dk.inD_n q2,hin _ (Dk.mem_at hk')];simp [q1.len]
  simp only [am0,Int.toNat_natCast,e1,e2,cond_true,bM (show -9223372036854775808≤(k:Int)+1 by omega) (by omega)]
  rw [aK (show(k:Int) < ((Dk.pending d).length:Int) by omega),Dk.mountK_succ hk']
  by_cases hq:k < a1.length
  ·have e3:(decide (0≤(k:Int))&&decide ((k:Int) < (a1.length:Int)))=true:=by rw [cH,decide_eq_true_iff];omega
   rw [aK (show(k:Int) < (a1.length:Int) by omega),e3,Dk.getD_in hq 0 64]
   rfl
  ·rw [ba (show ¬ (k:Int) < (a1.length:Int) by omega),Dk.getD_far (by omega) 64]
   rfl
 ·simp only [am0]
  rw [ba (show ¬ ((d.pend.length:Nat):Int) < ((Dk.pending d).length:Int) by omega)]
  obtain⟨q1,q2⟩:=Dk.mountK_ok (picks:=a1) hok hin _ (Nat.le_refl _)
  have e0:Dk.mountK a1 (Dk.pending d) d.pend.length d=Dk.mountAll a1 (Dk.pending d) 0 d:=by rw [← hlen];exact Dk.mountK_all a1 d
  rw [Dk.mountK_all] at q1
  rw [e0]
  simp only [aGL,Dk.mount] <;> rw [← q1.len]
theorem c16:Ck 16 r16:=ck bfk Tryz.func16 (by
 intro X H r H' h hX hH
 unfold r16 at h;split at h <;> try contradiction
 ·obtain⟨hp,rfl,rfl⟩:=ik h
  obtain rfl:=bh (hH _ hm1) rfl
  obtain⟨F,hF⟩:=s16 _ _ _ _ _ _ _ hp (hX _ hm1) (hH _ hm0) (hH _ hm1) (hH _ hm2) (hH _ hm3)
  exact⟨_,abC (aXm F) hF⟩)
def bfm:List hI:=[]
def V18:Env:=dL fP dM bfm
noncomputable abbrev WH:=ij V18 (some [(2,.view 9)]) (Tryz.f18).results.toList
theorem bfn:EOk Tryz.prog V18:=bL (by exact trivial)
def bfo(F:Nat):Cuts:={ F:=F,at_:=fun n=>match n with | 3012=>some asx | _=>none,join:=fun n=>match n with | 1022=>some q8 | 2020=>some xe | 3014=>some asx | 7003=>some Kf | _=>none,fin:=(some [(2,.view 9)]) }
abbrev WI(F n:Nat){σ:Type}(e:σ→St)(K:Ex→St→Rz)(N:σ→Rz):=Qe V18 (bfo F) (bp Tryz.f18 n) e K N
def aNX:Ep→St:=fun (a,b,c,d,e,f)=>hS [pS 0 0 5] [dB 1 a 2 3 e f,bB b,pB c,wB d] 32 4
def ayE:aGD→St:=fun (a,b,c,d,e,f)=>hS [pS 0 0 5] [dB 1 a 2 3 b c,bB d,pB e,wB f] 32 4
def am1:aGE→St:=fun (a,b,c,d,e,f,g)=>hS [pS 0 0 5,(3,.own 4 0 1)] [dB 1 a 2 3 b c,bB d,pB e,wB f,sB g] 32 4
def ayF:asz→St:=fun (a,b,c,d,e,f,g,h,i)=>hS [pS 0 0 5,(3,.own 4 0 1),iS 15 a,iS 16 b] [dB 1 c 2 3 d e,bB f,pB g,wB h,sB i] 32 4
def aNY:aGF→St:=fun (a,b,c,d,e,f,g,h,i,j)=>hS [pS 0 0 5,(3,.own 4 0 1),iS 15 a,iS 16 b] [dB 1 c 2 3 d e,bB f,pB g,wB h,z14 j i] 32 4
def VE:amX→St:=fun (a,b,c,d,e,f,g,h)=>hS [(3,.own 4 0 1)] [dB 1 a 2 3 b c,bB d,pB e,wB f,z14 h g] 32 4
def asZ(F:Nat)(a:aGD→Rz):Ep→Rz:=fun (b,c,d,e,f,g)=>(a (b,f,g,c,d,e))
theorem aXn F Rj1:WI F 2 aNX (kq V18 Rj1 q8 WH) (asZ F (Rj1∘ayE)):=fun _=>by kernel_rfl
def as0(F:Nat)(b:aGE→Rz):aGD→Rz:=fun (a,c,d,e,f,g)=>(cond (((decide (0≤(↑a:Int)))&&(decide ((↑a:Int)≤(↑a:Int))))&&(decide ((↑a:Int) < 1073741824))) (b (a,c,d,e,f,g,(List.replicate (Int.toNat (↑a:Int)) []))) none)
theorem aXo F Rj2:WI F 6 ayE (kq V18 Rj2 xe WH) (as0 F (Rj2∘am1)):=fun _=>by kernel_rfl
def as1(F:Nat)(b:asz→Rz)(i:amX→Rz):aGE→Rz:=fun (a,c,d,e,f,g,h)=>(b ((↑a:Int),(0:Int),a,c,d,e,f,g,h))
theorem aXp F Rj3 Rj4:WI F 28 am1 (kq V18 Rj3 asx (kq V18 Rj4 Kf WH)) (as1 F (Rj3∘ayF) (Rj4∘VE)):=fun _=>by kernel_rfl
def am2(F:Nat)(k:aGF→Rz)(l:amX→Rz):aGF→Rz:=fun (e,a,b,f,g,c,h,i,d,j)=>(cond (decide (a < e)) (cond ((decide (0≤a))&&(decide (a < (↑b:Int)))) (cond ((decide (0≤a))&&(decide (a < (↑d.length:Int)))) (k (e,(IntKind.i64.wrap (a+(1:Int))),b,f,g,c,h,i,(d.set (Int.toNat a) ((c.drop (0+(0+((Int.toNat a)*64)))).take 64)),j)) none) none) (l (b,f,g,c,h,i,d,j)))
theorem aXq F Rl1 Rj4:WI F 116 aNY (kq V18 Rl1 asx (aV 0 (kq V18 Rj4 Kf WH))) (am2 F (Rl1∘aNY) (Rj4∘VE)):=fun _=>by kernel_rfl
def apb:asz→Int×Int×Nat×Bool×Int×Li×(Lp)×(Lp)×(List Li)×Nat:=fun (b,c,d,e,f,g,h,i,a)=>(b,c,d,e,f,g,h,i,a,a.length)
def aGN(F:Nat)(a:amX→Rz):asz→Rz:=fun v=>eT (fun k=>am2 F k a) F (apb v)
theorem aXr F Rj4:WI F 58 ayF (aV 0 (kq V18 Rj4 Kf WH)) (aGN F (Rj4∘VE)):=lpC apb (fun k=>am2 F k (Rj4∘VE)) (fun Rl1=>aXq F Rl1 Rj4)
def aGO(F:Nat)(a):=aGN F a
theorem aXs F Rj4:WI F 29 ayF (kq V18 Rj4 Kf WH) (aGO F (Rj4∘VE)):=biC (aXr F Rj4)
def as2(F:Nat)(a):=as1 F (aGO F a) a
theorem aXt F Rj4:WI F 14 am1 (kq V18 Rj4 Kf WH) (as2 F (Rj4∘VE)):=sqC (fun k=>as1 F k (Rj4∘VE)) (fun Rj3=>aXp F Rj3 Rj4) (aXs F Rj4)
def aGP(F:Nat):amX→Rz:=fun (a,b,c,d,e,f,g,h)=>(some ((.vs (.rS g) 0 1),[(dB 1 a 2 3 b c),(bB d),(pB e),(wB f)]))
theorem aXu F:WI F 15 VE WH (aGP F):=fun _=>by kernel_rfl
def aGQ(F:Nat):=as2 F (aGP F)
theorem aXv F:WI F 7 am1 WH (aGQ F):=sqC (as2 F) (fun Rj4=>aXt F Rj4) (aXu F)
def ayG(F:Nat):=as0 F (aGQ F)
theorem aNZ F:WI F 3 ayE WH (ayG F):=sqC (as0 F) (fun Rj2=>aXo F Rj2) (aXv F)
def ayH(F:Nat):=asZ F (ayG F)
theorem aN0 F:WI F 1 aNX WH (ayH F):=sqC (asZ F) (fun Rj1=>aXn F Rj1) (aNZ F)
def f18(F:Nat):Ep→Rz:=ayH F
def r18:eP:=fun X H=>match X,H with
 | [(.ptr 0 0 5 0 0 0 5)],[(.cells 5 (.segs (.cons 1 (.one (.own 1 a0n 64)) (.cons 1 (.one (.mp 2)) (.cons 1 (.one (.mp 3)) (.cons 1 (.one (.bool a0o)) (.cons 1 (.one (.int .i64 a0l)) .nil)))))) true),(.cells z1 (.rI .u8 a0b) true),(.cells 0 (.rM .i64 0 (.arr .u8 64) a0p) true),(.cells 0 (.rM .i64 0 .bool a0w) true)]=>some ((decide ((Dk.D.mk a0n a0b a0p a0w a0o a0l).blk.length=(Dk.D.mk a0n a0b a0p a0w a0o a0l).n*64∧(Dk.D.mk a0n a0b a0p a0w a0o a0l).n < 8000)),(.vs (.rS (Dk.image (Dk.D.mk a0n a0b a0p a0w a0o a0l))) 0 1),[(dE 1 (Dk.D.mk a0n a0b a0p a0w a0o a0l) 2 3),(.cells (Dk.D.mk a0n a0b a0p a0w a0o a0l).blk.length (.rI .u8 (Dk.D.mk a0n a0b a0p a0w a0o a0l).blk) true),(pB (Dk.D.mk a0n a0b a0p a0w a0o a0l).pend),(wB (Dk.D.mk a0n a0b a0p a0w a0o a0l).worn)])
 | _,_=>none
theorem s18(a0n:Nat)(a0b:Li)(a0p a0w:Lp)(a0o:Bool)(a0l:Int)(hp:((decide ((Dk.D.mk a0n a0b a0p a0w a0o a0l).blk.length=(Dk.D.mk a0n a0b a0p a0w a0o a0l).n*64∧(Dk.D.mk a0n a0b a0p a0w a0o a0l).n < 8000)))=true)(k0:okB (dB 1 a0n 2 3 a0o a0l))(k1:okB (bB a0b))(k2:okB (pB a0p))(k3:okB (wB a0w)):∃ F,f18 F (a0n,a0b,a0p,a0w,a0o,a0l)=some ((.vs (.rS (Dk.image (Dk.D.mk a0n a0b a0p a0w a0o a0l))) 0 1),[(dE 1 (Dk.D.mk a0n a0b a0p a0w a0o a0l) 2 3),(.cells (Dk.D.mk a0n a0b a0p a0w a0o a0l).blk.length (.rI .u8 (Dk.D.mk a0n a0b a0p a0w a0o a0l).blk) true),(pB (Dk.D.mk a0n a0b a0p a0w a0o a0l).pend),(wB (Dk.D.mk a0n a0b a0p a0w a0o a0l).worn)]):=by
 rw [decide_eq_true_iff] at hp
 obtain⟨hl,hn⟩:=hp
 refine⟨a0n+1,?_⟩
 have e:((decide (0≤(a0n:Int))&&decide ((a0n:Int)≤(a0n:Int)))&&decide ((a0n:Int) < 1073741824))=true:=by simp at hn ⊢;omega
 simp only [f18,ayH,asZ,ayG,as0,aGQ,as2,aGP,as1,aGO,aGN,apb,e,cond_true,Int.toNat_natCast]
 refine iR (fun k=>((a0n:Int),(k:Int),a0n,a0o,a0l,a0b,a0p,a0w,(List.range k).map (fun i=>Dk.sec a0b i)++List.replicate (a0n-k) [],a0n)) a0n (by simp) (fun k hk K=>?_) (fun K=>?_) (a0n+1) (by omega)
 ·have e1:(decide (0≤(k:Int))&&decide ((k:Int) < (a0n:Int)))=true:=by rw [cH,decide_eq_true_iff];omega
  have e2:(decide (0≤(k:Int))&&decide ((k:Int) < ((((List.range k).map (fun i=>Dk.sec a0b i)++List.replicate (a0n-k) []).length:Nat):Int)))=true:=by
   rw [cH,decide_eq_true_iff];simp;omega
  simp only [am2,e1,e2,cond_true,bM (show -9223372036854775808≤(k:Int)+1 by omega) (by simp at hn;omega),Int.toNat_natCast,Nat.zero_add]
  rw [aK (show(k:Int) < (a0n:Int) by omega),ai2 (fun i=>Dk.sec a0b i) [] a0n k hk (by simp [Dk.sec])]
  rfl
 ·simp only [am2]
  rw [ba (by omega)]
  simp only [Nat.sub_self,List.replicate_zero,List.append_nil]
  rfl
theorem c18:Ck 18 r18:=ck bfn Tryz.func18 (by
 intro X H r H' h hX hH
 unfold r18 at h;split at h <;> try contradiction
 ·obtain⟨hp,rfl,rfl⟩:=ik h
  obtain rfl:=bh (hH _ hm1) rfl
  obtain⟨F,hF⟩:=s18 _ _ _ _ _ _ hp (hH _ hm0) (hH _ hm1) (hH _ hm2) (hH _ hm3)
  exact⟨_,abC (aN0 F) hF⟩)
def bfp:List hI:=[]
def V25:Env:=dL fP dM bfp
noncomputable abbrev bfq:=ij V25 none (Tryz.f25).results.toList
theorem bfr:EOk Tryz.prog V25:=bL (by exact trivial)
def bfs(F:Nat):Cuts:={ F:=F,at_:=fun _=>none,join:=fun _=>none }
abbrev bft(F n:Nat){σ:Type}(e:σ→St)(K:Ex→St→Rz)(N:σ→Rz):=Qe V25 (bfs F) (bp Tryz.f25 n) e K N
def a9E:VT→St:=fun (a,b,c,d,e)=>hS [pS 0 0 3,iS 1 e] [rB a 1 c d,z2 a b] 9 2
def aGR(F:Nat):VT→Rz:=fun (a,c,d,e,b)=>(some ((.tup .nil),[(rB a 1 d (if b > (-1:Int) then b else (-1:Int))),(.cells (a*4) (.rT [.str,.str,.bool,.bool] c) true)]))
theorem aXw F:bft F 1 a9E bfq (aGR F):=fun _=>by kernel_rfl
def f25(F:Nat):VT→Rz:=aGR F
def r25:eP:=fun X H=>match X,H with
 | [(.ptr 0 0 3 0 0 0 3),.int .i64 a1],[(.cells 3 (.segs (.cons 1 (.one (.own 1 a0n 4)) (.cons 1 (.one (.bool a0o)) (.cons 1 (.one (.int .i64 a0l)) .nil)))) true),(.cells z1 (.rT [.str,.str,.bool,.bool] a0s) true)]=>some ((decide (a0n=a0s.length∧a0n < 8000)),.tup .nil,[(rB (Dk.rtrip (Dk.R.mk a0s a0o a0l) a1).s.length 1 (Dk.rtrip (Dk.R.mk a0s a0o a0l) a1).off (Dk.rtrip (Dk.R.mk a0s a0o a0l) a1).left),(.cells ((Dk.rtrip (Dk.R.mk a0s a0o a0l) a1).s.length*4) (.rT [.str,.str,.bool,.bool] (Dk.rtrip (Dk.R.mk a0s a0o a0l) a1).s) true)])
 | _,_=>none
theorem s25(a0n:Nat)(a0s:List (List Li))(a0o:Bool)(a0l a1:Int)(hp:((decide (a0n=a0s.length∧a0n < 8000)))=true)(h1:okV (.int .i64 a1))(k0:okB (rB a0n 1 a0o a0l))(k1:okB (.cells (a0n*4) (.rT [.str,.str,.bool,.bool] a0s) true)):∃ F,f25 F (a0n,a0s,a0o,a0l,a1)=some ((.tup .nil),[(rB (Dk.rtrip (Dk.R.mk a0s a0o a0l) a1).s.length 1 (Dk.rtrip (Dk.R.mk a0s a0o a0l) a1).off (Dk.rtrip (Dk.R.mk a0s a0o a0l) a1).left),(.cells ((Dk.rtrip (Dk.R.mk a0s a0o a0l) a1).s.length*4) (.rT [.str,.str,.bool,.bool] (Dk.rtrip (Dk.R.mk a0s a0o a0l) a1).s) true)]):=by
 rw [decide_eq_true_iff] at hp
 exact⟨0,by simp only [f25,aGR,Dk.rtrip];rw [hp.1]⟩
theorem c25:Ck 25 r25:=ck bfr Tryz.func25 (by
 intro X H r H' h hX hH
 unfold r25 at h;split at h <;> try contradiction
 ·obtain⟨hp,rfl,rfl⟩:=ik h
  obtain rfl:=bh (hH _ hm1) rfl
  obtain rfl:=(of_decide_eq_true hp).1
  obtain⟨F,hF⟩:=s25 _ _ _ _ _ hp (hX _ hm1) (hH _ hm0) (hH _ hm1)
  exact⟨_,abC (aXw F) hF⟩)
def bfu:List hI:=[(62,[none,none,none],r62)]
def V26:Env:=dL fP dM bfu
noncomputable abbrev af0:=ij V26 none (Tryz.f26).results.toList
theorem bfv:EOk Tryz.prog V26:=bL (by exact⟨c62,trivial⟩)
def bfw(F:Nat):Cuts:={ F:=F,at_:=fun n=>match n with | 2026=>some asy | _=>none,join:=fun n=>match n with | 1034=>some aY2 | 2028=>some asy | 10003=>some q8 | _=>none }
abbrev af1(F n:Nat){σ:Type}(e:σ→St)(K:Ex→St→Rz)(N:σ→Rz):=Qe V26 (bfw F) (bp Tryz.f26 n) e K N
def aN1:aGG→St:=fun (a,b,c,d,e)=>hS [pS 0 0 3,lS 1 e] [rB a 1 c d,z2 a b] 45 2
def am3:aGH→St:=fun (b,c,a,d,e,f)=>hS [pS 0 0 3,lS 1 b,iS 4 c] [rB a 1 d e,z2 a f] 45 2
def am4:afZ→St:=fun (b,c,d,a,e,f,g)=>hS [pS 0 0 3,lS 1 b,iS 4 c,iS 5 d] [rB a 1 e f,z2 a g] 45 2
def aN2:afZ→St:=am4
def VF:u6→St:=fun (a,b,c,d)=>hS [pS 0 0 3] [rB a 1 b c,z2 a d] 45 2
def as3(F:Nat)(a:aGH→Rz):aGG→Rz:=fun (b,c,d,e,f)=>(a (f,(0:Int),b,d,e,c))
theorem aXx F Rj1:af1 F 2 aN1 (kq V26 Rj1 aY2 af0) (as3 F (Rj1∘am3)):=fun _=>by kernel_rfl
def as4(F:Nat)(a:afZ→Rz)(h:u6→Rz):aGH→Rz:=fun (b,c,d,e,f,g)=>(a (b,c,(0:Int),d,e,f,g))
theorem aXy F Rj2 Rj3:af1 F 12 am3 (kq V26 Rj2 asy (kq V26 Rj3 q8 af0)) (as4 F (Rj2∘am4) (Rj3∘VF)):=fun _=>by kernel_rfl
def am5(F:Nat)(h:afZ→Rz)(i:u6→Rz):afZ→Rz:=fun (f,e,a,g,c,d,b)=>(cond (decide (a < (↑g:Int))) (cond ((decide (0≤a))&&(decide (a < (↑g:Int)))) (cond (!((((b.getD (Int.toNat a) []).getD 2 []).getD 0 0)==1)) (h (f,e,(IntKind.i64.wrap (a+(1:Int))),g,c,d,b)) (cond (decide (e < (↑f.length:Int))) (cond ((decide (0≤e))&&(decide (e < (↑f.length:Int)))) (cond ((decide (g=b.length∧g < 8000))&&((Dk.ris (Dk.R.mk b c d) a)&&(Dk.rlen (Dk.R.mk b c d) a))) (h (f,(IntKind.i64.wrap (e+(1:Int))),(IntKind.i64.wrap (a+(1:Int))),(Dk.rsettle (Dk.R.mk b c d) a (f.getD (Int.toNat e) 0)).s.length,(Dk.rsettle (Dk.R.mk b c d) a (f.getD (Int.toNat e) 0)).off,(Dk.rsettle (Dk.R.mk b c d) a (f.getD (Int.toNat e) 0)).left,(Dk.rsettle (Dk.R.mk b c d) a (f.getD (Int.toNat e) 0)).s)) none) none) (cond ((decide (g=b.length∧g < 8000))&&((Dk.ris (Dk.R.mk b c d) a)&&(Dk.rlen (Dk.R.mk b c d) a))) (h (f,(IntKind.i64.wrap (e+(1:Int))),(IntKind.i64.wrap (a+(1:Int))),(Dk.rsettle (Dk.R.mk b c d) a (64:Int)).s.length,(Dk.rsettle (Dk.R.mk b c d) a (64:Int)).off,(Dk.rsettle (Dk.R.mk b c d) a (64:Int)).left,(Dk.rsettle (Dk.R.mk b c d) a (64:Int)).s)) none))) none) (i (g,c,d,b)))
theorem aXz F Rl1 Rj3:af1 F 52 aN2 (kq V26 Rl1 asy (aV 0 (kq V26 Rj3 q8 af0))) (am5 F (Rl1∘aN2) (Rj3∘VF)):=fun _=>by kernel_rfl
def apc:afZ→Li×Int×Int×Nat×Bool×Int×(List (List Li)):=fun (a,b,c,d,e,f,g)=>(a,b,c,d,e,f,g)
def aGS(F:Nat)(a:u6→Rz):afZ→Rz:=fun v=>eT (fun k=>am5 F k a) F (apc v)
theorem aXA F Rj3:af1 F 26 am4 (aV 0 (kq V26 Rj3 q8 af0)) (aGS F (Rj3∘VF)):=lpC apc (fun k=>am5 F k (Rj3∘VF)) (fun Rl1=>aXz F Rl1 Rj3)
def aGT(F:Nat)(a):=aGS F a
theorem aXB F Rj3:af1 F 13 am4 (kq V26 Rj3 q8 af0) (aGT F (Rj3∘VF)):=biC (aXA F Rj3)
def as5(F:Nat)(a):=as4 F (aGT F a) a
theorem aXC F Rj3:af1 F 6 am3 (kq V26 Rj3 q8 af0) (as5 F (Rj3∘VF)):=sqC (fun k=>as4 F k (Rj3∘VF)) (fun Rj2=>aXy F Rj2 Rj3) (aXB F Rj3)
def aGU(F:Nat):u6→Rz:=fun (a,c,d,b)=>(some ((.tup .nil),[(rB a 1 false (-1:Int)),(.cells (a*4) (.rT [.str,.str,.bool,.bool] b) true)]))
theorem aXD F:af1 F 7 VF af0 (aGU F):=fun _=>by kernel_rfl
def aGV(F:Nat):=as5 F (aGU F)
theorem aXE F:af1 F 3 am3 af0 (aGV F):=sqC (as5 F) (fun Rj3=>aXC F Rj3) (aXD F)
def aGW(F:Nat):=as3 F (aGV F)
theorem aXF F:af1 F 1 aN1 af0 (aGW F):=sqC (as3 F) (fun Rj1=>aXx F Rj1) (aXE F)
def f26(F:Nat):aGG→Rz:=aGW F
def r26:eP:=fun X H=>match X,H with
 | [(.ptr 0 0 3 0 0 0 3),(.vs (.rI .i64 a1) 0 1)],[(.cells 3 (.segs (.cons 1 (.one (.own 1 a0n 4)) (.cons 1 (.one (.bool a0o)) (.cons 1 (.one (.int .i64 a0l)) .nil)))) true),(.cells z1 (.rT [.str,.str,.bool,.bool] a0s) true)]=>some ((decide (a0n=a0s.length∧a0n < 8000))&&((Dk.rfine (Dk.R.mk a0s a0o a0l))),.tup .nil,[(rB (Dk.rmount (Dk.R.mk a0s a0o a0l) a1).s.length 1 (Dk.rmount (Dk.R.mk a0s a0o a0l) a1).off (Dk.rmount (Dk.R.mk a0s a0o a0l) a1).left),(.cells ((Dk.rmount (Dk.R.mk a0s a0o a0l) a1).s.length*4) (.rT [.str,.str,.bool,.bool] (Dk.rmount (Dk.R.mk a0s a0o a0l) a1).s) true)])
 | _,_=>none
theorem s26(a0n:Nat)(a0s:List (List Li))(a0o:Bool)(a0l:Int)(a1:Li)(hp:((decide (a0n=a0s.length∧a0n < 8000))&&((Dk.rfine (Dk.R.mk a0s a0o a0l))))=true)(h1:okV (.vs (.rI .i64 a1) 0 1))(k0:okB (rB a0n 1 a0o a0l))(k1:okB (.cells (a0n*4) (.rT [.str,.str,.bool,.bool] a0s) true)):∃ F,f26 F (a0n,a0s,a0o,a0l,a1)=some ((.tup .nil),[(rB (Dk.rmount (Dk.R.mk a0s a0o a0l) a1).s.length 1 (Dk.rmount (Dk.R.mk a0s a0o a0l) a1).off (Dk.rmount (Dk.R.mk a0s a0o a0l) a1).left),(.cells ((Dk.rmount (Dk.R.mk a0s a0o a0l) a1).s.length*4) (.rT [.str,.str,.bool,.bool] (Dk.rmount (Dk.R.mk a0s a0o a0l) a1).s) true)]):=by
 rw [Bool.and_eq_true,decide_eq_true_iff] at hp
 obtain⟨⟨hn,hlt⟩,hf⟩:=hp
 have hg:=Dk.rfine_iff.1 hf
 subst hn
 refine⟨a0s.length+1,?_⟩
 simp only [f26,aGW,as3,aGV,as5,aGU,as4,aGT,aGS,apc]
 generalize hr:Dk.R.mk a0s a0o a0l=r at hg
 have hs:a0s=r.s:=by rw [← hr]
 have hsl:=congrArg List.length hs
 refine iR (fun k=>(a1,((Dk.rmountK a1 r k).2:Int),(k:Int),(Dk.rmountK a1 r k).1.s.length,(Dk.rmountK a1 r k).1.off,(Dk.rmountK a1 r k).1.left,(Dk.rmountK a1 r k).1.s)) r.s.length (by rw [← hr];rfl) (fun k hk K=>?_) (fun K=>?_) (a0s.length+1) (by omega)
 ·obtain⟨q1,q2,q4⟩:=Dk.rmountK_good (p:=a1) hg k (by omega)
  have q3:=q1.1
  rw [Dk.rmountK_succ]
  generalize Dk.rmountK a1 r k=e at q1 q2 q3 q4
  obtain⟨e,c⟩:=e
  simp only at q1 q2 q3 q4 ⊢
  have e1:(decide (0≤(k:Int))&&decide ((k:Int) < (e.s.length:Int)))=true:=by rw [cH,decide_eq_true_iff];omega
  simp only [am5,e1,cond_true,bM (show -9223372036854775808≤(k:Int)+1 by omega) (by omega),bM (show -9223372036854775808≤(c:Int)+1 by omega) (by omega),Int.toNat_natCast]
  rw [aK (show(k:Int) < (e.s.length:Int) by omega)]
  cases hd:(((e.s.getD k []).getD 2 []).getD 0 0==1)
  ·have hd':Dk.fD (e.at k)=false:=hd
   rw [hd'];rfl
  ·have hd':Dk.fD (e.at k)=true:=hd
   have e2:(decide (True∧e.s.length < 8000)&&(Dk.ris (Dk.R.mk e.s e.off e.left) k&&Dk.rlen (Dk.R.mk e.s e.off e.left) k))=true:=by
    rw [Bool.and_eq_true,Bool.and_eq_true,decide_eq_true_iff]
    exact⟨⟨trivial,q3⟩,Dk.ris_iff.2 ⟨by omega,show(k:Int) < (e.s.length:Int) by omega⟩,Dk.rlen_of q1 (by omega) hd'⟩
   rw [hd',Bool.not_true,cond_false,e2]
   by_cases hq:c < a1.length
   ·have e3:(decide (0≤(c:Int))&&decide ((c:Int) < (a1.length:Int)))=true:=by rw [cH,decide_eq_true_iff];omega
    rw [aK (show(c:Int) < (a1.length:Int) by omega),e3,Dk.getD_in hq 0 64]
    rfl
   ·rw [ba (show ¬ (c:Int) < (a1.length:Int) by omega),Dk.getD_far (by omega) 64]
    rfl
 ·simp only [am5]
  obtain⟨q1,q2,q4⟩:=Dk.rmountK_good (p:=a1) hg r.s.length (by omega)
  rw [ba (by omega)]
  rfl
theorem c26:Ck 26 r26:=ck bfv Tryz.func26 (by
 intro X H r H' h hX hH
 unfold r26 at h;split at h <;> try contradiction
 ·obtain⟨hp,rfl,rfl⟩:=ik h
  obtain rfl:=bh (hH _ hm1) rfl
  obtain rfl:=(of_decide_eq_true (Bool.and_eq_true_iff.1 hp).1).1
  obtain⟨F,hF⟩:=s26 _ _ _ _ _ hp (hX _ hm1) (hH _ hm0) (hH _ hm1)
  exact⟨_,abC (aXF F) hF⟩)
def bfx:List hI:=[(63,[none,none],r63)]
def V28:Env:=dL fP dM bfx
noncomputable abbrev bfy:=ij V28 none (Tryz.f28).results.toList
theorem bfz:EOk Tryz.prog V28:=bL (by exact⟨c63,trivial⟩)
def bfA(F:Nat):Cuts:={ F:=F,at_:=fun _=>none,join:=fun _=>none }
abbrev bfB(F n:Nat){σ:Type}(e:σ→St)(K:Ex→St→Rz)(N:σ→Rz):=Qe V28 (bfA F) (bp Tryz.f28 n) e K N
def a9F:aoO→St:=fun (a,b,c,d,e,f)=>hS [pS 0 0 3,iS 1 e,iS 2 f] [rB a 1 c d,z2 a b] 51 2
def aGX(F:Nat):aoO→Rz:=fun (f,a,b,c,d,e)=>(cond (decide (f=a.length∧f < 8000)) (cond (!(Dk.ris (Dk.R.mk a b c) d)) (some ((.int .i64 1),[(rB (Dk.R.mk a b c).s.length 1 (Dk.R.mk a b c).off (Dk.R.mk a b c).left),(.cells ((Dk.R.mk a b c).s.length*4) (.rT [.str,.str,.bool,.bool] (Dk.R.mk a b c).s) true)])) (cond (decide (e < (0:Int))) (some ((.int .i64 1),[(rB (Dk.R.mk a b c).s.length 1 (Dk.R.mk a b c).off (Dk.R.mk a b c).left),(.cells ((Dk.R.mk a b c).s.length*4) (.rT [.str,.str,.bool,.bool] (Dk.R.mk a b c).s) true)])) (cond (decide (e > (511:Int))) (some ((.int .i64 1),[(rB (Dk.R.mk a b c).s.length 1 (Dk.R.mk a b c).off (Dk.R.mk a b c).left),(.cells ((Dk.R.mk a b c).s.length*4) (.rT [.str,.str,.bool,.bool] (Dk.R.mk a b c).s) true)])) (cond ((decide (0≤d))&&(decide (d < (↑(Dk.R.mk a b c).s.length:Int)))) (cond ((decide (0≤(IntKind.i64.wrap (Int.tdiv e (8:Int)))))&&(decide ((IntKind.i64.wrap (Int.tdiv e (8:Int))) < (↑(((Dk.R.mk a b c).s.getD (Int.toNat d) []).getD 0 []).length:Int)))) (cond (decide (0≤(Int.tmod e (8:Int)))) (cond ((decide (0≤(IntKind.i64.wrap (Int.tdiv e (8:Int)))))&&(decide ((IntKind.i64.wrap (Int.tdiv e (8:Int))) < (↑(((Dk.R.mk a b c).s.getD (Int.toNat d) []).getD 0 []).length:Int)))) (cond ((decide (0≤d))&&(decide (d < (↑(Dk.R.mk a b c).s.length:Int)))) (some ((.int .i64 0),[(rB (Dk.R.mk a b c).s.length 1 (Dk.R.mk a b c).off (Dk.R.mk a b c).left),(.cells ((Dk.R.mk a b c).s.length*4) (.rT [.str,.str,.bool,.bool] ((Dk.R.mk a b c).s.set (Int.toNat d) (pu ((Dk.R.mk a b c).s.getD (Int.toNat d) []) 0 ((((Dk.R.mk a b c).s.getD (Int.toNat d) []).getD 0 []).set (Int.toNat (IntKind.i64.wrap (Int.tdiv e (8:Int)))) (bK .xor .u8 ((((Dk.R.mk a b c).s.getD (Int.toNat d) []).getD 0 []).getD (Int.toNat (IntKind.i64.wrap (Int.tdiv e (8:Int)))) 0) (IntKind.u8.wrap ((1:Int)*2^(min (Int.toNat (Int.tmod e (8:Int))) 8)))))))) true)])) none) none) none) none) none)))) none)
theorem aXG F:bfB F 1 a9F bfy (aGX F):=fun _=>by kernel_rfl
def f28(F:Nat):aoO→Rz:=aGX F
def r28:eP:=fun X H=>match X,H with
 | [(.ptr 0 0 3 0 0 0 3),.int .i64 a1,.int .i64 a2],[(.cells 3 (.segs (.cons 1 (.one (.own 1 a0n 4)) (.cons 1 (.one (.bool a0o)) (.cons 1 (.one (.int .i64 a0l)) .nil)))) true),(.cells z1 (.rT [.str,.str,.bool,.bool] a0s) true)]=>some ((decide (a0n=a0s.length∧a0n < 8000))&&((Dk.rfine (Dk.R.mk a0s a0o a0l))),(.int .i64 (Dk.rrot (Dk.R.mk a0s a0o a0l) a1 a2).2),[(rB (Dk.rrot (Dk.R.mk a0s a0o a0l) a1 a2).1.s.length 1 (Dk.rrot (Dk.R.mk a0s a0o a0l) a1 a2).1.off (Dk.rrot (Dk.R.mk a0s a0o a0l) a1 a2).1.left),(.cells ((Dk.rrot (Dk.R.mk a0s a0o a0l) a1 a2).1.s.length*4) (.rT [.str,.str,.bool,.bool] (Dk.rrot (Dk.R.mk a0s a0o a0l) a1 a2).1.s) true)])
 | _,_=>none
theorem s28(a0n:Nat)(a0s:List (List Li))(a0o:Bool)(a0l a1 a2:Int)(hp:((decide (a0n=a0s.length∧a0n < 8000))&&((Dk.rfine (Dk.R.mk a0s a0o a0l))))=true)(h1:okV (.int .i64 a1))(h2:okV (.int .i64 a2))(k0:okB (rB a0n 1 a0o a0l))(k1:okB (.cells (a0n*4) (.rT [.str,.str,.bool,.bool] a0s) true)):∃ F,f28 F (a0n,a0s,a0o,a0l,a1,a2)=some ((.int .i64 (Dk.rrot (Dk.R.mk a0s a0o a0l) a1 a2).2),[(rB (Dk.rrot (Dk.R.mk a0s a0o a0l) a1 a2).1.s.length 1 (Dk.rrot (Dk.R.mk a0s a0o a0l) a1 a2).1.off (Dk.rrot (Dk.R.mk a0s a0o a0l) a1 a2).1.left),(.cells ((Dk.rrot (Dk.R.mk a0s a0o a0l) a1 a2).1.s.length*4) (.rT [.str,.str,.bool,.bool] (Dk.rrot (Dk.R.mk a0s a0o a0l) a1 a2).1.s) true)]):=by
 rw [Bool.and_eq_true] at hp
 obtain⟨hp,hf⟩:=hp
 refine⟨0,?_⟩
 simp only [f28,aGX,Dk.rrot,hp,cond_true]
 cases h:Dk.ris (Dk.R.mk a0s a0o a0l) a1
 ·rfl
 ·have hr:=Dk.ris_iff.1 h
  have hg:=(Dk.rfine_iff.1 hf).2 (Int.toNat a1) (by omega)
  have hlen:(((a0s.getD (Int.toNat a1) []).getD 0 []).length:Int)=64:=by have:=hg.1;simp only [Dk.fT] at this;omega
  simp only [Bool.not_true,cond_false,Dk.fT,Dk.R.at,Dk.bit]
  by_cases h3:a2 < 0
  ·simp only [aK h3]
  ·by_cases h4:a2 > 511
   ·simp only [ba h3,aK h4]
   ·have e8:Int.tdiv a2 8=a2 / 8:=Kx (by omega)
    have ew:IntKind.i64.wrap (Int.tdiv a2 8)=Int.tdiv a2 8:=bM (by omega) (by omega)
    have em:0≤Int.tmod a2 8:=by rw [JY (by omega)];omega
    have ec:(decide (0≤a1)&&decide (a1 < (a0s.length:Int)))=true:=by rw [cH,decide_eq_true_iff];exact hr
    have ed:(decide (0≤Int.tdiv a2 8)&&decide (Int.tdiv a2 8 < (((a0s.getD (Int.toNat a1) []).getD 0 []).length:Int)))=true:=by rw [cH,decide_eq_true_iff,hlen];omega
    simp only [ba h3,ba h4,ew,ec,ed,aK em,cond_true,List.length_set]
theorem c28:Ck 28 r28:=ck bfz Tryz.func28 (by
 intro X H r H' h hX hH
 unfold r28 at h;split at h <;> try contradiction
 ·obtain⟨hp,rfl,rfl⟩:=ik h
  obtain rfl:=bh (hH _ hm1) rfl
  obtain rfl:=(of_decide_eq_true (Bool.and_eq_true_iff.1 hp).1).1
  obtain⟨F,hF⟩:=s28 _ _ _ _ _ _ hp (hX _ hm1) (hX _ hm2) (hH _ hm0) (hH _ hm1)
  exact⟨_,abC (aXG F) hF⟩)
def bfC:List hI:=[(63,[none,none],r63)]
def V30:Env:=dL fP dM bfC
noncomputable abbrev bfD:=ij V30 none (Tryz.f30).results.toList
theorem bfE:EOk Tryz.prog V30:=bL (by exact⟨c63,trivial⟩)
def bfF(F:Nat):Cuts:={ F:=F,at_:=fun _=>none,join:=fun _=>none }
abbrev bfG(F n:Nat){σ:Type}(e:σ→St)(K:Ex→St→Rz)(N:σ→Rz):=Qe V30 (bfF F) (bp Tryz.f30 n) e K N
def a9G:VT→St:=fun (a,b,c,d,e)=>hS [pS 0 0 3,iS 1 e] [rB a 1 c d,z2 a b] 16 2
def aGY(F:Nat):VT→Rz:=fun (e,a,b,c,d)=>(cond (decide (e=a.length∧e < 8000)) (cond (!(Dk.ris (Dk.R.mk a b c) d)) (some ((.int .i64 1),[(rB (Dk.R.mk a b c).s.length 1 (Dk.R.mk a b c).off (Dk.R.mk a b c).left),(.cells ((Dk.R.mk a b c).s.length*4) (.rT [.str,.str,.bool,.bool] (Dk.R.mk a b c).s) true)])) (cond ((decide (0≤d))&&(decide (d < (↑(Dk.R.mk a b c).s.length:Int)))) (some ((.int .i64 0),[(rB (Dk.R.mk a b c).s.length 1 (Dk.R.mk a b c).off (Dk.R.mk a b c).left),(.cells ((Dk.R.mk a b c).s.length*4) (.rT [.str,.str,.bool,.bool] ((Dk.R.mk a b c).s.set (Int.toNat d) (pu ((Dk.R.mk a b c).s.getD (Int.toNat d) []) 3 [1]))) true)])) none)) none)
theorem aXH F:bfG F 1 a9G bfD (aGY F):=fun _=>by kernel_rfl
def f30(F:Nat):VT→Rz:=aGY F
def r30:eP:=fun X H=>match X,H with
 | [(.ptr 0 0 3 0 0 0 3),.int .i64 a1],[(.cells 3 (.segs (.cons 1 (.one (.own 1 a0n 4)) (.cons 1 (.one (.bool a0o)) (.cons 1 (.one (.int .i64 a0l)) .nil)))) true),(.cells z1 (.rT [.str,.str,.bool,.bool] a0s) true)]=>some ((decide (a0n=a0s.length∧a0n < 8000)),(.int .i64 (Dk.rwear (Dk.R.mk a0s a0o a0l) a1).2),[(rB (Dk.rwear (Dk.R.mk a0s a0o a0l) a1).1.s.length 1 (Dk.rwear (Dk.R.mk a0s a0o a0l) a1).1.off (Dk.rwear (Dk.R.mk a0s a0o a0l) a1).1.left),(.cells ((Dk.rwear (Dk.R.mk a0s a0o a0l) a1).1.s.length*4) (.rT [.str,.str,.bool,.bool] (Dk.rwear (Dk.R.mk a0s a0o a0l) a1).1.s) true)])
 | _,_=>none
theorem s30(a0n:Nat)(a0s:List (List Li))(a0o:Bool)(a0l a1:Int)(hp:((decide (a0n=a0s.length∧a0n < 8000)))=true)(h1:okV (.int .i64 a1))(k0:okB (rB a0n 1 a0o a0l))(k1:okB (.cells (a0n*4) (.rT [.str,.str,.bool,.bool] a0s) true)):∃ F,f30 F (a0n,a0s,a0o,a0l,a1)=some ((.int .i64 (Dk.rwear (Dk.R.mk a0s a0o a0l) a1).2),[(rB (Dk.rwear (Dk.R.mk a0s a0o a0l) a1).1.s.length 1 (Dk.rwear (Dk.R.mk a0s a0o a0l) a1).1.off (Dk.rwear (Dk.R.mk a0s a0o a0l) a1).1.left),(.cells ((Dk.rwear (Dk.R.mk a0s a0o a0l) a1).1.s.length*4) (.rT [.str,.str,.bool,.bool] (Dk.rwear (Dk.R.mk a0s a0o a0l) a1).1.s) true)]):=by
 refine⟨0,?_⟩
 simp only [f30,aGY,Dk.rwear,hp,cond_true,Dk.R.at]
 cases h:Dk.ris (Dk.R.mk a0s a0o a0l) a1
 ·rfl
 ·have ec:(decide (0≤a1)&&decide (a1 < (a0s.length:Int)))=true:=by rw [cH,decide_eq_true_iff];exact Dk.ris_iff.1 h
  simp only [ec,Bool.not_true,cond_false,cond_true,List.length_set]
theorem c30:Ck 30 r30:=ck bfE Tryz.func30 (by
 intro X H r H' h hX hH
 unfold r30 at h;split at h <;> try contradiction
 ·obtain⟨hp,rfl,rfl⟩:=ik h
  obtain rfl:=bh (hH _ hm1) rfl
  obtain rfl:=(of_decide_eq_true hp).1
  obtain⟨F,hF⟩:=s30 _ _ _ _ _ hp (hX _ hm1) (hH _ hm0) (hH _ hm1)
  exact⟨_,abC (aXH F) hF⟩)
def bfH:List hI:=[]
def V31:Env:=dL fP dM bfH
noncomputable abbrev WJ:=ij V31 (some [(2,.view 9)]) (Tryz.f31).results.toList
theorem bfI:EOk Tryz.prog V31:=bL (by exact trivial)
def bfJ(F:Nat):Cuts:={ F:=F,at_:=fun n=>match n with | 3010=>some a6N | _=>none,join:=fun n=>match n with | 1020=>some q8 | 2018=>some xe | 3012=>some ag8 | 6003=>some Kf | _=>none,fin:=(some [(2,.view 9)]) }
abbrev WL(F n:Nat){σ:Type}(e:σ→St)(K:Ex→St→Rz)(N:σ→Rz):=Qe V31 (bfJ F) (bp Tryz.f31 n) e K N
def aN3:VS→St:=fun (a,b,c,d)=>hS [pS 0 0 3] [rB a 1 c d,z2 a b] 26 2
def ayI:u6→St:=fun (a,b,c,d)=>hS [pS 0 0 3] [rB a 1 b c,z2 a d] 26 2
def am6:u6→St:=fun (a,b,c,d)=>hS [pS 0 0 3,(3,.ns)] [rB a 1 b c,z2 a d] 26 2
def ayJ:D1→St:=fun (b,a,c,d,e)=>hS [pS 0 0 3,(3,.ns),iS 4 b] [rB a 1 c d,z2 a e] 26 2
def aN4:aGI→St:=fun (b,a,c,d,e,f)=>hS [pS 0 0 3,(3,.own 2 0 1),iS 4 b] [rB a 1 c d,z2 a e,sB f] 26 2
def VG:amY→St:=fun (a,b,c,d,e)=>hS [(3,.own 2 0 1)] [rB a 1 b c,z2 a d,sB e] 26 2
def as6(F:Nat)(a:u6→Rz):VS→Rz:=fun (b,c,d,e)=>(a (b,d,e,c))
theorem aXI F Rj1:WL F 2 aN3 (kq V31 Rj1 q8 WJ) (as6 F (Rj1∘ayI)):=fun _=>by kernel_rfl
def as7(F:Nat)(a:u6→Rz):u6→Rz:=fun (b,c,d,e)=>(a (b,c,d,e))
theorem aXJ F Rj2:WL F 6 ayI (kq V31 Rj2 xe WJ) (as7 F (Rj2∘am6)):=fun _=>by kernel_rfl
def as8(F:Nat)(a:D1→Rz)(f:amY→Rz):u6→Rz:=fun (b,c,d,e)=>(a ((0:Int),b,c,d,e))
theorem aXK F Rj3 Rj4:WL F 28 am6 (kq V31 Rj3 ag8 (kq V31 Rj4 Kf WJ)) (as8 F (Rj3∘ayJ) (Rj4∘VG)):=fun _=>by kernel_rfl
def am7(F:Nat)(g:aGI→Rz)(h:amY→Rz):aGI→Rz:=fun (a,b,e,f,c,d)=>(cond (decide (a < (↑b:Int))) (cond ((decide (0≤a))&&(decide (a < (↑b:Int)))) (cond (decide ((d.length+1) < 1073741824)) (g ((IntKind.i64.wrap (a+(1:Int))),b,e,f,c,(d++[((c.getD (Int.toNat a) []).getD 0 [])]))) none) none) (h (b,e,f,c,d)))
theorem aXL F Rl1 Rj4:WL F 116 aN4 (kq V31 Rl1 a6N (aV 0 (kq V31 Rj4 Kf WJ))) (am7 F (Rl1∘aN4) (Rj4∘VG)):=fun _=>by kernel_rfl
def apd:D1→Int×Nat×Bool×Int×(List (List Li))×(List Li):=fun (a,b,c,d,e)=>(a,b,c,d,e,[])
def aGZ(F:Nat)(a:amY→Rz):D1→Rz:=fun v=>eT (fun k=>am7 F k a) F (apd v)
theorem aXM F Rj4:WL F 58 ayJ (aV 0 (kq V31 Rj4 Kf WJ)) (aGZ F (Rj4∘VG)):=lpC apd (fun k=>am7 F k (Rj4∘VG)) (fun Rl1=>aXL F Rl1 Rj4)
def aG0(F:Nat)(a):=aGZ F a
theorem aXN F Rj4:WL F 29 ayJ (kq V31 Rj4 Kf WJ) (aG0 F (Rj4∘VG)):=biC (aXM F Rj4)
def as9(F:Nat)(a):=as8 F (aG0 F a) a
theorem aXO F Rj4:WL F 14 am6 (kq V31 Rj4 Kf WJ) (as9 F (Rj4∘VG)):=sqC (fun k=>as8 F k (Rj4∘VG)) (fun Rj3=>aXK F Rj3 Rj4) (aXN F Rj4)
def aG1(F:Nat):amY→Rz:=fun (a,b,c,d,e)=>(some ((.vs (.rS e) 0 1),[(rB a 1 b c),(.cells (a*4) (.rT [.str,.str,.bool,.bool] d) true)]))
theorem aXP F:WL F 15 VG WJ (aG1 F):=fun _=>by kernel_rfl
def aG2(F:Nat):=as9 F (aG1 F)
theorem aXQ F:WL F 7 am6 WJ (aG2 F):=sqC (as9 F) (fun Rj4=>aXO F Rj4) (aXP F)
def ayK(F:Nat):=as7 F (aG2 F)
theorem aN5 F:WL F 3 ayI WJ (ayK F):=sqC (as7 F) (fun Rj2=>aXJ F Rj2) (aXQ F)
def ayL(F:Nat):=as6 F (ayK F)
theorem aN6 F:WL F 1 aN3 WJ (ayL F):=sqC (as6 F) (fun Rj1=>aXI F Rj1) (aN5 F)
def f31(F:Nat):VS→Rz:=ayL F
def r31:eP:=fun X H=>match X,H with
 | [(.ptr 0 0 3 0 0 0 3)],[(.cells 3 (.segs (.cons 1 (.one (.own 1 a0n 4)) (.cons 1 (.one (.bool a0o)) (.cons 1 (.one (.int .i64 a0l)) .nil)))) true),(.cells z1 (.rT [.str,.str,.bool,.bool] a0s) true)]=>some ((decide (a0n=a0s.length∧a0n < 8000)),(.vs (.rS (Dk.rimage (Dk.R.mk a0s a0o a0l))) 0 1),[(rB (Dk.R.mk a0s a0o a0l).s.length 1 (Dk.R.mk a0s a0o a0l).off (Dk.R.mk a0s a0o a0l).left),(.cells ((Dk.R.mk a0s a0o a0l).s.length*4) (.rT [.str,.str,.bool,.bool] (Dk.R.mk a0s a0o a0l).s) true)])
 | _,_=>none
theorem s31(a0n:Nat)(a0s:List (List Li))(a0o:Bool)(a0l:Int)(hp:((decide (a0n=a0s.length∧a0n < 8000)))=true)(k0:okB (rB a0n 1 a0o a0l))(k1:okB (.cells (a0n*4) (.rT [.str,.str,.bool,.bool] a0s) true)):∃ F,f31 F (a0n,a0s,a0o,a0l)=some ((.vs (.rS (Dk.rimage (Dk.R.mk a0s a0o a0l))) 0 1),[(rB (Dk.R.mk a0s a0o a0l).s.length 1 (Dk.R.mk a0s a0o a0l).off (Dk.R.mk a0s a0o a0l).left),(.cells ((Dk.R.mk a0s a0o a0l).s.length*4) (.rT [.str,.str,.bool,.bool] (Dk.R.mk a0s a0o a0l).s) true)]):=by
 rw [decide_eq_true_iff] at hp
 obtain⟨hn,hlt⟩:=hp
 refine⟨a0n+1,?_⟩
 simp only [f31,ayL,as6,ayK,as7,aG2,as9,aG1,as8,aG0,aGZ,apd]
 refine iR (fun k=>((k:Int),a0n,a0o,a0l,a0s,(a0s.take k).map Dk.fT)) a0n (by rfl) (fun k hk K=>?_) (fun K=>?_) (a0n+1) (by omega)
 ·have e1:(decide (0≤(k:Int))&&decide ((k:Int) < (a0n:Int)))=true:=by rw [cH,decide_eq_true_iff];omega
  simp only [am7,e1,cond_true,bM (show -9223372036854775808≤(k:Int)+1 by omega) (by omega),Int.toNat_natCast]
  rw [aK (show(k:Int) < (a0n:Int) by omega),Dk.take_succ_map Dk.fT a0s k [] (by omega),aK (by simp;omega)]
  rfl
 ·simp only [am7]
  rw [ba (by omega)]
  subst hn
  rw [List.take_length]
  rfl
theorem c31:Ck 31 r31:=ck bfI Tryz.func31 (by
 intro X H r H' h hX hH
 unfold r31 at h;split at h <;> try contradiction
 ·obtain⟨hp,rfl,rfl⟩:=ik h
  obtain rfl:=bh (hH _ hm1) rfl
  obtain rfl:=(of_decide_eq_true hp).1
  obtain⟨F,hF⟩:=s31 _ _ _ _ hp (hH _ hm0) (hH _ hm1)
  exact⟨_,abC (aN6 F) hF⟩)
end Go.Am
end
section
namespace Go.Am
open Go Go.Proofs
abbrev a6P:List (Nat×Md):=[(1,.plain),(3,.plain),(4,.own 5),(5,.plain)]
abbrev a6Q:List (Nat×Md):=[(1,.plain),(3,.plain),(4,.plain),(5,.plain)]
abbrev aim:=Int×Int×Int×Int×Int×Li
abbrev ain:=Int×Int×Int×Int×Int×Int×Li
abbrev ata:=Int×Int×Int×Int×Int×Int×Int×Li
abbrev aG3:=Int×Int×Int×Int×Int×Int×Int×Li×Li
def bfK:List hI:=[]
def V15:Env:=dL fP dM bfK
noncomputable abbrev Qt:=ij V15 none (Tryz.f15).results.toList
theorem bfL:EOk Tryz.prog V15:=bL (by exact trivial)
def bfM(F:Nat):Cuts:={ F:=F,at_:=fun n=>match n with | 4010=>some a6P | _=>none,join:=fun n=>match n with | 1022=>some [(1,.plain)] | 2020=>some aoN | 3018=>some aED | 4012=>some a6Q | 7003=>some xa | _=>none }
abbrev Qu(F n:Nat){σ:Type}(e:σ→St)(K:Ex→St→Rz)(N:σ→Rz):=Qe V15 (bfM F) (bp Tryz.f15 n) e K N
abbrev z17 a:=(.vs (.rI .i64 a) 0 1:AV)
def aN7:aim→St:=fun (a,b,c,d,e,f)=>hS [(0,(.agg 6 (.segs (.cons 1 (.one (.int .i64 a)) (.cons 1 (.one (.int .i64 b)) (.cons 1 (.one (.int .i64 c)) (.cons 1 (.one (.int .i64 d)) (.cons 1 (.one (.int .u8 e)) (.cons 1 (.one (z17 f)) .nil)))))))))] [] 25 0
abbrev z5 a b c d e f:=(.cells 6 (.segs (.cons 1 (.one (.int .i64 a)) (.cons 1 (.one (.int .i64 b)) (.cons 1 (.one (.int .i64 c)) (.cons 1 (.one (.int .i64 d)) (.cons 1 (.one (.int .u8 e)) (.cons 1 (.one (.vs (.rI .i64 f) 0 1)) .nil))))))) true:Blk)
def ayM:aim→St:=fun (a,b,c,d,e,f)=>hS [pS 1 0 6] [z5 a b c d e f] 25 0
def ayN:ain→St:=fun (a,b,c,d,e,f,g)=>hS [pS 1 0 6,iS 3 a] [z5 b c d e f g] 25 0
def am8:ain→St:=fun (a,b,c,d,e,f,g)=>hS [pS 1 0 6,iS 3 a,(4,.ns)] [z5 b c d e f g] 25 0
def ayO:ata→St:=fun (a,b,c,d,e,f,g,h)=>hS [pS 1 0 6,iS 3 a,(4,.ns),iS 5 b] [z5 c d e f g h] 25 0
def aN8:aG3→St:=fun (a,b,c,d,e,f,g,h,i)=>hS [pS 1 0 6,iS 3 a,(4,.own 1 0 1),iS 5 b] [z5 c d e f g h,bB i] 25 0
def VH:Li→St:=fun a=>hS [(4,.own 0 0 1)] [bB a] 25 0
def atb(F:Nat)(a:aim→Rz):aim→Rz:=fun (b,c,d,e,f,g)=>(a (b,c,d,e,f,g))
theorem aXR F Rj1:Qu F 2 aN7 (kq V15 Rj1 [(1,.plain)] Qt) (atb F (Rj1∘ayM)):=fun _=>by kernel_rfl
def atc(F:Nat)(b:ain→Rz):aim→Rz:=fun (c,d,e,a,f,g)=>(b ((if (8100:Int) < (if (0:Int) > a then (0:Int) else a) then (8100:Int) else (if (0:Int) > a then (0:Int) else a)),c,d,e,a,f,g))
theorem aXS F Rj2:Qu F 6 ayM (kq V15 Rj2 aoN Qt) (atc F (Rj2∘ayN)):=fun _=>by kernel_rfl
def atd(F:Nat)(a:ain→Rz):ain→Rz:=fun (b,c,d,e,f,g,h)=>(a (b,c,d,e,f,g,h))
theorem aXT F Rj3:Qu F 14 ayN (kq V15 Rj3 aED Qt) (atd F (Rj3∘am8)):=fun _=>by kernel_rfl
def ate(F:Nat)(a:ata→Rz)(i:Li→Rz):ain→Rz:=fun (b,c,d,e,f,g,h)=>(a (b,(0:Int),c,d,e,f,g,h))
theorem aXU F Rj4 Rj5:Qu F 60 am8 (kq V15 Rj4 a6Q (kq V15 Rj5 xa Qt)) (ate F (Rj4∘ayO) (Rj5∘VH)):=fun _=>by kernel_rfl
def am9(F:Nat)(e:aG3→Rz)(f:Li→Rz):aG3→Rz:=fun (c,a,g,h,i,j,d,k,b)=>(cond (decide (a < c)) (cond (decide ((b.length+1) < 1073741824)) (e (c,(IntKind.i64.wrap (a+(1:Int))),g,h,i,j,d,k,(b++[(IntKind.u8.wrap (d+(IntKind.u8.wrap a)))]))) none) (f b))
theorem aXV F Rl1 Rj5:Qu F 244 aN8 (kq V15 Rl1 a6P (aV 0 (kq V15 Rj5 xa Qt))) (am9 F (Rl1∘aN8) (Rj5∘VH)):=fun _=>by kernel_rfl
def ape:ata→Int×Int×Int×Int×Int×Int×Int×Li×Li:=fun (a,b,c,d,e,f,g,h)=>(a,b,c,d,e,f,g,h,[])
def aG4(F:Nat)(a:Li→Rz):ata→Rz:=fun v=>eT (fun k=>am9 F k a) F (ape v)
theorem aXW F Rj5:Qu F 122 ayO (aV 0 (kq V15 Rj5 xa Qt)) (aG4 F (Rj5∘VH)):=lpC ape (fun k=>am9 F k (Rj5∘VH)) (fun Rl1=>aXV F Rl1 Rj5)
def aG5(F:Nat)(a):=aG4 F a
theorem aXX F Rj5:Qu F 61 ayO (kq V15 Rj5 xa Qt) (aG5 F (Rj5∘VH)):=biC (aXW F Rj5)
def atf(F:Nat)(a):=ate F (aG5 F a) a
theorem aXY F Rj5:Qu F 30 am8 (kq V15 Rj5 xa Qt) (atf F (Rj5∘VH)):=sqC (fun k=>ate F k (Rj5∘VH)) (fun Rj4=>aXU F Rj4 Rj5) (aXX F Rj5)
def a6R(F:Nat):Li→Rz:=fun a=>(some ((.str a),[]))
theorem aXZ F:Qu F 31 VH Qt (a6R F):=fun _=>by kernel_rfl
def ayP(F:Nat):=atf F (a6R F)
theorem aN9 F:Qu F 15 am8 Qt (ayP F):=sqC (atf F) (fun Rj5=>aXY F Rj5) (aXZ F)
def ayQ(F:Nat):=atd F (ayP F)
theorem aOa F:Qu F 7 ayN Qt (ayQ F):=sqC (atd F) (fun Rj3=>aXT F Rj3) (aN9 F)
def ayR(F:Nat):=atc F (ayQ F)
theorem aOb F:Qu F 3 ayM Qt (ayR F):=sqC (atc F) (fun Rj2=>aXS F Rj2) (aOa F)
def ayS(F:Nat):=atb F (ayR F)
theorem aOc F:Qu F 1 aN7 Qt (ayS F):=sqC (atb F) (fun Rj1=>aXR F Rj1) (aOb F)
def f15(F:Nat):aim→Rz:=ayS F
def r15:eP:=fun X H=>match X,H with
 | [(.agg 6 (.segs (.cons 1 (.one (.int .i64 a0_0)) (.cons 1 (.one (.int .i64 a0_1)) (.cons 1 (.one (.int .i64 a0_2)) (.cons 1 (.one (.int .i64 a0_3)) (.cons 1 (.one (.int .u8 a0_4)) (.cons 1 (.one (.vs (.rI .i64 a0_5) 0 1)) .nil))))))))],[]=>some (true,(.str (Jr.text a0_3 a0_4)),[])
 | _,_=>none
theorem s15(a0_0 a0_1:Int)(a0_2 a0_3 a0_4:Int)(a0_5:Li)(h0:okV (.agg 6 (.segs (.cons 1 (.one (.int .i64 a0_0)) (.cons 1 (.one (.int .i64 a0_1)) (.cons 1 (.one (.int .i64 a0_2)) (.cons 1 (.one (.int .i64 a0_3)) (.cons 1 (.one (.int .u8 a0_4)) (.cons 1 (.one (.vs (.rI .i64 a0_5) 0 1)) .nil))))))))):∃ F,f15 F (a0_0,a0_1,a0_2,a0_3,a0_4,a0_5)=some ((.str (Jr.text a0_3 a0_4)),[]):=by
 have hN:=Jr.textN_le a0_3
 obtain⟨F,hF⟩:∃ F,F=8200:=⟨_,rfl⟩
 refine⟨F,?_⟩
 simp only [f15,ayS,atb,ayR,atc,ayQ,atd,ayP,atf,ate,aG5,aG4,ape]
 refine iR (fun i=>(Jr.textN a0_3,(i:Int),a0_0,a0_1,a0_2,a0_3,a0_4,a0_5,(List.range i).map fun k:Nat=>IntKind.u8.wrap (a0_4+IntKind.u8.wrap (k:Int)))) (Jr.textN a0_3).toNat rfl (fun i hi q=>?_) (fun q=>?_) F (by omega)
 ·simp only [am9]
  rw [aK (by omega),aK (by rw [List.length_map,List.length_range];omega),bM (by omega) (by omega),List.range_succ,List.map_append]
  rfl
 ·simp only [am9]
  rw [ba (by omega)]
  rfl
theorem c15:Ck 15 r15:=ck bfL Tryz.func15 (by
 intro X H r H' h hX hH
 unfold r15 at h;split at h <;> try contradiction
 ·obtain⟨hp,rfl,rfl⟩:=ik h
  obtain⟨F,hF⟩:=s15 _ _ _ _ _ _ (hX _ hm0)
  exact⟨_,abC (aOc F) hF⟩)
end Go.Am
end
section
/- A journal of the program and one of the specification under the steps of a script. -/
namespace Go.Jr
open Go Go.Am Go.Dk
structure Bnd (N k:Nat) (j:J):Prop where
 f0:0≤j.fin
 f1:j.fin≤(N:Int)
 x0:1≤j.next
 x1:j.next≤4097
 n:j.nums.length≤N+k
 t:j.texts.length≤N+k
 b:j.bad.length≤N
theorem Bnd.mono{N k:Nat}{j:J}(h:Bnd N k j):Bnd N (k+1) j:=⟨h.f0,h.f1,h.x0,h.x1,by have:=h.n;omega,by have:=h.t;omega,h.b⟩
theorem bnd_open{S:List Li}{N:Nat}(k:Nat)(h:S.length=N):Bnd N k (openS S):=by
 obtain⟨h1,h2,h3,h4,h5,h6,h7,h8⟩:=awm S
 exact⟨h6,by omega,h4,h5,by omega,by omega,by omega⟩
theorem Bnd.append{N k:Nat}{j:J}(h:Bnd N k j){δ:Type}{V:Dev δ}{d:δ}(hn:V.n d=(N:Int))(t:Li):Bnd N (k+1) (append V d j t).2.1:=by
 have hb:=aEA V d j t
 have hm:=h.mono
 obtain⟨c1,c2⟩:=count_nn (t.length:Int)
 simp only [Jr.append] at hb ⊢
 cases j.closed
 ·by_cases h1:(8000:Int) < t.length
  ·rw [decide_eq_true h1];exact hm
  ·rw [decide_eq_false h1]
   by_cases h2:j.next > 4096
   ·rw [decide_eq_true h2];exact hm
   ·rw [decide_eq_false h2]
    by_cases h3:count t.length > V.n d-j.fin
    ·rw [decide_eq_true h3];exact hm
    ·rw [decide_eq_false h3]
     rw [hn] at h3
     have hk:∀ k':J,k'.next=j.next+1→k'.fin=j.fin+count t.length→k'.nums.length≤j.nums.length+1→k'.texts.length≤j.texts.length+1→k'.bad=j.bad→Bnd N (k+1) k':=fun k' a1 a2 a3 a4 a5=>
      ⟨by rw [a2];have:=h.f0;omega,by rw [a2];omega,by rw [a1];have:=h.x0;omega,by rw [a1];omega,by have:=h.n;omega,by have:=h.t;omega,by rw [a5];exact h.b⟩
     cases ((writeAll V d j.fin (sectors j.next t)).2.1 != 0)
     ·cases (!(writeAll V d j.fin (sectors j.next t)).2.2)
      ·exact hk _ rfl rfl (by simp) (by simp) rfl
      ·exact hk _ rfl rfl (by simp) (by simp) rfl
     ·exact hk _ rfl rfl (by simp) (by simp) rfl
 ·exact hm
theorem Bnd.okS{N k:Nat}{j:J}(h:Bnd N k j)(hN:N≤4000)(hk:k≤4000):okS j=true:=by
 have:=h.x1;have:=h.n;have:=h.t;have:=h.b
 rw [Jr.okS,decide_eq_true_iff];omega
theorem Bnd.okJR{N k:Nat}{j:J}(h:Bnd N k j)(hN:N≤4000)(hk:k≤4000):okJR j=true:=by
 have:=h.f0;have:=h.f1;have:=h.x0;have:=h.x1;have:=h.n;have:=h.t
 rw [Jr.okJR,decide_eq_true_iff];omega
theorem Bnd.okJ{N k:Nat}{j:J}(h:Bnd N k j)(hN:N < 4000)(hk:k≤4000){d:D}{r:R}(hr:Rel d r)(hd:d.n=N):okJ d j=true:=by
 have:=h.f0;have:=h.f1;have:=h.x0;have:=h.x1;have:=h.n;have:=h.t
 have:=Rel.pends hr
 rw [Jr.okJ,decide_eq_true_iff];omega
theorem append_n{d:D}{r:R}(h:DR d r)(j:J)(t:Li):(append DV d j t).1.n=d.n:=by
 have hw:∀ k,(writes DV j.fin (sectors j.next t) k d).1.n=d.n:=fun k=>by
  induction k with
  | zero=>rfl
  | succ k ih=>
   rw [writes]
   cases ((writes DV j.fin (sectors j.next t) k d).2 != 0)
   ·exact(aBh _ _ _).trans ih
   ·exact ih
 have hall:(writeAll DV d j.fin (sectors j.next t)).1.n=d.n:=by
  rw [writeAll]
  cases ((writes DV j.fin (sectors j.next t) (sectors j.next t).length d).2 != 0)
  ·cases ((DV.flush (writes DV j.fin (sectors j.next t) (sectors j.next t).length d).1).2 != 0)
   ·exact(aoA _).trans (hw _)
   ·exact(aoA _).trans (hw _)
  ·exact hw _
 simp only [Jr.append]
 cases j.closed
 ·cases decide ((8000:Int) < t.length)
  ·cases decide (j.next > 4096)
   ·cases decide (count t.length > DV.n d-j.fin)
    ·cases ((writeAll DV d j.fin (sectors j.next t)).2.1 != 0)
     ·cases (!(writeAll DV d j.fin (sectors j.next t)).2.2) <;> exact hall
     ·exact hall
    ·rfl
   ·rfl
  ·rfl
 ·rfl
theorem rot_n(d:D)(i b:Int):(rot d i b).1.n=d.n:=by
 simp only [rot]
 cases decide (i < 0)
 ·cases decide (i≥(d.n:Int))
  ·cases decide (b < 0)
   ·cases decide (b≥512) <;> rfl
   ·rfl
  ·rfl
 ·rfl
theorem wear_n(d:D)(i:Int):(wear d i).1.n=d.n:=by
 simp only [wear]
 cases decide (i < 0)
 ·cases decide (i≥(d.n:Int)) <;> rfl
 ·rfl
theorem step_int{xs:RL}{n:Nat}(h:okV (.vs (.rT [.int .i64,.int .i64,.int .i64,.int .i64,.int .u8,.sl .i64] xs) n 6)){k:Nat}(hk:k < n):
  -9223372036854775808≤(((xs.getD k []).getD 1 []).getD 0 0)∧(((xs.getD k []).getD 1 []).getD 0 0)≤9223372036854775807:=by
 obtain⟨h1,_,h3⟩:=h
 have:=h3 (k*6+1) (by omega)
 simp only [AV.cell,List.length_cons,List.length_nil,show(k*6+1)%(0+1+1+1+1+1+1)=1 by omega,show(k*6+1) / (0+1+1+1+1+1+1)=k by omega] at this
 exact this
end Go.Jr
end
section
namespace Go.Am
open Go Go.Proofs
abbrev atg:List (Nat×Md):=[(5,.plain),(7,.plain),(9,.plain),(11,.plain),(69,.plain),(70,.plain),(71,.plain)]
abbrev ath:List (Nat×Md):=[(0,.plain),(1,.plain),(5,.plain),(6,.plain)]
abbrev ati:List (Nat×Md):=[(1,.plain),(5,.plain),(6,.plain),(7,.plain),(8,.plain)]
abbrev a6S:List (Nat×Md):=[(1,.plain),(5,.plain),(7,.plain)]
abbrev a6T:List (Nat×Md):=[(1,.plain),(5,.plain),(7,.plain),(9,.plain),(10,.plain)]
abbrev a6U:List (Nat×Md):=[(1,.plain),(5,.plain),(7,.plain),(9,.plain),(10,.plain),(11,.plain),(12,.plain)]
abbrev a6V:List (Nat×Md):=[(1,.plain),(5,.plain),(7,.plain),(9,.plain),(11,.plain)]
abbrev aio:List (Nat×Md):=[(5,.plain),(7,.plain)]
abbrev zP:=Int×(List (List Li))×Nat
abbrev aG6:=Int×(List (List Li))×Nat×Int×(Dk.D)
abbrev aG7:=(List (List Li))×Nat×Int×Int×(Dk.D)×(Dk.R)
abbrev aG8:=(List (List Li))×Nat×(Dk.D)×(Dk.R)
abbrev aG9:=(List (List Li))×Nat×Int×(Dk.D)×(Jr.J)×(Dk.R)
abbrev QC:=(List (List Li))×Nat×Int×Int×(Dk.D)×(Jr.J)×(Dk.R)×(Jr.J)
abbrev aHa:=(List (List Li))×Nat×(Dk.D)×(Jr.J)×(Dk.R)×(Jr.J)
def baw:List hI:=[]
def Qv:Env:=dL fP dM baw
noncomputable abbrev Qw:=ij Qv none (Tryz.f21).results.toList
theorem bax:EOk Tryz.prog Qv:=bL (by exact trivial)
def bay(F:Nat):Cuts:={ F:=F,at_:=fun n=>match n with | 5010=>some VQ | _=>none,join:=fun n=>match n with | 1028=>some q8 | 3020=>some q8 | 4018=>some YX | 5012=>some VQ | 8003=>some xa | _=>none }
abbrev J2(F n:Nat){σ:Type}(e:σ→St)(K:Ex→St→Rz)(N:σ→Rz):=Qe Qv (bay F) (bp Tryz.f21 n) e K N
def aBo:Int→St:=fun a=>hS [iS 0 a] [] 32 0
def aip:Int→St:=fun a=>hS [iS 0 a] [] 32 0
def apf:Int→St:=aip
def aiq:D1→St:=fun (b,a,c,d,e)=>hS [iS 0 b,pS 4 0 3] [rB a 1 c d,z2 a e] 32 0
def air:P7→St:=fun (b,c,a,d,e,f)=>hS [iS 0 b,pS 4 0 3,iS 5 c] [rB a 1 d e,z2 a f] 32 0
def aBp:P7→St:=air
def KH:u6→St:=fun (a,b,c,d)=>hS [pS 4 0 3] [rB a 1 b c,z2 a d] 32 0
def ana(F:Nat)(a:Int→Rz):Int→Rz:=fun b=>(a b)
theorem aOd F Rj1:J2 F 2 aBo (kq Qv Rj1 q8 Qw) (ana F (Rj1∘aip)):=fun _=>by kernel_rfl
def anb(F:Nat)(b:Int→Rz):Int→Rz:=fun a=>(cond (decide (a < (1:Int))) (some ((.tup (.cons 0 .nilp (.cons 0 (.int .i64 1) .nil))),[])) (cond (decide (a > (4096:Int))) (some ((.tup (.cons 0 .nilp (.cons 0 (.int .i64 1) .nil))),[])) (b a)))
theorem aOe F Rj2:J2 F 6 aip (kq Qv Rj2 q8 Qw) (anb F (Rj2∘apf)):=fun _=>by kernel_rfl
def ayT(F:Nat)(a:D1→Rz):Int→Rz:=fun b=>(a (b,0,false,(-1:Int),[]))
theorem aOf F Rj3:J2 F 14 apf (kq Qv Rj3 YX Qw) (ayT F (Rj3∘aiq)):=fun _=>by kernel_rfl
def ayU(F:Nat)(a:P7→Rz)(g:u6→Rz):D1→Rz:=fun (b,c,d,e,f)=>(a (b,(0:Int),c,d,e,f))
theorem aOg F Rj4 Rj5:J2 F 60 aiq (kq Qv Rj4 VQ (kq Qv Rj5 xa Qw)) (ayU F (Rj4∘air) (Rj5∘KH)):=fun _=>by kernel_rfl
def ayV(F:Nat)(g:P7→Rz)(h:u6→Rz):P7→Rz:=fun (b,c,a,d,e,f)=>(cond (decide (c < b)) (cond (decide ((a+1) < 1073741824)) (g (b,(IntKind.i64.wrap (c+(1:Int))),(a+1),d,e,(f++[[(List.replicate 64 0),[],[0],[0]]]))) none) (h (a,d,e,f)))
theorem aOh F Rl1 Rj5:J2 F 244 aBp (kq Qv Rl1 VQ (aV 0 (kq Qv Rj5 xa Qw))) (ayV F (Rl1∘aBp) (Rj5∘KH)):=fun _=>by kernel_rfl
def ayW:P7→Int×Int×Nat×Bool×Int×(List (List Li)):=fun (a,b,c,d,e,f)=>(a,b,c,d,e,f)
def aOi(F:Nat)(a:u6→Rz):P7→Rz:=fun v=>eT (fun k=>ayV F k a) F (ayW v)
theorem aOj F Rj5:J2 F 122 air (aV 0 (kq Qv Rj5 xa Qw)) (aOi F (Rj5∘KH)):=lpC ayW (fun k=>ayV F k (Rj5∘KH)) (fun Rl1=>aOh F Rl1 Rj5)
def aOk(F:Nat)(a):=aOi F a
theorem aOl F Rj5:J2 F 61 air (kq Qv Rj5 xa Qw) (aOk F (Rj5∘KH)):=biC (aOj F Rj5)
def ayX(F:Nat)(a):=ayU F (aOk F a) a
theorem aOm F Rj5:J2 F 30 aiq (kq Qv Rj5 xa Qw) (ayX F (Rj5∘KH)):=sqC (fun k=>ayU F k (Rj5∘KH)) (fun Rj4=>aOg F Rj4 Rj5) (aOl F Rj5)
def aOn(F:Nat):u6→Rz:=fun (a,b,c,d)=>(some ((.tup (.cons 0 (.ptr 0 0 3 0 0 0 3) (.cons 0 (.int .i64 0) .nil))),[(rB a 1 b c),(.cells (a*4) (.rT [.str,.str,.bool,.bool] d) true)]))
theorem aOo F:J2 F 31 KH Qw (aOn F):=fun _=>by kernel_rfl
def aBq(F:Nat):=ayX F (aOn F)
theorem aHb F:J2 F 15 aiq Qw (aBq F):=sqC (ayX F) (fun Rj5=>aOm F Rj5) (aOo F)
def aBr(F:Nat):=ayT F (aBq F)
theorem aHc F:J2 F 7 apf Qw (aBr F):=sqC (ayT F) (fun Rj3=>aOf F Rj3) (aHb F)
def apg(F:Nat):=anb F (aBr F)
theorem aHd F:J2 F 3 aip Qw (apg F):=sqC (anb F) (fun Rj2=>aOe F Rj2) (aHc F)
def aph(F:Nat):=ana F (apg F)
theorem aHe F:J2 F 1 aBo Qw (aph F):=sqC (ana F) (fun Rj1=>aOd F Rj1) (aHd F)
def a9H(F:Nat):Int→Rz:=aph F
def aX0:eP:=fun X H=>match X,H with
 | [(.int .i64 a0)],[]=>some ((!((decide (0 < a0))&&(decide (a0 < 4097)))),(.tup (.cons 0 .nilp (.cons 0 (.int .i64 1) .nil))),[])
 | _,_=>none
theorem bfN(a0:Int)(hp:((!((decide (0 < a0))&&(decide (a0 < 4097)))))=true)(h0:okV (.int .i64 a0)):∃ F,a9H F a0=some ((.tup (.cons 0 .nilp (.cons 0 (.int .i64 1) .nil))),[]):=by
 refine⟨0,?_⟩
 rw [cH,aA1,decide_eq_true_iff] at hp
 simp only [a9H,aph,ana,apg,anb]
 by_cases h:a0 < 1
 ·rw [aK h]
 ·rw [ba h,aK (show a0 > 4096 by omega)]
theorem c21i:Ck 21 aX0:=ck bax Tryz.func21 (by
 intro X H r H' h hX hH
 unfold aX0 at h;split at h <;> try contradiction
 ·obtain⟨hp,rfl,rfl⟩:=ik h
  obtain⟨F,hF⟩:=bfN _ hp (hX _ hm0)
  exact⟨_,abC (aHe F) hF⟩)
def bfO:List hI:=[(7,[],r7),(9,[none],r9),(10,[some 9,some 9],r10),(13,[none,none],r13),(14,[none,none],r14),(15,[none],r15),(16,[none,some 3],r16),(18,[none],r18),(19,[some 25],r19),(20,[none],r20),(21,[none],r21),(22,[none],r22),(23,[none,none],r23),(24,[none,none],r24),(25,[none,none],r25),(26,[none,some 3],r26),(27,[none,none,none],r27),(28,[none,none,none],r28),(29,[none,none],r29),(30,[none,none],r30),(31,[none],r31)]
def V4v:Env:=dL fP DW bfO
noncomputable abbrev Ah:=ij V4v none (Tryz.f4).results.toList
theorem bfP:EOk Tryz.prog V4v:=bL (by exact⟨c7.more uP,c9.more uP,c10.more uP,c13.more uP,c14.more uP,c15.more uP,c16.more uP,c18.more uP,c19.more uP,c20.more uP,c21.more uP,c22,c23.more uP,c24,c25.more uP,c26.more uP,c27.more uP,c28.more uP,c29.more uP,c30.more uP,c31.more uP,trivial⟩)
def bfQ(F:Nat):Cuts:={ F:=F,at_:=fun n=>match n with | 12087=>some atg | _=>none,join:=fun n=>match n with | 1127=>some uY | 3119=>some uY | 4117=>some ath | 5115=>some ati | 7107=>some a6S | 8105=>some a6T | 9103=>some a6U | 11095=>some a6V | 12089=>some atg | 40003=>some aio | _=>none }
abbrev Ai(F n:Nat){σ:Type}(e:σ→St)(K:Ex→St→Rz)(N:σ→Rz):=Qe V4v (bfQ F) (bp Tryz.f4 n) e K N
def ayY:zP→St:=fun (a,b,c)=>hS [iS 0 a,(1,(z4 b c))] [] 190 0
def ae7:zP→St:=fun (a,b,c)=>hS [iS 0 a,(1,(z4 b c))] [] 190 0
def ayZ:zP→St:=ae7
def ay0:aG6→St:=fun (b,c,d,e,a)=>hS [iS 0 b,(1,(z4 c d)),pS 5 0 5,iS 6 e] [dE 1 a 2 3,bB a.blk,pB a.pend,wB a.worn] 190 0
def ay1:aG7→St:=fun (c,d,e,f,a,b)=>hS [(1,(z4 c d)),pS 5 0 5,iS 6 e,pS 7 1 3,iS 8 f] [dE 2 a 3 4,rB b.s.length 5 b.off b.left,bB a.blk,pB a.pend,wB a.worn,tB b.s] 190 0
def ay2:aG8→St:=fun (c,d,a,b)=>hS [(1,(z4 c d)),pS 5 0 5,pS 7 1 3] [dE 2 a 3 4,rB b.s.length 5 b.off b.left,bB a.blk,pB a.pend,wB a.worn,tB b.s] 190 0
def ay3:aG9→St:=fun (d,e,f,a,b,c)=>hS [(1,(z4 d e)),pS 5 0 5,pS 7 1 3,pS 9 2 7,iS 10 f] [dE 3 a 4 5,rB c.s.length 6 c.off c.left,jE 0 5 7 8 9 b,bB a.blk,pB a.pend,wB a.worn,tB c.s,iB b.nums,iB b.bad,sB b.texts] 190 0
def ay4:QC→St:=fun (e,f,g,h,a,b,c,d)=>hS [(1,(z4 e f)),pS 5 0 5,pS 7 1 3,pS 9 2 7,iS 10 g,pS 11 3 7,iS 12 h] [dE 4 a 5 6,rB c.s.length 7 c.off c.left,jE 0 5 8 9 10 b,jE 1 3 11 12 13 d,bB a.blk,pB a.pend,wB a.worn,tB c.s,iB b.nums,iB b.bad,sB b.texts,iB d.nums,sB d.texts,iB d.bad] 190 0
def anc:aHa→St:=fun (e,f,a,b,c,d)=>hS [(1,(z4 e f)),pS 5 0 5,pS 7 1 3,pS 9 2 7,pS 11 3 7] [dE 4 a 5 6,rB c.s.length 7 c.off c.left,jE 0 5 8 9 10 b,jE 1 3 11 12 13 d,bB a.blk,pB a.pend,wB a.worn,tB c.s,iB b.nums,iB b.bad,sB b.texts,iB d.nums,sB d.texts,iB d.bad] 190 0
def ane:QC→St:=fun (e,f,g,h,a,b,c,d)=>hS [pS 5 0 5,pS 7 1 3,pS 9 2 7,pS 11 3 7,(69,(z4 e f)),iS 70 g,iS 71 h] [dE 4 a 5 6,rB c.s.length 7 c.off c.left,jE 0 5 8 9 10 b,jE 1 3 11 12 13 d,bB a.blk,pB a.pend,wB a.worn,tB c.s,iB b.nums,iB b.bad,sB b.texts,iB d.nums,sB d.texts,iB d.bad] 190 0
def aOp:QC→St:=ane
def KI:(Dk.D)×(Dk.R)→St:=fun (a,b)=>hS [pS 5 0 5,pS 7 1 3] [dE 2 a 3 4,rB b.s.length 5 b.off b.left,bB a.blk,pB a.pend,wB a.worn,tB b.s] 190 0
def atj(F:Nat)(a:zP→Rz):zP→Rz:=fun (b,c,d)=>(a (b,c,d))
theorem aX1 F Rj1:Ai F 2 ayY (kq V4v Rj1 uY Ah) (atj F (Rj1∘ae7)):=fun _=>by kernel_rfl
def atk(F:Nat)(d:zP→Rz):zP→Rz:=fun (a,b,c)=>(cond (decide (a > (200:Int))) (some ((.bool true),[])) (cond (!(Jr.few b c)) (some ((.bool true),[])) (d (a,b,c))))
theorem aX2 F Rj2:Ai F 6 ae7 (kq V4v Rj2 uY Ah) (atk F (Rj2∘ayZ)):=fun _=>by kernel_rfl
def atl(F:Nat)(b:aG6→Rz):zP→Rz:=fun (a,c,d)=>(cond ((decide (0 < a))&&(decide (a < 4097))) (b (a,c,d,0,(Dk.new a))) none)
theorem aX3 F Rj3:Ai F 14 ayZ (kq V4v Rj3 ath Ah) (atl F (Rj3∘ay0)):=fun _=>by kernel_rfl
def atm(F:Nat)(b:aG7→Rz):aG6→Rz:=fun (a,c,d,e,f)=>(cond ((decide (0 < a))&&(decide (a < 4097))) (b (c,d,e,0,f,(Dk.rnew a))) none)
theorem aX4 F Rj4:Ai F 30 ay0 (kq V4v Rj4 ati Ah) (atm F (Rj4∘ay1)):=fun _=>by kernel_rfl
def atn(F:Nat)(c:aG8→Rz):aG7→Rz:=fun (d,e,a,b,f,g)=>(cond (a != b) (some ((.bool (a==b)),[])) (cond (a != (0:Int)) (some ((.bool (a==b)),[])) (c (d,e,f,g))))
theorem aX5 F Rj5:Ai F 62 ay1 (kq V4v Rj5 a6S Ah) (atn F (Rj5∘ay2)):=fun _=>by kernel_rfl
def ato(F:Nat)(b:aG9→Rz):aG8→Rz:=fun (c,d,a,e)=>(cond ((Dk.fine a)&&(!a.off)) (b (c,d,0,a,(Jr.openS (Jr.secsD a)),e)) none)
theorem aX6 F Rj6:Ai F 126 ay2 (kq V4v Rj6 a6T Ah) (ato F (Rj6∘ay3)):=fun _=>by kernel_rfl
def atp(F:Nat)(b:QC→Rz):aG9→Rz:=fun (c,d,e,f,g,a)=>(cond ((decide (a.s.length=a.s.length∧a.s.length < 8000))&&((Dk.rfine a)&&(!a.off))) (b (c,d,e,0,f,g,a,(Jr.openS (Jr.secsR a)))) none)
theorem aX7 F Rj7:Ai F 254 ay3 (kq V4v Rj7 a6U Ah) (atp F (Rj7∘ay4)):=fun _=>by kernel_rfl
def atq(F:Nat)(e:aHa→Rz):QC→Rz:=fun (f,g,h,i,d,b,a,c)=>(cond (h != i) (some ((.bool false),[])) (cond ((decide (a.s.length=a.s.length∧a.s.length < 8000))&&((Jr.okS b)&&(Jr.okS c))) (cond (!(Jr.same b d c a)) (some ((.bool false),[])) (e (f,g,d,b,a,c))) none))
theorem aX8 F Rj8:Ai F 510 ay4 (kq V4v Rj8 a6V Ah) (atq F (Rj8∘anc)):=fun _=>by kernel_rfl
def atr(F:Nat)(b:QC→Rz)(h:(Dk.D)×(Dk.R)→Rz):aHa→Rz:=fun (c,a,d,e,f,g)=>(b (c,a,(↑a:Int),(0:Int),d,e,f,g))
theorem aX9 F Rj9 Rj10:Ai F 2044 anc (kq V4v Rj9 atg (kq V4v Rj10 aio Ah)) (atr F (Rj9∘ane) (Rj10∘KI)):=fun _=>by kernel_rfl
def aht(F:Nat)(i:QC→Rz)(j:(Dk.D)×(Dk.R)→Rz):QC→Rz:=fun (b,g,h,a,d,f,c,e)=>(cond (decide (a < h)) (cond ((decide (0≤a))&&(decide (a < (↑g:Int)))) (cond ((((b.getD (Int.toNat a) []).getD 0 []).getD 0 0)==(1:Int)) (cond ((Dk.fine d)&&(Jr.okJ d f)) (cond ((decide (c.s.length=c.s.length∧c.s.length < 8000))&&((Dk.rfine c)&&(Jr.okJR e))) (cond ((Jr.append Jr.DV d f (Jr.text (((b.getD (Int.toNat a) []).getD 3 []).getD 0 0) (((b.getD (Int.toNat a) []).getD 4 []).getD 0 0))).2.2.1 != (Jr.append Jr.RV c e (Jr.text (((b.getD (Int.toNat a) []).getD 3 []).getD 0 0) (((b.getD (Int.toNat a) []).getD 4 []).getD 0 0))).2.2.1) (some ((.bool false),[])) (cond ((Jr.append Jr.DV d f (Jr.text (((b.getD (Int.toNat a) []).getD 3 []).getD 0 0) (((b.getD (Int.toNat a) []).getD 4 []).getD 0 0))).2.2.2 != (Jr.append Jr.RV c e (Jr.text (((b.getD (Int.toNat a) []).getD 3 []).getD 0 0) (((b.getD (Int.toNat a) []).getD 4 []).getD 0 0))).2.2.2) (some ((.bool false),[])) (cond (!(Jr.append Jr.RV c e (Jr.text (((b.getD (Int.toNat a) []).getD 3 []).getD 0 0) (((b.getD (Int.toNat a) []).getD 4 []).getD 0 0))).2.1.closed) (cond ((decide ((Jr.append Jr.RV c e (Jr.text (((b.getD (Int.toNat a) []).getD 3 []).getD 0 0) (((b.getD (Int.toNat a) []).getD 4 []).getD 0 0))).1.s.length=(Jr.append Jr.RV c e (Jr.text (((b.getD (Int.toNat a) []).getD 3 []).getD 0 0) (((b.getD (Int.toNat a) []).getD 4 []).getD 0 0))).1.s.length∧(Jr.append Jr.RV c e (Jr.text (((b.getD (Int.toNat a) []).getD 3 []).getD 0 0) (((b.getD (Int.toNat a) []).getD 4 []).getD 0 0))).1.s.length < 8000))&&((Jr.okS (Jr.append Jr.DV d f (Jr.text (((b.getD (Int.toNat a) []).getD 3 []).getD 0 0) (((b.getD (Int.toNat a) []).getD 4 []).getD 0 0))).2.1)&&(Jr.okS (Jr.append Jr.RV c e (Jr.text (((b.getD (Int.toNat a) []).getD 3 []).getD 0 0) (((b.getD (Int.toNat a) []).getD 4 []).getD 0 0))).2.1))) (cond (!(Jr.same (Jr.append Jr.DV d f (Jr.text (((b.getD (Int.toNat a) []).getD 3 []).getD 0 0) (((b.getD (Int.toNat a) []).getD 4 []).getD 0 0))).2.1 (Jr.append Jr.DV d f (Jr.text (((b.getD (Int.toNat a) []).getD 3 []).getD 0 0) (((b.getD (Int.toNat a) []).getD 4 []).getD 0 0))).1 (Jr.append Jr.RV c e (Jr.text (((b.getD (Int.toNat a) []).getD 3 []).getD 0 0) (((b.getD (Int.toNat a) []).getD 4 []).getD 0 0))).2.1 (Jr.append Jr.RV c e (Jr.text (((b.getD (Int.toNat a) []).getD 3 []).getD 0 0) (((b.getD (Int.toNat a) []).getD 4 []).getD 0 0))).1)) (some ((.bool false),[])) (i (b,g,h,(IntKind.i64.wrap (a+(1:Int))),(Jr.append Jr.DV d f (Jr.text (((b.getD (Int.toNat a) []).getD 3 []).getD 0 0) (((b.getD (Int.toNat a) []).getD 4 []).getD 0 0))).1,(Jr.append Jr.DV d f (Jr.text (((b.getD (Int.toNat a) []).getD 3 []).getD 0 0) (((b.getD (Int.toNat a) []).getD 4 []).getD 0 0))).2.1,(Jr.append Jr.RV c e (Jr.text (((b.getD (Int.toNat a) []).getD 3 []).getD 0 0) (((b.getD (Int.toNat a) []).getD 4 []).getD 0 0))).1,(Jr.append Jr.RV c e (Jr.text (((b.getD (Int.toNat a) []).getD 3 []).getD 0 0) (((b.getD (Int.toNat a) []).getD 4 []).getD 0 0))).2.1))) none) (i (b,g,h,(IntKind.i64.wrap (a+(1:Int))),(Jr.append Jr.DV d f (Jr.text (((b.getD (Int.toNat a) []).getD 3 []).getD 0 0) (((b.getD (Int.toNat a) []).getD 4 []).getD 0 0))).1,(Jr.append Jr.DV d f (Jr.text (((b.getD (Int.toNat a) []).getD 3 []).getD 0 0) (((b.getD (Int.toNat a) []).getD 4 []).getD 0 0))).2.1,(Jr.append Jr.RV c e (Jr.text (((b.getD (Int.toNat a) []).getD 3 []).getD 0 0) (((b.getD (Int.toNat a) []).getD 4 []).getD 0 0))).1,(Jr.append Jr.RV c e (Jr.text (((b.getD (Int.toNat a) []).getD 3 []).getD 0 0) (((b.getD (Int.toNat a) []).getD 4 []).getD 0 0))).2.1))))) none) none) (cond ((((b.getD (Int.toNat a) []).getD 0 []).getD 0 0)==(2:Int)) (cond (decide (c.s.length=c.s.length∧c.s.length < 8000)) (cond (!e.closed) (cond ((decide ((Dk.rtrip c (((b.getD (Int.toNat a) []).getD 1 []).getD 0 0)).s.length=(Dk.rtrip c (((b.getD (Int.toNat a) []).getD 1 []).getD 0 0)).s.length∧(Dk.rtrip c (((b.getD (Int.toNat a) []).getD 1 []).getD 0 0)).s.length < 8000))&&((Jr.okS f)&&(Jr.okS e))) (cond (!(Jr.same f (Dk.trip d (((b.getD (Int.toNat a) []).getD 1 []).getD 0 0)) e (Dk.rtrip c (((b.getD (Int.toNat a) []).getD 1 []).getD 0 0)))) (some ((.bool false),[])) (i (b,g,h,(IntKind.i64.wrap (a+(1:Int))),(Dk.trip d (((b.getD (Int.toNat a) []).getD 1 []).getD 0 0)),f,(Dk.rtrip c (((b.getD (Int.toNat a) []).getD 1 []).getD 0 0)),e))) none) (i (b,g,h,(IntKind.i64.wrap (a+(1:Int))),(Dk.trip d (((b.getD (Int.toNat a) []).getD 1 []).getD 0 0)),f,(Dk.rtrip c (((b.getD (Int.toNat a) []).getD 1 []).getD 0 0)),e))) none) (cond ((((b.getD (Int.toNat a) []).getD 0 []).getD 0 0)==(3:Int)) (cond (Dk.fine d) (cond ((decide (c.s.length=c.s.length∧c.s.length < 8000))&&((Dk.rfine c))) (cond ((Dk.fine (Dk.mount d ((b.getD (Int.toNat a) []).getD 5 [])))&&(!(Dk.mount d ((b.getD (Int.toNat a) []).getD 5 [])).off)) (cond ((decide ((Dk.rmount c ((b.getD (Int.toNat a) []).getD 5 [])).s.length=(Dk.rmount c ((b.getD (Int.toNat a) []).getD 5 [])).s.length∧(Dk.rmount c ((b.getD (Int.toNat a) []).getD 5 [])).s.length < 8000))&&((Dk.rfine (Dk.rmount c ((b.getD (Int.toNat a) []).getD 5 [])))&&(!(Dk.rmount c ((b.getD (Int.toNat a) []).getD 5 [])).off))) (cond (0 != 0) (some ((.bool false),[])) (cond (!(Jr.openS (Jr.secsR (Dk.rmount c ((b.getD (Int.toNat a) []).getD 5 [])))).closed) (cond ((decide ((Dk.rmount c ((b.getD (Int.toNat a) []).getD 5 [])).s.length=(Dk.rmount c ((b.getD (Int.toNat a) []).getD 5 [])).s.length∧(Dk.rmount c ((b.getD (Int.toNat a) []).getD 5 [])).s.length < 8000))&&((Jr.okS (Jr.openS (Jr.secsD (Dk.mount d ((b.getD (Int.toNat a) []).getD 5 [])))))&&(Jr.okS (Jr.openS (Jr.secsR (Dk.rmount c ((b.getD (Int.toNat a) []).getD 5 []))))))) (cond (!(Jr.same (Jr.openS (Jr.secsD (Dk.mount d ((b.getD (Int.toNat a) []).getD 5 [])))) (Dk.mount d ((b.getD (Int.toNat a) []).getD 5 [])) (Jr.openS (Jr.secsR (Dk.rmount c ((b.getD (Int.toNat a) []).getD 5 [])))) (Dk.rmount c ((b.getD (Int.toNat a) []).getD 5 [])))) (some ((.bool false),[])) (i (b,g,h,(IntKind.i64.wrap (a+(1:Int))),(Dk.mount d ((b.getD (Int.toNat a) []).getD 5 [])),(Jr.openS (Jr.secsD (Dk.mount d ((b.getD (Int.toNat a) []).getD 5 [])))),(Dk.rmount c ((b.getD (Int.toNat a) []).getD 5 [])),(Jr.openS (Jr.secsR (Dk.rmount c ((b.getD (Int.toNat a) []).getD 5 []))))))) none) (i (b,g,h,(IntKind.i64.wrap (a+(1:Int))),(Dk.mount d ((b.getD (Int.toNat a) []).getD 5 [])),(Jr.openS (Jr.secsD (Dk.mount d ((b.getD (Int.toNat a) []).getD 5 [])))),(Dk.rmount c ((b.getD (Int.toNat a) []).getD 5 [])),(Jr.openS (Jr.secsR (Dk.rmount c ((b.getD (Int.toNat a) []).getD 5 [])))))))) none) none) none) none) (cond ((((b.getD (Int.toNat a) []).getD 0 []).getD 0 0)==(4:Int)) (cond ((decide (c.s.length=c.s.length∧c.s.length < 8000))&&((Dk.rfine c))) (cond ((Dk.rot d (((b.getD (Int.toNat a) []).getD 1 []).getD 0 0) (((b.getD (Int.toNat a) []).getD 2 []).getD 0 0)).2 != (Dk.rrot c (((b.getD (Int.toNat a) []).getD 1 []).getD 0 0) (((b.getD (Int.toNat a) []).getD 2 []).getD 0 0)).2) (some ((.bool false),[])) (cond (!e.closed) (cond ((decide ((Dk.rrot c (((b.getD (Int.toNat a) []).getD 1 []).getD 0 0) (((b.getD (Int.toNat a) []).getD 2 []).getD 0 0)).1.s.length=(Dk.rrot c (((b.getD (Int.toNat a) []).getD 1 []).getD 0 0) (((b.getD (Int.toNat a) []).getD 2 []).getD 0 0)).1.s.length∧(Dk.rrot c (((b.getD (Int.toNat a) []).getD 1 []).getD 0 0) (((b.getD (Int.toNat a) []).getD 2 []).getD 0 0)).1.s.length < 8000))&&((Jr.okS f)&&(Jr.okS e))) (cond (!(Jr.same f (Dk.rot d (((b.getD (Int.toNat a) []).getD 1 []).getD 0 0) (((b.getD (Int.toNat a) []).getD 2 []).getD 0 0)).1 e (Dk.rrot c (((b.getD (Int.toNat a) []).getD 1 []).getD 0 0) (((b.getD (Int.toNat a) []).getD 2 []).getD 0 0)).1)) (some ((.bool false),[])) (i (b,g,h,(IntKind.i64.wrap (a+(1:Int))),(Dk.rot d (((b.getD (Int.toNat a) []).getD 1 []).getD 0 0) (((b.getD (Int.toNat a) []).getD 2 []).getD 0 0)).1,f,(Dk.rrot c (((b.getD (Int.toNat a) []).getD 1 []).getD 0 0) (((b.getD (Int.toNat a) []).getD 2 []).getD 0 0)).1,e))) none) (i (b,g,h,(IntKind.i64.wrap (a+(1:Int))),(Dk.rot d (((b.getD (Int.toNat a) []).getD 1 []).getD 0 0) (((b.getD (Int.toNat a) []).getD 2 []).getD 0 0)).1,f,(Dk.rrot c (((b.getD (Int.toNat a) []).getD 1 []).getD 0 0) (((b.getD (Int.toNat a) []).getD 2 []).getD 0 0)).1,e)))) none) (cond ((((b.getD (Int.toNat a) []).getD 0 []).getD 0 0)==(5:Int)) (cond (decide (c.s.length=c.s.length∧c.s.length < 8000)) (cond ((Dk.wear d (((b.getD (Int.toNat a) []).getD 1 []).getD 0 0)).2 != (Dk.rwear c (((b.getD (Int.toNat a) []).getD 1 []).getD 0 0)).2) (some ((.bool false),[])) (cond (!e.closed) (cond ((decide ((Dk.rwear c (((b.getD (Int.toNat a) []).getD 1 []).getD 0 0)).1.s.length=(Dk.rwear c (((b.getD (Int.toNat a) []).getD 1 []).getD 0 0)).1.s.length∧(Dk.rwear c (((b.getD (Int.toNat a) []).getD 1 []).getD 0 0)).1.s.length < 8000))&&((Jr.okS f)&&(Jr.okS e))) (cond (!(Jr.same f (Dk.wear d (((b.getD (Int.toNat a) []).getD 1 []).getD 0 0)).1 e (Dk.rwear c (((b.getD (Int.toNat a) []).getD 1 []).getD 0 0)).1)) (some ((.bool false),[])) (i (b,g,h,(IntKind.i64.wrap (a+(1:Int))),(Dk.wear d (((b.getD (Int.toNat a) []).getD 1 []).getD 0 0)).1,f,(Dk.rwear c (((b.getD (Int.toNat a) []).getD 1 []).getD 0 0)).1,e))) none) (i (b,g,h,(IntKind.i64.wrap (a+(1:Int))),(Dk.wear d (((b.getD (Int.toNat a) []).getD 1 []).getD 0 0)).1,f,(Dk.rwear c (((b.getD (Int.toNat a) []).getD 1 []).getD 0 0)).1,e)))) none) (cond (!e.closed) (cond ((decide (c.s.length=c.s.length∧c.s.length < 8000))&&((Jr.okS f)&&(Jr.okS e))) (cond (!(Jr.same f d e c)) (some ((.bool false),[])) (i (b,g,h,(IntKind.i64.wrap (a+(1:Int))),d,f,c,e))) none) (i (b,g,h,(IntKind.i64.wrap (a+(1:Int))),d,f,c,e)))))))) none) (j (d,c)))
theorem aOq F Rl1 Rj10:Ai F 8180 aOp (kq V4v Rl1 atg (aV 0 (kq V4v Rj10 aio Ah))) (aht F (Rl1∘aOp) (Rj10∘KI)):=fun _=>by kernel_rfl
def ajI:QC→(List (List Li))×Nat×Int×Int×(Dk.D)×(Jr.J)×(Dk.R)×(Jr.J):=fun (a,b,c,d,e,f,g,h)=>(a,b,c,d,e,f,g,h)
def ay5(F:Nat)(a:(Dk.D)×(Dk.R)→Rz):QC→Rz:=fun v=>eT (fun k=>aht F k a) F (ajI v)
theorem aOr F Rj10:Ai F 4090 ane (aV 0 (kq V4v Rj10 aio Ah)) (ay5 F (Rj10∘KI)):=lpC ajI (fun k=>aht F k (Rj10∘KI)) (fun Rl1=>aOq F Rl1 Rj10)
def ay6(F:Nat)(a):=ay5 F a
theorem aOs F Rj10:Ai F 2045 ane (kq V4v Rj10 aio Ah) (ay6 F (Rj10∘KI)):=biC (aOr F Rj10)
def anf(F:Nat)(a):=atr F (ay6 F a) a
theorem aOt F Rj10:Ai F 1022 anc (kq V4v Rj10 aio Ah) (anf F (Rj10∘KI)):=sqC (fun k=>atr F k (Rj10∘KI)) (fun Rj9=>aX9 F Rj9 Rj10) (aOs F Rj10)
def ay7(F:Nat):(Dk.D)×(Dk.R)→Rz:=fun (a,b)=>(cond (decide (a.blk.length=a.n*64∧a.n < 8000)) (cond (decide (b.s.length=b.s.length∧b.s.length < 8000)) (cond (decide ((Dk.image a).length < 1073741824)) (some ((.bool ((Dk.image a)==(Dk.rimage b))),[])) none) none) none)
theorem aOu F:Ai F 1023 KI Ah (ay7 F):=fun _=>by kernel_rfl
def ay8(F:Nat):=anf F (ay7 F)
theorem aOv F:Ai F 511 anc Ah (ay8 F):=sqC (anf F) (fun Rj10=>aOt F Rj10) (aOu F)
def ay9(F:Nat):=atq F (ay8 F)
theorem aOw F:Ai F 255 ay4 Ah (ay9 F):=sqC (atq F) (fun Rj8=>aX8 F Rj8) (aOv F)
def aza(F:Nat):=atp F (ay9 F)
theorem aOx F:Ai F 127 ay3 Ah (aza F):=sqC (atp F) (fun Rj7=>aX7 F Rj7) (aOw F)
def azb(F:Nat):=ato F (aza F)
theorem aOy F:Ai F 63 ay2 Ah (azb F):=sqC (ato F) (fun Rj6=>aX6 F Rj6) (aOx F)
def azc(F:Nat):=atn F (azb F)
theorem aOz F:Ai F 31 ay1 Ah (azc F):=sqC (atn F) (fun Rj5=>aX5 F Rj5) (aOy F)
def azd(F:Nat):=atm F (azc F)
theorem aOA F:Ai F 15 ay0 Ah (azd F):=sqC (atm F) (fun Rj4=>aX4 F Rj4) (aOz F)
def aze(F:Nat):=atl F (azd F)
theorem aOB F:Ai F 7 ayZ Ah (aze F):=sqC (atl F) (fun Rj3=>aX3 F Rj3) (aOA F)
def azf(F:Nat):=atk F (aze F)
theorem aOC F:Ai F 3 ae7 Ah (azf F):=sqC (atk F) (fun Rj2=>aX2 F Rj2) (aOB F)
def azg(F:Nat):=atj F (azf F)
theorem aOD F:Ai F 1 ayY Ah (azg F):=sqC (atj F) (fun Rj1=>aX1 F Rj1) (aOC F)
def f4v(F:Nat):zP→Rz:=azg F
def r4v:eP:=fun X H=>match X,H with
 | [(.int .i64 a0),(.vs (.rT [.int .i64,.int .i64,.int .i64,.int .i64,.int .u8,.sl .i64] a1) a1n 6)],[]=>some ((decide (0 < a0)),.bool true,[])
 | _,_=>none
theorem s4v(a0:Int)(a1:List (List Li))(a1n:Nat)(hp:((decide (0 < a0)))=true)(h0:okV (.int .i64 a0))(h1:okV (.vs (.rT [.int .i64,.int .i64,.int .i64,.int .i64,.int .u8,.sl .i64] a1) a1n 6)):∃ F,f4v F (a0,a1,a1n)=some ((.bool true),[]):=by
 have h0':0 < a0:=of_decide_eq_true hp
 refine⟨60,?_⟩
 simp only [f4v,azg,atj,azf,atk]
 by_cases g1:a0 > (200:Int)
 ·rw [aK g1]
 rw [ba g1]
 cases g2:Jr.few a1 a1n with
 | false=>rfl
 | true=>
 have hl30:a1n≤30:=by
  rw [Jr.few,Bool.and_eq_true] at g2
  exact of_decide_eq_true g2.2
 have hcn:((decide (0 < a0))&&(decide (a0 < 4097)))=true:=by rw [cH,decide_eq_true_iff];omega
 simp only [Bool.not_true,cond_false,aze,atl,azd,atm,azc,atn]
 rw [hcn,cond_true,cond_true,show((0:Int) != 0)=false from rfl,cond_false,cond_false]
 have hN:(Dk.new a0).n=a0.toNat:=rfl
 have hR0:=Dk.new_rel h0' (show a0 < 8000 by omega)
 have hrn0:=hR0.n
 have hf0:=hR0.fine
 have hrf0:=hR0.rfine
 have hsr0:=Jr.secs_rel hR0
 have hsl0:(Jr.secsR (Dk.rnew a0)).length=a0.toNat:=by simp only [Jr.secsR,List.length_map,List.length_range];omega
 have hb0:=Jr.bnd_open 0 hsl0
 have hsame0:Jr.same (Jr.openS (Jr.secsR (Dk.rnew a0))) (Dk.new a0) (Jr.openS (Jr.secsR (Dk.rnew a0))) (Dk.rnew a0)=true:=Jr.same_self hrn0
 simp only [azb,ato,aza,atp,ay9,atq]
 rw [hf0,hrf0,hsr0,hsame0,hb0.okS (by omega) (by omega),show(!(Dk.new a0).off)=true from rfl,show(!(Dk.rnew a0).off)=true from rfl,Bool.and_self,cond_true,Bool.and_true,aK ⟨trivial,by omega⟩,show((0:Int) != 0)=false from rfl,cond_false,aK ⟨trivial,by omega⟩,Bool.not_true,cond_false]
 simp only [ay8,anf,atr,ay6,ay5,ajI]
 refine pv (fun m s=>∃ (k:Nat) (d:Dk.D) (r:Dk.R) (j:Jr.J),s=(a1,a1n,(a1n:Int),(k:Int),d,j,r,j)∧m=a1n-k∧k≤a1n∧Dk.Rel d r∧d.n=a0.toNat∧Jr.Bnd a0.toNat k j) (fun m s K hi hk=>?_) 60 a1n _ (by omega)
  ⟨0,_,_,_,rfl,rfl,by omega,hR0,hN,hb0⟩
 obtain⟨k,d,r,j,rfl,hm,hle,hR,hn,hb⟩:=hi
 have hrn:=hR.n
 by_cases hlt:k < a1n
 ·have tail:∀ (d':Dk.D) (r':Dk.R) (j':Jr.J),Dk.Rel d' r'→d'.n=a0.toNat→Jr.Bnd a0.toNat (k+1) j' →
    (cond (!j'.closed) (cond ((decide (r'.s.length=r'.s.length∧r'.s.length < 8000))&&((Jr.okS j')&&(Jr.okS j'))) (cond (!(Jr.same j' d' j' r')) (some ((.bool false),[])) (K (a1,a1n,(a1n:Int),(IntKind.i64.wrap ((k:Int)+(1:Int))),d',j',r',j'))) none) (K (a1,a1n,(a1n:Int),(IntKind.i64.wrap ((k:Int)+(1:Int))),d',j',r',j')))=some ((.bool true),[]):=by
   intro d' r' j' h1 h2 h3
   have hrn':=h1.n
   rw [bM (x:=(k:Int)+1) (by omega) (by omega),h3.okS (by omega) (by omega),Jr.same_self hrn',Bool.and_self,Bool.and_true,aK ⟨rfl,by omega⟩,Bool.not_true,cond_false]
   have:=hk (m-1) (a1,a1n,(a1n:Int),((k:Int)+1),d',j',r',j') (by omega) ⟨k+1,d',r',j',rfl,by omega,by omega,h1,h2,h3⟩
   rw [this]
   cases j'.closed <;> rfl
  have hDR:Jr.DR d r:=⟨hR,by omega⟩
  obtain⟨i1,i2⟩:=Jr.step_int h1 hlt
  have e1:decide ((k:Int) < (a1n:Int))=true:=decide_eq_true (by omega)
  have e2:((decide (0≤(k:Int)))&&(decide ((k:Int) < (a1n:Int))))=true:=by rw [e1,decide_eq_true (show 0≤(k:Int) by omega)];rfl
  have e3:(decide (r.s.length=r.s.length∧r.s.length < 8000))=true:=decide_eq_true ⟨rfl,by omega⟩
  dsimp only [aht]
  rw [e1,cond_true,Bool.and_true,show(decide (0≤(k:Int)))=true from decide_eq_true (by omega),cond_true,e3,hR.fine,hR.rfine,hb.okJ (by omega) (by omega) hR hn,hb.okJR (by omega) (by omega)]
  rw [show(true&&true)=true from rfl,show(true&&true)=true from rfl,cond_true,cond_true,Int.toNat_natCast]
  generalize hx0:((a1.getD k []).getD 0 []).getD 0 0=x0
  generalize hx1:((a1.getD k []).getD 1 []).getD 0 0=x1 at *
  generalize ((a1.getD k []).getD 2 []).getD 0 0=x2
  generalize (a1.getD k []).getD 5 []=pk
  generalize Jr.text _ _=tx
  cases x0==1 with
  | true=>
   rw [cond_true]
   obtain⟨q1,q2⟩:=Jr.append_rel Jr.devs hDR j tx
   have hb':=hb.append (V:=Jr.RV) (d:=r) (show((r.s.length:Nat):Int)=((a0.toNat:Nat):Int) by omega) tx
   have hn':=Jr.append_n hDR j tx
   rw [q1,bne_self_eq_false,cond_false,bne_self_eq_false,cond_false]
   exact tail _ _ _ q2.1 (by omega) hb'
  | false=>
  rw [cond_false]
  cases x0==2 with
  | true=>rw [cond_true,cond_true];exact tail _ _ _ (hR.trip x1 i1 i2) hn hb.mono
  | false=>
  rw [cond_false]
  cases x0==3 with
  | true=>
   rw [cond_true]
   have hM:=hR.mount pk
   have hMn:=Dk.mount_n d pk
   have hMr:=hM.n
   have hsr:=Jr.secs_rel hM
   have hsl:(Jr.secsR (Dk.rmount r pk)).length=a0.toNat:=by simp only [Jr.secsR,List.length_map,List.length_range];omega
   rw [cond_true,cond_true,hM.fine,hM.rfine,hsr,show(Dk.mount d pk).off=false from rfl,show(Dk.rmount r pk).off=false from rfl,show(true && !false)=true from rfl,cond_true,Bool.and_true,show(decide ((Dk.rmount r pk).s.length=(Dk.rmount r pk).s.length∧(Dk.rmount r pk).s.length < 8000))=true from decide_eq_true ⟨rfl,by omega⟩,cond_true]
   have:=tail _ _ _ hM (by omega) (Jr.bnd_open (k+1) hsl)
   rw [show(decide ((Dk.rmount r pk).s.length=(Dk.rmount r pk).s.length∧(Dk.rmount r pk).s.length < 8000))=true from decide_eq_true ⟨rfl,by omega⟩] at this
   exact this
  | false=>
  rw [cond_false]
  cases x0==4 with
  | true=>
   rw [cond_true]
   obtain⟨q1,q2⟩:=hR.rot x1 x2
   rw [cond_true,q1,bne_self_eq_false,cond_false]
   exact tail _ _ _ q2 (by rw [Jr.rot_n,hn]) hb.mono
  | false=>
  rw [cond_false]
  cases x0==5 with
  | true=>
   rw [cond_true]
   obtain⟨q1,q2⟩:=hR.wear x1
   rw [cond_true,q1,bne_self_eq_false,cond_false]
   exact tail _ _ _ q2 (by rw [Jr.wear_n,hn]) hb.mono
  | false=>
  rw [cond_false]
  have:=tail _ _ _ hR hn hb.mono
  rw [e3] at this
  exact this
 ·dsimp only [aht]
  rw [decide_eq_false (show ¬ (k:Int) < (a1n:Int) by omega),cond_false]
  have hs:=hR.small
  have hil:=Dk.image_len d
  simp only [ay7]
  rw [aK ⟨hR.len,by omega⟩,aK ⟨trivial,by omega⟩,aK (by omega),hR.image]
  rw [show(Dk.rimage r==Dk.rimage r)=true from beq_self_eq_true _]
theorem c4v:CallOk Tryz.prog DW 4 r4v:=Ao mixed tys bfP Tryz.func4 (by kernel_rfl) (c:=sub (zZ Tryz.f4) []) (by kernel_rfl) (by
 intro X H r H' h hX hH
 unfold r4v at h;split at h <;> try contradiction
 ·obtain⟨hp,rfl,rfl⟩:=ik h
  obtain⟨F,hF⟩:=s4v _ _ _ hp (hX _ hm0) (hX _ hm1)
  exact⟨_,abC (aOD F) hF⟩)
def bfR:List hI:=[(7,[],r7),(19,[some 25],r19),(20,[none],aSU),(21,[none],aX0)]
def V4i:Env:=dL fP DW bfR
noncomputable abbrev af2:=ij V4i none (Tryz.f4).results.toList
theorem bfS:EOk Tryz.prog V4i:=bL (by exact⟨c7.more uP,c19.more uP,c20i.more uP,c21i.more uP,trivial⟩)
def byE(F:Nat):Cuts:={ F:=F,at_:=fun _=>none,join:=fun n=>match n with | 1127=>some uY | 3119=>some uY | 4117=>some ath | 5115=>some ati | _=>none }
abbrev af4(F n:Nat){σ:Type}(e:σ→St)(K:Ex→St→Rz)(N:σ→Rz):=Qe V4i (byE F) (bp Tryz.f4 n) e K N
def aOE:zP→St:=ayY
def azh:zP→St:=ae7
def azi:zP→St:=ae7
def azj:zP→St:=fun (a,b,c)=>hS [iS 0 a,(1,(z4 b c)),(5,.nilp),(6,.int .i64 1)] [] 190 0
def aOF:DZ→St:=fun (a,b)=>hS [(1,(z4 a b)),(5,.nilp),(6,.int .i64 1),(7,.nilp),(8,.int .i64 1)] [] 190 0
def ats(F:Nat)(a:zP→Rz):zP→Rz:=fun (b,c,d)=>(a (b,c,d))
theorem aYa F Rj1:af4 F 2 aOE (kq V4i Rj1 uY af2) (ats F (Rj1∘azh)):=fun _=>by kernel_rfl
def att(F:Nat)(d:zP→Rz):zP→Rz:=fun (a,b,c)=>(cond (decide (a > (200:Int))) (some ((.bool true),[])) (cond (!(Jr.few b c)) (some ((.bool true),[])) (d (a,b,c))))
theorem aYb F Rj2:af4 F 6 azh (kq V4i Rj2 uY af2) (att F (Rj2∘azi)):=fun _=>by kernel_rfl
def atu(F:Nat)(b:zP→Rz):zP→Rz:=fun (a,c,d)=>(cond (!((decide (0 < a))&&(decide (a < 4097)))) (b (a,c,d)) none)
theorem aYc F Rj3:af4 F 14 azi (kq V4i Rj3 ath af2) (atu F (Rj3∘azj)):=fun _=>by kernel_rfl
def atv(F:Nat)(b:DZ→Rz):zP→Rz:=fun (a,c,d)=>(cond (!((decide (0 < a))&&(decide (a < 4097)))) (b (c,d)) none)
theorem aYd F Rj4:af4 F 30 azj (kq V4i Rj4 ati af2) (atv F (Rj4∘aOF)):=fun _=>by kernel_rfl
def aHf(F:Nat):DZ→Rz:=fun (a,b)=>(some ((.bool true),[]))
theorem aYe F:af4 F 31 aOF af2 (aHf F):=fun _=>by kernel_rfl
def aHg(F:Nat):=atv F (aHf F)
theorem aYf F:af4 F 15 azj af2 (aHg F):=sqC (atv F) (fun Rj4=>aYd F Rj4) (aYe F)
def aHh(F:Nat):=atu F (aHg F)
theorem aYg F:af4 F 7 azi af2 (aHh F):=sqC (atu F) (fun Rj3=>aYc F Rj3) (aYf F)
def aHi(F:Nat):=att F (aHh F)
theorem aYh F:af4 F 3 azh af2 (aHi F):=sqC (att F) (fun Rj2=>aYb F Rj2) (aYg F)
def aHj(F:Nat):=ats F (aHi F)
theorem aYi F:af4 F 1 aOE af2 (aHj F):=sqC (ats F) (fun Rj1=>aYa F Rj1) (aYh F)
def f4i(F:Nat):zP→Rz:=aHj F
def r4i:eP:=fun X H=>match X,H with
 | [(.int .i64 a0),(.vs (.rT [.int .i64,.int .i64,.int .i64,.int .i64,.int .u8,.sl .i64] a1) a1n 6)],[]=>some ((decide (a0 < 1)),.bool true,[])
 | _,_=>none
theorem s4i(a0:Int)(a1:List (List Li))(a1n:Nat)(hp:((decide (a0 < 1)))=true)(h0:okV (.int .i64 a0))(h1:okV (.vs (.rT [.int .i64,.int .i64,.int .i64,.int .i64,.int .u8,.sl .i64] a1) a1n 6)):∃ F,f4i F (a0,a1,a1n)=some ((.bool true),[]):=by
 have h0':a0 < 1:=of_decide_eq_true hp
 refine⟨0,?_⟩
 have e1:(!((decide (0 < a0))&&(decide (a0 < 4097))))=true:=by rw [decide_eq_false (show ¬ 0 < a0 by omega)];rfl
 simp only [f4i,aHj,ats,aHi,att,aHh,atu,aHg,atv,aHf]
 rw [e1,cond_true,cond_true]
 cases decide (a0 > (200:Int)) <;> cases Jr.few a1 a1n <;> rfl
theorem c4i:CallOk Tryz.prog DW 4 r4i:=Ao mixed tys bfS Tryz.func4 (by kernel_rfl) (c:=sub (zZ Tryz.f4) []) (by kernel_rfl) (by
 intro X H r H' h hX hH
 unfold r4i at h;split at h <;> try contradiction
 ·obtain⟨hp,rfl,rfl⟩:=ik h
  obtain⟨F,hF⟩:=s4i _ _ _ hp (hX _ hm0) (hX _ hm1)
  exact⟨_,abC (aYi F) hF⟩)
def r4:eP:=fun X H=>match X,H with
 | [(.int .i64 a0),(.vs (.rT [.int .i64,.int .i64,.int .i64,.int .i64,.int .u8,.sl .i64] a1) a1n 6)],[]=>some (true,.bool true,[])
 | _,_=>none
theorem c4:CallOk Tryz.prog DW 4 r4:=c4v.or c4i fun A H r H' h=>by
 unfold r4 at h;split at h <;> try contradiction
 rename_i a0 a1 a1n
 simp only [Option.some.injEq,Prod.mk.injEq,true_and] at h
 obtain⟨rfl,rfl⟩:=h
 by_cases h0:0 < a0
 ·exact .inl (by simp only [r4v,decide_eq_true h0])
 ·exact .inr (by simp only [r4i,decide_eq_true (show a0 < 1 by omega)])
end Go.Am
end