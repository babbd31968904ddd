/- Part of a proof. -/
import Derived.Shelf.Strings.Repeat
import Derived.Test.YtffddoahjpemaaaDoorProg
import Derived.Test.YtffddoahjpemaaaDoorAm36D
import Derived.Test.YtffddoahjpemaaaDoorAmJrn7
import Derived.Test.YtffddoahjpemaaaDoorAm36A
import Derived.Test.YtffddoahjpemaaaDoorAm36I
import Derived.Test.YtffddoahjpemaaaDoorAm36J
import Derived.Test.YtffddoahjpemaaaDoorAm36H
set_option linter.unusedSimpArgs false
set_option linter.unusedVariables false
section
/- The numbers at which the kit's contract of strings.Repeat holds in this program (printed by layrep.py). -/
namespace Go.Proofs
open Go.RowKit Go.Shelf
def Tryd.lays105_ren:Go.Shelf.Ren:=⟨fun | 105=>23 | 212=>39 | 99=>40 | 165=>41 | 166=>42 | 170=>43 | 169=>44 | 263=>55 | 264=>56 | 206=>57 | 240=>58 | 241=>59 | 276=>70 | 277=>71 | n=>n,fun | 9=>9 | 3=>3 | 4=>4 | 20=>20 | 0=>0 | 46=>85 | 109=>86 | 5=>5 | 72=>91 | 76=>95 | 51=>109 | 146=>110 | 53=>112 | 148=>113 | 70=>89 | 37=>36 | 75=>94 | 127=>115 | 164=>130 | 80=>97 | n=>n,fun | n=>n⟩
theorem Tryd.lays105:Go.Proofs.Lays.n105 Tryd.prog Tryd.lays105_ren:={
 mixed:=by kernel_rfl,
 f99:=Tryd.func40.trans (congrArg some (by kernel_rfl)),
 f105:=Tryd.func23.trans (congrArg some (by kernel_rfl)),
 f165:=Tryd.func41.trans (congrArg some (by kernel_rfl)),
 f166:=Tryd.func42.trans (congrArg some (by kernel_rfl)),
 f169:=Tryd.func44.trans (congrArg some (by kernel_rfl)),
 f170:=Tryd.func43.trans (congrArg some (by kernel_rfl)),
 f206:=Tryd.func57.trans (congrArg some (by kernel_rfl)),
 f212:=Tryd.func39.trans (congrArg some (by kernel_rfl)),
 f240:=Tryd.func58.trans (congrArg some (by kernel_rfl)),
 f241:=Tryd.func59.trans (congrArg some (by kernel_rfl)),
 f263:=Tryd.func55.trans (congrArg some (by kernel_rfl)),
 f264:=Tryd.func56.trans (congrArg some (by kernel_rfl)),
 f276:=Tryd.func70.trans (congrArg some (by kernel_rfl)),
 f277:=Tryd.func71.trans (congrArg some (by kernel_rfl)),
 t0:=Tryd.underlying0,
 a0:=Tryd.isAgg0,
 z0:=Tryd.sizeOf0,
 v0:=Tryd.zeroValue0,
 t3:=Tryd.underlying3,
 a3:=Tryd.isAgg3,
 z3:=Tryd.sizeOf3,
 v3:=Tryd.zeroValue3,
 t4:=Tryd.underlying4,
 a4:=Tryd.isAgg4,
 z4:=Tryd.sizeOf4,
 v4:=Tryd.zeroValue4,
 t5:=Tryd.underlying5,
 a5:=Tryd.isAgg5,
 z5:=Tryd.sizeOf5,
 v5:=Tryd.zeroValue5,
 t9:=Tryd.underlying9,
 a9:=Tryd.isAgg9,
 z9:=Tryd.sizeOf9,
 v9:=Tryd.zeroValue9,
 t20:=Tryd.underlying20,
 a20:=Tryd.isAgg20,
 z20:=Tryd.sizeOf20,
 v20:=Tryd.zeroValue20,
 t37:=Tryd.underlying36,
 a37:=Tryd.isAgg36,
 z37:=Tryd.sizeOf36,
 v37:=Tryd.zeroValue36,
 t46:=Tryd.underlying85,
 a46:=Tryd.isAgg85,
 z46:=Tryd.sizeOf85,
 v46:=Tryd.zeroValue85,
 t51:=Tryd.underlying109,
 a51:=Tryd.isAgg109,
 z51:=Tryd.sizeOf109,
 v51:=Tryd.zeroValue109,
 t53:=Tryd.underlying112,
 a53:=Tryd.isAgg112,
 z53:=Tryd.sizeOf112,
 v53:=Tryd.zeroValue112,
 t70:=Tryd.underlying89,
 a70:=Tryd.isAgg89,
 z70:=Tryd.sizeOf89,
 v70:=Tryd.zeroValue89,
 t72:=Tryd.underlying91,
 a72:=Tryd.isAgg91,
 z72:=Tryd.sizeOf91,
 v72:=Tryd.zeroValue91,
 t75:=Tryd.underlying94,
 a75:=Tryd.isAgg94,
 z75:=Tryd.sizeOf94,
 v75:=Tryd.zeroValue94,
 t76:=Tryd.underlying95,
 a76:=Tryd.isAgg95,
 z76:=Tryd.sizeOf95,
 v76:=Tryd.zeroValue95,
 t109:=Tryd.underlying86,
 a109:=Tryd.isAgg86,
 z109:=Tryd.sizeOf86,
 v109:=Tryd.zeroValue86,
 t127:=Tryd.underlying115,
 a127:=Tryd.isAgg115,
 z127:=Tryd.sizeOf115,
 v127:=Tryd.zeroValue115,
 t146:=Tryd.underlying110,
 a146:=Tryd.isAgg110,
 z146:=Tryd.sizeOf110,
 v146:=Tryd.zeroValue110,
 t148:=Tryd.underlying113,
 a148:=Tryd.isAgg113,
 z148:=Tryd.sizeOf113,
 v148:=Tryd.zeroValue113,
 t164:=Tryd.underlying130,
 a164:=Tryd.isAgg130,
 z164:=Tryd.sizeOf130,
 v164:=Tryd.zeroValue130 }
theorem Tryd.bextra:Builder.Extra Tryd.prog Tryd.lays105_ren:={ sizeBuilder:=by kernel_rfl,liesBuilder:=by kernel_rfl,t5:=Tryd.underlying5,a5:=Tryd.isAgg5,z5:=Tryd.sizeOf5,v5:=Tryd.zeroValue5,infoByte:=by kernel_rfl,cellsByte:=by kernel_rfl,sizeByte:=by kernel_rfl,neB5:=by decide }
end Go.Proofs
end
section
/- strings.Repeat: the kit's contract turned into the machine's. -/
namespace Go.Am
open Go Go.Proofs Go.RowKit
theorem map_repeat{f:UInt8→Int}(l:List UInt8):∀ c:Nat,(Lib.repeatL l c).map f=(List.replicate c (l.map f)).flatten
 | 0=>rfl
 | c+1=>by rw [Lib.repeatL,List.map_append,map_repeat l c,List.replicate_succ,List.flatten_cons]
theorem bytes_repeat(s:ByteArray)(c:Nat):bytesOf ⟨(Lib.repeatL s.data.toList c).toArray⟩=Jr.repeat_ (bytesOf s) c:=by
 rw [Jr.repeat_,Int.toNat_natCast]
 exact map_repeat _ c
theorem size_repeat(s:ByteArray)(c:Nat):(⟨(Lib.repeatL s.data.toList c).toArray⟩:ByteArray).size=s.size*c:=by
 show(Lib.repeatL s.data.toList c).toArray.size=_
 rw [List.size_toArray,Lib.repeatL_length,Nat.mul_comm];rfl
def r23:CRun:=fun X H=>match X,H with
 | [(.str a0),(.int .i64 a1)],[]=>some ((decide (0≤a1∧a1 < 1000∧a0.length < 1000)),(.str (Jr.repeat_ a0 a1)),[])
 | _,_=>none
theorem c23:CallOk Tryd.prog G36 23 r23 where
 there:=⟨_,Tryd.func23,by kernel_rfl,by kernel_rfl⟩
 does:=by
  intro A H r H' hr U w ρ args hU hs hA
  unfold r23 at hr
  split at hr <;> try contradiction
  rename_i t c
  simp only [Option.some.injEq,Prod.mk.injEq,decide_eq_true_eq] at hr
  obtain⟨⟨h0,h1,h2⟩,rfl,rfl⟩:=hr
  match args,hA with
  | ⟨[x,y]⟩,hA=>
   have hx:=hA.1
   have hy:=hA.2.1
   cases hx with | str s hm=>
   cases hy with | int _ _ hn=>
   obtain⟨n,rfl⟩:∃ n:Nat,c=(n:Int):=⟨c.toNat,by omega⟩
   have hsz:s.size < 1000:=by simpa [bytesOf] using h2
   have hmul:s.size*n≤1000*1000:=Nat.mul_le_mul (by omega) (by omega)
   refine(Any.strings_Repeat Tryd.lays105 Tryd.bextra s n w (by omega) (by omega)).mono ?_
   rintro e w' ⟨rfl,hB⟩
   refine⟨_,ρ,rfl,hs.below hB,?_⟩
   rw [← bytes_repeat]
   exact .str _ (by rw [size_repeat];omega)
end Go.Am
end
section
/- Appending a record on the specification's disk: what lies on it behind that. -/
namespace Go.Jr
open Go Go.Am Go.Dk
structure Clean (r:R):Prop where
 good:RGood r
 none:∀ i,i < r.s.length→fD (r.s.getD i [])=false
structure Pnd (r0 r:R) (a w:Nat) (L:List Li):Prop where
 len:r.s.length=r0.s.length
 good:RGood r
 text:∀ i,i < r.s.length→fT (r.s.getD i [])=fT (r0.s.getD i [])
 worn:∀ i,i < r.s.length→fW (r.s.getD i [])=fW (r0.s.getD i [])
 dirty:∀ i,i < r.s.length→fD (r.s.getD i [])=decide (a≤i∧i < a+w)
 next:∀ i,i < r.s.length→a≤i→i < a+w→Dk.fN (r.s.getD i [])=L.getD (i-a) []
theorem Pnd.start{r:R}(h:Clean r)(a:Nat)(L:List Li):Pnd r r a 0 L where
 len:=rfl
 good:=h.good
 text:=fun _ _=>rfl
 worn:=fun _ _=>rfl
 dirty:=fun i hi=>by rw [h.none i hi,decide_eq_false (by omega)]
 next:=fun i _ h1 h2=>by omega
theorem Pnd.step{r0 r:R}{a w:Nat}{L:List Li}(h:Pnd r0 r a w L):Pnd r0 (rstep r).1 a w L:=by
 have e:=rstep_same r
 exact { len:=by rw [e];exact h.len,good:=by have:=h.good;simp only [RGood,e] at this ⊢;exact this,text:=by rw [e];exact h.text,worn:=by rw [e];exact h.worn,dirty:=by rw [e];exact h.dirty,next:=by rw [e];exact h.next }
theorem Pnd.put{r0 r:R}{a w:Nat}{L:List Li}(h:Pnd r0 r a w L)(hw:w < L.length)(ha:a+L.length≤r.s.length)(hL:(L.getD w []).length=64):Pnd r0 { r with s:=wput r.s (a+w) (L.getD w []) } a (w+1) L:=by
 have hq:a+w < r.s.length:=by omega
 have hlen:(wput r.s (a+w) (L.getD w [])).length=r.s.length:=by simp [wput]
 have hD:∀ x:List Li,fD (tput (tput x 1 (L.getD w [])) 2 [1])=true:=fun x=>by simp only [fD];rw [tput_get,if_pos rfl];rfl
 have hN:∀ x:List Li,Dk.fN (tput (tput x 1 (L.getD w [])) 2 [1])=L.getD w []:=fun x=>by simp only [Dk.fN];rw [tput_get,if_neg (by decide),tput_get,if_pos rfl]
 have hT:∀ x:List Li,fT (tput (tput x 1 (L.getD w [])) 2 [1])=fT x:=fun x=>by simp only [fT];rw [tput_get,if_neg (by decide),tput_get,if_neg (by decide)]
 have hW:∀ x:List Li,fW (tput (tput x 1 (L.getD w [])) 2 [1])=fW x:=fun x=>by simp only [fW];rw [tput_get,if_neg (by decide),tput_get,if_neg (by decide)]
 refine⟨hlen.trans h.len,⟨by rw [hlen];exact h.good.1,fun i hi=>?_⟩,fun i hi=>?_,fun i hi=>?_,fun i hi=>?_,fun i hi h1 h2=>?_⟩
 all_goals (have hi':i < r.s.length:=by simpa only [hlen] using hi)
 all_goals (simp only [wput_get (L.getD w []) hq])
 all_goals (by_cases hj:a+w=i)
 ·subst hj
  rw [if_pos rfl]
  exact⟨by rw [hT];exact(h.good.2 _ hi').1,fun _=>by rw [hN];exact hL⟩
 ·rw [if_neg hj];exact h.good.2 i hi'
 ·subst hj;rw [if_pos rfl,hT];exact h.text _ hi'
 ·rw [if_neg hj];exact h.text _ hi'
 ·subst hj;rw [if_pos rfl,hW];exact h.worn _ hi'
 ·rw [if_neg hj];exact h.worn _ hi'
 ·subst hj;rw [if_pos rfl,hD,decide_eq_true (by omega)]
 ·rw [if_neg hj,h.dirty _ hi']
  by_cases hk:a≤i∧i < a+w
  ·rw [decide_eq_true hk,decide_eq_true (by omega)]
  ·rw [decide_eq_false hk,decide_eq_false (by omega)]
 ·subst hj;rw [if_pos rfl,hN,Nat.add_sub_cancel_left]
 ·rw [if_neg hj];exact h.next _ hi' h1 (by omega)
theorem writes_wr{r0 r:R}{a:Nat}{L:List Li}(h:Pnd r0 r a 0 L)(ha:a+L.length≤r.s.length)(hL:∀ i,i < L.length→(L.getD i []).length=64):∀ k,k≤L.length →
  (∃ w,w≤k∧Pnd r0 (writes RV a L k r).1 a w L∧((writes RV a L k r).2=0→w=k))∧(r.off=false→r.left < 0→(writes RV a L k r).2=0∧(writes RV a L k r).1.off=false∧(writes RV a L k r).1.left < 0)
 | 0,_=>⟨⟨0,Nat.le_refl _,h,fun _=>rfl⟩,fun h1 h2=>⟨rfl,h1,h2⟩⟩
 | k+1,hk=>by
  obtain⟨⟨w,w1,w2,w3⟩,w4⟩:=writes_wr h ha hL k (by omega)
  rw [writes]
  by_cases he:(writes RV a L k r).2=0
  ·rw [he]
   simp only [bne_self_eq_false,cond_false]
   obtain rfl:=w3 he
   have hlen:(writes RV (a:Int) L w r).1.s.length=r.s.length:=w2.len.trans h.len.symm
   generalize (writes RV (a:Int) L w r).1=q at *
   have hris:ris q ((a:Int)+(w:Int))=true:=ris_iff.2 ⟨by omega,by omega⟩
   have e64:(((L.getD w []).length:Int) != 64)=false:=by rw [hL w (by omega)];rfl
   have en:((a:Int)+(w:Int)).toNat=a+w:=by omega
   have hst:Pnd r0 (rstep q).1 a w L:=w2.step
   show(∃ x,x≤w+1∧Pnd r0 (rwrite q ((a:Int)+(w:Int)) (L.getD w [])).1 a x L∧((rwrite q ((a:Int)+(w:Int)) (L.getD w [])).2=0→x=w+1))∧(r.off=false→r.left < 0→(rwrite q ((a:Int)+(w:Int)) (L.getD w [])).2=0∧(rwrite q ((a:Int)+(w:Int)) (L.getD w [])).1.off=false∧(rwrite q ((a:Int)+(w:Int)) (L.getD w [])).1.left < 0)
   simp only [rwrite,hris,e64,en,Bool.not_true,cond_false]
   constructor
   ·cases q.off
    ·simp only [cond_false]
     by_cases hs:(rstep q).2=0
     ·rw [hs]
      simp only [bne_self_eq_false,cond_false]
      exact⟨w+1,Nat.le_refl _,hst.put (by omega) (by rw [rstep_same];omega) (hL w (by omega)),fun _=>rfl⟩
     ·rw [show((rstep q).2 != 0)=true by simpa using hs,cond_true]
      exact⟨w,by omega,hst,fun h=>absurd h hs⟩
    ·exact⟨w,by omega,w2,fun h=>by cases h⟩
   ·intro h1 h2
    obtain⟨_,q2,q3⟩:=w4 h1 h2
    rw [q2,rstep_neg q3]
    simp only [bne_self_eq_false,cond_false]
    exact⟨trivial,q2,q3⟩
  ·rw [show((writes RV (a:Int) L k r).2 != 0)=true by simpa using he,cond_true]
   exact⟨⟨w,by omega,w2,fun h=>absurd h he⟩,fun h1 h2=>absurd (w4 h1 h2).1 he⟩
theorem settled_W(x:List Li)(p:Int):fW (settled x p)=fW x:=by
 show((([cond (!fW x) ((Dk.fN x).take (clamp p)++(fT x).drop (clamp p)) (fT x),[],[0],[cond (fW x) 1 0]]:List Li).getD 3 []).getD 0 0==1)=fW x
 cases fW x <;> rfl
theorem settled_worn{x:List Li}(p:Int)(h:fW x=true):fT (settled x p)=fT x:=by
 simp only [settled,fT,List.getD_cons_zero,h,Bool.not_true,cond_false]
theorem flush_wr{r0 r:R}{a w:Nat}{L:List Li}(h:Pnd r0 r a w L)(ho:r.off=false)(hs:(rstep r).2=0):
  (rflush r).2=0∧Clean (rflush r).1∧(rflush r).1.s.length=r0.s.length∧(rflush r).1.off=r.off∧(rflush r).1.left=(rstep r).1.left ∧
  ∀ i,i < r0.s.length→fW ((rflush r).1.s.getD i [])=fW (r0.s.getD i [])∧fT ((rflush r).1.s.getD i [])=if a≤i∧i < a+w∧fW (r0.s.getD i [])=false then L.getD (i-a) [] else fT (r0.s.getD i []):=by
 have hst:=h.step
 have es:=rstep_same r
 have e:rflush r=(rflushK (rstep r).1 r.s.length,0):=by
  simp only [rflush,ho,hs,cond_false,bne_self_eq_false]
 obtain⟨l1,l2,l3⟩:=rflushK_len (rstep r).1 r.s.length
 have hlen:(rflushK (rstep r).1 r.s.length).s.length=r.s.length:=by rw [l1,es]
 have hoff:(rstep r).1.off=r.off:=by
  unfold rstep at hs ⊢
  cases h1:(r.left==0)
  ·cases h2:decide (r.left > 0) <;> rfl
  ·rw [h1] at hs;cases hs
 have get:∀ i,i < r.s.length→(rflushK (rstep r).1 r.s.length).s.getD i []=if fD (r.s.getD i [])=true then settled (r.s.getD i []) 64 else r.s.getD i []:=fun i hi=>by
  have:=rflushK_get (rstep r).1 i (by rw [es];exact hi) r.s.length (by rw [es];exact Nat.le_refl _)
  rw [es] at this
  rw [this]
  simp only [hi,true_and]
 rw [e]
 refine⟨rfl,⟨?_,fun i hi=>?_⟩,hlen.trans h.len,l2.trans hoff,l3,fun i hi=>?_⟩
 ·have:=(rflushK_good hst.good r.s.length (by rw [es];exact Nat.le_refl _)).1
  exact this
 ·rw [get i (by rw [hlen] at hi;exact hi)]
  by_cases hd:fD (r.s.getD i [])=true
  ·rw [if_pos hd];rfl
  ·rw [if_neg hd];simpa using hd
 ·have hi':i < r.s.length:=by rw [h.len];exact hi
  show fW ((rflushK (rstep r).1 r.s.length).s.getD i [])=_∧fT ((rflushK (rstep r).1 r.s.length).s.getD i [])=_
  rw [get i hi']
  have hd:=h.dirty i hi'
  have hwi:=h.worn i hi'
  have hti:=h.text i hi'
  by_cases hk:a≤i∧i < a+w
  ·rw [decide_eq_true hk] at hd
   rw [if_pos hd,settled_W]
   refine⟨hwi,?_⟩
   cases hw0:fW (r0.s.getD i []) with
   | false=>
    rw [if_pos ⟨hk.1,hk.2,rfl⟩,settled_T (h.good.2 i hi') hd (by rw [hwi,hw0])]
    exact h.next i hi' hk.1 hk.2
   | true=>rw [if_neg (by simp),settled_worn _ (by rw [hwi,hw0])];exact hti
  ·rw [decide_eq_false hk] at hd
   rw [if_neg (by rw [hd];decide),if_neg (fun h'=>hk ⟨h'.1,h'.2.1⟩)]
   exact⟨hwi,hti⟩
theorem rread_clean{q:R}(h:Clean q)(ho:q.off=false){i:Nat}(hi:i < q.s.length):rread q (i:Int)=(fT (q.s.getD i []),0):=by
 have hris:ris q (i:Int)=true:=ris_iff.2 ⟨by omega,by omega⟩
 simp only [rread,ho,hris,R.at,Int.toNat_natCast,h.none i hi,cond_false,Bool.not_true]
theorem reads_clean{q:R}(h:Clean q)(ho:q.off=false){a:Nat}{L:List Li}:∀ k,a+k≤q.s.length→reads RV q a L k=((List.range k).all fun i=>L.getD i []==fT (q.s.getD (a+i) []),0)
 | 0,_=>rfl
 | k+1,hk=>by
  have e:RV.read q ((a:Int)+(k:Int))=(fT (q.s.getD (a+k) []),0):=by
   have:=rread_clean h ho (i:=a+k) (by omega)
   rw [Int.natCast_add] at this;exact this
  rw [reads,reads_clean h ho k (by omega),e]
  simp only [bne_self_eq_false,cond_false,List.range_succ,List.all_append,List.all_cons,List.all_nil,Bool.and_true]
theorem writeAll_on{r:R}(hc:Clean r)(ho:r.off=false)(hl:r.left < 0){a:Nat}{L:List Li}(ha:a+L.length≤r.s.length)(hL:∀ i,i < L.length→(L.getD i []).length=64):
  Clean (writeAll RV r a L).1∧(writeAll RV r a L).1.off=false∧(writeAll RV r a L).1.left < 0∧(writeAll RV r a L).1.s.length=r.s.length ∧
  (∀ i,i < r.s.length→fW ((writeAll RV r a L).1.s.getD i [])=fW (r.s.getD i [])∧fT ((writeAll RV r a L).1.s.getD i [])=if a≤i∧i < a+L.length∧fW (r.s.getD i [])=false then L.getD (i-a) [] else fT (r.s.getD i [])) ∧
  (writeAll RV r a L).2=(0,(List.range L.length).all fun i=>L.getD i []==fT ((writeAll RV r a L).1.s.getD (a+i) [])):=by
 obtain⟨⟨w,w1,w2,w3⟩,w4⟩:=writes_wr (Pnd.start hc a L) ha hL L.length (Nat.le_refl _)
 obtain⟨q1,q2,q3⟩:=w4 ho hl
 obtain rfl:=w3 q1
 have hst:=rstep_neg q3
 obtain⟨f1,f2,f3,f4,f5,f6⟩:=flush_wr w2 q2 (by rw [hst])
 have e:writeAll RV r (a:Int) L=((rflush (writes RV a L L.length r).1).1,(reads RV (rflush (writes RV a L L.length r).1).1 a L L.length).2,(reads RV (rflush (writes RV a L L.length r).1).1 a L L.length).1):=by
  rw [writeAll,q1]
  simp only [bne_self_eq_false,cond_false]
  rw [show RV.flush=rflush from rfl,f1]
  simp only [bne_self_eq_false,cond_false]
 have e1:(writeAll RV r (a:Int) L).1=(rflush (writes RV a L L.length r).1).1:=by rw [e]
 have er:=reads_clean f2 (f4.trans q2) (a:=a) (L:=L) L.length (by rw [f3];exact ha)
 refine⟨by rw [e1];exact f2,by rw [e1];exact f4.trans q2,by rw [e1,f5,hst];exact q3,by rw [e1];exact f3,by rw [e1];exact f6,?_⟩
 rw [e1,e,er]
end Go.Jr
end
section
/- Records that are appended, one after the other, while the power stays on. -/
namespace Go.Jr
open Go Go.Am Go.Dk
theorem append_long{δ:Type}{V:Dev δ}{d:δ}{j:J}{t:List Int}(hc:j.closed=false)(h:8000 < t.length∨4096 < j.next):append V d j t=(d,j,0,4):=by
 simp only [append,hc,cond_false]
 by_cases h1:(8000:Int) < t.length
 ·rw [decide_eq_true h1,cond_true]
 ·rw [decide_eq_false h1,cond_false,decide_eq_true (by omega),cond_true]
theorem append_full{δ:Type}{V:Dev δ}{d:δ}{j:J}{t:List Int}(hc:j.closed=false)(h:t.length≤8000)(h2:j.next≤4096)(hr:count t.length > V.n d-j.fin):append V d j t=(d,j,0,21):=by
 simp only [append,hc,cond_false]
 rw [decide_eq_false (by omega),cond_false,decide_eq_false (by omega),cond_false,decide_eq_true hr,cond_true]
theorem append_room{δ:Type}{V:Dev δ}{d:δ}{j:J}{t:List Int}(hc:j.closed=false)(h:t.length≤8000)(h2:j.next≤4096)(hr:count t.length≤V.n d-j.fin):append V d j t =
  (let r:=writeAll V d j.fin (sectors j.next t)
   let k:J:={ j with next:=j.next+1,fin:=j.fin+count t.length }
   cond (r.2.1 != 0) (r.1,{ k with closed:=true },0,r.2.1) (cond (!r.2.2) (r.1,k,0,23) (r.1,{ k with nums:=k.nums++[j.next],texts:=k.texts++[t] },j.next,0))):=by
 simp only [append,hc,cond_false]
 rw [decide_eq_false (by omega),cond_false,decide_eq_false (by omega),cond_false,decide_eq_false (by omega),cond_false]
abbrev zero:List Int:=List.replicate 64 0
structure Inv (r:R) (j:J) (gs:List Seg):Prop where
 clean:Clean r
 on:r.off=false
 left:r.left < 0
 room:(gs.flatMap Seg.L).length≤r.s.length
 holds:r.s.map fT=gs.flatMap Seg.L++List.replicate (r.s.length-(gs.flatMap Seg.L).length) zero
 oks:∀ g∈gs,g.Ok
 nums:gs.map Seg.num=(List.range gs.length).map fun i:Nat=>(i:Int)+1
 next:j.next=(gs.length:Int)+1
 fin:j.fin=((gs.flatMap Seg.L).length:Int)
 opened:j.closed=false
 found:j.nums=(gs.filter Seg.full).map Seg.num∧j.texts=(gs.filter Seg.full).map Seg.text
theorem Inv.at_{r:R}{j:J}{gs:List Seg}(h:Inv r j gs){i:Nat}(hi:i < r.s.length):fT (r.s.getD i [])=(gs.flatMap Seg.L++List.replicate (r.s.length-(gs.flatMap Seg.L).length) zero).getD i []:=by
 rw [← h.holds]
 simp only [List.getD_eq_getElem?_getD,List.getElem?_map,List.getElem?_eq_getElem hi];rfl
theorem Inv.free{r:R}{j:J}{gs:List Seg}(h:Inv r j gs){i:Nat}(h1:(gs.flatMap Seg.L).length≤i)(hi:i < r.s.length):fT (r.s.getD i [])=zero:=by
 rw [h.at_ hi,List.getD_eq_getElem?_getD,List.getElem?_append_right h1,List.getElem?_replicate,if_pos (by omega)];rfl
theorem Inv.nodup{r:R}{j:J}{gs:List Seg}(h:Inv r j gs):(gs.map Seg.num).Nodup:=by
 rw [h.nums,List.nodup_iff_pairwise_ne,List.pairwise_map]
 exact(List.nodup_range (n:=gs.length)).imp fun hne=>by omega
theorem Inv.append{r:R}{j:J}{gs:List Seg}(h:Inv r j gs)(hm:gs.length < 4096){t:List Int}(ht:t.length≤8000)(hr:count t.length≤(r.s.length:Int)-j.fin):
  ∃ g:Seg,g.num=j.next∧g.text=t∧Inv (Jr.append RV r j t).1 (Jr.append RV r j t).2.1 (gs++[g])∧(Jr.append RV r j t).2.2=(if g.full=true then (j.next,0) else (0,23)) ∧
   (Jr.append RV r j t).1.s.length=r.s.length∧(∀ i,i < r.s.length→fW ((Jr.append RV r j t).1.s.getD i [])=fW (r.s.getD i [])) ∧
   ((∀ i,i < r.s.length→fW (r.s.getD i [])=false)→g.full=true):=by
 obtain⟨c1,c2,c3,c4,c5⟩:=count_ok ht
 have hnext:=h.next
 have hfin:=h.fin
 generalize ha:(gs.flatMap Seg.L).length=a at *
 have hLl:(sectors j.next t).length=(count t.length).toNat:=sectors_len _ _
 have hroom:a+(sectors j.next t).length≤r.s.length:=by omega
 have hL:∀ i,i < (sectors j.next t).length→(sectors j.next t).getD i []=sector j.next t i:=fun i hi=>sectors_get (by omega)
 obtain⟨w1,w2,w3,w4,w5,w6⟩:=writeAll_on h.clean h.on h.left hroom (fun i hi=>by rw [hL i hi,sector_len])
 have happ:=append_room (V:=RV) (d:=r) (j:=j) (t:=t) h.opened ht (by omega) hr
 rw [hfin] at happ
 generalize hq:(writeAll RV r (a:Int) (sectors j.next t)).1=q at *
 let g:Seg:=⟨j.next,t,(List.range (sectors j.next t).length).map fun i=>fT (q.s.getD (a+i) [])⟩
 have gl:g.L.length=(sectors j.next t).length:=by simp [g]
 have ga:∀ i,i < (sectors j.next t).length→g.L.getD i []=fT (q.s.getD (a+i) []):=fun i hi=>by
  simp [g,List.getD_eq_getElem?_getD,List.getElem?_map,List.getElem?_range hi]
 have gv:∀ i,i < (sectors j.next t).length→g.L.getD i []=if fW (r.s.getD (a+i) [])=false then sector j.next t i else zero:=fun i hi=>by
  rw [ga i hi,(w5 (a+i) (by omega)).2,Nat.add_sub_cancel_left,hL i hi,h.free (by omega) (by omega)]
  by_cases hw:fW (r.s.getD (a+i) [])=false
  ·rw [if_pos ⟨by omega,by omega,hw⟩,if_pos hw]
  ·rw [if_neg (fun h'=>hw h'.2.2),if_neg hw]
 have hg:g.Ok:=⟨by show 1≤j.next;omega,by show j.next≤4096;omega,ht,by rw [gl,hLl],fun i hi=>by
  rw [gv i (by omega)]
  by_cases hw:fW (r.s.getD (a+i) [])=false
  ·rw [if_pos hw];exact .inl rfl
  ·rw [if_neg hw];exact .inr zero_bad⟩
 have hfull:((List.range (sectors j.next t).length).all fun i=>(sectors j.next t).getD i []==fT (q.s.getD (a+i) []))=g.full:=by
  rw [Bool.eq_iff_iff]
  simp only [List.all_eq_true,List.mem_range,beq_iff_eq]
  constructor
  ·intro hall
   cases hf:g.full with
   | true=>rfl
   | false=>
    obtain⟨i,hi,hb⟩:=hg.spoiled hf
    rw [ga i (by omega),← hall i (by omega),hL i (by omega),unpack_sector (by omega) (by omega) ht (by omega)] at hb
    cases hb
  ·intro hf i hi
   rw [← ga i hi,hg.full hf (by omega),hL i hi]
 have hflat:((gs++[g]).flatMap Seg.L).length=a+(sectors j.next t).length:=by
  rw [List.flatMap_append,List.length_append,ha,List.flatMap_cons,List.flatMap_nil,List.append_nil,gl]
 have holds:q.s.map fT=(gs++[g]).flatMap Seg.L++List.replicate (q.s.length-((gs++[g]).flatMap Seg.L).length) zero:=by
  apply List.ext_getElem?
  intro i
  rw [hflat,w4,List.flatMap_append,List.flatMap_cons,List.flatMap_nil,List.append_nil]
  by_cases hi:i < r.s.length
  ·have hiq:i < q.s.length:=by omega
   have e1:(q.s.map fT)[i]?=some (fT (q.s.getD i [])):=by
    rw [List.getElem?_map,List.getElem?_eq_getElem hiq,List.getD_eq_getElem?_getD,List.getElem?_eq_getElem hiq];rfl
   rw [e1]
   by_cases h1:i < a
   ·rw [List.append_assoc,List.getElem?_append_left (by omega),(w5 i hi).2,if_neg (by omega),h.at_ hi,List.getD_eq_getElem?_getD,List.getElem?_append_left (by omega),List.getElem?_eq_getElem (by omega)]
    rfl
   ·by_cases h2:i < a+(sectors j.next t).length
    ·rw [List.append_assoc,List.getElem?_append_right (by omega),List.getElem?_append_left (by omega),ha]
     have:=ga (i-a) (by omega)
     rw [show a+(i-a)=i by omega] at this
     rw [← this,List.getD_eq_getElem?_getD,List.getElem?_eq_getElem (by omega)]
     rfl
    ·rw [List.getElem?_append_right (by rw [List.length_append];omega),List.getElem?_replicate,if_pos (by rw [List.length_append];omega),(w5 i hi).2,if_neg (by omega),h.free (by omega) hi]
  ·rw [List.getElem?_eq_none (by rw [List.length_map];omega),List.getElem?_eq_none (by simp only [List.length_append,List.length_replicate];omega)]
 refine⟨g,rfl,rfl,?_⟩
 have hcnt:count (t.length:Int)=((sectors j.next t).length:Int):=by omega
 have hW:writeAll RV r (a:Int) (sectors j.next t)=(q,0,g.full):=by
  rw [← hfull]
  exact Prod.ext hq w6
 rw [hW] at happ
 have e1:(Jr.append RV r j t).1=q:=by
  rw [happ]
  cases g.full <;> rfl
 have e2:(Jr.append RV r j t).2=if g.full=true then ({ j with next:=j.next+1,fin:=(a:Int)+count t.length,nums:=j.nums++[j.next],texts:=j.texts++[t] },j.next,0) else ({ j with next:=j.next+1,fin:=(a:Int)+count t.length },0,23):=by
  rw [happ]
  cases g.full <;> rfl
 have base:∀ k:J,k.next=j.next+1→k.fin=(a:Int)+count t.length→k.closed=false→k.nums=((gs++[g]).filter Seg.full).map Seg.num→k.texts=((gs++[g]).filter Seg.full).map Seg.text→Inv q k (gs++[g]):=fun k k1 k2 k3 k4 k5=>
  {
   clean:=w1,on:=w2,left:=w3,room:=by rw [hflat,w4];exact hroom,holds:=holds,
   oks:=fun x hx=>by
    rcases List.mem_append.1 hx with hx | hx
    ·exact h.oks x hx
    ·rw [List.mem_singleton] at hx;rw [hx];exact hg,
   nums:=by rw [List.map_append,h.nums,List.length_append,List.length_singleton,List.range_succ,List.map_append];show _++[j.next]=_++[((gs.length:Nat):Int)+1];rw [hnext],
   next:=by rw [k1,hnext,List.length_append];simp,
   fin:=by rw [k2,hflat,hcnt];simp,opened:=k3,found:=⟨k4,k5⟩ }
 obtain⟨f1,f2⟩:=h.found
 rw [e1,e2]
 refine⟨?_,?_,w4,fun i hi=>(w5 i hi).1,fun hw=>?_⟩
 ·cases hf:g.full with
  | true=>
   rw [if_pos rfl]
   refine base _ rfl rfl h.opened ?_ ?_
   ·rw [List.filter_append,List.map_append,← f1];simp [hf];rfl
   ·rw [List.filter_append,List.map_append,← f2];simp [hf];rfl
  | false=>
   rw [if_neg (by decide)]
   refine base _ rfl rfl h.opened ?_ ?_
   ·rw [List.filter_append,List.map_append,← f1];simp [hf]
   ·rw [List.filter_append,List.map_append,← f2];simp [hf]
 ·cases g.full <;> rfl
 ·cases hf:g.full with
  | true=>rfl
  | false=>
   obtain⟨i,hi,hb⟩:=hg.spoiled hf
   rw [gv i (by omega),if_pos (hw (a+i) (by omega)),unpack_sector (by omega) (by omega) ht (by omega)] at hb
   cases hb
end Go.Jr
end
section
/- Opening a journal anew, and what Append answers. -/
namespace Go.Jr
open Go Go.Am Go.Dk
theorem secs_clean{r:R}(h:Clean r)(ho:r.off=false):secsR r=r.s.map fT:=by
 apply List.ext_getElem?
 intro i
 by_cases hi:i < r.s.length
 ·have e:=rread_clean h ho hi
  rw [List.getD_eq_getElem?_getD,List.getElem?_eq_getElem hi] at e
  simp only [secsR,List.getElem?_map,List.getElem?_range hi,Option.map_some,e,List.getElem?_eq_getElem hi]
  rfl
 ·rw [List.getElem?_eq_none (by simp [secsR];omega),List.getElem?_eq_none (by simp;omega)]
theorem Inv.secs{r:R}{j:J}{gs:List Seg}(h:Inv r j gs):secsR r=gs.flatMap Seg.L++List.replicate (r.s.length-(gs.flatMap Seg.L).length) zero:=by
 rw [secs_clean h.clean h.on,h.holds]
theorem zeros_bad(n:Nat):∀ s∈List.replicate n zero,(unpack s).ok=false:=fun s hs=>by
 rw [(List.mem_replicate.1 hs).2];exact zero_bad
theorem Inv.reopen{r:R}{j:J}{gs:List Seg}(h:Inv r j gs):(openS (secsR r)).nums=j.nums∧(openS (secsR r)).texts=j.texts:=by
 rw [h.secs]
 obtain⟨e1,e2⟩:=openS_segs (zeros_bad (r.s.length-(gs.flatMap Seg.L).length)) h.oks h.nodup
 rw [e1,e2]
 exact⟨h.found.1.symm,h.found.2.symm⟩
theorem zero_blank:blank zero=true:=by decide
theorem inv_new{r:R}(hc:Clean r)(ho:r.off=false)(hl:r.left < 0)(hz:∀ i,i < r.s.length→fT (r.s.getD i [])=zero):Inv r (openS (secsR r)) []:=by
 have hs:r.s.map fT=List.replicate r.s.length zero:=by
  apply List.ext_getElem?
  intro i
  by_cases hi:i < r.s.length
  ·have:=hz i hi
   rw [List.getD_eq_getElem?_getD,List.getElem?_eq_getElem hi] at this
   rw [List.getElem?_map,List.getElem?_eq_getElem hi,List.getElem?_replicate,if_pos hi]
   exact congrArg some this
  ·rw [List.getElem?_eq_none (by simp;omega),List.getElem?_eq_none (by simp;omega)]
 have hsec:secsR r=List.replicate r.s.length zero:=by rw [secs_clean hc ho,hs]
 have hat:∀ i,i < r.s.length→(List.replicate r.s.length zero).getD i []=zero:=fun i hi=>by
  rw [List.getD_eq_getElem?_getD,List.getElem?_replicate,if_pos hi];rfl
 obtain⟨e1,e2⟩:=openS_segs (gs:=[]) (zeros_bad r.s.length) (fun _ h=>by cases h) (by simp)
 simp only [List.flatMap_nil,List.nil_append,List.filter_nil,List.map_nil] at e1 e2
 have en:nextOf (List.replicate r.s.length zero) r.s.length=1:=by
  have h1:=nextOf_le (S:=List.replicate r.s.length zero) (M:=0) (by omega) r.s.length fun i hi=>by rw [hat i hi,unpack_bad zero_bad];exact Int.le_refl _
  have h2:=nextOf_one (List.replicate r.s.length zero) r.s.length
  omega
 have ef:finOf (List.replicate r.s.length zero) r.s.length=0:=finOf_none fun i hi=>by rw [hat i hi];exact zero_blank
 rw [hsec]
 exact {
     clean:=hc,on:=ho,left:=hl,room:=Nat.zero_le _,holds:=by rw [hs];rfl,oks:=(fun _ h=>by cases h),nums:=rfl,
     next:=by show nextOf _ (List.replicate r.s.length zero).length=_;rw [List.length_replicate,en];rfl,
     fin:=by show finOf _ (List.replicate r.s.length zero).length=_;rw [List.length_replicate,ef];rfl,
     opened:=rfl,found:=⟨e1,e2⟩ }
theorem Inv.any{r:R}{j:J}{gs:List Seg}(h:Inv r j gs)(hm:gs.length < 4096)(t:Li):
  ∃ gs':List Seg,Inv (Jr.append RV r j t).1 (Jr.append RV r j t).2.1 gs'∧gs'.length≤gs.length+1∧(Jr.append RV r j t).1.s.length=r.s.length∧(∀ i,i < r.s.length→fW ((Jr.append RV r j t).1.s.getD i [])=fW (r.s.getD i [])) ∧
   (((Jr.append RV r j t).2.2.2=0∧(Jr.append RV r j t).2.2.1=j.next∧(Jr.append RV r j t).2.1.nums=j.nums++[j.next]∧(Jr.append RV r j t).2.1.texts=j.texts++[t]) ∨
    (((Jr.append RV r j t).2.2.2=4∨(Jr.append RV r j t).2.2.2=21∨(Jr.append RV r j t).2.2.2=23)∧(Jr.append RV r j t).2.1.nums=j.nums∧(Jr.append RV r j t).2.1.texts=j.texts)) ∧
   ((∀ i,i < r.s.length→fW (r.s.getD i [])=false)→(∀ g∈gs,g.full=true)→(∀ g∈gs',g.full=true)∧(Jr.append RV r j t).2.2.2≠23):=by
 have hnext:=h.next
 by_cases hlong:8000 < t.length∨4096 < j.next
 ·rw [append_long h.opened hlong]
  exact⟨gs,h,by omega,rfl,fun _ _=>rfl,.inr ⟨.inl rfl,rfl,rfl⟩,fun _ hf=>⟨hf,by show(4:Int)≠23;decide⟩⟩
 by_cases hfull:count t.length > (r.s.length:Int)-j.fin
 ·rw [append_full (V:=RV) h.opened (by omega) (by omega) hfull]
  exact⟨gs,h,by omega,rfl,fun _ _=>rfl,.inr ⟨.inr (.inl rfl),rfl,rfl⟩,fun _ hf=>⟨hf,by show(21:Int)≠23;decide⟩⟩
 obtain⟨g,g1,g2,g3,g4,g5,g6,g7⟩:=h.append hm (t:=t) (by omega) (by omega)
 obtain⟨f1,f2⟩:=h.found
 obtain⟨f3,f4⟩:=g3.found
 refine⟨gs++[g],g3,by simp,g5,g6,?_,fun hw hf=>⟨fun x hx=>?_,?_⟩⟩
 ·cases hg:g.full with
  | true=>
   left
   rw [g4,hg,if_pos rfl]
   refine⟨rfl,rfl,?_,?_⟩
   ·rw [f3,List.filter_append,List.map_append,← f1];simp [hg,g1]
   ·rw [f4,List.filter_append,List.map_append,← f2];simp [hg,g2]
  | false=>
   right
   rw [g4,hg,if_neg (by decide)]
   refine⟨.inr (.inr rfl),?_,?_⟩
   ·rw [f3,List.filter_append,List.map_append,← f1];simp [hg]
   ·rw [f4,List.filter_append,List.map_append,← f2];simp [hg]
 ·rcases List.mem_append.1 hx with hx | hx
  ·exact hf x hx
  ·rw [List.mem_singleton] at hx;rw [hx];exact g7 hw
 ·rw [g4,g7 hw,if_pos rfl];show(0:Int)≠23;decide
end Go.Jr
end
section
/- A journal on a disk of the program that stays on: what holds, and that appending keeps it. -/
namespace Go.Jr
open Go Go.Am Go.Dk
structure Both (d:D) (r:R) (j:J) (gs:List Seg):Prop where
 rel:DR d r
 inv:Inv r j gs
theorem append_bad{δ:Type}(V:Dev δ)(d:δ)(j:J)(t:Li):(append V d j t).2.1.bad=j.bad:=by
 simp only [append]
 cases j.closed
 ·cases decide ((8000:Int) < t.length)
  ·cases decide (j.next > 4096)
   ·cases decide (count t.length > V.n d-j.fin)
    ·cases ((writeAll V d j.fin (sectors j.next t)).2.1 != 0)
     ·cases (!(writeAll V d j.fin (sectors j.next t)).2.2) <;> rfl
     ·rfl
    ·rfl
   ·rfl
  ·rfl
 ·rfl
theorem Both.fine{d:D}{r:R}{j:J}{gs:List Seg}(h:Both d r j gs):Dk.fine d=true:=h.rel.1.fine
theorem Both.n{d:D}{r:R}{j:J}{gs:List Seg}(h:Both d r j gs):r.s.length=d.n:=h.rel.1.n
theorem Both.secs{d:D}{r:R}{j:J}{gs:List Seg}(h:Both d r j gs):secsD d=secsR r:=secs_rel h.rel.1
theorem Both.on{d:D}{r:R}{j:J}{gs:List Seg}(h:Both d r j gs):d.off=false:=h.rel.1.off.trans h.inv.on
theorem Rel.pends{d:D}{r:R}(h:Rel d r):d.pend.length≤d.n:=nodup_len (fun e he=>(h.keys e he).1) h.nd
theorem Both.okJ{d:D}{r:R}{j:J}{gs:List Seg}(h:Both d r j gs)(hn:d.n < 4000)(hm:gs.length < 4096):okJ d j=true:=by
 have h1:=Rel.pends h.rel.1
 have h2:=h.inv.fin
 have h3:=h.inv.next
 have h4:=h.inv.room
 have h5:=h.n
 have h6:j.nums.length≤gs.length:=by rw [h.inv.found.1,List.length_map];exact List.length_filter_le _ _
 have h7:j.texts.length≤gs.length:=by rw [h.inv.found.2,List.length_map];exact List.length_filter_le _ _
 simp only [Jr.okJ,decide_eq_true_eq]
 omega
theorem Both.any{d:D}{r:R}{j:J}{gs:List Seg}(h:Both d r j gs)(hm:gs.length < 4096)(t:Li):
  ∃ (r':R) (gs':List Seg),Both (append DV d j t).1 r' (append DV d j t).2.1 gs'∧gs'.length≤gs.length+1∧(append DV d j t).1.n=d.n ∧
   (((append DV d j t).2.2.2=0∧(append DV d j t).2.2.1=j.next∧(append DV d j t).2.1.next=j.next+1∧(append DV d j t).2.1.nums=j.nums++[j.next]∧(append DV d j t).2.1.texts=j.texts++[t]) ∨
    (((append DV d j t).2.2.2=4∨(append DV d j t).2.2.2=21∨(append DV d j t).2.2.2=23)∧(append DV d j t).2.1.nums=j.nums∧(append DV d j t).2.1.texts=j.texts∧j.next≤(append DV d j t).2.1.next)):=by
 obtain⟨e,q⟩:=append_rel devs h.rel j t
 obtain⟨gs',a1,a2,a3,a4,a5,a6⟩:=h.inv.any hm t
 rw [← e] at a1 a5
 refine⟨_,gs',⟨q,a1⟩,a2,?_,?_⟩
 ·rw [← q.1.n,a3,h.n]
 ·have hnx:∀ {δ:Type} (V:Dev δ) (d:δ),(append V d j t).2.1.next=j.next∨(append V d j t).2.1.next=j.next+1:=fun V d=>by
   simp only [append]
   cases j.closed
   ·cases decide ((8000:Int) < t.length)
    ·cases decide (j.next > 4096)
     ·cases decide (count t.length > V.n d-j.fin)
      ·cases ((writeAll V d j.fin (sectors j.next t)).2.1 != 0)
       ·cases (!(writeAll V d j.fin (sectors j.next t)).2.2)
        ·exact .inr rfl
        ·exact .inr rfl
       ·exact .inr rfl
      ·exact .inl rfl
     ·exact .inl rfl
    ·exact .inl rfl
   ·exact .inl rfl
  have hok:(append DV d j t).2.2.2=0→(append DV d j t).2.2.1=j.next→0 < j.next→(append DV d j t).2.1.next=j.next+1:=by
   simp only [append]
   cases j.closed
   ·cases decide ((8000:Int) < t.length)
    ·cases decide (j.next > 4096)
     ·cases decide (count t.length > DV.n d-j.fin)
      ·cases ((writeAll DV d j.fin (sectors j.next t)).2.1 != 0)
       ·cases (!(writeAll DV d j.fin (sectors j.next t)).2.2) <;> exact fun _ _ _=>rfl
       ·exact fun _ _ _=>rfl
      ·intro h;cases h
     ·intro h;cases h
    ·intro h;cases h
   ·intro h;cases h
  rcases a5 with ⟨b1,b2,b3,b4⟩ | ⟨b1,b2,b3⟩
  ·exact .inl ⟨b1,b2,hok b1 b2 (by have:=h.inv.next;omega),b3,b4⟩
  ·refine .inr ⟨b1,b2,b3,?_⟩
   rcases hnx DV d with e | e <;> omega
theorem Both.append{d:D}{r:R}{j:J}{gs:List Seg}(h:Both d r j gs)(hm:gs.length < 4096){t:List Int}(ht:t.length≤8000)(hr:count t.length≤(d.n:Int)-j.fin)(hw:∀ i,i < r.s.length→fW (r.s.getD i [])=false):
  ∃ (r':R) (g:Seg),g.num=j.next∧g.text=t∧g.full=true∧Both (Jr.append DV d j t).1 r' (Jr.append DV d j t).2.1 (gs++[g])∧(Jr.append DV d j t).2.2=(j.next,0)∧(Jr.append DV d j t).1.n=d.n∧(∀ i,i < r'.s.length→fW (r'.s.getD i [])=false):=by
 obtain⟨e,q⟩:=append_rel devs h.rel j t
 obtain⟨g,g1,g2,g3,g4,g5,g6,g7⟩:=h.inv.append hm ht (by rw [h.n];exact hr)
 have hf:=g7 hw
 rw [← e] at g3 g4
 refine⟨_,g,g1,g2,hf,⟨q,g3⟩,by rw [g4,if_pos hf],?_,fun i hi=>?_⟩
 ·rw [← q.1.n,g5,h.n]
 ·rw [g5] at hi;rw [g6 i hi];exact hw i hi
theorem rnew_get{n:Int}{i:Nat}(hi:i < (rnew n).s.length):(rnew n).s.getD i []=[List.replicate 64 0,[],[0],[0]]:=by
 simp only [rnew,List.length_replicate] at hi ⊢
 rw [List.getD_eq_getElem?_getD,List.getElem?_replicate,if_pos hi];rfl
structure Fresh (d:D) (r:R):Prop where
 rel:DR d r
 clean:Clean r
 on:r.off=false
 left:r.left < 0
 zero:∀ i,i < r.s.length→fT (r.s.getD i [])=zero
theorem fresh_new{n:Int}(h0:0 < n)(h1:n < 8000):Fresh (Dk.new n) (rnew n):=
 ⟨⟨new_rel h0 h1,by simp only [Dk.new];omega⟩,⟨(new_rel h0 h1).good,fun i hi=>by rw [rnew_get hi];rfl⟩,rfl,(show(-1:Int) < 0 by decide),fun i hi=>by rw [rnew_get hi];rfl⟩
theorem Fresh.both{d:D}{r:R}(h:Fresh d r):Both d r (openS (secsD d)) []:=by
 refine⟨h.rel,?_⟩
 rw [secs_rel h.rel.1]
 exact inv_new h.clean h.on h.left h.zero
theorem Fresh.wear{d:D}{r:R}(h:Fresh d r)(i:Int):Fresh (Dk.wear d i).1 (rwear r i).1∧(Dk.wear d i).1.n=d.n:=by
 have hn:(Dk.wear d i).1.n=d.n:=by
  simp only [Dk.wear]
  cases decide (i < 0)
  ·cases decide (i≥(d.n:Int)) <;> rfl
  ·rfl
 have hr:=(h.rel.1.wear i).2
 refine⟨?_,hn⟩
 have hd:DR (Dk.wear d i).1 (rwear r i).1:=⟨hr,by rw [hn];exact h.rel.2⟩
 cases hi:ris r i with
 | false=>
  have e:rwear r i=(r,1):=by simp only [rwear,hi];rfl
  rw [e] at hd ⊢
  exact⟨hd,h.clean,h.on,h.left,h.zero⟩
 | true=>
  have e:(rwear r i).1={ r with s:=r.s.set i.toNat (tput (r.at i) 3 [1]) }:=by simp only [rwear,hi];rfl
  rw [e] at hd ⊢
  have hget:∀ j,(r.s.set i.toNat (tput (r.at i) 3 [1])).getD j []=if i.toNat=j∧j < r.s.length then tput (r.at i) 3 [1] else r.s.getD j []:=fun j=>getD_set _ _ _ _ _
  refine⟨hd,⟨hd.1.good,fun j hj=>?_⟩,h.on,h.left,fun j hj=>?_⟩
  all_goals (simp only [List.length_set] at hj;simp only [hget])
  ·by_cases hc:i.toNat=j∧j < r.s.length
   ·rw [if_pos hc]
    have:=h.clean.none j hj
    simp only [fD,R.at,hc.1] at this ⊢
    rw [tput_get,if_neg (by decide)];exact this
   ·rw [if_neg hc];exact h.clean.none j hj
  ·by_cases hc:i.toNat=j∧j < r.s.length
   ·rw [if_pos hc]
    have:=h.zero j hj
    simp only [fT,R.at,hc.1] at this ⊢
    rw [tput_get,if_neg (by decide)];exact this
   ·rw [if_neg hc];exact h.zero j hj
theorem both_new{n:Int}(h0:0 < n)(h1:n < 8000):Both (Dk.new n) (rnew n) (openS (secsD (Dk.new n))) []:=by
 have hr:=new_rel h0 h1
 refine⟨⟨hr,by simp only [Dk.new];omega⟩,?_⟩
 rw [secs_rel hr]
 exact inv_new ⟨hr.good,fun i hi=>by rw [rnew_get hi];rfl⟩ rfl (show(-1:Int) < 0 by decide) fun i hi=>by rw [rnew_get hi];rfl
end Go.Jr
end
section
/- The example of the statements about the journal, in plain terms. -/
namespace Go.Jr
open Go Go.Am Go.Dk
abbrev xs50:List Int:=repeat_ [120] 50
def frN(c:Int):List Int:=[2,0,0,0,0,0,50,0,c]++List.replicate 47 120
theorem fr_eq:front 2 xs50 0=frN 120:=by decide
theorem fr_set:(front 2 xs50 0).set 8 (ibits .xor .u8 120 (bit 70))=frN 56:=by rw [fr_eq];decide
def turned:List Int:=(sector 2 xs50 0).set 8 (ibits .xor .u8 120 (bit 70))
theorem turned_eq:turned=frN 56++(Sha.hash (frN 120)).take 8:=by
 rw [turned,sector,checked,List.set_append_left _ _ (by rw [front_len];decide),fr_set,fr_eq]
theorem hash_ne:((Sha.hash (frN 56)).take 8==(Sha.hash (frN 120)).take 8)=false:=by decide +kernel
theorem turned_bad:(unpack turned).ok=false:=by
 have:unpack turned=Part.zero:=unpack_not (.inr (.inl fun e=>?_))
 ·rw [this];rfl
 ·have hl:(frN 56).length=56:=rfl
  rw [turned_eq,List.take_left' hl,List.drop_left' hl] at e
  have:=hash_ne
  rw [e] at this
  simp at this
theorem turned_blank:blank turned=false:=by
 rw [turned_eq];rfl
theorem sec97:sectors 1 [97]=[sector 1 [97] 0]:=rfl
theorem sec50:sectors 2 xs50=[sector 2 xs50 0,sector 2 xs50 1]:=rfl
theorem full_L{g:Seg}(h:g.full=true):g.L=sectors g.num g.text:=by simpa [Seg.full] using h
structure Ex (exD0:D) (exJ0:J) (ex1 ex2:D×J×Int×Int) (exD3:D) (exJ3:J) (ex4 ex5:D×J×Int×Int):Prop where
 b0:∃ r gs,Both exD0 r exJ0 gs∧gs.length < 9
 b1:∃ r gs,Both ex1.1 r ex1.2.1 gs∧gs.length < 9
 b2:∃ r gs,Both ex2.1 r ex2.2.1 gs∧gs.length < 9
 b3:∃ r gs,Both exD3 r exJ3 gs∧gs.length < 9
 b4:∃ r gs,Both ex4.1 r ex4.2.1 gs∧gs.length < 9
 b5:∃ r gs,Both ex5.1 r ex5.2.1 gs∧gs.length < 9
 n0:exD0.n=4
 n1:ex1.1.n=4
 n2:ex2.1.n=4
 n3:exD3.n=4
 n4:ex4.1.n=4
 n5:ex5.1.n=4
 x0:exJ0.next=1
 f0:exJ0.fin=0
 a1:ex1.2.2=(1,0)
 a2:ex2.2.2=(2,0)
 f2:ex2.2.1.fin=3
 rot:(Dk.rot ex2.1 1 70).2=0
 a4:ex4.2.2=(3,0)
 a5:ex5.2.2=(0,21)
 nums:ex5.2.1.nums=[1,3]
 texts:ex5.2.1.texts=[[97],[98]]
 next:ex5.2.1.next=4
 bad:ex5.2.1.bad=[1]
 damaged:damaged ex5.2.1=[2]
theorem openS_next(S:List Li):(openS S).next=nextOf S S.length:=rfl
theorem openS_fin(S:List Li):(openS S).fin=finOf S S.length:=rfl
theorem openS_bad(S:List Li):(openS S).bad=badOf S S.length:=rfl
theorem ex_of{exD0:D}{exJ0:J}{ex1 ex2:D×J×Int×Int}{exD3:D}{exJ3:J}{ex4 ex5:D×J×Int×Int}(eD0:exD0=Dk.new 4)(eJ0:exJ0=openS (secsD exD0))(e1:ex1=append DV exD0 exJ0 [97])
  (e2:ex2=append DV ex1.1 ex1.2.1 xs50) (eD3:exD3=(Dk.rot ex2.1 1 70).1) (eJ3:exJ3=openS (secsD exD3)) (e4:ex4=append DV exD3 exJ3 [98]) (e5':ex5=append DV ex4.1 ex4.2.1 [99]):Ex exD0 exJ0 ex1 ex2 exD3 exJ3 ex4 ex5:=by
 have b0:Both exD0 (rnew 4) exJ0 []:=by rw [eJ0,eD0];exact both_new (by decide) (by decide)
 have n0:exD0.n=4:=by rw [eD0];rfl
 have x0:=b0.inv.next
 have f0:=b0.inv.fin
 simp only [List.length_nil,List.flatMap_nil] at x0 f0
 have w0:∀ i,i < (rnew 4).s.length→fW ((rnew 4).s.getD i [])=false:=fun i hi=>by rw [rnew_get hi];rfl
 obtain⟨r1,g1,g1n,g1t,g1f,b1,a1,n1,w1⟩:=b0.append (by decide) (t:=[97]) (by decide) (by rw [n0,f0];decide) w0
 rw [← e1] at b1 a1 n1
 rw [x0] at g1n a1
 have l1:g1.L=[sector 1 [97] 0]:=by rw [full_L g1f,g1n,g1t];exact sec97
 have x1:=b1.inv.next
 have f1:=b1.inv.fin
 simp only [List.nil_append,List.length_cons,List.length_nil,List.flatMap_cons,List.flatMap_nil,l1,List.append_nil] at x1 f1
 obtain⟨r2,g2,g2n,g2t,g2f,b2,a2,n2,w2⟩:=b1.append (by simp) (t:=xs50) (by decide) (by rw [n1,n0,f1];decide) w1
 rw [← e2] at b2 a2 n2
 rw [x1] at g2n a2
 have l2:g2.L=[sector 2 xs50 0,sector 2 xs50 1]:=by rw [full_L g2f,g2n,g2t];exact sec50
 have f2:=b2.inv.fin
 simp only [List.nil_append,List.cons_append,List.length_cons,List.length_nil,List.flatMap_cons,List.flatMap_nil,l1,l2,List.append_nil] at f2
 have hl2:r2.s.length=4:=by rw [b2.n,n2,n1,n0]
 have hold:=b2.inv.holds
 rw [hl2] at hold
 simp only [List.nil_append,List.cons_append,List.length_cons,List.length_nil,List.flatMap_cons,List.flatMap_nil,l1,l2,List.append_nil] at hold
 have hT1:fT (r2.s.getD 1 [])=sector 2 xs50 0:=by
  have:=congrArg (fun l=>l.getD 1 []) hold
  simp only [List.getD_eq_getElem?_getD,List.getElem?_map,List.getElem?_eq_getElem (show 1 < r2.s.length by omega)] at this ⊢
  exact this
 obtain⟨rot1,rot2⟩:=b2.rel.1.rot 1 70
 have hris:ris r2 1=true:=ris_iff.2 ⟨by decide,by rw [hl2];decide⟩
 have s8:(sector 2 xs50 0).getD 8 0=120:=by rw [sector,checked,fr_eq];rfl
 have hrr:rrot r2 1 70=({ r2 with s:=r2.s.set 1 (tput (r2.s.getD 1 []) 0 turned) },0):=by
  simp only [rrot,hris,Bool.not_true,cond_false,R.at]
  rw [show Int.toNat 1=1 from rfl,hT1,show(Int.tdiv 70 8).toNat=8 from rfl,s8]
  rfl
 rw [hrr] at rot1 rot2
 rw [← eD3] at rot2
 generalize hr3:({ r2 with s:=r2.s.set 1 (tput (r2.s.getD 1 []) 0 turned) }:R)=r3 at *
 have n3:exD3.n=4:=by rw [← rot2.n,← hr3];simp [hl2]
 have e3:r3.s=r2.s.set 1 (tput (r2.s.getD 1 []) 0 turned):=by rw [← hr3]
 have hl3:r3.s.length=4:=by rw [rot2.n,n3]
 have hget:∀ i,r3.s.getD i []=if 1=i∧i < r2.s.length then tput (r2.s.getD 1 []) 0 turned else r2.s.getD i []:=fun i=>by rw [e3,Dk.getD_set]
 have hcl:Clean r3:=⟨rot2.good,fun i hi=>by
  rw [hget i]
  split
  ·show fD (tput (r2.s.getD 1 []) 0 turned)=false
   have:=b2.inv.clean.none 1 (by omega)
   simp only [fD,tput_get] at this ⊢
   exact this
  ·exact b2.inv.clean.none i (by omega)⟩
 have hw3:∀ i,i < r3.s.length→fW (r3.s.getD i [])=false:=fun i hi=>by
  rw [hget i]
  split
  ·have:=w2 1 (by omega)
   simp only [fW,tput_get] at this ⊢
   exact this
  ·exact w2 i (by omega)
 have hold3:r3.s.map fT=[sector 1 [97] 0,turned,sector 2 xs50 1,zero]:=by
  have ht:fT (tput (r2.s.getD 1 []) 0 turned)=turned:=by simp only [fT,tput_get,if_true]
  rw [e3,List.map_set,hold,ht]
  rfl
 have ho3:r3.off=false:=by rw [← hr3];exact b2.inv.on
 have hlf3:r3.left < 0:=by rw [← hr3];exact b2.inv.left
 let g2':Seg:=⟨2,xs50,[turned,sector 2 xs50 1]⟩
 have hg1:=b2.inv.oks g1 (by simp)
 have hg2:g2'.Ok:=⟨by decide,by decide,by decide,by decide,fun i hi=>by
  have hi:i < 2:=hi
  rcases(show i=0∨i=1 by omega) with rfl | rfl
  ·exact .inr turned_bad
  ·exact .inl rfl⟩
 have u1:unpack (sector 1 [97] 0)=⟨1,0,1,[97],true⟩:=unpack_sector (by decide) (by decide) (by decide) (by decide)
 have u2:unpack turned=Part.zero:=unpack_bad turned_bad
 have u3:unpack (sector 2 xs50 1)=⟨2,1,2,[120,120],true⟩:=unpack_sector (by decide) (by decide) (by decide) (by decide)
 have u4:unpack zero=Part.zero:=unpack_bad zero_bad
 have v1:blank (sector 1 [97] 0)=false:=sector_blank (by decide) (by decide)
 have v3:blank (sector 2 xs50 1)=false:=sector_blank (by decide) (by decide)
 have hS:secsD exD3=[sector 1 [97] 0,turned,sector 2 xs50 1,zero]:=by rw [secs_rel rot2,secs_clean hcl ho3,hold3]
 have hg2f:g2'.full=false:=by
  cases hf:g2'.full with
  | false=>rfl
  | true=>
   have:=full_L hf
   rw [show sectors g2'.num g2'.text=sectors 2 xs50 from rfl,sec50] at this
   have e:turned=sector 2 xs50 0:=(List.cons.inj this).1
   have hb:=turned_bad
   rw [e,unpack_sector (by decide) (by decide) (by decide) (by decide)] at hb
   cases hb
 have hoks:∀ g∈[g1,g2'],g.Ok:=fun g hg=>by
  simp only [List.mem_cons,List.not_mem_nil,or_false] at hg
  rcases hg with rfl | rfl
  ·exact hg1
  ·exact hg2
 have hfl : [g1,g2'].flatMap Seg.L=[sector 1 [97] 0,turned,sector 2 xs50 1]:=by simp only [List.flatMap_cons,List.flatMap_nil,l1];rfl
 have hnum2 : [g1,g2'].map Seg.num=[1,2]:=by simp only [List.map_cons,List.map_nil,g1n];rfl
 have hseg:=openS_segs (T:=[zero]) (gs:=[g1,g2']) (fun s hs=>by rw [List.mem_singleton] at hs;rw [hs];exact zero_bad) hoks (by rw [hnum2];decide)
 rw [hfl] at hseg
 have x3:exJ3.next=3:=by
  rw [eJ3,openS_next,hS]
  simp only [List.length_cons,List.length_nil,nextOf,Nat.zero_add,List.getD_cons_zero,List.getD_cons_succ,u1,u2,u3,u4,Part.zero]
  decide
 have f3:exJ3.fin=3:=by
  rw [eJ3,openS_fin,hS]
  simp only [List.length_cons,List.length_nil,finOf,List.getD_cons_zero,List.getD_cons_succ,v1,turned_blank,v3,zero_blank,cond_true,cond_false]
  decide
 have bd3:exJ3.bad=[1]:=by
  rw [eJ3,openS_bad,hS]
  simp only [List.length_cons,List.length_nil]
  rw [badOf_succ,badOf_succ,badOf_succ,badOf_succ]
  simp only [List.getD_cons_zero,List.getD_cons_succ,u1,u2,u3,u4,v1,turned_blank,v3,zero_blank,Part.zero]
  rfl
 have b3:Both exD3 r3 exJ3 [g1,g2']:=⟨⟨rot2,by omega⟩,{ clean:=hcl,on:=ho3,left:=hlf3,room:=by rw [hfl,hl3];decide,holds:=by rw [hfl,hold3,hl3];rfl,oks:=hoks,nums:=hnum2,next:=x3,fin:=by rw [f3,hfl];rfl,opened:=by rw [eJ3];rfl,found:=⟨by rw [eJ3,hS];exact hseg.1,by rw [eJ3,hS];exact hseg.2⟩ }⟩
 obtain⟨r4,g4,g4n,g4t,g4f,b4,a4,n4,w4⟩:=b3.append (by simp) (t:=[98]) (by decide) (by rw [n3,f3];decide) hw3
 rw [← e4] at b4 a4 n4
 rw [x3] at g4n a4
 have x4:=b4.inv.next
 have f4:=b4.inv.fin
 have l4:g4.L=[sector 3 [98] 0]:=by rw [full_L g4f,g4n,g4t];rfl
 simp only [List.cons_append,List.nil_append,List.length_cons,List.length_nil] at x4
 rw [List.flatMap_append,List.length_append,hfl,List.flatMap_cons,List.flatMap_nil,l4] at f4
 have h5:=append_full (V:=DV) (d:=ex4.1) (j:=ex4.2.1) (t:=[99]) b4.inv.opened (by decide) (by rw [x4];decide) (by show count _ > (ex4.1.n:Int)-_;rw [n4,n3,f4];decide)
 rw [← e5'] at h5
 have e5:ex5=(ex4.1,ex4.2.1,0,21):=h5
 have hn4:=b4.inv.found.1
 have ht4:=b4.inv.found.2
 simp only [List.cons_append,List.nil_append,List.filter_cons,List.filter_nil,g1f,hg2f,g4f,if_true,if_false,Bool.false_eq_true,List.map_cons,List.map_nil,g1n,g1t,g4n,g4t] at hn4 ht4
 have bd4:ex4.2.1.bad=[1]:=by rw [e4,append_bad,bd3]
 exact {
     b0:=⟨_,_,b0,by decide⟩,b1:=⟨_,_,b1,by simp⟩,b2:=⟨_,_,b2,by simp⟩,b3:=⟨_,_,b3,by simp⟩,b4:=⟨_,_,b4,by simp⟩,b5:=by rw [e5];exact⟨_,_,b4,by simp⟩,
     n0:=n0,n1:=by rw [n1,n0],n2:=by rw [n2,n1,n0],n3:=n3,n4:=by rw [n4,n3],n5:=by rw [e5];exact n4.trans n3,
     x0:=x0,f0:=f0,a1:=a1,a2:=a2,f2:=f2,rot:=rot1,a4:=a4,a5:=by rw [e5],nums:=by rw [e5];exact hn4,texts:=by rw [e5];exact ht4,next:=by rw [e5];exact x4,bad:=by rw [e5];exact bd4,
     damaged:=by
      rw [e5]
      show damaged ex4.2.1=[2]
      rw [Jr.damaged,x4,hn4]
      rfl }
theorem Both.can{d:D}{j:J}(h:∃ r gs,Both d r j gs∧gs.length < 9)(hn:d.n=4):(Dk.fine d && !d.off)=true∧(Dk.fine d&&Jr.okJ d j)=true:=by
 obtain⟨r,gs,h,hl⟩:=h
 rw [h.fine,h.on,h.okJ (by omega) (by omega)]
 exact⟨rfl,rfl⟩
theorem pack97:pack 1 [97]=([sector 1 [97] 0],0):=rfl
theorem unpack97:unpack (sector 1 [97] 0)=⟨1,0,1,[97],true⟩:=unpack_sector (by decide) (by decide) (by decide) (by decide)
end Go.Jr
end
section
namespace Go.Am
open Go Go.Proofs
abbrev sp58:List (Nat×Md):=[(1,.plain),(3,.plain),(4,.plain)]
abbrev sp59:List (Nat×Md):=[(1,.plain),(3,.plain),(54,.plain)]
abbrev sp60:List (Nat×Md):=[(1,.plain),(3,.plain)]
abbrev sp61:List (Nat×Md):=[(1,.plain),(3,.plain),(5,.plain),(6,.plain)]
abbrev sp62:List (Nat×Md):=[(1,.plain),(3,.plain),(5,.plain),(6,.plain),(7,.plain),(8,.plain)]
abbrev sp63:List (Nat×Md):=[(1,.plain),(5,.plain),(6,.plain),(7,.plain),(8,.plain),(9,.plain)]
abbrev sp64:List (Nat×Md):=[(1,.plain),(5,.plain),(6,.plain),(7,.plain),(8,.plain),(9,.plain),(10,.plain)]
abbrev sp65:List (Nat×Md):=[(5,.plain),(6,.plain),(7,.plain),(8,.plain),(9,.plain),(10,.plain),(11,.plain),(12,.plain)]
abbrev sp66:List (Nat×Md):=[(11,.plain),(104,.plain)]
abbrev sp67:List (Nat×Md):=[(11,.plain),(13,.plain),(14,.plain)]
abbrev sp68:List (Nat×Md):=[(11,.plain),(13,.plain),(14,.plain),(16,.plain)]
abbrev sp69:List (Nat×Md):=[(11,.plain),(13,.plain),(14,.plain),(16,.plain),(17,.plain),(18,.plain)]
abbrev sp70:List (Nat×Md):=[(11,.plain),(17,.plain),(137,.plain)]
abbrev sp71:List (Nat×Md):=[(11,.plain),(17,.plain)]
abbrev sp72:List (Nat×Md):=[(11,.plain),(19,.plain),(20,.plain),(21,.plain),(22,.plain),(23,.plain)]
abbrev Ty54:=Int×Int×Int×Int×(Dk.D)×(Jr.J)
abbrev Ty55:=Int×Int×Int×Int×Int×(Dk.D)
abbrev Ty56:=Int×Int×Int×Int×Int×Int×(Dk.D)
abbrev Ty57:=Int×Int×Int×Int×Int×Int×Int×(Dk.D)×(Jr.J)
abbrev Ty58:=Int×Int×Int×(Dk.D)×(Jr.J)
abbrev Ty59:=Int×Int×Int×(List Li)×Int×(Dk.D)×(Jr.J)
abbrev Ty60:=(List Li)×Bool×(Dk.D)×(Jr.J)
abbrev Ty61:=(List Li)×(Dk.D)×(Jr.J)
abbrev Ty62:=Int×Int×Int×Li×Bool×(Dk.D)×(Jr.J)
def lV5:List CEnt:=[(6,[none,none],r6),(8,[none],r8),(10,[some 9,some 9],r10),(11,[none],r11),(13,[none],r13),(15,[none],r15),(16,[none,none],r16),(18,[some 3,some 3],r18),(19,[none],r19),(20,[none],r20),(21,[none],r21),(22,[none],r22),(23,[none,none],r23),(24,[none,none,none],r24),(25,[none],r25),(26,[none],r26)]
def V5:Env:=mkEnv T36 G36 lV5
noncomputable abbrev Kf52:=kFin V5 none (Tryd.f5).results.toList
theorem eV5:EOk Tryd.prog V5:=eok_mk (by exact⟨c6,c8,c10,c11,c13,c15,c16,c18,c19,c20,c21,c22,c23,c24,c25,c26,trivial⟩)
def Af5(F:Nat):Cuts:={ F:=F,at_:=fun _=>none,join:=fun n=>match n with | 1057=>some [] | 2055=>some sp17 | 3005=>some [(1,.plain),(33,.plain)] | 4047=>some [(1,.plain)] | 5045=>some sp58 | 6005=>some sp59 | 7037=>some sp60 | 8035=>some sp61 | 9033=>some sp62 | 10031=>some sp63 | 11029=>some sp64 | 12027=>some sp65 | 13005=>some sp66 | 14019=>some [(11,.plain)] | 15017=>some sp67 | 16015=>some sp68 | 17013=>some sp69 | 18005=>some sp70 | 19005=>some sp71 | 20003=>some sp72 | _=>none }
noncomputable abbrev XAf5(F:Nat){α:Type}:=@aexec α V5 (Af5 F)
def ef5_a:Unit→St:=fun _=>⟨[],[],0,193,0⟩
def ef5j1:Unit→St:=ef5_a
def ef5j2:Int×(Dk.D)→St:=fun (t2,e1)=>⟨[(1,.ptr 0 0 5 0 0 0 5),(2,.int .i64 t2)],[(0,(dE 1 e1 2 3)),(1,(bB e1.blk)),(2,(pB e1.pend)),(3,(wB e1.worn))],4,193,0⟩
def ef5j3:Bool×(Dk.D)→St:=fun (t33,e1)=>⟨[(1,.ptr 0 0 5 0 0 0 5),(33,.bool t33)],[(0,(dE 1 e1 2 3)),(1,(bB e1.blk)),(2,(pB e1.pend)),(3,(wB e1.worn))],4,193,0⟩
def ef5j4:(Dk.D)→St:=fun e1=>⟨[(1,.ptr 0 0 5 0 0 0 5)],[(0,(dE 1 e1 2 3)),(1,(bB e1.blk)),(2,(pB e1.pend)),(3,(wB e1.worn))],4,193,0⟩
def ef5j5:Int×(Dk.D)×(Jr.J)→St:=fun (t4,e1,e2)=>⟨[(1,.ptr 0 0 5 0 0 0 5),(3,.ptr 1 0 7 0 0 0 7),(4,.int .i64 t4)],[(0,(dE 2 e1 3 4)),(1,(jE 0 5 5 6 7 e2)),(2,(bB e1.blk)),(3,(pB e1.pend)),(4,(wB e1.worn)),(5,(iB e2.nums)),(6,(iB e2.bad)),(7,(sB e2.texts))],8,193,0⟩
def ef5j6:Bool×(Dk.D)×(Jr.J)→St:=fun (t54,e1,e2)=>⟨[(1,.ptr 0 0 5 0 0 0 5),(3,.ptr 1 0 7 0 0 0 7),(54,.bool t54)],[(0,(dE 2 e1 3 4)),(1,(jE 0 5 5 6 7 e2)),(2,(bB e1.blk)),(3,(pB e1.pend)),(4,(wB e1.worn)),(5,(iB e2.nums)),(6,(iB e2.bad)),(7,(sB e2.texts))],8,193,0⟩
def ef5j7:(Dk.D)×(Jr.J)→St:=fun (e1,e2)=>⟨[(1,.ptr 0 0 5 0 0 0 5),(3,.ptr 1 0 7 0 0 0 7)],[(0,(dE 2 e1 3 4)),(1,(jE 0 5 5 6 7 e2)),(2,(bB e1.blk)),(3,(pB e1.pend)),(4,(wB e1.worn)),(5,(iB e2.nums)),(6,(iB e2.bad)),(7,(sB e2.texts))],8,193,0⟩
def ef5j8:Ty50→St:=fun (t5,t6,e1,e2)=>⟨[(1,.ptr 0 0 5 0 0 0 5),(3,.ptr 1 0 7 0 0 0 7),(5,.int .i64 t5),(6,.int .i64 t6)],[(0,(dE 2 e1 3 4)),(1,(jE 0 5 5 6 7 e2)),(2,(bB e1.blk)),(3,(pB e1.pend)),(4,(wB e1.worn)),(5,(iB e2.nums)),(6,(iB e2.bad)),(7,(sB e2.texts))],8,193,0⟩
def ef5j9:Ty54→St:=fun (t5,t6,t7,t8,e1,e2)=>⟨[(1,.ptr 0 0 5 0 0 0 5),(3,.ptr 1 0 7 0 0 0 7),(5,.int .i64 t5),(6,.int .i64 t6),(7,.int .i64 t7),(8,.int .i64 t8)],[(0,(dE 2 e1 3 4)),(1,(jE 0 5 5 6 7 e2)),(2,(bB e1.blk)),(3,(pB e1.pend)),(4,(wB e1.worn)),(5,(iB e2.nums)),(6,(iB e2.bad)),(7,(sB e2.texts))],8,193,0⟩
def ef5j10:Ty55→St:=fun (t5,t6,t7,t8,t9,e1)=>⟨[(1,.ptr 0 0 5 0 0 0 5),(5,.int .i64 t5),(6,.int .i64 t6),(7,.int .i64 t7),(8,.int .i64 t8),(9,.int .i64 t9)],[(0,(dE 1 e1 2 3)),(1,(bB e1.blk)),(2,(pB e1.pend)),(3,(wB e1.worn))],4,193,0⟩
def ef5j11:Ty56→St:=fun (t5,t6,t7,t8,t9,t10,e1)=>⟨[(1,.ptr 0 0 5 0 0 0 5),(5,.int .i64 t5),(6,.int .i64 t6),(7,.int .i64 t7),(8,.int .i64 t8),(9,.int .i64 t9),(10,.int .i64 t10)],[(0,(dE 1 e1 2 3)),(1,(bB e1.blk)),(2,(pB e1.pend)),(3,(wB e1.worn))],4,193,0⟩
def ef5j12:Ty57→St:=fun (t5,t6,t7,t8,t9,t10,t12,e1,e2)=>⟨[(5,.int .i64 t5),(6,.int .i64 t6),(7,.int .i64 t7),(8,.int .i64 t8),(9,.int .i64 t9),(10,.int .i64 t10),(11,.ptr 0 0 7 0 0 0 7),(12,.int .i64 t12)],[(0,(jE 1 5 2 3 4 e2)),(1,(dE 5 e1 6 7)),(2,(iB e2.nums)),(3,(iB e2.bad)),(4,(sB e2.texts)),(5,(bB e1.blk)),(6,(pB e1.pend)),(7,(wB e1.worn))],8,193,0⟩
def ef5j13:Bool×(Dk.D)×(Jr.J)→St:=fun (t104,e1,e2)=>⟨[(11,.ptr 0 0 7 0 0 0 7),(104,.bool t104)],[(0,(jE 1 5 2 3 4 e2)),(1,(dE 5 e1 6 7)),(2,(iB e2.nums)),(3,(iB e2.bad)),(4,(sB e2.texts)),(5,(bB e1.blk)),(6,(pB e1.pend)),(7,(wB e1.worn))],8,193,0⟩
def ef5j14:(Dk.D)×(Jr.J)→St:=fun (e1,e2)=>⟨[(11,.ptr 0 0 7 0 0 0 7)],[(0,(jE 1 5 2 3 4 e2)),(1,(dE 5 e1 6 7)),(2,(iB e2.nums)),(3,(iB e2.bad)),(4,(sB e2.texts)),(5,(bB e1.blk)),(6,(pB e1.pend)),(7,(wB e1.worn))],8,193,0⟩
def ef5j15:Ty50→St:=fun (t13,t14,e1,e2)=>⟨[(11,.ptr 0 0 7 0 0 0 7),(13,.int .i64 t13),(14,.int .i64 t14)],[(0,(jE 1 5 2 3 4 e2)),(1,(dE 5 e1 6 7)),(2,(iB e2.nums)),(3,(iB e2.bad)),(4,(sB e2.texts)),(5,(bB e1.blk)),(6,(pB e1.pend)),(7,(wB e1.worn))],8,193,0⟩
def ef5j16:Ty58→St:=fun (t13,t14,t16,e1,e2)=>⟨[(11,.ptr 0 0 7 0 0 0 7),(13,.int .i64 t13),(14,.int .i64 t14),(16,.int .i64 t16)],[(0,(jE 1 5 2 3 4 e2)),(1,(dE 5 e1 6 7)),(2,(iB e2.nums)),(3,(iB e2.bad)),(4,(sB e2.texts)),(5,(bB e1.blk)),(6,(pB e1.pend)),(7,(wB e1.worn))],8,193,0⟩
def ef5j17:Ty59→St:=fun (t13,t14,t16,t17,t18,e1,e2)=>⟨[(11,.ptr 0 0 7 0 0 0 7),(13,.int .i64 t13),(14,.int .i64 t14),(16,.int .i64 t16),(17,(.vs (.rS t17) 0 1)),(18,.int .i64 t18)],[(0,(jE 1 5 2 3 4 e2)),(1,(dE 5 e1 6 7)),(2,(iB e2.nums)),(3,(iB e2.bad)),(4,(sB e2.texts)),(5,(bB e1.blk)),(6,(pB e1.pend)),(7,(wB e1.worn))],8,193,0⟩
def ef5j18:Ty60→St:=fun (t17,t137,e1,e2)=>⟨[(11,.ptr 0 0 7 0 0 0 7),(17,(.vs (.rS t17) 0 1)),(137,.bool t137)],[(0,(jE 1 5 2 3 4 e2)),(1,(dE 5 e1 6 7)),(2,(iB e2.nums)),(3,(iB e2.bad)),(4,(sB e2.texts)),(5,(bB e1.blk)),(6,(pB e1.pend)),(7,(wB e1.worn))],8,193,0⟩
def ef5j19:Ty61→St:=fun (t17,e1,e2)=>⟨[(11,.ptr 0 0 7 0 0 0 7),(17,(.vs (.rS t17) 0 1))],[(0,(jE 1 5 2 3 4 e2)),(1,(dE 5 e1 6 7)),(2,(iB e2.nums)),(3,(iB e2.bad)),(4,(sB e2.texts)),(5,(bB e1.blk)),(6,(pB e1.pend)),(7,(wB e1.worn))],8,193,0⟩
def ef5j20:Ty62→St:=fun (t19,t20,t21,t22,t23,e1,e2)=>⟨[(11,.ptr 0 0 7 0 0 0 7),(19,.int .i64 t19),(20,.int .i64 t20),(21,.int .i64 t21),(22,.str t22),(23,.bool t23)],[(0,(jE 1 5 2 3 4 e2)),(1,(dE 5 e1 6 7)),(2,(iB e2.nums)),(3,(iB e2.bad)),(4,(sB e2.texts)),(5,(bB e1.blk)),(6,(pB e1.pend)),(7,(wB e1.worn))],8,193,0⟩
def f5_1(F:Nat)(kj1:Unit→Rz):Unit→Rz:=fun _=>(kj1 ())
theorem f5_1_eq(F:Nat)(Rj1:St→Rz):∀ v,XAf5 F (bp Tryd.f5 2) (ef5_a v) (kSeq (kc V5 Rj1 []) Kf52)=f5_1 F (Rj1∘ef5j1) v:=by
 intro _;kernel_rfl
def f5_2(F:Nat)(kj2:Int×(Dk.D)→Rz):Unit→Rz:=fun _=>(cond ((decide (0 < (4:Int)))&&(decide ((4:Int) < 4097))) (kj2 (0,(Dk.new (4:Int)))) none)
theorem f5_2_eq(F:Nat)(Rj2:St→Rz):∀ v,XAf5 F (bp Tryd.f5 6) (ef5j1 v) (kSeq (kc V5 Rj2 sp17) Kf52)=f5_2 F (Rj2∘ef5j2) v:=by
 intro _;kernel_rfl
def f5_3(F:Nat)(kj3:Bool×(Dk.D)→Rz)(kj4:(Dk.D)→Rz):Int×(Dk.D)→Rz:=fun (t2,e1)=>(cond (t2 != (0:Int)) (kj3 (true,e1)) (kj3 (false,e1)))
theorem f5_3_eq(F:Nat)(Rj3 Rj4:St→Rz):∀ v,XAf5 F (bp Tryd.f5 28) (ef5j2 v) (kSeq (kc V5 Rj3 [(1,.plain),(33,.plain)]) (kSeq (kc V5 Rj4 [(1,.plain)]) Kf52))=f5_3 F (Rj3∘ef5j3) (Rj4∘ef5j4) v:=by
 rintro⟨t2,e1⟩;kernel_rfl
def f5_4(F:Nat)(kj4:(Dk.D)→Rz):Bool×(Dk.D)→Rz:=fun (t33,e1)=>(cond t33 (some ((.bool false),[])) (kj4 e1))
theorem f5_4_eq(F:Nat)(Rj4:St→Rz):∀ v,XAf5 F (bp Tryd.f5 29) (ef5j3 v) (kSeq (kc V5 Rj4 [(1,.plain)]) Kf52)=f5_4 F (Rj4∘ef5j4) v:=by
 rintro⟨t33,e1⟩;kernel_rfl
def f5_5(F:Nat)(kj4:(Dk.D)→Rz):Int×(Dk.D)→Rz:=fun v=>f5_3 F (f5_4 F kj4) kj4 v
theorem f5_5_eq(F:Nat)(Rj4:St→Rz):∀ v,XAf5 F (bp Tryd.f5 14) (ef5j2 v) (kSeq (kc V5 Rj4 [(1,.plain)]) Kf52)=f5_5 F (Rj4∘ef5j4) v:=
 seq_cut (by kernel_rfl) (by kernel_rfl) ef5j2 ef5j3 _ (fun k=>f5_3 F k (Rj4∘ef5j4)) (f5_4 F (Rj4∘ef5j4))
  (fun Rj3=>f5_3_eq F Rj3 Rj4) (f5_4_eq F Rj4)
def f5_6(F:Nat)(kj5:Int×(Dk.D)×(Jr.J)→Rz):(Dk.D)→Rz:=fun e1=>(cond ((Dk.fine e1)&&(!e1.off)) (kj5 (0,e1,(Jr.openS (Jr.secsD e1)))) none)
theorem f5_6_eq(F:Nat)(Rj5:St→Rz):∀ v,XAf5 F (bp Tryd.f5 30) (ef5j4 v) (kSeq (kc V5 Rj5 sp58) Kf52)=f5_6 F (Rj5∘ef5j5) v:=by
 intro e1;kernel_rfl
def f5_7(F:Nat)(kj6:Bool×(Dk.D)×(Jr.J)→Rz)(kj7:(Dk.D)×(Jr.J)→Rz):Int×(Dk.D)×(Jr.J)→Rz:=fun (t4,e1,e2)=>(cond (t4 != (0:Int)) (kj6 (true,e1,e2)) (cond (e2.next != (1:Int)) (kj6 (true,e1,e2)) (kj6 (((IntKind.i64.wrap ((e1.n:Int)-e2.fin)) != (4:Int)),e1,e2))))
theorem f5_7_eq(F:Nat)(Rj6 Rj7:St→Rz):∀ v,XAf5 F (bp Tryd.f5 124) (ef5j5 v) (kSeq (kc V5 Rj6 sp59) (kSeq (kc V5 Rj7 sp60) Kf52))=f5_7 F (Rj6∘ef5j6) (Rj7∘ef5j7) v:=by
 rintro⟨t4,e1,e2⟩;kernel_rfl
def f5_8(F:Nat)(kj7:(Dk.D)×(Jr.J)→Rz):Bool×(Dk.D)×(Jr.J)→Rz:=fun (t54,e1,e2)=>(cond t54 (some ((.bool false),[])) (kj7 (e1,e2)))
theorem f5_8_eq(F:Nat)(Rj7:St→Rz):∀ v,XAf5 F (bp Tryd.f5 125) (ef5j6 v) (kSeq (kc V5 Rj7 sp60) Kf52)=f5_8 F (Rj7∘ef5j7) v:=by
 rintro⟨t54,e1,e2⟩;kernel_rfl
def f5_9(F:Nat)(kj7:(Dk.D)×(Jr.J)→Rz):Int×(Dk.D)×(Jr.J)→Rz:=fun v=>f5_7 F (f5_8 F kj7) kj7 v
theorem f5_9_eq(F:Nat)(Rj7:St→Rz):∀ v,XAf5 F (bp Tryd.f5 62) (ef5j5 v) (kSeq (kc V5 Rj7 sp60) Kf52)=f5_9 F (Rj7∘ef5j7) v:=
 seq_cut (by kernel_rfl) (by kernel_rfl) ef5j5 ef5j6 _ (fun k=>f5_7 F k (Rj7∘ef5j7)) (f5_8 F (Rj7∘ef5j7))
  (fun Rj6=>f5_7_eq F Rj6 Rj7) (f5_8_eq F Rj7)
def f5_10(F:Nat)(kj8:Ty50→Rz):(Dk.D)×(Jr.J)→Rz:=fun (e1,e2)=>(cond ((Dk.fine e1)&&(Jr.okJ e1 e2)) (kj8 ((Jr.append Jr.DV e1 e2 [97]).2.2.1,(Jr.append Jr.DV e1 e2 [97]).2.2.2,(Jr.append Jr.DV e1 e2 [97]).1,(Jr.append Jr.DV e1 e2 [97]).2.1)) none)
theorem f5_10_eq(F:Nat)(Rj8:St→Rz):∀ v,XAf5 F (bp Tryd.f5 126) (ef5j7 v) (kSeq (kc V5 Rj8 sp61) Kf52)=f5_10 F (Rj8∘ef5j8) v:=by
 rintro⟨e1,e2⟩;kernel_rfl
def f5_11(F:Nat)(kj9:Ty54→Rz):Ty50→Rz:=fun (t5,t6,e1,e2)=>(cond (decide (0≤(50:Int)∧(50:Int) < 1000∧[120].length < 1000)) (cond ((Dk.fine e1)&&(Jr.okJ e1 e2)) (kj9 (t5,t6,(Jr.append Jr.DV e1 e2 (Jr.repeat_ [120] (50:Int))).2.2.1,(Jr.append Jr.DV e1 e2 (Jr.repeat_ [120] (50:Int))).2.2.2,(Jr.append Jr.DV e1 e2 (Jr.repeat_ [120] (50:Int))).1,(Jr.append Jr.DV e1 e2 (Jr.repeat_ [120] (50:Int))).2.1)) none) none)
theorem f5_11_eq(F:Nat)(Rj9:St→Rz):∀ v,XAf5 F (bp Tryd.f5 254) (ef5j8 v) (kSeq (kc V5 Rj9 sp62) Kf52)=f5_11 F (Rj9∘ef5j9) v:=by
 rintro⟨t5,t6,e1,e2⟩;kernel_rfl
def f5_12(F:Nat)(kj10:Ty55→Rz):Ty54→Rz:=fun (t5,t6,t7,t8,e1,e2)=>(kj10 (t5,t6,t7,t8,(IntKind.i64.wrap ((e1.n:Int)-e2.fin)),e1))
theorem f5_12_eq(F:Nat)(Rj10:St→Rz):∀ v,XAf5 F (bp Tryd.f5 510) (ef5j9 v) (kSeq (kc V5 Rj10 sp63) Kf52)=f5_12 F (Rj10∘ef5j10) v:=by
 rintro⟨t5,t6,t7,t8,e1,e2⟩;kernel_rfl
def f5_13(F:Nat)(kj11:Ty56→Rz):Ty55→Rz:=fun (t5,t6,t7,t8,t9,e1)=>(kj11 (t5,t6,t7,t8,t9,(Dk.rot e1 (1:Int) (70:Int)).2,(Dk.rot e1 (1:Int) (70:Int)).1))
theorem f5_13_eq(F:Nat)(Rj11:St→Rz):∀ v,XAf5 F (bp Tryd.f5 1022) (ef5j10 v) (kSeq (kc V5 Rj11 sp64) Kf52)=f5_13 F (Rj11∘ef5j11) v:=by
 rintro⟨t5,t6,t7,t8,t9,e1⟩;kernel_rfl
def f5_14(F:Nat)(kj12:Ty57→Rz):Ty56→Rz:=fun (t5,t6,t7,t8,t9,t10,e1)=>(cond ((Dk.fine e1)&&(!e1.off)) (kj12 (t5,t6,t7,t8,t9,t10,0,e1,(Jr.openS (Jr.secsD e1)))) none)
theorem f5_14_eq(F:Nat)(Rj12:St→Rz):∀ v,XAf5 F (bp Tryd.f5 2046) (ef5j11 v) (kSeq (kc V5 Rj12 sp65) Kf52)=f5_14 F (Rj12∘ef5j12) v:=by
 rintro⟨t5,t6,t7,t8,t9,t10,e1⟩;kernel_rfl
def f5_15(F:Nat)(kj13:Bool×(Dk.D)×(Jr.J)→Rz)(kj14:(Dk.D)×(Jr.J)→Rz):Ty57→Rz:=fun (t5,t6,t7,t8,t9,t10,t12,e1,e2)=>(cond (t5 != (1:Int)) (kj13 (true,e1,e2)) (cond (t6 != (0:Int)) (kj13 (true,e1,e2)) (cond (t7 != (2:Int)) (kj13 (true,e1,e2)) (cond (t8 != (0:Int)) (kj13 (true,e1,e2)) (cond (t9 != (1:Int)) (kj13 (true,e1,e2)) (cond (t10 != (0:Int)) (kj13 (true,e1,e2)) (cond (t12 != (0:Int)) (kj13 (true,e1,e2)) (kj13 (false,e1,e2)))))))))
theorem f5_15_eq(F:Nat)(Rj13 Rj14:St→Rz):∀ v,XAf5 F (bp Tryd.f5 8188) (ef5j12 v) (kSeq (kc V5 Rj13 sp66) (kSeq (kc V5 Rj14 [(11,.plain)]) Kf52))=f5_15 F (Rj13∘ef5j13) (Rj14∘ef5j14) v:=by
 rintro⟨t5,t6,t7,t8,t9,t10,t12,e1,e2⟩;kernel_rfl
def f5_16(F:Nat)(kj14:(Dk.D)×(Jr.J)→Rz):Bool×(Dk.D)×(Jr.J)→Rz:=fun (t104,e1,e2)=>(cond t104 (some ((.bool false),[])) (kj14 (e1,e2)))
theorem f5_16_eq(F:Nat)(Rj14:St→Rz):∀ v,XAf5 F (bp Tryd.f5 8189) (ef5j13 v) (kSeq (kc V5 Rj14 [(11,.plain)]) Kf52)=f5_16 F (Rj14∘ef5j14) v:=by
 rintro⟨t104,e1,e2⟩;kernel_rfl
def f5_17(F:Nat)(kj14:(Dk.D)×(Jr.J)→Rz):Ty57→Rz:=fun v=>f5_15 F (f5_16 F kj14) kj14 v
theorem f5_17_eq(F:Nat)(Rj14:St→Rz):∀ v,XAf5 F (bp Tryd.f5 4094) (ef5j12 v) (kSeq (kc V5 Rj14 [(11,.plain)]) Kf52)=f5_17 F (Rj14∘ef5j14) v:=
 seq_cut (by kernel_rfl) (by kernel_rfl) ef5j12 ef5j13 _ (fun k=>f5_15 F k (Rj14∘ef5j14)) (f5_16 F (Rj14∘ef5j14))
  (fun Rj13=>f5_15_eq F Rj13 Rj14) (f5_16_eq F Rj14)
def f5_18(F:Nat)(kj15:Ty50→Rz):(Dk.D)×(Jr.J)→Rz:=fun (e1,e2)=>(cond ((Dk.fine e1)&&(Jr.okJ e1 e2)) (kj15 ((Jr.append Jr.DV e1 e2 [98]).2.2.1,(Jr.append Jr.DV e1 e2 [98]).2.2.2,(Jr.append Jr.DV e1 e2 [98]).1,(Jr.append Jr.DV e1 e2 [98]).2.1)) none)
theorem f5_18_eq(F:Nat)(Rj15:St→Rz):∀ v,XAf5 F (bp Tryd.f5 8190) (ef5j14 v) (kSeq (kc V5 Rj15 sp67) Kf52)=f5_18 F (Rj15∘ef5j15) v:=by
 rintro⟨e1,e2⟩;kernel_rfl
def f5_19(F:Nat)(kj16:Ty58→Rz):Ty50→Rz:=fun (t13,t14,e1,e2)=>(cond ((Dk.fine e1)&&(Jr.okJ e1 e2)) (kj16 (t13,t14,(Jr.append Jr.DV e1 e2 [99]).2.2.2,(Jr.append Jr.DV e1 e2 [99]).1,(Jr.append Jr.DV e1 e2 [99]).2.1)) none)
theorem f5_19_eq(F:Nat)(Rj16:St→Rz):∀ v,XAf5 F (bp Tryd.f5 16382) (ef5j15 v) (kSeq (kc V5 Rj16 sp68) Kf52)=f5_19 F (Rj16∘ef5j16) v:=by
 rintro⟨t13,t14,e1,e2⟩;kernel_rfl
def f5_20(F:Nat)(kj17:Ty59→Rz):Ty58→Rz:=fun (t13,t14,t16,e1,e2)=>(kj17 (t13,t14,t16,(Jr.pack (1:Int) [97]).1,(Jr.pack (1:Int) [97]).2,e1,e2))
theorem f5_20_eq(F:Nat)(Rj17:St→Rz):∀ v,XAf5 F (bp Tryd.f5 32766) (ef5j16 v) (kSeq (kc V5 Rj17 sp69) Kf52)=f5_20 F (Rj17∘ef5j17) v:=by
 rintro⟨t13,t14,t16,e1,e2⟩;kernel_rfl
def f5_21(F:Nat)(kj18:Ty60→Rz)(kj19:Ty61→Rz):Ty59→Rz:=fun (t13,t14,t16,t17,t18,e1,e2)=>(cond (t13 != (3:Int)) (kj18 (t17,true,e1,e2)) (cond (t14 != (0:Int)) (kj18 (t17,true,e1,e2)) (cond (t16 != (21:Int)) (kj18 (t17,true,e1,e2)) (cond ((↑t17.length:Int) != (1:Int)) (kj18 (t17,true,e1,e2)) (kj18 (t17,(t18 != (0:Int)),e1,e2))))))
theorem f5_21_eq(F:Nat)(Rj18 Rj19:St→Rz):∀ v,XAf5 F (bp Tryd.f5 131068) (ef5j17 v) (kSeq (kc V5 Rj18 sp70) (kSeq (kc V5 Rj19 sp71) Kf52))=f5_21 F (Rj18∘ef5j18) (Rj19∘ef5j19) v:=by
 rintro⟨t13,t14,t16,t17,t18,e1,e2⟩;kernel_rfl
def f5_22(F:Nat)(kj19:Ty61→Rz):Ty60→Rz:=fun (t17,t137,e1,e2)=>(cond t137 (some ((.bool false),[])) (kj19 (t17,e1,e2)))
theorem f5_22_eq(F:Nat)(Rj19:St→Rz):∀ v,XAf5 F (bp Tryd.f5 131069) (ef5j18 v) (kSeq (kc V5 Rj19 sp71) Kf52)=f5_22 F (Rj19∘ef5j19) v:=by
 rintro⟨t17,t137,e1,e2⟩;kernel_rfl
def f5_23(F:Nat)(kj19:Ty61→Rz):Ty59→Rz:=fun v=>f5_21 F (f5_22 F kj19) kj19 v
theorem f5_23_eq(F:Nat)(Rj19:St→Rz):∀ v,XAf5 F (bp Tryd.f5 65534) (ef5j17 v) (kSeq (kc V5 Rj19 sp71) Kf52)=f5_23 F (Rj19∘ef5j19) v:=
 seq_cut (by kernel_rfl) (by kernel_rfl) ef5j17 ef5j18 _ (fun k=>f5_21 F k (Rj19∘ef5j19)) (f5_22 F (Rj19∘ef5j19))
  (fun Rj18=>f5_21_eq F Rj18 Rj19) (f5_22_eq F Rj19)
def f5_24(F:Nat)(kj20:Ty62→Rz):Ty61→Rz:=fun (t17,e1,e2)=>(cond (decide ((0:Int) < (↑t17.length:Int))) (kj20 ((Jr.unpack (t17.getD 0 [])).number,(Jr.unpack (t17.getD 0 [])).part,(Jr.unpack (t17.getD 0 [])).left,(Jr.unpack (t17.getD 0 [])).payload,(Jr.unpack (t17.getD 0 [])).ok,e1,e2)) none)
theorem f5_24_eq(F:Nat)(Rj20:St→Rz):∀ v,XAf5 F (bp Tryd.f5 131070) (ef5j19 v) (kSeq (kc V5 Rj20 sp72) Kf52)=f5_24 F (Rj20∘ef5j20) v:=by
 rintro⟨t17,e1,e2⟩;kernel_rfl
def f5_25(F:Nat):Ty62→Rz:=fun (t19,t20,t21,t22,t23,e1,e2)=>(cond (decide (e2.nums.length < 1073741000)) (cond (decide (e2.nums.length < 1073741824)) (cond (e2.nums==[(1:Int),(3:Int)]) (cond (decide (e2.texts.length < 1073741000)) (cond (decide (e2.texts.length < 1073741824)) (cond (e2.texts==[[97],[98]]) (cond (decide (e2.nums.length < 1073741000∧e2.next < 100000)) (cond (decide ((Jr.damaged e2).length < 1073741824)) (cond ((Jr.damaged e2)==[(2:Int)]) (cond (decide (e2.bad.length < 1073741000)) (cond (decide (e2.bad.length < 1073741824)) (cond (e2.bad==[(1:Int)]) (cond ((Jr.count (49:Int))==(2:Int)) (cond (t19==(1:Int)) (cond (t20==(0:Int)) (cond (t21==(1:Int)) (cond ((t22:Li)==([97]:Li)) (some ((.bool t23),[])) (some ((.bool false),[]))) (some ((.bool false),[]))) (some ((.bool false),[]))) (some ((.bool false),[]))) (some ((.bool false),[]))) (some ((.bool false),[]))) none) none) (some ((.bool false),[]))) none) none) (some ((.bool false),[]))) none) none) (some ((.bool false),[]))) none) none)
theorem f5_25_eq(F:Nat):∀ v,XAf5 F (bp Tryd.f5 131071) (ef5j20 v) Kf52=f5_25 F v:=by
 rintro⟨t19,t20,t21,t22,t23,e1,e2⟩;kernel_rfl
def f5_26(F:Nat):Ty61→Rz:=fun v=>f5_24 F (f5_25 F) v
theorem f5_26_eq(F:Nat):∀ v,XAf5 F (bp Tryd.f5 65535) (ef5j19 v) Kf52=f5_26 F v:=
 seq_cut (by kernel_rfl) (by kernel_rfl) ef5j19 ef5j20 _ (fun k=>f5_24 F k) (f5_25 F)
  (fun Rj20=>f5_24_eq F Rj20) (f5_25_eq F)
def f5_27(F:Nat):Ty59→Rz:=fun v=>f5_23 F (f5_26 F) v
theorem f5_27_eq(F:Nat):∀ v,XAf5 F (bp Tryd.f5 32767) (ef5j17 v) Kf52=f5_27 F v:=
 seq_cut (by kernel_rfl) (by kernel_rfl) ef5j17 ef5j19 _ (fun k=>f5_23 F k) (f5_26 F)
  (fun Rj19=>f5_23_eq F Rj19) (f5_26_eq F)
def f5_28(F:Nat):Ty58→Rz:=fun v=>f5_20 F (f5_27 F) v
theorem f5_28_eq(F:Nat):∀ v,XAf5 F (bp Tryd.f5 16383) (ef5j16 v) Kf52=f5_28 F v:=
 seq_cut (by kernel_rfl) (by kernel_rfl) ef5j16 ef5j17 _ (fun k=>f5_20 F k) (f5_27 F)
  (fun Rj17=>f5_20_eq F Rj17) (f5_27_eq F)
def f5_29(F:Nat):Ty50→Rz:=fun v=>f5_19 F (f5_28 F) v
theorem f5_29_eq(F:Nat):∀ v,XAf5 F (bp Tryd.f5 8191) (ef5j15 v) Kf52=f5_29 F v:=
 seq_cut (by kernel_rfl) (by kernel_rfl) ef5j15 ef5j16 _ (fun k=>f5_19 F k) (f5_28 F)
  (fun Rj16=>f5_19_eq F Rj16) (f5_28_eq F)
def f5_30(F:Nat):(Dk.D)×(Jr.J)→Rz:=fun v=>f5_18 F (f5_29 F) v
theorem f5_30_eq(F:Nat):∀ v,XAf5 F (bp Tryd.f5 4095) (ef5j14 v) Kf52=f5_30 F v:=
 seq_cut (by kernel_rfl) (by kernel_rfl) ef5j14 ef5j15 _ (fun k=>f5_18 F k) (f5_29 F)
  (fun Rj15=>f5_18_eq F Rj15) (f5_29_eq F)
def f5_31(F:Nat):Ty57→Rz:=fun v=>f5_17 F (f5_30 F) v
theorem f5_31_eq(F:Nat):∀ v,XAf5 F (bp Tryd.f5 2047) (ef5j12 v) Kf52=f5_31 F v:=
 seq_cut (by kernel_rfl) (by kernel_rfl) ef5j12 ef5j14 _ (fun k=>f5_17 F k) (f5_30 F)
  (fun Rj14=>f5_17_eq F Rj14) (f5_30_eq F)
def f5_32(F:Nat):Ty56→Rz:=fun v=>f5_14 F (f5_31 F) v
theorem f5_32_eq(F:Nat):∀ v,XAf5 F (bp Tryd.f5 1023) (ef5j11 v) Kf52=f5_32 F v:=
 seq_cut (by kernel_rfl) (by kernel_rfl) ef5j11 ef5j12 _ (fun k=>f5_14 F k) (f5_31 F)
  (fun Rj12=>f5_14_eq F Rj12) (f5_31_eq F)
def f5_33(F:Nat):Ty55→Rz:=fun v=>f5_13 F (f5_32 F) v
theorem f5_33_eq(F:Nat):∀ v,XAf5 F (bp Tryd.f5 511) (ef5j10 v) Kf52=f5_33 F v:=
 seq_cut (by kernel_rfl) (by kernel_rfl) ef5j10 ef5j11 _ (fun k=>f5_13 F k) (f5_32 F)
  (fun Rj11=>f5_13_eq F Rj11) (f5_32_eq F)
def f5_34(F:Nat):Ty54→Rz:=fun v=>f5_12 F (f5_33 F) v
theorem f5_34_eq(F:Nat):∀ v,XAf5 F (bp Tryd.f5 255) (ef5j9 v) Kf52=f5_34 F v:=
 seq_cut (by kernel_rfl) (by kernel_rfl) ef5j9 ef5j10 _ (fun k=>f5_12 F k) (f5_33 F)
  (fun Rj10=>f5_12_eq F Rj10) (f5_33_eq F)
def f5_35(F:Nat):Ty50→Rz:=fun v=>f5_11 F (f5_34 F) v
theorem f5_35_eq(F:Nat):∀ v,XAf5 F (bp Tryd.f5 127) (ef5j8 v) Kf52=f5_35 F v:=
 seq_cut (by kernel_rfl) (by kernel_rfl) ef5j8 ef5j9 _ (fun k=>f5_11 F k) (f5_34 F)
  (fun Rj9=>f5_11_eq F Rj9) (f5_34_eq F)
def f5_36(F:Nat):(Dk.D)×(Jr.J)→Rz:=fun v=>f5_10 F (f5_35 F) v
theorem f5_36_eq(F:Nat):∀ v,XAf5 F (bp Tryd.f5 63) (ef5j7 v) Kf52=f5_36 F v:=
 seq_cut (by kernel_rfl) (by kernel_rfl) ef5j7 ef5j8 _ (fun k=>f5_10 F k) (f5_35 F)
  (fun Rj8=>f5_10_eq F Rj8) (f5_35_eq F)
def f5_37(F:Nat):Int×(Dk.D)×(Jr.J)→Rz:=fun v=>f5_9 F (f5_36 F) v
theorem f5_37_eq(F:Nat):∀ v,XAf5 F (bp Tryd.f5 31) (ef5j5 v) Kf52=f5_37 F v:=
 seq_cut (by kernel_rfl) (by kernel_rfl) ef5j5 ef5j7 _ (fun k=>f5_9 F k) (f5_36 F)
  (fun Rj7=>f5_9_eq F Rj7) (f5_36_eq F)
def f5_38(F:Nat):(Dk.D)→Rz:=fun v=>f5_6 F (f5_37 F) v
theorem f5_38_eq(F:Nat):∀ v,XAf5 F (bp Tryd.f5 15) (ef5j4 v) Kf52=f5_38 F v:=
 seq_cut (by kernel_rfl) (by kernel_rfl) ef5j4 ef5j5 _ (fun k=>f5_6 F k) (f5_37 F)
  (fun Rj5=>f5_6_eq F Rj5) (f5_37_eq F)
def f5_39(F:Nat):Int×(Dk.D)→Rz:=fun v=>f5_5 F (f5_38 F) v
theorem f5_39_eq(F:Nat):∀ v,XAf5 F (bp Tryd.f5 7) (ef5j2 v) Kf52=f5_39 F v:=
 seq_cut (by kernel_rfl) (by kernel_rfl) ef5j2 ef5j4 _ (fun k=>f5_5 F k) (f5_38 F)
  (fun Rj4=>f5_5_eq F Rj4) (f5_38_eq F)
def f5_40(F:Nat):Unit→Rz:=fun v=>f5_2 F (f5_39 F) v
theorem f5_40_eq(F:Nat):∀ v,XAf5 F (bp Tryd.f5 3) (ef5j1 v) Kf52=f5_40 F v:=
 seq_cut (by kernel_rfl) (by kernel_rfl) ef5j1 ef5j2 _ (fun k=>f5_2 F k) (f5_39 F)
  (fun Rj2=>f5_2_eq F Rj2) (f5_39_eq F)
def f5_41(F:Nat):Unit→Rz:=fun v=>f5_1 F (f5_40 F) v
theorem f5_41_eq(F:Nat):∀ v,XAf5 F (sub (bodyOf Tryd.f5) []) (ef5_a v) Kf52=f5_41 F v:=
 seq_cut (by kernel_rfl) (by kernel_rfl) ef5_a ef5j1 _ (fun k=>f5_1 F k) (f5_40 F)
  (fun Rj1=>f5_1_eq F Rj1) (f5_40_eq F)
def f5(F:Nat):Unit→Rz:=f5_41 F
theorem f5_body(F:Nat) : abody V5 (Af5 F) Tryd.f5 [] []=f5 F ():=
 (abody_in (by kernel_rfl) (by kernel_rfl)).trans (f5_41_eq F ())
def r5:CRun:=fun X H=>match X,H with
 | [],[]=>some (true,.bool true,[])
 | _,_=>none
theorem s5 : ∃ F,f5 F ()=some ((.bool true),[]):=by
 refine⟨0,?_⟩
 obtain⟨D0,eD0⟩:∃ D,D=Dk.new (4:Int):=⟨_,rfl⟩
 obtain⟨J0,eJ0⟩:∃ J,J=Jr.openS (Jr.secsD D0):=⟨_,rfl⟩
 obtain⟨E1,e1⟩:∃ E,E=Jr.append Jr.DV D0 J0 [97]:=⟨_,rfl⟩
 obtain⟨E2,e2⟩:∃ E,E=Jr.append Jr.DV E1.1 E1.2.1 (Jr.repeat_ [120] (50:Int)):=⟨_,rfl⟩
 obtain⟨D3,eD3⟩:∃ D,D=(Dk.rot E2.1 1 70).1:=⟨_,rfl⟩
 obtain⟨J3,eJ3⟩:∃ J,J=Jr.openS (Jr.secsD D3):=⟨_,rfl⟩
 obtain⟨E4,e4⟩:∃ E,E=Jr.append Jr.DV D3 J3 [98]:=⟨_,rfl⟩
 obtain⟨E5,e5⟩:∃ E,E=Jr.append Jr.DV E4.1 E4.2.1 [99]:=⟨_,rfl⟩
 have X:=Jr.ex_of eD0 eJ0 e1 e2 eD3 eJ3 e4 e5
 obtain⟨c0,k0⟩:=Jr.Both.can X.b0 X.n0
 obtain⟨_,k1⟩:=Jr.Both.can X.b1 X.n1
 obtain⟨c3,k3⟩:=Jr.Both.can X.b3 X.n3
 obtain⟨_,k4⟩:=Jr.Both.can X.b4 X.n4
 simp only [f5,f5_41,f5_1,f5_40,f5_2]
 rw [← eD0,show((decide (0 < (4:Int)))&&(decide ((4:Int) < 4097)))=true from rfl,cond_true]
 simp only [f5_39,f5_5,f5_3,f5_4,f5_38,f5_6]
 rw [show((0:Int) != 0)=false from rfl,cond_false,cond_false,c0,cond_true,← eJ0]
 simp only [f5_37,f5_9,f5_7,f5_8,f5_36,f5_10]
 rw [X.x0,X.n0,X.f0,show((0:Int) != 0)=false from rfl,show((1:Int) != 1)=false from rfl,show((IntKind.i64.wrap (((4:Nat):Int)-(0:Int))) != (4:Int))=false by decide,cond_false,cond_false,cond_false,k0,cond_true,← e1]
 simp only [f5_35,f5_11]
 rw [cond_pos (by decide),k1,cond_true,← e2]
 simp only [f5_34,f5_12]
 rw [X.n2,X.f2]
 simp only [f5_33,f5_13]
 rw [← eD3,X.rot]
 simp only [f5_32,f5_14]
 rw [c3,cond_true,← eJ3]
 simp only [f5_31,f5_17,f5_15,f5_16,f5_30,f5_18]
 simp only [X.a1,X.a2]
 rw [show((IntKind.i64.wrap (((4:Nat):Int)-(3:Int))) != (1:Int))=false by decide,show((0:Int) != 0)=false from rfl,show((1:Int) != 1)=false from rfl,show((2:Int) != 2)=false from rfl]
 simp only [cond_false]
 rw [k3,cond_true,← e4]
 simp only [f5_29,f5_19]
 rw [k4,cond_true,← e5]
 simp only [f5_28,f5_20,f5_27,f5_23,f5_21,f5_22,f5_26,f5_24]
 rw [Jr.pack97]
 simp only [X.a4,X.a5]
 rw [show((0:Int) != 0)=false from rfl,show((3:Int) != 3)=false from rfl,show((21:Int) != 21)=false from rfl,show((([Jr.sector 1 [97] 0].length:Nat):Int) != 1)=false from rfl]
 simp only [cond_false]
 rw [show(decide ((0:Int) < (([Jr.sector 1 [97] 0].length:Nat):Int)))=true from rfl,cond_true]
 simp only [List.getD_cons_zero,Jr.unpack97,f5_25,X.nums,X.texts,X.next,X.bad,X.damaged]
 rfl
theorem c5:CallOk Tryd.prog G36 5 r5:=callOk_of mixed tys eV5 Tryd.func5 (by kernel_rfl) (c:=sub (bodyOf Tryd.f5) []) (by kernel_rfl) (by
 intro X H r H' h hX hH
 unfold r5 at h;split at h <;> try contradiction
 ·obtain⟨hp,rfl,rfl⟩:=inj3 h
  obtain⟨F,hF⟩:=s5
  exact⟨Af5 F,(f5_body F).trans hF⟩)
end Go.Am
end
section
namespace Go.Am
open Go Go.Proofs
abbrev sp73:List (Nat×Md):=[(1,.plain),(3,.plain),(4,.own 5),(5,.plain)]
abbrev sp74:List (Nat×Md):=[(1,.plain),(3,.plain),(4,.plain),(5,.plain)]
abbrev Ty63:=Int×Int×Int×Int×Int×Li
abbrev Ty64:=Int×Int×Int×Int×Int×Int×Li
abbrev Ty65:=Int×Int×Int×Int×Int×Int×Int×Li
abbrev Ty66:=Int×Int×Int×Int×Int×Int×Int×Li×Li
def lV17:List CEnt:=[]
def V17:Env:=mkEnv T36 G36 lV17
noncomputable abbrev Kf53:=kFin V17 none (Tryd.f17).results.toList
theorem eV17:EOk Tryd.prog V17:=eok_mk (by exact trivial)
def Af17(F:Nat):Cuts:={ F:=F,at_:=fun n=>match n with | 4010=>some sp73 | _=>none,join:=fun n=>match n with | 1022=>some [(1,.plain)] | 2020=>some sp60 | 3018=>some sp58 | 4012=>some sp74 | 7003=>some [(4,.plain)] | _=>none }
noncomputable abbrev XAf17(F:Nat){α:Type}:=@aexec α V17 (Af17 F)
def ef17_a:Ty63→St:=fun (a0_0,a0_1,a0_2,a0_3,a0_4,a0_5)=>⟨[(0,(.agg 6 (.segs (.cons 1 (.one (.int .i64 a0_0)) (.cons 1 (.one (.int .i64 a0_1)) (.cons 1 (.one (.int .i64 a0_2)) (.cons 1 (.one (.int .i64 a0_3)) (.cons 1 (.one (.int .u8 a0_4)) (.cons 1 (.one (.vs (.rI .i64 a0_5) 0 1)) .nil)))))))))],[],0,25,0⟩
def ef17j1:Ty63→St:=fun (x1,x2,x3,x4,x5,x6)=>⟨[(1,.ptr 0 0 6 0 0 0 6)],[(0,(.cells 6 (.segs (.cons 1 (.one (.int .i64 x1)) (.cons 1 (.one (.int .i64 x2)) (.cons 1 (.one (.int .i64 x3)) (.cons 1 (.one (.int .i64 x4)) (.cons 1 (.one (.int .u8 x5)) (.cons 1 (.one (.vs (.rI .i64 x6) 0 1)) .nil))))))) true))],1,25,0⟩
def ef17j2:Ty64→St:=fun (t3,x2,x3,x4,x5,x6,x7)=>⟨[(1,.ptr 0 0 6 0 0 0 6),(3,.int .i64 t3)],[(0,(.cells 6 (.segs (.cons 1 (.one (.int .i64 x2)) (.cons 1 (.one (.int .i64 x3)) (.cons 1 (.one (.int .i64 x4)) (.cons 1 (.one (.int .i64 x5)) (.cons 1 (.one (.int .u8 x6)) (.cons 1 (.one (.vs (.rI .i64 x7) 0 1)) .nil))))))) true))],1,25,0⟩
def ef17j3:Ty64→St:=fun (t3,x2,x3,x4,x5,x6,x7)=>⟨[(1,.ptr 0 0 6 0 0 0 6),(3,.int .i64 t3),(4,.ns)],[(0,(.cells 6 (.segs (.cons 1 (.one (.int .i64 x2)) (.cons 1 (.one (.int .i64 x3)) (.cons 1 (.one (.int .i64 x4)) (.cons 1 (.one (.int .i64 x5)) (.cons 1 (.one (.int .u8 x6)) (.cons 1 (.one (.vs (.rI .i64 x7) 0 1)) .nil))))))) true))],1,25,0⟩
def ef17j4:Ty65→St:=fun (t3,t5,x3,x4,x5,x6,x7,x8)=>⟨[(1,.ptr 0 0 6 0 0 0 6),(3,.int .i64 t3),(4,.ns),(5,.int .i64 t5)],[(0,(.cells 6 (.segs (.cons 1 (.one (.int .i64 x3)) (.cons 1 (.one (.int .i64 x4)) (.cons 1 (.one (.int .i64 x5)) (.cons 1 (.one (.int .i64 x6)) (.cons 1 (.one (.int .u8 x7)) (.cons 1 (.one (.vs (.rI .i64 x8) 0 1)) .nil))))))) true))],1,25,0⟩
def ef17l1:Ty66→St:=fun (t3,t5,x3,x4,x5,x6,x7,x8,x9)=>⟨[(1,.ptr 0 0 6 0 0 0 6),(3,.int .i64 t3),(4,.own 1 0 1),(5,.int .i64 t5)],[(0,(.cells 6 (.segs (.cons 1 (.one (.int .i64 x3)) (.cons 1 (.one (.int .i64 x4)) (.cons 1 (.one (.int .i64 x5)) (.cons 1 (.one (.int .i64 x6)) (.cons 1 (.one (.int .u8 x7)) (.cons 1 (.one (.vs (.rI .i64 x8) 0 1)) .nil))))))) true)),(1,(bB x9))],2,25,0⟩
def ef17j5:Li→St:=fun x1=>⟨[(4,.own 0 0 1)],[(0,(bB x1))],1,25,0⟩
def f17_1(F:Nat)(kj1:Ty63→Rz):Ty63→Rz:=fun (a0_0,a0_1,a0_2,a0_3,a0_4,a0_5)=>(kj1 (a0_0,a0_1,a0_2,a0_3,a0_4,a0_5))
theorem f17_1_eq(F:Nat)(Rj1:St→Rz):∀ v,XAf17 F (bp Tryd.f17 2) (ef17_a v) (kSeq (kc V17 Rj1 [(1,.plain)]) Kf53)=f17_1 F (Rj1∘ef17j1) v:=by
 rintro⟨a0_0,a0_1,a0_2,a0_3,a0_4,a0_5⟩;kernel_rfl
def f17_2(F:Nat)(kj2:Ty64→Rz):Ty63→Rz:=fun (x1,x2,x3,x4,x5,x6)=>(kj2 ((if (8100:Int) < (if (0:Int) > x4 then (0:Int) else x4) then (8100:Int) else (if (0:Int) > x4 then (0:Int) else x4)),x1,x2,x3,x4,x5,x6))
theorem f17_2_eq(F:Nat)(Rj2:St→Rz):∀ v,XAf17 F (bp Tryd.f17 6) (ef17j1 v) (kSeq (kc V17 Rj2 sp60) Kf53)=f17_2 F (Rj2∘ef17j2) v:=by
 rintro⟨x1,x2,x3,x4,x5,x6⟩;kernel_rfl
def f17_3(F:Nat)(kj3:Ty64→Rz):Ty64→Rz:=fun (t3,x2,x3,x4,x5,x6,x7)=>(kj3 (t3,x2,x3,x4,x5,x6,x7))
theorem f17_3_eq(F:Nat)(Rj3:St→Rz):∀ v,XAf17 F (bp Tryd.f17 14) (ef17j2 v) (kSeq (kc V17 Rj3 sp58) Kf53)=f17_3 F (Rj3∘ef17j3) v:=by
 rintro⟨t3,x2,x3,x4,x5,x6,x7⟩;kernel_rfl
def f17_4(F:Nat)(kj4:Ty65→Rz)(kj5:Li→Rz):Ty64→Rz:=fun (t3,x2,x3,x4,x5,x6,x7)=>(kj4 (t3,(0:Int),x2,x3,x4,x5,x6,x7))
theorem f17_4_eq(F:Nat)(Rj4 Rj5:St→Rz):∀ v,XAf17 F (bp Tryd.f17 60) (ef17j3 v) (kSeq (kc V17 Rj4 sp74) (kSeq (kc V17 Rj5 [(4,.plain)]) Kf53))=f17_4 F (Rj4∘ef17j4) (Rj5∘ef17j5) v:=by
 rintro⟨t3,x2,x3,x4,x5,x6,x7⟩;kernel_rfl
def f17_5(F:Nat)(kl1:Ty66→Rz)(kj5:Li→Rz):Ty66→Rz:=fun (t3,t5,x3,x4,x5,x6,x7,x8,x9)=>(cond (decide (t5 < t3)) (cond (decide ((x9.length+1) < 1073741824)) (kl1 (t3,(IntKind.i64.wrap (t5+(1:Int))),x3,x4,x5,x6,x7,x8,(x9++[(IntKind.u8.wrap (x7+(IntKind.u8.wrap t5)))]))) none) (kj5 x9))
theorem f17_5_eq(F:Nat)(Rl1 Rj5:St→Rz):∀ v,XAf17 F (bp Tryd.f17 244) (ef17l1 v) (kSeq (kc V17 Rl1 sp73) (kBlock 0 (kSeq (kc V17 Rj5 [(4,.plain)]) Kf53)))=f17_5 F (Rl1∘ef17l1) (Rj5∘ef17j5) v:=by
 rintro⟨t3,t5,x3,x4,x5,x6,x7,x8,x9⟩;kernel_rfl
def f17_6_i:Ty65→Int×Int×Int×Int×Int×Int×Int×Li×Li:=fun (t3,t5,x3,x4,x5,x6,x7,x8)=>(t3,t5,x3,x4,x5,x6,x7,x8,[])
def f17_6(F:Nat)(kj5:Li→Rz):Ty65→Rz:=fun v=>loopN (fun k=>f17_5 F k kj5) F (f17_6_i v)
theorem f17_6_eq(F:Nat)(Rj5:St→Rz):∀ v,XAf17 F (bp Tryd.f17 122) (ef17j4 v) (kBlock 0 (kSeq (kc V17 Rj5 [(4,.plain)]) Kf53))=f17_6 F (Rj5∘ef17j5) v:=
 loop_cut (by kernel_rfl) (by kernel_rfl) ef17j4 ef17l1 _ f17_6_i (fun k=>f17_5 F k (Rj5∘ef17j5))
  (by rintro⟨t3,t5,x3,x4,x5,x6,x7,x8⟩;kernel_rfl) (fun Rl1=>f17_5_eq F Rl1 Rj5)
def f17_7(F:Nat)(kj5:Li→Rz):Ty65→Rz:=f17_6 F kj5
theorem f17_7_eq(F:Nat)(Rj5:St→Rz):∀ v,XAf17 F (bp Tryd.f17 61) (ef17j4 v) (kSeq (kc V17 Rj5 [(4,.plain)]) Kf53)=f17_7 F (Rj5∘ef17j5) v:=fun v=>
 (block_in  (by kernel_rfl) _ _).trans (f17_6_eq F Rj5 v)
def f17_8(F:Nat)(kj5:Li→Rz):Ty64→Rz:=fun v=>f17_4 F (f17_7 F kj5) kj5 v
theorem f17_8_eq(F:Nat)(Rj5:St→Rz):∀ v,XAf17 F (bp Tryd.f17 30) (ef17j3 v) (kSeq (kc V17 Rj5 [(4,.plain)]) Kf53)=f17_8 F (Rj5∘ef17j5) v:=
 seq_cut (by kernel_rfl) (by kernel_rfl) ef17j3 ef17j4 _ (fun k=>f17_4 F k (Rj5∘ef17j5)) (f17_7 F (Rj5∘ef17j5))
  (fun Rj4=>f17_4_eq F Rj4 Rj5) (f17_7_eq F Rj5)
def f17_9(F:Nat):Li→Rz:=fun x1=>(some ((.str x1),[]))
theorem f17_9_eq(F:Nat):∀ v,XAf17 F (bp Tryd.f17 31) (ef17j5 v) Kf53=f17_9 F v:=by
 intro x1;kernel_rfl
def f17_10(F:Nat):Ty64→Rz:=fun v=>f17_8 F (f17_9 F) v
theorem f17_10_eq(F:Nat):∀ v,XAf17 F (bp Tryd.f17 15) (ef17j3 v) Kf53=f17_10 F v:=
 seq_cut (by kernel_rfl) (by kernel_rfl) ef17j3 ef17j5 _ (fun k=>f17_8 F k) (f17_9 F)
  (fun Rj5=>f17_8_eq F Rj5) (f17_9_eq F)
def f17_11(F:Nat):Ty64→Rz:=fun v=>f17_3 F (f17_10 F) v
theorem f17_11_eq(F:Nat):∀ v,XAf17 F (bp Tryd.f17 7) (ef17j2 v) Kf53=f17_11 F v:=
 seq_cut (by kernel_rfl) (by kernel_rfl) ef17j2 ef17j3 _ (fun k=>f17_3 F k) (f17_10 F)
  (fun Rj3=>f17_3_eq F Rj3) (f17_10_eq F)
def f17_12(F:Nat):Ty63→Rz:=fun v=>f17_2 F (f17_11 F) v
theorem f17_12_eq(F:Nat):∀ v,XAf17 F (bp Tryd.f17 3) (ef17j1 v) Kf53=f17_12 F v:=
 seq_cut (by kernel_rfl) (by kernel_rfl) ef17j1 ef17j2 _ (fun k=>f17_2 F k) (f17_11 F)
  (fun Rj2=>f17_2_eq F Rj2) (f17_11_eq F)
def f17_13(F:Nat):Ty63→Rz:=fun v=>f17_1 F (f17_12 F) v
theorem f17_13_eq(F:Nat):∀ v,XAf17 F (sub (bodyOf Tryd.f17) []) (ef17_a v) Kf53=f17_13 F v:=
 seq_cut (by kernel_rfl) (by kernel_rfl) ef17_a ef17j1 _ (fun k=>f17_1 F k) (f17_12 F)
  (fun Rj1=>f17_1_eq F Rj1) (f17_12_eq F)
def f17(F:Nat):Ty63→Rz:=f17_13 F
theorem f17_body(F:Nat)(a0_0 a0_1:Int)(a0_2 a0_3 a0_4:Int)(a0_5:Li):abody V17 (Af17 F) Tryd.f17 [(.agg 6 (.segs (.cons 1 (.one (.int .i64 a0_0)) (.cons 1 (.one (.int .i64 a0_1)) (.cons 1 (.one (.int .i64 a0_2)) (.cons 1 (.one (.int .i64 a0_3)) (.cons 1 (.one (.int .u8 a0_4)) (.cons 1 (.one (.vs (.rI .i64 a0_5) 0 1)) .nil))))))))] []=f17 F (a0_0,a0_1,a0_2,a0_3,a0_4,a0_5):=
 (abody_in (by kernel_rfl) (by kernel_rfl)).trans (f17_13_eq F (a0_0,a0_1,a0_2,a0_3,a0_4,a0_5))
def r17:CRun:=fun X H=>match X,H with
 | [(.agg 6 (.segs (.cons 1 (.one (.int .i64 a0_0)) (.cons 1 (.one (.int .i64 a0_1)) (.cons 1 (.one (.int .i64 a0_2)) (.cons 1 (.one (.int .i64 a0_3)) (.cons 1 (.one (.int .u8 a0_4)) (.cons 1 (.one (.vs (.rI .i64 a0_5) 0 1)) .nil))))))))],[]=>some (true,(.str (Jr.text a0_3 a0_4)),[])
 | _,_=>none
theorem s17(a0_0 a0_1:Int)(a0_2 a0_3 a0_4:Int)(a0_5:Li)(h0:okV (.agg 6 (.segs (.cons 1 (.one (.int .i64 a0_0)) (.cons 1 (.one (.int .i64 a0_1)) (.cons 1 (.one (.int .i64 a0_2)) (.cons 1 (.one (.int .i64 a0_3)) (.cons 1 (.one (.int .u8 a0_4)) (.cons 1 (.one (.vs (.rI .i64 a0_5) 0 1)) .nil))))))))):∃ F,f17 F (a0_0,a0_1,a0_2,a0_3,a0_4,a0_5)=some ((.str (Jr.text a0_3 a0_4)),[]):=by
 have hN:=Jr.textN_le a0_3
 obtain⟨F,hF⟩:∃ F,F=8200:=⟨_,rfl⟩
 refine⟨F,?_⟩
 simp only [f17,f17_13,f17_1,f17_12,f17_2,f17_11,f17_3,f17_10,f17_8,f17_4,f17_7,f17_6,f17_6_i]
 refine loopN_from (fun i=>(Jr.textN a0_3,(i:Int),a0_0,a0_1,a0_2,a0_3,a0_4,a0_5,(List.range i).map fun k:Nat=>IntKind.u8.wrap (a0_4+IntKind.u8.wrap (k:Int)))) (Jr.textN a0_3).toNat rfl (fun i hi q=>?_) (fun q=>?_) F (by omega)
 ·simp only [f17_5]
  rw [cond_pos (by omega),cond_pos (by rw [List.length_map,List.length_range];omega),i64w (by omega) (by omega),List.range_succ,List.map_append]
  rfl
 ·simp only [f17_5]
  rw [cond_neg (by omega)]
  rfl
theorem c17:CallOk Tryd.prog G36 17 r17:=callOk_of mixed tys eV17 Tryd.func17 (by kernel_rfl) (c:=sub (bodyOf Tryd.f17) []) (by kernel_rfl) (by
 intro X H r H' h hX hH
 unfold r17 at h;split at h <;> try contradiction
 ·obtain⟨hp,rfl,rfl⟩:=inj3 h
  obtain⟨F,hF⟩:=s17 _ _ _ _ _ _ (hX _ hm0)
  exact⟨Af17 F,(f17_body F _ _ _ _ _ _).trans hF⟩)
end Go.Am
end