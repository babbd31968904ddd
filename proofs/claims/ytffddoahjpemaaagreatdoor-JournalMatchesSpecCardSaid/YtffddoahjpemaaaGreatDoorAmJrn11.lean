/- Part of a proof. -/
import Derived.Shelf.Strings.Repeat
import Derived.Test.YtffddoahjpemaaaGreatDoorProg
import Derived.Test.YtffddoahjpemaaaGreatDoorAm36ZD
import Derived.Test.YtffddoahjpemaaaGreatDoorAmJrn7
import Derived.Test.YtffddoahjpemaaaGreatDoorAm36ZA
set_option linter.unusedSimpArgs false
set_option linter.unusedVariables false
section
/- The numbers at which the kit's contract of strings.Repeat holds in this program (printed by layrep.py). -/
namespace Go.Proofs
open Go.RowKit Go.Shelf
def Tryz.lays105_ren:Go.Shelf.Ren:=⟨fun | 105=>39 | 212=>68 | 99=>69 | 165=>70 | 166=>71 | 170=>72 | 169=>73 | 263=>85 | 264=>86 | 206=>87 | 240=>88 | 241=>89 | 276=>100 | 277=>101 | n=>n,fun | 9=>9 | 3=>3 | 4=>4 | 20=>20 | 0=>0 | 46=>65 | 109=>110 | 5=>5 | 72=>115 | 76=>118 | 51=>137 | 146=>138 | 53=>140 | 148=>141 | 70=>113 | 37=>84 | 75=>117 | 127=>143 | 164=>155 | 80=>120 | n=>n,fun | n=>n⟩
theorem Tryz.lays105:Go.Proofs.Lays.n105 Tryz.prog Tryz.lays105_ren:={
 mixed:=by kernel_rfl,
 f99:=Tryz.func69.trans (congrArg some (by kernel_rfl)),
 f105:=Tryz.func39.trans (congrArg some (by kernel_rfl)),
 f165:=Tryz.func70.trans (congrArg some (by kernel_rfl)),
 f166:=Tryz.func71.trans (congrArg some (by kernel_rfl)),
 f169:=Tryz.func73.trans (congrArg some (by kernel_rfl)),
 f170:=Tryz.func72.trans (congrArg some (by kernel_rfl)),
 f206:=Tryz.func87.trans (congrArg some (by kernel_rfl)),
 f212:=Tryz.func68.trans (congrArg some (by kernel_rfl)),
 f240:=Tryz.func88.trans (congrArg some (by kernel_rfl)),
 f241:=Tryz.func89.trans (congrArg some (by kernel_rfl)),
 f263:=Tryz.func85.trans (congrArg some (by kernel_rfl)),
 f264:=Tryz.func86.trans (congrArg some (by kernel_rfl)),
 f276:=Tryz.func100.trans (congrArg some (by kernel_rfl)),
 f277:=Tryz.func101.trans (congrArg some (by kernel_rfl)),
 t0:=Tryz.underlying0,
 a0:=Tryz.isAgg0,
 z0:=Tryz.sizeOf0,
 v0:=Tryz.zeroValue0,
 t3:=Tryz.underlying3,
 a3:=Tryz.isAgg3,
 z3:=Tryz.sizeOf3,
 v3:=Tryz.zeroValue3,
 t4:=Tryz.underlying4,
 a4:=Tryz.isAgg4,
 z4:=Tryz.sizeOf4,
 v4:=Tryz.zeroValue4,
 t5:=Tryz.underlying5,
 a5:=Tryz.isAgg5,
 z5:=Tryz.sizeOf5,
 v5:=Tryz.zeroValue5,
 t9:=Tryz.underlying9,
 a9:=Tryz.isAgg9,
 z9:=Tryz.sizeOf9,
 v9:=Tryz.zeroValue9,
 t20:=Tryz.underlying20,
 a20:=Tryz.isAgg20,
 z20:=Tryz.sizeOf20,
 v20:=Tryz.zeroValue20,
 t37:=Tryz.underlying84,
 a37:=Tryz.isAgg84,
 z37:=Tryz.sizeOf84,
 v37:=Tryz.zeroValue84,
 t46:=Tryz.underlying65,
 a46:=Tryz.isAgg65,
 z46:=Tryz.sizeOf65,
 v46:=Tryz.zeroValue65,
 t51:=Tryz.underlying137,
 a51:=Tryz.isAgg137,
 z51:=Tryz.sizeOf137,
 v51:=Tryz.zeroValue137,
 t53:=Tryz.underlying140,
 a53:=Tryz.isAgg140,
 z53:=Tryz.sizeOf140,
 v53:=Tryz.zeroValue140,
 t70:=Tryz.underlying113,
 a70:=Tryz.isAgg113,
 z70:=Tryz.sizeOf113,
 v70:=Tryz.zeroValue113,
 t72:=Tryz.underlying115,
 a72:=Tryz.isAgg115,
 z72:=Tryz.sizeOf115,
 v72:=Tryz.zeroValue115,
 t75:=Tryz.underlying117,
 a75:=Tryz.isAgg117,
 z75:=Tryz.sizeOf117,
 v75:=Tryz.zeroValue117,
 t76:=Tryz.underlying118,
 a76:=Tryz.isAgg118,
 z76:=Tryz.sizeOf118,
 v76:=Tryz.zeroValue118,
 t109:=Tryz.underlying110,
 a109:=Tryz.isAgg110,
 z109:=Tryz.sizeOf110,
 v109:=Tryz.zeroValue110,
 t127:=Tryz.underlying143,
 a127:=Tryz.isAgg143,
 z127:=Tryz.sizeOf143,
 v127:=Tryz.zeroValue143,
 t146:=Tryz.underlying138,
 a146:=Tryz.isAgg138,
 z146:=Tryz.sizeOf138,
 v146:=Tryz.zeroValue138,
 t148:=Tryz.underlying141,
 a148:=Tryz.isAgg141,
 z148:=Tryz.sizeOf141,
 v148:=Tryz.zeroValue141,
 t164:=Tryz.underlying155,
 a164:=Tryz.isAgg155,
 z164:=Tryz.sizeOf155,
 v164:=Tryz.zeroValue155 }
theorem Tryz.bextra:Builder.Extra Tryz.prog Tryz.lays105_ren:={ sizeBuilder:=by kernel_rfl,liesBuilder:=by kernel_rfl,t5:=Tryz.underlying5,a5:=Tryz.isAgg5,z5:=Tryz.sizeOf5,v5:=Tryz.zeroValue5,infoByte:=by kernel_rfl,cellsByte:=by kernel_rfl,sizeByte:=by kernel_rfl,neB5:=by decide }
end Go.Proofs
end
section
/- strings.Repeat: the kit's contract turned into the machine's. -/
namespace Go.Am
open Go Go.Proofs Go.RowKit
theorem alY{f:UInt8→Int}(l:List UInt8):∀ c:Nat,(Lib.repeatL l c).map f=(List.replicate c (l.map f)).flatten
 | 0=>rfl
 | c+1=>by rw [Lib.repeatL,List.map_append,alY l c,List.replicate_succ,List.flatten_cons]
theorem awk(s:ByteArray)(c:Nat):bytesOf ⟨(Lib.repeatL s.data.toList c).toArray⟩=Jr.repeat_ (bytesOf s) c:=by
 rw [Jr.repeat_,Int.toNat_natCast]
 exact alY _ c
theorem azI(s:ByteArray)(c:Nat):(⟨(Lib.repeatL s.data.toList c).toArray⟩:ByteArray).size=s.size*c:=by
 show(Lib.repeatL s.data.toList c).toArray.size=_
 rw [List.size_toArray,Lib.repeatL_length,Nat.mul_comm];rfl
def r39:eP:=fun X H=>match X,H with
 | [(.str a0),(.int .i64 a1)],[]=>some ((decide (0≤a1∧a1 < 1000∧a0.length < 1000)),(.str (Jr.repeat_ a0 a1)),[])
 | _,_=>none
theorem c39:CallOk Tryz.prog dM 39 r39 where
 there:=⟨_,Tryz.func39,by kernel_rfl,by kernel_rfl⟩
 does:=by
  intro A H r H' hr U w ρ args hU hs hA
  unfold r39 at hr
  split at hr <;> try contradiction
  rename_i t c
  simp only [Option.some.injEq,Prod.mk.injEq,decide_eq_true_eq] at hr
  obtain⟨⟨h0,h1,h2⟩,rfl,rfl⟩:=hr
  match args,hA with
  | ⟨[x,y]⟩,hA=>
   have hx:=hA.1
   have hy:=hA.2.1
   cases hx with | str s hm=>
   cases hy with | int _ _ hn=>
   obtain⟨n,rfl⟩:∃ n:Nat,c=(n:Int):=⟨c.toNat,by omega⟩
   have hsz:s.size < 1000:=by simpa [bytesOf] using h2
   have hmul:s.size*n≤1000*1000:=Nat.mul_le_mul (by omega) (by omega)
   refine(Any.strings_Repeat Tryz.lays105 Tryz.bextra s n w (by omega) (by omega)).mono ?_
   rintro e w' ⟨rfl,hB⟩
   refine⟨_,ρ,rfl,hs.below hB,?_⟩
   rw [← awk]
   exact .str _ (by rw [azI];omega)
end Go.Am
end
section
/- Appending a record on the specification's disk: what lies on it behind that. -/
namespace Go.Jr
open Go Go.Am Go.Dk
structure Clean (r:R):Prop where
 good:RGood r
 none:∀ i,i < r.s.length→fD (r.s.getD i [])=false
structure Pnd (r0 r:R) (a w:Nat) (L:List Li):Prop where
 len:r.s.length=r0.s.length
 good:RGood r
 text:∀ i,i < r.s.length→fT (r.s.getD i [])=fT (r0.s.getD i [])
 worn:∀ i,i < r.s.length→fW (r.s.getD i [])=fW (r0.s.getD i [])
 dirty:∀ i,i < r.s.length→fD (r.s.getD i [])=decide (a≤i∧i < a+w)
 next:∀ i,i < r.s.length→a≤i→i < a+w→Dk.fN (r.s.getD i [])=L.getD (i-a) []
theorem Pnd.start{r:R}(h:Clean r)(a:Nat)(L:List Li):Pnd r r a 0 L where
 len:=rfl
 good:=h.good
 text:=fun _ _=>rfl
 worn:=fun _ _=>rfl
 dirty:=fun i hi=>by rw [h.none i hi,decide_eq_false (by omega)]
 next:=fun i _ h1 h2=>by omega
theorem Pnd.step{r0 r:R}{a w:Nat}{L:List Li}(h:Pnd r0 r a w L):Pnd r0 (rstep r).1 a w L:=by
 have e:=rstep_same r
 exact { len:=by rw [e];exact h.len,good:=by have:=h.good;simp only [RGood,e] at this ⊢;exact this,text:=by rw [e];exact h.text,worn:=by rw [e];exact h.worn,dirty:=by rw [e];exact h.dirty,next:=by rw [e];exact h.next }
theorem Pnd.put{r0 r:R}{a w:Nat}{L:List Li}(h:Pnd r0 r a w L)(hw:w < L.length)(ha:a+L.length≤r.s.length)(hL:(L.getD w []).length=64):Pnd r0 { r with s:=wput r.s (a+w) (L.getD w []) } a (w+1) L:=by
 have hq:a+w < r.s.length:=by omega
 have hlen:(wput r.s (a+w) (L.getD w [])).length=r.s.length:=by simp [wput]
 have hD:∀ x:List Li,fD (pu (pu x 1 (L.getD w [])) 2 [1])=true:=fun x=>by simp only [fD];rw [iV,if_pos rfl];rfl
 have hN:∀ x:List Li,Dk.fN (pu (pu x 1 (L.getD w [])) 2 [1])=L.getD w []:=fun x=>by simp only [Dk.fN];rw [iV,if_neg (by decide),iV,if_pos rfl]
 have hT:∀ x:List Li,fT (pu (pu x 1 (L.getD w [])) 2 [1])=fT x:=fun x=>by simp only [fT];rw [iV,if_neg (by decide),iV,if_neg (by decide)]
 have hW:∀ x:List Li,fW (pu (pu x 1 (L.getD w [])) 2 [1])=fW x:=fun x=>by simp only [fW];rw [iV,if_neg (by decide),iV,if_neg (by decide)]
 refine⟨hlen.trans h.len,⟨by rw [hlen];exact h.good.1,fun i hi=>?_⟩,fun i hi=>?_,fun i hi=>?_,fun i hi=>?_,fun i hi h1 h2=>?_⟩
 all_goals (have hi':i < r.s.length:=by simpa only [hlen] using hi)
 all_goals (simp only [EH (L.getD w []) hq])
 all_goals (by_cases hj:a+w=i)
 ·subst hj
  rw [if_pos rfl]
  exact⟨by rw [hT];exact(h.good.2 _ hi').1,fun _=>by rw [hN];exact hL⟩
 ·rw [if_neg hj];exact h.good.2 i hi'
 ·subst hj;rw [if_pos rfl,hT];exact h.text _ hi'
 ·rw [if_neg hj];exact h.text _ hi'
 ·subst hj;rw [if_pos rfl,hW];exact h.worn _ hi'
 ·rw [if_neg hj];exact h.worn _ hi'
 ·subst hj;rw [if_pos rfl,hD,decide_eq_true (by omega)]
 ·rw [if_neg hj,h.dirty _ hi']
  by_cases hk:a≤i∧i < a+w
  ·rw [decide_eq_true hk,decide_eq_true (by omega)]
  ·rw [decide_eq_false hk,decide_eq_false (by omega)]
 ·subst hj;rw [if_pos rfl,hN,Nat.add_sub_cancel_left]
 ·rw [if_neg hj];exact h.next _ hi' h1 (by omega)
theorem apO{r0 r:R}{a:Nat}{L:List Li}(h:Pnd r0 r a 0 L)(ha:a+L.length≤r.s.length)(hL:∀ i,i < L.length→(L.getD i []).length=64):∀ k,k≤L.length →
  (∃ w,w≤k∧Pnd r0 (writes RV a L k r).1 a w L∧((writes RV a L k r).2=0→w=k))∧(r.off=false→r.left < 0→(writes RV a L k r).2=0∧(writes RV a L k r).1.off=false∧(writes RV a L k r).1.left < 0)
 | 0,_=>⟨⟨0,Nat.le_refl _,h,fun _=>rfl⟩,fun h1 h2=>⟨rfl,h1,h2⟩⟩
 | k+1,hk=>by
  obtain⟨⟨w,w1,w2,w3⟩,w4⟩:=apO h ha hL k (by omega)
  rw [writes]
  by_cases he:(writes RV a L k r).2=0
  ·rw [he]
   simp only [bne_self_eq_false,cond_false]
   obtain rfl:=w3 he
   have hlen:(writes RV (a:Int) L w r).1.s.length=r.s.length:=w2.len.trans h.len.symm
   generalize (writes RV (a:Int) L w r).1=q at *
   have hris:ris q ((a:Int)+(w:Int))=true:=ris_iff.2 ⟨by omega,by omega⟩
   have e64:(((L.getD w []).length:Int) != 64)=false:=by rw [hL w (by omega)];rfl
   have en:((a:Int)+(w:Int)).toNat=a+w:=by omega
   have hst:Pnd r0 (rstep q).1 a w L:=w2.step
   show(∃ x,x≤w+1∧Pnd r0 (rwrite q ((a:Int)+(w:Int)) (L.getD w [])).1 a x L∧((rwrite q ((a:Int)+(w:Int)) (L.getD w [])).2=0→x=w+1))∧(r.off=false→r.left < 0→(rwrite q ((a:Int)+(w:Int)) (L.getD w [])).2=0∧(rwrite q ((a:Int)+(w:Int)) (L.getD w [])).1.off=false∧(rwrite q ((a:Int)+(w:Int)) (L.getD w [])).1.left < 0)
   simp only [rwrite,hris,e64,en,Bool.not_true,cond_false]
   constructor
   ·cases q.off
    ·simp only [cond_false]
     by_cases hs:(rstep q).2=0
     ·rw [hs]
      simp only [bne_self_eq_false,cond_false]
      exact⟨w+1,Nat.le_refl _,hst.put (by omega) (by rw [rstep_same];omega) (hL w (by omega)),fun _=>rfl⟩
     ·rw [show((rstep q).2 != 0)=true by simpa using hs,cond_true]
      exact⟨w,by omega,hst,fun h=>absurd h hs⟩
    ·exact⟨w,by omega,w2,fun h=>by cases h⟩
   ·intro h1 h2
    obtain⟨_,q2,q3⟩:=w4 h1 h2
    rw [q2,W2 q3]
    simp only [bne_self_eq_false,cond_false]
    exact⟨trivial,q2,q3⟩
  ·rw [show((writes RV (a:Int) L k r).2 != 0)=true by simpa using he,cond_true]
   exact⟨⟨w,by omega,w2,fun h=>absurd h he⟩,fun h1 h2=>absurd (w4 h1 h2).1 he⟩
theorem aLQ(x:List Li)(p:Int):fW (settled x p)=fW x:=by
 show((([cond (!fW x) ((Dk.fN x).take (clamp p)++(fT x).drop (clamp p)) (fT x),[],[0],[cond (fW x) 1 0]]:List Li).getD 3 []).getD 0 0==1)=fW x
 cases fW x <;> rfl
theorem awl{x:List Li}(p:Int)(h:fW x=true):fT (settled x p)=fT x:=by
 simp only [settled,fT,List.getD_cons_zero,h,Bool.not_true,cond_false]
theorem aUA{r0 r:R}{a w:Nat}{L:List Li}(h:Pnd r0 r a w L)(ho:r.off=false)(hs:(rstep r).2=0):
  (rflush r).2=0∧Clean (rflush r).1∧(rflush r).1.s.length=r0.s.length∧(rflush r).1.off=r.off∧(rflush r).1.left=(rstep r).1.left ∧
  ∀ i,i < r0.s.length→fW ((rflush r).1.s.getD i [])=fW (r0.s.getD i [])∧fT ((rflush r).1.s.getD i [])=if a≤i∧i < a+w∧fW (r0.s.getD i [])=false then L.getD (i-a) [] else fT (r0.s.getD i []):=by
 have hst:=h.step
 have es:=rstep_same r
 have e:rflush r=(rflushK (rstep r).1 r.s.length,0):=by
  simp only [rflush,ho,hs,cond_false,bne_self_eq_false]
 obtain⟨l1,l2,l3⟩:=J9 (rstep r).1 r.s.length
 have hlen:(rflushK (rstep r).1 r.s.length).s.length=r.s.length:=by rw [l1,es]
 have hoff:(rstep r).1.off=r.off:=by
  unfold rstep at hs ⊢
  cases h1:(r.left==0)
  ·cases h2:decide (r.left > 0) <;> rfl
  ·rw [h1] at hs;cases hs
 have get:∀ i,i < r.s.length→(rflushK (rstep r).1 r.s.length).s.getD i []=if fD (r.s.getD i [])=true then settled (r.s.getD i []) 64 else r.s.getD i []:=fun i hi=>by
  have:=YS (rstep r).1 i (by rw [es];exact hi) r.s.length (by rw [es];exact Nat.le_refl _)
  rw [es] at this
  rw [this]
  simp only [hi,true_and]
 rw [e]
 refine⟨rfl,⟨?_,fun i hi=>?_⟩,hlen.trans h.len,l2.trans hoff,l3,fun i hi=>?_⟩
 ·have:=(rflushK_good hst.good r.s.length (by rw [es];exact Nat.le_refl _)).1
  exact this
 ·rw [get i (by rw [hlen] at hi;exact hi)]
  by_cases hd:fD (r.s.getD i [])=true
  ·rw [if_pos hd];rfl
  ·rw [if_neg hd];simpa using hd
 ·have hi':i < r.s.length:=by rw [h.len];exact hi
  show fW ((rflushK (rstep r).1 r.s.length).s.getD i [])=_∧fT ((rflushK (rstep r).1 r.s.length).s.getD i [])=_
  rw [get i hi']
  have hd:=h.dirty i hi'
  have hwi:=h.worn i hi'
  have hti:=h.text i hi'
  by_cases hk:a≤i∧i < a+w
  ·rw [decide_eq_true hk] at hd
   rw [if_pos hd,aLQ]
   refine⟨hwi,?_⟩
   cases hw0:fW (r0.s.getD i []) with
   | false=>
    rw [if_pos ⟨hk.1,hk.2,rfl⟩,apI (h.good.2 i hi') hd (by rw [hwi,hw0])]
    exact h.next i hi' hk.1 hk.2
   | true=>rw [if_neg (by simp),awl _ (by rw [hwi,hw0])];exact hti
  ·rw [decide_eq_false hk] at hd
   rw [if_neg (by rw [hd];decide),if_neg (fun h'=>hk ⟨h'.1,h'.2.1⟩)]
   exact⟨hwi,hti⟩
theorem azJ{q:R}(h:Clean q)(ho:q.off=false){i:Nat}(hi:i < q.s.length):rread q (i:Int)=(fT (q.s.getD i []),0):=by
 have hris:ris q (i:Int)=true:=ris_iff.2 ⟨by omega,by omega⟩
 simp only [rread,ho,hris,R.at,Int.toNat_natCast,h.none i hi,cond_false,Bool.not_true]
theorem aiL{q:R}(h:Clean q)(ho:q.off=false){a:Nat}{L:List Li}:∀ k,a+k≤q.s.length→reads RV q a L k=((List.range k).all fun i=>L.getD i []==fT (q.s.getD (a+i) []),0)
 | 0,_=>rfl
 | k+1,hk=>by
  have e:RV.read q ((a:Int)+(k:Int))=(fT (q.s.getD (a+k) []),0):=by
   have:=azJ h ho (i:=a+k) (by omega)
   rw [Int.natCast_add] at this;exact this
  rw [reads,aiL h ho k (by omega),e]
  simp only [bne_self_eq_false,cond_false,List.range_succ,List.all_append,List.all_cons,List.all_nil,Bool.and_true]
theorem azK{r:R}(hc:Clean r)(ho:r.off=false)(hl:r.left < 0){a:Nat}{L:List Li}(ha:a+L.length≤r.s.length)(hL:∀ i,i < L.length→(L.getD i []).length=64):
  Clean (writeAll RV r a L).1∧(writeAll RV r a L).1.off=false∧(writeAll RV r a L).1.left < 0∧(writeAll RV r a L).1.s.length=r.s.length ∧
  (∀ i,i < r.s.length→fW ((writeAll RV r a L).1.s.getD i [])=fW (r.s.getD i [])∧fT ((writeAll RV r a L).1.s.getD i [])=if a≤i∧i < a+L.length∧fW (r.s.getD i [])=false then L.getD (i-a) [] else fT (r.s.getD i [])) ∧
  (writeAll RV r a L).2=(0,(List.range L.length).all fun i=>L.getD i []==fT ((writeAll RV r a L).1.s.getD (a+i) [])):=by
 obtain⟨⟨w,w1,w2,w3⟩,w4⟩:=apO (Pnd.start hc a L) ha hL L.length (Nat.le_refl _)
 obtain⟨q1,q2,q3⟩:=w4 ho hl
 obtain rfl:=w3 q1
 have hst:=W2 q3
 obtain⟨f1,f2,f3,f4,f5,f6⟩:=aUA w2 q2 (by rw [hst])
 have e:writeAll RV r (a:Int) L=((rflush (writes RV a L L.length r).1).1,(reads RV (rflush (writes RV a L L.length r).1).1 a L L.length).2,(reads RV (rflush (writes RV a L L.length r).1).1 a L L.length).1):=by
  rw [writeAll,q1]
  simp only [bne_self_eq_false,cond_false]
  rw [show RV.flush=rflush from rfl,f1]
  simp only [bne_self_eq_false,cond_false]
 have e1:(writeAll RV r (a:Int) L).1=(rflush (writes RV a L L.length r).1).1:=by rw [e]
 have er:=aiL f2 (f4.trans q2) (a:=a) (L:=L) L.length (by rw [f3];exact ha)
 refine⟨by rw [e1];exact f2,by rw [e1];exact f4.trans q2,by rw [e1,f5,hst];exact q3,by rw [e1];exact f3,by rw [e1];exact f6,?_⟩
 rw [e1,e,er]
end Go.Jr
end
section
/- Records that are appended, one after the other, while the power stays on. -/
namespace Go.Jr
open Go Go.Am Go.Dk
theorem azL{δ:Type}{V:Dev δ}{d:δ}{j:J}{t:List Int}(hc:j.closed=false)(h:8000 < t.length∨4096 < j.next):append V d j t=(d,j,0,4):=by
 simp only [append,hc,cond_false]
 by_cases h1:(8000:Int) < t.length
 ·rw [decide_eq_true h1,cond_true]
 ·rw [decide_eq_false h1,cond_false,decide_eq_true (by omega),cond_true]
theorem azM{δ:Type}{V:Dev δ}{d:δ}{j:J}{t:List Int}(hc:j.closed=false)(h:t.length≤8000)(h2:j.next≤4096)(hr:count t.length > V.n d-j.fin):append V d j t=(d,j,0,21):=by
 simp only [append,hc,cond_false]
 rw [decide_eq_false (by omega),cond_false,decide_eq_false (by omega),cond_false,decide_eq_true hr,cond_true]
theorem azN{δ:Type}{V:Dev δ}{d:δ}{j:J}{t:List Int}(hc:j.closed=false)(h:t.length≤8000)(h2:j.next≤4096)(hr:count t.length≤V.n d-j.fin):append V d j t =
  (let r:=writeAll V d j.fin (sectors j.next t)
   let k:J:={ j with next:=j.next+1,fin:=j.fin+count t.length }
   cond (r.2.1 != 0) (r.1,{ k with closed:=true },0,r.2.1) (cond (!r.2.2) (r.1,k,0,23) (r.1,{ k with nums:=k.nums++[j.next],texts:=k.texts++[t] },j.next,0))):=by
 simp only [append,hc,cond_false]
 rw [decide_eq_false (by omega),cond_false,decide_eq_false (by omega),cond_false,decide_eq_false (by omega),cond_false]
abbrev zero:List Int:=List.replicate 64 0
structure Inv (r:R) (j:J) (gs:List Seg):Prop where
 clean:Clean r
 on:r.off=false
 left:r.left < 0
 room:(gs.flatMap Seg.L).length≤r.s.length
 holds:r.s.map fT=gs.flatMap Seg.L++List.replicate (r.s.length-(gs.flatMap Seg.L).length) zero
 oks:∀ g∈gs,g.Ok
 nums:gs.map Seg.num=(List.range gs.length).map fun i:Nat=>(i:Int)+1
 next:j.next=(gs.length:Int)+1
 fin:j.fin=((gs.flatMap Seg.L).length:Int)
 opened:j.closed=false
 found:j.nums=(gs.filter Seg.full).map Seg.num∧j.texts=(gs.filter Seg.full).map Seg.text
theorem Inv.at_{r:R}{j:J}{gs:List Seg}(h:Inv r j gs){i:Nat}(hi:i < r.s.length):fT (r.s.getD i [])=(gs.flatMap Seg.L++List.replicate (r.s.length-(gs.flatMap Seg.L).length) zero).getD i []:=by
 rw [← h.holds]
 simp only [List.getD_eq_getElem?_getD,List.getElem?_map,List.getElem?_eq_getElem hi];rfl
theorem Inv.free{r:R}{j:J}{gs:List Seg}(h:Inv r j gs){i:Nat}(h1:(gs.flatMap Seg.L).length≤i)(hi:i < r.s.length):fT (r.s.getD i [])=zero:=by
 rw [h.at_ hi,List.getD_eq_getElem?_getD,List.getElem?_append_right h1,List.getElem?_replicate,if_pos (by omega)];rfl
theorem Inv.nodup{r:R}{j:J}{gs:List Seg}(h:Inv r j gs):(gs.map Seg.num).Nodup:=by
 rw [h.nums,List.nodup_iff_pairwise_ne,List.pairwise_map]
 exact(List.nodup_range (n:=gs.length)).imp fun hne=>by omega
theorem Inv.append{r:R}{j:J}{gs:List Seg}(h:Inv r j gs)(hm:gs.length < 4096){t:List Int}(ht:t.length≤8000)(hr:count t.length≤(r.s.length:Int)-j.fin):
  ∃ g:Seg,g.num=j.next∧g.text=t∧Inv (Jr.append RV r j t).1 (Jr.append RV r j t).2.1 (gs++[g])∧(Jr.append RV r j t).2.2=(if g.full=true then (j.next,0) else (0,23)) ∧
   (Jr.append RV r j t).1.s.length=r.s.length∧(∀ i,i < r.s.length→fW ((Jr.append RV r j t).1.s.getD i [])=fW (r.s.getD i [])) ∧
   ((∀ i,i < r.s.length→fW (r.s.getD i [])=false)→g.full=true):=by
 obtain⟨c1,c2,c3,c4,c5⟩:=count_ok ht
 have hnext:=h.next
 have hfin:=h.fin
 generalize ha:(gs.flatMap Seg.L).length=a at *
 have hLl:(sectors j.next t).length=(count t.length).toNat:=sectors_len _ _
 have hroom:a+(sectors j.next t).length≤r.s.length:=by omega
 have hL:∀ i,i < (sectors j.next t).length→(sectors j.next t).getD i []=sector j.next t i:=fun i hi=>YT (by omega)
 obtain⟨w1,w2,w3,w4,w5,w6⟩:=azK h.clean h.on h.left hroom (fun i hi=>by rw [hL i hi,sector_len])
 have happ:=azN (V:=RV) (d:=r) (j:=j) (t:=t) h.opened ht (by omega) hr
 rw [hfin] at happ
 generalize hq:(writeAll RV r (a:Int) (sectors j.next t)).1=q at *
 let g:Seg:=⟨j.next,t,(List.range (sectors j.next t).length).map fun i=>fT (q.s.getD (a+i) [])⟩
 have gl:g.L.length=(sectors j.next t).length:=by simp [g]
 have ga:∀ i,i < (sectors j.next t).length→g.L.getD i []=fT (q.s.getD (a+i) []):=fun i hi=>by
  simp [g,List.getD_eq_getElem?_getD,List.getElem?_map,List.getElem?_range hi]
 have gv:∀ i,i < (sectors j.next t).length→g.L.getD i []=if fW (r.s.getD (a+i) [])=false then sector j.next t i else zero:=fun i hi=>by
  rw [ga i hi,(w5 (a+i) (by omega)).2,Nat.add_sub_cancel_left,hL i hi,h.free (by omega) (by omega)]
  by_cases hw:fW (r.s.getD (a+i) [])=false
  ·rw [if_pos ⟨by omega,by omega,hw⟩,if_pos hw]
  ·rw [if_neg (fun h'=>hw h'.2.2),if_neg hw]
 have hg:g.Ok:=⟨by show 1≤j.next;omega,by show j.next≤4096;omega,ht,by rw [gl,hLl],fun i hi=>by
  rw [gv i (by omega)]
  by_cases hw:fW (r.s.getD (a+i) [])=false
  ·rw [if_pos hw];exact .inl rfl
  ·rw [if_neg hw];exact .inr aSW⟩
 have hfull:((List.range (sectors j.next t).length).all fun i=>(sectors j.next t).getD i []==fT (q.s.getD (a+i) []))=g.full:=by
  rw [Bool.eq_iff_iff]
  simp only [List.all_eq_true,List.mem_range,beq_iff_eq]
  constructor
  ·intro hall
   cases hf:g.full with
   | true=>rfl
   | false=>
    obtain⟨i,hi,hb⟩:=hg.spoiled hf
    rw [ga i (by omega),← hall i (by omega),hL i (by omega),VN (by omega) (by omega) ht (by omega)] at hb
    cases hb
  ·intro hf i hi
   rw [← ga i hi,hg.full hf (by omega),hL i hi]
 have hflat:((gs++[g]).flatMap Seg.L).length=a+(sectors j.next t).length:=by
  rw [List.flatMap_append,List.length_append,ha,List.flatMap_cons,List.flatMap_nil,List.append_nil,gl]
 have holds:q.s.map fT=(gs++[g]).flatMap Seg.L++List.replicate (q.s.length-((gs++[g]).flatMap Seg.L).length) zero:=by
  apply List.ext_getElem?
  intro i
  rw [hflat,w4,List.flatMap_append,List.flatMap_cons,List.flatMap_nil,List.append_nil]
  by_cases hi:i < r.s.length
  ·have hiq:i < q.s.length:=by omega
   have e1:(q.s.map fT)[i]?=some (fT (q.s.getD i [])):=by
    rw [List.getElem?_map,List.getElem?_eq_getElem hiq,List.getD_eq_getElem?_getD,List.getElem?_eq_getElem hiq];rfl
   rw [e1]
   by_cases h1:i < a
   ·rw [List.append_assoc,List.getElem?_append_left (by omega),(w5 i hi).2,if_neg (by omega),h.at_ hi,List.getD_eq_getElem?_getD,List.getElem?_append_left (by omega),List.getElem?_eq_getElem (by omega)]
    rfl
   ·by_cases h2:i < a+(sectors j.next t).length
    ·rw [List.append_assoc,List.getElem?_append_right (by omega),List.getElem?_append_left (by omega),ha]
     have:=ga (i-a) (by omega)
     rw [show a+(i-a)=i by omega] at this
     rw [← this,List.getD_eq_getElem?_getD,List.getElem?_eq_getElem (by omega)]
     rfl
    ·rw [List.getElem?_append_right (by rw [List.length_append];omega),List.getElem?_replicate,if_pos (by rw [List.length_append];omega),(w5 i hi).2,if_neg (by omega),h.free (by omega) hi]
  ·rw [List.getElem?_eq_none (by rw [List.length_map];omega),List.getElem?_eq_none (by simp only [List.length_append,List.length_replicate];omega)]
 refine⟨g,rfl,rfl,?_⟩
 have hcnt:count (t.length:Int)=((sectors j.next t).length:Int):=by omega
 have hW:writeAll RV r (a:Int) (sectors j.next t)=(q,0,g.full):=by
  rw [← hfull]
  exact Prod.ext hq w6
 rw [hW] at happ
 have e1:(Jr.append RV r j t).1=q:=by
  rw [happ]
  cases g.full <;> rfl
 have e2:(Jr.append RV r j t).2=if g.full=true then ({ j with next:=j.next+1,fin:=(a:Int)+count t.length,nums:=j.nums++[j.next],texts:=j.texts++[t] },j.next,0) else ({ j with next:=j.next+1,fin:=(a:Int)+count t.length },0,23):=by
  rw [happ]
  cases g.full <;> rfl
 have base:∀ k:J,k.next=j.next+1→k.fin=(a:Int)+count t.length→k.closed=false→k.nums=((gs++[g]).filter Seg.full).map Seg.num→k.texts=((gs++[g]).filter Seg.full).map Seg.text→Inv q k (gs++[g]):=fun k k1 k2 k3 k4 k5=>
  {
   clean:=w1,on:=w2,left:=w3,room:=by rw [hflat,w4];exact hroom,holds:=holds,
   oks:=fun x hx=>by
    rcases List.mem_append.1 hx with hx | hx
    ·exact h.oks x hx
    ·rw [List.mem_singleton] at hx;rw [hx];exact hg,
   nums:=by rw [List.map_append,h.nums,List.length_append,List.length_singleton,List.range_succ,List.map_append];show _++[j.next]=_++[((gs.length:Nat):Int)+1];rw [hnext],
   next:=by rw [k1,hnext,List.length_append];simp,
   fin:=by rw [k2,hflat,hcnt];simp,opened:=k3,found:=⟨k4,k5⟩ }
 obtain⟨f1,f2⟩:=h.found
 rw [e1,e2]
 refine⟨?_,?_,w4,fun i hi=>(w5 i hi).1,fun hw=>?_⟩
 ·cases hf:g.full with
  | true=>
   rw [if_pos rfl]
   refine base _ rfl rfl h.opened ?_ ?_
   ·rw [List.filter_append,List.map_append,← f1];simp [hf];rfl
   ·rw [List.filter_append,List.map_append,← f2];simp [hf];rfl
  | false=>
   rw [if_neg (by decide)]
   refine base _ rfl rfl h.opened ?_ ?_
   ·rw [List.filter_append,List.map_append,← f1];simp [hf]
   ·rw [List.filter_append,List.map_append,← f2];simp [hf]
 ·cases g.full <;> rfl
 ·cases hf:g.full with
  | true=>rfl
  | false=>
   obtain⟨i,hi,hb⟩:=hg.spoiled hf
   rw [gv i (by omega),if_pos (hw (a+i) (by omega)),VN (by omega) (by omega) ht (by omega)] at hb
   cases hb
end Go.Jr
end
section
/- Opening a journal anew, and what Append answers. -/
namespace Go.Jr
open Go Go.Am Go.Dk
theorem Inv.any{r:R}{j:J}{gs:List Seg}(h:Inv r j gs)(hm:gs.length < 4096)(t:Li):
  ∃ gs':List Seg,Inv (Jr.append RV r j t).1 (Jr.append RV r j t).2.1 gs'∧gs'.length≤gs.length+1∧(Jr.append RV r j t).1.s.length=r.s.length∧(∀ i,i < r.s.length→fW ((Jr.append RV r j t).1.s.getD i [])=fW (r.s.getD i [])) ∧
   (((Jr.append RV r j t).2.2.2=0∧(Jr.append RV r j t).2.2.1=j.next∧(Jr.append RV r j t).2.1.nums=j.nums++[j.next]∧(Jr.append RV r j t).2.1.texts=j.texts++[t]) ∨
    (((Jr.append RV r j t).2.2.2=4∨(Jr.append RV r j t).2.2.2=21∨(Jr.append RV r j t).2.2.2=23)∧(Jr.append RV r j t).2.1.nums=j.nums∧(Jr.append RV r j t).2.1.texts=j.texts)) ∧
   ((∀ i,i < r.s.length→fW (r.s.getD i [])=false)→(∀ g∈gs,g.full=true)→(∀ g∈gs',g.full=true)∧(Jr.append RV r j t).2.2.2≠23):=by
 have hnext:=h.next
 by_cases hlong:8000 < t.length∨4096 < j.next
 ·rw [azL h.opened hlong]
  exact⟨gs,h,by omega,rfl,fun _ _=>rfl,.inr ⟨.inl rfl,rfl,rfl⟩,fun _ hf=>⟨hf,by show(4:Int)≠23;decide⟩⟩
 by_cases hfull:count t.length > (r.s.length:Int)-j.fin
 ·rw [azM (V:=RV) h.opened (by omega) (by omega) hfull]
  exact⟨gs,h,by omega,rfl,fun _ _=>rfl,.inr ⟨.inr (.inl rfl),rfl,rfl⟩,fun _ hf=>⟨hf,by show(21:Int)≠23;decide⟩⟩
 obtain⟨g,g1,g2,g3,g4,g5,g6,g7⟩:=h.append hm (t:=t) (by omega) (by omega)
 obtain⟨f1,f2⟩:=h.found
 obtain⟨f3,f4⟩:=g3.found
 refine⟨gs++[g],g3,by simp,g5,g6,?_,fun hw hf=>⟨fun x hx=>?_,?_⟩⟩
 ·cases hg:g.full with
  | true=>
   left
   rw [g4,hg,if_pos rfl]
   refine⟨rfl,rfl,?_,?_⟩
   ·rw [f3,List.filter_append,List.map_append,← f1];simp [hg,g1]
   ·rw [f4,List.filter_append,List.map_append,← f2];simp [hg,g2]
  | false=>
   right
   rw [g4,hg,if_neg (by decide)]
   refine⟨.inr (.inr rfl),?_,?_⟩
   ·rw [f3,List.filter_append,List.map_append,← f1];simp [hg]
   ·rw [f4,List.filter_append,List.map_append,← f2];simp [hg]
 ·rcases List.mem_append.1 hx with hx | hx
  ·exact hf x hx
  ·rw [List.mem_singleton] at hx;rw [hx];exact g7 hw
 ·rw [g4,g7 hw,if_pos rfl];show(0:Int)≠23;decide
end Go.Jr
end
section
/- A journal on a disk of the program that stays on: what holds, and that appending keeps it. -/
namespace Go.Jr
open Go Go.Am Go.Dk
structure Both (d:D) (r:R) (j:J) (gs:List Seg):Prop where
 rel:DR d r
 inv:Inv r j gs
theorem aEA{δ:Type}(V:Dev δ)(d:δ)(j:J)(t:Li):(append V d j t).2.1.bad=j.bad:=by
 simp only [append]
 cases j.closed
 ·cases decide ((8000:Int) < t.length)
  ·cases decide (j.next > 4096)
   ·cases decide (count t.length > V.n d-j.fin)
    ·cases ((writeAll V d j.fin (sectors j.next t)).2.1 != 0)
     ·cases (!(writeAll V d j.fin (sectors j.next t)).2.2) <;> rfl
     ·rfl
    ·rfl
   ·rfl
  ·rfl
 ·rfl
theorem Both.fine{d:D}{r:R}{j:J}{gs:List Seg}(h:Both d r j gs):Dk.fine d=true:=h.rel.1.fine
theorem Both.n{d:D}{r:R}{j:J}{gs:List Seg}(h:Both d r j gs):r.s.length=d.n:=h.rel.1.n
theorem Both.on{d:D}{r:R}{j:J}{gs:List Seg}(h:Both d r j gs):d.off=false:=h.rel.1.off.trans h.inv.on
theorem Rel.pends{d:D}{r:R}(h:Rel d r):d.pend.length≤d.n:=ag6 (fun e he=>(h.keys e he).1) h.nd
theorem Both.okJ{d:D}{r:R}{j:J}{gs:List Seg}(h:Both d r j gs)(hn:d.n < 4000)(hm:gs.length < 4096):okJ d j=true:=by
 have h1:=Rel.pends h.rel.1
 have h2:=h.inv.fin
 have h3:=h.inv.next
 have h4:=h.inv.room
 have h5:=h.n
 have h6:j.nums.length≤gs.length:=by rw [h.inv.found.1,List.length_map];exact List.length_filter_le _ _
 have h7:j.texts.length≤gs.length:=by rw [h.inv.found.2,List.length_map];exact List.length_filter_le _ _
 simp only [Jr.okJ,decide_eq_true_eq]
 omega
theorem Both.any{d:D}{r:R}{j:J}{gs:List Seg}(h:Both d r j gs)(hm:gs.length < 4096)(t:Li):
  ∃ (r':R) (gs':List Seg),Both (append DV d j t).1 r' (append DV d j t).2.1 gs'∧gs'.length≤gs.length+1∧(append DV d j t).1.n=d.n ∧
   (((append DV d j t).2.2.2=0∧(append DV d j t).2.2.1=j.next∧(append DV d j t).2.1.next=j.next+1∧(append DV d j t).2.1.nums=j.nums++[j.next]∧(append DV d j t).2.1.texts=j.texts++[t]) ∨
    (((append DV d j t).2.2.2=4∨(append DV d j t).2.2.2=21∨(append DV d j t).2.2.2=23)∧(append DV d j t).2.1.nums=j.nums∧(append DV d j t).2.1.texts=j.texts∧j.next≤(append DV d j t).2.1.next)):=by
 obtain⟨e,q⟩:=append_rel devs h.rel j t
 obtain⟨gs',a1,a2,a3,a4,a5,a6⟩:=h.inv.any hm t
 rw [← e] at a1 a5
 refine⟨_,gs',⟨q,a1⟩,a2,?_,?_⟩
 ·rw [← q.1.n,a3,h.n]
 ·have hnx:∀ {δ:Type} (V:Dev δ) (d:δ),(append V d j t).2.1.next=j.next∨(append V d j t).2.1.next=j.next+1:=fun V d=>by
   simp only [append]
   cases j.closed
   ·cases decide ((8000:Int) < t.length)
    ·cases decide (j.next > 4096)
     ·cases decide (count t.length > V.n d-j.fin)
      ·cases ((writeAll V d j.fin (sectors j.next t)).2.1 != 0)
       ·cases (!(writeAll V d j.fin (sectors j.next t)).2.2)
        ·exact .inr rfl
        ·exact .inr rfl
       ·exact .inr rfl
      ·exact .inl rfl
     ·exact .inl rfl
    ·exact .inl rfl
   ·exact .inl rfl
  have hok:(append DV d j t).2.2.2=0→(append DV d j t).2.2.1=j.next→0 < j.next→(append DV d j t).2.1.next=j.next+1:=by
   simp only [append]
   cases j.closed
   ·cases decide ((8000:Int) < t.length)
    ·cases decide (j.next > 4096)
     ·cases decide (count t.length > DV.n d-j.fin)
      ·cases ((writeAll DV d j.fin (sectors j.next t)).2.1 != 0)
       ·cases (!(writeAll DV d j.fin (sectors j.next t)).2.2) <;> exact fun _ _ _=>rfl
       ·exact fun _ _ _=>rfl
      ·intro h;cases h
     ·intro h;cases h
    ·intro h;cases h
   ·intro h;cases h
  rcases a5 with ⟨b1,b2,b3,b4⟩ | ⟨b1,b2,b3⟩
  ·exact .inl ⟨b1,b2,hok b1 b2 (by have:=h.inv.next;omega),b3,b4⟩
  ·refine .inr ⟨b1,b2,b3,?_⟩
   rcases hnx DV d with e | e <;> omega
theorem Both.append{d:D}{r:R}{j:J}{gs:List Seg}(h:Both d r j gs)(hm:gs.length < 4096){t:List Int}(ht:t.length≤8000)(hr:count t.length≤(d.n:Int)-j.fin)(hw:∀ i,i < r.s.length→fW (r.s.getD i [])=false):
  ∃ (r':R) (g:Seg),g.num=j.next∧g.text=t∧g.full=true∧Both (Jr.append DV d j t).1 r' (Jr.append DV d j t).2.1 (gs++[g])∧(Jr.append DV d j t).2.2=(j.next,0)∧(Jr.append DV d j t).1.n=d.n∧(∀ i,i < r'.s.length→fW (r'.s.getD i [])=false):=by
 obtain⟨e,q⟩:=append_rel devs h.rel j t
 obtain⟨g,g1,g2,g3,g4,g5,g6,g7⟩:=h.inv.append hm ht (by rw [h.n];exact hr)
 have hf:=g7 hw
 rw [← e] at g3 g4
 refine⟨_,g,g1,g2,hf,⟨q,g3⟩,by rw [g4,if_pos hf],?_,fun i hi=>?_⟩
 ·rw [← q.1.n,g5,h.n]
 ·rw [g5] at hi;rw [g6 i hi];exact hw i hi
structure Fresh (d:D) (r:R):Prop where
 rel:DR d r
 clean:Clean r
 on:r.off=false
 left:r.left < 0
 zero:∀ i,i < r.s.length→fT (r.s.getD i [])=zero
theorem Fresh.wear{d:D}{r:R}(h:Fresh d r)(i:Int):Fresh (Dk.wear d i).1 (rwear r i).1∧(Dk.wear d i).1.n=d.n:=by
 have hn:(Dk.wear d i).1.n=d.n:=by
  simp only [Dk.wear]
  cases decide (i < 0)
  ·cases decide (i≥(d.n:Int)) <;> rfl
  ·rfl
 have hr:=(h.rel.1.wear i).2
 refine⟨?_,hn⟩
 have hd:DR (Dk.wear d i).1 (rwear r i).1:=⟨hr,by rw [hn];exact h.rel.2⟩
 cases hi:ris r i with
 | false=>
  have e:rwear r i=(r,1):=by simp only [rwear,hi];rfl
  rw [e] at hd ⊢
  exact⟨hd,h.clean,h.on,h.left,h.zero⟩
 | true=>
  have e:(rwear r i).1={ r with s:=r.s.set i.toNat (pu (r.at i) 3 [1]) }:=by simp only [rwear,hi];rfl
  rw [e] at hd ⊢
  have hget:∀ j,(r.s.set i.toNat (pu (r.at i) 3 [1])).getD j []=if i.toNat=j∧j < r.s.length then pu (r.at i) 3 [1] else r.s.getD j []:=fun j=>D9 _ _ _ _ _
  refine⟨hd,⟨hd.1.good,fun j hj=>?_⟩,h.on,h.left,fun j hj=>?_⟩
  all_goals (simp only [List.length_set] at hj;simp only [hget])
  ·by_cases hc:i.toNat=j∧j < r.s.length
   ·rw [if_pos hc]
    have:=h.clean.none j hj
    simp only [fD,R.at,hc.1] at this ⊢
    rw [iV,if_neg (by decide)];exact this
   ·rw [if_neg hc];exact h.clean.none j hj
  ·by_cases hc:i.toNat=j∧j < r.s.length
   ·rw [if_pos hc]
    have:=h.zero j hj
    simp only [fT,R.at,hc.1] at this ⊢
    rw [iV,if_neg (by decide)];exact this
   ·rw [if_neg hc];exact h.zero j hj
end Go.Jr
end
section
/- What the specification's journal and the laws' own functions compute, in plain terms. -/
namespace Go.Jr
open Go Go.Am Go.Dk
def okJR(j:J):Bool:=decide (0≤j.fin∧j.fin < 100000∧0 < j.next∧j.next < 100000∧j.nums.length < 100000∧j.texts.length < 100000)
def okS(j:J):Bool:=decide (j.nums.length < 100000∧j.texts.length < 100000∧j.bad.length < 100000∧j.next < 100000)
def same(j:J)(d:D)(k:J)(r:R):Bool:=cond (j.nums==k.nums) (cond (j.texts==k.texts) (cond (damaged j==damaged k) (cond (j.bad==k.bad) (cond (j.next==k.next) (IntKind.i64.wrap ((d.n:Int)-j.fin)==IntKind.i64.wrap ((r.s.length:Int)-k.fin)) false) false) false) false) false
theorem same_self{j:J}{d:D}{r:R}(h:r.s.length=d.n):same j d j r=true:=by
 simp only [same,beq_self_eq_true,cond_true,h]
def few(xs:RL)(n:Nat):Bool:=(xs.all fun x=>decide ((x.getD 5 []).length≤200))&&decide (n≤30)
theorem damaged_len(j:J):(damaged j).length≤(j.next-1).toNat:=by
 rw [damaged,List.length_map]
 exact Nat.le_trans (List.length_filter_le _ _) (by simp)
theorem blank_take{s:List Int}{k:Nat}(h:k < s.length)(hb:(s.take k).all (· == 0)=true):(s.take (k+1)).all (· == 0)=(s.getD k 0==0):=by
 rw [List.take_add_one,List.all_append,hb,List.getElem?_eq_getElem h,List.getD_eq_getElem?_getD,List.getElem?_eq_getElem h]
 simp
theorem contains_take{l:List Int}{n:Int}{k:Nat}(h:k < l.length)(hb:(l.take k).contains n=false):(l.take (k+1)).contains n=(l.getD k 0==n):=by
 rw [List.take_add_one,List.contains_eq_any_beq,List.any_append,← List.contains_eq_any_beq,hb,List.getElem?_eq_getElem h,List.getD_eq_getElem?_getD,List.getElem?_eq_getElem h]
 simp only [Option.toList_some,List.any_cons,List.any_nil,Bool.or_false,Bool.false_or,Option.getD_some]
 rw [Bool.eq_iff_iff,beq_iff_eq,beq_iff_eq];exact eq_comm
theorem azO{r:R}(h:RGood r)(i:Int)(t:Li):RGood (rwrite r i t).1:=by
 have hs:=rstep_same r
 have hst:RGood (rstep r).1:=by simp only [RGood,hs] at h ⊢;exact h
 simp only [rwrite]
 cases r.off
 ·cases hi:ris r i
  ·exact h
  ·by_cases h64:t.length=64
   ·have e:((t.length:Int) != 64)=false:=by rw [h64];rfl
    rw [e]
    cases ((rstep r).2 != 0)
    ·simp only [Bool.not_true,cond_false]
     have hr:=ris_iff.1 hi
     have hq:i.toNat < (rstep r).1.s.length:=by rw [hs];omega
     refine⟨by simp only [wput,List.length_set];exact hst.1,fun j hj=>?_⟩
     have hj':j < (rstep r).1.s.length:=by simpa [wput] using hj
     simp only [EH t hq]
     split
     ·refine⟨?_,fun _=>?_⟩
      ·have:=(hst.2 _ hq).1
       simp only [fT] at this ⊢
       rw [iV,if_neg (by decide),iV,if_neg (by decide)];exact this
      ·simp only [Dk.fN]
       rw [iV,if_neg (by decide),iV,if_pos rfl];exact h64
     ·exact hst.2 j hj'
    ·exact hst
   ·have e:((t.length:Int) != 64)=true:=by simp;omega
    rw [e];exact h
 ·exact h
theorem aEB(r:R)(i:Int)(t:Li):(rwrite r i t).1.s.length=r.s.length:=by
 have hs:=rstep_same r
 simp only [rwrite]
 cases r.off
 ·cases ris r i
  ·rfl
  ·cases ((t.length:Int) != 64)
   ·cases ((rstep r).2 != 0)
    ·simp only [Bool.not_true,cond_false,wput,List.length_set,hs]
    ·simp only [Bool.not_true,cond_false,cond_true,hs]
   ·rfl
 ·rfl
theorem writesR_good{r:R}(h:RGood r)(a:Int)(L:List Li):∀ k,RGood (writes RV a L k r).1∧(writes RV a L k r).1.s.length=r.s.length
 | 0=>⟨h,rfl⟩
 | k+1=>by
  obtain⟨h1,h2⟩:=writesR_good h a L k
  rw [writes]
  cases ((writes RV a L k r).2 != 0)
  ·exact⟨azO h1 _ _,(aEB _ _ _).trans h2⟩
  ·exact⟨h1,h2⟩
theorem rflush_len(r:R):(rflush r).1.s.length=r.s.length:=by
 have hs:=rstep_same r
 simp only [rflush]
 cases r.off
 ·cases ((rstep r).2 != 0)
  ·simp only [cond_false,(J9 (rstep r).1 r.s.length).1,hs]
  ·simp only [cond_false,cond_true,hs]
 ·rfl
theorem okT{n:Nat}{s:List (List Li)}(h:okB (.cells n (.rT [.str,.str,.bool,.bool] s) true)):∀ i,i < s.length→(∀ x∈fT (s.getD i []),0≤x∧x < 256) ∧ ∀ x∈Dk.fN (s.getD i []),0≤x∧x < 256:=by
 obtain⟨_,h2,h3⟩:=h
 have h2:s.length*4=n:=h2
 intro i hi
 have a:=h3 (i*4) (by omega)
 have b:=h3 (i*4+1) (by omega)
 simp only [AV.cell,List.length_cons,List.length_nil,show(i*4)%(0+1+1+1+1)=0 by omega,show(i*4) / (0+1+1+1+1)=i by omega,show(i*4+1)%(0+1+1+1+1)=1 by omega,show(i*4+1) / (0+1+1+1+1)=i by omega] at a b
 exact⟨fun x hx=>by have:=a.2 x hx;omega,fun x hx=>by have:=b.2 x hx;omega⟩
theorem rread_ok{r:R}(hg:RGood r)(ho:r.off=false)(hb:∀ i,i < r.s.length→(∀ x∈fT (r.s.getD i []),0≤x∧x < 256) ∧ ∀ x∈Dk.fN (r.s.getD i []),0≤x∧x < 256){i:Nat}(hi:i < r.s.length):
  (rread r i).2=0∧(rread r i).1.length=64∧(∀ x∈(rread r i).1,0≤x∧x < 256)∧(rread r i).1=(secsR r).getD i []:=by
 have hris:ris r (i:Int)=true:=ris_iff.2 ⟨by omega,by omega⟩
 have hS:(rread r i).1=(secsR r).getD i []:=by
  rw [secsR,List.getD_eq_getElem?_getD,List.getElem?_map,List.getElem?_range hi];rfl
 obtain⟨g1,g2⟩:=hg.2 i hi
 obtain⟨b1,b2⟩:=hb i hi
 refine⟨?_,?_,?_,hS⟩
 all_goals (simp only [rread,ho,hris,R.at,Int.toNat_natCast,cond_false,Bool.not_true])
 all_goals (cases hd:fD (r.s.getD i []))
 ·rfl
 ·rfl
 ·exact g1
 ·exact g2 hd
 ·exact b1
 ·exact b2
theorem count_nn(n:Int):0≤count n∧count n≤167:=by
 unfold count
 by_cases h:n < 0∨8000 < n
 ·rw [aK h];omega
 ·rw [ba h];split <;> omega
theorem pt_S{S:List Li}{j:Nat}(h:j < S.length):pt (S.map unpack) j=unpack (S.getD j []):=by
 rw [pt,List.getD_eq_getElem?_getD,List.getElem?_map,List.getElem?_eq_getElem h,List.getD_eq_getElem?_getD,List.getElem?_eq_getElem h];rfl
theorem rows_get{S:List Li}{j:Nat}(h:j < S.length):(rowsOf S).getD j []=(pt (S.map unpack) j).row:=by
 rw [pt_S h,rowsOf,List.getD_eq_getElem?_getD,List.getElem?_map,List.getElem?_eq_getElem h,List.getD_eq_getElem?_getD,List.getElem?_eq_getElem h];rfl
theorem b2i_one(b:Bool):(b2i b==1)=b:=by cases b <;> rfl
theorem all_range_succ(p:Nat→Bool)(i:Nat):(List.range (i+1)).all p=((List.range i).all p&&p i):=by
 rw [List.range_succ,List.all_append,List.all_cons,List.all_nil,Bool.and_true]
end Go.Jr
end
section
/- What Open returns is not too long; writings while the power is on. -/
namespace Go.Jr
open Go Go.Am Go.Dk
theorem YW(l:List Part):∀ (f k:Nat) (a:List Int×List Li),(collect l f k a).1.length≤a.1.length+f∧(collect l f k a).2.length≤a.2.length+f
 | 0,k,a=>⟨Nat.le_refl _,Nat.le_refl _⟩
 | f+1,k,a=>by
  simp only [collect]
  cases decide (k < l.length) with
  | false=>exact⟨by simp only [cond_false];omega,by simp only [cond_false];omega⟩
  | true=>
   cases recOk l k with
   | false=>
    obtain⟨h1,h2⟩:=YW l f (k+1) a
    simp only [cond_true,cond_false]
    exact⟨by omega,by omega⟩
   | true=>
    have hp:(put1 a (pt l k).number (recText l k (recN l k))).1.length≤a.1.length+1∧(put1 a (pt l k).number (recText l k (recN l k))).2.length≤a.2.length+1:=by
     unfold put1
     cases a.1.contains (pt l k).number
     ·simp
     ·simp
    obtain⟨h1,h2⟩:=YW l f (k+recN l k) (put1 a (pt l k).number (recText l k (recN l k)))
    simp only [cond_true]
    exact⟨by omega,by omega⟩
theorem aLR(s:Li):(unpack s).number≤4096:=by
 unfold unpack
 cases hg:zS s with
 | false=>exact(by decide:(0:Int)≤4096)
 | true=>
  simp only [zS,Bool.and_eq_true,decide_eq_true_eq] at hg
  exact hg.1.2.2.1
theorem awm(S:List Li):(openS S).nums.length≤S.length∧(openS S).texts.length≤S.length∧(openS S).bad.length≤S.length∧1≤(openS S).next∧(openS S).next≤4097∧0≤(openS S).fin∧(openS S).fin≤S.length∧(openS S).closed=false:=by
 obtain⟨h1,h2⟩:=YW (S.map unpack) S.length 0 ([],[])
 have h3:=badOf_len S S.length
 have h4:nextOf S S.length≤4096+1:=apL (by decide) _ fun i _=>aLR _
 have h5:=alC S S.length
 have h6:∀ k,0≤finOf S k∧finOf S k≤k:=fun k=>by
  induction k with
  | zero=>exact⟨Int.le_refl _,Int.le_refl _⟩
  | succ k ih=>
   simp only [finOf]
   cases blank (S.getD k []) with
   | false=>rw [cond_false];omega
   | true=>rw [cond_true];omega
 have h7:=h6 S.length
 simp only [List.length_nil,Nat.zero_add] at h1 h2
 exact⟨h1,h2,h3,h5,h4,h7.1,h7.2,rfl⟩
end Go.Jr
end