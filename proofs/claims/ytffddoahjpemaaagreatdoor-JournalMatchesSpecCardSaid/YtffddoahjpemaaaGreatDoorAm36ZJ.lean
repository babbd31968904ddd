/- Part of a proof. -/
import Derived.RangeFuncBox
import Derived.RangeFuncLeaves
import Derived.Shelf.Abstract
import Derived.WalkKit
import Derived.OwnWalkIn
import Derived.TacticsInMore
import Derived.LoopNIn
import Derived.LoopIn
import Derived.RangeFuncNested
import Derived.IntWalk
import Derived.Test.YtffddoahjpemaaaGreatDoorProg
import Derived.Test.YtffddoahjpemaaaGreatDoorAm36ZD
import Derived.Test.YtffddoahjpemaaaGreatDoorAmWire3
import Derived.Test.YtffddoahjpemaaaGreatDoorAm36ZH
set_option linter.unusedSimpArgs false
set_option linter.unusedVariables false
section
/- journal.get and slices.Backward over bytes: what they return, in the model's own terms. -/
namespace Go.Proofs
open Go.RowKit Go.Shelf
attribute [local go_sem] Oper.semAt_some
namespace Jn
def upto{α:Type}(f:Nat→α)(k:Nat):List α:=(List.range k).map f
theorem upto_succ{α:Type}(f:Nat→α)(k:Nat):upto f (k+1)=upto f k++[f k]:=by simp [upto,List.range_succ]
theorem azH{α:Type}(f:Nat→α)(k:Nat):(upto f k).length=k:=by simp [upto]
def bk(zs:List Int)(len k:Nat):Int×Int:=(((len-1-k:Nat):Int),zs[len-1-k]?.getD 0)
def Kq(n₀ Bs:Nat)(A B:World):Prop:=Below n₀ A B∧B.heap[Bs]?=A.heap[Bs]?
theorem Kq.refl(n₀ Bs:Nat)(A:World):Kq n₀ Bs A A:=⟨Below.refl _ _,rfl⟩
theorem Kq.trans{n₀ Bs:Nat}{A B C:World}(h:Kq n₀ Bs A B)(k:Kq n₀ Bs B C):Kq n₀ Bs A C:=⟨h.1.trans k.1,k.2.trans h.2⟩
theorem Kq.box{n₀ Bs:Nat}{A B:World}(h:Kq n₀ Bs A B){v:Value}(hc:A.cell? ⟨Bs,0,none⟩=some v):B.cell? ⟨Bs,0,none⟩=some v:=by
 rw [← hc];unfold World.cell?;rw [h.2]
theorem Kq.put{n₀ Bs:Nat}{w:World}(hn:n₀≤w.heap.size)(hb:Bs < w.heap.size)(W:World)(l:Nat)(o o':Obj)(hl:w.heap.size≤l)(h:W.heap[l]?=some o)(h1:o.isCells=false)(h2:o.isWalk=false):Kq n₀ Bs W (W.putObj l o'):=
 ⟨belowK_b hn W l o o' hl h h1 h2,(belowK_b (n₀:=Bs+1) (w:=w) (by omega) W l o o' hl h h1 h2).block Bs (by omega)⟩
set_option maxRecDepth 100000 in
set_option maxHeartbeats 2000000 in
theorem aUk(F:Fence)(n:Nat)(h7:F.fn 103)(hro:F.round=none)(hn:1≤n)(l Bs n₀ b off len cap:Nat)(zs:List Int)(hreach:len≤1000000)(hb:b < n₀)(J Jx:List (Int×Int)→World→Prop)
  (hY:∀ pre x W,J pre W→pre.length < len→YieldAt F (n-1) Tryz.prog l #[.int .i64 x.1,.int .u8 x.2] W fun e W'=>
   (e=.returned (.bool true)∧J (pre++[x]) W'∧Kq n₀ Bs W W')∨(e=.returned (.bool false)∧Jx (pre++[x]) W'))
  (W:World) (hBs:W.cell? ⟨Bs,0,none⟩=some (.slice (some ⟨b,off,none⟩) len cap))
  (hc:∀ j,j < len→W.cell? ⟨b,off+j,none⟩=some (.int .u8 (zs[j]?.getD 0))) (h0:J [] W) :
  CallsIn F n Tryz.prog 103 #[.func (.yield l) #[] #[],.pointer (some ⟨Bs,0,none⟩)] W fun e W'=>(∃ v,e=.returned v) ∧
   ((∃ ys,ys=upto (bk zs len) len∧J ys W')∨(∃ pre,(∃ k,k≤len∧pre=upto (bk zs len) k)∧Jx pre W')):=by
 refine callsIn_of_wp Tryz.func103 rfl h7 ?_ hro
 simp only [Tryz.ntmps103,List.size_toArray,List.length_cons,List.length_nil,Nat.reduceAdd,Nat.reduceSub,Array.replicate_succ,Array.replicate_zero,List.push_toArray,List.append_toArray,List.nil_append,List.cons_append]
 gi_wp2
 gi_loopw [3] (fun i wr=>∃ m:Nat,m≤len∧i=.int .i64 ((m:Int)-1)∧J (upto (bk zs len) (len-m)) wr∧Kq n₀ Bs W wr)
  (fun i _=>(intOf i+1).toNat)
 case atStart=>exact⟨len,Nat.le_refl _,by simp [Go.IntWalk.wrap64_in ((len:Int)-1) (by omega)],by rw [Nat.sub_self];exact h0,Kq.refl _ _ _⟩
 case round=>
  obtain⟨m,hm,rfl,hJs,hnx⟩:=hrel
  have hBx:=hnx.box hBs
  cases m with
  | zero=>
   gi_wp2
   go_end0
   exact⟨⟨_,rfl⟩,.inl ⟨_,rfl,by simpa using hJs⟩⟩
  | succ m=>
   have hcx:=(hnx.1.cell (p:=⟨b,off+m,none⟩) hb).trans (hc m (by omega))
   have ek:bk zs len (len-(m+1))=((m:Int),zs[m]?.getD 0):=by
    simp only [bk,show len-1-(len-(m+1))=m by omega]
   have e1:((m+1:Nat):Int)-1=(m:Int):=by omega
   rw [e1]
   obtain⟨fn,tmps,assign,body,hy,hR⟩:=hY _ ((m:Int),zs[m]?.getD 0) wr hJs (by rw [azH];omega)
   dsimp only at hy
   gi_wp2
   refine hR.mono ?_
   rintro e W3 (⟨rfl,hJ3,hk3⟩ | ⟨rfl,hJx3⟩)
   ·gi_wp2
    go_roundw
    case rel=>exact⟨m,by omega,by simp [Go.IntWalk.wrap64_in ((m:Int)-1) (by omega)],by rw [show len-m=len-(m+1)+1 by omega,upto_succ,ek];exact hJ3,hnx.trans hk3⟩
    case measure=>simp [intOf,Go.IntWalk.wrap64_in ((m:Int)-1) (by omega)]
   ·gi_wp2
    refine bodyPost_ret (results_none rfl _ _ _) rfl ?_
    exact⟨⟨_,rfl⟩,.inr ⟨_,⟨len-(m+1)+1,by omega,by rw [upto_succ,ek]⟩,hJx3⟩⟩
set_option maxHeartbeats 1000000 in
theorem a7A(F:Fence)(n:Nat)(h6:F.fn 95)(hro:F.round=none)(a:Option Addr)(len cap:Nat)(w:World):
  CallsIn F n Tryz.prog 95 #[.slice a len cap] w fun e w'=>e=.returned (.func (.func 103) #[] #[.pointer (some ⟨w.heap.size,0,none⟩)])∧w'=w.alloc (.cells #[.slice a len cap] 84):=by
 refine callsIn_of_wp Tryz.func95 rfl h6 ?_ hro
 simp only [Tryz.ntmps95,List.size_toArray,List.length_cons,List.length_nil,Nat.reduceAdd,Nat.reduceSub,Array.replicate_succ,Array.replicate_zero,List.push_toArray,List.append_toArray,List.nil_append,List.cons_append]
 gi_wp2
 go_ret
 exact⟨rfl,rfl⟩
theorem aEg(F:Fence)(n:Nat)(h7:F.fn 103)(hro:F.round=none)(hn:1≤n)(Bs n₀ b off cap:Nat)(zs:List Int)(hreach:zs.length≤1000000)(w:World)(hBs:Bs < w.heap.size)(hn₀:n₀≤w.heap.size)(hb:b < n₀)
  (hc:w.cell? ⟨Bs,0,none⟩=some (.slice (some ⟨b,off,none⟩) zs.length cap)) (hcs:∀ j,j < zs.length→w.cell? ⟨b,off+j,none⟩=some (.int .u8 (zs[j]?.getD 0))) :
  SeqStopsK F n Tryz.prog 103 #[.pointer (some ⟨Bs,0,none⟩)] (fun x:Int×Int=>#[Value.int .i64 x.1,Value.int .u8 x.2]) (Kq n₀ Bs) (fun ys=>ys=upto (bk zs zs.length) zs.length)
   (fun pre=>∃ k,k≤zs.length∧pre=upto (bk zs zs.length) k) zs.length w:=fun l J Jx W hW _ _ hY h0=>by
 have hc':=(hW.cell (p:=⟨Bs,0,none⟩) hBs).trans hc
 exact aUk F n h7 hro hn l Bs n₀ b off zs.length cap zs hreach hb J Jx hY W hc' (fun j hj=>(hW.cell (p:=⟨b,off+j,none⟩) (by simp;omega)).trans (hcs j hj)) h0
def more(n x:Int):Int:=bits BinOp.or IntKind.i64 (wrap64 (n*256)) (wrap64 x)
def acc(pre:List (Int×Int)):Int:=pre.foldl (fun n x=>more n x.2) 0
theorem acc_snoc(pre:List (Int×Int))(x:Int×Int):acc (pre++[x])=bits BinOp.or IntKind.i64 (wrap64 (acc pre*256)) (wrap64 x.2):=by simp [acc,more]
set_option maxRecDepth 100000 in
set_option maxHeartbeats 2000000 in
theorem get_in(F:Fence)(n:Nat)(h3:F.fn 76)(h5:F.fn 95)(h7:F.fn 103)(hro:F.round=none)(hn:3≤n)(b off cap:Nat)(zs:List Int)(hz:∀ x∈zs,0≤x∧x < 256)(hreach:zs.length≤4)(w:World)(hb:b < w.heap.size)
  (hcs:∀ j,j < zs.length→w.cell? ⟨b,off+j,none⟩=some (.int .u8 (zs[j]?.getD 0))) :
  CallsIn F n Tryz.prog 76 #[.slice (some ⟨b,off,none⟩) zs.length cap] w fun e W'=>e=.returned (.int .i64 (acc (upto (bk zs zs.length) zs.length)))∧Below w.heap.size w W':=by
 have h1:1≤n:=by omega
 refine callsIn_of_wp_marks Tryz.func76 rfl h3 ?_ hro
 simp only [Tryz.ntmps76,List.size_toArray,List.length_cons,List.length_nil,Nat.reduceAdd,Nat.reduceSub,Array.replicate_succ,Array.replicate_zero,List.push_toArray,List.append_toArray,List.nil_append,List.cons_append]
 gi_wp2_with (gi_at_call 95;refine(a7A F (n-1) h5 hro _ _ _ _).mono ?_;rintro e w' ⟨rfl,rfl⟩)
 have bS:=Boxed.new w 3 (.int .i64 0)
 have bN:=Boxed.new (w.alloc (.cells #[.int .i64 0] 3)) 84 (.slice (some ⟨b,off,none⟩) zs.length cap)
 rw [World.size_alloc] at bN
 have hB0:Below w.heap.size w ((w.alloc (.cells #[.int .i64 0] 3)).alloc (.cells #[.slice (some ⟨b,off,none⟩) zs.length cap] 84)):=((Below.refl _ w).alloc (Nat.le_refl _) _).alloc (by simp) _
 refine wpIn_rangeFunc_ownG hro h1 (gf:=103) (lb:=#[.pointer (some ⟨w.heap.size+1,0,none⟩)]) rfl h7 (enters_of Tryz.func103 (by kernel_rfl) rfl)
  (aEg F (n-1) h7 hro (by omega) (w.heap.size+1) w.heap.size b off cap zs (by omega) _ (by simp) (by simp;omega) hb bN.cell (fun j hj=>(hB0.cell (p:=⟨b,off+j,none⟩) hb).trans (hcs j hj))) Kq.trans (Kq.put (by simp;omega) (by simp)) (Below.refl _ _) (fun _=>rfl)
  (fun pre W=>(W.cell? ⟨w.heap.size,0,none⟩=some (.int .i64 (acc pre))∧W.frozen? ⟨w.heap.size,0,none⟩=false)∧Below w.heap.size w W)
  (fun _ _ _=>False)
  (OwnFrom.and (Own.from (fun s A B row hs hg hr=>⟨cell_kept hs.1 hg hr,(frozen_kept hs.1 hg hr).trans hs.2⟩) _) (ownFrom_below (Nat.le_refl _) (by simp;omega)))
  (fun _ _ _ _ _ hs _ _=>hs)
  ⟨⟨(bS.alloc _).cell,(bS.alloc _).frozen⟩,hB0⟩
  (fun x=>{ tmps:=#[.slice (some ⟨b,off,none⟩) zs.length cap,undef,.int .i64 0,.pointer (some ⟨w.heap.size,0,none⟩),undef,.int .u8 x.2,.slice (some ⟨b,off,none⟩) zs.length cap,.func (.func 103) #[] #[.pointer (some ⟨w.heap.size+1,0,none⟩)],.int .i64 x.1,.int .u8 x.2,undef,undef,undef,undef,undef,undef],defers:=[] }) ?assign ?body ?done ?stop
 case assign=>
  intro l x W K hK
  gi_wp2
  exact hK
 case body=>
  rintro l pre x W ⟨⟨hc,hf⟩,hB⟩ hlt
  gi_wp2
  exact⟨(KeepsOthers.setCell _ _ _).from _,⟨(Below.refl w.heap.size W).setCell (p:=⟨w.heap.size,0,none⟩) (Nat.le_refl _) _,Below.heap_setCell _ _ _ _ (by simp)⟩,⟨by rw [acc_snoc];exact World.cell?_setCell_same' _ _ _ (by rw [hc];rfl),by rw [World.frozen?_setCell];exact hf⟩,hB.setCell (p:=⟨w.heap.size,0,none⟩) (Nat.le_refl _) _⟩
 case done=>
  rintro D ys W hD rfl ⟨⟨hc,_⟩,hB⟩ hK
  gi_wp2
  refine⟨by simp,.inl ⟨_,_,rfl,run_takeDeferred hK,?_⟩⟩
  exact⟨_,results_tmp rfl _ _ _,rfl,hB.trans (belowK_b (w:=w) (Nat.le_refl _) W D _ _ (by simp at hD;omega) hK rfl rfl)⟩
 case stop=>
  rintro D c pre W _ _ h _
  exact h.elim
end Jn
end Go.Proofs
end
section
/- What slices of bytes make as numbers: the kit's words turned into the machine's. -/
namespace Go.Am
open Go Go.Proofs Go.RowKit
theorem a7B{n x:Int}(h0:0≤n)(h1:n < 72057594037927)(h2:0≤x)(h3:x < 256):Jn.more n x=256*n+x:=by
 obtain⟨a,rfl⟩:=Int.eq_ofNat_of_zero_le h0
 obtain⟨b,rfl⟩:=Int.eq_ofNat_of_zero_le h2
 unfold Jn.more
 rw [Go.IntWalk.wrap64_in _ (by omega),Go.IntWalk.wrap64_in _ (by omega)]
 show IntKind.i64.wrap (((BitVec.ofInt 64 ((a:Int)*256)) ||| (BitVec.ofInt 64 (b:Int))).toNat:Int)=_
 rw [BitVec.toNat_or,BitVec.toNat_ofInt,BitVec.toNat_ofInt]
 have e1:((a:Int)*256%((2^64:Nat):Int)).toNat=a <<< 8:=by rw [Nat.shiftLeft_eq];omega
 have e2:((b:Int)%((2^64:Nat):Int)).toNat=b:=by omega
 rw [e1,e2,← Nat.shiftLeft_add_eq_or_of_lt (show b < 2^8 by omega),Nat.shiftLeft_eq,bM (by omega) (by omega)]
 omega
theorem aBn{zs:List Int}(hz:∀ x∈zs,0≤x∧x < 256)(hl:zs.length≤4):∀ k,k≤zs.length→Jn.acc (Jn.upto (Jn.bk zs zs.length) k)=Jr.num (zs.drop (zs.length-k))
 | 0,_=>by rw [Nat.sub_zero,List.drop_length];rfl
 | k+1,hk=>by
  have ih:=aBn hz hl k (by omega)
  have hd:zs.drop (zs.length-(k+1))=(zs[zs.length-1-k]?.getD 0) :: zs.drop (zs.length-k):=by
   rw [show zs.length-(k+1)=zs.length-1-k by omega,List.drop_eq_getElem_cons (by omega),show zs.length-1-k+1=zs.length-k by omega,List.getElem?_eq_getElem (by omega)];rfl
  have hx:0≤zs[zs.length-1-k]?.getD 0∧zs[zs.length-1-k]?.getD 0 < 256:=by
   rw [List.getElem?_eq_getElem (by omega)];exact hz _ (List.getElem_mem _)
  obtain⟨n1,n2⟩:=Jr.num_bound (zs.drop (zs.length-k)) fun x hx=>hz x (List.mem_of_mem_drop hx)
  have hp:(256:Int)^(zs.drop (zs.length-k)).length≤256^4:=by
   have:((256^(zs.drop (zs.length-k)).length:Nat):Int)≤((256^4:Nat):Int):=Int.ofNat_le.2 (Nat.pow_le_pow_right (by decide) (by rw [List.length_drop];omega))
   simpa using this
  rw [Jn.upto_succ,Jn.acc_snoc,hd,Jr.num_cons,← ih]
  exact a7B (by rw [ih];exact n1) (by rw [ih];omega) hx.1 hx.2
def r76:eP:=fun X H=>match X,H with
 | [(.vs (.rI .u8 a0) 0 1)],[]=>some ((decide (0 < a0.length∧a0.length≤4)),(.int .i64 (Jr.num a0)),[])
 | _,_=>none
theorem c76{G:Nat→Option AV}:CallOk Tryz.prog G 76 r76 where
 there:=⟨_,Tryz.func76,by kernel_rfl,by kernel_rfl⟩
 does:=by
  intro A H r H' hr U w ρ args hU hs hA
  unfold r76 at hr
  split at hr <;> try contradiction
  rename_i zs
  simp only [Option.some.injEq,Prod.mk.injEq,decide_eq_true_eq] at hr
  obtain⟨⟨hp0,hp4⟩,rfl,rfl⟩:=hr
  match args,hA with
  | ⟨[x]⟩,hA=>
   have hx:=hA.1
   cases hx with
   | vs0=>
    have e:(AV.rI .u8 zs).size=0:=by assumption
    have e2:zs.length=0:=e
    omega
   | vs _ _ _ l cap blk base vals hleaf h00 hn hpos hk hcap hm hW hc hrep=>
    have hn':zs.length=l:=by have e:(AV.rI .u8 zs).size=zs.length:=rfl;omega
    subst hn'
    have hv:∀ j,j < zs.length→vals j=.int .u8 (zs[j]?.getD 0)∧0≤zs[j]?.getD 0∧zs[j]?.getD 0 < 256:=fun j hj=>by
     have this:Rep w (Wr U ρ (hst []).heap) ρ (.int .u8 (zs.getD j 0)) (vals j):=hrep j (by omega)
     rw [List.getD_eq_getElem?_getD] at this
     generalize vals j=v at this
     cases this with | int _ _ hk=>exact⟨rfl,by simpa [IntKind.has,IntKind.min,IntKind.max,IntKind.signed,IntKind.bits] using hk.1,by have:=hk.2;simp [IntKind.max,IntKind.signed,IntKind.bits] at this;omega⟩
    have hz:∀ x∈zs,0≤x∧x < 256:=fun x hx=>by
     obtain⟨j,hj,rfl⟩:=List.mem_iff_getElem.1 hx
     have:=(hv j hj).2
     rwa [List.getElem?_eq_getElem hj] at this
    have hcs:∀ j,j < zs.length→w.cell? ⟨blk,base+j,none⟩=some (.int .u8 (zs[j]?.getD 0)):=fun j hj=>by rw [hc j (by omega),(hv j hj).1]
    have hblk:blk < w.heap.size:=by
     have:=hcs 0 (by omega)
     unfold World.cell? at this
     by_cases hb:blk < w.heap.size
     ·exact hb
     ·have h2:w.heap[blk]?=none:=Array.getElem?_eq_none (by omega)
      simp only [h2] at this;cases this
    have cG:=Jn.get_in Fence.wide 3 trivial trivial trivial rfl (by omega) blk base cap zs hz hp4 w hblk hcs
    refine(callsIn_wide.1 cG).mono ?_
    rintro e w' ⟨rfl,hB⟩
    obtain⟨n1,n2⟩:=Jr.num_bound zs hz
    have hN:=aBn hz hp4 zs.length (Nat.le_refl _)
    rw [Nat.sub_self,List.drop_zero] at hN
    have hp:(256:Int)^zs.length≤256^4:=by
     have:((256^zs.length:Nat):Int)≤((256^4:Nat):Int):=Int.ofNat_le.2 (Nat.pow_le_pow_right (by decide) hp4)
     simpa using this
    refine⟨_,ρ,rfl,hs.below hB,?_⟩
    rw [hN]
    exact .int .i64 _ (by unfold IntKind.has;simp [IntKind.min,IntKind.max,IntKind.signed,IntKind.bits];omega)
end Go.Am
end
section
namespace Go.Am
open Go Go.Proofs
def bdR:List hI:=[(75,[some 5],r75),(76,[some 5],r76),(77,[some 5,some 5],r77)]
def V45:Env:=dL fP dM bdR
noncomputable abbrev bdS:=ij V45 none (Tryz.f45).results.toList
theorem bdT:EOk Tryz.prog V45:=bL (by exact⟨c75,c76,c77,trivial⟩)
def bdU(F:Nat):Cuts:={ F:=F,at_:=fun _=>none,join:=fun _=>none }
abbrev bdV(F n:Nat){σ:Type}(e:σ→St)(K:Ex→St→Rz)(N:σ→Rz):=Qe V45 (bdU F) (bp Tryz.f45 n) e K N
def a83:Li→St:=fun a=>hS [(0,.str a)] [] 79 0
def aEh(F:Nat):Li→Rz:=fun a=>(cond ((↑a.length:Int) != (64:Int)) (some ((.agg 5 (.segs (.cons 1 (.one (.int .i64 0)) (.cons 1 (.one (.int .i64 0)) (.cons 1 (.one (.int .i64 0)) (.cons 1 (.one (.str [])) (.cons 1 (.one (.bool false)) .nil))))))),[])) (cond (decide (64≤a.length)) (cond (decide (0 < ((a.take 64).take 4).length∧((a.take 64).take 4).length≤4)) (cond (decide (0 < (((a.take 64).drop 4).take 2).length∧(((a.take 64).drop 4).take 2).length≤4)) (cond (decide (0 < (((a.take 64).drop 6).take 2).length∧(((a.take 64).drop 6).take 2).length≤4)) (cond (((decide (0≤(IntKind.i64.wrap ((48:Int)-(if (48:Int) < (Jr.num (((a.take 64).drop 6).take 2)) then (48:Int) else (Jr.num (((a.take 64).drop 6).take 2)))))))&&(decide ((IntKind.i64.wrap ((48:Int)-(if (48:Int) < (Jr.num (((a.take 64).drop 6).take 2)) then (48:Int) else (Jr.num (((a.take 64).drop 6).take 2)))))≤(IntKind.i64.wrap ((48:Int)-(if (48:Int) < (Jr.num (((a.take 64).drop 6).take 2)) then (48:Int) else (Jr.num (((a.take 64).drop 6).take 2))))))))&&(decide ((IntKind.i64.wrap ((48:Int)-(if (48:Int) < (Jr.num (((a.take 64).drop 6).take 2)) then (48:Int) else (Jr.num (((a.take 64).drop 6).take 2))))) < 1073741824))) (cond (!(((Sha.hash ((a.take 64).take 56)).take 8)==(((a.take 64).drop 56).take 8))) (some ((.agg 5 (.segs (.cons 1 (.one (.int .i64 0)) (.cons 1 (.one (.int .i64 0)) (.cons 1 (.one (.int .i64 0)) (.cons 1 (.one (.str [])) (.cons 1 (.one (.bool false)) .nil))))))),[])) (cond ((Jr.num ((a.take 64).take 4))==(0:Int)) (some ((.agg 5 (.segs (.cons 1 (.one (.int .i64 0)) (.cons 1 (.one (.int .i64 0)) (.cons 1 (.one (.int .i64 0)) (.cons 1 (.one (.str [])) (.cons 1 (.one (.bool false)) .nil))))))),[])) (cond (decide ((Jr.num ((a.take 64).take 4)) > (4096:Int))) (some ((.agg 5 (.segs (.cons 1 (.one (.int .i64 0)) (.cons 1 (.one (.int .i64 0)) (.cons 1 (.one (.int .i64 0)) (.cons 1 (.one (.str [])) (.cons 1 (.one (.bool false)) .nil))))))),[])) (cond (decide ((IntKind.i64.wrap ((IntKind.i64.wrap ((48:Int)*(Jr.num (((a.take 64).drop 4).take 2))))+(Jr.num (((a.take 64).drop 6).take 2)))) > (8000:Int))) (some ((.agg 5 (.segs (.cons 1 (.one (.int .i64 0)) (.cons 1 (.one (.int .i64 0)) (.cons 1 (.one (.int .i64 0)) (.cons 1 (.one (.str [])) (.cons 1 (.one (.bool false)) .nil))))))),[])) (cond ((Jr.num (((a.take 64).drop 6).take 2))==(0:Int)) (cond (decide ((Jr.num (((a.take 64).drop 4).take 2)) > (0:Int))) (some ((.agg 5 (.segs (.cons 1 (.one (.int .i64 0)) (.cons 1 (.one (.int .i64 0)) (.cons 1 (.one (.int .i64 0)) (.cons 1 (.one (.str [])) (.cons 1 (.one (.bool false)) .nil))))))),[])) (cond (((decide (0≤(IntKind.i64.wrap ((8:Int)+(if (48:Int) < (Jr.num (((a.take 64).drop 6).take 2)) then (48:Int) else (Jr.num (((a.take 64).drop 6).take 2)))))))&&(decide ((IntKind.i64.wrap ((8:Int)+(if (48:Int) < (Jr.num (((a.take 64).drop 6).take 2)) then (48:Int) else (Jr.num (((a.take 64).drop 6).take 2)))))≤(56:Int))))&&true) (cond (!((((a.take 64).drop (Int.toNat (IntKind.i64.wrap ((8:Int)+(if (48:Int) < (Jr.num (((a.take 64).drop 6).take 2)) then (48:Int) else (Jr.num (((a.take 64).drop 6).take 2))))))).take (56-(Int.toNat (IntKind.i64.wrap ((8:Int)+(if (48:Int) < (Jr.num (((a.take 64).drop 6).take 2)) then (48:Int) else (Jr.num (((a.take 64).drop 6).take 2))))))))==(List.replicate (Int.toNat (IntKind.i64.wrap ((48:Int)-(if (48:Int) < (Jr.num (((a.take 64).drop 6).take 2)) then (48:Int) else (Jr.num (((a.take 64).drop 6).take 2)))))) 0))) (some ((.agg 5 (.segs (.cons 1 (.one (.int .i64 0)) (.cons 1 (.one (.int .i64 0)) (.cons 1 (.one (.int .i64 0)) (.cons 1 (.one (.str [])) (.cons 1 (.one (.bool false)) .nil))))))),[])) (cond ((decide ((8:Int)≤(IntKind.i64.wrap ((8:Int)+(if (48:Int) < (Jr.num (((a.take 64).drop 6).take 2)) then (48:Int) else (Jr.num (((a.take 64).drop 6).take 2)))))))&&(decide ((IntKind.i64.wrap ((8:Int)+(if (48:Int) < (Jr.num (((a.take 64).drop 6).take 2)) then (48:Int) else (Jr.num (((a.take 64).drop 6).take 2)))))≤(↑a.length:Int)))) (some ((.agg 5 (.segs (.cons 1 (.one (.int .i64 (Jr.num ((a.take 64).take 4)))) (.cons 1 (.one (.int .i64 (Jr.num (((a.take 64).drop 4).take 2)))) (.cons 1 (.one (.int .i64 (Jr.num (((a.take 64).drop 6).take 2)))) (.cons 1 (.one (.str ((a.take (Int.toNat (IntKind.i64.wrap ((8:Int)+(if (48:Int) < (Jr.num (((a.take 64).drop 6).take 2)) then (48:Int) else (Jr.num (((a.take 64).drop 6).take 2))))))).drop 8))) (.cons 1 (.one (.bool true)) .nil))))))),[])) none)) none)) (cond (((decide (0≤(IntKind.i64.wrap ((8:Int)+(if (48:Int) < (Jr.num (((a.take 64).drop 6).take 2)) then (48:Int) else (Jr.num (((a.take 64).drop 6).take 2)))))))&&(decide ((IntKind.i64.wrap ((8:Int)+(if (48:Int) < (Jr.num (((a.take 64).drop 6).take 2)) then (48:Int) else (Jr.num (((a.take 64).drop 6).take 2)))))≤(56:Int))))&&true) (cond (!((((a.take 64).drop (Int.toNat (IntKind.i64.wrap ((8:Int)+(if (48:Int) < (Jr.num (((a.take 64).drop 6).take 2)) then (48:Int) else (Jr.num (((a.take 64).drop 6).take 2))))))).take (56-(Int.toNat (IntKind.i64.wrap ((8:Int)+(if (48:Int) < (Jr.num (((a.take 64).drop 6).take 2)) then (48:Int) else (Jr.num (((a.take 64).drop 6).take 2))))))))==(List.replicate (Int.toNat (IntKind.i64.wrap ((48:Int)-(if (48:Int) < (Jr.num (((a.take 64).drop 6).take 2)) then (48:Int) else (Jr.num (((a.take 64).drop 6).take 2)))))) 0))) (some ((.agg 5 (.segs (.cons 1 (.one (.int .i64 0)) (.cons 1 (.one (.int .i64 0)) (.cons 1 (.one (.int .i64 0)) (.cons 1 (.one (.str [])) (.cons 1 (.one (.bool false)) .nil))))))),[])) (cond ((decide ((8:Int)≤(IntKind.i64.wrap ((8:Int)+(if (48:Int) < (Jr.num (((a.take 64).drop 6).take 2)) then (48:Int) else (Jr.num (((a.take 64).drop 6).take 2)))))))&&(decide ((IntKind.i64.wrap ((8:Int)+(if (48:Int) < (Jr.num (((a.take 64).drop 6).take 2)) then (48:Int) else (Jr.num (((a.take 64).drop 6).take 2)))))≤(↑a.length:Int)))) (some ((.agg 5 (.segs (.cons 1 (.one (.int .i64 (Jr.num ((a.take 64).take 4)))) (.cons 1 (.one (.int .i64 (Jr.num (((a.take 64).drop 4).take 2)))) (.cons 1 (.one (.int .i64 (Jr.num (((a.take 64).drop 6).take 2)))) (.cons 1 (.one (.str ((a.take (Int.toNat (IntKind.i64.wrap ((8:Int)+(if (48:Int) < (Jr.num (((a.take 64).drop 6).take 2)) then (48:Int) else (Jr.num (((a.take 64).drop 6).take 2))))))).drop 8))) (.cons 1 (.one (.bool true)) .nil))))))),[])) none)) none)))))) none) none) none) none) none))
theorem aUl F:bdV F 1 a83 bdS (aEh F):=fun _=>by kernel_rfl
def f45(F:Nat):Li→Rz:=aEh F
def r45:eP:=fun X H=>match X,H with
 | [(.str a0)],[]=>some (true,(.agg 5 (.segs (.cons 1 (.one (.int .i64 (Jr.unpack a0).number)) (.cons 1 (.one (.int .i64 (Jr.unpack a0).part)) (.cons 1 (.one (.int .i64 (Jr.unpack a0).left)) (.cons 1 (.one (.str (Jr.unpack a0).payload)) (.cons 1 (.one (.bool (Jr.unpack a0).ok)) .nil))))))),[])
 | _,_=>none
theorem s45(a0:Li)(h0:okV (.str a0)):∃ F,f45 F a0=some ((.agg 5 (.segs (.cons 1 (.one (.int .i64 (Jr.unpack a0).number)) (.cons 1 (.one (.int .i64 (Jr.unpack a0).part)) (.cons 1 (.one (.int .i64 (Jr.unpack a0).left)) (.cons 1 (.one (.str (Jr.unpack a0).payload)) (.cons 1 (.one (.bool (Jr.unpack a0).ok)) .nil))))))),[]):=by
 refine⟨0,?_⟩
 simp only [f45,aEh,JX,ant]
 by_cases hl:a0.length=64
 case neg=>
  rw [aK (by omega),Jr.unpack_not (.inl hl)]
  rfl
 have e64:a0.take 64=a0:=List.take_of_length_le (by omega)
 have hb:∀ x∈a0,0≤x∧x < 256:=fun x hx=>by have:=h0.2 x hx;omega
 rw [ba (by omega),aK (by omega)]
 simp only [e64]
 have l4:(a0.take 4).length=4:=by rw [List.length_take];omega
 have l2:((a0.drop 4).take 2).length=2:=by rw [List.length_take,List.length_drop];omega
 have l2':((a0.drop 6).take 2).length=2:=by rw [List.length_take,List.length_drop];omega
 obtain⟨n1,n2⟩:=Jr.num_bound (a0.take 4) fun x hx=>hb x (List.mem_of_mem_take hx)
 obtain⟨p1,p2⟩:=Jr.num_bound ((a0.drop 4).take 2) fun x hx=>hb x (List.mem_of_mem_drop (List.mem_of_mem_take hx))
 obtain⟨q1,q2⟩:=Jr.num_bound ((a0.drop 6).take 2) fun x hx=>hb x (List.mem_of_mem_drop (List.mem_of_mem_take hx))
 rw [l4,show(256:Int)^4=4294967296 from rfl] at n2
 rw [l2,show(256:Int)^2=65536 from rfl] at p2
 rw [l2',show(256:Int)^2=65536 from rfl] at q2
 have e56:(a0.drop 56).take 8=a0.drop 56:=List.take_of_length_le (by rw [List.length_drop];omega)
 have hm:(if (48:Int) < Jr.num ((a0.drop 6).take 2) then (48:Int) else Jr.num ((a0.drop 6).take 2))=(Jr.fN a0:Int):=by
  rw [Jr.fN,Jr.fLeft];split <;> omega
 have hm48:Jr.fN a0≤48:=Nat.min_le_right _ _
 simp only [hm,e56]
 rw [aK (by omega),aK (by omega),aK (by omega),bM (x:=48-(Jr.fN a0:Int)) (by omega) (by omega),bM (x:=8+(Jr.fN a0:Int)) (by omega) (by omega),bM (x:=48*Jr.num ((a0.drop 4).take 2)) (by omega) (by omega),bM (x:=48*Jr.num ((a0.drop 4).take 2)+Jr.num ((a0.drop 6).take 2)) (by omega) (by omega)]
 have t1:(48-(Jr.fN a0:Int)).toNat=48-Jr.fN a0:=by omega
 have t2:(8+(Jr.fN a0:Int)).toNat=8+Jr.fN a0:=by omega
 have t3:56-(8+Jr.fN a0)=48-Jr.fN a0:=by omega
 simp only [cH,t1,t2,t3,Bool.and_true]
 rw [aK (by omega)]
 by_cases c1:(Sha.hash (a0.take 56)).take 8=a0.drop 56
 case neg=>
  have e:(!((Sha.hash (a0.take 56)).take 8==a0.drop 56))=true:=by simpa using c1
  rw [e,cond_true,Jr.unpack_not (.inr (.inl c1))]
  rfl
 have e:(!((Sha.hash (a0.take 56)).take 8==a0.drop 56))=false:=by simp [c1]
 rw [e,cond_false]
 by_cases c2:Jr.num (a0.take 4)=0
 ·rw [aK c2,Jr.unpack_not (.inr (.inr (.inl (fun h=>by have:=h.1;rw [Jr.fNum] at this;omega))))]
  rfl
 by_cases c3:Jr.num (a0.take 4) > 4096
 ·rw [ba c2,aK c3,Jr.unpack_not (.inr (.inr (.inl (fun h=>by have:=h.2.1;rw [Jr.fNum] at this;omega))))]
  rfl
 by_cases c4:48*Jr.num ((a0.drop 4).take 2)+Jr.num ((a0.drop 6).take 2) > 8000
 ·rw [ba c2,ba c3,aK c4,Jr.unpack_not (.inr (.inr (.inl (fun h=>by have:=h.2.2.1;rw [Jr.fPart,Jr.fLeft] at this;omega))))]
  rfl
 rw [ba c2,ba c3,ba c4]
 by_cases c5:Jr.num ((a0.drop 6).take 2)=0∧Jr.num ((a0.drop 4).take 2) > 0
 ·rw [aK c5.1,aK c5.2,Jr.unpack_not (.inr (.inr (.inl (fun h=>by have:=h.2.2.2;rw [Jr.fPart,Jr.fLeft] at this;omega))))]
  rfl
 have hskip:∀ X Y:Rz,cond (decide (Jr.num ((a0.drop 6).take 2)=0)) (cond (decide (Jr.num ((a0.drop 4).take 2) > 0)) X Y) Y=Y:=fun X Y=>by
  by_cases h5:Jr.num ((a0.drop 6).take 2)=0
  ·rw [aK h5,ba (by omega)]
  ·rw [ba h5]
 rw [hskip,aK (by omega)]
 by_cases c7:(a0.drop (8+Jr.fN a0)).take (48-Jr.fN a0)=List.replicate (48-Jr.fN a0) 0
 ·have e7:(!((a0.drop (8+Jr.fN a0)).take (48-Jr.fN a0)==List.replicate (48-Jr.fN a0) 0))=false:=by simp [c7]
  rw [e7,cond_false,aK (by omega),Jr.unpack_is hl c1 ⟨by rw [Jr.fNum];omega,by rw [Jr.fNum];omega,by rw [Jr.fPart,Jr.fLeft];omega,by rw [Jr.fPart,Jr.fLeft];omega⟩ c7,List.drop_take,show 8+Jr.fN a0-8=Jr.fN a0 by omega]
  rfl
 ·have e7:(!((a0.drop (8+Jr.fN a0)).take (48-Jr.fN a0)==List.replicate (48-Jr.fN a0) 0))=true:=by simpa using c7
  rw [e7,cond_true,Jr.unpack_not (.inr (.inr (.inr c7)))]
  rfl
theorem c45:Ck 45 r45:=ck bdT Tryz.func45 (by
 intro X H r H' h hX hH
 unfold r45 at h;split at h <;> try contradiction
 ·obtain⟨hp,rfl,rfl⟩:=ik h
  obtain⟨F,hF⟩:=s45 _ (hX _ hm0)
  exact⟨_,abC (aUl F) hF⟩)
def bdW:List hI:=[(45,[none],r45)]
def V41:Env:=dL fP dM bdW
noncomputable abbrev bdX:=ij V41 none (Tryz.f41).results.toList
theorem bdY:EOk Tryz.prog V41:=bL (by exact⟨c45,trivial⟩)
def bdZ(F:Nat):Cuts:={ F:=F,at_:=fun _=>none,join:=fun _=>none }
abbrev bd0(F n:Nat){σ:Type}(e:σ→St)(K:Ex→St→Rz)(N:σ→Rz):=Qe V41 (bdZ F) (bp Tryz.f41 n) e K N
def a84:Li→St:=fun a=>hS [(0,.str a)] [] 20 0
def aEi(F:Nat):Li→Rz:=fun a=>(some ((.tup (.cons 0 (.int .i64 (Jr.unpack a).number) (.cons 0 (.int .i64 (Jr.unpack a).part) (.cons 0 (.int .i64 (Jr.unpack a).left) (.cons 0 (.str (Jr.unpack a).payload) (.cons 0 (.bool (Jr.unpack a).ok) .nil)))))),[]))
theorem aUm F:bd0 F 1 a84 bdX (aEi F):=fun _=>by kernel_rfl
def f41(F:Nat):Li→Rz:=aEi F
def r41:eP:=fun X H=>match X,H with
 | [(.str a0)],[]=>some (true,(.tup (.cons 0 (.int .i64 (Jr.unpack a0).number) (.cons 0 (.int .i64 (Jr.unpack a0).part) (.cons 0 (.int .i64 (Jr.unpack a0).left) (.cons 0 (.str (Jr.unpack a0).payload) (.cons 0 (.bool (Jr.unpack a0).ok) .nil)))))),[])
 | _,_=>none
theorem s41(a0:Li)(h0:okV (.str a0)):∃ F,f41 F a0=some ((.tup (.cons 0 (.int .i64 (Jr.unpack a0).number) (.cons 0 (.int .i64 (Jr.unpack a0).part) (.cons 0 (.int .i64 (Jr.unpack a0).left) (.cons 0 (.str (Jr.unpack a0).payload) (.cons 0 (.bool (Jr.unpack a0).ok) .nil)))))),[]):=by
 refine⟨0,?_⟩
 simp only [f41,aEi]
theorem c41:Ck 41 r41:=ck bdY Tryz.func41 (by
 intro X H r H' h hX hH
 unfold r41 at h;split at h <;> try contradiction
 ·obtain⟨hp,rfl,rfl⟩:=ik h
  obtain⟨F,hF⟩:=s41 _ (hX _ hm0)
  exact⟨_,abC (aUm F) hF⟩)
end Go.Am
end
section
namespace Go.Am
open Go Go.Proofs
abbrev a85:List (Nat×Md):=[(0,.plain),(4,.plain),(5,.own 79),(19,.plain),(20,.plain)]
abbrev zN:List (Nat×Md):=[(4,.plain),(5,.plain),(11,.plain)]
abbrev VQ:List (Nat×Md):=[(0,.plain),(4,.plain),(5,.plain)]
abbrev a86:List (Nat×Md):=[(0,.plain),(4,.plain),(5,.plain),(19,.plain),(20,.plain)]
abbrev VR:List (Nat×Md):=[(4,.plain),(5,.plain)]
abbrev YV:=Int×Int×(Dk.D)×(Jr.J)
abbrev aUn:=Nat×Int×Int×(List (List Li))×(Dk.D)×(Jr.J)
abbrev awh:=Nat×(List (List Li))×(Dk.D)×(Jr.J)
abbrev ajv:=Nat×Int×(List (List Li))×(Dk.D)×(Jr.J)
def lV9:List hI:=[(43,[none],r43),(44,[none,none],r44),(45,[none],r45),(46,[some 80],r46),(47,[some 3,none],r47)]
def V9:Env:=dL fP dM lV9
noncomputable abbrev Ej:=ij V9 none (Tryz.f9).results.toList
theorem eV9:EOk Tryz.prog V9:=bL (by exact⟨c43,c44,c45,c46,c47,trivial⟩)
def Af9(F:Nat):Cuts:={ F:=F,at_:=fun n=>match n with | 4040=>some a85 | 19024=>some zN | _=>none,join:=fun n=>match n with | 1081=>some [(0,.plain)] | 2079=>some [(0,.plain),(4,.plain)] | 3077=>some VQ | 4042=>some a86 | 18032=>some VR | 19026=>some zN | 26003=>some [(4,.plain)] | _=>none }
abbrev qf9(F n:Nat){σ:Type}(e:σ→St)(K:Ex→St→Rz)(N:σ→Rz):=Qe V9 (Af9 F) (bp Tryz.f9 n) e K N
def aYV:Ep→St:=fun (a,b,c,d,e,f)=>hS [pS 0 0 5] [dB 1 a 2 3 e f,bB b,pB c,wB d] 140 4
def aEj:(Dk.D)→St:=fun a=>hS [pS 0 0 5] [dE 1 a 2 3,bB a.blk,pB a.pend,wB a.worn] 140 4
def aEk:(Dk.D)×(Jr.J)→St:=fun (a,b)=>hS [pS 0 0 5,pS 4 4 7] [dE 1 a 2 3,bB a.blk,pB a.pend,wB a.worn,jE 0 5 5 6 7 b,iB b.nums,iB b.bad,sB b.texts] 140 4
def arc:(Dk.D)×(Jr.J)→St:=fun (a,b)=>hS [pS 0 0 5,pS 4 4 7,(5,.ns)] [dE 1 a 2 3,bB a.blk,pB a.pend,wB a.worn,jE 0 5 5 6 7 b,iB b.nums,iB b.bad,sB b.texts] 140 4
def aEl:YV→St:=fun (c,d,a,b)=>hS [pS 0 0 5,pS 4 4 7,(5,.ns),iS 19 c,iS 20 d] [dE 1 a 2 3,bB a.blk,pB a.pend,wB a.worn,jE 0 5 5 6 7 b,iB b.nums,iB b.bad,sB b.texts] 140 4
abbrev z7 a b:=(.cells (a*5) (.rT [.int .i64,.int .i64,.int .i64,.str,.bool] b) true:Blk)
def aYW:aUn→St:=fun (c,d,e,f,a,b)=>hS [pS 0 0 5,pS 4 4 7,(5,.own 5 c 5),iS 19 d,iS 20 e] [dE 1 a 2 3,bB a.blk,pB a.pend,wB a.worn,jE 0 5 6 7 8 b,z7 c f,iB b.nums,iB b.bad,sB b.texts] 140 4
def QB:awh→St:=fun (c,d,a,b)=>hS [pS 4 4 7,(5,.own 5 c 5)] [dE 1 a 2 3,bB a.blk,pB a.pend,wB a.worn,jE 0 5 6 7 8 b,z7 c d,iB b.nums,iB b.bad,sB b.texts] 140 4
def ard:ajv→St:=fun (c,d,e,a,b)=>hS [pS 4 4 7,(5,.own 5 c 5),iS 11 d] [dE 1 a 2 3,bB a.blk,pB a.pend,wB a.worn,jE 0 5 6 7 8 b,z7 c e,iB b.nums,iB b.bad,sB b.texts] 140 4
def aYX:ajv→St:=ard
def XW:(Dk.D)×(Jr.J)→St:=fun (a,b)=>hS [pS 4 4 7] [dE 1 a 2 3,bB a.blk,pB a.pend,wB a.worn,jE 0 5 5 6 7 b,iB b.nums,iB b.bad,sB b.texts] 140 4
def aEm(F:Nat)(a:(Dk.D)→Rz):Ep→Rz:=fun (b,c,d,e,f,g)=>(a (Dk.D.mk b c d e f g))
theorem a7C F Rj1:qf9 F 2 aYV (kq V9 Rj1 [(0,.plain)] Ej) (aEm F (Rj1∘aEj)):=fun _=>by kernel_rfl
def aEn(F:Nat)(a:(Dk.D)×(Jr.J)→Rz):(Dk.D)→Rz:=fun b=>(a (b,(Jr.J.mk [] [] [] (1:Int) (0:Int) false)))
theorem a7D F Rj2:qf9 F 6 aEj (kq V9 Rj2 [(0,.plain),(4,.plain)] Ej) (aEn F (Rj2∘aEk)):=fun _=>by kernel_rfl
def aEo(F:Nat)(a:(Dk.D)×(Jr.J)→Rz):(Dk.D)×(Jr.J)→Rz:=fun (b,c)=>(a (b,c))
theorem a7E F Rj3:qf9 F 14 aEk (kq V9 Rj3 VQ Ej) (aEo F (Rj3∘arc)):=fun _=>by kernel_rfl
def aEp(F:Nat)(b:YV→Rz)(d:awh→Rz):(Dk.D)×(Jr.J)→Rz:=fun (a,c)=>(b ((a.n:Int),(0:Int),a,c))
theorem a7F F Rj4 Rj5:qf9 F 60 arc (kq V9 Rj4 a86 (kq V9 Rj5 VR Ej)) (aEp F (Rj4∘aEl) (Rj5∘QB)):=fun _=>by kernel_rfl
def awi(F:Nat)(g:aUn→Rz)(h:awh→Rz):aUn→Rz:=fun (d,e,a,f,b,c)=>(cond (decide (a < e)) (cond ((Dk.read b a).2 != (0:Int)) (some ((.tup (.cons 0 .nilp (.cons 0 (.int .i64 (Dk.read b a).2) .nil))),[(dE 1 b 2 3),(bB b.blk),(pB b.pend),(wB b.worn)])) (cond (decide ((d+1) < 1073741824)) (cond ((↑(Dk.read b a).1.length:Int)==(64:Int)) (cond (decide (64≤(Dk.read b a).1.length)) (cond (!((((Dk.read b a).1.take 64):Li)==(List.replicate 64 0))) (cond (!(Jr.unpack (Dk.read b a).1).ok) (cond (!((((Dk.read b a).1.take 64):Li)==(List.replicate 64 0))) (cond (decide ((c.bad.length+1) < 1073741824)) (g ((d+1),e,(IntKind.i64.wrap (a+(1:Int))),(f++[[[(Jr.unpack (Dk.read b a).1).number],[(Jr.unpack (Dk.read b a).1).part],[(Jr.unpack (Dk.read b a).1).left],(Jr.unpack (Dk.read b a).1).payload,[(cond (Jr.unpack (Dk.read b a).1).ok 1 0)]]]),b,(Jr.J.mk c.nums c.texts (c.bad++[a]) (if (IntKind.i64.wrap ((Jr.unpack (Dk.read b a).1).number+(1:Int))) > c.next then (IntKind.i64.wrap ((Jr.unpack (Dk.read b a).1).number+(1:Int))) else c.next) (IntKind.i64.wrap (a+(1:Int))) c.closed))) none) (g ((d+1),e,(IntKind.i64.wrap (a+(1:Int))),(f++[[[(Jr.unpack (Dk.read b a).1).number],[(Jr.unpack (Dk.read b a).1).part],[(Jr.unpack (Dk.read b a).1).left],(Jr.unpack (Dk.read b a).1).payload,[(cond (Jr.unpack (Dk.read b a).1).ok 1 0)]]]),b,(Jr.J.mk c.nums c.texts c.bad (if (IntKind.i64.wrap ((Jr.unpack (Dk.read b a).1).number+(1:Int))) > c.next then (IntKind.i64.wrap ((Jr.unpack (Dk.read b a).1).number+(1:Int))) else c.next) (IntKind.i64.wrap (a+(1:Int))) c.closed)))) (g ((d+1),e,(IntKind.i64.wrap (a+(1:Int))),(f++[[[(Jr.unpack (Dk.read b a).1).number],[(Jr.unpack (Dk.read b a).1).part],[(Jr.unpack (Dk.read b a).1).left],(Jr.unpack (Dk.read b a).1).payload,[(cond (Jr.unpack (Dk.read b a).1).ok 1 0)]]]),b,(Jr.J.mk c.nums c.texts c.bad (if (IntKind.i64.wrap ((Jr.unpack (Dk.read b a).1).number+(1:Int))) > c.next then (IntKind.i64.wrap ((Jr.unpack (Dk.read b a).1).number+(1:Int))) else c.next) (IntKind.i64.wrap (a+(1:Int))) c.closed)))) (cond (!(Jr.unpack (Dk.read b a).1).ok) (cond (!((((Dk.read b a).1.take 64):Li)==(List.replicate 64 0))) (cond (decide ((c.bad.length+1) < 1073741824)) (g ((d+1),e,(IntKind.i64.wrap (a+(1:Int))),(f++[[[(Jr.unpack (Dk.read b a).1).number],[(Jr.unpack (Dk.read b a).1).part],[(Jr.unpack (Dk.read b a).1).left],(Jr.unpack (Dk.read b a).1).payload,[(cond (Jr.unpack (Dk.read b a).1).ok 1 0)]]]),b,(Jr.J.mk c.nums c.texts (c.bad++[a]) (if (IntKind.i64.wrap ((Jr.unpack (Dk.read b a).1).number+(1:Int))) > c.next then (IntKind.i64.wrap ((Jr.unpack (Dk.read b a).1).number+(1:Int))) else c.next) c.fin c.closed))) none) (g ((d+1),e,(IntKind.i64.wrap (a+(1:Int))),(f++[[[(Jr.unpack (Dk.read b a).1).number],[(Jr.unpack (Dk.read b a).1).part],[(Jr.unpack (Dk.read b a).1).left],(Jr.unpack (Dk.read b a).1).payload,[(cond (Jr.unpack (Dk.read b a).1).ok 1 0)]]]),b,(Jr.J.mk c.nums c.texts c.bad (if (IntKind.i64.wrap ((Jr.unpack (Dk.read b a).1).number+(1:Int))) > c.next then (IntKind.i64.wrap ((Jr.unpack (Dk.read b a).1).number+(1:Int))) else c.next) c.fin c.closed)))) (g ((d+1),e,(IntKind.i64.wrap (a+(1:Int))),(f++[[[(Jr.unpack (Dk.read b a).1).number],[(Jr.unpack (Dk.read b a).1).part],[(Jr.unpack (Dk.read b a).1).left],(Jr.unpack (Dk.read b a).1).payload,[(cond (Jr.unpack (Dk.read b a).1).ok 1 0)]]]),b,(Jr.J.mk c.nums c.texts c.bad (if (IntKind.i64.wrap ((Jr.unpack (Dk.read b a).1).number+(1:Int))) > c.next then (IntKind.i64.wrap ((Jr.unpack (Dk.read b a).1).number+(1:Int))) else c.next) c.fin c.closed))))) none) (cond (!(Jr.unpack (Dk.read b a).1).ok) (cond (decide ((c.bad.length+1) < 1073741824)) (g ((d+1),e,(IntKind.i64.wrap (a+(1:Int))),(f++[[[(Jr.unpack (Dk.read b a).1).number],[(Jr.unpack (Dk.read b a).1).part],[(Jr.unpack (Dk.read b a).1).left],(Jr.unpack (Dk.read b a).1).payload,[(cond (Jr.unpack (Dk.read b a).1).ok 1 0)]]]),b,(Jr.J.mk c.nums c.texts (c.bad++[a]) (if (IntKind.i64.wrap ((Jr.unpack (Dk.read b a).1).number+(1:Int))) > c.next then (IntKind.i64.wrap ((Jr.unpack (Dk.read b a).1).number+(1:Int))) else c.next) (IntKind.i64.wrap (a+(1:Int))) c.closed))) none) (g ((d+1),e,(IntKind.i64.wrap (a+(1:Int))),(f++[[[(Jr.unpack (Dk.read b a).1).number],[(Jr.unpack (Dk.read b a).1).part],[(Jr.unpack (Dk.read b a).1).left],(Jr.unpack (Dk.read b a).1).payload,[(cond (Jr.unpack (Dk.read b a).1).ok 1 0)]]]),b,(Jr.J.mk c.nums c.texts c.bad (if (IntKind.i64.wrap ((Jr.unpack (Dk.read b a).1).number+(1:Int))) > c.next then (IntKind.i64.wrap ((Jr.unpack (Dk.read b a).1).number+(1:Int))) else c.next) (IntKind.i64.wrap (a+(1:Int))) c.closed))))) none)) (h (d,f,b,c)))
theorem a7G F Rl1 Rj5:qf9 F 244 aYW (kq V9 Rl1 a85 (aV 0 (kq V9 Rj5 VR Ej))) (awi F (Rl1∘aYW) (Rj5∘QB)):=fun _=>by kernel_rfl
def awj:YV→Nat×Int×Int×(List (List Li))×(Dk.D)×(Jr.J):=fun (a,b,c,d)=>(0,a,b,[],c,d)
def aUo(F:Nat)(a:awh→Rz):YV→Rz:=fun v=>eT (fun k=>awi F k a) F (awj v)
theorem a7H F Rj5:qf9 F 122 aEl (aV 0 (kq V9 Rj5 VR Ej)) (aUo F (Rj5∘QB)):=lpC awj (fun k=>awi F k (Rj5∘QB)) (fun Rl1=>a7G F Rl1 Rj5)
def aUp(F:Nat)(a):=aUo F a
theorem a7I F Rj5:qf9 F 61 aEl (kq V9 Rj5 VR Ej) (aUp F (Rj5∘QB)):=biC (a7H F Rj5)
def aEq(F:Nat)(a):=aEp F (aUp F a) a
theorem a7J F Rj5:qf9 F 30 arc (kq V9 Rj5 VR Ej) (aEq F (Rj5∘QB)):=sqC (fun k=>aEp F k (Rj5∘QB)) (fun Rj4=>a7F F Rj4 Rj5) (a7I F Rj5)
def aEr(F:Nat)(a:ajv→Rz)(f:(Dk.D)×(Jr.J)→Rz):awh→Rz:=fun (b,c,d,e)=>(a (b,(0:Int),c,d,e))
theorem a7K F Rj6 Rj7:qf9 F 124 QB (kq V9 Rj6 zN (kq V9 Rj7 [(4,.plain)] Ej)) (aEr F (Rj6∘ard) (Rj7∘XW)):=fun _=>by kernel_rfl
def arf(F:Nat)(f:ajv→Rz)(g:(Dk.D)×(Jr.J)→Rz):ajv→Rz:=fun (b,a,d,e,c)=>(cond (decide (a < (↑b:Int))) (cond (((decide (0≤a))&&(decide (a≤(↑b:Int))))&&(decide ((↑b:Int)≤(↑b:Int)))) (cond ((decide (0 < ((d.drop (Int.toNat a)).take (b-(Int.toNat a))).length))&&(Jr.shortR ((d.drop (Int.toNat a)).take (b-(Int.toNat a))))) (cond (!(Jr.rec ((d.drop (Int.toNat a)).take (b-(Int.toNat a)))).2.2) (f (b,(IntKind.i64.wrap (a+(1:Int))),d,e,c)) (cond ((decide (0≤a))&&(decide (a < (↑b:Int)))) (cond (!(c.nums.contains (((d.getD (Int.toNat a) []).getD 0 []).getD 0 0))) (cond ((decide (0≤a))&&(decide (a < (↑b:Int)))) (cond (decide ((c.nums.length+1) < 1073741824)) (cond (decide ((c.texts.length+1) < 1073741824)) (f (b,(IntKind.i64.wrap (a+(Jr.rec ((d.drop (Int.toNat a)).take (b-(Int.toNat a)))).2.1)),d,e,(Jr.J.mk (c.nums++[(((d.getD (Int.toNat a) []).getD 0 []).getD 0 0)]) (c.texts++[(Jr.rec ((d.drop (Int.toNat a)).take (b-(Int.toNat a)))).1]) c.bad c.next c.fin c.closed))) none) none) none) (f (b,(IntKind.i64.wrap (a+(Jr.rec ((d.drop (Int.toNat a)).take (b-(Int.toNat a)))).2.1)),d,e,c))) none)) none) none) (g (e,c)))
theorem aUq F Rl2 Rj7:qf9 F 500 aYX (kq V9 Rl2 zN (aV 2 (kq V9 Rj7 [(4,.plain)] Ej))) (arf F (Rl2∘aYX) (Rj7∘XW)):=fun _=>by kernel_rfl
def aoM:ajv→Nat×Int×(List (List Li))×(Dk.D)×(Jr.J):=fun (a,b,c,d,e)=>(a,b,c,d,e)
def aEs(F:Nat)(a:(Dk.D)×(Jr.J)→Rz):ajv→Rz:=fun v=>eT (fun k=>arf F k a) F (aoM v)
theorem aUr F Rj7:qf9 F 250 ard (aV 2 (kq V9 Rj7 [(4,.plain)] Ej)) (aEs F (Rj7∘XW)):=lpC aoM (fun k=>arf F k (Rj7∘XW)) (fun Rl2=>aUq F Rl2 Rj7)
def aEt(F:Nat)(a):=aEs F a
theorem aUs F Rj7:qf9 F 125 ard (kq V9 Rj7 [(4,.plain)] Ej) (aEt F (Rj7∘XW)):=biC (aUr F Rj7)
def arh(F:Nat)(a):=aEr F (aEt F a) a
theorem aUt F Rj7:qf9 F 62 QB (kq V9 Rj7 [(4,.plain)] Ej) (arh F (Rj7∘XW)):=sqC (fun k=>aEr F k (Rj7∘XW)) (fun Rj6=>a7K F Rj6 Rj7) (aUs F Rj7)
def aEu(F:Nat):(Dk.D)×(Jr.J)→Rz:=fun (a,b)=>(some ((.tup (.cons 0 (.ptr 4 0 7 0 0 0 7) (.cons 0 (.int .i64 0) .nil))),[(dE 1 a 2 3),(bB a.blk),(pB a.pend),(wB a.worn),(jE 0 5 5 6 7 b),(iB b.nums),(iB b.bad),(sB b.texts)]))
theorem aUu F:qf9 F 63 XW Ej (aEu F):=fun _=>by kernel_rfl
def aEv(F:Nat):=arh F (aEu F)
theorem aUv F:qf9 F 31 QB Ej (aEv F):=sqC (arh F) (fun Rj7=>aUt F Rj7) (aUu F)
def aEw(F:Nat):=aEq F (aEv F)
theorem aUw F:qf9 F 15 arc Ej (aEw F):=sqC (aEq F) (fun Rj5=>a7J F Rj5) (aUv F)
def aEx(F:Nat):=aEo F (aEw F)
theorem aUx F:qf9 F 7 aEk Ej (aEx F):=sqC (aEo F) (fun Rj3=>a7E F Rj3) (aUw F)
def aEy(F:Nat):=aEn F (aEx F)
theorem aUy F:qf9 F 3 aEj Ej (aEy F):=sqC (aEn F) (fun Rj2=>a7D F Rj2) (aUx F)
def aEz(F:Nat):=aEm F (aEy F)
theorem aUz F:qf9 F 1 aYV Ej (aEz F):=sqC (aEm F) (fun Rj1=>a7C F Rj1) (aUy F)
def f9(F:Nat):Ep→Rz:=aEz F
def r9:eP:=fun X H=>match X,H with
 | [(.ptr 0 0 5 0 0 0 5)],[(.cells 5 (.segs (.cons 1 (.one (.own 1 a0n 64)) (.cons 1 (.one (.mp 2)) (.cons 1 (.one (.mp 3)) (.cons 1 (.one (.bool a0o)) (.cons 1 (.one (.int .i64 a0l)) .nil)))))) true),(.cells z1 (.rI .u8 a0b) true),(.cells 0 (.rM .i64 0 (.arr .u8 64) a0p) true),(.cells 0 (.rM .i64 0 .bool a0w) true)]=>some ((Dk.fine (Dk.D.mk a0n a0b a0p a0w a0o a0l))&&(!(Dk.D.mk a0n a0b a0p a0w a0o a0l).off),(.tup (.cons 0 (.ptr 4 0 7 0 0 0 7) (.cons 0 (.int .i64 0) .nil))),[(dE 1 (Dk.D.mk a0n a0b a0p a0w a0o a0l) 2 3),(.cells (Dk.D.mk a0n a0b a0p a0w a0o a0l).blk.length (.rI .u8 (Dk.D.mk a0n a0b a0p a0w a0o a0l).blk) true),(pB (Dk.D.mk a0n a0b a0p a0w a0o a0l).pend),(wB (Dk.D.mk a0n a0b a0p a0w a0o a0l).worn),(jE 0 5 5 6 7 (Jr.openS (Jr.secsD (Dk.D.mk a0n a0b a0p a0w a0o a0l)))),(.cells (Jr.openS (Jr.secsD (Dk.D.mk a0n a0b a0p a0w a0o a0l))).nums.length (.rI .i64 (Jr.openS (Jr.secsD (Dk.D.mk a0n a0b a0p a0w a0o a0l))).nums) true),(.cells (Jr.openS (Jr.secsD (Dk.D.mk a0n a0b a0p a0w a0o a0l))).bad.length (.rI .i64 (Jr.openS (Jr.secsD (Dk.D.mk a0n a0b a0p a0w a0o a0l))).bad) true),(.cells (Jr.openS (Jr.secsD (Dk.D.mk a0n a0b a0p a0w a0o a0l))).texts.length (.rS (Jr.openS (Jr.secsD (Dk.D.mk a0n a0b a0p a0w a0o a0l))).texts) true)])
 | _,_=>none
theorem s9(a0n:Nat)(a0b:Li)(a0p a0w:Lp)(a0o:Bool)(a0l:Int)(hp:((Dk.fine (Dk.D.mk a0n a0b a0p a0w a0o a0l))&&(!(Dk.D.mk a0n a0b a0p a0w a0o a0l).off))=true)(k0:okB (dB 1 a0n 2 3 a0o a0l))(k1:okB (bB a0b))(k2:okB (pB a0p))(k3:okB (wB a0w)):∃ F,f9 F (a0n,a0b,a0p,a0w,a0o,a0l)=some ((.tup (.cons 0 (.ptr 4 0 7 0 0 0 7) (.cons 0 (.int .i64 0) .nil))),[(dE 1 (Dk.D.mk a0n a0b a0p a0w a0o a0l) 2 3),(.cells (Dk.D.mk a0n a0b a0p a0w a0o a0l).blk.length (.rI .u8 (Dk.D.mk a0n a0b a0p a0w a0o a0l).blk) true),(pB (Dk.D.mk a0n a0b a0p a0w a0o a0l).pend),(wB (Dk.D.mk a0n a0b a0p a0w a0o a0l).worn),(jE 0 5 5 6 7 (Jr.openS (Jr.secsD (Dk.D.mk a0n a0b a0p a0w a0o a0l)))),(.cells (Jr.openS (Jr.secsD (Dk.D.mk a0n a0b a0p a0w a0o a0l))).nums.length (.rI .i64 (Jr.openS (Jr.secsD (Dk.D.mk a0n a0b a0p a0w a0o a0l))).nums) true),(.cells (Jr.openS (Jr.secsD (Dk.D.mk a0n a0b a0p a0w a0o a0l))).bad.length (.rI .i64 (Jr.openS (Jr.secsD (Dk.D.mk a0n a0b a0p a0w a0o a0l))).bad) true),(.cells (Jr.openS (Jr.secsD (Dk.D.mk a0n a0b a0p a0w a0o a0l))).texts.length (.rS (Jr.openS (Jr.secsD (Dk.D.mk a0n a0b a0p a0w a0o a0l))).texts) true)]):=by
 obtain⟨hf,ho⟩:=Bool.and_eq_true_iff.1 hp
 have ho:a0o=false:=by simpa using ho
 obtain⟨⟨f1,f2,f3,f4⟩,_⟩:=Dk.fine_iff hf
 have hok:Jr.DOk (Dk.D.mk a0n a0b a0p a0w a0o a0l):=⟨f1,f2,ho,fun e he=>Dk.vals64 k2 e he,fun x hx=>by have:=(agC k1).2 x hx;exact⟨(aay this).1,by have:=(aay this).2;omega⟩,
  fun e he x hx=>by have:=(agC (k2.1 e he).2).2 x hx;exact⟨(aay this).1,by have:=(aay this).2;omega⟩⟩
 have f1:a0n < 8000:=f1
 have hSl:(Jr.secsD (Dk.D.mk a0n a0b a0p a0w a0o a0l)).length=a0n:=by simp [Jr.secsD]
 have hrd:=fun i (h:i < a0n)=>Jr.read_ok hok (i:=i) h
 obtain⟨S,hS⟩:∃ S,S=Jr.secsD (Dk.D.mk a0n a0b a0p a0w a0o a0l):=⟨_,rfl⟩
 rw [← hS] at hSl hrd ⊢
 have hSb:∀ s∈S,∀ x∈s,0≤x:=fun s hs x hx=>by
  obtain⟨i,hi,rfl⟩:=List.mem_iff_getElem.1 hs
  obtain⟨_,_,h3,h4⟩:=hrd i (by omega)
  rw [List.getD_eq_getElem?_getD,List.getElem?_eq_getElem hi] at h4
  rw [h4] at h3
  exact(h3 x hx).1
 refine⟨8001,?_⟩
 simp only [f9,aEz,aEm,aEy,aEn,aEx,aEo,aEw,aEq,aEp,aUp,aUo,awj]
 refine iR (fun i=>(i,(a0n:Int),(i:Int),Jr.rowsOf (S.take i),(Dk.D.mk a0n a0b a0p a0w a0o a0l),Jr.J.mk [] [] (Jr.badOf S i) (Jr.nextOf S i) (Jr.finOf S i) false)) a0n rfl (fun i hi q=>?_) (fun q=>?_) 8001 (by omega)
 ·obtain⟨h1,h2,h3,h4⟩:=hrd i hi
  have hg:S.getD i []=(Dk.read (Dk.D.mk a0n a0b a0p a0w a0o a0l) (i:Int)).1:=h4.symm
  have hrow:Jr.rowsOf (S.take (i+1))=Jr.rowsOf (S.take i)++[(Jr.unpack (Dk.read (Dk.D.mk a0n a0b a0p a0w a0o a0l) (i:Int)).1).row]:=by
   rw [← hg,List.take_add_one,Jr.rowsOf,List.map_append,List.getElem?_eq_getElem (by omega),List.getD_eq_getElem?_getD,List.getElem?_eq_getElem (by omega)];rfl
  have hnx:Jr.nextOf S (i+1)=if (Jr.unpack (S.getD i [])).number+1 > Jr.nextOf S i then (Jr.unpack (S.getD i [])).number+1 else Jr.nextOf S i:=rfl
  have hfn:Jr.finOf S (i+1)=cond (Jr.blank (S.getD i [])) (Jr.finOf S i) ((i:Int)+1):=rfl
  have hbl:=Jr.badOf_len S i
  simp only [awi]
  rw [aK (by omega),h1]
  simp only [hrow,hnx,hfn,Jr.badOf_succ,hg]
  have hnum:=Jr.unpack_num (Dk.read (Dk.D.mk a0n a0b a0p a0w a0o a0l) (i:Int)).1 (fun x hx=>(h3 x hx).1)
  rw [show(((0:Int) != 0)=false) from rfl,cond_false,aK (by omega),show(((Dk.read (Dk.D.mk a0n a0b a0p a0w a0o a0l) (i:Int)).1.length:Int)==64)=true by rw [h2];rfl,cond_true,aK (by omega),Jr.blank64 h2,bM (x:=(i:Int)+1) (by omega) (by omega),bM (x:=(Jr.unpack (Dk.read (Dk.D.mk a0n a0b a0p a0w a0o a0l) (i:Int)).1).number+1) (by omega) (by omega)]
  rw [aK (by omega)]
  cases Jr.blank (Dk.read (Dk.D.mk a0n a0b a0p a0w a0o a0l) (i:Int)).1 <;> cases hk:(Jr.unpack (Dk.read (Dk.D.mk a0n a0b a0p a0w a0o a0l) (i:Int)).1).ok <;> simp only [Bool.not_false,Bool.not_true,cond_true,cond_false,Bool.and_true,Bool.and_false,Bool.true_and,Bool.false_and,List.append_nil,Jr.Part.row,hk,Jr.b2i] <;> rfl
 simp only [awi]
 rw [ba (by omega),List.take_of_length_le (by omega)]
 simp only [aEv,arh,aEu,aEr,aEt,aEs,aoM]
 have hopen:Jr.openS S=Jr.J.mk (Jr.collect (S.map Jr.unpack) a0n 0 ([],[])).1 (Jr.collect (S.map Jr.unpack) a0n 0 ([],[])).2 (Jr.badOf S a0n) (Jr.nextOf S a0n) (Jr.finOf S a0n) false:=by rw [Jr.openS,hSl]
 rw [hopen]
 obtain⟨T,hT⟩:∃ T,T=Jr.collect (S.map Jr.unpack) a0n 0 ([],[]):=⟨_,rfl⟩
 rw [← hT]
 refine pv (fun m s=>∃ (k:Nat) (a:List Int×List Li),s=(a0n,(k:Int),Jr.rowsOf S,(Dk.D.mk a0n a0b a0p a0w a0o a0l),Jr.J.mk a.1 a.2 (Jr.badOf S a0n) (Jr.nextOf S a0n) (Jr.finOf S a0n) false)∧k≤a0n∧a0n-k≤m∧a.1.length≤k∧a.2.length≤k∧Jr.collect (S.map Jr.unpack) m k a=T) (fun m s K hi hk=>?_) 8001 a0n _ (by omega) ⟨0,([],[]),rfl,by omega,by omega,by simp,by simp,hT.symm⟩
 obtain⟨k,a,rfl,hle,hm,hl1,hl2,hc⟩:=hi
 simp only [arf,Int.toNat_natCast,cH]
 by_cases hlt:k < a0n
 ·obtain⟨m',rfl⟩:∃ m',m=m'+1:=⟨m-1,by omega⟩
  have hrl:(Jr.rowsOf S).length=a0n:=by simp [Jr.rowsOf,hSl]
  have htk:((Jr.rowsOf S).drop k).take (a0n-k)=(Jr.rowsOf S).drop k:=List.take_of_length_le (by rw [List.length_drop];omega)
  have hnum:(((Jr.rowsOf S).getD k []).getD 0 []).getD 0 0=(Jr.pt (S.map Jr.unpack) k).number:=by
   have e1:(Jr.rowsOf S).getD k []=(Jr.unpack (S.getD k [])).row:=by
    rw [Jr.rowsOf,List.getD_eq_getElem?_getD,List.getElem?_map,List.getElem?_eq_getElem (by omega),List.getD_eq_getElem?_getD,List.getElem?_eq_getElem (by omega)];rfl
   have e2:Jr.pt (S.map Jr.unpack) k=Jr.unpack (S.getD k []):=by
    rw [Jr.pt,List.getD_eq_getElem?_getD,List.getElem?_map,List.getElem?_eq_getElem (by omega),List.getD_eq_getElem?_getD,List.getElem?_eq_getElem (by omega)];rfl
   rw [e1,e2];rfl
  rw [aK (by omega),aK (by omega)]
  simp only [htk,Jr.short_rows,Bool.and_true,hnum,Jr.rec_rows (show k≤S.length by omega)]
  rw [aK (by rw [List.length_drop];omega)]
  rw [Jr.collect,aK (show k < (S.map Jr.unpack).length by rw [List.length_map];omega)] at hc
  cases hr:Jr.recOk (S.map Jr.unpack) k with
  | false=>
   rw [hr,cond_false] at hc
   simp only [cond_false,Bool.not_false,cond_true]
   rw [bM (x:=(k:Int)+1) (by omega) (by omega)]
   exact hk m' _ (by omega) ⟨k+1,a,rfl,by omega,by omega,by omega,by omega,hc⟩
  | true=>
   rw [hr,cond_true] at hc
   obtain⟨r1,r2⟩:=Jr.recN_pos hSb hr
   simp only [cond_true,Bool.not_true,cond_false]
   rw [aK (by omega),bM (x:=(k:Int)+(Jr.recN (S.map Jr.unpack) k:Int)) (by omega) (by omega)]
   simp only [Jr.put1] at hc
   cases hcn:a.1.contains (Jr.pt (S.map Jr.unpack) k).number with
   | true=>
    rw [hcn,cond_true] at hc
    simp only [Bool.not_true,cond_false]
    exact hk m' _ (by omega) ⟨k+Jr.recN (S.map Jr.unpack) k,a,by simp,by omega,by omega,by omega,by omega,hc⟩
   | false=>
    rw [hcn,cond_false] at hc
    simp only [Bool.not_false,cond_true]
    rw [aK (by omega),aK (by omega),aK (by omega)]
    exact hk m' _ (by omega) ⟨k+Jr.recN (S.map Jr.unpack) k,(a.1++[(Jr.pt (S.map Jr.unpack) k).number],a.2++[Jr.recText (S.map Jr.unpack) k (Jr.recN (S.map Jr.unpack) k)]),by simp,by omega,by omega,by simp only [List.length_append,List.length_singleton];omega,by simp only [List.length_append,List.length_singleton];omega,hc⟩
 ·rw [ba (by omega)]
  have:k=a0n:=by omega
  subst this
  have hTa:T=a:=by
   rw [← hc]
   cases m with
   | zero=>rfl
   | succ m=>rw [Jr.collect,ba (by rw [List.length_map];omega)]
  rw [hTa];rfl
theorem c9:Ck 9 r9:=ck eV9 Tryz.func9 (by
 intro X H r H' h hX hH
 unfold r9 at h;split at h <;> try contradiction
 ·obtain⟨hp,rfl,rfl⟩:=ik h
  obtain rfl:=bh (hH _ hm1) rfl
  obtain⟨F,hF⟩:=s9 _ _ _ _ _ _ hp (hH _ hm0) (hH _ hm1) (hH _ hm2) (hH _ hm3)
  exact⟨_,abC (aUz F) hF⟩)
end Go.Am
end