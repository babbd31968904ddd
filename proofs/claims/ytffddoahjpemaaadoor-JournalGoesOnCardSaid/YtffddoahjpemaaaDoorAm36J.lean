/- Part of a proof. -/
import Derived.RangeFuncBox
import Derived.RangeFuncLeaves
import Derived.Shelf.Abstract
import Derived.WalkKit
import Derived.OwnWalkIn
import Derived.TacticsInMore
import Derived.LoopNIn
import Derived.LoopIn
import Derived.RangeFuncNested
import Derived.IntWalk
import Derived.Test.YtffddoahjpemaaaDoorProg
import Derived.Test.YtffddoahjpemaaaDoorAm36D
import Derived.Test.YtffddoahjpemaaaDoorAmWire3
import Derived.Test.YtffddoahjpemaaaDoorAm36H
set_option linter.unusedSimpArgs false
set_option linter.unusedVariables false
section
/- journal.get and slices.Backward over bytes: what they return, in the model's own terms. -/
namespace Go.Proofs
open Go.RowKit Go.Shelf
attribute [local go_sem] Oper.semAt_some
namespace Jn
def upto{α:Type}(f:Nat→α)(k:Nat):List α:=(List.range k).map f
theorem upto_succ{α:Type}(f:Nat→α)(k:Nat):upto f (k+1)=upto f k++[f k]:=by simp [upto,List.range_succ]
theorem upto_length{α:Type}(f:Nat→α)(k:Nat):(upto f k).length=k:=by simp [upto]
def bk(zs:List Int)(len k:Nat):Int×Int:=(((len-1-k:Nat):Int),zs[len-1-k]?.getD 0)
def Kq(n₀ Bs:Nat)(A B:World):Prop:=Below n₀ A B∧B.heap[Bs]?=A.heap[Bs]?
theorem Kq.refl(n₀ Bs:Nat)(A:World):Kq n₀ Bs A A:=⟨Below.refl _ _,rfl⟩
theorem Kq.trans{n₀ Bs:Nat}{A B C:World}(h:Kq n₀ Bs A B)(k:Kq n₀ Bs B C):Kq n₀ Bs A C:=⟨h.1.trans k.1,k.2.trans h.2⟩
theorem Kq.box{n₀ Bs:Nat}{A B:World}(h:Kq n₀ Bs A B){v:Value}(hc:A.cell? ⟨Bs,0,none⟩=some v):B.cell? ⟨Bs,0,none⟩=some v:=by
 rw [← hc];unfold World.cell?;rw [h.2]
theorem Kq.put{n₀ Bs:Nat}{w:World}(hn:n₀≤w.heap.size)(hb:Bs < w.heap.size)(W:World)(l:Nat)(o o':Obj)(hl:w.heap.size≤l)(h:W.heap[l]?=some o)(h1:o.isCells=false)(h2:o.isWalk=false):Kq n₀ Bs W (W.putObj l o'):=
 ⟨belowK_b hn W l o o' hl h h1 h2,(belowK_b (n₀:=Bs+1) (w:=w) (by omega) W l o o' hl h h1 h2).block Bs (by omega)⟩
set_option maxRecDepth 100000 in
set_option maxHeartbeats 2000000 in
theorem back1_in(F:Fence)(n:Nat)(h7:F.fn 73)(hro:F.round=none)(hn:1≤n)(l Bs n₀ b off len cap:Nat)(zs:List Int)(hreach:len≤1000000)(hb:b < n₀)(J Jx:List (Int×Int)→World→Prop)
  (hY:∀ pre x W,J pre W→pre.length < len→YieldAt F (n-1) Tryd.prog l #[.int .i64 x.1,.int .u8 x.2] W fun e W'=>
   (e=.returned (.bool true)∧J (pre++[x]) W'∧Kq n₀ Bs W W')∨(e=.returned (.bool false)∧Jx (pre++[x]) W'))
  (W:World) (hBs:W.cell? ⟨Bs,0,none⟩=some (.slice (some ⟨b,off,none⟩) len cap))
  (hc:∀ j,j < len→W.cell? ⟨b,off+j,none⟩=some (.int .u8 (zs[j]?.getD 0))) (h0:J [] W) :
  CallsIn F n Tryd.prog 73 #[.func (.yield l) #[] #[],.pointer (some ⟨Bs,0,none⟩)] W fun e W'=>(∃ v,e=.returned v) ∧
   ((∃ ys,ys=upto (bk zs len) len∧J ys W')∨(∃ pre,(∃ k,k≤len∧pre=upto (bk zs len) k)∧Jx pre W')):=by
 refine callsIn_of_wp Tryd.func73 rfl h7 ?_ hro
 simp only [Tryd.ntmps73,List.size_toArray,List.length_cons,List.length_nil,Nat.reduceAdd,Nat.reduceSub,Array.replicate_succ,Array.replicate_zero,List.push_toArray,List.append_toArray,List.nil_append,List.cons_append]
 gi_wp2
 gi_loopw [3] (fun i wr=>∃ m:Nat,m≤len∧i=.int .i64 ((m:Int)-1)∧J (upto (bk zs len) (len-m)) wr∧Kq n₀ Bs W wr)
  (fun i _=>(intOf i+1).toNat)
 case atStart=>exact⟨len,Nat.le_refl _,by simp [Go.IntWalk.wrap64_in ((len:Int)-1) (by omega)],by rw [Nat.sub_self];exact h0,Kq.refl _ _ _⟩
 case round=>
  obtain⟨m,hm,rfl,hJs,hnx⟩:=hrel
  have hBx:=hnx.box hBs
  cases m with
  | zero=>
   gi_wp2
   go_end0
   exact⟨⟨_,rfl⟩,.inl ⟨_,rfl,by simpa using hJs⟩⟩
  | succ m=>
   have hcx:=(hnx.1.cell (p:=⟨b,off+m,none⟩) hb).trans (hc m (by omega))
   have ek:bk zs len (len-(m+1))=((m:Int),zs[m]?.getD 0):=by
    simp only [bk,show len-1-(len-(m+1))=m by omega]
   have e1:((m+1:Nat):Int)-1=(m:Int):=by omega
   rw [e1]
   obtain⟨fn,tmps,assign,body,hy,hR⟩:=hY _ ((m:Int),zs[m]?.getD 0) wr hJs (by rw [upto_length];omega)
   dsimp only at hy
   gi_wp2
   refine hR.mono ?_
   rintro e W3 (⟨rfl,hJ3,hk3⟩ | ⟨rfl,hJx3⟩)
   ·gi_wp2
    go_roundw
    case rel=>exact⟨m,by omega,by simp [Go.IntWalk.wrap64_in ((m:Int)-1) (by omega)],by rw [show len-m=len-(m+1)+1 by omega,upto_succ,ek];exact hJ3,hnx.trans hk3⟩
    case measure=>simp [intOf,Go.IntWalk.wrap64_in ((m:Int)-1) (by omega)]
   ·gi_wp2
    refine bodyPost_ret (results_none rfl _ _ _) rfl ?_
    exact⟨⟨_,rfl⟩,.inr ⟨_,⟨len-(m+1)+1,by omega,by rw [upto_succ,ek]⟩,hJx3⟩⟩
set_option maxHeartbeats 1000000 in
theorem back_in(F:Fence)(n:Nat)(h6:F.fn 66)(hro:F.round=none)(a:Option Addr)(len cap:Nat)(w:World):
  CallsIn F n Tryd.prog 66 #[.slice a len cap] w fun e w'=>e=.returned (.func (.func 73) #[] #[.pointer (some ⟨w.heap.size,0,none⟩)])∧w'=w.alloc (.cells #[.slice a len cap] 36):=by
 refine callsIn_of_wp Tryd.func66 rfl h6 ?_ hro
 simp only [Tryd.ntmps66,List.size_toArray,List.length_cons,List.length_nil,Nat.reduceAdd,Nat.reduceSub,Array.replicate_succ,Array.replicate_zero,List.push_toArray,List.append_toArray,List.nil_append,List.cons_append]
 gi_wp2
 go_ret
 exact⟨rfl,rfl⟩
theorem back_stops(F:Fence)(n:Nat)(h7:F.fn 73)(hro:F.round=none)(hn:1≤n)(Bs n₀ b off cap:Nat)(zs:List Int)(hreach:zs.length≤1000000)(w:World)(hBs:Bs < w.heap.size)(hn₀:n₀≤w.heap.size)(hb:b < n₀)
  (hc:w.cell? ⟨Bs,0,none⟩=some (.slice (some ⟨b,off,none⟩) zs.length cap)) (hcs:∀ j,j < zs.length→w.cell? ⟨b,off+j,none⟩=some (.int .u8 (zs[j]?.getD 0))) :
  SeqStopsK F n Tryd.prog 73 #[.pointer (some ⟨Bs,0,none⟩)] (fun x:Int×Int=>#[Value.int .i64 x.1,Value.int .u8 x.2]) (Kq n₀ Bs) (fun ys=>ys=upto (bk zs zs.length) zs.length)
   (fun pre=>∃ k,k≤zs.length∧pre=upto (bk zs zs.length) k) zs.length w:=fun l J Jx W hW _ _ hY h0=>by
 have hc':=(hW.cell (p:=⟨Bs,0,none⟩) hBs).trans hc
 exact back1_in F n h7 hro hn l Bs n₀ b off zs.length cap zs hreach hb J Jx hY W hc' (fun j hj=>(hW.cell (p:=⟨b,off+j,none⟩) (by simp;omega)).trans (hcs j hj)) h0
def more(n x:Int):Int:=bits BinOp.or IntKind.i64 (wrap64 (n*256)) (wrap64 x)
def acc(pre:List (Int×Int)):Int:=pre.foldl (fun n x=>more n x.2) 0
theorem acc_snoc(pre:List (Int×Int))(x:Int×Int):acc (pre++[x])=bits BinOp.or IntKind.i64 (wrap64 (acc pre*256)) (wrap64 x.2):=by simp [acc,more]
set_option maxRecDepth 100000 in
set_option maxHeartbeats 2000000 in
theorem get_in(F:Fence)(n:Nat)(h3:F.fn 49)(h5:F.fn 66)(h7:F.fn 73)(hro:F.round=none)(hn:3≤n)(b off cap:Nat)(zs:List Int)(hz:∀ x∈zs,0≤x∧x < 256)(hreach:zs.length≤4)(w:World)(hb:b < w.heap.size)
  (hcs:∀ j,j < zs.length→w.cell? ⟨b,off+j,none⟩=some (.int .u8 (zs[j]?.getD 0))) :
  CallsIn F n Tryd.prog 49 #[.slice (some ⟨b,off,none⟩) zs.length cap] w fun e W'=>e=.returned (.int .i64 (acc (upto (bk zs zs.length) zs.length)))∧Below w.heap.size w W':=by
 have h1:1≤n:=by omega
 refine callsIn_of_wp_marks Tryd.func49 rfl h3 ?_ hro
 simp only [Tryd.ntmps49,List.size_toArray,List.length_cons,List.length_nil,Nat.reduceAdd,Nat.reduceSub,Array.replicate_succ,Array.replicate_zero,List.push_toArray,List.append_toArray,List.nil_append,List.cons_append]
 gi_wp2_with (gi_at_call 66;refine(back_in F (n-1) h5 hro _ _ _ _).mono ?_;rintro e w' ⟨rfl,rfl⟩)
 have bS:=Boxed.new w 3 (.int .i64 0)
 have bN:=Boxed.new (w.alloc (.cells #[.int .i64 0] 3)) 36 (.slice (some ⟨b,off,none⟩) zs.length cap)
 rw [World.size_alloc] at bN
 have hB0:Below w.heap.size w ((w.alloc (.cells #[.int .i64 0] 3)).alloc (.cells #[.slice (some ⟨b,off,none⟩) zs.length cap] 36)):=((Below.refl _ w).alloc (Nat.le_refl _) _).alloc (by simp) _
 refine wpIn_rangeFunc_ownG hro h1 (gf:=73) (lb:=#[.pointer (some ⟨w.heap.size+1,0,none⟩)]) rfl h7 (enters_of Tryd.func73 (by kernel_rfl) rfl)
  (back_stops F (n-1) h7 hro (by omega) (w.heap.size+1) w.heap.size b off cap zs (by omega) _ (by simp) (by simp;omega) hb bN.cell (fun j hj=>(hB0.cell (p:=⟨b,off+j,none⟩) hb).trans (hcs j hj))) Kq.trans (Kq.put (by simp;omega) (by simp)) (Below.refl _ _) (fun _=>rfl)
  (fun pre W=>(W.cell? ⟨w.heap.size,0,none⟩=some (.int .i64 (acc pre))∧W.frozen? ⟨w.heap.size,0,none⟩=false)∧Below w.heap.size w W)
  (fun _ _ _=>False)
  (OwnFrom.and (Own.from (fun s A B row hs hg hr=>⟨cell_kept hs.1 hg hr,(frozen_kept hs.1 hg hr).trans hs.2⟩) _) (ownFrom_below (Nat.le_refl _) (by simp;omega)))
  (fun _ _ _ _ _ hs _ _=>hs)
  ⟨⟨(bS.alloc _).cell,(bS.alloc _).frozen⟩,hB0⟩
  (fun x=>{ tmps:=#[.slice (some ⟨b,off,none⟩) zs.length cap,undef,.int .i64 0,.pointer (some ⟨w.heap.size,0,none⟩),undef,.int .u8 x.2,.slice (some ⟨b,off,none⟩) zs.length cap,.func (.func 73) #[] #[.pointer (some ⟨w.heap.size+1,0,none⟩)],.int .i64 x.1,.int .u8 x.2,undef,undef,undef,undef,undef,undef],defers:=[] }) ?assign ?body ?done ?stop
 case assign=>
  intro l x W K hK
  gi_wp2
  exact hK
 case body=>
  rintro l pre x W ⟨⟨hc,hf⟩,hB⟩ hlt
  gi_wp2
  exact⟨(KeepsOthers.setCell _ _ _).from _,⟨(Below.refl w.heap.size W).setCell (p:=⟨w.heap.size,0,none⟩) (Nat.le_refl _) _,Below.heap_setCell _ _ _ _ (by simp)⟩,⟨by rw [acc_snoc];exact World.cell?_setCell_same' _ _ _ (by rw [hc];rfl),by rw [World.frozen?_setCell];exact hf⟩,hB.setCell (p:=⟨w.heap.size,0,none⟩) (Nat.le_refl _) _⟩
 case done=>
  rintro D ys W hD rfl ⟨⟨hc,_⟩,hB⟩ hK
  gi_wp2
  refine⟨by simp,.inl ⟨_,_,rfl,run_takeDeferred hK,?_⟩⟩
  exact⟨_,results_tmp rfl _ _ _,rfl,hB.trans (belowK_b (w:=w) (Nat.le_refl _) W D _ _ (by simp at hD;omega) hK rfl rfl)⟩
 case stop=>
  rintro D c pre W _ _ h _
  exact h.elim
end Jn
end Go.Proofs
end
section
/- What slices of bytes make as numbers: the kit's words turned into the machine's. -/
namespace Go.Am
open Go Go.Proofs Go.RowKit
theorem more_eq{n x:Int}(h0:0≤n)(h1:n < 72057594037927)(h2:0≤x)(h3:x < 256):Jn.more n x=256*n+x:=by
 obtain⟨a,rfl⟩:=Int.eq_ofNat_of_zero_le h0
 obtain⟨b,rfl⟩:=Int.eq_ofNat_of_zero_le h2
 unfold Jn.more
 rw [Go.IntWalk.wrap64_in _ (by omega),Go.IntWalk.wrap64_in _ (by omega)]
 show IntKind.i64.wrap (((BitVec.ofInt 64 ((a:Int)*256)) ||| (BitVec.ofInt 64 (b:Int))).toNat:Int)=_
 rw [BitVec.toNat_or,BitVec.toNat_ofInt,BitVec.toNat_ofInt]
 have e1:((a:Int)*256%((2^64:Nat):Int)).toNat=a <<< 8:=by rw [Nat.shiftLeft_eq];omega
 have e2:((b:Int)%((2^64:Nat):Int)).toNat=b:=by omega
 rw [e1,e2,← Nat.shiftLeft_add_eq_or_of_lt (show b < 2^8 by omega),Nat.shiftLeft_eq,i64w (by omega) (by omega)]
 omega
theorem acc_num{zs:List Int}(hz:∀ x∈zs,0≤x∧x < 256)(hl:zs.length≤4):∀ k,k≤zs.length→Jn.acc (Jn.upto (Jn.bk zs zs.length) k)=Jr.num (zs.drop (zs.length-k))
 | 0,_=>by rw [Nat.sub_zero,List.drop_length];rfl
 | k+1,hk=>by
  have ih:=acc_num hz hl k (by omega)
  have hd:zs.drop (zs.length-(k+1))=(zs[zs.length-1-k]?.getD 0) :: zs.drop (zs.length-k):=by
   rw [show zs.length-(k+1)=zs.length-1-k by omega,List.drop_eq_getElem_cons (by omega),show zs.length-1-k+1=zs.length-k by omega,List.getElem?_eq_getElem (by omega)];rfl
  have hx:0≤zs[zs.length-1-k]?.getD 0∧zs[zs.length-1-k]?.getD 0 < 256:=by
   rw [List.getElem?_eq_getElem (by omega)];exact hz _ (List.getElem_mem _)
  obtain⟨n1,n2⟩:=Jr.num_bound (zs.drop (zs.length-k)) fun x hx=>hz x (List.mem_of_mem_drop hx)
  have hp:(256:Int)^(zs.drop (zs.length-k)).length≤256^4:=by
   have:((256^(zs.drop (zs.length-k)).length:Nat):Int)≤((256^4:Nat):Int):=Int.ofNat_le.2 (Nat.pow_le_pow_right (by decide) (by rw [List.length_drop];omega))
   simpa using this
  rw [Jn.upto_succ,Jn.acc_snoc,hd,Jr.num_cons,← ih]
  exact more_eq (by rw [ih];exact n1) (by rw [ih];omega) hx.1 hx.2
def r49:CRun:=fun X H=>match X,H with
 | [(.vs (.rI .u8 a0) 0 1)],[]=>some ((decide (0 < a0.length∧a0.length≤4)),(.int .i64 (Jr.num a0)),[])
 | _,_=>none
theorem c49{G:Nat→Option AV}:CallOk Tryd.prog G 49 r49 where
 there:=⟨_,Tryd.func49,by kernel_rfl,by kernel_rfl⟩
 does:=by
  intro A H r H' hr U w ρ args hU hs hA
  unfold r49 at hr
  split at hr <;> try contradiction
  rename_i zs
  simp only [Option.some.injEq,Prod.mk.injEq,decide_eq_true_eq] at hr
  obtain⟨⟨hp0,hp4⟩,rfl,rfl⟩:=hr
  match args,hA with
  | ⟨[x]⟩,hA=>
   have hx:=hA.1
   cases hx with
   | vs0=>
    have e:(AV.rI .u8 zs).size=0:=by assumption
    have e2:zs.length=0:=e
    omega
   | vs _ _ _ l cap blk base vals hleaf h00 hn hpos hk hcap hm hW hc hrep=>
    have hn':zs.length=l:=by have e:(AV.rI .u8 zs).size=zs.length:=rfl;omega
    subst hn'
    have hv:∀ j,j < zs.length→vals j=.int .u8 (zs[j]?.getD 0)∧0≤zs[j]?.getD 0∧zs[j]?.getD 0 < 256:=fun j hj=>by
     have this:Rep w (Wr U ρ (hst []).heap) ρ (.int .u8 (zs.getD j 0)) (vals j):=hrep j (by omega)
     rw [List.getD_eq_getElem?_getD] at this
     generalize vals j=v at this
     cases this with | int _ _ hk=>exact⟨rfl,by simpa [IntKind.has,IntKind.min,IntKind.max,IntKind.signed,IntKind.bits] using hk.1,by have:=hk.2;simp [IntKind.max,IntKind.signed,IntKind.bits] at this;omega⟩
    have hz:∀ x∈zs,0≤x∧x < 256:=fun x hx=>by
     obtain⟨j,hj,rfl⟩:=List.mem_iff_getElem.1 hx
     have:=(hv j hj).2
     rwa [List.getElem?_eq_getElem hj] at this
    have hcs:∀ j,j < zs.length→w.cell? ⟨blk,base+j,none⟩=some (.int .u8 (zs[j]?.getD 0)):=fun j hj=>by rw [hc j (by omega),(hv j hj).1]
    have hblk:blk < w.heap.size:=by
     have:=hcs 0 (by omega)
     unfold World.cell? at this
     by_cases hb:blk < w.heap.size
     ·exact hb
     ·have h2:w.heap[blk]?=none:=Array.getElem?_eq_none (by omega)
      simp only [h2] at this;cases this
    have cG:=Jn.get_in Fence.wide 3 trivial trivial trivial rfl (by omega) blk base cap zs hz hp4 w hblk hcs
    refine(callsIn_wide.1 cG).mono ?_
    rintro e w' ⟨rfl,hB⟩
    obtain⟨n1,n2⟩:=Jr.num_bound zs hz
    have hN:=acc_num hz hp4 zs.length (Nat.le_refl _)
    rw [Nat.sub_self,List.drop_zero] at hN
    have hp:(256:Int)^zs.length≤256^4:=by
     have:((256^zs.length:Nat):Int)≤((256^4:Nat):Int):=Int.ofNat_le.2 (Nat.pow_le_pow_right (by decide) hp4)
     simpa using this
    refine⟨_,ρ,rfl,hs.below hB,?_⟩
    rw [hN]
    exact .int .i64 _ (by unfold IntKind.has;simp [IntKind.min,IntKind.max,IntKind.signed,IntKind.bits];omega)
end Go.Am
end
section
namespace Go.Am
open Go Go.Proofs
def lV30:List CEnt:=[(47,[some 5],r47),(49,[some 5],r49),(50,[some 5,some 5],r50)]
def V30:Env:=mkEnv T36 G36 lV30
noncomputable abbrev Kf49:=kFin V30 none (Tryd.f30).results.toList
theorem eV30:EOk Tryd.prog V30:=eok_mk (by exact⟨c47,c49,c50,trivial⟩)
def Af30(F:Nat):Cuts:={ F:=F,at_:=fun _=>none,join:=fun _=>none }
def ef30_a:Li→St:=fun a0=>⟨[(0,.str a0)],[],0,79,0⟩
def f30_1(F:Nat):Li→Rz:=fun a0=>(cond ((↑a0.length:Int) != (64:Int)) (some ((.agg 5 (.segs (.cons 1 (.one (.int .i64 0)) (.cons 1 (.one (.int .i64 0)) (.cons 1 (.one (.int .i64 0)) (.cons 1 (.one (.str [])) (.cons 1 (.one (.bool false)) .nil))))))),[])) (cond (decide (64≤a0.length)) (cond (decide (0 < ((a0.take 64).take 4).length∧((a0.take 64).take 4).length≤4)) (cond (decide (0 < (((a0.take 64).drop 4).take 2).length∧(((a0.take 64).drop 4).take 2).length≤4)) (cond (decide (0 < (((a0.take 64).drop 6).take 2).length∧(((a0.take 64).drop 6).take 2).length≤4)) (cond (((decide (0≤(IntKind.i64.wrap ((48:Int)-(if (48:Int) < (Jr.num (((a0.take 64).drop 6).take 2)) then (48:Int) else (Jr.num (((a0.take 64).drop 6).take 2)))))))&&(decide ((IntKind.i64.wrap ((48:Int)-(if (48:Int) < (Jr.num (((a0.take 64).drop 6).take 2)) then (48:Int) else (Jr.num (((a0.take 64).drop 6).take 2)))))≤(IntKind.i64.wrap ((48:Int)-(if (48:Int) < (Jr.num (((a0.take 64).drop 6).take 2)) then (48:Int) else (Jr.num (((a0.take 64).drop 6).take 2))))))))&&(decide ((IntKind.i64.wrap ((48:Int)-(if (48:Int) < (Jr.num (((a0.take 64).drop 6).take 2)) then (48:Int) else (Jr.num (((a0.take 64).drop 6).take 2))))) < 1073741824))) (cond (!(((Sha.hash ((a0.take 64).take 56)).take 8)==(((a0.take 64).drop 56).take 8))) (some ((.agg 5 (.segs (.cons 1 (.one (.int .i64 0)) (.cons 1 (.one (.int .i64 0)) (.cons 1 (.one (.int .i64 0)) (.cons 1 (.one (.str [])) (.cons 1 (.one (.bool false)) .nil))))))),[])) (cond ((Jr.num ((a0.take 64).take 4))==(0:Int)) (some ((.agg 5 (.segs (.cons 1 (.one (.int .i64 0)) (.cons 1 (.one (.int .i64 0)) (.cons 1 (.one (.int .i64 0)) (.cons 1 (.one (.str [])) (.cons 1 (.one (.bool false)) .nil))))))),[])) (cond (decide ((Jr.num ((a0.take 64).take 4)) > (4096:Int))) (some ((.agg 5 (.segs (.cons 1 (.one (.int .i64 0)) (.cons 1 (.one (.int .i64 0)) (.cons 1 (.one (.int .i64 0)) (.cons 1 (.one (.str [])) (.cons 1 (.one (.bool false)) .nil))))))),[])) (cond (decide ((IntKind.i64.wrap ((IntKind.i64.wrap ((48:Int)*(Jr.num (((a0.take 64).drop 4).take 2))))+(Jr.num (((a0.take 64).drop 6).take 2)))) > (8000:Int))) (some ((.agg 5 (.segs (.cons 1 (.one (.int .i64 0)) (.cons 1 (.one (.int .i64 0)) (.cons 1 (.one (.int .i64 0)) (.cons 1 (.one (.str [])) (.cons 1 (.one (.bool false)) .nil))))))),[])) (cond ((Jr.num (((a0.take 64).drop 6).take 2))==(0:Int)) (cond (decide ((Jr.num (((a0.take 64).drop 4).take 2)) > (0:Int))) (some ((.agg 5 (.segs (.cons 1 (.one (.int .i64 0)) (.cons 1 (.one (.int .i64 0)) (.cons 1 (.one (.int .i64 0)) (.cons 1 (.one (.str [])) (.cons 1 (.one (.bool false)) .nil))))))),[])) (cond (((decide (0≤(IntKind.i64.wrap ((8:Int)+(if (48:Int) < (Jr.num (((a0.take 64).drop 6).take 2)) then (48:Int) else (Jr.num (((a0.take 64).drop 6).take 2)))))))&&(decide ((IntKind.i64.wrap ((8:Int)+(if (48:Int) < (Jr.num (((a0.take 64).drop 6).take 2)) then (48:Int) else (Jr.num (((a0.take 64).drop 6).take 2)))))≤(56:Int))))&&true) (cond (!((((a0.take 64).drop (Int.toNat (IntKind.i64.wrap ((8:Int)+(if (48:Int) < (Jr.num (((a0.take 64).drop 6).take 2)) then (48:Int) else (Jr.num (((a0.take 64).drop 6).take 2))))))).take (56-(Int.toNat (IntKind.i64.wrap ((8:Int)+(if (48:Int) < (Jr.num (((a0.take 64).drop 6).take 2)) then (48:Int) else (Jr.num (((a0.take 64).drop 6).take 2))))))))==(List.replicate (Int.toNat (IntKind.i64.wrap ((48:Int)-(if (48:Int) < (Jr.num (((a0.take 64).drop 6).take 2)) then (48:Int) else (Jr.num (((a0.take 64).drop 6).take 2)))))) 0))) (some ((.agg 5 (.segs (.cons 1 (.one (.int .i64 0)) (.cons 1 (.one (.int .i64 0)) (.cons 1 (.one (.int .i64 0)) (.cons 1 (.one (.str [])) (.cons 1 (.one (.bool false)) .nil))))))),[])) (cond ((decide ((8:Int)≤(IntKind.i64.wrap ((8:Int)+(if (48:Int) < (Jr.num (((a0.take 64).drop 6).take 2)) then (48:Int) else (Jr.num (((a0.take 64).drop 6).take 2)))))))&&(decide ((IntKind.i64.wrap ((8:Int)+(if (48:Int) < (Jr.num (((a0.take 64).drop 6).take 2)) then (48:Int) else (Jr.num (((a0.take 64).drop 6).take 2)))))≤(↑a0.length:Int)))) (some ((.agg 5 (.segs (.cons 1 (.one (.int .i64 (Jr.num ((a0.take 64).take 4)))) (.cons 1 (.one (.int .i64 (Jr.num (((a0.take 64).drop 4).take 2)))) (.cons 1 (.one (.int .i64 (Jr.num (((a0.take 64).drop 6).take 2)))) (.cons 1 (.one (.str ((a0.take (Int.toNat (IntKind.i64.wrap ((8:Int)+(if (48:Int) < (Jr.num (((a0.take 64).drop 6).take 2)) then (48:Int) else (Jr.num (((a0.take 64).drop 6).take 2))))))).drop 8))) (.cons 1 (.one (.bool true)) .nil))))))),[])) none)) none)) (cond (((decide (0≤(IntKind.i64.wrap ((8:Int)+(if (48:Int) < (Jr.num (((a0.take 64).drop 6).take 2)) then (48:Int) else (Jr.num (((a0.take 64).drop 6).take 2)))))))&&(decide ((IntKind.i64.wrap ((8:Int)+(if (48:Int) < (Jr.num (((a0.take 64).drop 6).take 2)) then (48:Int) else (Jr.num (((a0.take 64).drop 6).take 2)))))≤(56:Int))))&&true) (cond (!((((a0.take 64).drop (Int.toNat (IntKind.i64.wrap ((8:Int)+(if (48:Int) < (Jr.num (((a0.take 64).drop 6).take 2)) then (48:Int) else (Jr.num (((a0.take 64).drop 6).take 2))))))).take (56-(Int.toNat (IntKind.i64.wrap ((8:Int)+(if (48:Int) < (Jr.num (((a0.take 64).drop 6).take 2)) then (48:Int) else (Jr.num (((a0.take 64).drop 6).take 2))))))))==(List.replicate (Int.toNat (IntKind.i64.wrap ((48:Int)-(if (48:Int) < (Jr.num (((a0.take 64).drop 6).take 2)) then (48:Int) else (Jr.num (((a0.take 64).drop 6).take 2)))))) 0))) (some ((.agg 5 (.segs (.cons 1 (.one (.int .i64 0)) (.cons 1 (.one (.int .i64 0)) (.cons 1 (.one (.int .i64 0)) (.cons 1 (.one (.str [])) (.cons 1 (.one (.bool false)) .nil))))))),[])) (cond ((decide ((8:Int)≤(IntKind.i64.wrap ((8:Int)+(if (48:Int) < (Jr.num (((a0.take 64).drop 6).take 2)) then (48:Int) else (Jr.num (((a0.take 64).drop 6).take 2)))))))&&(decide ((IntKind.i64.wrap ((8:Int)+(if (48:Int) < (Jr.num (((a0.take 64).drop 6).take 2)) then (48:Int) else (Jr.num (((a0.take 64).drop 6).take 2)))))≤(↑a0.length:Int)))) (some ((.agg 5 (.segs (.cons 1 (.one (.int .i64 (Jr.num ((a0.take 64).take 4)))) (.cons 1 (.one (.int .i64 (Jr.num (((a0.take 64).drop 4).take 2)))) (.cons 1 (.one (.int .i64 (Jr.num (((a0.take 64).drop 6).take 2)))) (.cons 1 (.one (.str ((a0.take (Int.toNat (IntKind.i64.wrap ((8:Int)+(if (48:Int) < (Jr.num (((a0.take 64).drop 6).take 2)) then (48:Int) else (Jr.num (((a0.take 64).drop 6).take 2))))))).drop 8))) (.cons 1 (.one (.bool true)) .nil))))))),[])) none)) none)))))) none) none) none) none) none))
theorem f30_1_eq(F:Nat):∀ v,aexec V30 (Af30 F) (sub (bodyOf Tryd.f30) []) (ef30_a v) Kf49=f30_1 F v:=by
 intro a0;kernel_rfl
def f30(F:Nat):Li→Rz:=f30_1 F
theorem f30_body(F:Nat)(a0:Li):abody V30 (Af30 F) Tryd.f30 [(.str a0)] []=f30 F a0:=
 (abody_in (c:=(sub (bodyOf Tryd.f30) [])) (by kernel_rfl) (s:=ef30_a a0) (by kernel_rfl)).trans (f30_1_eq F a0)
def r30:CRun:=fun X H=>match X,H with
 | [(.str a0)],[]=>some (true,(.agg 5 (.segs (.cons 1 (.one (.int .i64 (Jr.unpack a0).number)) (.cons 1 (.one (.int .i64 (Jr.unpack a0).part)) (.cons 1 (.one (.int .i64 (Jr.unpack a0).left)) (.cons 1 (.one (.str (Jr.unpack a0).payload)) (.cons 1 (.one (.bool (Jr.unpack a0).ok)) .nil))))))),[])
 | _,_=>none
theorem s30(a0:Li)(h0:okV (.str a0)):∃ F,f30 F a0=some ((.agg 5 (.segs (.cons 1 (.one (.int .i64 (Jr.unpack a0).number)) (.cons 1 (.one (.int .i64 (Jr.unpack a0).part)) (.cons 1 (.one (.int .i64 (Jr.unpack a0).left)) (.cons 1 (.one (.str (Jr.unpack a0).payload)) (.cons 1 (.one (.bool (Jr.unpack a0).ok)) .nil))))))),[]):=by
 refine⟨0,?_⟩
 simp only [f30,f30_1,int_bne,int_beq]
 by_cases hl:a0.length=64
 case neg=>
  rw [cond_pos (by omega),Jr.unpack_not (.inl hl)]
  rfl
 have e64:a0.take 64=a0:=List.take_of_length_le (by omega)
 have hb:∀ x∈a0,0≤x∧x < 256:=fun x hx=>by have:=h0.2 x hx;omega
 rw [cond_neg (by omega),cond_pos (by omega)]
 simp only [e64]
 have l4:(a0.take 4).length=4:=by rw [List.length_take];omega
 have l2:((a0.drop 4).take 2).length=2:=by rw [List.length_take,List.length_drop];omega
 have l2':((a0.drop 6).take 2).length=2:=by rw [List.length_take,List.length_drop];omega
 obtain⟨n1,n2⟩:=Jr.num_bound (a0.take 4) fun x hx=>hb x (List.mem_of_mem_take hx)
 obtain⟨p1,p2⟩:=Jr.num_bound ((a0.drop 4).take 2) fun x hx=>hb x (List.mem_of_mem_drop (List.mem_of_mem_take hx))
 obtain⟨q1,q2⟩:=Jr.num_bound ((a0.drop 6).take 2) fun x hx=>hb x (List.mem_of_mem_drop (List.mem_of_mem_take hx))
 rw [l4,show(256:Int)^4=4294967296 from rfl] at n2
 rw [l2,show(256:Int)^2=65536 from rfl] at p2
 rw [l2',show(256:Int)^2=65536 from rfl] at q2
 have e56:(a0.drop 56).take 8=a0.drop 56:=List.take_of_length_le (by rw [List.length_drop];omega)
 have hm:(if (48:Int) < Jr.num ((a0.drop 6).take 2) then (48:Int) else Jr.num ((a0.drop 6).take 2))=(Jr.fN a0:Int):=by
  rw [Jr.fN,Jr.fLeft];split <;> omega
 have hm48:Jr.fN a0≤48:=Nat.min_le_right _ _
 simp only [hm,e56]
 rw [cond_pos (by omega),cond_pos (by omega),cond_pos (by omega),i64w (x:=48-(Jr.fN a0:Int)) (by omega) (by omega),i64w (x:=8+(Jr.fN a0:Int)) (by omega) (by omega),i64w (x:=48*Jr.num ((a0.drop 4).take 2)) (by omega) (by omega),i64w (x:=48*Jr.num ((a0.drop 4).take 2)+Jr.num ((a0.drop 6).take 2)) (by omega) (by omega)]
 have t1:(48-(Jr.fN a0:Int)).toNat=48-Jr.fN a0:=by omega
 have t2:(8+(Jr.fN a0:Int)).toNat=8+Jr.fN a0:=by omega
 have t3:56-(8+Jr.fN a0)=48-Jr.fN a0:=by omega
 simp only [dec_and,t1,t2,t3,Bool.and_true]
 rw [cond_pos (by omega)]
 by_cases c1:(Sha.hash (a0.take 56)).take 8=a0.drop 56
 case neg=>
  have e:(!((Sha.hash (a0.take 56)).take 8==a0.drop 56))=true:=by simpa using c1
  rw [e,cond_true,Jr.unpack_not (.inr (.inl c1))]
  rfl
 have e:(!((Sha.hash (a0.take 56)).take 8==a0.drop 56))=false:=by simp [c1]
 rw [e,cond_false]
 by_cases c2:Jr.num (a0.take 4)=0
 ·rw [cond_pos c2,Jr.unpack_not (.inr (.inr (.inl (fun h=>by have:=h.1;rw [Jr.fNum] at this;omega))))]
  rfl
 by_cases c3:Jr.num (a0.take 4) > 4096
 ·rw [cond_neg c2,cond_pos c3,Jr.unpack_not (.inr (.inr (.inl (fun h=>by have:=h.2.1;rw [Jr.fNum] at this;omega))))]
  rfl
 by_cases c4:48*Jr.num ((a0.drop 4).take 2)+Jr.num ((a0.drop 6).take 2) > 8000
 ·rw [cond_neg c2,cond_neg c3,cond_pos c4,Jr.unpack_not (.inr (.inr (.inl (fun h=>by have:=h.2.2.1;rw [Jr.fPart,Jr.fLeft] at this;omega))))]
  rfl
 rw [cond_neg c2,cond_neg c3,cond_neg c4]
 by_cases c5:Jr.num ((a0.drop 6).take 2)=0∧Jr.num ((a0.drop 4).take 2) > 0
 ·rw [cond_pos c5.1,cond_pos c5.2,Jr.unpack_not (.inr (.inr (.inl (fun h=>by have:=h.2.2.2;rw [Jr.fPart,Jr.fLeft] at this;omega))))]
  rfl
 have hskip:∀ X Y:Rz,cond (decide (Jr.num ((a0.drop 6).take 2)=0)) (cond (decide (Jr.num ((a0.drop 4).take 2) > 0)) X Y) Y=Y:=fun X Y=>by
  by_cases h5:Jr.num ((a0.drop 6).take 2)=0
  ·rw [cond_pos h5,cond_neg (by omega)]
  ·rw [cond_neg h5]
 rw [hskip,cond_pos (by omega)]
 by_cases c7:(a0.drop (8+Jr.fN a0)).take (48-Jr.fN a0)=List.replicate (48-Jr.fN a0) 0
 ·have e7:(!((a0.drop (8+Jr.fN a0)).take (48-Jr.fN a0)==List.replicate (48-Jr.fN a0) 0))=false:=by simp [c7]
  rw [e7,cond_false,cond_pos (by omega),Jr.unpack_is hl c1 ⟨by rw [Jr.fNum];omega,by rw [Jr.fNum];omega,by rw [Jr.fPart,Jr.fLeft];omega,by rw [Jr.fPart,Jr.fLeft];omega⟩ c7,List.drop_take,show 8+Jr.fN a0-8=Jr.fN a0 by omega]
  rfl
 ·have e7:(!((a0.drop (8+Jr.fN a0)).take (48-Jr.fN a0)==List.replicate (48-Jr.fN a0) 0))=true:=by simpa using c7
  rw [e7,cond_true,Jr.unpack_not (.inr (.inr (.inr c7)))]
  rfl
theorem c30:CallOk Tryd.prog G36 30 r30:=callOk_of mixed tys eV30 Tryd.func30 (by kernel_rfl) (c:=sub (bodyOf Tryd.f30) []) (by kernel_rfl) (by
 intro X H r H' h hX hH
 unfold r30 at h;split at h <;> try contradiction
 ·obtain⟨hp,rfl,rfl⟩:=inj3 h
  obtain⟨F,hF⟩:=s30 _ (hX _ hm0)
  exact⟨Af30 F,(f30_body F _).trans hF⟩)
def lV8:List CEnt:=[(30,[none],r30)]
def V8:Env:=mkEnv T36 G36 lV8
noncomputable abbrev Kf50:=kFin V8 none (Tryd.f8).results.toList
theorem eV8:EOk Tryd.prog V8:=eok_mk (by exact⟨c30,trivial⟩)
def Af8(F:Nat):Cuts:={ F:=F,at_:=fun _=>none,join:=fun _=>none }
def ef8_a:Li→St:=fun a0=>⟨[(0,.str a0)],[],0,20,0⟩
def f8_1(F:Nat):Li→Rz:=fun a0=>(some ((.tup (.cons 0 (.int .i64 (Jr.unpack a0).number) (.cons 0 (.int .i64 (Jr.unpack a0).part) (.cons 0 (.int .i64 (Jr.unpack a0).left) (.cons 0 (.str (Jr.unpack a0).payload) (.cons 0 (.bool (Jr.unpack a0).ok) .nil)))))),[]))
theorem f8_1_eq(F:Nat):∀ v,aexec V8 (Af8 F) (sub (bodyOf Tryd.f8) []) (ef8_a v) Kf50=f8_1 F v:=by
 intro a0;kernel_rfl
def f8(F:Nat):Li→Rz:=f8_1 F
theorem f8_body(F:Nat)(a0:Li):abody V8 (Af8 F) Tryd.f8 [(.str a0)] []=f8 F a0:=
 (abody_in (c:=(sub (bodyOf Tryd.f8) [])) (by kernel_rfl) (s:=ef8_a a0) (by kernel_rfl)).trans (f8_1_eq F a0)
def r8:CRun:=fun X H=>match X,H with
 | [(.str a0)],[]=>some (true,(.tup (.cons 0 (.int .i64 (Jr.unpack a0).number) (.cons 0 (.int .i64 (Jr.unpack a0).part) (.cons 0 (.int .i64 (Jr.unpack a0).left) (.cons 0 (.str (Jr.unpack a0).payload) (.cons 0 (.bool (Jr.unpack a0).ok) .nil)))))),[])
 | _,_=>none
theorem s8(a0:Li)(h0:okV (.str a0)):∃ F,f8 F a0=some ((.tup (.cons 0 (.int .i64 (Jr.unpack a0).number) (.cons 0 (.int .i64 (Jr.unpack a0).part) (.cons 0 (.int .i64 (Jr.unpack a0).left) (.cons 0 (.str (Jr.unpack a0).payload) (.cons 0 (.bool (Jr.unpack a0).ok) .nil)))))),[]):=by
 refine⟨0,?_⟩
 simp only [f8,f8_1]
theorem c8:CallOk Tryd.prog G36 8 r8:=callOk_of mixed tys eV8 Tryd.func8 (by kernel_rfl) (c:=sub (bodyOf Tryd.f8) []) (by kernel_rfl) (by
 intro X H r H' h hX hH
 unfold r8 at h;split at h <;> try contradiction
 ·obtain⟨hp,rfl,rfl⟩:=inj3 h
  obtain⟨F,hF⟩:=s8 _ (hX _ hm0)
  exact⟨Af8 F,(f8_body F _).trans hF⟩)
end Go.Am
end
section
namespace Go.Am
open Go Go.Proofs
abbrev sp53:List (Nat×Md):=[(0,.plain),(4,.plain),(5,.own 29),(19,.plain),(20,.plain)]
abbrev sp54:List (Nat×Md):=[(4,.plain),(5,.plain),(11,.plain)]
abbrev sp55:List (Nat×Md):=[(0,.plain),(4,.plain),(5,.plain)]
abbrev sp56:List (Nat×Md):=[(0,.plain),(4,.plain),(5,.plain),(19,.plain),(20,.plain)]
abbrev sp57:List (Nat×Md):=[(4,.plain),(5,.plain)]
abbrev Ty50:=Int×Int×(Dk.D)×(Jr.J)
abbrev Ty51:=Nat×Int×Int×(List (List Li))×(Dk.D)×(Jr.J)
abbrev Ty52:=Nat×(List (List Li))×(Dk.D)×(Jr.J)
abbrev Ty53:=Nat×Int×(List (List Li))×(Dk.D)×(Jr.J)
def lV15:List CEnt:=[(30,[none],r30),(32,[none],r32),(33,[none,none],r33),(34,[some 65],r34),(35,[some 3,none],r35)]
def V15:Env:=mkEnv T36 G36 lV15
noncomputable abbrev Kf51:=kFin V15 none (Tryd.f15).results.toList
theorem eV15:EOk Tryd.prog V15:=eok_mk (by exact⟨c30,c32,c33,c34,c35,trivial⟩)
def Af15(F:Nat):Cuts:={ F:=F,at_:=fun n=>match n with | 4040=>some sp53 | 19024=>some sp54 | _=>none,join:=fun n=>match n with | 1081=>some [(0,.plain)] | 2079=>some [(0,.plain),(4,.plain)] | 3077=>some sp55 | 4042=>some sp56 | 18032=>some sp57 | 19026=>some sp54 | 26003=>some [(4,.plain)] | _=>none }
noncomputable abbrev XAf15(F:Nat){α:Type}:=@aexec α V15 (Af15 F)
def ef15_a:Ty26→St:=fun (a0n,a0b,a0p,a0w,a0o,a0l)=>⟨[(0,.ptr 0 0 5 0 0 0 5)],[(0,(dB 1 a0n 2 3 a0o a0l)),(1,(bB a0b)),(2,(pB a0p)),(3,(wB a0w))],4,140,4⟩
def ef15j1:(Dk.D)→St:=fun e1=>⟨[(0,.ptr 0 0 5 0 0 0 5)],[(0,(dE 1 e1 2 3)),(1,(bB e1.blk)),(2,(pB e1.pend)),(3,(wB e1.worn))],4,140,4⟩
def ef15j2:(Dk.D)×(Jr.J)→St:=fun (e1,e2)=>⟨[(0,.ptr 0 0 5 0 0 0 5),(4,.ptr 4 0 7 0 0 0 7)],[(0,(dE 1 e1 2 3)),(1,(bB e1.blk)),(2,(pB e1.pend)),(3,(wB e1.worn)),(4,(jE 0 5 5 6 7 e2)),(5,(iB e2.nums)),(6,(iB e2.bad)),(7,(sB e2.texts))],8,140,4⟩
def ef15j3:(Dk.D)×(Jr.J)→St:=fun (e1,e2)=>⟨[(0,.ptr 0 0 5 0 0 0 5),(4,.ptr 4 0 7 0 0 0 7),(5,.ns)],[(0,(dE 1 e1 2 3)),(1,(bB e1.blk)),(2,(pB e1.pend)),(3,(wB e1.worn)),(4,(jE 0 5 5 6 7 e2)),(5,(iB e2.nums)),(6,(iB e2.bad)),(7,(sB e2.texts))],8,140,4⟩
def ef15j4:Ty50→St:=fun (t19,t20,e1,e2)=>⟨[(0,.ptr 0 0 5 0 0 0 5),(4,.ptr 4 0 7 0 0 0 7),(5,.ns),(19,.int .i64 t19),(20,.int .i64 t20)],[(0,(dE 1 e1 2 3)),(1,(bB e1.blk)),(2,(pB e1.pend)),(3,(wB e1.worn)),(4,(jE 0 5 5 6 7 e2)),(5,(iB e2.nums)),(6,(iB e2.bad)),(7,(sB e2.texts))],8,140,4⟩
def ef15l1:Ty51→St:=fun (x1,t19,t20,x13,e1,e2)=>⟨[(0,.ptr 0 0 5 0 0 0 5),(4,.ptr 4 0 7 0 0 0 7),(5,.own 5 x1 5),(19,.int .i64 t19),(20,.int .i64 t20)],[(0,(dE 1 e1 2 3)),(1,(bB e1.blk)),(2,(pB e1.pend)),(3,(wB e1.worn)),(4,(jE 0 5 6 7 8 e2)),(5,(.cells (x1*5) (.rT [.int .i64,.int .i64,.int .i64,.str,.bool] x13) true)),(6,(iB e2.nums)),(7,(iB e2.bad)),(8,(sB e2.texts))],9,140,4⟩
def ef15j5:Ty52→St:=fun (x1,x11,e1,e2)=>⟨[(4,.ptr 4 0 7 0 0 0 7),(5,.own 5 x1 5)],[(0,(dE 1 e1 2 3)),(1,(bB e1.blk)),(2,(pB e1.pend)),(3,(wB e1.worn)),(4,(jE 0 5 6 7 8 e2)),(5,(.cells (x1*5) (.rT [.int .i64,.int .i64,.int .i64,.str,.bool] x11) true)),(6,(iB e2.nums)),(7,(iB e2.bad)),(8,(sB e2.texts))],9,140,4⟩
def ef15j6:Ty53→St:=fun (x1,t11,x12,e1,e2)=>⟨[(4,.ptr 4 0 7 0 0 0 7),(5,.own 5 x1 5),(11,.int .i64 t11)],[(0,(dE 1 e1 2 3)),(1,(bB e1.blk)),(2,(pB e1.pend)),(3,(wB e1.worn)),(4,(jE 0 5 6 7 8 e2)),(5,(.cells (x1*5) (.rT [.int .i64,.int .i64,.int .i64,.str,.bool] x12) true)),(6,(iB e2.nums)),(7,(iB e2.bad)),(8,(sB e2.texts))],9,140,4⟩
def ef15l2:Ty53→St:=ef15j6
def ef15j7:(Dk.D)×(Jr.J)→St:=fun (e1,e2)=>⟨[(4,.ptr 4 0 7 0 0 0 7)],[(0,(dE 1 e1 2 3)),(1,(bB e1.blk)),(2,(pB e1.pend)),(3,(wB e1.worn)),(4,(jE 0 5 5 6 7 e2)),(5,(iB e2.nums)),(6,(iB e2.bad)),(7,(sB e2.texts))],8,140,4⟩
def f15_1(F:Nat)(kj1:(Dk.D)→Rz):Ty26→Rz:=fun (a0n,a0b,a0p,a0w,a0o,a0l)=>(kj1 (Dk.D.mk a0n a0b a0p a0w a0o a0l))
theorem f15_1_eq(F:Nat)(Rj1:St→Rz):∀ v,XAf15 F (bp Tryd.f15 2) (ef15_a v) (kSeq (kc V15 Rj1 [(0,.plain)]) Kf51)=f15_1 F (Rj1∘ef15j1) v:=by
 rintro⟨a0n,a0b,a0p,a0w,a0o,a0l⟩;kernel_rfl
def f15_2(F:Nat)(kj2:(Dk.D)×(Jr.J)→Rz):(Dk.D)→Rz:=fun e1=>(kj2 (e1,(Jr.J.mk [] [] [] (1:Int) (0:Int) false)))
theorem f15_2_eq(F:Nat)(Rj2:St→Rz):∀ v,XAf15 F (bp Tryd.f15 6) (ef15j1 v) (kSeq (kc V15 Rj2 [(0,.plain),(4,.plain)]) Kf51)=f15_2 F (Rj2∘ef15j2) v:=by
 intro e1;kernel_rfl
def f15_3(F:Nat)(kj3:(Dk.D)×(Jr.J)→Rz):(Dk.D)×(Jr.J)→Rz:=fun (e1,e2)=>(kj3 (e1,e2))
theorem f15_3_eq(F:Nat)(Rj3:St→Rz):∀ v,XAf15 F (bp Tryd.f15 14) (ef15j2 v) (kSeq (kc V15 Rj3 sp55) Kf51)=f15_3 F (Rj3∘ef15j3) v:=by
 rintro⟨e1,e2⟩;kernel_rfl
def f15_4(F:Nat)(kj4:Ty50→Rz)(kj5:Ty52→Rz):(Dk.D)×(Jr.J)→Rz:=fun (e1,e2)=>(kj4 ((e1.n:Int),(0:Int),e1,e2))
theorem f15_4_eq(F:Nat)(Rj4 Rj5:St→Rz):∀ v,XAf15 F (bp Tryd.f15 60) (ef15j3 v) (kSeq (kc V15 Rj4 sp56) (kSeq (kc V15 Rj5 sp57) Kf51))=f15_4 F (Rj4∘ef15j4) (Rj5∘ef15j5) v:=by
 rintro⟨e1,e2⟩;kernel_rfl
def f15_5(F:Nat)(kl1:Ty51→Rz)(kj5:Ty52→Rz):Ty51→Rz:=fun (x1,t19,t20,x13,e1,e2)=>(cond (decide (t20 < t19)) (cond ((Dk.read e1 t20).2 != (0:Int)) (some ((.tup (.cons 0 .nilp (.cons 0 (.int .i64 (Dk.read e1 t20).2) .nil))),[(dE 1 e1 2 3),(bB e1.blk),(pB e1.pend),(wB e1.worn)])) (cond (decide ((x1+1) < 1073741824)) (cond ((↑(Dk.read e1 t20).1.length:Int)==(64:Int)) (cond (decide (64≤(Dk.read e1 t20).1.length)) (cond (!((((Dk.read e1 t20).1.take 64):Li)==(List.replicate 64 0))) (cond (!(Jr.unpack (Dk.read e1 t20).1).ok) (cond (!((((Dk.read e1 t20).1.take 64):Li)==(List.replicate 64 0))) (cond (decide ((e2.bad.length+1) < 1073741824)) (kl1 ((x1+1),t19,(IntKind.i64.wrap (t20+(1:Int))),(x13++[[[(Jr.unpack (Dk.read e1 t20).1).number],[(Jr.unpack (Dk.read e1 t20).1).part],[(Jr.unpack (Dk.read e1 t20).1).left],(Jr.unpack (Dk.read e1 t20).1).payload,[(cond (Jr.unpack (Dk.read e1 t20).1).ok 1 0)]]]),e1,(Jr.J.mk e2.nums e2.texts (e2.bad++[t20]) (if (IntKind.i64.wrap ((Jr.unpack (Dk.read e1 t20).1).number+(1:Int))) > e2.next then (IntKind.i64.wrap ((Jr.unpack (Dk.read e1 t20).1).number+(1:Int))) else e2.next) (IntKind.i64.wrap (t20+(1:Int))) e2.closed))) none) (kl1 ((x1+1),t19,(IntKind.i64.wrap (t20+(1:Int))),(x13++[[[(Jr.unpack (Dk.read e1 t20).1).number],[(Jr.unpack (Dk.read e1 t20).1).part],[(Jr.unpack (Dk.read e1 t20).1).left],(Jr.unpack (Dk.read e1 t20).1).payload,[(cond (Jr.unpack (Dk.read e1 t20).1).ok 1 0)]]]),e1,(Jr.J.mk e2.nums e2.texts e2.bad (if (IntKind.i64.wrap ((Jr.unpack (Dk.read e1 t20).1).number+(1:Int))) > e2.next then (IntKind.i64.wrap ((Jr.unpack (Dk.read e1 t20).1).number+(1:Int))) else e2.next) (IntKind.i64.wrap (t20+(1:Int))) e2.closed)))) (kl1 ((x1+1),t19,(IntKind.i64.wrap (t20+(1:Int))),(x13++[[[(Jr.unpack (Dk.read e1 t20).1).number],[(Jr.unpack (Dk.read e1 t20).1).part],[(Jr.unpack (Dk.read e1 t20).1).left],(Jr.unpack (Dk.read e1 t20).1).payload,[(cond (Jr.unpack (Dk.read e1 t20).1).ok 1 0)]]]),e1,(Jr.J.mk e2.nums e2.texts e2.bad (if (IntKind.i64.wrap ((Jr.unpack (Dk.read e1 t20).1).number+(1:Int))) > e2.next then (IntKind.i64.wrap ((Jr.unpack (Dk.read e1 t20).1).number+(1:Int))) else e2.next) (IntKind.i64.wrap (t20+(1:Int))) e2.closed)))) (cond (!(Jr.unpack (Dk.read e1 t20).1).ok) (cond (!((((Dk.read e1 t20).1.take 64):Li)==(List.replicate 64 0))) (cond (decide ((e2.bad.length+1) < 1073741824)) (kl1 ((x1+1),t19,(IntKind.i64.wrap (t20+(1:Int))),(x13++[[[(Jr.unpack (Dk.read e1 t20).1).number],[(Jr.unpack (Dk.read e1 t20).1).part],[(Jr.unpack (Dk.read e1 t20).1).left],(Jr.unpack (Dk.read e1 t20).1).payload,[(cond (Jr.unpack (Dk.read e1 t20).1).ok 1 0)]]]),e1,(Jr.J.mk e2.nums e2.texts (e2.bad++[t20]) (if (IntKind.i64.wrap ((Jr.unpack (Dk.read e1 t20).1).number+(1:Int))) > e2.next then (IntKind.i64.wrap ((Jr.unpack (Dk.read e1 t20).1).number+(1:Int))) else e2.next) e2.fin e2.closed))) none) (kl1 ((x1+1),t19,(IntKind.i64.wrap (t20+(1:Int))),(x13++[[[(Jr.unpack (Dk.read e1 t20).1).number],[(Jr.unpack (Dk.read e1 t20).1).part],[(Jr.unpack (Dk.read e1 t20).1).left],(Jr.unpack (Dk.read e1 t20).1).payload,[(cond (Jr.unpack (Dk.read e1 t20).1).ok 1 0)]]]),e1,(Jr.J.mk e2.nums e2.texts e2.bad (if (IntKind.i64.wrap ((Jr.unpack (Dk.read e1 t20).1).number+(1:Int))) > e2.next then (IntKind.i64.wrap ((Jr.unpack (Dk.read e1 t20).1).number+(1:Int))) else e2.next) e2.fin e2.closed)))) (kl1 ((x1+1),t19,(IntKind.i64.wrap (t20+(1:Int))),(x13++[[[(Jr.unpack (Dk.read e1 t20).1).number],[(Jr.unpack (Dk.read e1 t20).1).part],[(Jr.unpack (Dk.read e1 t20).1).left],(Jr.unpack (Dk.read e1 t20).1).payload,[(cond (Jr.unpack (Dk.read e1 t20).1).ok 1 0)]]]),e1,(Jr.J.mk e2.nums e2.texts e2.bad (if (IntKind.i64.wrap ((Jr.unpack (Dk.read e1 t20).1).number+(1:Int))) > e2.next then (IntKind.i64.wrap ((Jr.unpack (Dk.read e1 t20).1).number+(1:Int))) else e2.next) e2.fin e2.closed))))) none) (cond (!(Jr.unpack (Dk.read e1 t20).1).ok) (cond (decide ((e2.bad.length+1) < 1073741824)) (kl1 ((x1+1),t19,(IntKind.i64.wrap (t20+(1:Int))),(x13++[[[(Jr.unpack (Dk.read e1 t20).1).number],[(Jr.unpack (Dk.read e1 t20).1).part],[(Jr.unpack (Dk.read e1 t20).1).left],(Jr.unpack (Dk.read e1 t20).1).payload,[(cond (Jr.unpack (Dk.read e1 t20).1).ok 1 0)]]]),e1,(Jr.J.mk e2.nums e2.texts (e2.bad++[t20]) (if (IntKind.i64.wrap ((Jr.unpack (Dk.read e1 t20).1).number+(1:Int))) > e2.next then (IntKind.i64.wrap ((Jr.unpack (Dk.read e1 t20).1).number+(1:Int))) else e2.next) (IntKind.i64.wrap (t20+(1:Int))) e2.closed))) none) (kl1 ((x1+1),t19,(IntKind.i64.wrap (t20+(1:Int))),(x13++[[[(Jr.unpack (Dk.read e1 t20).1).number],[(Jr.unpack (Dk.read e1 t20).1).part],[(Jr.unpack (Dk.read e1 t20).1).left],(Jr.unpack (Dk.read e1 t20).1).payload,[(cond (Jr.unpack (Dk.read e1 t20).1).ok 1 0)]]]),e1,(Jr.J.mk e2.nums e2.texts e2.bad (if (IntKind.i64.wrap ((Jr.unpack (Dk.read e1 t20).1).number+(1:Int))) > e2.next then (IntKind.i64.wrap ((Jr.unpack (Dk.read e1 t20).1).number+(1:Int))) else e2.next) (IntKind.i64.wrap (t20+(1:Int))) e2.closed))))) none)) (kj5 (x1,x13,e1,e2)))
theorem f15_5_eq(F:Nat)(Rl1 Rj5:St→Rz):∀ v,XAf15 F (bp Tryd.f15 244) (ef15l1 v) (kSeq (kc V15 Rl1 sp53) (kBlock 0 (kSeq (kc V15 Rj5 sp57) Kf51)))=f15_5 F (Rl1∘ef15l1) (Rj5∘ef15j5) v:=by
 rintro⟨x1,t19,t20,x13,e1,e2⟩;kernel_rfl
def f15_6_i:Ty50→Nat×Int×Int×(List (List Li))×(Dk.D)×(Jr.J):=fun (t19,t20,e1,e2)=>(0,t19,t20,[],e1,e2)
def f15_6(F:Nat)(kj5:Ty52→Rz):Ty50→Rz:=fun v=>loopN (fun k=>f15_5 F k kj5) F (f15_6_i v)
theorem f15_6_eq(F:Nat)(Rj5:St→Rz):∀ v,XAf15 F (bp Tryd.f15 122) (ef15j4 v) (kBlock 0 (kSeq (kc V15 Rj5 sp57) Kf51))=f15_6 F (Rj5∘ef15j5) v:=
 loop_cut (by kernel_rfl) (by kernel_rfl) ef15j4 ef15l1 _ f15_6_i (fun k=>f15_5 F k (Rj5∘ef15j5))
  (by rintro⟨t19,t20,e1,e2⟩;kernel_rfl) (fun Rl1=>f15_5_eq F Rl1 Rj5)
def f15_7(F:Nat)(kj5:Ty52→Rz):Ty50→Rz:=f15_6 F kj5
theorem f15_7_eq(F:Nat)(Rj5:St→Rz):∀ v,XAf15 F (bp Tryd.f15 61) (ef15j4 v) (kSeq (kc V15 Rj5 sp57) Kf51)=f15_7 F (Rj5∘ef15j5) v:=fun v=>
 (block_in  (by kernel_rfl) _ _).trans (f15_6_eq F Rj5 v)
def f15_8(F:Nat)(kj5:Ty52→Rz):(Dk.D)×(Jr.J)→Rz:=fun v=>f15_4 F (f15_7 F kj5) kj5 v
theorem f15_8_eq(F:Nat)(Rj5:St→Rz):∀ v,XAf15 F (bp Tryd.f15 30) (ef15j3 v) (kSeq (kc V15 Rj5 sp57) Kf51)=f15_8 F (Rj5∘ef15j5) v:=
 seq_cut (by kernel_rfl) (by kernel_rfl) ef15j3 ef15j4 _ (fun k=>f15_4 F k (Rj5∘ef15j5)) (f15_7 F (Rj5∘ef15j5))
  (fun Rj4=>f15_4_eq F Rj4 Rj5) (f15_7_eq F Rj5)
def f15_9(F:Nat)(kj6:Ty53→Rz)(kj7:(Dk.D)×(Jr.J)→Rz):Ty52→Rz:=fun (x1,x11,e1,e2)=>(kj6 (x1,(0:Int),x11,e1,e2))
theorem f15_9_eq(F:Nat)(Rj6 Rj7:St→Rz):∀ v,XAf15 F (bp Tryd.f15 124) (ef15j5 v) (kSeq (kc V15 Rj6 sp54) (kSeq (kc V15 Rj7 [(4,.plain)]) Kf51))=f15_9 F (Rj6∘ef15j6) (Rj7∘ef15j7) v:=by
 rintro⟨x1,x11,e1,e2⟩;kernel_rfl
def f15_10(F:Nat)(kl2:Ty53→Rz)(kj7:(Dk.D)×(Jr.J)→Rz):Ty53→Rz:=fun (x1,t11,x12,e1,e2)=>(cond (decide (t11 < (↑x1:Int))) (cond (((decide (0≤t11))&&(decide (t11≤(↑x1:Int))))&&(decide ((↑x1:Int)≤(↑x1:Int)))) (cond ((decide (0 < ((x12.drop (Int.toNat t11)).take (x1-(Int.toNat t11))).length))&&(Jr.shortR ((x12.drop (Int.toNat t11)).take (x1-(Int.toNat t11))))) (cond (!(Jr.rec ((x12.drop (Int.toNat t11)).take (x1-(Int.toNat t11)))).2.2) (kl2 (x1,(IntKind.i64.wrap (t11+(1:Int))),x12,e1,e2)) (cond ((decide (0≤t11))&&(decide (t11 < (↑x1:Int)))) (cond (!(e2.nums.contains (((x12.getD (Int.toNat t11) []).getD 0 []).getD 0 0))) (cond ((decide (0≤t11))&&(decide (t11 < (↑x1:Int)))) (cond (decide ((e2.nums.length+1) < 1073741824)) (cond (decide ((e2.texts.length+1) < 1073741824)) (kl2 (x1,(IntKind.i64.wrap (t11+(Jr.rec ((x12.drop (Int.toNat t11)).take (x1-(Int.toNat t11)))).2.1)),x12,e1,(Jr.J.mk (e2.nums++[(((x12.getD (Int.toNat t11) []).getD 0 []).getD 0 0)]) (e2.texts++[(Jr.rec ((x12.drop (Int.toNat t11)).take (x1-(Int.toNat t11)))).1]) e2.bad e2.next e2.fin e2.closed))) none) none) none) (kl2 (x1,(IntKind.i64.wrap (t11+(Jr.rec ((x12.drop (Int.toNat t11)).take (x1-(Int.toNat t11)))).2.1)),x12,e1,e2))) none)) none) none) (kj7 (e1,e2)))
theorem f15_10_eq(F:Nat)(Rl2 Rj7:St→Rz):∀ v,XAf15 F (bp Tryd.f15 500) (ef15l2 v) (kSeq (kc V15 Rl2 sp54) (kBlock 2 (kSeq (kc V15 Rj7 [(4,.plain)]) Kf51)))=f15_10 F (Rl2∘ef15l2) (Rj7∘ef15j7) v:=by
 rintro⟨x1,t11,x12,e1,e2⟩;kernel_rfl
def f15_11_i:Ty53→Nat×Int×(List (List Li))×(Dk.D)×(Jr.J):=fun (x1,t11,x12,e1,e2)=>(x1,t11,x12,e1,e2)
def f15_11(F:Nat)(kj7:(Dk.D)×(Jr.J)→Rz):Ty53→Rz:=fun v=>loopN (fun k=>f15_10 F k kj7) F (f15_11_i v)
theorem f15_11_eq(F:Nat)(Rj7:St→Rz):∀ v,XAf15 F (bp Tryd.f15 250) (ef15j6 v) (kBlock 2 (kSeq (kc V15 Rj7 [(4,.plain)]) Kf51))=f15_11 F (Rj7∘ef15j7) v:=
 loop_cut (by kernel_rfl) (by kernel_rfl) ef15j6 ef15l2 _ f15_11_i (fun k=>f15_10 F k (Rj7∘ef15j7))
  (by rintro⟨x1,t11,x12,e1,e2⟩;kernel_rfl) (fun Rl2=>f15_10_eq F Rl2 Rj7)
def f15_12(F:Nat)(kj7:(Dk.D)×(Jr.J)→Rz):Ty53→Rz:=f15_11 F kj7
theorem f15_12_eq(F:Nat)(Rj7:St→Rz):∀ v,XAf15 F (bp Tryd.f15 125) (ef15j6 v) (kSeq (kc V15 Rj7 [(4,.plain)]) Kf51)=f15_12 F (Rj7∘ef15j7) v:=fun v=>
 (block_in  (by kernel_rfl) _ _).trans (f15_11_eq F Rj7 v)
def f15_13(F:Nat)(kj7:(Dk.D)×(Jr.J)→Rz):Ty52→Rz:=fun v=>f15_9 F (f15_12 F kj7) kj7 v
theorem f15_13_eq(F:Nat)(Rj7:St→Rz):∀ v,XAf15 F (bp Tryd.f15 62) (ef15j5 v) (kSeq (kc V15 Rj7 [(4,.plain)]) Kf51)=f15_13 F (Rj7∘ef15j7) v:=
 seq_cut (by kernel_rfl) (by kernel_rfl) ef15j5 ef15j6 _ (fun k=>f15_9 F k (Rj7∘ef15j7)) (f15_12 F (Rj7∘ef15j7))
  (fun Rj6=>f15_9_eq F Rj6 Rj7) (f15_12_eq F Rj7)
def f15_14(F:Nat):(Dk.D)×(Jr.J)→Rz:=fun (e1,e2)=>(some ((.tup (.cons 0 (.ptr 4 0 7 0 0 0 7) (.cons 0 (.int .i64 0) .nil))),[(dE 1 e1 2 3),(bB e1.blk),(pB e1.pend),(wB e1.worn),(jE 0 5 5 6 7 e2),(iB e2.nums),(iB e2.bad),(sB e2.texts)]))
theorem f15_14_eq(F:Nat):∀ v,XAf15 F (bp Tryd.f15 63) (ef15j7 v) Kf51=f15_14 F v:=by
 rintro⟨e1,e2⟩;kernel_rfl
def f15_15(F:Nat):Ty52→Rz:=fun v=>f15_13 F (f15_14 F) v
theorem f15_15_eq(F:Nat):∀ v,XAf15 F (bp Tryd.f15 31) (ef15j5 v) Kf51=f15_15 F v:=
 seq_cut (by kernel_rfl) (by kernel_rfl) ef15j5 ef15j7 _ (fun k=>f15_13 F k) (f15_14 F)
  (fun Rj7=>f15_13_eq F Rj7) (f15_14_eq F)
def f15_16(F:Nat):(Dk.D)×(Jr.J)→Rz:=fun v=>f15_8 F (f15_15 F) v
theorem f15_16_eq(F:Nat):∀ v,XAf15 F (bp Tryd.f15 15) (ef15j3 v) Kf51=f15_16 F v:=
 seq_cut (by kernel_rfl) (by kernel_rfl) ef15j3 ef15j5 _ (fun k=>f15_8 F k) (f15_15 F)
  (fun Rj5=>f15_8_eq F Rj5) (f15_15_eq F)
def f15_17(F:Nat):(Dk.D)×(Jr.J)→Rz:=fun v=>f15_3 F (f15_16 F) v
theorem f15_17_eq(F:Nat):∀ v,XAf15 F (bp Tryd.f15 7) (ef15j2 v) Kf51=f15_17 F v:=
 seq_cut (by kernel_rfl) (by kernel_rfl) ef15j2 ef15j3 _ (fun k=>f15_3 F k) (f15_16 F)
  (fun Rj3=>f15_3_eq F Rj3) (f15_16_eq F)
def f15_18(F:Nat):(Dk.D)→Rz:=fun v=>f15_2 F (f15_17 F) v
theorem f15_18_eq(F:Nat):∀ v,XAf15 F (bp Tryd.f15 3) (ef15j1 v) Kf51=f15_18 F v:=
 seq_cut (by kernel_rfl) (by kernel_rfl) ef15j1 ef15j2 _ (fun k=>f15_2 F k) (f15_17 F)
  (fun Rj2=>f15_2_eq F Rj2) (f15_17_eq F)
def f15_19(F:Nat):Ty26→Rz:=fun v=>f15_1 F (f15_18 F) v
theorem f15_19_eq(F:Nat):∀ v,XAf15 F (sub (bodyOf Tryd.f15) []) (ef15_a v) Kf51=f15_19 F v:=
 seq_cut (by kernel_rfl) (by kernel_rfl) ef15_a ef15j1 _ (fun k=>f15_1 F k) (f15_18 F)
  (fun Rj1=>f15_1_eq F Rj1) (f15_18_eq F)
def f15(F:Nat):Ty26→Rz:=f15_19 F
theorem f15_body(F a0n:Nat)(a0b:Li)(a0p a0w:Lp)(a0o:Bool)(a0l:Int):abody V15 (Af15 F) Tryd.f15 [(.ptr 0 0 5 0 0 0 5)] [(dB 1 a0n 2 3 a0o a0l),(bB a0b),(pB a0p),(wB a0w)]=f15 F (a0n,a0b,a0p,a0w,a0o,a0l):=
 (abody_in (by kernel_rfl) (by kernel_rfl)).trans (f15_19_eq F (a0n,a0b,a0p,a0w,a0o,a0l))
def r15:CRun:=fun X H=>match X,H with
 | [(.ptr 0 0 5 0 0 0 5)],[(.cells 5 (.segs (.cons 1 (.one (.own 1 a0n 64)) (.cons 1 (.one (.mp 2)) (.cons 1 (.one (.mp 3)) (.cons 1 (.one (.bool a0o)) (.cons 1 (.one (.int .i64 a0l)) .nil)))))) true),(.cells z1 (.rI .u8 a0b) true),(.cells 0 (.rM .i64 0 (.arr .u8 64) a0p) true),(.cells 0 (.rM .i64 0 .bool a0w) true)]=>some ((Dk.fine (Dk.D.mk a0n a0b a0p a0w a0o a0l))&&(!(Dk.D.mk a0n a0b a0p a0w a0o a0l).off),(.tup (.cons 0 (.ptr 4 0 7 0 0 0 7) (.cons 0 (.int .i64 0) .nil))),[(dE 1 (Dk.D.mk a0n a0b a0p a0w a0o a0l) 2 3),(.cells (Dk.D.mk a0n a0b a0p a0w a0o a0l).blk.length (.rI .u8 (Dk.D.mk a0n a0b a0p a0w a0o a0l).blk) true),(pB (Dk.D.mk a0n a0b a0p a0w a0o a0l).pend),(wB (Dk.D.mk a0n a0b a0p a0w a0o a0l).worn),(jE 0 5 5 6 7 (Jr.openS (Jr.secsD (Dk.D.mk a0n a0b a0p a0w a0o a0l)))),(.cells (Jr.openS (Jr.secsD (Dk.D.mk a0n a0b a0p a0w a0o a0l))).nums.length (.rI .i64 (Jr.openS (Jr.secsD (Dk.D.mk a0n a0b a0p a0w a0o a0l))).nums) true),(.cells (Jr.openS (Jr.secsD (Dk.D.mk a0n a0b a0p a0w a0o a0l))).bad.length (.rI .i64 (Jr.openS (Jr.secsD (Dk.D.mk a0n a0b a0p a0w a0o a0l))).bad) true),(.cells (Jr.openS (Jr.secsD (Dk.D.mk a0n a0b a0p a0w a0o a0l))).texts.length (.rS (Jr.openS (Jr.secsD (Dk.D.mk a0n a0b a0p a0w a0o a0l))).texts) true)])
 | _,_=>none
theorem s15(a0n:Nat)(a0b:Li)(a0p a0w:Lp)(a0o:Bool)(a0l:Int)(hp:((Dk.fine (Dk.D.mk a0n a0b a0p a0w a0o a0l))&&(!(Dk.D.mk a0n a0b a0p a0w a0o a0l).off))=true)(k0:okB (dB 1 a0n 2 3 a0o a0l))(k1:okB (bB a0b))(k2:okB (pB a0p))(k3:okB (wB a0w)):∃ F,f15 F (a0n,a0b,a0p,a0w,a0o,a0l)=some ((.tup (.cons 0 (.ptr 4 0 7 0 0 0 7) (.cons 0 (.int .i64 0) .nil))),[(dE 1 (Dk.D.mk a0n a0b a0p a0w a0o a0l) 2 3),(.cells (Dk.D.mk a0n a0b a0p a0w a0o a0l).blk.length (.rI .u8 (Dk.D.mk a0n a0b a0p a0w a0o a0l).blk) true),(pB (Dk.D.mk a0n a0b a0p a0w a0o a0l).pend),(wB (Dk.D.mk a0n a0b a0p a0w a0o a0l).worn),(jE 0 5 5 6 7 (Jr.openS (Jr.secsD (Dk.D.mk a0n a0b a0p a0w a0o a0l)))),(.cells (Jr.openS (Jr.secsD (Dk.D.mk a0n a0b a0p a0w a0o a0l))).nums.length (.rI .i64 (Jr.openS (Jr.secsD (Dk.D.mk a0n a0b a0p a0w a0o a0l))).nums) true),(.cells (Jr.openS (Jr.secsD (Dk.D.mk a0n a0b a0p a0w a0o a0l))).bad.length (.rI .i64 (Jr.openS (Jr.secsD (Dk.D.mk a0n a0b a0p a0w a0o a0l))).bad) true),(.cells (Jr.openS (Jr.secsD (Dk.D.mk a0n a0b a0p a0w a0o a0l))).texts.length (.rS (Jr.openS (Jr.secsD (Dk.D.mk a0n a0b a0p a0w a0o a0l))).texts) true)]):=by
 obtain⟨hf,ho⟩:=Bool.and_eq_true_iff.1 hp
 have ho:a0o=false:=by simpa using ho
 obtain⟨⟨f1,f2,f3,f4⟩,_⟩:=Dk.fine_iff hf
 have hok:Jr.DOk (Dk.D.mk a0n a0b a0p a0w a0o a0l):=⟨f1,f2,ho,fun e he=>Dk.vals64 k2 e he,fun x hx=>by have:=(okR_rI k1).2 x hx;exact⟨(has_u8 this).1,by have:=(has_u8 this).2;omega⟩,
  fun e he x hx=>by have:=(okR_rI (k2.1 e he).2).2 x hx;exact⟨(has_u8 this).1,by have:=(has_u8 this).2;omega⟩⟩
 have f1:a0n < 8000:=f1
 have hSl:(Jr.secsD (Dk.D.mk a0n a0b a0p a0w a0o a0l)).length=a0n:=by simp [Jr.secsD]
 have hrd:=fun i (h:i < a0n)=>Jr.read_ok hok (i:=i) h
 obtain⟨S,hS⟩:∃ S,S=Jr.secsD (Dk.D.mk a0n a0b a0p a0w a0o a0l):=⟨_,rfl⟩
 rw [← hS] at hSl hrd ⊢
 have hSb:∀ s∈S,∀ x∈s,0≤x:=fun s hs x hx=>by
  obtain⟨i,hi,rfl⟩:=List.mem_iff_getElem.1 hs
  obtain⟨_,_,h3,h4⟩:=hrd i (by omega)
  rw [List.getD_eq_getElem?_getD,List.getElem?_eq_getElem hi] at h4
  rw [h4] at h3
  exact(h3 x hx).1
 refine⟨8001,?_⟩
 simp only [f15,f15_19,f15_1,f15_18,f15_2,f15_17,f15_3,f15_16,f15_8,f15_4,f15_7,f15_6,f15_6_i]
 refine loopN_from (fun i=>(i,(a0n:Int),(i:Int),Jr.rowsOf (S.take i),(Dk.D.mk a0n a0b a0p a0w a0o a0l),Jr.J.mk [] [] (Jr.badOf S i) (Jr.nextOf S i) (Jr.finOf S i) false)) a0n rfl (fun i hi q=>?_) (fun q=>?_) 8001 (by omega)
 ·obtain⟨h1,h2,h3,h4⟩:=hrd i hi
  have hg:S.getD i []=(Dk.read (Dk.D.mk a0n a0b a0p a0w a0o a0l) (i:Int)).1:=h4.symm
  have hrow:Jr.rowsOf (S.take (i+1))=Jr.rowsOf (S.take i)++[(Jr.unpack (Dk.read (Dk.D.mk a0n a0b a0p a0w a0o a0l) (i:Int)).1).row]:=by
   rw [← hg,List.take_add_one,Jr.rowsOf,List.map_append,List.getElem?_eq_getElem (by omega),List.getD_eq_getElem?_getD,List.getElem?_eq_getElem (by omega)];rfl
  have hnx:Jr.nextOf S (i+1)=if (Jr.unpack (S.getD i [])).number+1 > Jr.nextOf S i then (Jr.unpack (S.getD i [])).number+1 else Jr.nextOf S i:=rfl
  have hfn:Jr.finOf S (i+1)=cond (Jr.blank (S.getD i [])) (Jr.finOf S i) ((i:Int)+1):=rfl
  have hbl:=Jr.badOf_len S i
  simp only [f15_5]
  rw [cond_pos (by omega),h1]
  simp only [hrow,hnx,hfn,Jr.badOf_succ,hg]
  have hnum:=Jr.unpack_num (Dk.read (Dk.D.mk a0n a0b a0p a0w a0o a0l) (i:Int)).1 (fun x hx=>(h3 x hx).1)
  rw [show(((0:Int) != 0)=false) from rfl,cond_false,cond_pos (by omega),show(((Dk.read (Dk.D.mk a0n a0b a0p a0w a0o a0l) (i:Int)).1.length:Int)==64)=true by rw [h2];rfl,cond_true,cond_pos (by omega),Jr.blank64 h2,i64w (x:=(i:Int)+1) (by omega) (by omega),i64w (x:=(Jr.unpack (Dk.read (Dk.D.mk a0n a0b a0p a0w a0o a0l) (i:Int)).1).number+1) (by omega) (by omega)]
  rw [cond_pos (by omega)]
  cases Jr.blank (Dk.read (Dk.D.mk a0n a0b a0p a0w a0o a0l) (i:Int)).1 <;> cases hk:(Jr.unpack (Dk.read (Dk.D.mk a0n a0b a0p a0w a0o a0l) (i:Int)).1).ok <;> simp only [Bool.not_false,Bool.not_true,cond_true,cond_false,Bool.and_true,Bool.and_false,Bool.true_and,Bool.false_and,List.append_nil,Jr.Part.row,hk,Jr.b2i] <;> rfl
 simp only [f15_5]
 rw [cond_neg (by omega),List.take_of_length_le (by omega)]
 simp only [f15_15,f15_13,f15_14,f15_9,f15_12,f15_11,f15_11_i]
 have hopen:Jr.openS S=Jr.J.mk (Jr.collect (S.map Jr.unpack) a0n 0 ([],[])).1 (Jr.collect (S.map Jr.unpack) a0n 0 ([],[])).2 (Jr.badOf S a0n) (Jr.nextOf S a0n) (Jr.finOf S a0n) false:=by rw [Jr.openS,hSl]
 rw [hopen]
 obtain⟨T,hT⟩:∃ T,T=Jr.collect (S.map Jr.unpack) a0n 0 ([],[]):=⟨_,rfl⟩
 rw [← hT]
 refine loopN_ind (fun m s=>∃ (k:Nat) (a:List Int×List Li),s=(a0n,(k:Int),Jr.rowsOf S,(Dk.D.mk a0n a0b a0p a0w a0o a0l),Jr.J.mk a.1 a.2 (Jr.badOf S a0n) (Jr.nextOf S a0n) (Jr.finOf S a0n) false)∧k≤a0n∧a0n-k≤m∧a.1.length≤k∧a.2.length≤k∧Jr.collect (S.map Jr.unpack) m k a=T) (fun m s K hi hk=>?_) 8001 a0n _ (by omega) ⟨0,([],[]),rfl,by omega,by omega,by simp,by simp,hT.symm⟩
 obtain⟨k,a,rfl,hle,hm,hl1,hl2,hc⟩:=hi
 simp only [f15_10,Int.toNat_natCast,dec_and]
 by_cases hlt:k < a0n
 ·obtain⟨m',rfl⟩:∃ m',m=m'+1:=⟨m-1,by omega⟩
  have hrl:(Jr.rowsOf S).length=a0n:=by simp [Jr.rowsOf,hSl]
  have htk:((Jr.rowsOf S).drop k).take (a0n-k)=(Jr.rowsOf S).drop k:=List.take_of_length_le (by rw [List.length_drop];omega)
  have hnum:(((Jr.rowsOf S).getD k []).getD 0 []).getD 0 0=(Jr.pt (S.map Jr.unpack) k).number:=by
   have e1:(Jr.rowsOf S).getD k []=(Jr.unpack (S.getD k [])).row:=by
    rw [Jr.rowsOf,List.getD_eq_getElem?_getD,List.getElem?_map,List.getElem?_eq_getElem (by omega),List.getD_eq_getElem?_getD,List.getElem?_eq_getElem (by omega)];rfl
   have e2:Jr.pt (S.map Jr.unpack) k=Jr.unpack (S.getD k []):=by
    rw [Jr.pt,List.getD_eq_getElem?_getD,List.getElem?_map,List.getElem?_eq_getElem (by omega),List.getD_eq_getElem?_getD,List.getElem?_eq_getElem (by omega)];rfl
   rw [e1,e2];rfl
  rw [cond_pos (by omega),cond_pos (by omega)]
  simp only [htk,Jr.short_rows,Bool.and_true,hnum,Jr.rec_rows (show k≤S.length by omega)]
  rw [cond_pos (by rw [List.length_drop];omega)]
  rw [Jr.collect,cond_pos (show k < (S.map Jr.unpack).length by rw [List.length_map];omega)] at hc
  cases hr:Jr.recOk (S.map Jr.unpack) k with
  | false=>
   rw [hr,cond_false] at hc
   simp only [cond_false,Bool.not_false,cond_true]
   rw [i64w (x:=(k:Int)+1) (by omega) (by omega)]
   exact hk m' _ (by omega) ⟨k+1,a,rfl,by omega,by omega,by omega,by omega,hc⟩
  | true=>
   rw [hr,cond_true] at hc
   obtain⟨r1,r2⟩:=Jr.recN_pos hSb hr
   simp only [cond_true,Bool.not_true,cond_false]
   rw [cond_pos (by omega),i64w (x:=(k:Int)+(Jr.recN (S.map Jr.unpack) k:Int)) (by omega) (by omega)]
   simp only [Jr.put1] at hc
   cases hcn:a.1.contains (Jr.pt (S.map Jr.unpack) k).number with
   | true=>
    rw [hcn,cond_true] at hc
    simp only [Bool.not_true,cond_false]
    exact hk m' _ (by omega) ⟨k+Jr.recN (S.map Jr.unpack) k,a,by simp,by omega,by omega,by omega,by omega,hc⟩
   | false=>
    rw [hcn,cond_false] at hc
    simp only [Bool.not_false,cond_true]
    rw [cond_pos (by omega),cond_pos (by omega),cond_pos (by omega)]
    exact hk m' _ (by omega) ⟨k+Jr.recN (S.map Jr.unpack) k,(a.1++[(Jr.pt (S.map Jr.unpack) k).number],a.2++[Jr.recText (S.map Jr.unpack) k (Jr.recN (S.map Jr.unpack) k)]),by simp,by omega,by omega,by simp only [List.length_append,List.length_singleton];omega,by simp only [List.length_append,List.length_singleton];omega,hc⟩
 ·rw [cond_neg (by omega)]
  have:k=a0n:=by omega
  subst this
  have hTa:T=a:=by
   rw [← hc]
   cases m with
   | zero=>rfl
   | succ m=>rw [Jr.collect,cond_neg (by rw [List.length_map];omega)]
  rw [hTa];rfl
theorem c15:CallOk Tryd.prog G36 15 r15:=callOk_of mixed tys eV15 Tryd.func15 (by kernel_rfl) (c:=sub (bodyOf Tryd.f15) []) (by kernel_rfl) (by
 intro X H r H' h hX hH
 unfold r15 at h;split at h <;> try contradiction
 ·obtain⟨hp,rfl,rfl⟩:=inj3 h
  obtain rfl:=okB_size (hH _ hm1) rfl
  obtain⟨F,hF⟩:=s15 _ _ _ _ _ _ hp (hH _ hm0) (hH _ hm1) (hH _ hm2) (hH _ hm3)
  exact⟨Af15 F,(f15_body F _ _ _ _ _ _).trans hF⟩)
end Go.Am
end