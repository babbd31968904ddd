/- Part of a proof. -/
import Derived.Test.YtgdibbphgdkllaaAmWf
import Derived.Shelf.SortM.Plain
import Derived.Shelf.SortM.SortNone
import Derived.Test.YtgdibbphgdkllaaAmReg3
set_option linter.unusedSimpArgs false
set_option linter.unusedVariables false
section
/- slices.Sort of integers in place: the kit's contract, as a contract of the machine's. -/
namespace Go.Am
open Go Go.Proofs Go.RowKit Go.Maps Go.Sort Go.Shelf
variable {P : Program} {w : World}
def sortI(l:List Int):List Int:=l.mergeSort fun x y=>decide (x≤y)
theorem sortI_len(l:List Int):(sortI l).length=l.length:=List.length_mergeSort _
theorem sortI_perm(l:List Int):(sortI l).Perm l:=List.mergeSort_perm _ _
theorem Sim.below{U:Oth}{G:Nat→Option AV}{w0:World}{W0:Nat→Prop}{ρ:Rho}{s:St}{a:Act}{w':World}(h:Sim U G w0 W0 ρ s a w)(hb:Below w.heap.size w w'):Sim U G w0 W0 ρ s a w':=
 h.step (fun b hlt _=>hb.block b hlt) (fun b hb=>.inl hb) (fun _ _ h=>h) hb.size ⟨hb.os,hb.output,hb.tape⟩
  (fun id n r b hl=>(h.bl id n r b hl).keep (fun b hlt _=>hb.block b hlt) (fun b hb=>.inl hb) (fun _ _ h=>h) hb.size (fun L _ hlt=>hb.block _ hlt) (fun L _ c hc=>⟨hb.block _ (h.xk.l _ _ hc),rfl⟩)) h.sep h.dom h.su (h.xk.step hb.size (fun _ _ h=>h) fun id n r c L h1 h2=>.inl ⟨id,n,r,c,L,h1,h2,rfl⟩)
def runSort:List AV→List Blk→Option (Bool×AV×List Blk)
 | [.own 0 0 1],[.cells n (.rI .i64 xs) true]=>some (decide (xs.length < 1073741824),.tup .nil,[.cells n (.rI .i64 (sortI xs)) true])
 | _,_=>none
theorem grow_below(w:World)(os:Array Obj):Below w.heap.size w (grow w os):=
 ⟨rfl,rfl,rfl,by simp,fun k hk=>heap_grow_old w os hk⟩
theorem putRow_at{w:World}{b off:Nat}{d:Array Int}{c:Array Value}{t:TypeId}{fr:Nat×Nat}(hb:w.heap[b]?=some (.cells c t fr)):(putRow (Value.int .i64) w b off d).heap[b]?=some (.cells (putCells (Value.int .i64) off d c) t fr):=by
 simp [putRow,mapBlock,Array.getElem?_modify,hb,onCells]
theorem putRow_other{w:World}{b off:Nat}{d:Array Int}{k:Nat}(hk:k≠b):(putRow (Value.int .i64) w b off d).heap[k]?=w.heap[k]?:=by
 simp [putRow,mapBlock,Array.getElem?_modify,Ne.symm hk]
theorem sort_ok{G:Nat→Option AV}{ρs:Ren}(Ly:SlLaysM.n5 P ρs):CallOk P G (ρs.f 5) runSort where
 there:=by
  obtain⟨nm,h1,h2⟩:=Ly.f5
  exact⟨_,h2,h1,rfl⟩
 does:=by
  intro A H r H' hr U w ρ args hU hs hA
  unfold runSort at hr
  split at hr <;> try contradiction
  rename_i n xs
  simp only [Option.some.injEq,Prod.mk.injEq,decide_eq_true_eq] at hr
  obtain⟨hp,rfl,rfl⟩:=hr
  match args,hA with
  | ⟨[x]⟩,hA=>
   have hx:Rep w (Wr U ρ (tagH 0 [.cells n (.rI .i64 xs) true])) ρ (.own 0 0 1) x:=hA.1
   have b0:=hs.bl 0 n (.rI .i64 xs) true rfl
   have hsz:xs.length=n:=b0.size
   cases hx with
   | own0 _ _ a hl=>
    have hn:n=0:=by
     rcases b0.lies with ⟨_,h2⟩ | ⟨L,h1,_⟩
     ·exact h2
     ·rw [hl] at h1;cases h1
    have hxs:xs=[]:=List.eq_nil_of_length_eq_zero (by omega)
    subst hxs
    refine(AnyM.slices_Sort_int_none Ly a 0 w).mono ?_
    rintro e w' ⟨rfl,rfl⟩
    refine⟨_,ρ,rfl,?_,.tup .nil #[] rfl (fun j hj=>by cases hj)⟩
    have e:sortI []=[]:=by simp [sortI]
    rw [e];exact hs
   | own _ _ _ l cap L hL hn hk hcap hS h0 hm=>
    obtain⟨q1,q2,q3,q4⟩:L.n=n∧(∀ j,j < n → ∃ v,w.cell? ⟨L.b,L.base+j,none⟩=some v∧Rep w (Wr U ρ (hst [.cells n (.rI .i64 xs) true]).heap) ρ ((AV.rI .i64 xs).cell j) v)∧Mine w L∧L.b < w.heap.size:=by
     rcases b0.lies with ⟨h1,_⟩ | ⟨L',h1,h2,h3,h4,h5⟩
     ·rw [h1] at hL;cases hL
     ·rw [h1] at hL;cases hL;exact⟨h2,h3,h4 rfl rfl,h5⟩
    have hl:l=xs.length:=by omega
    subst hl
    obtain⟨c,t,fr,m1,m2,m3,m4⟩:=q3
    have hcell:∀ j,j < xs.length→w.cell? ⟨L.b,L.base+j,none⟩=some (.int .i64 (xs.getD j 0)):=fun j hj=>by
     obtain⟨v,g1,g2⟩:=q2 j (by omega)
     have g3:Rep w (Wr U ρ (hst [.cells n (.rI .i64 xs) true]).heap) ρ (.int .i64 (xs.getD j 0)) v:=g2
     cases g3;exact g1
    have hhas:∀ x∈xs,IntKind.i64.has x:=fun x hx=>by
     obtain⟨j,hj,rfl⟩:=List.mem_iff_getElem.1 hx
     obtain⟨v,g1,g2⟩:=q2 j (by omega)
     have g3:Rep w (Wr U ρ (hst [.cells n (.rI .i64 xs) true]).heap) ρ (.int .i64 (xs.getD j 0)) v:=g2
     cases g3 with | int _ _ h=>rw [List.getD_eq_getElem?_getD,List.getElem?_eq_getElem hj] at h;exact h
    have hH:Holds (Value.int .i64) w L.b L.base xs.toArray:=fun j hj=>by
     have hj':j < xs.length:=by simpa using hj
     refine⟨?_,?_⟩
     ·rw [hcell j hj',List.getD_eq_getElem?_getD,List.getElem?_eq_getElem hj']
      simp [hj']
     ·have:=m4 (L.base+j) (by have:=m3.2;omega)
      exact this
    refine(AnyM.slices_Sort_int Ly L.b L.base cap xs w hH q4 hm).mono ?_
    rintro e w' ⟨rfl,k,os,rfl⟩
    have hlen:(sortI xs).length=n:=by rw [sortI_len];exact hsz
    have hA0:Holds (Value.int .i64) (Go.Sort.ahead w k) L.b L.base xs.toArray:=hH
    have hR:=hs.rewrite (id:=0) (n:=n) (r:=.rI .i64 xs) (r':=.rI .i64 (sortI xs)) (L:=L) (w':=putRow (Value.int .i64) (Go.Sort.ahead w k) L.b L.base (sortI xs).toArray) rfl hL ⟨rfl,rfl,rfl⟩ trivial hlen (by rw [size_putRow];rfl)
     (fun b hb=>by rw [putRow_other hb];rfl)
     (by
      refine⟨_,t,fr,putRow_at (c:=c) m1,⟨?_,m2.2⟩,m3,fun j hj=>?_⟩
      ·simp only [putCells,Array.size_mapIdx];exact m2.1
      ·rw [frozen?_putRow];exact m4 j hj)
     (fun j hj=>by
      refine⟨.int .i64 ((sortI xs).getD j 0),?_,?_⟩
      ·have:=cell?_putRow (Value.int .i64) (Go.Sort.ahead w k) L.b L.base xs.toArray (sortI xs).toArray hA0 (by simp [sortI_len]) j (by simp;omega)
       rw [this,List.getD_eq_getElem?_getD,List.getElem?_eq_getElem (by omega)]
       simp [show j < (sortI xs).length by omega]
      ·refine .int .i64 _ (hhas _ ((sortI_perm xs).mem_iff.1 ?_))
       rw [List.getD_eq_getElem?_getD,List.getElem?_eq_getElem (by omega)]
       exact List.getElem_mem _)
     (fun t ht=>by cases ht)
    have hG:=hR.1.below (grow_below _ os)
    refine⟨_,ρ,rfl,?_,.tup .nil #[] rfl (fun j hj=>by cases hj)⟩
    refine Sim.eqv (V:={ T:=[],G:=G,E:=fun _=>none }) hG ⟨fun d=>rfl,fun i=>?_,fun i=>?_,rfl,rfl,rfl⟩
    ·cases i <;> rfl
    ·cases i <;> rfl
end Go.Am
end
section
/- Plain laws for the regions: moves, shares and needed hosts. -/
namespace Go.Am.Reg
open Go Go.Am
def mvAt(a b:List Int)(d:Nat):List Int:=if a.getD d 0=b.getD d 0 then [] else [(d:Int),a.getD d 0,b.getD d 0]
def compact:List Int→List Int
 | []=>[]
 | [x]=>[x]
 | x :: y :: l=>if x=y then compact (y :: l) else x :: compact (y :: l)
def compactZ(l:List Int):List Int:=compact l++List.replicate (l.length-(compact l).length) 0
def owned(g o:List Int):List Int:=(g.filter fun d=>decide (0≤d)&&(decide (d < (o.length:Int))&&decide (0≤o.getD d.toNat 0))).map fun d=>o.getD d.toNat 0
def need(g o:List Int):List Int:=compact (sortI (owned g o))
theorem owned_le(g o:List Int):(owned g o).length≤g.length:=by
 unfold owned;rw [List.length_map];exact List.length_filter_le _ _
theorem take_snoc{g:List Int}{i:Nat}(hi:i < g.length):g.take (i+1)=g.take i++[g.getD i 0]:=by
 rw [List.take_add_one,List.getElem?_eq_getElem hi,List.getD_eq_getElem?_getD,List.getElem?_eq_getElem hi];rfl
theorem owned_succ{g:List Int}(o:List Int){i:Nat}(hi:i < g.length):owned (g.take (i+1)) o=owned (g.take i) o++(if g.getD i 0≥0∧g.getD i 0 < (o.length:Int)∧o.getD (g.getD i 0).toNat 0≥0 then [o.getD (g.getD i 0).toNat 0] else []):=by
 rw [take_snoc hi]
 generalize g.getD i 0=d
 unfold owned
 rw [List.filter_append,List.map_append]
 congr 1
 by_cases h:d≥0∧d < (o.length:Int)∧o.getD d.toNat 0≥0
 ·rw [if_pos h]
  have e:(decide (0≤d)&&(decide (d < (o.length:Int))&&decide (0≤o.getD d.toNat 0)))=true:=by simp only [Bool.and_eq_true,decide_eq_true_eq];exact h
  simp only [List.filter_cons,e,if_true,List.filter_nil,List.map_cons,List.map_nil]
 ·rw [if_neg h]
  have e:(decide (0≤d)&&(decide (d < (o.length:Int))&&decide (0≤o.getD d.toNat 0)))=false:=by
   rw [Bool.eq_false_iff];intro h';simp only [Bool.and_eq_true,decide_eq_true_eq] at h';exact h h'
  simp only [List.filter_cons,e,Bool.false_eq_true,if_false,List.filter_nil,List.map_nil]
theorem mem_compact{x:Int}:∀ {l:List Int},x∈compact l↔x∈l
 | []=>Iff.rfl
 | [_]=>Iff.rfl
 | a :: b :: l=>by
  have ih:=mem_compact (x:=x) (l:=b :: l)
  by_cases h:a=b
  ·subst h
   rw [compact,if_pos rfl,ih];simp
  ·rw [compact,if_neg h,List.mem_cons,ih,List.mem_cons (a:=x) (b:=a)]
theorem compact_lt:∀ {l:List Int},l.Pairwise (· ≤ ·)→(compact l).Pairwise (· < ·)
 | [],_=>.nil
 | [_],_=>List.pairwise_singleton _ _
 | a :: b :: l,h=>by
  obtain⟨h1,h2⟩:=List.pairwise_cons.1 h
  by_cases hab:a=b
  ·rw [compact,if_pos hab];exact compact_lt h2
  ·rw [compact,if_neg hab]
   refine List.pairwise_cons.2 ⟨fun x hx=>?_,compact_lt h2⟩
   have hx':=mem_compact.1 hx
   have hb:=h1 b (by simp)
   rcases List.mem_cons.1 hx' with rfl | hx''
   ·omega
   ·have:=(List.pairwise_cons.1 h2).1 x hx''
    omega
theorem lt_unique:∀ {a b:List Int},a.Pairwise (· < ·)→b.Pairwise (· < ·)→(∀ x,x∈a↔x∈b)→a=b
 | [],[],_,_,_=>rfl
 | [],y :: b,_,_,h=>absurd ((h y).2 (by simp)) (by simp)
 | x :: a,[],_,_,h=>absurd ((h x).1 (by simp)) (by simp)
 | x :: a,y :: b,ha,hb,h=>by
  obtain⟨a1,a2⟩:=List.pairwise_cons.1 ha
  obtain⟨b1,b2⟩:=List.pairwise_cons.1 hb
  have e:x=y:=by
   have p:=(h x).1 (by simp)
   have q:=(h y).2 (by simp)
   rcases List.mem_cons.1 p with p | p
   ·exact p
   rcases List.mem_cons.1 q with q | q
   ·exact q.symm
   have:=b1 x p
   have:=a1 y q
   omega
  subst e
  congr 1
  refine lt_unique a2 b2 fun z=>?_
  have hz:=h z
  simp only [List.mem_cons] at hz
  constructor
  ·intro hz1
   rcases hz.1 (.inr hz1) with e | e
   ·have:=a1 z hz1;omega
   ·exact e
  ·intro hz1
   rcases hz.2 (.inr hz1) with e | e
   ·have:=b1 z hz1;omega
   ·exact e
theorem sortI_le(l:List Int):(sortI l).Pairwise (· ≤ ·):=by
 have:=List.pairwise_mergeSort (le:=fun (x y:Int)=>decide (x≤y)) (fun a b c h1 h2=>by simp only [decide_eq_true_eq] at *;omega) (fun a b=>by simp only [Bool.or_eq_true,decide_eq_true_eq];omega) l
 exact this.imp fun h=>by simpa using h
theorem need_lt(g o:List Int):(need g o).Pairwise (· < ·):=compact_lt (sortI_le _)
theorem mem_need{g o:List Int}{x:Int}:x∈need g o↔x∈owned g o:=by
 unfold need;rw [mem_compact];exact(sortI_perm _).mem_iff
theorem compact_len:∀ (l:List Int),(compact l).length≤l.length
 | []=>Nat.le_refl _
 | [_]=>Nat.le_refl _
 | a :: b :: l=>by
  have ih:=compact_len (b :: l)
  by_cases h:a=b
  ·rw [compact,if_pos h];simp only [List.length_cons] at *;omega
  ·rw [compact,if_neg h];simp only [List.length_cons] at *;omega
theorem need_len(g o:List Int):(need g o).length≤g.length:=by
 unfold need
 exact Nat.le_trans (compact_len _) (by rw [sortI_len];exact owned_le g o)
theorem ins_at{L:List Int}(hL:L.Pairwise (· < ·)){x:Int}{k:Nat}(hk:k≤L.length)(h1:∀ j,j < k→L.getD j 0 < x)(h2:k < L.length→x < L.getD k 0):(L.take k++[x]++L.drop k).Pairwise (· < ·):=by
 have hd:L=L.take k++L.drop k:=(List.take_append_drop k L).symm
 rw [hd] at hL
 obtain⟨p1,p2,p3⟩:=List.pairwise_append.1 hL
 have ht:∀ a∈L.take k,a < x:=fun a ha=>by
  obtain⟨j,hj,rfl⟩:=List.mem_iff_getElem.1 ha
  rw [List.length_take] at hj
  have:=h1 j (by omega)
  rw [List.getD_eq_getElem?_getD,List.getElem?_eq_getElem (by omega)] at this
  rw [List.getElem_take];exact this
 have hdr:∀ b∈L.drop k,x < b:=fun b hb=>by
  cases hdk:L.drop k with
  | nil=>rw [hdk] at hb;cases hb
  | cons y t=>
   have hlen:k < L.length:=by
    have:=congrArg List.length hdk
    rw [List.length_drop,List.length_cons] at this;omega
   have hy:L.getD k 0=y:=by
    have e:(L.drop k)[0]?=some y:=by rw [hdk];rfl
    rw [List.getElem?_drop,Nat.add_zero] at e
    rw [List.getD_eq_getElem?_getD,e];rfl
   have hxy:=h2 hlen
   rw [hy] at hxy
   rw [hdk] at hb p2
   rcases List.mem_cons.1 hb with rfl | hb
   ·exact hxy
   ·have:=(List.pairwise_cons.1 p2).1 b hb
    omega
 refine List.pairwise_append.2 ⟨List.pairwise_append.2 ⟨p1,List.pairwise_singleton _ _,fun a ha b hb=>?_⟩,p2,fun a ha b hb=>?_⟩
 ·rw [List.mem_singleton.1 hb];exact ht a ha
 ·rcases List.mem_append.1 ha with ha | ha
  ·have:=ht a ha;have:=hdr b hb;omega
  ·rw [List.mem_singleton.1 ha];exact hdr b hb
theorem compact_snoc(x:Int):∀ (l:List Int) (y:Int),compact (l++[y]++[x])=compact (l++[y])++(if x=y then [] else [x])
 | [],y=>by
  show compact [y,x]=_
  by_cases h:x=y
  ·subst h;rw [if_pos rfl,compact,if_pos rfl];rfl
  ·rw [if_neg h,compact,if_neg (Ne.symm h)];rfl
 | z :: l,y=>by
  have ih:=compact_snoc x l y
  have key:∀ (w:Int) (t u:List Int),compact (w :: t++[x])=compact (w :: t)++u→compact (z :: (w :: t)++[x])=compact (z :: w :: t)++u:=fun w t u h=>by
   show compact (z :: w :: (t++[x]))=_
   rw [compact,compact]
   have h':compact (w :: (t++[x]))=compact (w :: t)++u:=h
   by_cases hz:z=w
   ·rw [if_pos hz,if_pos hz,h']
   ·rw [if_neg hz,if_neg hz,h'];rfl
  cases l with
  | nil=>exact key y [] _ ih
  | cons w l=>exact key w (l++[y]) _ ih
theorem compact_take{a:List Int}{i:Nat}(h0:0 < i)(hi:i < a.length):compact (a.take (i+1))=compact (a.take i)++(if a.getD i 0=a.getD (i-1) 0 then [] else [a.getD i 0]):=by
 obtain⟨j,rfl⟩:∃ j,i=j+1:=⟨i-1,by omega⟩
 rw [take_snoc hi,take_snoc (show j < a.length by omega),compact_snoc];rfl
theorem compactZ_of{l x:List Int}{t:Nat}(hx:x.length=l.length)(ht:t=(compact l).length)(hp:x.take t=compact l):
  x.take t++((List.replicate (x.length-t) (0:Int)).take (min (x.length-t) (x.length-t)))++x.drop (t+(min (x.length-t) (x.length-t)))=compactZ l:=by
 have hle:=compact_len l
 rw [hp,Nat.min_self,List.take_of_length_le (by simp),List.drop_of_length_le (by omega),List.append_nil,compactZ,hx,ht]
theorem compactZ_take{l:List Int}{t:Nat}(ht:t=(compact l).length):(compactZ l).take t=compact l:=by
 rw [compactZ,ht,List.take_left'];rfl
theorem compactZ_self{l:List Int}(h:compact l=l):compactZ l=l:=by
 rw [compactZ,h,Nat.sub_self];simp
theorem compactZ_len(l:List Int):(compactZ l).length=l.length:=by
 have:=compact_len l
 rw [compactZ,List.length_append,List.length_replicate];omega
end Go.Am.Reg
end
section
namespace Go.Am
open Go Go.Proofs
abbrev sp16:List (Nat×Md):=[(5,.plain)]
abbrev Ty15:=Li×Li×Int×Int
abbrev Ty20:=(List Li)×(List Li)
abbrev Ty21:=(List Li)×(List Li)×Int
abbrev Ty22:=Li×Int×Int×(List Li)
abbrev Ty23:=Li×Int×Int×Int×(List Li)
abbrev Ty24:=Li×Int×Int×Int×(List Li)×Li
abbrev Ty25:=Li×Int×Int×(List Li)×Li
def f30_1(F:Nat)(kf30j1:Ty20→Rz):Ty20→Rz:=fun (a0,a1)=>(kf30j1 (a0,a1))
def f30_2(F:Nat)(kf30j2:Ty20→Rz):Ty20→Rz:=fun (t0,t1)=>(cond ((↑t0.length:Int) != (↑t1.length:Int)) (some ((.bool false),[])) (kf30j2 (t0,t1)))
def f30_3(F:Nat)(kf30j3:Ty21→Rz)(kf30j4:Unit→Rz):Ty20→Rz:=fun (t0,t1)=>(kf30j3 (t0,t1,(0:Int)))
def f30_4(F:Nat)(kf30l1:Ty21→Rz)(kf30j4:Unit→Rz):Ty21→Rz:=fun (t0,t1,t5)=>(cond (decide (t5 < (↑t0.length:Int))) (cond ((decide (0≤t5))&&(decide (t5 < (↑t0.length:Int)))) (cond ((decide (0≤t5))&&(decide (t5 < (↑t1.length:Int)))) (cond (!(decide ((t0.getD (Int.toNat t5) [])=(t1.getD (Int.toNat t5) [])))) (some ((.bool false),[])) (kf30l1 (t0,t1,(IntKind.i64.wrap (t5+(1:Int)))))) none) none) (kf30j4 ()))
def f30_5_i:Ty21→(List Li)×(List Li)×Int:=fun (t0,t1,t5)=>(t0,t1,t5)
def f30_5(F:Nat)(kf30j4:Unit→Rz):Ty21→Rz:=fun v=>loopN (fun k=>f30_4 F k kf30j4) F (f30_5_i v)
def f30_6(F:Nat)(kf30j4:Unit→Rz):Ty21→Rz:=f30_5 F kf30j4
def f30_7(F:Nat)(kf30j4:Unit→Rz):Ty20→Rz:=fun v=>f30_3 F (f30_6 F kf30j4) kf30j4 v
def f30_8(F:Nat):Unit→Rz:=fun _=>(some ((.bool true),[]))
def f30_9(F:Nat):Ty20→Rz:=fun v=>f30_7 F (f30_8 F) v
def f30_10(F:Nat):Ty20→Rz:=fun v=>f30_2 F (f30_9 F) v
def f30_11(F:Nat):Ty20→Rz:=fun v=>f30_1 F (f30_10 F) v
def f30(F:Nat):Ty20→Rz:=f30_11 F
def f31_1(F:Nat)(kf31j1:Li×Int→Rz):Li×Int→Rz:=fun (a0,a1)=>(kf31j1 (a0,a1))
def f31_2(F:Nat)(kf31j2:Li×Int→Rz):Li×Int→Rz:=fun (t0,t1)=>(kf31j2 (t0,t1))
def f31_3(F:Nat)(kf31j3:Li×Int×Int→Rz)(kf31j9:(List Li)→Rz):Li×Int→Rz:=fun (t0,t1)=>(kf31j3 (t0,t1,(0:Int)))
def f31_4(F:Nat)(kf31j4:Ty22→Rz)(kf31l1:Ty22→Rz)(kf31j9:(List Li)→Rz):Ty22→Rz:=fun (t0,t1,t6,x4)=>(cond (decide (t6 < t1)) (cond (decide (t6 < (6:Int))) (kf31j4 (t0,t1,t6,x4)) (kf31j9 x4)) (kf31j9 x4))
def f31_5(F:Nat)(kf31j5:Ty22→Rz)(kf31j8:Ty22→Rz)(kf31l1:Ty22→Rz)(kf31j9:(List Li)→Rz):Ty22→Rz:=fun (t0,t1,t6,x4)=>(kf31j5 (t0,t1,t6,x4))
def f31_6(F:Nat)(kf31j6:Ty23→Rz)(kf31j7:Ty25→Rz)(kf31j8:Ty22→Rz)(kf31l1:Ty22→Rz)(kf31j9:(List Li)→Rz):Ty22→Rz:=fun (t0,t1,t6,x4)=>(kf31j6 (t0,t1,t6,(0:Int),x4))
def f31_7(F:Nat)(kf31l2:Ty24→Rz)(kf31j7:Ty25→Rz)(kf31j8:Ty22→Rz)(kf31l1:Ty22→Rz)(kf31j9:(List Li)→Rz):Ty24→Rz:=fun (t0,t1,t6,t8,x5,x6)=>(cond (decide (t8 < (↑t0.length:Int))) (cond ((decide (0≤t8))&&(decide (t8 < (↑t0.length:Int)))) (cond ((t0.getD (Int.toNat t8) 0)==t6) (cond (decide ((x6.length+1) < 1073741824)) (kf31l2 (t0,t1,t6,(IntKind.i64.wrap (t8+(1:Int))),x5,(x6++[t8]))) none) (kf31l2 (t0,t1,t6,(IntKind.i64.wrap (t8+(1:Int))),x5,x6))) none) (kf31j7 (t0,t1,t6,x5,x6)))
def f31_8_i:Ty23→Li×Int×Int×Int×(List Li)×Li:=fun (t0,t1,t6,t8,x5)=>(t0,t1,t6,t8,x5,[])
def f31_8(F:Nat)(kf31j7:Ty25→Rz)(kf31j8:Ty22→Rz)(kf31l1:Ty22→Rz)(kf31j9:(List Li)→Rz):Ty23→Rz:=fun v=>loopN (fun k=>f31_7 F k kf31j7 kf31j8 kf31l1 kf31j9) F (f31_8_i v)
def f31_9(F:Nat)(kf31j7:Ty25→Rz)(kf31j8:Ty22→Rz)(kf31l1:Ty22→Rz)(kf31j9:(List Li)→Rz):Ty23→Rz:=f31_8 F kf31j7 kf31j8 kf31l1 kf31j9
def f31_10(F:Nat)(kf31j7:Ty25→Rz)(kf31j8:Ty22→Rz)(kf31l1:Ty22→Rz)(kf31j9:(List Li)→Rz):Ty22→Rz:=fun v=>f31_6 F (f31_9 F kf31j7 kf31j8 kf31l1 kf31j9) kf31j7 kf31j8 kf31l1 kf31j9 v
def f31_11(F:Nat)(kf31j8:Ty22→Rz)(kf31l1:Ty22→Rz)(kf31j9:(List Li)→Rz):Ty25→Rz:=fun (t0,t1,t6,x4,x5)=>(cond (decide ((x4.length+1) < 1073741824)) (kf31j8 (t0,t1,t6,(x4++[x5]))) none)
def f31_12(F:Nat)(kf31j8:Ty22→Rz)(kf31l1:Ty22→Rz)(kf31j9:(List Li)→Rz):Ty22→Rz:=fun v=>f31_10 F (f31_11 F kf31j8 kf31l1 kf31j9) kf31j8 kf31l1 kf31j9 v
def f31_13(F:Nat)(kf31j8:Ty22→Rz)(kf31l1:Ty22→Rz)(kf31j9:(List Li)→Rz):Ty22→Rz:=fun v=>f31_5 F (f31_12 F kf31j8 kf31l1 kf31j9) kf31j8 kf31l1 kf31j9 v
def f31_14(F:Nat)(kf31j8:Ty22→Rz)(kf31l1:Ty22→Rz)(kf31j9:(List Li)→Rz):Ty22→Rz:=f31_13 F kf31j8 kf31l1 kf31j9
def f31_15(F:Nat)(kf31l1:Ty22→Rz)(kf31j9:(List Li)→Rz):Ty22→Rz:=fun (t0,t1,t6,x4)=>(kf31l1 (t0,t1,(IntKind.i64.wrap (t6+(1:Int))),x4))
def f31_16(F:Nat)(kf31l1:Ty22→Rz)(kf31j9:(List Li)→Rz):Ty22→Rz:=fun v=>f31_14 F (f31_15 F kf31l1 kf31j9) kf31l1 kf31j9 v
def f31_17(F:Nat)(kf31l1:Ty22→Rz)(kf31j9:(List Li)→Rz):Ty22→Rz:=fun v=>f31_4 F (f31_16 F kf31l1 kf31j9) kf31l1 kf31j9 v
def f31_18_i:Li×Int×Int→Li×Int×Int×(List Li):=fun (t0,t1,t6)=>(t0,t1,t6,[])
def f31_18(F:Nat)(kf31j9:(List Li)→Rz):Li×Int×Int→Rz:=fun v=>loopN (fun k=>f31_17 F k kf31j9) F (f31_18_i v)
def f31_19(F:Nat)(kf31j9:(List Li)→Rz):Li×Int×Int→Rz:=f31_18 F kf31j9
def f31_20(F:Nat)(kf31j9:(List Li)→Rz):Li×Int→Rz:=fun v=>f31_3 F (f31_19 F kf31j9) kf31j9 v
def f31_21(F:Nat):(List Li)→Rz:=fun x1=>(some ((.own 0 0 1),[(.cells x1.length (.rL .i64 x1) true)]))
def f31_22(F:Nat):Li×Int→Rz:=fun v=>f31_20 F (f31_21 F) v
def f31_23(F:Nat):Li×Int→Rz:=fun v=>f31_2 F (f31_22 F) v
def f31_24(F:Nat):Li×Int→Rz:=fun v=>f31_1 F (f31_23 F) v
def f31(F:Nat):Li×Int→Rz:=f31_24 F
end Go.Am
end
section
namespace Go.Am
open Go Go.Proofs
abbrev sp23:List (Nat×Md):=[(1,.plain),(2,.plain),(7,.plain),(9,.plain),(24,.plain),(25,.plain),(26,.plain)]
abbrev sp24:List (Nat×Md):=[(1,.plain),(2,.plain),(7,.plain),(9,.plain),(24,.plain),(25,.plain),(26,.plain),(33,.plain),(34,.plain),(35,.plain)]
abbrev sp25:List (Nat×Md):=[(0,.plain),(1,.plain),(2,.plain),(7,.plain),(9,.plain)]
abbrev sp26:List (Nat×Md):=[(1,.plain),(2,.plain),(7,.plain),(9,.plain),(24,.plain),(25,.plain),(26,.plain),(27,.plain)]
abbrev sp27:List (Nat×Md):=[(1,.plain),(2,.plain),(7,.plain),(9,.plain),(11,.plain),(24,.plain),(25,.plain),(26,.plain)]
abbrev Ty26:=(List Li)×Int×Li×(List Bool)
abbrev Ty27:=(List Li)×Int×Li×(List Bool)×(List Bool)
abbrev Ty28:=Int×Li×(List Li)×Int×Int×(List Bool)×(List Bool)
abbrev Ty29:=Int×Li×(List Li)×Int×Int×(List Bool)×(List Bool)×Nat
abbrev Ty30:=Int×Li×(List Li)×Int×Int×Bool×(List Bool)×(List Bool)×Nat
abbrev Ty31:=Int×Li×Li×(List Li)×Int×Int×(List Bool)×(List Bool)×Nat
abbrev Ty32:=Int×Li×(List Li)×Int×Int×Li×Int×Int×(List Bool)×(List Bool)×Nat
def lVG3837:List CEnt:=[(45,[some 3,none],r45)]
def VG3837:Env:=mkEnv T38 G38 lVG3837
noncomputable abbrev Kf22:=kFin VG3837 none (Try.f37).results.toList
theorem eVG3837:EOk Try.prog VG3837:=eok_mk (by exact⟨c45,trivial⟩)
def Af37(F:Nat):Cuts:={ F:=F,at_:=fun n=>match n with | 5043=>some sp23 | 10020=>some sp24 | _=>none,join:=fun n=>match n with | 1061=>some sp2 | 3053=>some sp2 | 4051=>some sp25 | 5045=>some sp23 | 6037=>some sp23 | 6041=>some sp26 | 7032=>some sp27 | 9024=>some sp27 | 10022=>some sp24 | 16001=>some sp23 | 17003=>some sp3 | _=>none }
noncomputable abbrev XAf37(F:Nat){α:Type}:=@aexec α VG3837 (Af37 F)
def ef37_a:Ty26→St:=fun (a0,a1,a2,a3)=>⟨[(0,(.vs (.rL .i64 a0) 0 1)),(1,.int .i64 a1),(2,(.vs (.rI .i64 a2) 0 1)),(3,(.vs (.rB a3) 0 1))],[],0,61,0⟩
def ef37j1:Ty26→St:=fun (t0,t1,t2,x4)=>⟨[(0,(.vs (.rL .i64 t0) 0 1)),(1,.int .i64 t1),(2,(.vs (.rI .i64 t2) 0 1)),(7,.ptr 0 0 1 0 0 0 1)],[(0,(.cells 1 (.one (.vs (.rB x4) 0 1)) true))],1,61,0⟩
def ef37j2:Ty26→St:=ef37j1
def ef37j3:Ty27→St:=fun (t0,t1,t2,x4,x5)=>⟨[(0,(.vs (.rL .i64 t0) 0 1)),(1,.int .i64 t1),(2,(.vs (.rI .i64 t2) 0 1)),(7,.ptr 0 0 1 0 0 0 1),(9,.own 1 0 1)],[(0,(.cells 1 (.one (.vs (.rB x4) 0 1)) true)),(1,(.cells x5.length (.rB x5) true))],2,61,0⟩
def ef37j4:Ty28→St:=fun (t1,t2,t24,t25,t26,x6,x7)=>⟨[(1,.int .i64 t1),(2,(.vs (.rI .i64 t2) 0 1)),(7,.ptr 0 0 1 0 0 0 1),(9,.own 1 0 1),(24,(.vs (.rL .i64 t24) 0 1)),(25,.int .i64 t25),(26,.int .i64 t26)],[(0,(.cells 1 (.one (.vs (.rB x6) 0 1)) true)),(1,(.cells x7.length (.rB x7) true))],2,61,0⟩
def ef37l1:Ty29→St:=fun (t1,t2,t24,t25,t26,x6,x7,x8)=>⟨[(1,.int .i64 t1),(2,(.vs (.rI .i64 t2) 0 1)),(7,.ptr 0 0 1 0 0 0 1),(9,.own 1 0 1),(24,(.vs (.rL .i64 t24) 0 1)),(25,.int .i64 t25),(26,.int .i64 t26)],[(0,(.cells 1 (.one (.vs (.rB x6) 0 1)) true)),(1,(.cells x8 (.rB x7) true))],2,61,0⟩
def ef37j5:Ty30→St:=fun (t1,t2,t24,t25,t26,t27,x7,x8,x9)=>⟨[(1,.int .i64 t1),(2,(.vs (.rI .i64 t2) 0 1)),(7,.ptr 0 0 1 0 0 0 1),(9,.own 1 0 1),(24,(.vs (.rL .i64 t24) 0 1)),(25,.int .i64 t25),(26,.int .i64 t26),(27,.bool t27)],[(0,(.cells 1 (.one (.vs (.rB x7) 0 1)) true)),(1,(.cells x9 (.rB x8) true))],2,61,0⟩
def ef37j6:Ty29→St:=ef37l1
def ef37j7:Ty31→St:=fun (t1,t2,t11,t24,t25,t26,x7,x8,x9)=>⟨[(1,.int .i64 t1),(2,(.vs (.rI .i64 t2) 0 1)),(7,.ptr 0 0 1 0 0 0 1),(9,.own 1 0 1),(11,(.vs (.rI .i64 t11) 0 1)),(24,(.vs (.rL .i64 t24) 0 1)),(25,.int .i64 t25),(26,.int .i64 t26)],[(0,(.cells 1 (.one (.vs (.rB x7) 0 1)) true)),(1,(.cells x9 (.rB x8) true))],2,61,0⟩
def ef37j8:Ty31→St:=ef37j7
def ef37j9:Ty32→St:=fun (t1,t2,t24,t25,t26,t33,t34,t35,x9,x10,x11)=>⟨[(1,.int .i64 t1),(2,(.vs (.rI .i64 t2) 0 1)),(7,.ptr 0 0 1 0 0 0 1),(9,.own 1 0 1),(24,(.vs (.rL .i64 t24) 0 1)),(25,.int .i64 t25),(26,.int .i64 t26),(33,(.vs (.rI .i64 t33) 0 1)),(34,.int .i64 t34),(35,.int .i64 t35)],[(0,(.cells 1 (.one (.vs (.rB x9) 0 1)) true)),(1,(.cells x11 (.rB x10) true))],2,61,0⟩
def ef37l2:Ty32→St:=ef37j9
def ef37j10:Ty29→St:=ef37l1
def ef37j11:Li×(List Bool)→St:=fun (t2,x2)=>⟨[(2,(.vs (.rI .i64 t2) 0 1)),(7,.ptr 0 0 1 0 0 0 1)],[(0,(.cells 1 (.one (.vs (.rB x2) 0 1)) true))],1,61,0⟩
def f37_1(F:Nat)(kf37j1:Ty26→Rz):Ty26→Rz:=fun (a0,a1,a2,a3)=>(kf37j1 (a0,a1,a2,a3))
theorem f37_1_eq(F:Nat)(Rf37j1:St→Rz):∀ v,XAf37 F (bp Try.f37 2) (ef37_a v) (kSeq (kc VG3837 Rf37j1 sp2) Kf22)=f37_1 F (Rf37j1∘ef37j1) v:=by
 rintro⟨a0,a1,a2,a3⟩;kernel_rfl
def f37_2(F:Nat)(kf37j2:Ty26→Rz):Ty26→Rz:=fun (t0,t1,t2,x4)=>(cond (decide ((↑x4.length:Int) < (1:Int))) (some ((.bool false),[])) (cond (decide ((↑x4.length:Int) > (6:Int))) (some ((.bool false),[])) (kf37j2 (t0,t1,t2,x4))))
theorem f37_2_eq(F:Nat)(Rf37j2:St→Rz):∀ v,XAf37 F (bp Try.f37 6) (ef37j1 v) (kSeq (kc VG3837 Rf37j2 sp2) Kf22)=f37_2 F (Rf37j2∘ef37j2) v:=by
 rintro⟨t0,t1,t2,x4⟩;kernel_rfl
def f37_3(F:Nat)(kf37j3:Ty27→Rz):Ty26→Rz:=fun (t0,t1,t2,x4)=>(cond (((decide (0≤t1))&&(decide (t1≤t1)))&&(decide (t1 < 1073741824))) (kf37j3 (t0,t1,t2,x4,(List.replicate (Int.toNat t1) false))) none)
theorem f37_3_eq(F:Nat)(Rf37j3:St→Rz):∀ v,XAf37 F (bp Try.f37 14) (ef37j2 v) (kSeq (kc VG3837 Rf37j3 sp25) Kf22)=f37_3 F (Rf37j3∘ef37j3) v:=by
 rintro⟨t0,t1,t2,x4⟩;kernel_rfl
def f37_4(F:Nat)(kf37j4:Ty28→Rz)(kf37j11:Li×(List Bool)→Rz):Ty27→Rz:=fun (t0,t1,t2,x4,x5)=>(kf37j4 (t1,t2,t0,(↑t0.length:Int),(0:Int),x4,x5))
theorem f37_4_eq(F:Nat)(Rf37j4:St→Rz)(Rf37j11:St→Rz):∀ v,XAf37 F (bp Try.f37 60) (ef37j3 v) (kSeq (kc VG3837 Rf37j4 sp23) (kSeq (kc VG3837 Rf37j11 sp3) Kf22))=f37_4 F (Rf37j4∘ef37j4) (Rf37j11∘ef37j11) v:=by
 rintro⟨t0,t1,t2,x4,x5⟩;kernel_rfl
def f37_5(F:Nat)(kf37j5:Ty30→Rz)(kf37l1:Ty29→Rz)(kf37j11:Li×(List Bool)→Rz):Ty29→Rz:=fun (t1,t2,t24,t25,t26,x6,x7,x8)=>(kf37j5 (t1,t2,t24,t25,t26,(decide (t26 < t25)),x6,x7,x8))
theorem f37_5_eq(F:Nat)(Rf37j5:St→Rz)(Rf37l1:St→Rz)(Rf37j11:St→Rz):∀ v,XAf37 F (bp Try.f37 488) (ef37l1 v) (kSeq (kc VG3837 Rf37j5 sp26) (kSeq (kc VG3837 Rf37l1 sp23) (kBlock 0 (kSeq (kc VG3837 Rf37j11 sp3) Kf22))))=f37_5 F (Rf37j5∘ef37j5) (Rf37l1∘ef37l1) (Rf37j11∘ef37j11) v:=by
 rintro⟨t1,t2,t24,t25,t26,x6,x7,x8⟩;kernel_rfl
def f37_6(F:Nat)(kf37j6:Ty29→Rz)(kf37l1:Ty29→Rz)(kf37j11:Li×(List Bool)→Rz):Ty30→Rz:=fun (t1,t2,t24,t25,t26,t27,x7,x8,x9)=>(cond t27 (kf37j6 (t1,t2,t24,t25,t26,x7,x8,x9)) (kf37j11 (t2,x7)))
theorem f37_6_eq(F:Nat)(Rf37j6:St→Rz)(Rf37l1:St→Rz)(Rf37j11:St→Rz):∀ v,XAf37 F (bp Try.f37 978) (ef37j5 v) (kSeq (kc VG3837 Rf37j6 sp23) (kSeq (kc VG3837 Rf37l1 sp23) (kBlock 0 (kSeq (kc VG3837 Rf37j11 sp3) Kf22))))=f37_6 F (Rf37j6∘ef37j6) (Rf37l1∘ef37l1) (Rf37j11∘ef37j11) v:=by
 rintro⟨t1,t2,t24,t25,t26,t27,x7,x8,x9⟩;kernel_rfl
def f37_7(F:Nat)(kf37j7:Ty31→Rz)(kf37j10:Ty29→Rz)(kf37l1:Ty29→Rz)(kf37j11:Li×(List Bool)→Rz):Ty29→Rz:=fun (t1,t2,t24,t25,t26,x6,x7,x8)=>(cond ((decide (0≤t26))&&(decide (t26 < (↑t24.length:Int)))) (kf37j7 (t1,t2,(t24.getD (Int.toNat t26) []),t24,t25,t26,x6,x7,x8)) none)
theorem f37_7_eq(F:Nat)(Rf37j7:St→Rz)(Rf37j10:St→Rz)(Rf37l1:St→Rz)(Rf37j11:St→Rz):∀ v,XAf37 F (bp Try.f37 7832) (ef37j6 v) (kSeq (kc VG3837 Rf37j7 sp27) (kBlock 1 (kSeq (kc VG3837 Rf37j10 sp23) (kSeq (kc VG3837 Rf37l1 sp23) (kBlock 0 (kSeq (kc VG3837 Rf37j11 sp3) Kf22))))))=f37_7 F (Rf37j7∘ef37j7) (Rf37j10∘ef37j10) (Rf37l1∘ef37l1) (Rf37j11∘ef37j11) v:=by
 rintro⟨t1,t2,t24,t25,t26,x6,x7,x8⟩;kernel_rfl
def f37_8(F:Nat)(kf37j8:Ty31→Rz)(kf37j10:Ty29→Rz)(kf37l1:Ty29→Rz)(kf37j11:Li×(List Bool)→Rz):Ty31→Rz:=fun (t1,t2,t11,t24,t25,t26,x7,x8,x9)=>(cond ((↑t11.length:Int)==(0:Int)) (some ((.bool false),[])) (kf37j8 (t1,t2,t11,t24,t25,t26,x7,x8,x9)))
theorem f37_8_eq(F:Nat)(Rf37j8:St→Rz)(Rf37j10:St→Rz)(Rf37l1:St→Rz)(Rf37j11:St→Rz):∀ v,XAf37 F (bp Try.f37 15666) (ef37j7 v) (kSeq (kc VG3837 Rf37j8 sp27) (kBlock 1 (kSeq (kc VG3837 Rf37j10 sp23) (kSeq (kc VG3837 Rf37l1 sp23) (kBlock 0 (kSeq (kc VG3837 Rf37j11 sp3) Kf22))))))=f37_8 F (Rf37j8∘ef37j8) (Rf37j10∘ef37j10) (Rf37l1∘ef37l1) (Rf37j11∘ef37j11) v:=by
 rintro⟨t1,t2,t11,t24,t25,t26,x7,x8,x9⟩;kernel_rfl
def f37_9(F:Nat)(kf37j9:Ty32→Rz)(kf37j10:Ty29→Rz)(kf37l1:Ty29→Rz)(kf37j11:Li×(List Bool)→Rz):Ty31→Rz:=fun (t1,t2,t11,t24,t25,t26,x7,x8,x9)=>(kf37j9 (t1,t2,t24,t25,t26,t11,(↑t11.length:Int),(0:Int),x7,x8,x9))
theorem f37_9_eq(F:Nat)(Rf37j9:St→Rz)(Rf37j10:St→Rz)(Rf37l1:St→Rz)(Rf37j11:St→Rz):∀ v,XAf37 F (bp Try.f37 31334) (ef37j8 v) (kSeq (kc VG3837 Rf37j9 sp24) (kBlock 1 (kSeq (kc VG3837 Rf37j10 sp23) (kSeq (kc VG3837 Rf37l1 sp23) (kBlock 0 (kSeq (kc VG3837 Rf37j11 sp3) Kf22))))))=f37_9 F (Rf37j9∘ef37j9) (Rf37j10∘ef37j10) (Rf37l1∘ef37l1) (Rf37j11∘ef37j11) v:=by
 rintro⟨t1,t2,t11,t24,t25,t26,x7,x8,x9⟩;kernel_rfl
def f37_10(F:Nat)(kf37l2:Ty32→Rz)(kf37j10:Ty29→Rz)(kf37l1:Ty29→Rz)(kf37j11:Li×(List Bool)→Rz):Ty32→Rz:=fun (t1,t2,t24,t25,t26,t33,t34,t35,x9,x10,x11)=>(cond (decide (t35 < t34)) (cond ((decide (0≤t35))&&(decide (t35 < (↑t33.length:Int)))) (cond (decide ((t33.getD (Int.toNat t35) 0) < (0:Int))) (some ((.bool false),[])) (cond (decide ((t33.getD (Int.toNat t35) 0)≥t1)) (some ((.bool false),[])) (cond ((decide (0≤(t33.getD (Int.toNat t35) 0)))&&(decide ((t33.getD (Int.toNat t35) 0) < (↑x10.length:Int)))) (cond (x10.getD (Int.toNat (t33.getD (Int.toNat t35) 0)) false) (some ((.bool false),[])) (cond ((decide (0≤(t33.getD (Int.toNat t35) 0)))&&(decide ((t33.getD (Int.toNat t35) 0) < (↑x10.length:Int)))) (kf37l2 (t1,t2,t24,t25,t26,t33,t34,(IntKind.i64.wrap (t35+(1:Int))),x9,(x10.set (Int.toNat (t33.getD (Int.toNat t35) 0)) true),x11)) none)) none))) none) (kf37j10 (t1,t2,t24,t25,t26,x9,x10,x11)))
theorem f37_10_eq(F:Nat)(Rf37l2:St→Rz)(Rf37j10:St→Rz)(Rf37l1:St→Rz)(Rf37j11:St→Rz):∀ v,XAf37 F (bp Try.f37 125340) (ef37l2 v) (kSeq (kc VG3837 Rf37l2 sp24) (kBlock 2 (kBlock 1 (kSeq (kc VG3837 Rf37j10 sp23) (kSeq (kc VG3837 Rf37l1 sp23) (kBlock 0 (kSeq (kc VG3837 Rf37j11 sp3) Kf22)))))))=f37_10 F (Rf37l2∘ef37l2) (Rf37j10∘ef37j10) (Rf37l1∘ef37l1) (Rf37j11∘ef37j11) v:=by
 rintro⟨t1,t2,t24,t25,t26,t33,t34,t35,x9,x10,x11⟩;kernel_rfl
def f37_11_i:Ty32→Int×Li×(List Li)×Int×Int×Li×Int×Int×(List Bool)×(List Bool)×Nat:=fun (t1,t2,t24,t25,t26,t33,t34,t35,x9,x10,x11)=>(t1,t2,t24,t25,t26,t33,t34,t35,x9,x10,x11)
def f37_11(F:Nat)(kf37j10:Ty29→Rz)(kf37l1:Ty29→Rz)(kf37j11:Li×(List Bool)→Rz):Ty32→Rz:=fun v=>loopN (fun k=>f37_10 F k kf37j10 kf37l1 kf37j11) F (f37_11_i v)
theorem f37_11_eq(F:Nat)(Rf37j10:St→Rz)(Rf37l1:St→Rz)(Rf37j11:St→Rz):∀ v,XAf37 F (bp Try.f37 62670) (ef37j9 v) (kBlock 2 (kBlock 1 (kSeq (kc VG3837 Rf37j10 sp23) (kSeq (kc VG3837 Rf37l1 sp23) (kBlock 0 (kSeq (kc VG3837 Rf37j11 sp3) Kf22))))))=f37_11 F (Rf37j10∘ef37j10) (Rf37l1∘ef37l1) (Rf37j11∘ef37j11) v:=
 loop_cut (by kernel_rfl) (by kernel_rfl) ef37j9 ef37l2 _ f37_11_i (fun k=>f37_10 F k (Rf37j10∘ef37j10) (Rf37l1∘ef37l1) (Rf37j11∘ef37j11))
  (by rintro⟨t1,t2,t24,t25,t26,t33,t34,t35,x9,x10,x11⟩;kernel_rfl) (fun Rf37l2=>f37_10_eq F Rf37l2 Rf37j10 Rf37l1 Rf37j11)
def f37_12(F:Nat)(kf37j10:Ty29→Rz)(kf37l1:Ty29→Rz)(kf37j11:Li×(List Bool)→Rz):Ty32→Rz:=f37_11 F kf37j10 kf37l1 kf37j11
theorem f37_12_eq(F:Nat)(Rf37j10:St→Rz)(Rf37l1:St→Rz)(Rf37j11:St→Rz):∀ v,XAf37 F (bp Try.f37 31335) (ef37j9 v) (kBlock 1 (kSeq (kc VG3837 Rf37j10 sp23) (kSeq (kc VG3837 Rf37l1 sp23) (kBlock 0 (kSeq (kc VG3837 Rf37j11 sp3) Kf22)))))=f37_12 F (Rf37j10∘ef37j10) (Rf37l1∘ef37l1) (Rf37j11∘ef37j11) v:=fun v=>
 (block_in  (by kernel_rfl) _ _).trans (f37_11_eq F Rf37j10 Rf37l1 Rf37j11 v)
def f37_13(F:Nat)(kf37j10:Ty29→Rz)(kf37l1:Ty29→Rz)(kf37j11:Li×(List Bool)→Rz):Ty31→Rz:=fun v=>f37_9 F (f37_12 F kf37j10 kf37l1 kf37j11) kf37j10 kf37l1 kf37j11 v
theorem f37_13_eq(F:Nat)(Rf37j10:St→Rz)(Rf37l1:St→Rz)(Rf37j11:St→Rz):∀ v,XAf37 F (bp Try.f37 15667) (ef37j8 v) (kBlock 1 (kSeq (kc VG3837 Rf37j10 sp23) (kSeq (kc VG3837 Rf37l1 sp23) (kBlock 0 (kSeq (kc VG3837 Rf37j11 sp3) Kf22)))))=f37_13 F (Rf37j10∘ef37j10) (Rf37l1∘ef37l1) (Rf37j11∘ef37j11) v:=
 seq_cut (by kernel_rfl) (by kernel_rfl) ef37j8 ef37j9 _ (fun k=>f37_9 F k (Rf37j10∘ef37j10) (Rf37l1∘ef37l1) (Rf37j11∘ef37j11)) (f37_12 F (Rf37j10∘ef37j10) (Rf37l1∘ef37l1) (Rf37j11∘ef37j11))
  (fun Rf37j9=>f37_9_eq F Rf37j9 Rf37j10 Rf37l1 Rf37j11) (f37_12_eq F Rf37j10 Rf37l1 Rf37j11)
def f37_14(F:Nat)(kf37j10:Ty29→Rz)(kf37l1:Ty29→Rz)(kf37j11:Li×(List Bool)→Rz):Ty31→Rz:=fun v=>f37_8 F (f37_13 F kf37j10 kf37l1 kf37j11) kf37j10 kf37l1 kf37j11 v
theorem f37_14_eq(F:Nat)(Rf37j10:St→Rz)(Rf37l1:St→Rz)(Rf37j11:St→Rz):∀ v,XAf37 F (bp Try.f37 7833) (ef37j7 v) (kBlock 1 (kSeq (kc VG3837 Rf37j10 sp23) (kSeq (kc VG3837 Rf37l1 sp23) (kBlock 0 (kSeq (kc VG3837 Rf37j11 sp3) Kf22)))))=f37_14 F (Rf37j10∘ef37j10) (Rf37l1∘ef37l1) (Rf37j11∘ef37j11) v:=
 seq_cut (by kernel_rfl) (by kernel_rfl) ef37j7 ef37j8 _ (fun k=>f37_8 F k (Rf37j10∘ef37j10) (Rf37l1∘ef37l1) (Rf37j11∘ef37j11)) (f37_13 F (Rf37j10∘ef37j10) (Rf37l1∘ef37l1) (Rf37j11∘ef37j11))
  (fun Rf37j8=>f37_8_eq F Rf37j8 Rf37j10 Rf37l1 Rf37j11) (f37_13_eq F Rf37j10 Rf37l1 Rf37j11)
def f37_15(F:Nat)(kf37j10:Ty29→Rz)(kf37l1:Ty29→Rz)(kf37j11:Li×(List Bool)→Rz):Ty29→Rz:=fun v=>f37_7 F (f37_14 F kf37j10 kf37l1 kf37j11) kf37j10 kf37l1 kf37j11 v
theorem f37_15_eq(F:Nat)(Rf37j10:St→Rz)(Rf37l1:St→Rz)(Rf37j11:St→Rz):∀ v,XAf37 F (bp Try.f37 3916) (ef37j6 v) (kBlock 1 (kSeq (kc VG3837 Rf37j10 sp23) (kSeq (kc VG3837 Rf37l1 sp23) (kBlock 0 (kSeq (kc VG3837 Rf37j11 sp3) Kf22)))))=f37_15 F (Rf37j10∘ef37j10) (Rf37l1∘ef37l1) (Rf37j11∘ef37j11) v:=
 seq_cut (by kernel_rfl) (by kernel_rfl) ef37j6 ef37j7 _ (fun k=>f37_7 F k (Rf37j10∘ef37j10) (Rf37l1∘ef37l1) (Rf37j11∘ef37j11)) (f37_14 F (Rf37j10∘ef37j10) (Rf37l1∘ef37l1) (Rf37j11∘ef37j11))
  (fun Rf37j7=>f37_7_eq F Rf37j7 Rf37j10 Rf37l1 Rf37j11) (f37_14_eq F Rf37j10 Rf37l1 Rf37j11)
def f37_16(F:Nat)(kf37j10:Ty29→Rz)(kf37l1:Ty29→Rz)(kf37j11:Li×(List Bool)→Rz):Ty29→Rz:=f37_15 F kf37j10 kf37l1 kf37j11
theorem f37_16_eq(F:Nat)(Rf37j10:St→Rz)(Rf37l1:St→Rz)(Rf37j11:St→Rz):∀ v,XAf37 F (bp Try.f37 1958) (ef37j6 v) (kSeq (kc VG3837 Rf37j10 sp23) (kSeq (kc VG3837 Rf37l1 sp23) (kBlock 0 (kSeq (kc VG3837 Rf37j11 sp3) Kf22))))=f37_16 F (Rf37j10∘ef37j10) (Rf37l1∘ef37l1) (Rf37j11∘ef37j11) v:=fun v=>
 (block_in  (by kernel_rfl) _ _).trans (f37_15_eq F Rf37j10 Rf37l1 Rf37j11 v)
def f37_17(F:Nat)(kf37l1:Ty29→Rz)(kf37j11:Li×(List Bool)→Rz):Ty29→Rz:=fun (t1,t2,t24,t25,t26,x6,x7,x8)=>(kf37l1 (t1,t2,t24,t25,(IntKind.i64.wrap (t26+(1:Int))),x6,x7,x8))
theorem f37_17_eq(F:Nat)(Rf37l1:St→Rz)(Rf37j11:St→Rz):∀ v,XAf37 F (bp Try.f37 1959) (ef37j10 v) (kSeq (kc VG3837 Rf37l1 sp23) (kBlock 0 (kSeq (kc VG3837 Rf37j11 sp3) Kf22)))=f37_17 F (Rf37l1∘ef37l1) (Rf37j11∘ef37j11) v:=by
 rintro⟨t1,t2,t24,t25,t26,x6,x7,x8⟩;kernel_rfl
def f37_18(F:Nat)(kf37l1:Ty29→Rz)(kf37j11:Li×(List Bool)→Rz):Ty29→Rz:=fun v=>f37_16 F (f37_17 F kf37l1 kf37j11) kf37l1 kf37j11 v
theorem f37_18_eq(F:Nat)(Rf37l1:St→Rz)(Rf37j11:St→Rz):∀ v,XAf37 F (bp Try.f37 979) (ef37j6 v) (kSeq (kc VG3837 Rf37l1 sp23) (kBlock 0 (kSeq (kc VG3837 Rf37j11 sp3) Kf22)))=f37_18 F (Rf37l1∘ef37l1) (Rf37j11∘ef37j11) v:=
 seq_cut (by kernel_rfl) (by kernel_rfl) ef37j6 ef37j10 _ (fun k=>f37_16 F k (Rf37l1∘ef37l1) (Rf37j11∘ef37j11)) (f37_17 F (Rf37l1∘ef37l1) (Rf37j11∘ef37j11))
  (fun Rf37j10=>f37_16_eq F Rf37j10 Rf37l1 Rf37j11) (f37_17_eq F Rf37l1 Rf37j11)
def f37_19(F:Nat)(kf37l1:Ty29→Rz)(kf37j11:Li×(List Bool)→Rz):Ty30→Rz:=fun v=>f37_6 F (f37_18 F kf37l1 kf37j11) kf37l1 kf37j11 v
theorem f37_19_eq(F:Nat)(Rf37l1:St→Rz)(Rf37j11:St→Rz):∀ v,XAf37 F (bp Try.f37 489) (ef37j5 v) (kSeq (kc VG3837 Rf37l1 sp23) (kBlock 0 (kSeq (kc VG3837 Rf37j11 sp3) Kf22)))=f37_19 F (Rf37l1∘ef37l1) (Rf37j11∘ef37j11) v:=
 seq_cut (by kernel_rfl) (by kernel_rfl) ef37j5 ef37j6 _ (fun k=>f37_6 F k (Rf37l1∘ef37l1) (Rf37j11∘ef37j11)) (f37_18 F (Rf37l1∘ef37l1) (Rf37j11∘ef37j11))
  (fun Rf37j6=>f37_6_eq F Rf37j6 Rf37l1 Rf37j11) (f37_18_eq F Rf37l1 Rf37j11)
def f37_20(F:Nat)(kf37l1:Ty29→Rz)(kf37j11:Li×(List Bool)→Rz):Ty29→Rz:=fun v=>f37_5 F (f37_19 F kf37l1 kf37j11) kf37l1 kf37j11 v
theorem f37_20_eq(F:Nat)(Rf37l1:St→Rz)(Rf37j11:St→Rz):∀ v,XAf37 F (bp Try.f37 244) (ef37l1 v) (kSeq (kc VG3837 Rf37l1 sp23) (kBlock 0 (kSeq (kc VG3837 Rf37j11 sp3) Kf22)))=f37_20 F (Rf37l1∘ef37l1) (Rf37j11∘ef37j11) v:=
 seq_cut (by kernel_rfl) (by kernel_rfl) ef37l1 ef37j5 _ (fun k=>f37_5 F k (Rf37l1∘ef37l1) (Rf37j11∘ef37j11)) (f37_19 F (Rf37l1∘ef37l1) (Rf37j11∘ef37j11))
  (fun Rf37j5=>f37_5_eq F Rf37j5 Rf37l1 Rf37j11) (f37_19_eq F Rf37l1 Rf37j11)
def f37_21_i:Ty28→Int×Li×(List Li)×Int×Int×(List Bool)×(List Bool)×Nat:=fun (t1,t2,t24,t25,t26,x6,x7)=>(t1,t2,t24,t25,t26,x6,x7,x7.length)
def f37_21(F:Nat)(kf37j11:Li×(List Bool)→Rz):Ty28→Rz:=fun v=>loopN (fun k=>f37_20 F k kf37j11) F (f37_21_i v)
theorem f37_21_eq(F:Nat)(Rf37j11:St→Rz):∀ v,XAf37 F (bp Try.f37 122) (ef37j4 v) (kBlock 0 (kSeq (kc VG3837 Rf37j11 sp3) Kf22))=f37_21 F (Rf37j11∘ef37j11) v:=
 loop_cut (by kernel_rfl) (by kernel_rfl) ef37j4 ef37l1 _ f37_21_i (fun k=>f37_20 F k (Rf37j11∘ef37j11))
  (by rintro⟨t1,t2,t24,t25,t26,x6,x7⟩;kernel_rfl) (fun Rf37l1=>f37_20_eq F Rf37l1 Rf37j11)
def f37_22(F:Nat)(kf37j11:Li×(List Bool)→Rz):Ty28→Rz:=f37_21 F kf37j11
theorem f37_22_eq(F:Nat)(Rf37j11:St→Rz):∀ v,XAf37 F (bp Try.f37 61) (ef37j4 v) (kSeq (kc VG3837 Rf37j11 sp3) Kf22)=f37_22 F (Rf37j11∘ef37j11) v:=fun v=>
 (block_in  (by kernel_rfl) _ _).trans (f37_21_eq F Rf37j11 v)
def f37_23(F:Nat)(kf37j11:Li×(List Bool)→Rz):Ty27→Rz:=fun v=>f37_4 F (f37_22 F kf37j11) kf37j11 v
theorem f37_23_eq(F:Nat)(Rf37j11:St→Rz):∀ v,XAf37 F (bp Try.f37 30) (ef37j3 v) (kSeq (kc VG3837 Rf37j11 sp3) Kf22)=f37_23 F (Rf37j11∘ef37j11) v:=
 seq_cut (by kernel_rfl) (by kernel_rfl) ef37j3 ef37j4 _ (fun k=>f37_4 F k (Rf37j11∘ef37j11)) (f37_22 F (Rf37j11∘ef37j11))
  (fun Rf37j4=>f37_4_eq F Rf37j4 Rf37j11) (f37_22_eq F Rf37j11)
def f37_24(F:Nat):Li×(List Bool)→Rz:=fun (t2,x2)=>(some ((.bool (!(!(t2.all (Reg.okO x2.length))))),[]))
theorem f37_24_eq(F:Nat):∀ v,XAf37 F (bp Try.f37 31) (ef37j11 v) Kf22=f37_24 F v:=by
 rintro⟨t2,x2⟩;kernel_rfl
def f37_25(F:Nat):Ty27→Rz:=fun v=>f37_23 F (f37_24 F) v
theorem f37_25_eq(F:Nat):∀ v,XAf37 F (bp Try.f37 15) (ef37j3 v) Kf22=f37_25 F v:=
 seq_cut (by kernel_rfl) (by kernel_rfl) ef37j3 ef37j11 _ (fun k=>f37_23 F k) (f37_24 F)
  (fun Rf37j11=>f37_23_eq F Rf37j11) (f37_24_eq F)
def f37_26(F:Nat):Ty26→Rz:=fun v=>f37_3 F (f37_25 F) v
theorem f37_26_eq(F:Nat):∀ v,XAf37 F (bp Try.f37 7) (ef37j2 v) Kf22=f37_26 F v:=
 seq_cut (by kernel_rfl) (by kernel_rfl) ef37j2 ef37j3 _ (fun k=>f37_3 F k) (f37_25 F)
  (fun Rf37j3=>f37_3_eq F Rf37j3) (f37_25_eq F)
def f37_27(F:Nat):Ty26→Rz:=fun v=>f37_2 F (f37_26 F) v
theorem f37_27_eq(F:Nat):∀ v,XAf37 F (bp Try.f37 3) (ef37j1 v) Kf22=f37_27 F v:=
 seq_cut (by kernel_rfl) (by kernel_rfl) ef37j1 ef37j2 _ (fun k=>f37_2 F k) (f37_26 F)
  (fun Rf37j2=>f37_2_eq F Rf37j2) (f37_26_eq F)
def f37_28(F:Nat):Ty26→Rz:=fun v=>f37_1 F (f37_27 F) v
theorem f37_28_eq(F:Nat):∀ v,XAf37 F (sub (bodyOf Try.f37) []) (ef37_a v) Kf22=f37_28 F v:=
 seq_cut (by kernel_rfl) (by kernel_rfl) ef37_a ef37j1 _ (fun k=>f37_1 F k) (f37_27 F)
  (fun Rf37j1=>f37_1_eq F Rf37j1) (f37_27_eq F)
def f37(F:Nat):Ty26→Rz:=f37_28 F
theorem f37_body(F:Nat)(a0:List Li)(a1:Int)(a2:List Int)(a3:List Bool):abody VG3837 (Af37 F) Try.f37 [(.vs (.rL .i64 a0) 0 1),.int .i64 a1,(.vs (.rI .i64 a2) 0 1),(.vs (.rB a3) 0 1)] []=f37 F (a0,a1,a2,a3):=
 (abody_in (c:=(sub (bodyOf Try.f37) [])) (by kernel_rfl) (s:=ef37_a (a0,a1,a2,a3)) (by kernel_rfl)).trans (f37_28_eq F (a0,a1,a2,a3))
def r37:CRun:=fun X H=>match X,H with
 | [(.vs (.rL .i64 a0) 0 1),.int .i64 a1,(.vs (.rI .i64 a2) 0 1),(.vs (.rB a3) 0 1)],[]=>some (((decide (0≤a1))&&(decide (Int.toNat a1 < 1073741000))),(.bool (Reg.valid a0 (Int.toNat a1) a2 a3)),[])
 | _,_=>none
theorem s37(a0:List Li)(a1:Int)(a2:List Int)(a3:List Bool)(hp:(((decide (0≤a1))&&(decide (Int.toNat a1 < 1073741000))))=true)(h0:okV (.vs (.rL .i64 a0) 0 1))(h1:okV (.int .i64 a1))(h2:okV (.vs (.rI .i64 a2) 0 1))(h3:okV (.vs (.rB a3) 0 1)):∃ F,f37 F (a0,a1,a2,a3)=some ((.bool (Reg.valid a0 (Int.toNat a1) a2 a3)),[]):=by
 simp only [Bool.and_eq_true,decide_eq_true_eq] at hp
 obtain⟨n,rfl⟩:∃ n:Nat,a1=(n:Int):=⟨a1.toNat,by omega⟩
 rw [Int.toNat_natCast,Reg.valid_eq]
 have hl0:a0.length < 4611686018427387904:=h0.2
 have hl3:a3.length < 4611686018427387904:=h3
 have hlx:∀ i,(a0.getD i []).length < 4611686018427387904:=fun i=>by
  rw [List.getD_eq_getElem?_getD]
  cases h:a0[i]? with
  | none=>simp
  | some x=>exact(h0.1 x (List.mem_of_getElem? h)).2
 refine⟨a0.length+a0.flatten.length+1,?_⟩
 have hF:∀ i,(a0.getD i []).length≤a0.flatten.length:=fun i=>by
  rw [List.getD_eq_getElem?_getD]
  cases h:a0[i]? with
  | none=>simp
  | some x=>exact(List.sublist_flatten_of_mem (List.mem_of_getElem? h)).length_le
 simp only [f37,f37_28,f37_1,f37_27,f37_2]
 by_cases q1:(a3.length:Int) < 1
 ·rw [cond_pos q1,if_pos q1]
 rw [cond_neg q1,if_neg q1]
 by_cases q2:(a3.length:Int) > 6
 ·rw [cond_pos q2,if_pos q2]
 rw [cond_neg q2,if_neg q2]
 simp only [f37_26,f37_3,f37_25,dec_and]
 rw [cond_pos (by omega),Int.toNat_natCast]
 simp only [f37_23,f37_4,f37_22,f37_21,f37_21_i]
 generalize hm0:List.replicate n false=m0
 have hm0l:m0.length=n:=by rw [← hm0,List.length_replicate]
 refine(loopN_scan (fun i=>((n:Int),a2,a0,(a0.length:Int),(i:Int),a3,Reg.marks (a0.take i) m0,m0.length)) a0.length
  (fun i=>if (a0.getD i []).length=0∨Reg.vg n (a0.getD i []) (Reg.marks (a0.take i) m0)=none then some (some (AV.bool false,[])) else none) (some (AV.bool (a2.all (Reg.okO a3.length)),[])) (by rfl) (fun i hi k=>?_) (fun k=>?_) _ (by omega)).trans ?_
 ·simp only [f37_20,f37_5,f37_19,f37_6,f37_18,f37_16,f37_15,f37_7,f37_14,f37_8,f37_13,f37_9,f37_12,f37_11,f37_11_i,dec_and,int_beq]
  rw [cond_pos (by omega),cond_pos (by omega),Int.toNat_natCast]
  generalize hx:a0.getD i []=x
  have hlx':=hlx i
  have hF':=hF i
  rw [hx] at hlx' hF'
  by_cases hz:x.length=0
  ·rw [cond_pos (by omega),if_pos (.inl hz)]
  rw [cond_neg (by omega)]
  generalize hm:Reg.marks (a0.take i) m0=met
  have hml:met.length=n:=by rw [← hm,Reg.marks_len,hm0l]
  have hs:Reg.marks (a0.take (i+1)) m0=Reg.mark x met:=by
   simp only [Reg.marks]
   rw [foldl_take _ _ a0 [] i hi,hx]
   simp only [Reg.marks] at hm
   rw [hm]
  rw [hs]
  refine(loopN_scan (fun j=>((n:Int),a2,a0,(a0.length:Int),(i:Int),x,(x.length:Int),(j:Int),a3,Reg.mark (x.take j) met,m0.length)) x.length
   (fun j=>if Reg.bad n (Reg.mark (x.take j) met) (x.getD j 0) then some (some (AV.bool false,[])) else none) (k ((n:Int),a2,a0,(a0.length:Int),((i+1:Nat):Int),a3,Reg.mark x met,m0.length)) (by rfl) (fun j hj k'=>?_) (fun k'=>?_) _ (by omega)).trans ?_
  ·simp only [f37_10,dec_and]
   rw [cond_pos (by omega),cond_pos (by omega),Int.toNat_natCast]
   generalize hd:x.getD j 0=d
   have hml':=Reg.mark_len (x.take j) met
   have hs':Reg.mark (x.take (j+1)) met=(Reg.mark (x.take j) met).set d.toNat true:=by
    simp only [Reg.mark]
    rw [foldl_take _ _ x 0 j hj,hd]
   by_cases b1:d < 0
   ·rw [cond_pos b1,if_pos (.inl b1)]
   rw [cond_neg b1]
   by_cases b2:d≥(n:Int)
   ·rw [cond_pos b2,if_pos (.inr (.inl b2))]
   rw [cond_neg b2,cond_pos (by omega)]
   cases b3:(Reg.mark (x.take j) met).getD (Int.toNat d) false with
   | true=>rw [if_pos (.inr (.inr b3))];rfl
   | false=>
    rw [if_neg (by unfold Reg.bad;rw [b3];simp;omega),cond_false,cond_pos (by omega),i64w (by omega) (by omega),← hs']
    rfl
  ·simp only [f37_10]
   rw [cond_neg (by omega),List.take_length]
   simp only [f37_17]
   rw [i64w (by omega) (by omega)]
   rfl
  ·rw [Reg.scan_vg]
   cases hv:Reg.vg n x met with
   | none=>rw [if_pos (.inr rfl)]
   | some m=>rw [if_neg (by simp [hz])]
 ·simp only [f37_20,f37_5,f37_19,f37_6]
  rw [cond_neg (by omega)]
  simp only [f37_24,Bool.not_not]
 ·rw [Reg.scan_vgs]
  cases Reg.vgs n a0 m0 <;> rfl
theorem c37:CallOk Try.prog G38 37 r37:=callOk_of (V:=VG3837) mixed tys eVG3837 (f:=37) (fn:=Try.f37) Try.func37 (by kernel_rfl) (c:=sub (bodyOf Try.f37) []) (by kernel_rfl) (by
 intro X H r H' h hX hH
 unfold r37 at h;split at h <;> try contradiction
 ·simp only [Option.some.injEq,Prod.mk.injEq] at h
  obtain⟨hp,rfl,rfl⟩:=h
  obtain⟨F,hF⟩:=s37 _ _ _ _ hp (hX _ (.head _)) (hX _ (.tail _ (.head _))) (hX _ (.tail _ (.tail _ (.head _)))) (hX _ (.tail _ (.tail _ (.tail _ (.head _)))))
  exact⟨Af37 F,(f37_body F _ _ _ _).trans hF⟩)
end Go.Am
end
section
namespace Go.Am
open Go Go.Proofs
abbrev sp28:List (Nat×Md):=[(1,.plain),(2,.plain),(7,.plain),(13,.plain),(14,.plain),(15,.plain)]
abbrev sp29:List (Nat×Md):=[(7,.plain),(10,.plain),(35,.plain),(36,.plain),(37,.plain)]
abbrev sp30:List (Nat×Md):=[(2,.plain),(7,.plain),(10,.plain)]
abbrev sp31:List (Nat×Md):=[(1,.plain),(2,.plain),(8,.plain),(31,.plain),(32,.plain),(33,.plain)]
abbrev sp32:List (Nat×Md):=[(1,.plain),(2,.plain),(8,.plain),(11,.plain),(31,.plain),(32,.plain),(33,.plain),(41,.plain),(42,.plain),(43,.plain)]
abbrev sp33:List (Nat×Md):=[(0,.plain),(1,.plain),(2,.plain),(8,.plain)]
abbrev sp34:List (Nat×Md):=[(1,.plain),(2,.plain),(8,.plain),(31,.plain),(32,.plain),(33,.plain),(34,.plain)]
abbrev sp35:List (Nat×Md):=[(1,.plain),(2,.plain),(8,.plain),(10,.plain),(31,.plain),(32,.plain),(33,.plain)]
abbrev sp36:List (Nat×Md):=[(1,.plain),(2,.plain),(8,.plain),(10,.plain),(11,.plain),(31,.plain),(32,.plain),(33,.plain)]
abbrev sp37:List (Nat×Md):=[(8,.plain)]
abbrev Ty33:=Li×Li×(List Bool)
abbrev Ty34:=Li×Li×(List Bool)×Li
abbrev Ty35:=Li×(List Bool)×Li×Int×Int×Li
abbrev Ty36:=(List Bool)×Int×Li
abbrev Ty37:=Int×(List Bool)×Int×Int×Li
abbrev Ty38:=(List Li)×Li×(List Bool)
abbrev Ty39:=(List Li)×Li×(List Bool)×Li
abbrev Ty40:=Li×(List Bool)×(List Li)×Int×Int×Li
abbrev Ty41:=Li×(List Bool)×(List Li)×Int×Int×Li×Nat
abbrev Ty42:=Li×(List Bool)×(List Li)×Int×Int×Bool×Li×Nat
abbrev Ty43:=Li×(List Bool)×Li×(List Li)×Int×Int×Li×Nat
abbrev Ty44:=Li×(List Bool)×Li×Int×(List Li)×Int×Int×Li×Nat
abbrev Ty45:=Li×(List Bool)×Int×(List Li)×Int×Int×Li×Int×Int×Li×Nat
def lVG3840:List CEnt:=[(38,[some 4],r38)]
def VG3840:Env:=mkEnv T38 G38 lVG3840
noncomputable abbrev Kf23:=kFin VG3840 none (Try.f40).results.toList
theorem eVG3840:EOk Try.prog VG3840:=eok_mk (by exact⟨c38,trivial⟩)
def Af40(F:Nat):Cuts:={ F:=F,at_:=fun n=>match n with | 3016=>some sp28 | 10016=>some sp29 | _=>none,join:=fun n=>match n with | 1049=>some sp1 | 2047=>some sp2 | 3018=>some sp28 | 8026=>some sp3 | 9024=>some sp30 | 10018=>some sp29 | 15003=>some [(10,.plain)] | _=>none }
noncomputable abbrev XAf40(F:Nat){α:Type}:=@aexec α VG3840 (Af40 F)
def ef40_a:Ty33→St:=fun (a0,a1,a2)=>⟨[(0,(.vs (.rI .i64 a0) 0 1)),(1,(.vs (.rI .i64 a1) 0 1)),(2,(.vs (.rB a2) 0 1))],[],0,55,0⟩
def ef40j1:Ty33→St:=fun (t0,t1,t2)=>⟨[(0,(.vs (.rI .i64 t0) 0 1)),(1,(.vs (.rI .i64 t1) 0 1)),(2,(.vs (.rB t2) 0 1))],[],0,55,0⟩
def ef40j2:Ty34→St:=fun (t0,t1,t2,x4)=>⟨[(0,(.vs (.rI .i64 t0) 0 1)),(1,(.vs (.rI .i64 t1) 0 1)),(2,(.vs (.rB t2) 0 1)),(7,.ptr 0 0 6 0 0 0 6)],[(0,(.cells 6 (.rI .i64 x4) true))],1,55,0⟩
def ef40j3:Ty35→St:=fun (t1,t2,t13,t14,t15,x6)=>⟨[(1,(.vs (.rI .i64 t1) 0 1)),(2,(.vs (.rB t2) 0 1)),(7,.ptr 0 0 6 0 0 0 6),(13,(.vs (.rI .i64 t13) 0 1)),(14,.int .i64 t14),(15,.int .i64 t15)],[(0,(.cells 6 (.rI .i64 x6) true))],1,55,0⟩
def ef40l1:Ty35→St:=ef40j3
def ef40j4:(List Bool)×Li→St:=fun (t2,x2)=>⟨[(2,(.vs (.rB t2) 0 1)),(7,.ptr 0 0 6 0 0 0 6)],[(0,(.cells 6 (.rI .i64 x2) true))],1,55,0⟩
def ef40j5:Ty36→St:=fun (t2,t10,x3)=>⟨[(2,(.vs (.rB t2) 0 1)),(7,.ptr 0 0 6 0 0 0 6),(10,.int .i64 t10)],[(0,(.cells 6 (.rI .i64 x3) true))],1,55,0⟩
def ef40j6:Ty37→St:=fun (t10,t35,t36,t37,x5)=>⟨[(7,.ptr 0 0 6 0 0 0 6),(10,.int .i64 t10),(35,(.vs (.rB t35) 0 1)),(36,.int .i64 t36),(37,.int .i64 t37)],[(0,(.cells 6 (.rI .i64 x5) true))],1,55,0⟩
def ef40l2:Ty37→St:=ef40j6
def ef40j7:Int→St:=fun t10=>⟨[(10,.int .i64 t10)],[],0,55,0⟩
def f40_1(F:Nat)(kf40j1:Ty33→Rz):Ty33→Rz:=fun (a0,a1,a2)=>(kf40j1 (a0,a1,a2))
theorem f40_1_eq(F:Nat)(Rf40j1:St→Rz):∀ v,XAf40 F (bp Try.f40 2) (ef40_a v) (kSeq (kc VG3840 Rf40j1 sp1) Kf23)=f40_1 F (Rf40j1∘ef40j1) v:=by
 rintro⟨a0,a1,a2⟩;kernel_rfl
def f40_2(F:Nat)(kf40j2:Ty34→Rz):Ty33→Rz:=fun (t0,t1,t2)=>(kf40j2 (t0,t1,t2,[0,0,0,0,0,0]))
theorem f40_2_eq(F:Nat)(Rf40j2:St→Rz):∀ v,XAf40 F (bp Try.f40 6) (ef40j1 v) (kSeq (kc VG3840 Rf40j2 sp2) Kf23)=f40_2 F (Rf40j2∘ef40j2) v:=by
 rintro⟨t0,t1,t2⟩;kernel_rfl
def f40_3(F:Nat)(kf40j3:Ty35→Rz)(kf40j4:(List Bool)×Li→Rz):Ty34→Rz:=fun (t0,t1,t2,x4)=>(kf40j3 (t1,t2,t0,(↑t0.length:Int),(0:Int),x4))
theorem f40_3_eq(F:Nat)(Rf40j3:St→Rz)(Rf40j4:St→Rz):∀ v,XAf40 F (bp Try.f40 28) (ef40j2 v) (kSeq (kc VG3840 Rf40j3 sp28) (kSeq (kc VG3840 Rf40j4 sp3) Kf23))=f40_3 F (Rf40j3∘ef40j3) (Rf40j4∘ef40j4) v:=by
 rintro⟨t0,t1,t2,x4⟩;kernel_rfl
def f40_4(F:Nat)(kf40l1:Ty35→Rz)(kf40j4:(List Bool)×Li→Rz):Ty35→Rz:=fun (t1,t2,t13,t14,t15,x6)=>(cond (decide (t15 < t14)) (cond ((decide (0≤t15))&&(decide (t15 < (↑t13.length:Int)))) (cond ((decide (0≤(t13.getD (Int.toNat t15) 0)))&&(decide ((t13.getD (Int.toNat t15) 0) < (↑t1.length:Int)))) (cond (decide ((t1.getD (Int.toNat (t13.getD (Int.toNat t15) 0)) 0)≥(0:Int))) (cond ((decide (0≤(t13.getD (Int.toNat t15) 0)))&&(decide ((t13.getD (Int.toNat t15) 0) < (↑t1.length:Int)))) (cond ((decide (0≤(t1.getD (Int.toNat (t13.getD (Int.toNat t15) 0)) 0)))&&(decide ((t1.getD (Int.toNat (t13.getD (Int.toNat t15) 0)) 0) < (6:Int)))) (cond ((decide (0≤(t1.getD (Int.toNat (t13.getD (Int.toNat t15) 0)) 0)))&&(decide ((t1.getD (Int.toNat (t13.getD (Int.toNat t15) 0)) 0) < (6:Int)))) (kf40l1 (t1,t2,t13,t14,(IntKind.i64.wrap (t15+(1:Int))),(x6.set (Int.toNat (t1.getD (Int.toNat (t13.getD (Int.toNat t15) 0)) 0)) (IntKind.i64.wrap ((x6.getD (Int.toNat (t1.getD (Int.toNat (t13.getD (Int.toNat t15) 0)) 0)) 0)+(1:Int)))))) none) none) none) (kf40l1 (t1,t2,t13,t14,(IntKind.i64.wrap (t15+(1:Int))),x6))) none) none) (kf40j4 (t2,x6)))
theorem f40_4_eq(F:Nat)(Rf40l1:St→Rz)(Rf40j4:St→Rz):∀ v,XAf40 F (bp Try.f40 116) (ef40l1 v) (kSeq (kc VG3840 Rf40l1 sp28) (kBlock 0 (kSeq (kc VG3840 Rf40j4 sp3) Kf23)))=f40_4 F (Rf40l1∘ef40l1) (Rf40j4∘ef40j4) v:=by
 rintro⟨t1,t2,t13,t14,t15,x6⟩;kernel_rfl
def f40_5_i:Ty35→Li×(List Bool)×Li×Int×Int×Li:=fun (t1,t2,t13,t14,t15,x6)=>(t1,t2,t13,t14,t15,x6)
def f40_5(F:Nat)(kf40j4:(List Bool)×Li→Rz):Ty35→Rz:=fun v=>loopN (fun k=>f40_4 F k kf40j4) F (f40_5_i v)
theorem f40_5_eq(F:Nat)(Rf40j4:St→Rz):∀ v,XAf40 F (bp Try.f40 58) (ef40j3 v) (kBlock 0 (kSeq (kc VG3840 Rf40j4 sp3) Kf23))=f40_5 F (Rf40j4∘ef40j4) v:=
 loop_cut (by kernel_rfl) (by kernel_rfl) ef40j3 ef40l1 _ f40_5_i (fun k=>f40_4 F k (Rf40j4∘ef40j4))
  (by rintro⟨t1,t2,t13,t14,t15,x6⟩;kernel_rfl) (fun Rf40l1=>f40_4_eq F Rf40l1 Rf40j4)
def f40_6(F:Nat)(kf40j4:(List Bool)×Li→Rz):Ty35→Rz:=f40_5 F kf40j4
theorem f40_6_eq(F:Nat)(Rf40j4:St→Rz):∀ v,XAf40 F (bp Try.f40 29) (ef40j3 v) (kSeq (kc VG3840 Rf40j4 sp3) Kf23)=f40_6 F (Rf40j4∘ef40j4) v:=fun v=>
 (block_in  (by kernel_rfl) _ _).trans (f40_5_eq F Rf40j4 v)
def f40_7(F:Nat)(kf40j4:(List Bool)×Li→Rz):Ty34→Rz:=fun v=>f40_3 F (f40_6 F kf40j4) kf40j4 v
theorem f40_7_eq(F:Nat)(Rf40j4:St→Rz):∀ v,XAf40 F (bp Try.f40 14) (ef40j2 v) (kSeq (kc VG3840 Rf40j4 sp3) Kf23)=f40_7 F (Rf40j4∘ef40j4) v:=
 seq_cut (by kernel_rfl) (by kernel_rfl) ef40j2 ef40j3 _ (fun k=>f40_3 F k (Rf40j4∘ef40j4)) (f40_6 F (Rf40j4∘ef40j4))
  (fun Rf40j3=>f40_3_eq F Rf40j3 Rf40j4) (f40_6_eq F Rf40j4)
def f40_8(F:Nat)(kf40j5:Ty36→Rz):(List Bool)×Li→Rz:=fun (t2,x2)=>(kf40j5 (t2,(Reg.first t2),x2))
theorem f40_8_eq(F:Nat)(Rf40j5:St→Rz):∀ v,XAf40 F (bp Try.f40 30) (ef40j4 v) (kSeq (kc VG3840 Rf40j5 sp30) Kf23)=f40_8 F (Rf40j5∘ef40j5) v:=by
 rintro⟨t2,x2⟩;kernel_rfl
def f40_9(F:Nat)(kf40j6:Ty37→Rz)(kf40j7:Int→Rz):Ty36→Rz:=fun (t2,t10,x3)=>(kf40j6 (t10,t2,(↑t2.length:Int),(0:Int),x3))
theorem f40_9_eq(F:Nat)(Rf40j6:St→Rz)(Rf40j7:St→Rz):∀ v,XAf40 F (bp Try.f40 124) (ef40j5 v) (kSeq (kc VG3840 Rf40j6 sp29) (kSeq (kc VG3840 Rf40j7 [(10,.plain)]) Kf23))=f40_9 F (Rf40j6∘ef40j6) (Rf40j7∘ef40j7) v:=by
 rintro⟨t2,t10,x3⟩;kernel_rfl
def f40_10(F:Nat)(kf40l2:Ty37→Rz)(kf40j7:Int→Rz):Ty37→Rz:=fun (t10,t35,t36,t37,x5)=>(cond (decide (t37 < t36)) (cond ((decide (0≤t37))&&(decide (t37 < (↑t35.length:Int)))) (cond (t35.getD (Int.toNat t37) false) (cond ((decide (0≤t37))&&(decide (t37 < (6:Int)))) (cond ((decide (0≤t10))&&(decide (t10 < (6:Int)))) (cond (decide ((x5.getD (Int.toNat t37) 0) > (x5.getD (Int.toNat t10) 0))) (kf40l2 (t37,t35,t36,(IntKind.i64.wrap (t37+(1:Int))),x5)) (kf40l2 (t10,t35,t36,(IntKind.i64.wrap (t37+(1:Int))),x5))) none) none) (kf40l2 (t10,t35,t36,(IntKind.i64.wrap (t37+(1:Int))),x5))) none) (kf40j7 t10))
theorem f40_10_eq(F:Nat)(Rf40l2:St→Rz)(Rf40j7:St→Rz):∀ v,XAf40 F (bp Try.f40 500) (ef40l2 v) (kSeq (kc VG3840 Rf40l2 sp29) (kBlock 2 (kSeq (kc VG3840 Rf40j7 [(10,.plain)]) Kf23)))=f40_10 F (Rf40l2∘ef40l2) (Rf40j7∘ef40j7) v:=by
 rintro⟨t10,t35,t36,t37,x5⟩;kernel_rfl
def f40_11_i:Ty37→Int×(List Bool)×Int×Int×Li:=fun (t10,t35,t36,t37,x5)=>(t10,t35,t36,t37,x5)
def f40_11(F:Nat)(kf40j7:Int→Rz):Ty37→Rz:=fun v=>loopN (fun k=>f40_10 F k kf40j7) F (f40_11_i v)
theorem f40_11_eq(F:Nat)(Rf40j7:St→Rz):∀ v,XAf40 F (bp Try.f40 250) (ef40j6 v) (kBlock 2 (kSeq (kc VG3840 Rf40j7 [(10,.plain)]) Kf23))=f40_11 F (Rf40j7∘ef40j7) v:=
 loop_cut (by kernel_rfl) (by kernel_rfl) ef40j6 ef40l2 _ f40_11_i (fun k=>f40_10 F k (Rf40j7∘ef40j7))
  (by rintro⟨t10,t35,t36,t37,x5⟩;kernel_rfl) (fun Rf40l2=>f40_10_eq F Rf40l2 Rf40j7)
def f40_12(F:Nat)(kf40j7:Int→Rz):Ty37→Rz:=f40_11 F kf40j7
theorem f40_12_eq(F:Nat)(Rf40j7:St→Rz):∀ v,XAf40 F (bp Try.f40 125) (ef40j6 v) (kSeq (kc VG3840 Rf40j7 [(10,.plain)]) Kf23)=f40_12 F (Rf40j7∘ef40j7) v:=fun v=>
 (block_in  (by kernel_rfl) _ _).trans (f40_11_eq F Rf40j7 v)
def f40_13(F:Nat)(kf40j7:Int→Rz):Ty36→Rz:=fun v=>f40_9 F (f40_12 F kf40j7) kf40j7 v
theorem f40_13_eq(F:Nat)(Rf40j7:St→Rz):∀ v,XAf40 F (bp Try.f40 62) (ef40j5 v) (kSeq (kc VG3840 Rf40j7 [(10,.plain)]) Kf23)=f40_13 F (Rf40j7∘ef40j7) v:=
 seq_cut (by kernel_rfl) (by kernel_rfl) ef40j5 ef40j6 _ (fun k=>f40_9 F k (Rf40j7∘ef40j7)) (f40_12 F (Rf40j7∘ef40j7))
  (fun Rf40j6=>f40_9_eq F Rf40j6 Rf40j7) (f40_12_eq F Rf40j7)
def f40_14(F:Nat):Int→Rz:=fun t10=>(some ((.int .i64 t10),[]))
theorem f40_14_eq(F:Nat):∀ v,XAf40 F (bp Try.f40 63) (ef40j7 v) Kf23=f40_14 F v:=by
 intro t10;kernel_rfl
def f40_15(F:Nat):Ty36→Rz:=fun v=>f40_13 F (f40_14 F) v
theorem f40_15_eq(F:Nat):∀ v,XAf40 F (bp Try.f40 31) (ef40j5 v) Kf23=f40_15 F v:=
 seq_cut (by kernel_rfl) (by kernel_rfl) ef40j5 ef40j7 _ (fun k=>f40_13 F k) (f40_14 F)
  (fun Rf40j7=>f40_13_eq F Rf40j7) (f40_14_eq F)
def f40_16(F:Nat):(List Bool)×Li→Rz:=fun v=>f40_8 F (f40_15 F) v
theorem f40_16_eq(F:Nat):∀ v,XAf40 F (bp Try.f40 15) (ef40j4 v) Kf23=f40_16 F v:=
 seq_cut (by kernel_rfl) (by kernel_rfl) ef40j4 ef40j5 _ (fun k=>f40_8 F k) (f40_15 F)
  (fun Rf40j5=>f40_8_eq F Rf40j5) (f40_15_eq F)
def f40_17(F:Nat):Ty34→Rz:=fun v=>f40_7 F (f40_16 F) v
theorem f40_17_eq(F:Nat):∀ v,XAf40 F (bp Try.f40 7) (ef40j2 v) Kf23=f40_17 F v:=
 seq_cut (by kernel_rfl) (by kernel_rfl) ef40j2 ef40j4 _ (fun k=>f40_7 F k) (f40_16 F)
  (fun Rf40j4=>f40_7_eq F Rf40j4) (f40_16_eq F)
def f40_18(F:Nat):Ty33→Rz:=fun v=>f40_2 F (f40_17 F) v
theorem f40_18_eq(F:Nat):∀ v,XAf40 F (bp Try.f40 3) (ef40j1 v) Kf23=f40_18 F v:=
 seq_cut (by kernel_rfl) (by kernel_rfl) ef40j1 ef40j2 _ (fun k=>f40_2 F k) (f40_17 F)
  (fun Rf40j2=>f40_2_eq F Rf40j2) (f40_17_eq F)
def f40_19(F:Nat):Ty33→Rz:=fun v=>f40_1 F (f40_18 F) v
theorem f40_19_eq(F:Nat):∀ v,XAf40 F (sub (bodyOf Try.f40) []) (ef40_a v) Kf23=f40_19 F v:=
 seq_cut (by kernel_rfl) (by kernel_rfl) ef40_a ef40j1 _ (fun k=>f40_1 F k) (f40_18 F)
  (fun Rf40j1=>f40_1_eq F Rf40j1) (f40_18_eq F)
def f40(F:Nat):Ty33→Rz:=f40_19 F
theorem f40_body(F:Nat)(a0:List Int)(a1:List Int)(a2:List Bool):abody VG3840 (Af40 F) Try.f40 [(.vs (.rI .i64 a0) 0 1),(.vs (.rI .i64 a1) 0 1),(.vs (.rB a2) 0 1)] []=f40 F (a0,a1,a2):=
 (abody_in (c:=(sub (bodyOf Try.f40) [])) (by kernel_rfl) (s:=ef40_a (a0,a1,a2)) (by kernel_rfl)).trans (f40_19_eq F (a0,a1,a2))
def r40:CRun:=fun X H=>match X,H with
 | [(.vs (.rI .i64 a0) 0 1),(.vs (.rI .i64 a1) 0 1),(.vs (.rB a2) 0 1)],[]=>some ((((Reg.inr a1.length a0)&&(decide (a2.length≤6)))&&(Reg.lt6 a1)),(.int .i64 (Reg.best a0 a1 a2)),[])
 | _,_=>none
theorem s40(a0:List Int)(a1:List Int)(a2:List Bool)(hp:((((Reg.inr a1.length a0)&&(decide (a2.length≤6)))&&(Reg.lt6 a1)))=true)(h0:okV (.vs (.rI .i64 a0) 0 1))(h1:okV (.vs (.rI .i64 a1) 0 1))(h2:okV (.vs (.rB a2) 0 1)):∃ F,f40 F (a0,a1,a2)=some ((.int .i64 (Reg.best a0 a1 a2)),[]):=by
 simp only [Bool.and_eq_true,decide_eq_true_eq] at hp
 obtain⟨⟨hin,h6⟩,hlt⟩:=hp
 have hlen:a0.length < 4611686018427387904:=h0.2
 have hlt6:∀ x∈a1,x < 6:=by simpa [Reg.lt6,List.all_eq_true] using hlt
 refine⟨a0.length+a2.length+1,?_⟩
 simp only [f40,f40_19,f40_1,f40_18,f40_2,f40_17,f40_7,f40_3,f40_6,f40_5,f40_5_i]
 refine loopN_from (fun i=>(a1,a2,a0,(a0.length:Int),(i:Int),Reg.cnts (a0.take i) a1)) a0.length (by rfl) (fun i hi k=>?_) (fun k=>?_) _ (by omega)
 ·have hr:=Reg.inr_getD hin hi
  simp only [f40_4,dec_and]
  rw [cond_pos (by omega),cond_pos (by omega),Int.toNat_natCast,cond_pos (by omega),i64w (x:=(i:Int)+1) (by omega) (by omega)]
  have ho:a1.getD (Int.toNat (a0.getD i 0)) 0 < 6:=by
   have hlt':Int.toNat (a0.getD i 0) < a1.length:=by omega
   rw [List.getD_eq_getElem?_getD,List.getElem?_eq_getElem hlt']
   exact hlt6 _ (List.getElem_mem hlt')
  by_cases hn:a1.getD (Int.toNat (a0.getD i 0)) 0≥0
  ·have hb:=Reg.has_le (a0.take i) a1 (a1.getD (Int.toNat (a0.getD i 0)) 0)
   rw [List.length_take] at hb
   rw [cond_pos hn,cond_pos (by omega),cond_pos (by omega),cond_pos (by omega),Reg.cnts_getD _ _ hn ho,i64w (by omega) (by omega),Reg.cnts_set hi hn ho]
   rfl
  ·rw [cond_neg hn,Reg.cnts_skip hi (by omega)]
   rfl
 ·simp only [f40_4]
  rw [cond_neg (by omega),List.take_length]
  simp only [f40_16,f40_8,f40_15,f40_13,f40_9,f40_12,f40_11,f40_11_i]
  refine loopN_from (fun i=>(Reg.bestTo a0 a1 a2 i,a2,(a2.length:Int),(i:Int),Reg.cnts a0 a1)) a2.length (by rfl) (fun i hi k=>?_) (fun k=>?_) _ (by omega)
  ·simp only [f40_10,dec_and]
   rw [cond_pos (by omega),cond_pos (by omega),Int.toNat_natCast,Reg.bestTo_succ]
   cases hu:a2.getD i false with
   | false=>rw [cond_false,i64w (by omega) (by omega),if_neg (by simp)];rfl
   | true=>
    have hf:=Reg.bestTo_range (g:=a0) (o:=a1) (Reg.first_up hu) i (by omega)
    have e:(Reg.cnts a0 a1).getD i 0=Reg.has a0 a1 (i:Int):=by
     have:=Reg.cnts_getD a0 a1 (h:=(i:Int)) (by omega) (by omega)
     rwa [Int.toNat_natCast] at this
    rw [cond_true,cond_pos (by omega),cond_pos (by omega),i64w (by omega) (by omega),e,Reg.cnts_getD a0 a1 hf.1 (by omega)]
    by_cases hc:Reg.has a0 a1 (i:Int) > Reg.has a0 a1 (Reg.bestTo a0 a1 a2 i)
    ·rw [cond_pos hc,if_pos ⟨rfl,hc⟩];rfl
    ·rw [cond_neg hc,if_neg (fun h=>hc h.2)];rfl
  ·simp only [f40_10]
   rw [cond_neg (by omega)]
   rfl
theorem c40:CallOk Try.prog G38 40 r40:=callOk_of (V:=VG3840) mixed tys eVG3840 (f:=40) (fn:=Try.f40) Try.func40 (by kernel_rfl) (c:=sub (bodyOf Try.f40) []) (by kernel_rfl) (by
 intro X H r H' h hX hH
 unfold r40 at h;split at h <;> try contradiction
 ·simp only [Option.some.injEq,Prod.mk.injEq] at h
  obtain⟨hp,rfl,rfl⟩:=h
  obtain⟨F,hF⟩:=s40 _ _ _ hp (hX _ (.head _)) (hX _ (.tail _ (.head _))) (hX _ (.tail _ (.tail _ (.head _))))
  exact⟨Af40 F,(f40_body F _ _ _).trans hF⟩)
def lVG3839:List CEnt:=[]
def VG3839:Env:=mkEnv T38 G38 lVG3839
noncomputable abbrev Kf24:=kFin VG3839 (some [(2,.own 3)]) (Try.f39).results.toList
theorem eVG3839:EOk Try.prog VG3839:=eok_mk (by exact trivial)
def Af39p(F:Nat):Cuts:={ F:=F,at_:=fun _=>none,join:=fun _=>none,fin:=(some [(2,.own 3)]) }
def ef39p_a:Li→St:=fun a0=>⟨[(0,(.vs (.rI .i64 a0) 2 1))],[],0,8,0⟩
def f39p_1(F:Nat):Li→Rz:=fun a0=>(cond (decide ((0+a0.length) < 1073741824)) (some ((.own 0 0 1),[(.cells ([]++a0).length (.rI .i64 ([]++a0)) true)])) none)
theorem f39p_1_eq(F:Nat):∀ v,aexec VG3839 (Af39p F) (sub (bodyOf Try.f39) []) (ef39p_a v) Kf24=f39p_1 F v:=by
 intro a0;kernel_rfl
def f39p(F:Nat):Li→Rz:=f39p_1 F
theorem f39p_body(F:Nat)(a0:List Int):abody VG3839 (Af39p F) Try.f39 [(.vs (.rI .i64 a0) 2 1)] []=f39p F a0:=
 (abody_in (c:=(sub (bodyOf Try.f39) [])) (by kernel_rfl) (s:=ef39p_a a0) (by kernel_rfl)).trans (f39p_1_eq F a0)
def Af39z(F:Nat):Cuts:={ F:=F,at_:=fun _=>none,join:=fun _=>none,fin:=(some [(2,.own 3)]) }
def ef39z_a:Unit→St:=fun _=>⟨[(0,(.vs (.rI .i64 []) 3 1))],[],0,8,0⟩
def f39z_1(F:Nat):Unit→Rz:=fun _=>(some ((.own 0 0 1),[(.cells 0 (.rI .i64 []) true)]))
theorem f39z_1_eq(F:Nat):∀ v,aexec VG3839 (Af39z F) (sub (bodyOf Try.f39) []) (ef39z_a v) Kf24=f39z_1 F v:=by
 intro _;kernel_rfl
def f39z(F:Nat):Unit→Rz:=f39z_1 F
theorem f39z_body(F:Nat) : abody VG3839 (Af39z F) Try.f39 [(.vs (.rI .i64 []) 3 1)] []=f39z F ():=
 (abody_in (c:=(sub (bodyOf Try.f39) [])) (by kernel_rfl) (s:=ef39z_a ()) (by kernel_rfl)).trans (f39z_1_eq F ())
def r39:CRun:=fun X H=>match X,H with
 | [(.vs (.rI .i64 a0) 0 1)],[]=>some ((decide (a0.length < 1073741000)),.own 0 0 1,[(.cells a0.length (.rI .i64 a0) true)])
 | _,_=>none
theorem s39p(a0:List Int)(hp:((decide (a0.length < 1073741000)))=true)(h0:okV (.vs (.rI .i64 a0) 0 1)):∃ F,f39p F a0=some ((.own 0 0 1),[(.cells a0.length (.rI .i64 a0) true)]):=by
 have h:=of_decide_eq_true hp
 refine⟨0,?_⟩
 simp only [f39p,f39p_1,List.nil_append]
 rw [cond_pos (by omega)]
theorem s39z:∃ F,f39z F ()=some ((.own 0 0 1),[(.cells ([]:List Int).length (.rI .i64 ([]:List Int)) true)]):=⟨0,rfl⟩
theorem c39:CallOk Try.prog G38 39 r39:=callOk_nil (V:=VG3839) mixed tys eVG3839 (f:=39) (fn:=Try.f39) Try.func39 (by kernel_rfl) (c:=sub (bodyOf Try.f39) []) (by kernel_rfl) (by
 intro X H R H' h
 unfold r39 at h;split at h <;> try contradiction
 rename_i a0
 simp only [Option.some.injEq,Prod.mk.injEq] at h
 obtain⟨hp,rfl,rfl⟩:=h
 refine⟨_,rfl,rfl,fun hok=>⟨?_,fun hz=>?_⟩⟩
 ·obtain⟨F,hF⟩:=s39p a0 hp hok
  exact⟨Af39p F,(f39p_body F a0).trans hF⟩
 ·have e:a0=[]:=List.length_eq_zero_iff.mp hz
  subst e
  obtain⟨F,hF⟩:=s39z
  exact⟨Af39z F,(f39z_body F).trans hF⟩)
def lVG3843:List CEnt:=[]
def VG3843:Env:=mkEnv T38 G38 lVG3843
noncomputable abbrev Kf25:=kFin VG3843 (some [(2,.own 4)]) (Try.f43).results.toList
theorem eVG3843:EOk Try.prog VG3843:=eok_mk (by exact trivial)
def Af43p(F:Nat):Cuts:={ F:=F,at_:=fun _=>none,join:=fun _=>none,fin:=(some [(2,.own 4)]) }
def ef43p_a:(List Bool)→St:=fun a0=>⟨[(0,(.vs (.rB a0) 2 1))],[],0,8,0⟩
def f43p_1(F:Nat):(List Bool)→Rz:=fun a0=>(cond (decide ((0+a0.length) < 1073741824)) (some ((.own 0 0 1),[(.cells ([]++a0).length (.rB ([]++a0)) true)])) none)
theorem f43p_1_eq(F:Nat):∀ v,aexec VG3843 (Af43p F) (sub (bodyOf Try.f43) []) (ef43p_a v) Kf25=f43p_1 F v:=by
 intro a0;kernel_rfl
def f43p(F:Nat):(List Bool)→Rz:=f43p_1 F
theorem f43p_body(F:Nat)(a0:List Bool):abody VG3843 (Af43p F) Try.f43 [(.vs (.rB a0) 2 1)] []=f43p F a0:=
 (abody_in (c:=(sub (bodyOf Try.f43) [])) (by kernel_rfl) (s:=ef43p_a a0) (by kernel_rfl)).trans (f43p_1_eq F a0)
def Af43z(F:Nat):Cuts:={ F:=F,at_:=fun _=>none,join:=fun _=>none,fin:=(some [(2,.own 4)]) }
def ef43z_a:Unit→St:=fun _=>⟨[(0,(.vs (.rB []) 3 1))],[],0,8,0⟩
def f43z_1(F:Nat):Unit→Rz:=fun _=>(some ((.own 0 0 1),[(.cells 0 (.rB []) true)]))
theorem f43z_1_eq(F:Nat):∀ v,aexec VG3843 (Af43z F) (sub (bodyOf Try.f43) []) (ef43z_a v) Kf25=f43z_1 F v:=by
 intro _;kernel_rfl
def f43z(F:Nat):Unit→Rz:=f43z_1 F
theorem f43z_body(F:Nat) : abody VG3843 (Af43z F) Try.f43 [(.vs (.rB []) 3 1)] []=f43z F ():=
 (abody_in (c:=(sub (bodyOf Try.f43) [])) (by kernel_rfl) (s:=ef43z_a ()) (by kernel_rfl)).trans (f43z_1_eq F ())
def r43:CRun:=fun X H=>match X,H with
 | [(.vs (.rB a0) 0 1)],[]=>some ((decide (a0.length < 1073741000)),.own 0 0 1,[(.cells a0.length (.rB a0) true)])
 | _,_=>none
theorem s43p(a0:List Bool)(hp:((decide (a0.length < 1073741000)))=true)(h0:okV (.vs (.rB a0) 0 1)):∃ F,f43p F a0=some ((.own 0 0 1),[(.cells a0.length (.rB a0) true)]):=by
 have h:=of_decide_eq_true hp
 refine⟨0,?_⟩
 simp only [f43p,f43p_1,List.nil_append]
 rw [cond_pos (by omega)]
theorem s43z:∃ F,f43z F ()=some ((.own 0 0 1),[(.cells ([]:List Bool).length (.rB ([]:List Bool)) true)]):=⟨0,rfl⟩
theorem c43:CallOk Try.prog G38 43 r43:=callOk_nil (V:=VG3843) mixed tys eVG3843 (f:=43) (fn:=Try.f43) Try.func43 (by kernel_rfl) (c:=sub (bodyOf Try.f43) []) (by kernel_rfl) (by
 intro X H R H' h
 unfold r43 at h;split at h <;> try contradiction
 rename_i a0
 simp only [Option.some.injEq,Prod.mk.injEq] at h
 obtain⟨hp,rfl,rfl⟩:=h
 refine⟨_,rfl,rfl,fun hok=>⟨?_,fun hz=>?_⟩⟩
 ·obtain⟨F,hF⟩:=s43p a0 hp hok
  exact⟨Af43p F,(f43p_body F a0).trans hF⟩
 ·have e:a0=[]:=List.length_eq_zero_iff.mp hz
  subst e
  obtain⟨F,hF⟩:=s43z
  exact⟨Af43z F,(f43z_body F).trans hF⟩)
def lVG3847:List CEnt:=[]
def VG3847:Env:=mkEnv T38 G38 lVG3847
noncomputable abbrev Kf26:=kFin VG3847 (some [(2,.own 22)]) (Try.f47).results.toList
theorem eVG3847:EOk Try.prog VG3847:=eok_mk (by exact trivial)
def Af47p(F:Nat):Cuts:={ F:=F,at_:=fun _=>none,join:=fun _=>none,fin:=(some [(2,.own 22)]) }
def ef47p_a:(List Li)→St:=fun a0=>⟨[(0,(.vs (.rL .i64 a0) 2 1))],[],0,8,0⟩
def f47p_1(F:Nat):(List Li)→Rz:=fun a0=>(cond (decide ((0+a0.length) < 1073741824)) (some ((.own 0 0 1),[(.cells ([]++a0).length (.rL .i64 ([]++a0)) true)])) none)
theorem f47p_1_eq(F:Nat):∀ v,aexec VG3847 (Af47p F) (sub (bodyOf Try.f47) []) (ef47p_a v) Kf26=f47p_1 F v:=by
 intro a0;kernel_rfl
def f47p(F:Nat):(List Li)→Rz:=f47p_1 F
theorem f47p_body(F:Nat)(a0:List Li):abody VG3847 (Af47p F) Try.f47 [(.vs (.rL .i64 a0) 2 1)] []=f47p F a0:=
 (abody_in (c:=(sub (bodyOf Try.f47) [])) (by kernel_rfl) (s:=ef47p_a a0) (by kernel_rfl)).trans (f47p_1_eq F a0)
def Af47z(F:Nat):Cuts:={ F:=F,at_:=fun _=>none,join:=fun _=>none,fin:=(some [(2,.own 22)]) }
def ef47z_a:Unit→St:=fun _=>⟨[(0,(.vs (.rL .i64 []) 3 1))],[],0,8,0⟩
def f47z_1(F:Nat):Unit→Rz:=fun _=>(some ((.own 0 0 1),[(.cells 0 (.rL .i64 []) true)]))
theorem f47z_1_eq(F:Nat):∀ v,aexec VG3847 (Af47z F) (sub (bodyOf Try.f47) []) (ef47z_a v) Kf26=f47z_1 F v:=by
 intro _;kernel_rfl
def f47z(F:Nat):Unit→Rz:=f47z_1 F
theorem f47z_body(F:Nat) : abody VG3847 (Af47z F) Try.f47 [(.vs (.rL .i64 []) 3 1)] []=f47z F ():=
 (abody_in (c:=(sub (bodyOf Try.f47) [])) (by kernel_rfl) (s:=ef47z_a ()) (by kernel_rfl)).trans (f47z_1_eq F ())
def r47:CRun:=fun X H=>match X,H with
 | [(.vs (.rL .i64 a0) 0 1)],[]=>some ((decide (a0.length < 1073741000)),.own 0 0 1,[(.cells a0.length (.rL .i64 a0) true)])
 | _,_=>none
theorem s47p(a0:List Li)(hp:((decide (a0.length < 1073741000)))=true)(h0:okV (.vs (.rL .i64 a0) 0 1)):∃ F,f47p F a0=some ((.own 0 0 1),[(.cells a0.length (.rL .i64 a0) true)]):=by
 have h:=of_decide_eq_true hp
 refine⟨0,?_⟩
 simp only [f47p,f47p_1,List.nil_append]
 rw [cond_pos (by omega)]
theorem s47z:∃ F,f47z F ()=some ((.own 0 0 1),[(.cells ([]:List Li).length (.rL .i64 ([]:List Li)) true)]):=⟨0,rfl⟩
theorem c47:CallOk Try.prog G38 47 r47:=callOk_nil (V:=VG3847) mixed tys eVG3847 (f:=47) (fn:=Try.f47) Try.func47 (by kernel_rfl) (c:=sub (bodyOf Try.f47) []) (by kernel_rfl) (by
 intro X H R H' h
 unfold r47 at h;split at h <;> try contradiction
 rename_i a0
 simp only [Option.some.injEq,Prod.mk.injEq] at h
 obtain⟨hp,rfl,rfl⟩:=h
 refine⟨_,rfl,rfl,fun hok=>⟨?_,fun hz=>?_⟩⟩
 ·obtain⟨F,hF⟩:=s47p a0 hp hok
  exact⟨Af47p F,(f47p_body F a0).trans hF⟩
 ·have e:a0=[]:=List.length_eq_zero_iff.mp hz
  subst e
  obtain⟨F,hF⟩:=s47z
  exact⟨Af47z F,(f47z_body F).trans hF⟩)
def lVG3815:List CEnt:=[(37,[some 22,none,some 3,some 4],r37),(38,[some 4],r38),(39,[some 3],r39),(40,[some 3,some 3,some 4],r40)]
def VG3815:Env:=mkEnv T38 G38 lVG3815
noncomputable abbrev Kf27:=kFin VG3815 (some [(6,.own 3),(7,.plain)]) (Try.f15).results.toList
theorem eVG3815:EOk Try.prog VG3815:=eok_mk (by exact⟨c37,c38,c39,c40,trivial⟩)
def Af15(F:Nat):Cuts:={ F:=F,at_:=fun n=>match n with | 7029=>some sp31 | 11012=>some sp32 | _=>none,join:=fun n=>match n with | 1055=>some sp1 | 3047=>some sp1 | 5039=>some sp1 | 6037=>some sp33 | 7031=>some sp31 | 8023=>some sp31 | 8027=>some sp34 | 9018=>some sp35 | 10016=>some sp36 | 11014=>some sp32 | 15001=>some sp31 | 16003=>some sp37 | _=>none,fin:=(some [(6,.own 3),(7,.plain)]) }
noncomputable abbrev XAf15(F:Nat){α:Type}:=@aexec α VG3815 (Af15 F)
def ef15_a:Ty38→St:=fun (a0,a1,a2)=>⟨[(0,(.vs (.rL .i64 a0) 0 1)),(1,(.vs (.rI .i64 a1) 0 1)),(2,(.vs (.rB a2) 0 1))],[],0,54,0⟩
def ef15j1:Ty38→St:=fun (t0,t1,t2)=>⟨[(0,(.vs (.rL .i64 t0) 0 1)),(1,(.vs (.rI .i64 t1) 0 1)),(2,(.vs (.rB t2) 0 1))],[],0,54,0⟩
def ef15j2:Ty38→St:=ef15j1
def ef15j3:Ty38→St:=ef15j1
def ef15j4:Ty39→St:=fun (t0,t1,t2,x4)=>⟨[(0,(.vs (.rL .i64 t0) 0 1)),(1,(.vs (.rI .i64 t1) 0 1)),(2,(.vs (.rB t2) 0 1)),(8,.own 0 0 1)],[(0,(.cells x4.length (.rI .i64 x4) true))],1,54,0⟩
def ef15j5:Ty40→St:=fun (t1,t2,t31,t32,t33,x6)=>⟨[(1,(.vs (.rI .i64 t1) 0 1)),(2,(.vs (.rB t2) 0 1)),(8,.own 0 0 1),(31,(.vs (.rL .i64 t31) 0 1)),(32,.int .i64 t32),(33,.int .i64 t33)],[(0,(.cells x6.length (.rI .i64 x6) true))],1,54,0⟩
def ef15l1:Ty41→St:=fun (t1,t2,t31,t32,t33,x6,x7)=>⟨[(1,(.vs (.rI .i64 t1) 0 1)),(2,(.vs (.rB t2) 0 1)),(8,.own 0 0 1),(31,(.vs (.rL .i64 t31) 0 1)),(32,.int .i64 t32),(33,.int .i64 t33)],[(0,(.cells x7 (.rI .i64 x6) true))],1,54,0⟩
def ef15j6:Ty42→St:=fun (t1,t2,t31,t32,t33,t34,x7,x8)=>⟨[(1,(.vs (.rI .i64 t1) 0 1)),(2,(.vs (.rB t2) 0 1)),(8,.own 0 0 1),(31,(.vs (.rL .i64 t31) 0 1)),(32,.int .i64 t32),(33,.int .i64 t33),(34,.bool t34)],[(0,(.cells x8 (.rI .i64 x7) true))],1,54,0⟩
def ef15j7:Ty41→St:=ef15l1
def ef15j8:Ty43→St:=fun (t1,t2,t10,t31,t32,t33,x7,x8)=>⟨[(1,(.vs (.rI .i64 t1) 0 1)),(2,(.vs (.rB t2) 0 1)),(8,.own 0 0 1),(10,(.vs (.rI .i64 t10) 0 1)),(31,(.vs (.rL .i64 t31) 0 1)),(32,.int .i64 t32),(33,.int .i64 t33)],[(0,(.cells x8 (.rI .i64 x7) true))],1,54,0⟩
def ef15j9:Ty44→St:=fun (t1,t2,t10,t11,t31,t32,t33,x8,x9)=>⟨[(1,(.vs (.rI .i64 t1) 0 1)),(2,(.vs (.rB t2) 0 1)),(8,.own 0 0 1),(10,(.vs (.rI .i64 t10) 0 1)),(11,.int .i64 t11),(31,(.vs (.rL .i64 t31) 0 1)),(32,.int .i64 t32),(33,.int .i64 t33)],[(0,(.cells x9 (.rI .i64 x8) true))],1,54,0⟩
def ef15j10:Ty45→St:=fun (t1,t2,t11,t31,t32,t33,t41,t42,t43,x10,x11)=>⟨[(1,(.vs (.rI .i64 t1) 0 1)),(2,(.vs (.rB t2) 0 1)),(8,.own 0 0 1),(11,.int .i64 t11),(31,(.vs (.rL .i64 t31) 0 1)),(32,.int .i64 t32),(33,.int .i64 t33),(41,(.vs (.rI .i64 t41) 0 1)),(42,.int .i64 t42),(43,.int .i64 t43)],[(0,(.cells x11 (.rI .i64 x10) true))],1,54,0⟩
def ef15l2:Ty45→St:=ef15j10
def ef15j11:Ty41→St:=ef15l1
def ef15j12:Li×Nat→St:=fun (x1,x2)=>⟨[(8,.own 0 0 1)],[(0,(.cells x2 (.rI .i64 x1) true))],1,54,0⟩
def f15_1(F:Nat)(kf15j1:Ty38→Rz):Ty38→Rz:=fun (a0,a1,a2)=>(kf15j1 (a0,a1,a2))
theorem f15_1_eq(F:Nat)(Rf15j1:St→Rz):∀ v,XAf15 F (bp Try.f15 2) (ef15_a v) (kSeq (kc VG3815 Rf15j1 sp1) Kf27)=f15_1 F (Rf15j1∘ef15j1) v:=by
 rintro⟨a0,a1,a2⟩;kernel_rfl
def f15_2(F:Nat)(kf15j2:Ty38→Rz):Ty38→Rz:=fun (t0,t1,t2)=>(cond ((decide (0≤(↑t1.length:Int)))&&(decide (Int.toNat (↑t1.length:Int) < 1073741000))) (cond (!(Reg.valid t0 (Int.toNat (↑t1.length:Int)) t1 t2)) (some ((.tup (.cons 0 (.own 0 0 1) (.cons 0 (.int .i64 1) .nil))),[(.cells 0 (.rI .i64 []) true)])) (kf15j2 (t0,t1,t2))) none)
theorem f15_2_eq(F:Nat)(Rf15j2:St→Rz):∀ v,XAf15 F (bp Try.f15 6) (ef15j1 v) (kSeq (kc VG3815 Rf15j2 sp1) Kf27)=f15_2 F (Rf15j2∘ef15j2) v:=by
 rintro⟨t0,t1,t2⟩;kernel_rfl
def f15_3(F:Nat)(kf15j3:Ty38→Rz):Ty38→Rz:=fun (t0,t1,t2)=>(cond (decide ((↑t0.length:Int) > (0:Int))) (cond (decide ((Reg.first t2) < (0:Int))) (some ((.tup (.cons 0 (.own 0 0 1) (.cons 0 (.int .i64 6) .nil))),[(.cells 0 (.rI .i64 []) true)])) (kf15j3 (t0,t1,t2))) (kf15j3 (t0,t1,t2)))
theorem f15_3_eq(F:Nat)(Rf15j3:St→Rz):∀ v,XAf15 F (bp Try.f15 14) (ef15j2 v) (kSeq (kc VG3815 Rf15j3 sp1) Kf27)=f15_3 F (Rf15j3∘ef15j3) v:=by
 rintro⟨t0,t1,t2⟩;kernel_rfl
def f15_4(F:Nat)(kf15j4:Ty39→Rz):Ty38→Rz:=fun (t0,t1,t2)=>(cond (decide (t1.length < 1073741000)) (kf15j4 (t0,t1,t2,t1)) none)
theorem f15_4_eq(F:Nat)(Rf15j4:St→Rz):∀ v,XAf15 F (bp Try.f15 30) (ef15j3 v) (kSeq (kc VG3815 Rf15j4 sp33) Kf27)=f15_4 F (Rf15j4∘ef15j4) v:=by
 rintro⟨t0,t1,t2⟩;kernel_rfl
def f15_5(F:Nat)(kf15j5:Ty40→Rz)(kf15j12:Li×Nat→Rz):Ty39→Rz:=fun (t0,t1,t2,x4)=>(kf15j5 (t1,t2,t0,(↑t0.length:Int),(0:Int),x4))
theorem f15_5_eq(F:Nat)(Rf15j5:St→Rz)(Rf15j12:St→Rz):∀ v,XAf15 F (bp Try.f15 124) (ef15j4 v) (kSeq (kc VG3815 Rf15j5 sp31) (kSeq (kc VG3815 Rf15j12 sp37) Kf27))=f15_5 F (Rf15j5∘ef15j5) (Rf15j12∘ef15j12) v:=by
 rintro⟨t0,t1,t2,x4⟩;kernel_rfl
def f15_6(F:Nat)(kf15j6:Ty42→Rz)(kf15l1:Ty41→Rz)(kf15j12:Li×Nat→Rz):Ty41→Rz:=fun (t1,t2,t31,t32,t33,x6,x7)=>(kf15j6 (t1,t2,t31,t32,t33,(decide (t33 < t32)),x6,x7))
theorem f15_6_eq(F:Nat)(Rf15j6:St→Rz)(Rf15l1:St→Rz)(Rf15j12:St→Rz):∀ v,XAf15 F (bp Try.f15 1000) (ef15l1 v) (kSeq (kc VG3815 Rf15j6 sp34) (kSeq (kc VG3815 Rf15l1 sp31) (kBlock 0 (kSeq (kc VG3815 Rf15j12 sp37) Kf27))))=f15_6 F (Rf15j6∘ef15j6) (Rf15l1∘ef15l1) (Rf15j12∘ef15j12) v:=by
 rintro⟨t1,t2,t31,t32,t33,x6,x7⟩;kernel_rfl
def f15_7(F:Nat)(kf15j7:Ty41→Rz)(kf15l1:Ty41→Rz)(kf15j12:Li×Nat→Rz):Ty42→Rz:=fun (t1,t2,t31,t32,t33,t34,x7,x8)=>(cond t34 (kf15j7 (t1,t2,t31,t32,t33,x7,x8)) (kf15j12 (x7,x8)))
theorem f15_7_eq(F:Nat)(Rf15j7:St→Rz)(Rf15l1:St→Rz)(Rf15j12:St→Rz):∀ v,XAf15 F (bp Try.f15 2002) (ef15j6 v) (kSeq (kc VG3815 Rf15j7 sp31) (kSeq (kc VG3815 Rf15l1 sp31) (kBlock 0 (kSeq (kc VG3815 Rf15j12 sp37) Kf27))))=f15_7 F (Rf15j7∘ef15j7) (Rf15l1∘ef15l1) (Rf15j12∘ef15j12) v:=by
 rintro⟨t1,t2,t31,t32,t33,t34,x7,x8⟩;kernel_rfl
def f15_8(F:Nat)(kf15j8:Ty43→Rz)(kf15j11:Ty41→Rz)(kf15l1:Ty41→Rz)(kf15j12:Li×Nat→Rz):Ty41→Rz:=fun (t1,t2,t31,t32,t33,x6,x7)=>(cond ((decide (0≤t33))&&(decide (t33 < (↑t31.length:Int)))) (kf15j8 (t1,t2,(t31.getD (Int.toNat t33) []),t31,t32,t33,x6,x7)) none)
theorem f15_8_eq(F:Nat)(Rf15j8:St→Rz)(Rf15j11:St→Rz)(Rf15l1:St→Rz)(Rf15j12:St→Rz):∀ v,XAf15 F (bp Try.f15 16024) (ef15j7 v) (kSeq (kc VG3815 Rf15j8 sp35) (kBlock 1 (kSeq (kc VG3815 Rf15j11 sp31) (kSeq (kc VG3815 Rf15l1 sp31) (kBlock 0 (kSeq (kc VG3815 Rf15j12 sp37) Kf27))))))=f15_8 F (Rf15j8∘ef15j8) (Rf15j11∘ef15j11) (Rf15l1∘ef15l1) (Rf15j12∘ef15j12) v:=by
 rintro⟨t1,t2,t31,t32,t33,x6,x7⟩;kernel_rfl
def f15_9(F:Nat)(kf15j9:Ty44→Rz)(kf15j11:Ty41→Rz)(kf15l1:Ty41→Rz)(kf15j12:Li×Nat→Rz):Ty43→Rz:=fun (t1,t2,t10,t31,t32,t33,x7,x8)=>(cond (((Reg.inr t1.length t10)&&(decide (t2.length≤6)))&&(Reg.lt6 t1)) (kf15j9 (t1,t2,t10,(Reg.best t10 t1 t2),t31,t32,t33,x7,x8)) none)
theorem f15_9_eq(F:Nat)(Rf15j9:St→Rz)(Rf15j11:St→Rz)(Rf15l1:St→Rz)(Rf15j12:St→Rz):∀ v,XAf15 F (bp Try.f15 32050) (ef15j8 v) (kSeq (kc VG3815 Rf15j9 sp36) (kBlock 1 (kSeq (kc VG3815 Rf15j11 sp31) (kSeq (kc VG3815 Rf15l1 sp31) (kBlock 0 (kSeq (kc VG3815 Rf15j12 sp37) Kf27))))))=f15_9 F (Rf15j9∘ef15j9) (Rf15j11∘ef15j11) (Rf15l1∘ef15l1) (Rf15j12∘ef15j12) v:=by
 rintro⟨t1,t2,t10,t31,t32,t33,x7,x8⟩;kernel_rfl
def f15_10(F:Nat)(kf15j10:Ty45→Rz)(kf15j11:Ty41→Rz)(kf15l1:Ty41→Rz)(kf15j12:Li×Nat→Rz):Ty44→Rz:=fun (t1,t2,t10,t11,t31,t32,t33,x8,x9)=>(kf15j10 (t1,t2,t11,t31,t32,t33,t10,(↑t10.length:Int),(0:Int),x8,x9))
theorem f15_10_eq(F:Nat)(Rf15j10:St→Rz)(Rf15j11:St→Rz)(Rf15l1:St→Rz)(Rf15j12:St→Rz):∀ v,XAf15 F (bp Try.f15 64102) (ef15j9 v) (kSeq (kc VG3815 Rf15j10 sp32) (kBlock 1 (kSeq (kc VG3815 Rf15j11 sp31) (kSeq (kc VG3815 Rf15l1 sp31) (kBlock 0 (kSeq (kc VG3815 Rf15j12 sp37) Kf27))))))=f15_10 F (Rf15j10∘ef15j10) (Rf15j11∘ef15j11) (Rf15l1∘ef15l1) (Rf15j12∘ef15j12) v:=by
 rintro⟨t1,t2,t10,t11,t31,t32,t33,x8,x9⟩;kernel_rfl
def f15_11(F:Nat)(kf15l2:Ty45→Rz)(kf15j11:Ty41→Rz)(kf15l1:Ty41→Rz)(kf15j12:Li×Nat→Rz):Ty45→Rz:=fun (t1,t2,t11,t31,t32,t33,t41,t42,t43,x10,x11)=>(cond (decide (t43 < t42)) (cond ((decide (0≤t43))&&(decide (t43 < (↑t41.length:Int)))) (cond ((decide (0≤(t41.getD (Int.toNat t43) 0)))&&(decide ((t41.getD (Int.toNat t43) 0) < (↑x10.length:Int)))) (kf15l2 (t1,t2,t11,t31,t32,t33,t41,t42,(IntKind.i64.wrap (t43+(1:Int))),(x10.set (Int.toNat (t41.getD (Int.toNat t43) 0)) t11),x11)) none) none) (kf15j11 (t1,t2,t31,t32,t33,x10,x11)))
theorem f15_11_eq(F:Nat)(Rf15l2:St→Rz)(Rf15j11:St→Rz)(Rf15l1:St→Rz)(Rf15j12:St→Rz):∀ v,XAf15 F (bp Try.f15 256412) (ef15l2 v) (kSeq (kc VG3815 Rf15l2 sp32) (kBlock 2 (kBlock 1 (kSeq (kc VG3815 Rf15j11 sp31) (kSeq (kc VG3815 Rf15l1 sp31) (kBlock 0 (kSeq (kc VG3815 Rf15j12 sp37) Kf27)))))))=f15_11 F (Rf15l2∘ef15l2) (Rf15j11∘ef15j11) (Rf15l1∘ef15l1) (Rf15j12∘ef15j12) v:=by
 rintro⟨t1,t2,t11,t31,t32,t33,t41,t42,t43,x10,x11⟩;kernel_rfl
def f15_12_i:Ty45→Li×(List Bool)×Int×(List Li)×Int×Int×Li×Int×Int×Li×Nat:=fun (t1,t2,t11,t31,t32,t33,t41,t42,t43,x10,x11)=>(t1,t2,t11,t31,t32,t33,t41,t42,t43,x10,x11)
def f15_12(F:Nat)(kf15j11:Ty41→Rz)(kf15l1:Ty41→Rz)(kf15j12:Li×Nat→Rz):Ty45→Rz:=fun v=>loopN (fun k=>f15_11 F k kf15j11 kf15l1 kf15j12) F (f15_12_i v)
theorem f15_12_eq(F:Nat)(Rf15j11:St→Rz)(Rf15l1:St→Rz)(Rf15j12:St→Rz):∀ v,XAf15 F (bp Try.f15 128206) (ef15j10 v) (kBlock 2 (kBlock 1 (kSeq (kc VG3815 Rf15j11 sp31) (kSeq (kc VG3815 Rf15l1 sp31) (kBlock 0 (kSeq (kc VG3815 Rf15j12 sp37) Kf27))))))=f15_12 F (Rf15j11∘ef15j11) (Rf15l1∘ef15l1) (Rf15j12∘ef15j12) v:=
 loop_cut (by kernel_rfl) (by kernel_rfl) ef15j10 ef15l2 _ f15_12_i (fun k=>f15_11 F k (Rf15j11∘ef15j11) (Rf15l1∘ef15l1) (Rf15j12∘ef15j12))
  (by rintro⟨t1,t2,t11,t31,t32,t33,t41,t42,t43,x10,x11⟩;kernel_rfl) (fun Rf15l2=>f15_11_eq F Rf15l2 Rf15j11 Rf15l1 Rf15j12)
def f15_13(F:Nat)(kf15j11:Ty41→Rz)(kf15l1:Ty41→Rz)(kf15j12:Li×Nat→Rz):Ty45→Rz:=f15_12 F kf15j11 kf15l1 kf15j12
theorem f15_13_eq(F:Nat)(Rf15j11:St→Rz)(Rf15l1:St→Rz)(Rf15j12:St→Rz):∀ v,XAf15 F (bp Try.f15 64103) (ef15j10 v) (kBlock 1 (kSeq (kc VG3815 Rf15j11 sp31) (kSeq (kc VG3815 Rf15l1 sp31) (kBlock 0 (kSeq (kc VG3815 Rf15j12 sp37) Kf27)))))=f15_13 F (Rf15j11∘ef15j11) (Rf15l1∘ef15l1) (Rf15j12∘ef15j12) v:=fun v=>
 (block_in  (by kernel_rfl) _ _).trans (f15_12_eq F Rf15j11 Rf15l1 Rf15j12 v)
def f15_14(F:Nat)(kf15j11:Ty41→Rz)(kf15l1:Ty41→Rz)(kf15j12:Li×Nat→Rz):Ty44→Rz:=fun v=>f15_10 F (f15_13 F kf15j11 kf15l1 kf15j12) kf15j11 kf15l1 kf15j12 v
theorem f15_14_eq(F:Nat)(Rf15j11:St→Rz)(Rf15l1:St→Rz)(Rf15j12:St→Rz):∀ v,XAf15 F (bp Try.f15 32051) (ef15j9 v) (kBlock 1 (kSeq (kc VG3815 Rf15j11 sp31) (kSeq (kc VG3815 Rf15l1 sp31) (kBlock 0 (kSeq (kc VG3815 Rf15j12 sp37) Kf27)))))=f15_14 F (Rf15j11∘ef15j11) (Rf15l1∘ef15l1) (Rf15j12∘ef15j12) v:=
 seq_cut (by kernel_rfl) (by kernel_rfl) ef15j9 ef15j10 _ (fun k=>f15_10 F k (Rf15j11∘ef15j11) (Rf15l1∘ef15l1) (Rf15j12∘ef15j12)) (f15_13 F (Rf15j11∘ef15j11) (Rf15l1∘ef15l1) (Rf15j12∘ef15j12))
  (fun Rf15j10=>f15_10_eq F Rf15j10 Rf15j11 Rf15l1 Rf15j12) (f15_13_eq F Rf15j11 Rf15l1 Rf15j12)
def f15_15(F:Nat)(kf15j11:Ty41→Rz)(kf15l1:Ty41→Rz)(kf15j12:Li×Nat→Rz):Ty43→Rz:=fun v=>f15_9 F (f15_14 F kf15j11 kf15l1 kf15j12) kf15j11 kf15l1 kf15j12 v
theorem f15_15_eq(F:Nat)(Rf15j11:St→Rz)(Rf15l1:St→Rz)(Rf15j12:St→Rz):∀ v,XAf15 F (bp Try.f15 16025) (ef15j8 v) (kBlock 1 (kSeq (kc VG3815 Rf15j11 sp31) (kSeq (kc VG3815 Rf15l1 sp31) (kBlock 0 (kSeq (kc VG3815 Rf15j12 sp37) Kf27)))))=f15_15 F (Rf15j11∘ef15j11) (Rf15l1∘ef15l1) (Rf15j12∘ef15j12) v:=
 seq_cut (by kernel_rfl) (by kernel_rfl) ef15j8 ef15j9 _ (fun k=>f15_9 F k (Rf15j11∘ef15j11) (Rf15l1∘ef15l1) (Rf15j12∘ef15j12)) (f15_14 F (Rf15j11∘ef15j11) (Rf15l1∘ef15l1) (Rf15j12∘ef15j12))
  (fun Rf15j9=>f15_9_eq F Rf15j9 Rf15j11 Rf15l1 Rf15j12) (f15_14_eq F Rf15j11 Rf15l1 Rf15j12)
def f15_16(F:Nat)(kf15j11:Ty41→Rz)(kf15l1:Ty41→Rz)(kf15j12:Li×Nat→Rz):Ty41→Rz:=fun v=>f15_8 F (f15_15 F kf15j11 kf15l1 kf15j12) kf15j11 kf15l1 kf15j12 v
theorem f15_16_eq(F:Nat)(Rf15j11:St→Rz)(Rf15l1:St→Rz)(Rf15j12:St→Rz):∀ v,XAf15 F (bp Try.f15 8012) (ef15j7 v) (kBlock 1 (kSeq (kc VG3815 Rf15j11 sp31) (kSeq (kc VG3815 Rf15l1 sp31) (kBlock 0 (kSeq (kc VG3815 Rf15j12 sp37) Kf27)))))=f15_16 F (Rf15j11∘ef15j11) (Rf15l1∘ef15l1) (Rf15j12∘ef15j12) v:=
 seq_cut (by kernel_rfl) (by kernel_rfl) ef15j7 ef15j8 _ (fun k=>f15_8 F k (Rf15j11∘ef15j11) (Rf15l1∘ef15l1) (Rf15j12∘ef15j12)) (f15_15 F (Rf15j11∘ef15j11) (Rf15l1∘ef15l1) (Rf15j12∘ef15j12))
  (fun Rf15j8=>f15_8_eq F Rf15j8 Rf15j11 Rf15l1 Rf15j12) (f15_15_eq F Rf15j11 Rf15l1 Rf15j12)
def f15_17(F:Nat)(kf15j11:Ty41→Rz)(kf15l1:Ty41→Rz)(kf15j12:Li×Nat→Rz):Ty41→Rz:=f15_16 F kf15j11 kf15l1 kf15j12
theorem f15_17_eq(F:Nat)(Rf15j11:St→Rz)(Rf15l1:St→Rz)(Rf15j12:St→Rz):∀ v,XAf15 F (bp Try.f15 4006) (ef15j7 v) (kSeq (kc VG3815 Rf15j11 sp31) (kSeq (kc VG3815 Rf15l1 sp31) (kBlock 0 (kSeq (kc VG3815 Rf15j12 sp37) Kf27))))=f15_17 F (Rf15j11∘ef15j11) (Rf15l1∘ef15l1) (Rf15j12∘ef15j12) v:=fun v=>
 (block_in  (by kernel_rfl) _ _).trans (f15_16_eq F Rf15j11 Rf15l1 Rf15j12 v)
def f15_18(F:Nat)(kf15l1:Ty41→Rz)(kf15j12:Li×Nat→Rz):Ty41→Rz:=fun (t1,t2,t31,t32,t33,x6,x7)=>(kf15l1 (t1,t2,t31,t32,(IntKind.i64.wrap (t33+(1:Int))),x6,x7))
theorem f15_18_eq(F:Nat)(Rf15l1:St→Rz)(Rf15j12:St→Rz):∀ v,XAf15 F (bp Try.f15 4007) (ef15j11 v) (kSeq (kc VG3815 Rf15l1 sp31) (kBlock 0 (kSeq (kc VG3815 Rf15j12 sp37) Kf27)))=f15_18 F (Rf15l1∘ef15l1) (Rf15j12∘ef15j12) v:=by
 rintro⟨t1,t2,t31,t32,t33,x6,x7⟩;kernel_rfl
def f15_19(F:Nat)(kf15l1:Ty41→Rz)(kf15j12:Li×Nat→Rz):Ty41→Rz:=fun v=>f15_17 F (f15_18 F kf15l1 kf15j12) kf15l1 kf15j12 v
theorem f15_19_eq(F:Nat)(Rf15l1:St→Rz)(Rf15j12:St→Rz):∀ v,XAf15 F (bp Try.f15 2003) (ef15j7 v) (kSeq (kc VG3815 Rf15l1 sp31) (kBlock 0 (kSeq (kc VG3815 Rf15j12 sp37) Kf27)))=f15_19 F (Rf15l1∘ef15l1) (Rf15j12∘ef15j12) v:=
 seq_cut (by kernel_rfl) (by kernel_rfl) ef15j7 ef15j11 _ (fun k=>f15_17 F k (Rf15l1∘ef15l1) (Rf15j12∘ef15j12)) (f15_18 F (Rf15l1∘ef15l1) (Rf15j12∘ef15j12))
  (fun Rf15j11=>f15_17_eq F Rf15j11 Rf15l1 Rf15j12) (f15_18_eq F Rf15l1 Rf15j12)
def f15_20(F:Nat)(kf15l1:Ty41→Rz)(kf15j12:Li×Nat→Rz):Ty42→Rz:=fun v=>f15_7 F (f15_19 F kf15l1 kf15j12) kf15l1 kf15j12 v
theorem f15_20_eq(F:Nat)(Rf15l1:St→Rz)(Rf15j12:St→Rz):∀ v,XAf15 F (bp Try.f15 1001) (ef15j6 v) (kSeq (kc VG3815 Rf15l1 sp31) (kBlock 0 (kSeq (kc VG3815 Rf15j12 sp37) Kf27)))=f15_20 F (Rf15l1∘ef15l1) (Rf15j12∘ef15j12) v:=
 seq_cut (by kernel_rfl) (by kernel_rfl) ef15j6 ef15j7 _ (fun k=>f15_7 F k (Rf15l1∘ef15l1) (Rf15j12∘ef15j12)) (f15_19 F (Rf15l1∘ef15l1) (Rf15j12∘ef15j12))
  (fun Rf15j7=>f15_7_eq F Rf15j7 Rf15l1 Rf15j12) (f15_19_eq F Rf15l1 Rf15j12)
def f15_21(F:Nat)(kf15l1:Ty41→Rz)(kf15j12:Li×Nat→Rz):Ty41→Rz:=fun v=>f15_6 F (f15_20 F kf15l1 kf15j12) kf15l1 kf15j12 v
theorem f15_21_eq(F:Nat)(Rf15l1:St→Rz)(Rf15j12:St→Rz):∀ v,XAf15 F (bp Try.f15 500) (ef15l1 v) (kSeq (kc VG3815 Rf15l1 sp31) (kBlock 0 (kSeq (kc VG3815 Rf15j12 sp37) Kf27)))=f15_21 F (Rf15l1∘ef15l1) (Rf15j12∘ef15j12) v:=
 seq_cut (by kernel_rfl) (by kernel_rfl) ef15l1 ef15j6 _ (fun k=>f15_6 F k (Rf15l1∘ef15l1) (Rf15j12∘ef15j12)) (f15_20 F (Rf15l1∘ef15l1) (Rf15j12∘ef15j12))
  (fun Rf15j6=>f15_6_eq F Rf15j6 Rf15l1 Rf15j12) (f15_20_eq F Rf15l1 Rf15j12)
def f15_22_i:Ty40→Li×(List Bool)×(List Li)×Int×Int×Li×Nat:=fun (t1,t2,t31,t32,t33,x6)=>(t1,t2,t31,t32,t33,x6,x6.length)
def f15_22(F:Nat)(kf15j12:Li×Nat→Rz):Ty40→Rz:=fun v=>loopN (fun k=>f15_21 F k kf15j12) F (f15_22_i v)
theorem f15_22_eq(F:Nat)(Rf15j12:St→Rz):∀ v,XAf15 F (bp Try.f15 250) (ef15j5 v) (kBlock 0 (kSeq (kc VG3815 Rf15j12 sp37) Kf27))=f15_22 F (Rf15j12∘ef15j12) v:=
 loop_cut (by kernel_rfl) (by kernel_rfl) ef15j5 ef15l1 _ f15_22_i (fun k=>f15_21 F k (Rf15j12∘ef15j12))
  (by rintro⟨t1,t2,t31,t32,t33,x6⟩;kernel_rfl) (fun Rf15l1=>f15_21_eq F Rf15l1 Rf15j12)
def f15_23(F:Nat)(kf15j12:Li×Nat→Rz):Ty40→Rz:=f15_22 F kf15j12
theorem f15_23_eq(F:Nat)(Rf15j12:St→Rz):∀ v,XAf15 F (bp Try.f15 125) (ef15j5 v) (kSeq (kc VG3815 Rf15j12 sp37) Kf27)=f15_23 F (Rf15j12∘ef15j12) v:=fun v=>
 (block_in  (by kernel_rfl) _ _).trans (f15_22_eq F Rf15j12 v)
def f15_24(F:Nat)(kf15j12:Li×Nat→Rz):Ty39→Rz:=fun v=>f15_5 F (f15_23 F kf15j12) kf15j12 v
theorem f15_24_eq(F:Nat)(Rf15j12:St→Rz):∀ v,XAf15 F (bp Try.f15 62) (ef15j4 v) (kSeq (kc VG3815 Rf15j12 sp37) Kf27)=f15_24 F (Rf15j12∘ef15j12) v:=
 seq_cut (by kernel_rfl) (by kernel_rfl) ef15j4 ef15j5 _ (fun k=>f15_5 F k (Rf15j12∘ef15j12)) (f15_23 F (Rf15j12∘ef15j12))
  (fun Rf15j5=>f15_5_eq F Rf15j5 Rf15j12) (f15_23_eq F Rf15j12)
def f15_25(F:Nat):Li×Nat→Rz:=fun (x1,x2)=>(some ((.tup (.cons 0 (.own 0 0 1) (.cons 0 (.int .i64 0) .nil))),[(.cells x2 (.rI .i64 x1) true)]))
theorem f15_25_eq(F:Nat):∀ v,XAf15 F (bp Try.f15 63) (ef15j12 v) Kf27=f15_25 F v:=by
 rintro⟨x1,x2⟩;kernel_rfl
def f15_26(F:Nat):Ty39→Rz:=fun v=>f15_24 F (f15_25 F) v
theorem f15_26_eq(F:Nat):∀ v,XAf15 F (bp Try.f15 31) (ef15j4 v) Kf27=f15_26 F v:=
 seq_cut (by kernel_rfl) (by kernel_rfl) ef15j4 ef15j12 _ (fun k=>f15_24 F k) (f15_25 F)
  (fun Rf15j12=>f15_24_eq F Rf15j12) (f15_25_eq F)
def f15_27(F:Nat):Ty38→Rz:=fun v=>f15_4 F (f15_26 F) v
theorem f15_27_eq(F:Nat):∀ v,XAf15 F (bp Try.f15 15) (ef15j3 v) Kf27=f15_27 F v:=
 seq_cut (by kernel_rfl) (by kernel_rfl) ef15j3 ef15j4 _ (fun k=>f15_4 F k) (f15_26 F)
  (fun Rf15j4=>f15_4_eq F Rf15j4) (f15_26_eq F)
def f15_28(F:Nat):Ty38→Rz:=fun v=>f15_3 F (f15_27 F) v
theorem f15_28_eq(F:Nat):∀ v,XAf15 F (bp Try.f15 7) (ef15j2 v) Kf27=f15_28 F v:=
 seq_cut (by kernel_rfl) (by kernel_rfl) ef15j2 ef15j3 _ (fun k=>f15_3 F k) (f15_27 F)
  (fun Rf15j3=>f15_3_eq F Rf15j3) (f15_27_eq F)
def f15_29(F:Nat):Ty38→Rz:=fun v=>f15_2 F (f15_28 F) v
theorem f15_29_eq(F:Nat):∀ v,XAf15 F (bp Try.f15 3) (ef15j1 v) Kf27=f15_29 F v:=
 seq_cut (by kernel_rfl) (by kernel_rfl) ef15j1 ef15j2 _ (fun k=>f15_2 F k) (f15_28 F)
  (fun Rf15j2=>f15_2_eq F Rf15j2) (f15_28_eq F)
def f15_30(F:Nat):Ty38→Rz:=fun v=>f15_1 F (f15_29 F) v
theorem f15_30_eq(F:Nat):∀ v,XAf15 F (sub (bodyOf Try.f15) []) (ef15_a v) Kf27=f15_30 F v:=
 seq_cut (by kernel_rfl) (by kernel_rfl) ef15_a ef15j1 _ (fun k=>f15_1 F k) (f15_29 F)
  (fun Rf15j1=>f15_1_eq F Rf15j1) (f15_29_eq F)
def f15(F:Nat):Ty38→Rz:=f15_30 F
theorem f15_body(F:Nat)(a0:List Li)(a1:List Int)(a2:List Bool):abody VG3815 (Af15 F) Try.f15 [(.vs (.rL .i64 a0) 0 1),(.vs (.rI .i64 a1) 0 1),(.vs (.rB a2) 0 1)] []=f15 F (a0,a1,a2):=
 (abody_in (c:=(sub (bodyOf Try.f15) [])) (by kernel_rfl) (s:=ef15_a (a0,a1,a2)) (by kernel_rfl)).trans (f15_30_eq F (a0,a1,a2))
def r15:CRun:=fun X H=>match X,H with
 | [(.vs (.rL .i64 a0) 0 1),(.vs (.rI .i64 a1) 0 1),(.vs (.rB a2) 0 1)],[]=>some ((decide (a1.length < 1073741000)),(.tup (.cons 0 (.own 0 0 1) (.cons 0 (.int .i64 (Reg.own a0 a1 a2).2) .nil))),[(.cells (Reg.own a0 a1 a2).1.length (.rI .i64 (Reg.own a0 a1 a2).1) true)])
 | _,_=>none
theorem s15(a0:List Li)(a1:List Int)(a2:List Bool)(hp:((decide (a1.length < 1073741000)))=true)(h0:okV (.vs (.rL .i64 a0) 0 1))(h1:okV (.vs (.rI .i64 a1) 0 1))(h2:okV (.vs (.rB a2) 0 1)):∃ F,f15 F (a0,a1,a2)=some ((.tup (.cons 0 (.own 0 0 1) (.cons 0 (.int .i64 (Reg.own a0 a1 a2).2) .nil))),[(.cells (Reg.own a0 a1 a2).1.length (.rI .i64 (Reg.own a0 a1 a2).1) true)]):=by
 simp only [decide_eq_true_eq] at hp
 have hl0:a0.length < 4611686018427387904:=h0.2
 have hlx:=Reg.getD_ok (fun x hx=>(h0.1 x hx).2)
 have hF:=Reg.getD_flat a0
 refine⟨a0.length+a0.flatten.length+1,?_⟩
 simp only [f15,f15_30,f15_1,f15_29,f15_2,dec_and]
 rw [cond_pos (by omega),Int.toNat_natCast]
 cases hv:Reg.valid a0 a1.length a1 a2 with
 | false=>rw [show Reg.own a0 a1 a2=([],1) by unfold Reg.own;rw [if_pos hv]];rfl
 | true=>
  obtain⟨hu,hg,ho⟩:=Reg.valid_iff hv
  have h6:=Reg.valid_lt6 hv
  simp only [f15_28,f15_3,Bool.not_true,cond_false]
  by_cases q:0 < a0.length∧Reg.first a2 < 0
  ·rw [cond_pos (by omega),cond_pos q.2,show Reg.own a0 a1 a2=([],6) by unfold Reg.own;rw [if_neg (by simp [hv]),if_pos q]];rfl
  rw [Reg.own_eq hv q,Reg.cond_two (by omega)]
  simp only [f15_27,f15_4,f15_26,f15_24,f15_5,f15_23,f15_22,f15_22_i]
  rw [cond_pos (by omega)]
  refine loopN_from (fun i=>(a1,a2,a0,(a0.length:Int),(i:Int),Reg.ownTo a0 a1 a2 i,a1.length)) a0.length (by rfl) (fun i hi k=>?_) (fun k=>?_) _ (by omega)
  ·simp only [f15_21,f15_6,f15_20,f15_7,f15_19,f15_17,f15_16,f15_8,f15_15,f15_9,dec_and]
   rw [cond_pos (by omega),cond_pos (by omega),Int.toNat_natCast]
   have hlx':=hlx i
   have hF':=hF i
   have hgi:=hg _ (Reg.getD_mem hi)
   have hs:=Reg.ownTo_succ (old:=a1) (u:=a2) hi
   rw [hs]
   generalize a0.getD i []=x at *
   rw [hgi.1,h6,decide_eq_true hu.2]
   simp only [Bool.and_self,cond_true,f15_14,f15_10,f15_13,f15_12,f15_12_i]
   have hol:=Reg.ownTo_len a0 a1 a2 i
   generalize Reg.ownTo a0 a1 a2 i=out at *
   generalize Reg.best x a1 a2=h
   refine loopN_from (fun j=>(a1,a2,h,a0,(a0.length:Int),(i:Int),x,(x.length:Int),(j:Int),Reg.put h (x.take j) out,a1.length)) x.length (by rfl) (fun j hj k'=>?_) (fun k'=>?_) _ (by omega)
   ·simp only [f15_11,dec_and]
    have hr:=Reg.inr_getD hgi.1 hj
    have hpl:=Reg.put_len h (x.take j) out
    rw [cond_pos (by omega),cond_pos (by omega),Int.toNat_natCast,cond_pos (by omega),i64w (by omega) (by omega),← Reg.put_succ hj]
    rfl
   ·simp only [f15_11,f15_18]
    rw [cond_neg (by omega),List.take_length,i64w (by omega) (by omega)]
    rfl
  ·simp only [f15_21,f15_6,f15_20,f15_7]
   rw [cond_neg (by omega)]
   simp only [f15_25]
   rw [Reg.ownTo_len]
theorem c15:CallOk Try.prog G38 15 r15:=callOk_of (V:=VG3815) mixed tys eVG3815 (f:=15) (fn:=Try.f15) Try.func15 (by kernel_rfl) (c:=sub (bodyOf Try.f15) []) (by kernel_rfl) (by
 intro X H r H' h hX hH
 unfold r15 at h;split at h <;> try contradiction
 ·simp only [Option.some.injEq,Prod.mk.injEq] at h
  obtain⟨hp,rfl,rfl⟩:=h
  obtain⟨F,hF⟩:=s15 _ _ _ hp (hX _ (.head _)) (hX _ (.tail _ (.head _))) (hX _ (.tail _ (.tail _ (.head _))))
  exact⟨Af15 F,(f15_body F _ _ _).trans hF⟩)
end Go.Am
end