/- Part of a proof. -/
import Derived.Test.YtffddoahjpemaaaDoorAmWf
import Derived.Shelf.SlIterI.Nil
import Derived.Shelf.SortM.Plain
import Derived.Shelf.SortM.SortNone
import Derived.Test.YtffddoahjpemaaaDoorAmWire3
import Derived.Test.YtffddoahjpemaaaDoorAm36C
set_option linter.unusedSimpArgs false
set_option linter.unusedVariables false
section
/- The keys of a map, sorted: the kit's contracts of maps.Keys and slices.Sorted, as contracts of the machine's. -/
namespace Go.Am
open Go Go.Proofs Go.RowKit Go.Maps Go.Sort Go.Shelf
variable {P : Program} {w : World}
def keyInts(es:List (List Int×List Int)):List Int:=es.map fun e=>e.1.getD 0 0
def sortI(l:List Int):List Int:=l.mergeSort fun x y=>decide (x≤y)
def intval':Value→Int
 | .int _ n=>n
 | _=>0
def RR:Value→Option (DataW Unit×List MemPlace):=fun _=>some (.nil,[])
theorem ments_key{W:Nat→Prop}{ρ:Rho}{k:IntKind}{kn:Nat}{v:MV}:∀ {ms:List MapEntry} {es:List (List Int×List Int)},MEnts w W ρ k kn v ms es→ms.map (·.key)=es.map fun e=>keyV k kn e.1
 | [],[],_=>rfl
 | m :: ms,e :: es,h=>by simp only [List.map_cons,h.1.1,ments_key h.2]
 | [],_ :: _,h=>h.elim
 | _ :: _,[],h=>h.elim
theorem keyOk_one{xs:List Int}(h:keyOk .i64 0 xs):∃ x,xs=[x]∧IntKind.i64.has x:=by
 obtain⟨h1,h2⟩:=h
 match xs,h1 with
 | [x],_=>exact⟨x,rfl,h2 x (by simp)⟩
theorem map_owns{W:Nat→Prop}{ρ:Rho}{v:MV}{b t:Nat}{es:List (List Int×List Int)}(ht:P.underlying t=some (.int .i64))(h:MapIs w W ρ b .i64 0 v es)(hm:es.length≤maxLen):
  ∃ D0:DataW Unit,w.ownsMap P t RR b es.length D0∧(intKeys D0).Perm (keyInts es)∧Maps.size D0=es.length:=by
 obtain⟨ms,clock,hb,hE⟩:=h.ex
 have hk:=ments_key hE
 have hlen:ms.size=es.length:=by have:=congrArg List.length hk;simpa using this
 have hbo:=h.bo ms clock hb
 have hkey:∀ x∈ms.toList,∃ z,x.key=.int .i64 z∧IntKind.i64.has z:=fun x hx=>by
  have h1:x.key∈ms.toList.map (·.key):=List.mem_map_of_mem hx
  rw [hk] at h1
  obtain⟨e,he,h2⟩:=List.mem_map.1 h1
  obtain⟨z,hz,hz'⟩:=keyOk_one (h.keys e he)
  exact⟨z,by rw [← h2,hz];rfl,hz'⟩
 have hrd:∀ x∈ms.toList,∀ z,x.key=.int .i64 z→IntKind.i64.has z→WideElems.rd P t RR x=some (.int .i64 z,.nil):=fun x hx z h1 h2=>by
  have h3:keyOf P t x.key=some (.int .i64 z):=by
   rw [h1]
   exact keyOf_int_mk ht (by simp only [Lit.wf,Bool.and_eq_true,decide_eq_true_eq];exact h2)
  simp [WideElems.rd,h3,RR]
 refine⟨_,⟨ms,clock,hb,⟨by omega,⟨hbo.1,hbo.2,?_⟩,fun x hx=>?_⟩,by omega,rfl⟩,?_,?_⟩
 ·rw [hk]
  have hn:=h.nd
  rw [List.Nodup,List.pairwise_map] at hn ⊢
  refine hn.imp_of_mem fun {p q} hp hq hne e=>hne ?_
  obtain⟨x,hx,_⟩:=keyOk_one (h.keys p hp)
  obtain⟨y,hy,_⟩:=keyOk_one (h.keys q hq)
  rw [hx,hy] at e ⊢
  simp only [keyV,List.getD_cons_zero,Value.int.injEq,true_and] at e
  rw [e]
 ·obtain⟨z,h1,h2⟩:=hkey x hx
  exact⟨_,hrd x hx z h1 h2⟩
 ·show(List.map (fun p=>Go.intOf p.1) (List.foldr DataW.insert [] (ms.toList.map (WideElems.rg P t RR)))).Perm (keyInts es)
  refine((WideShapes.sorted_perm _).map _).trans (List.Perm.of_eq ?_)
  have e1:keyInts es=(ms.toList.map (·.key)).map intval':=by
   rw [hk,List.map_map]
   apply List.map_congr_left
   intro e he
   obtain⟨x,hx,_⟩:=keyOk_one (h.keys e he)
   simp [hx,keyV,intval']
  rw [e1,List.map_map,List.map_map]
  apply List.map_congr_left
  intro x hx
  obtain⟨z,h1,h2⟩:=hkey x hx
  simp [Function.comp,WideElems.rg,hrd x hx z h1 h2,h1,Go.intOf,intval']
 ·show(List.foldr DataW.insert [] (ms.toList.map (WideElems.rg P t RR))).length=es.length
  rw [DataW.length_sorted,List.length_map]
  simpa using hlen
theorem Sim.below{U:Oth}{G:Nat→Option AV}{w0:World}{W0:Nat→Prop}{ρ:Rho}{s:St}{a:Act}{w':World}(h:Sim U G w0 W0 ρ s a w)(hb:Below w.heap.size w w'):Sim U G w0 W0 ρ s a w':=
 h.step (fun b hlt _=>hb.block b hlt) (fun b hb=>.inl hb) (fun _ _ h=>h) hb.size ⟨hb.os,hb.output,hb.tape⟩
  (fun id n r b hl=>(h.bl id n r b hl).keep (fun b hlt _=>hb.block b hlt) (fun b hb=>.inl hb) (fun _ _ h=>h) hb.size (fun L _ hlt=>hb.block _ hlt)) h.sep h.dom h.su
def runSorted(fs:List Nat):List AV→List Blk→Option (Bool×AV×List Blk)
 | [.fn f (.cons _ (.ptr 0 0 1 0 0 0 1) .nil)],[.cells 1 (.one (.mp 1)) true,.cells 0 (.rM .i64 0 v es) b]=>match mem f fs with
  | true=>some (decide (es.length < 1073741824),.vs (.rI .i64 (sortI (keyInts es))) 0 1,[.cells 1 (.one (.mp 1)) true,.cells 0 (.rM .i64 0 v es) b])
  | false=>none
 | _,_=>none
theorem row_view{U:Oth}{G:Nat→Option AV}{w0:World}{W0:Nat→Prop}{ρ:Rho}{s:St}{a:Act}{w':World}(h:Sim U G w0 W0 ρ s a w){t:Nat}{v:Value}{xs:List Int}
  (hrow:w'.ownsRow w.heap.size t 1 v xs.length (xs.map encZ)) (hx:∀ x∈xs,IntKind.i64.has x) (hlx:xs.length < 4611686018427387904):Rep w' (Wr U ρ s.heap) ρ (.vs (.rI .i64 xs) 0 1) v:=by
 obtain⟨hlen,⟨rfl,h0⟩ | ⟨g,cap,cur,rfl,hg,hb,hn,hcap,hcs,htake⟩⟩:=hrow
 ·exact .vs0 _ 1 0 none rfl (by simpa [AV.size] using h0)
 ·by_cases h0:xs.length=0
  ·rw [h0];exact .vs0 _ 1 _ _ rfl (by simpa [AV.size] using h0)
  ·rw [Nat.mul_one] at htake hcs
   have hcell:∀ j,j < xs.length→w'.cell? ⟨g,0+j,none⟩=some (.int .i64 (xs.getD j 0)):=fun j hj=>by
    have e1:cur[j]?=some (.int .i64 (xs.getD j 0)):=by
     have e2:(cur.toList.take xs.length)[j]?=(xs.map encZ)[j]?:=by rw [htake]
     rw [List.getElem?_take,if_pos hj,Array.getElem?_toList] at e2
     rw [e2,List.getElem?_map,List.getElem?_eq_getElem hj,List.getD_eq_getElem?_getD,List.getElem?_eq_getElem hj];rfl
    simp [World.cell?,hb,e1]
   refine .vs _ 0 1 xs.length cap g 0 (fun j=>.int .i64 (xs.getD j 0)) rfl (by omega) (by simp [AV.size]) (by omega) (.inl rfl) hn (by omega) ?_ (fun j hj=>hcell j (by omega)) (fun j hj=>?_)
   ·rintro(hu | ⟨id,n,r,L,h1,h2,h3⟩)
    ·have:=(h.uo g (U.sub g hu)).1
     have:=h.sz;omega
    ·have:=h.loc_lt h1 h2;omega
   ·refine .int .i64 _ (hx _ ?_)
    rw [List.getD_eq_getElem?_getD,List.getElem?_eq_getElem (by omega)]
    exact List.getElem_mem _
theorem sorted_ok{G:Nat→Option AV}{ρs:Ren}{fs:List Nat}(L:SlLaysZI.n6 P ρs)(hS:∀ m,AnyZI.SortsIn P ρs Fence.wide m)(e9:Enters P (ρs.f 9))
  (hf:∀ f∈fs,Enters P f ∧ ∃ ρk:Ren,SlLaysZI.n10 P ρk∧ρk.f 10=f∧ρk.t 26=ρs.t 26):CallOk P G (ρs.f 6) (runSorted fs) where
 there:=by
  obtain⟨nm,h1,h2⟩:=L.f6
  exact⟨_,h2,h1,rfl⟩
 does:=by
  intro A H r H' hr U w ρ args hU hs hA
  unfold runSorted at hr
  split at hr <;> try contradiction
  rename_i f c v es b
  split at hr <;> try contradiction
  rename_i hm
  simp only [Option.some.injEq,Prod.mk.injEq,decide_eq_true_eq] at hr
  obtain⟨hp,rfl,rfl⟩:=hr
  obtain⟨ef,ρk,Lk,rfl,ht⟩:=hf f (mem_iff.1 hm)
  match args,hA with
  | ⟨[x]⟩,hA=>
   have hx:=hA.1
   generalize hf9:ρk.f 10=f9 at hx
   cases hx with | fn _ _ cvs _ hl hc=>
   subst hf9
   have hc0:=hc 0 (by simp [AVs.len])
   match cvs,hl,hc0 with
   | ⟨[y]⟩,_,hc0=>
    have hy:Rep w (Wr U ρ (tagH 0 [.cells 1 (.one (.mp 1)) true,.cells 0 (.rM .i64 0 v es) b])) ρ (.ptr 0 0 1 0 0 0 1) y:=hc0
    cases hy with | ptr _ _ _ _ _ _ _ L0 h0 hi hxx hbb h00=>
    have b0:=hs.bl 0 1 (.one (.mp 1)) true rfl
    have b1:=hs.bl 1 0 (.rM .i64 0 v es) b rfl
    rcases b0.lies with ⟨q,_⟩ | ⟨L0',q,q1,q2,q3,q4⟩
    ·rw [q] at h0;cases h0
    rw [q] at h0;cases h0
    obtain⟨_,_,_,_,_,⟨⟨hb0,_⟩,_⟩,_⟩:=q3 rfl rfl
    obtain⟨y,q5,q6⟩:=q2 0 (by omega)
    cases q6 with | mp _ L1 hL1=>
    obtain⟨L1',q7,hmap⟩:=b1.map _ _ _ _ rfl
    rw [q7] at hL1;cases hL1
    have hml:1073741824≤maxLen:=by decide
    obtain⟨D0,d1,d2,d3⟩:=map_owns (t:=ρk.t 26) (by rw [ht];exact L.t26) hmap (by omega)
    have hadr:(⟨L0.b,L0.base+(0+ix 0 0 0),none⟩:Addr)=⟨L0.b,0,none⟩:=by rw [hb0];rfl
    have hcell:w.cell? ⟨L0.b,0,none⟩=some (.map (some L1.b)):=by rw [hb0] at q5;exact q5
    have hseq:=AnyZI.keys_gives Lk Fence.wide 2 trivial rfl (by omega) L0.b L1.b es.length D0 w q4 hcell d1
    have cS:=AnyZI.sorted_in L Fence.wide 5 trivial trivial trivial trivial rfl (by omega) (hS _) e9 (ρk.f 10) #[.pointer (some ⟨L0.b,0,none⟩)] trivial ef _ _ (by omega) (by omega) w hseq
    rw [hadr]
    refine(callsIn_wide.1 cS).mono ?_
    rintro e w' ⟨u,ss,rfl,hss,hrow,hnil,hB⟩
    have es':ss.mergeSort (fun x y=>decide (x≤y))=sortI (keyInts es):=mergeSort_of_perm_i (hss.trans d2)
    rw [es',show ss.length=(sortI (keyInts es)).length by rw [← es',List.length_mergeSort]] at hrow
    refine⟨u,ρ,rfl,hs.below hB,row_view hs hrow (fun z hz=>?_) (by rw [← es',List.length_mergeSort,hss.length_eq,d2.length_eq];simp [keyInts];omega)⟩
    have hz':z∈keyInts es:=((List.mergeSort_perm _ _).mem_iff).1 hz
    obtain⟨e,he,rfl⟩:=List.mem_map.1 hz'
    obtain⟨z,hz1,hz2⟩:=keyOk_one (hmap.keys e he)
    rw [hz1];exact hz2
end Go.Am
end
section
/- What the functions of package disk compute, in plain terms. -/
namespace Go.Dk
open Go Go.Am
structure D where
 n:Nat
 blk:List Int
 pend:List (Li×Li)
 worn:List (Li×Li)
 off:Bool
 left:Int
def sec(b:Li)(i:Nat):List Int:=(b.drop (i*64)).take 64
def inD(d:D)(i:Int):Bool:=decide (0≤i)&&decide (i < (d.n:Int))
def isP(d:D)(i:Int):Bool:=mhas d.pend [i]
def isW(d:D)(i:Int):Bool:=(mget [0] d.worn [i]).getD 0 0==1
def nxt(d:D)(i:Int):List Int:=mget (List.replicate 64 0) d.pend [i]
def pending(d:D):List Int:=sortI (keyInts d.pend)
def wornl(d:D):List Int:=sortI (keyInts d.worn)
def check(d:D)(i:Int):Int:=cond d.off 22 (cond (decide (i < 0)) 1 (cond (decide (i≥(d.n:Int))) 1 0))
def step(d:D):D×Int:=cond (d.left==0) ({ d with off:=true },22) (cond (decide (d.left > 0)) ({ d with left:=IntKind.i64.wrap (d.left-1) },0) (d,0))
def read(d:D)(i:Int):List Int×Int:=cond (check d i != 0) ([],check d i) (cond (isP d i) ((nxt d i).take 64,0) (sec d.blk i.toNat,0))
def write(d:D)(i:Int)(s:Li):D×Int:=cond (check d i != 0) (d,check d i) (cond ((s.length:Int) != 64) (d,1)
 (cond ((step d).2 != 0) (step d) ({ (step d).1 with pend:=mput (step d).1.pend [i] (s.take 64) },0)))
def clamp(p:Int):Nat:=Int.toNat (if (if 64 < p then 64 else p) > 0 then (if 64 < p then 64 else p) else 0)
def putsec(b:Li)(i m:Nat)(s:Li):List Int:=b.take (i*64)++(s.take 64).take m++b.drop (i*64+m)
def settle(d:D)(i p:Int):D:={ d with pend:=mdel d.pend [i],blk:=cond (!isW d i) (cond (!(nxt d i==sec d.blk i.toNat)) (putsec d.blk i.toNat (min 64 (clamp p)) (nxt d i)) d.blk) d.blk }
def flush(d:D):D×Int:=cond (check d 0 != 0) (d,check d 0) (cond ((step d).2 != 0) (step d) ((pending d).foldl (fun e i=>settle e i 64) (step d).1,0))
def mountAll(picks:Li):List Int→Nat→D→D
 | [],_,d=>d
 | i :: is,k,d=>mountAll picks is (k+1) (settle d i (picks.getD k 64))
def mount(d:D)(picks:Li):D:={ mountAll picks (pending d) 0 d with off:=false,left:=-1 }
def place(i b:Int):Nat:=Int.toNat (Int.tdiv b 8)+Int.toNat i*64
def bit(b:Int):Int:=IntKind.u8.wrap (1*2^(min (Int.toNat (Int.tmod b 8)) 8))
def rot(d:D)(i b:Int):D×Int:=cond (decide (i < 0)) (d,1) (cond (decide (i≥(d.n:Int))) (d,1) (cond (decide (b < 0)) (d,1) (cond (decide (b≥512)) (d,1)
 ({ d with blk:=d.blk.set (place i b) (ibits .xor .u8 (d.blk.getD (place i b) 0) (bit b)) },0))))
def wear(d:D)(i:Int):D×Int:=cond (decide (i < 0)) (d,1) (cond (decide (i≥(d.n:Int))) (d,1) ({ d with worn:=mput d.worn [i] [1] },0))
def trip(d:D)(n:Int):D:={ d with left:=n }
def fine(d:D):Bool:=decide (d.n < 8000∧d.blk.length=d.n*64∧d.pend.length < 8000∧d.worn.length < 8000)&&d.pend.all fun e=>inD d (e.1.getD 0 0)
theorem putsec_len{b:List Int}{i m:Nat}{s:List Int}(hs:s.length=64)(hm:m≤64)(hb:i*64+64≤b.length):(putsec b i m s).length=b.length:=by
 simp only [putsec,List.length_append,List.length_take,List.length_drop,hs];omega
theorem vals64{es:List (Li×Li)}(h:okB (.cells 0 (.rM .i64 0 (.arr .u8 64) es) true))(e:Li×Li)(he:e∈es):e.2.length=64:=(okR_rI (h.1 e he).2).1
theorem mget64{es:List (Li×Li)}(h:∀ e∈es,e.2.length=64)(k:Li):(mget (List.replicate 64 0) es k).length=64:=by
 induction es with
 | nil=>simp [mget]
 | cons e es ih=>
  simp only [mget]
  cases e.1==k
  ·exact ih fun x hx=>h x (.tail _ hx)
  ·exact h e (.head _)
theorem check_ok{d:D}{i:Int}(h:check d i=0):d.off=false∧0≤i∧i < (d.n:Int):=by
 unfold check at h
 cases ho:d.off with
 | true=>rw [ho] at h;cases h
 | false=>
  rw [ho] at h
  by_cases h1:i < 0
  ·simp [h1] at h
  ·by_cases h2:i≥(d.n:Int)
   ·simp [h1,h2] at h
   ·exact⟨rfl,by omega,by omega⟩
structure Ok (d:D):Prop where
 len:d.blk.length=d.n*64
 vals:∀ e∈d.pend,e.2.length=64
theorem settle_ok{d:D}(h:Ok d){i:Int}(hi:inD d i=true)(p:Int):Ok (settle d i p):=by
 have h1:0≤i∧i < (d.n:Int):=by simpa [inD] using hi
 refine⟨?_,fun e he=>h.vals e (List.mem_filter.1 he).1⟩
 simp only [settle]
 cases (!isW d i)
 ·exact h.len
 ·cases (!(nxt d i==sec d.blk i.toNat))
  ·exact h.len
  ·show(putsec d.blk i.toNat (min 64 (clamp p)) (nxt d i)).length=d.n*64
   rw [putsec_len (s:=nxt d i) (mget64 h.vals [i]) (by omega) (by have:=h.len;omega)];exact h.len
theorem inD_n{d d':D}(h:d'.n=d.n)(i:Int):inD d' i=inD d i:=by simp only [inD,h]
theorem mem_pending{d:D}{i:Int}(h:i∈pending d):∃ e∈d.pend,e.1.getD 0 0=i:=by
 simp only [pending,sortI,List.mem_mergeSort,keyInts,List.mem_map] at h;exact h
theorem fine_iff{d:D}(h:fine d=true):(d.n < 8000∧d.blk.length=d.n*64∧d.pend.length < 8000∧d.worn.length < 8000) ∧ ∀ i∈pending d,inD d i=true:=by
 simp only [fine,Bool.and_eq_true,decide_eq_true_eq,List.all_eq_true] at h
 refine⟨h.1,fun i hi=>?_⟩
 obtain⟨e,he,rfl⟩:=mem_pending hi
 exact h.2 e he
theorem pending_len(d:D):(pending d).length=d.pend.length:=by simp [pending,sortI,keyInts]
theorem take_one{L:List Int}{k:Nat}(h:k < L.length):L.take (k+1)=L.take k++[L.getD k 0]:=by
 rw [List.take_add_one,List.getElem?_eq_getElem h,List.getD_eq_getElem?_getD,List.getElem?_eq_getElem h];rfl
theorem mem_at{L:List Int}{k:Nat}(h:k < L.length):L.getD k 0∈L:=by
 rw [List.getD_eq_getElem?_getD,List.getElem?_eq_getElem h];exact List.getElem_mem _
def flushK(L:Li)(k:Nat)(d:D):D:=(L.take k).foldl (fun e i=>settle e i 64) d
theorem flushK_succ{L:List Int}{k:Nat}(h:k < L.length)(d:D):flushK L (k+1) d=settle (flushK L k d) (L.getD k 0) 64:=by
 simp only [flushK,take_one h,List.foldl_append,List.foldl_cons,List.foldl_nil]
theorem flushK_ok{L:List Int}{d:D}(h:Ok d)(hL:∀ i∈L,inD d i=true):∀ k,k≤L.length→Ok (flushK L k d)∧(flushK L k d).n=d.n
 | 0,_=>⟨by simpa [flushK] using h,by simp [flushK]⟩
 | k+1,hk=>by
  obtain⟨h1,h2⟩:=flushK_ok h hL k (by omega)
  rw [flushK_succ (by omega)]
  exact⟨settle_ok h1 (by rw [inD_n h2];exact hL _ (mem_at (by omega))) _,h2⟩
theorem mountAll_snoc(picks:Li)(x:Int):∀ (l:Li) (k:Nat) (d:D),mountAll picks (l++[x]) k d=settle (mountAll picks l k d) x (picks.getD (k+l.length) 64)
 | [],k,d=>rfl
 | i :: l,k,d=>by
  simp only [List.cons_append,mountAll,List.length_cons]
  rw [mountAll_snoc picks x l (k+1)]
  congr 2;omega
def mountK(picks L:Li)(k:Nat)(d:D):D:=mountAll picks (L.take k) 0 d
theorem step_same(d:D):(step d).1.n=d.n∧(step d).1.blk=d.blk∧(step d).1.pend=d.pend∧(step d).1.worn=d.worn:=by
 unfold step
 cases (d.left==0)
 ·cases (decide (d.left > 0)) <;> exact⟨rfl,rfl,rfl,rfl⟩
 ·exact⟨rfl,rfl,rfl,rfl⟩
end Go.Dk

namespace Go.Am
abbrev dB(a n p w:Nat)(o:Bool)(l:Int):Blk:=.cells 5 (.segs (.cons 1 (.one (.own a n 64)) (.cons 1 (.one (.mp p)) (.cons 1 (.one (.mp w)) (.cons 1 (.one (.bool o)) (.cons 1 (.one (.int .i64 l)) .nil)))))) true
abbrev dE(a:Nat)(e:Dk.D)(p w:Nat):Blk:=dB a e.n p w e.off e.left
abbrev pB(es:List (List Int×List Int)):Blk:=.cells 0 (.rM .i64 0 (.arr .u8 64) es) true
abbrev wB(es:List (List Int×List Int)):Blk:=.cells 0 (.rM .i64 0 .bool es) true
abbrev bB(l:List Int):Blk:=.cells l.length (.rI .u8 l) true
abbrev iB(l:List Int):Blk:=.cells l.length (.rI .i64 l) true
abbrev sB(l:List (List Int)):Blk:=.cells l.length (.rS l) true
abbrev rB(n p:Nat)(o:Bool)(l:Int):Blk:=.cells 3 (.segs (.cons 1 (.one (.own p n 4)) (.cons 1 (.one (.bool o)) (.cons 1 (.one (.int .i64 l)) .nil)))) true
end Go.Am
end
section
/- The specification's disk, in plain terms; what the functions that compare disks compute. -/
namespace Go.Dk
open Go Go.Am
structure R where
 s:List (List Li)
 off:Bool
 left:Int
def fT(x:List Li):List Int:=x.getD 0 []
def fN(x:List Li):List Int:=x.getD 1 []
def fD(x:List Li):Bool:=(x.getD 2 []).getD 0 0==1
def fW(x:List Li):Bool:=(x.getD 3 []).getD 0 0==1
def R.at(r:R)(i:Int):List Li:=r.s.getD i.toNat []
def ris(r:R)(i:Int):Bool:=cond (decide (i≥0)) (decide (i < (r.s.length:Int))) false
def rstep(r:R):R×Int:=cond (r.left==0) ({ r with off:=true },22) (cond (decide (r.left > 0)) ({ r with left:=IntKind.i64.wrap (r.left-1) },0) (r,0))
def rread(r:R)(i:Int):List Int×Int:=cond r.off ([],22) (cond (!ris r i) ([],1) (cond (fD (r.at i)) (fN (r.at i),0) (fT (r.at i),0)))
def wput(l:List (List Li))(i:Nat)(t:Li):List (List Li):=(l.set i (tput (l.getD i []) 1 t)).set i (tput ((l.set i (tput (l.getD i []) 1 t)).getD i []) 2 [1])
def rwrite(r:R)(i:Int)(t:Li):R×Int:=cond r.off (r,22) (cond (!ris r i) (r,1) (cond ((t.length:Int) != 64) (r,1) (cond ((rstep r).2 != 0) (rstep r) ({ (rstep r).1 with s:=wput (rstep r).1.s i.toNat t },0))))
def settled(x:List Li)(p:Int):List Li:=[cond (!fW x) ((fN x).take (clamp p)++(fT x).drop (clamp p)) (fT x),[],[0],[cond (fW x) 1 0]]
def rsettle(r:R)(i p:Int):R:={ r with s:=r.s.set i.toNat (settled (r.at i) p) }
def rtrip(r:R)(n:Int):R:={ r with left:=if n > -1 then n else -1 }
def rrot(r:R)(i b:Int):R×Int:=cond (!ris r i) (r,1) (cond (decide (b < 0)) (r,1) (cond (decide (b > 511)) (r,1)
 ({ r with s:=r.s.set i.toNat (tput (r.at i) 0 ((fT (r.at i)).set (Int.tdiv b 8).toNat (ibits .xor .u8 ((fT (r.at i)).getD (Int.tdiv b 8).toNat 0) (bit b)))) },0)))
def rwear(r:R)(i:Int):R×Int:=cond (!ris r i) (r,1) ({ r with s:=r.s.set i.toNat (tput (r.at i) 3 [1]) },0)
def GoodX(x:List Li):Prop:=(fT x).length=64∧(fD x=true→(fN x).length=64)
def rflushK(r:R)(k:Nat):R:=(List.range k).foldl (fun e (i:Nat)=>cond (fD (e.at i)) (rsettle e i 64) e) r
def rflush(r:R):R×Int:=cond r.off (r,22) (cond ((rstep r).2 != 0) (rstep r) (rflushK (rstep r).1 r.s.length,0))
def rmountK(picks:Li)(r:R)(k:Nat):R×Nat:=(List.range k).foldl (fun (e:R×Nat) (i:Nat)=>cond (fD (e.1.at i)) (rsettle e.1 i (picks.getD e.2 64),e.2+1) e) (r,0)
def rmount(r:R)(picks:Li):R:={ (rmountK picks r r.s.length).1 with off:=false,left:=-1 }
def rimage(r:R):List Li:=r.s.map fT
def rlist(p:List Li→Bool)(l:List (List Li))(k:Nat):List Int:=((List.range k).filter fun i=>p (l.getD i [])).map fun (i:Nat)=>(i:Int)
def rpending(r:R):List Int:=rlist fD r.s r.s.length
def rworn(r:R):List Int:=rlist fW r.s r.s.length
def rnew(n:Int):R:=⟨List.replicate n.toNat [List.replicate 64 0,[],[0],[0]],false,-1⟩
def new(n:Int):D:=⟨n.toNat,List.replicate (n.toNat*64) 0,[],[],false,-1⟩
def image(d:D):List Li:=(List.range d.n).map fun i=>sec d.blk i
def full(c:Int):List Int:=List.replicate 64 c
def text(t:Li):List Int:=cond (decide (0 < t.length)) (t++List.replicate (64-t.length) (t.getD (t.length-1) 0)) t
def op(d:D)(k i b:Int)(t p:Li):D×List Int×Int:=
 cond (k==1) ((write d i (text t)).1,[],(write d i (text t)).2) (cond (k==2) (d,read d i) (cond (k==3) ((flush d).1,[],(flush d).2) (cond (k==4) (trip d i,[],0)
 (cond (k==5) (mount d p,[],0) (cond (k==6) ((rot d i b).1,[],(rot d i b).2) (cond (k==7) ((wear d i).1,[],(wear d i).2) (d,[],0)))))))
def rop(r:R)(k i b:Int)(t p:Li):R×List Int×Int:=
 cond (k==1) ((rwrite r i (text t)).1,[],(rwrite r i (text t)).2) (cond (k==2) (r,rread r i) (cond (k==3) ((rflush r).1,[],(rflush r).2) (cond (k==4) (rtrip r i,[],0)
 (cond (k==5) (rmount r p,[],0) (cond (k==6) ((rrot r i b).1,[],(rrot r i b).2) (cond (k==7) ((rwear r i).1,[],(rwear r i).2) (r,[],0)))))))
def same(d:D)(r:R):Bool:=cond (image d==rimage r) (cond (pending d==rpending r) (cond (wornl d==rworn r) (cond ((d.n:Int)==(r.s.length:Int)) ((!d.off)==(!r.off)) false) false) false) false
theorem clamp_le(p:Int):clamp p≤64:=by
 unfold clamp;split <;> (try split) <;> omega
theorem ris_iff{r:R}{i:Int}:ris r i=true↔0≤i∧i < (r.s.length:Int):=by
 unfold ris
 by_cases h:i≥0
 ·rw [cond_pos h,decide_eq_true_iff];omega
 ·rw [cond_neg h];constructor
  ·intro h;cases h
  ·intro h';omega
theorem getD_set{α:Type}(l:List α)(i j:Nat)(x z:α):(l.set i x).getD j z=if i=j∧j < l.length then x else l.getD j z:=by
 simp only [List.getD_eq_getElem?_getD,List.getElem?_set]
 by_cases h:i=j
 ·subst h
  by_cases h2:i < l.length
  ·simp [h2]
  ·simp [h2]
 ·simp [h]
def RGood(r:R):Prop:=r.s.length < 8000 ∧ ∀ i,i < r.s.length→GoodX (r.s.getD i [])
theorem settled_good{x:List Li}(h:GoodX x)(hd:fD x=true)(p:Int):GoodX (settled x p):=by
 have hc:=clamp_le p
 refine⟨?_,fun h=>by cases h⟩
 simp only [settled,fT,List.getD_cons_zero]
 cases hw:fW x
 ·show((fN x).take (clamp p)++(fT x).drop (clamp p)).length=64
  rw [List.length_append,List.length_take,List.length_drop,h.1,h.2 hd];omega
 ·exact h.1
theorem set_good{r:R}(h:RGood r){i:Nat}{x:List Li}(hx:GoodX x):RGood { r with s:=r.s.set i x }:=by
 refine⟨by simpa using h.1,fun j hj=>?_⟩
 simp only [getD_set]
 rw [List.length_set] at hj
 split
 ·exact hx
 ·exact h.2 j hj
theorem rsettle_good{r:R}(h:RGood r){i:Nat}(hi:i < r.s.length)(hd:fD (r.at i)=true)(p:Int):RGood (rsettle r i p):=
 set_good h (settled_good (by simpa [R.at] using h.2 i hi) hd p)
theorem rsettle_len(r:R)(i p:Int):(rsettle r i p).s.length=r.s.length:=by simp [rsettle]
theorem rflushK_succ(r:R)(k:Nat):rflushK r (k+1)=cond (fD ((rflushK r k).at k)) (rsettle (rflushK r k) k 64) (rflushK r k):=by
 simp only [rflushK,List.range_succ,List.foldl_append,List.foldl_cons,List.foldl_nil]
theorem rmountK_succ(p:Li)(r:R)(k:Nat):rmountK p r (k+1)=cond (fD ((rmountK p r k).1.at k)) (rsettle (rmountK p r k).1 k (p.getD (rmountK p r k).2 64),(rmountK p r k).2+1) (rmountK p r k):=by
 simp only [rmountK,List.range_succ,List.foldl_append,List.foldl_cons,List.foldl_nil]
theorem rflushK_good{r:R}(h:RGood r):∀ k,k≤r.s.length→RGood (rflushK r k)∧(rflushK r k).s.length=r.s.length
 | 0,_=>⟨h,rfl⟩
 | k+1,hk=>by
  obtain⟨h1,h2⟩:=rflushK_good h k (by omega)
  rw [rflushK_succ]
  cases hd:fD ((rflushK r k).at k)
  ·exact⟨h1,h2⟩
  ·exact⟨rsettle_good h1 (by omega) hd _,by rw [cond_true,rsettle_len,h2]⟩
theorem rstep_same(r:R):(rstep r).1.s=r.s:=by
 unfold rstep
 cases (r.left==0)
 ·cases (decide (r.left > 0)) <;> rfl
 ·rfl
theorem rlist_succ(p:List Li→Bool)(l:List (List Li))(k:Nat):rlist p l (k+1)=cond (p (l.getD k [])) (rlist p l k++[(k:Int)]) (rlist p l k):=by
 simp only [rlist,List.range_succ,List.filter_append,List.map_append]
 cases h:p (l.getD k []) <;> simp only [List.filter_cons,List.filter_nil,h] <;> simp
end Go.Dk
end
section
/- A disk of the program and one of the specification: what holds of both, and that each operation keeps it. -/
namespace Go.Dk
open Go Go.Am
abbrev Es:=List (Li×Li)
theorem mhas_put(k v k':Li):∀ es:Es,mhas (mput es k v) k'=(k==k' || mhas es k')
 | []=>by simp [mput,mhas]
 | e :: es=>by
  simp only [mput]
  by_cases h:e.1==k
  ·rw [h,cond_true]
   have h':e.1=k:=by simpa using h
   simp only [mhas,List.any_cons,h',← Bool.or_assoc,Bool.or_self]
  ·have h2:(e.1==k)=false:=by simpa using h
   rw [h2,cond_false]
   have ih:=mhas_put k v k' es
   simp only [mhas,List.any_cons] at ih ⊢
   rw [ih]
   cases (e.1==k') <;> cases (k==k') <;> rfl
theorem mget_put(z k v k':Li):∀ es:Es,mget z (mput es k v) k'=if k=k' then v else mget z es k'
 | []=>by
  by_cases h:k=k'
  ·simp [mput,mget,h]
  ·have:(k==k')=false:=by simpa using h
   simp [mput,mget,h,this]
 | e :: es=>by
  simp only [mput]
  by_cases h:e.1=k
  ·have h2:(e.1==k)=true:=by simpa using h
   rw [h2,cond_true]
   simp only [mget]
   by_cases h3:k=k'
   ·have h4:(k==k')=true:=by simpa using h3
    rw [h4,if_pos h3];rfl
   ·have h4:(k==k')=false:=by simpa using h3
    have h5:(e.1==k')=false:=by rw [h];exact h4
    rw [h4,h5,if_neg h3];rfl
  ·have h2:(e.1==k)=false:=by simpa using h
   rw [h2,cond_false]
   simp only [mget,mget_put z k v k' es]
   by_cases h3:k=k'
   ·have h5:(e.1==k')=false:=by rw [← h3];exact h2
    simp only [if_pos h3,h5,cond_false]
   ·simp only [if_neg h3]
theorem mhas_del(k k':Li):∀ es:Es,mhas (mdel es k) k'=(!(k==k')&&mhas es k')
 | []=>by simp [mdel,mhas]
 | e :: es=>by
  have ih:=mhas_del k k' es
  simp only [mdel,mhas] at ih ⊢
  by_cases h:e.1=k
  ·have h2:(e.1==k)=true:=by simpa using h
   rw [List.filter_cons_of_neg (by simp [h2]),ih,List.any_cons,h]
   cases (k==k') <;> simp
  ·have h2:(e.1==k)=false:=by simpa using h
   rw [List.filter_cons_of_pos (by simp [h2]),List.any_cons,ih,List.any_cons]
   by_cases h3:k=k'
   ·subst h3;simp [h2]
   ·have h4:(k==k')=false:=by simpa using h3
    simp [h4]
theorem mget_del(z k k':Li)(hne:k≠k'):∀ es:Es,mget z (mdel es k) k'=mget z es k'
 | []=>rfl
 | e :: es=>by
  have ih:=mget_del z k k' hne es
  simp only [mdel] at ih ⊢
  by_cases h:e.1=k
  ·have h2:(e.1==k)=true:=by simpa using h
   rw [List.filter_cons_of_neg (by simp [h2]),ih]
   have h5:(e.1==k')=false:=by rw [h];simpa using hne
   simp only [mget,h5,cond_false]
  ·have h2:(e.1==k)=false:=by simpa using h
   rw [List.filter_cons_of_pos (by simp [h2])]
   simp only [mget,ih]
theorem mhas_mem{es:Es}{k:List Int}:mhas es k=true ↔ ∃ e∈es,e.1=k:=by
 simp [mhas,List.any_eq_true]
theorem mput_all{p:Li×Li→Prop}{k v:List Int}(hp:p (k,v)):∀ {es:Es},(∀ e∈es,p e) → ∀ e∈mput es k v,p e
 | [],_,e,he=>by simp [mput] at he;rw [he];exact hp
 | x :: es,h,e,he=>by
  simp only [mput] at he
  cases hx:x.1==k <;> rw [hx] at he
  ·rw [cond_false] at he
   rcases List.mem_cons.1 he with rfl | he
   ·exact h _ (.head _)
   ·exact mput_all hp (fun y hy=>h y (.tail _ hy)) e he
  ·rw [cond_true] at he
   rcases List.mem_cons.1 he with rfl | he
   ·exact hp
   ·exact h e (.tail _ he)
theorem mget_ones{es:Es}(h:∀ e∈es,e.2=[1])(k:Li):((mget [0] es k).getD 0 0==1)=mhas es k:=by
 induction es with
 | nil=>rfl
 | cons e es ih=>
  have ih:=ih fun x hx=>h x (.tail _ hx)
  simp only [mget,mhas,List.any_cons]
  cases hk:e.1==k
  ·rw [cond_false,ih];simp [mhas]
  ·rw [cond_true,h e (.head _)];rfl
theorem sec_len{b:List Int}{i:Nat}(h:i*64+64≤b.length):(sec b i).length=64:=by
 simp only [sec,List.length_take,List.length_drop];omega
theorem sec_get(b:Li)(i k:Nat):(sec b i)[k]?=if k < 64 then b[i*64+k]? else none:=by
 simp only [sec,List.getElem?_take,List.getElem?_drop]
theorem putsec_get{b s:List Int}{i m:Nat}(hs:s.length=64)(hm:m≤64)(hb:i*64+64≤b.length)(x:Nat):
  (putsec b i m s)[x]?=if x < i*64 then b[x]? else if x < i*64+m then s[x-i*64]? else b[x]?:=by
 have h1:(b.take (i*64)).length=i*64:=by rw [List.length_take];omega
 have h2:((s.take 64).take m).length=m:=by rw [List.length_take,List.length_take];omega
 simp only [putsec]
 by_cases ha:x < i*64
 ·rw [if_pos ha,List.append_assoc,List.getElem?_append_left (by omega),List.getElem?_take,if_pos ha]
 ·rw [if_neg ha]
  by_cases hb':x < i*64+m
  ·rw [if_pos hb',List.append_assoc,List.getElem?_append_right (by omega),List.getElem?_append_left (by omega),h1,List.getElem?_take,if_pos (by omega),List.getElem?_take,if_pos (by omega)]
  ·rw [if_neg hb',List.getElem?_append_right (by rw [List.length_append];omega),List.length_append,h1,h2,List.getElem?_drop]
   congr 1;omega
theorem sec_putsec{b s:List Int}{i m:Nat}(hs:s.length=64)(hm:m≤64)(hb:i*64+64≤b.length)(j:Nat):
  sec (putsec b i m s) j=if j=i then s.take m++(sec b i).drop m else sec b j:=by
 refine List.ext_getElem? fun k=>?_
 rw [sec_get]
 by_cases hj:j=i
 ·subst hj
  rw [if_pos rfl]
  by_cases hk:k < 64
  ·rw [if_pos hk,putsec_get hs hm hb,if_neg (by omega)]
   by_cases hkm:k < m
   ·rw [if_pos (by omega),List.getElem?_append_left (by rw [List.length_take];omega),List.getElem?_take,if_pos hkm]
    congr 1;omega
   ·rw [if_neg (by omega),List.getElem?_append_right (by rw [List.length_take];omega),List.length_take,List.getElem?_drop,sec_get,if_pos (by omega)]
    congr 1;omega
  ·rw [if_neg hk,List.getElem?_eq_none]
   rw [List.length_append,List.length_take,List.length_drop,sec_len hb];omega
 ·rw [if_neg hj,sec_get]
  by_cases hk:k < 64
  ·rw [if_pos hk,if_pos hk,putsec_get hs hm hb]
   split
   ·rfl
   ·rw [if_neg]
    intro h;omega
  ·rw [if_neg hk,if_neg hk]
theorem sec_set(b:Li)(i q j:Nat)(v:Int)(hq:q < 64):sec (b.set (q+i*64) v) j=if j=i then (sec b i).set q v else sec b j:=by
 refine List.ext_getElem? fun k=>?_
 rw [sec_get]
 by_cases hj:j=i
 ·subst hj
  rw [if_pos rfl,List.getElem?_set,List.getElem?_set,sec_get]
  by_cases hk:k < 64
  ·rw [if_pos hk,if_pos hk]
   by_cases hqk:q=k
   ·subst hqk
    rw [if_pos (by omega),if_pos rfl]
    by_cases hl:q+j*64 < b.length
    ·rw [if_pos hl,if_pos]
     simp only [sec,List.length_take,List.length_drop];omega
    ·rw [if_neg hl,if_neg]
     simp only [sec,List.length_take,List.length_drop];omega
   ·rw [if_neg (by omega),if_neg hqk]
  ·rw [if_neg hk,if_neg hk,if_neg (by omega)]
 ·rw [if_neg hj,sec_get]
  by_cases hk:k < 64
  ·rw [if_pos hk,if_pos hk,List.getElem?_set,if_neg (by omega)]
  ·rw [if_neg hk,if_neg hk]
structure Rel (d:D) (r:R):Prop where
 n:r.s.length=d.n
 small:d.n < 8000
 len:d.blk.length=d.n*64
 text:∀ i,i < d.n→sec d.blk i=fT (r.s.getD i [])
 keys:∀ e∈d.pend,(∃ i:Nat,i < d.n∧e.1=[(i:Int)])∧e.2.length=64
 nd:(d.pend.map (·.1)).Nodup
 dirty:∀ i:Nat,i < d.n→isP d i=fD (r.s.getD i [])
 next:∀ i:Nat,i < d.n→fD (r.s.getD i [])=true→nxt d i=fN (r.s.getD i [])
 wkeys:∀ e∈d.worn,(∃ i:Nat,i < d.n∧e.1=[(i:Int)])∧e.2=[1]
 wnd:(d.worn.map (·.1)).Nodup
 worn:∀ i:Nat,i < d.n→isW d i=fW (r.s.getD i [])
 off:d.off=r.off
 left:d.left=r.left∨(d.left < 0∧r.left < 0)
 lo : -9223372036854775808≤d.left
 hi:d.left≤9223372036854775807
theorem nodup_len{es:Es}{n:Nat}(h:∀ e∈es,∃ i:Nat,i < n∧e.1=[(i:Int)])(hn:(es.map (·.1)).Nodup):es.length≤n:=by
 have h1:(keyInts es).Nodup:=by
  simp only [keyInts,List.Nodup,List.pairwise_map] at hn ⊢
  refine hn.imp_of_mem fun {a b} ha hb h' e=>h' ?_
  obtain⟨i,_,e1⟩:=h a ha
  obtain⟨j,_,e2⟩:=h b hb
  rw [e1,e2] at e ⊢
  simpa using e
 have h2:(((List.range n).filter fun i:Nat=>(keyInts es).contains (i:Int)).map fun i:Nat=>(i:Int)).Nodup:=by
  simp only [List.Nodup,List.pairwise_map]
  refine(List.pairwise_lt_range.filter _).imp fun {a b} h=>?_
  omega
 have h3:(keyInts es).Perm (((List.range n).filter fun i:Nat=>(keyInts es).contains (i:Int)).map fun i:Nat=>(i:Int)):=by
  rw [List.perm_ext_iff_of_nodup h1 h2]
  intro x
  simp only [List.mem_map,List.mem_filter,List.mem_range,List.contains_iff_mem]
  constructor
  ·intro hx
   obtain⟨e,he,rfl⟩:=List.mem_map.1 (show x∈es.map fun e=>e.1.getD 0 0 from hx)
   obtain⟨i,hi,e1⟩:=h e he
   exact⟨i,⟨hi,by rw [show(i:Int)=e.1.getD 0 0 by rw [e1];rfl];exact hx⟩,by rw [e1];rfl⟩
  ·rintro⟨i,⟨_,hx⟩,rfl⟩;exact hx
 have h4:=h3.length_eq
 have h5:=List.length_filter_le (fun i:Nat=>(keyInts es).contains (i:Int)) (List.range n)
 simp only [keyInts,List.length_map,List.length_range] at h4 h5
 omega
theorem Rel.fine{d:D}{r:R}(h:Rel d r):fine d=true:=by
 have h1:=nodup_len (fun e he=>(h.keys e he).1) h.nd
 have h2:=nodup_len (fun e he=>(h.wkeys e he).1) h.wnd
 have h3:=h.small
 simp only [Dk.fine,Bool.and_eq_true,decide_eq_true_eq,List.all_eq_true]
 refine⟨⟨h.small,h.len,by omega,by omega⟩,fun e he=>?_⟩
 obtain⟨⟨i,hi,e1⟩,_⟩:=h.keys e he
 rw [e1]
 simp [inD];omega
theorem Rel.ok{d:D}{r:R}(h:Rel d r):Ok d:=⟨h.len,fun e he=>(h.keys e he).2⟩
theorem Rel.good{d:D}{r:R}(h:Rel d r):RGood r:=by
 refine⟨by rw [h.n];exact h.small,fun i hi=>?_⟩
 rw [h.n] at hi
 have hl:=h.len
 refine⟨by rw [← h.text i hi];exact sec_len (by omega),fun hd=>?_⟩
 rw [← h.next i hi hd]
 exact mget64 h.ok.vals _
theorem Rel.check{d:D}{r:R}(h:Rel d r)(i:Int):check d i=cond r.off 22 (cond (!ris r i) 1 0):=by
 unfold Dk.check ris
 rw [h.off,h.n]
 cases r.off
 ·simp only [cond_false]
  by_cases h1:i < 0
  ·rw [cond_pos h1,cond_neg (show ¬ i≥0 by omega)];rfl
  ·rw [cond_neg h1,cond_pos (show i≥0 by omega)]
   by_cases h2:i≥(d.n:Int)
   ·rw [cond_pos h2,show decide (i < (d.n:Int))=false by simp;omega];rfl
   ·rw [cond_neg h2,show decide (i < (d.n:Int))=true by simp;omega];rfl
 ·rfl
theorem Rel.step{d:D}{r:R}(h:Rel d r):(step d).2=(rstep r).2∧Rel (step d).1 (rstep r).1:=by
 have hlo:=h.lo
 have hhi:=h.hi
 unfold Dk.step rstep
 by_cases h0:d.left=0
 ·have h1:r.left=0:=by rcases h.left with h | ⟨h,_⟩ <;> omega
  rw [show(d.left==0)=true by simpa using h0,show(r.left==0)=true by simpa using h1]
  exact⟨rfl,{ h with off:=rfl }⟩
 ·have h1:r.left≠0:=by rcases h.left with h | ⟨_,h⟩ <;> omega
  rw [show(d.left==0)=false by simpa using h0,show(r.left==0)=false by simpa using h1]
  simp only [cond_false]
  by_cases h2:d.left > 0
  ·have h3:r.left=d.left:=by rcases h.left with h | ⟨h,_⟩ <;> omega
   rw [cond_pos h2,cond_pos (show r.left > 0 by omega),h3,i64w (by omega) (by omega)]
   exact⟨rfl,{ h with left:=.inl rfl,lo:=by show _≤d.left-1;omega,hi:=by show d.left-1≤_;omega }⟩
  ·rw [cond_neg h2,cond_neg (show ¬ r.left > 0 by rcases h.left with h | ⟨_,h⟩ <;> omega)]
   exact⟨rfl,h⟩
theorem int_key(i j:Nat):([(i:Int)]==[(j:Int)])=decide (i=j):=by
 rw [Bool.eq_iff_iff];simp;omega
theorem key_ne{i j:Nat}(h:i≠j): [(i:Int)]≠[(j:Int)]:=by simp;omega
theorem isP_settle(d:D)(i j:Nat)(p:Int):isP (settle d i p) j=(!decide (i=j)&&isP d j):=by
 simp only [isP,settle,mhas_del,int_key]
theorem nxt_settle(d:D){i j:Nat}(p:Int)(h:i≠j):nxt (settle d i p) j=nxt d j:=by
 simp only [nxt,settle];exact mget_del _ _ _ (key_ne h) _
theorem sec_settle{d:D}(hl:d.blk.length=d.n*64)(hv:∀ e∈d.pend,e.2.length=64){i:Nat}(hi:i < d.n)(p:Int)(j:Nat):
  sec (settle d i p).blk j=if j=i then cond (!isW d i) ((nxt d i).take (clamp p)++(sec d.blk i).drop (clamp p)) (sec d.blk i) else sec d.blk j:=by
 have hc:=clamp_le p
 have hx:(nxt d i).length=64:=mget64 hv _
 simp only [settle,Int.toNat_natCast]
 cases (!isW d i)
 ·simp only [cond_false]
  by_cases h:j=i
  ·rw [if_pos h,h]
  ·rw [if_neg h]
 ·simp only [cond_true]
  cases hq:(!(nxt d i==sec d.blk i))
  ·have hq':nxt d i=sec d.blk i:=by simpa using hq
   simp only [cond_false]
   by_cases h:j=i
   ·rw [if_pos h,hq',List.take_append_drop,h]
   ·rw [if_neg h]
  ·simp only [cond_true]
   rw [Nat.min_eq_right hc]
   exact sec_putsec hx hc (by omega) j
theorem getD_settle(r:R){i:Nat}(p:Int)(hi:i < r.s.length)(j:Nat):(rsettle r i p).s.getD j []=if i=j then settled (r.s.getD i []) p else r.s.getD j []:=by
 simp only [rsettle,Int.toNat_natCast,getD_set,R.at]
 by_cases h:i=j
 ·subst h;rw [if_pos ⟨rfl,hi⟩,if_pos rfl]
 ·rw [if_neg (fun h'=>h h'.1),if_neg h]
theorem Rel.settle{d:D}{r:R}(h:Rel d r){i:Nat}(hi:i < d.n)(hd:fD (r.s.getD i [])=true)(p:Int):Rel (settle d i p) (rsettle r i p):=by
 have hir:i < r.s.length:=by rw [h.n];exact hi
 have hok:=settle_ok (i:=(i:Int)) h.ok (by simp [inD];exact hi) p
 exact {
  n:=by rw [rsettle_len];exact h.n
  small:=h.small
  len:=hok.len
  text:=fun j hj=>by
   rw [sec_settle h.len h.ok.vals hi,getD_settle r p hir]
   by_cases hji:j=i
   ·subst hji
    rw [if_pos rfl,if_pos rfl,h.worn j hj,h.next j hj hd,h.text j hj]
    rfl
   ·rw [if_neg hji,if_neg (Ne.symm hji),h.text j hj]
  keys:=fun e he=>h.keys e (List.mem_filter.1 he).1
  nd:=mdel_nd h.nd
  dirty:=fun j hj=>by
   rw [isP_settle,getD_settle r p hir]
   by_cases hji:i=j
   ·subst hji;simp [settled,fD]
   ·rw [if_neg hji,h.dirty j hj];simp [hji]
  next:=fun j hj hdj=>by
   rw [getD_settle r p hir] at hdj ⊢
   by_cases hji:i=j
   ·subst hji;rw [if_pos rfl] at hdj;cases hdj
   ·rw [if_neg hji] at hdj ⊢
    rw [nxt_settle d p hji];exact h.next j hj hdj
  wkeys:=h.wkeys
  wnd:=h.wnd
  worn:=fun j hj=>by
   rw [getD_settle r p hir]
   by_cases hji:i=j
   ·subst hji
    rw [if_pos rfl]
    show isW d i=_
    rw [h.worn i hj]
    simp only [settled,fW,List.getD_cons_succ,List.getD_cons_zero]
    cases (((r.s.getD i []).getD 3 []).getD 0 0==1) <;> rfl
   ·rw [if_neg hji];exact h.worn j hj
  off:=h.off
  left:=h.left
  lo:=h.lo
  hi:=h.hi }
theorem rlist_sorted(p:List Li→Bool)(l:List (List Li))(k:Nat):(rlist p l k).Pairwise fun a b=>decide (a≤b)=true:=by
 simp only [rlist,List.pairwise_map]
 refine(List.pairwise_lt_range.filter _).imp fun {a b} h=>?_
 simp only [decide_eq_true_eq];omega
theorem rlist_nodup(p:List Li→Bool)(l:List (List Li))(k:Nat):(rlist p l k).Nodup:=by
 simp only [rlist,List.Nodup,List.pairwise_map]
 refine(List.pairwise_lt_range.filter _).imp fun {a b} h=>?_
 omega
theorem mem_rlist{p:List Li→Bool}{l:List (List Li)}{k:Nat}{x:Int}:x∈rlist p l k ↔ ∃ i:Nat,i < k∧p (l.getD i [])=true∧x=(i:Int):=by
 simp only [rlist,List.mem_map,List.mem_filter,List.mem_range]
 constructor
 ·rintro⟨i,⟨h1,h2⟩,rfl⟩;exact⟨i,h1,h2,rfl⟩
 ·rintro⟨i,h1,h2,rfl⟩;exact⟨i,⟨h1,h2⟩,rfl⟩
theorem sorted_keys{es:Es}{n:Nat}(hk:∀ e∈es,∃ i:Nat,i < n∧e.1=[(i:Int)])(hn:(es.map (·.1)).Nodup)(p:List Li→Bool)(l:List (List Li))
  (hp:∀ i:Nat,i < n→mhas es [(i:Int)]=p (l.getD i [])):sortI (keyInts es)=rlist p l n:=by
 have h1:(keyInts es).Nodup:=by
  simp only [keyInts,List.Nodup,List.pairwise_map] at hn ⊢
  refine hn.imp_of_mem fun {a b} ha hb h e=>h ?_
  obtain⟨i,_,e1⟩:=hk a ha
  obtain⟨j,_,e2⟩:=hk b hb
  rw [e1,e2] at e ⊢
  simpa using e
 have hperm:(keyInts es).Perm (rlist p l n):=by
  rw [List.perm_ext_iff_of_nodup h1 (rlist_nodup p l n)]
  intro x
  rw [mem_rlist]
  simp only [keyInts,List.mem_map]
  constructor
  ·rintro⟨e,he,rfl⟩
   obtain⟨i,hi,e1⟩:=hk e he
   exact⟨i,hi,by rw [← hp i hi];exact mhas_mem.2 ⟨e,he,e1⟩,by rw [e1];rfl⟩
  ·rintro⟨i,hi,h2,rfl⟩
   rw [← hp i hi] at h2
   obtain⟨e,he,e1⟩:=mhas_mem.1 h2
   exact⟨e,he,by rw [e1];rfl⟩
 have h2:sortI (keyInts es)=sortI (rlist p l n):=Go.mergeSort_of_perm_i hperm
 rw [h2]
 exact List.mergeSort_of_pairwise (rlist_sorted p l n)
theorem Rel.pending{d:D}{r:R}(h:Rel d r):pending d=rpending r:=by
 simp only [Dk.pending,rpending,h.n]
 exact sorted_keys (fun e he=>(h.keys e he).1) h.nd _ _ h.dirty
theorem Rel.wornl{d:D}{r:R}(h:Rel d r):wornl d=rworn r:=by
 simp only [Dk.wornl,rworn,h.n]
 refine sorted_keys (fun e he=>(h.wkeys e he).1) h.wnd _ _ fun i hi=>?_
 rw [← h.worn i hi,isW,mget_ones fun e he=>(h.wkeys e he).2]
theorem Rel.image{d:D}{r:R}(h:Rel d r):image d=rimage r:=by
 refine list_eq [] (by simp [Dk.image,rimage,h.n]) fun i hi=>?_
 simp only [Dk.image,List.length_map,List.length_range] at hi
 have h1:=h.text i hi
 simp only [Dk.image,rimage,List.getD_eq_getElem?_getD,List.getElem?_map,List.getElem?_range hi,Option.map_some,Option.getD_some]
 rw [h1,List.getD_eq_getElem?_getD,List.getElem?_eq_getElem (by rw [h.n];exact hi)];rfl
theorem Rel.same{d:D}{r:R}(h:Rel d r):same d r=true:=by
 simp only [Dk.same,h.pending,h.wornl,h.image,h.n,h.off,beq_self_eq_true,cond_true]
theorem Rel.flushK{d:D}{r:R}(h:Rel d r):∀ k,k≤d.n→Rel ((rlist fD r.s k).foldl (fun e i=>Dk.settle e i 64) d) (rflushK r k)∧(∀ j,k≤j→(rflushK r k).s.getD j []=r.s.getD j [])∧((rlist fD r.s k).foldl (fun e i=>Dk.settle e i 64) d).n=d.n
 | 0,_=>⟨h,fun _ _=>rfl,rfl⟩
 | k+1,hk=>by
  obtain⟨h1,h2,h3⟩:=h.flushK k (by omega)
  have hr:=rflushK_succ r k
  have hl:=rlist_succ fD r.s k
  have e:fD ((rflushK r k).at (k:Int))=fD (r.s.getD k []):=by rw [R.at,Int.toNat_natCast,h2 k (Nat.le_refl _)]
  rw [hr,hl,e]
  cases hd:fD (r.s.getD k [])
  ·exact⟨h1,fun j hj=>h2 j (by omega),h3⟩
  ·simp only [cond_true,List.foldl_append,List.foldl_cons,List.foldl_nil]
   refine⟨h1.settle (by rw [h3];omega) (by rw [h2 k (Nat.le_refl _)];exact hd) 64,fun j hj=>?_,h3⟩
   rw [getD_settle _ _ (by rw [h1.n,h3];omega),if_neg (by omega)]
   exact h2 j (by omega)
theorem Rel.flush{d:D}{r:R}(h:Rel d r)(h0:0 < d.n):(flush d).2=(rflush r).2∧Rel (flush d).1 (rflush r).1:=by
 have hris:ris r 0=true:=ris_iff.2 ⟨by omega,by rw [h.n];omega⟩
 simp only [Dk.flush,rflush,h.check,hris]
 cases ho:r.off
 ·simp only [cond_false,Bool.not_true]
  obtain⟨s1,s2⟩:=h.step
  rw [s1]
  cases hs:((rstep r).2 != 0)
  ·simp only [bne_self_eq_false,cond_false]
   obtain⟨t1,t2,t3,t4⟩:=step_same d
   have hp:Dk.pending d=rlist fD (rstep r).1.s d.n:=by rw [h.pending,rstep_same,rpending,h.n]
   rw [hp,h.n]
   exact⟨trivial,(s2.flushK d.n (by rw [t1];exact Nat.le_refl _)).1⟩
  ·simp only [bne_self_eq_false,cond_false,cond_true]
   exact⟨s1,s2⟩
 ·exact⟨rfl,h⟩
theorem Rel.mountK{d:D}{r:R}(h:Rel d r)(picks:Li):∀ k,k≤d.n→Rel (mountAll picks (rlist fD r.s k) 0 d) (rmountK picks r k).1∧(∀ j,k≤j→(rmountK picks r k).1.s.getD j []=r.s.getD j [])∧(mountAll picks (rlist fD r.s k) 0 d).n=d.n∧(rmountK picks r k).2=(rlist fD r.s k).length
 | 0,_=>⟨h,fun _ _=>rfl,rfl,rfl⟩
 | k+1,hk=>by
  obtain⟨h1,h2,h3,h4⟩:=h.mountK picks k (by omega)
  have hr:=rmountK_succ picks r k
  have hl:=rlist_succ fD r.s k
  have e:fD ((rmountK picks r k).1.at (k:Int))=fD (r.s.getD k []):=by rw [R.at,Int.toNat_natCast,h2 k (Nat.le_refl _)]
  rw [hr,hl,e]
  cases hd:fD (r.s.getD k [])
  ·exact⟨h1,fun j hj=>h2 j (by omega),h3,h4⟩
  ·simp only [cond_true,mountAll_snoc,Nat.zero_add]
   rw [h4]
   refine⟨h1.settle (by rw [h3];omega) (by rw [h2 k (Nat.le_refl _)];exact hd) _,fun j hj=>?_,h3,by simp⟩
   rw [getD_settle _ _ (by rw [h1.n,h3];omega),if_neg (by omega)]
   exact h2 j (by omega)
theorem Rel.mount{d:D}{r:R}(h:Rel d r)(picks:Li):Rel (mount d picks) (rmount r picks):=by
 have h1:=(h.mountK picks d.n (Nat.le_refl _)).1
 have hp:Dk.pending d=rlist fD r.s d.n:=by rw [h.pending,rpending,h.n]
 simp only [Dk.mount,rmount,hp,h.n]
 exact { h1 with off:=rfl,left:=.inl rfl,lo:=by show(-9223372036854775808:Int) ≤ -1;decide,hi:=by show(-1:Int)≤9223372036854775807;decide }
theorem getD_set_at{l:List (List Li)}{i:Nat}(x:List Li)(h:i < l.length)(j:Nat):(l.set i x).getD j []=if i=j then x else l.getD j []:=by
 rw [getD_set]
 by_cases hij:i=j
 ·subst hij;rw [if_pos ⟨rfl,h⟩,if_pos rfl]
 ·rw [if_neg (fun h'=>hij h'.1),if_neg hij]
theorem tput_get:∀ (x:List Li) (c:Nat) (f:Li) (j:Nat),(tput x c f).getD j []=if c=j then f else x.getD j []
 | [],0,f,0=>rfl
 | [],0,f,j+1=>by simp [tput]
 | [],c+1,f,0=>rfl
 | [],c+1,f,j+1=>by
  have:=tput_get [] c f j
  simp only [tput,List.getD_cons_succ,this,Nat.add_right_cancel_iff];rfl
 | x :: r,0,f,0=>rfl
 | x :: r,0,f,j+1=>by simp [tput]
 | x :: r,c+1,f,0=>by simp [tput]
 | x :: r,c+1,f,j+1=>by
  have:=tput_get r c f j
  simp only [tput,List.getD_cons_succ,this,Nat.add_right_cancel_iff]
theorem wput_get{l:List (List Li)}{i:Nat}(t:Li)(h:i < l.length)(j:Nat):(wput l i t).getD j []=if i=j then tput (tput (l.getD i []) 1 t) 2 [1] else l.getD j []:=by
 simp only [wput]
 rw [getD_set_at _ (by simpa using h),getD_set_at _ h,getD_set_at _ h,if_pos rfl]
 split <;> rfl
theorem Rel.write{d:D}{r:R}(h:Rel d r)(i:Int)(t:Li):(write d i t).2=(rwrite r i t).2∧Rel (write d i t).1 (rwrite r i t).1:=by
 simp only [Dk.write,rwrite,h.check]
 cases ho:r.off
 ·cases hi:ris r i
  ·exact⟨rfl,h⟩
  ·simp only [cond_false,Bool.not_true,bne_self_eq_false]
   cases hl:((t.length:Int) != 64)
   ·simp only [cond_false]
    obtain⟨s1,s2⟩:=h.step
    rw [s1]
    cases hs:((rstep r).2 != 0)
    ·simp only [cond_false]
     refine⟨trivial,?_⟩
     have hlen:t.length=64:=by
      have:(t.length:Int)=64:=by simpa using hl
      omega
     obtain⟨t1,t2,t3,t4⟩:=step_same d
     have hr:=ris_iff.1 hi
     rw [h.n] at hr
     obtain⟨q,rfl⟩:∃ q:Nat,i=(q:Int):=⟨i.toNat,by omega⟩
     rw [Int.toNat_natCast,List.take_of_length_le (by omega)]
     have hq:q < (Dk.step d).1.n:=by rw [t1];omega
     revert s2 hq
     generalize (Dk.step d).1=d'
     generalize (rstep r).1=r'
     intro s2 hq
     have hql:q < r'.s.length:=by rw [s2.n];exact hq
     exact {
      n:=by simp only [wput,List.length_set];exact s2.n
      small:=s2.small
      len:=s2.len
      text:=fun j hj=>by
       rw [s2.text j hj,wput_get t hql]
       by_cases hji:q=j
       ·subst hji;rw [if_pos rfl];simp only [fT];rw [tput_get,if_neg (by decide),tput_get,if_neg (by decide)]
       ·rw [if_neg hji]
      keys:=mput_all ⟨⟨q,hq,rfl⟩,hlen⟩ s2.keys
      nd:=mput_nd s2.nd
      dirty:=fun j hj=>by
       rw [wput_get t hql]
       simp only [isP,mhas_put,int_key]
       by_cases hji:q=j
       ·subst hji;rw [if_pos rfl,fD,tput_get,if_pos rfl];simp
       ·rw [if_neg hji,← s2.dirty j hj];simp [hji,isP]
      next:=fun j hj hdj=>by
       rw [wput_get t hql] at hdj ⊢
       simp only [nxt,mget_put]
       by_cases hji:q=j
       ·subst hji;rw [if_pos rfl,if_pos rfl,fN,tput_get,if_neg (by decide),tput_get,if_pos rfl]
       ·rw [if_neg hji] at hdj ⊢
        rw [if_neg (key_ne hji)];exact s2.next j hj hdj
      wkeys:=s2.wkeys
      wnd:=s2.wnd
      worn:=fun j hj=>by
       show isW d' j=_
       rw [s2.worn j hj,wput_get t hql]
       by_cases hji:q=j
       ·subst hji;rw [if_pos rfl];simp only [fW];rw [tput_get,if_neg (by decide),tput_get,if_neg (by decide)]
       ·rw [if_neg hji]
      off:=s2.off
      left:=s2.left
      lo:=s2.lo
      hi:=s2.hi }
    ·exact⟨s1,s2⟩
   ·exact⟨rfl,h⟩
 ·exact⟨rfl,h⟩
theorem Rel.read{d:D}{r:R}(h:Rel d r)(i:Int):read d i=rread r i:=by
 simp only [Dk.read,rread,h.check]
 cases ho:r.off
 ·cases hi:ris r i
  ·rfl
  ·simp only [cond_false,Bool.not_true,bne_self_eq_false]
   have hr:=ris_iff.1 hi
   rw [h.n] at hr
   obtain⟨q,rfl⟩:∃ q:Nat,i=(q:Int):=⟨i.toNat,by omega⟩
   have hq:q < d.n:=by omega
   simp only [R.at,Int.toNat_natCast]
   rw [h.dirty q hq]
   cases hd:fD (r.s.getD q [])
   ·simp only [cond_false];rw [h.text q hq]
   ·simp only [cond_true]
    rw [List.take_of_length_le (by rw [nxt,mget64 h.ok.vals];exact Nat.le_refl _),h.next q hq hd]
 ·rfl
theorem Rel.trip{d:D}{r:R}(h:Rel d r)(n:Int)(h1 : -9223372036854775808≤n)(h2:n≤9223372036854775807):Rel (trip d n) (rtrip r n):=
 { h with
  left:=by
   show n=(if n > -1 then n else -1)∨(n < 0∧(if n > -1 then n else -1) < 0)
   split
   ·exact .inl rfl
   ·exact .inr ⟨by omega,by decide⟩
  lo:=h1
  hi:=h2 }
theorem dec_ris{d:D}{r:R}(h:Rel d r)(i:Int){α:Type}(a b:α):cond (decide (i < 0)) a (cond (decide (i≥(d.n:Int))) a b)=cond (!ris r i) a b:=by
 simp only [ris,h.n]
 by_cases h1:i < 0
 ·rw [cond_pos h1,cond_neg (show ¬ i≥0 by omega)];rfl
 ·rw [cond_neg h1,cond_pos (show i≥0 by omega)]
  by_cases h2:i≥(d.n:Int)
  ·rw [cond_pos h2,show decide (i < (d.n:Int))=false by simp;omega];rfl
  ·rw [cond_neg h2,show decide (i < (d.n:Int))=true by simp;omega];rfl
theorem Rel.wear{d:D}{r:R}(h:Rel d r)(i:Int):(wear d i).2=(rwear r i).2∧Rel (wear d i).1 (rwear r i).1:=by
 simp only [Dk.wear,rwear,dec_ris h]
 cases hi:ris r i
 ·exact⟨rfl,h⟩
 ·simp only [Bool.not_true,cond_false]
  have hr:=ris_iff.1 hi
  rw [h.n] at hr
  obtain⟨q,rfl⟩:∃ q:Nat,i=(q:Int):=⟨i.toNat,by omega⟩
  have hq:q < d.n:=by omega
  have hql:q < r.s.length:=by rw [h.n];exact hq
  simp only [R.at,Int.toNat_natCast]
  have get:=getD_set_at (tput (r.s.getD q []) 3 [1]) hql
  exact⟨trivial,{
   n:=by simp only [List.length_set];exact h.n
   small:=h.small
   len:=h.len
   text:=fun j hj=>by
    rw [h.text j hj,get]
    by_cases hji:q=j
    ·subst hji;rw [if_pos rfl];simp only [fT];rw [tput_get,if_neg (by decide)]
    ·rw [if_neg hji]
   keys:=h.keys
   nd:=h.nd
   dirty:=fun j hj=>by
    show isP d j=_
    rw [h.dirty j hj,get]
    by_cases hji:q=j
    ·subst hji;rw [if_pos rfl];simp only [fD];rw [tput_get,if_neg (by decide)]
    ·rw [if_neg hji]
   next:=fun j hj hdj=>by
    show nxt d j=_
    rw [get] at hdj ⊢
    by_cases hji:q=j
    ·subst hji
     rw [if_pos rfl] at hdj ⊢
     simp only [fD,fN] at hdj ⊢
     rw [tput_get,if_neg (by decide)] at hdj ⊢
     exact h.next q hj hdj
    ·rw [if_neg hji] at hdj ⊢
     exact h.next j hj hdj
   wkeys:=mput_all ⟨⟨q,hq,rfl⟩,rfl⟩ h.wkeys
   wnd:=mput_nd h.wnd
   worn:=fun j hj=>by
    rw [get]
    simp only [isW,mget_put]
    by_cases hji:q=j
    ·subst hji;rw [if_pos rfl,if_pos rfl];simp only [fW];rw [tput_get,if_pos rfl]
    ·rw [if_neg hji,if_neg (key_ne hji)];exact h.worn j hj
   off:=h.off
   left:=h.left
   lo:=h.lo
   hi:=h.hi }⟩
theorem Rel.rot{d:D}{r:R}(h:Rel d r)(i b:Int):(rot d i b).2=(rrot r i b).2∧Rel (rot d i b).1 (rrot r i b).1:=by
 simp only [Dk.rot,rrot,dec_ris h]
 cases hi:ris r i
 ·exact⟨rfl,h⟩
 ·simp only [Bool.not_true,cond_false]
  by_cases hb0:b < 0
  ·simp only [cond_pos hb0];exact⟨trivial,h⟩
  ·by_cases hb1:b > 511
   ·simp only [cond_neg hb0,cond_pos hb1,cond_pos (show b≥512 by omega)];exact⟨trivial,h⟩
   ·simp only [cond_neg hb0,cond_neg hb1,cond_neg (show ¬ b≥512 by omega)]
    refine⟨trivial,?_⟩
    have hr:=ris_iff.1 hi
    rw [h.n] at hr
    obtain⟨q,rfl⟩:∃ q:Nat,i=(q:Int):=⟨i.toNat,by omega⟩
    have hq:q < d.n:=by omega
    have hql:q < r.s.length:=by rw [h.n];exact hq
    have e8:Int.tdiv b 8=b / 8:=tdiv_nn (by omega)
    have hm:(Int.tdiv b 8).toNat < 64:=by rw [e8];omega
    simp only [R.at,Int.toNat_natCast,place]
    generalize (Int.tdiv b 8).toNat=m at hm
    have hl:=h.len
    have ev:d.blk.getD (m+q*64) 0=(fT (r.s.getD q [])).getD m 0:=by
     rw [← h.text q hq,List.getD_eq_getElem?_getD,List.getD_eq_getElem?_getD,sec_get,if_pos hm,Nat.add_comm]
    rw [ev]
    generalize ibits .xor .u8 ((fT (r.s.getD q [])).getD m 0) (bit b)=v
    have get:=getD_set_at (tput (r.s.getD q []) 0 ((fT (r.s.getD q [])).set m v)) hql
    exact {
     n:=by simp only [List.length_set];exact h.n
     small:=h.small
     len:=by simp only [List.length_set];exact h.len
     text:=fun j hj=>by
      rw [sec_set _ _ _ _ _ hm,get]
      by_cases hji:q=j
      ·subst hji;rw [if_pos rfl,if_pos rfl,h.text q hj];simp only [fT];rw [tput_get,if_pos rfl]
      ·rw [if_neg hji,if_neg (Ne.symm hji)];exact h.text j hj
     keys:=h.keys
     nd:=h.nd
     dirty:=fun j hj=>by
      show isP d j=_
      rw [h.dirty j hj,get]
      by_cases hji:q=j
      ·subst hji;rw [if_pos rfl];simp only [fD];rw [tput_get,if_neg (by decide)]
      ·rw [if_neg hji]
     next:=fun j hj hdj=>by
      show nxt d j=_
      rw [get] at hdj ⊢
      by_cases hji:q=j
      ·subst hji
       rw [if_pos rfl] at hdj ⊢
       simp only [fD,fN] at hdj ⊢
       rw [tput_get,if_neg (by decide)] at hdj ⊢
       exact h.next q hj hdj
      ·rw [if_neg hji] at hdj ⊢
       exact h.next j hj hdj
     wkeys:=h.wkeys
     wnd:=h.wnd
     worn:=fun j hj=>by
      show isW d j=_
      rw [h.worn j hj,get]
      by_cases hji:q=j
      ·subst hji;rw [if_pos rfl];simp only [fW];rw [tput_get,if_neg (by decide)]
      ·rw [if_neg hji]
     off:=h.off
     left:=h.left
     lo:=h.lo
     hi:=h.hi }
theorem Rel.op{d:D}{r:R}(h:Rel d r)(h0:0 < d.n)(k i b:Int)(t p:Li)(h1 : -9223372036854775808≤i)(h2:i≤9223372036854775807):(op d k i b t p).2=(rop r k i b t p).2∧Rel (op d k i b t p).1 (rop r k i b t p).1:=by
 simp only [Dk.op,rop]
 cases (k==1)
 ·cases (k==2)
  ·cases (k==3)
   ·cases (k==4)
    ·cases (k==5)
     ·cases (k==6)
      ·cases (k==7)
       ·exact⟨rfl,h⟩
       ·obtain⟨q1,q2⟩:=h.wear i;simp only [cond_true,cond_false];exact⟨by rw [q1],q2⟩
      ·obtain⟨q1,q2⟩:=h.rot i b;simp only [cond_true,cond_false];exact⟨by rw [q1],q2⟩
     ·exact⟨rfl,h.mount p⟩
    ·exact⟨rfl,h.trip i h1 h2⟩
   ·obtain⟨q1,q2⟩:=h.flush h0;simp only [cond_true,cond_false];exact⟨by rw [q1],q2⟩
  ·exact⟨h.read i,h⟩
 ·obtain⟨q1,q2⟩:=h.write i (Dk.text t);simp only [cond_true,cond_false];exact⟨by rw [q1],q2⟩
theorem new_rel{n:Int}(h0:0 < n)(h1:n < 8000):Rel (new n) (rnew n):=by
 have get:∀ i:Nat,i < n.toNat→(rnew n).s.getD i []=[List.replicate 64 0,[],[0],[0]]:=fun i hi=>by
  simp only [rnew]
  rw [List.getD_eq_getElem?_getD,List.getElem?_replicate,if_pos hi];rfl
 exact {
  n:=by simp [new,rnew]
  small:=by simp only [new];omega
  len:=by simp [new]
  text:=fun i hi=>by
   have hi':i < n.toNat:=hi
   rw [get i hi']
   refine List.ext_getElem? fun k=>?_
   rw [sec_get]
   simp only [new,fT,List.getD_cons_zero,List.getElem?_replicate]
   by_cases hk:k < 64
   ·rw [if_pos hk,if_pos hk,if_pos (by omega)]
   ·rw [if_neg hk,if_neg hk]
  keys:=fun e he=>by simp [new] at he
  nd:=List.nodup_nil
  dirty:=fun i hi=>by rw [get i hi];rfl
  next:=fun i hi hd=>by rw [get i hi] at hd;cases hd
  wkeys:=fun e he=>by simp [new] at he
  wnd:=List.nodup_nil
  worn:=fun i hi=>by rw [get i hi];rfl
  off:=rfl
  left:=.inl rfl
  lo:=by show(-9223372036854775808:Int) ≤ -1;decide
  hi:=by show(-1:Int)≤9223372036854775807;decide }
theorem mountAll_n(picks:Li):∀ (l:Li) (k:Nat) (d:D),(mountAll picks l k d).n=d.n
 | [],_,_=>rfl
 | i :: l,k,d=>by rw [mountAll,mountAll_n picks l];rfl
theorem foldl_n(l:Li):∀ d:D,(l.foldl (fun e i=>settle e i 64) d).n=d.n:=by
 induction l with
 | nil=>intro d;rfl
 | cons i l ih=>intro d;rw [List.foldl_cons,ih];rfl
theorem op_n(d:D)(k i b:Int)(t p:Li):(op d k i b t p).1.n=d.n:=by
 have hs:=(step_same d).1
 simp only [op]
 cases (k==1)
 ·cases (k==2)
  ·cases (k==3)
   ·cases (k==4)
    ·cases (k==5)
     ·cases (k==6)
      ·cases (k==7)
       ·rfl
       ·simp only [cond_true,cond_false,wear]
        cases decide (i < 0) <;> cases decide (i≥(d.n:Int)) <;> rfl
      ·simp only [cond_true,cond_false,rot]
       cases decide (i < 0) <;> cases decide (i≥(d.n:Int)) <;> cases decide (b < 0) <;> cases decide (b≥512) <;> rfl
     ·exact mountAll_n p _ 0 d
    ·rfl
   ·simp only [cond_true,cond_false,flush]
    cases (check d 0 != 0)
    ·cases ((step d).2 != 0)
     ·exact(foldl_n _ _).trans hs
     ·exact hs
    ·rfl
  ·rfl
 ·simp only [cond_true,cond_false,write]
  cases (check d i != 0)
  ·cases (((text t).length:Int) != 64)
   ·cases ((step d).2 != 0) <;> exact hs
   ·rfl
  ·rfl
def opx(xs:List (List Li))(k:Nat)(d:D):D×List Int×Int:=op d (((xs.getD k []).getD 0 []).getD 0 0) (((xs.getD k []).getD 1 []).getD 0 0) (((xs.getD k []).getD 2 []).getD 0 0) ((xs.getD k []).getD 3 []) ((xs.getD k []).getD 4 [])
def ropx(xs:List (List Li))(k:Nat)(r:R):R×List Int×Int:=rop r (((xs.getD k []).getD 0 []).getD 0 0) (((xs.getD k []).getD 1 []).getD 0 0) (((xs.getD k []).getD 2 []).getD 0 0) ((xs.getD k []).getD 3 []) ((xs.getD k []).getD 4 [])
def dAt(xs:List (List Li)):Nat→D→D
 | 0,d=>d
 | k+1,d=>(opx xs k (dAt xs k d)).1
def rAt(xs:List (List Li)):Nat→R→R
 | 0,r=>r
 | k+1,r=>(ropx xs k (rAt xs k r)).1
theorem Rel.run{d:D}{r:R}(h:Rel d r)(h0:0 < d.n){xs:List (List Li)}{n:Nat}
  (hx:∀ k,k < n → -9223372036854775808≤((xs.getD k []).getD 1 []).getD 0 0∧((xs.getD k []).getD 1 []).getD 0 0≤9223372036854775807):∀ k,k≤n→Rel (dAt xs k d) (rAt xs k r)∧0 < (dAt xs k d).n
 | 0,_=>⟨h,h0⟩
 | k+1,hk=>by
  obtain⟨h1,h2⟩:=h.run h0 hx k (by omega)
  obtain⟨q1,q2⟩:=hx k (by omega)
  have h3:=h1.op h2 (((xs.getD k []).getD 0 []).getD 0 0) (((xs.getD k []).getD 1 []).getD 0 0) (((xs.getD k []).getD 2 []).getD 0 0) ((xs.getD k []).getD 3 []) ((xs.getD k []).getD 4 []) q1 q2
  refine⟨h3.2,?_⟩
  have:(opx xs k (dAt xs k d)).1.n=(dAt xs k d).n:=op_n _ _ _ _ _ _
  simp only [dAt];omega
end Go.Dk
end
section
/- What the functions of package journal compute, in plain terms. -/
namespace Go.Jr
open Go Go.Am
def count(n:Int):Int:=cond (decide (n < 0∨8000 < n)) 0 (if (n+47) / 48 > 1 then (n+47) / 48 else 1)
def small(n:Int)(k:Nat):List Int:=(List.range k).map fun i=>n / 256^i%256
def num(b:Li):Int:=b.foldr (fun x n=>256*n+x) 0
def put(b:Li)(o:Nat)(n:Int):Nat→List Int
 | 0=>b
 | k+1=>put (b.set o (n%256)) (o+1) (n / 256) k
def rest(t:Li)(k:Nat):List Int:=t.drop (48*k)
def fill(r:Li):List Int:=r.take 48++List.replicate (48-r.length) 0
def front(number:Int)(t:Li)(k:Nat):List Int:=small number 4++small (k:Int) 2++small ((rest t k).length:Int) 2++fill (rest t k)
def checked(b:Li):List Int:=b++(Sha.hash b).take 8
def sector(number:Int)(t:Li)(k:Nat):List Int:=checked (front number t k)
def sectors(number:Int)(t:Li):List Li:=(List.range (count t.length).toNat).map (sector number t)
def pack(number:Int)(t:Li):List Li×Int:=cond (decide (number < 1∨4096 < number)) ([],1) (cond (decide ((8000:Int) < t.length)) ([],4) (sectors number t,0))
structure Part where
 number:Int
 part:Int
 left:Int
 payload:List Int
 ok:Bool
def Part.zero:Part:=⟨0,0,0,[],false⟩
def b2i(b:Bool):Int:=cond b 1 0
def Part.row(p:Part):List Li:=[[p.number],[p.part],[p.left],p.payload,[b2i p.ok]]
def fNum(s:Li):Int:=num (s.take 4)
def fPart(s:Li):Int:=num ((s.drop 4).take 2)
def fLeft(s:Li):Int:=num ((s.drop 6).take 2)
def fN(s:Li):Nat:=min (fLeft s).toNat 48
def isGood(s:Li):Bool:=decide (s.length=64)&&((Sha.hash (s.take 56)).take 8==s.drop 56)&&decide (1≤fNum s∧fNum s≤4096∧48*fPart s+fLeft s≤8000∧¬ (fLeft s < 1∧0 < fPart s)) &&
 ((s.drop (8+fN s)).take (48-fN s)==List.replicate (48-fN s) 0)
def unpack(s:Li):Part:=cond (isGood s) ⟨fNum s,fPart s,fLeft s,(s.drop 8).take (fN s),true⟩ Part.zero
def blank(s:Li):Bool:=s.all (· == 0)
structure J where
 nums:List Int
 texts:List Li
 bad:List Int
 next:Int
 fin:Int
 closed:Bool
def finOf(S:List Li):Nat→Int
 | 0=>0
 | k+1=>cond (blank (S.getD k [])) (finOf S k) ((k:Int)+1)
def badOf(S:List Li)(k:Nat):List Int:=((List.range k).filter fun i=>!blank (S.getD i []) && !(unpack (S.getD i [])).ok).map fun i:Nat=>(i:Int)
def nextOf(S:List Li):Nat→Int
 | 0=>1
 | k+1=>if (unpack (S.getD k [])).number+1 > nextOf S k then (unpack (S.getD k [])).number+1 else nextOf S k
def pt(l:List Part)(k:Nat):Part:=l.getD k Part.zero
def recN(l:List Part)(k:Nat):Nat:=(count (pt l k).left).toNat
def partOk(l:List Part)(k i:Nat):Bool:=(pt l (k+i)).ok&&decide ((pt l (k+i)).number=(pt l k).number∧(pt l (k+i)).part=(i:Int)∧(pt l (k+i)).left=(pt l k).left-48*i)
def recOk(l:List Part)(k:Nat):Bool:=(pt l k).ok&&decide ((pt l k).part=0∧k+recN l k≤l.length)&&(List.range (recN l k)).all (partOk l k)
def recText(l:List Part)(k n:Nat):List Int:=(List.range n).flatMap fun i=>(pt l (k+i)).payload
def put1(a:List Int×List Li)(n:Int)(t:Li):List Int×List Li:=cond (a.1.contains n) a (a.1++[n],a.2++[t])
def collect(l:List Part):Nat→Nat→List Int×List Li→List Int×List Li
 | 0,_,a=>a
 | f+1,k,a=>cond (decide (k < l.length)) (cond (recOk l k) (collect l f (k+recN l k) (put1 a (pt l k).number (recText l k (recN l k)))) (collect l f (k+1) a)) a
def openS(S:List Li):J:=
 ⟨(collect (S.map unpack) S.length 0 ([],[])).1,(collect (S.map unpack) S.length 0 ([],[])).2,badOf S S.length,nextOf S S.length,finOf S S.length,false⟩
def damaged(j:J):List Int:=((List.range (j.next-1).toNat).filter fun i:Nat=>!j.nums.contains ((i:Int)+1)).map fun i:Nat=>(i:Int)+1
structure Dev (δ:Type) where
 n:δ→Int
 write:δ→Int→List Int→δ×Int
 flush:δ→δ×Int
 read:δ→Int→List Int×Int
def writes{δ:Type}(V:Dev δ)(at_:Int)(L:List Li):Nat→δ→δ×Int
 | 0,d=>(d,0)
 | k+1,d=>cond ((writes V at_ L k d).2 != 0) (writes V at_ L k d) (V.write (writes V at_ L k d).1 (at_+k) (L.getD k []))
def reads{δ:Type}(V:Dev δ)(d:δ)(at_:Int)(L:List Li):Nat→Bool×Int
 | 0=>(true,0)
 | k+1=>cond ((reads V d at_ L k).2 != 0) (reads V d at_ L k) (cond ((V.read d (at_+k)).2 != 0) (false,(V.read d (at_+k)).2) ((reads V d at_ L k).1&&(L.getD k []==(V.read d (at_+k)).1),0))
def writeAll{δ:Type}(V:Dev δ)(d:δ)(at_:Int)(L:List Li):δ×Int×Bool:=
 cond ((writes V at_ L L.length d).2 != 0) ((writes V at_ L L.length d).1,(writes V at_ L L.length d).2,false)
  (cond ((V.flush (writes V at_ L L.length d).1).2 != 0) ((V.flush (writes V at_ L L.length d).1).1,(V.flush (writes V at_ L L.length d).1).2,false)
   ((V.flush (writes V at_ L L.length d).1).1,(reads V (V.flush (writes V at_ L L.length d).1).1 at_ L L.length).2,(reads V (V.flush (writes V at_ L L.length d).1).1 at_ L L.length).1))
def append{δ:Type}(V:Dev δ)(d:δ)(j:J)(t:Li):δ×J×Int×Int:=
 cond j.closed (d,j,0,22) (cond (decide ((8000:Int) < t.length)) (d,j,0,4) (cond (decide (j.next > 4096)) (d,j,0,4) (cond (decide (count t.length > V.n d-j.fin)) (d,j,0,21)
  (let r:=writeAll V d j.fin (sectors j.next t)
   let k:J:={ j with next:=j.next+1,fin:=j.fin+count t.length }
   cond (r.2.1 != 0) (r.1,{ k with closed:=true },0,r.2.1) (cond (!r.2.2) (r.1,k,0,23) (r.1,{ k with nums:=k.nums++[j.next],texts:=k.texts++[t] },j.next,0))))))
theorem small_len(n:Int)(k:Nat):(small n k).length=k:=by simp [small]
theorem small_succ(n:Int)(k:Nat):small n (k+1)=n%256 :: small (n / 256) k:=by
 simp only [small,List.range_succ_eq_map,List.map_cons,List.map_map,Int.pow_zero,Int.ediv_one]
 congr 1
 refine List.map_congr_left fun i _=>?_
 simp only [Function.comp]
 rw [Int.ediv_ediv_of_nonneg (by decide),Int.pow_succ,Int.mul_comm]
theorem num_cons(x:Int)(b:Li):num (x :: b)=256*num b+x:=rfl
theorem num_bound:∀ (b:Li),(∀ x∈b,0≤x∧x < 256)→0≤num b∧num b < 256^b.length
 | [],_=>⟨Int.le_refl _,by simp [num]⟩
 | x :: b,h=>by
  obtain⟨h1,h2⟩:=num_bound b fun y hy=>h y (.tail _ hy)
  have:=h x (.head _)
  rw [num_cons,List.length_cons,Int.pow_succ]
  omega
theorem num_small:∀ (k:Nat) (n:Int),0≤n→n < 256^k→num (small n k)=n
 | 0,n,h,h2=>by simp [small,num] at *;omega
 | k+1,n,h,h2=>by
  rw [small_succ,num_cons,num_small k (n / 256) (by omega) (by rw [Int.pow_succ] at h2;omega)];omega
theorem small_byte(n:Int)(k:Nat):∀ x∈small n k,0≤x∧x < 256:=fun x hx=>by
 simp only [small,List.mem_map] at hx
 obtain⟨i,_,rfl⟩:=hx
 omega
theorem fill_len(r:Li):(fill r).length=48:=by simp only [fill,List.length_append,List.length_take,List.length_replicate];omega
theorem front_len(number:Int)(t:Li)(k:Nat):(front number t k).length=56:=by simp only [front,List.length_append,small_len,fill_len]
theorem hash8(b:Li):((Sha.hash b).take 8).length=8:=by rw [List.length_take,Sha.hash_len];rfl
theorem checked_len(b:Li):(checked b).length=b.length+8:=by rw [checked,List.length_append,hash8]
theorem sector_len(number:Int)(t:Li)(k:Nat):(sector number t k).length=64:=by rw [sector,checked_len,front_len]
theorem sectors_len(number:Int)(t:Li):(sectors number t).length=(count t.length).toNat:=by simp [sectors]
theorem count_ok{n:Nat}(h:n≤8000):1≤count n∧(n:Int)≤48*count n∧48*(count n-1)≤n∧count n≤167∧(0 < n→48*(count n-1) < n):=by
 have e:count n=if ((n:Int)+47) / 48 > 1 then ((n:Int)+47) / 48 else 1:=by rw [count,decide_eq_false (by omega)];rfl
 rw [e]
 split <;> omega
theorem take_front4(number:Int)(t:Li)(k:Nat)(b:Li):(front number t k++b).take 4=small number 4:=by
 simp only [front,List.append_assoc]
 exact List.take_left' (small_len _ _)
theorem drop_front4(number:Int)(t:Li)(k:Nat)(b:Li):((front number t k++b).drop 4).take 2=small k 2:=by
 simp only [front,List.append_assoc]
 rw [List.drop_left' (small_len _ _)]
 exact List.take_left' (small_len _ _)
theorem drop_front6(number:Int)(t:Li)(k:Nat)(b:Li):((front number t k++b).drop 6).take 2=small ((rest t k).length:Int) 2:=by
 have e:(front number t k++b)=(small number 4++small k 2)++(small ((rest t k).length:Int) 2++(fill (rest t k)++b)):=by simp only [front,List.append_assoc]
 rw [e,List.drop_left' (by rw [List.length_append,small_len,small_len])]
 exact List.take_left' (small_len _ _)
theorem drop_front8(number:Int)(t:Li)(k:Nat)(b:Li):(front number t k++b).drop 8=fill (rest t k)++b:=by
 have e:(front number t k++b)=(small number 4++small k 2++small ((rest t k).length:Int) 2)++(fill (rest t k)++b):=by simp only [front,List.append_assoc]
 rw [e,List.drop_left' (by simp only [List.length_append,small_len])]
theorem rest_len(t:Li)(k:Nat):(rest t k).length=t.length-48*k:=by simp [rest]
theorem unpack_sector{number:Int}{t:List Int}{k:Nat}(h1:1≤number)(h2:number≤4096)(ht:t.length≤8000)(hk:(k:Int) < count t.length):
  unpack (sector number t k)=⟨number,k,(t.length:Int)-48*k,(rest t k).take 48,true⟩:=by
 obtain⟨c1,c2,c3,c4,c5⟩:=count_ok ht
 have hr:=rest_len t k
 have hk8:48*k≤t.length:=by omega
 have hk7:k < 167:=by omega
 have f1:fNum (sector number t k)=number:=by
  rw [fNum,sector,checked,take_front4,num_small 4 number (by omega) (by omega)]
 have f2:fPart (sector number t k)=k:=by
  rw [fPart,sector,checked,drop_front4,num_small 2 (k:Int) (by omega) (by omega)]
 have f3:fLeft (sector number t k)=(t.length:Int)-48*k:=by
  rw [fLeft,sector,checked,drop_front6,num_small 2 _ (by omega) (by omega)];omega
 have f4:fN (sector number t k)=min (rest t k).length 48:=by rw [fN,f3,hr];congr 1;omega
 have f5:(sector number t k).drop 8=fill (rest t k)++(Sha.hash (front number t k)).take 8:=by rw [sector,checked,drop_front8]
 have f6:((sector number t k).drop 8).take (fN (sector number t k))=(rest t k).take 48:=by
  rw [f5,f4,List.take_append_of_le_length (by rw [fill_len];omega),fill]
  rcases Nat.le_total (rest t k).length 48 with h | h
  ·rw [Nat.min_eq_left h,List.take_of_length_le h]
   exact List.take_left' rfl
  ·rw [Nat.min_eq_right h,show 48-(rest t k).length=0 by omega,List.replicate_zero,List.append_nil,List.take_take,Nat.min_self]
 have f7:((sector number t k).drop (8+fN (sector number t k))).take (48-fN (sector number t k))=List.replicate (48-fN (sector number t k)) 0:=by
  rw [← List.drop_drop,f5,f4]
  rcases Nat.le_total (rest t k).length 48 with h | h
  ·rw [Nat.min_eq_left h,fill,List.take_of_length_le h,List.append_assoc,List.drop_left' rfl]
   exact List.take_left' (by simp)
  ·rw [Nat.min_eq_right h];simp
 have f8:(Sha.hash ((sector number t k).take 56)).take 8=(sector number t k).drop 56:=by
  rw [sector,checked,List.take_left' (front_len _ _ _),List.drop_left' (front_len _ _ _)]
 have hg:isGood (sector number t k)=true:=by
  simp only [isGood,Bool.and_eq_true,decide_eq_true_eq,beq_iff_eq]
  refine⟨⟨⟨sector_len _ _ _,f8⟩,?_⟩,f7⟩
  rw [f1,f2,f3]
  omega
 rw [unpack,hg,cond_true,f1,f2,f3,f6]
theorem unpack_not{s:List Int}(h:s.length≠64∨(Sha.hash (s.take 56)).take 8≠s.drop 56∨¬ (1≤fNum s∧fNum s≤4096∧48*fPart s+fLeft s≤8000∧¬ (fLeft s < 1∧0 < fPart s)) ∨
  (s.drop (8+fN s)).take (48-fN s)≠List.replicate (48-fN s) 0):unpack s=Part.zero:=by
 have:isGood s=false:=by
  cases hg:isGood s with
  | false=>rfl
  | true=>
   simp only [isGood,Bool.and_eq_true,decide_eq_true_eq,beq_iff_eq] at hg
   obtain⟨⟨⟨h1,h2⟩,h3⟩,h4⟩:=hg
   rcases h with h | h | h | h
   ·exact absurd h1 h
   ·exact absurd h2 h
   ·exact absurd h3 h
   ·exact absurd h4 h
 rw [unpack,this];rfl
theorem unpack_is{s:List Int}(h1:s.length=64)(h2:(Sha.hash (s.take 56)).take 8=s.drop 56)(h3:1≤fNum s∧fNum s≤4096∧48*fPart s+fLeft s≤8000∧¬ (fLeft s < 1∧0 < fPart s))
  (h4:(s.drop (8+fN s)).take (48-fN s)=List.replicate (48-fN s) 0):unpack s=⟨fNum s,fPart s,fLeft s,(s.drop 8).take (fN s),true⟩:=by
 have:isGood s=true:=by
  simp only [isGood,Bool.and_eq_true,decide_eq_true_eq,beq_iff_eq]
  exact⟨⟨⟨h1,h2⟩,h3⟩,h4⟩
 rw [unpack,this];rfl
theorem flat_text(t:Li):∀ n:Nat,((List.range n).flatMap fun k=>(rest t k).take 48)=t.take (48*n)
 | 0=>by simp
 | n+1=>by
  rw [List.range_succ,List.flatMap_append,flat_text t n,List.flatMap_cons,List.flatMap_nil,List.append_nil,rest,Nat.mul_succ,List.take_add]
theorem text_all{t:List Int}(ht:t.length≤8000):((List.range (count t.length).toNat).flatMap fun k=>(rest t k).take 48)=t:=by
 obtain⟨c1,c2,c3,c4,c5⟩:=count_ok ht
 rw [flat_text,List.take_of_length_le (by omega)]
theorem sector_blank{number:Int}{t:List Int}{k:Nat}(h1:1≤number)(h2:number≤4096):blank (sector number t k)=false:=by
 cases hb:blank (sector number t k) with
 | false=>rfl
 | true=>
  exfalso
  have h0:∀ x∈small number 4,x=0:=fun x hx=>by
   have:=List.all_eq_true.1 hb x (by rw [sector,checked,← List.take_append_drop 4 (front number t k++_),take_front4];exact List.mem_append_left _ hx)
   simpa using this
  have hz:∀ l:List Int,(∀ x∈l,x=0)→num l=0:=fun l=>by
   induction l with
   | nil=>intro _;rfl
   | cons x l ih=>intro h;rw [num_cons,ih fun y hy=>h y (.tail _ hy),h x (.head _)];rfl
  have:=hz _ h0
  rw [num_small 4 number (by omega) (by omega)] at this
  omega
end Go.Jr

namespace Go.Am
abbrev jB(a k b c d:Nat)(x f:Int)(q:Bool):Blk:=.cells 7 (.segs (.cons 1 (.one (.ptr a 0 k 0 0 0 k)) (.cons 1 (.one (.own b 0 1)) (.cons 1 (.one (.own c 0 1)) (.cons 1 (.one (.own d 0 1)) (.cons 1 (.one (.int .i64 x)) (.cons 1 (.one (.int .i64 f)) (.cons 1 (.one (.bool q)) .nil)))))))) true
abbrev jE(a k b c d:Nat)(e:Jr.J):Blk:=jB a k b c d e.next e.fin e.closed
end Go.Am
end
section
namespace Go.Am
open Go Go.Proofs
abbrev sp37:List (Nat×Md):=[(0,.plain),(1,.plain)]
abbrev sp39:List (Nat×Md):=[(0,.plain),(1,.plain),(5,.plain)]
abbrev Ty24:=(List Li)×(List Li)
abbrev Ty25:=(List Li)×(List Li)×Int
def lV11:List CEnt:=[]
def V11:Env:=mkEnv T36 G36 lV11
noncomputable abbrev Kf13:=kFin V11 none (Tryd.f11).results.toList
theorem eV11:EOk Tryd.prog V11:=eok_mk (by exact trivial)
def Af11(F:Nat):Cuts:={ F:=F,at_:=fun _=>none,join:=fun _=>none }
def ef11_a:Int→St:=fun a0=>⟨[(0,.int .i64 a0)],[],0,14,0⟩
def f11_1(F:Nat):Int→Rz:=fun a0=>(cond (decide (a0 < (0:Int))) (some ((.int .i64 0),[])) (cond (decide (a0 > (8000:Int))) (some ((.int .i64 0),[])) (some ((.int .i64 (if (IntKind.i64.wrap (Int.tdiv (IntKind.i64.wrap ((IntKind.i64.wrap (a0+(48:Int)))-(1:Int))) (48:Int))) > (1:Int) then (IntKind.i64.wrap (Int.tdiv (IntKind.i64.wrap ((IntKind.i64.wrap (a0+(48:Int)))-(1:Int))) (48:Int))) else (1:Int))),[]))))
theorem f11_1_eq(F:Nat):∀ v,aexec V11 (Af11 F) (sub (bodyOf Tryd.f11) []) (ef11_a v) Kf13=f11_1 F v:=by
 intro a0;kernel_rfl
def f11(F:Nat):Int→Rz:=f11_1 F
theorem f11_body(F:Nat)(a0:Int):abody V11 (Af11 F) Tryd.f11 [(.int .i64 a0)] []=f11 F a0:=
 (abody_in (c:=(sub (bodyOf Tryd.f11) [])) (by kernel_rfl) (s:=ef11_a a0) (by kernel_rfl)).trans (f11_1_eq F a0)
def r11:CRun:=fun X H=>match X,H with
 | [(.int .i64 a0)],[]=>some (true,(.int .i64 (Jr.count a0)),[])
 | _,_=>none
theorem s11(a0:Int)(h0:okV (.int .i64 a0)):∃ F,f11 F a0=some ((.int .i64 (Jr.count a0)),[]):=by
 have hw:=h0
 refine⟨0,?_⟩
 simp only [f11,f11_1]
 by_cases h1:a0 < 0
 ·rw [cond_pos h1,Jr.count,cond_pos (.inl h1)]
 by_cases h2:a0 > 8000
 ·rw [cond_neg h1,cond_pos h2,Jr.count,cond_pos (.inr h2)]
 rw [cond_neg h1,cond_neg h2,Jr.count,cond_neg (by omega),i64w (x:=a0+48) (by omega) (by omega),i64w (x:=a0+48-1) (by omega) (by omega),tdiv_nn (by omega),i64w (by omega) (by omega),show a0+48-1=a0+47 by omega]
theorem c11:CallOk Tryd.prog G36 11 r11:=callOk_of mixed tys eV11 Tryd.func11 (by kernel_rfl) (c:=sub (bodyOf Tryd.f11) []) (by kernel_rfl) (by
 intro X H r H' h hX hH
 unfold r11 at h;split at h <;> try contradiction
 ·obtain⟨hp,rfl,rfl⟩:=inj3 h
  obtain⟨F,hF⟩:=s11 _ (hX _ hm0)
  exact⟨Af11 F,(f11_body F _).trans hF⟩)
def f12_1(F:Nat):Int→Rz:=fun a0=>(cond (decide (a0 < (0:Int))) (some ((.int .i64 0),[])) (cond (decide (a0 > (8000:Int))) (some ((.int .i64 0),[])) (cond (a0==(0:Int)) (some ((.int .i64 1),[])) (some ((.int .i64 (IntKind.i64.wrap (Int.tdiv (IntKind.i64.wrap (a0+(47:Int))) (48:Int)))),[])))))
def f12(F:Nat):Int→Rz:=f12_1 F
def lV46:List CEnt:=[]
def V46:Env:=mkEnv T36 G36 lV46
noncomputable abbrev Kf15:=kFin V46 none (Tryd.f46).results.toList
theorem eV46:EOk Tryd.prog V46:=eok_mk (by exact trivial)
def Af46a(F:Nat):Cuts:={ F:=F+6,at_:=fun _=>none,join:=fun _=>none }
def ef46a_a:Li×Int→St:=fun (a0,a1)=>⟨[(0,.sl 0 0 64 0 4 1),(1,.int .i64 a1)],[(0,(.cells 64 (.rI .u8 a0) true))],1,18,1⟩
def f46a_1(F:Nat):Li×Int→Rz:=fun (a0,a1)=>(some ((.tup .nil),[(.cells 64 (.rI .u8 ((((a0.set 0 (IntKind.u8.wrap a1)).set 1 (IntKind.u8.wrap (Int.fdiv a1 (2^8)))).set 2 (IntKind.u8.wrap (Int.fdiv (Int.fdiv a1 (2^8)) (2^8)))).set 3 (IntKind.u8.wrap (Int.fdiv (Int.fdiv (Int.fdiv a1 (2^8)) (2^8)) (2^8))))) true)]))
theorem f46a_1_eq(F:Nat):∀ v,aexec V46 (Af46a F) (sub (bodyOf Tryd.f46) []) (ef46a_a v) Kf15=f46a_1 F v:=by
 rintro⟨a0,a1⟩;kernel_rfl
def f46a(F:Nat):Li×Int→Rz:=f46a_1 F
theorem f46a_body(F:Nat)(a0:Li)(a1:Int):abody V46 (Af46a F) Tryd.f46 [(.sl 0 0 64 0 4 1),.int .i64 a1] [(.cells 64 (.rI .u8 a0) true)]=f46a F (a0,a1):=
 (abody_in (by kernel_rfl) (by kernel_rfl)).trans (f46a_1_eq F (a0,a1))
def Af46b(F:Nat):Cuts:={ F:=F+6,at_:=fun _=>none,join:=fun _=>none }
def ef46b_a:Li×Int→St:=fun (a0,a1)=>⟨[(0,.sl 0 0 64 4 2 1),(1,.int .i64 a1)],[(0,(.cells 64 (.rI .u8 a0) true))],1,18,1⟩
def f46b_1(F:Nat):Li×Int→Rz:=fun (a0,a1)=>(some ((.tup .nil),[(.cells 64 (.rI .u8 ((a0.set 4 (IntKind.u8.wrap a1)).set 5 (IntKind.u8.wrap (Int.fdiv a1 (2^8))))) true)]))
theorem f46b_1_eq(F:Nat):∀ v,aexec V46 (Af46b F) (sub (bodyOf Tryd.f46) []) (ef46b_a v) Kf15=f46b_1 F v:=by
 rintro⟨a0,a1⟩;kernel_rfl
def f46b(F:Nat):Li×Int→Rz:=f46b_1 F
theorem f46b_body(F:Nat)(a0:Li)(a1:Int):abody V46 (Af46b F) Tryd.f46 [(.sl 0 0 64 4 2 1),.int .i64 a1] [(.cells 64 (.rI .u8 a0) true)]=f46b F (a0,a1):=
 (abody_in (by kernel_rfl) (by kernel_rfl)).trans (f46b_1_eq F (a0,a1))
def Af46c(F:Nat):Cuts:={ F:=F+6,at_:=fun _=>none,join:=fun _=>none }
def ef46c_a:Li×Int→St:=fun (a0,a1)=>⟨[(0,.sl 0 0 64 6 2 1),(1,.int .i64 a1)],[(0,(.cells 64 (.rI .u8 a0) true))],1,18,1⟩
def f46c_1(F:Nat):Li×Int→Rz:=fun (a0,a1)=>(some ((.tup .nil),[(.cells 64 (.rI .u8 ((a0.set 6 (IntKind.u8.wrap a1)).set 7 (IntKind.u8.wrap (Int.fdiv a1 (2^8))))) true)]))
theorem f46c_1_eq(F:Nat):∀ v,aexec V46 (Af46c F) (sub (bodyOf Tryd.f46) []) (ef46c_a v) Kf15=f46c_1 F v:=by
 rintro⟨a0,a1⟩;kernel_rfl
def f46c(F:Nat):Li×Int→Rz:=f46c_1 F
theorem f46c_body(F:Nat)(a0:Li)(a1:Int):abody V46 (Af46c F) Tryd.f46 [(.sl 0 0 64 6 2 1),.int .i64 a1] [(.cells 64 (.rI .u8 a0) true)]=f46c F (a0,a1):=
 (abody_in (by kernel_rfl) (by kernel_rfl)).trans (f46c_1_eq F (a0,a1))
def r46:CRun:=fun X H=>match X,H with
 | [(.sl 0 0 64 0 4 1),.int .i64 a1],[(.cells 64 (.rI .u8 a0) true)]=>some ((decide (0≤a1)),.tup .nil,[(.cells 64 (.rI .u8 (Jr.put a0 0 a1 4)) true)])
 | [(.sl 0 0 64 4 2 1),.int .i64 a1],[(.cells 64 (.rI .u8 a0) true)]=>some ((decide (0≤a1)),.tup .nil,[(.cells 64 (.rI .u8 (Jr.put a0 4 a1 2)) true)])
 | [(.sl 0 0 64 6 2 1),.int .i64 a1],[(.cells 64 (.rI .u8 a0) true)]=>some ((decide (0≤a1)),.tup .nil,[(.cells 64 (.rI .u8 (Jr.put a0 6 a1 2)) true)])
 | _,_=>none
theorem s46a(a0:Li)(a1:Int)(hp:((decide (0≤a1)))=true)(h1:okV (.int .i64 a1))(k0:okB (.cells 64 (.rI .u8 a0) true)):∃ F,f46a F (a0,a1)=some ((.tup .nil),[(.cells 64 (.rI .u8 (Jr.put a0 0 a1 4)) true)]):=by
 refine⟨0,?_⟩
 simp only [f46a,f46a_1,u8mod,show((2:Int)^8)=256 from rfl,Int.fdiv_eq_ediv_of_nonneg _ (show(0:Int)≤256 by decide)]
 rfl
theorem s46b(a0:Li)(a1:Int)(hp:((decide (0≤a1)))=true)(h1:okV (.int .i64 a1))(k0:okB (.cells 64 (.rI .u8 a0) true)):∃ F,f46b F (a0,a1)=some ((.tup .nil),[(.cells 64 (.rI .u8 (Jr.put a0 4 a1 2)) true)]):=by
 refine⟨0,?_⟩
 simp only [f46b,f46b_1,u8mod,show((2:Int)^8)=256 from rfl,Int.fdiv_eq_ediv_of_nonneg _ (show(0:Int)≤256 by decide)]
 rfl
theorem s46c(a0:Li)(a1:Int)(hp:((decide (0≤a1)))=true)(h1:okV (.int .i64 a1))(k0:okB (.cells 64 (.rI .u8 a0) true)):∃ F,f46c F (a0,a1)=some ((.tup .nil),[(.cells 64 (.rI .u8 (Jr.put a0 6 a1 2)) true)]):=by
 refine⟨0,?_⟩
 simp only [f46c,f46c_1,u8mod,show((2:Int)^8)=256 from rfl,Int.fdiv_eq_ediv_of_nonneg _ (show(0:Int)≤256 by decide)]
 rfl
theorem c46:CallOk Tryd.prog G36 46 r46:=callOk_of mixed tys eV46 Tryd.func46 (by kernel_rfl) (c:=sub (bodyOf Tryd.f46) []) (by kernel_rfl) (by
 intro X H r H' h hX hH
 unfold r46 at h;split at h <;> try contradiction
 ·obtain⟨hp,rfl,rfl⟩:=inj3 h
  obtain⟨F,hF⟩:=s46a _ _ hp (hX _ hm1) (hH _ hm0)
  exact⟨Af46a F,(f46a_body F _ _).trans hF⟩
 ·obtain⟨hp,rfl,rfl⟩:=inj3 h
  obtain⟨F,hF⟩:=s46b _ _ hp (hX _ hm1) (hH _ hm0)
  exact⟨Af46b F,(f46b_body F _ _).trans hF⟩
 ·obtain⟨hp,rfl,rfl⟩:=inj3 h
  obtain⟨F,hF⟩:=s46c _ _ hp (hX _ hm1) (hH _ hm0)
  exact⟨Af46c F,(f46c_body F _ _).trans hF⟩)
def f31_1(F:Nat)(kj1:Li→Rz):Li→Rz:=fun a0=>(kj1 a0)
def f31_2(F:Nat)(kj2:Li×Int→Rz):Li→Rz:=fun t0=>(kj2 (t0,(0:Int)))
def f31_3(F:Nat)(kj3:Li×Int×Int→Rz)(kj4:Int→Rz):Li×Int→Rz:=fun (t0,t3)=>(kj3 (t0,t3,(IntKind.i64.wrap ((↑t0.length:Int)-(1:Int)))))
def f31_4(F:Nat)(kl1:Li×Int×Int→Rz)(kj4:Int→Rz):Li×Int×Int→Rz:=fun (t0,t3,t4)=>(cond (decide (t4≥(0:Int))) (cond ((decide (0≤t4))&&(decide (t4 < (↑t0.length:Int)))) (kl1 (t0,(IntKind.i64.wrap ((IntKind.i64.wrap ((256:Int)*t3))+(IntKind.i64.wrap (t0.getD (Int.toNat t4) 0)))),(IntKind.i64.wrap (t4-(1:Int))))) none) (kj4 t3))
def f31_5_i:Li×Int×Int→Li×Int×Int:=fun (t0,t3,t4)=>(t0,t3,t4)
def f31_5(F:Nat)(kj4:Int→Rz):Li×Int×Int→Rz:=fun v=>loopN (fun k=>f31_4 F k kj4) F (f31_5_i v)
def f31_6(F:Nat)(kj4:Int→Rz):Li×Int×Int→Rz:=f31_5 F kj4
def f31_7(F:Nat)(kj4:Int→Rz):Li×Int→Rz:=fun v=>f31_3 F (f31_6 F kj4) kj4 v
def f31_8(F:Nat):Int→Rz:=fun t3=>(some ((.int .i64 t3),[]))
def f31_9(F:Nat):Li×Int→Rz:=fun v=>f31_7 F (f31_8 F) v
def f31_10(F:Nat):Li→Rz:=fun v=>f31_2 F (f31_9 F) v
def f31_11(F:Nat):Li→Rz:=fun v=>f31_1 F (f31_10 F) v
def f31(F:Nat):Li→Rz:=f31_11 F
def lV50:List CEnt:=[]
def V50:Env:=mkEnv T36 G36 lV50
noncomputable abbrev Kf19:=kFin V50 none (Tryd.f50).results.toList
theorem eV50:EOk Tryd.prog V50:=eok_mk (by exact trivial)
def Af50(F:Nat):Cuts:={ F:=F,at_:=fun _=>none,join:=fun _=>none }
def ef50_a:Li×Li→St:=fun (a0,a1)=>⟨[(0,(.vs (.rI .u8 a0) 0 1)),(1,(.vs (.rI .u8 a1) 0 1))],[],0,10,0⟩
def f50_1(F:Nat):Li×Li→Rz:=fun (a0,a1)=>(some ((.bool ((a0:Li)==(a1:Li))),[]))
theorem f50_1_eq(F:Nat):∀ v,aexec V50 (Af50 F) (sub (bodyOf Tryd.f50) []) (ef50_a v) Kf19=f50_1 F v:=by
 rintro⟨a0,a1⟩;kernel_rfl
def f50(F:Nat):Li×Li→Rz:=f50_1 F
theorem f50_body(F:Nat)(a0 a1:Li):abody V50 (Af50 F) Tryd.f50 [(.vs (.rI .u8 a0) 0 1),(.vs (.rI .u8 a1) 0 1)] []=f50 F (a0,a1):=
 (abody_in (by kernel_rfl) (by kernel_rfl)).trans (f50_1_eq F (a0,a1))
def r50:CRun:=fun X H=>match X,H with
 | [(.vs (.rI .u8 a0) 0 1),(.vs (.rI .u8 a1) 0 1)],[]=>some (true,(.bool (a0==a1)),[])
 | _,_=>none
theorem s50(a0 a1:Li)(h0:okV (.vs (.rI .u8 a0) 0 1))(h1:okV (.vs (.rI .u8 a1) 0 1)):∃ F,f50 F (a0,a1)=some ((.bool (a0==a1)),[]):=by
 refine⟨0,?_⟩
 simp only [f50,f50_1]
theorem c50:CallOk Tryd.prog G36 50 r50:=callOk_of mixed tys eV50 Tryd.func50 (by kernel_rfl) (c:=sub (bodyOf Tryd.f50) []) (by kernel_rfl) (by
 intro X H r H' h hX hH
 unfold r50 at h;split at h <;> try contradiction
 ·obtain⟨hp,rfl,rfl⟩:=inj3 h
  obtain⟨F,hF⟩:=s50 _ _ (hX _ hm0) (hX _ hm1)
  exact⟨Af50 F,(f50_body F _ _).trans hF⟩)
def lV10:List CEnt:=[]
def V10:Env:=mkEnv T36 G36 lV10
noncomputable abbrev Kf20:=kFin V10 none (Tryd.f10).results.toList
theorem eV10:EOk Tryd.prog V10:=eok_mk (by exact trivial)
def Af10(F:Nat):Cuts:={ F:=F,at_:=fun n=>match n with | 4016=>some sp39 | _=>none,join:=fun n=>match n with | 1032=>some sp37 | 3024=>some sp37 | 4018=>some sp39 | 8003=>some [] | _=>none }
noncomputable abbrev XAf10(F:Nat){α:Type}:=@aexec α V10 (Af10 F)
def ef10_a:Ty24→St:=fun (a0,a1)=>⟨[(0,(.vs (.rS a0) 0 1)),(1,(.vs (.rS a1) 0 1))],[],0,26,0⟩
def ef10j1:Ty24→St:=fun (t0,t1)=>⟨[(0,(.vs (.rS t0) 0 1)),(1,(.vs (.rS t1) 0 1))],[],0,26,0⟩
def ef10j2:Ty24→St:=ef10j1
def ef10j3:Ty25→St:=fun (t0,t1,t5)=>⟨[(0,(.vs (.rS t0) 0 1)),(1,(.vs (.rS t1) 0 1)),(5,.int .i64 t5)],[],0,26,0⟩
def ef10l1:Ty25→St:=ef10j3
def ef10j4:Unit→St:=fun _=>⟨[],[],0,26,0⟩
def f10_1(F:Nat)(kj1:Ty24→Rz):Ty24→Rz:=fun (a0,a1)=>(kj1 (a0,a1))
theorem f10_1_eq(F:Nat)(Rj1:St→Rz):∀ v,XAf10 F (bp Tryd.f10 2) (ef10_a v) (kSeq (kc V10 Rj1 sp37) Kf20)=f10_1 F (Rj1∘ef10j1) v:=by
 rintro⟨a0,a1⟩;kernel_rfl
def f10_2(F:Nat)(kj2:Ty24→Rz):Ty24→Rz:=fun (t0,t1)=>(cond ((↑t0.length:Int) != (↑t1.length:Int)) (some ((.bool false),[])) (kj2 (t0,t1)))
theorem f10_2_eq(F:Nat)(Rj2:St→Rz):∀ v,XAf10 F (bp Tryd.f10 6) (ef10j1 v) (kSeq (kc V10 Rj2 sp37) Kf20)=f10_2 F (Rj2∘ef10j2) v:=by
 rintro⟨t0,t1⟩;kernel_rfl
def f10_3(F:Nat)(kj3:Ty25→Rz)(kj4:Unit→Rz):Ty24→Rz:=fun (t0,t1)=>(kj3 (t0,t1,(0:Int)))
theorem f10_3_eq(F:Nat)(Rj3 Rj4:St→Rz):∀ v,XAf10 F (bp Tryd.f10 28) (ef10j2 v) (kSeq (kc V10 Rj3 sp39) (kSeq (kc V10 Rj4 []) Kf20))=f10_3 F (Rj3∘ef10j3) (Rj4∘ef10j4) v:=by
 rintro⟨t0,t1⟩;kernel_rfl
def f10_4(F:Nat)(kl1:Ty25→Rz)(kj4:Unit→Rz):Ty25→Rz:=fun (t0,t1,t5)=>(cond (decide (t5 < (↑t0.length:Int))) (cond ((decide (0≤t5))&&(decide (t5 < (↑t0.length:Int)))) (cond ((decide (0≤t5))&&(decide (t5 < (↑t1.length:Int)))) (cond (!(((t0.getD (Int.toNat t5) []):Li)==((t1.getD (Int.toNat t5) []):Li))) (some ((.bool false),[])) (kl1 (t0,t1,(IntKind.i64.wrap (t5+(1:Int)))))) none) none) (kj4 ()))
theorem f10_4_eq(F:Nat)(Rl1 Rj4:St→Rz):∀ v,XAf10 F (bp Tryd.f10 116) (ef10l1 v) (kSeq (kc V10 Rl1 sp39) (kBlock 0 (kSeq (kc V10 Rj4 []) Kf20)))=f10_4 F (Rl1∘ef10l1) (Rj4∘ef10j4) v:=by
 rintro⟨t0,t1,t5⟩;kernel_rfl
def f10_5_i:Ty25→(List Li)×(List Li)×Int:=fun (t0,t1,t5)=>(t0,t1,t5)
def f10_5(F:Nat)(kj4:Unit→Rz):Ty25→Rz:=fun v=>loopN (fun k=>f10_4 F k kj4) F (f10_5_i v)
theorem f10_5_eq(F:Nat)(Rj4:St→Rz):∀ v,XAf10 F (bp Tryd.f10 58) (ef10j3 v) (kBlock 0 (kSeq (kc V10 Rj4 []) Kf20))=f10_5 F (Rj4∘ef10j4) v:=
 loop_cut (by kernel_rfl) (by kernel_rfl) ef10j3 ef10l1 _ f10_5_i (fun k=>f10_4 F k (Rj4∘ef10j4))
  (by rintro⟨t0,t1,t5⟩;kernel_rfl) (fun Rl1=>f10_4_eq F Rl1 Rj4)
def f10_6(F:Nat)(kj4:Unit→Rz):Ty25→Rz:=f10_5 F kj4
theorem f10_6_eq(F:Nat)(Rj4:St→Rz):∀ v,XAf10 F (bp Tryd.f10 29) (ef10j3 v) (kSeq (kc V10 Rj4 []) Kf20)=f10_6 F (Rj4∘ef10j4) v:=fun v=>
 (block_in  (by kernel_rfl) _ _).trans (f10_5_eq F Rj4 v)
def f10_7(F:Nat)(kj4:Unit→Rz):Ty24→Rz:=fun v=>f10_3 F (f10_6 F kj4) kj4 v
theorem f10_7_eq(F:Nat)(Rj4:St→Rz):∀ v,XAf10 F (bp Tryd.f10 14) (ef10j2 v) (kSeq (kc V10 Rj4 []) Kf20)=f10_7 F (Rj4∘ef10j4) v:=
 seq_cut (by kernel_rfl) (by kernel_rfl) ef10j2 ef10j3 _ (fun k=>f10_3 F k (Rj4∘ef10j4)) (f10_6 F (Rj4∘ef10j4))
  (fun Rj3=>f10_3_eq F Rj3 Rj4) (f10_6_eq F Rj4)
def f10_8(F:Nat):Unit→Rz:=fun _=>(some ((.bool true),[]))
theorem f10_8_eq(F:Nat):∀ v,XAf10 F (bp Tryd.f10 15) (ef10j4 v) Kf20=f10_8 F v:=by
 intro _;kernel_rfl
def f10_9(F:Nat):Ty24→Rz:=fun v=>f10_7 F (f10_8 F) v
theorem f10_9_eq(F:Nat):∀ v,XAf10 F (bp Tryd.f10 7) (ef10j2 v) Kf20=f10_9 F v:=
 seq_cut (by kernel_rfl) (by kernel_rfl) ef10j2 ef10j4 _ (fun k=>f10_7 F k) (f10_8 F)
  (fun Rj4=>f10_7_eq F Rj4) (f10_8_eq F)
def f10_10(F:Nat):Ty24→Rz:=fun v=>f10_2 F (f10_9 F) v
theorem f10_10_eq(F:Nat):∀ v,XAf10 F (bp Tryd.f10 3) (ef10j1 v) Kf20=f10_10 F v:=
 seq_cut (by kernel_rfl) (by kernel_rfl) ef10j1 ef10j2 _ (fun k=>f10_2 F k) (f10_9 F)
  (fun Rj2=>f10_2_eq F Rj2) (f10_9_eq F)
def f10_11(F:Nat):Ty24→Rz:=fun v=>f10_1 F (f10_10 F) v
theorem f10_11_eq(F:Nat):∀ v,XAf10 F (sub (bodyOf Tryd.f10) []) (ef10_a v) Kf20=f10_11 F v:=
 seq_cut (by kernel_rfl) (by kernel_rfl) ef10_a ef10j1 _ (fun k=>f10_1 F k) (f10_10 F)
  (fun Rj1=>f10_1_eq F Rj1) (f10_10_eq F)
def f10(F:Nat):Ty24→Rz:=f10_11 F
theorem f10_body(F:Nat)(a0 a1:List Li):abody V10 (Af10 F) Tryd.f10 [(.vs (.rS a0) 0 1),(.vs (.rS a1) 0 1)] []=f10 F (a0,a1):=
 (abody_in (by kernel_rfl) (by kernel_rfl)).trans (f10_11_eq F (a0,a1))
def r10:CRun:=fun X H=>match X,H with
 | [(.vs (.rS a0) 0 1),(.vs (.rS a1) 0 1)],[]=>some ((decide (a0.length < 1073741824)),(.bool (a0==a1)),[])
 | _,_=>none
theorem s10(a0 a1:List Li)(hp:((decide (a0.length < 1073741824)))=true)(h0:okV (.vs (.rS a0) 0 1))(h1:okV (.vs (.rS a1) 0 1)):∃ F,f10 F (a0,a1)=some ((.bool (a0==a1)),[]):=by
 rw [decide_eq_true_iff] at hp
 refine⟨a0.length+1,?_⟩
 simp only [f10,f10_11,f10_1,f10_10,f10_2,f10_9,f10_7,f10_8,f10_3,f10_6,f10_5,f10_5_i]
 by_cases hl:a0.length=a1.length
 ·have e:((a0.length:Int) != (a1.length:Int))=false:=by simp [hl]
  rw [e,cond_false]
  refine loopN_ind (fun m s=>∃ k:Nat,s=(a0,a1,(k:Int))∧m=a0.length-k∧k≤a0.length ∧ ∀ j,j < k→a0.getD j []=a1.getD j []) (fun m s K hi hk=>?_) (a0.length+1) a0.length _ (by omega) ⟨0,rfl,by omega,by omega,fun j hj=>by omega⟩
  obtain⟨k,rfl,hm,hle,heq⟩:=hi
  simp only [f10_4,Int.toNat_natCast]
  by_cases hlt:k < a0.length
  ·have e1:(decide (0≤(k:Int))&&decide ((k:Int) < (a0.length:Int)))=true:=by rw [dec_and,decide_eq_true_iff];omega
   have e2:(decide (0≤(k:Int))&&decide ((k:Int) < (a1.length:Int)))=true:=by rw [dec_and,decide_eq_true_iff];omega
   rw [cond_pos (show(k:Int) < (a0.length:Int) by omega),e1,e2,cond_true,cond_true,i64w (by omega) (by omega)]
   by_cases h:a0.getD k []=a1.getD k []
   ·have e3:(!(((a0.getD k []):Li)==((a1.getD k []):Li)))=false:=by rw [h];simp
    rw [e3,cond_false]
    exact hk (m-1) _ (by omega) ⟨k+1,rfl,by omega,by omega,fun j hj=>by
     by_cases hj':j=k
     ·subst hj';exact h
     ·exact heq j (by omega)⟩
   ·have e3:(!(((a0.getD k []):Li)==((a1.getD k []):Li)))=true:=by simpa using h
    rw [e3,cond_true]
    have e4:(a0==a1)=false:=by rw [beq_eq_false_iff_ne];intro h';exact h (by rw [h'])
    rw [e4]
  ·rw [cond_neg (by omega)]
   have e4:(a0==a1)=true:=by rw [beq_iff_eq];exact list_eq [] hl fun j hj=>heq j (by omega)
   rw [e4];rfl
 ·have e:((a0.length:Int) != (a1.length:Int))=true:=by simp;omega
  have e4:(a0==a1)=false:=by rw [beq_eq_false_iff_ne];intro h';exact hl (by rw [h'])
  rw [e,cond_true,e4]
theorem c10:CallOk Tryd.prog G36 10 r10:=callOk_of mixed tys eV10 Tryd.func10 (by kernel_rfl) (c:=sub (bodyOf Tryd.f10) []) (by kernel_rfl) (by
 intro X H r H' h hX hH
 unfold r10 at h;split at h <;> try contradiction
 ·obtain⟨hp,rfl,rfl⟩:=inj3 h
  obtain⟨F,hF⟩:=s10 _ _ hp (hX _ hm0) (hX _ hm1)
  exact⟨Af10 F,(f10_body F _ _).trans hF⟩)
def lV18:List CEnt:=[]
def V18:Env:=mkEnv T36 G36 lV18
noncomputable abbrev Kf21:=kFin V18 none (Tryd.f18).results.toList
theorem eV18:EOk Tryd.prog V18:=eok_mk (by exact trivial)
def Af18(F:Nat):Cuts:={ F:=F,at_:=fun n=>match n with | 4016=>some sp39 | _=>none,join:=fun n=>match n with | 1032=>some sp37 | 3024=>some sp37 | 4018=>some sp39 | 8003=>some [] | _=>none }
noncomputable abbrev XAf18(F:Nat){α:Type}:=@aexec α V18 (Af18 F)
def ef18_a:Li×Li→St:=fun (a0,a1)=>⟨[(0,(.vs (.rI .i64 a0) 0 1)),(1,(.vs (.rI .i64 a1) 0 1))],[],0,26,0⟩
def ef18j1:Li×Li→St:=fun (t0,t1)=>⟨[(0,(.vs (.rI .i64 t0) 0 1)),(1,(.vs (.rI .i64 t1) 0 1))],[],0,26,0⟩
def ef18j2:Li×Li→St:=ef18j1
def ef18j3:Ty13→St:=fun (t0,t1,t5)=>⟨[(0,(.vs (.rI .i64 t0) 0 1)),(1,(.vs (.rI .i64 t1) 0 1)),(5,.int .i64 t5)],[],0,26,0⟩
def ef18l1:Ty13→St:=ef18j3
def ef18j4:Unit→St:=ef10j4
def f18_1(F:Nat)(kj1:Li×Li→Rz):Li×Li→Rz:=fun (a0,a1)=>(kj1 (a0,a1))
theorem f18_1_eq(F:Nat)(Rj1:St→Rz):∀ v,XAf18 F (bp Tryd.f18 2) (ef18_a v) (kSeq (kc V18 Rj1 sp37) Kf21)=f18_1 F (Rj1∘ef18j1) v:=by
 rintro⟨a0,a1⟩;kernel_rfl
def f18_2(F:Nat)(kj2:Li×Li→Rz):Li×Li→Rz:=fun (t0,t1)=>(cond ((↑t0.length:Int) != (↑t1.length:Int)) (some ((.bool false),[])) (kj2 (t0,t1)))
theorem f18_2_eq(F:Nat)(Rj2:St→Rz):∀ v,XAf18 F (bp Tryd.f18 6) (ef18j1 v) (kSeq (kc V18 Rj2 sp37) Kf21)=f18_2 F (Rj2∘ef18j2) v:=by
 rintro⟨t0,t1⟩;kernel_rfl
def f18_3(F:Nat)(kj3:Ty13→Rz)(kj4:Unit→Rz):Li×Li→Rz:=fun (t0,t1)=>(kj3 (t0,t1,(0:Int)))
theorem f18_3_eq(F:Nat)(Rj3 Rj4:St→Rz):∀ v,XAf18 F (bp Tryd.f18 28) (ef18j2 v) (kSeq (kc V18 Rj3 sp39) (kSeq (kc V18 Rj4 []) Kf21))=f18_3 F (Rj3∘ef18j3) (Rj4∘ef18j4) v:=by
 rintro⟨t0,t1⟩;kernel_rfl
def f18_4(F:Nat)(kl1:Ty13→Rz)(kj4:Unit→Rz):Ty13→Rz:=fun (t0,t1,t5)=>(cond (decide (t5 < (↑t0.length:Int))) (cond ((decide (0≤t5))&&(decide (t5 < (↑t0.length:Int)))) (cond ((decide (0≤t5))&&(decide (t5 < (↑t1.length:Int)))) (cond ((t0.getD (Int.toNat t5) 0) != (t1.getD (Int.toNat t5) 0)) (some ((.bool false),[])) (kl1 (t0,t1,(IntKind.i64.wrap (t5+(1:Int)))))) none) none) (kj4 ()))
theorem f18_4_eq(F:Nat)(Rl1 Rj4:St→Rz):∀ v,XAf18 F (bp Tryd.f18 116) (ef18l1 v) (kSeq (kc V18 Rl1 sp39) (kBlock 0 (kSeq (kc V18 Rj4 []) Kf21)))=f18_4 F (Rl1∘ef18l1) (Rj4∘ef18j4) v:=by
 rintro⟨t0,t1,t5⟩;kernel_rfl
def f18_5_i:Ty13→Li×Li×Int:=fun (t0,t1,t5)=>(t0,t1,t5)
def f18_5(F:Nat)(kj4:Unit→Rz):Ty13→Rz:=fun v=>loopN (fun k=>f18_4 F k kj4) F (f18_5_i v)
theorem f18_5_eq(F:Nat)(Rj4:St→Rz):∀ v,XAf18 F (bp Tryd.f18 58) (ef18j3 v) (kBlock 0 (kSeq (kc V18 Rj4 []) Kf21))=f18_5 F (Rj4∘ef18j4) v:=
 loop_cut (by kernel_rfl) (by kernel_rfl) ef18j3 ef18l1 _ f18_5_i (fun k=>f18_4 F k (Rj4∘ef18j4))
  (by rintro⟨t0,t1,t5⟩;kernel_rfl) (fun Rl1=>f18_4_eq F Rl1 Rj4)
def f18_6(F:Nat)(kj4:Unit→Rz):Ty13→Rz:=f18_5 F kj4
theorem f18_6_eq(F:Nat)(Rj4:St→Rz):∀ v,XAf18 F (bp Tryd.f18 29) (ef18j3 v) (kSeq (kc V18 Rj4 []) Kf21)=f18_6 F (Rj4∘ef18j4) v:=fun v=>
 (block_in  (by kernel_rfl) _ _).trans (f18_5_eq F Rj4 v)
def f18_7(F:Nat)(kj4:Unit→Rz):Li×Li→Rz:=fun v=>f18_3 F (f18_6 F kj4) kj4 v
theorem f18_7_eq(F:Nat)(Rj4:St→Rz):∀ v,XAf18 F (bp Tryd.f18 14) (ef18j2 v) (kSeq (kc V18 Rj4 []) Kf21)=f18_7 F (Rj4∘ef18j4) v:=
 seq_cut (by kernel_rfl) (by kernel_rfl) ef18j2 ef18j3 _ (fun k=>f18_3 F k (Rj4∘ef18j4)) (f18_6 F (Rj4∘ef18j4))
  (fun Rj3=>f18_3_eq F Rj3 Rj4) (f18_6_eq F Rj4)
def f18_8(F:Nat):Unit→Rz:=fun _=>(some ((.bool true),[]))
theorem f18_8_eq(F:Nat):∀ v,XAf18 F (bp Tryd.f18 15) (ef18j4 v) Kf21=f18_8 F v:=by
 intro _;kernel_rfl
def f18_9(F:Nat):Li×Li→Rz:=fun v=>f18_7 F (f18_8 F) v
theorem f18_9_eq(F:Nat):∀ v,XAf18 F (bp Tryd.f18 7) (ef18j2 v) Kf21=f18_9 F v:=
 seq_cut (by kernel_rfl) (by kernel_rfl) ef18j2 ef18j4 _ (fun k=>f18_7 F k) (f18_8 F)
  (fun Rj4=>f18_7_eq F Rj4) (f18_8_eq F)
def f18_10(F:Nat):Li×Li→Rz:=fun v=>f18_2 F (f18_9 F) v
theorem f18_10_eq(F:Nat):∀ v,XAf18 F (bp Tryd.f18 3) (ef18j1 v) Kf21=f18_10 F v:=
 seq_cut (by kernel_rfl) (by kernel_rfl) ef18j1 ef18j2 _ (fun k=>f18_2 F k) (f18_9 F)
  (fun Rj2=>f18_2_eq F Rj2) (f18_9_eq F)
def f18_11(F:Nat):Li×Li→Rz:=fun v=>f18_1 F (f18_10 F) v
theorem f18_11_eq(F:Nat):∀ v,XAf18 F (sub (bodyOf Tryd.f18) []) (ef18_a v) Kf21=f18_11 F v:=
 seq_cut (by kernel_rfl) (by kernel_rfl) ef18_a ef18j1 _ (fun k=>f18_1 F k) (f18_10 F)
  (fun Rj1=>f18_1_eq F Rj1) (f18_10_eq F)
def f18(F:Nat):Li×Li→Rz:=f18_11 F
theorem f18_body(F:Nat)(a0 a1:Li):abody V18 (Af18 F) Tryd.f18 [(.vs (.rI .i64 a0) 0 1),(.vs (.rI .i64 a1) 0 1)] []=f18 F (a0,a1):=
 (abody_in (by kernel_rfl) (by kernel_rfl)).trans (f18_11_eq F (a0,a1))
def r18:CRun:=fun X H=>match X,H with
 | [(.vs (.rI .i64 a0) 0 1),(.vs (.rI .i64 a1) 0 1)],[]=>some ((decide (a0.length < 1073741824)),(.bool (a0==a1)),[])
 | _,_=>none
theorem s18(a0 a1:Li)(hp:((decide (a0.length < 1073741824)))=true)(h0:okV (.vs (.rI .i64 a0) 0 1))(h1:okV (.vs (.rI .i64 a1) 0 1)):∃ F,f18 F (a0,a1)=some ((.bool (a0==a1)),[]):=by
 rw [decide_eq_true_iff] at hp
 refine⟨a0.length+1,?_⟩
 simp only [f18,f18_11,f18_1,f18_10,f18_2,f18_9,f18_7,f18_8,f18_3,f18_6,f18_5,f18_5_i]
 by_cases hl:a0.length=a1.length
 ·have e:((a0.length:Int) != (a1.length:Int))=false:=by simp [hl]
  rw [e,cond_false]
  refine loopN_ind (fun m s=>∃ k:Nat,s=(a0,a1,(k:Int))∧m=a0.length-k∧k≤a0.length ∧ ∀ j,j < k→a0.getD j 0=a1.getD j 0) (fun m s K hi hk=>?_) (a0.length+1) a0.length _ (by omega) ⟨0,rfl,by omega,by omega,fun j hj=>by omega⟩
  obtain⟨k,rfl,hm,hle,heq⟩:=hi
  simp only [f18_4,Int.toNat_natCast]
  by_cases hlt:k < a0.length
  ·have e1:(decide (0≤(k:Int))&&decide ((k:Int) < (a0.length:Int)))=true:=by rw [dec_and,decide_eq_true_iff];omega
   have e2:(decide (0≤(k:Int))&&decide ((k:Int) < (a1.length:Int)))=true:=by rw [dec_and,decide_eq_true_iff];omega
   rw [cond_pos (show(k:Int) < (a0.length:Int) by omega),e1,e2,cond_true,cond_true,i64w (by omega) (by omega)]
   by_cases h:a0.getD k 0=a1.getD k 0
   ·have e3:(a0.getD k 0 != a1.getD k 0)=false:=by rw [h];simp
    rw [e3,cond_false]
    exact hk (m-1) _ (by omega) ⟨k+1,rfl,by omega,by omega,fun j hj=>by
     by_cases hj':j=k
     ·subst hj';exact h
     ·exact heq j (by omega)⟩
   ·have e3:(a0.getD k 0 != a1.getD k 0)=true:=by simpa using h
    rw [e3,cond_true]
    have e4:(a0==a1)=false:=by rw [beq_eq_false_iff_ne];intro h';exact h (by rw [h'])
    rw [e4]
  ·rw [cond_neg (by omega)]
   have e4:(a0==a1)=true:=by rw [beq_iff_eq];exact list_eq 0 hl fun j hj=>heq j (by omega)
   rw [e4];rfl
 ·have e:((a0.length:Int) != (a1.length:Int))=true:=by simp;omega
  have e4:(a0==a1)=false:=by rw [beq_eq_false_iff_ne];intro h';exact hl (by rw [h'])
  rw [e,cond_true,e4]
theorem c18:CallOk Tryd.prog G36 18 r18:=callOk_of mixed tys eV18 Tryd.func18 (by kernel_rfl) (c:=sub (bodyOf Tryd.f18) []) (by kernel_rfl) (by
 intro X H r H' h hX hH
 unfold r18 at h;split at h <;> try contradiction
 ·obtain⟨hp,rfl,rfl⟩:=inj3 h
  obtain⟨F,hF⟩:=s18 _ _ hp (hX _ hm0) (hX _ hm1)
  exact⟨Af18 F,(f18_body F _ _).trans hF⟩)
def lV27:List CEnt:=[]
def V27:Env:=mkEnv T36 G36 lV27
noncomputable abbrev Kf22:=kFin V27 none (Tryd.f27).results.toList
theorem eV27:EOk Tryd.prog V27:=eok_mk (by exact trivial)
def Af27(F:Nat):Cuts:={ F:=F,at_:=fun _=>none,join:=fun _=>none }
def ef27_a:Int×Li→St:=fun (a0,a1)=>⟨[(0,.int .i64 a0),(1,.str a1)],[],0,6,0⟩
def f27_1(F:Nat):Int×Li→Rz:=fun (a0,a1)=>(some ((.fn 45 (.cons 0 (.ptr 0 0 1 0 0 0 1) (.cons 0 (.ptr 1 0 1 0 0 0 1) .nil))),[(.cells 1 (.one (.str a1)) true),(.cells 1 (.one (.int .i64 a0)) true)]))
theorem f27_1_eq(F:Nat):∀ v,aexec V27 (Af27 F) (sub (bodyOf Tryd.f27) []) (ef27_a v) Kf22=f27_1 F v:=by
 rintro⟨a0,a1⟩;kernel_rfl
def f27(F:Nat):Int×Li→Rz:=f27_1 F
theorem f27_body(F:Nat)(a0:Int)(a1:Li):abody V27 (Af27 F) Tryd.f27 [(.int .i64 a0),.str a1] []=f27 F (a0,a1):=
 (abody_in (by kernel_rfl) (by kernel_rfl)).trans (f27_1_eq F (a0,a1))
def r27:CRun:=fun X H=>match X,H with
 | [(.int .i64 a0),.str a1],[]=>some (true,(.fn 45 (.cons 0 (.ptr 0 0 1 0 0 0 1) (.cons 0 (.ptr 1 0 1 0 0 0 1) .nil))),[(.cells 1 (.one (.str a1)) true),(.cells 1 (.one (.int .i64 a0)) true)])
 | _,_=>none
theorem s27(a0:Int)(a1:Li)(h0:okV (.int .i64 a0))(h1:okV (.str a1)):∃ F,f27 F (a0,a1)=some ((.fn 45 (.cons 0 (.ptr 0 0 1 0 0 0 1) (.cons 0 (.ptr 1 0 1 0 0 0 1) .nil))),[(.cells 1 (.one (.str a1)) true),(.cells 1 (.one (.int .i64 a0)) true)]):=⟨0,rfl⟩
theorem c27:CallOk Tryd.prog G36 27 r27:=callOk_of mixed tys eV27 Tryd.func27 (by kernel_rfl) (c:=sub (bodyOf Tryd.f27) []) (by kernel_rfl) (by
 intro X H r H' h hX hH
 unfold r27 at h;split at h <;> try contradiction
 ·obtain⟨hp,rfl,rfl⟩:=inj3 h
  obtain⟨F,hF⟩:=s27 _ _ (hX _ hm0) (hX _ hm1)
  exact⟨Af27 F,(f27_body F _ _).trans hF⟩)
end Go.Am
end