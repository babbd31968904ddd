/- Part of a proof. -/
import Derived.Test.YtffddoahjpemaaaGreatDoorAmWf
import Derived.Shelf.SlIterI.Nil
import Derived.Shelf.SortM.Plain
import Derived.Shelf.SortM.SortNone
import Derived.Test.YtffddoahjpemaaaGreatDoorAmWire3
import Derived.Test.YtffddoahjpemaaaGreatDoorAm36ZC
set_option linter.unusedSimpArgs false
set_option linter.unusedVariables false
section
/- The keys of a map, sorted: the kit's contracts of maps.Keys and slices.Sorted, as contracts of the machine's. -/
namespace Go.Am
open Go Go.Proofs Go.RowKit Go.Maps Go.Sort Go.Shelf
variable {P : Program} {w : World}
def aZ(es:List (List Int×List Int)):List Int:=es.map fun e=>e.1.getD 0 0
def gU(l:List Int):List Int:=l.mergeSort fun x y=>decide (x≤y)
def yh:Value→Int
 | .int _ n=>n
 | _=>0
def RR:Value→Option (DataW Unit×List MemPlace):=fun _=>some (.nil,[])
theorem zl{W:Nat→Prop}{ρ:Rho}{k:IntKind}{kn:Nat}{v:MV}:∀ {ms:List MapEntry} {es:List (List Int×List Int)},MEnts w W ρ k kn v ms es→ms.map (·.key)=es.map fun e=>cN k kn e.1
 | [],[],_=>rfl
 | m :: ms,e :: es,h=>by simp only [List.map_cons,h.1.1,zl h.2]
 | [],_ :: _,h=>h.elim
 | _ :: _,[],h=>h.elim
theorem i6{xs:List Int}(h:keyOk .i64 0 xs):∃ x,xs=[x]∧IntKind.i64.has x:=by
 obtain⟨h1,h2⟩:=h
 match xs,h1 with
 | [x],_=>exact⟨x,rfl,h2 x (by simp)⟩
theorem Zr{W:Nat→Prop}{ρ:Rho}{v:MV}{b t:Nat}{es:List (List Int×List Int)}(ht:P.underlying t=some (.int .i64))(h:MapIs w W ρ b .i64 0 v es)(hm:es.length≤maxLen):
  ∃ D0:DataW Unit,w.ownsMap P t RR b es.length D0∧(intKeys D0).Perm (aZ es)∧Maps.size D0=es.length:=by
 obtain⟨ms,clock,hb,hE⟩:=h.ex
 have hk:=zl hE
 have hlen:ms.size=es.length:=by have:=congrArg List.length hk;simpa using this
 have hbo:=h.bo ms clock hb
 have hkey:∀ x∈ms.toList,∃ z,x.key=.int .i64 z∧IntKind.i64.has z:=fun x hx=>by
  have h1:x.key∈ms.toList.map (·.key):=List.mem_map_of_mem hx
  rw [hk] at h1
  obtain⟨e,he,h2⟩:=List.mem_map.1 h1
  obtain⟨z,hz,hz'⟩:=i6 (h.keys e he)
  exact⟨z,by rw [← h2,hz];rfl,hz'⟩
 have hrd:∀ x∈ms.toList,∀ z,x.key=.int .i64 z→IntKind.i64.has z→WideElems.rd P t RR x=some (.int .i64 z,.nil):=fun x hx z h1 h2=>by
  have h3:keyOf P t x.key=some (.int .i64 z):=by
   rw [h1]
   exact keyOf_int_mk ht (by simp only [Lit.wf,Bool.and_eq_true,decide_eq_true_eq];exact h2)
  simp [WideElems.rd,h3,RR]
 refine⟨_,⟨ms,clock,hb,⟨by omega,⟨hbo.1,hbo.2,?_⟩,fun x hx=>?_⟩,by omega,rfl⟩,?_,?_⟩
 ·rw [hk]
  have hn:=h.nd
  rw [List.Nodup,List.pairwise_map] at hn ⊢
  refine hn.imp_of_mem fun {p q} hp hq hne e=>hne ?_
  obtain⟨x,hx,_⟩:=i6 (h.keys p hp)
  obtain⟨y,hy,_⟩:=i6 (h.keys q hq)
  rw [hx,hy] at e ⊢
  simp only [cN,List.getD_cons_zero,Value.int.injEq,true_and] at e
  rw [e]
 ·obtain⟨z,h1,h2⟩:=hkey x hx
  exact⟨_,hrd x hx z h1 h2⟩
 ·show(List.map (fun p=>Go.intOf p.1) (List.foldr DataW.insert [] (ms.toList.map (WideElems.rg P t RR)))).Perm (aZ es)
  refine((WideShapes.sorted_perm _).map _).trans (List.Perm.of_eq ?_)
  have e1:aZ es=(ms.toList.map (·.key)).map yh:=by
   rw [hk,List.map_map]
   apply List.map_congr_left
   intro e he
   obtain⟨x,hx,_⟩:=i6 (h.keys e he)
   simp [hx,cN,yh]
  rw [e1,List.map_map,List.map_map]
  apply List.map_congr_left
  intro x hx
  obtain⟨z,h1,h2⟩:=hkey x hx
  simp [Function.comp,WideElems.rg,hrd x hx z h1 h2,h1,Go.intOf,yh]
 ·show(List.foldr DataW.insert [] (ms.toList.map (WideElems.rg P t RR))).length=es.length
  rw [DataW.length_sorted,List.length_map]
  simpa using hlen
theorem Sim.below{U:Oth}{G:Nat→Option AV}{w0:World}{W0:Nat→Prop}{ρ:Rho}{s:St}{a:Act}{w':World}(h:Sim U G w0 W0 ρ s a w)(hb:Below w.heap.size w w'):Sim U G w0 W0 ρ s a w':=
 h.step (fun b hlt _=>hb.block b hlt) (fun b hb=>.inl hb) (fun _ _ h=>h) hb.size ⟨hb.os,hb.output,hb.tape⟩
  (fun id n r b hl=>(h.bl id n r b hl).keep (fun b hlt _=>hb.block b hlt) (fun b hb=>.inl hb) (fun _ _ h=>h) hb.size (fun L _ hlt=>hb.block _ hlt)) h.sep h.dom h.su
def ot(fs:List Nat):List AV→List Blk→Option (Bool×AV×List Blk)
 | [.fn f (.cons _ (.ptr 0 0 1 0 0 0 1) .nil)],[.cells 1 (.one (.mp 1)) true,.cells 0 (.rM .i64 0 v es) b]=>match mem f fs with
  | true=>some (decide (es.length < 1073741824),.vs (.rI .i64 (gU (aZ es))) 0 1,[.cells 1 (.one (.mp 1)) true,.cells 0 (.rM .i64 0 v es) b])
  | false=>none
 | _,_=>none
theorem Zs{U:Oth}{G:Nat→Option AV}{w0:World}{W0:Nat→Prop}{ρ:Rho}{s:St}{a:Act}{w':World}(h:Sim U G w0 W0 ρ s a w){t:Nat}{v:Value}{xs:List Int}
  (hrow:w'.ownsRow w.heap.size t 1 v xs.length (xs.map encZ)) (hx:∀ x∈xs,IntKind.i64.has x) (hlx:xs.length < 4611686018427387904):Rep w' (Wr U ρ s.heap) ρ (.vs (.rI .i64 xs) 0 1) v:=by
 obtain⟨hlen,⟨rfl,h0⟩ | ⟨g,cap,cur,rfl,hg,hb,hn,hcap,hcs,htake⟩⟩:=hrow
 ·exact .vs0 _ 1 0 none rfl (by simpa [AV.size] using h0)
 ·by_cases h0:xs.length=0
  ·rw [h0];exact .vs0 _ 1 _ _ rfl (by simpa [AV.size] using h0)
  ·rw [Nat.mul_one] at htake hcs
   have hcell:∀ j,j < xs.length→w'.cell? ⟨g,0+j,none⟩=some (.int .i64 (xs.getD j 0)):=fun j hj=>by
    have e1:cur[j]?=some (.int .i64 (xs.getD j 0)):=by
     have e2:(cur.toList.take xs.length)[j]?=(xs.map encZ)[j]?:=by rw [htake]
     rw [List.getElem?_take,if_pos hj,Array.getElem?_toList] at e2
     rw [e2,List.getElem?_map,List.getElem?_eq_getElem hj,List.getD_eq_getElem?_getD,List.getElem?_eq_getElem hj];rfl
    simp [World.cell?,hb,e1]
   refine .vs _ 0 1 xs.length cap g 0 (fun j=>.int .i64 (xs.getD j 0)) rfl (by omega) (by simp [AV.size]) (by omega) (.inl rfl) hn (by omega) ?_ (fun j hj=>hcell j (by omega)) (fun j hj=>?_)
   ·rintro(hu | ⟨id,n,r,L,h1,h2,h3⟩)
    ·have:=(h.uo g (U.sub g hu)).1
     have:=h.sz;omega
    ·have:=h.loc_lt h1 h2;omega
   ·refine .int .i64 _ (hx _ ?_)
    rw [List.getD_eq_getElem?_getD,List.getElem?_eq_getElem (by omega)]
    exact List.getElem_mem _
theorem Tq{G:Nat→Option AV}{ρs:Ren}{fs:List Nat}(L:SlLaysZI.n6 P ρs)(hS:∀ m,AnyZI.SortsIn P ρs Fence.wide m)(e9:Enters P (ρs.f 9))
  (hf:∀ f∈fs,Enters P f ∧ ∃ ρk:Ren,SlLaysZI.n10 P ρk∧ρk.f 10=f∧ρk.t 26=ρs.t 26):CallOk P G (ρs.f 6) (ot fs) where
 there:=by
  obtain⟨nm,h1,h2⟩:=L.f6
  exact⟨_,h2,h1,rfl⟩
 does:=by
  intro A H r H' hr U w ρ args hU hs hA
  unfold ot at hr
  split at hr <;> try contradiction
  rename_i f c v es b
  split at hr <;> try contradiction
  rename_i hm
  simp only [Option.some.injEq,Prod.mk.injEq,decide_eq_true_eq] at hr
  obtain⟨hp,rfl,rfl⟩:=hr
  obtain⟨ef,ρk,Lk,rfl,ht⟩:=hf f (mem_iff.1 hm)
  match args,hA with
  | ⟨[x]⟩,hA=>
   have hx:=hA.1
   generalize hf9:ρk.f 10=f9 at hx
   cases hx with | fn _ _ cvs _ hl hc=>
   subst hf9
   have hc0:=hc 0 (by simp [AVs.len])
   match cvs,hl,hc0 with
   | ⟨[y]⟩,_,hc0=>
    have hy:Rep w (Wr U ρ (tagH 0 [.cells 1 (.one (.mp 1)) true,.cells 0 (.rM .i64 0 v es) b])) ρ (.ptr 0 0 1 0 0 0 1) y:=hc0
    cases hy with | ptr _ _ _ _ _ _ _ L0 h0 hi hxx hbb h00=>
    have b0:=hs.bl 0 1 (.one (.mp 1)) true rfl
    have b1:=hs.bl 1 0 (.rM .i64 0 v es) b rfl
    rcases b0.lies with ⟨q,_⟩ | ⟨L0',q,q1,q2,q3,q4⟩
    ·rw [q] at h0;cases h0
    rw [q] at h0;cases h0
    obtain⟨_,_,_,_,_,⟨⟨hb0,_⟩,_⟩,_⟩:=q3 rfl rfl
    obtain⟨y,q5,q6⟩:=q2 0 (by omega)
    cases q6 with | mp _ L1 hL1=>
    obtain⟨L1',q7,hmap⟩:=b1.map _ _ _ _ rfl
    rw [q7] at hL1;cases hL1
    have hml:1073741824≤maxLen:=by decide
    obtain⟨D0,d1,d2,d3⟩:=Zr (t:=ρk.t 26) (by rw [ht];exact L.t26) hmap (by omega)
    have hadr:(⟨L0.b,L0.base+(0+ix 0 0 0),none⟩:Addr)=⟨L0.b,0,none⟩:=by rw [hb0];rfl
    have hcell:w.cell? ⟨L0.b,0,none⟩=some (.map (some L1.b)):=by rw [hb0] at q5;exact q5
    have hseq:=AnyZI.keys_gives Lk Fence.wide 2 trivial rfl (by omega) L0.b L1.b es.length D0 w q4 hcell d1
    have cS:=AnyZI.sorted_in L Fence.wide 5 trivial trivial trivial trivial rfl (by omega) (hS _) e9 (ρk.f 10) #[.pointer (some ⟨L0.b,0,none⟩)] trivial ef _ _ (by omega) (by omega) w hseq
    rw [hadr]
    refine(callsIn_wide.1 cS).mono ?_
    rintro e w' ⟨u,ss,rfl,hss,hrow,hnil,hB⟩
    have es':ss.mergeSort (fun x y=>decide (x≤y))=gU (aZ es):=mergeSort_of_perm_i (hss.trans d2)
    rw [es',show ss.length=(gU (aZ es)).length by rw [← es',List.length_mergeSort]] at hrow
    refine⟨u,ρ,rfl,hs.below hB,Zs hs hrow (fun z hz=>?_) (by rw [← es',List.length_mergeSort,hss.length_eq,d2.length_eq];simp [aZ];omega)⟩
    have hz':z∈aZ es:=((List.mergeSort_perm _ _).mem_iff).1 hz
    obtain⟨e,he,rfl⟩:=List.mem_map.1 hz'
    obtain⟨z,hz1,hz2⟩:=i6 (hmap.keys e he)
    rw [hz1];exact hz2
end Go.Am
end
section
/- What the functions of package disk compute, in plain terms. -/
namespace Go.Dk
open Go Go.Am
structure D where
 n:Nat
 blk:List Int
 pend:List (Li×Li)
 worn:List (Li×Li)
 off:Bool
 left:Int
def sec(b:Li)(i:Nat):List Int:=(b.drop (i*64)).take 64
def inD(d:D)(i:Int):Bool:=decide (0≤i)&&decide (i < (d.n:Int))
def isP(d:D)(i:Int):Bool:=bP d.pend [i]
def isW(d:D)(i:Int):Bool:=(bO [0] d.worn [i]).getD 0 0==1
def nxt(d:D)(i:Int):List Int:=bO (List.replicate 64 0) d.pend [i]
def pending(d:D):List Int:=gU (aZ d.pend)
def wornl(d:D):List Int:=gU (aZ d.worn)
def check(d:D)(i:Int):Int:=cond d.off 22 (cond (decide (i < 0)) 1 (cond (decide (i≥(d.n:Int))) 1 0))
def step(d:D):D×Int:=cond (d.left==0) ({ d with off:=true },22) (cond (decide (d.left > 0)) ({ d with left:=IntKind.i64.wrap (d.left-1) },0) (d,0))
def read(d:D)(i:Int):List Int×Int:=cond (check d i != 0) ([],check d i) (cond (isP d i) ((nxt d i).take 64,0) (sec d.blk i.toNat,0))
def write(d:D)(i:Int)(s:Li):D×Int:=cond (check d i != 0) (d,check d i) (cond ((s.length:Int) != 64) (d,1)
 (cond ((step d).2 != 0) (step d) ({ (step d).1 with pend:=bY (step d).1.pend [i] (s.take 64) },0)))
def clamp(p:Int):Nat:=Int.toNat (if (if 64 < p then 64 else p) > 0 then (if 64 < p then 64 else p) else 0)
def putsec(b:Li)(i m:Nat)(s:Li):List Int:=b.take (i*64)++(s.take 64).take m++b.drop (i*64+m)
def settle(d:D)(i p:Int):D:={ d with pend:=cM d.pend [i],blk:=cond (!isW d i) (cond (!(nxt d i==sec d.blk i.toNat)) (putsec d.blk i.toNat (min 64 (clamp p)) (nxt d i)) d.blk) d.blk }
def flush(d:D):D×Int:=cond (check d 0 != 0) (d,check d 0) (cond ((step d).2 != 0) (step d) ((pending d).foldl (fun e i=>settle e i 64) (step d).1,0))
def mountAll(picks:Li):List Int→Nat→D→D
 | [],_,d=>d
 | i :: is,k,d=>mountAll picks is (k+1) (settle d i (picks.getD k 64))
def mount(d:D)(picks:Li):D:={ mountAll picks (pending d) 0 d with off:=false,left:=-1 }
def place(i b:Int):Nat:=Int.toNat (Int.tdiv b 8)+Int.toNat i*64
def bit(b:Int):Int:=IntKind.u8.wrap (1*2^(min (Int.toNat (Int.tmod b 8)) 8))
def rot(d:D)(i b:Int):D×Int:=cond (decide (i < 0)) (d,1) (cond (decide (i≥(d.n:Int))) (d,1) (cond (decide (b < 0)) (d,1) (cond (decide (b≥512)) (d,1)
 ({ d with blk:=d.blk.set (place i b) (af .xor .u8 (d.blk.getD (place i b) 0) (bit b)) },0))))
def wear(d:D)(i:Int):D×Int:=cond (decide (i < 0)) (d,1) (cond (decide (i≥(d.n:Int))) (d,1) ({ d with worn:=bY d.worn [i] [1] },0))
def trip(d:D)(n:Int):D:={ d with left:=n }
def fine(d:D):Bool:=decide (d.n < 8000∧d.blk.length=d.n*64∧d.pend.length < 8000∧d.worn.length < 8000)&&d.pend.all fun e=>inD d (e.1.getD 0 0)
theorem putsec_len{b:List Int}{i m:Nat}{s:List Int}(hs:s.length=64)(hm:m≤64)(hb:i*64+64≤b.length):(putsec b i m s).length=b.length:=by
 simp only [putsec,List.length_append,List.length_take,List.length_drop,hs];omega
theorem vals64{es:List (Li×Li)}(h:okB (.cells 0 (.rM .i64 0 (.arr .u8 64) es) true))(e:Li×Li)(he:e∈es):e.2.length=64:=(nG (h.1 e he).2).1
theorem mget64{es:List (Li×Li)}(h:∀ e∈es,e.2.length=64)(k:Li):(bO (List.replicate 64 0) es k).length=64:=by
 induction es with
 | nil=>simp [bO]
 | cons e es ih=>
  simp only [bO]
  cases e.1==k
  ·exact ih fun x hx=>h x (.tail _ hx)
  ·exact h e (.head _)
theorem check_ok{d:D}{i:Int}(h:check d i=0):d.off=false∧0≤i∧i < (d.n:Int):=by
 unfold check at h
 cases ho:d.off with
 | true=>rw [ho] at h;cases h
 | false=>
  rw [ho] at h
  by_cases h1:i < 0
  ·simp [h1] at h
  ·by_cases h2:i≥(d.n:Int)
   ·simp [h1,h2] at h
   ·exact⟨rfl,by omega,by omega⟩
structure Ok (d:D):Prop where
 len:d.blk.length=d.n*64
 vals:∀ e∈d.pend,e.2.length=64
theorem ou{d:D}(h:Ok d){i:Int}(hi:inD d i=true)(p:Int):Ok (settle d i p):=by
 have h1:0≤i∧i < (d.n:Int):=by simpa [inD] using hi
 refine⟨?_,fun e he=>h.vals e (List.mem_filter.1 he).1⟩
 simp only [settle]
 cases (!isW d i)
 ·exact h.len
 ·cases (!(nxt d i==sec d.blk i.toNat))
  ·exact h.len
  ·show(putsec d.blk i.toNat (min 64 (clamp p)) (nxt d i)).length=d.n*64
   rw [putsec_len (s:=nxt d i) (mget64 h.vals [i]) (by omega) (by have:=h.len;omega)];exact h.len
theorem inD_n{d d':D}(h:d'.n=d.n)(i:Int):inD d' i=inD d i:=by simp only [inD,h]
theorem Ir{d:D}{i:Int}(h:i∈pending d):∃ e∈d.pend,e.1.getD 0 0=i:=by
 simp only [pending,gU,List.mem_mergeSort,aZ,List.mem_map] at h;exact h
theorem fine_iff{d:D}(h:fine d=true):(d.n < 8000∧d.blk.length=d.n*64∧d.pend.length < 8000∧d.worn.length < 8000) ∧ ∀ i∈pending d,inD d i=true:=by
 simp only [fine,Bool.and_eq_true,decide_eq_true_eq,List.all_eq_true] at h
 refine⟨h.1,fun i hi=>?_⟩
 obtain⟨e,he,rfl⟩:=Ir hi
 exact h.2 e he
theorem pending_len(d:D):(pending d).length=d.pend.length:=by simp [pending,gU,aZ]
theorem rz{L:List Int}{k:Nat}(h:k < L.length):L.take (k+1)=L.take k++[L.getD k 0]:=by
 rw [List.take_add_one,List.getElem?_eq_getElem h,List.getD_eq_getElem?_getD,List.getElem?_eq_getElem h];rfl
theorem mem_at{L:List Int}{k:Nat}(h:k < L.length):L.getD k 0∈L:=by
 rw [List.getD_eq_getElem?_getD,List.getElem?_eq_getElem h];exact List.getElem_mem _
def flushK(L:Li)(k:Nat)(d:D):D:=(L.take k).foldl (fun e i=>settle e i 64) d
theorem flushK_succ{L:List Int}{k:Nat}(h:k < L.length)(d:D):flushK L (k+1) d=settle (flushK L k d) (L.getD k 0) 64:=by
 simp only [flushK,rz h,List.foldl_append,List.foldl_cons,List.foldl_nil]
theorem flushK_ok{L:List Int}{d:D}(h:Ok d)(hL:∀ i∈L,inD d i=true):∀ k,k≤L.length→Ok (flushK L k d)∧(flushK L k d).n=d.n
 | 0,_=>⟨by simpa [flushK] using h,by simp [flushK]⟩
 | k+1,hk=>by
  obtain⟨h1,h2⟩:=flushK_ok h hL k (by omega)
  rw [flushK_succ (by omega)]
  exact⟨ou h1 (by rw [inD_n h2];exact hL _ (mem_at (by omega))) _,h2⟩
theorem jr(picks:Li)(x:Int):∀ (l:Li) (k:Nat) (d:D),mountAll picks (l++[x]) k d=settle (mountAll picks l k d) x (picks.getD (k+l.length) 64)
 | [],k,d=>rfl
 | i :: l,k,d=>by
  simp only [List.cons_append,mountAll,List.length_cons]
  rw [jr picks x l (k+1)]
  congr 2;omega
def mountK(picks L:Li)(k:Nat)(d:D):D:=mountAll picks (L.take k) 0 d
theorem mountK_succ{picks L:List Int}{k:Nat}(h:k < L.length)(d:D):mountK picks L (k+1) d=settle (mountK picks L k d) (L.getD k 0) (picks.getD k 64):=by
 simp only [mountK,rz h,jr,List.length_take,Nat.zero_add]
 rw [Nat.min_eq_left (by omega)]
theorem mountK_ok{picks L:List Int}{d:D}(h:Ok d)(hL:∀ i∈L,inD d i=true):∀ k,k≤L.length→Ok (mountK picks L k d)∧(mountK picks L k d).n=d.n
 | 0,_=>⟨by simpa [mountK,mountAll] using h,by simp [mountK,mountAll]⟩
 | k+1,hk=>by
  obtain⟨h1,h2⟩:=mountK_ok h hL k (by omega)
  rw [mountK_succ (by omega)]
  exact⟨ou h1 (by rw [inD_n h2];exact hL _ (mem_at (by omega))) _,h2⟩
theorem mountK_all(picks:Li)(d:D):mountK picks (pending d) (pending d).length d=mountAll picks (pending d) 0 d:=by simp [mountK]
theorem step_same(d:D):(step d).1.n=d.n∧(step d).1.blk=d.blk∧(step d).1.pend=d.pend∧(step d).1.worn=d.worn:=by
 unfold step
 cases (d.left==0)
 ·cases (decide (d.left > 0)) <;> exact⟨rfl,rfl,rfl,rfl⟩
 ·exact⟨rfl,rfl,rfl,rfl⟩
theorem getD_far{l:List Int}{k:Nat}(h:l.length≤k)(z:Int):l.getD k z=z:=by
 rw [List.getD_eq_getElem?_getD,List.getElem?_eq_none h];rfl
theorem getD_in{l:List Int}{k:Nat}(h:k < l.length)(z z':Int):l.getD k z=l.getD k z':=by
 rw [List.getD_eq_getElem?_getD,List.getD_eq_getElem?_getD,List.getElem?_eq_getElem h];rfl
end Go.Dk

namespace Go.Am
abbrev dB(a n p w:Nat)(o:Bool)(l:Int):Blk:=.cells 5 (.segs (.cons 1 (.one (.own a n 64)) (.cons 1 (.one (.mp p)) (.cons 1 (.one (.mp w)) (.cons 1 (.one (.bool o)) (.cons 1 (.one (.int .i64 l)) .nil)))))) true
abbrev dE(a:Nat)(e:Dk.D)(p w:Nat):Blk:=dB a e.n p w e.off e.left
abbrev pB(es:List (List Int×List Int)):Blk:=.cells 0 (.rM .i64 0 (.arr .u8 64) es) true
abbrev wB(es:List (List Int×List Int)):Blk:=.cells 0 (.rM .i64 0 .bool es) true
abbrev bB(l:List Int):Blk:=.cells l.length (.rI .u8 l) true
abbrev iB(l:List Int):Blk:=.cells l.length (.rI .i64 l) true
abbrev sB(l:List (List Int)):Blk:=.cells l.length (.rS l) true
abbrev rB(n p:Nat)(o:Bool)(l:Int):Blk:=.cells 3 (.segs (.cons 1 (.one (.own p n 4)) (.cons 1 (.one (.bool o)) (.cons 1 (.one (.int .i64 l)) .nil)))) true
end Go.Am
end
section
/- The specification's disk, in plain terms; what the functions that compare disks compute. -/
namespace Go.Dk
open Go Go.Am
structure R where
 s:List (List Li)
 off:Bool
 left:Int
def fT(x:List Li):List Int:=x.getD 0 []
def fN(x:List Li):List Int:=x.getD 1 []
def fD(x:List Li):Bool:=(x.getD 2 []).getD 0 0==1
def fW(x:List Li):Bool:=(x.getD 3 []).getD 0 0==1
def R.at(r:R)(i:Int):List Li:=r.s.getD i.toNat []
def ris(r:R)(i:Int):Bool:=cond (decide (i≥0)) (decide (i < (r.s.length:Int))) false
def rstep(r:R):R×Int:=cond (r.left==0) ({ r with off:=true },22) (cond (decide (r.left > 0)) ({ r with left:=IntKind.i64.wrap (r.left-1) },0) (r,0))
def mC(r:R)(i:Int):List Int×Int:=cond r.off ([],22) (cond (!ris r i) ([],1) (cond (fD (r.at i)) (fN (r.at i),0) (fT (r.at i),0)))
def kT(l:List (List Li))(i:Nat)(t:Li):List (List Li):=(l.set i (bf (l.getD i []) 1 t)).set i (bf ((l.set i (bf (l.getD i []) 1 t)).getD i []) 2 [1])
def bX(r:R)(i:Int)(t:Li):R×Int:=cond r.off (r,22) (cond (!ris r i) (r,1) (cond ((t.length:Int) != 64) (r,1) (cond ((rstep r).2 != 0) (rstep r) ({ (rstep r).1 with s:=kT (rstep r).1.s i.toNat t },0))))
def settled(x:List Li)(p:Int):List Li:=[cond (!fW x) ((fN x).take (clamp p)++(fT x).drop (clamp p)) (fT x),[],[0],[cond (fW x) 1 0]]
def de(r:R)(i p:Int):R:={ r with s:=r.s.set i.toNat (settled (r.at i) p) }
def bI(r:R)(n:Int):R:={ r with left:=if n > -1 then n else -1 }
def rQ(r:R)(i b:Int):R×Int:=cond (!ris r i) (r,1) (cond (decide (b < 0)) (r,1) (cond (decide (b > 511)) (r,1)
 ({ r with s:=r.s.set i.toNat (bf (r.at i) 0 ((fT (r.at i)).set (Int.tdiv b 8).toNat (af .xor .u8 ((fT (r.at i)).getD (Int.tdiv b 8).toNat 0) (bit b)))) },0)))
def fB(r:R)(i:Int):R×Int:=cond (!ris r i) (r,1) ({ r with s:=r.s.set i.toNat (bf (r.at i) 3 [1]) },0)
def uK(x:List Li):Prop:=(fT x).length=64∧(fD x=true→(fN x).length=64)
def aR(r:R)(k:Nat):R:=(List.range k).foldl (fun e (i:Nat)=>cond (fD (e.at i)) (de e i 64) e) r
def aO(r:R):R×Int:=cond r.off (r,22) (cond ((rstep r).2 != 0) (rstep r) (aR (rstep r).1 r.s.length,0))
def bG(picks:Li)(r:R)(k:Nat):R×Nat:=(List.range k).foldl (fun (e:R×Nat) (i:Nat)=>cond (fD (e.1.at i)) (de e.1 i (picks.getD e.2 64),e.2+1) e) (r,0)
def bD(r:R)(picks:Li):R:={ (bG picks r r.s.length).1 with off:=false,left:=-1 }
def dn(r:R):List Li:=r.s.map fT
def b8(p:List Li→Bool)(l:List (List Li))(k:Nat):List Int:=((List.range k).filter fun i=>p (l.getD i [])).map fun (i:Nat)=>(i:Int)
def j6(r:R):List Int:=b8 fD r.s r.s.length
def Mw(r:R):List Int:=b8 fW r.s r.s.length
def js(n:Int):R:=⟨List.replicate n.toNat [List.replicate 64 0,[],[0],[0]],false,-1⟩
def new(n:Int):D:=⟨n.toNat,List.replicate (n.toNat*64) 0,[],[],false,-1⟩
def image(d:D):List Li:=(List.range d.n).map fun i=>sec d.blk i
def full(c:Int):List Int:=List.replicate 64 c
def text(t:Li):List Int:=cond (decide (0 < t.length)) (t++List.replicate (64-t.length) (t.getD (t.length-1) 0)) t
def op(d:D)(k i b:Int)(t p:Li):D×List Int×Int:=
 cond (k==1) ((write d i (text t)).1,[],(write d i (text t)).2) (cond (k==2) (d,read d i) (cond (k==3) ((flush d).1,[],(flush d).2) (cond (k==4) (trip d i,[],0)
 (cond (k==5) (mount d p,[],0) (cond (k==6) ((rot d i b).1,[],(rot d i b).2) (cond (k==7) ((wear d i).1,[],(wear d i).2) (d,[],0)))))))
def rop(r:R)(k i b:Int)(t p:Li):R×List Int×Int:=
 cond (k==1) ((bX r i (text t)).1,[],(bX r i (text t)).2) (cond (k==2) (r,mC r i) (cond (k==3) ((aO r).1,[],(aO r).2) (cond (k==4) (bI r i,[],0)
 (cond (k==5) (bD r p,[],0) (cond (k==6) ((rQ r i b).1,[],(rQ r i b).2) (cond (k==7) ((fB r i).1,[],(fB r i).2) (r,[],0)))))))
def same(d:D)(r:R):Bool:=cond (image d==dn r) (cond (pending d==j6 r) (cond (wornl d==Mw r) (cond ((d.n:Int)==(r.s.length:Int)) ((!d.off)==(!r.off)) false) false) false) false
theorem FP(p:Int):clamp p≤64:=by
 unfold clamp;split <;> (try split) <;> omega
theorem gd{r:R}{i:Int}:ris r i=true↔0≤i∧i < (r.s.length:Int):=by
 unfold ris
 by_cases h:i≥0
 ·rw [aa h,decide_eq_true_iff];omega
 ·rw [ad h];constructor
  ·intro h;cases h
  ·intro h';omega
theorem dH{α:Type}(l:List α)(i j:Nat)(x z:α):(l.set i x).getD j z=if i=j∧j < l.length then x else l.getD j z:=by
 simp only [List.getD_eq_getElem?_getD,List.getElem?_set]
 by_cases h:i=j
 ·subst h
  by_cases h2:i < l.length
  ·simp [h2]
  ·simp [h2]
 ·simp [h]
def RGood(r:R):Prop:=r.s.length < 8000 ∧ ∀ i,i < r.s.length→uK (r.s.getD i [])
theorem FQ{x:List Li}(h:uK x)(hd:fD x=true)(p:Int):uK (settled x p):=by
 have hc:=FP p
 refine⟨?_,fun h=>by cases h⟩
 simp only [settled,fT,List.getD_cons_zero]
 cases hw:fW x
 ·show((fN x).take (clamp p)++(fT x).drop (clamp p)).length=64
  rw [List.length_append,List.length_take,List.length_drop,h.1,h.2 hd];omega
 ·exact h.1
theorem Zt{r:R}(h:RGood r){i:Nat}{x:List Li}(hx:uK x):RGood { r with s:=r.s.set i x }:=by
 refine⟨by simpa using h.1,fun j hj=>?_⟩
 simp only [dH]
 rw [List.length_set] at hj
 split
 ·exact hx
 ·exact h.2 j hj
theorem FR{r:R}(h:RGood r){i:Nat}(hi:i < r.s.length)(hd:fD (r.at i)=true)(p:Int):RGood (de r i p):=
 Zt h (FQ (by simpa [R.at] using h.2 i hi) hd p)
theorem iK(r:R)(i p:Int):(de r i p).s.length=r.s.length:=by simp [de]
theorem eV(r:R)(k:Nat):aR r (k+1)=cond (fD ((aR r k).at k)) (de (aR r k) k 64) (aR r k):=by
 simp only [aR,List.range_succ,List.foldl_append,List.foldl_cons,List.foldl_nil]
theorem gV(p:Li)(r:R)(k:Nat):bG p r (k+1)=cond (fD ((bG p r k).1.at k)) (de (bG p r k).1 k (p.getD (bG p r k).2 64),(bG p r k).2+1) (bG p r k):=by
 simp only [bG,List.range_succ,List.foldl_append,List.foldl_cons,List.foldl_nil]
theorem ov{r:R}(h:RGood r):∀ k,k≤r.s.length→RGood (aR r k)∧(aR r k).s.length=r.s.length
 | 0,_=>⟨h,rfl⟩
 | k+1,hk=>by
  obtain⟨h1,h2⟩:=ov h k (by omega)
  rw [eV]
  cases hd:fD ((aR r k).at k)
  ·exact⟨h1,h2⟩
  ·exact⟨FR h1 (by omega) hd _,by rw [cond_true,iK,h2]⟩
theorem fi(r:R):(rstep r).1.s=r.s:=by
 unfold rstep
 cases (r.left==0)
 ·cases (decide (r.left > 0)) <;> rfl
 ·rfl
theorem mD(p:List Li→Bool)(l:List (List Li))(k:Nat):b8 p l (k+1)=cond (p (l.getD k [])) (b8 p l k++[(k:Int)]) (b8 p l k):=by
 simp only [b8,List.range_succ,List.filter_append,List.map_append]
 cases h:p (l.getD k []) <;> simp only [List.filter_cons,List.filter_nil,h] <;> simp
end Go.Dk
end
section
/- A disk of the program and one of the specification: what holds of both, and that each operation keeps it. -/
namespace Go.Dk
open Go Go.Am
abbrev Es:=List (Li×Li)
theorem rR(k v k':Li):∀ es:Es,bP (bY es k v) k'=(k==k' || bP es k')
 | []=>by simp [bY,bP]
 | e :: es=>by
  simp only [bY]
  by_cases h:e.1==k
  ·rw [h,cond_true]
   have h':e.1=k:=by simpa using h
   simp only [bP,List.any_cons,h',← Bool.or_assoc,Bool.or_self]
  ·have h2:(e.1==k)=false:=by simpa using h
   rw [h2,cond_false]
   have ih:=rR k v k' es
   simp only [bP,List.any_cons] at ih ⊢
   rw [ih]
   cases (e.1==k') <;> cases (k==k') <;> rfl
theorem rU(z k v k':Li):∀ es:Es,bO z (bY es k v) k'=if k=k' then v else bO z es k'
 | []=>by
  by_cases h:k=k'
  ·simp [bY,bO,h]
  ·have:(k==k')=false:=by simpa using h
   simp [bY,bO,h,this]
 | e :: es=>by
  simp only [bY]
  by_cases h:e.1=k
  ·have h2:(e.1==k)=true:=by simpa using h
   rw [h2,cond_true]
   simp only [bO]
   by_cases h3:k=k'
   ·have h4:(k==k')=true:=by simpa using h3
    rw [h4,if_pos h3];rfl
   ·have h4:(k==k')=false:=by simpa using h3
    have h5:(e.1==k')=false:=by rw [h];exact h4
    rw [h4,h5,if_neg h3];rfl
  ·have h2:(e.1==k)=false:=by simpa using h
   rw [h2,cond_false]
   simp only [bO,rU z k v k' es]
   by_cases h3:k=k'
   ·have h5:(e.1==k')=false:=by rw [← h3];exact h2
    simp only [if_pos h3,h5,cond_false]
   ·simp only [if_neg h3]
theorem FS(k k':Li):∀ es:Es,bP (cM es k) k'=(!(k==k')&&bP es k')
 | []=>by simp [cM,bP]
 | e :: es=>by
  have ih:=FS k k' es
  simp only [cM,bP] at ih ⊢
  by_cases h:e.1=k
  ·have h2:(e.1==k)=true:=by simpa using h
   rw [List.filter_cons_of_neg (by simp [h2]),ih,List.any_cons,h]
   cases (k==k') <;> simp
  ·have h2:(e.1==k)=false:=by simpa using h
   rw [List.filter_cons_of_pos (by simp [h2]),List.any_cons,ih,List.any_cons]
   by_cases h3:k=k'
   ·subst h3;simp [h2]
   ·have h4:(k==k')=false:=by simpa using h3
    simp [h4]
theorem FT(z k k':Li)(hne:k≠k'):∀ es:Es,bO z (cM es k) k'=bO z es k'
 | []=>rfl
 | e :: es=>by
  have ih:=FT z k k' hne es
  simp only [cM] at ih ⊢
  by_cases h:e.1=k
  ·have h2:(e.1==k)=true:=by simpa using h
   rw [List.filter_cons_of_neg (by simp [h2]),ih]
   have h5:(e.1==k')=false:=by rw [h];simpa using hne
   simp only [bO,h5,cond_false]
  ·have h2:(e.1==k)=false:=by simpa using h
   rw [List.filter_cons_of_pos (by simp [h2])]
   simp only [bO,ih]
theorem FU{es:Es}{k:List Int}:bP es k=true ↔ ∃ e∈es,e.1=k:=by
 simp [bP,List.any_eq_true]
theorem j7{p:Li×Li→Prop}{k v:List Int}(hp:p (k,v)):∀ {es:Es},(∀ e∈es,p e) → ∀ e∈bY es k v,p e
 | [],_,e,he=>by simp [bY] at he;rw [he];exact hp
 | x :: es,h,e,he=>by
  simp only [bY] at he
  cases hx:x.1==k <;> rw [hx] at he
  ·rw [cond_false] at he
   rcases List.mem_cons.1 he with rfl | he
   ·exact h _ (.head _)
   ·exact j7 hp (fun y hy=>h y (.tail _ hy)) e he
  ·rw [cond_true] at he
   rcases List.mem_cons.1 he with rfl | he
   ·exact hp
   ·exact h e (.tail _ he)
theorem zm{es:Es}(h:∀ e∈es,e.2=[1])(k:Li):((bO [0] es k).getD 0 0==1)=bP es k:=by
 induction es with
 | nil=>rfl
 | cons e es ih=>
  have ih:=ih fun x hx=>h x (.tail _ hx)
  simp only [bO,bP,List.any_cons]
  cases hk:e.1==k
  ·rw [cond_false,ih];simp [bP]
  ·rw [cond_true,h e (.head _)];rfl
theorem yi{b:List Int}{i:Nat}(h:i*64+64≤b.length):(sec b i).length=64:=by
 simp only [sec,List.length_take,List.length_drop];omega
theorem gg(b:Li)(i k:Nat):(sec b i)[k]?=if k < 64 then b[i*64+k]? else none:=by
 simp only [sec,List.getElem?_take,List.getElem?_drop]
theorem uL{b s:List Int}{i m:Nat}(hs:s.length=64)(hm:m≤64)(hb:i*64+64≤b.length)(x:Nat):
  (putsec b i m s)[x]?=if x < i*64 then b[x]? else if x < i*64+m then s[x-i*64]? else b[x]?:=by
 have h1:(b.take (i*64)).length=i*64:=by rw [List.length_take];omega
 have h2:((s.take 64).take m).length=m:=by rw [List.length_take,List.length_take];omega
 simp only [putsec]
 by_cases ha:x < i*64
 ·rw [if_pos ha,List.append_assoc,List.getElem?_append_left (by omega),List.getElem?_take,if_pos ha]
 ·rw [if_neg ha]
  by_cases hb':x < i*64+m
  ·rw [if_pos hb',List.append_assoc,List.getElem?_append_right (by omega),List.getElem?_append_left (by omega),h1,List.getElem?_take,if_pos (by omega),List.getElem?_take,if_pos (by omega)]
  ·rw [if_neg hb',List.getElem?_append_right (by rw [List.length_append];omega),List.length_append,h1,h2,List.getElem?_drop]
   congr 1;omega
theorem Mx{b s:List Int}{i m:Nat}(hs:s.length=64)(hm:m≤64)(hb:i*64+64≤b.length)(j:Nat):
  sec (putsec b i m s) j=if j=i then s.take m++(sec b i).drop m else sec b j:=by
 refine List.ext_getElem? fun k=>?_
 rw [gg]
 by_cases hj:j=i
 ·subst hj
  rw [if_pos rfl]
  by_cases hk:k < 64
  ·rw [if_pos hk,uL hs hm hb,if_neg (by omega)]
   by_cases hkm:k < m
   ·rw [if_pos (by omega),List.getElem?_append_left (by rw [List.length_take];omega),List.getElem?_take,if_pos hkm]
    congr 1;omega
   ·rw [if_neg (by omega),List.getElem?_append_right (by rw [List.length_take];omega),List.length_take,List.getElem?_drop,gg,if_pos (by omega)]
    congr 1;omega
  ·rw [if_neg hk,List.getElem?_eq_none]
   rw [List.length_append,List.length_take,List.length_drop,yi hb];omega
 ·rw [if_neg hj,gg]
  by_cases hk:k < 64
  ·rw [if_pos hk,if_pos hk,uL hs hm hb]
   split
   ·rfl
   ·rw [if_neg]
    intro h;omega
  ·rw [if_neg hk,if_neg hk]
theorem aY5(b:Li)(i q j:Nat)(v:Int)(hq:q < 64):sec (b.set (q+i*64) v) j=if j=i then (sec b i).set q v else sec b j:=by
 refine List.ext_getElem? fun k=>?_
 rw [gg]
 by_cases hj:j=i
 ·subst hj
  rw [if_pos rfl,List.getElem?_set,List.getElem?_set,gg]
  by_cases hk:k < 64
  ·rw [if_pos hk,if_pos hk]
   by_cases hqk:q=k
   ·subst hqk
    rw [if_pos (by omega),if_pos rfl]
    by_cases hl:q+j*64 < b.length
    ·rw [if_pos hl,if_pos]
     simp only [sec,List.length_take,List.length_drop];omega
    ·rw [if_neg hl,if_neg]
     simp only [sec,List.length_take,List.length_drop];omega
   ·rw [if_neg (by omega),if_neg hqk]
  ·rw [if_neg hk,if_neg hk,if_neg (by omega)]
 ·rw [if_neg hj,gg]
  by_cases hk:k < 64
  ·rw [if_pos hk,if_pos hk,List.getElem?_set,if_neg (by omega)]
  ·rw [if_neg hk,if_neg hk]
structure Rel (d:D) (r:R):Prop where
 n:r.s.length=d.n
 small:d.n < 8000
 len:d.blk.length=d.n*64
 text:∀ i,i < d.n→sec d.blk i=fT (r.s.getD i [])
 keys:∀ e∈d.pend,(∃ i:Nat,i < d.n∧e.1=[(i:Int)])∧e.2.length=64
 nd:(d.pend.map (·.1)).Nodup
 dirty:∀ i:Nat,i < d.n→isP d i=fD (r.s.getD i [])
 next:∀ i:Nat,i < d.n→fD (r.s.getD i [])=true→nxt d i=fN (r.s.getD i [])
 wkeys:∀ e∈d.worn,(∃ i:Nat,i < d.n∧e.1=[(i:Int)])∧e.2=[1]
 wnd:(d.worn.map (·.1)).Nodup
 worn:∀ i:Nat,i < d.n→isW d i=fW (r.s.getD i [])
 off:d.off=r.off
 left:d.left=r.left∨(d.left < 0∧r.left < 0)
 lo : -9223372036854775808≤d.left
 hi:d.left≤9223372036854775807
theorem ow{es:Es}{n:Nat}(h:∀ e∈es,∃ i:Nat,i < n∧e.1=[(i:Int)])(hn:(es.map (·.1)).Nodup):es.length≤n:=by
 have h1:(aZ es).Nodup:=by
  simp only [aZ,List.Nodup,List.pairwise_map] at hn ⊢
  refine hn.imp_of_mem fun {a b} ha hb h' e=>h' ?_
  obtain⟨i,_,e1⟩:=h a ha
  obtain⟨j,_,e2⟩:=h b hb
  rw [e1,e2] at e ⊢
  simpa using e
 have h2:(((List.range n).filter fun i:Nat=>(aZ es).contains (i:Int)).map fun i:Nat=>(i:Int)).Nodup:=by
  simp only [List.Nodup,List.pairwise_map]
  refine(List.pairwise_lt_range.filter _).imp fun {a b} h=>?_
  omega
 have h3:(aZ es).Perm (((List.range n).filter fun i:Nat=>(aZ es).contains (i:Int)).map fun i:Nat=>(i:Int)):=by
  rw [List.perm_ext_iff_of_nodup h1 h2]
  intro x
  simp only [List.mem_map,List.mem_filter,List.mem_range,List.contains_iff_mem]
  constructor
  ·intro hx
   obtain⟨e,he,rfl⟩:=List.mem_map.1 (show x∈es.map fun e=>e.1.getD 0 0 from hx)
   obtain⟨i,hi,e1⟩:=h e he
   exact⟨i,⟨hi,by rw [show(i:Int)=e.1.getD 0 0 by rw [e1];rfl];exact hx⟩,by rw [e1];rfl⟩
  ·rintro⟨i,⟨_,hx⟩,rfl⟩;exact hx
 have h4:=h3.length_eq
 have h5:=List.length_filter_le (fun i:Nat=>(aZ es).contains (i:Int)) (List.range n)
 simp only [aZ,List.length_map,List.length_range] at h4 h5
 omega
theorem Rel.fine{d:D}{r:R}(h:Rel d r):fine d=true:=by
 have h1:=ow (fun e he=>(h.keys e he).1) h.nd
 have h2:=ow (fun e he=>(h.wkeys e he).1) h.wnd
 have h3:=h.small
 simp only [Dk.fine,Bool.and_eq_true,decide_eq_true_eq,List.all_eq_true]
 refine⟨⟨h.small,h.len,by omega,by omega⟩,fun e he=>?_⟩
 obtain⟨⟨i,hi,e1⟩,_⟩:=h.keys e he
 rw [e1]
 simp [inD];omega
theorem Rel.ok{d:D}{r:R}(h:Rel d r):Ok d:=⟨h.len,fun e he=>(h.keys e he).2⟩
theorem Rel.good{d:D}{r:R}(h:Rel d r):RGood r:=by
 refine⟨by rw [h.n];exact h.small,fun i hi=>?_⟩
 rw [h.n] at hi
 have hl:=h.len
 refine⟨by rw [← h.text i hi];exact yi (by omega),fun hd=>?_⟩
 rw [← h.next i hi hd]
 exact mget64 h.ok.vals _
theorem Rel.check{d:D}{r:R}(h:Rel d r)(i:Int):check d i=cond r.off 22 (cond (!ris r i) 1 0):=by
 unfold Dk.check ris
 rw [h.off,h.n]
 cases r.off
 ·simp only [cond_false]
  by_cases h1:i < 0
  ·rw [aa h1,ad (show ¬ i≥0 by omega)];rfl
  ·rw [ad h1,aa (show i≥0 by omega)]
   by_cases h2:i≥(d.n:Int)
   ·rw [aa h2,show decide (i < (d.n:Int))=false by simp;omega];rfl
   ·rw [ad h2,show decide (i < (d.n:Int))=true by simp;omega];rfl
 ·rfl
theorem Rel.step{d:D}{r:R}(h:Rel d r):(step d).2=(rstep r).2∧Rel (step d).1 (rstep r).1:=by
 have hlo:=h.lo
 have hhi:=h.hi
 unfold Dk.step rstep
 by_cases h0:d.left=0
 ·have h1:r.left=0:=by rcases h.left with h | ⟨h,_⟩ <;> omega
  rw [show(d.left==0)=true by simpa using h0,show(r.left==0)=true by simpa using h1]
  exact⟨rfl,{ h with off:=rfl }⟩
 ·have h1:r.left≠0:=by rcases h.left with h | ⟨_,h⟩ <;> omega
  rw [show(d.left==0)=false by simpa using h0,show(r.left==0)=false by simpa using h1]
  simp only [cond_false]
  by_cases h2:d.left > 0
  ·have h3:r.left=d.left:=by rcases h.left with h | ⟨h,_⟩ <;> omega
   rw [aa h2,aa (show r.left > 0 by omega),h3,ah (by omega) (by omega)]
   exact⟨rfl,{ h with left:=.inl rfl,lo:=by show _≤d.left-1;omega,hi:=by show d.left-1≤_;omega }⟩
  ·rw [ad h2,ad (show ¬ r.left > 0 by rcases h.left with h | ⟨_,h⟩ <;> omega)]
   exact⟨rfl,h⟩
theorem Jh(i j:Nat):([(i:Int)]==[(j:Int)])=decide (i=j):=by
 rw [Bool.eq_iff_iff];simp;omega
theorem FV{i j:Nat}(h:i≠j): [(i:Int)]≠[(j:Int)]:=by simp;omega
theorem My(d:D)(i j:Nat)(p:Int):isP (settle d i p) j=(!decide (i=j)&&isP d j):=by
 simp only [isP,settle,FS,Jh]
theorem Mz(d:D){i j:Nat}(p:Int)(h:i≠j):nxt (settle d i p) j=nxt d j:=by
 simp only [nxt,settle];exact FT _ _ _ (FV h) _
theorem MA{d:D}(hl:d.blk.length=d.n*64)(hv:∀ e∈d.pend,e.2.length=64){i:Nat}(hi:i < d.n)(p:Int)(j:Nat):
  sec (settle d i p).blk j=if j=i then cond (!isW d i) ((nxt d i).take (clamp p)++(sec d.blk i).drop (clamp p)) (sec d.blk i) else sec d.blk j:=by
 have hc:=FP p
 have hx:(nxt d i).length=64:=mget64 hv _
 simp only [settle,Int.toNat_natCast]
 cases (!isW d i)
 ·simp only [cond_false]
  by_cases h:j=i
  ·rw [if_pos h,h]
  ·rw [if_neg h]
 ·simp only [cond_true]
  cases hq:(!(nxt d i==sec d.blk i))
  ·have hq':nxt d i=sec d.blk i:=by simpa using hq
   simp only [cond_false]
   by_cases h:j=i
   ·rw [if_pos h,hq',List.take_append_drop,h]
   ·rw [if_neg h]
  ·simp only [cond_true]
   rw [Nat.min_eq_right hc]
   exact Mx hx hc (by omega) j
theorem cw(r:R){i:Nat}(p:Int)(hi:i < r.s.length)(j:Nat):(de r i p).s.getD j []=if i=j then settled (r.s.getD i []) p else r.s.getD j []:=by
 simp only [de,Int.toNat_natCast,dH,R.at]
 by_cases h:i=j
 ·subst h;rw [if_pos ⟨rfl,hi⟩,if_pos rfl]
 ·rw [if_neg (fun h'=>h h'.1),if_neg h]
theorem Rel.settle{d:D}{r:R}(h:Rel d r){i:Nat}(hi:i < d.n)(hd:fD (r.s.getD i [])=true)(p:Int):Rel (settle d i p) (de r i p):=by
 have hir:i < r.s.length:=by rw [h.n];exact hi
 have hok:=ou (i:=(i:Int)) h.ok (by simp [inD];exact hi) p
 exact {
  n:=by rw [iK];exact h.n
  small:=h.small
  len:=hok.len
  text:=fun j hj=>by
   rw [MA h.len h.ok.vals hi,cw r p hir]
   by_cases hji:j=i
   ·subst hji
    rw [if_pos rfl,if_pos rfl,h.worn j hj,h.next j hj hd,h.text j hj]
    rfl
   ·rw [if_neg hji,if_neg (Ne.symm hji),h.text j hj]
  keys:=fun e he=>h.keys e (List.mem_filter.1 he).1
  nd:=wM h.nd
  dirty:=fun j hj=>by
   rw [My,cw r p hir]
   by_cases hji:i=j
   ·subst hji;simp [settled,fD]
   ·rw [if_neg hji,h.dirty j hj];simp [hji]
  next:=fun j hj hdj=>by
   rw [cw r p hir] at hdj ⊢
   by_cases hji:i=j
   ·subst hji;rw [if_pos rfl] at hdj;cases hdj
   ·rw [if_neg hji] at hdj ⊢
    rw [Mz d p hji];exact h.next j hj hdj
  wkeys:=h.wkeys
  wnd:=h.wnd
  worn:=fun j hj=>by
   rw [cw r p hir]
   by_cases hji:i=j
   ·subst hji
    rw [if_pos rfl]
    show isW d i=_
    rw [h.worn i hj]
    simp only [settled,fW,List.getD_cons_succ,List.getD_cons_zero]
    cases (((r.s.getD i []).getD 3 []).getD 0 0==1) <;> rfl
   ·rw [if_neg hji];exact h.worn j hj
  off:=h.off
  left:=h.left
  lo:=h.lo
  hi:=h.hi }
theorem FW(p:List Li→Bool)(l:List (List Li))(k:Nat):(b8 p l k).Pairwise fun a b=>decide (a≤b)=true:=by
 simp only [b8,List.pairwise_map]
 refine(List.pairwise_lt_range.filter _).imp fun {a b} h=>?_
 simp only [decide_eq_true_eq];omega
theorem Is(p:List Li→Bool)(l:List (List Li))(k:Nat):(b8 p l k).Nodup:=by
 simp only [b8,List.Nodup,List.pairwise_map]
 refine(List.pairwise_lt_range.filter _).imp fun {a b} h=>?_
 omega
theorem Tr{p:List Li→Bool}{l:List (List Li)}{k:Nat}{x:Int}:x∈b8 p l k ↔ ∃ i:Nat,i < k∧p (l.getD i [])=true∧x=(i:Int):=by
 simp only [b8,List.mem_map,List.mem_filter,List.mem_range]
 constructor
 ·rintro⟨i,⟨h1,h2⟩,rfl⟩;exact⟨i,h1,h2,rfl⟩
 ·rintro⟨i,h1,h2,rfl⟩;exact⟨i,⟨h1,h2⟩,rfl⟩
theorem qF{es:Es}{n:Nat}(hk:∀ e∈es,∃ i:Nat,i < n∧e.1=[(i:Int)])(hn:(es.map (·.1)).Nodup)(p:List Li→Bool)(l:List (List Li))
  (hp:∀ i:Nat,i < n→bP es [(i:Int)]=p (l.getD i [])):gU (aZ es)=b8 p l n:=by
 have h1:(aZ es).Nodup:=by
  simp only [aZ,List.Nodup,List.pairwise_map] at hn ⊢
  refine hn.imp_of_mem fun {a b} ha hb h e=>h ?_
  obtain⟨i,_,e1⟩:=hk a ha
  obtain⟨j,_,e2⟩:=hk b hb
  rw [e1,e2] at e ⊢
  simpa using e
 have hperm:(aZ es).Perm (b8 p l n):=by
  rw [List.perm_ext_iff_of_nodup h1 (Is p l n)]
  intro x
  rw [Tr]
  simp only [aZ,List.mem_map]
  constructor
  ·rintro⟨e,he,rfl⟩
   obtain⟨i,hi,e1⟩:=hk e he
   exact⟨i,hi,by rw [← hp i hi];exact FU.2 ⟨e,he,e1⟩,by rw [e1];rfl⟩
  ·rintro⟨i,hi,h2,rfl⟩
   rw [← hp i hi] at h2
   obtain⟨e,he,e1⟩:=FU.1 h2
   exact⟨e,he,by rw [e1];rfl⟩
 have h2:gU (aZ es)=gU (b8 p l n):=Go.mergeSort_of_perm_i hperm
 rw [h2]
 exact List.mergeSort_of_pairwise (FW p l n)
theorem Rel.pending{d:D}{r:R}(h:Rel d r):pending d=j6 r:=by
 simp only [Dk.pending,j6,h.n]
 exact qF (fun e he=>(h.keys e he).1) h.nd _ _ h.dirty
theorem Rel.wornl{d:D}{r:R}(h:Rel d r):wornl d=Mw r:=by
 simp only [Dk.wornl,Mw,h.n]
 refine qF (fun e he=>(h.wkeys e he).1) h.wnd _ _ fun i hi=>?_
 rw [← h.worn i hi,isW,zm fun e he=>(h.wkeys e he).2]
theorem Rel.image{d:D}{r:R}(h:Rel d r):image d=dn r:=by
 refine lF [] (by simp [Dk.image,dn,h.n]) fun i hi=>?_
 simp only [Dk.image,List.length_map,List.length_range] at hi
 have h1:=h.text i hi
 simp only [Dk.image,dn,List.getD_eq_getElem?_getD,List.getElem?_map,List.getElem?_range hi,Option.map_some,Option.getD_some]
 rw [h1,List.getD_eq_getElem?_getD,List.getElem?_eq_getElem (by rw [h.n];exact hi)];rfl
theorem Rel.same{d:D}{r:R}(h:Rel d r):same d r=true:=by
 simp only [Dk.same,h.pending,h.wornl,h.image,h.n,h.off,beq_self_eq_true,cond_true]
theorem Rel.flushK{d:D}{r:R}(h:Rel d r):∀ k,k≤d.n→Rel ((b8 fD r.s k).foldl (fun e i=>Dk.settle e i 64) d) (aR r k)∧(∀ j,k≤j→(aR r k).s.getD j []=r.s.getD j [])∧((b8 fD r.s k).foldl (fun e i=>Dk.settle e i 64) d).n=d.n
 | 0,_=>⟨h,fun _ _=>rfl,rfl⟩
 | k+1,hk=>by
  obtain⟨h1,h2,h3⟩:=h.flushK k (by omega)
  have hr:=eV r k
  have hl:=mD fD r.s k
  have e:fD ((aR r k).at (k:Int))=fD (r.s.getD k []):=by rw [R.at,Int.toNat_natCast,h2 k (Nat.le_refl _)]
  rw [hr,hl,e]
  cases hd:fD (r.s.getD k [])
  ·exact⟨h1,fun j hj=>h2 j (by omega),h3⟩
  ·simp only [cond_true,List.foldl_append,List.foldl_cons,List.foldl_nil]
   refine⟨h1.settle (by rw [h3];omega) (by rw [h2 k (Nat.le_refl _)];exact hd) 64,fun j hj=>?_,h3⟩
   rw [cw _ _ (by rw [h1.n,h3];omega),if_neg (by omega)]
   exact h2 j (by omega)
theorem Rel.flush{d:D}{r:R}(h:Rel d r)(h0:0 < d.n):(flush d).2=(aO r).2∧Rel (flush d).1 (aO r).1:=by
 have hris:ris r 0=true:=gd.2 ⟨by omega,by rw [h.n];omega⟩
 simp only [Dk.flush,aO,h.check,hris]
 cases ho:r.off
 ·simp only [cond_false,Bool.not_true]
  obtain⟨s1,s2⟩:=h.step
  rw [s1]
  cases hs:((rstep r).2 != 0)
  ·simp only [bne_self_eq_false,cond_false]
   obtain⟨t1,t2,t3,t4⟩:=step_same d
   have hp:Dk.pending d=b8 fD (rstep r).1.s d.n:=by rw [h.pending,fi,j6,h.n]
   rw [hp,h.n]
   exact⟨trivial,(s2.flushK d.n (by rw [t1];exact Nat.le_refl _)).1⟩
  ·simp only [bne_self_eq_false,cond_false,cond_true]
   exact⟨s1,s2⟩
 ·exact⟨rfl,h⟩
theorem Rel.mountK{d:D}{r:R}(h:Rel d r)(picks:Li):∀ k,k≤d.n→Rel (mountAll picks (b8 fD r.s k) 0 d) (bG picks r k).1∧(∀ j,k≤j→(bG picks r k).1.s.getD j []=r.s.getD j [])∧(mountAll picks (b8 fD r.s k) 0 d).n=d.n∧(bG picks r k).2=(b8 fD r.s k).length
 | 0,_=>⟨h,fun _ _=>rfl,rfl,rfl⟩
 | k+1,hk=>by
  obtain⟨h1,h2,h3,h4⟩:=h.mountK picks k (by omega)
  have hr:=gV picks r k
  have hl:=mD fD r.s k
  have e:fD ((bG picks r k).1.at (k:Int))=fD (r.s.getD k []):=by rw [R.at,Int.toNat_natCast,h2 k (Nat.le_refl _)]
  rw [hr,hl,e]
  cases hd:fD (r.s.getD k [])
  ·exact⟨h1,fun j hj=>h2 j (by omega),h3,h4⟩
  ·simp only [cond_true,jr,Nat.zero_add]
   rw [h4]
   refine⟨h1.settle (by rw [h3];omega) (by rw [h2 k (Nat.le_refl _)];exact hd) _,fun j hj=>?_,h3,by simp⟩
   rw [cw _ _ (by rw [h1.n,h3];omega),if_neg (by omega)]
   exact h2 j (by omega)
theorem Rel.mount{d:D}{r:R}(h:Rel d r)(picks:Li):Rel (mount d picks) (bD r picks):=by
 have h1:=(h.mountK picks d.n (Nat.le_refl _)).1
 have hp:Dk.pending d=b8 fD r.s d.n:=by rw [h.pending,j6,h.n]
 simp only [Dk.mount,bD,hp,h.n]
 exact { h1 with off:=rfl,left:=.inl rfl,lo:=by show(-9223372036854775808:Int) ≤ -1;decide,hi:=by show(-1:Int)≤9223372036854775807;decide }
theorem fu{l:List (List Li)}{i:Nat}(x:List Li)(h:i < l.length)(j:Nat):(l.set i x).getD j []=if i=j then x else l.getD j []:=by
 rw [dH]
 by_cases hij:i=j
 ·subst hij;rw [if_pos ⟨rfl,h⟩,if_pos rfl]
 ·rw [if_neg (fun h'=>hij h'.1),if_neg hij]
theorem aG:∀ (x:List Li) (c:Nat) (f:Li) (j:Nat),(bf x c f).getD j []=if c=j then f else x.getD j []
 | [],0,f,0=>rfl
 | [],0,f,j+1=>by simp [bf]
 | [],c+1,f,0=>rfl
 | [],c+1,f,j+1=>by
  have:=aG [] c f j
  simp only [bf,List.getD_cons_succ,this,Nat.add_right_cancel_iff];rfl
 | x :: r,0,f,0=>rfl
 | x :: r,0,f,j+1=>by simp [bf]
 | x :: r,c+1,f,0=>by simp [bf]
 | x :: r,c+1,f,j+1=>by
  have:=aG r c f j
  simp only [bf,List.getD_cons_succ,this,Nat.add_right_cancel_iff]
theorem fK{l:List (List Li)}{i:Nat}(t:Li)(h:i < l.length)(j:Nat):(kT l i t).getD j []=if i=j then bf (bf (l.getD i []) 1 t) 2 [1] else l.getD j []:=by
 simp only [kT]
 rw [fu _ (by simpa using h),fu _ h,fu _ h,if_pos rfl]
 split <;> rfl
theorem Rel.write{d:D}{r:R}(h:Rel d r)(i:Int)(t:Li):(write d i t).2=(bX r i t).2∧Rel (write d i t).1 (bX r i t).1:=by
 simp only [Dk.write,bX,h.check]
 cases ho:r.off
 ·cases hi:ris r i
  ·exact⟨rfl,h⟩
  ·simp only [cond_false,Bool.not_true,bne_self_eq_false]
   cases hl:((t.length:Int) != 64)
   ·simp only [cond_false]
    obtain⟨s1,s2⟩:=h.step
    rw [s1]
    cases hs:((rstep r).2 != 0)
    ·simp only [cond_false]
     refine⟨trivial,?_⟩
     have hlen:t.length=64:=by
      have:(t.length:Int)=64:=by simpa using hl
      omega
     obtain⟨t1,t2,t3,t4⟩:=step_same d
     have hr:=gd.1 hi
     rw [h.n] at hr
     obtain⟨q,rfl⟩:∃ q:Nat,i=(q:Int):=⟨i.toNat,by omega⟩
     rw [Int.toNat_natCast,List.take_of_length_le (by omega)]
     have hq:q < (Dk.step d).1.n:=by rw [t1];omega
     revert s2 hq
     generalize (Dk.step d).1=d'
     generalize (rstep r).1=r'
     intro s2 hq
     have hql:q < r'.s.length:=by rw [s2.n];exact hq
     exact {
      n:=by simp only [kT,List.length_set];exact s2.n
      small:=s2.small
      len:=s2.len
      text:=fun j hj=>by
       rw [s2.text j hj,fK t hql]
       by_cases hji:q=j
       ·subst hji;rw [if_pos rfl];simp only [fT];rw [aG,if_neg (by decide),aG,if_neg (by decide)]
       ·rw [if_neg hji]
      keys:=j7 ⟨⟨q,hq,rfl⟩,hlen⟩ s2.keys
      nd:=pz s2.nd
      dirty:=fun j hj=>by
       rw [fK t hql]
       simp only [isP,rR,Jh]
       by_cases hji:q=j
       ·subst hji;rw [if_pos rfl,fD,aG,if_pos rfl];simp
       ·rw [if_neg hji,← s2.dirty j hj];simp [hji,isP]
      next:=fun j hj hdj=>by
       rw [fK t hql] at hdj ⊢
       simp only [nxt,rU]
       by_cases hji:q=j
       ·subst hji;rw [if_pos rfl,if_pos rfl,fN,aG,if_neg (by decide),aG,if_pos rfl]
       ·rw [if_neg hji] at hdj ⊢
        rw [if_neg (FV hji)];exact s2.next j hj hdj
      wkeys:=s2.wkeys
      wnd:=s2.wnd
      worn:=fun j hj=>by
       show isW d' j=_
       rw [s2.worn j hj,fK t hql]
       by_cases hji:q=j
       ·subst hji;rw [if_pos rfl];simp only [fW];rw [aG,if_neg (by decide),aG,if_neg (by decide)]
       ·rw [if_neg hji]
      off:=s2.off
      left:=s2.left
      lo:=s2.lo
      hi:=s2.hi }
    ·exact⟨s1,s2⟩
   ·exact⟨rfl,h⟩
 ·exact⟨rfl,h⟩
theorem Rel.read{d:D}{r:R}(h:Rel d r)(i:Int):read d i=mC r i:=by
 simp only [Dk.read,mC,h.check]
 cases ho:r.off
 ·cases hi:ris r i
  ·rfl
  ·simp only [cond_false,Bool.not_true,bne_self_eq_false]
   have hr:=gd.1 hi
   rw [h.n] at hr
   obtain⟨q,rfl⟩:∃ q:Nat,i=(q:Int):=⟨i.toNat,by omega⟩
   have hq:q < d.n:=by omega
   simp only [R.at,Int.toNat_natCast]
   rw [h.dirty q hq]
   cases hd:fD (r.s.getD q [])
   ·simp only [cond_false];rw [h.text q hq]
   ·simp only [cond_true]
    rw [List.take_of_length_le (by rw [nxt,mget64 h.ok.vals];exact Nat.le_refl _),h.next q hq hd]
 ·rfl
theorem Rel.trip{d:D}{r:R}(h:Rel d r)(n:Int)(h1 : -9223372036854775808≤n)(h2:n≤9223372036854775807):Rel (trip d n) (bI r n):=
 { h with
  left:=by
   show n=(if n > -1 then n else -1)∨(n < 0∧(if n > -1 then n else -1) < 0)
   split
   ·exact .inl rfl
   ·exact .inr ⟨by omega,by decide⟩
  lo:=h1
  hi:=h2 }
theorem Ji{d:D}{r:R}(h:Rel d r)(i:Int){α:Type}(a b:α):cond (decide (i < 0)) a (cond (decide (i≥(d.n:Int))) a b)=cond (!ris r i) a b:=by
 simp only [ris,h.n]
 by_cases h1:i < 0
 ·rw [aa h1,ad (show ¬ i≥0 by omega)];rfl
 ·rw [ad h1,aa (show i≥0 by omega)]
  by_cases h2:i≥(d.n:Int)
  ·rw [aa h2,show decide (i < (d.n:Int))=false by simp;omega];rfl
  ·rw [ad h2,show decide (i < (d.n:Int))=true by simp;omega];rfl
theorem Rel.wear{d:D}{r:R}(h:Rel d r)(i:Int):(wear d i).2=(fB r i).2∧Rel (wear d i).1 (fB r i).1:=by
 simp only [Dk.wear,fB,Ji h]
 cases hi:ris r i
 ·exact⟨rfl,h⟩
 ·simp only [Bool.not_true,cond_false]
  have hr:=gd.1 hi
  rw [h.n] at hr
  obtain⟨q,rfl⟩:∃ q:Nat,i=(q:Int):=⟨i.toNat,by omega⟩
  have hq:q < d.n:=by omega
  have hql:q < r.s.length:=by rw [h.n];exact hq
  simp only [R.at,Int.toNat_natCast]
  have get:=fu (bf (r.s.getD q []) 3 [1]) hql
  exact⟨trivial,{
   n:=by simp only [List.length_set];exact h.n
   small:=h.small
   len:=h.len
   text:=fun j hj=>by
    rw [h.text j hj,get]
    by_cases hji:q=j
    ·subst hji;rw [if_pos rfl];simp only [fT];rw [aG,if_neg (by decide)]
    ·rw [if_neg hji]
   keys:=h.keys
   nd:=h.nd
   dirty:=fun j hj=>by
    show isP d j=_
    rw [h.dirty j hj,get]
    by_cases hji:q=j
    ·subst hji;rw [if_pos rfl];simp only [fD];rw [aG,if_neg (by decide)]
    ·rw [if_neg hji]
   next:=fun j hj hdj=>by
    show nxt d j=_
    rw [get] at hdj ⊢
    by_cases hji:q=j
    ·subst hji
     rw [if_pos rfl] at hdj ⊢
     simp only [fD,fN] at hdj ⊢
     rw [aG,if_neg (by decide)] at hdj ⊢
     exact h.next q hj hdj
    ·rw [if_neg hji] at hdj ⊢
     exact h.next j hj hdj
   wkeys:=j7 ⟨⟨q,hq,rfl⟩,rfl⟩ h.wkeys
   wnd:=pz h.wnd
   worn:=fun j hj=>by
    rw [get]
    simp only [isW,rU]
    by_cases hji:q=j
    ·subst hji;rw [if_pos rfl,if_pos rfl];simp only [fW];rw [aG,if_pos rfl]
    ·rw [if_neg hji,if_neg (FV hji)];exact h.worn j hj
   off:=h.off
   left:=h.left
   lo:=h.lo
   hi:=h.hi }⟩
theorem Rel.rot{d:D}{r:R}(h:Rel d r)(i b:Int):(rot d i b).2=(rQ r i b).2∧Rel (rot d i b).1 (rQ r i b).1:=by
 simp only [Dk.rot,rQ,Ji h]
 cases hi:ris r i
 ·exact⟨rfl,h⟩
 ·simp only [Bool.not_true,cond_false]
  by_cases hb0:b < 0
  ·simp only [aa hb0];exact⟨trivial,h⟩
  ·by_cases hb1:b > 511
   ·simp only [ad hb0,aa hb1,aa (show b≥512 by omega)];exact⟨trivial,h⟩
   ·simp only [ad hb0,ad hb1,ad (show ¬ b≥512 by omega)]
    refine⟨trivial,?_⟩
    have hr:=gd.1 hi
    rw [h.n] at hr
    obtain⟨q,rfl⟩:∃ q:Nat,i=(q:Int):=⟨i.toNat,by omega⟩
    have hq:q < d.n:=by omega
    have hql:q < r.s.length:=by rw [h.n];exact hq
    have e8:Int.tdiv b 8=b / 8:=iw (by omega)
    have hm:(Int.tdiv b 8).toNat < 64:=by rw [e8];omega
    simp only [R.at,Int.toNat_natCast,place]
    generalize (Int.tdiv b 8).toNat=m at hm
    have hl:=h.len
    have ev:d.blk.getD (m+q*64) 0=(fT (r.s.getD q [])).getD m 0:=by
     rw [← h.text q hq,List.getD_eq_getElem?_getD,List.getD_eq_getElem?_getD,gg,if_pos hm,Nat.add_comm]
    rw [ev]
    generalize af .xor .u8 ((fT (r.s.getD q [])).getD m 0) (bit b)=v
    have get:=fu (bf (r.s.getD q []) 0 ((fT (r.s.getD q [])).set m v)) hql
    exact {
     n:=by simp only [List.length_set];exact h.n
     small:=h.small
     len:=by simp only [List.length_set];exact h.len
     text:=fun j hj=>by
      rw [aY5 _ _ _ _ _ hm,get]
      by_cases hji:q=j
      ·subst hji;rw [if_pos rfl,if_pos rfl,h.text q hj];simp only [fT];rw [aG,if_pos rfl]
      ·rw [if_neg hji,if_neg (Ne.symm hji)];exact h.text j hj
     keys:=h.keys
     nd:=h.nd
     dirty:=fun j hj=>by
      show isP d j=_
      rw [h.dirty j hj,get]
      by_cases hji:q=j
      ·subst hji;rw [if_pos rfl];simp only [fD];rw [aG,if_neg (by decide)]
      ·rw [if_neg hji]
     next:=fun j hj hdj=>by
      show nxt d j=_
      rw [get] at hdj ⊢
      by_cases hji:q=j
      ·subst hji
       rw [if_pos rfl] at hdj ⊢
       simp only [fD,fN] at hdj ⊢
       rw [aG,if_neg (by decide)] at hdj ⊢
       exact h.next q hj hdj
      ·rw [if_neg hji] at hdj ⊢
       exact h.next j hj hdj
     wkeys:=h.wkeys
     wnd:=h.wnd
     worn:=fun j hj=>by
      show isW d j=_
      rw [h.worn j hj,get]
      by_cases hji:q=j
      ·subst hji;rw [if_pos rfl];simp only [fW];rw [aG,if_neg (by decide)]
      ·rw [if_neg hji]
     off:=h.off
     left:=h.left
     lo:=h.lo
     hi:=h.hi }
theorem Rel.op{d:D}{r:R}(h:Rel d r)(h0:0 < d.n)(k i b:Int)(t p:Li)(h1 : -9223372036854775808≤i)(h2:i≤9223372036854775807):(op d k i b t p).2=(rop r k i b t p).2∧Rel (op d k i b t p).1 (rop r k i b t p).1:=by
 simp only [Dk.op,rop]
 cases (k==1)
 ·cases (k==2)
  ·cases (k==3)
   ·cases (k==4)
    ·cases (k==5)
     ·cases (k==6)
      ·cases (k==7)
       ·exact⟨rfl,h⟩
       ·obtain⟨q1,q2⟩:=h.wear i;simp only [cond_true,cond_false];exact⟨by rw [q1],q2⟩
      ·obtain⟨q1,q2⟩:=h.rot i b;simp only [cond_true,cond_false];exact⟨by rw [q1],q2⟩
     ·exact⟨rfl,h.mount p⟩
    ·exact⟨rfl,h.trip i h1 h2⟩
   ·obtain⟨q1,q2⟩:=h.flush h0;simp only [cond_true,cond_false];exact⟨by rw [q1],q2⟩
  ·exact⟨h.read i,h⟩
 ·obtain⟨q1,q2⟩:=h.write i (Dk.text t);simp only [cond_true,cond_false];exact⟨by rw [q1],q2⟩
theorem yj{n:Int}(h0:0 < n)(h1:n < 8000):Rel (new n) (js n):=by
 have get:∀ i:Nat,i < n.toNat→(js n).s.getD i []=[List.replicate 64 0,[],[0],[0]]:=fun i hi=>by
  simp only [js]
  rw [List.getD_eq_getElem?_getD,List.getElem?_replicate,if_pos hi];rfl
 exact {
  n:=by simp [new,js]
  small:=by simp only [new];omega
  len:=by simp [new]
  text:=fun i hi=>by
   have hi':i < n.toNat:=hi
   rw [get i hi']
   refine List.ext_getElem? fun k=>?_
   rw [gg]
   simp only [new,fT,List.getD_cons_zero,List.getElem?_replicate]
   by_cases hk:k < 64
   ·rw [if_pos hk,if_pos hk,if_pos (by omega)]
   ·rw [if_neg hk,if_neg hk]
  keys:=fun e he=>by simp [new] at he
  nd:=List.nodup_nil
  dirty:=fun i hi=>by rw [get i hi];rfl
  next:=fun i hi hd=>by rw [get i hi] at hd;cases hd
  wkeys:=fun e he=>by simp [new] at he
  wnd:=List.nodup_nil
  worn:=fun i hi=>by rw [get i hi];rfl
  off:=rfl
  left:=.inl rfl
  lo:=by show(-9223372036854775808:Int) ≤ -1;decide
  hi:=by show(-1:Int)≤9223372036854775807;decide }
theorem vd(picks:Li):∀ (l:Li) (k:Nat) (d:D),(mountAll picks l k d).n=d.n
 | [],_,_=>rfl
 | i :: l,k,d=>by rw [mountAll,vd picks l];rfl
theorem Jj(l:Li):∀ d:D,(l.foldl (fun e i=>settle e i 64) d).n=d.n:=by
 induction l with
 | nil=>intro d;rfl
 | cons i l ih=>intro d;rw [List.foldl_cons,ih];rfl
theorem a3l(d:D)(k i b:Int)(t p:Li):(op d k i b t p).1.n=d.n:=by
 have hs:=(step_same d).1
 simp only [op]
 cases (k==1)
 ·cases (k==2)
  ·cases (k==3)
   ·cases (k==4)
    ·cases (k==5)
     ·cases (k==6)
      ·cases (k==7)
       ·rfl
       ·simp only [cond_true,cond_false,wear]
        cases decide (i < 0) <;> cases decide (i≥(d.n:Int)) <;> rfl
      ·simp only [cond_true,cond_false,rot]
       cases decide (i < 0) <;> cases decide (i≥(d.n:Int)) <;> cases decide (b < 0) <;> cases decide (b≥512) <;> rfl
     ·exact vd p _ 0 d
    ·rfl
   ·simp only [cond_true,cond_false,flush]
    cases (check d 0 != 0)
    ·cases ((step d).2 != 0)
     ·exact(Jj _ _).trans hs
     ·exact hs
    ·rfl
  ·rfl
 ·simp only [cond_true,cond_false,write]
  cases (check d i != 0)
  ·cases (((text t).length:Int) != 64)
   ·cases ((step d).2 != 0) <;> exact hs
   ·rfl
  ·rfl
def opx(xs:List (List Li))(k:Nat)(d:D):D×List Int×Int:=op d (((xs.getD k []).getD 0 []).getD 0 0) (((xs.getD k []).getD 1 []).getD 0 0) (((xs.getD k []).getD 2 []).getD 0 0) ((xs.getD k []).getD 3 []) ((xs.getD k []).getD 4 [])
def a3m(xs:List (List Li))(k:Nat)(r:R):R×List Int×Int:=rop r (((xs.getD k []).getD 0 []).getD 0 0) (((xs.getD k []).getD 1 []).getD 0 0) (((xs.getD k []).getD 2 []).getD 0 0) ((xs.getD k []).getD 3 []) ((xs.getD k []).getD 4 [])
def dAt(xs:List (List Li)):Nat→D→D
 | 0,d=>d
 | k+1,d=>(opx xs k (dAt xs k d)).1
def rAt(xs:List (List Li)):Nat→R→R
 | 0,r=>r
 | k+1,r=>(a3m xs k (rAt xs k r)).1
theorem Rel.run{d:D}{r:R}(h:Rel d r)(h0:0 < d.n){xs:List (List Li)}{n:Nat}
  (hx:∀ k,k < n → -9223372036854775808≤((xs.getD k []).getD 1 []).getD 0 0∧((xs.getD k []).getD 1 []).getD 0 0≤9223372036854775807):∀ k,k≤n→Rel (dAt xs k d) (rAt xs k r)∧0 < (dAt xs k d).n
 | 0,_=>⟨h,h0⟩
 | k+1,hk=>by
  obtain⟨h1,h2⟩:=h.run h0 hx k (by omega)
  obtain⟨q1,q2⟩:=hx k (by omega)
  have h3:=h1.op h2 (((xs.getD k []).getD 0 []).getD 0 0) (((xs.getD k []).getD 1 []).getD 0 0) (((xs.getD k []).getD 2 []).getD 0 0) ((xs.getD k []).getD 3 []) ((xs.getD k []).getD 4 []) q1 q2
  refine⟨h3.2,?_⟩
  have:(opx xs k (dAt xs k d)).1.n=(dAt xs k d).n:=a3l _ _ _ _ _ _
  simp only [dAt];omega
end Go.Dk
end
section
/- What the functions of package journal compute, in plain terms. -/
namespace Go.Jr
open Go Go.Am
def count(n:Int):Int:=cond (decide (n < 0∨8000 < n)) 0 (if (n+47) / 48 > 1 then (n+47) / 48 else 1)
def small(n:Int)(k:Nat):List Int:=(List.range k).map fun i=>n / 256^i%256
def num(b:Li):Int:=b.foldr (fun x n=>256*n+x) 0
def put(b:Li)(o:Nat)(n:Int):Nat→List Int
 | 0=>b
 | k+1=>put (b.set o (n%256)) (o+1) (n / 256) k
def rest(t:Li)(k:Nat):List Int:=t.drop (48*k)
def fill(r:Li):List Int:=r.take 48++List.replicate (48-r.length) 0
def front(number:Int)(t:Li)(k:Nat):List Int:=small number 4++small (k:Int) 2++small ((rest t k).length:Int) 2++fill (rest t k)
def checked(b:Li):List Int:=b++(Sha.hash b).take 8
def sector(number:Int)(t:Li)(k:Nat):List Int:=checked (front number t k)
def sectors(number:Int)(t:Li):List Li:=(List.range (count t.length).toNat).map (sector number t)
def pack(number:Int)(t:Li):List Li×Int:=cond (decide (number < 1∨4096 < number)) ([],1) (cond (decide ((8000:Int) < t.length)) ([],4) (sectors number t,0))
structure Part where
 number:Int
 part:Int
 left:Int
 payload:List Int
 ok:Bool
def Part.zero:Part:=⟨0,0,0,[],false⟩
def b2i(b:Bool):Int:=cond b 1 0
def Part.row(p:Part):List Li:=[[p.number],[p.part],[p.left],p.payload,[b2i p.ok]]
def fNum(s:Li):Int:=num (s.take 4)
def fPart(s:Li):Int:=num ((s.drop 4).take 2)
def fLeft(s:Li):Int:=num ((s.drop 6).take 2)
def fN(s:Li):Nat:=min (fLeft s).toNat 48
def cd(s:Li):Bool:=decide (s.length=64)&&((Sha.hash (s.take 56)).take 8==s.drop 56)&&decide (1≤fNum s∧fNum s≤4096∧48*fPart s+fLeft s≤8000∧¬ (fLeft s < 1∧0 < fPart s)) &&
 ((s.drop (8+fN s)).take (48-fN s)==List.replicate (48-fN s) 0)
def unpack(s:Li):Part:=cond (cd s) ⟨fNum s,fPart s,fLeft s,(s.drop 8).take (fN s),true⟩ Part.zero
def blank(s:Li):Bool:=s.all (· == 0)
structure J where
 nums:List Int
 texts:List Li
 bad:List Int
 next:Int
 fin:Int
 closed:Bool
def finOf(S:List Li):Nat→Int
 | 0=>0
 | k+1=>cond (blank (S.getD k [])) (finOf S k) ((k:Int)+1)
def badOf(S:List Li)(k:Nat):List Int:=((List.range k).filter fun i=>!blank (S.getD i []) && !(unpack (S.getD i [])).ok).map fun i:Nat=>(i:Int)
def nextOf(S:List Li):Nat→Int
 | 0=>1
 | k+1=>if (unpack (S.getD k [])).number+1 > nextOf S k then (unpack (S.getD k [])).number+1 else nextOf S k
def pt(l:List Part)(k:Nat):Part:=l.getD k Part.zero
def recN(l:List Part)(k:Nat):Nat:=(count (pt l k).left).toNat
def partOk(l:List Part)(k i:Nat):Bool:=(pt l (k+i)).ok&&decide ((pt l (k+i)).number=(pt l k).number∧(pt l (k+i)).part=(i:Int)∧(pt l (k+i)).left=(pt l k).left-48*i)
def recOk(l:List Part)(k:Nat):Bool:=(pt l k).ok&&decide ((pt l k).part=0∧k+recN l k≤l.length)&&(List.range (recN l k)).all (partOk l k)
def recText(l:List Part)(k n:Nat):List Int:=(List.range n).flatMap fun i=>(pt l (k+i)).payload
def put1(a:List Int×List Li)(n:Int)(t:Li):List Int×List Li:=cond (a.1.contains n) a (a.1++[n],a.2++[t])
def collect(l:List Part):Nat→Nat→List Int×List Li→List Int×List Li
 | 0,_,a=>a
 | f+1,k,a=>cond (decide (k < l.length)) (cond (recOk l k) (collect l f (k+recN l k) (put1 a (pt l k).number (recText l k (recN l k)))) (collect l f (k+1) a)) a
def openS(S:List Li):J:=
 ⟨(collect (S.map unpack) S.length 0 ([],[])).1,(collect (S.map unpack) S.length 0 ([],[])).2,badOf S S.length,nextOf S S.length,finOf S S.length,false⟩
def damaged(j:J):List Int:=((List.range (j.next-1).toNat).filter fun i:Nat=>!j.nums.contains ((i:Int)+1)).map fun i:Nat=>(i:Int)+1
structure Dev (δ:Type) where
 n:δ→Int
 write:δ→Int→List Int→δ×Int
 flush:δ→δ×Int
 read:δ→Int→List Int×Int
def writes{δ:Type}(V:Dev δ)(at_:Int)(L:List Li):Nat→δ→δ×Int
 | 0,d=>(d,0)
 | k+1,d=>cond ((writes V at_ L k d).2 != 0) (writes V at_ L k d) (V.write (writes V at_ L k d).1 (at_+k) (L.getD k []))
def reads{δ:Type}(V:Dev δ)(d:δ)(at_:Int)(L:List Li):Nat→Bool×Int
 | 0=>(true,0)
 | k+1=>cond ((reads V d at_ L k).2 != 0) (reads V d at_ L k) (cond ((V.read d (at_+k)).2 != 0) (false,(V.read d (at_+k)).2) ((reads V d at_ L k).1&&(L.getD k []==(V.read d (at_+k)).1),0))
def writeAll{δ:Type}(V:Dev δ)(d:δ)(at_:Int)(L:List Li):δ×Int×Bool:=
 cond ((writes V at_ L L.length d).2 != 0) ((writes V at_ L L.length d).1,(writes V at_ L L.length d).2,false)
  (cond ((V.flush (writes V at_ L L.length d).1).2 != 0) ((V.flush (writes V at_ L L.length d).1).1,(V.flush (writes V at_ L L.length d).1).2,false)
   ((V.flush (writes V at_ L L.length d).1).1,(reads V (V.flush (writes V at_ L L.length d).1).1 at_ L L.length).2,(reads V (V.flush (writes V at_ L L.length d).1).1 at_ L L.length).1))
def append{δ:Type}(V:Dev δ)(d:δ)(j:J)(t:Li):δ×J×Int×Int:=
 cond j.closed (d,j,0,22) (cond (decide ((8000:Int) < t.length)) (d,j,0,4) (cond (decide (j.next > 4096)) (d,j,0,4) (cond (decide (count t.length > V.n d-j.fin)) (d,j,0,21)
  (let r:=writeAll V d j.fin (sectors j.next t)
   let k:J:={ j with next:=j.next+1,fin:=j.fin+count t.length }
   cond (r.2.1 != 0) (r.1,{ k with closed:=true },0,r.2.1) (cond (!r.2.2) (r.1,k,0,23) (r.1,{ k with nums:=k.nums++[j.next],texts:=k.texts++[t] },j.next,0))))))
theorem small_len(n:Int)(k:Nat):(small n k).length=k:=by simp [small]
theorem mE(n:Int)(k:Nat):small n (k+1)=n%256 :: small (n / 256) k:=by
 simp only [small,List.range_succ_eq_map,List.map_cons,List.map_map,Int.pow_zero,Int.ediv_one]
 congr 1
 refine List.map_congr_left fun i _=>?_
 simp only [Function.comp]
 rw [Int.ediv_ediv_of_nonneg (by decide),Int.pow_succ,Int.mul_comm]
theorem num_cons(x:Int)(b:Li):num (x :: b)=256*num b+x:=rfl
theorem num_bound:∀ (b:Li),(∀ x∈b,0≤x∧x < 256)→0≤num b∧num b < 256^b.length
 | [],_=>⟨Int.le_refl _,by simp [num]⟩
 | x :: b,h=>by
  obtain⟨h1,h2⟩:=num_bound b fun y hy=>h y (.tail _ hy)
  have:=h x (.head _)
  rw [num_cons,List.length_cons,Int.pow_succ]
  omega
theorem pow_le4{k:Nat}(h:k≤4):(256:Int)^k≤4294967296:=by
 have:((256^k:Nat):Int)≤((256^4:Nat):Int):=Int.ofNat_le.2 (Nat.pow_le_pow_right (by decide) h)
 simpa using this
theorem small_snoc(n:Int)(k:Nat):small n (k+1)=small n k++[n / 256^k%256]:=by simp [small,List.range_succ]
theorem i7:∀ (k:Nat) (n:Int),0≤n→n < 256^k→num (small n k)=n
 | 0,n,h,h2=>by simp [small,num] at *;omega
 | k+1,n,h,h2=>by
  rw [mE,num_cons,i7 k (n / 256) (by omega) (by rw [Int.pow_succ] at h2;omega)];omega
theorem small_byte(n:Int)(k:Nat):∀ x∈small n k,0≤x∧x < 256:=fun x hx=>by
 simp only [small,List.mem_map] at hx
 obtain⟨i,_,rfl⟩:=hx
 omega
theorem fill_len(r:Li):(fill r).length=48:=by simp only [fill,List.length_append,List.length_take,List.length_replicate];omega
theorem fill_map(r:Li):((List.range 48).map fun q=>r.getD q 0)=fill r:=by
 apply List.ext_getElem?
 intro q
 rw [List.getElem?_map,fill]
 by_cases h:q < 48
 ·rw [List.getElem?_range h]
  by_cases h2:q < r.length
  ·rw [List.getElem?_append_left (by rw [List.length_take];omega),List.getElem?_take,if_pos h,List.getElem?_eq_getElem h2,Option.map_some,List.getD_eq_getElem?_getD,List.getElem?_eq_getElem h2];rfl
  ·rw [List.getElem?_append_right (by rw [List.length_take];omega),List.getElem?_replicate,if_pos (by rw [List.length_take];omega),Option.map_some,List.getD_eq_getElem?_getD,List.getElem?_eq_none (by omega)];rfl
 ·rw [List.getElem?_eq_none (by simp;omega),Option.map_none,List.getElem?_eq_none (by simp only [List.length_append,List.length_take,List.length_replicate];omega)]
theorem oz(number:Int)(t:Li)(k:Nat):(front number t k).length=56:=by simp only [front,List.length_append,small_len,fill_len]
theorem hash8(b:Li):((Sha.hash b).take 8).length=8:=by rw [List.length_take,Sha.hash_len];rfl
theorem It(b:Li):(checked b).length=b.length+8:=by rw [checked,List.length_append,hash8]
theorem sector_len(number:Int)(t:Li)(k:Nat):(sector number t k).length=64:=by rw [sector,It,oz]
theorem sectors_len(number:Int)(t:Li):(sectors number t).length=(count t.length).toNat:=by simp [sectors]
theorem count_ok{n:Nat}(h:n≤8000):1≤count n∧(n:Int)≤48*count n∧48*(count n-1)≤n∧count n≤167∧(0 < n→48*(count n-1) < n):=by
 have e:count n=if ((n:Int)+47) / 48 > 1 then ((n:Int)+47) / 48 else 1:=by rw [count,decide_eq_false (by omega)];rfl
 rw [e]
 split <;> omega
theorem qG(number:Int)(t:Li)(k:Nat)(b:Li):(front number t k++b).take 4=small number 4:=by
 simp only [front,List.append_assoc]
 exact List.take_left' (small_len _ _)
theorem Iu(number:Int)(t:Li)(k:Nat)(b:Li):((front number t k++b).drop 4).take 2=small k 2:=by
 simp only [front,List.append_assoc]
 rw [List.drop_left' (small_len _ _)]
 exact List.take_left' (small_len _ _)
theorem Iv(number:Int)(t:Li)(k:Nat)(b:Li):((front number t k++b).drop 6).take 2=small ((rest t k).length:Int) 2:=by
 have e:(front number t k++b)=(small number 4++small k 2)++(small ((rest t k).length:Int) 2++(fill (rest t k)++b)):=by simp only [front,List.append_assoc]
 rw [e,List.drop_left' (by rw [List.length_append,small_len,small_len])]
 exact List.take_left' (small_len _ _)
theorem Iw(number:Int)(t:Li)(k:Nat)(b:Li):(front number t k++b).drop 8=fill (rest t k)++b:=by
 have e:(front number t k++b)=(small number 4++small k 2++small ((rest t k).length:Int) 2)++(fill (rest t k)++b):=by simp only [front,List.append_assoc]
 rw [e,List.drop_left' (by simp only [List.length_append,small_len])]
theorem rest_len(t:Li)(k:Nat):(rest t k).length=t.length-48*k:=by simp [rest]
theorem cf{number:Int}{t:List Int}{k:Nat}(h1:1≤number)(h2:number≤4096)(ht:t.length≤8000)(hk:(k:Int) < count t.length):
  unpack (sector number t k)=⟨number,k,(t.length:Int)-48*k,(rest t k).take 48,true⟩:=by
 obtain⟨c1,c2,c3,c4,c5⟩:=count_ok ht
 have hr:=rest_len t k
 have hk8:48*k≤t.length:=by omega
 have hk7:k < 167:=by omega
 have f1:fNum (sector number t k)=number:=by
  rw [fNum,sector,checked,qG,i7 4 number (by omega) (by omega)]
 have f2:fPart (sector number t k)=k:=by
  rw [fPart,sector,checked,Iu,i7 2 (k:Int) (by omega) (by omega)]
 have f3:fLeft (sector number t k)=(t.length:Int)-48*k:=by
  rw [fLeft,sector,checked,Iv,i7 2 _ (by omega) (by omega)];omega
 have f4:fN (sector number t k)=min (rest t k).length 48:=by rw [fN,f3,hr];congr 1;omega
 have f5:(sector number t k).drop 8=fill (rest t k)++(Sha.hash (front number t k)).take 8:=by rw [sector,checked,Iw]
 have f6:((sector number t k).drop 8).take (fN (sector number t k))=(rest t k).take 48:=by
  rw [f5,f4,List.take_append_of_le_length (by rw [fill_len];omega),fill]
  rcases Nat.le_total (rest t k).length 48 with h | h
  ·rw [Nat.min_eq_left h,List.take_of_length_le h]
   exact List.take_left' rfl
  ·rw [Nat.min_eq_right h,show 48-(rest t k).length=0 by omega,List.replicate_zero,List.append_nil,List.take_take,Nat.min_self]
 have f7:((sector number t k).drop (8+fN (sector number t k))).take (48-fN (sector number t k))=List.replicate (48-fN (sector number t k)) 0:=by
  rw [← List.drop_drop,f5,f4]
  rcases Nat.le_total (rest t k).length 48 with h | h
  ·rw [Nat.min_eq_left h,fill,List.take_of_length_le h,List.append_assoc,List.drop_left' rfl]
   exact List.take_left' (by simp)
  ·rw [Nat.min_eq_right h];simp
 have f8:(Sha.hash ((sector number t k).take 56)).take 8=(sector number t k).drop 56:=by
  rw [sector,checked,List.take_left' (oz _ _ _),List.drop_left' (oz _ _ _)]
 have hg:cd (sector number t k)=true:=by
  simp only [cd,Bool.and_eq_true,decide_eq_true_eq,beq_iff_eq]
  refine⟨⟨⟨sector_len _ _ _,f8⟩,?_⟩,f7⟩
  rw [f1,f2,f3]
  omega
 rw [unpack,hg,cond_true,f1,f2,f3,f6]
theorem unpack_not{s:List Int}(h:s.length≠64∨(Sha.hash (s.take 56)).take 8≠s.drop 56∨¬ (1≤fNum s∧fNum s≤4096∧48*fPart s+fLeft s≤8000∧¬ (fLeft s < 1∧0 < fPart s)) ∨
  (s.drop (8+fN s)).take (48-fN s)≠List.replicate (48-fN s) 0):unpack s=Part.zero:=by
 have:cd s=false:=by
  cases hg:cd s with
  | false=>rfl
  | true=>
   simp only [cd,Bool.and_eq_true,decide_eq_true_eq,beq_iff_eq] at hg
   obtain⟨⟨⟨h1,h2⟩,h3⟩,h4⟩:=hg
   rcases h with h | h | h | h
   ·exact absurd h1 h
   ·exact absurd h2 h
   ·exact absurd h3 h
   ·exact absurd h4 h
 rw [unpack,this];rfl
theorem unpack_is{s:List Int}(h1:s.length=64)(h2:(Sha.hash (s.take 56)).take 8=s.drop 56)(h3:1≤fNum s∧fNum s≤4096∧48*fPart s+fLeft s≤8000∧¬ (fLeft s < 1∧0 < fPart s))
  (h4:(s.drop (8+fN s)).take (48-fN s)=List.replicate (48-fN s) 0):unpack s=⟨fNum s,fPart s,fLeft s,(s.drop 8).take (fN s),true⟩:=by
 have:cd s=true:=by
  simp only [cd,Bool.and_eq_true,decide_eq_true_eq,beq_iff_eq]
  exact⟨⟨⟨h1,h2⟩,h3⟩,h4⟩
 rw [unpack,this];rfl
theorem checked_eq{s:List Int}(h:s.length=64):(checked (s.take 56)==s)=((Sha.hash (s.take 56)).take 8==s.drop 56):=by
 rw [Bool.eq_iff_iff,beq_iff_eq,beq_iff_eq,checked]
 constructor
 ·intro e
  have:=congrArg (List.drop 56) e
  rwa [List.drop_left' (by rw [List.length_take];omega)] at this
 ·intro e;rw [e,List.take_append_drop]
theorem zeros_iff{s:List Int}{o n:Nat}(h:o+n≤s.length):(s.drop o).take n=List.replicate n 0 ↔ ∀ j,j < n→s.getD (o+j) 0=0:=by
 constructor
 ·intro e j hj
  have:=congrArg (fun l=>l[j]?) e
  simp only [List.getElem?_take,List.getElem?_drop,List.getElem?_replicate,hj,if_true] at this
  rw [List.getD_eq_getElem?_getD,this];rfl
 ·intro e
  apply List.ext_getElem?
  intro j
  by_cases hj:j < n
  ·have:=e j hj
   rw [List.getD_eq_getElem?_getD,List.getElem?_eq_getElem (by omega)] at this
   rw [List.getElem?_take,if_pos hj,List.getElem?_drop,List.getElem?_replicate,if_pos hj,List.getElem?_eq_getElem (by omega)]
   exact congrArg some this
  ·rw [List.getElem?_take,if_neg hj,List.getElem?_replicate,if_neg hj]
theorem zo(t:Li):∀ n:Nat,((List.range n).flatMap fun k=>(rest t k).take 48)=t.take (48*n)
 | 0=>by simp
 | n+1=>by
  rw [List.range_succ,List.flatMap_append,zo t n,List.flatMap_cons,List.flatMap_nil,List.append_nil,rest,Nat.mul_succ,List.take_add]
theorem Zu{t:List Int}(ht:t.length≤8000):((List.range (count t.length).toNat).flatMap fun k=>(rest t k).take 48)=t:=by
 obtain⟨c1,c2,c3,c4,c5⟩:=count_ok ht
 rw [zo,List.take_of_length_le (by omega)]
theorem FX{number:Int}{t:List Int}{k:Nat}(h1:1≤number)(h2:number≤4096):blank (sector number t k)=false:=by
 cases hb:blank (sector number t k) with
 | false=>rfl
 | true=>
  exfalso
  have h0:∀ x∈small number 4,x=0:=fun x hx=>by
   have:=List.all_eq_true.1 hb x (by rw [sector,checked,← List.take_append_drop 4 (front number t k++_),qG];exact List.mem_append_left _ hx)
   simpa using this
  have hz:∀ l:List Int,(∀ x∈l,x=0)→num l=0:=fun l=>by
   induction l with
   | nil=>intro _;rfl
   | cons x l ih=>intro h;rw [num_cons,ih fun y hy=>h y (.tail _ hy),h x (.head _)];rfl
  have:=hz _ h0
  rw [i7 4 number (by omega) (by omega)] at this
  omega
end Go.Jr

namespace Go.Am
abbrev jB(a k b c d:Nat)(x f:Int)(q:Bool):Blk:=.cells 7 (.segs (.cons 1 (.one (.ptr a 0 k 0 0 0 k)) (.cons 1 (.one (.own b 0 1)) (.cons 1 (.one (.own c 0 1)) (.cons 1 (.one (.own d 0 1)) (.cons 1 (.one (.int .i64 x)) (.cons 1 (.one (.int .i64 f)) (.cons 1 (.one (.bool q)) .nil)))))))) true
abbrev jE(a k b c d:Nat)(e:Jr.J):Blk:=jB a k b c d e.next e.fin e.closed
end Go.Am
end
section
namespace Go.Am
open Go Go.Proofs
abbrev MB:List (Nat×Md):=[(0,.plain),(3,.plain),(4,.plain)]
abbrev MC:List (Nat×Md):=[(0,.plain),(1,.plain),(5,.own 5),(6,.plain)]
abbrev cU:List (Nat×Md):=[(0,.plain),(1,.plain)]
abbrev a0g:List (Nat×Md):=[(0,.plain),(1,.plain),(5,.own 5)]
abbrev oC:List (Nat×Md):=[(0,.plain),(1,.plain),(5,.plain)]
abbrev rV:=Int×Int×Int×Li
abbrev fL:=(List Li)×(List Li)
abbrev rW:=(List Li)×(List Li)×Int
def a3n:List aF:=[]
def V34:Env:=ar aE ao a3n
noncomputable abbrev a3o:=aI V34 none (Tryz.f34).results.toList
theorem a3p:EOk Tryz.prog V34:=aj (by exact trivial)
def a3q(F:Nat):Cuts:={ F:=F,at_:=fun _=>none,join:=fun _=>none }
abbrev a3r(F n:Nat){σ:Type}(e:σ→St)(K:Ex→St→Rz)(N:σ→Rz):=Qe V34 (a3q F) (bp Tryz.f34 n) e K N
def Ts:Int→St:=fun a=>hS [iS 0 a] [] 14 0
def MD(F:Nat):Int→Rz:=fun a=>(cond (decide (a < (0:Int))) (some ((.int .i64 0),[])) (cond (decide (a > (8000:Int))) (some ((.int .i64 0),[])) (some ((.int .i64 (if (IntKind.i64.wrap (Int.tdiv (IntKind.i64.wrap ((IntKind.i64.wrap (a+(48:Int)))-(1:Int))) (48:Int))) > (1:Int) then (IntKind.i64.wrap (Int.tdiv (IntKind.i64.wrap ((IntKind.i64.wrap (a+(48:Int)))-(1:Int))) (48:Int))) else (1:Int))),[]))))
theorem Zv F:a3r F 1 Ts a3o (MD F):=fun _=>by kernel_rfl
def f34(F:Nat):Int→Rz:=MD F
def r34:aB:=fun X H=>match X,H with
 | [(.int .i64 a0)],[]=>some (true,(.int .i64 (Jr.count a0)),[])
 | _,_=>none
theorem s34(a0:Int)(h0:okV (.int .i64 a0)):∃ F,f34 F a0=some ((.int .i64 (Jr.count a0)),[]):=by
 have hw:=h0
 refine⟨0,?_⟩
 simp only [f34,MD]
 by_cases h1:a0 < 0
 ·rw [aa h1,Jr.count,aa (.inl h1)]
 by_cases h2:a0 > 8000
 ·rw [ad h1,aa h2,Jr.count,aa (.inr h2)]
 rw [ad h1,ad h2,Jr.count,ad (by omega),ah (x:=a0+48) (by omega) (by omega),ah (x:=a0+48-1) (by omega) (by omega),iw (by omega),ah (by omega) (by omega),show a0+48-1=a0+47 by omega]
theorem c34:Ck 34 r34:=ck a3p Tryz.func34 (by
 intro X H r H' h hX hH
 unfold r34 at h;split at h <;> try contradiction
 ·obtain⟨hp,rfl,rfl⟩:=aJ h
  obtain⟨F,hF⟩:=s34 _ (hX _ hm0)
  exact⟨_,abC (Zv F) hF⟩)
def a3s:List aF:=[]
def V57:Env:=ar aE ao a3s
noncomputable abbrev a3t:=aI V57 none (Tryz.f57).results.toList
theorem a3u:EOk Tryz.prog V57:=aj (by exact trivial)
def a3v(F:Nat):Cuts:={ F:=F,at_:=fun _=>none,join:=fun _=>none }
abbrev a3w(F n:Nat){σ:Type}(e:σ→St)(K:Ex→St→Rz)(N:σ→Rz):=Qe V57 (a3v F) (bp Tryz.f57 n) e K N
def a0h:Int→St:=Ts
def ME(F:Nat):Int→Rz:=fun a=>(cond (decide (a < (0:Int))) (some ((.int .i64 0),[])) (cond (decide (a > (8000:Int))) (some ((.int .i64 0),[])) (cond (a==(0:Int)) (some ((.int .i64 1),[])) (some ((.int .i64 (IntKind.i64.wrap (Int.tdiv (IntKind.i64.wrap (a+(47:Int))) (48:Int)))),[])))))
theorem Zw F:a3w F 1 a0h a3t (ME F):=fun _=>by kernel_rfl
def f57(F:Nat):Int→Rz:=ME F
def r57:aB:=fun X H=>match X,H with
 | [(.int .i64 a0)],[]=>some (true,(.int .i64 (Jr.count a0)),[])
 | _,_=>none
theorem s57(a0:Int)(h0:okV (.int .i64 a0)):∃ F,f57 F a0=some ((.int .i64 (Jr.count a0)),[]):=by
 refine⟨0,?_⟩
 simp only [f57,ME,wR]
 by_cases h1:a0 < 0
 ·rw [aa h1,Jr.count,aa (.inl h1)]
 by_cases h2:a0 > 8000
 ·rw [ad h1,aa h2,Jr.count,aa (.inr h2)]
 by_cases h3:a0=0
 ·rw [ad h1,ad h2,aa h3,Jr.count,ad (by omega),if_neg (by omega)]
 rw [ad h1,ad h2,ad h3,Jr.count,ad (by omega),ah (x:=a0+47) (by omega) (by omega),iw (by omega),ah (by omega) (by omega)]
 split
 ·rfl
 ·rw [show(a0+47) / 48=1 by omega]
theorem c57:Ck 57 r57:=ck a3u Tryz.func57 (by
 intro X H r H' h hX hH
 unfold r57 at h;split at h <;> try contradiction
 ·obtain⟨hp,rfl,rfl⟩:=aJ h
  obtain⟨F,hF⟩:=s57 _ (hX _ hm0)
  exact⟨_,abC (Zw F) hF⟩)
def a3x:List aF:=[]
def V91:Env:=ar aE ao a3x
noncomputable abbrev Zx:=aI V91 none (Tryz.f91).results.toList
theorem a3y:EOk Tryz.prog V91:=aj (by exact trivial)
def a19(F:Nat):Cuts:={ F:=F+6,at_:=fun _=>none,join:=fun _=>none }
abbrev a2a(F n:Nat){σ:Type}(e:σ→St)(K:Ex→St→Rz)(N:σ→Rz):=Qe V91 (a19 F) (bp Tryz.f91 n) e K N
def aY6:Li×Int→St:=fun (a,b)=>hS [(0,.sl 0 0 64 0 4 1),iS 1 b] [.cells 64 (.rI .u8 a) true] 18 1
def FY(F:Nat):Li×Int→Rz:=fun (b,a)=>(some ((.tup .nil),[(.cells 64 (.rI .u8 ((((b.set 0 (IntKind.u8.wrap a)).set 1 (IntKind.u8.wrap (Int.fdiv a (2^8)))).set 2 (IntKind.u8.wrap (Int.fdiv (Int.fdiv a (2^8)) (2^8)))).set 3 (IntKind.u8.wrap (Int.fdiv (Int.fdiv (Int.fdiv a (2^8)) (2^8)) (2^8))))) true)]))
theorem Tt F:a2a F 1 aY6 Zx (FY F):=fun _=>by kernel_rfl
def a0i(F:Nat):Li×Int→Rz:=FY F
def a2b(F:Nat):Cuts:={ F:=F+6,at_:=fun _=>none,join:=fun _=>none }
abbrev a2c(F n:Nat){σ:Type}(e:σ→St)(K:Ex→St→Rz)(N:σ→Rz):=Qe V91 (a2b F) (bp Tryz.f91 n) e K N
def aY7:Li×Int→St:=fun (a,b)=>hS [(0,.sl 0 0 64 4 2 1),iS 1 b] [.cells 64 (.rI .u8 a) true] 18 1
def FZ(F:Nat):Li×Int→Rz:=fun (b,a)=>(some ((.tup .nil),[(.cells 64 (.rI .u8 ((b.set 4 (IntKind.u8.wrap a)).set 5 (IntKind.u8.wrap (Int.fdiv a (2^8))))) true)]))
theorem Tu F:a2c F 1 aY7 Zx (FZ F):=fun _=>by kernel_rfl
def a0j(F:Nat):Li×Int→Rz:=FZ F
def a2d(F:Nat):Cuts:={ F:=F+6,at_:=fun _=>none,join:=fun _=>none }
abbrev a2e(F n:Nat){σ:Type}(e:σ→St)(K:Ex→St→Rz)(N:σ→Rz):=Qe V91 (a2d F) (bp Tryz.f91 n) e K N
def aY8:Li×Int→St:=fun (a,b)=>hS [(0,.sl 0 0 64 6 2 1),iS 1 b] [.cells 64 (.rI .u8 a) true] 18 1
def F2(F:Nat):Li×Int→Rz:=fun (b,a)=>(some ((.tup .nil),[(.cells 64 (.rI .u8 ((b.set 6 (IntKind.u8.wrap a)).set 7 (IntKind.u8.wrap (Int.fdiv a (2^8))))) true)]))
theorem Tv F:a2e F 1 aY8 Zx (F2 F):=fun _=>by kernel_rfl
def a0k(F:Nat):Li×Int→Rz:=F2 F
def r91:aB:=fun X H=>match X,H with
 | [(.sl 0 0 64 0 4 1),.int .i64 a1],[(.cells 64 (.rI .u8 a0) true)]=>some ((decide (0≤a1)),.tup .nil,[(.cells 64 (.rI .u8 (Jr.put a0 0 a1 4)) true)])
 | [(.sl 0 0 64 4 2 1),.int .i64 a1],[(.cells 64 (.rI .u8 a0) true)]=>some ((decide (0≤a1)),.tup .nil,[(.cells 64 (.rI .u8 (Jr.put a0 4 a1 2)) true)])
 | [(.sl 0 0 64 6 2 1),.int .i64 a1],[(.cells 64 (.rI .u8 a0) true)]=>some ((decide (0≤a1)),.tup .nil,[(.cells 64 (.rI .u8 (Jr.put a0 6 a1 2)) true)])
 | _,_=>none
theorem a3z(a0:Li)(a1:Int)(hp:((decide (0≤a1)))=true)(h1:okV (.int .i64 a1))(k0:okB (.cells 64 (.rI .u8 a0) true)):∃ F,a0i F (a0,a1)=some ((.tup .nil),[(.cells 64 (.rI .u8 (Jr.put a0 0 a1 4)) true)]):=by
 refine⟨0,?_⟩
 simp only [a0i,FY,pD,show((2:Int)^8)=256 from rfl,Int.fdiv_eq_ediv_of_nonneg _ (show(0:Int)≤256 by decide)]
 rfl
theorem a3A(a0:Li)(a1:Int)(hp:((decide (0≤a1)))=true)(h1:okV (.int .i64 a1))(k0:okB (.cells 64 (.rI .u8 a0) true)):∃ F,a0j F (a0,a1)=some ((.tup .nil),[(.cells 64 (.rI .u8 (Jr.put a0 4 a1 2)) true)]):=by
 refine⟨0,?_⟩
 simp only [a0j,FZ,pD,show((2:Int)^8)=256 from rfl,Int.fdiv_eq_ediv_of_nonneg _ (show(0:Int)≤256 by decide)]
 rfl
theorem a3B(a0:Li)(a1:Int)(hp:((decide (0≤a1)))=true)(h1:okV (.int .i64 a1))(k0:okB (.cells 64 (.rI .u8 a0) true)):∃ F,a0k F (a0,a1)=some ((.tup .nil),[(.cells 64 (.rI .u8 (Jr.put a0 6 a1 2)) true)]):=by
 refine⟨0,?_⟩
 simp only [a0k,F2,pD,show((2:Int)^8)=256 from rfl,Int.fdiv_eq_ediv_of_nonneg _ (show(0:Int)≤256 by decide)]
 rfl
theorem c91:Ck 91 r91:=ck a3y Tryz.func91 (by
 intro X H r H' h hX hH
 unfold r91 at h;split at h <;> try contradiction
 ·obtain⟨hp,rfl,rfl⟩:=aJ h
  obtain⟨F,hF⟩:=a3z _ _ hp (hX _ hm1) (hH _ hm0)
  exact⟨_,abC (Tt F) hF⟩
 ·obtain⟨hp,rfl,rfl⟩:=aJ h
  obtain⟨F,hF⟩:=a3A _ _ hp (hX _ hm1) (hH _ hm0)
  exact⟨_,abC (Tu F) hF⟩
 ·obtain⟨hp,rfl,rfl⟩:=aJ h
  obtain⟨F,hF⟩:=a3B _ _ hp (hX _ hm1) (hH _ hm0)
  exact⟨_,abC (Tv F) hF⟩)
def a3C:List aF:=[]
def V82:Env:=ar aE ao a3C
noncomputable abbrev j8:=aI V82 none (Tryz.f82).results.toList
theorem a3D:EOk Tryz.prog V82:=aj (by exact trivial)
def a3E(F:Nat):Cuts:={ F:=F,at_:=fun n=>match n with | 3010=>some MB | _=>none,join:=fun n=>match n with | 1020=>some [(0,.plain)] | 2018=>some dc | 3012=>some MB | 6003=>some [(3,.plain)] | _=>none }
abbrev j9(F n:Nat){σ:Type}(e:σ→St)(K:Ex→St→Rz)(N:σ→Rz):=Qe V82 (a3E F) (bp Tryz.f82 n) e K N
def Tw:Li→St:=fun a=>hS [(0,.str a)] [] 20 0
def F3:Li→St:=fun a=>hS [(0,.str a)] [] 20 0
def ve:Li×Int→St:=fun (a,b)=>hS [(0,.str a),iS 3 b] [] 20 0
def vf:Li×Int×Int→St:=fun (a,b,c)=>hS [(0,.str a),iS 3 b,iS 4 c] [] 20 0
def Tx:Li×Int×Int→St:=vf
def i9:Int→St:=fun a=>hS [iS 3 a] [] 20 0
def AY(F:Nat)(a:Li→Rz):Li→Rz:=fun b=>(a b)
theorem Zy F Rj1:j9 F 2 Tw (kq V82 Rj1 [(0,.plain)] j8) (AY F (Rj1∘F3)):=fun _=>by kernel_rfl
def AZ(F:Nat)(a:Li×Int→Rz):Li→Rz:=fun b=>(a (b,(0:Int)))
theorem Zz F Rj2:j9 F 6 F3 (kq V82 Rj2 dc j8) (AZ F (Rj2∘ve)):=fun _=>by kernel_rfl
def A0(F:Nat)(b:Li×Int×Int→Rz)(d:Int→Rz):Li×Int→Rz:=fun (a,c)=>(b (a,c,(IntKind.i64.wrap ((↑a.length:Int)-(1:Int)))))
theorem ZA F Rj3 Rj4:j9 F 28 ve (kq V82 Rj3 MB (kq V82 Rj4 [(3,.plain)] j8)) (A0 F (Rj3∘vf) (Rj4∘i9)):=fun _=>by kernel_rfl
def vg(F:Nat)(d:Li×Int×Int→Rz)(e:Int→Rz):Li×Int×Int→Rz:=fun (b,c,a)=>(cond (decide (a≥(0:Int))) (cond ((decide (0≤a))&&(decide (a < (↑b.length:Int)))) (d (b,(IntKind.i64.wrap ((IntKind.i64.wrap ((256:Int)*c))+(IntKind.i64.wrap (b.getD (Int.toNat a) 0)))),(IntKind.i64.wrap (a-(1:Int))))) none) (e c))
theorem ZB F Rl1 Rj4:j9 F 116 Tx (kq V82 Rl1 MB (ae 0 (kq V82 Rj4 [(3,.plain)] j8))) (vg F (Rl1∘Tx) (Rj4∘i9)):=fun _=>by kernel_rfl
def yk:Li×Int×Int→Li×Int×Int:=fun (a,b,c)=>(a,b,c)
def MF(F:Nat)(a:Int→Rz):Li×Int×Int→Rz:=fun v=>ay (fun k=>vg F k a) F (yk v)
theorem ZC F Rj4:j9 F 58 vf (ae 0 (kq V82 Rj4 [(3,.plain)] j8)) (MF F (Rj4∘i9)):=lpC yk (fun k=>vg F k (Rj4∘i9)) (fun Rl1=>ZB F Rl1 Rj4)
def MG(F:Nat)(a):=MF F a
theorem ZD F Rj4:j9 F 29 vf (kq V82 Rj4 [(3,.plain)] j8) (MG F (Rj4∘i9)):=biC (ZC F Rj4)
def A1(F:Nat)(a):=A0 F (MG F a) a
theorem ZE F Rj4:j9 F 14 ve (kq V82 Rj4 [(3,.plain)] j8) (A1 F (Rj4∘i9)):=sqC (fun k=>A0 F k (Rj4∘i9)) (fun Rj3=>ZA F Rj3 Rj4) (ZD F Rj4)
def MH(F:Nat):Int→Rz:=fun a=>(some ((.int .i64 a),[]))
theorem ZF F:j9 F 15 i9 j8 (MH F):=fun _=>by kernel_rfl
def MI(F:Nat):=A1 F (MH F)
theorem ZG F:j9 F 7 ve j8 (MI F):=sqC (A1 F) (fun Rj4=>ZE F Rj4) (ZF F)
def F4(F:Nat):=AZ F (MI F)
theorem Tz F:j9 F 3 F3 j8 (F4 F):=sqC (AZ F) (fun Rj2=>Zz F Rj2) (ZG F)
def F5(F:Nat):=AY F (F4 F)
theorem TA F:j9 F 1 Tw j8 (F5 F):=sqC (AY F) (fun Rj1=>Zy F Rj1) (Tz F)
def f82(F:Nat):Li→Rz:=F5 F
def r82:aB:=fun X H=>match X,H with
 | [(.str a0)],[]=>some ((decide (a0.length≤4)),(.int .i64 (Jr.num a0)),[])
 | _,_=>none
theorem s82(a0:Li)(hp:((decide (a0.length≤4)))=true)(h0:okV (.str a0)):∃ F,f82 F a0=some ((.int .i64 (Jr.num a0)),[]):=by
 have hl:=of_decide_eq_true hp
 have hb:∀ x∈a0,0≤x∧x < 256:=fun x hx=>by have:=h0.2 x hx;omega
 refine⟨10,?_⟩
 simp only [AY,AZ,A0,yk,MF,MG,A1,MI,F4,F5,f82]
 rw [ah (by omega) (by omega)]
 refine aH (fun i=>(a0,Jr.num (a0.drop (a0.length-i)),(a0.length:Int)-1-i)) a0.length (by simp [Jr.num]) (fun i hi k=>?_) (fun k=>?_) 10 (by omega)
 ·simp only [vg,ap]
  have hlt:a0.length-1-i < a0.length:=by omega
  have et:((a0.length:Int)-1-i).toNat=a0.length-1-i:=by omega
  have hx:=hb (a0[a0.length-1-i]) (List.getElem_mem _)
  have eg:a0.getD (a0.length-1-i) 0=a0[a0.length-1-i]:=by rw [List.getD_eq_getElem?_getD,List.getElem?_eq_getElem hlt];rfl
  have hd:a0.drop (a0.length-(i+1))=a0[a0.length-1-i] :: a0.drop (a0.length-i):=by
   rw [show a0.length-(i+1)=a0.length-1-i by omega,List.drop_eq_getElem_cons hlt,show a0.length-1-i+1=a0.length-i by omega]
  obtain⟨n1,n2⟩:=Jr.num_bound (a0.drop (a0.length-i)) fun x hx=>hb x (List.mem_of_mem_drop hx)
  have n3:=Jr.pow_le4 (k:=(a0.drop (a0.length-i)).length) (by rw [List.length_drop];omega)
  rw [aa (by omega),aa (by omega),et,eg,ah (x:=256*_) (by omega) (by omega),ah (x:=a0[a0.length-1-i]) (by omega) (by omega),ah (by omega) (by omega),ah (by omega) (by omega),hd,Jr.num_cons]
  congr 3
  omega
 ·simp only [vg]
  rw [ad (by omega)]
  simp only [MH,Nat.sub_self,List.drop_zero]
theorem c82:Ck 82 r82:=ck a3D Tryz.func82 (by
 intro X H r H' h hX hH
 unfold r82 at h;split at h <;> try contradiction
 ·obtain⟨hp,rfl,rfl⟩:=aJ h
  obtain⟨F,hF⟩:=s82 _ hp (hX _ hm0)
  exact⟨_,abC (TA F) hF⟩)
def a3F:List aF:=[]
def V84:Env:=ar aE ao a3F
noncomputable abbrev ka:=aI V84 none (Tryz.f84).results.toList
theorem a3G:EOk Tryz.prog V84:=aj (by exact trivial)
def a3H(F:Nat):Cuts:={ F:=F,at_:=fun n=>match n with | 3012=>some MC | _=>none,join:=fun n=>match n with | 1022=>some cU | 2020=>some a0g | 3014=>some MC | 7003=>some [(5,.own 5)] | _=>none }
abbrev kb(F n:Nat){σ:Type}(e:σ→St)(K:Ex→St→Rz)(N:σ→Rz):=Qe V84 (a3H F) (bp Tryz.f84 n) e K N
def TB:Int×Int→St:=fun (a,b)=>hS [iS 0 a,iS 1 b] [] 21 0
def F6:Int×Int→St:=fun (a,b)=>hS [iS 0 a,iS 1 b] [] 21 0
def vh:Int×Int×Li→St:=fun (b,c,a)=>hS [iS 0 b,iS 1 c,(5,.own 0 0 1)] [z8 a.length a] 21 0
def vi:rV→St:=fun (b,c,d,a)=>hS [iS 0 b,iS 1 c,(5,.own 0 0 1),iS 6 d] [z8 a.length a] 21 0
def TC:rV→St:=vi
def ja:Li→St:=fun a=>hS [(5,.own 0 0 1)] [z8 a.length a] 21 0
def A2(F:Nat)(a:Int×Int→Rz):Int×Int→Rz:=fun (b,c)=>(a (b,c))
theorem ZH F Rj1:kb F 2 TB (kq V84 Rj1 cU ka) (A2 F (Rj1∘F6)):=fun _=>by kernel_rfl
def A4(F:Nat)(a:Int×Int×Li→Rz):Int×Int→Rz:=fun (b,c)=>(a (b,c,[]))
theorem ZI F Rj2:kb F 6 F6 (kq V84 Rj2 a0g ka) (A4 F (Rj2∘vh)):=fun _=>by kernel_rfl
def A5(F:Nat)(a:rV→Rz)(e:Li→Rz):Int×Int×Li→Rz:=fun (b,c,d)=>(a (b,c,(0:Int),d))
theorem ZJ F Rj3 Rj4:kb F 28 vh (kq V84 Rj3 MC (kq V84 Rj4 [(5,.own 5)] ka)) (A5 F (Rj3∘vi) (Rj4∘ja)):=fun _=>by kernel_rfl
def vj(F:Nat)(e:rV→Rz)(f:Li→Rz):rV→Rz:=fun (b,c,d,a)=>(cond (decide (d < c)) (cond (decide ((a.length+1) < 1073741824)) (e ((IntKind.i64.wrap (Int.tdiv b (256:Int))),c,(IntKind.i64.wrap (d+(1:Int))),(a++[(IntKind.u8.wrap (Int.tmod b (256:Int)))]))) none) (f a))
theorem ZK F Rl1 Rj4:kb F 116 TC (kq V84 Rl1 MC (ae 0 (kq V84 Rj4 [(5,.own 5)] ka))) (vj F (Rl1∘TC) (Rj4∘ja)):=fun _=>by kernel_rfl
def ym:rV→Int×Int×Int×Li:=fun (a,b,c,d)=>(a,b,c,d)
def MJ(F:Nat)(a:Li→Rz):rV→Rz:=fun v=>ay (fun k=>vj F k a) F (ym v)
theorem ZL F Rj4:kb F 58 vi (ae 0 (kq V84 Rj4 [(5,.own 5)] ka)) (MJ F (Rj4∘ja)):=lpC ym (fun k=>vj F k (Rj4∘ja)) (fun Rl1=>ZK F Rl1 Rj4)
def MK(F:Nat)(a):=MJ F a
theorem ZM F Rj4:kb F 29 vi (kq V84 Rj4 [(5,.own 5)] ka) (MK F (Rj4∘ja)):=biC (ZL F Rj4)
def A6(F:Nat)(a):=A5 F (MK F a) a
theorem ZN F Rj4:kb F 14 vh (kq V84 Rj4 [(5,.own 5)] ka) (A6 F (Rj4∘ja)):=sqC (fun k=>A5 F k (Rj4∘ja)) (fun Rj3=>ZJ F Rj3 Rj4) (ZM F Rj4)
def ML(F:Nat):Li→Rz:=fun a=>(some ((.own 0 0 1),[(.cells a.length (.rI .u8 a) true)]))
theorem ZO F:kb F 15 ja ka (ML F):=fun _=>by kernel_rfl
def MM(F:Nat):=A6 F (ML F)
theorem ZP F:kb F 7 vh ka (MM F):=sqC (A6 F) (fun Rj4=>ZN F Rj4) (ZO F)
def F7(F:Nat):=A4 F (MM F)
theorem TD F:kb F 3 F6 ka (F7 F):=sqC (A4 F) (fun Rj2=>ZI F Rj2) (ZP F)
def F8(F:Nat):=A2 F (F7 F)
theorem TE F:kb F 1 TB ka (F8 F):=sqC (A2 F) (fun Rj1=>ZH F Rj1) (TD F)
def f84(F:Nat):Int×Int→Rz:=F8 F
def r84:aB:=fun X H=>match X,H with
 | [(.int .i64 a0),.int .i64 a1],[]=>some (((decide (0≤a0))&&((decide (0 < a1))&&(decide (a1≤4)))),.own 0 0 1,[(.cells (Jr.small a0 (Int.toNat a1)).length (.rI .u8 (Jr.small a0 (Int.toNat a1))) true)])
 | _,_=>none
theorem s84(a0 a1:Int)(hp:(((decide (0≤a0))&&((decide (0 < a1))&&(decide (a1≤4)))))=true)(h0:okV (.int .i64 a0))(h1:okV (.int .i64 a1)):∃ F,f84 F (a0,a1)=some ((.own 0 0 1),[(.cells (Jr.small a0 (Int.toNat a1)).length (.rI .u8 (Jr.small a0 (Int.toNat a1))) true)]):=by
 simp only [Bool.and_eq_true,decide_eq_true_eq] at hp
 obtain⟨p1,p2,p3⟩:=hp
 obtain⟨k,rfl⟩:=Int.eq_ofNat_of_zero_le (show 0≤a1 by omega)
 have hh:a0≤9223372036854775807:=by have:=h0.2;simpa [IntKind.max,IntKind.signed,IntKind.bits] using this
 refine⟨10,?_⟩
 simp only [A2,A4,A5,ym,MJ,MK,A6,MM,F7,F8,f84]
 refine aH (fun i=>(a0 / 256^i,(k:Int),(i:Int),Jr.small a0 i)) k (by simp [Jr.small]) (fun i hi q=>?_) (fun q=>?_) 10 (by omega)
 ·simp only [vj]
  have hn:0≤a0 / 256^i:=Int.ediv_nonneg p1 (Int.pow_nonneg (by decide))
  have hm:a0 / 256^i≤a0:=Int.ediv_le_self _ p1
  have hl:=Jr.small_len a0 i
  rw [aa (by omega),aa (by omega),iw hn,fU hn,pD,ah (by omega) (by omega),ah (by omega) (by omega),Jr.small_snoc,Int.emod_emod_of_dvd _ (by omega:(256:Int) ∣ 256),Int.ediv_ediv_of_nonneg (Int.pow_nonneg (by decide)),← Int.pow_succ]
  rfl
 ·simp only [vj]
  rw [ad (by omega)]
  simp only [ML,Int.toNat_natCast]
theorem c84:Ck 84 r84:=ck a3G Tryz.func84 (by
 intro X H r H' h hX hH
 unfold r84 at h;split at h <;> try contradiction
 ·obtain⟨hp,rfl,rfl⟩:=aJ h
  obtain⟨F,hF⟩:=s84 _ _ hp (hX _ hm0) (hX _ hm1)
  exact⟨_,abC (TE F) hF⟩)
def a3I:List aF:=[(99,[some 5],r99)]
def V83:Env:=ar aE eo a3I
noncomputable abbrev a3J:=aI V83 none (Tryz.f83).results.toList
theorem a3K:EOk Tryz.prog V83:=aj (by exact⟨c99,trivial⟩)
def a3L(F:Nat):Cuts:={ F:=F,at_:=fun _=>none,join:=fun _=>none }
abbrev a3M(F n:Nat){σ:Type}(e:σ→St)(K:Ex→St→Rz)(N:σ→Rz):=Qe V83 (a3L F) (bp Tryz.f83 n) e K N
def a0m:Li→St:=fun a=>hS [(0,(z9 a))] [] 11 0
def MN(F:Nat):Li→Rz:=fun a=>(cond (decide (a.length < 1073741000)) (cond (decide ((a.length+((Sha.hash a).take 8).length) < 4611686018427387904)) (some ((.str (a++((Sha.hash a).take 8))),[])) none) none)
theorem ZQ F:a3M F 1 a0m a3J (MN F):=fun _=>by kernel_rfl
def f83(F:Nat):Li→Rz:=MN F
def r83:aB:=fun X H=>match X,H with
 | [(.vs (.rI .u8 a0) 0 1)],[]=>some ((decide (a0.length < 1073730000)),(.str (Jr.checked a0)),[])
 | _,_=>none
theorem s83(a0:Li)(hp:((decide (a0.length < 1073730000)))=true)(h0:okV (.vs (.rI .u8 a0) 0 1)):∃ F,f83 F a0=some ((.str (Jr.checked a0)),[]):=by
 have hl:=of_decide_eq_true hp
 refine⟨0,?_⟩
 simp only [f83,MN]
 rw [aa (by omega),aa (by rw [Jr.hash8];omega)]
 rfl
theorem c83:CallOk Tryz.prog eo 83 r83:=dF mixed tys a3K Tryz.func83 (by kernel_rfl) (c:=sub (cZ Tryz.f83) []) (by kernel_rfl) (by
 intro X H r H' h hX hH
 unfold r83 at h;split at h <;> try contradiction
 ·obtain⟨hp,rfl,rfl⟩:=aJ h
  obtain⟨F,hF⟩:=s83 _ hp (hX _ hm0)
  exact⟨_,abC (ZQ F) hF⟩)
def a3N:List aF:=[]
def V77:Env:=ar aE ao a3N
noncomputable abbrev a3O:=aI V77 none (Tryz.f77).results.toList
theorem a3P:EOk Tryz.prog V77:=aj (by exact trivial)
def a3Q(F:Nat):Cuts:={ F:=F,at_:=fun _=>none,join:=fun _=>none }
abbrev a3R(F n:Nat){σ:Type}(e:σ→St)(K:Ex→St→Rz)(N:σ→Rz):=Qe V77 (a3Q F) (bp Tryz.f77 n) e K N
def a0q:Li×Li→St:=fun (a,b)=>hS [(0,(z9 a)),(1,(z9 b))] [] 10 0
def MO(F:Nat):Li×Li→Rz:=fun (a,b)=>(some ((.bool ((a:Li)==(b:Li))),[]))
theorem ZR F:a3R F 1 a0q a3O (MO F):=fun _=>by kernel_rfl
def f77(F:Nat):Li×Li→Rz:=MO F
def r77:aB:=fun X H=>match X,H with
 | [(.vs (.rI .u8 a0) 0 1),(.vs (.rI .u8 a1) 0 1)],[]=>some (true,(.bool (a0==a1)),[])
 | _,_=>none
theorem s77(a0 a1:Li)(h0:okV (.vs (.rI .u8 a0) 0 1))(h1:okV (.vs (.rI .u8 a1) 0 1)):∃ F,f77 F (a0,a1)=some ((.bool (a0==a1)),[]):=by
 refine⟨0,?_⟩
 simp only [f77,MO]
theorem c77:Ck 77 r77:=ck a3P Tryz.func77 (by
 intro X H r H' h hX hH
 unfold r77 at h;split at h <;> try contradiction
 ·obtain⟨hp,rfl,rfl⟩:=aJ h
  obtain⟨F,hF⟩:=s77 _ _ (hX _ hm0) (hX _ hm1)
  exact⟨_,abC (ZR F) hF⟩)
def a3S:List aF:=[]
def V10:Env:=ar aE ao a3S
noncomputable abbrev kg:=aI V10 none (Tryz.f10).results.toList
theorem a3T:EOk Tryz.prog V10:=aj (by exact trivial)
def a3U(F:Nat):Cuts:={ F:=F,at_:=fun n=>match n with | 4016=>some oC | _=>none,join:=fun n=>match n with | 1032=>some cU | 3024=>some cU | 4018=>some oC | 8003=>some [] | _=>none }
abbrev kh(F n:Nat){σ:Type}(e:σ→St)(K:Ex→St→Rz)(N:σ→Rz):=Qe V10 (a3U F) (bp Tryz.f10 n) e K N
abbrev z12 a:=(.vs (.rS a) 0 1:AV)
def TF:fL→St:=fun (a,b)=>hS [(0,(z12 a)),(1,(z12 b))] [] 26 0
def vk:fL→St:=fun (a,b)=>hS [(0,(z12 a)),(1,(z12 b))] [] 26 0
def vm:fL→St:=vk
def vo:rW→St:=fun (a,b,c)=>hS [(0,(z12 a)),(1,(z12 b)),iS 5 c] [] 26 0
def TG:rW→St:=vo
def gW:Unit→St:=fun _=>hS [] [] 26 0
def A7(F:Nat)(a:fL→Rz):fL→Rz:=fun (b,c)=>(a (b,c))
theorem ZS F Rj1:kh F 2 TF (kq V10 Rj1 cU kg) (A7 F (Rj1∘vk)):=fun _=>by kernel_rfl
def A8(F:Nat)(c:fL→Rz):fL→Rz:=fun (a,b)=>(cond ((↑a.length:Int) != (↑b.length:Int)) (some ((.bool false),[])) (c (a,b)))
theorem ZT F Rj2:kh F 6 vk (kq V10 Rj2 cU kg) (A8 F (Rj2∘vm)):=fun _=>by kernel_rfl
def A9(F:Nat)(a:rW→Rz)(d:Unit→Rz):fL→Rz:=fun (b,c)=>(a (b,c,(0:Int)))
theorem ZU F Rj3 Rj4:kh F 28 vm (kq V10 Rj3 oC (kq V10 Rj4 [] kg)) (A9 F (Rj3∘vo) (Rj4∘gW)):=fun _=>by kernel_rfl
def Ba(F:Nat)(d:rW→Rz)(e:Unit→Rz):rW→Rz:=fun (b,c,a)=>(cond (decide (a < (↑b.length:Int))) (cond ((decide (0≤a))&&(decide (a < (↑b.length:Int)))) (cond ((decide (0≤a))&&(decide (a < (↑c.length:Int)))) (cond (!(((b.getD (Int.toNat a) []):Li)==((c.getD (Int.toNat a) []):Li))) (some ((.bool false),[])) (d (b,c,(IntKind.i64.wrap (a+(1:Int)))))) none) none) (e ()))
theorem ZV F Rl1 Rj4:kh F 116 TG (kq V10 Rl1 oC (ae 0 (kq V10 Rj4 [] kg))) (Ba F (Rl1∘TG) (Rj4∘gW)):=fun _=>by kernel_rfl
def yn:rW→(List Li)×(List Li)×Int:=fun (a,b,c)=>(a,b,c)
def MP(F:Nat)(a:Unit→Rz):rW→Rz:=fun v=>ay (fun k=>Ba F k a) F (yn v)
theorem ZW F Rj4:kh F 58 vo (ae 0 (kq V10 Rj4 [] kg)) (MP F (Rj4∘gW)):=lpC yn (fun k=>Ba F k (Rj4∘gW)) (fun Rl1=>ZV F Rl1 Rj4)
def MQ(F:Nat)(a):=MP F a
theorem ZX F Rj4:kh F 29 vo (kq V10 Rj4 [] kg) (MQ F (Rj4∘gW)):=biC (ZW F Rj4)
def Bb(F:Nat)(a):=A9 F (MQ F a) a
theorem ZY F Rj4:kh F 14 vm (kq V10 Rj4 [] kg) (Bb F (Rj4∘gW)):=sqC (fun k=>A9 F k (Rj4∘gW)) (fun Rj3=>ZU F Rj3 Rj4) (ZX F Rj4)
def MR(F:Nat):Unit→Rz:=fun _=>(some ((.bool true),[]))
theorem ZZ F:kh F 15 gW kg (MR F):=fun _=>by kernel_rfl
def MS(F:Nat):=Bb F (MR F)
theorem Z0 F:kh F 7 vm kg (MS F):=sqC (Bb F) (fun Rj4=>ZY F Rj4) (ZZ F)
def F9(F:Nat):=A8 F (MS F)
theorem TI F:kh F 3 vk kg (F9 F):=sqC (A8 F) (fun Rj2=>ZT F Rj2) (Z0 F)
def Ga(F:Nat):=A7 F (F9 F)
theorem TJ F:kh F 1 TF kg (Ga F):=sqC (A7 F) (fun Rj1=>ZS F Rj1) (TI F)
def f10(F:Nat):fL→Rz:=Ga F
def r10:aB:=fun X H=>match X,H with
 | [(.vs (.rS a0) 0 1),(.vs (.rS a1) 0 1)],[]=>some ((decide (a0.length < 1073741824)),(.bool (a0==a1)),[])
 | _,_=>none
theorem s10(a0 a1:List Li)(hp:((decide (a0.length < 1073741824)))=true)(h0:okV (.vs (.rS a0) 0 1))(h1:okV (.vs (.rS a1) 0 1)):∃ F,f10 F (a0,a1)=some ((.bool (a0==a1)),[]):=by
 rw [decide_eq_true_iff] at hp
 refine⟨a0.length+1,?_⟩
 simp only [f10,Ga,A7,F9,A8,MS,Bb,MR,A9,MQ,MP,yn]
 by_cases hl:a0.length=a1.length
 ·have e:((a0.length:Int) != (a1.length:Int))=false:=by simp [hl]
  rw [e,cond_false]
  refine cA (fun m s=>∃ k:Nat,s=(a0,a1,(k:Int))∧m=a0.length-k∧k≤a0.length ∧ ∀ j,j < k→a0.getD j []=a1.getD j []) (fun m s K hi hk=>?_) (a0.length+1) a0.length _ (by omega) ⟨0,rfl,by omega,by omega,fun j hj=>by omega⟩
  obtain⟨k,rfl,hm,hle,heq⟩:=hi
  simp only [Ba,Int.toNat_natCast]
  by_cases hlt:k < a0.length
  ·have e1:(decide (0≤(k:Int))&&decide ((k:Int) < (a0.length:Int)))=true:=by rw [ap,decide_eq_true_iff];omega
   have e2:(decide (0≤(k:Int))&&decide ((k:Int) < (a1.length:Int)))=true:=by rw [ap,decide_eq_true_iff];omega
   rw [aa (show(k:Int) < (a0.length:Int) by omega),e1,e2,cond_true,cond_true,ah (by omega) (by omega)]
   by_cases h:a0.getD k []=a1.getD k []
   ·have e3:(!(((a0.getD k []):Li)==((a1.getD k []):Li)))=false:=by rw [h];simp
    rw [e3,cond_false]
    exact hk (m-1) _ (by omega) ⟨k+1,rfl,by omega,by omega,fun j hj=>by
     by_cases hj':j=k
     ·subst hj';exact h
     ·exact heq j (by omega)⟩
   ·have e3:(!(((a0.getD k []):Li)==((a1.getD k []):Li)))=true:=by simpa using h
    rw [e3,cond_true]
    have e4:(a0==a1)=false:=by rw [beq_eq_false_iff_ne];intro h';exact h (by rw [h'])
    rw [e4]
  ·rw [ad (by omega)]
   have e4:(a0==a1)=true:=by rw [beq_iff_eq];exact lF [] hl fun j hj=>heq j (by omega)
   rw [e4];rfl
 ·have e:((a0.length:Int) != (a1.length:Int))=true:=by simp;omega
  have e4:(a0==a1)=false:=by rw [beq_eq_false_iff_ne];intro h';exact hl (by rw [h'])
  rw [e,cond_true,e4]
theorem c10:Ck 10 r10:=ck a3T Tryz.func10 (by
 intro X H r H' h hX hH
 unfold r10 at h;split at h <;> try contradiction
 ·obtain⟨hp,rfl,rfl⟩:=aJ h
  obtain⟨F,hF⟩:=s10 _ _ hp (hX _ hm0) (hX _ hm1)
  exact⟨_,abC (TJ F) hF⟩)
def a3V:List aF:=[]
def V36:Env:=ar aE ao a3V
noncomputable abbrev ki:=aI V36 none (Tryz.f36).results.toList
theorem a3W:EOk Tryz.prog V36:=aj (by exact trivial)
def a3X(F:Nat):Cuts:={ F:=F,at_:=fun n=>match n with | 4016=>some oC | _=>none,join:=fun n=>match n with | 1032=>some cU | 3024=>some cU | 4018=>some oC | 8003=>some [] | _=>none }
abbrev kj(F n:Nat){σ:Type}(e:σ→St)(K:Ex→St→Rz)(N:σ→Rz):=Qe V36 (a3X F) (bp Tryz.f36 n) e K N
def TK:Li×Li→St:=fun (a,b)=>hS [lS 0 a,lS 1 b] [] 26 0
def vp:Li×Li→St:=fun (a,b)=>hS [lS 0 a,lS 1 b] [] 26 0
def vq:Li×Li→St:=vp
def vr:kS→St:=fun (a,b,c)=>hS [lS 0 a,lS 1 b,iS 5 c] [] 26 0
def TL:kS→St:=vr
def jb:Unit→St:=gW
def Bc(F:Nat)(a:Li×Li→Rz):Li×Li→Rz:=fun (b,c)=>(a (b,c))
theorem Z1 F Rj1:kj F 2 TK (kq V36 Rj1 cU ki) (Bc F (Rj1∘vp)):=fun _=>by kernel_rfl
def Bd(F:Nat)(c:Li×Li→Rz):Li×Li→Rz:=fun (a,b)=>(cond ((↑a.length:Int) != (↑b.length:Int)) (some ((.bool false),[])) (c (a,b)))
theorem Z2 F Rj2:kj F 6 vp (kq V36 Rj2 cU ki) (Bd F (Rj2∘vq)):=fun _=>by kernel_rfl
def Be(F:Nat)(a:kS→Rz)(d:Unit→Rz):Li×Li→Rz:=fun (b,c)=>(a (b,c,(0:Int)))
theorem Z3 F Rj3 Rj4:kj F 28 vq (kq V36 Rj3 oC (kq V36 Rj4 [] ki)) (Be F (Rj3∘vr) (Rj4∘jb)):=fun _=>by kernel_rfl
def Bf(F:Nat)(d:kS→Rz)(e:Unit→Rz):kS→Rz:=fun (b,c,a)=>(cond (decide (a < (↑b.length:Int))) (cond ((decide (0≤a))&&(decide (a < (↑b.length:Int)))) (cond ((decide (0≤a))&&(decide (a < (↑c.length:Int)))) (cond ((b.getD (Int.toNat a) 0) != (c.getD (Int.toNat a) 0)) (some ((.bool false),[])) (d (b,c,(IntKind.i64.wrap (a+(1:Int)))))) none) none) (e ()))
theorem Z4 F Rl1 Rj4:kj F 116 TL (kq V36 Rl1 oC (ae 0 (kq V36 Rj4 [] ki))) (Bf F (Rl1∘TL) (Rj4∘jb)):=fun _=>by kernel_rfl
def yo:kS→Li×Li×Int:=fun (a,b,c)=>(a,b,c)
def MU(F:Nat)(a:Unit→Rz):kS→Rz:=fun v=>ay (fun k=>Bf F k a) F (yo v)
theorem Z5 F Rj4:kj F 58 vr (ae 0 (kq V36 Rj4 [] ki)) (MU F (Rj4∘jb)):=lpC yo (fun k=>Bf F k (Rj4∘jb)) (fun Rl1=>Z4 F Rl1 Rj4)
def MW(F:Nat)(a):=MU F a
theorem Z6 F Rj4:kj F 29 vr (kq V36 Rj4 [] ki) (MW F (Rj4∘jb)):=biC (Z5 F Rj4)
def Bg(F:Nat)(a):=Be F (MW F a) a
theorem Z7 F Rj4:kj F 14 vq (kq V36 Rj4 [] ki) (Bg F (Rj4∘jb)):=sqC (fun k=>Be F k (Rj4∘jb)) (fun Rj3=>Z3 F Rj3 Rj4) (Z6 F Rj4)
def MX(F:Nat):Unit→Rz:=fun _=>(some ((.bool true),[]))
theorem Z8 F:kj F 15 jb ki (MX F):=fun _=>by kernel_rfl
def MY(F:Nat):=Bg F (MX F)
theorem Z9 F:kj F 7 vq ki (MY F):=sqC (Bg F) (fun Rj4=>Z7 F Rj4) (Z8 F)
def Gb(F:Nat):=Bd F (MY F)
theorem TM F:kj F 3 vp ki (Gb F):=sqC (Bd F) (fun Rj2=>Z2 F Rj2) (Z9 F)
def Gc(F:Nat):=Bc F (Gb F)
theorem TN F:kj F 1 TK ki (Gc F):=sqC (Bc F) (fun Rj1=>Z1 F Rj1) (TM F)
def f36(F:Nat):Li×Li→Rz:=Gc F
def r36:aB:=fun X H=>match X,H with
 | [(.vs (.rI .i64 a0) 0 1),(.vs (.rI .i64 a1) 0 1)],[]=>some ((decide (a0.length < 1073741824)),(.bool (a0==a1)),[])
 | _,_=>none
theorem s36(a0 a1:Li)(hp:((decide (a0.length < 1073741824)))=true)(h0:okV (.vs (.rI .i64 a0) 0 1))(h1:okV (.vs (.rI .i64 a1) 0 1)):∃ F,f36 F (a0,a1)=some ((.bool (a0==a1)),[]):=by
 rw [decide_eq_true_iff] at hp
 refine⟨a0.length+1,?_⟩
 simp only [f36,Gc,Bc,Gb,Bd,MY,Bg,MX,Be,MW,MU,yo]
 by_cases hl:a0.length=a1.length
 ·have e:((a0.length:Int) != (a1.length:Int))=false:=by simp [hl]
  rw [e,cond_false]
  refine cA (fun m s=>∃ k:Nat,s=(a0,a1,(k:Int))∧m=a0.length-k∧k≤a0.length ∧ ∀ j,j < k→a0.getD j 0=a1.getD j 0) (fun m s K hi hk=>?_) (a0.length+1) a0.length _ (by omega) ⟨0,rfl,by omega,by omega,fun j hj=>by omega⟩
  obtain⟨k,rfl,hm,hle,heq⟩:=hi
  simp only [Bf,Int.toNat_natCast]
  by_cases hlt:k < a0.length
  ·have e1:(decide (0≤(k:Int))&&decide ((k:Int) < (a0.length:Int)))=true:=by rw [ap,decide_eq_true_iff];omega
   have e2:(decide (0≤(k:Int))&&decide ((k:Int) < (a1.length:Int)))=true:=by rw [ap,decide_eq_true_iff];omega
   rw [aa (show(k:Int) < (a0.length:Int) by omega),e1,e2,cond_true,cond_true,ah (by omega) (by omega)]
   by_cases h:a0.getD k 0=a1.getD k 0
   ·have e3:(a0.getD k 0 != a1.getD k 0)=false:=by rw [h];simp
    rw [e3,cond_false]
    exact hk (m-1) _ (by omega) ⟨k+1,rfl,by omega,by omega,fun j hj=>by
     by_cases hj':j=k
     ·subst hj';exact h
     ·exact heq j (by omega)⟩
   ·have e3:(a0.getD k 0 != a1.getD k 0)=true:=by simpa using h
    rw [e3,cond_true]
    have e4:(a0==a1)=false:=by rw [beq_eq_false_iff_ne];intro h';exact h (by rw [h'])
    rw [e4]
  ·rw [ad (by omega)]
   have e4:(a0==a1)=true:=by rw [beq_iff_eq];exact lF 0 hl fun j hj=>heq j (by omega)
   rw [e4];rfl
 ·have e:((a0.length:Int) != (a1.length:Int))=true:=by simp;omega
  have e4:(a0==a1)=false:=by rw [beq_eq_false_iff_ne];intro h';exact hl (by rw [h'])
  rw [e,cond_true,e4]
theorem c36:Ck 36 r36:=ck a3W Tryz.func36 (by
 intro X H r H' h hX hH
 unfold r36 at h;split at h <;> try contradiction
 ·obtain⟨hp,rfl,rfl⟩:=aJ h
  obtain⟨F,hF⟩:=s36 _ _ hp (hX _ hm0) (hX _ hm1)
  exact⟨_,abC (TN F) hF⟩)
def a3Y:List aF:=[]
def V74:Env:=ar aE ao a3Y
noncomputable abbrev a3Z:=aI V74 none (Tryz.f74).results.toList
theorem a30:EOk Tryz.prog V74:=aj (by exact trivial)
def a31(F:Nat):Cuts:={ F:=F,at_:=fun _=>none,join:=fun _=>none }
abbrev a34(F n:Nat){σ:Type}(e:σ→St)(K:Ex→St→Rz)(N:σ→Rz):=Qe V74 (a31 F) (bp Tryz.f74 n) e K N
def a0r:Int×Li→St:=fun (a,b)=>hS [iS 0 a,(1,.str b)] [] 6 0
def aeH(F:Nat):Int×Li→Rz:=fun (a,b)=>(some ((.fn 90 (.cons 0 (.ptr 0 0 1 0 0 0 1) (.cons 0 (.ptr 1 0 1 0 0 0 1) .nil))),[(.cells 1 (.one (.str b)) true),(.cells 1 (.one (.int .i64 a)) true)]))
theorem aaa F:a34 F 1 a0r a3Z (aeH F):=fun _=>by kernel_rfl
def f74(F:Nat):Int×Li→Rz:=aeH F
def r74:aB:=fun X H=>match X,H with
 | [(.int .i64 a0),.str a1],[]=>some (true,(.fn 90 (.cons 0 (.ptr 0 0 1 0 0 0 1) (.cons 0 (.ptr 1 0 1 0 0 0 1) .nil))),[(.cells 1 (.one (.str a1)) true),(.cells 1 (.one (.int .i64 a0)) true)])
 | _,_=>none
theorem s74(a0:Int)(a1:Li)(h0:okV (.int .i64 a0))(h1:okV (.str a1)):∃ F,f74 F (a0,a1)=some ((.fn 90 (.cons 0 (.ptr 0 0 1 0 0 0 1) (.cons 0 (.ptr 1 0 1 0 0 0 1) .nil))),[(.cells 1 (.one (.str a1)) true),(.cells 1 (.one (.int .i64 a0)) true)]):=⟨0,rfl⟩
theorem c74:Ck 74 r74:=ck a30 Tryz.func74 (by
 intro X H r H' h hX hH
 unfold r74 at h;split at h <;> try contradiction
 ·obtain⟨hp,rfl,rfl⟩:=aJ h
  obtain⟨F,hF⟩:=s74 _ _ (hX _ hm0) (hX _ hm1)
  exact⟨_,abC (aaa F) hF⟩)
end Go.Am
end