/- Part of a proof. -/
import Derived.Test.YtffddoahjpemaaaGreatDoorAmSort
import Derived.Shelf.SlIterI.Nil
import Derived.Test.YtffddoahjpemaaaGreatDoorAmWire3
import Derived.Test.YtffddoahjpemaaaGreatDoorAm36ZC
set_option linter.unusedSimpArgs false
set_option linter.unusedVariables false
section
/- The keys of a map, sorted: the kit's contracts of maps.Keys and slices.Sorted, as contracts of the machine's. -/
namespace Go.Am
open Go Go.Proofs Go.RowKit Go.Maps Go.Sort Go.Shelf
variable {P : Program} {w : World}
def pr(es:List (List Int×List Int)):List Int:=es.map fun e=>e.1.getD 0 0
def aos:Value→Int
 | .int _ n=>n
 | _=>0
def RR:Value→Option (DataW Unit×List MemPlace):=fun _=>some (.nil,[])
theorem apG{W:Nat→Prop}{ρ:Rho}{k:IntKind}{kn:Nat}{v:MV}:∀ {ms:List MapEntry} {es:List (List Int×List Int)},MEnts w W ρ k kn v ms es→ms.map (·.key)=es.map fun e=>zW k kn e.1
 | [],[],_=>rfl
 | m :: ms,e :: es,h=>by simp only [List.map_cons,h.1.1,apG h.2]
 | [],_ :: _,h=>h.elim
 | _ :: _,[],h=>h.elim
theorem Vn{xs:List Int}(h:keyOk .i64 0 xs):∃ x,xs=[x]∧IntKind.i64.has x:=by
 obtain⟨h1,h2⟩:=h
 match xs,h1 with
 | [x],_=>exact⟨x,rfl,h2 x (by simp)⟩
theorem aRE{W:Nat→Prop}{ρ:Rho}{v:MV}{b t:Nat}{es:List (List Int×List Int)}(ht:P.underlying t=some (.int .i64))(h:MapIs w W ρ b .i64 0 v es)(hm:es.length≤maxLen):
  ∃ D0:DataW Unit,w.ownsMap P t RR b es.length D0∧(intKeys D0).Perm (pr es)∧Maps.size D0=es.length:=by
 obtain⟨ms,clock,hb,hE⟩:=h.ex
 have hk:=apG hE
 have hlen:ms.size=es.length:=by have:=congrArg List.length hk;simpa using this
 have hbo:=h.bo ms clock hb
 have hkey:∀ x∈ms.toList,∃ z,x.key=.int .i64 z∧IntKind.i64.has z:=fun x hx=>by
  have h1:x.key∈ms.toList.map (·.key):=List.mem_map_of_mem hx
  rw [hk] at h1
  obtain⟨e,he,h2⟩:=List.mem_map.1 h1
  obtain⟨z,hz,hz'⟩:=Vn (h.keys e he)
  exact⟨z,by rw [← h2,hz];rfl,hz'⟩
 have hrd:∀ x∈ms.toList,∀ z,x.key=.int .i64 z→IntKind.i64.has z→WideElems.rd P t RR x=some (.int .i64 z,.nil):=fun x hx z h1 h2=>by
  have h3:keyOf P t x.key=some (.int .i64 z):=by
   rw [h1]
   exact keyOf_int_mk ht (by simp only [Lit.wf,Bool.and_eq_true,decide_eq_true_eq];exact h2)
  simp [WideElems.rd,h3,RR]
 refine⟨_,⟨ms,clock,hb,⟨by omega,⟨hbo.1,hbo.2,?_⟩,fun x hx=>?_⟩,by omega,rfl⟩,?_,?_⟩
 ·rw [hk]
  have hn:=h.nd
  rw [List.Nodup,List.pairwise_map] at hn ⊢
  refine hn.imp_of_mem fun {p q} hp hq hne e=>hne ?_
  obtain⟨x,hx,_⟩:=Vn (h.keys p hp)
  obtain⟨y,hy,_⟩:=Vn (h.keys q hq)
  rw [hx,hy] at e ⊢
  simp only [zW,List.getD_cons_zero,Value.int.injEq,true_and] at e
  rw [e]
 ·obtain⟨z,h1,h2⟩:=hkey x hx
  exact⟨_,hrd x hx z h1 h2⟩
 ·show(List.map (fun p=>Go.intOf p.1) (List.foldr DataW.insert [] (ms.toList.map (WideElems.rg P t RR)))).Perm (pr es)
  refine((WideShapes.sorted_perm _).map _).trans (List.Perm.of_eq ?_)
  have e1:pr es=(ms.toList.map (·.key)).map aos:=by
   rw [hk,List.map_map]
   apply List.map_congr_left
   intro e he
   obtain⟨x,hx,_⟩:=Vn (h.keys e he)
   simp [hx,zW,aos]
  rw [e1,List.map_map,List.map_map]
  apply List.map_congr_left
  intro x hx
  obtain⟨z,h1,h2⟩:=hkey x hx
  simp [Function.comp,WideElems.rg,hrd x hx z h1 h2,h1,Go.intOf,aos]
 ·show(List.foldr DataW.insert [] (ms.toList.map (WideElems.rg P t RR))).length=es.length
  rw [DataW.length_sorted,List.length_map]
  simpa using hlen
def ag3(fs:List Nat):List AV→List Blk→Option (Bool×AV×List Blk)
 | [.fn f (.cons _ (.ptr 0 0 1 0 0 0 1) .nil)],[.cells 1 (.one (.mp 1)) true,.cells 0 (.rM .i64 0 v es) b]=>match mem f fs with
  | true=>some (decide (es.length < 1073741824),.vs (.rI .i64 (P1 (pr es))) 0 1,[.cells 1 (.one (.mp 1)) true,.cells 0 (.rM .i64 0 v es) b])
  | false=>none
 | _,_=>none
theorem aRF{U:Oth}{G:Nat→Option AV}{w0:World}{W0:Nat→Prop}{ρ:Rho}{s:St}{a:Act}{w':World}(h:Sim U G w0 W0 ρ s a w){t:Nat}{v:Value}{xs:List Int}
  (hrow:w'.ownsRow w.heap.size t 1 v xs.length (xs.map encZ)) (hx:∀ x∈xs,IntKind.i64.has x) (hlx:xs.length < 4611686018427387904):Rep w' (Wr U ρ s.heap) ρ (.vs (.rI .i64 xs) 0 1) v:=by
 obtain⟨hlen,⟨rfl,h0⟩ | ⟨g,cap,cur,rfl,hg,hb,hn,hcap,hcs,htake⟩⟩:=hrow
 ·exact .vs0 _ 1 0 none rfl (by simpa [AV.size] using h0)
 ·by_cases h0:xs.length=0
  ·rw [h0];exact .vs0 _ 1 _ _ rfl (by simpa [AV.size] using h0)
  ·rw [Nat.mul_one] at htake hcs
   have hcell:∀ j,j < xs.length→w'.cell? ⟨g,0+j,none⟩=some (.int .i64 (xs.getD j 0)):=fun j hj=>by
    have e1:cur[j]?=some (.int .i64 (xs.getD j 0)):=by
     have e2:(cur.toList.take xs.length)[j]?=(xs.map encZ)[j]?:=by rw [htake]
     rw [List.getElem?_take,if_pos hj,Array.getElem?_toList] at e2
     rw [e2,List.getElem?_map,List.getElem?_eq_getElem hj,List.getD_eq_getElem?_getD,List.getElem?_eq_getElem hj];rfl
    simp [World.cell?,hb,e1]
   refine .vs _ 0 1 xs.length cap g 0 (fun j=>.int .i64 (xs.getD j 0)) rfl (by omega) (by simp [AV.size]) (by omega) (.inl rfl) hn (by omega) ?_ (fun j hj=>hcell j (by omega)) (fun j hj=>?_)
   ·rintro(hu | ⟨id,n,r,L,h1,h2,h3⟩)
    ·have:=(h.uo g (U.sub g hu)).1
     have:=h.sz;omega
    ·have:=h.loc_lt h1 h2;omega
   ·refine .int .i64 _ (hx _ ?_)
    rw [List.getD_eq_getElem?_getD,List.getElem?_eq_getElem (by omega)]
    exact List.getElem_mem _
theorem aJw{G:Nat→Option AV}{ρs:Ren}{fs:List Nat}(L:SlLaysZI.n6 P ρs)(hS:∀ m,AnyZI.SortsIn P ρs Fence.wide m)(e9:Enters P (ρs.f 9))
  (hf:∀ f∈fs,Enters P f ∧ ∃ ρk:Ren,SlLaysZI.n10 P ρk∧ρk.f 10=f∧ρk.t 26=ρs.t 26):CallOk P G (ρs.f 6) (ag3 fs) where
 there:=by
  obtain⟨nm,h1,h2⟩:=L.f6
  exact⟨_,h2,h1,rfl⟩
 does:=by
  intro A H r H' hr U w ρ args hU hs hA
  unfold ag3 at hr
  split at hr <;> try contradiction
  rename_i f c v es b
  split at hr <;> try contradiction
  rename_i hm
  simp only [Option.some.injEq,Prod.mk.injEq,decide_eq_true_eq] at hr
  obtain⟨hp,rfl,rfl⟩:=hr
  obtain⟨ef,ρk,Lk,rfl,ht⟩:=hf f (mem_iff.1 hm)
  match args,hA with
  | ⟨[x]⟩,hA=>
   have hx:=hA.1
   generalize hf9:ρk.f 10=f9 at hx
   cases hx with | fn _ _ cvs _ hl hc=>
   subst hf9
   have hc0:=hc 0 (by simp [AVs.len])
   match cvs,hl,hc0 with
   | ⟨[y]⟩,_,hc0=>
    have hy:Rep w (Wr U ρ (tagH 0 [.cells 1 (.one (.mp 1)) true,.cells 0 (.rM .i64 0 v es) b])) ρ (.ptr 0 0 1 0 0 0 1) y:=hc0
    cases hy with | ptr _ _ _ _ _ _ _ L0 h0 hi hxx hbb h00=>
    have b0:=hs.bl 0 1 (.one (.mp 1)) true rfl
    have b1:=hs.bl 1 0 (.rM .i64 0 v es) b rfl
    rcases b0.lies with ⟨q,_⟩ | ⟨L0',q,q1,q2,q3,q4⟩
    ·rw [q] at h0;cases h0
    rw [q] at h0;cases h0
    obtain⟨_,_,_,_,_,⟨⟨hb0,_⟩,_⟩,_⟩:=q3 rfl rfl
    obtain⟨y,q5,q6⟩:=q2 0 (by omega)
    cases q6 with | mp _ L1 hL1=>
    obtain⟨L1',q7,hmap⟩:=b1.map _ _ _ _ rfl
    rw [q7] at hL1;cases hL1
    have hml:1073741824≤maxLen:=by decide
    obtain⟨D0,d1,d2,d3⟩:=aRE (t:=ρk.t 26) (by rw [ht];exact L.t26) hmap (by omega)
    have hadr:(⟨L0.b,L0.base+(0+ix 0 0 0),none⟩:Addr)=⟨L0.b,0,none⟩:=by rw [hb0];rfl
    have hcell:w.cell? ⟨L0.b,0,none⟩=some (.map (some L1.b)):=by rw [hb0] at q5;exact q5
    have hseq:=AnyZI.keys_gives Lk Fence.wide 2 trivial rfl (by omega) L0.b L1.b es.length D0 w q4 hcell d1
    have cS:=AnyZI.sorted_in L Fence.wide 5 trivial trivial trivial trivial rfl (by omega) (hS _) e9 (ρk.f 10) #[.pointer (some ⟨L0.b,0,none⟩)] trivial ef _ _ (by omega) (by omega) w hseq
    rw [hadr]
    refine(callsIn_wide.1 cS).mono ?_
    rintro e w' ⟨u,ss,rfl,hss,hrow,hnil,hB⟩
    have es':ss.mergeSort (fun x y=>decide (x≤y))=P1 (pr es):=mergeSort_of_perm_i (hss.trans d2)
    rw [es',show ss.length=(P1 (pr es)).length by rw [← es',List.length_mergeSort]] at hrow
    refine⟨u,ρ,rfl,hs.below hB,aRF hs hrow (fun z hz=>?_) (by rw [← es',List.length_mergeSort,hss.length_eq,d2.length_eq];simp [pr];omega)⟩
    have hz':z∈pr es:=((List.mergeSort_perm _ _).mem_iff).1 hz
    obtain⟨e,he,rfl⟩:=List.mem_map.1 hz'
    obtain⟨z,hz1,hz2⟩:=Vn (hmap.keys e he)
    rw [hz1];exact hz2
end Go.Am
end
section
/- What the functions of package disk compute, in plain terms. -/
namespace Go.Dk
open Go Go.Am
structure D where
 n:Nat
 blk:List Int
 pend:List (Li×Li)
 worn:List (Li×Li)
 off:Bool
 left:Int
def sec(b:Li)(i:Nat):List Int:=(b.drop (i*64)).take 64
def inD(d:D)(i:Int):Bool:=decide (0≤i)&&decide (i < (d.n:Int))
def isP(d:D)(i:Int):Bool:=u7 d.pend [i]
def isW(d:D)(i:Int):Bool:=(u5 [0] d.worn [i]).getD 0 0==1
def nxt(d:D)(i:Int):List Int:=u5 (List.replicate 64 0) d.pend [i]
def pending(d:D):List Int:=P1 (pr d.pend)
def wornl(d:D):List Int:=P1 (pr d.worn)
def check(d:D)(i:Int):Int:=cond d.off 22 (cond (decide (i < 0)) 1 (cond (decide (i≥(d.n:Int))) 1 0))
def step(d:D):D×Int:=cond (d.left==0) ({ d with off:=true },22) (cond (decide (d.left > 0)) ({ d with left:=IntKind.i64.wrap (d.left-1) },0) (d,0))
def read(d:D)(i:Int):List Int×Int:=cond (check d i != 0) ([],check d i) (cond (isP d i) ((nxt d i).take 64,0) (sec d.blk i.toNat,0))
def write(d:D)(i:Int)(s:Li):D×Int:=cond (check d i != 0) (d,check d i) (cond ((s.length:Int) != 64) (d,1)
 (cond ((step d).2 != 0) (step d) ({ (step d).1 with pend:=u9 (step d).1.pend [i] (s.take 64) },0)))
def clamp(p:Int):Nat:=Int.toNat (if (if 64 < p then 64 else p) > 0 then (if 64 < p then 64 else p) else 0)
def putsec(b:Li)(i m:Nat)(s:Li):List Int:=b.take (i*64)++(s.take 64).take m++b.drop (i*64+m)
def settle(d:D)(i p:Int):D:={ d with pend:=zV d.pend [i],blk:=cond (!isW d i) (cond (!(nxt d i==sec d.blk i.toNat)) (putsec d.blk i.toNat (min 64 (clamp p)) (nxt d i)) d.blk) d.blk }
def flush(d:D):D×Int:=cond (check d 0 != 0) (d,check d 0) (cond ((step d).2 != 0) (step d) ((pending d).foldl (fun e i=>settle e i 64) (step d).1,0))
def mountAll(picks:Li):List Int→Nat→D→D
 | [],_,d=>d
 | i :: is,k,d=>mountAll picks is (k+1) (settle d i (picks.getD k 64))
def mount(d:D)(picks:Li):D:={ mountAll picks (pending d) 0 d with off:=false,left:=-1 }
def place(i b:Int):Nat:=Int.toNat (Int.tdiv b 8)+Int.toNat i*64
def bit(b:Int):Int:=IntKind.u8.wrap (1*2^(min (Int.toNat (Int.tmod b 8)) 8))
def rot(d:D)(i b:Int):D×Int:=cond (decide (i < 0)) (d,1) (cond (decide (i≥(d.n:Int))) (d,1) (cond (decide (b < 0)) (d,1) (cond (decide (b≥512)) (d,1)
 ({ d with blk:=d.blk.set (place i b) (bK .xor .u8 (d.blk.getD (place i b) 0) (bit b)) },0))))
def wear(d:D)(i:Int):D×Int:=cond (decide (i < 0)) (d,1) (cond (decide (i≥(d.n:Int))) (d,1) ({ d with worn:=u9 d.worn [i] [1] },0))
def trip(d:D)(n:Int):D:={ d with left:=n }
def fine(d:D):Bool:=decide (d.n < 8000∧d.blk.length=d.n*64∧d.pend.length < 8000∧d.worn.length < 8000)&&d.pend.all fun e=>inD d (e.1.getD 0 0)
theorem putsec_len{b:List Int}{i m:Nat}{s:List Int}(hs:s.length=64)(hm:m≤64)(hb:i*64+64≤b.length):(putsec b i m s).length=b.length:=by
 simp only [putsec,List.length_append,List.length_take,List.length_drop,hs];omega
theorem vals64{es:List (Li×Li)}(h:okB (.cells 0 (.rM .i64 0 (.arr .u8 64) es) true))(e:Li×Li)(he:e∈es):e.2.length=64:=(agC (h.1 e he).2).1
theorem mget64{es:List (Li×Li)}(h:∀ e∈es,e.2.length=64)(k:Li):(u5 (List.replicate 64 0) es k).length=64:=by
 induction es with
 | nil=>simp [u5]
 | cons e es ih=>
  simp only [u5]
  cases e.1==k
  ·exact ih fun x hx=>h x (.tail _ hx)
  ·exact h e (.head _)
theorem check_ok{d:D}{i:Int}(h:check d i=0):d.off=false∧0≤i∧i < (d.n:Int):=by
 unfold check at h
 cases ho:d.off with
 | true=>rw [ho] at h;cases h
 | false=>
  rw [ho] at h
  by_cases h1:i < 0
  ·simp [h1] at h
  ·by_cases h2:i≥(d.n:Int)
   ·simp [h1,h2] at h
   ·exact⟨rfl,by omega,by omega⟩
structure Ok (d:D):Prop where
 len:d.blk.length=d.n*64
 vals:∀ e∈d.pend,e.2.length=64
theorem ag4{d:D}(h:Ok d){i:Int}(hi:inD d i=true)(p:Int):Ok (settle d i p):=by
 have h1:0≤i∧i < (d.n:Int):=by simpa [inD] using hi
 refine⟨?_,fun e he=>h.vals e (List.mem_filter.1 he).1⟩
 simp only [settle]
 cases (!isW d i)
 ·exact h.len
 ·cases (!(nxt d i==sec d.blk i.toNat))
  ·exact h.len
  ·show(putsec d.blk i.toNat (min 64 (clamp p)) (nxt d i)).length=d.n*64
   rw [putsec_len (s:=nxt d i) (mget64 h.vals [i]) (by omega) (by have:=h.len;omega)];exact h.len
theorem inD_n{d d':D}(h:d'.n=d.n)(i:Int):inD d' i=inD d i:=by simp only [inD,h]
theorem azw{d:D}{i:Int}(h:i∈pending d):∃ e∈d.pend,e.1.getD 0 0=i:=by
 simp only [pending,P1,List.mem_mergeSort,pr,List.mem_map] at h;exact h
theorem fine_iff{d:D}(h:fine d=true):(d.n < 8000∧d.blk.length=d.n*64∧d.pend.length < 8000∧d.worn.length < 8000) ∧ ∀ i∈pending d,inD d i=true:=by
 simp only [fine,Bool.and_eq_true,decide_eq_true_eq,List.all_eq_true] at h
 refine⟨h.1,fun i hi=>?_⟩
 obtain⟨e,he,rfl⟩:=azw hi
 exact h.2 e he
theorem pending_len(d:D):(pending d).length=d.pend.length:=by simp [pending,P1,pr]
theorem ai3{L:List Int}{k:Nat}(h:k < L.length):L.take (k+1)=L.take k++[L.getD k 0]:=by
 rw [List.take_add_one,List.getElem?_eq_getElem h,List.getD_eq_getElem?_getD,List.getElem?_eq_getElem h];rfl
theorem mem_at{L:List Int}{k:Nat}(h:k < L.length):L.getD k 0∈L:=by
 rw [List.getD_eq_getElem?_getD,List.getElem?_eq_getElem h];exact List.getElem_mem _
def flushK(L:Li)(k:Nat)(d:D):D:=(L.take k).foldl (fun e i=>settle e i 64) d
theorem flushK_succ{L:List Int}{k:Nat}(h:k < L.length)(d:D):flushK L (k+1) d=settle (flushK L k d) (L.getD k 0) 64:=by
 simp only [flushK,ai3 h,List.foldl_append,List.foldl_cons,List.foldl_nil]
theorem flushK_ok{L:List Int}{d:D}(h:Ok d)(hL:∀ i∈L,inD d i=true):∀ k,k≤L.length→Ok (flushK L k d)∧(flushK L k d).n=d.n
 | 0,_=>⟨by simpa [flushK] using h,by simp [flushK]⟩
 | k+1,hk=>by
  obtain⟨h1,h2⟩:=flushK_ok h hL k (by omega)
  rw [flushK_succ (by omega)]
  exact⟨ag4 h1 (by rw [inD_n h2];exact hL _ (mem_at (by omega))) _,h2⟩
theorem VM(picks:Li)(x:Int):∀ (l:Li) (k:Nat) (d:D),mountAll picks (l++[x]) k d=settle (mountAll picks l k d) x (picks.getD (k+l.length) 64)
 | [],k,d=>rfl
 | i :: l,k,d=>by
  simp only [List.cons_append,mountAll,List.length_cons]
  rw [VM picks x l (k+1)]
  congr 2;omega
def mountK(picks L:Li)(k:Nat)(d:D):D:=mountAll picks (L.take k) 0 d
theorem mountK_succ{picks L:List Int}{k:Nat}(h:k < L.length)(d:D):mountK picks L (k+1) d=settle (mountK picks L k d) (L.getD k 0) (picks.getD k 64):=by
 simp only [mountK,ai3 h,VM,List.length_take,Nat.zero_add]
 rw [Nat.min_eq_left (by omega)]
theorem mountK_ok{picks L:List Int}{d:D}(h:Ok d)(hL:∀ i∈L,inD d i=true):∀ k,k≤L.length→Ok (mountK picks L k d)∧(mountK picks L k d).n=d.n
 | 0,_=>⟨by simpa [mountK,mountAll] using h,by simp [mountK,mountAll]⟩
 | k+1,hk=>by
  obtain⟨h1,h2⟩:=mountK_ok h hL k (by omega)
  rw [mountK_succ (by omega)]
  exact⟨ag4 h1 (by rw [inD_n h2];exact hL _ (mem_at (by omega))) _,h2⟩
theorem mountK_all(picks:Li)(d:D):mountK picks (pending d) (pending d).length d=mountAll picks (pending d) 0 d:=by simp [mountK]
theorem step_same(d:D):(step d).1.n=d.n∧(step d).1.blk=d.blk∧(step d).1.pend=d.pend∧(step d).1.worn=d.worn:=by
 unfold step
 cases (d.left==0)
 ·cases (decide (d.left > 0)) <;> exact⟨rfl,rfl,rfl,rfl⟩
 ·exact⟨rfl,rfl,rfl,rfl⟩
theorem getD_far{l:List Int}{k:Nat}(h:l.length≤k)(z:Int):l.getD k z=z:=by
 rw [List.getD_eq_getElem?_getD,List.getElem?_eq_none h];rfl
theorem getD_in{l:List Int}{k:Nat}(h:k < l.length)(z z':Int):l.getD k z=l.getD k z':=by
 rw [List.getD_eq_getElem?_getD,List.getD_eq_getElem?_getD,List.getElem?_eq_getElem h];rfl
end Go.Dk

namespace Go.Am
abbrev dB(a n p w:Nat)(o:Bool)(l:Int):Blk:=.cells 5 (.segs (.cons 1 (.one (.own a n 64)) (.cons 1 (.one (.mp p)) (.cons 1 (.one (.mp w)) (.cons 1 (.one (.bool o)) (.cons 1 (.one (.int .i64 l)) .nil)))))) true
abbrev dE(a:Nat)(e:Dk.D)(p w:Nat):Blk:=dB a e.n p w e.off e.left
abbrev pB(es:List (List Int×List Int)):Blk:=.cells 0 (.rM .i64 0 (.arr .u8 64) es) true
abbrev wB(es:List (List Int×List Int)):Blk:=.cells 0 (.rM .i64 0 .bool es) true
abbrev bB(l:List Int):Blk:=.cells l.length (.rI .u8 l) true
abbrev iB(l:List Int):Blk:=.cells l.length (.rI .i64 l) true
abbrev sB(l:List (List Int)):Blk:=.cells l.length (.rS l) true
abbrev rB(n p:Nat)(o:Bool)(l:Int):Blk:=.cells 3 (.segs (.cons 1 (.one (.own p n 4)) (.cons 1 (.one (.bool o)) (.cons 1 (.one (.int .i64 l)) .nil)))) true
abbrev tB(s:List (List (List Int))):Blk:=.cells (s.length*4) (.rT [.str,.str,.bool,.bool] s) true
end Go.Am
end
section
/- The specification's disk, in plain terms; what the functions that compare disks compute. -/
namespace Go.Dk
open Go Go.Am
structure R where
 s:List (List Li)
 off:Bool
 left:Int
def fT(x:List Li):List Int:=x.getD 0 []
def fN(x:List Li):List Int:=x.getD 1 []
def fD(x:List Li):Bool:=(x.getD 2 []).getD 0 0==1
def fW(x:List Li):Bool:=(x.getD 3 []).getD 0 0==1
def R.at(r:R)(i:Int):List Li:=r.s.getD i.toNat []
def ris(r:R)(i:Int):Bool:=cond (decide (i≥0)) (decide (i < (r.s.length:Int))) false
def rstep(r:R):R×Int:=cond (r.left==0) ({ r with off:=true },22) (cond (decide (r.left > 0)) ({ r with left:=IntKind.i64.wrap (r.left-1) },0) (r,0))
def rread(r:R)(i:Int):List Int×Int:=cond r.off ([],22) (cond (!ris r i) ([],1) (cond (fD (r.at i)) (fN (r.at i),0) (fT (r.at i),0)))
def wput(l:List (List Li))(i:Nat)(t:Li):List (List Li):=(l.set i (pu (l.getD i []) 1 t)).set i (pu ((l.set i (pu (l.getD i []) 1 t)).getD i []) 2 [1])
def rwrite(r:R)(i:Int)(t:Li):R×Int:=cond r.off (r,22) (cond (!ris r i) (r,1) (cond ((t.length:Int) != 64) (r,1) (cond ((rstep r).2 != 0) (rstep r) ({ (rstep r).1 with s:=wput (rstep r).1.s i.toNat t },0))))
def settled(x:List Li)(p:Int):List Li:=[cond (!fW x) ((fN x).take (clamp p)++(fT x).drop (clamp p)) (fT x),[],[0],[cond (fW x) 1 0]]
def rsettle(r:R)(i p:Int):R:={ r with s:=r.s.set i.toNat (settled (r.at i) p) }
def rlen(r:R)(i:Int):Bool:=decide ((fT (r.at i)).length=64∧(fN (r.at i)).length=64)
def rtrip(r:R)(n:Int):R:={ r with left:=if n > -1 then n else -1 }
def rrot(r:R)(i b:Int):R×Int:=cond (!ris r i) (r,1) (cond (decide (b < 0)) (r,1) (cond (decide (b > 511)) (r,1)
 ({ r with s:=r.s.set i.toNat (pu (r.at i) 0 ((fT (r.at i)).set (Int.tdiv b 8).toNat (bK .xor .u8 ((fT (r.at i)).getD (Int.tdiv b 8).toNat 0) (bit b)))) },0)))
def rwear(r:R)(i:Int):R×Int:=cond (!ris r i) (r,1) ({ r with s:=r.s.set i.toNat (pu (r.at i) 3 [1]) },0)
def ald(x:List Li):Prop:=(fT x).length=64∧(fD x=true→(fN x).length=64)
def rfine(r:R):Bool:=decide (r.s.length < 8000)&&r.s.all fun x=>decide ((fT x).length=64)&&(!(fD x) || decide ((fN x).length=64))
def rflushK(r:R)(k:Nat):R:=(List.range k).foldl (fun e (i:Nat)=>cond (fD (e.at i)) (rsettle e i 64) e) r
def rflush(r:R):R×Int:=cond r.off (r,22) (cond ((rstep r).2 != 0) (rstep r) (rflushK (rstep r).1 r.s.length,0))
def rmountK(picks:Li)(r:R)(k:Nat):R×Nat:=(List.range k).foldl (fun (e:R×Nat) (i:Nat)=>cond (fD (e.1.at i)) (rsettle e.1 i (picks.getD e.2 64),e.2+1) e) (r,0)
def rmount(r:R)(picks:Li):R:={ (rmountK picks r r.s.length).1 with off:=false,left:=-1 }
def rimage(r:R):List Li:=r.s.map fT
def zJ(p:List Li→Bool)(l:List (List Li))(k:Nat):List Int:=((List.range k).filter fun i=>p (l.getD i [])).map fun (i:Nat)=>(i:Int)
def Wp(r:R):List Int:=zJ fD r.s r.s.length
def aC7(r:R):List Int:=zJ fW r.s r.s.length
def rnew(n:Int):R:=⟨List.replicate n.toNat [List.replicate 64 0,[],[0],[0]],false,-1⟩
def new(n:Int):D:=⟨n.toNat,List.replicate (n.toNat*64) 0,[],[],false,-1⟩
def image(d:D):List Li:=(List.range d.n).map fun i=>sec d.blk i
def full(c:Int):List Int:=List.replicate 64 c
def text(t:Li):List Int:=cond (decide (0 < t.length)) (t++List.replicate (64-t.length) (t.getD (t.length-1) 0)) t
def op(d:D)(k i b:Int)(t p:Li):D×List Int×Int:=
 cond (k==1) ((write d i (text t)).1,[],(write d i (text t)).2) (cond (k==2) (d,read d i) (cond (k==3) ((flush d).1,[],(flush d).2) (cond (k==4) (trip d i,[],0)
 (cond (k==5) (mount d p,[],0) (cond (k==6) ((rot d i b).1,[],(rot d i b).2) (cond (k==7) ((wear d i).1,[],(wear d i).2) (d,[],0)))))))
def rop(r:R)(k i b:Int)(t p:Li):R×List Int×Int:=
 cond (k==1) ((rwrite r i (text t)).1,[],(rwrite r i (text t)).2) (cond (k==2) (r,rread r i) (cond (k==3) ((rflush r).1,[],(rflush r).2) (cond (k==4) (rtrip r i,[],0)
 (cond (k==5) (rmount r p,[],0) (cond (k==6) ((rrot r i b).1,[],(rrot r i b).2) (cond (k==7) ((rwear r i).1,[],(rwear r i).2) (r,[],0)))))))
def same(d:D)(r:R):Bool:=cond (image d==rimage r) (cond (pending d==Wp r) (cond (wornl d==aC7 r) (cond ((d.n:Int)==(r.s.length:Int)) ((!d.off)==(!r.off)) false) false) false) false
theorem avg(p:Int):clamp p≤64:=by
 unfold clamp;split <;> (try split) <;> omega
theorem ris_iff{r:R}{i:Int}:ris r i=true↔0≤i∧i < (r.s.length:Int):=by
 unfold ris
 by_cases h:i≥0
 ·rw [aK h,decide_eq_true_iff];omega
 ·rw [ba h];constructor
  ·intro h;cases h
  ·intro h';omega
theorem D9{α:Type}(l:List α)(i j:Nat)(x z:α):(l.set i x).getD j z=if i=j∧j < l.length then x else l.getD j z:=by
 simp only [List.getD_eq_getElem?_getD,List.getElem?_set]
 by_cases h:i=j
 ·subst h
  by_cases h2:i < l.length
  ·simp [h2]
  ·simp [h2]
 ·simp [h]
def RGood(r:R):Prop:=r.s.length < 8000 ∧ ∀ i,i < r.s.length→ald (r.s.getD i [])
theorem rfine_iff{r:R}:rfine r=true↔RGood r:=by
 unfold rfine RGood
 rw [Bool.and_eq_true,decide_eq_true_iff,List.all_eq_true]
 refine and_congr_right fun _=>⟨fun h i hi=>?_,fun h x hx=>?_⟩
 ·have:=h _ (show r.s.getD i []∈r.s by rw [List.getD_eq_getElem?_getD,List.getElem?_eq_getElem hi];exact List.getElem_mem _)
  simp only [Bool.and_eq_true,Bool.or_eq_true,decide_eq_true_eq,Bool.not_eq_true'] at this
  exact⟨this.1,fun hd=>this.2.elim (fun h=>by rw [hd] at h;cases h) id⟩
 ·obtain⟨i,hi,rfl⟩:=List.mem_iff_getElem.1 hx
  have:=h i hi
  rw [List.getD_eq_getElem?_getD,List.getElem?_eq_getElem hi] at this
  simp only [Bool.and_eq_true,Bool.or_eq_true,decide_eq_true_eq,Bool.not_eq_true']
  refine⟨this.1,?_⟩
  cases hd:fD r.s[i] with
  | false=>exact .inl rfl
  | true=>exact .inr (this.2 hd)
theorem avh{x:List Li}(h:ald x)(hd:fD x=true)(p:Int):ald (settled x p):=by
 have hc:=avg p
 refine⟨?_,fun h=>by cases h⟩
 simp only [settled,fT,List.getD_cons_zero]
 cases hw:fW x
 ·show((fN x).take (clamp p)++(fT x).drop (clamp p)).length=64
  rw [List.length_append,List.length_take,List.length_drop,h.1,h.2 hd];omega
 ·exact h.1
theorem aRG{r:R}(h:RGood r){i:Nat}{x:List Li}(hx:ald x):RGood { r with s:=r.s.set i x }:=by
 refine⟨by simpa using h.1,fun j hj=>?_⟩
 simp only [D9]
 rw [List.length_set] at hj
 split
 ·exact hx
 ·exact h.2 j hj
theorem ag5{r:R}(h:RGood r){i:Nat}(hi:i < r.s.length)(hd:fD (r.at i)=true)(p:Int):RGood (rsettle r i p):=
 aRG h (avh (by simpa [R.at] using h.2 i hi) hd p)
theorem QA(r:R)(i p:Int):(rsettle r i p).s.length=r.s.length:=by simp [rsettle]
theorem rlen_of{r:R}(h:RGood r){i:Nat}(hi:i < r.s.length)(hd:fD (r.at i)=true):rlen r i=true:=by
 have:=h.2 i hi
 simp only [rlen,decide_eq_true_eq]
 simp only [R.at,Int.toNat_natCast] at hd ⊢
 exact⟨this.1,this.2 hd⟩
theorem rflushK_succ(r:R)(k:Nat):rflushK r (k+1)=cond (fD ((rflushK r k).at k)) (rsettle (rflushK r k) k 64) (rflushK r k):=by
 simp only [rflushK,List.range_succ,List.foldl_append,List.foldl_cons,List.foldl_nil]
theorem rmountK_succ(p:Li)(r:R)(k:Nat):rmountK p r (k+1)=cond (fD ((rmountK p r k).1.at k)) (rsettle (rmountK p r k).1 k (p.getD (rmountK p r k).2 64),(rmountK p r k).2+1) (rmountK p r k):=by
 simp only [rmountK,List.range_succ,List.foldl_append,List.foldl_cons,List.foldl_nil]
theorem rflushK_good{r:R}(h:RGood r):∀ k,k≤r.s.length→RGood (rflushK r k)∧(rflushK r k).s.length=r.s.length
 | 0,_=>⟨h,rfl⟩
 | k+1,hk=>by
  obtain⟨h1,h2⟩:=rflushK_good h k (by omega)
  rw [rflushK_succ]
  cases hd:fD ((rflushK r k).at k)
  ·exact⟨h1,h2⟩
  ·exact⟨ag5 h1 (by omega) hd _,by rw [cond_true,QA,h2]⟩
theorem rmountK_good{p:List Int}{r:R}(h:RGood r):∀ k,k≤r.s.length→RGood (rmountK p r k).1∧(rmountK p r k).1.s.length=r.s.length∧(rmountK p r k).2≤k
 | 0,_=>⟨h,rfl,Nat.le_refl _⟩
 | k+1,hk=>by
  obtain⟨h1,h2,h3⟩:=rmountK_good (p:=p) h k (by omega)
  rw [rmountK_succ]
  cases hd:fD ((rmountK p r k).1.at k)
  ·exact⟨h1,h2,by rw [cond_false];omega⟩
  ·exact⟨ag5 h1 (by omega) hd _,by rw [cond_true,QA,h2],by rw [cond_true];show(rmountK p r k).2+1≤k+1;omega⟩
theorem rstep_same(r:R):(rstep r).1.s=r.s:=by
 unfold rstep
 cases (r.left==0)
 ·cases (decide (r.left > 0)) <;> rfl
 ·rfl
theorem ale(p:List Li→Bool)(l:List (List Li))(k:Nat):zJ p l (k+1)=cond (p (l.getD k [])) (zJ p l k++[(k:Int)]) (zJ p l k):=by
 simp only [zJ,List.range_succ,List.filter_append,List.map_append]
 cases h:p (l.getD k []) <;> simp only [List.filter_cons,List.filter_nil,h] <;> simp
theorem take_succ_map{α β:Type}(f:α→β)(l:List α)(k:Nat)(z:α)(h:k < l.length):(l.take (k+1)).map f=(l.take k).map f++[f (l.getD k z)]:=by
 rw [List.take_add_one,List.getElem?_eq_getElem h,List.map_append,List.getD_eq_getElem?_getD,List.getElem?_eq_getElem h];rfl
end Go.Dk
end
section
/- A disk of the program and one of the specification: what holds of both, and that each operation keeps it. -/
namespace Go.Dk
open Go Go.Am
abbrev Es:=List (Li×Li)
theorem ajg(k v k':Li):∀ es:Es,u7 (u9 es k v) k'=(k==k' || u7 es k')
 | []=>by simp [u9,u7]
 | e :: es=>by
  simp only [u9]
  by_cases h:e.1==k
  ·rw [h,cond_true]
   have h':e.1=k:=by simpa using h
   simp only [u7,List.any_cons,h',← Bool.or_assoc,Bool.or_self]
  ·have h2:(e.1==k)=false:=by simpa using h
   rw [h2,cond_false]
   have ih:=ajg k v k' es
   simp only [u7,List.any_cons] at ih ⊢
   rw [ih]
   cases (e.1==k') <;> cases (k==k') <;> rfl
theorem ajh(z k v k':Li):∀ es:Es,u5 z (u9 es k v) k'=if k=k' then v else u5 z es k'
 | []=>by
  by_cases h:k=k'
  ·simp [u9,u5,h]
  ·have:(k==k')=false:=by simpa using h
   simp [u9,u5,h,this]
 | e :: es=>by
  simp only [u9]
  by_cases h:e.1=k
  ·have h2:(e.1==k)=true:=by simpa using h
   rw [h2,cond_true]
   simp only [u5]
   by_cases h3:k=k'
   ·have h4:(k==k')=true:=by simpa using h3
    rw [h4,if_pos h3];rfl
   ·have h4:(k==k')=false:=by simpa using h3
    have h5:(e.1==k')=false:=by rw [h];exact h4
    rw [h4,h5,if_neg h3];rfl
  ·have h2:(e.1==k)=false:=by simpa using h
   rw [h2,cond_false]
   simp only [u5,ajh z k v k' es]
   by_cases h3:k=k'
   ·have h5:(e.1==k')=false:=by rw [← h3];exact h2
    simp only [if_pos h3,h5,cond_false]
   ·simp only [if_neg h3]
theorem avi(k k':Li):∀ es:Es,u7 (zV es k) k'=(!(k==k')&&u7 es k')
 | []=>by simp [zV,u7]
 | e :: es=>by
  have ih:=avi k k' es
  simp only [zV,u7] at ih ⊢
  by_cases h:e.1=k
  ·have h2:(e.1==k)=true:=by simpa using h
   rw [List.filter_cons_of_neg (by simp [h2]),ih,List.any_cons,h]
   cases (k==k') <;> simp
  ·have h2:(e.1==k)=false:=by simpa using h
   rw [List.filter_cons_of_pos (by simp [h2]),List.any_cons,ih,List.any_cons]
   by_cases h3:k=k'
   ·subst h3;simp [h2]
   ·have h4:(k==k')=false:=by simpa using h3
    simp [h4]
theorem avj(z k k':Li)(hne:k≠k'):∀ es:Es,u5 z (zV es k) k'=u5 z es k'
 | []=>rfl
 | e :: es=>by
  have ih:=avj z k k' hne es
  simp only [zV] at ih ⊢
  by_cases h:e.1=k
  ·have h2:(e.1==k)=true:=by simpa using h
   rw [List.filter_cons_of_neg (by simp [h2]),ih]
   have h5:(e.1==k')=false:=by rw [h];simpa using hne
   simp only [u5,h5,cond_false]
  ·have h2:(e.1==k)=false:=by simpa using h
   rw [List.filter_cons_of_pos (by simp [h2])]
   simp only [u5,ih]
theorem avk{es:Es}{k:List Int}:u7 es k=true ↔ ∃ e∈es,e.1=k:=by
 simp [u7,List.any_eq_true]
theorem Wq{p:Li×Li→Prop}{k v:List Int}(hp:p (k,v)):∀ {es:Es},(∀ e∈es,p e) → ∀ e∈u9 es k v,p e
 | [],_,e,he=>by simp [u9] at he;rw [he];exact hp
 | x :: es,h,e,he=>by
  simp only [u9] at he
  cases hx:x.1==k <;> rw [hx] at he
  ·rw [cond_false] at he
   rcases List.mem_cons.1 he with rfl | he
   ·exact h _ (.head _)
   ·exact Wq hp (fun y hy=>h y (.tail _ hy)) e he
  ·rw [cond_true] at he
   rcases List.mem_cons.1 he with rfl | he
   ·exact hp
   ·exact h e (.tail _ he)
theorem apH{es:Es}(h:∀ e∈es,e.2=[1])(k:Li):((u5 [0] es k).getD 0 0==1)=u7 es k:=by
 induction es with
 | nil=>rfl
 | cons e es ih=>
  have ih:=ih fun x hx=>h x (.tail _ hx)
  simp only [u5,u7,List.any_cons]
  cases hk:e.1==k
  ·rw [cond_false,ih];simp [u7]
  ·rw [cond_true,h e (.head _)];rfl
theorem aot{b:List Int}{i:Nat}(h:i*64+64≤b.length):(sec b i).length=64:=by
 simp only [sec,List.length_take,List.length_drop];omega
theorem KD(b:Li)(i k:Nat):(sec b i)[k]?=if k < 64 then b[i*64+k]? else none:=by
 simp only [sec,List.getElem?_take,List.getElem?_drop]
theorem alf{b s:List Int}{i m:Nat}(hs:s.length=64)(hm:m≤64)(hb:i*64+64≤b.length)(x:Nat):
  (putsec b i m s)[x]?=if x < i*64 then b[x]? else if x < i*64+m then s[x-i*64]? else b[x]?:=by
 have h1:(b.take (i*64)).length=i*64:=by rw [List.length_take];omega
 have h2:((s.take 64).take m).length=m:=by rw [List.length_take,List.length_take];omega
 simp only [putsec]
 by_cases ha:x < i*64
 ·rw [if_pos ha,List.append_assoc,List.getElem?_append_left (by omega),List.getElem?_take,if_pos ha]
 ·rw [if_neg ha]
  by_cases hb':x < i*64+m
  ·rw [if_pos hb',List.append_assoc,List.getElem?_append_right (by omega),List.getElem?_append_left (by omega),h1,List.getElem?_take,if_pos (by omega),List.getElem?_take,if_pos (by omega)]
  ·rw [if_neg hb',List.getElem?_append_right (by rw [List.length_append];omega),List.length_append,h1,h2,List.getElem?_drop]
   congr 1;omega
theorem aC8{b s:List Int}{i m:Nat}(hs:s.length=64)(hm:m≤64)(hb:i*64+64≤b.length)(j:Nat):
  sec (putsec b i m s) j=if j=i then s.take m++(sec b i).drop m else sec b j:=by
 refine List.ext_getElem? fun k=>?_
 rw [KD]
 by_cases hj:j=i
 ·subst hj
  rw [if_pos rfl]
  by_cases hk:k < 64
  ·rw [if_pos hk,alf hs hm hb,if_neg (by omega)]
   by_cases hkm:k < m
   ·rw [if_pos (by omega),List.getElem?_append_left (by rw [List.length_take];omega),List.getElem?_take,if_pos hkm]
    congr 1;omega
   ·rw [if_neg (by omega),List.getElem?_append_right (by rw [List.length_take];omega),List.length_take,List.getElem?_drop,KD,if_pos (by omega)]
    congr 1;omega
  ·rw [if_neg hk,List.getElem?_eq_none]
   rw [List.length_append,List.length_take,List.length_drop,aot hb];omega
 ·rw [if_neg hj,KD]
  by_cases hk:k < 64
  ·rw [if_pos hk,if_pos hk,alf hs hm hb]
   split
   ·rfl
   ·rw [if_neg]
    intro h;omega
  ·rw [if_neg hk,if_neg hk]
theorem a7m(b:Li)(i q j:Nat)(v:Int)(hq:q < 64):sec (b.set (q+i*64) v) j=if j=i then (sec b i).set q v else sec b j:=by
 refine List.ext_getElem? fun k=>?_
 rw [KD]
 by_cases hj:j=i
 ·subst hj
  rw [if_pos rfl,List.getElem?_set,List.getElem?_set,KD]
  by_cases hk:k < 64
  ·rw [if_pos hk,if_pos hk]
   by_cases hqk:q=k
   ·subst hqk
    rw [if_pos (by omega),if_pos rfl]
    by_cases hl:q+j*64 < b.length
    ·rw [if_pos hl,if_pos]
     simp only [sec,List.length_take,List.length_drop];omega
    ·rw [if_neg hl,if_neg]
     simp only [sec,List.length_take,List.length_drop];omega
   ·rw [if_neg (by omega),if_neg hqk]
  ·rw [if_neg hk,if_neg hk,if_neg (by omega)]
 ·rw [if_neg hj,KD]
  by_cases hk:k < 64
  ·rw [if_pos hk,if_pos hk,List.getElem?_set,if_neg (by omega)]
  ·rw [if_neg hk,if_neg hk]
structure Rel (d:D) (r:R):Prop where
 n:r.s.length=d.n
 small:d.n < 8000
 len:d.blk.length=d.n*64
 text:∀ i,i < d.n→sec d.blk i=fT (r.s.getD i [])
 keys:∀ e∈d.pend,(∃ i:Nat,i < d.n∧e.1=[(i:Int)])∧e.2.length=64
 nd:(d.pend.map (·.1)).Nodup
 dirty:∀ i:Nat,i < d.n→isP d i=fD (r.s.getD i [])
 next:∀ i:Nat,i < d.n→fD (r.s.getD i [])=true→nxt d i=fN (r.s.getD i [])
 wkeys:∀ e∈d.worn,(∃ i:Nat,i < d.n∧e.1=[(i:Int)])∧e.2=[1]
 wnd:(d.worn.map (·.1)).Nodup
 worn:∀ i:Nat,i < d.n→isW d i=fW (r.s.getD i [])
 off:d.off=r.off
 left:d.left=r.left∨(d.left < 0∧r.left < 0)
 lo : -9223372036854775808≤d.left
 hi:d.left≤9223372036854775807
theorem ag6{es:Es}{n:Nat}(h:∀ e∈es,∃ i:Nat,i < n∧e.1=[(i:Int)])(hn:(es.map (·.1)).Nodup):es.length≤n:=by
 have h1:(pr es).Nodup:=by
  simp only [pr,List.Nodup,List.pairwise_map] at hn ⊢
  refine hn.imp_of_mem fun {a b} ha hb h' e=>h' ?_
  obtain⟨i,_,e1⟩:=h a ha
  obtain⟨j,_,e2⟩:=h b hb
  rw [e1,e2] at e ⊢
  simpa using e
 have h2:(((List.range n).filter fun i:Nat=>(pr es).contains (i:Int)).map fun i:Nat=>(i:Int)).Nodup:=by
  simp only [List.Nodup,List.pairwise_map]
  refine(List.pairwise_lt_range.filter _).imp fun {a b} h=>?_
  omega
 have h3:(pr es).Perm (((List.range n).filter fun i:Nat=>(pr es).contains (i:Int)).map fun i:Nat=>(i:Int)):=by
  rw [List.perm_ext_iff_of_nodup h1 h2]
  intro x
  simp only [List.mem_map,List.mem_filter,List.mem_range,List.contains_iff_mem]
  constructor
  ·intro hx
   obtain⟨e,he,rfl⟩:=List.mem_map.1 (show x∈es.map fun e=>e.1.getD 0 0 from hx)
   obtain⟨i,hi,e1⟩:=h e he
   exact⟨i,⟨hi,by rw [show(i:Int)=e.1.getD 0 0 by rw [e1];rfl];exact hx⟩,by rw [e1];rfl⟩
  ·rintro⟨i,⟨_,hx⟩,rfl⟩;exact hx
 have h4:=h3.length_eq
 have h5:=List.length_filter_le (fun i:Nat=>(pr es).contains (i:Int)) (List.range n)
 simp only [pr,List.length_map,List.length_range] at h4 h5
 omega
theorem Rel.fine{d:D}{r:R}(h:Rel d r):fine d=true:=by
 have h1:=ag6 (fun e he=>(h.keys e he).1) h.nd
 have h2:=ag6 (fun e he=>(h.wkeys e he).1) h.wnd
 have h3:=h.small
 simp only [Dk.fine,Bool.and_eq_true,decide_eq_true_eq,List.all_eq_true]
 refine⟨⟨h.small,h.len,by omega,by omega⟩,fun e he=>?_⟩
 obtain⟨⟨i,hi,e1⟩,_⟩:=h.keys e he
 rw [e1]
 simp [inD];omega
theorem Rel.ok{d:D}{r:R}(h:Rel d r):Ok d:=⟨h.len,fun e he=>(h.keys e he).2⟩
theorem Rel.good{d:D}{r:R}(h:Rel d r):RGood r:=by
 refine⟨by rw [h.n];exact h.small,fun i hi=>?_⟩
 rw [h.n] at hi
 have hl:=h.len
 refine⟨by rw [← h.text i hi];exact aot (by omega),fun hd=>?_⟩
 rw [← h.next i hi hd]
 exact mget64 h.ok.vals _
theorem Rel.rfine{d:D}{r:R}(h:Rel d r):rfine r=true:=rfine_iff.2 h.good
theorem Rel.check{d:D}{r:R}(h:Rel d r)(i:Int):check d i=cond r.off 22 (cond (!ris r i) 1 0):=by
 unfold Dk.check ris
 rw [h.off,h.n]
 cases r.off
 ·simp only [cond_false]
  by_cases h1:i < 0
  ·rw [aK h1,ba (show ¬ i≥0 by omega)];rfl
  ·rw [ba h1,aK (show i≥0 by omega)]
   by_cases h2:i≥(d.n:Int)
   ·rw [aK h2,show decide (i < (d.n:Int))=false by simp;omega];rfl
   ·rw [ba h2,show decide (i < (d.n:Int))=true by simp;omega];rfl
 ·rfl
theorem Rel.step{d:D}{r:R}(h:Rel d r):(step d).2=(rstep r).2∧Rel (step d).1 (rstep r).1:=by
 have hlo:=h.lo
 have hhi:=h.hi
 unfold Dk.step rstep
 by_cases h0:d.left=0
 ·have h1:r.left=0:=by rcases h.left with h | ⟨h,_⟩ <;> omega
  rw [show(d.left==0)=true by simpa using h0,show(r.left==0)=true by simpa using h1]
  exact⟨rfl,{ h with off:=rfl }⟩
 ·have h1:r.left≠0:=by rcases h.left with h | ⟨_,h⟩ <;> omega
  rw [show(d.left==0)=false by simpa using h0,show(r.left==0)=false by simpa using h1]
  simp only [cond_false]
  by_cases h2:d.left > 0
  ·have h3:r.left=d.left:=by rcases h.left with h | ⟨h,_⟩ <;> omega
   rw [aK h2,aK (show r.left > 0 by omega),h3,bM (by omega) (by omega)]
   exact⟨rfl,{ h with left:=.inl rfl,lo:=by show _≤d.left-1;omega,hi:=by show d.left-1≤_;omega }⟩
  ·rw [ba h2,ba (show ¬ r.left > 0 by rcases h.left with h | ⟨_,h⟩ <;> omega)]
   exact⟨rfl,h⟩
theorem aBe(i j:Nat):([(i:Int)]==[(j:Int)])=decide (i=j):=by
 rw [Bool.eq_iff_iff];simp;omega
theorem avl{i j:Nat}(h:i≠j): [(i:Int)]≠[(j:Int)]:=by simp;omega
theorem aC9(d:D)(i j:Nat)(p:Int):isP (settle d i p) j=(!decide (i=j)&&isP d j):=by
 simp only [isP,settle,avi,aBe]
theorem aDa(d:D){i j:Nat}(p:Int)(h:i≠j):nxt (settle d i p) j=nxt d j:=by
 simp only [nxt,settle];exact avj _ _ _ (avl h) _
theorem aDb{d:D}(hl:d.blk.length=d.n*64)(hv:∀ e∈d.pend,e.2.length=64){i:Nat}(hi:i < d.n)(p:Int)(j:Nat):
  sec (settle d i p).blk j=if j=i then cond (!isW d i) ((nxt d i).take (clamp p)++(sec d.blk i).drop (clamp p)) (sec d.blk i) else sec d.blk j:=by
 have hc:=avg p
 have hx:(nxt d i).length=64:=mget64 hv _
 simp only [settle,Int.toNat_natCast]
 cases (!isW d i)
 ·simp only [cond_false]
  by_cases h:j=i
  ·rw [if_pos h,h]
  ·rw [if_neg h]
 ·simp only [cond_true]
  cases hq:(!(nxt d i==sec d.blk i))
  ·have hq':nxt d i=sec d.blk i:=by simpa using hq
   simp only [cond_false]
   by_cases h:j=i
   ·rw [if_pos h,hq',List.take_append_drop,h]
   ·rw [if_neg h]
  ·simp only [cond_true]
   rw [Nat.min_eq_right hc]
   exact aC8 hx hc (by omega) j
theorem Ae(r:R){i:Nat}(p:Int)(hi:i < r.s.length)(j:Nat):(rsettle r i p).s.getD j []=if i=j then settled (r.s.getD i []) p else r.s.getD j []:=by
 simp only [rsettle,Int.toNat_natCast,D9,R.at]
 by_cases h:i=j
 ·subst h;rw [if_pos ⟨rfl,hi⟩,if_pos rfl]
 ·rw [if_neg (fun h'=>h h'.1),if_neg h]
theorem Rel.settle{d:D}{r:R}(h:Rel d r){i:Nat}(hi:i < d.n)(hd:fD (r.s.getD i [])=true)(p:Int):Rel (settle d i p) (rsettle r i p):=by
 have hir:i < r.s.length:=by rw [h.n];exact hi
 have hok:=ag4 (i:=(i:Int)) h.ok (by simp [inD];exact hi) p
 exact {
  n:=by rw [QA];exact h.n
  small:=h.small
  len:=hok.len
  text:=fun j hj=>by
   rw [aDb h.len h.ok.vals hi,Ae r p hir]
   by_cases hji:j=i
   ·subst hji
    rw [if_pos rfl,if_pos rfl,h.worn j hj,h.next j hj hd,h.text j hj]
    rfl
   ·rw [if_neg hji,if_neg (Ne.symm hji),h.text j hj]
  keys:=fun e he=>h.keys e (List.mem_filter.1 he).1
  nd:=ann h.nd
  dirty:=fun j hj=>by
   rw [aC9,Ae r p hir]
   by_cases hji:i=j
   ·subst hji;simp [settled,fD]
   ·rw [if_neg hji,h.dirty j hj];simp [hji]
  next:=fun j hj hdj=>by
   rw [Ae r p hir] at hdj ⊢
   by_cases hji:i=j
   ·subst hji;rw [if_pos rfl] at hdj;cases hdj
   ·rw [if_neg hji] at hdj ⊢
    rw [aDa d p hji];exact h.next j hj hdj
  wkeys:=h.wkeys
  wnd:=h.wnd
  worn:=fun j hj=>by
   rw [Ae r p hir]
   by_cases hji:i=j
   ·subst hji
    rw [if_pos rfl]
    show isW d i=_
    rw [h.worn i hj]
    simp only [settled,fW,List.getD_cons_succ,List.getD_cons_zero]
    cases (((r.s.getD i []).getD 3 []).getD 0 0==1) <;> rfl
   ·rw [if_neg hji];exact h.worn j hj
  off:=h.off
  left:=h.left
  lo:=h.lo
  hi:=h.hi }
theorem avm(p:List Li→Bool)(l:List (List Li))(k:Nat):(zJ p l k).Pairwise fun a b=>decide (a≤b)=true:=by
 simp only [zJ,List.pairwise_map]
 refine(List.pairwise_lt_range.filter _).imp fun {a b} h=>?_
 simp only [decide_eq_true_eq];omega
theorem azx(p:List Li→Bool)(l:List (List Li))(k:Nat):(zJ p l k).Nodup:=by
 simp only [zJ,List.Nodup,List.pairwise_map]
 refine(List.pairwise_lt_range.filter _).imp fun {a b} h=>?_
 omega
theorem aJx{p:List Li→Bool}{l:List (List Li)}{k:Nat}{x:Int}:x∈zJ p l k ↔ ∃ i:Nat,i < k∧p (l.getD i [])=true∧x=(i:Int):=by
 simp only [zJ,List.mem_map,List.mem_filter,List.mem_range]
 constructor
 ·rintro⟨i,⟨h1,h2⟩,rfl⟩;exact⟨i,h1,h2,rfl⟩
 ·rintro⟨i,h1,h2,rfl⟩;exact⟨i,⟨h1,h2⟩,rfl⟩
theorem aiI{es:Es}{n:Nat}(hk:∀ e∈es,∃ i:Nat,i < n∧e.1=[(i:Int)])(hn:(es.map (·.1)).Nodup)(p:List Li→Bool)(l:List (List Li))
  (hp:∀ i:Nat,i < n→u7 es [(i:Int)]=p (l.getD i [])):P1 (pr es)=zJ p l n:=by
 have h1:(pr es).Nodup:=by
  simp only [pr,List.Nodup,List.pairwise_map] at hn ⊢
  refine hn.imp_of_mem fun {a b} ha hb h e=>h ?_
  obtain⟨i,_,e1⟩:=hk a ha
  obtain⟨j,_,e2⟩:=hk b hb
  rw [e1,e2] at e ⊢
  simpa using e
 have hperm:(pr es).Perm (zJ p l n):=by
  rw [List.perm_ext_iff_of_nodup h1 (azx p l n)]
  intro x
  rw [aJx]
  simp only [pr,List.mem_map]
  constructor
  ·rintro⟨e,he,rfl⟩
   obtain⟨i,hi,e1⟩:=hk e he
   exact⟨i,hi,by rw [← hp i hi];exact avk.2 ⟨e,he,e1⟩,by rw [e1];rfl⟩
  ·rintro⟨i,hi,h2,rfl⟩
   rw [← hp i hi] at h2
   obtain⟨e,he,e1⟩:=avk.1 h2
   exact⟨e,he,by rw [e1];rfl⟩
 have h2:P1 (pr es)=P1 (zJ p l n):=Go.mergeSort_of_perm_i hperm
 rw [h2]
 exact List.mergeSort_of_pairwise (avm p l n)
theorem Rel.pending{d:D}{r:R}(h:Rel d r):pending d=Wp r:=by
 simp only [Dk.pending,Wp,h.n]
 exact aiI (fun e he=>(h.keys e he).1) h.nd _ _ h.dirty
theorem Rel.wornl{d:D}{r:R}(h:Rel d r):wornl d=aC7 r:=by
 simp only [Dk.wornl,aC7,h.n]
 refine aiI (fun e he=>(h.wkeys e he).1) h.wnd _ _ fun i hi=>?_
 rw [← h.worn i hi,isW,apH fun e he=>(h.wkeys e he).2]
theorem Rel.image{d:D}{r:R}(h:Rel d r):image d=rimage r:=by
 refine ahK [] (by simp [Dk.image,rimage,h.n]) fun i hi=>?_
 simp only [Dk.image,List.length_map,List.length_range] at hi
 have h1:=h.text i hi
 simp only [Dk.image,rimage,List.getD_eq_getElem?_getD,List.getElem?_map,List.getElem?_range hi,Option.map_some,Option.getD_some]
 rw [h1,List.getD_eq_getElem?_getD,List.getElem?_eq_getElem (by rw [h.n];exact hi)];rfl
theorem Rel.same{d:D}{r:R}(h:Rel d r):same d r=true:=by
 simp only [Dk.same,h.pending,h.wornl,h.image,h.n,h.off,beq_self_eq_true,cond_true]
theorem Rel.flushK{d:D}{r:R}(h:Rel d r):∀ k,k≤d.n→Rel ((zJ fD r.s k).foldl (fun e i=>Dk.settle e i 64) d) (rflushK r k)∧(∀ j,k≤j→(rflushK r k).s.getD j []=r.s.getD j [])∧((zJ fD r.s k).foldl (fun e i=>Dk.settle e i 64) d).n=d.n
 | 0,_=>⟨h,fun _ _=>rfl,rfl⟩
 | k+1,hk=>by
  obtain⟨h1,h2,h3⟩:=h.flushK k (by omega)
  have hr:=rflushK_succ r k
  have hl:=ale fD r.s k
  have e:fD ((rflushK r k).at (k:Int))=fD (r.s.getD k []):=by rw [R.at,Int.toNat_natCast,h2 k (Nat.le_refl _)]
  rw [hr,hl,e]
  cases hd:fD (r.s.getD k [])
  ·exact⟨h1,fun j hj=>h2 j (by omega),h3⟩
  ·simp only [cond_true,List.foldl_append,List.foldl_cons,List.foldl_nil]
   refine⟨h1.settle (by rw [h3];omega) (by rw [h2 k (Nat.le_refl _)];exact hd) 64,fun j hj=>?_,h3⟩
   rw [Ae _ _ (by rw [h1.n,h3];omega),if_neg (by omega)]
   exact h2 j (by omega)
theorem Rel.flush{d:D}{r:R}(h:Rel d r)(h0:0 < d.n):(flush d).2=(rflush r).2∧Rel (flush d).1 (rflush r).1:=by
 have hris:ris r 0=true:=ris_iff.2 ⟨by omega,by rw [h.n];omega⟩
 simp only [Dk.flush,rflush,h.check,hris]
 cases ho:r.off
 ·simp only [cond_false,Bool.not_true]
  obtain⟨s1,s2⟩:=h.step
  rw [s1]
  cases hs:((rstep r).2 != 0)
  ·simp only [bne_self_eq_false,cond_false]
   obtain⟨t1,t2,t3,t4⟩:=step_same d
   have hp:Dk.pending d=zJ fD (rstep r).1.s d.n:=by rw [h.pending,rstep_same,Wp,h.n]
   rw [hp,h.n]
   exact⟨trivial,(s2.flushK d.n (by rw [t1];exact Nat.le_refl _)).1⟩
  ·simp only [bne_self_eq_false,cond_false,cond_true]
   exact⟨s1,s2⟩
 ·exact⟨rfl,h⟩
theorem Rel.mountK{d:D}{r:R}(h:Rel d r)(picks:Li):∀ k,k≤d.n→Rel (mountAll picks (zJ fD r.s k) 0 d) (rmountK picks r k).1∧(∀ j,k≤j→(rmountK picks r k).1.s.getD j []=r.s.getD j [])∧(mountAll picks (zJ fD r.s k) 0 d).n=d.n∧(rmountK picks r k).2=(zJ fD r.s k).length
 | 0,_=>⟨h,fun _ _=>rfl,rfl,rfl⟩
 | k+1,hk=>by
  obtain⟨h1,h2,h3,h4⟩:=h.mountK picks k (by omega)
  have hr:=rmountK_succ picks r k
  have hl:=ale fD r.s k
  have e:fD ((rmountK picks r k).1.at (k:Int))=fD (r.s.getD k []):=by rw [R.at,Int.toNat_natCast,h2 k (Nat.le_refl _)]
  rw [hr,hl,e]
  cases hd:fD (r.s.getD k [])
  ·exact⟨h1,fun j hj=>h2 j (by omega),h3,h4⟩
  ·simp only [cond_true,VM,Nat.zero_add]
   rw [h4]
   refine⟨h1.settle (by rw [h3];omega) (by rw [h2 k (Nat.le_refl _)];exact hd) _,fun j hj=>?_,h3,by simp⟩
   rw [Ae _ _ (by rw [h1.n,h3];omega),if_neg (by omega)]
   exact h2 j (by omega)
theorem Rel.mount{d:D}{r:R}(h:Rel d r)(picks:Li):Rel (mount d picks) (rmount r picks):=by
 have h1:=(h.mountK picks d.n (Nat.le_refl _)).1
 have hp:Dk.pending d=zJ fD r.s d.n:=by rw [h.pending,Wp,h.n]
 simp only [Dk.mount,rmount,hp,h.n]
 exact { h1 with off:=rfl,left:=.inl rfl,lo:=by show(-9223372036854775808:Int) ≤ -1;decide,hi:=by show(-1:Int)≤9223372036854775807;decide }
theorem J8{l:List (List Li)}{i:Nat}(x:List Li)(h:i < l.length)(j:Nat):(l.set i x).getD j []=if i=j then x else l.getD j []:=by
 rw [D9]
 by_cases hij:i=j
 ·subst hij;rw [if_pos ⟨rfl,h⟩,if_pos rfl]
 ·rw [if_neg (fun h'=>hij h'.1),if_neg hij]
theorem iV:∀ (x:List Li) (c:Nat) (f:Li) (j:Nat),(pu x c f).getD j []=if c=j then f else x.getD j []
 | [],0,f,0=>rfl
 | [],0,f,j+1=>by simp [pu]
 | [],c+1,f,0=>rfl
 | [],c+1,f,j+1=>by
  have:=iV [] c f j
  simp only [pu,List.getD_cons_succ,this,Nat.add_right_cancel_iff];rfl
 | x :: r,0,f,0=>rfl
 | x :: r,0,f,j+1=>by simp [pu]
 | x :: r,c+1,f,0=>by simp [pu]
 | x :: r,c+1,f,j+1=>by
  have:=iV r c f j
  simp only [pu,List.getD_cons_succ,this,Nat.add_right_cancel_iff]
theorem EH{l:List (List Li)}{i:Nat}(t:Li)(h:i < l.length)(j:Nat):(wput l i t).getD j []=if i=j then pu (pu (l.getD i []) 1 t) 2 [1] else l.getD j []:=by
 simp only [wput]
 rw [J8 _ (by simpa using h),J8 _ h,J8 _ h,if_pos rfl]
 split <;> rfl
theorem Rel.write{d:D}{r:R}(h:Rel d r)(i:Int)(t:Li):(write d i t).2=(rwrite r i t).2∧Rel (write d i t).1 (rwrite r i t).1:=by
 simp only [Dk.write,rwrite,h.check]
 cases ho:r.off
 ·cases hi:ris r i
  ·exact⟨rfl,h⟩
  ·simp only [cond_false,Bool.not_true,bne_self_eq_false]
   cases hl:((t.length:Int) != 64)
   ·simp only [cond_false]
    obtain⟨s1,s2⟩:=h.step
    rw [s1]
    cases hs:((rstep r).2 != 0)
    ·simp only [cond_false]
     refine⟨trivial,?_⟩
     have hlen:t.length=64:=by
      have:(t.length:Int)=64:=by simpa using hl
      omega
     obtain⟨t1,t2,t3,t4⟩:=step_same d
     have hr:=ris_iff.1 hi
     rw [h.n] at hr
     obtain⟨q,rfl⟩:∃ q:Nat,i=(q:Int):=⟨i.toNat,by omega⟩
     rw [Int.toNat_natCast,List.take_of_length_le (by omega)]
     have hq:q < (Dk.step d).1.n:=by rw [t1];omega
     revert s2 hq
     generalize (Dk.step d).1=d'
     generalize (rstep r).1=r'
     intro s2 hq
     have hql:q < r'.s.length:=by rw [s2.n];exact hq
     exact {
      n:=by simp only [wput,List.length_set];exact s2.n
      small:=s2.small
      len:=s2.len
      text:=fun j hj=>by
       rw [s2.text j hj,EH t hql]
       by_cases hji:q=j
       ·subst hji;rw [if_pos rfl];simp only [fT];rw [iV,if_neg (by decide),iV,if_neg (by decide)]
       ·rw [if_neg hji]
      keys:=Wq ⟨⟨q,hq,rfl⟩,hlen⟩ s2.keys
      nd:=ahG s2.nd
      dirty:=fun j hj=>by
       rw [EH t hql]
       simp only [isP,ajg,aBe]
       by_cases hji:q=j
       ·subst hji;rw [if_pos rfl,fD,iV,if_pos rfl];simp
       ·rw [if_neg hji,← s2.dirty j hj];simp [hji,isP]
      next:=fun j hj hdj=>by
       rw [EH t hql] at hdj ⊢
       simp only [nxt,ajh]
       by_cases hji:q=j
       ·subst hji;rw [if_pos rfl,if_pos rfl,fN,iV,if_neg (by decide),iV,if_pos rfl]
       ·rw [if_neg hji] at hdj ⊢
        rw [if_neg (avl hji)];exact s2.next j hj hdj
      wkeys:=s2.wkeys
      wnd:=s2.wnd
      worn:=fun j hj=>by
       show isW d' j=_
       rw [s2.worn j hj,EH t hql]
       by_cases hji:q=j
       ·subst hji;rw [if_pos rfl];simp only [fW];rw [iV,if_neg (by decide),iV,if_neg (by decide)]
       ·rw [if_neg hji]
      off:=s2.off
      left:=s2.left
      lo:=s2.lo
      hi:=s2.hi }
    ·exact⟨s1,s2⟩
   ·exact⟨rfl,h⟩
 ·exact⟨rfl,h⟩
theorem Rel.read{d:D}{r:R}(h:Rel d r)(i:Int):read d i=rread r i:=by
 simp only [Dk.read,rread,h.check]
 cases ho:r.off
 ·cases hi:ris r i
  ·rfl
  ·simp only [cond_false,Bool.not_true,bne_self_eq_false]
   have hr:=ris_iff.1 hi
   rw [h.n] at hr
   obtain⟨q,rfl⟩:∃ q:Nat,i=(q:Int):=⟨i.toNat,by omega⟩
   have hq:q < d.n:=by omega
   simp only [R.at,Int.toNat_natCast]
   rw [h.dirty q hq]
   cases hd:fD (r.s.getD q [])
   ·simp only [cond_false];rw [h.text q hq]
   ·simp only [cond_true]
    rw [List.take_of_length_le (by rw [nxt,mget64 h.ok.vals];exact Nat.le_refl _),h.next q hq hd]
 ·rfl
theorem Rel.trip{d:D}{r:R}(h:Rel d r)(n:Int)(h1 : -9223372036854775808≤n)(h2:n≤9223372036854775807):Rel (trip d n) (rtrip r n):=
 { h with
  left:=by
   show n=(if n > -1 then n else -1)∨(n < 0∧(if n > -1 then n else -1) < 0)
   split
   ·exact .inl rfl
   ·exact .inr ⟨by omega,by decide⟩
  lo:=h1
  hi:=h2 }
theorem aBf{d:D}{r:R}(h:Rel d r)(i:Int){α:Type}(a b:α):cond (decide (i < 0)) a (cond (decide (i≥(d.n:Int))) a b)=cond (!ris r i) a b:=by
 simp only [ris,h.n]
 by_cases h1:i < 0
 ·rw [aK h1,ba (show ¬ i≥0 by omega)];rfl
 ·rw [ba h1,aK (show i≥0 by omega)]
  by_cases h2:i≥(d.n:Int)
  ·rw [aK h2,show decide (i < (d.n:Int))=false by simp;omega];rfl
  ·rw [ba h2,show decide (i < (d.n:Int))=true by simp;omega];rfl
theorem Rel.wear{d:D}{r:R}(h:Rel d r)(i:Int):(wear d i).2=(rwear r i).2∧Rel (wear d i).1 (rwear r i).1:=by
 simp only [Dk.wear,rwear,aBf h]
 cases hi:ris r i
 ·exact⟨rfl,h⟩
 ·simp only [Bool.not_true,cond_false]
  have hr:=ris_iff.1 hi
  rw [h.n] at hr
  obtain⟨q,rfl⟩:∃ q:Nat,i=(q:Int):=⟨i.toNat,by omega⟩
  have hq:q < d.n:=by omega
  have hql:q < r.s.length:=by rw [h.n];exact hq
  simp only [R.at,Int.toNat_natCast]
  have get:=J8 (pu (r.s.getD q []) 3 [1]) hql
  exact⟨trivial,{
   n:=by simp only [List.length_set];exact h.n
   small:=h.small
   len:=h.len
   text:=fun j hj=>by
    rw [h.text j hj,get]
    by_cases hji:q=j
    ·subst hji;rw [if_pos rfl];simp only [fT];rw [iV,if_neg (by decide)]
    ·rw [if_neg hji]
   keys:=h.keys
   nd:=h.nd
   dirty:=fun j hj=>by
    show isP d j=_
    rw [h.dirty j hj,get]
    by_cases hji:q=j
    ·subst hji;rw [if_pos rfl];simp only [fD];rw [iV,if_neg (by decide)]
    ·rw [if_neg hji]
   next:=fun j hj hdj=>by
    show nxt d j=_
    rw [get] at hdj ⊢
    by_cases hji:q=j
    ·subst hji
     rw [if_pos rfl] at hdj ⊢
     simp only [fD,fN] at hdj ⊢
     rw [iV,if_neg (by decide)] at hdj ⊢
     exact h.next q hj hdj
    ·rw [if_neg hji] at hdj ⊢
     exact h.next j hj hdj
   wkeys:=Wq ⟨⟨q,hq,rfl⟩,rfl⟩ h.wkeys
   wnd:=ahG h.wnd
   worn:=fun j hj=>by
    rw [get]
    simp only [isW,ajh]
    by_cases hji:q=j
    ·subst hji;rw [if_pos rfl,if_pos rfl];simp only [fW];rw [iV,if_pos rfl]
    ·rw [if_neg hji,if_neg (avl hji)];exact h.worn j hj
   off:=h.off
   left:=h.left
   lo:=h.lo
   hi:=h.hi }⟩
theorem Rel.rot{d:D}{r:R}(h:Rel d r)(i b:Int):(rot d i b).2=(rrot r i b).2∧Rel (rot d i b).1 (rrot r i b).1:=by
 simp only [Dk.rot,rrot,aBf h]
 cases hi:ris r i
 ·exact⟨rfl,h⟩
 ·simp only [Bool.not_true,cond_false]
  by_cases hb0:b < 0
  ·simp only [aK hb0];exact⟨trivial,h⟩
  ·by_cases hb1:b > 511
   ·simp only [ba hb0,aK hb1,aK (show b≥512 by omega)];exact⟨trivial,h⟩
   ·simp only [ba hb0,ba hb1,ba (show ¬ b≥512 by omega)]
    refine⟨trivial,?_⟩
    have hr:=ris_iff.1 hi
    rw [h.n] at hr
    obtain⟨q,rfl⟩:∃ q:Nat,i=(q:Int):=⟨i.toNat,by omega⟩
    have hq:q < d.n:=by omega
    have hql:q < r.s.length:=by rw [h.n];exact hq
    have e8:Int.tdiv b 8=b / 8:=Kx (by omega)
    have hm:(Int.tdiv b 8).toNat < 64:=by rw [e8];omega
    simp only [R.at,Int.toNat_natCast,place]
    generalize (Int.tdiv b 8).toNat=m at hm
    have hl:=h.len
    have ev:d.blk.getD (m+q*64) 0=(fT (r.s.getD q [])).getD m 0:=by
     rw [← h.text q hq,List.getD_eq_getElem?_getD,List.getD_eq_getElem?_getD,KD,if_pos hm,Nat.add_comm]
    rw [ev]
    generalize bK .xor .u8 ((fT (r.s.getD q [])).getD m 0) (bit b)=v
    have get:=J8 (pu (r.s.getD q []) 0 ((fT (r.s.getD q [])).set m v)) hql
    exact {
     n:=by simp only [List.length_set];exact h.n
     small:=h.small
     len:=by simp only [List.length_set];exact h.len
     text:=fun j hj=>by
      rw [a7m _ _ _ _ _ hm,get]
      by_cases hji:q=j
      ·subst hji;rw [if_pos rfl,if_pos rfl,h.text q hj];simp only [fT];rw [iV,if_pos rfl]
      ·rw [if_neg hji,if_neg (Ne.symm hji)];exact h.text j hj
     keys:=h.keys
     nd:=h.nd
     dirty:=fun j hj=>by
      show isP d j=_
      rw [h.dirty j hj,get]
      by_cases hji:q=j
      ·subst hji;rw [if_pos rfl];simp only [fD];rw [iV,if_neg (by decide)]
      ·rw [if_neg hji]
     next:=fun j hj hdj=>by
      show nxt d j=_
      rw [get] at hdj ⊢
      by_cases hji:q=j
      ·subst hji
       rw [if_pos rfl] at hdj ⊢
       simp only [fD,fN] at hdj ⊢
       rw [iV,if_neg (by decide)] at hdj ⊢
       exact h.next q hj hdj
      ·rw [if_neg hji] at hdj ⊢
       exact h.next j hj hdj
     wkeys:=h.wkeys
     wnd:=h.wnd
     worn:=fun j hj=>by
      show isW d j=_
      rw [h.worn j hj,get]
      by_cases hji:q=j
      ·subst hji;rw [if_pos rfl];simp only [fW];rw [iV,if_neg (by decide)]
      ·rw [if_neg hji]
     off:=h.off
     left:=h.left
     lo:=h.lo
     hi:=h.hi }
theorem Rel.op{d:D}{r:R}(h:Rel d r)(h0:0 < d.n)(k i b:Int)(t p:Li)(h1 : -9223372036854775808≤i)(h2:i≤9223372036854775807):(op d k i b t p).2=(rop r k i b t p).2∧Rel (op d k i b t p).1 (rop r k i b t p).1:=by
 simp only [Dk.op,rop]
 cases (k==1)
 ·cases (k==2)
  ·cases (k==3)
   ·cases (k==4)
    ·cases (k==5)
     ·cases (k==6)
      ·cases (k==7)
       ·exact⟨rfl,h⟩
       ·obtain⟨q1,q2⟩:=h.wear i;simp only [cond_true,cond_false];exact⟨by rw [q1],q2⟩
      ·obtain⟨q1,q2⟩:=h.rot i b;simp only [cond_true,cond_false];exact⟨by rw [q1],q2⟩
     ·exact⟨rfl,h.mount p⟩
    ·exact⟨rfl,h.trip i h1 h2⟩
   ·obtain⟨q1,q2⟩:=h.flush h0;simp only [cond_true,cond_false];exact⟨by rw [q1],q2⟩
  ·exact⟨h.read i,h⟩
 ·obtain⟨q1,q2⟩:=h.write i (Dk.text t);simp only [cond_true,cond_false];exact⟨by rw [q1],q2⟩
theorem new_rel{n:Int}(h0:0 < n)(h1:n < 8000):Rel (new n) (rnew n):=by
 have get:∀ i:Nat,i < n.toNat→(rnew n).s.getD i []=[List.replicate 64 0,[],[0],[0]]:=fun i hi=>by
  simp only [rnew]
  rw [List.getD_eq_getElem?_getD,List.getElem?_replicate,if_pos hi];rfl
 exact {
  n:=by simp [new,rnew]
  small:=by simp only [new];omega
  len:=by simp [new]
  text:=fun i hi=>by
   have hi':i < n.toNat:=hi
   rw [get i hi']
   refine List.ext_getElem? fun k=>?_
   rw [KD]
   simp only [new,fT,List.getD_cons_zero,List.getElem?_replicate]
   by_cases hk:k < 64
   ·rw [if_pos hk,if_pos hk,if_pos (by omega)]
   ·rw [if_neg hk,if_neg hk]
  keys:=fun e he=>by simp [new] at he
  nd:=List.nodup_nil
  dirty:=fun i hi=>by rw [get i hi];rfl
  next:=fun i hi hd=>by rw [get i hi] at hd;cases hd
  wkeys:=fun e he=>by simp [new] at he
  wnd:=List.nodup_nil
  worn:=fun i hi=>by rw [get i hi];rfl
  off:=rfl
  left:=.inl rfl
  lo:=by show(-9223372036854775808:Int) ≤ -1;decide
  hi:=by show(-1:Int)≤9223372036854775807;decide }
theorem afJ(picks:Li):∀ (l:Li) (k:Nat) (d:D),(mountAll picks l k d).n=d.n
 | [],_,_=>rfl
 | i :: l,k,d=>by rw [mountAll,afJ picks l];rfl
theorem aBg(l:Li):∀ d:D,(l.foldl (fun e i=>settle e i 64) d).n=d.n:=by
 induction l with
 | nil=>intro d;rfl
 | cons i l ih=>intro d;rw [List.foldl_cons,ih];rfl
theorem ba8(d:D)(k i b:Int)(t p:Li):(op d k i b t p).1.n=d.n:=by
 have hs:=(step_same d).1
 simp only [op]
 cases (k==1)
 ·cases (k==2)
  ·cases (k==3)
   ·cases (k==4)
    ·cases (k==5)
     ·cases (k==6)
      ·cases (k==7)
       ·rfl
       ·simp only [cond_true,cond_false,wear]
        cases decide (i < 0) <;> cases decide (i≥(d.n:Int)) <;> rfl
      ·simp only [cond_true,cond_false,rot]
       cases decide (i < 0) <;> cases decide (i≥(d.n:Int)) <;> cases decide (b < 0) <;> cases decide (b≥512) <;> rfl
     ·exact afJ p _ 0 d
    ·rfl
   ·simp only [cond_true,cond_false,flush]
    cases (check d 0 != 0)
    ·cases ((step d).2 != 0)
     ·exact(aBg _ _).trans hs
     ·exact hs
    ·rfl
  ·rfl
 ·simp only [cond_true,cond_false,write]
  cases (check d i != 0)
  ·cases (((text t).length:Int) != 64)
   ·cases ((step d).2 != 0) <;> exact hs
   ·rfl
  ·rfl
def opx(xs:List (List Li))(k:Nat)(d:D):D×List Int×Int:=op d (((xs.getD k []).getD 0 []).getD 0 0) (((xs.getD k []).getD 1 []).getD 0 0) (((xs.getD k []).getD 2 []).getD 0 0) ((xs.getD k []).getD 3 []) ((xs.getD k []).getD 4 [])
def ba9(xs:List (List Li))(k:Nat)(r:R):R×List Int×Int:=rop r (((xs.getD k []).getD 0 []).getD 0 0) (((xs.getD k []).getD 1 []).getD 0 0) (((xs.getD k []).getD 2 []).getD 0 0) ((xs.getD k []).getD 3 []) ((xs.getD k []).getD 4 [])
def dAt(xs:List (List Li)):Nat→D→D
 | 0,d=>d
 | k+1,d=>(opx xs k (dAt xs k d)).1
def rAt(xs:List (List Li)):Nat→R→R
 | 0,r=>r
 | k+1,r=>(ba9 xs k (rAt xs k r)).1
theorem Rel.run{d:D}{r:R}(h:Rel d r)(h0:0 < d.n){xs:List (List Li)}{n:Nat}
  (hx:∀ k,k < n → -9223372036854775808≤((xs.getD k []).getD 1 []).getD 0 0∧((xs.getD k []).getD 1 []).getD 0 0≤9223372036854775807):∀ k,k≤n→Rel (dAt xs k d) (rAt xs k r)∧0 < (dAt xs k d).n
 | 0,_=>⟨h,h0⟩
 | k+1,hk=>by
  obtain⟨h1,h2⟩:=h.run h0 hx k (by omega)
  obtain⟨q1,q2⟩:=hx k (by omega)
  have h3:=h1.op h2 (((xs.getD k []).getD 0 []).getD 0 0) (((xs.getD k []).getD 1 []).getD 0 0) (((xs.getD k []).getD 2 []).getD 0 0) ((xs.getD k []).getD 3 []) ((xs.getD k []).getD 4 []) q1 q2
  refine⟨h3.2,?_⟩
  have:(opx xs k (dAt xs k d)).1.n=(dAt xs k d).n:=ba8 _ _ _ _ _ _
  simp only [dAt];omega
end Go.Dk
end
section
/- What the functions of package journal compute, in plain terms. -/
namespace Go.Jr
open Go Go.Am
def count(n:Int):Int:=cond (decide (n < 0∨8000 < n)) 0 (if (n+47) / 48 > 1 then (n+47) / 48 else 1)
def small(n:Int)(k:Nat):List Int:=(List.range k).map fun i=>n / 256^i%256
def num(b:Li):Int:=b.foldr (fun x n=>256*n+x) 0
def put(b:Li)(o:Nat)(n:Int):Nat→List Int
 | 0=>b
 | k+1=>put (b.set o (n%256)) (o+1) (n / 256) k
def rest(t:Li)(k:Nat):List Int:=t.drop (48*k)
def fill(r:Li):List Int:=r.take 48++List.replicate (48-r.length) 0
def front(number:Int)(t:Li)(k:Nat):List Int:=small number 4++small (k:Int) 2++small ((rest t k).length:Int) 2++fill (rest t k)
def checked(b:Li):List Int:=b++(Sha.hash b).take 8
def sector(number:Int)(t:Li)(k:Nat):List Int:=checked (front number t k)
def sectors(number:Int)(t:Li):List Li:=(List.range (count t.length).toNat).map (sector number t)
def pack(number:Int)(t:Li):List Li×Int:=cond (decide (number < 1∨4096 < number)) ([],1) (cond (decide ((8000:Int) < t.length)) ([],4) (sectors number t,0))
structure Part where
 number:Int
 part:Int
 left:Int
 payload:List Int
 ok:Bool
def Part.zero:Part:=⟨0,0,0,[],false⟩
def b2i(b:Bool):Int:=cond b 1 0
def Part.row(p:Part):List Li:=[[p.number],[p.part],[p.left],p.payload,[b2i p.ok]]
def fNum(s:Li):Int:=num (s.take 4)
def fPart(s:Li):Int:=num ((s.drop 4).take 2)
def fLeft(s:Li):Int:=num ((s.drop 6).take 2)
def fN(s:Li):Nat:=min (fLeft s).toNat 48
def zS(s:Li):Bool:=decide (s.length=64)&&((Sha.hash (s.take 56)).take 8==s.drop 56)&&decide (1≤fNum s∧fNum s≤4096∧48*fPart s+fLeft s≤8000∧¬ (fLeft s < 1∧0 < fPart s)) &&
 ((s.drop (8+fN s)).take (48-fN s)==List.replicate (48-fN s) 0)
def unpack(s:Li):Part:=cond (zS s) ⟨fNum s,fPart s,fLeft s,(s.drop 8).take (fN s),true⟩ Part.zero
def blank(s:Li):Bool:=s.all (· == 0)
structure J where
 nums:List Int
 texts:List Li
 bad:List Int
 next:Int
 fin:Int
 closed:Bool
def finOf(S:List Li):Nat→Int
 | 0=>0
 | k+1=>cond (blank (S.getD k [])) (finOf S k) ((k:Int)+1)
def badOf(S:List Li)(k:Nat):List Int:=((List.range k).filter fun i=>!blank (S.getD i []) && !(unpack (S.getD i [])).ok).map fun i:Nat=>(i:Int)
def nextOf(S:List Li):Nat→Int
 | 0=>1
 | k+1=>if (unpack (S.getD k [])).number+1 > nextOf S k then (unpack (S.getD k [])).number+1 else nextOf S k
def pt(l:List Part)(k:Nat):Part:=l.getD k Part.zero
def recN(l:List Part)(k:Nat):Nat:=(count (pt l k).left).toNat
def partOk(l:List Part)(k i:Nat):Bool:=(pt l (k+i)).ok&&decide ((pt l (k+i)).number=(pt l k).number∧(pt l (k+i)).part=(i:Int)∧(pt l (k+i)).left=(pt l k).left-48*i)
def recOk(l:List Part)(k:Nat):Bool:=(pt l k).ok&&decide ((pt l k).part=0∧k+recN l k≤l.length)&&(List.range (recN l k)).all (partOk l k)
def recText(l:List Part)(k n:Nat):List Int:=(List.range n).flatMap fun i=>(pt l (k+i)).payload
def put1(a:List Int×List Li)(n:Int)(t:Li):List Int×List Li:=cond (a.1.contains n) a (a.1++[n],a.2++[t])
def collect(l:List Part):Nat→Nat→List Int×List Li→List Int×List Li
 | 0,_,a=>a
 | f+1,k,a=>cond (decide (k < l.length)) (cond (recOk l k) (collect l f (k+recN l k) (put1 a (pt l k).number (recText l k (recN l k)))) (collect l f (k+1) a)) a
def openS(S:List Li):J:=
 ⟨(collect (S.map unpack) S.length 0 ([],[])).1,(collect (S.map unpack) S.length 0 ([],[])).2,badOf S S.length,nextOf S S.length,finOf S S.length,false⟩
def damaged(j:J):List Int:=((List.range (j.next-1).toNat).filter fun i:Nat=>!j.nums.contains ((i:Int)+1)).map fun i:Nat=>(i:Int)+1
structure Dev (δ:Type) where
 n:δ→Int
 write:δ→Int→List Int→δ×Int
 flush:δ→δ×Int
 read:δ→Int→List Int×Int
def writes{δ:Type}(V:Dev δ)(at_:Int)(L:List Li):Nat→δ→δ×Int
 | 0,d=>(d,0)
 | k+1,d=>cond ((writes V at_ L k d).2 != 0) (writes V at_ L k d) (V.write (writes V at_ L k d).1 (at_+k) (L.getD k []))
def reads{δ:Type}(V:Dev δ)(d:δ)(at_:Int)(L:List Li):Nat→Bool×Int
 | 0=>(true,0)
 | k+1=>cond ((reads V d at_ L k).2 != 0) (reads V d at_ L k) (cond ((V.read d (at_+k)).2 != 0) (false,(V.read d (at_+k)).2) ((reads V d at_ L k).1&&(L.getD k []==(V.read d (at_+k)).1),0))
def writeAll{δ:Type}(V:Dev δ)(d:δ)(at_:Int)(L:List Li):δ×Int×Bool:=
 cond ((writes V at_ L L.length d).2 != 0) ((writes V at_ L L.length d).1,(writes V at_ L L.length d).2,false)
  (cond ((V.flush (writes V at_ L L.length d).1).2 != 0) ((V.flush (writes V at_ L L.length d).1).1,(V.flush (writes V at_ L L.length d).1).2,false)
   ((V.flush (writes V at_ L L.length d).1).1,(reads V (V.flush (writes V at_ L L.length d).1).1 at_ L L.length).2,(reads V (V.flush (writes V at_ L L.length d).1).1 at_ L L.length).1))
def append{δ:Type}(V:Dev δ)(d:δ)(j:J)(t:Li):δ×J×Int×Int:=
 cond j.closed (d,j,0,22) (cond (decide ((8000:Int) < t.length)) (d,j,0,4) (cond (decide (j.next > 4096)) (d,j,0,4) (cond (decide (count t.length > V.n d-j.fin)) (d,j,0,21)
  (let r:=writeAll V d j.fin (sectors j.next t)
   let k:J:={ j with next:=j.next+1,fin:=j.fin+count t.length }
   cond (r.2.1 != 0) (r.1,{ k with closed:=true },0,r.2.1) (cond (!r.2.2) (r.1,k,0,23) (r.1,{ k with nums:=k.nums++[j.next],texts:=k.texts++[t] },j.next,0))))))
theorem small_len(n:Int)(k:Nat):(small n k).length=k:=by simp [small]
theorem alg(n:Int)(k:Nat):small n (k+1)=n%256 :: small (n / 256) k:=by
 simp only [small,List.range_succ_eq_map,List.map_cons,List.map_map,Int.pow_zero,Int.ediv_one]
 congr 1
 refine List.map_congr_left fun i _=>?_
 simp only [Function.comp]
 rw [Int.ediv_ediv_of_nonneg (by decide),Int.pow_succ,Int.mul_comm]
theorem num_cons(x:Int)(b:Li):num (x :: b)=256*num b+x:=rfl
theorem num_bound:∀ (b:Li),(∀ x∈b,0≤x∧x < 256)→0≤num b∧num b < 256^b.length
 | [],_=>⟨Int.le_refl _,by simp [num]⟩
 | x :: b,h=>by
  obtain⟨h1,h2⟩:=num_bound b fun y hy=>h y (.tail _ hy)
  have:=h x (.head _)
  rw [num_cons,List.length_cons,Int.pow_succ]
  omega
theorem pow_le4{k:Nat}(h:k≤4):(256:Int)^k≤4294967296:=by
 have:((256^k:Nat):Int)≤((256^4:Nat):Int):=Int.ofNat_le.2 (Nat.pow_le_pow_right (by decide) h)
 simpa using this
theorem small_snoc(n:Int)(k:Nat):small n (k+1)=small n k++[n / 256^k%256]:=by simp [small,List.range_succ]
theorem WZ:∀ (k:Nat) (n:Int),0≤n→n < 256^k→num (small n k)=n
 | 0,n,h,h2=>by simp [small,num] at *;omega
 | k+1,n,h,h2=>by
  rw [alg,num_cons,WZ k (n / 256) (by omega) (by rw [Int.pow_succ] at h2;omega)];omega
theorem small_byte(n:Int)(k:Nat):∀ x∈small n k,0≤x∧x < 256:=fun x hx=>by
 simp only [small,List.mem_map] at hx
 obtain⟨i,_,rfl⟩:=hx
 omega
theorem fill_len(r:Li):(fill r).length=48:=by simp only [fill,List.length_append,List.length_take,List.length_replicate];omega
theorem fill_map(r:Li):((List.range 48).map fun q=>r.getD q 0)=fill r:=by
 apply List.ext_getElem?
 intro q
 rw [List.getElem?_map,fill]
 by_cases h:q < 48
 ·rw [List.getElem?_range h]
  by_cases h2:q < r.length
  ·rw [List.getElem?_append_left (by rw [List.length_take];omega),List.getElem?_take,if_pos h,List.getElem?_eq_getElem h2,Option.map_some,List.getD_eq_getElem?_getD,List.getElem?_eq_getElem h2];rfl
  ·rw [List.getElem?_append_right (by rw [List.length_take];omega),List.getElem?_replicate,if_pos (by rw [List.length_take];omega),Option.map_some,List.getD_eq_getElem?_getD,List.getElem?_eq_none (by omega)];rfl
 ·rw [List.getElem?_eq_none (by simp;omega),Option.map_none,List.getElem?_eq_none (by simp only [List.length_append,List.length_take,List.length_replicate];omega)]
theorem ag7(number:Int)(t:Li)(k:Nat):(front number t k).length=56:=by simp only [front,List.length_append,small_len,fill_len]
theorem hash8(b:Li):((Sha.hash b).take 8).length=8:=by rw [List.length_take,Sha.hash_len];rfl
theorem azy(b:Li):(checked b).length=b.length+8:=by rw [checked,List.length_append,hash8]
theorem sector_len(number:Int)(t:Li)(k:Nat):(sector number t k).length=64:=by rw [sector,azy,ag7]
theorem sectors_len(number:Int)(t:Li):(sectors number t).length=(count t.length).toNat:=by simp [sectors]
theorem count_ok{n:Nat}(h:n≤8000):1≤count n∧(n:Int)≤48*count n∧48*(count n-1)≤n∧count n≤167∧(0 < n→48*(count n-1) < n):=by
 have e:count n=if ((n:Int)+47) / 48 > 1 then ((n:Int)+47) / 48 else 1:=by rw [count,decide_eq_false (by omega)];rfl
 rw [e]
 split <;> omega
theorem azz(number:Int)(t:Li)(k:Nat)(b:Li):(front number t k++b).take 4=small number 4:=by
 simp only [front,List.append_assoc]
 exact List.take_left' (small_len _ _)
theorem azA(number:Int)(t:Li)(k:Nat)(b:Li):((front number t k++b).drop 4).take 2=small k 2:=by
 simp only [front,List.append_assoc]
 rw [List.drop_left' (small_len _ _)]
 exact List.take_left' (small_len _ _)
theorem azB(number:Int)(t:Li)(k:Nat)(b:Li):((front number t k++b).drop 6).take 2=small ((rest t k).length:Int) 2:=by
 have e:(front number t k++b)=(small number 4++small k 2)++(small ((rest t k).length:Int) 2++(fill (rest t k)++b)):=by simp only [front,List.append_assoc]
 rw [e,List.drop_left' (by rw [List.length_append,small_len,small_len])]
 exact List.take_left' (small_len _ _)
theorem azC(number:Int)(t:Li)(k:Nat)(b:Li):(front number t k++b).drop 8=fill (rest t k)++b:=by
 have e:(front number t k++b)=(small number 4++small k 2++small ((rest t k).length:Int) 2)++(fill (rest t k)++b):=by simp only [front,List.append_assoc]
 rw [e,List.drop_left' (by simp only [List.length_append,small_len])]
theorem rest_len(t:Li)(k:Nat):(rest t k).length=t.length-48*k:=by simp [rest]
theorem VN{number:Int}{t:List Int}{k:Nat}(h1:1≤number)(h2:number≤4096)(ht:t.length≤8000)(hk:(k:Int) < count t.length):
  unpack (sector number t k)=⟨number,k,(t.length:Int)-48*k,(rest t k).take 48,true⟩:=by
 obtain⟨c1,c2,c3,c4,c5⟩:=count_ok ht
 have hr:=rest_len t k
 have hk8:48*k≤t.length:=by omega
 have hk7:k < 167:=by omega
 have f1:fNum (sector number t k)=number:=by
  rw [fNum,sector,checked,azz,WZ 4 number (by omega) (by omega)]
 have f2:fPart (sector number t k)=k:=by
  rw [fPart,sector,checked,azA,WZ 2 (k:Int) (by omega) (by omega)]
 have f3:fLeft (sector number t k)=(t.length:Int)-48*k:=by
  rw [fLeft,sector,checked,azB,WZ 2 _ (by omega) (by omega)];omega
 have f4:fN (sector number t k)=min (rest t k).length 48:=by rw [fN,f3,hr];congr 1;omega
 have f5:(sector number t k).drop 8=fill (rest t k)++(Sha.hash (front number t k)).take 8:=by rw [sector,checked,azC]
 have f6:((sector number t k).drop 8).take (fN (sector number t k))=(rest t k).take 48:=by
  rw [f5,f4,List.take_append_of_le_length (by rw [fill_len];omega),fill]
  rcases Nat.le_total (rest t k).length 48 with h | h
  ·rw [Nat.min_eq_left h,List.take_of_length_le h]
   exact List.take_left' rfl
  ·rw [Nat.min_eq_right h,show 48-(rest t k).length=0 by omega,List.replicate_zero,List.append_nil,List.take_take,Nat.min_self]
 have f7:((sector number t k).drop (8+fN (sector number t k))).take (48-fN (sector number t k))=List.replicate (48-fN (sector number t k)) 0:=by
  rw [← List.drop_drop,f5,f4]
  rcases Nat.le_total (rest t k).length 48 with h | h
  ·rw [Nat.min_eq_left h,fill,List.take_of_length_le h,List.append_assoc,List.drop_left' rfl]
   exact List.take_left' (by simp)
  ·rw [Nat.min_eq_right h];simp
 have f8:(Sha.hash ((sector number t k).take 56)).take 8=(sector number t k).drop 56:=by
  rw [sector,checked,List.take_left' (ag7 _ _ _),List.drop_left' (ag7 _ _ _)]
 have hg:zS (sector number t k)=true:=by
  simp only [zS,Bool.and_eq_true,decide_eq_true_eq,beq_iff_eq]
  refine⟨⟨⟨sector_len _ _ _,f8⟩,?_⟩,f7⟩
  rw [f1,f2,f3]
  omega
 rw [unpack,hg,cond_true,f1,f2,f3,f6]
theorem unpack_not{s:List Int}(h:s.length≠64∨(Sha.hash (s.take 56)).take 8≠s.drop 56∨¬ (1≤fNum s∧fNum s≤4096∧48*fPart s+fLeft s≤8000∧¬ (fLeft s < 1∧0 < fPart s)) ∨
  (s.drop (8+fN s)).take (48-fN s)≠List.replicate (48-fN s) 0):unpack s=Part.zero:=by
 have:zS s=false:=by
  cases hg:zS s with
  | false=>rfl
  | true=>
   simp only [zS,Bool.and_eq_true,decide_eq_true_eq,beq_iff_eq] at hg
   obtain⟨⟨⟨h1,h2⟩,h3⟩,h4⟩:=hg
   rcases h with h | h | h | h
   ·exact absurd h1 h
   ·exact absurd h2 h
   ·exact absurd h3 h
   ·exact absurd h4 h
 rw [unpack,this];rfl
theorem unpack_is{s:List Int}(h1:s.length=64)(h2:(Sha.hash (s.take 56)).take 8=s.drop 56)(h3:1≤fNum s∧fNum s≤4096∧48*fPart s+fLeft s≤8000∧¬ (fLeft s < 1∧0 < fPart s))
  (h4:(s.drop (8+fN s)).take (48-fN s)=List.replicate (48-fN s) 0):unpack s=⟨fNum s,fPart s,fLeft s,(s.drop 8).take (fN s),true⟩:=by
 have:zS s=true:=by
  simp only [zS,Bool.and_eq_true,decide_eq_true_eq,beq_iff_eq]
  exact⟨⟨⟨h1,h2⟩,h3⟩,h4⟩
 rw [unpack,this];rfl
theorem checked_eq{s:List Int}(h:s.length=64):(checked (s.take 56)==s)=((Sha.hash (s.take 56)).take 8==s.drop 56):=by
 rw [Bool.eq_iff_iff,beq_iff_eq,beq_iff_eq,checked]
 constructor
 ·intro e
  have:=congrArg (List.drop 56) e
  rwa [List.drop_left' (by rw [List.length_take];omega)] at this
 ·intro e;rw [e,List.take_append_drop]
theorem zeros_iff{s:List Int}{o n:Nat}(h:o+n≤s.length):(s.drop o).take n=List.replicate n 0 ↔ ∀ j,j < n→s.getD (o+j) 0=0:=by
 constructor
 ·intro e j hj
  have:=congrArg (fun l=>l[j]?) e
  simp only [List.getElem?_take,List.getElem?_drop,List.getElem?_replicate,hj,if_true] at this
  rw [List.getD_eq_getElem?_getD,this];rfl
 ·intro e
  apply List.ext_getElem?
  intro j
  by_cases hj:j < n
  ·have:=e j hj
   rw [List.getD_eq_getElem?_getD,List.getElem?_eq_getElem (by omega)] at this
   rw [List.getElem?_take,if_pos hj,List.getElem?_drop,List.getElem?_replicate,if_pos hj,List.getElem?_eq_getElem (by omega)]
   exact congrArg some this
  ·rw [List.getElem?_take,if_neg hj,List.getElem?_replicate,if_neg hj]
end Go.Jr

namespace Go.Am
abbrev jB(a k b c d:Nat)(x f:Int)(q:Bool):Blk:=.cells 7 (.segs (.cons 1 (.one (.ptr a 0 k 0 0 0 k)) (.cons 1 (.one (.own b 0 1)) (.cons 1 (.one (.own c 0 1)) (.cons 1 (.one (.own d 0 1)) (.cons 1 (.one (.int .i64 x)) (.cons 1 (.one (.int .i64 f)) (.cons 1 (.one (.bool q)) .nil)))))))) true
abbrev jE(a k b c d:Nat)(e:Jr.J):Blk:=jB a k b c d e.next e.fin e.closed
end Go.Am
end
section
namespace Go.Am
open Go Go.Proofs
abbrev ag8:List (Nat×Md):=[(0,.plain),(3,.plain),(4,.plain)]
abbrev aDc:List (Nat×Md):=[(0,.plain),(1,.plain),(5,.own 5),(6,.plain)]
abbrev uY:List (Nat×Md):=[(0,.plain),(1,.plain)]
abbrev a8o:List (Nat×Md):=[(0,.plain),(1,.plain),(5,.own 5)]
abbrev VO:List (Nat×Md):=[(0,.plain),(1,.plain),(5,.plain)]
abbrev aji:=Int×Int×Int×Li
abbrev afK:=(List Li)×(List Li)
abbrev ajk:=(List Li)×(List Li)×Int
def bba:List hI:=[]
def V34:Env:=dL fP dM bba
noncomputable abbrev bbb:=ij V34 none (Tryz.f34).results.toList
theorem bbc:EOk Tryz.prog V34:=bL (by exact trivial)
def bbd(F:Nat):Cuts:={ F:=F,at_:=fun _=>none,join:=fun _=>none }
abbrev bbe(F n:Nat){σ:Type}(e:σ→St)(K:Ex→St→Rz)(N:σ→Rz):=Qe V34 (bbd F) (bp Tryz.f34 n) e K N
def aJy:Int→St:=fun a=>hS [iS 0 a] [] 14 0
def aDd(F:Nat):Int→Rz:=fun a=>(cond (decide (a < (0:Int))) (some ((.int .i64 0),[])) (cond (decide (a > (8000:Int))) (some ((.int .i64 0),[])) (some ((.int .i64 (if (IntKind.i64.wrap (Int.tdiv (IntKind.i64.wrap ((IntKind.i64.wrap (a+(48:Int)))-(1:Int))) (48:Int))) > (1:Int) then (IntKind.i64.wrap (Int.tdiv (IntKind.i64.wrap ((IntKind.i64.wrap (a+(48:Int)))-(1:Int))) (48:Int))) else (1:Int))),[]))))
theorem aRH F:bbe F 1 aJy bbb (aDd F):=fun _=>by kernel_rfl
def f34(F:Nat):Int→Rz:=aDd F
def r34:eP:=fun X H=>match X,H with
 | [(.int .i64 a0)],[]=>some (true,(.int .i64 (Jr.count a0)),[])
 | _,_=>none
theorem s34(a0:Int)(h0:okV (.int .i64 a0)):∃ F,f34 F a0=some ((.int .i64 (Jr.count a0)),[]):=by
 have hw:=h0
 refine⟨0,?_⟩
 simp only [f34,aDd]
 by_cases h1:a0 < 0
 ·rw [aK h1,Jr.count,aK (.inl h1)]
 by_cases h2:a0 > 8000
 ·rw [ba h1,aK h2,Jr.count,aK (.inr h2)]
 rw [ba h1,ba h2,Jr.count,ba (by omega),bM (x:=a0+48) (by omega) (by omega),bM (x:=a0+48-1) (by omega) (by omega),Kx (by omega),bM (by omega) (by omega),show a0+48-1=a0+47 by omega]
theorem c34:Ck 34 r34:=ck bbc Tryz.func34 (by
 intro X H r H' h hX hH
 unfold r34 at h;split at h <;> try contradiction
 ·obtain⟨hp,rfl,rfl⟩:=ik h
  obtain⟨F,hF⟩:=s34 _ (hX _ hm0)
  exact⟨_,abC (aRH F) hF⟩)
def bbf:List hI:=[]
def V57:Env:=dL fP dM bbf
noncomputable abbrev bbg:=ij V57 none (Tryz.f57).results.toList
theorem bbh:EOk Tryz.prog V57:=bL (by exact trivial)
def bbi(F:Nat):Cuts:={ F:=F,at_:=fun _=>none,join:=fun _=>none }
abbrev bbj(F n:Nat){σ:Type}(e:σ→St)(K:Ex→St→Rz)(N:σ→Rz):=Qe V57 (bbi F) (bp Tryz.f57 n) e K N
def a8p:Int→St:=aJy
def aDe(F:Nat):Int→Rz:=fun a=>(cond (decide (a < (0:Int))) (some ((.int .i64 0),[])) (cond (decide (a > (8000:Int))) (some ((.int .i64 0),[])) (cond (a==(0:Int)) (some ((.int .i64 1),[])) (some ((.int .i64 (IntKind.i64.wrap (Int.tdiv (IntKind.i64.wrap (a+(47:Int))) (48:Int)))),[])))))
theorem aRI F:bbj F 1 a8p bbg (aDe F):=fun _=>by kernel_rfl
def f57(F:Nat):Int→Rz:=aDe F
def r57:eP:=fun X H=>match X,H with
 | [(.int .i64 a0)],[]=>some (true,(.int .i64 (Jr.count a0)),[])
 | _,_=>none
theorem s57(a0:Int)(h0:okV (.int .i64 a0)):∃ F,f57 F a0=some ((.int .i64 (Jr.count a0)),[]):=by
 refine⟨0,?_⟩
 simp only [f57,aDe,ant]
 by_cases h1:a0 < 0
 ·rw [aK h1,Jr.count,aK (.inl h1)]
 by_cases h2:a0 > 8000
 ·rw [ba h1,aK h2,Jr.count,aK (.inr h2)]
 by_cases h3:a0=0
 ·rw [ba h1,ba h2,aK h3,Jr.count,ba (by omega),if_neg (by omega)]
 rw [ba h1,ba h2,ba h3,Jr.count,ba (by omega),bM (x:=a0+47) (by omega) (by omega),Kx (by omega),bM (by omega) (by omega)]
 split
 ·rfl
 ·rw [show(a0+47) / 48=1 by omega]
theorem c57:Ck 57 r57:=ck bbh Tryz.func57 (by
 intro X H r H' h hX hH
 unfold r57 at h;split at h <;> try contradiction
 ·obtain⟨hp,rfl,rfl⟩:=ik h
  obtain⟨F,hF⟩:=s57 _ (hX _ hm0)
  exact⟨_,abC (aRI F) hF⟩)
def bbk:List hI:=[]
def V91:Env:=dL fP dM bbk
noncomputable abbrev aRJ:=ij V91 none (Tryz.f91).results.toList
theorem bbl:EOk Tryz.prog V91:=bL (by exact trivial)
def a99(F:Nat):Cuts:={ F:=F+6,at_:=fun _=>none,join:=fun _=>none }
abbrev baa(F n:Nat){σ:Type}(e:σ→St)(K:Ex→St→Rz)(N:σ→Rz):=Qe V91 (a99 F) (bp Tryz.f91 n) e K N
def a7n:Li×Int→St:=fun (a,b)=>hS [(0,.sl 0 0 64 0 4 1),iS 1 b] [.cells 64 (.rI .u8 a) true] 18 1
def avn(F:Nat):Li×Int→Rz:=fun (b,a)=>(some ((.tup .nil),[(.cells 64 (.rI .u8 ((((b.set 0 (IntKind.u8.wrap a)).set 1 (IntKind.u8.wrap (Int.fdiv a (2^8)))).set 2 (IntKind.u8.wrap (Int.fdiv (Int.fdiv a (2^8)) (2^8)))).set 3 (IntKind.u8.wrap (Int.fdiv (Int.fdiv (Int.fdiv a (2^8)) (2^8)) (2^8))))) true)]))
theorem aJz F:baa F 1 a7n aRJ (avn F):=fun _=>by kernel_rfl
def a8q(F:Nat):Li×Int→Rz:=avn F
def bab(F:Nat):Cuts:={ F:=F+6,at_:=fun _=>none,join:=fun _=>none }
abbrev bac(F n:Nat){σ:Type}(e:σ→St)(K:Ex→St→Rz)(N:σ→Rz):=Qe V91 (bab F) (bp Tryz.f91 n) e K N
def a7o:Li×Int→St:=fun (a,b)=>hS [(0,.sl 0 0 64 4 2 1),iS 1 b] [.cells 64 (.rI .u8 a) true] 18 1
def avo(F:Nat):Li×Int→Rz:=fun (b,a)=>(some ((.tup .nil),[(.cells 64 (.rI .u8 ((b.set 4 (IntKind.u8.wrap a)).set 5 (IntKind.u8.wrap (Int.fdiv a (2^8))))) true)]))
theorem aJA F:bac F 1 a7o aRJ (avo F):=fun _=>by kernel_rfl
def a8r(F:Nat):Li×Int→Rz:=avo F
def bae(F:Nat):Cuts:={ F:=F+6,at_:=fun _=>none,join:=fun _=>none }
abbrev baf(F n:Nat){σ:Type}(e:σ→St)(K:Ex→St→Rz)(N:σ→Rz):=Qe V91 (bae F) (bp Tryz.f91 n) e K N
def a7p:Li×Int→St:=fun (a,b)=>hS [(0,.sl 0 0 64 6 2 1),iS 1 b] [.cells 64 (.rI .u8 a) true] 18 1
def avp(F:Nat):Li×Int→Rz:=fun (b,a)=>(some ((.tup .nil),[(.cells 64 (.rI .u8 ((b.set 6 (IntKind.u8.wrap a)).set 7 (IntKind.u8.wrap (Int.fdiv a (2^8))))) true)]))
theorem aJB F:baf F 1 a7p aRJ (avp F):=fun _=>by kernel_rfl
def a8s(F:Nat):Li×Int→Rz:=avp F
def r91:eP:=fun X H=>match X,H with
 | [(.sl 0 0 64 0 4 1),.int .i64 a1],[(.cells 64 (.rI .u8 a0) true)]=>some ((decide (0≤a1)),.tup .nil,[(.cells 64 (.rI .u8 (Jr.put a0 0 a1 4)) true)])
 | [(.sl 0 0 64 4 2 1),.int .i64 a1],[(.cells 64 (.rI .u8 a0) true)]=>some ((decide (0≤a1)),.tup .nil,[(.cells 64 (.rI .u8 (Jr.put a0 4 a1 2)) true)])
 | [(.sl 0 0 64 6 2 1),.int .i64 a1],[(.cells 64 (.rI .u8 a0) true)]=>some ((decide (0≤a1)),.tup .nil,[(.cells 64 (.rI .u8 (Jr.put a0 6 a1 2)) true)])
 | _,_=>none
theorem bbm(a0:Li)(a1:Int)(hp:((decide (0≤a1)))=true)(h1:okV (.int .i64 a1))(k0:okB (.cells 64 (.rI .u8 a0) true)):∃ F,a8q F (a0,a1)=some ((.tup .nil),[(.cells 64 (.rI .u8 (Jr.put a0 0 a1 4)) true)]):=by
 refine⟨0,?_⟩
 simp only [a8q,avn,ahJ,show((2:Int)^8)=256 from rfl,Int.fdiv_eq_ediv_of_nonneg _ (show(0:Int)≤256 by decide)]
 rfl
theorem bbn(a0:Li)(a1:Int)(hp:((decide (0≤a1)))=true)(h1:okV (.int .i64 a1))(k0:okB (.cells 64 (.rI .u8 a0) true)):∃ F,a8r F (a0,a1)=some ((.tup .nil),[(.cells 64 (.rI .u8 (Jr.put a0 4 a1 2)) true)]):=by
 refine⟨0,?_⟩
 simp only [a8r,avo,ahJ,show((2:Int)^8)=256 from rfl,Int.fdiv_eq_ediv_of_nonneg _ (show(0:Int)≤256 by decide)]
 rfl
theorem bbo(a0:Li)(a1:Int)(hp:((decide (0≤a1)))=true)(h1:okV (.int .i64 a1))(k0:okB (.cells 64 (.rI .u8 a0) true)):∃ F,a8s F (a0,a1)=some ((.tup .nil),[(.cells 64 (.rI .u8 (Jr.put a0 6 a1 2)) true)]):=by
 refine⟨0,?_⟩
 simp only [a8s,avp,ahJ,show((2:Int)^8)=256 from rfl,Int.fdiv_eq_ediv_of_nonneg _ (show(0:Int)≤256 by decide)]
 rfl
theorem c91:Ck 91 r91:=ck bbl Tryz.func91 (by
 intro X H r H' h hX hH
 unfold r91 at h;split at h <;> try contradiction
 ·obtain⟨hp,rfl,rfl⟩:=ik h
  obtain⟨F,hF⟩:=bbm _ _ hp (hX _ hm1) (hH _ hm0)
  exact⟨_,abC (aJz F) hF⟩
 ·obtain⟨hp,rfl,rfl⟩:=ik h
  obtain⟨F,hF⟩:=bbn _ _ hp (hX _ hm1) (hH _ hm0)
  exact⟨_,abC (aJA F) hF⟩
 ·obtain⟨hp,rfl,rfl⟩:=ik h
  obtain⟨F,hF⟩:=bbo _ _ hp (hX _ hm1) (hH _ hm0)
  exact⟨_,abC (aJB F) hF⟩)
def bbp:List hI:=[]
def V82:Env:=dL fP dM bbp
noncomputable abbrev Ws:=ij V82 none (Tryz.f82).results.toList
theorem bbq:EOk Tryz.prog V82:=bL (by exact trivial)
def bbr(F:Nat):Cuts:={ F:=F,at_:=fun n=>match n with | 3010=>some ag8 | _=>none,join:=fun n=>match n with | 1020=>some [(0,.plain)] | 2018=>some xe | 3012=>some ag8 | 6003=>some [(3,.plain)] | _=>none }
abbrev Wt(F n:Nat){σ:Type}(e:σ→St)(K:Ex→St→Rz)(N:σ→Rz):=Qe V82 (bbr F) (bp Tryz.f82 n) e K N
def aJC:Li→St:=fun a=>hS [(0,.str a)] [] 20 0
def avq:Li→St:=fun a=>hS [(0,.str a)] [] 20 0
def alh:Li×Int→St:=fun (a,b)=>hS [(0,.str a),iS 3 b] [] 20 0
def ali:Li×Int×Int→St:=fun (a,b,c)=>hS [(0,.str a),iS 3 b,iS 4 c] [] 20 0
def aJD:Li×Int×Int→St:=ali
def Vo:Int→St:=fun a=>hS [iS 3 a] [] 20 0
def aqf(F:Nat)(a:Li→Rz):Li→Rz:=fun b=>(a b)
theorem aRK F Rj1:Wt F 2 aJC (kq V82 Rj1 [(0,.plain)] Ws) (aqf F (Rj1∘avq)):=fun _=>by kernel_rfl
def aqg(F:Nat)(a:Li×Int→Rz):Li→Rz:=fun b=>(a (b,(0:Int)))
theorem aRL F Rj2:Wt F 6 avq (kq V82 Rj2 xe Ws) (aqg F (Rj2∘alh)):=fun _=>by kernel_rfl
def aqh(F:Nat)(b:Li×Int×Int→Rz)(d:Int→Rz):Li×Int→Rz:=fun (a,c)=>(b (a,c,(IntKind.i64.wrap ((↑a.length:Int)-(1:Int)))))
theorem aRM F Rj3 Rj4:Wt F 28 alh (kq V82 Rj3 ag8 (kq V82 Rj4 [(3,.plain)] Ws)) (aqh F (Rj3∘ali) (Rj4∘Vo)):=fun _=>by kernel_rfl
def aln(F:Nat)(d:Li×Int×Int→Rz)(e:Int→Rz):Li×Int×Int→Rz:=fun (b,c,a)=>(cond (decide (a≥(0:Int))) (cond ((decide (0≤a))&&(decide (a < (↑b.length:Int)))) (d (b,(IntKind.i64.wrap ((IntKind.i64.wrap ((256:Int)*c))+(IntKind.i64.wrap (b.getD (Int.toNat a) 0)))),(IntKind.i64.wrap (a-(1:Int))))) none) (e c))
theorem aRN F Rl1 Rj4:Wt F 116 aJD (kq V82 Rl1 ag8 (aV 0 (kq V82 Rj4 [(3,.plain)] Ws))) (aln F (Rl1∘aJD) (Rj4∘Vo)):=fun _=>by kernel_rfl
def aou:Li×Int×Int→Li×Int×Int:=fun (a,b,c)=>(a,b,c)
def aDf(F:Nat)(a:Int→Rz):Li×Int×Int→Rz:=fun v=>eT (fun k=>aln F k a) F (aou v)
theorem aRO F Rj4:Wt F 58 ali (aV 0 (kq V82 Rj4 [(3,.plain)] Ws)) (aDf F (Rj4∘Vo)):=lpC aou (fun k=>aln F k (Rj4∘Vo)) (fun Rl1=>aRN F Rl1 Rj4)
def aDg(F:Nat)(a):=aDf F a
theorem aRP F Rj4:Wt F 29 ali (kq V82 Rj4 [(3,.plain)] Ws) (aDg F (Rj4∘Vo)):=biC (aRO F Rj4)
def aqi(F:Nat)(a):=aqh F (aDg F a) a
theorem aRQ F Rj4:Wt F 14 alh (kq V82 Rj4 [(3,.plain)] Ws) (aqi F (Rj4∘Vo)):=sqC (fun k=>aqh F k (Rj4∘Vo)) (fun Rj3=>aRM F Rj3 Rj4) (aRP F Rj4)
def aDh(F:Nat):Int→Rz:=fun a=>(some ((.int .i64 a),[]))
theorem aRR F:Wt F 15 Vo Ws (aDh F):=fun _=>by kernel_rfl
def aDi(F:Nat):=aqi F (aDh F)
theorem aRS F:Wt F 7 alh Ws (aDi F):=sqC (aqi F) (fun Rj4=>aRQ F Rj4) (aRR F)
def avr(F:Nat):=aqg F (aDi F)
theorem aJE F:Wt F 3 avq Ws (avr F):=sqC (aqg F) (fun Rj2=>aRL F Rj2) (aRS F)
def avs(F:Nat):=aqf F (avr F)
theorem aJF F:Wt F 1 aJC Ws (avs F):=sqC (aqf F) (fun Rj1=>aRK F Rj1) (aJE F)
def f82(F:Nat):Li→Rz:=avs F
def r82:eP:=fun X H=>match X,H with
 | [(.str a0)],[]=>some ((decide (a0.length≤4)),(.int .i64 (Jr.num a0)),[])
 | _,_=>none
theorem s82(a0:Li)(hp:((decide (a0.length≤4)))=true)(h0:okV (.str a0)):∃ F,f82 F a0=some ((.int .i64 (Jr.num a0)),[]):=by
 have hl:=of_decide_eq_true hp
 have hb:∀ x∈a0,0≤x∧x < 256:=fun x hx=>by have:=h0.2 x hx;omega
 refine⟨10,?_⟩
 simp only [aqf,aqg,aqh,aou,aDf,aDg,aqi,aDi,avr,avs,f82]
 rw [bM (by omega) (by omega)]
 refine iR (fun i=>(a0,Jr.num (a0.drop (a0.length-i)),(a0.length:Int)-1-i)) a0.length (by simp [Jr.num]) (fun i hi k=>?_) (fun k=>?_) 10 (by omega)
 ·simp only [aln,cH]
  have hlt:a0.length-1-i < a0.length:=by omega
  have et:((a0.length:Int)-1-i).toNat=a0.length-1-i:=by omega
  have hx:=hb (a0[a0.length-1-i]) (List.getElem_mem _)
  have eg:a0.getD (a0.length-1-i) 0=a0[a0.length-1-i]:=by rw [List.getD_eq_getElem?_getD,List.getElem?_eq_getElem hlt];rfl
  have hd:a0.drop (a0.length-(i+1))=a0[a0.length-1-i] :: a0.drop (a0.length-i):=by
   rw [show a0.length-(i+1)=a0.length-1-i by omega,List.drop_eq_getElem_cons hlt,show a0.length-1-i+1=a0.length-i by omega]
  obtain⟨n1,n2⟩:=Jr.num_bound (a0.drop (a0.length-i)) fun x hx=>hb x (List.mem_of_mem_drop hx)
  have n3:=Jr.pow_le4 (k:=(a0.drop (a0.length-i)).length) (by rw [List.length_drop];omega)
  rw [aK (by omega),aK (by omega),et,eg,bM (x:=256*_) (by omega) (by omega),bM (x:=a0[a0.length-1-i]) (by omega) (by omega),bM (by omega) (by omega),bM (by omega) (by omega),hd,Jr.num_cons]
  congr 3
  omega
 ·simp only [aln]
  rw [ba (by omega)]
  simp only [aDh,Nat.sub_self,List.drop_zero]
theorem c82:Ck 82 r82:=ck bbq Tryz.func82 (by
 intro X H r H' h hX hH
 unfold r82 at h;split at h <;> try contradiction
 ·obtain⟨hp,rfl,rfl⟩:=ik h
  obtain⟨F,hF⟩:=s82 _ hp (hX _ hm0)
  exact⟨_,abC (aJF F) hF⟩)
def bbs:List hI:=[]
def V84:Env:=dL fP dM bbs
noncomputable abbrev Wu:=ij V84 none (Tryz.f84).results.toList
theorem bbt:EOk Tryz.prog V84:=bL (by exact trivial)
def bbu(F:Nat):Cuts:={ F:=F,at_:=fun n=>match n with | 3012=>some aDc | _=>none,join:=fun n=>match n with | 1022=>some uY | 2020=>some a8o | 3014=>some aDc | 7003=>some [(5,.own 5)] | _=>none }
abbrev Wv(F n:Nat){σ:Type}(e:σ→St)(K:Ex→St→Rz)(N:σ→Rz):=Qe V84 (bbu F) (bp Tryz.f84 n) e K N
def aJG:Int×Int→St:=fun (a,b)=>hS [iS 0 a,iS 1 b] [] 21 0
def avt:Int×Int→St:=fun (a,b)=>hS [iS 0 a,iS 1 b] [] 21 0
def alo:Int×Int×Li→St:=fun (b,c,a)=>hS [iS 0 b,iS 1 c,(5,.own 0 0 1)] [z10 a.length a] 21 0
def alp:aji→St:=fun (b,c,d,a)=>hS [iS 0 b,iS 1 c,(5,.own 0 0 1),iS 6 d] [z10 a.length a] 21 0
def aJH:aji→St:=alp
def Vp:Li→St:=fun a=>hS [(5,.own 0 0 1)] [z10 a.length a] 21 0
def aqj(F:Nat)(a:Int×Int→Rz):Int×Int→Rz:=fun (b,c)=>(a (b,c))
theorem aRT F Rj1:Wv F 2 aJG (kq V84 Rj1 uY Wu) (aqj F (Rj1∘avt)):=fun _=>by kernel_rfl
def aqr(F:Nat)(a:Int×Int×Li→Rz):Int×Int→Rz:=fun (b,c)=>(a (b,c,[]))
theorem aRU F Rj2:Wv F 6 avt (kq V84 Rj2 a8o Wu) (aqr F (Rj2∘alo)):=fun _=>by kernel_rfl
def aqs(F:Nat)(a:aji→Rz)(e:Li→Rz):Int×Int×Li→Rz:=fun (b,c,d)=>(a (b,c,(0:Int),d))
theorem aRV F Rj3 Rj4:Wv F 28 alo (kq V84 Rj3 aDc (kq V84 Rj4 [(5,.own 5)] Wu)) (aqs F (Rj3∘alp) (Rj4∘Vp)):=fun _=>by kernel_rfl
def alq(F:Nat)(e:aji→Rz)(f:Li→Rz):aji→Rz:=fun (b,c,d,a)=>(cond (decide (d < c)) (cond (decide ((a.length+1) < 1073741824)) (e ((IntKind.i64.wrap (Int.tdiv b (256:Int))),c,(IntKind.i64.wrap (d+(1:Int))),(a++[(IntKind.u8.wrap (Int.tmod b (256:Int)))]))) none) (f a))
theorem aRW F Rl1 Rj4:Wv F 116 aJH (kq V84 Rl1 aDc (aV 0 (kq V84 Rj4 [(5,.own 5)] Wu))) (alq F (Rl1∘aJH) (Rj4∘Vp)):=fun _=>by kernel_rfl
def aov:aji→Int×Int×Int×Li:=fun (a,b,c,d)=>(a,b,c,d)
def aDj(F:Nat)(a:Li→Rz):aji→Rz:=fun v=>eT (fun k=>alq F k a) F (aov v)
theorem aRX F Rj4:Wv F 58 alp (aV 0 (kq V84 Rj4 [(5,.own 5)] Wu)) (aDj F (Rj4∘Vp)):=lpC aov (fun k=>alq F k (Rj4∘Vp)) (fun Rl1=>aRW F Rl1 Rj4)
def aDk(F:Nat)(a):=aDj F a
theorem aRY F Rj4:Wv F 29 alp (kq V84 Rj4 [(5,.own 5)] Wu) (aDk F (Rj4∘Vp)):=biC (aRX F Rj4)
def aqt(F:Nat)(a):=aqs F (aDk F a) a
theorem aRZ F Rj4:Wv F 14 alo (kq V84 Rj4 [(5,.own 5)] Wu) (aqt F (Rj4∘Vp)):=sqC (fun k=>aqs F k (Rj4∘Vp)) (fun Rj3=>aRV F Rj3 Rj4) (aRY F Rj4)
def aDl(F:Nat):Li→Rz:=fun a=>(some ((.own 0 0 1),[(.cells a.length (.rI .u8 a) true)]))
theorem aR0 F:Wv F 15 Vp Wu (aDl F):=fun _=>by kernel_rfl
def aDm(F:Nat):=aqt F (aDl F)
theorem aR1 F:Wv F 7 alo Wu (aDm F):=sqC (aqt F) (fun Rj4=>aRZ F Rj4) (aR0 F)
def avu(F:Nat):=aqr F (aDm F)
theorem aJI F:Wv F 3 avt Wu (avu F):=sqC (aqr F) (fun Rj2=>aRU F Rj2) (aR1 F)
def avv(F:Nat):=aqj F (avu F)
theorem aJJ F:Wv F 1 aJG Wu (avv F):=sqC (aqj F) (fun Rj1=>aRT F Rj1) (aJI F)
def f84(F:Nat):Int×Int→Rz:=avv F
def r84:eP:=fun X H=>match X,H with
 | [(.int .i64 a0),.int .i64 a1],[]=>some (((decide (0≤a0))&&((decide (0 < a1))&&(decide (a1≤4)))),.own 0 0 1,[(.cells (Jr.small a0 (Int.toNat a1)).length (.rI .u8 (Jr.small a0 (Int.toNat a1))) true)])
 | _,_=>none
theorem s84(a0 a1:Int)(hp:(((decide (0≤a0))&&((decide (0 < a1))&&(decide (a1≤4)))))=true)(h0:okV (.int .i64 a0))(h1:okV (.int .i64 a1)):∃ F,f84 F (a0,a1)=some ((.own 0 0 1),[(.cells (Jr.small a0 (Int.toNat a1)).length (.rI .u8 (Jr.small a0 (Int.toNat a1))) true)]):=by
 simp only [Bool.and_eq_true,decide_eq_true_eq] at hp
 obtain⟨p1,p2,p3⟩:=hp
 obtain⟨k,rfl⟩:=Int.eq_ofNat_of_zero_le (show 0≤a1 by omega)
 have hh:a0≤9223372036854775807:=by have:=h0.2;simpa [IntKind.max,IntKind.signed,IntKind.bits] using this
 refine⟨10,?_⟩
 simp only [aqj,aqr,aqs,aov,aDj,aDk,aqt,aDm,avu,avv,f84]
 refine iR (fun i=>(a0 / 256^i,(k:Int),(i:Int),Jr.small a0 i)) k (by simp [Jr.small]) (fun i hi q=>?_) (fun q=>?_) 10 (by omega)
 ·simp only [alq]
  have hn:0≤a0 / 256^i:=Int.ediv_nonneg p1 (Int.pow_nonneg (by decide))
  have hm:a0 / 256^i≤a0:=Int.ediv_le_self _ p1
  have hl:=Jr.small_len a0 i
  rw [aK (by omega),aK (by omega),Kx hn,JY hn,ahJ,bM (by omega) (by omega),bM (by omega) (by omega),Jr.small_snoc,Int.emod_emod_of_dvd _ (by omega:(256:Int) ∣ 256),Int.ediv_ediv_of_nonneg (Int.pow_nonneg (by decide)),← Int.pow_succ]
  rfl
 ·simp only [alq]
  rw [ba (by omega)]
  simp only [aDl,Int.toNat_natCast]
theorem c84:Ck 84 r84:=ck bbt Tryz.func84 (by
 intro X H r H' h hX hH
 unfold r84 at h;split at h <;> try contradiction
 ·obtain⟨hp,rfl,rfl⟩:=ik h
  obtain⟨F,hF⟩:=s84 _ _ hp (hX _ hm0) (hX _ hm1)
  exact⟨_,abC (aJJ F) hF⟩)
def bbv:List hI:=[(99,[some 5],r99)]
def V83:Env:=dL fP DW bbv
noncomputable abbrev bbw:=ij V83 none (Tryz.f83).results.toList
theorem bbx:EOk Tryz.prog V83:=bL (by exact⟨c99,trivial⟩)
def bby(F:Nat):Cuts:={ F:=F,at_:=fun _=>none,join:=fun _=>none }
abbrev bbz(F n:Nat){σ:Type}(e:σ→St)(K:Ex→St→Rz)(N:σ→Rz):=Qe V83 (bby F) (bp Tryz.f83 n) e K N
def a8t:Li→St:=fun a=>hS [(0,(z11 a))] [] 11 0
def aDn(F:Nat):Li→Rz:=fun a=>(cond (decide (a.length < 1073741000)) (cond (decide ((a.length+((Sha.hash a).take 8).length) < 4611686018427387904)) (some ((.str (a++((Sha.hash a).take 8))),[])) none) none)
theorem aR2 F:bbz F 1 a8t bbw (aDn F):=fun _=>by kernel_rfl
def f83(F:Nat):Li→Rz:=aDn F
def r83:eP:=fun X H=>match X,H with
 | [(.vs (.rI .u8 a0) 0 1)],[]=>some ((decide (a0.length < 1073730000)),(.str (Jr.checked a0)),[])
 | _,_=>none
theorem s83(a0:Li)(hp:((decide (a0.length < 1073730000)))=true)(h0:okV (.vs (.rI .u8 a0) 0 1)):∃ F,f83 F a0=some ((.str (Jr.checked a0)),[]):=by
 have hl:=of_decide_eq_true hp
 refine⟨0,?_⟩
 simp only [f83,aDn]
 rw [aK (by omega),aK (by rw [Jr.hash8];omega)]
 rfl
theorem c83:CallOk Tryz.prog DW 83 r83:=Ao mixed tys bbx Tryz.func83 (by kernel_rfl) (c:=sub (zZ Tryz.f83) []) (by kernel_rfl) (by
 intro X H r H' h hX hH
 unfold r83 at h;split at h <;> try contradiction
 ·obtain⟨hp,rfl,rfl⟩:=ik h
  obtain⟨F,hF⟩:=s83 _ hp (hX _ hm0)
  exact⟨_,abC (aR2 F) hF⟩)
def bbA:List hI:=[]
def V77:Env:=dL fP dM bbA
noncomputable abbrev bbB:=ij V77 none (Tryz.f77).results.toList
theorem bbC:EOk Tryz.prog V77:=bL (by exact trivial)
def bbD(F:Nat):Cuts:={ F:=F,at_:=fun _=>none,join:=fun _=>none }
abbrev bbE(F n:Nat){σ:Type}(e:σ→St)(K:Ex→St→Rz)(N:σ→Rz):=Qe V77 (bbD F) (bp Tryz.f77 n) e K N
def a8u:Li×Li→St:=fun (a,b)=>hS [(0,(z11 a)),(1,(z11 b))] [] 10 0
def aDo(F:Nat):Li×Li→Rz:=fun (a,b)=>(some ((.bool ((a:Li)==(b:Li))),[]))
theorem aR3 F:bbE F 1 a8u bbB (aDo F):=fun _=>by kernel_rfl
def f77(F:Nat):Li×Li→Rz:=aDo F
def r77:eP:=fun X H=>match X,H with
 | [(.vs (.rI .u8 a0) 0 1),(.vs (.rI .u8 a1) 0 1)],[]=>some (true,(.bool (a0==a1)),[])
 | _,_=>none
theorem s77(a0 a1:Li)(h0:okV (.vs (.rI .u8 a0) 0 1))(h1:okV (.vs (.rI .u8 a1) 0 1)):∃ F,f77 F (a0,a1)=some ((.bool (a0==a1)),[]):=by
 refine⟨0,?_⟩
 simp only [f77,aDo]
theorem c77:Ck 77 r77:=ck bbC Tryz.func77 (by
 intro X H r H' h hX hH
 unfold r77 at h;split at h <;> try contradiction
 ·obtain⟨hp,rfl,rfl⟩:=ik h
  obtain⟨F,hF⟩:=s77 _ _ (hX _ hm0) (hX _ hm1)
  exact⟨_,abC (aR3 F) hF⟩)
def bbF:List hI:=[]
def V10:Env:=dL fP dM bbF
noncomputable abbrev Ww:=ij V10 none (Tryz.f10).results.toList
theorem bbG:EOk Tryz.prog V10:=bL (by exact trivial)
def bbH(F:Nat):Cuts:={ F:=F,at_:=fun n=>match n with | 4016=>some VO | _=>none,join:=fun n=>match n with | 1032=>some uY | 3024=>some uY | 4018=>some VO | 8003=>some [] | _=>none }
abbrev Wx(F n:Nat){σ:Type}(e:σ→St)(K:Ex→St→Rz)(N:σ→Rz):=Qe V10 (bbH F) (bp Tryz.f10 n) e K N
abbrev z13 a:=(.vs (.rS a) 0 1:AV)
def aJK:afK→St:=fun (a,b)=>hS [(0,(z13 a)),(1,(z13 b))] [] 26 0
def alr:afK→St:=fun (a,b)=>hS [(0,(z13 a)),(1,(z13 b))] [] 26 0
def als:afK→St:=alr
def alu:ajk→St:=fun (a,b,c)=>hS [(0,(z13 a)),(1,(z13 b)),iS 5 c] [] 26 0
def aJL:ajk→St:=alu
def P3:Unit→St:=fun _=>hS [] [] 26 0
def aqu(F:Nat)(a:afK→Rz):afK→Rz:=fun (b,c)=>(a (b,c))
theorem aR4 F Rj1:Wx F 2 aJK (kq V10 Rj1 uY Ww) (aqu F (Rj1∘alr)):=fun _=>by kernel_rfl
def aqv(F:Nat)(c:afK→Rz):afK→Rz:=fun (a,b)=>(cond ((↑a.length:Int) != (↑b.length:Int)) (some ((.bool false),[])) (c (a,b)))
theorem aR5 F Rj2:Wx F 6 alr (kq V10 Rj2 uY Ww) (aqv F (Rj2∘als)):=fun _=>by kernel_rfl
def aqw(F:Nat)(a:ajk→Rz)(d:Unit→Rz):afK→Rz:=fun (b,c)=>(a (b,c,(0:Int)))
theorem aR6 F Rj3 Rj4:Wx F 28 als (kq V10 Rj3 VO (kq V10 Rj4 [] Ww)) (aqw F (Rj3∘alu) (Rj4∘P3)):=fun _=>by kernel_rfl
def aqx(F:Nat)(d:ajk→Rz)(e:Unit→Rz):ajk→Rz:=fun (b,c,a)=>(cond (decide (a < (↑b.length:Int))) (cond ((decide (0≤a))&&(decide (a < (↑b.length:Int)))) (cond ((decide (0≤a))&&(decide (a < (↑c.length:Int)))) (cond (!(((b.getD (Int.toNat a) []):Li)==((c.getD (Int.toNat a) []):Li))) (some ((.bool false),[])) (d (b,c,(IntKind.i64.wrap (a+(1:Int)))))) none) none) (e ()))
theorem aR7 F Rl1 Rj4:Wx F 116 aJL (kq V10 Rl1 VO (aV 0 (kq V10 Rj4 [] Ww))) (aqx F (Rl1∘aJL) (Rj4∘P3)):=fun _=>by kernel_rfl
def aow:ajk→(List Li)×(List Li)×Int:=fun (a,b,c)=>(a,b,c)
def aDp(F:Nat)(a:Unit→Rz):ajk→Rz:=fun v=>eT (fun k=>aqx F k a) F (aow v)
theorem aR8 F Rj4:Wx F 58 alu (aV 0 (kq V10 Rj4 [] Ww)) (aDp F (Rj4∘P3)):=lpC aow (fun k=>aqx F k (Rj4∘P3)) (fun Rl1=>aR7 F Rl1 Rj4)
def aDq(F:Nat)(a):=aDp F a
theorem aR9 F Rj4:Wx F 29 alu (kq V10 Rj4 [] Ww) (aDq F (Rj4∘P3)):=biC (aR8 F Rj4)
def aqy(F:Nat)(a):=aqw F (aDq F a) a
theorem aSa F Rj4:Wx F 14 als (kq V10 Rj4 [] Ww) (aqy F (Rj4∘P3)):=sqC (fun k=>aqw F k (Rj4∘P3)) (fun Rj3=>aR6 F Rj3 Rj4) (aR9 F Rj4)
def aDr(F:Nat):Unit→Rz:=fun _=>(some ((.bool true),[]))
theorem aSb F:Wx F 15 P3 Ww (aDr F):=fun _=>by kernel_rfl
def aDs(F:Nat):=aqy F (aDr F)
theorem aSc F:Wx F 7 als Ww (aDs F):=sqC (aqy F) (fun Rj4=>aSa F Rj4) (aSb F)
def avw(F:Nat):=aqv F (aDs F)
theorem aJM F:Wx F 3 alr Ww (avw F):=sqC (aqv F) (fun Rj2=>aR5 F Rj2) (aSc F)
def avx(F:Nat):=aqu F (avw F)
theorem aJN F:Wx F 1 aJK Ww (avx F):=sqC (aqu F) (fun Rj1=>aR4 F Rj1) (aJM F)
def f10(F:Nat):afK→Rz:=avx F
def r10:eP:=fun X H=>match X,H with
 | [(.vs (.rS a0) 0 1),(.vs (.rS a1) 0 1)],[]=>some ((decide (a0.length < 1073741824)),(.bool (a0==a1)),[])
 | _,_=>none
theorem s10(a0 a1:List Li)(hp:((decide (a0.length < 1073741824)))=true)(h0:okV (.vs (.rS a0) 0 1))(h1:okV (.vs (.rS a1) 0 1)):∃ F,f10 F (a0,a1)=some ((.bool (a0==a1)),[]):=by
 rw [decide_eq_true_iff] at hp
 refine⟨a0.length+1,?_⟩
 simp only [f10,avx,aqu,avw,aqv,aDs,aqy,aDr,aqw,aDq,aDp,aow]
 by_cases hl:a0.length=a1.length
 ·have e:((a0.length:Int) != (a1.length:Int))=false:=by simp [hl]
  rw [e,cond_false]
  refine pv (fun m s=>∃ k:Nat,s=(a0,a1,(k:Int))∧m=a0.length-k∧k≤a0.length ∧ ∀ j,j < k→a0.getD j []=a1.getD j []) (fun m s K hi hk=>?_) (a0.length+1) a0.length _ (by omega) ⟨0,rfl,by omega,by omega,fun j hj=>by omega⟩
  obtain⟨k,rfl,hm,hle,heq⟩:=hi
  simp only [aqx,Int.toNat_natCast]
  by_cases hlt:k < a0.length
  ·have e1:(decide (0≤(k:Int))&&decide ((k:Int) < (a0.length:Int)))=true:=by rw [cH,decide_eq_true_iff];omega
   have e2:(decide (0≤(k:Int))&&decide ((k:Int) < (a1.length:Int)))=true:=by rw [cH,decide_eq_true_iff];omega
   rw [aK (show(k:Int) < (a0.length:Int) by omega),e1,e2,cond_true,cond_true,bM (by omega) (by omega)]
   by_cases h:a0.getD k []=a1.getD k []
   ·have e3:(!(((a0.getD k []):Li)==((a1.getD k []):Li)))=false:=by rw [h];simp
    rw [e3,cond_false]
    exact hk (m-1) _ (by omega) ⟨k+1,rfl,by omega,by omega,fun j hj=>by
     by_cases hj':j=k
     ·subst hj';exact h
     ·exact heq j (by omega)⟩
   ·have e3:(!(((a0.getD k []):Li)==((a1.getD k []):Li)))=true:=by simpa using h
    rw [e3,cond_true]
    have e4:(a0==a1)=false:=by rw [beq_eq_false_iff_ne];intro h';exact h (by rw [h'])
    rw [e4]
  ·rw [ba (by omega)]
   have e4:(a0==a1)=true:=by rw [beq_iff_eq];exact ahK [] hl fun j hj=>heq j (by omega)
   rw [e4];rfl
 ·have e:((a0.length:Int) != (a1.length:Int))=true:=by simp;omega
  have e4:(a0==a1)=false:=by rw [beq_eq_false_iff_ne];intro h';exact hl (by rw [h'])
  rw [e,cond_true,e4]
theorem c10:Ck 10 r10:=ck bbG Tryz.func10 (by
 intro X H r H' h hX hH
 unfold r10 at h;split at h <;> try contradiction
 ·obtain⟨hp,rfl,rfl⟩:=ik h
  obtain⟨F,hF⟩:=s10 _ _ hp (hX _ hm0) (hX _ hm1)
  exact⟨_,abC (aJN F) hF⟩)
def bbI:List hI:=[]
def V36:Env:=dL fP dM bbI
noncomputable abbrev Wy:=ij V36 none (Tryz.f36).results.toList
theorem bbJ:EOk Tryz.prog V36:=bL (by exact trivial)
def bbK(F:Nat):Cuts:={ F:=F,at_:=fun n=>match n with | 4016=>some VO | _=>none,join:=fun n=>match n with | 1032=>some uY | 3024=>some uY | 4018=>some VO | 8003=>some [] | _=>none }
abbrev Wz(F n:Nat){σ:Type}(e:σ→St)(K:Ex→St→Rz)(N:σ→Rz):=Qe V36 (bbK F) (bp Tryz.f36 n) e K N
def aJO:Li×Li→St:=fun (a,b)=>hS [lS 0 a,lS 1 b] [] 26 0
def alv:Li×Li→St:=fun (a,b)=>hS [lS 0 a,lS 1 b] [] 26 0
def alw:Li×Li→St:=alv
def alx:YR→St:=fun (a,b,c)=>hS [lS 0 a,lS 1 b,iS 5 c] [] 26 0
def aJP:YR→St:=alx
def Vq:Unit→St:=P3
def aqz(F:Nat)(a:Li×Li→Rz):Li×Li→Rz:=fun (b,c)=>(a (b,c))
theorem aSd F Rj1:Wz F 2 aJO (kq V36 Rj1 uY Wy) (aqz F (Rj1∘alv)):=fun _=>by kernel_rfl
def aqA(F:Nat)(c:Li×Li→Rz):Li×Li→Rz:=fun (a,b)=>(cond ((↑a.length:Int) != (↑b.length:Int)) (some ((.bool false),[])) (c (a,b)))
theorem aSe F Rj2:Wz F 6 alv (kq V36 Rj2 uY Wy) (aqA F (Rj2∘alw)):=fun _=>by kernel_rfl
def aqB(F:Nat)(a:YR→Rz)(d:Unit→Rz):Li×Li→Rz:=fun (b,c)=>(a (b,c,(0:Int)))
theorem aSf F Rj3 Rj4:Wz F 28 alw (kq V36 Rj3 VO (kq V36 Rj4 [] Wy)) (aqB F (Rj3∘alx) (Rj4∘Vq)):=fun _=>by kernel_rfl
def aqC(F:Nat)(d:YR→Rz)(e:Unit→Rz):YR→Rz:=fun (b,c,a)=>(cond (decide (a < (↑b.length:Int))) (cond ((decide (0≤a))&&(decide (a < (↑b.length:Int)))) (cond ((decide (0≤a))&&(decide (a < (↑c.length:Int)))) (cond ((b.getD (Int.toNat a) 0) != (c.getD (Int.toNat a) 0)) (some ((.bool false),[])) (d (b,c,(IntKind.i64.wrap (a+(1:Int)))))) none) none) (e ()))
theorem aSg F Rl1 Rj4:Wz F 116 aJP (kq V36 Rl1 VO (aV 0 (kq V36 Rj4 [] Wy))) (aqC F (Rl1∘aJP) (Rj4∘Vq)):=fun _=>by kernel_rfl
def aox:YR→Li×Li×Int:=fun (a,b,c)=>(a,b,c)
def aDt(F:Nat)(a:Unit→Rz):YR→Rz:=fun v=>eT (fun k=>aqC F k a) F (aox v)
theorem aSh F Rj4:Wz F 58 alx (aV 0 (kq V36 Rj4 [] Wy)) (aDt F (Rj4∘Vq)):=lpC aox (fun k=>aqC F k (Rj4∘Vq)) (fun Rl1=>aSg F Rl1 Rj4)
def aDu(F:Nat)(a):=aDt F a
theorem aSi F Rj4:Wz F 29 alx (kq V36 Rj4 [] Wy) (aDu F (Rj4∘Vq)):=biC (aSh F Rj4)
def aqD(F:Nat)(a):=aqB F (aDu F a) a
theorem aSj F Rj4:Wz F 14 alw (kq V36 Rj4 [] Wy) (aqD F (Rj4∘Vq)):=sqC (fun k=>aqB F k (Rj4∘Vq)) (fun Rj3=>aSf F Rj3 Rj4) (aSi F Rj4)
def aDv(F:Nat):Unit→Rz:=fun _=>(some ((.bool true),[]))
theorem aSk F:Wz F 15 Vq Wy (aDv F):=fun _=>by kernel_rfl
def aDw(F:Nat):=aqD F (aDv F)
theorem aSl F:Wz F 7 alw Wy (aDw F):=sqC (aqD F) (fun Rj4=>aSj F Rj4) (aSk F)
def avy(F:Nat):=aqA F (aDw F)
theorem aJQ F:Wz F 3 alv Wy (avy F):=sqC (aqA F) (fun Rj2=>aSe F Rj2) (aSl F)
def avz(F:Nat):=aqz F (avy F)
theorem aJR F:Wz F 1 aJO Wy (avz F):=sqC (aqz F) (fun Rj1=>aSd F Rj1) (aJQ F)
def f36(F:Nat):Li×Li→Rz:=avz F
def r36:eP:=fun X H=>match X,H with
 | [(.vs (.rI .i64 a0) 0 1),(.vs (.rI .i64 a1) 0 1)],[]=>some ((decide (a0.length < 1073741824)),(.bool (a0==a1)),[])
 | _,_=>none
theorem s36(a0 a1:Li)(hp:((decide (a0.length < 1073741824)))=true)(h0:okV (.vs (.rI .i64 a0) 0 1))(h1:okV (.vs (.rI .i64 a1) 0 1)):∃ F,f36 F (a0,a1)=some ((.bool (a0==a1)),[]):=by
 rw [decide_eq_true_iff] at hp
 refine⟨a0.length+1,?_⟩
 simp only [f36,avz,aqz,avy,aqA,aDw,aqD,aDv,aqB,aDu,aDt,aox]
 by_cases hl:a0.length=a1.length
 ·have e:((a0.length:Int) != (a1.length:Int))=false:=by simp [hl]
  rw [e,cond_false]
  refine pv (fun m s=>∃ k:Nat,s=(a0,a1,(k:Int))∧m=a0.length-k∧k≤a0.length ∧ ∀ j,j < k→a0.getD j 0=a1.getD j 0) (fun m s K hi hk=>?_) (a0.length+1) a0.length _ (by omega) ⟨0,rfl,by omega,by omega,fun j hj=>by omega⟩
  obtain⟨k,rfl,hm,hle,heq⟩:=hi
  simp only [aqC,Int.toNat_natCast]
  by_cases hlt:k < a0.length
  ·have e1:(decide (0≤(k:Int))&&decide ((k:Int) < (a0.length:Int)))=true:=by rw [cH,decide_eq_true_iff];omega
   have e2:(decide (0≤(k:Int))&&decide ((k:Int) < (a1.length:Int)))=true:=by rw [cH,decide_eq_true_iff];omega
   rw [aK (show(k:Int) < (a0.length:Int) by omega),e1,e2,cond_true,cond_true,bM (by omega) (by omega)]
   by_cases h:a0.getD k 0=a1.getD k 0
   ·have e3:(a0.getD k 0 != a1.getD k 0)=false:=by rw [h];simp
    rw [e3,cond_false]
    exact hk (m-1) _ (by omega) ⟨k+1,rfl,by omega,by omega,fun j hj=>by
     by_cases hj':j=k
     ·subst hj';exact h
     ·exact heq j (by omega)⟩
   ·have e3:(a0.getD k 0 != a1.getD k 0)=true:=by simpa using h
    rw [e3,cond_true]
    have e4:(a0==a1)=false:=by rw [beq_eq_false_iff_ne];intro h';exact h (by rw [h'])
    rw [e4]
  ·rw [ba (by omega)]
   have e4:(a0==a1)=true:=by rw [beq_iff_eq];exact ahK 0 hl fun j hj=>heq j (by omega)
   rw [e4];rfl
 ·have e:((a0.length:Int) != (a1.length:Int))=true:=by simp;omega
  have e4:(a0==a1)=false:=by rw [beq_eq_false_iff_ne];intro h';exact hl (by rw [h'])
  rw [e,cond_true,e4]
theorem c36:Ck 36 r36:=ck bbJ Tryz.func36 (by
 intro X H r H' h hX hH
 unfold r36 at h;split at h <;> try contradiction
 ·obtain⟨hp,rfl,rfl⟩:=ik h
  obtain⟨F,hF⟩:=s36 _ _ hp (hX _ hm0) (hX _ hm1)
  exact⟨_,abC (aJR F) hF⟩)
def bbL:List hI:=[]
def V74:Env:=dL fP dM bbL
noncomputable abbrev bbM:=ij V74 none (Tryz.f74).results.toList
theorem bbN:EOk Tryz.prog V74:=bL (by exact trivial)
def bbO(F:Nat):Cuts:={ F:=F,at_:=fun _=>none,join:=fun _=>none }
abbrev bbP(F n:Nat){σ:Type}(e:σ→St)(K:Ex→St→Rz)(N:σ→Rz):=Qe V74 (bbO F) (bp Tryz.f74 n) e K N
def a8v:Int×Li→St:=fun (a,b)=>hS [iS 0 a,(1,.str b)] [] 6 0
def aYs(F:Nat):Int×Li→Rz:=fun (a,b)=>(some ((.fn 90 (.cons 0 (.ptr 0 0 1 0 0 0 1) (.cons 0 (.ptr 1 0 1 0 0 0 1) .nil))),[(.cells 1 (.one (.str b)) true),(.cells 1 (.one (.int .i64 a)) true)]))
theorem aSw F:bbP F 1 a8v bbM (aYs F):=fun _=>by kernel_rfl
def f74(F:Nat):Int×Li→Rz:=aYs F
def r74:eP:=fun X H=>match X,H with
 | [(.int .i64 a0),.str a1],[]=>some (true,(.fn 90 (.cons 0 (.ptr 0 0 1 0 0 0 1) (.cons 0 (.ptr 1 0 1 0 0 0 1) .nil))),[(.cells 1 (.one (.str a1)) true),(.cells 1 (.one (.int .i64 a0)) true)])
 | _,_=>none
theorem s74(a0:Int)(a1:Li)(h0:okV (.int .i64 a0))(h1:okV (.str a1)):∃ F,f74 F (a0,a1)=some ((.fn 90 (.cons 0 (.ptr 0 0 1 0 0 0 1) (.cons 0 (.ptr 1 0 1 0 0 0 1) .nil))),[(.cells 1 (.one (.str a1)) true),(.cells 1 (.one (.int .i64 a0)) true)]):=⟨0,rfl⟩
theorem c74:Ck 74 r74:=ck bbN Tryz.func74 (by
 intro X H r H' h hX hH
 unfold r74 at h;split at h <;> try contradiction
 ·obtain⟨hp,rfl,rfl⟩:=ik h
  obtain⟨F,hF⟩:=s74 _ _ (hX _ hm0) (hX _ hm1)
  exact⟨_,abC (aSw F) hF⟩)
end Go.Am
end