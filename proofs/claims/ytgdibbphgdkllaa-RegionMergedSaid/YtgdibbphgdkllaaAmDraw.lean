/- Part of a proof. -/
import Derived.Test.YtgdibbphgdkllaaAmNorm
set_option linter.unusedSimpArgs false
set_option linter.unusedVariables false
section
/- What an operation looks at: the same operation in another state. -/
namespace Go.Am
open Go
variable {V : Env} {s t : St}
structure AgreeH (l:List Nat) (s t:St):Prop where
 lk:∀ id∈l,lkH id s.heap=lkH id t.heap
 key:∀ id∈l,hasKey id s.heap=hasKey id t.heap
 next:s.next=t.next
theorem AgreeH.mono{l l':List Nat}(h:AgreeH l s t)(hl:∀ x∈l',x∈l):AgreeH l' s t:=⟨fun id hid=>h.lk id (hl id hid),fun id hid=>h.key id (hl id hid),h.next⟩
theorem view_loc{e:Nat}{x:AV}(h:AgreeH (dids x) s t):view V s e x=view V t e x:=by
 cases x <;> simp only [view]
 all_goals (rw [h.lk _ (by simp [dids])])
theorem srcA_loc{e:Nat}{x:AV}(h:AgreeH (dids x) s t):srcA V s e x=srcA V t e x:=by
 cases x <;> first | rfl | (simp only [srcA];exact view_loc h)
theorem coerce_loc{m:Option Nat}{x:AV}(h:AgreeH (dids x) s t):coerce V s m x=coerce V t m x:=by
 cases m with
 | none=>rfl
 | some e=>simp only [coerce,view_loc h]
theorem olen_loc{id len sz:Nat}(h:AgreeH [id] s t):olen s id len sz=olen t id len sz:=by
 simp only [olen,h.lk id (by simp)]
theorem aload_loc{ty:Nat}{p:AV}(h:AgreeH (dids p) s t):aload V ty p s=aload V ty p t:=by
 cases p <;> simp only [aload]
 all_goals (rw [h.lk _ (by simp [dids])])
theorem alen_loc{ty:Nat}{x:AV}(h:AgreeH (dids x) s t):alen V ty x s=alen V ty x t:=by
 cases x <;> simp only [alen]
 all_goals (rw [olen_loc (h.mono (by simp [dids]))])
def St.push(s:St)(D:List (Nat×Blk)):St:={ s with heap:=D++s.heap }
theorem freezeId_loc{id:Nat}(h:AgreeH [id] s t):∃ D,freezeId s id=s.push D∧freezeId t id=t.push D ∧ ∀ p∈D,p.1=id:=by
 unfold freezeId
 rw [← h.lk id (by simp)]
 split
 ·rename_i n r b hl;exact⟨[(id,.cells n r false)],rfl,rfl,fun p hp=>by simp at hp;simp [hp]⟩
 ·exact⟨[],rfl,rfl,fun p hp=>by simp at hp⟩
theorem freeze_loc{x:AV}(h:AgreeH (dids x) s t):∃ D,freeze s x=s.push D∧freeze t x=t.push D ∧ ∀ p∈D,p.1∈dids x:=by
 unfold freeze
 split
 ·rename_i id _ _
  obtain⟨D,h1,h2,h3⟩:=freezeId_loc (id:=id) (h.mono (by simp [dids]));exact⟨D,h1,h2,fun p hp=>by simp [dids,h3 p hp]⟩
 ·rename_i id _ _ _ _ _
  obtain⟨D,h1,h2,h3⟩:=freezeId_loc (id:=id) (h.mono (by simp [dids]));exact⟨D,h1,h2,fun p hp=>by simp [dids,h3 p hp]⟩
 ·exact⟨[],rfl,rfl,fun p hp=>by simp at hp⟩
theorem lkH_push(D:List (Nat×Blk)):∀ (id:Nat) (H H':List (Nat×Blk)),lkH id H=lkH id H'→lkH id (D++H)=lkH id (D++H'):=by
 induction D with
 | nil=>intro id H H' h;exact h
 | cons p D ih=>
  intro id H H' h
  simp only [List.cons_append]
  rw [lkH_put,lkH_put]
  split
  ·rfl
  ·exact ih id H H' h
theorem hasKey_push(D:List (Nat×Blk)):∀ (id:Nat) (H H':List (Nat×Blk)),hasKey id H=hasKey id H'→hasKey id (D++H)=hasKey id (D++H'):=by
 induction D with
 | nil=>intro id H H' h;exact h
 | cons p D ih=>
  intro id H H' h
  simp only [List.cons_append]
  rw [hasKey_put,hasKey_put,ih id H H' h]
theorem AgreeH.push{l:List Nat}(h:AgreeH l s t)(D:List (Nat×Blk)):AgreeH l (s.push D) (t.push D):=
 ⟨fun id hid=>lkH_push D id _ _ (h.lk id hid),fun id hid=>hasKey_push D id _ _ (h.key id hid),h.next⟩
theorem push_push(s:St)(D D':List (Nat×Blk)):(s.push D).push D'=s.push (D'++D):=by simp [St.push]
theorem freezeAll_loc:∀ (l:List AV) {s t:St},AgreeH (l.flatMap dids) s t → ∃ D,freezeAll s l=s.push D∧freezeAll t l=t.push D ∧ ∀ p∈D,p.1∈l.flatMap dids
 | [],s,t,_=>⟨[],rfl,rfl,fun p hp=>by simp at hp⟩
 | x :: l,s,t,h=>by
  obtain⟨D,h1,h2,h3⟩:=freeze_loc (x:=x) (h.mono (by simp;intro y hy;exact .inl hy))
  have h':AgreeH (l.flatMap dids) (s.push D) (t.push D):=(h.push D).mono (by intro y hy;simp at hy ⊢;exact .inr hy)
  obtain⟨D',g1,g2,g3⟩:=freezeAll_loc l h'
  refine⟨D'++D,?_,?_,fun p hp=>?_⟩
  ·show freezeAll (freeze s x) l=_;rw [h1,g1,push_push]
  ·show freezeAll (freeze t x) l=_;rw [h2,g2,push_push]
  ·rcases List.mem_append.1 hp with hp | hp
   ·exact List.mem_flatMap.2 (by obtain⟨y,hy,hz⟩:=List.mem_flatMap.1 (g3 p hp);exact⟨y,by simp [hy],hz⟩)
   ·exact List.mem_flatMap.2 ⟨x,by simp,h3 p hp⟩
def Same(r:Option (Bool×AV×St))(r':Option (Bool×AV×St))(s t:St)(wr:List Nat):Prop:=
 ∀ p v s',r=some (p,v,s') → ∃ D,s'=s.push D∧r'=some (p,v,t.push D) ∧ ∀ q∈D,q.1∈wr
theorem Same.pure{p:Bool}{v:AV}{wr:List Nat}:Same (some (p,v,s)) (some (p,v,t)) s t wr:=by
 intro p' v' s' h
 simp only [Option.some.injEq,Prod.mk.injEq] at h
 obtain⟨rfl,rfl,rfl⟩:=h
 exact⟨[],rfl,rfl,fun q hq=>by simp at hq⟩
theorem Same.none{r':Option (Bool×AV×St)}{wr:List Nat}:Same none r' s t wr:=fun _ _ _ h=>by cases h
theorem Same.map{β:Type}{x:Option β}{f:β→Bool}{g:β→AV}{wr:List Nat}:Same (x.map fun b=>(f b,g b,s)) (x.map fun b=>(f b,g b,t)) s t wr:=by
 cases x with
 | none=>exact Same.none
 | some b=>exact Same.pure
theorem newBlk_loc{i n:Nat}{r:AV}{pre:Bool}{f:Nat→AV}{wr:List Nat}(hw:s.next+16*i∈wr)(h:AgreeH [s.next+16*i] s t):Same (newBlk s i n r pre f) (newBlk t i n r pre f) s t wr:=by
 unfold newBlk
 rw [← h.next,← h.key _ (by simp)]
 split
 ·intro p v s' hh
  simp only [Option.some.injEq,Prod.mk.injEq] at hh
  obtain⟨rfl,rfl,rfl⟩:=hh
  exact⟨[(s.next+16*i,.cells n r true)],rfl,rfl,fun q hq=>by simp at hq;rw [hq];exact hw⟩
 ·exact Same.none
theorem newBlkT_loc{ty i n:Nat}{r:AV}{pre:Bool}{f:Nat→AV}{wr:List Nat}(hw:s.next+16*i∈wr)(h:AgreeH [s.next+16*i] s t):Same (newBlkT ty s i n r pre f) (newBlkT ty t i n r pre f) s t wr:=by
 unfold newBlkT
 rw [← h.next,← h.key _ (by simp)]
 split
 ·intro p v s' hh
  simp only [Option.some.injEq,Prod.mk.injEq] at hh
  obtain⟨rfl,rfl,rfl⟩:=hh
  exact⟨[(s.next+16*i,.cells n r true)],rfl,rfl,fun q hq=>by simp at hq;rw [hq];exact hw⟩
 ·exact Same.none
theorem addEmpty_loc{r0:AV}{sz:Nat}{wr:List Nat}:∀ (k id:Nat) {s t:St},(∀ j,j < k→id+j∈wr)→AgreeH wr s t → ∀ vs s',addEmpty r0 sz k id s=some (vs,s') → ∃ D,s'=s.push D∧addEmpty r0 sz k id t=some (vs,t.push D) ∧ ∀ p∈D,p.1∈wr
 | 0,id,s,t,_,h,vs,s',he=>by
  simp only [addEmpty,Option.some.injEq,Prod.mk.injEq] at he
  obtain⟨rfl,rfl⟩:=he
  exact⟨[],rfl,rfl,fun p hp=>by simp at hp⟩
 | k+1,id,s,t,hk,h,vs,s',he=>by
  have hid:id∈wr:=by simpa using hk 0 (by omega)
  rw [addEmpty] at he
  split at he <;> try contradiction
  rename_i hkey
  split at he <;> try contradiction
  rename_i vs1 s1 h1
  simp only [Option.some.injEq,Prod.mk.injEq] at he
  obtain⟨rfl,rfl⟩:=he
  obtain⟨D,d1,d2,d3⟩:=addEmpty_loc k (id+1) (s:=s.push [(id,.cells 0 r0 true)]) (t:=t.push [(id,.cells 0 r0 true)]) (fun j hj=>by have:=hk (j+1) (by omega);rwa [show id+(j+1)=id+1+j by omega] at this) (h.push _) vs1 s1 h1
  refine⟨D++[(id,.cells 0 r0 true)],by rw [d1,push_push],?_,fun p hp=>?_⟩
  ·rw [addEmpty,← h.key id hid,hkey]
   show(match addEmpty r0 sz k (id+1) (t.push [(id,.cells 0 r0 true)]) with | some (vs,s')=>some (AVs.cons 1 (.one (.own id 0 sz)) vs,s') | none=>none)=_
   rw [d2,push_push]
  ·rcases List.mem_append.1 hp with hp | hp
   ·exact d3 p hp
   ·simp at hp;rw [hp];exact hid
theorem mkSlices_loc{i e' n:Nat}{one pre:Bool}{wr:List Nat}(hw:∀ k,k < 16→s.next+16*i+k∈wr)(h:AgreeH wr s t):Same (mkSlices V i e' n one pre s) (mkSlices V i e' n one pre t) s t wr:=by
 unfold mkSlices
 split
 ·rename_i hn
  rw [Bool.and_eq_true,Nat.ble_eq] at hn
  split
  ·rename_i r0 hr0
   intro p v s' hh
   split at hh <;> try contradiction
   rename_i vs s1 h1
   obtain⟨D,d1,d2,d3⟩:=addEmpty_loc n (s.next+16*i+1) (s:=s) (t:=t) (wr:=wr) (fun j hj=>by have:=hw (j+1) (by omega);rwa [show s.next+16*i+(j+1)=s.next+16*i+1+j by omega] at this) h vs s1 h1
   subst d1
   obtain⟨D2,e1,e2,e3⟩:=newBlk_loc (s:=s.push D) (t:=t.push D) (wr:=wr) (show s.next+16*i∈wr by simpa using hw 0 (by omega)) ((h.push D).mono (by intro x hx;rw [List.mem_singleton] at hx;rw [hx];exact(show s.next+16*i∈wr by simpa using hw 0 (by omega)))) p v s' hh
   refine⟨D2++D,by rw [e1,push_push],?_,fun q hq=>?_⟩
   ·rw [← h.next,d2]
    dsimp only
    rw [e2,push_push]
   ·rcases List.mem_append.1 hq with hq | hq
    ·exact e3 q hq
    ·exact d3 q hq
  ·exact Same.none
 ·exact Same.none
theorem astore_loc{ty:Nat}{p v:AV}{wr:List Nat}(h:AgreeH (dids p++dids v) s t)(hw:∀ x∈dids p++dids v,x∈wr):
  Same ((astore V ty p v s).map fun s'=>(true,AV.undef,s')) ((astore V ty p v t).map fun s'=>(true,AV.undef,s')) s t wr:=by
 have hpp:=h.mono (l':=dids p) (by simp;intro x hx;exact .inl hx)
 have hvv:=h.mono (l':=dids v) (by simp;intro x hx;exact .inr hx)
 cases p with
 | ptr id b l i m c rm=>
  have e:=hpp.lk id (by simp [dids])
  unfold astore
  dsimp only
  rw [← e]
  have fin:∀ bl:Blk,Same (some (true,AV.undef,s.setH id bl)) (some (true,AV.undef,t.setH id bl)) s t wr:=by
   intro bl p' v' s' hh
   simp only [Option.some.injEq,Prod.mk.injEq] at hh
   obtain⟨rfl,rfl,rfl⟩:=hh
   exact⟨[(id,bl)],rfl,rfl,fun q hq=>by simp at hq;rw [hq];exact hw id (by simp [dids])⟩
  split
  ·split
   ·split
    ·split
     ·generalize AV.rsetN _ _ _ _ _ _ _ _ _=oo
      cases oo with
      | none=>exact Same.none
      | some r1=>exact fin _
     ·exact Same.none
    ·exact Same.none
   ·split
    ·split
     ·exact fin _
     ·split
      ·rename_i e' _
       rw [← coerce_loc (m:=some e') hvv]
       split
       ·rename_i v' hv'
        obtain⟨D,h1,h2,h3⟩:=freeze_loc hvv
        have e2:lkH id (freeze t v).heap=lkH id (freeze s v).heap:=by
         rw [h1,h2];exact(lkH_push D id _ _ e).symm
        rw [e2]
        split
        ·generalize AV.rset _ _ _ _ _ _ _=oo
         cases oo with
         | none=>exact Same.none
         | some r1=>
          intro p' u s' hh
          simp only [Option.map_some,Option.some.injEq,Prod.mk.injEq] at hh
          obtain⟨rfl,rfl,rfl⟩:=hh
          refine⟨(id,.cells _ r1 true) :: D,by rw [h1];rfl,by rw [h2];rfl,fun q hq=>?_⟩
          rcases List.mem_cons.1 hq with rfl | hq
          ·exact hw id (by simp [dids])
          ·exact hw _ (by simp [h3 q hq])
        ·exact Same.none
       ·exact Same.none
      ·exact Same.none
    ·exact Same.none
  ·exact Same.none
 | _=>exact Same.none
theorem acopy_loc{id b lim o len ny:Nat}{ry:AV}{wr:List Nat}(h:AgreeH [id] s t)(hw:id∈wr):Same (acopy s id b lim o len ry ny) (acopy t id b lim o len ry ny) s t wr:=by
 unfold acopy
 rw [← h.lk id (by simp)]
 split
 ·split
  ·split
   ·intro p v s' hh
    simp only [Option.some.injEq,Prod.mk.injEq] at hh
    obtain⟨rfl,rfl,rfl⟩:=hh
    exact⟨[(id,_)],rfl,rfl,fun q hq=>by simp at hq;rw [hq];exact hw⟩
   ·exact Same.none
  ·exact Same.none
 ·exact Same.none
theorem appOwn_loc{i e:Nat}{x y:AV}{l wr:List Nat}(h:AgreeH l s t)(hx:∀ id∈dids x,id∈l)(hy:∀ id∈dids y,id∈l)(hn:s.next+16*i∈l∧s.next+16*i∈wr)(hv:∀ id∈dids x,id∈wr):
  Same (appOwn V s i e x y) (appOwn V t i e x y) s t wr:=by
 unfold appOwn
 split
 ·rename_i id len id2 len2
  rw [h.lk id (hx id (by simp [dids])),h.lk id2 (hy id2 (by simp [dids]))]
  split
  ·split
   ·intro p v s' hh
    have h':AgreeH [s.next+16*i] (s.push [(id,.gone)]) (t.push [(id,.gone)]):=(h.push _).mono (by simpa using hn.1)
    obtain⟨D,d1,d2,d3⟩:=newBlk_loc (s:=s.push [(id,.gone)]) (t:=t.push [(id,.gone)]) (wr:=wr) hn.2 h' p v s' hh
    refine⟨D++[(id,.gone)],by rw [d1,push_push],by rw [← push_push];exact d2,fun q hq=>?_⟩
    rcases List.mem_append.1 hq with hq | hq
    ·exact d3 q hq
    ·simp at hq;rw [hq];exact hv id (by simp [dids])
   ·exact Same.none
  ·exact Same.none
 ·exact Same.none
theorem abuiltin_loc{i:Nat}{b:Builtin}{tys:List Nat}{args:List AV}{l wr:List Nat}(h:AgreeH l s t)(hargs:∀ x∈args,∀ id∈dids x,id∈l)
  (hnew:b=.append→s.next+16*i∈l∧s.next+16*i∈wr) (hfirst:b=.append∨b=.copy∨b=.clear∨b=.delete → ∀ id∈dids (args.getD 0 .undef),id∈wr) :
  Same (abuiltin V i b tys args s) (abuiltin V i b tys args t) s t wr:=by
 have one:∀ {x:AV},x∈args→AgreeH (dids x) s t:=fun {x} hx=>h.mono (hargs x hx)
 unfold abuiltin
 split
 ·-- len
  rename_i v
  split <;> first | exact Same.pure | exact Same.none | skip
  ·rename_i id len sz _
   rw [olen_loc (h.mono (l':=[id]) (by simpa using hargs (.own id len sz) (by simp) id (by simp [dids])))]
   cases olen t id len sz with
   | none=>exact Same.none
   | some n=>exact Same.pure
  ·rename_i id _
   rw [h.lk id (hargs (.mp id) (by simp) id (by simp [dids]))]
   split <;> first | exact Same.pure | exact Same.none
  ·split <;> first | exact Same.pure | exact Same.none
  ·split
   ·split <;> first | exact Same.pure | exact Same.none
   ·exact Same.none
 ·-- append
  rename_i v x
  obtain⟨hn1,hn2⟩:=hnew rfl
  have hv:=hfirst (.inl rfl)
  split
  ·dsimp only
   rename_i e _
   rw [srcA_loc (one (x:=x) (by simp))]
   split
   ·split
    ·split
     ·split
      ·exact newBlk_loc hn2 (h.mono (by simpa using hn1))
      ·exact Same.none
     ·rename_i id len sz' _
      have hid:id∈l:=hargs (.own id len sz') (by simp) id (by simp [dids])
      rw [h.lk id hid]
      split
      ·split
       ·intro p v s' hh
        have h':AgreeH [s.next+16*i] (s.push [(id,.gone)]) (t.push [(id,.gone)]):=(h.push _).mono (by simpa using hn1)
        obtain⟨D,d1,d2,d3⟩:=newBlkT_loc (s:=s.push [(id,.gone)]) (t:=t.push [(id,.gone)]) (wr:=wr) hn2 h' p v s' hh
        refine⟨D++[(id,.gone)],by rw [d1,push_push],by rw [← push_push];exact d2,fun q hq=>?_⟩
        rcases List.mem_append.1 hq with hq | hq
        ·exact d3 q hq
        ·simp at hq;rw [hq];exact hv id (by simp [dids])
       ·exact Same.none
      ·exact Same.none
     ·split
      ·exact Same.pure
      ·exact Same.none
     ·rename_i id b lim o len _
      have hid:id∈l:=hargs (.sl id b lim o len 1) (by simp) id (by simp [dids])
      intro p v s' hh
      split at hh <;> try contradiction
      rename_i p0 v0 s1 hb1 hc
      obtain⟨D,d1,d2,d3⟩:=acopy_loc (h.mono (by simpa using hid)) (hv id (by simp [dids])) p0 v0 s1 hc
      simp only [Option.some.injEq,Prod.mk.injEq] at hh
      obtain⟨rfl,rfl,rfl⟩:=hh
      exact⟨D,d1,by rw [hb1,d2],d3⟩
     ·exact Same.none
    ·exact Same.none
   ·exact appOwn_loc h (hargs v (by simp)) (hargs x (by simp)) ⟨hn1,hn2⟩ (by simpa using hv)
  ·split
   ·split
    ·exact newBlk_loc hn2 (h.mono (by simpa using hn1))
    ·exact Same.none
   ·exact Same.none
 ·-- copy
  rename_i v x
  have hv:=hfirst (.inr (.inl rfl))
  split
  ·rename_i e _
   rw [srcA_loc (one (x:=x) (by simp))]
   split
   ·split
    ·rename_i id len
     have hid:id∈l:=hargs (.own id len 1) (by simp) id (by simp [dids])
     rw [olen_loc (h.mono (l':=[id]) (by simpa using hid))]
     split
     ·exact acopy_loc (h.mono (by simpa using hid)) (hv id (by simp [dids]))
     ·exact Same.none
    ·rename_i id b lim o len
     have hid:id∈l:=hargs (.sl id b lim o len 1) (by simp) id (by simp [dids])
     exact acopy_loc (h.mono (by simpa using hid)) (hv id (by simp [dids]))
    ·exact Same.none
   ·exact Same.none
  ·exact Same.none
 ·-- clear
  have hv:=hfirst (.inr (.inr (.inl rfl)))
  split
  ·rename_i e id b lim o len _
   have hid:id∈l:=hargs (.sl id b lim o len 1) (by simp) id (by simp [dids])
   split
   ·intro p v s' hh
    split at hh <;> try contradiction
    rename_i p0 v0 s1 hc
    obtain⟨D,d1,d2,d3⟩:=acopy_loc (h.mono (by simpa using hid)) (hv id (by simp [dids])) p0 v0 s1 hc
    simp only [Option.some.injEq,Prod.mk.injEq] at hh
    obtain⟨rfl,rfl,rfl⟩:=hh
    exact⟨D,d1,by rw [d2],d3⟩
   ·exact Same.none
  ·exact Same.none
 ·-- delete
  have hv:=hfirst (.inr (.inr (.inr rfl)))
  split
  ·rename_i id
   have hid:id∈l:=hargs (.mp id) (by simp) id (by simp [dids])
   rw [← h.lk id hid]
   split
   ·split
    ·split
     ·intro p v s' hh
      simp only [Option.some.injEq,Prod.mk.injEq] at hh
      obtain⟨rfl,rfl,rfl⟩:=hh
      exact⟨[(id,_)],rfl,rfl,fun q hq=>by simp at hq;rw [hq];exact hv id (by simp [dids])⟩
     ·exact Same.none
    ·exact Same.none
   ·exact Same.none
  ·exact Same.none
 ·split <;> first | exact Same.pure | exact Same.none
 ·split <;> first | exact Same.pure | exact Same.none
 ·split <;> first | exact Same.pure | exact Same.none
 ·exact Same.none
theorem ownF_loc{wr:List Nat}:∀ (fs:List (Nat×Nat)) (l:AVs) (id:Nat) {s t:St},(∀ j,j < fs.length→id+j∈wr)→AgreeH wr s t → ∀ l' s',ownF V fs l id s=some (l',s') → ∃ D,s'=s.push D∧ownF V fs l id t=some (l',t.push D) ∧ ∀ p∈D,p.1∈wr
 | [],l,id,s,t,_,h,l',s',he=>by
  simp only [ownF,Option.some.injEq,Prod.mk.injEq] at he
  obtain⟨rfl,rfl⟩:=he
  exact⟨[],rfl,rfl,fun p hp=>by simp at hp⟩
 | f :: fs,.nil,id,s,t,_,h,l',s',he=>by
  simp only [ownF,Option.some.injEq,Prod.mk.injEq] at he
  obtain⟨rfl,rfl⟩:=he
  exact⟨[],rfl,rfl,fun p hp=>by simp at hp⟩
 | f :: fs,.cons n v l,id,s,t,hk,h,l',s',he=>by
  simp only [ownF] at he ⊢
  cases hn:nilSl V f.1 v with
  | some r0s=>
   obtain⟨r0,sz⟩:=r0s
   rw [hn] at he
   dsimp only at he ⊢
   have hid:id∈wr:=by simpa using hk 0 (by simp)
   rw [← h.key id hid]
   cases hkey:hasKey id s.heap with
   | true=>rw [hkey] at he;cases he
   | false=>
    rw [hkey] at he
    dsimp only at he ⊢
    split at he <;> try contradiction
    rename_i l1 s1 h1
    simp only [Option.some.injEq,Prod.mk.injEq] at he
    obtain⟨rfl,rfl⟩:=he
    obtain⟨D,d1,d2,d3⟩:=ownF_loc fs l (id+1) (s:=s.push [(id,.cells 0 r0 true)]) (t:=t.push [(id,.cells 0 r0 true)]) (fun j hj=>by have:=hk (j+1) (by simp;omega);rwa [show id+(j+1)=id+1+j by omega] at this) (h.push _) l1 s1 h1
    refine⟨D++[(id,.cells 0 r0 true)],by rw [d1,push_push],?_,fun p hp=>?_⟩
    ·show(match ownF V fs l (id+1) (t.push [(id,.cells 0 r0 true)]) with | some (l',s')=>some (AVs.cons n (.one (.own id 0 sz)) l',s') | none=>none)=_
     rw [d2,push_push]
    ·rcases List.mem_append.1 hp with hp | hp
     ·exact d3 p hp
     ·simp at hp;rw [hp];exact hid
  | none=>
   rw [hn] at he
   dsimp only at he ⊢
   split at he <;> try contradiction
   rename_i l1 s1 h1
   simp only [Option.some.injEq,Prod.mk.injEq] at he
   obtain⟨rfl,rfl⟩:=he
   obtain⟨D,d1,d2,d3⟩:=ownF_loc fs l id (fun j hj=>hk j (by simp;omega)) h l1 s1 h1
   exact⟨D,d1,by rw [d2],d3⟩
theorem ownB_loc{wr:List Nat}{d:TyD}{r:AV}{id:Nat}(hk:∀ j,j < 15→id+j∈wr)(h:AgreeH wr s t):∀ r' s',ownB V d r id s=some (r',s') → ∃ D,s'=s.push D∧ownB V d r id t=some (r',t.push D) ∧ ∀ p∈D,p.1∈wr:=by
 intro r' s' he
 unfold ownB at he ⊢
 cases d with
 | struct fs=>
  cases r with
  | segs l=>
   dsimp only at he ⊢
   cases hn:Nat.ble fs.length 15 with
   | true=>
    rw [hn] at he
    rw [Nat.ble_eq] at hn
    dsimp only at he ⊢
    split at he <;> try contradiction
    rename_i l1 s1 h1
    simp only [Option.some.injEq,Prod.mk.injEq] at he
    obtain⟨rfl,rfl⟩:=he
    obtain⟨D,d1,d2,d3⟩:=ownF_loc fs l id (fun j hj=>hk j (by omega)) h l1 s1 h1
    exact⟨D,d1,by rw [d2],d3⟩
   | false=>
    rw [hn] at he
    simp only [Option.some.injEq,Prod.mk.injEq] at he
    obtain⟨rfl,rfl⟩:=he
    exact⟨[],rfl,rfl,fun p hp=>by simp at hp⟩
  | _=>
   simp only [Option.some.injEq,Prod.mk.injEq] at he
   obtain⟨rfl,rfl⟩:=he
   exact⟨[],rfl,rfl,fun p hp=>by simp at hp⟩
 | _=>
  simp only [Option.some.injEq,Prod.mk.injEq] at he
  obtain⟨rfl,rfl⟩:=he
  exact⟨[],rfl,rfl,fun p hp=>by simp at hp⟩
theorem coerceAll_loc:∀ {ms:List (Option Nat)} {args:List AV},AgreeH (args.flatMap dids) s t→coerceAll V s ms args=coerceAll V t ms args
 | [],[],_=>rfl
 | [],_ :: _,_=>rfl
 | _ :: _,[],_=>rfl
 | m :: ms,v :: args,h=>by
  simp only [coerceAll]
  rw [coerce_loc (h.mono (by simp;intro x hx;exact .inl hx)),coerceAll_loc (ms:=ms) (args:=args) (h.mono (by intro x hx;simp at hx ⊢;exact .inr hx))]
theorem reach_loc{H H':List (Nat×Blk)}:∀ (d:Nat) (acc todo:List Nat),(∀ id∈todo,id∈acc)→(∀ id∈reach H d acc todo,lkH id H=lkH id H')→reach H d acc todo=reach H' d acc todo
 | 0,acc,todo,_,_=>by simp [reach]
 | d+1,acc,[],_,_=>by simp [reach]
 | d+1,acc,id :: todo,hsub,h=>by
  have hid:id∈reach H (d+1) acc (id :: todo):=by
   obtain⟨t,ht⟩:=reach_pre H (d+1) acc (id :: todo)
   rw [ht];exact List.mem_append.2 (.inl (hsub id (by simp)))
  simp only [reach] at h ⊢
  have e:lkH id H=lkH id H':=h id (by simpa [reach] using hid)
  rw [← e]
  refine reach_loc d _ _ (fun x hx=>?_) h
  rcases List.mem_append.1 hx with hx | hx
  ·exact List.mem_append.2 (.inl (hsub x (by simp [hx])))
  ·exact List.mem_append.2 (.inr hx)
theorem freeAll_loc{H H':List (Nat×Blk)}:∀ (n id:Nat),(∀ j,j < n→hasKey (id+j) H=hasKey (id+j) H')→freeAll id n H=freeAll id n H'
 | 0,_,_=>rfl
 | n+1,id,h=>by
  simp only [freeAll]
  have e0:hasKey id H=hasKey id H':=h 0 (Nat.succ_pos n)
  have e1:=freeAll_loc n (id+1) (fun j hj=>by simpa [Nat.add_assoc,Nat.add_comm,Nat.add_left_comm] using h (j+1) (Nat.succ_lt_succ hj))
  rw [e0,e1]
theorem putBackK_loc(ids:List Nat)(fresh:Nat)(π:Nat→Nat):∀ (l:List Blk) (j:Nat) (H1 H2:List (Nat×Blk)),(∀ k,j≤k→k < j+l.length→lkH (backOf ids fresh k) H1=lkH (backOf ids fresh k) H2) →
  ∃ D:List (Nat×Blk),putBackK ids fresh π j l H1=D++H1∧putBackK ids fresh π j l H2=D++H2 ∧ ∀ q∈D,q.1∈pushedK ids fresh π j l H1
 | [],j,H1,H2,_=>⟨[],rfl,rfl,fun q hq=>by simp at hq⟩
 | b :: l,j,H1,H2,h=>by
  simp only [putBackK,pushedK]
  rw [← h j (Nat.le_refl _) (by simp)]
  split
  ·exact putBackK_loc ids fresh π l (j+1) H1 H2 fun k k1 k2=>h k (by omega) (by simp;omega)
  ·obtain⟨D,d1,d2,d3⟩:=putBackK_loc ids fresh π l (j+1) ((backOf ids fresh j,b.ren π) :: H1) ((backOf ids fresh j,b.ren π) :: H2) fun k k1 k2=>by
    rw [lkH_put,lkH_put,h k (by omega) (by simp;omega)]
   refine⟨D++[(backOf ids fresh j,b.ren π)],by rw [d1];simp,by rw [d2];simp,fun q hq=>?_⟩
   rcases List.mem_append.1 hq with hq | hq
   ·exact List.mem_cons_of_mem _ (d3 q hq)
   ·simp at hq;rw [hq];exact List.mem_cons_self
theorem alook_loc{ty i id:Nat}{d:Option Nat}{ok b:Bool}{k:IntKind}{n:Nat}{v:MV}{es:List (List Int×List Int)}{x:AV}{wr:List Nat}(hn:s.next=t.next)
  (hw:V.mvAt d≠0→s.next+16*i∈wr∧id∈wr∧hasKey (s.next+16*i) s.heap=hasKey (s.next+16*i) t.heap):Same (alook V ty i d ok id k n v es b x s) (alook V ty i d ok id k n v es b x t) s t wr:=by
 unfold alook
 split
 ·split
  ·split
   ·exact Same.pure
   ·rename_i hz
    obtain⟨w1,w2,w3⟩:=hw hz
    rw [← hn,← w3]
    split
    ·intro p v s' hh
     simp only [Option.some.injEq,Prod.mk.injEq] at hh
     obtain⟨rfl,rfl,rfl⟩:=hh
     exact⟨[(s.next+16*i,_),(id,_)],rfl,rfl,fun q hq=>by
      simp only [List.mem_cons,List.not_mem_nil,or_false] at hq
      rcases hq with rfl | rfl
      ·exact w1
      ·exact w2⟩
    ·exact Same.none
  ·exact Same.none
 ·exact Same.none
theorem acall_loc{i f:Nat}{args args':List AV}{modes:List (Option Nat)}{run:List AV→List Blk→Option (Bool×AV×List Blk)}{l wr:List Nat}(h:AgreeH l s t)(hE:V.E f=some (modes,run))(hco:coerceAll V s modes args=some args')
  (h1:∀ id∈args.flatMap dids,id∈l) (h2:∀ id∈reach s.heap 64 (addNew [] (args'.flatMap AV.ids)) (addNew [] (args'.flatMap AV.ids)),id∈l)
  (h2w:∀ id∈callW run args' (reach s.heap 64 (addNew [] (args'.flatMap AV.ids)) (addNew [] (args'.flatMap AV.ids))) (coerced modes args) (s.next+16*i) s,id∈wr)
  (h2c:∀ id∈(coerced modes args).flatMap AV.ids,id∈l∧(callV run args' (reach s.heap 64 (addNew [] (args'.flatMap AV.ids)) (addNew [] (args'.flatMap AV.ids))) s.heap=true→id∈wr))
  (h3:∀ j,j < 16→s.next+16*i+j∈l∧s.next+16*i+j∈wr):Same (acall V i f args s) (acall V i f args t) s t wr:=by
 unfold acall
 rw [hE]
 dsimp only
 rw [← coerceAll_loc (h.mono h1),hco]
 dsimp only
 have hr:reach s.heap 64 (addNew [] (args'.flatMap AV.ids)) (addNew [] (args'.flatMap AV.ids))=reach t.heap 64 (addNew [] (args'.flatMap AV.ids)) (addNew [] (args'.flatMap AV.ids)):=
  reach_loc 64 _ _ (fun _ h=>h) fun id hid=>h.lk id (h2 id hid)
 rw [← hr]
 generalize hroots:addNew [] (args'.flatMap AV.ids)=roots at h2 hr h2c h2w
 generalize hids:reach s.heap 64 roots roots=ids at h2 hr h2c h2w
 have hids':∀ id∈ids,id∈l:=fun id hid=>h2 id hid
 have hg:goodIds roots ids t.heap=goodIds roots ids s.heap:=by
  unfold goodIds
  have e1:(ids.all fun n=>hasKey n t.heap)=ids.all fun n=>hasKey n s.heap:=by
   rw [Bool.eq_iff_iff,List.all_eq_true,List.all_eq_true]
   exact⟨fun hh x hx=>by rw [h.key x (hids' x hx)];exact hh x hx,fun hh x hx=>by rw [← h.key x (hids' x hx)];exact hh x hx⟩
  have e2:(ids.all fun n=>(lkH n t.heap).ids.all fun k=>mem k ids)=ids.all fun n=>(lkH n s.heap).ids.all fun k=>mem k ids:=by
   rw [Bool.eq_iff_iff,List.all_eq_true,List.all_eq_true]
   exact⟨fun hh x hx=>by rw [h.lk x (hids' x hx)];exact hh x hx,fun hh x hx=>by rw [← h.lk x (hids' x hx)];exact hh x hx⟩
  rw [e1,e2]
 have hgo:(ids.all fun n=>!(lkH n t.heap).isO)=ids.all fun n=>!(lkH n s.heap).isO:=by
  rw [Bool.eq_iff_iff,List.all_eq_true,List.all_eq_true]
  exact⟨fun hh x hx=>by rw [h.lk x (hids' x hx)];exact hh x hx,fun hh x hx=>by rw [← h.lk x (hids' x hx)];exact hh x hx⟩
 rw [hg,hgo]
 split
 ·exact Same.none
 ·have hm:(ids.map fun n=>(lkH n t.heap).ren fun n=>numb n ids)=ids.map fun n=>(lkH n s.heap).ren fun n=>numb n ids:=List.map_congr_left fun n hn=>by rw [h.lk n (hids' n hn)]
  rw [hm]
  split
  ·exact Same.none
  ·rename_i pre r H' hrun
   rw [← h.next]
   have hc:(Nat.ble ids.length H'.length&&(Nat.ble (H'.length-ids.length) 16&&(freeAll (s.next+16*i) (H'.length-ids.length) t.heap&&H'.all fun b=>!b.isO)))=(Nat.ble ids.length H'.length&&(Nat.ble (H'.length-ids.length) 16&&(freeAll (s.next+16*i) (H'.length-ids.length) s.heap&&H'.all fun b=>!b.isO))):=by
    cases hB:Nat.ble (H'.length-ids.length) 16 with
    | false=>rfl
    | true=>
     rw [Nat.ble_eq] at hB
     rw [freeAll_loc (H:=s.heap) (H':=t.heap) (H'.length-ids.length) (s.next+16*i) fun j hj=>h.key _ (h3 j (by omega)).1]
   rw [hc]
   split
   ·exact Same.none
   ·rename_i hcond
    rw [Bool.and_eq_true,Bool.and_eq_true,Nat.ble_eq,Nat.ble_eq] at hcond
    have hback:∀ k,k < H'.length→backOf ids (s.next+16*i) k∈l:=fun k hk=>by
     unfold backOf
     split
     ·rename_i id hid;exact hids' id (List.mem_of_getElem? hid)
     ·exact(h3 _ (by omega)).1
    unfold callW at h2w
    rw [hrun] at h2w
    dsimp only at h2w
    intro p v s' hh
    cases hl:(r.hasV || H'.any Blk.hasV) with
    | false=>
     rw [hl] at hh h2w
     obtain⟨D,d1,d2,d3⟩:=putBackK_loc ids (s.next+16*i) (backOf ids (s.next+16*i)) H' 0 s.heap t.heap fun k _ hk=>h.lk _ (hback k (by omega))
     simp only [Option.some.injEq,Prod.mk.injEq] at hh
     obtain⟨rfl,rfl,rfl⟩:=hh
     exact⟨D,by simp only [d1];rfl,by simp only [d2];rfl,fun q hq=>h2w _ (d3 q hq)⟩
    | true=>
     rw [hl] at hh h2w
     simp only [Option.some.injEq,Prod.mk.injEq] at hh
     obtain⟨rfl,rfl,rfl⟩:=hh
     have hcv:callV run args' ids s.heap=true:=by unfold callV;rw [hrun];exact hl
     have hsub:∀ x∈(coerced modes args).flatMap dids,x∈(coerced modes args).flatMap AV.ids:=fun x hx=>by
      obtain⟨y,hy,hz⟩:=List.mem_flatMap.1 hx
      refine List.mem_flatMap.2 ⟨y,hy,?_⟩
      cases y <;> simp [dids] at hz <;> simp [AV.ids,hz]
     obtain⟨D0,q1,q2,q3⟩:=freezeAll_loc (coerced modes args) (h.mono fun x hx=>(h2c x (hsub x hx)).1)
     obtain⟨D,d1,d2,d3⟩:=putBackK_loc ids (s.next+16*i) (backOf ids (s.next+16*i)) H' 0 (s.push D0).heap (t.push D0).heap fun k _ hk=>(h.push D0).lk _ (hback k (by omega))
     simp only [q1] at h2w ⊢
     simp only [q2]
     refine⟨D++D0,?_,?_,fun q hq=>?_⟩
     ·have d1':putBackK ids (s.next+16*i) (backOf ids (s.next+16*i)) 0 H' (D0++s.heap)=D++(D0++s.heap):=d1
      simp only [St.push,d1',List.append_assoc]
     ·have d2':putBackK ids (s.next+16*i) (backOf ids (s.next+16*i)) 0 H' (D0++t.heap)=D++(D0++t.heap):=d2
      simp only [St.push,d2',List.append_assoc]
     ·rcases List.mem_append.1 hq with hq | hq
      ·exact h2w _ (d3 q hq)
      ·exact(h2c _ (hsub _ (q3 q hq))).2 hcv
theorem aop_loc{i:Nat}{o:Oper}{l:List Nat}(hop:∀ x∈o.op.operands,ev V s x=ev V t x)(h:AgreeH l s t)(hl:∀ id∈(foot V i o s).1++(foot V i o s).2,id∈l):
  Same (aop V i o s) (aop V i o t) s t (foot V i o s).2:=by
 have h1:∀ id∈(foot V i o s).1,id∈l:=fun id hid=>hl id (List.mem_append.2 (.inl hid))
 have h2:∀ id∈(foot V i o s).2,id∈l:=fun id hid=>hl id (List.mem_append.2 (.inr hid))
 cases ho:o.op with
 | move x=>simp only [aop,ho];rw [← hop x (by simp [ho,Op.operands])];exact Same.pure
 | assign x=>simp only [aop,ho];rw [← hop x (by simp [ho,Op.operands])];exact Same.pure
 | alloc ty=>
  simp only [foot,ho] at h1 h2 ⊢
  simp only [aop,ho]
  split
  ·exact newBlkT_loc (by simp) (h.mono h2)
  ·exact Same.none
 | box ty x=>
  simp only [foot,ho] at h1 h2 ⊢
  simp only [aop,ho]
  rw [← hop x (by simp [ho,Op.operands])]
  have hk:∀ k,k < 16→s.next+16*i+k∈(List.range 16).map fun j=>s.next+16*i+j:=fun k hk=>List.mem_map.2 ⟨k,by simpa using hk,rfl⟩
  split
  ·intro p v s' hh
   split at hh <;> try contradiction
   rename_i r1 s1 hB
   obtain⟨D,d1,d2,d3⟩:=ownB_loc (t:=t) (wr:=(List.range 16).map fun j=>s.next+16*i+j) (fun j hj=>by have:=hk (j+1) (by omega);rwa [show s.next+16*i+(j+1)=s.next+16*i+1+j by omega] at this) (h.mono h2) r1 s1 hB
   subst d1
   obtain⟨D2,e1,e2,e3⟩:=newBlk_loc (s:=s.push D) (t:=t.push D) (wr:=(List.range 16).map fun j=>s.next+16*i+j) (show s.next+16*i∈_ by simp) (((h.mono h2).push D).mono (by intro x hx;rw [List.mem_singleton] at hx;rw [hx];exact(show s.next+16*i∈(List.range 16).map fun j=>s.next+16*i+j by simp))) p v s' hh
   refine⟨D2++D,by rw [e1,push_push],?_,fun q hq=>?_⟩
   ·rw [← h.next,d2]
    dsimp only
    rw [e2,push_push]
   ·rcases List.mem_append.1 hq with hq | hq
    ·exact e3 q hq
    ·exact d3 q hq
  ·exact Same.none
 | build ty parts=>
  have hp:(parts.toList.map fun (p:Nat×Operand)=>(p.1,ev V s p.2))=parts.toList.map fun (p:Nat×Operand)=>(p.1,ev V t p.2):=List.map_congr_left fun p hp=>by
   rw [hop p.2 (by simp only [ho,Op.operands];simp;exact⟨p.1,by simpa using hp⟩)]
  simp only [aop,ho]
  rw [hp]
  split
  ·split
   ·generalize fillS _ _ _ _ _=oo
    cases oo with
    | none=>exact Same.none
    | some r=>exact Same.pure
   ·exact Same.none
  ·split
   ·split
    ·generalize fillR _ _ _ _=oo
     cases oo with
     | none=>exact Same.none
     | some r=>exact Same.pure
    ·exact Same.none
   ·exact Same.none
  ·exact Same.none
 | buildSlice ty n parts=>
  have hpo:∀ p∈parts.toList,ev V s p.2=ev V t p.2:=fun p hp=>hop p.2 (by simp only [ho,Op.operands];simp;exact⟨p.1,by simpa using hp⟩)
  simp only [foot,ho] at h2 ⊢
  simp only [aop,ho]
  have hd:AgreeH (parts.toList.flatMap fun p=>dids (ev V s p.2)) s t:=h.mono fun x hx=>h2 x (List.mem_append.2 (.inr hx))
  have hk:∀ k,k < 16→s.next+16*i+k∈(List.range 16).map fun j=>s.next+16*i+j:=fun k hk=>List.mem_map.2 ⟨k,by simpa using hk,rfl⟩
  have hk0:s.next+16*i∈((List.range 16).map fun j=>s.next+16*i+j)++parts.toList.flatMap fun p=>dids (ev V s p.2):=List.mem_append.2 (.inl (by simp))
  have hp:(parts.toList.map fun (p:Nat×Operand)=>(p.1,ev V t p.2))=parts.toList.map fun (p:Nat×Operand)=>(p.1,ev V s p.2):=List.map_congr_left fun p hp=>by rw [hpo p hp]
  have hpc:∀ e',(parts.toList.map fun (p:Nat×Operand)=>(p.1,(coerce V t (some e') (ev V t p.2)).getD .undef))=parts.toList.map fun (p:Nat×Operand)=>(p.1,(coerce V s (some e') (ev V s p.2)).getD .undef):=fun e'=>List.map_congr_left fun p hp=>by
   rw [← hpo p hp,coerce_loc (hd.mono fun x hx=>List.mem_flatMap.2 ⟨p,hp,hx⟩)]
  split
  ·rename_i e _
   split
   ·rename_i z hz
    rw [hp]
    have plain:∀ oo:Option AV,Same (match oo with
      | some r=>newBlk s i (bsz r n (V.T.at e).sz) r true fun id=>.own id (klen n (V.T.at e).sz) (V.T.at e).sz
      | none=>none) (match oo with
      | some r=>newBlk t i (bsz r n (V.T.at e).sz) r true fun id=>.own id (klen n (V.T.at e).sz) (V.T.at e).sz
      | none=>none) s t (((List.range 16).map fun j=>s.next+16*i+j)++parts.toList.flatMap fun p=>dids (ev V s p.2)):=by
     intro oo
     cases oo with
     | none=>exact Same.none
     | some r=>exact newBlk_loc hk0 (h.mono (by intro x hx;rw [List.mem_singleton] at hx;rw [hx];exact h2 _ hk0))
    cases hdd:(V.T.at e).d
    case slice e'=>
     dsimp only
     rw [hpc]
     generalize fillR _ _ _ _=oo
     cases oo with
     | none=>exact Same.none
     | some r=>
      dsimp only
      have f1:(parts.toList.foldl (fun s' (p:Nat×Operand)=>freeze s' (ev V s p.2)) s)=freezeAll s (parts.toList.map fun p=>ev V s p.2):=by unfold freezeAll;rw [List.foldl_map]
      have f2:(parts.toList.foldl (fun s' (p:Nat×Operand)=>freeze s' (ev V t p.2)) t)=freezeAll t (parts.toList.map fun p=>ev V s p.2):=by
       have:(parts.toList.map fun p=>ev V s p.2)=parts.toList.map fun p=>ev V t p.2:=List.map_congr_left fun p hp=>hpo p hp
       rw [this];unfold freezeAll;rw [List.foldl_map]
      rw [f1,f2]
      obtain⟨D,d1,d2,d3⟩:=freezeAll_loc (s:=s) (t:=t) (parts.toList.map fun p=>ev V s p.2) (by rw [List.flatMap_map];exact hd)
      rw [d1,d2]
      intro p v s' hh
      have h':AgreeH [s.next+16*i] (s.push D) (t.push D):=(h.push D).mono (by intro x hx;rw [List.mem_singleton] at hx;rw [hx];exact h2 _ hk0)
      obtain⟨D2,e1,e2,e3⟩:=newBlk_loc (s:=s.push D) (t:=t.push D) (wr:=[s.next+16*i]) (by simp [St.push]) h' p v s' hh
      refine⟨D2++D,by rw [e1,push_push],by rw [← push_push];exact e2,fun q hq=>?_⟩
      rcases List.mem_append.1 hq with hq | hq
      ·have:=e3 q hq;rw [List.mem_singleton] at this;rw [this];exact hk0
      ·have:=d3 q hq;rw [List.flatMap_map] at this;exact List.mem_append.2 (.inr this)
    all_goals exact plain _
   ·split
    ·rw [hp]
     generalize fillR _ _ _ _=oo
     cases oo with
     | none=>exact Same.none
     | some r=>
      dsimp only
      have hk':∀ k,k < 16→s.next+16*i+k∈((List.range 16).map fun j=>s.next+16*i+j)++parts.toList.flatMap fun p=>dids (ev V s p.2):=fun k hh=>List.mem_append.2 (.inl (hk k hh))
      intro p v s' hh
      split at hh <;> try contradiction
      rename_i r1 s1 hB
      obtain⟨D,d1,d2,d3⟩:=ownB_loc (t:=t) (wr:=((List.range 16).map fun j=>s.next+16*i+j)++parts.toList.flatMap fun p=>dids (ev V s p.2)) (fun j hj=>by have:=hk' (j+1) (by omega);rwa [show s.next+16*i+(j+1)=s.next+16*i+1+j by omega] at this) (h.mono h2) r1 s1 hB
      subst d1
      obtain⟨D2,e1,e2,e3⟩:=newBlk_loc (s:=s.push D) (t:=t.push D) (wr:=((List.range 16).map fun j=>s.next+16*i+j)++parts.toList.flatMap fun p=>dids (ev V s p.2)) (show s.next+16*i∈_ by simp) (((h.mono h2).push D).mono (by intro x hx;rw [List.mem_singleton] at hx;rw [hx];exact hk0)) p v s' hh
      refine⟨D2++D,by rw [e1,push_push],?_,fun q hq=>?_⟩
      ·rw [← h.next,d2]
       dsimp only
       rw [e2,push_push]
      ·rcases List.mem_append.1 hq with hq | hq
       ·exact e3 q hq
       ·exact d3 q hq
    ·exact Same.none
  ·exact Same.none
 | load ty x=>
  simp only [foot,ho] at h1
  simp only [aop,ho]
  rw [← hop x (by simp [ho,Op.operands]),aload_loc (h.mono h1)]
  generalize aload _ _ _ _=oo
  cases oo with
  | none=>exact Same.none
  | some r=>exact Same.pure
 | store ty x y=>
  simp only [foot,ho] at h2 ⊢
  simp only [aop,ho]
  rw [← hop x (by simp [ho,Op.operands]),← hop y (by simp [ho,Op.operands])]
  exact astore_loc (h.mono h2) fun _ h=>h
 | nilCheck x=>
  simp only [aop,ho]
  rw [← hop x (by simp [ho,Op.operands])]
  split <;> first | exact Same.pure | exact Same.none
 | binOp op ty x y sg=>
  simp only [foot,ho] at h1
  simp only [aop,ho]
  rw [← hop x (by simp [ho,Op.operands]),← hop y (by simp [ho,Op.operands])]
  have e:nilcmp V ty op (ev V s x) (ev V s y) s=nilcmp V ty op (ev V s x) (ev V s y) t:=by
   have h1':AgreeH (dids (ev V s x)) s t:=h.mono fun z hz=>h1 z (List.mem_append.2 (.inl hz))
   generalize ev V s x=p at h1'
   generalize ev V s y=q
   unfold nilcmp
   have e:isNil V ty p q s=isNil V ty p q t:=by
    unfold isNil
    cases q <;> try rfl
    dsimp only
    split
    ·rename_i id len e hd
     rw [h1'.lk id (by simp [dids])]
    ·rfl
   rw [e]
  rw [e]
  split
  ·exact Same.pure
  ·exact Same.map
 | unOp op ty x=>
  simp only [aop,ho]
  rw [← hop x (by simp [ho,Op.operands])]
  exact Same.map (f:=fun _=>true) (g:=fun v=>v)
 | convert src dst x=>
  simp only [foot,ho] at h1 h2 ⊢
  simp only [aop,ho]
  rw [← hop x (by simp [ho,Op.operands])]
  split
  ·exact Same.pure
  ·exact Same.pure
  ·split
   ·exact newBlk_loc (by simp) (h.mono (by simpa using h2))
   ·exact Same.none
  ·rename_i id len _ _ hev
   have hid:=(h.mono h1).lk id (by rw [hev];simp [dids])
   rw [hid]
   split
   ·split
    ·exact Same.pure
    ·exact Same.none
   ·exact Same.none
  ·rw [view_loc (h.mono h1)]
   split <;> first | exact Same.pure | exact Same.none
  ·exact Same.none
 | sliceToArrayPointer ty x=>
  simp only [foot,ho] at h1
  simp only [aop,ho]
  rw [← hop x (by simp [ho,Op.operands])]
  have h1':=h.mono h1
  generalize ev V s x=y at h1'
  split
  ·split
   ·exact Same.map
   ·rename_i id len sz _
    rw [olen_loc (h1'.mono (by simp [dids]))]
    exact Same.map
   ·exact Same.pure
   ·exact Same.none
  ·exact Same.none
 | makeSlice ty x c=>
  simp only [foot,ho] at h2 ⊢
  simp only [aop,ho]
  rw [← hop x (by simp [ho,Op.operands]),← hop c (by simp [ho,Op.operands])]
  have hk:∀ k,k < 16→s.next+16*i+k∈(List.range 16).map fun j=>s.next+16*i+j:=fun k hk=>List.mem_map.2 ⟨k,by simpa using hk,rfl⟩
  split
  ·split
   ·exact mkSlices_loc hk (h.mono h2)
   ·split
    ·exact newBlk_loc (by have hk0:=hk 0 (by omega);rwa [Nat.add_zero] at hk0) (h.mono (by intro x hx;rw [List.mem_singleton] at hx;rw [hx];simpa using h2 _ (hk 0 (by omega))))
    ·exact Same.none
  ·exact Same.none
 | slice ty x lo hi mx=>
  cases mx with
  | some m=>
   cases hi with
   | none=>simp only [aop,ho];exact Same.none
   | some hi=>
    simp only [foot,ho] at h2 ⊢
    cases lo with
    | none=>
     simp only [aop,ho]
     rw [← hop x (by simp [ho,Op.operands]),← hop hi (by simp [ho,Op.operands]),← hop m (by simp [ho,Op.operands])]
     unfold asliceX
     rw [view_loc (h.mono h2)]
     split
     ·split
      ·intro p v s' hh
       simp only [Option.some.injEq,Prod.mk.injEq] at hh
       obtain⟨rfl,rfl,rfl⟩:=hh
       obtain⟨D,d1,d2,d3⟩:=freeze_loc (s:=s) (t:=t) (x:=ev V s x) (h.mono h2)
       exact⟨D,d1,by rw [d2],d3⟩
      ·exact Same.none
     ·exact Same.none
    | some lo=>
     simp only [aop,ho]
     rw [← hop x (by simp [ho,Op.operands]),← hop lo (by simp [ho,Op.operands]),← hop hi (by simp [ho,Op.operands]),← hop m (by simp [ho,Op.operands])]
     have h2':=h.mono h2
     generalize ev V s x=y at h2'
     unfold aslice3
     split
     ·rw [alen_loc h2']
      split
      ·exact Same.pure
      ·exact Same.none
     ·exact Same.none
  | none=>
   simp only [foot,ho] at h1
   simp only [aop,ho]
   have e1:lo.map (ev V t)=lo.map (ev V s):=by
    cases lo with
    | none=>rfl
    | some y=>simp only [Option.map_some];rw [hop y (by simp [ho,Op.operands])]
   have e2:hi.map (ev V t)=hi.map (ev V s):=by
    cases hi with
    | none=>rfl
    | some y=>simp only [Option.map_some];rw [hop y (by simp [ho,Op.operands])]
   rw [← hop x (by simp [ho,Op.operands]),e1,e2]
   unfold aslice
   rw [alen_loc (h.mono h1)]
   split
   ·exact Same.none
   ·split
    ·exact Same.pure
    ·split
     ·split
      ·exact Same.pure
      ·exact Same.none
     ·exact Same.none
 | fieldAddr ty x f=>
  simp only [aop,ho]
  rw [← hop x (by simp [ho,Op.operands])]
  split
  ·split
   ·exact Same.map (f:=fun _=>true) (g:=fun v=>v)
   ·exact Same.none
  ·exact Same.none
 | field ty x f=>
  simp only [aop,ho]
  rw [← hop x (by simp [ho,Op.operands])]
  split
  ·split
   ·split
    ·exact Same.map (f:=fun _=>true) (g:=fun v=>v)
    ·exact Same.none
   ·exact Same.none
  ·exact Same.none
 | indexAddr ty x j=>
  simp only [foot,ho] at h1
  simp only [aop,ho]
  rw [← hop x (by simp [ho,Op.operands]),← hop j (by simp [ho,Op.operands])]
  have h1':=h.mono h1
  generalize ev V s x=y at h1'
  split
  ·split
   ·split
    ·exact Same.pure
    ·exact Same.none
   ·rename_i id len sz
    rw [olen_loc (id:=id) (h1'.mono (by simp [dids]))]
    have e:∀ len j,ptrAt s id len j sz=ptrAt t id len j sz:=fun len j=>by
     unfold ptrAt;rw [h1'.lk id (by simp [dids])]
    simp only [e]
    split
    ·exact Same.map
    ·exact Same.none
   ·split
    ·exact Same.pure
    ·exact Same.none
   ·split
    ·split
     ·exact Same.map
     ·exact Same.none
    ·exact Same.none
   ·split
    ·split
     ·exact Same.map
     ·exact Same.none
    ·exact Same.none
   ·exact Same.none
  ·exact Same.none
 | index ty x j=>
  simp only [aop,ho]
  rw [← hop x (by simp [ho,Op.operands]),← hop j (by simp [ho,Op.operands])]
  split
  ·split
   ·exact Same.pure
   ·exact Same.none
  ·split
   ·split
    ·split
     ·exact Same.map
     ·split
      ·exact Same.pure
      ·exact Same.none
    ·exact Same.none
   ·exact Same.none
  ·exact Same.none
 | extract x j=>
  simp only [aop,ho]
  rw [← hop x (by simp [ho,Op.operands])]
  split
  ·split
   ·exact Same.pure
   ·exact Same.none
  ·exact Same.none
 | makeFunc fn first cap=>
  unfold aop
  rw [ho]
  dsimp only
  cases fn with
  | func f=>
   dsimp only
   split
   ·have:(cap.toList.map (ev V t))=cap.toList.map (ev V s):=List.map_congr_left fun x hx=>(hop x (by simp only [ho,Op.operands];simp;exact .inr (by simpa using hx))).symm
    rw [this];exact Same.pure
   ·exact Same.none
  | _=>exact Same.none
 | call c=>
  have hargs:(c.args.toList.map (ev V t))=c.args.toList.map (ev V s):=List.map_congr_left fun x hx=>(hop x (by simp only [ho,Op.operands,Call.operands];simp;exact .inr (by simpa using hx))).symm
  simp only [aop,ho]
  simp only [foot,ho] at h1 h2 ⊢
  split
  ·rename_i b hb
   rw [hb] at h1 h2
   rw [hargs]
   have h0:dids (ev V s (c.args.getD 0 (.const .nilIface)))=dids ((c.args.toList.map (ev V s)).getD 0 .undef):=by
    cases hl:c.args.toList with
    | nil=>simp [Array.getD_eq_getD_getElem?,← Array.getElem?_toList,hl,ev,ofVal,dids]
    | cons x l=>simp [Array.getD_eq_getD_getElem?,← Array.getElem?_toList,hl]
   cases b
   case append=>
    dsimp only at h1 h2 ⊢
    rw [hb]
    refine abuiltin_loc h (fun x hx id hid=>?_) (fun _=>⟨h2 _ (List.mem_cons.2 (.inl rfl)),List.mem_cons.2 (.inl rfl)⟩) (fun _ id hid=>by rw [← h0] at hid;exact List.mem_cons.2 (.inr hid))
    obtain⟨y,hy,rfl⟩:=List.mem_map.1 hx
    exact h1 id (List.mem_flatMap.2 ⟨y,hy,hid⟩)
   case copy=>
    dsimp only at h1 h2 ⊢
    rw [hb]
    refine abuiltin_loc h (fun x hx id hid=>?_) (fun e=>by cases e) (fun _ id hid=>by rw [← h0] at hid;exact hid)
    obtain⟨y,hy,rfl⟩:=List.mem_map.1 hx
    exact h1 id (List.mem_flatMap.2 ⟨y,hy,hid⟩)
   case clear=>
    dsimp only at h1 h2 ⊢
    rw [hb]
    refine abuiltin_loc h (fun x hx id hid=>?_) (fun e=>by cases e) (fun _ id hid=>by rw [← h0] at hid;exact hid)
    obtain⟨y,hy,rfl⟩:=List.mem_map.1 hx
    exact h1 id (List.mem_flatMap.2 ⟨y,hy,hid⟩)
   case delete=>
    dsimp only at h1 h2 ⊢
    rw [hb]
    refine abuiltin_loc h (fun x hx id hid=>?_) (fun e=>by cases e) (fun _ id hid=>by rw [← h0] at hid;exact hid)
    obtain⟨y,hy,rfl⟩:=List.mem_map.1 hx
    exact h1 id (List.mem_flatMap.2 ⟨y,hy,hid⟩)
   all_goals
    dsimp only at h1 h2 ⊢
    rw [hb]
    refine abuiltin_loc h (fun x hx id hid=>?_) (fun e=>by cases e) (fun e=>by rcases e with e | e | e | e <;> cases e)
    obtain⟨y,hy,rfl⟩:=List.mem_map.1 hx
    exact h1 id (List.mem_flatMap.2 ⟨y,hy,hid⟩)
  ·rename_i f hf
   rw [hf] at h1 h2
   dsimp only at h1 h2
   rw [← hop f (by simp [ho,Op.operands,Call.operands,hf]),hargs]
   rw [hf]
   split
   ·rename_i f' cap hev
    rw [hev] at h1 h2
    dsimp only at h1 h2 ⊢
    cases hbl:Nat.blt f' 1073741824 with
    | false=>exact Same.none
    | true=>
    dsimp only
    cases hE:V.E f' with
    | none=>
     have:acall V i f' (c.args.toList.map (ev V s)++cap.toList) s=none:=by unfold acall;rw [hE]
     rw [this];exact Same.none
    | some mr=>
     obtain⟨modes,run⟩:=mr
     rw [hE] at h1 h2
     dsimp only at h1 h2
     cases hco:coerceAll V s modes (c.args.toList.map (ev V s)++cap.toList) with
     | none=>
      have:acall V i f' (c.args.toList.map (ev V s)++cap.toList) s=none:=by unfold acall;rw [hE];dsimp only;rw [hco]
      rw [this];exact Same.none
     | some args'=>
      rw [hco] at h1 h2
      dsimp only at h1 h2 ⊢
      rw [hev]
      dsimp only
      rw [hE]
      dsimp only
      rw [hco]
      dsimp only
      cases hv:callV run args' (reach s.heap 64 (addNew [] (args'.flatMap AV.ids)) (addNew [] (args'.flatMap AV.ids))) s.heap with
      | true=>
       rw [hv] at h1 h2
       dsimp only at h1 h2 ⊢
       exact acall_loc h hE hco (fun id hid=>h1 id (List.mem_append.2 (.inl hid))) (fun id hid=>h1 id (List.mem_append.2 (.inr hid))) (fun id hid=>List.mem_append.2 (.inl (List.mem_append.2 (.inl hid))))
        (fun id hid=>⟨h2 id (List.mem_append.2 (.inl (List.mem_append.2 (.inr hid)))),fun _=>List.mem_append.2 (.inl (List.mem_append.2 (.inr hid)))⟩) (fun j hj=>by
        have:s.next+16*i+j∈(List.range 16).map fun j=>s.next+16*i+j:=List.mem_map.2 ⟨j,by simpa using hj,rfl⟩
        exact⟨h2 _ (List.mem_append.2 (.inr this)),List.mem_append.2 (.inr this)⟩)
      | false=>
       rw [hv] at h1 h2
       dsimp only at h1 h2 ⊢
       exact acall_loc h hE hco (fun id hid=>h1 id (List.mem_append.2 (.inl hid))) (fun id hid=>h1 id (List.mem_append.2 (.inr (List.mem_append.2 (.inr hid))))) (fun id hid=>List.mem_append.2 (.inl hid))
        (fun id hid=>⟨h1 id (List.mem_append.2 (.inr (List.mem_append.2 (.inl hid)))),fun e=>by rw [hv] at e;cases e⟩) (fun j hj=>by
        have:s.next+16*i+j∈(List.range 16).map fun j=>s.next+16*i+j:=List.mem_map.2 ⟨j,by simpa using hj,rfl⟩
        exact⟨h2 _ (List.mem_append.2 (.inr this)),List.mem_append.2 (.inr this)⟩)
   ·exact Same.none
  ·exact Same.none
 | makeMap ty r=>
  cases r with
  | some r=>(unfold aop;rw [ho];exact Same.none)
  | none=>
   simp only [foot,ho] at h2 ⊢
   simp only [aop,ho]
   have h':=h.mono h2
   rw [← h'.next,← h'.key _ (by simp)]
   split
   ·intro p v s' hh
    simp only [Option.some.injEq,Prod.mk.injEq] at hh
    obtain⟨rfl,rfl,rfl⟩:=hh
    exact⟨[(s.next+16*i,_)],rfl,rfl,fun q hq=>by simp at hq;rw [hq];simp⟩
   ·exact Same.none
 | lookup ty m x ok=>
  simp only [foot,ho] at h1 h2 ⊢
  simp only [aop,ho]
  rw [← hop m (by simp [ho,Op.operands]),← hop x (by simp [ho,Op.operands])]
  have h':AgreeH (dids (ev V s m)) s t:=h.mono fun q hq=>by
   cases hz:V.mvAt o.dst with
   | zero=>rw [hz] at h1;exact h1 q hq
   | succ z=>rw [hz] at h2;exact h2 q (List.mem_cons_of_mem _ hq)
  split
  ·rename_i id hid
   rw [hid] at h'
   rw [← h'.lk id (by simp [dids])]
   split
   ·split
    ·split
     ·exact Same.pure
     ·exact Same.pure
    ·refine alook_loc (h.next) fun hz=>?_
     cases hz':V.mvAt o.dst with
     | zero=>exact absurd hz' hz
     | succ z=>
      rw [hz'] at h2
      exact⟨List.mem_cons_self ..,List.mem_cons_of_mem _ (by rw [hid];simp [dids]),h.key _ (h2 _ (List.mem_cons_self ..))⟩
   ·exact Same.none
  ·exact Same.none
 | mapUpdate ty m x y=>
  simp only [foot,ho] at h2 ⊢
  simp only [aop,ho]
  rw [← hop m (by simp [ho,Op.operands]),← hop x (by simp [ho,Op.operands]),← hop y (by simp [ho,Op.operands])]
  have h':=h.mono h2
  split
  ·rename_i id hid
   rw [hid] at h'
   rw [← h'.lk id (by simp [dids])]
   split
   ·split
    ·intro p v s' hh
     simp only [Option.some.injEq,Prod.mk.injEq] at hh
     obtain⟨rfl,rfl,rfl⟩:=hh
     exact⟨[(id,_)],rfl,rfl,fun q hq=>by simp at hq;rw [hq,hid];simp [dids]⟩
    ·unfold aputO
     split
     ·rename_i k' key0 idy hy hl' hno
      rw [hy] at h'
      rw [← h'.lk idy (by simp [dids])]
      split
      ·split
       ·intro p v s' hh
        simp only [Option.some.injEq,Prod.mk.injEq] at hh
        obtain⟨rfl,rfl,rfl⟩:=hh
        exact⟨[(id,_),(idy,_)],rfl,rfl,fun q hq=>by
         simp only [List.mem_cons,List.not_mem_nil,or_false] at hq
         rw [hid,hy]
         rcases hq with rfl | rfl <;> simp [dids]⟩
       ·exact Same.none
      ·exact Same.none
     ·exact Same.none
   ·exact Same.none
  ·exact Same.none
 | _=>(unfold aop;rw [ho];exact Same.none)
end Go.Am
end
section
/- Regions whose order is drawn. -/
namespace Go.Am
open Go
variable {P : Program} {V : Env} {U : Oth} {w0 : World} {W0 : Nat → Prop} {ρ ρ' : Rho} {s s' t : St} {a a' : Act} {w w' : World} {av : AV}
variable {α : Type} {ops : Array Oper} {K : St → Option α} {x : α}
def footG(V:Env)(i:Nat)(o:Oper)(s:St):List Nat×List Nat:=match o.op with
 | .pick _ _ _=>([],[])
 | _=>foot V i o s
def footD(V:Env)(ops:Array Oper)(i:Nat)(o:Oper)(s:St):List Nat×List Nat:=match o.guard with
 | none=>footG V i o s
 | some (j,want)=>match (ops[j]?).bind (·.dst) with
  | none=>([],[])
  | some d=>match lk d s.tmps with
   | .bool b=>if b=want then footG V i o (s.put (some d) (.bool b)) else ([],[])
   | _=>([],[])
theorem aopsD_cons{i:Nat}{o:Oper}{l:List Oper}{fs:List (List Nat×List Nat)}(h:aopsD V ops K i (o :: l) s fs=some x):∃ s',astep V ops i o s=some s'∧aopsD V ops K (i+1) l s' (footD V ops i o s :: fs)=some x:=by
 rw [aopsD] at h
 have go:∀ s:St,(match o.op with
   | .pick c x y=>match ev V s c with
    | .bool b=>cond b (aopsD V ops K (i+1) l (s.put o.dst (ev V s x)) (([],[]) :: fs)) (aopsD V ops K (i+1) l (s.put o.dst (ev V s y)) (([],[]) :: fs))
    | _=>none
   | _=>match aop V i o s with
    | some (pre,v,s')=>cond pre (spl V s o v fun v=>aopsD V ops K (i+1) l (s'.put o.dst v) (foot V i o s :: fs)) none
    | none=>none)=some x → ∃ s',agoOp V i o s=some s'∧aopsD V ops K (i+1) l s' (footG V i o s :: fs)=some x:=by
  intro s h
  split at h
  ·rename_i c y z hop
   have e1:footG V i o s=([],[]):=by unfold footG;rw [hop]
   rw [e1]
   split at h <;> try contradiction
   rename_i b hb
   have e2:agoOp V i o s=some (s.put o.dst (ev V s (if b then y else z))):=by unfold agoOp;rw [hop];dsimp only;rw [hb]
   rcases cond_some h with ⟨rfl,h⟩ | ⟨rfl,h⟩
   ·exact⟨_,e2,h⟩
   ·exact⟨_,e2,h⟩
  ·rename_i hop
   have e1:footG V i o s=foot V i o s:=by
    unfold footG
    split
    ·rename_i c y z hop';exact absurd hop' (hop c y z)
    ·rfl
   rw [e1]
   split at h <;> try contradiction
   rename_i pre v s' ha
   rcases cond_some h with ⟨rfl,h⟩ | ⟨rfl,h⟩
   ·refine⟨s'.put o.dst v,?_,spl_some (Kv:=fun v=>aopsD V ops K (i+1) l (s'.put o.dst v) (foot V i o s :: fs)) ha h⟩
    unfold agoOp
    split
    ·rename_i c y z hop';exact absurd hop' (hop c y z)
    ·rw [ha]
   ·cases h
 dsimp only at h
 unfold astep footD
 split at h
 ·rename_i hg
  rw [hg]
  exact go s h
 ·rename_i j want hg
  rw [hg]
  dsimp only
  split at h <;> try contradiction
  rename_i d hd
  rw [hd]
  dsimp only
  split at h <;> try contradiction
  ·rename_i b hb
   rw [hb]
   rcases cond_some h with ⟨rfl,h⟩ | ⟨rfl,h⟩
   ·simp only [if_true];exact go _ h
   ·exact⟨_,rfl,h⟩
  ·rename_i b hb
   rw [hb]
   rcases cond_some h with ⟨rfl,h⟩ | ⟨rfl,h⟩
   ·exact⟨_,rfl,h⟩
   ·simp only [if_true];exact go _ h
  ·rename_i hb
   rw [hb]
   exact⟨_,rfl,h⟩
theorem aopsD_path:∀ (l:List Oper) (i:Nat) (s:St) (fs:List (List Nat×List Nat)),ops.toList.drop i=l→aopsD V ops K i l s fs=some x →
  ∃ (ss:Nat→St) (gs:List (List Nat×List Nat)),ss i=s∧(∀ j o,i≤j→ops[j]?=some o→astep V ops j o (ss j)=some (ss (j+1))∧gs[j-i]?=some (footD V ops j o (ss j))) ∧
   drawOk ops (fs.reverse++gs)=true∧K { ss (max i ops.size) with next:=(ss (max i ops.size)).next+16*ops.size }=some x
 | [],i,s,fs,hl,h=>by
  have hge:ops.size≤i:=by have:=List.drop_eq_nil_iff.1 hl;simpa using this
  simp only [aopsD] at h
  split at h <;> try contradiction
  rename_i hd
  refine⟨fun _=>s,[],rfl,fun j o hj ho=>?_,by simpa using hd,h⟩
  have:=(Array.getElem?_eq_some_iff.1 ho).1
  omega
 | o :: l,i,s,fs,hl,h=>by
  have hlt:i < ops.size:=by
   rcases Nat.lt_or_ge i ops.size with h | h
   ·exact h
   ·rw [List.drop_eq_nil_iff.2 (by simpa using h)] at hl;cases hl
  have ho:ops[i]?=some o:=by
   have:=List.getElem?_drop (xs:=ops.toList) (i:=i) (j:=0)
   rw [hl] at this;simpa using this.symm
  have hl':ops.toList.drop (i+1)=l:=by
   rw [← List.drop_drop,hl];rfl
  obtain⟨s',h1,h2⟩:=aopsD_cons h
  obtain⟨ss,gs,g1,g2,g3,g4⟩:=aopsD_path l (i+1) s' _ hl' h2
  refine⟨fun j=>if j=i then s else ss j,footD V ops i o s :: gs,by simp,fun j o' hj ho'=>?_,by simpa using g3,?_⟩
  ·dsimp only
   by_cases e:j=i
   ·subst e
    rw [ho] at ho';cases ho'
    simp [g1,h1]
   ·have:=g2 j o' (by omega) ho'
    rw [if_neg e,if_neg (by omega),show j-i=(j-(i+1))+1 by omega,List.getElem?_cons_succ]
    exact this
  ·rw [show max i ops.size=ops.size by omega]
   rw [show max (i+1) ops.size=ops.size by omega] at g4
   simp only [show ops.size≠i by omega,if_false]
   exact g4
theorem Eqv.push(h:Eqv s t)(D:List (Nat×Blk)):Eqv (s.push D) (t.push D):=⟨h.tm,fun id=>lkH_push D id _ _ (h.hp id),fun id=>hasKey_push D id _ _ (h.key id),h.next,h.nt,h.m⟩
theorem lk_St_put(s:St)(dst:Option Nat)(v:AV)(d:Nat):lk d (s.put dst v).tmps=if dst=some d∧d < s.nt then v else lk d s.tmps:=by
 cases dst with
 | none=>simp [St.put]
 | some d'=>
  by_cases h:d' < s.nt
  ·simp only [St.put,blt_true h]
   rw [lk_put]
   by_cases e:d=d'
   ·subst e;simp [h]
   ·simp [e,Ne.symm e]
  ·simp only [St.put,blt_false (by omega:s.nt≤d')]
   rw [if_neg]
   rintro⟨e,h'⟩
   injection e with e;omega
theorem put_heap(s:St)(dst:Option Nat)(v:AV):(s.put dst v).heap=s.heap∧(s.put dst v).next=s.next∧(s.put dst v).nt=s.nt∧(s.put dst v).m=s.m:=by
 cases dst with
 | none=>exact⟨rfl,rfl,rfl,rfl⟩
 | some d=>unfold St.put;dsimp only;split <;> exact⟨rfl,rfl,rfl,rfl⟩
theorem Eqv.put(h:Eqv s t)(dst:Option Nat)(v:AV):Eqv (s.put dst v) (t.put dst v):=by
 obtain⟨a1,a2,a3,a4⟩:=put_heap s dst v
 obtain⟨b1,b2,b3,b4⟩:=put_heap t dst v
 exact⟨fun d=>by rw [lk_St_put,lk_St_put,h.nt,h.tm d],fun id=>by rw [a1,b1];exact h.hp id,fun id=>by rw [a1,b1];exact h.key id,by rw [a2,b2];exact h.next,by rw [a3,b3];exact h.nt,by rw [a4,b4];exact h.m⟩
theorem ev_loc{o:Oper}(h:∀ d∈o.looksAt ops,lk d s.tmps=lk d t.tmps):∀ y∈o.op.operands,ev V s y=ev V t y:=by
 intro y hy
 cases y with
 | tmp d=>
  refine h d ?_
  unfold Oper.looksAt
  exact List.mem_append.2 (.inl (List.mem_filterMap.2 ⟨.tmp d,by simpa using hy,rfl⟩))
 | _=>rfl
theorem push_inj{D D':List (Nat×Blk)}(h:s.push D=s.push D'):D=D':=by
 have:(s.push D).heap=(s.push D').heap:=by rw [h]
 exact List.append_cancel_right this
theorem ago_loc{i:Nat}{o:Oper}{s1:St}(h:agoOp V i o s=some s1):
  ∃ v D,s1=(s.push D).put o.dst v∧(∀ q∈D,q.1∈(footG V i o s).2) ∧ ∀ (t:St) (l:List Nat),(∀ y∈o.op.operands,ev V s y=ev V t y)→AgreeH l s t→(∀ id∈(footG V i o s).1++(footG V i o s).2,id∈l)→agoOp V i o t=some ((t.push D).put o.dst v):=by
 unfold agoOp at h
 split at h
 ·rename_i c y z hop'
  split at h <;> try contradiction
  rename_i b hb
  injection h with h
  refine⟨ev V s (if b then y else z),[],h.symm,fun q hq=>by simp at hq,fun t l hop hH hl=>?_⟩
  unfold agoOp
  rw [hop']
  dsimp only
  rw [← hop c (by simp [hop',Op.operands]),hb]
  dsimp only
  have:ev V t (if b then y else z)=ev V s (if b then y else z):=by
   cases b
   ·exact(hop z (by simp [hop',Op.operands])).symm
   ·exact(hop y (by simp [hop',Op.operands])).symm
  rw [this];rfl
 ·rename_i hnp
  have e1:footG V i o s=foot V i o s:=by
   unfold footG
   split
   ·rename_i c y z hop';exact absurd hop' (hnp c y z)
   ·rfl
  rw [e1]
  split at h <;> try contradiction
  rename_i v s2 ha
  injection h with h
  obtain⟨D,d1,_,d3⟩:=aop_loc (t:=s) (l:=(foot V i o s).1++(foot V i o s).2) (fun _ _=>rfl) ⟨fun _ _=>rfl,fun _ _=>rfl,rfl⟩ (fun _ h=>h) _ _ _ ha
  refine⟨v,D,by rw [← h,d1],d3,fun t l hop hH hl=>?_⟩
  obtain⟨D',g1,g2,_⟩:=aop_loc hop hH hl _ _ _ ha
  have:D'=D:=push_inj (g1.symm.trans d1)
  subst this
  unfold agoOp
  split
  ·rename_i c y z hop';exact absurd hop' (hnp c y z)
  ·rw [g2]
theorem keep_eqv{d:Nat}{y:AV}(h:lk d s.tmps=y):Eqv (s.put (some d) y) s:=by
 obtain⟨a1,a2,a3,a4⟩:=put_heap s (some d) y
 refine⟨fun d'=>?_,fun id=>by rw [a1],fun id=>by rw [a1],a2,a3,a4⟩
 rw [lk_St_put]
 split
 ·rename_i hh;have:=hh.1;injection this with e;subst e;exact h.symm
 ·rfl
theorem step_loc{i:Nat}{o:Oper}{s1:St}(h:astep V ops i o s=some s1):
  ∃ v D,Eqv s1 ((s.push D).put o.dst v)∧(∀ q∈D,q.1∈(footD V ops i o s).2) ∧ ∀ (t:St) (l:List Nat),(∀ d∈o.looksAt ops,lk d s.tmps=lk d t.tmps)→AgreeH l s t→(∀ id∈(footD V ops i o s).1++(footD V ops i o s).2,id∈l) →
   ∃ t1,astep V ops i o t=some t1∧Eqv t1 ((t.push D).put o.dst v):=by
 unfold astep at h
 unfold footD
 unfold astep
 split at h
 ·rename_i hg
  rw [hg]
  dsimp only
  obtain⟨v,D,h1,h2,h3⟩:=ago_loc h
  exact⟨v,D,by rw [h1];exact Eqv.refl _,h2,fun t l hlk hH hl=>⟨_,h3 t l (ev_loc hlk) hH hl,Eqv.refl _⟩⟩
 ·rename_i j want hg
  rw [hg]
  dsimp only
  split at h <;> try contradiction
  rename_i d hd
  rw [hd]
  dsimp only
  have hdl:∀ t:St,(∀ d∈o.looksAt ops,lk d s.tmps=lk d t.tmps)→lk d s.tmps=lk d t.tmps:=fun t hlk=>hlk d (by
   unfold Oper.looksAt
   refine List.mem_append.2 (.inr ?_)
   rw [hg]
   simp [hd])
  split at h <;> try contradiction
  ·rename_i b hb
   rw [hb]
   dsimp only
   have es:=keep_eqv hb
   by_cases hw:b=want
   ·rw [if_pos hw] at h ⊢
    obtain⟨v,D,h1,h2,h3⟩:=ago_loc h
    refine⟨v,D,by rw [h1];exact(es.push D).put _ _,h2,fun t l hlk hH hl=>?_⟩
    have et:=keep_eqv (s:=t) ((hdl t hlk).symm.trans hb)
    have hop':∀ y∈o.op.operands,ev V (s.put (some d) (.bool b)) y=ev V (t.put (some d) (.bool b)) y:=by
     refine ev_loc (ops:=ops) fun d' hd'=>?_
     rw [es.tm,et.tm];exact hlk d' hd'
    have hH':AgreeH l (s.put (some d) (.bool b)) (t.put (some d) (.bool b)):=⟨fun id hid=>by rw [es.hp,et.hp];exact hH.lk id hid,fun id hid=>by rw [es.key,et.key];exact hH.key id hid,by rw [es.next,et.next];exact hH.next⟩
    rw [← hdl t hlk,hb]
    dsimp only
    rw [if_pos hw]
    exact⟨_,h3 _ l hop' hH' hl,(et.push D).put _ _⟩
   ·rw [if_neg hw] at h ⊢
    injection h with h
    refine⟨.tup .nil,[],by rw [← h];exact es.put _ _,fun q hq=>by simp at hq,fun t l hlk hH hl=>?_⟩
    have et:=keep_eqv (s:=t) ((hdl t hlk).symm.trans hb)
    rw [← hdl t hlk,hb]
    dsimp only
    rw [if_neg hw]
    exact⟨_,rfl,et.put _ _⟩
  ·rename_i hb
   rw [hb]
   dsimp only
   injection h with h
   refine⟨.tup .nil,[],by rw [← h];exact Eqv.refl _,fun q hq=>by simp at hq,fun t l hlk hH hl=>?_⟩
   rw [← hdl t hlk,hb]
   exact⟨_,rfl,Eqv.refl _⟩
structure Chg where
 dst:Option Nat
 v:AV
 D:List (Nat×Blk)
def Chg.on(c:Chg)(s:St):St:=(s.push c.D).put c.dst c.v
theorem Chg.eqv(c:Chg)(h:Eqv s t):Eqv (c.on s) (c.on t):=(h.push _).put _ _
def runX(C:Nat→Chg)(X:Nat→Bool)(s:St):Nat→St
 | 0=>s
 | n+1=>if X n then (C n).on (runX C X s n) else runX C X s n
theorem runX_const(C:Nat→Chg)(X:Nat→Bool)(s:St):∀ n,(runX C X s n).next=s.next∧(runX C X s n).nt=s.nt∧(runX C X s n).m=s.m
 | 0=>⟨rfl,rfl,rfl⟩
 | n+1=>by
  obtain⟨h1,h2,h3⟩:=runX_const C X s n
  simp only [runX]
  split
  ·unfold Chg.on
   obtain⟨_,a2,a3,a4⟩:=put_heap ((runX C X s n).push (C n).D) (C n).dst (C n).v
   exact⟨a2.trans h1,a3.trans h2,a4.trans h3⟩
  ·exact⟨h1,h2,h3⟩
theorem lkH_app_out{D:List (Nat×Blk)}{id:Nat}(h:∀ q∈D,q.1≠id):∀ H,lkH id (D++H)=lkH id H∧hasKey id (D++H)=hasKey id H:=by
 induction D with
 | nil=>intro H;exact⟨rfl,rfl⟩
 | cons q D ih=>
  intro H
  have:=ih (fun q hq=>h q (by simp [hq])) H
  simp only [List.cons_append]
  rw [lkH_put,hasKey_put,if_neg (Ne.symm (h q (by simp)))]
  exact⟨this.1,by simp [Ne.symm (h q (by simp)),this.2]⟩
theorem runX_lk(C:Nat→Chg)(X Y:Nat→Bool)(s:St)(d:Nat):∀ n,(∀ k,k < n→(C k).dst=some d→X k=Y k)→lk d (runX C X s n).tmps=lk d (runX C Y s n).tmps
 | 0,_=>rfl
 | n+1,h=>by
  have ih:=runX_lk C X Y s d n fun k hk=>h k (by omega)
  have hnt:(runX C X s n).nt=(runX C Y s n).nt:=(runX_const C X s n).2.1.trans (runX_const C Y s n).2.1.symm
  have on:∀ Z,lk d ((C n).on (runX C Z s n)).tmps=if (C n).dst=some d∧d < (runX C Z s n).nt then (C n).v else lk d (runX C Z s n).tmps:=fun Z=>by
   unfold Chg.on;rw [lk_St_put];rfl
  simp only [runX]
  by_cases e:(C n).dst=some d
  ·rw [h n (by omega) e]
   split
   ·rw [on,on,hnt,ih]
   ·exact ih
  ·have hX:∀ Z,lk d (if Z n then (C n).on (runX C Z s n) else runX C Z s n).tmps=lk d (runX C Z s n).tmps:=fun Z=>by
    split
    ·rw [on,if_neg (fun hh=>e hh.1)]
    ·rfl
   rw [hX,hX];exact ih
theorem runX_hp(C:Nat→Chg)(X Y:Nat→Bool)(s:St)(id:Nat):∀ n,(∀ k,k < n→(∃ q∈(C k).D,q.1=id)→X k=Y k)→lkH id (runX C X s n).heap=lkH id (runX C Y s n).heap∧hasKey id (runX C X s n).heap=hasKey id (runX C Y s n).heap
 | 0,_=>⟨rfl,rfl⟩
 | n+1,h=>by
  obtain⟨ih1,ih2⟩:=runX_hp C X Y s id n fun k hk=>h k (by omega)
  have on:∀ Z,((C n).on (runX C Z s n)).heap=(C n).D++(runX C Z s n).heap:=fun Z=>by
   unfold Chg.on;rw [(put_heap _ _ _).1];rfl
  simp only [runX]
  by_cases e:∃ q∈(C n).D,q.1=id
  ·rw [h n (by omega) e]
   split
   ·rw [on,on];exact⟨lkH_push _ id _ _ ih1,hasKey_push _ id _ _ ih2⟩
   ·exact⟨ih1,ih2⟩
  ·have hX:∀ Z,lkH id (if Z n then (C n).on (runX C Z s n) else runX C Z s n).heap=lkH id (runX C Z s n).heap∧hasKey id (if Z n then (C n).on (runX C Z s n) else runX C Z s n).heap=hasKey id (runX C Z s n).heap:=fun Z=>by
    split
    ·rw [on];exact lkH_app_out (fun q hq he=>e ⟨q,hq,he⟩) _
    ·exact⟨rfl,rfl⟩
   rw [(hX X).1,(hX X).2,(hX Y).1,(hX Y).2];exact⟨ih1,ih2⟩
theorem runX_congr(C:Nat→Chg)(X Y:Nat→Bool)(s:St):∀ n,(∀ k,k < n→X k=Y k)→runX C X s n=runX C Y s n
 | 0,_=>rfl
 | n+1,h=>by simp only [runX];rw [h n (by omega),runX_congr C X Y s n fun k hk=>h k (by omega)]
structure Chg.Apart (c d:Chg):Prop where
 dst:∀ x,c.dst=some x→d.dst≠some x
 D:∀ q∈c.D,∀ r∈d.D,q.1≠r.1
theorem Chg.comm{c d:Chg}(h:c.Apart d)(s:St):Eqv (c.on (d.on s)) (d.on (c.on s)):=by
 have hh:∀ (c:Chg) (s:St),(c.on s).heap=c.D++s.heap∧(c.on s).next=s.next∧(c.on s).nt=s.nt∧(c.on s).m=s.m:=fun c s=>put_heap (s.push c.D) c.dst c.v
 have ht:∀ (c:Chg) (s:St) (x:Nat),lk x (c.on s).tmps=if c.dst=some x∧x < s.nt then c.v else lk x s.tmps:=fun c s x=>by unfold Chg.on;rw [lk_St_put];rfl
 refine⟨fun x=>?_,fun id=>?_,fun id=>?_,?_,?_,?_⟩
 ·rw [ht,ht,ht,ht,(hh d s).2.2.1,(hh c s).2.2.1]
  by_cases h1:c.dst=some x∧x < s.nt
  ·rw [if_pos h1,if_neg (fun h2=>h.dst x h1.1 h2.1),if_pos h1]
  ·rw [if_neg h1,if_neg h1]
 ·rw [(hh c _).1,(hh d _).1,(hh d _).1,(hh c _).1]
  by_cases h1:∃ q∈c.D,q.1=id
  ·obtain⟨q,hq,rfl⟩:=h1
   have o1:=fun H=>(lkH_app_out (D:=d.D) (id:=q.1) (fun r hr e=>h.D q hq r hr e.symm) H).1
   rw [o1];exact lkH_push _ _ _ _ (o1 _)
  ·have o1:=fun H=>(lkH_app_out (D:=c.D) (id:=id) (fun q hq e=>h1 ⟨q,hq,e⟩) H).1
   rw [o1];exact lkH_push _ _ _ _ (o1 _).symm
 ·rw [(hh c _).1,(hh d _).1,(hh d _).1,(hh c _).1]
  by_cases h1:∃ q∈c.D,q.1=id
  ·obtain⟨q,hq,rfl⟩:=h1
   have o1:=fun H=>(lkH_app_out (D:=d.D) (id:=q.1) (fun r hr e=>h.D q hq r hr e.symm) H).2
   rw [o1];exact hasKey_push _ _ _ _ (o1 _)
  ·have o1:=fun H=>(lkH_app_out (D:=c.D) (id:=id) (fun q hq e=>h1 ⟨q,hq,e⟩) H).2
   rw [o1];exact hasKey_push _ _ _ _ (o1 _).symm
 ·rw [(hh c _).2.1,(hh d _).2.1,(hh d _).2.1,(hh c _).2.1]
 ·rw [(hh c _).2.2.1,(hh d _).2.2.1,(hh d _).2.2.1,(hh c _).2.2.1]
 ·rw [(hh c _).2.2.2,(hh d _).2.2.2,(hh d _).2.2.2,(hh c _).2.2.2]
theorem runX_ins(C:Nat→Chg)(X:Nat→Bool)(s:St)(i:Nat)(hi:X i=false):∀ n,i < n→(∀ k,i < k→k < n→X k=true→(C k).Apart (C i)) →
  Eqv (runX C (fun k=>X k || k==i) s n) ((C i).on (runX C X s n))
 | 0,h,_=>by omega
 | n+1,h,hap=>by
  simp only [runX]
  by_cases e:i=n
  ·subst e
   simp only [hi,beq_self_eq_true,Bool.or_true,if_true,Bool.false_eq_true,if_false]
   rw [runX_congr C (fun k=>X k || k==i) X s i fun k hk=>by simp [show k≠i by omega]]
   exact Eqv.refl _
  ·have ih:=runX_ins C X s i hi n (by omega) fun k h1 h2 h3=>hap k h1 (by omega) h3
   have e2:(n==i)=false:=by simpa using Ne.symm e
   by_cases hX:X n=true
   ·have e3:(X n || n==i)=true:=by simp [hX]
    rw [if_pos e3,if_pos hX]
    exact((C n).eqv ih).trans (Chg.comm (hap n (by omega) (by omega) hX) _)
   ·have e3:¬ (X n || n==i)=true:=by simp [hX,e2]
    rw [if_neg e3,if_neg hX];exact ih
theorem masks_snoc(l:List Oper)(o:Oper):masks (l++[o])=masks l++[maskOf (masks l) o]:=by
 unfold masks;rw [List.foldl_append];rfl
theorem masks_app(l':List Oper):∀ (ms:List Nat),∃ m,l'.foldl maskStep ms=ms++m∧m.length=l'.length:=by
 induction l' with
 | nil=>intro ms;exact⟨[],by simp⟩
 | cons o l' ih=>
  intro ms
  rw [List.foldl_cons]
  obtain⟨m,h1,h2⟩:=ih (maskStep ms o)
  exact⟨maskOf ms o :: m,by rw [h1];unfold maskStep;rw [List.append_assoc];rfl,by simp [h2]⟩
theorem masks_len(l:List Oper):(masks l).length=l.length:=by
 obtain⟨m,h1,h2⟩:=masks_app l []
 unfold masks;rw [h1];simpa using h2
theorem masks_pre(l l':List Oper):∃ m,masks (l++l')=masks l++m:=by
 obtain⟨m,h1,_⟩:=masks_app l' (masks l)
 exact⟨m,by rw [← h1];unfold masks;rw [List.foldl_append]⟩
theorem masks_bit{l:List Oper}{i k:Nat}{o:Oper}(ho:l[i]?=some o)(hb:((masks l).getD i 0).testBit k=true)(hback:∀ e∈o.after.toList,Region.binds .any e=true→e.on < i):
  ∃ e∈o.after.toList,Region.binds .any e=true∧(k=e.on∨((masks l).getD e.on 0).testBit k=true):=by
 have hlt:=(List.getElem?_eq_some_iff.1 ho).1
 have hsplit:l=l.take i++(o :: l.drop (i+1)):=by
  rw [show o=l[i] from((List.getElem?_eq_some_iff.1 ho).2).symm,List.getElem_cons_drop,List.take_append_drop]
 obtain⟨m,hm⟩:=masks_pre (l.take i++[o]) (l.drop (i+1))
 rw [List.append_assoc,List.singleton_append,← hsplit,masks_snoc] at hm
 have hlen:(masks (l.take i)).length=i:=by rw [masks_len];simp;omega
 have hlow:∀ j,j < i→(masks l).getD j 0=(masks (l.take i)).getD j 0:=fun j hj=>by
  rw [hm,List.append_assoc,List.getD_eq_getElem?_getD,List.getElem?_append_left (by omega),← List.getD_eq_getElem?_getD]
 have hi:(masks l).getD i 0=maskOf (masks (l.take i)) o:=by
  rw [hm,List.append_assoc,List.getD_eq_getElem?_getD,List.getElem?_append_right (by omega),hlen]
  simp
 rw [hi] at hb
 have key:∀ (es:List Edge) (m0:Nat),(es.foldl (maskE (masks (l.take i))) m0).testBit k=true→m0.testBit k=true ∨ ∃ e∈es,Region.binds .any e=true∧(k=e.on∨((masks (l.take i)).getD e.on 0).testBit k=true):=by
  intro es
  induction es with
  | nil=>intro m0 h;exact .inl h
  | cons e es ih=>
   intro m0 h
   rw [List.foldl_cons] at h
   rcases ih _ h with h | ⟨e',h1,h2,h3⟩
   ·cases hbd:Region.binds .any e with
    | false=>simp only [maskE,hbd] at h;exact .inl h
    | true=>
     simp only [maskE,hbd] at h
     simp only [Nat.testBit_or,Bool.or_eq_true,Nat.testBit_two_pow] at h
     rcases h with h | h | h
     ·exact .inl h
     ·exact .inr ⟨e,by simp,hbd,.inl (by have:=of_decide_eq_true h;omega)⟩
     ·exact .inr ⟨e,by simp,hbd,.inr h⟩
   ·exact .inr ⟨e',by simp [h1],h2,h3⟩
 rcases key _ _ hb with h | ⟨e,h1,h2,h3⟩
 ·simp at h
 ·exact⟨e,h1,h2,h3.imp id fun h=>by rw [hlow _ (hback e h1 h2)];exact h⟩
theorem disj_ok{a b:List Nat}(h:disj a b=true):∀ n∈a,n∉b:=fun n hn hb=>by
 have:=List.all_eq_true.1 h n hn
 rw [mem_iff.2 hb] at this;simp at this
theorem drawOk_ok{gs:List (List Nat×List Nat)}(h:drawOk ops gs=true){i:Nat}{o:Oper}{f:List Nat×List Nat}(ho:ops[i]?=some o)(hf:gs[i]?=some f):
  (∀ e∈o.after.toList,Region.binds .any e=true→e.on < i) ∧ ∀ k,k < i→((masks ops.toList).getD i 0).testBit k=true ∨ ∃ o' f',ops[k]?=some o'∧gs[k]?=some f'∧o'.apart ops o=true∧(∀ n∈f'.2,n∉f.1++f.2) ∧ ∀ n∈f.2,n∉f'.1++f'.2:=by
 have hlt:=(Array.getElem?_eq_some_iff.1 ho).1
 have h1:=List.all_eq_true.1 h i (by simpa using hlt)
 rw [ho,hf] at h1
 dsimp only at h1
 rw [Bool.and_eq_true] at h1
 refine⟨fun e he hb=>?_,fun k hk=>?_⟩
 ·have:=List.all_eq_true.1 h1.1 e he
  rw [hb] at this
  simpa [Nat.blt_eq] using this
 ·have:=List.all_eq_true.1 h1.2 k (by simpa using hk)
  rw [Bool.or_eq_true] at this
  rcases this with h | h
  ·exact .inl h
  ·split at h <;> try contradiction
   rename_i o' f' e1 e2
   simp only [Bool.and_eq_true] at h
   exact .inr ⟨o',f',e1,e2,h.1,disj_ok h.2.1,disj_ok h.2.2⟩
theorem countP_lt{p q:Nat→Bool}{i:Nat}:∀ {l:List Nat},i∈l→p i=true→q i=false→(∀ k,q k=true→p k=true)→l.countP q < l.countP p
 | [],h,_,_,_=>by simp at h
 | k :: l,h,hp,hq,hs=>by
  have mono:l.countP q≤l.countP p:=List.countP_mono_left fun x _ hx=>hs x hx
  rw [List.countP_cons,List.countP_cons]
  rcases List.mem_cons.1 h with rfl | h
  ·rw [if_pos hp,if_neg (by simp [hq])];omega
  ·have:=countP_lt h hp hq hs
   by_cases hk:q k=true
   ·rw [if_pos hk,if_pos (hs k hk)];omega
   ·rw [if_neg hk];split <;> omega
theorem runX_cut(C:Nat→Chg)(s:St)(i:Nat):∀ n,i≤n→runX C (fun k=>decide (k < i)) s n=runX C (fun _=>true) s i
 | 0,h=>by
  have:i=0:=by omega
  subst this;rfl
 | n+1,h=>by
  by_cases e:i=n+1
  ·subst e;exact runX_congr C _ _ s _ fun k hk=>by simp [hk]
  ·simp only [runX]
   have e2:¬ decide (n < i)=true:=by simp;omega
   rw [if_neg e2]
   exact runX_cut C s i n (by omega)
theorem aopsD_ok(h:TysOk P V.T)(hE:EOk P V)(Q:Exit→Act→World→Prop)(hQ:∀ s' a' w' ρ',Sim U V.G w0 W0 ρ' s' a' w'→K s'=some x→Q .normal a' w')
  (hs:Sim U V.G w0 W0 ρ s a w) (ha:aopsD V ops K 0 ops.toList s []=some x):wpAny P .any ops Q ops.size (Array.replicate ops.size false) a w:=by
 obtain⟨ss,gs,g1,g2,g3,g4⟩:=aopsD_path ops.toList 0 s [] (by simp) ha
 simp only [Nat.sub_zero,List.reverse_nil,List.nil_append,Nat.zero_max] at g2 g3 g4
 have hC:∀ j,∃ c:Chg,∀ o,ops[j]?=some o→c.dst=o.dst∧Eqv (ss (j+1)) (c.on (ss j))∧(∀ q∈c.D,q.1∈(footD V ops j o (ss j)).2) ∧
   ∀ (t:St) (l:List Nat),(∀ d∈o.looksAt ops,lk d (ss j).tmps=lk d t.tmps)→AgreeH l (ss j) t→(∀ id∈(footD V ops j o (ss j)).1++(footD V ops j o (ss j)).2,id∈l) → ∃ t1,astep V ops j o t=some t1∧Eqv t1 (c.on t):=by
  intro j
  cases ho:ops[j]? with
  | none=>exact⟨⟨none,.undef,[]⟩,fun o h=>by cases h⟩
  | some o=>
   obtain⟨v,D,h1,h2,h3⟩:=step_loc (g2 j o (Nat.zero_le _) ho).1
   exact⟨⟨o.dst,v,D⟩,fun o' h'=>by cases h';exact⟨rfl,h1,h2,h3⟩⟩
 let C:Nat→Chg:=fun j=>Classical.choose (hC j)
 have hc:∀ j o,ops[j]?=some o→(C j).dst=o.dst∧Eqv (ss (j+1)) ((C j).on (ss j))∧(∀ q∈(C j).D,q.1∈(footD V ops j o (ss j)).2) ∧
   ∀ (t:St) (l:List Nat),(∀ d∈o.looksAt ops,lk d (ss j).tmps=lk d t.tmps)→AgreeH l (ss j) t→(∀ id∈(footD V ops j o (ss j)).1++(footD V ops j o (ss j)).2,id∈l) → ∃ t1,astep V ops j o t=some t1∧Eqv t1 ((C j).on t):=fun j=>Classical.choose_spec (hC j)
 generalize C=C at hc
 have some_of:∀ j,j < ops.size → ∃ o,ops[j]?=some o:=fun j hj=>⟨ops[j],Array.getElem?_eq_getElem hj⟩
 have hrun:∀ j,j≤ops.size→Eqv (ss j) (runX C (fun _=>true) s j):=by
  intro j
  induction j with
  | zero=>intro _;rw [g1];exact Eqv.refl _
  | succ j ih=>
   intro hj
   obtain⟨o,ho⟩:=some_of j (by omega)
   simp only [runX,if_true]
   exact((hc j o ho).2.1).trans ((C j).eqv (ih (by omega)))
 have hord:∀ i o,ops[i]?=some o→(∀ e∈o.after.toList,Region.binds .any e=true→e.on < i) ∧ ∀ k,k < i→((masks ops.toList).getD i 0).testBit k=true ∨ ∃ o',ops[k]?=some o'∧o'.apart ops o=true ∧
   (∀ n∈(footD V ops k o' (ss k)).2,n∉(footD V ops i o (ss i)).1++(footD V ops i o (ss i)).2) ∧ ∀ n∈(footD V ops i o (ss i)).2,n∉(footD V ops k o' (ss k)).1++(footD V ops k o' (ss k)).2:=by
  intro i o ho
  obtain⟨e1,e2⟩:=drawOk_ok g3 ho (g2 i o (Nat.zero_le _) ho).2
  refine⟨e1,fun k hk=>(e2 k hk).imp id ?_⟩
  rintro⟨o',f',h1,h2,h3,h4,h5⟩
  have:=(g2 k o' (Nat.zero_le _) h1).2
  rw [h2] at this
  injection this with this
  subst this
  exact⟨o',h1,h3,h4,h5⟩
 have hready:∀ (listed:Array Bool) (i:Nat),listed.size=ops.size→(i∈Region.ready .any ops listed ↔ ∃ o,ops[i]?=some o∧listed.getD i false=false ∧ ∀ e∈o.after.toList,Region.binds .any e=true→listed.getD e.on false=true):=by
  intro listed i hsz
  unfold Region.ready
  rw [List.mem_filter,List.mem_range]
  have hd:i < ops.size→listed.getD i true=listed.getD i false:=fun hi=>by
   simp [Array.getD_eq_getD_getElem?,Array.getElem?_eq_getElem (show i < listed.size by omega)]
  constructor
  ·rintro⟨hi,hh⟩
   obtain⟨o,ho⟩:=some_of i hi
   rw [ho] at hh
   simp only [Bool.and_eq_true,Option.map_some,Option.getD_some,Bool.not_eq_true',hd hi] at hh
   refine⟨o,ho,hh.1,fun e he hb=>?_⟩
   have:=hh.2
   rw [Array.all_eq_true'] at this
   have:=this e (by simpa using he)
   rw [hb] at this
   simpa using this
  ·rintro⟨o,ho,h1,h2⟩
   have hi:=(Array.getElem?_eq_some_iff.1 ho).1
   refine⟨hi,?_⟩
   rw [ho]
   simp only [Bool.and_eq_true,Option.map_some,Option.getD_some,Bool.not_eq_true',hd hi]
   refine⟨h1,?_⟩
   rw [Array.all_eq_true']
   intro e he
   cases hb:Region.binds .any e with
   | false=>rfl
   | true=>simpa using h2 e (by simpa using he) hb
 have hmask:∀ (listed:Array Bool),(∀ i o,ops[i]?=some o→listed.getD i false=true → ∀ e∈o.after.toList,Region.binds .any e=true→listed.getD e.on false=true) →
   ∀ n i o,i≤n→ops[i]?=some o→(∀ e∈o.after.toList,Region.binds .any e=true→listed.getD e.on false=true) → ∀ k,((masks ops.toList).getD i 0).testBit k=true→listed.getD k false=true:=by
  intro listed hdown n
  induction n with
  | zero=>
   intro i o hi ho hl k hk
   obtain⟨e,h1,h2,_⟩:=masks_bit (l:=ops.toList) (by simpa using ho) hk (hord i o ho).1
   have:=(hord i o ho).1 e h1 h2
   omega
  | succ n ih=>
   intro i o hi ho hl k hk
   obtain⟨e,h1,h2,h3⟩:=masks_bit (l:=ops.toList) (by simpa using ho) hk (hord i o ho).1
   have hlt:=(hord i o ho).1 e h1 h2
   rcases h3 with h3 | h3
   ·rw [h3];exact hl e h1 h2
   ·obtain⟨o',ho'⟩:=some_of e.on (by have:=(Array.getElem?_eq_some_iff.1 ho).1;omega)
    exact ih e.on o' (by omega) ho' (hdown e.on o' ho' (hl e h1 h2)) k h3
 have hend:∀ (listed:Array Bool) (a:Act) (w:World) (ρ:Rho) (T:St),listed.size=ops.size→Eqv T (runX C (fun k=>listed.getD k false) s ops.size)→Sim U V.G w0 W0 ρ T a w→Region.ready .any ops listed=[]→Q .normal a w:=by
  intro listed a w ρ T hsz hT hsim hr
  have hall:∀ n i,i≤n→i < ops.size→listed.getD i false=true:=by
   intro n
   induction n with
   | zero=>
    intro i hi hlt
    obtain⟨o,ho⟩:=some_of i hlt
    cases hl:listed.getD i false with
    | true=>rfl
    | false=>
     have:i∈Region.ready .any ops listed:=(hready listed i hsz).2 ⟨o,ho,hl,fun e he hb=>by have:=(hord i o ho).1 e he hb;omega⟩
     rw [hr] at this;simp at this
   | succ n ih=>
    intro i hi hlt
    obtain⟨o,ho⟩:=some_of i hlt
    cases hl:listed.getD i false with
    | true=>rfl
    | false=>
     have:i∈Region.ready .any ops listed:=(hready listed i hsz).2 ⟨o,ho,hl,fun e he hb=>by
      have:=(hord i o ho).1 e he hb
      exact ih e.on (by omega) (by omega)⟩
     rw [hr] at this;simp at this
  have e1:runX C (fun k=>listed.getD k false) s ops.size=runX C (fun _=>true) s ops.size:=runX_congr C _ _ s _ fun k hk=>hall k k (Nat.le_refl _) hk
  rw [e1] at hT
  have hfin:=hsim.eqv (hT.trans (hrun ops.size (Nat.le_refl _)).symm)
  exact hQ _ a w ρ (hfin.next _) g4
 have main:∀ (fuel:Nat) (listed:Array Bool) (a:Act) (w:World) (ρ:Rho) (T:St),listed.size=ops.size→(List.range ops.size).countP (fun k=>!listed.getD k false)≤fuel →
   (∀ i o,ops[i]?=some o→listed.getD i false=true → ∀ e∈o.after.toList,Region.binds .any e=true→listed.getD e.on false=true) →
   Eqv T (runX C (fun k=>listed.getD k false) s ops.size)→Sim U V.G w0 W0 ρ T a w→wpAny P .any ops Q fuel listed a w:=by
  intro fuel
  induction fuel with
  | zero=>
   intro listed a w ρ T hsz hcnt hdown hT hsim
   have hr:Region.ready .any ops listed=[]:=by
    refine List.eq_nil_iff_forall_not_mem.2 fun i hi=>?_
    obtain⟨o,ho,h1,_⟩:=(hready listed i hsz).1 hi
    have h0:(List.range ops.size).countP (fun k=>!listed.getD k false)=0:=by omega
    have:=List.countP_eq_zero.1 h0 i (by simpa using (Array.getElem?_eq_some_iff.1 ho).1)
    rw [h1] at this;simp at this
   exact⟨hr,hend listed a w ρ T hsz hT hsim hr⟩
  | succ fuel ih=>
   intro listed a w ρ T hsz hcnt hdown hT hsim
   refine⟨fun hr=>hend listed a w ρ T hsz hT hsim hr,fun i hi=>?_⟩
   obtain⟨o,ho,h1,h2⟩:=(hready listed i hsz).1 hi
   have hlt:=(Array.getElem?_eq_some_iff.1 ho).1
   obtain⟨c1,c2,c3,c4⟩:=hc i o ho
   have later:∀ k o',i < k→ops[k]?=some o'→listed.getD k false=true→o.apart ops o'=true∧(∀ n∈(footD V ops i o (ss i)).2,n∉(footD V ops k o' (ss k)).1++(footD V ops k o' (ss k)).2) ∧ ∀ n∈(footD V ops k o' (ss k)).2,n∉(footD V ops i o (ss i)).1++(footD V ops i o (ss i)).2:=by
    intro k o' hik hk hl
    rcases(hord k o' hk).2 i hik with hb | ⟨o2,q1,q2,q3,q4⟩
    ·have:=hmask listed hdown k k o' (Nat.le_refl _) hk (hdown k o' hk hl) i hb
     rw [h1] at this;cases this
    ·rw [ho] at q1;cases q1;exact⟨q2,q3,q4⟩
   have earlier:∀ k o',k < i→ops[k]?=some o'→listed.getD k false=true∨(o'.apart ops o=true∧(∀ n∈(footD V ops k o' (ss k)).2,n∉(footD V ops i o (ss i)).1++(footD V ops i o (ss i)).2)):=by
    intro k o' hki hk
    rcases(hord i o ho).2 k hki with hb | ⟨o2,q1,q2,q3,q4⟩
    ·exact .inl (hmask listed hdown i i o (Nat.le_refl _) ho h2 k hb)
    ·rw [hk] at q1;cases q1;exact .inr ⟨q2,q3⟩
   have hsi:=(hrun i (by omega)).trans (by rw [← runX_cut C s i ops.size (by omega)];exact Eqv.refl _)
   have hslots:∀ d∈o.looksAt ops,lk d (ss i).tmps=lk d T.tmps:=by
    intro d hd
    rw [hsi.tm,hT.tm]
    refine runX_lk C _ _ s d _ fun k hk hdst=>?_
    obtain⟨o',ho'⟩:=some_of k hk
    rw [(hc k o' ho').1] at hdst
    rcases Nat.lt_trichotomy k i with hki | hki | hki
    ·rw [show decide (k < i)=true by simp [hki]]
     rcases earlier k o' hki ho' with h | ⟨h,_⟩
     ·exact h.symm
     ·exact absurd hd ((Oper.apart_spec h).1 d hdst)
    ·subst hki;rw [h1];simp
    ·rw [show decide (k < i)=false by simp;omega]
     cases hl:listed.getD k false with
     | false=>rfl
     | true=>exact absurd hd ((Oper.apart_spec (later k o' hki ho' hl).1).2.2 d hdst)
   have hheap:∀ id∈(footD V ops i o (ss i)).1++(footD V ops i o (ss i)).2,lkH id (ss i).heap=lkH id T.heap∧hasKey id (ss i).heap=hasKey id T.heap:=by
    intro id hid
    rw [hsi.hp,hT.hp,hsi.key,hT.key]
    refine runX_hp C _ _ s id _ fun k hk hq=>?_
    obtain⟨q,hq,rfl⟩:=hq
    obtain⟨o',ho'⟩:=some_of k hk
    have hw:=(hc k o' ho').2.2.1 q hq
    rcases Nat.lt_trichotomy k i with hki | hki | hki
    ·rw [show decide (k < i)=true by simp [hki]]
     rcases earlier k o' hki ho' with h | ⟨_,h⟩
     ·exact h.symm
     ·exact absurd hid (h _ hw)
    ·subst hki;rw [h1];simp
    ·rw [show decide (k < i)=false by simp;omega]
     cases hl:listed.getD k false with
     | false=>rfl
     | true=>exact absurd hid ((later k o' hki ho' hl).2.2 _ hw)
   obtain⟨T1,t1,t2⟩:=c4 T _ hslots ⟨fun id hid=>(hheap id hid).1,fun id hid=>(hheap id hid).2,by rw [hsi.next,hT.next,(runX_const C _ s _).1,(runX_const C _ s _).1]⟩ (fun _ h=>h)
   refine astep_ok h hE hsim ho t1 _ _ fun a' w' ρ' hs'=>?_
   have hX:∀ k,(listed.setIfInBounds i true).getD k false=(listed.getD k false || k==i):=fun k=>by
    simp only [Array.getD_eq_getD_getElem?,Array.getElem?_setIfInBounds]
    by_cases e:i=k
    ·subst e;simp [show i < listed.size by omega]
    ·simp [e,Ne.symm e]
   refine ih _ a' w' ρ' T1 (by simp [hsz]) ?_ ?_ ?_ hs'
   ·have:=countP_lt (p:=fun k=>!listed.getD k false) (q:=fun k=>!(listed.setIfInBounds i true).getD k false) (i:=i) (l:=List.range ops.size) (by simpa using hlt) (by simp [h1]) (by rw [hX];simp) (fun k hk=>by
     rw [hX] at hk;simp at hk;simp [hk.1])
    omega
   ·intro k o' hk hl e he hb
    rw [hX] at hl ⊢
    rw [Bool.or_eq_true] at hl ⊢
    rcases hl with hl | hl
    ·exact .inl (hdown k o' hk hl e he hb)
    ·have:k=i:=by simpa using hl
     subst this
     rw [ho] at hk;cases hk
     exact .inl (h2 e he hb)
   ·have e1:runX C (fun k=>(listed.setIfInBounds i true).getD k false) s ops.size=runX C (fun k=>listed.getD k false || k==i) s ops.size:=runX_congr C _ _ s _ fun k _=>hX k
    rw [e1]
    refine(t2.trans ((C i).eqv hT)).trans (runX_ins C (fun k=>listed.getD k false) s i h1 ops.size hlt fun k k1 k2 k3=>?_).symm
    obtain⟨o',ho'⟩:=some_of k k2
    obtain⟨l1,l2,l3⟩:=later k o' k1 ho' k3
    have hk':=hc k o' ho'
    refine⟨fun y hy hy'=>?_,fun q hq r hr e=>?_⟩
    ·rw [hk'.1] at hy;rw [c1] at hy'
     exact(Oper.apart_spec l1).2.1 y hy' hy
    ·exact l3 _ (hk'.2.2.1 q hq) (List.mem_append.2 (.inr (e▸c3 r hr)))
 refine main ops.size _ a w ρ s (by simp) ?_ ?_ ?_ hs
 ·exact Nat.le_trans List.countP_le_length (by simp)
 ·intro i o ho hl
  simp only [Array.getD_eq_getD_getElem?,Array.getElem?_replicate] at hl
  split at hl <;> simp at hl
 ·have:∀ k,(Array.replicate ops.size false).getD k false=false:=fun k=>by
   simp only [Array.getD_eq_getD_getElem?,Array.getElem?_replicate];split <;> rfl
  have e:runX C (fun k=>(Array.replicate ops.size false).getD k false) s ops.size=runX C (fun k=>decide (k < 0)) s ops.size:=runX_congr C _ _ s _ fun k _=>by rw [this];simp
  rw [e,runX_cut C s 0 _ (Nat.zero_le _)]
  exact Eqv.refl _
end Go.Am
end