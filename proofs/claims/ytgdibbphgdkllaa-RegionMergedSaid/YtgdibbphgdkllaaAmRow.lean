/- Part of a proof. -/
import Derived.Test.YtgdibbphgdkllaaAmCore
set_option linter.unusedVariables false
set_option linter.unusedSimpArgs false
namespace Go.Am
open Go
mutual
def AV.wf:AV→Prop
 | .rI _ _=>True
 | .rB _=>True
 | .rS _=>True
 | .rL _ _=>True
 | .rT _ _=>True
 | .one v=>v.scal=true
 | .segs s=>s.wfS
 | _=>False
def AVs.wfS:AVs→Prop
 | .nil=>True
 | .cons n v t=>v.wf∧v.size=n∧t.wfS
end
theorem blt_true{j n:Nat}(h:j < n):Nat.blt j n=true:=by rw [Nat.blt_eq];exact h
theorem blt_false{j n:Nat}(h:n≤j):Nat.blt j n=false:=by
 rw [Bool.eq_false_iff];intro h';rw [Nat.blt_eq] at h';omega
theorem ble_true{j n:Nat}(h:j≤n):Nat.ble j n=true:=by rw [Nat.ble_eq];exact h
theorem ble_false{j n:Nat}(h:n < j):Nat.ble j n=false:=by
 rw [Bool.eq_false_iff];intro h';rw [Nat.ble_eq] at h';omega
theorem cellS_lt{n j:Nat}{v:AV}{t:AVs}(h:j < n):(AVs.cons n v t).cellS j=v.cell j:=by
 simp [AVs.cellS,blt_true h]
theorem cellS_ge{n j:Nat}{v:AV}{t:AVs}(h:n≤j):(AVs.cons n v t).cellS j=t.cellS (j-n):=by
 simp [AVs.cellS,blt_false h]
theorem ix_add(i m c b:Nat):ix i m (c+b)=b+ix i m c:=by
 unfold ix;split <;> omega
theorem ix_rec{i m c:Nat}(h:c < m):ix i m c=i*m+c:=by
 unfold ix;split
 ·omega
 ·omega
 ·rfl
theorem rec_mod{i m c:Nat}(h:c < m):(i*m+c)%m=c∧(i*m+c) / m=i:=by
 refine⟨by rw [Nat.mul_comm,Nat.mul_add_mod,Nat.mod_eq_of_lt h],?_⟩
 rw [Nat.mul_comm,Nat.mul_add_div (by omega),Nat.div_eq_of_lt h,Nat.add_zero]
theorem cell_rT{ks:List CK}{xs:List (List (List Int))}{i c:Nat}(h:c < ks.length):(AV.rT ks xs).cell (i*ks.length+c)=tval (ks.getD c .bool) ((xs.getD i []).getD c []):=by
 simp only [AV.cell]
 rw [(rec_mod h).1,(rec_mod h).2]
theorem tval_tenc{k:CK}{x:AV}{f:List Int}(h:tenc k x=some f):tval k f=x:=by
 unfold tenc at h
 split at h
 ·split at h <;> try contradiction
  rename_i hk;rw [decide_eq_true_eq] at hk;subst hk
  injection h with h;subst h;rfl
 ·rename_i b
  injection h with h;subst h;cases b <;> rfl
 ·injection h with h;subst h;rfl
 ·split at h <;> try contradiction
  rename_i hk;rw [decide_eq_true_eq] at hk;subst hk
  injection h with h;subst h;rfl
 ·contradiction
theorem tput_at:∀ (r:List (List Int)) (c q:Nat) (f:List Int),(tput r c f).getD q []=if q=c then f else r.getD q []
 | [],0,0,f=>rfl
 | [],0,q+1,f=>by simp [tput]
 | [],c+1,0,f=>by simp [tput]
 | [],c+1,q+1,f=>by
  have:=tput_at [] c q f
  simp only [tput,List.getD_cons_succ,this,Nat.add_right_cancel_iff]
  simp
 | x :: r,0,0,f=>rfl
 | x :: r,0,q+1,f=>by simp [tput]
 | x :: r,c+1,0,f=>by simp [tput]
 | x :: r,c+1,q+1,f=>by
  have:=tput_at r c q f
  simp only [tput,List.getD_cons_succ,this,Nat.add_right_cancel_iff]
theorem tsegs_size:∀ (ks:List CK) (r:List (List Int)) (c:Nat),(tsegs ks r c).sizeS=ks.length
 | [],_,_=>rfl
 | k :: ks,r,c=>by simp only [tsegs,AVs.sizeS,AV.size,tsegs_size ks r (c+1),List.length_cons];omega
theorem tval_scal(k:CK)(f:List Int):(tval k f).scal=true:=by cases k <;> rfl
theorem tsegs_wf:∀ (ks:List CK) (r:List (List Int)) (c:Nat),(tsegs ks r c).wfS
 | [],_,_=>trivial
 | k :: ks,r,c=>⟨tval_scal _ _,rfl,tsegs_wf ks r (c+1)⟩
theorem tsegs_cell:∀ (ks:List CK) (r:List (List Int)) (c q:Nat),q < ks.length→(tsegs ks r c).cellS q=tval (ks.getD q .bool) (r.getD (c+q) [])
 | [],_,_,q,h=>by simp at h
 | k :: ks,r,c,0,_=>by simp only [tsegs];rw [cellS_lt (by omega)];simp [AV.cell]
 | k :: ks,r,c,q+1,h=>by
  simp only [tsegs]
  rw [cellS_ge (by omega),Nat.add_sub_cancel,tsegs_cell ks r (c+1) q (by simpa using h),List.getD_cons_succ,show c+1+q=c+(q+1) by omega]
theorem tencs_cell:∀ (ks:List CK) (s:AVs) (l:List (List Int)),tencs ks s=some l → ∀ q,q < ks.length→tval (ks.getD q .bool) (l.getD q [])=s.cellS q
 | [],_,_,_,q,h=>by simp at h
 | k :: ks,.nil,l,h,q,_=>by simp [tencs] at h
 | k :: ks,.cons n v t,l,h,q,hq=>by
  unfold tencs at h
  split at h
  ·rename_i h1;simp at h1
  ·rename_i k' ks' v' t' h1 h2
   injection h1 with e1 e2;subst e1;subst e2
   injection h2 with e3 e4 e5;subst e3;subst e4;subst e5
   split at h <;> try contradiction
   rename_i f l' hf hl
   injection h with h;subst h
   cases q with
   | zero=>rw [cellS_lt (by omega)];simpa [AV.cell] using tval_tenc hf
   | succ q=>rw [cellS_ge (by omega),Nat.add_sub_cancel,List.getD_cons_succ,List.getD_cons_succ];exact tencs_cell _ _ _ hl q (by simpa using hq)
  ·contradiction
mutual
theorem rget_spec:∀ (r:AV) (b l i m c:Nat),r.wf→ix i m c < l→b+l≤r.size →
  r.rget b l i m c=r.cell (b+ix i m c)∨r.rget b l i m c=.undef
 | .segs s,b,l,i,m,c,hw,hx,hb=>by
  simp only [AV.rget,AV.cell]
  exact rgetS_spec s b l i m c (by simpa [AV.wf] using hw) hx (by simpa [AV.size] using hb)
 | .rI _ _,b,l,i,m,c,_,_,_=>by simp only [AV.rget,ix_add];exact .inl trivial
 | .rB _,b,l,i,m,c,_,_,_=>by simp only [AV.rget,ix_add];exact .inl trivial
 | .rS _,b,l,i,m,c,_,_,_=>by simp only [AV.rget,ix_add];exact .inl trivial
 | .rL _ _,b,l,i,m,c,_,_,_=>by simp only [AV.rget,ix_add];exact .inl trivial
 | .rT ks xs,b,l,i,m,c,_,_,_=>by
  simp only [AV.rget]
  split
  ·rename_i h
   simp only [Bool.and_eq_true,Nat.beq_eq,Nat.blt_eq] at h
   obtain⟨rfl,rfl,h⟩:=h
   rw [ix_rec h,Nat.zero_add,cell_rT h]
   exact .inl rfl
  ·exact .inr rfl
 | .one _,b,l,i,m,c,_,_,_=>by simp only [AV.rget,ix_add];exact .inl trivial
 | .rM _ _ _ _,_,_,_,_,_,h,_,_=>h.elim
 | .lv _,_,_,_,_,_,h,_,_=>h.elim
 | .undef,_,_,_,_,_,h,_,_=>h.elim
 | .bool _,_,_,_,_,_,h,_,_=>h.elim
 | .int _ _,_,_,_,_,_,h,_,_=>h.elim
 | .str _,_,_,_,_,_,h,_,_=>h.elim
 | .agg _ _,_,_,_,_,_,h,_,_=>h.elim
 | .tup _,_,_,_,_,_,h,_,_=>h.elim
 | .nilp,_,_,_,_,_,h,_,_=>h.elim
 | .ptr _ _ _ _ _ _ _,_,_,_,_,_,h,_,_=>h.elim
 | .gp _ _ _ _ _ _,_,_,_,_,_,h,_,_=>h.elim
 | .ns,_,_,_,_,_,h,_,_=>h.elim
 | .own _ _ _,_,_,_,_,_,h,_,_=>h.elim
 | .sl _ _ _ _ _ _,_,_,_,_,_,h,_,_=>h.elim
 | .vs _ _ _,_,_,_,_,_,h,_,_=>h.elim
 | .mp _,_,_,_,_,_,h,_,_=>h.elim
 | .nilm,_,_,_,_,_,h,_,_=>h.elim
 | .fn _ _,_,_,_,_,_,h,_,_=>h.elim
 | .nilf,_,_,_,_,_,h,_,_=>h.elim
theorem rgetS_spec:∀ (s:AVs) (b l i m c:Nat),s.wfS→ix i m c < l→b+l≤s.sizeS →
  s.rgetS b l i m c=s.cellS (b+ix i m c)∨s.rgetS b l i m c=.undef
 | .nil,b,l,i,m,c,_,hx,hb=>by simp [AVs.sizeS] at hb;omega
 | .cons n v t,b,l,i,m,c,hw,hx,hb=>by
  obtain⟨hv,hn,ht⟩:=hw
  by_cases hlt:b < n
  ·by_cases hl:b+l≤n
   ·simp only [AVs.rgetS,blt_true hlt,ble_true hl]
    rw [cellS_lt (by omega)]
    exact rget_spec v b l i m c hv hx (by omega)
   ·simp only [AVs.rgetS,blt_true hlt,ble_false (by omega:n < b+l)]
    exact .inr trivial
  ·simp only [AVs.rgetS,blt_false (by omega:n≤b)]
   rw [cellS_ge (by omega),show b+ix i m c-n=(b-n)+ix i m c by omega]
   exact rgetS_spec t (b-n) l i m c ht hx (by simp [AVs.sizeS] at hb;omega)
end
theorem getD_set(xs:List Int)(j k:Nat)(x d:Int)(h:j < xs.length):(xs.set j x).getD k d=if k=j then x else xs.getD k d:=by
 simp only [List.getD_eq_getElem?_getD,List.getElem?_set]
 split <;> rename_i h1
 ·subst h1;simp [h]
 ·simp [Ne.symm h1]
theorem getD_setB(xs:List Bool)(j k:Nat)(x d:Bool)(h:j < xs.length):(xs.set j x).getD k d=if k=j then x else xs.getD k d:=by
 simp only [List.getD_eq_getElem?_getD,List.getElem?_set]
 split <;> rename_i h1
 ·subst h1;simp [h]
 ·simp [Ne.symm h1]
theorem getD_setL(xs:List (List Int))(j k:Nat)(x d:List Int)(h:j < xs.length):(xs.set j x).getD k d=if k=j then x else xs.getD k d:=by
 simp only [List.getD_eq_getElem?_getD,List.getElem?_set]
 split <;> rename_i h1
 ·subst h1;simp [h]
 ·simp [Ne.symm h1]
theorem getD_setT(xs:List (List (List Int)))(j k:Nat)(x d:List (List Int))(h:j < xs.length):(xs.set j x).getD k d=if k=j then x else xs.getD k d:=by
 simp only [List.getD_eq_getElem?_getD,List.getElem?_set]
 split <;> rename_i h1
 ·subst h1;simp [h]
 ·simp [Ne.symm h1]
structure Sets (r r':AV) (j:Nat) (x:AV):Prop where
 wf:r'.wf
 size:r'.size=r.size
 same:r'.cell j=x
 other:∀ k,k≠j→r'.cell k=r.cell k
theorem setc_spec{r r' x:AV}{j:Nat}(hw:r.wf)(hx:x.scal=true)(h:r.setc j x=some r')(hj:j < r.size):Sets r r' j x:=by
 unfold AV.setc at h
 split at h
 ·split at h <;> try contradiction
  rename_i hk;rw [decide_eq_true_eq] at hk;subst hk
  injection h with h;subst h
  simp only [AV.size] at hj
  exact⟨trivial,by simp [AV.size],by simp only [AV.cell,getD_set _ _ _ _ _ hj,if_true],fun k hk=>by simp only [AV.cell,getD_set _ _ _ _ _ hj,if_neg hk]⟩
 ·injection h with h;subst h
  simp only [AV.size] at hj
  exact⟨trivial,by simp [AV.size],by simp only [AV.cell,getD_setB _ _ _ _ _ hj,if_true],fun k hk=>by simp only [AV.cell,getD_setB _ _ _ _ _ hj,if_neg hk]⟩
 ·injection h with h;subst h
  simp only [AV.size] at hj
  exact⟨trivial,by simp [AV.size],by simp only [AV.cell,getD_setL _ _ _ _ _ hj,if_true],fun k hk=>by simp only [AV.cell,getD_setL _ _ _ _ _ hj,if_neg hk]⟩
 ·split at h <;> try contradiction
  rename_i hk;rw [decide_eq_true_eq] at hk;subst hk
  injection h with h;subst h
  simp only [AV.size] at hj
  exact⟨trivial,by simp [AV.size],by simp only [AV.cell,getD_setL _ _ _ _ _ hj,if_true],fun k hk=>by simp only [AV.cell,getD_setL _ _ _ _ _ hj,if_neg hk]⟩
 ·injection h with h;subst h
  exact⟨hx,rfl,rfl,fun k hk=>by cases k with | zero=>exact absurd rfl hk | succ k=>rfl⟩
 ·contradiction
theorem Sets.segs{n:Nat}{v v':AV}{t:AVs}{j:Nat}{x:AV}(hv:v.size=n)(ht:t.wfS)(hj:j < n)(h:Sets v v' j x):
  Sets (.segs (.cons n v t)) (.segs (.cons n v' t)) j x where
 wf:=⟨h.wf,h.size.trans hv,ht⟩
 size:=by simp [AV.size,AVs.sizeS,h.size]
 same:=by simp only [AV.cell];rw [cellS_lt hj];exact h.same
 other:=fun k hk=>by
  simp only [AV.cell]
  by_cases hlt:k < n
  ·rw [cellS_lt hlt,cellS_lt hlt];exact h.other k hk
  ·rw [cellS_ge (by omega),cellS_ge (by omega)]
theorem Sets.segs'{n:Nat}{v:AV}{t t':AVs}{j:Nat}{x:AV}(hv:v.wf)(hn:v.size=n)(hj:n≤j)(h:Sets (.segs t) (.segs t') (j-n) x):
  Sets (.segs (.cons n v t)) (.segs (.cons n v t')) j x where
 wf:=⟨hv,hn,h.wf⟩
 size:=by have:=h.size;simp only [AV.size] at this;simp [AV.size,AVs.sizeS,this]
 same:=by simp only [AV.cell];rw [cellS_ge hj];exact h.same
 other:=fun k hk=>by
  simp only [AV.cell]
  by_cases hlt:k < n
  ·rw [cellS_lt hlt,cellS_lt hlt]
  ·rw [cellS_ge (by omega),cellS_ge (by omega)];exact h.other (k-n) (by omega)
mutual
theorem rset_spec:∀ (r:AV) (b l i m c:Nat) (x r':AV),r.wf→x.scal=true→ix i m c < l→b+l≤r.size→r.rset b l i m c x=some r' →
  Sets r r' (b+ix i m c) x
 | .segs s,b,l,i,m,c,x,r',hw,hs,hx,hb,h=>by
  simp only [AV.rset,Option.map_eq_some_iff] at h
  obtain⟨s',h1,rfl⟩:=h
  exact rsetS_spec s b l i m c x s' (by simpa [AV.wf] using hw) hs hx (by simpa [AV.size] using hb) h1
 | .rI k xs,b,l,i,m,c,x,r',hw,hs,hx,hb,h=>by
  simp only [AV.rset,ix_add] at h;exact setc_spec hw hs h (by omega)
 | .rB xs,b,l,i,m,c,x,r',hw,hs,hx,hb,h=>by
  simp only [AV.rset,ix_add] at h;exact setc_spec hw hs h (by omega)
 | .rS xs,b,l,i,m,c,x,r',hw,hs,hx,hb,h=>by
  simp only [AV.rset,ix_add] at h;exact setc_spec hw hs h (by omega)
 | .rL k xs,b,l,i,m,c,x,r',hw,hs,hx,hb,h=>by
  simp only [AV.rset,ix_add] at h;exact setc_spec hw hs h (by omega)
 | .rT ks xs,b,l,i,m,c,x,r',hw,hs,hx,hb,h=>by
  simp only [AV.rset] at h
  split at h <;> try contradiction
  rename_i hc
  simp only [Bool.and_eq_true,Nat.beq_eq,Nat.blt_eq] at hc
  obtain⟨rfl,rfl,hc⟩:=hc
  simp only [Option.map_eq_some_iff] at h
  obtain⟨f,hf,rfl⟩:=h
  rw [Nat.zero_add,ix_rec hc]
  have hi:i < xs.length:=by
   rw [ix_rec hc] at hx
   simp only [AV.size] at hb
   exact Nat.lt_of_mul_lt_mul_right (a:=ks.length) (by omega)
  refine⟨trivial,by simp [AV.size],?_,fun k hk=>?_⟩
  ·rw [cell_rT hc,getD_setT _ _ _ _ _ hi,if_pos rfl,tput_at,if_pos rfl]
   exact tval_tenc hf
  ·simp only [AV.cell]
   rw [getD_setT _ _ _ _ _ hi]
   split
   ·rename_i hq
    rw [tput_at,if_neg,hq]
    intro hm
    refine hk ?_
    have:=Nat.div_add_mod k ks.length
    rw [hq,hm] at this
    rw [← this,Nat.mul_comm]
   ·rfl
 | .one v,b,l,i,m,c,x,r',hw,hs,hx,hb,h=>by
  simp only [AV.rset,ix_add] at h;exact setc_spec hw hs h (by omega)
 | .undef,_,_,_,_,_,_,_,h,_,_,_,_=>h.elim
 | .bool _,_,_,_,_,_,_,_,h,_,_,_,_=>h.elim
 | .int _ _,_,_,_,_,_,_,_,h,_,_,_,_=>h.elim
 | .str _,_,_,_,_,_,_,_,h,_,_,_,_=>h.elim
 | .agg _ _,_,_,_,_,_,_,_,h,_,_,_,_=>h.elim
 | .tup _,_,_,_,_,_,_,_,h,_,_,_,_=>h.elim
 | .nilp,_,_,_,_,_,_,_,h,_,_,_,_=>h.elim
 | .ptr _ _ _ _ _ _ _,_,_,_,_,_,_,_,h,_,_,_,_=>h.elim
 | .gp _ _ _ _ _ _,_,_,_,_,_,_,_,h,_,_,_,_=>h.elim
 | .ns,_,_,_,_,_,_,_,h,_,_,_,_=>h.elim
 | .own _ _ _,_,_,_,_,_,_,_,h,_,_,_,_=>h.elim
 | .sl _ _ _ _ _ _,_,_,_,_,_,_,_,h,_,_,_,_=>h.elim
 | .vs _ _ _,_,_,_,_,_,_,_,h,_,_,_,_=>h.elim
 | .mp _,_,_,_,_,_,_,_,h,_,_,_,_=>h.elim
 | .nilm,_,_,_,_,_,_,_,h,_,_,_,_=>h.elim
 | .fn _ _,_,_,_,_,_,_,_,h,_,_,_,_=>h.elim
 | .nilf,_,_,_,_,_,_,_,h,_,_,_,_=>h.elim
theorem rsetS_spec:∀ (s:AVs) (b l i m c:Nat) (x:AV) (s':AVs),s.wfS→x.scal=true→ix i m c < l→b+l≤s.sizeS→s.rsetS b l i m c x=some s' →
  Sets (.segs s) (.segs s') (b+ix i m c) x
 | .nil,b,l,i,m,c,x,s',_,_,hx,hb,_=>by simp [AVs.sizeS] at hb;omega
 | .cons n v t,b,l,i,m,c,x,s',hw,hs,hx,hb,h=>by
  obtain⟨hv,hn,ht⟩:=hw
  by_cases hlt:b < n
  ·by_cases hl:b+l≤n
   ·simp only [AVs.rsetS,blt_true hlt,ble_true hl,Option.map_eq_some_iff] at h
    obtain⟨v',h1,rfl⟩:=h
    exact(rset_spec v b l i m c x v' hv hs hx (by omega) h1).segs hn ht (by omega)
   ·simp only [AVs.rsetS,blt_true hlt,ble_false (by omega:n < b+l)] at h
    contradiction
  ·simp only [AVs.rsetS,blt_false (by omega:n≤b),Option.map_eq_some_iff] at h
   obtain⟨t',h1,rfl⟩:=h
   have:=rsetS_spec t (b-n) l i m c x t' ht hs hx (by simp [AVs.sizeS] at hb;omega) h1
   exact Sets.segs' hv hn (by omega) (by rwa [show b+ix i m c-n=(b-n)+ix i m c by omega])
end
structure Parts (r r':AV) (st n:Nat):Prop where
 wf:r'.wf
 size:r'.size=n
 cells:∀ k,k < n→r'.cell k=r.cell (st+k)
theorem getD_dropTake{α:Type}(xs:List α)(st n k:Nat)(d:α)(h:k < n):((xs.drop st).take n).getD k d=xs.getD (st+k) d:=by
 simp [List.getD_eq_getElem?_getD,List.getElem?_take,List.getElem?_drop,h]
theorem part_spec{r r':AV}{st n:Nat}(h:r.part st n=some r')(hn:st+n≤r.size):Parts r r' st n:=by
 cases r <;> simp only [AV.part,Option.some.injEq,reduceCtorEq] at h
 all_goals
  subst h;simp only [AV.size] at hn
  exact⟨trivial,by simp only [AV.size,List.length_take,List.length_drop];omega,fun k hk=>by simp only [AV.cell,getD_dropTake _ _ _ _ _ hk]⟩
theorem Parts.segs{n st k:Nat}{v r':AV}{t:AVs}(hn:st+k≤n)(h:Parts v r' st k):Parts (.segs (.cons n v t)) r' st k where
 wf:=h.wf
 size:=h.size
 cells:=fun j hj=>by rw [h.cells j hj];simp only [AV.cell];rw [cellS_lt (by omega)]
theorem Parts.segs'{n st k:Nat}{v r':AV}{t:AVs}(hn:n≤st)(h:Parts (.segs t) r' (st-n) k):Parts (.segs (.cons n v t)) r' st k where
 wf:=h.wf
 size:=h.size
 cells:=fun j hj=>by
  rw [h.cells j hj];simp only [AV.cell];rw [cellS_ge (by omega),show st+j-n=st-n+j by omega]
mutual
theorem vpart_spec:∀ (r:AV) (b l st n:Nat) (r':AV),r.wf→st+n≤l→b+l≤r.size→r.vpart b l st n=some r'→Parts r r' (b+st) n
 | .segs s,b,l,st,n,r',hw,hx,hb,h=>by
  simp only [AV.vpart] at h
  exact vpartS_spec s b l st n r' (by simpa [AV.wf] using hw) hx (by simpa [AV.size] using hb) h
 | .rI k xs,b,l,st,n,r',hw,hx,hb,h=>by simp only [AV.vpart,Nat.add_comm st] at h;exact part_spec h (by omega)
 | .rB xs,b,l,st,n,r',hw,hx,hb,h=>by simp only [AV.vpart,Nat.add_comm st] at h;exact part_spec h (by omega)
 | .rS xs,b,l,st,n,r',hw,hx,hb,h=>by simp only [AV.vpart,Nat.add_comm st] at h;exact part_spec h (by omega)
 | .rL k xs,b,l,st,n,r',hw,hx,hb,h=>by simp only [AV.vpart,Nat.add_comm st] at h;exact part_spec h (by omega)
 | .rT ks xs,b,l,st,n,r',hw,hx,hb,h=>by simp [AV.vpart,AV.part] at h
 | .one v,b,l,st,n,r',hw,hx,hb,h=>by simp only [AV.vpart,Nat.add_comm st] at h;exact part_spec h (by omega)
 | .undef,_,_,_,_,_,h,_,_,_=>h.elim
 | .bool _,_,_,_,_,_,h,_,_,_=>h.elim
 | .int _ _,_,_,_,_,_,h,_,_,_=>h.elim
 | .str _,_,_,_,_,_,h,_,_,_=>h.elim
 | .agg _ _,_,_,_,_,_,h,_,_,_=>h.elim
 | .tup _,_,_,_,_,_,h,_,_,_=>h.elim
 | .nilp,_,_,_,_,_,h,_,_,_=>h.elim
 | .ptr _ _ _ _ _ _ _,_,_,_,_,_,h,_,_,_=>h.elim
 | .gp _ _ _ _ _ _,_,_,_,_,_,h,_,_,_=>h.elim
 | .ns,_,_,_,_,_,h,_,_,_=>h.elim
 | .own _ _ _,_,_,_,_,_,h,_,_,_=>h.elim
 | .sl _ _ _ _ _ _,_,_,_,_,_,h,_,_,_=>h.elim
 | .vs _ _ _,_,_,_,_,_,h,_,_,_=>h.elim
 | .mp _,_,_,_,_,_,h,_,_,_=>h.elim
 | .nilm,_,_,_,_,_,h,_,_,_=>h.elim
 | .fn _ _,_,_,_,_,_,h,_,_,_=>h.elim
 | .nilf,_,_,_,_,_,h,_,_,_=>h.elim
theorem vpartS_spec:∀ (s:AVs) (b l st n:Nat) (r':AV),s.wfS→st+n≤l→b+l≤s.sizeS→s.vpartS b l st n=some r'→Parts (.segs s) r' (b+st) n
 | .nil,b,l,st,n,r',_,hx,hb,h=>by simp [AVs.vpartS] at h
 | .cons m v t,b,l,st,n,r',hw,hx,hb,h=>by
  obtain⟨hv,hn,ht⟩:=hw
  by_cases hlt:b < m
  ·by_cases hl:b+l≤m
   ·simp only [AVs.vpartS,blt_true hlt,ble_true hl] at h
    exact(vpart_spec v b l st n r' hv hx (by omega) h).segs (by omega)
   ·simp only [AVs.vpartS,blt_true hlt,ble_false (by omega:m < b+l)] at h
    contradiction
  ·simp only [AVs.vpartS,blt_false (by omega:m≤b)] at h
   have:=vpartS_spec t (b-m) l st n r' ht hx (by simp [AVs.sizeS] at hb;omega) h
   exact Parts.segs' (by omega) (by rwa [show b+st-m=b-m+st by omega])
end
theorem rT_part{ks:List CK}{xs:List (List (List Int))}{o len:Nat}(h:o*ks.length+len*ks.length≤(AV.rT ks xs).size):Parts (.rT ks xs) (.rT ks ((xs.drop o).take len)) (o*ks.length) (len*ks.length):=by
 by_cases h0:ks.length=0
 ·refine⟨trivial,by simp [AV.size,h0],fun k hk=>by rw [h0] at hk;omega⟩
 ·simp only [AV.size,← Nat.add_mul] at h
  have hl:o+len≤xs.length:=Nat.le_of_mul_le_mul_right h (by omega)
  refine⟨trivial,?_,fun k hk=>?_⟩
  ·simp only [AV.size,List.length_take,List.length_drop]
   rw [show min len (xs.length-o)=len by omega]
  ·have hk2:k / ks.length < len:=(Nat.div_lt_iff_lt_mul (by omega)).2 hk
   simp only [AV.cell]
   rw [getD_dropTake _ _ _ _ _ hk2,Nat.mul_comm o,Nat.mul_add_mod,Nat.mul_add_div (by omega)]
theorem mz_eq(n sz:Nat):mz n sz=n*sz:=by unfold mz;split <;> omega
theorem partE_spec{r r':AV}{o len sz:Nat}(h:r.partE o len sz=some r')(hn:o*sz+len*sz≤r.size):Parts r r' (o*sz) (len*sz):=by
 unfold AV.partE at h
 split at h
 ·split at h <;> try contradiction
  rename_i hs
  rw [Nat.beq_eq] at hs;subst hs
  injection h with h;subst h
  exact rT_part hn
 ·rw [mz_eq,mz_eq] at h;exact part_spec h hn
theorem vpartE_spec{r r':AV}{b lim o len sz:Nat}(hw:r.wf)(hx:o*sz+len*sz≤lim)(hb:b+lim≤r.size)(h:r.vpartE b lim o len sz=some r'):Parts r r' (b+o*sz) (len*sz):=by
 unfold AV.vpartE at h
 split at h
 ·split at h <;> try contradiction
  rename_i hs
  simp only [Bool.and_eq_true,Nat.beq_eq] at hs
  obtain⟨rfl,rfl⟩:=hs
  injection h with h;subst h
  rw [Nat.zero_add]
  exact rT_part (by omega)
 ·rw [mz_eq,mz_eq] at h;exact vpart_spec r b lim _ _ r' hw hx hb h
theorem Parts.all{r:AV}(hw:r.wf):Parts r r 0 r.size:=⟨hw,rfl,fun k _=>by rw [Nat.zero_add]⟩
mutual
theorem rgetN_spec:∀ (r:AV) (n b l i m c nt:Nat) (r':AV),r.wf→r.size=n→(m=0→i=0)→ix i m c+nt≤l→b+l≤n→0 < nt→r.rgetN n b l i m c nt=some r' →
  Parts r r' (b+ix i m c) nt
 | .segs s,n,b,l,i,m,c,nt,r',hw,hn,hi,hx,hb,h0,h=>by
  simp only [AV.rgetN] at h
  split at h
  ·rename_i h1
   simp only [Bool.and_eq_true,Nat.beq_eq] at h1
   obtain⟨rfl,rfl⟩:=h1
   injection h with h;subst h
   have e:b+ix i 0 c=0:=by simp only [ix] at hx ⊢;omega
   rw [e,← hn];exact Parts.all hw
  ·exact rgetNS_spec s b l i m c nt r' (by simpa [AV.wf] using hw) hi hx (by simpa [AV.size,hn] using (show b+l≤(AV.segs s).size by omega)) h0 h
 | .rI k xs,n,b,l,i,m,c,nt,r',hw,hn,hi,hx,hb,h0,h=>by
  simp only [AV.rgetN] at h
  split at h
  ·split at h
   ·rename_i h1
    rw [Nat.beq_eq] at h1;subst h1
    injection h with h;subst h
    have e:b+ix i 0 c=0:=by simp only [ix] at hx ⊢;omega
    rw [e,← hn];exact Parts.all hw
   ·have e:c+b=b+ix i 0 c:=by simp only [ix];omega
    rw [e] at h;exact part_spec h (by omega)
  ·rw [ix_add] at h;exact part_spec h (by omega)
 | .rB xs,n,b,l,i,m,c,nt,r',hw,hn,hi,hx,hb,h0,h=>by
  simp only [AV.rgetN] at h
  split at h
  ·split at h
   ·rename_i h1
    rw [Nat.beq_eq] at h1;subst h1
    injection h with h;subst h
    have e:b+ix i 0 c=0:=by simp only [ix] at hx ⊢;omega
    rw [e,← hn];exact Parts.all hw
   ·have e:c+b=b+ix i 0 c:=by simp only [ix];omega
    rw [e] at h;exact part_spec h (by omega)
  ·rw [ix_add] at h;exact part_spec h (by omega)
 | .rS xs,n,b,l,i,m,c,nt,r',hw,hn,hi,hx,hb,h0,h=>by
  simp only [AV.rgetN] at h
  split at h
  ·split at h
   ·rename_i h1
    rw [Nat.beq_eq] at h1;subst h1
    injection h with h;subst h
    have e:b+ix i 0 c=0:=by simp only [ix] at hx ⊢;omega
    rw [e,← hn];exact Parts.all hw
   ·have e:c+b=b+ix i 0 c:=by simp only [ix];omega
    rw [e] at h;exact part_spec h (by omega)
  ·rw [ix_add] at h;exact part_spec h (by omega)
 | .rL k xs,n,b,l,i,m,c,nt,r',hw,hn,hi,hx,hb,h0,h=>by
  simp only [AV.rgetN] at h
  split at h
  ·split at h
   ·rename_i h1
    rw [Nat.beq_eq] at h1;subst h1
    injection h with h;subst h
    have e:b+ix i 0 c=0:=by simp only [ix] at hx ⊢;omega
    rw [e,← hn];exact Parts.all hw
   ·have e:c+b=b+ix i 0 c:=by simp only [ix];omega
    rw [e] at h;exact part_spec h (by omega)
  ·rw [ix_add] at h;exact part_spec h (by omega)
 | .rT ks xs,n,b,l,i,m,c,nt,r',hw,hn,hi,hx,hb,h0,h=>by
  simp only [AV.rgetN] at h
  split at h <;> try contradiction
  rename_i hc
  simp only [Bool.and_eq_true,Nat.beq_eq] at hc
  obtain⟨rfl,rfl,rfl,rfl⟩:=hc
  injection h with h;subst h
  rw [Nat.zero_add,ix_rec h0]
  refine⟨by simp only [AV.wf];exact tsegs_wf ks _ 0,by simp only [AV.size];exact tsegs_size ks _ 0,fun k hk=>?_⟩
  rw [Nat.add_zero,cell_rT hk]
  simp only [AV.cell]
  rw [tsegs_cell ks _ 0 k hk,Nat.zero_add]
 | .one v,n,b,l,i,m,c,nt,r',hw,hn,hi,hx,hb,h0,h=>by
  simp only [AV.rgetN] at h
  split at h
  ·split at h
   ·rename_i h1
    rw [Nat.beq_eq] at h1;subst h1
    injection h with h;subst h
    have e:b+ix i 0 c=0:=by simp only [ix] at hx ⊢;omega
    rw [e,← hn];exact Parts.all hw
   ·have e:c+b=b+ix i 0 c:=by simp only [ix];omega
    rw [e] at h;exact part_spec h (by omega)
  ·rw [ix_add] at h;exact part_spec h (by omega)
 | .rM _ _ _ _,_,_,_,_,_,_,_,_,h,_,_,_,_,_,_=>h.elim
 | .lv _,_,_,_,_,_,_,_,_,h,_,_,_,_,_,_=>h.elim
 | .undef,_,_,_,_,_,_,_,_,h,_,_,_,_,_,_=>h.elim
 | .bool _,_,_,_,_,_,_,_,_,h,_,_,_,_,_,_=>h.elim
 | .int _ _,_,_,_,_,_,_,_,_,h,_,_,_,_,_,_=>h.elim
 | .str _,_,_,_,_,_,_,_,_,h,_,_,_,_,_,_=>h.elim
 | .agg _ _,_,_,_,_,_,_,_,_,h,_,_,_,_,_,_=>h.elim
 | .tup _,_,_,_,_,_,_,_,_,h,_,_,_,_,_,_=>h.elim
 | .nilp,_,_,_,_,_,_,_,_,h,_,_,_,_,_,_=>h.elim
 | .ptr _ _ _ _ _ _ _,_,_,_,_,_,_,_,_,h,_,_,_,_,_,_=>h.elim
 | .gp _ _ _ _ _ _,_,_,_,_,_,_,_,_,h,_,_,_,_,_,_=>h.elim
 | .ns,_,_,_,_,_,_,_,_,h,_,_,_,_,_,_=>h.elim
 | .own _ _ _,_,_,_,_,_,_,_,_,h,_,_,_,_,_,_=>h.elim
 | .sl _ _ _ _ _ _,_,_,_,_,_,_,_,_,h,_,_,_,_,_,_=>h.elim
 | .vs _ _ _,_,_,_,_,_,_,_,_,h,_,_,_,_,_,_=>h.elim
 | .mp _,_,_,_,_,_,_,_,_,h,_,_,_,_,_,_=>h.elim
 | .nilm,_,_,_,_,_,_,_,_,h,_,_,_,_,_,_=>h.elim
 | .fn _ _,_,_,_,_,_,_,_,_,h,_,_,_,_,_,_=>h.elim
 | .nilf,_,_,_,_,_,_,_,_,h,_,_,_,_,_,_=>h.elim
theorem rgetNS_spec:∀ (s:AVs) (b l i m c nt:Nat) (r':AV),s.wfS→(m=0→i=0)→ix i m c+nt≤l→b+l≤s.sizeS→0 < nt→s.rgetNS b l i m c nt=some r' →
  Parts (.segs s) r' (b+ix i m c) nt
 | .nil,b,l,i,m,c,nt,r',_,_,_,_,_,h=>by simp [AVs.rgetNS] at h
 | .cons k v t,b,l,i,m,c,nt,r',hw,hi,hx,hb,h0,h=>by
  obtain⟨hv,hn,ht⟩:=hw
  by_cases hlt:b < k
  ·by_cases hl:b+l≤k
   ·simp only [AVs.rgetNS,blt_true hlt,ble_true hl] at h
    exact(rgetN_spec v k b l i m c nt r' hv hn hi hx hl h0 h).segs (by omega)
   ·simp only [AVs.rgetNS,blt_true hlt,ble_false (by omega:k < b+l)] at h
    contradiction
  ·simp only [AVs.rgetNS,blt_false (by omega:k≤b)] at h
   have:=rgetNS_spec t (b-k) l i m c nt r' ht hi hx (by simp [AVs.sizeS] at hb;omega) h0 h
   exact Parts.segs' (by omega) (by rwa [show b+ix i m c-k=b-k+ix i m c by omega])
end
structure SetsN (r r':AV) (st n:Nat) (x:AV):Prop where
 wf:r'.wf
 size:r'.size=r.size
 same:∀ k,k < n→r'.cell (st+k)=x.cell k
 other:∀ k,k < r.size→k < st∨st+n≤k→r'.cell k=r.cell k
theorem getD_put{α:Type}(xs ys:List α)(st n k:Nat)(d:α)(hn:ys.length=n)(hs:st+n≤xs.length):
  (xs.take st++ys++xs.drop (st+n)).getD k d=if k < st∨st+n≤k then xs.getD k d else ys.getD (k-st) d:=by
 simp only [List.getD_eq_getElem?_getD,List.getElem?_append,List.length_append,List.length_take,List.getElem?_take,List.getElem?_drop,hn]
 have:min st xs.length=st:=by omega
 rw [this]
 by_cases h1:k < st
 ·simp [h1,show k < st+n by omega]
 ·by_cases h2:k < st+n
  ·simp [h1,h2,show ¬ (st+n≤k) by omega]
  ·simp [h1,h2,show st+n≤k by omega,show st+n+(k-(st+n))=k by omega]
theorem putpart_spec{r r' x:AV}{st n:Nat}(h:r.putpart st n x=some r')(hx:x.size=n)(hn:st+n≤r.size):SetsN r r' st n x:=by
 unfold AV.putpart at h
 split at h
 ·split at h <;> try contradiction
  rename_i hk;rw [decide_eq_true_eq] at hk;subst hk
  injection h with h;subst h
  simp only [AV.size] at hn hx
  refine⟨trivial,by simp only [AV.size,List.length_append,List.length_take,List.length_drop];omega,fun k hk=>?_,fun k _ hk=>?_⟩
  ·simp only [AV.cell,getD_put _ _ _ _ _ _ hx hn];rw [if_neg (by omega)];simp
  ·simp only [AV.cell,getD_put _ _ _ _ _ _ hx hn,if_pos hk]
 ·injection h with h;subst h
  simp only [AV.size] at hn hx
  refine⟨trivial,by simp only [AV.size,List.length_append,List.length_take,List.length_drop];omega,fun k hk=>?_,fun k _ hk=>?_⟩
  ·simp only [AV.cell,getD_put _ _ _ _ _ _ hx hn];rw [if_neg (by omega)];simp
  ·simp only [AV.cell,getD_put _ _ _ _ _ _ hx hn,if_pos hk]
 ·injection h with h;subst h
  simp only [AV.size] at hn hx
  refine⟨trivial,by simp only [AV.size,List.length_append,List.length_take,List.length_drop];omega,fun k hk=>?_,fun k _ hk=>?_⟩
  ·simp only [AV.cell,getD_put _ _ _ _ _ _ hx hn];rw [if_neg (by omega)];simp
  ·simp only [AV.cell,getD_put _ _ _ _ _ _ hx hn,if_pos hk]
 ·split at h <;> try contradiction
  rename_i hk;rw [decide_eq_true_eq] at hk;subst hk
  injection h with h;subst h
  simp only [AV.size] at hn hx
  refine⟨trivial,by simp only [AV.size,List.length_append,List.length_take,List.length_drop];omega,fun k hk=>?_,fun k _ hk=>?_⟩
  ·simp only [AV.cell,getD_put _ _ _ _ _ _ hx hn];rw [if_neg (by omega)];simp
  ·simp only [AV.cell,getD_put _ _ _ _ _ _ hx hn,if_pos hk]
 ·contradiction
theorem SetsN.segs{n st k:Nat}{v v':AV}{t:AVs}{x:AV}(hv:v.size=n)(ht:t.wfS)(hj:st+k≤n)(h:SetsN v v' st k x):
  SetsN (.segs (.cons n v t)) (.segs (.cons n v' t)) st k x where
 wf:=⟨h.wf,h.size.trans hv,ht⟩
 size:=by simp [AV.size,AVs.sizeS,h.size]
 same:=fun j hj'=>by simp only [AV.cell];rw [cellS_lt (by omega)];exact h.same j hj'
 other:=fun j hs hj'=>by
  simp only [AV.cell]
  by_cases hlt:j < n
  ·rw [cellS_lt hlt,cellS_lt hlt];exact h.other j (by omega) hj'
  ·rw [cellS_ge (by omega),cellS_ge (by omega)]
theorem SetsN.segs'{n st k:Nat}{v:AV}{t t':AVs}{x:AV}(hv:v.wf)(hn:v.size=n)(hj:n≤st)(h:SetsN (.segs t) (.segs t') (st-n) k x):
  SetsN (.segs (.cons n v t)) (.segs (.cons n v t')) st k x where
 wf:=⟨hv,hn,h.wf⟩
 size:=by have:=h.size;simp only [AV.size] at this;simp [AV.size,AVs.sizeS,this]
 same:=fun j hj'=>by
  simp only [AV.cell];rw [cellS_ge (by omega),show st+j-n=st-n+j by omega];exact h.same j hj'
 other:=fun j hs hj'=>by
  simp only [AV.size,AVs.sizeS] at hs
  simp only [AV.cell]
  by_cases hlt:j < n
  ·rw [cellS_lt hlt,cellS_lt hlt]
  ·rw [cellS_ge (by omega),cellS_ge (by omega)];exact h.other (j-n) (by simp only [AV.size];omega) (by omega)
theorem SetsN.all{r x:AV}{n:Nat}(hw:x.wf)(hs:x.size=r.size)(hn:n=r.size):SetsN r x 0 n x:=
 ⟨hw,hs,fun k _=>by rw [Nat.zero_add],fun k hk h=>by omega⟩
theorem rT_put{ks:List CK}{xs:List (List (List Int))}{s:AVs}{f:List (List Int)}{i:Nat}(hf:tencs ks s=some f)(hi:i < xs.length):SetsN (.rT ks xs) (.rT ks (xs.set i f)) (i*ks.length) ks.length (.segs s):=by
 refine⟨trivial,by simp [AV.size],fun k hk=>?_,fun k hk ho=>?_⟩
 ·rw [cell_rT hk,getD_setT _ _ _ _ _ hi,if_pos rfl]
  exact tencs_cell ks s f hf k hk
 ·simp only [AV.cell]
  rw [getD_setT _ _ _ _ _ hi,if_neg]
  intro hq
  have h0:0 < ks.length:=by
   simp only [AV.size] at hk
   rcases Nat.eq_zero_or_pos ks.length with h | h
   ·rw [h] at hk;omega
   ·exact h
  have h1:=Nat.div_add_mod k ks.length
  have h2:=Nat.mod_lt k h0
  rw [hq,Nat.mul_comm] at h1
  omega
mutual
theorem rsetN_spec:∀ (r:AV) (n b l i m c nt:Nat) (x r':AV),r.wf→r.size=n→(m=0→i=0)→ix i m c+nt≤l→b+l≤n→0 < nt→x.wf→x.size=nt→r.rsetN n b l i m c nt x=some r' →
  SetsN r r' (b+ix i m c) nt x
 | .segs s,n,b,l,i,m,c,nt,x,r',hw,hn,hi,hx,hb,h0,hxw,hxs,h=>by
  simp only [AV.rsetN] at h
  split at h
  ·rename_i h1
   simp only [Bool.and_eq_true,Nat.beq_eq] at h1
   obtain⟨rfl,rfl⟩:=h1
   split at h <;> try contradiction
   split at h <;> try contradiction
   injection h with h;subst h
   have e:b+ix i 0 c=0:=by simp only [ix] at hx ⊢;omega
   rw [e]
   exact SetsN.all hxw (by omega) (by omega)
  ·simp only [Option.map_eq_some_iff] at h
   obtain⟨s',h1,rfl⟩:=h
   exact rsetNS_spec s b l i m c nt x s' (by simpa [AV.wf] using hw) hi hx (by simpa [AV.size,hn] using (show b+l≤(AV.segs s).size by omega)) h0 hxw hxs h1
 | .rI k xs,n,b,l,i,m,c,nt,x,r',hw,hn,hi,hx,hb,h0,hxw,hxs,h=>by
  simp only [AV.rsetN] at h
  split at h
  ·rename_i h1
   unfold whole at h1
   split at h1 <;> try contradiction
   rw [Nat.beq_eq] at h1;subst h1
   have e:b+ix i 0 c=0:=by simp only [ix] at hx ⊢;omega
   rw [e]
   split at h <;> (try contradiction)
   split at h <;> try contradiction
   rename_i hk;rw [decide_eq_true_eq] at hk;subst hk
   injection h with h;subst h
   exact SetsN.all trivial (by rw [hxs,hn]) hn.symm
  ·rw [ix_add] at h;exact putpart_spec h hxs (by omega)
 | .rB xs,n,b,l,i,m,c,nt,x,r',hw,hn,hi,hx,hb,h0,hxw,hxs,h=>by
  simp only [AV.rsetN] at h
  split at h
  ·rename_i h1
   unfold whole at h1
   split at h1 <;> try contradiction
   rw [Nat.beq_eq] at h1;subst h1
   have e:b+ix i 0 c=0:=by simp only [ix] at hx ⊢;omega
   rw [e]
   split at h <;> (try contradiction) <;> (try split at h <;> try contradiction)
   all_goals injection h with h
   all_goals subst h
   all_goals exact SetsN.all trivial (by simp_all [AV.size]) (by omega)
  ·rw [ix_add] at h;exact putpart_spec h hxs (by omega)
 | .rS xs,n,b,l,i,m,c,nt,x,r',hw,hn,hi,hx,hb,h0,hxw,hxs,h=>by
  simp only [AV.rsetN] at h
  split at h
  ·rename_i h1
   unfold whole at h1
   split at h1 <;> try contradiction
   rw [Nat.beq_eq] at h1;subst h1
   have e:b+ix i 0 c=0:=by simp only [ix] at hx ⊢;omega
   rw [e]
   split at h <;> (try contradiction) <;> (try split at h <;> try contradiction)
   all_goals injection h with h
   all_goals subst h
   all_goals exact SetsN.all trivial (by simp_all [AV.size]) (by omega)
  ·rw [ix_add] at h;exact putpart_spec h hxs (by omega)
 | .rL k xs,n,b,l,i,m,c,nt,x,r',hw,hn,hi,hx,hb,h0,hxw,hxs,h=>by
  simp only [AV.rsetN] at h
  split at h <;> try contradiction
  rw [ix_add] at h;exact putpart_spec h hxs (by omega)
 | .rT ks xs,n,b,l,i,m,c,nt,x,r',hw,hn,hi,hx,hb,h0,hxw,hxs,h=>by
  simp only [AV.rsetN] at h
  split at h <;> try contradiction
  rename_i s
  split at h <;> try contradiction
  rename_i hc
  simp only [Bool.and_eq_true,Nat.beq_eq] at hc
  obtain⟨rfl,rfl⟩:=hc
  split at h
  ·split at h <;> try contradiction
   rename_i hd
   rw [Nat.beq_eq] at hd
   simp only [Option.map_eq_some_iff] at h
   obtain⟨f,hf,rfl⟩:=h
   have e:=Nat.div_add_mod b ks.length
   rw [hd,Nat.add_zero,Nat.mul_comm] at e
   rw [show b+ix i 0 0=b / ks.length*ks.length by simp only [ix];omega]
   refine rT_put hf ?_
   simp only [AV.size] at hn
   simp only [ix] at hx
   exact Nat.lt_of_mul_lt_mul_right (a:=ks.length) (by omega)
  ·split at h <;> try contradiction
   rename_i hd
   simp only [Bool.and_eq_true,Nat.beq_eq] at hd
   obtain⟨rfl,rfl⟩:=hd
   simp only [Option.map_eq_some_iff] at h
   obtain⟨f,hf,rfl⟩:=h
   rw [Nat.zero_add,ix_rec h0,Nat.add_zero]
   refine rT_put hf ?_
   simp only [AV.size] at hn
   rw [ix_rec h0] at hx
   exact Nat.lt_of_mul_lt_mul_right (a:=ks.length) (by omega)
 | .one v,n,b,l,i,m,c,nt,x,r',hw,hn,hi,hx,hb,h0,hxw,hxs,h=>by simp [AV.rsetN] at h
 | .undef,_,_,_,_,_,_,_,_,_,h,_,_,_,_,_,_,_,_=>h.elim
 | .bool _,_,_,_,_,_,_,_,_,_,h,_,_,_,_,_,_,_,_=>h.elim
 | .int _ _,_,_,_,_,_,_,_,_,_,h,_,_,_,_,_,_,_,_=>h.elim
 | .str _,_,_,_,_,_,_,_,_,_,h,_,_,_,_,_,_,_,_=>h.elim
 | .agg _ _,_,_,_,_,_,_,_,_,_,h,_,_,_,_,_,_,_,_=>h.elim
 | .tup _,_,_,_,_,_,_,_,_,_,h,_,_,_,_,_,_,_,_=>h.elim
 | .nilp,_,_,_,_,_,_,_,_,_,h,_,_,_,_,_,_,_,_=>h.elim
 | .ptr _ _ _ _ _ _ _,_,_,_,_,_,_,_,_,_,h,_,_,_,_,_,_,_,_=>h.elim
 | .gp _ _ _ _ _ _,_,_,_,_,_,_,_,_,_,h,_,_,_,_,_,_,_,_=>h.elim
 | .ns,_,_,_,_,_,_,_,_,_,h,_,_,_,_,_,_,_,_=>h.elim
 | .own _ _ _,_,_,_,_,_,_,_,_,_,h,_,_,_,_,_,_,_,_=>h.elim
 | .sl _ _ _ _ _ _,_,_,_,_,_,_,_,_,_,h,_,_,_,_,_,_,_,_=>h.elim
 | .vs _ _ _,_,_,_,_,_,_,_,_,_,h,_,_,_,_,_,_,_,_=>h.elim
 | .mp _,_,_,_,_,_,_,_,_,_,h,_,_,_,_,_,_,_,_=>h.elim
 | .nilm,_,_,_,_,_,_,_,_,_,h,_,_,_,_,_,_,_,_=>h.elim
 | .fn _ _,_,_,_,_,_,_,_,_,_,h,_,_,_,_,_,_,_,_=>h.elim
 | .nilf,_,_,_,_,_,_,_,_,_,h,_,_,_,_,_,_,_,_=>h.elim
theorem rsetNS_spec:∀ (s:AVs) (b l i m c nt:Nat) (x:AV) (s':AVs),s.wfS→(m=0→i=0)→ix i m c+nt≤l→b+l≤s.sizeS→0 < nt→x.wf→x.size=nt→s.rsetNS b l i m c nt x=some s' →
  SetsN (.segs s) (.segs s') (b+ix i m c) nt x
 | .nil,b,l,i,m,c,nt,x,s',_,_,_,_,_,_,_,h=>by simp [AVs.rsetNS] at h
 | .cons k v t,b,l,i,m,c,nt,x,s',hw,hi,hx,hb,h0,hxw,hxs,h=>by
  obtain⟨hv,hn,ht⟩:=hw
  by_cases hlt:b < k
  ·by_cases hl:b+l≤k
   ·simp only [AVs.rsetNS,blt_true hlt,ble_true hl,Option.map_eq_some_iff] at h
    obtain⟨v',h1,rfl⟩:=h
    exact(rsetN_spec v k b l i m c nt x v' hv hn hi hx hl h0 hxw hxs h1).segs hn ht (by omega)
   ·simp only [AVs.rsetNS,blt_true hlt,ble_false (by omega:k < b+l)] at h
    contradiction
  ·simp only [AVs.rsetNS,blt_false (by omega:k≤b),Option.map_eq_some_iff] at h
   obtain⟨t',h1,rfl⟩:=h
   have:=rsetNS_spec t (b-k) l i m c nt x t' ht hi hx (by simp [AVs.sizeS] at hb;omega) h0 hxw hxs h1
   exact SetsN.segs' hv hn (by omega) (by rwa [show b+ix i m c-k=b-k+ix i m c by omega])
end
structure Apps (r x r':AV):Prop where
 wf:r'.wf
 size:r'.size=r.size+x.size
 left:∀ k,k < r.size→r'.cell k=r.cell k
 right:∀ k,k < x.size→r'.cell (r.size+k)=x.cell k
theorem rT_app{ks:List CK}(h0:0 < ks.length)(xs ys:List (List (List Int))):Apps (.rT ks xs) (.rT ks ys) (.rT ks (xs++ys)):=by
 refine⟨trivial,by simp only [AV.size,List.length_append,Nat.add_mul],fun k hk=>?_,fun k _=>?_⟩
 ·simp only [AV.size] at hk
  have hq:k / ks.length < xs.length:=(Nat.div_lt_iff_lt_mul h0).2 hk
  simp only [AV.cell,List.getD_eq_getElem?_getD,List.getElem?_append_left hq]
 ·simp only [AV.cell,AV.size]
  rw [Nat.mul_comm,Nat.mul_add_mod,Nat.mul_add_div h0]
  congr 2
  simp only [List.getD_eq_getElem?_getD]
  rw [List.getElem?_append_right (Nat.le_add_right _ _),Nat.add_sub_cancel_left]
theorem app_spec{r x r':AV}(h:r.app x=some r'):Apps r x r':=by
 unfold AV.app at h
 split at h
 case h_5=>
  split at h <;> try contradiction
  rename_i hk
  rw [Bool.and_eq_true,Nat.blt_eq,decide_eq_true_eq] at hk
  obtain⟨h0,rfl⟩:=hk
  injection h with h;subst h
  exact rT_app h0 _ _
 all_goals (try (split at h <;> try contradiction))
 all_goals (try contradiction)
 all_goals (try (rename_i hk;rw [decide_eq_true_eq] at hk;subst hk))
 all_goals injection h with h
 all_goals subst h
 all_goals
  refine⟨trivial,by simp [AV.size],fun k hk=>?_,fun k _=>?_⟩
  ·simp only [AV.size] at hk
   simp only [AV.cell,List.getD_eq_getElem?_getD,List.getElem?_append_left hk]
  ·simp only [AV.cell,AV.size,List.getD_eq_getElem?_getD];rw [List.getElem?_append_right (by omega),Nat.add_sub_cancel_left]
end Go.Am
