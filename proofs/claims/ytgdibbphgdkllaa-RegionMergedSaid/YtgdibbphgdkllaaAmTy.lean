/- Part of a proof. -/
import Derived.Test.YtgdibbphgdkllaaAmRow
import Derived.WalkKit
set_option linter.unusedSimpArgs false
set_option linter.unusedVariables false
section
/- When a value of the machine is what an abstract value says. -/
namespace Go.Am
open Go
structure Loc where
 b:Nat
 base:Nat
 n:Nat
 S:Nat
 ty:Nat
inductive Rep (w:World) (W:Nat→Prop) (ρ:Nat→Option (Option Loc)):AV→Value→Prop where
 | undef (v:Value):Rep w W ρ .undef v
 | bool (b:Bool):Rep w W ρ (.bool b) (.bool b)
 | int (k:IntKind) (n:Int) (h:k.has n):Rep w W ρ (.int k n) (.int k n)
 | str (s:ByteArray) (hm:s.size < 4611686018427387904):Rep w W ρ (.str (bytesOf s)) (.string s)
 | agg (n:Nat) (r:AV) (cs:Array Value) (hw:r.wf) (hr:r.size=n) (hc:cs.size=n) (h:∀ j,j < n→Rep w W ρ (r.cell j) (cs.getD j Go.undef)):Rep w W ρ (.agg n r) (.agg cs)
 | tup (vs:AVs) (ws:Array Value) (hl:vs.len=ws.size) (h:∀ j,j < vs.len→Rep w W ρ (vs.nth j) (ws.getD j Go.undef)):Rep w W ρ (.tup vs) (.tuple ws)
 | nilp:Rep w W ρ .nilp (.pointer none)
 | ptr (id b l i m c rm:Nat) (L:Loc) (hl:ρ id=some (some L)) (hi:m=0→i=0) (hx:ix i m c+rm≤l) (hb:b+l≤L.n) (h0:0 < rm) :
   Rep w W ρ (.ptr id b l i m c rm) (.pointer (some ⟨L.b,L.base+(b+ix i m c),none⟩))
 | gp (r:AV) (n i m c rm blk base:Nat) (vals:Nat→Value) (hr:r.leafB=true) (hn:r.size=n) (hi:m=0→i=0) (hx:ix i m c+rm≤n) (h0:0 < rm) (hW:¬ W blk)
   (hc:∀ j,j < n→w.cell? ⟨blk,base+j,none⟩=some (vals j)) (h:∀ j,j < n→Rep w W ρ (r.cell j) (vals j)) :
   Rep w W ρ (.gp r n i m c rm) (.pointer (some ⟨blk,base+ix i m c,none⟩))
 | ns:Rep w W ρ .ns (.slice none 0 0)
 | own0 (id sz:Nat) (a:Option Addr) (hl:ρ id=some none):Rep w W ρ (.own id 0 sz) (.slice a 0 0)
 | own (id len sz l cap:Nat) (L:Loc) (hl:ρ id=some (some L)) (hn:l*sz=L.n) (hk:len=klen l sz) (hcap:l≤cap) (hS:L.base+cap*sz≤L.S) (h0:0 < sz) (hm:l < 4611686018427387904) :
   Rep w W ρ (.own id len sz) (.slice (some ⟨L.b,L.base,none⟩) l cap)
 | sl0 (id b lim o sz:Nat) (a:Option Addr) (hl:lim≤o*sz):Rep w W ρ (.sl id b lim o 0 sz) (.slice a 0 0)
 | sl (id b lim o len sz cap:Nat) (L:Loc) (hl:ρ id=some (some L)) (h0:0 < sz) (hx:(o+len)*sz≤lim) (hb:b+lim≤L.n) (hcap:len≤cap) (hm:len < 4611686018427387904) (hlim:lim≤(o+cap)*sz) (hS:b+(o+cap)*sz≤L.n∨L.base+(b+(o+cap)*sz)≤L.S) :
   Rep w W ρ (.sl id b lim o len sz) (.slice (some ⟨L.b,L.base+(b+o*sz),none⟩) len cap)
 | vs0 (r:AV) {len:Nat} (sz cap:Nat) (a:Option Addr) (hr:r.leafB=true) (hn:r.size=0) (hl:len=0∨(sz=1∧(len=2∧a≠none∨len=3∧a=none)):=by exact .inl rfl):Rep w W ρ (.vs r len sz) (.slice a 0 cap)
 | vs (r:AV) (len sz l cap blk base:Nat) (vals:Nat→Value) (hr:r.leafB=true) (h0:0 < sz) (hn:r.size=l*sz) (hp:0 < l) (hk:len=klen l sz∨(sz=1∧(len=1∧cap=l∨len=2))) (hcap:l≤cap) (hm:l < 4611686018427387904) (hW:¬ W blk)
   (hc:∀ j,j < l*sz→w.cell? ⟨blk,base+j,none⟩=some (vals j)) (h:∀ j,j < l*sz→Rep w W ρ (r.cell j) (vals j)) :
   Rep w W ρ (.vs r len sz) (.slice (some ⟨blk,base,none⟩) l cap)
 | nilm:Rep w W ρ .nilm (.map none)
 | fn (f:Nat) (caps:AVs) (cvs:Array Value) (hf:f < 1073741824) (hl:caps.len=cvs.size) (h:∀ j,j < caps.len→Rep w W ρ (caps.nth j) (cvs.getD j Go.undef)):Rep w W ρ (.fn f caps) (.func (.func f) #[] cvs)
 | yl (l:Nat):Rep w W ρ (.fn (1073741824+l) .nil) (.func (.yield l) #[] #[])
 | nilf:Rep w W ρ .nilf .nilFunc
 | mp (id:Nat) (L:Loc) (hl:ρ id=some (some L)):Rep w W ρ (.mp id) (.map (some L.b))
 | lv (n cap:Nat) (a:Option Addr) (hm:n < 4611686018427387904):Rep w W ρ (.lv n) (.slice a n cap)
variable {w w' : World} {W W' : Nat → Prop} {ρ ρ' : Nat → Option (Option Loc)}
theorem Rep.mono{a:AV}{v:Value}(h:Rep w W ρ a v)(hc:∀ b j,¬ W b→b < w.heap.size→w'.cell? ⟨b,j,none⟩=w.cell? ⟨b,j,none⟩)
  (hW:∀ b,b < w.heap.size→¬ W b→¬ W' b) (hρ:∀ id x,ρ id=some x→ρ' id=some x):Rep w' W' ρ' a v:=by
 induction h with
 | undef v=>exact .undef v
 | bool b=>exact .bool b
 | int k n h=>exact .int k n h
 | str s hm=>exact .str s hm
 | agg n r cs hw hr hc' h ih=>exact .agg n r cs hw hr hc' ih
 | tup vs ws hl h ih=>exact .tup vs ws hl ih
 | nilp=>exact .nilp
 | ptr id b l i m c rm L hl hi hx hb h0=>exact .ptr id b l i m c rm L (hρ _ _ hl) hi hx hb h0
 | gp r n i m c rm blk base vals hr hn hi hx h0 hW' hc' h ih=>
  have hlt:blk < w.heap.size:=block_lt_of_cell (hc' 0 (by omega))
  exact .gp r n i m c rm blk base vals hr hn hi hx h0 (hW _ hlt hW') (fun j hj=>(hc _ _ hW' hlt).trans (hc' j hj)) ih
 | ns=>exact .ns
 | own0 id sz a hl=>exact .own0 id sz a (hρ _ _ hl)
 | own id len sz l cap L hl hn hk hcap hS h0 hm=>exact .own id len sz l cap L (hρ _ _ hl) hn hk hcap hS h0 hm
 | sl0 id b lim o sz a hl=>exact .sl0 id b lim o sz a hl
 | sl id b lim o len sz cap L hl h0 hx hb hcap hm hlim hS=>exact .sl id b lim o len sz cap L (hρ _ _ hl) h0 hx hb hcap hm hlim hS
 | vs0 r sz cap a hr hn hl=>exact .vs0 r sz cap a hr hn hl
 | vs r len sz l cap blk base vals hr h0 hn hp hk hcap hm hW' hc' h ih=>
  have hlt:blk < w.heap.size:=block_lt_of_cell (hc' 0 (Nat.mul_pos hp h0))
  exact .vs r len sz l cap blk base vals hr h0 hn hp hk hcap hm (hW _ hlt hW') (fun j hj=>(hc _ _ hW' hlt).trans (hc' j hj)) ih
 | nilm=>exact .nilm
 | fn f caps cvs hf hl h ih=>exact .fn f caps cvs hf hl ih
 | yl l=>exact .yl l
 | nilf=>exact .nilf
 | mp id L hl=>exact .mp id L (hρ _ _ hl)
 | lv n cap a hm=>exact .lv n cap a hm
theorem nth_renL(π:Nat→Nat):∀ (s:AVs) (j:Nat),j < s.len→(s.renL π).nth j=(s.nth j).ren π
 | .nil,_,h=>by simp [AVs.len] at h
 | .cons n v t,0,_=>rfl
 | .cons n v t,j+1,h=>nth_renL π t j (by simp [AVs.len] at h;omega)
theorem len_renL(π:Nat→Nat):∀ (s:AVs),(s.renL π).len=s.len
 | .nil=>rfl
 | .cons n v t=>by simp [AVs.renL,AVs.len,len_renL π t]
theorem ids_nth:∀ (s:AVs) (j:Nat),j < s.len → ∀ id∈(s.nth j).ids,id∈s.idsL
 | .nil,_,h,_,_=>by simp [AVs.len] at h
 | .cons n v t,0,_,id,h=>by simp only [AVs.idsL,List.mem_append];exact .inl h
 | .cons n v t,j+1,hj,id,h=>by
  simp only [AVs.idsL,List.mem_append];exact .inr (ids_nth t j (by simp [AVs.len] at hj;omega) id h)
theorem tval_ids(k:CK)(f:List Int):(tval k f).ids=[]:=by cases k <;> rfl
theorem tval_ren(k:CK)(f:List Int)(π:Nat→Nat):(tval k f).ren π=tval k f:=by cases k <;> rfl
theorem ids_leafcell{r:AV}(h:r.leafB=true)(j:Nat):(r.cell j).ids=[]:=by cases r <;> simp [AV.leafB] at h <;> first | rfl | exact tval_ids _ _
theorem ren_leafcell{r:AV}(h:r.leafB=true)(j:Nat)(π:Nat→Nat):(r.cell j).ren π=r.cell j:=by cases r <;> simp [AV.leafB] at h <;> first | rfl | exact tval_ren _ _ _
theorem wf_leaf{r:AV}(h:r.leafB=true):r.wf:=by cases r <;> simp [AV.leafB] at h <;> trivial
theorem ren_scal{v:AV}(h:v.scal=true)(π:Nat→Nat):(v.ren π).scal=true:=by cases v <;> simp [AV.scal] at h <;> rfl
mutual
theorem row_ren(π:Nat→Nat):∀ (r:AV),r.wf→(r.ren π).wf∧(r.ren π).size=r.size ∧ ∀ j,j < r.size→(r.ren π).cell j=(r.cell j).ren π ∧ ∀ id∈(r.cell j).ids,id∈r.ids
 | .segs s,h=>by
  have:=rows_ren π s (by simpa [AV.wf] using h)
  simpa only [AV.ren,AV.wf,AV.size,AV.cell,AV.ids] using this
 | .rI k xs,h=>⟨trivial,rfl,fun j _=>⟨rfl,fun id hid=>by simp [AV.cell,AV.ids] at hid⟩⟩
 | .rB xs,h=>⟨trivial,rfl,fun j _=>⟨rfl,fun id hid=>by simp [AV.cell,AV.ids] at hid⟩⟩
 | .rS xs,h=>⟨trivial,rfl,fun j _=>⟨rfl,fun id hid=>by simp [AV.cell,AV.ids] at hid⟩⟩
 | .rL k xs,h=>⟨trivial,rfl,fun j _=>⟨rfl,fun id hid=>by simp [AV.cell,AV.ids] at hid⟩⟩
 | .one v,h=>by
  refine⟨ren_scal h π,rfl,fun j hj=>?_⟩
  simp only [AV.size,Nat.lt_one_iff] at hj;subst hj
  exact⟨rfl,fun id hid=>hid⟩
 | .undef,h=>h.elim
 | .bool _,h=>h.elim
 | .int _ _,h=>h.elim
 | .str _,h=>h.elim
 | .rT ks xs,h=>⟨trivial,rfl,fun j _=>⟨by simp only [AV.ren,AV.cell];exact(tval_ren _ _ π).symm,fun id hid=>by simp only [AV.cell,tval_ids] at hid;cases hid⟩⟩
 | .agg _ _,h=>h.elim
 | .tup _,h=>h.elim
 | .nilp,h=>h.elim
 | .ptr _ _ _ _ _ _ _,h=>h.elim
 | .gp _ _ _ _ _ _,h=>h.elim
 | .ns,h=>h.elim
 | .own _ _ _,h=>h.elim
 | .sl _ _ _ _ _ _,h=>h.elim
 | .vs _ _ _,h=>h.elim
 | .mp _,h=>h.elim
 | .nilm,h=>h.elim
 | .fn _ _,h=>h.elim
 | .nilf,h=>h.elim
 | .rM _ _ _ _,h=>h.elim
 | .lv _,h=>h.elim
theorem rows_ren(π:Nat→Nat):∀ (s:AVs),s.wfS→(s.renL π).wfS∧(s.renL π).sizeS=s.sizeS ∧ ∀ j,j < s.sizeS→(s.renL π).cellS j=(s.cellS j).ren π ∧ ∀ id∈(s.cellS j).ids,id∈s.idsL
 | .nil,_=>⟨trivial,rfl,fun j hj=>by simp [AVs.sizeS] at hj⟩
 | .cons n v t,h=>by
  obtain⟨hv,hn,ht⟩:=h
  obtain⟨a1,a2,a3⟩:=row_ren π v hv
  obtain⟨b1,b2,b3⟩:=rows_ren π t ht
  refine⟨⟨a1,a2.trans hn,b1⟩,by simp [AVs.renL,AVs.sizeS,a2,b2],fun j hj=>?_⟩
  simp only [AVs.renL,AVs.idsL,List.mem_append]
  by_cases hlt:j < n
  ·rw [cellS_lt hlt,cellS_lt hlt]
   exact⟨(a3 j (by omega)).1,fun id hid=>.inl ((a3 j (by omega)).2 id hid)⟩
  ·rw [cellS_ge (by omega),cellS_ge (by omega)]
   have:=b3 (j-n) (by simp [AVs.sizeS] at hj;omega)
   exact⟨this.1,fun id hid=>.inr (this.2 id hid)⟩
end
theorem Rep.ren{a:AV}{v:Value}(h:Rep w W ρ a v)(π:Nat→Nat)(hπ:∀ id∈a.ids,∀ x,ρ id=some x→ρ' (π id)=some x):Rep w W ρ' (a.ren π) v:=by
 induction h with
 | undef v=>exact .undef v
 | bool b=>exact .bool b
 | int k n h=>exact .int k n h
 | str s hm=>exact .str s hm
 | agg n r cs hw hr hc' h ih=>
  obtain⟨b1,b2,b3⟩:=row_ren π r hw
  refine .agg n (r.ren π) cs b1 (b2.trans hr) hc' fun j hj=>?_
  rw [(b3 j (by omega)).1]
  exact ih j hj fun id hid=>hπ id (by simpa [AV.ids] using (b3 j (by omega)).2 id hid)
 | tup vs ws hl h ih=>
  refine .tup (vs.renL π) ws (by rw [len_renL,hl]) fun j hj=>?_
  rw [len_renL] at hj
  rw [nth_renL π vs j hj]
  exact ih j hj fun id hid=>hπ id (by simpa [AV.ids] using ids_nth vs j hj id hid)
 | nilp=>exact .nilp
 | ptr id b l i m c rm L hl hi hx hb h0=>exact .ptr (π id) b l i m c rm L (hπ id (by simp [AV.ids]) _ hl) hi hx hb h0
 | gp r n i m c rm blk base vals hr hn hi hx h0 hW' hc' h ih=>
  exact .gp r n i m c rm blk base vals hr hn hi hx h0 hW' hc' fun j hj=>by
   have:=ih j hj (by simp [ids_leafcell hr]);rwa [ren_leafcell hr] at this
 | ns=>exact .ns
 | own0 id sz a hl=>exact .own0 (π id) sz a (hπ id (by simp [AV.ids]) _ hl)
 | own id len sz l cap L hl hn hk hcap hS h0 hm=>exact .own (π id) len sz l cap L (hπ id (by simp [AV.ids]) _ hl) hn hk hcap hS h0 hm
 | sl0 id b lim o sz a hl=>exact .sl0 (π id) b lim o sz a hl
 | sl id b lim o len sz cap L hl h0 hx hb hcap hm hlim hS=>exact .sl (π id) b lim o len sz cap L (hπ id (by simp [AV.ids]) _ hl) h0 hx hb hcap hm hlim hS
 | vs0 r sz cap a hr hn hl=>exact .vs0 r sz cap a hr hn hl
 | vs r len sz l cap blk base vals hr h0 hn hp hk hcap hm hW' hc' h ih=>
  exact .vs r len sz l cap blk base vals hr h0 hn hp hk hcap hm hW' hc' fun j hj=>by
   have:=ih j hj (by simp [ids_leafcell hr]);rwa [ren_leafcell hr] at this
 | nilm=>exact .nilm
 | fn f caps cvs hf hl h ih=>
  refine .fn f (caps.renL π) cvs hf (by rw [len_renL,hl]) fun j hj=>?_
  rw [len_renL] at hj
  rw [nth_renL π caps j hj]
  exact ih j hj fun id hid=>hπ id (by simpa [AV.ids] using ids_nth caps j hj id hid)
 | yl l=>exact .yl l
 | nilf=>exact .nilf
 | mp id L hl=>exact .mp (π id) L (hπ id (by simp [AV.ids]) _ hl)
 | lv n cap a hm=>exact .lv n cap a hm
mutual
theorem cell_scal:∀ (r:AV) (j:Nat),r.wf→j < r.size→(r.cell j).scal=true
 | .segs s,j,h,hj=>by simp only [AV.cell];exact cellS_scal s j (by simpa [AV.wf] using h) (by simpa [AV.size] using hj)
 | .rI _ _,_,_,_=>rfl
 | .rB _,_,_,_=>rfl
 | .rS _,_,_,_=>rfl
 | .rL _ _,_,_,_=>rfl
 | .one v,j,h,hj=>by simp only [AV.size,Nat.lt_one_iff] at hj;subst hj;exact h
 | .undef,_,h,_=>h.elim
 | .bool _,_,h,_=>h.elim
 | .int _ _,_,h,_=>h.elim
 | .str _,_,h,_=>h.elim
 | .rT ks xs,_,_,_=>by simp only [AV.cell];exact tval_scal _ _
 | .agg _ _,_,h,_=>h.elim
 | .tup _,_,h,_=>h.elim
 | .nilp,_,h,_=>h.elim
 | .ptr _ _ _ _ _ _ _,_,h,_=>h.elim
 | .gp _ _ _ _ _ _,_,h,_=>h.elim
 | .ns,_,h,_=>h.elim
 | .own _ _ _,_,h,_=>h.elim
 | .sl _ _ _ _ _ _,_,h,_=>h.elim
 | .vs _ _ _,_,h,_=>h.elim
 | .mp _,_,h,_=>h.elim
 | .nilm,_,h,_=>h.elim
 | .fn _ _,_,h,_=>h.elim
 | .nilf,_,h,_=>h.elim
 | .rM _ _ _ _,_,h,_=>h.elim
 | .lv _,_,h,_=>h.elim
theorem cellS_scal:∀ (s:AVs) (j:Nat),s.wfS→j < s.sizeS→(s.cellS j).scal=true
 | .nil,_,_,h=>by simp [AVs.sizeS] at h
 | .cons n v t,j,h,hj=>by
  obtain⟨hv,hn,ht⟩:=h
  by_cases hlt:j < n
  ·rw [cellS_lt hlt];exact cell_scal v j hv (by omega)
  ·rw [cellS_ge (by omega)];exact cellS_scal t (j-n) ht (by simp [AVs.sizeS] at hj;omega)
end
theorem Rep.one{a:AV}{v:Value}(h:Rep w W ρ a v)(hs:a.scal=true):v.cells = #[v]∧(∀ c,v≠.agg c) ∧ ∀ c,v≠.tuple c:=by
 cases h <;> first | (simp [AV.scal] at hs;done) | exact⟨rfl,fun c=>by simp,fun c=>by simp⟩
end Go.Am
end
section
/- When a state of the machine is what an abstract state says; what each change of the abstract state asks. -/
namespace Go.Am
open Go
structure Rho where
 f:Nat→Option (Option Loc)
 x:Nat→Option Nat
instance:CoeFun Rho fun _=>Nat→Option (Option Loc):=⟨Rho.f⟩
instance:Coe Rho (Nat→Option (Option Loc)):=⟨Rho.f⟩
def WrO(ρ:Rho)(H:List (Nat×Blk))(b:Nat):Prop:=(∃ M,ρ.x b=some M) ∨ ∃ id n r L,lkH id H=.cells n r true∧ρ id=some (some L)∧L.b=b
structure Oth where
 v:Nat→Prop
 n:Nat→Prop
 sub:∀ b,v b→n b
 ini:Nat→Option (Option Loc)
def Wr(U:Oth)(ρ:Rho)(H:List (Nat×Blk))(b:Nat):Prop:=U.v b∨WrO ρ H b
def Mine(w:World)(L:Loc):Prop:=∃ c t fr,w.heap[L.b]?=some (.cells c t fr)∧(c.size=L.S∧fr.1≤fr.2)∧((L.base=0∧L.ty=t)∧L.base+L.n≤L.S) ∧ ∀ j,j < L.S→w.frozen? ⟨L.b,j,none⟩=false
def GOk(G:Nat→Option AV)(w0:World)(W0:Nat→Prop):Prop:=
 ∀ g r,G g=some r→r.leafB=true→0 < r.size∧g < w0.heap.size∧¬ W0 g ∧
  ∃ vals:Nat→Value,∀ j,j < r.size→w0.cell? ⟨g,j,none⟩=some (vals j) ∧ ∀ w W ρ,Rep w W ρ (r.cell j) (vals j)
def AV.isM:AV→Bool
 | .rM _ _ _ _=>true
 | _=>false
theorem leaf_isM{r:AV}(h:r.leafB=true):r.isM=false:=by cases r <;> first | rfl | (simp [AV.leafB] at h)
theorem size_isM{r:AV}(h:0 < r.size):r.isM=false:=by cases r <;> first | rfl | (simp [AV.size] at h)
theorem wf_isM{r:AV}(h:r.wf):r.isM=false:=by cases r <;> first | rfl | exact h.elim
theorem isM_no{r:AV}(h:r.isM=false){k:IntKind}{kn:Nat}{v:MV}{es:List (List Int×List Int)}:r≠.rM k kn v es:=by rintro rfl;cases h
def keyV(k:IntKind)(kn:Nat)(xs:List Int):Value:=match kn with
 | 0=>.int k (xs.getD 0 0)
 | _=>.agg (xs.map (Value.int k)).toArray
def keyOk(k:IntKind)(kn:Nat)(xs:List Int):Prop:=xs.length=(match kn with | 0=>1 | n=>n) ∧ ∀ x∈xs,k.has x
def MEnts(w:World)(W:Nat→Prop)(ρ:Rho)(k:IntKind)(kn:Nat)(v:MV):List MapEntry→List (List Int×List Int)→Prop
 | [],[]=>True
 | m :: ms,e :: es=>(m.key=keyV k kn e.1∧Rep w W ρ (mval v e.2) m.val)∧MEnts w W ρ k kn v ms es
 | _,_=>False
theorem MEnts.mono{w w':World}{W W':Nat→Prop}{ρ ρ':Rho}{k:IntKind}{kn:Nat}{v:MV}(f:∀ xs u,Rep w W ρ (mval v xs) u→Rep w' W' ρ' (mval v xs) u):
  ∀ {ms:List MapEntry} {es:List (List Int×List Int)},MEnts w W ρ k kn v ms es→MEnts w' W' ρ' k kn v ms es
 | [],[],_=>trivial
 | m :: ms,e :: es,h=>⟨⟨h.1.1,f _ _ h.1.2⟩,MEnts.mono f h.2⟩
 | [],_ :: _,h=>h.elim
 | _ :: _,[],h=>h.elim
def Born(ms:Array MapEntry)(clock:Nat):Prop:=(∀ x∈ms.toList,x.born < clock)∧(ms.toList.map (·.born)).Nodup
def MV.okind:MV→Option IntKind
 | .osl k=>some k
 | .oslx k _=>some k
 | _=>none
def MV.excl:MV→Option (List Int)
 | .oslx _ key=>some key
 | _=>none
structure HidOk (w:World) (b:Nat) (k:IntKind) (xs:List Int) (v:Value):Prop where
 blk:∃ c t fr cap,w.heap[b]?=some (.cells c t fr)∧fr.1≤fr.2∧v=.slice (some ⟨b,0,none⟩) xs.length cap∧xs.length≤cap∧cap≤c.size ∧ ∀ j,j < c.size→w.frozen? ⟨b,j,none⟩=false
 len:0 < xs.length∧xs.length < 4611686018427387904
 cells:∀ j,j < xs.length→w.cell? ⟨b,0+j,none⟩=some (.int k (xs.getD j 0))∧k.has (xs.getD j 0)
theorem HidOk.mono{w w':World}{b:Nat}{k:IntKind}{xs:List Int}{v:Value}(h:HidOk w b k xs v)(e:w'.heap[b]?=w.heap[b]?):HidOk w' b k xs v:=by
 obtain⟨⟨c,t,fr,cap,h1,h2,h3,h4,h5,h6⟩,h7,h8⟩:=h
 refine⟨⟨c,t,fr,cap,e.trans h1,h2,h3,h4,h5,fun j hj=>?_⟩,h7,fun j hj=>⟨?_,(h8 j hj).2⟩⟩
 ·have:=h6 j hj;unfold World.frozen? at this ⊢;simp only [e];exact this
 ·have:=(h8 j hj).1;unfold World.cell? at this ⊢;simp only [e];exact this
def EEnts(R:List Int→List Int→Value→Prop):List MapEntry→List (List Int×List Int)→Prop
 | [],[]=>True
 | m :: ms,e :: es=>R e.1 e.2 m.val∧EEnts R ms es
 | _,_=>False
theorem EEnts.mono{R R':List Int→List Int→Value→Prop}:∀ {ms:List MapEntry} {es:List (List Int×List Int)},(∀ e∈es,∀ u,R e.1 e.2 u→R' e.1 e.2 u)→EEnts R ms es→EEnts R' ms es
 | [],[],_,_=>trivial
 | m :: ms,e :: es,f,h=>⟨f e (List.mem_cons_self ..) _ h.1,EEnts.mono (fun e he=>f e (List.mem_cons_of_mem _ he)) h.2⟩
 | [],_ :: _,_,h=>h.elim
 | _ :: _,[],_,h=>h.elim
def Hid(w:World)(ρ:Rho)(b:Nat)(v:MV)(es:List (List Int×List Int)):Prop:=∀ k',v.okind=some k' → ∃ f:List Int→Nat,
 (∀ e∈es,v.excl≠some e.1→ρ.x (f e.1)=some b)∧(∀ e∈es,∀ e'∈es,v.excl≠some e.1→v.excl≠some e'.1→f e.1=f e'.1→e.1=e'.1) ∧
 ∀ ms clock,w.heap[b]?=some (.map ms clock)→EEnts (fun key xs u=>v.excl≠some key→HidOk w (f key) k' xs u) ms.toList es
theorem Hid.mono{w w':World}{ρ ρ':Rho}{b:Nat}{v:MV}{es:List (List Int×List Int)}(h:Hid w ρ b v es)(hb:w'.heap[b]?=w.heap[b]?)(hX:∀ c,ρ.x c=some b→w'.heap[c]?=w.heap[c]?∧ρ'.x c=ρ.x c):Hid w' ρ' b v es:=by
 intro k' hk
 obtain⟨f,h1,h2,h3⟩:=h k' hk
 refine⟨f,fun e he hx=>(hX _ (h1 e he hx)).2.trans (h1 e he hx),h2,fun ms clock hm=>?_⟩
 exact(h3 ms clock (hb.symm.trans hm)).mono fun e he u hu hx=>(hu hx).mono (hX _ (h1 e he hx)).1
theorem Hid.no{w:World}{ρ:Rho}{b:Nat}{v:MV}{es:List (List Int×List Int)}(h:v.okind=none):Hid w ρ b v es:=fun k' hk=>by rw [h] at hk;cases hk
structure MapIs (w:World) (W:Nat→Prop) (ρ:Rho) (b:Nat) (k:IntKind) (kn:Nat) (v:MV) (es:List (List Int×List Int)):Prop where
 ex:∃ (ms:Array MapEntry) (clock:Nat),w.heap[b]?=some (.map ms clock)∧MEnts w W ρ k kn v ms.toList es
 keys:∀ e∈es,keyOk k kn e.1
 nd:(es.map (·.1)).Nodup
 bo:∀ ms clock,w.heap[b]?=some (.map ms clock)→Born ms clock
 hid:Hid w ρ b v es
structure XOk (U:Oth) (w:World) (ρ:Rho) (H:List (Nat×Blk)):Prop where
 l:∀ b M,ρ.x b=some M→b < w.heap.size
 s:∀ b M id n r c L,ρ.x b=some M→lkH id H=.cells n r c→ρ id=some (some L)→L.b≠b
 u:∀ b M,ρ.x b=some M→¬ U.n b
structure BlkOk (U:Oth) (w:World) (ρ:Rho) (H:List (Nat×Blk)) (id n:Nat) (r:AV) (b:Bool):Prop where
 wf:r.isM=false→r.wf
 size:r.size=n
 lies:(ρ id=some none∧n=0) ∨ ∃ L,ρ id=some (some L)∧L.n=n ∧
  (∀ j,j < n → ∃ v,w.cell? ⟨L.b,L.base+j,none⟩=some v∧Rep w (Wr U ρ H) ρ (r.cell j) v)∧(b=true→r.isM=false→Mine w L)∧L.b < w.heap.size
 map:∀ k kn v es,r=.rM k kn v es → ∃ L,ρ id=some (some L)∧MapIs w (Wr U ρ H) ρ L.b k kn v es
 typ:∀ t,r.tag=some t→ρ id=some none ∨ ∃ L,ρ id=some (some L)∧L.ty=t%512∧(t < 512→L.S=L.n)
def WSame(w0 w:World):Prop:=w.os=w0.os∧w.output=w0.output∧w.tape=w0.tape
theorem WSame.refl(w:World):WSame w w:=⟨rfl,rfl,rfl⟩
theorem WSame.trans{a b c:World}(h:WSame a b)(h':WSame b c):WSame a c:=⟨h'.1.trans h.1,h'.2.1.trans h.2.1,h'.2.2.trans h.2.2⟩
structure Sim (U:Oth) (G:Nat→Option AV) (w0:World) (W0:Nat→Prop) (ρ:Rho) (s:St) (a:Act) (w:World):Prop where
 tm:∀ t,Rep w (Wr U ρ s.heap) ρ (lk t s.tmps) (a.tmps.getD t Go.undef)
 nt:a.tmps.size=s.nt
 df:a.defers=[]
 bl:∀ id n r b,lkH id s.heap=.cells n r b→BlkOk U w ρ s.heap id n r b
 sep:∀ id id' n r n' r' b' L L',lkH id s.heap=.cells n r true→lkH id' s.heap=.cells n' r' b'→ρ id=some (some L)→ρ id'=some (some L')→L.b=L'.b→id=id'
 dom:∀ id,ρ id≠none→hasKey id s.heap=true
 fr:∀ b,b < w0.heap.size→¬ W0 b→w.heap[b]?=w0.heap[b]?
 wo:∀ b,WrO ρ s.heap b→W0 b∨w0.heap.size≤b
 sz:w0.heap.size≤w.heap.size
 gl:GOk G w0 W0
 uo:∀ b,U.n b→b < w0.heap.size∧¬ W0 b
 ug:∀ g r,G g=some r→r.leafB=true→¬ U.v g
 su:∀ id n r b L,lkH id s.heap=.cells n r b→ρ id=some (some L)→¬ U.n L.b
 ini:∀ id x,U.ini id=some x→ρ id=some x
 im:∀ id,U.ini id≠none→id < s.m
 sm:WSame w0 w
 xk:XOk U w ρ s.heap
variable {U : Oth} {G : Nat → Option AV} {w0 : World} {W0 : Nat → Prop} {ρ : Rho} {s : St} {a : Act} {w : World}
theorem cell_of_heap{w w':World}{b:Nat}(h:w'.heap[b]?=w.heap[b]?)(j:Nat):w'.cell? ⟨b,j,none⟩=w.cell? ⟨b,j,none⟩:=by
 unfold World.cell?;simp only [h]
theorem frozen_of_heap{w w':World}{b:Nat}(h:w'.heap[b]?=w.heap[b]?)(j:Nat):w'.frozen? ⟨b,j,none⟩=w.frozen? ⟨b,j,none⟩:=by
 unfold World.frozen?;simp only [h]
theorem lk_put{t d:Nat}{v:AV}{l:List (Nat×AV)}:lk t ((d,v) :: l)=if t=d then v else lk t l:=by
 show(match Nat.beq t d with | true=>v | false=>lk t l)=_
 by_cases h:t=d
 ·subst h;simp
 ·have:Nat.beq t d=false:=by rw [Bool.eq_false_iff];intro h';exact h (Nat.eq_of_beq_eq_true h')
  rw [this,if_neg h]
theorem lkH_put{t d:Nat}{v:Blk}{l:List (Nat×Blk)}:lkH t ((d,v) :: l)=if t=d then v else lkH t l:=by
 show(match Nat.beq t d with | true=>v | false=>lkH t l)=_
 by_cases h:t=d
 ·subst h;simp
 ·have:Nat.beq t d=false:=by rw [Bool.eq_false_iff];intro h';exact h (Nat.eq_of_beq_eq_true h')
  rw [this,if_neg h]
theorem hasKey_put{t d:Nat}{v:Blk}{l:List (Nat×Blk)}:hasKey t ((d,v) :: l)=(decide (t=d) || hasKey t l):=by
 by_cases h:t=d
 ·subst h;simp [hasKey]
 ·have:Nat.beq t d=false:=by rw [Bool.eq_false_iff];intro h';exact h (Nat.eq_of_beq_eq_true h')
  simp [this,h,hasKey]
theorem lkH_none:∀ {l:List (Nat×Blk)} {t:Nat},hasKey t l=false→lkH t l=.gone
 | [],_,_=>rfl
 | (u,b) :: l,t,h=>by
  rw [hasKey_put] at h
  simp only [Bool.or_eq_false_iff,decide_eq_false_iff_not] at h
  rw [lkH_put,if_neg h.1]
  exact lkH_none h.2
theorem tmps_put(a:Act)(d t:Nat)(v:Value)(hd:d < a.tmps.size):(a.put (some d) v).tmps.getD t Go.undef=if t=d then v else a.tmps.getD t Go.undef:=by
 simp only [Act.put,Array.getD_eq_getD_getElem?,Array.getElem?_setIfInBounds]
 by_cases h:t=d
 ·subst h;simp [hd]
 ·simp [h,Ne.symm h]
theorem Sim.put(h:Sim U G w0 W0 ρ s a w){v:AV}{x:Value}(hv:Rep w (Wr U ρ s.heap) ρ v x)(dst:Option Nat):Sim U G w0 W0 ρ (s.put dst v) (a.put dst x) w:=by
 cases dst with
 | none=>exact h
 | some d=>
  have hsize:(a.put (some d) x).tmps.size=a.tmps.size:=by simp [Act.put]
  by_cases hd:d < s.nt
  ·have e:s.put (some d) v={ s with tmps:=(d,v) :: s.tmps }:=by simp [St.put,blt_true hd]
   rw [e]
   exact {
    tm:=fun t=>by
     simp only []
     rw [lk_put,tmps_put _ _ _ _ (by rw [h.nt];exact hd)]
     split
     ·exact hv
     ·exact h.tm t
    nt:=hsize.trans h.nt
    df:=h.df
    bl:=h.bl,sep:=h.sep,dom:=h.dom,fr:=h.fr,wo:=h.wo,sz:=h.sz,gl:=h.gl,uo:=h.uo,ug:=h.ug,su:=h.su,ini:=h.ini,im:=h.im,sm:=h.sm,xk:=h.xk }
  ·have e:s.put (some d) v=s:=by simp [St.put,blt_false (by omega:s.nt≤d)]
   have e':(a.put (some d) x)=a:=by
    simp only [Act.put]
    rw [Array.setIfInBounds_eq_of_size_le (by rw [h.nt];omega)]
   rw [e,e'];exact h
theorem Sim.ev{V:Env}(h:Sim U V.G w0 W0 ρ s a w)(x:Operand):Rep w (Wr U ρ s.heap) ρ (ev V s x) (a.eval x):=by
 cases x with
 | tmp t=>exact h.tm t
 | const v=>
  simp only [Am.ev,Act.eval]
  cases v with
  | bool b=>exact .bool b
  | int k n=>
   simp only [ofVal]
   split
   ·rename_i hk
    simp only [Bool.and_eq_true,decide_eq_true_eq] at hk
    exact .int k n hk
   ·exact .undef _
  | string s=>
   simp only [ofVal]
   split
   ·rename_i hk
    rw [Nat.blt_eq] at hk
    exact .str s hk
   ·exact .undef _
  | pointer p=>cases p with
   | none=>exact .nilp
   | some p=>exact .undef _
  | slice p n c=>cases p with
   | none=>
    cases n with
    | zero=>cases c with
     | zero=>exact .ns
     | succ c=>exact .undef _
    | succ n=>exact .undef _
   | some p=>exact .undef _
  | map m=>cases m with
   | none=>exact .nilm
   | some m=>exact .undef _
  | nilFunc=>exact .nilf
  | _=>exact .undef _
 | global g=>
  simp only [Am.ev,Act.eval]
  split
  ·rename_i r hr
   split
   ·rename_i hl
    obtain⟨h0,hg,hW,vals,hv⟩:=h.gl g r hr hl
    have hcell:∀ j,w.cell? ⟨g,j,none⟩=w0.cell? ⟨g,j,none⟩:=fun j=>cell_of_heap (h.fr g hg hW) j
    have:=Rep.gp (w:=w) (W:=Wr U ρ s.heap) (ρ:=ρ) r r.size 0 0 0 r.size g 0 vals hl rfl (fun _=>rfl) (by simp [ix]) h0
     (fun hw=>hw.elim (h.ug g r hr hl) fun hw=>(h.wo g hw).elim hW (fun h'=>by omega)) (fun j hj=>by rw [Nat.zero_add,hcell];exact(hv j hj).1) (fun j hj=>(hv j hj).2 _ _ _)
    simpa [ix] using this
   ·exact .undef _
  ·exact .undef _
 | func f=>
  simp only [Am.ev,Act.eval]
  split
  ·rename_i hb
   exact .fn f .nil #[] (by rw [Nat.blt_eq] at hb;exact hb) rfl (fun j hj=>by simp [AVs.len] at hj)
  ·exact .undef _
theorem BlkOk.keep'{w w':World}{ρ ρ':Rho}{H H':List (Nat×Blk)}{id n:Nat}{r:AV}{b:Bool}(h:BlkOk U w ρ H id n r b)
  (hfr:∀ b,b < w.heap.size→¬ WrO ρ H b→w'.heap[b]?=w.heap[b]?) (wo:∀ b,WrO ρ' H' b→WrO ρ H b∨w.heap.size≤b)
  (hρ:∀ id x,ρ id=some x→ρ' id=some x) (hsz:w.heap.size≤w'.heap.size) (hL:∀ L,ρ id=some (some L)→L.b < w.heap.size→w'.heap[L.b]?=w.heap[L.b]?)
  (hX:∀ L k kn v es,ρ id=some (some L)→r=.rM k kn v es→L.b < w.heap.size→Hid w ρ L.b v es→Hid w' ρ' L.b v es):BlkOk U w' ρ' H' id n r b where
 wf:=h.wf
 size:=h.size
 lies:=by
  rcases h.lies with ⟨h1,h2⟩ | ⟨L,h1,h2,h3,h4,h5⟩
  ·exact .inl ⟨hρ _ _ h1,h2⟩
  ·have e:=hL L h1 h5
   refine .inr ⟨L,hρ _ _ h1,h2,fun j hj=>?_,fun hb hm=>?_,by omega⟩
   ·obtain⟨v,hv,hr⟩:=h3 j hj
    exact⟨v,(cell_of_heap e _).trans hv,hr.mono (fun b j hb hlt=>cell_of_heap (hfr b hlt fun h=>hb (.inr h)) j) (fun b hlt hb hb'=>hb'.elim (fun h=>hb (.inl h)) fun hb'=>(wo b hb').elim (fun h=>hb (.inr h)) (fun h=>by omega)) hρ⟩
   ·obtain⟨c,t,fr,g1,g2,g3,g4⟩:=h4 hb hm
    exact⟨c,t,fr,e.trans g1,g2,g3,fun j hj=>(frozen_of_heap e j).trans (g4 j hj)⟩
 map:=fun k kn v es hr=>by
  obtain⟨L,h1,h2⟩:=h.map k kn v es hr
  obtain⟨ms,clock,m1,m2⟩:=h2.ex
  have hlt:L.b < w.heap.size:=by
   rcases Nat.lt_or_ge L.b w.heap.size with hlt | hge
   ·exact hlt
   ·rw [Array.getElem?_eq_none hge] at m1;cases m1
  have e:=hL L h1 hlt
  exact⟨L,hρ _ _ h1,⟨⟨ms,clock,e.trans m1,m2.mono fun x u hx=>hx.mono (fun b j hb hlt=>cell_of_heap (hfr b hlt fun h=>hb (.inr h)) j) (fun b hlt hb hb'=>hb'.elim (fun h=>hb (.inl h)) fun hb'=>(wo b hb').elim (fun h=>hb (.inr h)) (fun h=>by omega)) hρ⟩,h2.keys,h2.nd,fun ms clock hh=>h2.bo ms clock (e.symm.trans hh),hX L k kn v es h1 hr hlt h2.hid⟩⟩
 typ:=fun t ht=>by
  rcases h.typ t ht with h0 | ⟨L,h1,h2⟩
  ·exact .inl (hρ _ _ h0)
  ·exact .inr ⟨L,hρ _ _ h1,h2⟩
theorem BlkOk.keep{w w':World}{ρ ρ':Rho}{H H':List (Nat×Blk)}{id n:Nat}{r:AV}{b:Bool}(h:BlkOk U w ρ H id n r b)
  (hfr:∀ b,b < w.heap.size→¬ WrO ρ H b→w'.heap[b]?=w.heap[b]?) (wo:∀ b,WrO ρ' H' b→WrO ρ H b∨w.heap.size≤b)
  (hρ:∀ id x,ρ id=some x→ρ' id=some x) (hsz:w.heap.size≤w'.heap.size) (hL:∀ L,ρ id=some (some L)→L.b < w.heap.size→w'.heap[L.b]?=w.heap[L.b]?)
  (hX:∀ L,ρ id=some (some L) → ∀ c,ρ.x c=some L.b→w'.heap[c]?=w.heap[c]?∧ρ'.x c=ρ.x c):BlkOk U w' ρ' H' id n r b:=
 h.keep' hfr wo hρ hsz hL fun L k kn v es h1 _ hlt hh=>hh.mono (hL L h1 hlt) (hX L h1)
theorem isM_is{r:AV}(h:r.isM=true):∃ k n v es,r=.rM k n v es:=by cases r <;> first | (simp [AV.isM] at h;done) | exact⟨_,_,_,_,rfl⟩
theorem isM_ren{r:AV}(π:Nat→Nat):(r.ren π).isM=r.isM:=by cases r <;> rfl
theorem ren_rM{r:AV}{π:Nat→Nat}{k:IntKind}{n:Nat}{v:MV}{es:List (List Int×List Int)}(h:r.ren π=.rM k n v es):r=.rM k n v es:=by cases r <;> first | exact h | (simp [AV.ren] at h)
theorem mval_ren(v:MV)(xs:List Int)(π:Nat→Nat):(mval v xs).ren π=mval v xs:=by cases v <;> rfl
theorem mval_ids(v:MV)(xs:List Int):(mval v xs).ids=[]:=by cases v <;> rfl
theorem mval_noV{v:MV}(h:v.isSl=false)(xs:List Int):(mval v xs).hasV=false:=by cases v <;> first | rfl | (simp [MV.isSl] at h;done)
theorem row_renM(π:Nat→Nat)(r:AV)(h:r.isM=false→r.wf):((r.ren π).isM=false→(r.ren π).wf)∧(r.ren π).size=r.size ∧ ∀ j,j < r.size→(r.ren π).cell j=(r.cell j).ren π ∧ ∀ id∈(r.cell j).ids,id∈r.ids:=by
 cases hm:r.isM with
 | true=>
  obtain⟨k,n,v,es,rfl⟩:=isM_is hm
  exact⟨(fun h=>by cases h),rfl,fun j hj=>by simp [AV.size] at hj⟩
 | false=>
  obtain⟨h1,h2,h3⟩:=row_ren π r (h hm)
  exact⟨fun _=>h1,h2,h3⟩
theorem Sim.step(h:Sim U G w0 W0 ρ s a w){H':List (Nat×Blk)}{ρ':Rho}{w':World}
  (hfr:∀ b,b < w.heap.size→¬ WrO ρ s.heap b→w'.heap[b]?=w.heap[b]?) (wo:∀ b,WrO ρ' H' b→WrO ρ s.heap b∨w.heap.size≤b)
  (hρ:∀ id x,ρ id=some x→ρ' id=some x) (hsz:w.heap.size≤w'.heap.size) (hsm:WSame w w')
  (bl:∀ id n r b,lkH id H'=.cells n r b→BlkOk U w' ρ' H' id n r b)
  (sep:∀ id id' n r n' r' b' L L',lkH id H'=.cells n r true→lkH id' H'=.cells n' r' b'→ρ' id=some (some L)→ρ' id'=some (some L')→L.b=L'.b→id=id')
  (dom:∀ id,ρ' id≠none→hasKey id H'=true) (su:∀ id n r b L,lkH id H'=.cells n r b→ρ' id=some (some L)→¬ U.n L.b) (xk:XOk U w' ρ' H'):Sim U G w0 W0 ρ' { s with heap:=H' } a w' where
 tm:=fun t=>(h.tm t).mono (fun b j hb hlt=>cell_of_heap (hfr b hlt fun h=>hb (.inr h)) j) (fun b hlt hb hb'=>hb'.elim (fun h=>hb (.inl h)) fun hb'=>(wo b hb').elim (fun h=>hb (.inr h)) (fun h=>by omega)) hρ
 nt:=h.nt
 df:=h.df
 bl:=bl
 sep:=sep
 dom:=dom
 fr:=fun b hb hW=>(hfr b (Nat.lt_of_lt_of_le hb h.sz) (fun hw=>(h.wo b hw).elim hW (fun h'=>by omega))).trans (h.fr b hb hW)
 wo:=fun b hb=>(wo b hb).elim (h.wo b) (fun h'=>.inr (Nat.le_trans h.sz h'))
 sz:=Nat.le_trans h.sz hsz
 gl:=h.gl
 uo:=h.uo
 ug:=h.ug
 su:=su
 ini:=fun id x hx=>hρ id x (h.ini id x hx)
 im:=h.im
 sm:=h.sm.trans hsm
 xk:=xk
theorem XOk.step{w':World}{ρ':Rho}{H H':List (Nat×Blk)}(h:XOk U w ρ H)(hsz:w.heap.size≤w'.heap.size)(hx:∀ b M,ρ'.x b=some M→ρ.x b=some M)
  (hL:∀ id n r c L,lkH id H'=.cells n r c→ρ' id=some (some L)→(∃ id' n' r' c' L',lkH id' H=.cells n' r' c'∧ρ id'=some (some L')∧L'.b=L.b)∨w.heap.size≤L.b):XOk U w' ρ' H' where
 l:=fun b M hb=>Nat.lt_of_lt_of_le (h.l b M (hx b M hb)) hsz
 s:=fun b M id n r c L hb h1 h2=>by
  rcases hL id n r c L h1 h2 with ⟨id',n',r',c',L',g1,g2,g3⟩ | hge
  ·rw [← g3];exact h.s b M id' n' r' c' L' (hx b M hb) g1 g2
  ·have:=h.l b M (hx b M hb);omega
 u:=fun b M hb=>h.u b M (hx b M hb)
theorem Rep.step{H':List (Nat×Blk)}{ρ':Rho}{w':World}{H:List (Nat×Blk)}{x:AV}{v:Value}(h:Rep w (Wr U ρ H) ρ x v)
  (hfr:∀ b,b < w.heap.size→¬ WrO ρ H b→w'.heap[b]?=w.heap[b]?) (wo:∀ b,WrO ρ' H' b→WrO ρ H b∨w.heap.size≤b)
  (hρ:∀ id x,ρ id=some x→ρ' id=some x):Rep w' (Wr U ρ' H') ρ' x v:=
 h.mono (fun b j hb hlt=>cell_of_heap (hfr b hlt fun h=>hb (.inr h)) j) (fun b hlt hb hb'=>hb'.elim (fun h=>hb (.inl h)) fun hb'=>(wo b hb').elim (fun h=>hb (.inr h)) (fun h=>by omega)) hρ
theorem Sim.heapEq(h:Sim U G w0 W0 ρ s a w){w':World}(e:w'.heap=w.heap)(hsm:WSame w w'):Sim U G w0 W0 ρ s a w':=
 h.step (H':=s.heap) (ρ':=ρ) (fun b _ _=>by rw [e]) (fun b hb=>.inl hb) (fun _ _ h=>h) (by rw [e];exact Nat.le_refl _) hsm
  (fun id n r b hl=>(h.bl id n r b hl).keep (fun b _ _=>by rw [e]) (fun b hb=>.inl hb) (fun _ _ h=>h) (by rw [e];exact Nat.le_refl _) (fun L _ _=>by rw [e]) (fun L _ c _=>⟨by rw [e],rfl⟩))
  h.sep h.dom h.su (h.xk.step (by rw [e];exact Nat.le_refl _) (fun _ _ h=>h) fun id n r c L h1 h2=>.inl ⟨id,n,r,c,L,h1,h2,rfl⟩)
theorem Rep.heapEq{H:List (Nat×Blk)}{x:AV}{v:Value}(h:Rep w (Wr U ρ H) ρ x v){w':World}(e:w'.heap=w.heap):Rep w' (Wr U ρ H) ρ x v:=
 h.step (fun b _ _=>by rw [e]) (fun b hb=>.inl hb) (fun _ _ h=>h)
def Rho.set(ρ:Rho)(id:Nat)(x:Option Loc):Rho:=⟨fun i=>if i=id then some x else ρ i,ρ.x⟩
theorem Rho.set_same(ρ:Rho)(id:Nat)(x:Option Loc):(ρ.set id x) id=some x:=by simp [Rho.set]
theorem Rho.set_other(ρ:Rho){id i:Nat}(x:Option Loc)(h:i≠id):(ρ.set id x) i=ρ i:=by simp [Rho.set,h]
theorem Sim.loc_lt(h:Sim U G w0 W0 ρ s a w){id n:Nat}{r:AV}{b:Bool}{L:Loc}(hl:lkH id s.heap=.cells n r b)(hL:ρ id=some (some L)):L.b < w.heap.size:=by
 rcases(h.bl id n r b hl).lies with ⟨h1,_⟩ | ⟨L',h1,_,_,_,h5⟩
 ·rw [h1] at hL;cases hL
 ·rw [h1] at hL;cases hL;exact h5
theorem Sim.newBlock(h:Sim U G w0 W0 ρ s a w){id n:Nat}{r:AV}{c:Array Value}{t:TypeId}{fr:Nat×Nat}{w':World}
  (hid:hasKey id s.heap=false) (hsm:WSame w w') (hw':w'.heap=w.heap.push (.cells c t fr)) (hr:r.wf) (hs:r.size=n) (hn:n≤c.size)
  (hc:∀ j,j < n→Rep w (Wr U ρ s.heap) ρ (r.cell j) (c.getD j Go.undef)) (hfz:∀ j,j < c.size→¬ (fr.1≤j∧j < fr.2)) (hle:fr.1≤fr.2) (htag:∀ t',r.tag=some t'→t'%512=t∧(t' < 512→c.size=n)) :
  Sim U G w0 W0 (ρ.set id (some ⟨w.heap.size,0,n,c.size,t⟩)) (s.setH id (.cells n r true)) a w' ∧
  (∀ b,b < w.heap.size→w'.heap[b]?=w.heap[b]?) ∧
  (∀ x v,Rep w (Wr U ρ s.heap) ρ x v→Rep w' (Wr U (ρ.set id (some ⟨w.heap.size,0,n,c.size,t⟩)) (s.setH id (.cells n r true)).heap) (ρ.set id (some ⟨w.heap.size,0,n,c.size,t⟩)) x v):=by
 have hne:ρ id=none:=by
  cases hh:ρ id with
  | none=>rfl
  | some x=>have:=h.dom id (by rw [hh];simp);rw [hid] at this;cases this
 have hold:∀ b,b < w.heap.size→w'.heap[b]?=w.heap[b]?:=fun b hb=>by
  rw [hw',Array.getElem?_push,if_neg (by omega)]
 have hnew:w'.heap[w.heap.size]?=some (.cells c t fr):=by rw [hw',Array.getElem?_push,if_pos rfl]
 have hρ:∀ i x,ρ i=some x→(ρ.set id (some ⟨w.heap.size,0,n,c.size,t⟩)) i=some x:=fun i x hx=>by
  rw [Rho.set_other];exact hx
  rintro rfl;rw [hne] at hx;cases hx
 have wo:∀ b,WrO (ρ.set id (some ⟨w.heap.size,0,n,c.size,t⟩)) ((id,.cells n r true) :: s.heap) b→WrO ρ s.heap b∨w.heap.size≤b:=by
  rintro b (hx | ⟨i,n',r',L,h1,h2,h3⟩)
  ·exact .inl (.inl hx)
  rw [lkH_put] at h1
  by_cases hi:i=id
  ·subst hi;rw [Rho.set_same] at h2;cases h2;right;rw [← h3];exact Nat.le_refl _
  ·rw [if_neg hi] at h1;rw [Rho.set_other _ _ hi] at h2;exact .inl (.inr ⟨i,n',r',L,h1,h2,h3⟩)
 have hsz:w.heap.size≤w'.heap.size:=by rw [hw'];simp
 refine⟨?_,hold,fun x v hx=>hx.step (fun b hb _=>hold b hb) wo hρ⟩
 refine h.step (fun b hb _=>hold b hb) wo hρ hsz hsm ?_ ?_ ?_ ?_ (h.xk.step hsz (fun _ _ h=>h) fun i n' r' c' L h1 h2=>?_)
 ·intro i n' r' b hl
  rw [lkH_put] at hl
  by_cases hi:i=id
  ·subst hi
   rw [if_pos rfl] at hl;cases hl
   have hM:=wf_isM hr
   refine⟨fun _=>hr,hs,.inr ⟨_,Rho.set_same _ _ _,rfl,fun j hj=>⟨c.getD j Go.undef,?_,(hc j hj).step (fun b hb _=>hold b hb) wo hρ⟩,fun _ _=>⟨c,t,fr,hnew,⟨rfl,hle⟩,by simp;omega,fun j hj=>?_⟩,by rw [hw'];simp⟩,fun _ _ _ _ e=>absurd e (isM_no hM),fun t' ht=>.inr ⟨_,Rho.set_same _ _ _,(htag t' ht).1.symm,(htag t' ht).2⟩⟩
   ·unfold World.cell?;simp only [hnew,Nat.zero_add]
    have:j < c.size:=by omega
    simp [Array.getD_eq_getD_getElem?,Array.getElem?_eq_getElem this]
   ·unfold World.frozen?;simp only [hnew]
    have:=hfz j hj
    simp only [Bool.and_eq_false_iff,decide_eq_false_iff_not]
    omega
  ·rw [if_neg hi] at hl
   exact(h.bl i n' r' b hl).keep (fun b hb _=>hold b hb) wo hρ hsz (fun L _ hlt=>hold _ hlt) (fun L _ c hc=>⟨hold c (h.xk.l _ _ hc),rfl⟩)
 ·intro i i' n1 r1 n2 r2 b2 L L' h1 h2 h3 h4 h5
  rw [lkH_put] at h1 h2
  by_cases hi:i=id <;> by_cases hi':i'=id
  ·rw [hi,hi']
  ·subst hi
   rw [if_neg hi'] at h2;rw [Rho.set_same] at h3;rw [Rho.set_other _ _ hi'] at h4
   cases h3
   have:=h.loc_lt h2 h4
   simp only at h5;omega
  ·subst hi'
   rw [if_neg hi] at h1;rw [Rho.set_same] at h4;rw [Rho.set_other _ _ hi] at h3
   cases h4
   have:=h.loc_lt h1 h3
   simp only at h5;omega
  ·rw [if_neg hi] at h1;rw [if_neg hi'] at h2;rw [Rho.set_other _ _ hi] at h3;rw [Rho.set_other _ _ hi'] at h4
   exact h.sep i i' n1 r1 n2 r2 b2 L L' h1 h2 h3 h4 h5
 ·intro i hi
  rw [hasKey_put]
  by_cases he:i=id
  ·simp [he]
  ·rw [Rho.set_other _ _ he] at hi;simp [h.dom i hi]
 ·intro i n1 r1 b1 L1 h1 h2 hU
  rw [lkH_put] at h1
  by_cases hi:i=id
  ·subst hi
   rw [Rho.set_same] at h2;cases h2
   have:=(h.uo _ hU).1
   have:=h.sz
   simp only at *
   omega
  ·rw [if_neg hi] at h1;rw [Rho.set_other _ _ hi] at h2
   exact h.su i n1 r1 b1 L1 h1 h2 hU
 ·rw [lkH_put] at h1
  by_cases hi:i=id
  ·subst hi;rw [Rho.set_same] at h2;cases h2;exact .inr (Nat.le_refl _)
  ·rw [if_neg hi] at h1;rw [Rho.set_other _ _ hi] at h2;exact .inl ⟨i,n',r',c',L,h1,h2,rfl⟩
theorem Sim.rewrite(h:Sim U G w0 W0 ρ s a w){id n:Nat}{r r':AV}{L:Loc}{w':World}(hl:lkH id s.heap=.cells n r true)(hL:ρ id=some (some L))(hsm:WSame w w')
  (hw':r'.wf) (hs:r'.size=n) (hsz:w'.heap.size=w.heap.size) (hother:∀ b,b≠L.b→w'.heap[b]?=w.heap[b]?) (hm:Mine w' L)
  (hc:∀ j,j < n → ∃ v,w'.cell? ⟨L.b,L.base+j,none⟩=some v∧Rep w (Wr U ρ s.heap) ρ (r'.cell j) v) (htag:∀ t,r'.tag=some t→r.tag=some t) :
  Sim U G w0 W0 ρ (s.setH id (.cells n r' true)) a w'∧(∀ x v,Rep w (Wr U ρ s.heap) ρ x v→Rep w' (Wr U ρ (s.setH id (.cells n r' true)).heap) ρ x v):=by
 have hWL:WrO ρ s.heap L.b:=.inr ⟨id,n,r,L,hl,hL,rfl⟩
 have hn:L.n=n:=by
  rcases(h.bl id n r true hl).lies with ⟨h1,_⟩ | ⟨L',h1,h2,_⟩
  ·rw [h1] at hL;cases hL
  ·rw [h1] at hL;cases hL;exact h2
 have hfr:∀ b,b < w.heap.size→¬ WrO ρ s.heap b→w'.heap[b]?=w.heap[b]?:=fun b _ hb=>hother b fun e=>hb (e▸hWL)
 have wo:∀ b,WrO ρ ((id,.cells n r' true) :: s.heap) b→WrO ρ s.heap b∨w.heap.size≤b:=by
  rintro b (hx | ⟨i,n',r1,L',h1,h2,h3⟩)
  ·exact .inl (.inl hx)
  rw [lkH_put] at h1
  by_cases hi:i=id
  ·subst hi;exact .inl (.inr ⟨i,n,r,L',hl,h2,h3⟩)
  ·rw [if_neg hi] at h1;exact .inl (.inr ⟨i,n',r1,L',h1,h2,h3⟩)
 refine⟨?_,fun x v hx=>hx.step hfr wo (fun _ _ h=>h)⟩
 refine h.step hfr wo (fun _ _ h=>h) (by omega) hsm ?_ ?_ ?_ ?_ (h.xk.step (by omega) (fun _ _ h=>h) fun i n' r1 c1 L' h1 h2=>?_)
 ·intro i n' r1 b hl1
  rw [lkH_put] at hl1
  by_cases hi:i=id
  ·subst hi
   rw [if_pos rfl] at hl1;cases hl1
   have hM:=wf_isM hw'
   refine⟨fun _=>hw',hs,.inr ⟨L,hL,hn,fun j hj=>?_,fun _ _=>hm,by have:=h.loc_lt hl hL;omega⟩,fun _ _ _ _ e=>absurd e (isM_no hM),fun t ht=>(h.bl _ _ _ _ hl).typ t (htag t ht)⟩
   obtain⟨v,h1,h2⟩:=hc j hj
   exact⟨v,h1,h2.step hfr wo (fun _ _ h=>h)⟩
  ·rw [if_neg hi] at hl1
   refine(h.bl i n' r1 b hl1).keep hfr wo (fun _ _ h=>h) (by omega) (fun L' hL' _=>hother _ fun e=>hi ?_) (fun L' _ c hc=>⟨hother c fun e=>h.xk.s c _ id n r true L hc hl hL e.symm,rfl⟩)
   exact(h.sep id i n r n' r1 b L L' hl hl1 hL hL' e.symm).symm
 ·intro i i' n1 r1 n2 r2 b2 L1 L2 h1 h2 h3 h4 h5
  rw [lkH_put] at h1 h2
  have g1:∃ n1 r1,lkH i s.heap=.cells n1 r1 true:=by
   by_cases hi:i=id
   ·exact⟨n,r,hi▸hl⟩
   ·rw [if_neg hi] at h1;exact⟨_,_,h1⟩
  have g2:∃ n1 r1 b1,lkH i' s.heap=.cells n1 r1 b1:=by
   by_cases hi:i'=id
   ·exact⟨n,r,true,hi▸hl⟩
   ·rw [if_neg hi] at h2;exact⟨_,_,_,h2⟩
  obtain⟨_,_,g1⟩:=g1
  obtain⟨_,_,_,g2⟩:=g2
  exact h.sep i i' _ _ _ _ _ L1 L2 g1 g2 h3 h4 h5
 ·intro i hi
  rw [hasKey_put];simp [h.dom i hi]
 ·intro i n1 r1 b1 L1 h1 h2
  rw [lkH_put] at h1
  by_cases hi:i=id
  ·exact h.su i n r true L1 (hi▸hl) h2
  ·rw [if_neg hi] at h1;exact h.su i n1 r1 b1 L1 h1 h2
 ·rw [lkH_put] at h1
  by_cases hi:i=id
  ·exact .inl ⟨i,n,r,true,L',hi▸hl,h2,rfl⟩
  ·rw [if_neg hi] at h1;exact .inl ⟨i,n',r1,c1,L',h1,h2,rfl⟩
theorem Sim.weaken(h:Sim U G w0 W0 ρ s a w){id:Nat}{b':Blk}(hb':b'=.gone ∨ ∃ n r b,lkH id s.heap=.cells n r b∧b'=.cells n r false):
  Sim U G w0 W0 ρ (s.setH id b') a w∧(∀ x v,Rep w (Wr U ρ s.heap) ρ x v→Rep w (Wr U ρ (s.setH id b').heap) ρ x v):=by
 have hnt:∀ n r,b'≠.cells n r true:=by
  intro n r e
  rcases hb' with h1 | ⟨_,_,_,_,h1⟩ <;> rw [h1] at e <;> cases e
 have wo:∀ b,WrO ρ ((id,b') :: s.heap) b→WrO ρ s.heap b∨w.heap.size≤b:=by
  rintro b (hx | ⟨i,n',r1,L',h1,h2,h3⟩)
  ·exact .inl (.inl hx)
  rw [lkH_put] at h1
  by_cases hi:i=id
  ·rw [if_pos hi] at h1;exact absurd h1 (hnt _ _)
  ·rw [if_neg hi] at h1;exact .inl (.inr ⟨i,n',r1,L',h1,h2,h3⟩)
 refine⟨?_,fun x v hx=>hx.step (fun _ _ _=>rfl) wo (fun _ _ h=>h)⟩
 refine h.step (fun _ _ _=>rfl) wo (fun _ _ h=>h) (Nat.le_refl _) (WSame.refl _) ?_ ?_ ?_ ?_ (h.xk.step (Nat.le_refl _) (fun _ _ h=>h) fun i n' r1 c1 L' h1 h2=>?_)
 ·intro i n' r1 b hl1
  rw [lkH_put] at hl1
  by_cases hi:i=id
  ·subst hi
   rw [if_pos rfl] at hl1
   rcases hb' with h1 | ⟨n,r,b1,hl,h1⟩
   ·rw [h1] at hl1;cases hl1
   ·rw [h1] at hl1;cases hl1
    have:=(h.bl i n' r1 b1 hl).keep (H':=(i,b') :: s.heap) (fun _ _ _=>rfl) wo (fun _ _ h=>h) (Nat.le_refl _) (fun _ _ _=>rfl) (fun _ _ _ _=>⟨rfl,rfl⟩)
    refine⟨this.wf,this.size,?_,this.map,this.typ⟩
    rcases this.lies with g | ⟨L,g1,g2,g3,_,g5⟩
    ·exact .inl g
    ·exact .inr ⟨L,g1,g2,g3,(fun e=>by cases e),g5⟩
  ·rw [if_neg hi] at hl1
   exact(h.bl i n' r1 b hl1).keep (fun _ _ _=>rfl) wo (fun _ _ h=>h) (Nat.le_refl _) (fun _ _ _=>rfl) (fun _ _ _ _=>⟨rfl,rfl⟩)
 ·intro i i' n1 r1 n2 r2 b2 L1 L2 h1 h2 h3 h4 h5
  rw [lkH_put] at h1 h2
  by_cases hi:i=id
  ·rw [if_pos hi] at h1;exact absurd h1 (hnt _ _)
  ·rw [if_neg hi] at h1
   by_cases hi':i'=id
   ·rw [if_pos hi'] at h2
    rcases hb' with e | ⟨n,r,b1,hl,e⟩
    ·rw [e] at h2;cases h2
    ·exact h.sep i i' _ _ _ _ _ L1 L2 h1 (hi'▸hl) h3 h4 h5
   ·rw [if_neg hi'] at h2
    exact h.sep i i' _ _ _ _ _ L1 L2 h1 h2 h3 h4 h5
 ·intro i hi
  rw [hasKey_put];simp [h.dom i hi]
 ·intro i n1 r1 b1 L1 h1 h2
  rw [lkH_put] at h1
  by_cases hi:i=id
  ·rw [if_pos hi] at h1
   rcases hb' with e | ⟨n,r,b2,hl,e⟩
   ·rw [e] at h1;cases h1
   ·exact h.su i n r b2 L1 (hi▸hl) h2
  ·rw [if_neg hi] at h1;exact h.su i n1 r1 b1 L1 h1 h2
 ·rw [lkH_put] at h1
  by_cases hi:i=id
  ·rw [if_pos hi] at h1
   rcases hb' with e | ⟨n,r,b2,hl,e⟩
   ·rw [e] at h1;cases h1
   ·exact .inl ⟨i,n,r,b2,L',hi▸hl,h2,rfl⟩
  ·rw [if_neg hi] at h1;exact .inl ⟨i,n',r1,c1,L',h1,h2,rfl⟩
end Go.Am
end
section
/- Stores leave a block's sign alone. -/
namespace Go.Am
open Go
theorem tag_tail(n:Nat)(v:AV)(t t':AVs):(AV.segs (.cons n v t')).tag=(AV.segs (.cons n v t)).tag:=by
 cases n with
 | zero=>
  cases v with
  | rT ks xs=>cases xs <;> rfl
  | _=>rfl
 | succ n=>rfl
theorem tag_rset{r r' x:AV}{b l i m c:Nat}(h:r.rset b l i m c x=some r'):∀ t,r'.tag=some t→r.tag=some t:=by
 intro t ht
 cases r with
 | segs s=>
  simp only [AV.rset,Option.map_eq_some_iff] at h
  obtain⟨s',h,rfl⟩:=h
  cases s with
  | nil=>simp [AVs.rsetS] at h
  | cons n v tl=>
   simp only [AVs.rsetS] at h
   split at h
   ·rename_i hb
    cases n with
    | zero=>simp at hb
    | succ n=>
     split at h <;> try contradiction
     simp only [Option.map_eq_some_iff] at h
     obtain⟨v',_,rfl⟩:=h
     cases ht
   ·simp only [Option.map_eq_some_iff] at h
    obtain⟨t',_,rfl⟩:=h
    rw [tag_tail n v tl t'] at ht;exact ht
 | rT ks xs=>
  simp only [AV.rset] at h
  split at h <;> try contradiction
  simp only [Option.map_eq_some_iff] at h
  obtain⟨f,_,rfl⟩:=h
  cases ht
 | rI k xs=>cases x <;> simp only [AV.rset,AV.setc] at h <;> (try contradiction);split at h <;> first | contradiction | (injection h with h;subst h;cases ht)
 | rB xs=>cases x <;> simp only [AV.rset,AV.setc] at h <;> first | contradiction | (injection h with h;subst h;cases ht)
 | rS xs=>cases x <;> simp only [AV.rset,AV.setc] at h <;> first | contradiction | (injection h with h;subst h;cases ht)
 | rL k xs=>
  simp only [AV.rset] at h
  unfold AV.setc at h
  split at h <;> try contradiction
  all_goals first
   | (injection h with h;subst h;cases ht;done)
   | (split at h <;> first | contradiction | (injection h with h;subst h;cases ht))
 | one v=>
  simp only [AV.rset] at h
  unfold AV.setc at h
  split at h <;> try contradiction
  all_goals first
   | (injection h with h;subst h;cases ht;done)
   | (split at h <;> first | contradiction | (injection h with h;subst h;cases ht))
 | _=>
  simp only [AV.rset] at h
  unfold AV.setc at h
  split at h <;> contradiction
theorem tag_putpart{r r' x:AV}{s n:Nat}(h:r.putpart s n x=some r'):r'.tag=none:=by
 unfold AV.putpart at h
 split at h <;> try contradiction
 all_goals first
  | (injection h with h;subst h;rfl)
  | (split at h <;> first | contradiction | (injection h with h;subst h;rfl))
theorem tag_rsetN{r r' x:AV}{n b l i m c nt:Nat}(h:r.rsetN n b l i m c nt x=some r'):∀ t,r'.tag=some t→r.tag=some t:=by
 intro t ht
 cases r with
 | segs s=>
  simp only [AV.rsetN] at h
  split at h
  ·split at h <;> try contradiction
   split at h <;> try contradiction
   rename_i h2
   injection h with h;subst h
   rw [h2] at ht;cases ht
  ·simp only [Option.map_eq_some_iff] at h
   obtain⟨s',h,rfl⟩:=h
   cases s with
   | nil=>simp [AVs.rsetNS] at h
   | cons n v tl=>
    simp only [AVs.rsetNS] at h
    split at h
    ·rename_i hb
     cases n with
     | zero=>simp at hb
     | succ n=>
      split at h <;> try contradiction
      simp only [Option.map_eq_some_iff] at h
      obtain⟨v',_,rfl⟩:=h
      cases ht
    ·simp only [Option.map_eq_some_iff] at h
     obtain⟨t',_,rfl⟩:=h
     rw [tag_tail n v tl t'] at ht;exact ht
 | one v=>simp [AV.rsetN] at h
 | rI k xs=>
  simp only [AV.rsetN] at h
  split at h
  ·split at h <;> try contradiction
   split at h <;> try contradiction
   injection h with h;subst h;cases ht
  ·rw [tag_putpart h] at ht;cases ht
 | rB xs=>
  simp only [AV.rsetN] at h
  split at h
  ·split at h <;> try contradiction
   injection h with h;subst h;cases ht
  ·rw [tag_putpart h] at ht;cases ht
 | rS xs=>
  simp only [AV.rsetN] at h
  split at h
  ·split at h <;> try contradiction
   injection h with h;subst h;cases ht
  ·rw [tag_putpart h] at ht;cases ht
 | rL k xs=>
  simp only [AV.rsetN] at h
  split at h
  ·contradiction
  ·rw [tag_putpart h] at ht;cases ht
 | rT ks xs=>
  simp only [AV.rsetN] at h
  split at h <;> try contradiction
  split at h <;> try contradiction
  split at h
  ·split at h <;> try contradiction
   simp only [Option.map_eq_some_iff] at h
   obtain⟨f,_,rfl⟩:=h
   cases ht
  ·split at h <;> try contradiction
   simp only [Option.map_eq_some_iff] at h
   obtain⟨f,_,rfl⟩:=h
   cases ht
 | _=>simp [AV.rsetN] at h
theorem tag_setn{l:AVs}{k:Nat}{u v:AV}(hk:l.nth k=.one u)(hlt:k < l.len):(AV.segs (l.setn k (.one v))).tag=(AV.segs l).tag:=by
 cases l with
 | nil=>rfl
 | cons n w t=>
  cases k with
  | zero=>
   have:w=.one u:=hk
   subst this
   cases n <;> rfl
  | succ k=>exact tag_tail _ _ _ _
theorem app_tag{x y r:AV}(h:x.app y=some r):r.tag=none:=by
 unfold AV.app at h
 split at h <;> try contradiction
 all_goals first
  | (injection h with h;subst h;rfl)
  | (split at h <;> first | contradiction | (injection h with h;subst h;rfl))
theorem appT_spec{e:Nat}{x y r:AV}(h:x.appT e y=some r)(hw:x.wf):Apps x y r∧(∀ t,r.tag=some t→t=e+512∧x.tag=some t)∧x.isM=false:=by
 unfold AV.appT at h
 split at h
 ·rename_i ks n x
  split at h <;> try contradiction
  rename_i z h1 h2
  injection h with h;subst h
  have hA:=app_spec h2
  rw [Nat.beq_eq] at h1
  refine⟨⟨?_,?_,fun k hk=>?_,fun k hy=>?_⟩,fun t ht=>?_,rfl⟩
  ·simp only [AV.wf,AVs.wfS,AV.size,List.length_nil,Nat.zero_mul,true_and,and_true]
   exact hA.wf
  ·simp [AV.size,AVs.sizeS,hA.size]
  ·have hk':k < x.size:=by simpa [AV.size,AVs.sizeS] using hk
   simp only [AV.wf,AVs.wfS] at hw
   simp only [AV.cell]
   rw [cellS_ge (Nat.zero_le k),cellS_ge (Nat.zero_le k),Nat.sub_zero,cellS_lt (by rw [hA.size];omega),cellS_lt (by omega),hA.left k hk']
  ·simp only [AV.wf,AVs.wfS] at hw
   have e1:(AV.segs (.cons 0 (.rT ks []) (.cons n x .nil))).size=x.size:=by simp [AV.size,AVs.sizeS]
   rw [e1]
   simp only [AV.cell]
   rw [cellS_ge (Nat.zero_le _),Nat.sub_zero]
   rw [cellS_lt (by rw [hA.size];omega),hA.right k hy]
  ·exact⟨(by cases ht;exact h1),ht⟩
 ·exact⟨app_spec h,(fun t ht=>by rw [app_tag h] at ht;cases ht),by cases x <;> first | rfl | (simp [AV.app] at h)⟩
theorem appT_isM{e:Nat}{x y r:AV}(h:x.appT e y=some r):x.isM=false:=by
 unfold AV.appT at h
 split at h
 ·rfl
 ·cases x <;> first | rfl | (simp [AV.app] at h)
theorem tag_ren(π:Nat→Nat)(r:AV):(r.ren π).tag=r.tag:=by
 cases r with
 | segs s=>
  cases s with
  | nil=>rfl
  | cons n v t=>
   cases n with
   | succ n=>rfl
   | zero=>
    cases v with
    | rT ks xs=>cases xs <;> rfl
    | _=>rfl
 | _=>rfl
theorem leaf_tag{r:AV}(h:r.leafB=true):r.tag=none:=by cases r <;> first | rfl | (simp [AV.leafB] at h)
theorem tagged_row{T:Tys}{t:Nat}{r:AV}(hw:r.wf):(tagged T t r).wf∧(tagged T t r).size=r.size ∧ ∀ j,(tagged T t r).cell j=r.cell j:=by
 unfold tagged
 split
 ·rename_i s _
  refine⟨?_,?_,fun j=>?_⟩
  ·simp only [AV.wf,AVs.wfS,AV.size,List.length_nil,Nat.zero_mul,true_and]
   simpa only [AV.wf] using hw
  ·simp [AV.size,AVs.sizeS]
  ·simp only [AV.cell]
   rw [cellS_ge (Nat.zero_le j),Nat.sub_zero]
 ·exact⟨hw,rfl,fun _=>rfl⟩
end Go.Am
end
section
/- The table of types against the program's own; zero values. -/
namespace Go.Am
open Go
inductive RK where
 | I (k:IntKind)
 | B
 | S
 | L (k:IntKind)
 | T (ks:List CK)
def CK.zero:CK→Value
 | .int k=>.int k 0
 | .bool=>.bool false
 | .str=>.string ⟨#[]⟩
 | .sl _=>.slice none 0 0
def RK.zero:RK→Nat→Value
 | .I k,_=>.int k 0
 | .B,_=>.bool false
 | .S,_=>.string ⟨#[]⟩
 | .L _,_=>.slice none 0 0
 | .T ks,j=>(ks.getD (j%ks.length) .bool).zero
def RK.unit:RK→Nat
 | .T ks=>ks.length
 | _=>1
def RK.row:RK→Nat→AV
 | .I k,n=>.rI k (List.replicate n 0)
 | .B,n=>.rB (List.replicate n false)
 | .S,n=>.rS (List.replicate n [])
 | .L k,n=>.rL k (List.replicate n [])
 | .T ks,n=>.rT ks (List.replicate (n / ks.length) (ks.map CK.z))
def zkind(T:Tys):Nat→Nat→Option (RK×Nat)
 | 0,_=>none
 | d+1,t=>match (T.at t).d with
  | .int k=>some (.I k,1)
  | .bool=>some (.B,1)
  | .str=>some (.S,1)
  | .slice e=>match (T.at e).d with
   | .int k=>some (.L k,1)
   | _=>none
  | .arr m e=>match zkind T d e with
   | some (k,c)=>some (k,m*c)
   | none=>none
  | .struct fs=>match tks T fs with
   | some ks=>match Nat.blt 1 ks.length with
    | true=>some (.T ks,ks.length)
    | false=>none
   | none=>none
  | _=>none
theorem zrow_kind(T:Tys):∀ (d t n:Nat) (r:AV),zrow T d t n=some r → ∃ k c,zkind T d t=some (k,c)∧r=k.row (n*c)
 | 0,_,_,_,h=>by simp [zrow] at h
 | d+1,t,n,r,h=>by
  simp only [zrow] at h
  simp only [zkind]
  cases hd:(T.at t).d <;> simp only [hd] at h ⊢ <;> try contradiction
  ·injection h with h;exact⟨_,_,rfl,by rw [← h];simp [RK.row]⟩
  ·injection h with h;exact⟨_,_,rfl,by rw [← h];simp [RK.row]⟩
  ·injection h with h;exact⟨_,_,rfl,by rw [← h];simp [RK.row]⟩
  ·rename_i e
   cases he:(T.at e).d <;> simp only [he] at h ⊢ <;> try contradiction
   injection h with h;exact⟨_,_,rfl,by rw [← h];simp [RK.row]⟩
  ·rename_i m e
   obtain⟨k,c,h1,h2⟩:=zrow_kind T d e (n*m) r h
   exact⟨k,m*c,by simp [h1],by rw [h2,Nat.mul_assoc]⟩
  ·rename_i fs
   cases hk:tks T fs with
   | none=>simp only [hk] at h;cases h
   | some ks=>
    simp only [hk] at h ⊢
    cases hl:Nat.blt 1 ks.length with
    | false=>rw [hl] at h;cases h
    | true=>
     rw [hl] at h
     rw [Nat.blt_eq] at hl
     injection h with h
     exact⟨_,_,rfl,by rw [← h];simp only [RK.row];rw [Nat.mul_div_cancel _ (by omega)]⟩
theorem zkind_unit(T:Tys):∀ (d t:Nat) (k:RK) (c:Nat),zkind T d t=some (k,c)→0 < k.unit∧k.unit ∣ c
 | 0,_,_,_,h=>by simp [zkind] at h
 | d+1,t,k,c,h=>by
  simp only [zkind] at h
  cases hd:(T.at t).d <;> simp only [hd] at h <;> try contradiction
  all_goals (try (injection h with h;injection h with h1 h2;subst h1;subst h2;exact⟨Nat.one_pos,Nat.one_dvd _⟩))
  ·rename_i e
   cases he:(T.at e).d <;> simp only [he] at h <;> try contradiction
   injection h with h;injection h with h1 h2;subst h1;subst h2;exact⟨Nat.one_pos,Nat.one_dvd _⟩
  ·rename_i m e
   cases hz:zkind T d e with
   | none=>rw [hz] at h;cases h
   | some p=>
    obtain⟨k',c'⟩:=p
    rw [hz] at h
    injection h with h;injection h with h1 h2;subst h1;subst h2
    obtain⟨q1,q2⟩:=zkind_unit T d e k' c' hz
    exact⟨q1,Nat.dvd_trans q2 (Nat.dvd_mul_left _ _)⟩
  ·rename_i fs
   cases hk:tks T fs with
   | none=>simp only [hk] at h;cases h
   | some ks=>
    simp only [hk] at h
    cases hl:Nat.blt 1 ks.length with
    | false=>rw [hl] at h;cases h
    | true=>
     rw [hl] at h
     rw [Nat.blt_eq] at hl
     injection h with h;injection h with h1 h2;subst h1;subst h2
     exact⟨by show 0 < ks.length;omega,Nat.dvd_refl _⟩
theorem has_zero(k:IntKind):k.has 0:=by cases k <;> exact⟨by decide,by decide⟩
theorem RK.size_row(k:RK)(n:Nat)(h:k.unit ∣ n):(k.row n).size=n:=by
 cases k with
 | T ks=>simp only [RK.row,AV.size,List.length_replicate];exact Nat.div_mul_cancel h
 | _=>simp [RK.row,AV.size]
theorem RK.leaf_row(k:RK)(n:Nat):(k.row n).leafB=true:=by cases k <;> rfl
theorem tval_z(k:CK)(w:World)(W:Nat→Prop)(ρ:Nat→Option (Option Loc)):Rep w W ρ (tval k k.z) k.zero:=by
 cases k with
 | int k=>exact .int k 0 (has_zero k)
 | bool=>exact .bool false
 | str=>exact .str ⟨#[]⟩ (by decide)
 | sl k=>exact .vs0 _ 1 0 none rfl rfl
theorem map_z(ks:List CK)(q:Nat)(h:q < ks.length):(ks.map CK.z).getD q []=(ks.getD q .bool).z:=by
 rw [List.getD_eq_getElem?_getD,List.getD_eq_getElem?_getD,List.getElem?_map,List.getElem?_eq_getElem h]
 rfl
theorem RK.rep_row(k:RK)(n j:Nat)(h:k.unit ∣ n)(hj:j < n)(w:World)(W:Nat→Prop)(ρ:Nat→Option (Option Loc)):Rep w W ρ ((k.row n).cell j) (k.zero j):=by
 cases k with
 | I k=>simp only [RK.row,AV.cell,RK.zero];rw [show(List.replicate n (0:Int)).getD j 0=0 by simp [List.getD_eq_getElem?_getD,List.getElem?_replicate,hj]];exact .int k 0 (has_zero k)
 | B=>simp only [RK.row,AV.cell,RK.zero];rw [show(List.replicate n false).getD j false=false by simp [List.getD_eq_getElem?_getD,List.getElem?_replicate,hj]];exact .bool false
 | S=>
  simp only [RK.row,AV.cell,RK.zero];rw [show(List.replicate n ([]:List Int)).getD j []=[] by simp [List.getD_eq_getElem?_getD,List.getElem?_replicate,hj]]
  exact .str ⟨#[]⟩ (by decide)
 | L k=>
  simp only [RK.row,AV.cell,RK.zero];rw [show(List.replicate n ([]:List Int)).getD j []=[] by simp [List.getD_eq_getElem?_getD,List.getElem?_replicate,hj]]
  exact .vs0 _ 1 0 none rfl rfl
 | T ks=>
  have h0:0 < ks.length:=by
   rcases Nat.eq_zero_or_pos ks.length with h1 | h1
   ·change ks.length ∣ n at h
    rw [h1,Nat.zero_dvd] at h;omega
   ·exact h1
  have hq:j / ks.length < n / ks.length:=Nat.div_lt_div_of_lt_of_dvd h hj
  simp only [RK.row,AV.cell,RK.zero]
  rw [show(List.replicate (n / ks.length) (ks.map CK.z)).getD (j / ks.length) []=ks.map CK.z by rw [List.getD_eq_getElem?_getD,List.getElem?_replicate,if_pos hq];rfl,map_z ks _ (Nat.mod_lt _ h0)]
  exact tval_z _ w W ρ
def veq:Value→Value→Bool
 | .bool a,.bool b=>a==b
 | .int k a,.int l b=>decide (k=l)&&decide (a=b)
 | .string a,.string b=>decide (a.data.toList=[])&&decide (b.data.toList=[])
 | .pointer none,.pointer none=>true
 | .slice none 0 0,.slice none 0 0=>true
 | .map none,.map none=>true
 | .nilFunc,.nilFunc=>true
 | _,_=>false
theorem veq_eq{a b:Value}(h:veq a b=true):a=b:=by
 unfold veq at h
 split at h <;> simp_all
 rename_i a b
 obtain⟨⟨l⟩⟩:=a
 obtain⟨⟨l'⟩⟩:=b
 simp_all
def concZ:AV→Option Value
 | .bool b=>some (.bool b)
 | .int k n=>match decide (n=0) with
  | true=>some (.int k 0)
  | false=>none
 | .str s=>match s with
  | []=>some (.string ⟨#[]⟩)
  | _=>none
 | .nilp=>some (.pointer none)
 | .ns=>some (.slice none 0 0)
 | .nilm=>some (.map none)
 | .nilf=>some .nilFunc
 | .vs (.rI _ []) 0 1=>some (.slice none 0 0)
 | _=>none
theorem concZ_rep{a:AV}{v:Value}(h:concZ a=some v)(w:World)(W:Nat→Prop)(ρ:Nat→Option (Option Loc)):Rep w W ρ a v:=by
 unfold concZ at h
 split at h <;> try contradiction
 all_goals (try (split at h <;> try contradiction))
 all_goals injection h with h
 all_goals subst h
 ·exact .bool _
 ·rename_i hn;rw [decide_eq_true_eq] at hn;subst hn;exact .int _ 0 (has_zero _)
 ·exact .str ⟨#[]⟩ (by decide)
 ·exact .nilp
 ·exact .ns
 ·exact .nilm
 ·exact .nilf
 ·exact .vs0 _ 1 0 none rfl rfl
def aggB(z:Value)(b:Bool):Bool:=match z with
 | .agg _=>b
 | _=>!b
structure TyOk (P:Program) (T:Tys) (t:Nat):Prop where
 size:0 < (T.at t).sz → ∃ i,P.info? t=some i∧i.size=(T.at t).sz
 int:∀ k,(T.at t).d=.int k→P.underlying t=some (.int k)
 bool:(T.at t).d=.bool→P.underlying t=some .bool
 int1:∀ k,(T.at t).d=.int k→(T.at t).sz=1
 bool1:(T.at t).d=.bool→(T.at t).sz=1
 str:(T.at t).d=.str→P.underlying t=some .string
 ptr:∀ e,(T.at t).d=.ptr e→P.underlying t=some (.pointer e)
 slice:∀ e,(T.at t).d=.slice e→P.underlying t=some (.slice e)
 arr:∀ n e,(T.at t).d=.arr n e→P.underlying t=some (.array n e)
 struct:∀ fs,(T.at t).d=.struct fs → ∃ a,P.underlying t=some (.struct a)∧a.toList.map (fun f=>(f.type,f.offset))=fs∧P.stoodInHeld t=false
 names : ∀ fs, (T.at t).d = .struct fs → ∀ a, P.underlying t = some (.struct a) → ∀ f ∈ a.toList, f.name ≠ "_"
 map:∀ k e,(T.at t).d=.map k e→P.underlying t=some (.map k e)
 one:(T.at t).d.isAgg=false→(T.at t).sz=1 → ∃ d,P.underlying t=some d∧(∀ fs,d≠.struct fs) ∧ ∀ n e,d≠.array n e
 bytes:0 < (T.at t).sz → ∀ i,P.info? t=some i→i.bytes≤65536
 zero:∀ r,zvar T 16 t=some r→0 < (T.at t).sz∧r.wf∧r.size=(T.at t).sz ∧ ∃ i z,P.info? t=some i∧i.zero=some z∧z.cells.size=(T.at t).sz ∧ ∀ j,j < (T.at t).sz→concZ (r.cell j)=some (z.cells.getD j Go.undef)
 zagg:∀ r,zvar T 16 t=some r → ∃ i z,P.info? t=some i∧i.zero=some z∧aggB z (T.at t).d.isAgg=true
 kind:∀ k c,zkind T 8 t=some (k,c)→0 < c∧c=(T.at t).sz ∧ ∃ i z,P.info? t=some i∧i.zero=some z∧z.cells.size=c ∧ ∀ j,j < c→z.cells.getD j Go.undef=k.zero j
def TysOk(P:Program)(T:Tys):Prop:=∀ t,TyOk P T t
variable {P : Program} {T : Tys}
theorem TysOk.zrow(h:TysOk P T){e n:Nat}{r:AV}(hz:zrow T 8 e n=some r):0 < (T.at e).sz∧r.leafB=true∧r.size=n*(T.at e).sz ∧
  ∃ i z,P.info? e=some i∧i.size=(T.at e).sz∧i.zero=some z∧z.cells.size=(T.at e).sz ∧ ∀ j,j < n*(T.at e).sz → ∀ w W ρ,Rep w W ρ (r.cell j) (z.cells.getD (j%(T.at e).sz) Go.undef):=by
 obtain⟨k,c,h1,rfl⟩:=zrow_kind T 8 e n r hz
 obtain⟨hu,hd⟩:=zkind_unit T 8 e k c h1
 obtain⟨h0,rfl,i,z,g1,g2,g3,g4⟩:=(h e).kind k c h1
 have hd2:k.unit ∣ n*(T.at e).sz:=Nat.dvd_trans hd (Nat.dvd_mul_left _ _)
 refine⟨h0,k.leaf_row _,k.size_row _ hd2,i,z,g1,?_,g2,g3,fun j hj w W ρ=>?_⟩
 ·obtain⟨i',g1',g5⟩:=(h e).size h0
  rw [g1] at g1';cases g1';exact g5
 ·rw [g4 _ (Nat.mod_lt _ h0)]
  have hz:k.zero (j%(T.at e).sz)=k.zero j:=by
   cases k with
   | T ks=>
    have hd':ks.length ∣ (T.at e).sz:=hd
    simp only [RK.zero];rw [Nat.mod_mod_of_dvd _ hd']
   | _=>rfl
  rw [hz]
  exact k.rep_row _ j hd2 hj w W ρ
theorem run_underlying'{t:TypeId}{d:TypeDesc}(h:P.underlying t=some d)(w:World):(Go.underlying t).run P w=.ok d w:=by
 simp [Go.underlying,program,Sem.run,h]
theorem run_sizeOf'(h:TysOk P T){t:Nat}(h0:0 < (T.at t).sz)(w:World):(sizeOf t).run P w=.ok (T.at t).sz w:=by
 obtain⟨i,g1,g2⟩:=(h t).size h0
 simp [sizeOf,typeInfo,program,Sem.run,g1,g2]
end Go.Am
end