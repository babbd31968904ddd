/- When a value of the machine is what an abstract value says. -/
import Derived.Test.YtnbgphghghmemaaAmRow
import Derived.WalkKit
set_option linter.unusedVariables false
set_option linter.unusedSimpArgs false
namespace Go.Am
open Go

structure Loc where
  b : Nat
  base : Nat
  n : Nat
  S : Nat

inductive Rep (w : World) (W : Nat → Prop) (ρ : Nat → Option (Option Loc)) : AV → Value → Prop where
  | undef (v : Value) : Rep w W ρ .undef v
  | bool (b : Bool) : Rep w W ρ (.bool b) (.bool b)
  | int (k : IntKind) (n : Int) (h : k.has n) : Rep w W ρ (.int k n) (.int k n)
  | str (s : ByteArray) (hm : s.size < 4611686018427387904) : Rep w W ρ (.str (bytesOf s)) (.string s)
  | agg (n : Nat) (r : AV) (cs : Array Value) (hw : r.wf) (hr : r.size = n) (hc : cs.size = n) (h : ∀ j, j < n → Rep w W ρ (r.cell j) (cs.getD j Go.undef)) : Rep w W ρ (.agg n r) (.agg cs)
  | tup (vs : AVs) (ws : Array Value) (hl : vs.len = ws.size) (h : ∀ j, j < vs.len → Rep w W ρ (vs.nth j) (ws.getD j Go.undef)) : Rep w W ρ (.tup vs) (.tuple ws)
  | nilp : Rep w W ρ .nilp (.pointer none)
  | ptr (id b l i m c rm : Nat) (L : Loc) (hl : ρ id = some (some L)) (hi : m = 0 → i = 0) (hx : ix i m c + rm ≤ l) (hb : b + l ≤ L.n) (h0 : 0 < rm) :
      Rep w W ρ (.ptr id b l i m c rm) (.pointer (some ⟨L.b, L.base + (b + ix i m c), none⟩))
  | gp (r : AV) (n i m c rm blk base : Nat) (vals : Nat → Value) (hr : r.leafB = true) (hn : r.size = n) (hi : m = 0 → i = 0) (hx : ix i m c + rm ≤ n) (h0 : 0 < rm) (hW : ¬ W blk)
      (hc : ∀ j, j < n → w.cell? ⟨blk, base + j, none⟩ = some (vals j)) (h : ∀ j, j < n → Rep w W ρ (r.cell j) (vals j)) :
      Rep w W ρ (.gp r n i m c rm) (.pointer (some ⟨blk, base + ix i m c, none⟩))
  | ns : Rep w W ρ .ns (.slice none 0 0)
  | own0 (id sz : Nat) (a : Option Addr) (hl : ρ id = some none) : Rep w W ρ (.own id 0 sz) (.slice a 0 0)
  | own (id len sz l cap : Nat) (L : Loc) (hl : ρ id = some (some L)) (hn : l * sz = L.n) (hk : len = klen l sz) (hcap : l ≤ cap) (hS : L.base + cap * sz ≤ L.S) (h0 : 0 < sz) (hm : l < 4611686018427387904) :
      Rep w W ρ (.own id len sz) (.slice (some ⟨L.b, L.base, none⟩) l cap)
  | sl0 (id b lim o sz : Nat) (a : Option Addr) (hl : lim ≤ o * sz) : Rep w W ρ (.sl id b lim o 0 sz) (.slice a 0 0)
  | sl (id b lim o len sz cap : Nat) (L : Loc) (hl : ρ id = some (some L)) (h0 : 0 < sz) (hx : (o + len) * sz ≤ lim) (hb : b + lim ≤ L.n) (hcap : len ≤ cap) (hm : len < 4611686018427387904) (hlim : lim ≤ (o + cap) * sz) (hS : b + (o + cap) * sz ≤ L.n ∨ L.base + (b + (o + cap) * sz) ≤ L.S) :
      Rep w W ρ (.sl id b lim o len sz) (.slice (some ⟨L.b, L.base + (b + o * sz), none⟩) len cap)
  | vs0 (r : AV) {len : Nat} (sz cap : Nat) (a : Option Addr) (hr : r.leafB = true) (hn : r.size = 0) (hl : len = 0 ∨ (sz = 1 ∧ (len = 2 ∧ a ≠ none ∨ len = 3 ∧ a = none)) := by exact .inl rfl) : Rep w W ρ (.vs r len sz) (.slice a 0 cap)
  | vs (r : AV) (len sz l cap blk base : Nat) (vals : Nat → Value) (hr : r.leafB = true) (h0 : 0 < sz) (hn : r.size = l * sz) (hp : 0 < l) (hk : len = klen l sz ∨ (sz = 1 ∧ (len = 1 ∧ cap = l ∨ len = 2))) (hcap : l ≤ cap) (hm : l < 4611686018427387904) (hW : ¬ W blk)
      (hc : ∀ j, j < l * sz → w.cell? ⟨blk, base + j, none⟩ = some (vals j)) (h : ∀ j, j < l * sz → Rep w W ρ (r.cell j) (vals j)) :
      Rep w W ρ (.vs r len sz) (.slice (some ⟨blk, base, none⟩) l cap)
  | nilm : Rep w W ρ .nilm (.map none)
  | fn (f : Nat) (caps : AVs) (cvs : Array Value) (hl : caps.len = cvs.size) (h : ∀ j, j < caps.len → Rep w W ρ (caps.nth j) (cvs.getD j Go.undef)) : Rep w W ρ (.fn f caps) (.func (.func f) #[] cvs)
  | nilf : Rep w W ρ .nilf .nilFunc
  | mp (id : Nat) (L : Loc) (hl : ρ id = some (some L)) : Rep w W ρ (.mp id) (.map (some L.b))

variable {w w' : World} {W W' : Nat → Prop} {ρ ρ' : Nat → Option (Option Loc)}

theorem Rep.mono {a : AV} {v : Value} (h : Rep w W ρ a v) (hc : ∀ b j, ¬ W b → b < w.heap.size → w'.cell? ⟨b, j, none⟩ = w.cell? ⟨b, j, none⟩)
    (hW : ∀ b, b < w.heap.size → ¬ W b → ¬ W' b) (hρ : ∀ id x, ρ id = some x → ρ' id = some x) : Rep w' W' ρ' a v := by
  induction h with
  | undef v => exact .undef v
  | bool b => exact .bool b
  | int k n h => exact .int k n h
  | str s hm => exact .str s hm
  | agg n r cs hw hr hc' h ih => exact .agg n r cs hw hr hc' ih
  | tup vs ws hl h ih => exact .tup vs ws hl ih
  | nilp => exact .nilp
  | ptr id b l i m c rm L hl hi hx hb h0 => exact .ptr id b l i m c rm L (hρ _ _ hl) hi hx hb h0
  | gp r n i m c rm blk base vals hr hn hi hx h0 hW' hc' h ih =>
    have hlt : blk < w.heap.size := block_lt_of_cell (hc' 0 (by omega))
    exact .gp r n i m c rm blk base vals hr hn hi hx h0 (hW _ hlt hW') (fun j hj => (hc _ _ hW' hlt).trans (hc' j hj)) ih
  | ns => exact .ns
  | own0 id sz a hl => exact .own0 id sz a (hρ _ _ hl)
  | own id len sz l cap L hl hn hk hcap hS h0 hm => exact .own id len sz l cap L (hρ _ _ hl) hn hk hcap hS h0 hm
  | sl0 id b lim o sz a hl => exact .sl0 id b lim o sz a hl
  | sl id b lim o len sz cap L hl h0 hx hb hcap hm hlim hS => exact .sl id b lim o len sz cap L (hρ _ _ hl) h0 hx hb hcap hm hlim hS
  | vs0 r sz cap a hr hn hl => exact .vs0 r sz cap a hr hn hl
  | vs r len sz l cap blk base vals hr h0 hn hp hk hcap hm hW' hc' h ih =>
    have hlt : blk < w.heap.size := block_lt_of_cell (hc' 0 (Nat.mul_pos hp h0))
    exact .vs r len sz l cap blk base vals hr h0 hn hp hk hcap hm (hW _ hlt hW') (fun j hj => (hc _ _ hW' hlt).trans (hc' j hj)) ih
  | nilm => exact .nilm
  | fn f caps cvs hl h ih => exact .fn f caps cvs hl ih
  | nilf => exact .nilf
  | mp id L hl => exact .mp id L (hρ _ _ hl)

theorem nth_renL (π : Nat → Nat) : ∀ (s : AVs) (j : Nat), j < s.len → (s.renL π).nth j = (s.nth j).ren π
  | .nil, _, h => by simp [AVs.len] at h
  | .cons n v t, 0, _ => rfl
  | .cons n v t, j + 1, h => nth_renL π t j (by simp [AVs.len] at h; omega)
theorem len_renL (π : Nat → Nat) : ∀ (s : AVs), (s.renL π).len = s.len
  | .nil => rfl
  | .cons n v t => by simp [AVs.renL, AVs.len, len_renL π t]
theorem ids_nth : ∀ (s : AVs) (j : Nat), j < s.len → ∀ id ∈ (s.nth j).ids, id ∈ s.idsL
  | .nil, _, h, _, _ => by simp [AVs.len] at h
  | .cons n v t, 0, _, id, h => by simp only [AVs.idsL, List.mem_append]; exact .inl h
  | .cons n v t, j + 1, hj, id, h => by
    simp only [AVs.idsL, List.mem_append]; exact .inr (ids_nth t j (by simp [AVs.len] at hj; omega) id h)

theorem tval_ids (k : CK) (f : List Int) : (tval k f).ids = [] := by cases k <;> rfl
theorem tval_ren (k : CK) (f : List Int) (π : Nat → Nat) : (tval k f).ren π = tval k f := by cases k <;> rfl
theorem ren_leaf {r : AV} (h : r.leafB = true) (π : Nat → Nat) : r.ren π = r := by cases r <;> simp [AV.leafB] at h <;> rfl
theorem ids_leafcell {r : AV} (h : r.leafB = true) (j : Nat) : (r.cell j).ids = [] := by cases r <;> simp [AV.leafB] at h <;> first | rfl | exact tval_ids _ _
theorem ren_leafcell {r : AV} (h : r.leafB = true) (j : Nat) (π : Nat → Nat) : (r.cell j).ren π = r.cell j := by cases r <;> simp [AV.leafB] at h <;> first | rfl | exact tval_ren _ _ _
theorem wf_leaf {r : AV} (h : r.leafB = true) : r.wf := by cases r <;> simp [AV.leafB] at h <;> trivial
theorem ren_scal {v : AV} (h : v.scal = true) (π : Nat → Nat) : (v.ren π).scal = true := by cases v <;> simp [AV.scal] at h <;> rfl

mutual
theorem row_ren (π : Nat → Nat) : ∀ (r : AV), r.wf → (r.ren π).wf ∧ (r.ren π).size = r.size ∧ ∀ j, j < r.size → (r.ren π).cell j = (r.cell j).ren π ∧ ∀ id ∈ (r.cell j).ids, id ∈ r.ids
  | .segs s, h => by
    have := rows_ren π s (by simpa [AV.wf] using h)
    simpa only [AV.ren, AV.wf, AV.size, AV.cell, AV.ids] using this
  | .rI k xs, h => ⟨trivial, rfl, fun j _ => ⟨rfl, fun id hid => by simp [AV.cell, AV.ids] at hid⟩⟩
  | .rB xs, h => ⟨trivial, rfl, fun j _ => ⟨rfl, fun id hid => by simp [AV.cell, AV.ids] at hid⟩⟩
  | .rS xs, h => ⟨trivial, rfl, fun j _ => ⟨rfl, fun id hid => by simp [AV.cell, AV.ids] at hid⟩⟩
  | .rL k xs, h => ⟨trivial, rfl, fun j _ => ⟨rfl, fun id hid => by simp [AV.cell, AV.ids] at hid⟩⟩
  | .one v, h => by
    refine ⟨ren_scal h π, rfl, fun j hj => ?_⟩
    simp only [AV.size, Nat.lt_one_iff] at hj; subst hj
    exact ⟨rfl, fun id hid => hid⟩
  | .undef, h => h.elim
  | .bool _, h => h.elim
  | .int _ _, h => h.elim
  | .str _, h => h.elim
  | .rT ks xs, h => ⟨trivial, rfl, fun j _ => ⟨by simp only [AV.ren, AV.cell]; exact (tval_ren _ _ π).symm, fun id hid => by simp only [AV.cell, tval_ids] at hid; cases hid⟩⟩
  | .agg _ _, h => h.elim
  | .tup _, h => h.elim
  | .nilp, h => h.elim
  | .ptr _ _ _ _ _ _ _, h => h.elim
  | .gp _ _ _ _ _ _, h => h.elim
  | .ns, h => h.elim
  | .own _ _ _, h => h.elim
  | .sl _ _ _ _ _ _, h => h.elim
  | .vs _ _ _, h => h.elim
  | .mp _, h => h.elim
  | .nilm, h => h.elim
  | .fn _ _, h => h.elim
  | .nilf, h => h.elim
  | .rM _ _ _ _, h => h.elim
theorem rows_ren (π : Nat → Nat) : ∀ (s : AVs), s.wfS → (s.renL π).wfS ∧ (s.renL π).sizeS = s.sizeS ∧ ∀ j, j < s.sizeS → (s.renL π).cellS j = (s.cellS j).ren π ∧ ∀ id ∈ (s.cellS j).ids, id ∈ s.idsL
  | .nil, _ => ⟨trivial, rfl, fun j hj => by simp [AVs.sizeS] at hj⟩
  | .cons n v t, h => by
    obtain ⟨hv, hn, ht⟩ := h
    obtain ⟨a1, a2, a3⟩ := row_ren π v hv
    obtain ⟨b1, b2, b3⟩ := rows_ren π t ht
    refine ⟨⟨a1, a2.trans hn, b1⟩, by simp [AVs.renL, AVs.sizeS, a2, b2], fun j hj => ?_⟩
    simp only [AVs.renL, AVs.idsL, List.mem_append]
    by_cases hlt : j < n
    · rw [cellS_lt hlt, cellS_lt hlt]
      exact ⟨(a3 j (by omega)).1, fun id hid => .inl ((a3 j (by omega)).2 id hid)⟩
    · rw [cellS_ge (by omega), cellS_ge (by omega)]
      have := b3 (j - n) (by simp [AVs.sizeS] at hj; omega)
      exact ⟨this.1, fun id hid => .inr (this.2 id hid)⟩
end

theorem Rep.ren {a : AV} {v : Value} (h : Rep w W ρ a v) (π : Nat → Nat) (hπ : ∀ id ∈ a.ids, ∀ x, ρ id = some x → ρ' (π id) = some x) : Rep w W ρ' (a.ren π) v := by
  induction h with
  | undef v => exact .undef v
  | bool b => exact .bool b
  | int k n h => exact .int k n h
  | str s hm => exact .str s hm
  | agg n r cs hw hr hc' h ih =>
    obtain ⟨b1, b2, b3⟩ := row_ren π r hw
    refine .agg n (r.ren π) cs b1 (b2.trans hr) hc' fun j hj => ?_
    rw [(b3 j (by omega)).1]
    exact ih j hj fun id hid => hπ id (by simpa [AV.ids] using (b3 j (by omega)).2 id hid)
  | tup vs ws hl h ih =>
    refine .tup (vs.renL π) ws (by rw [len_renL, hl]) fun j hj => ?_
    rw [len_renL] at hj
    rw [nth_renL π vs j hj]
    exact ih j hj fun id hid => hπ id (by simpa [AV.ids] using ids_nth vs j hj id hid)
  | nilp => exact .nilp
  | ptr id b l i m c rm L hl hi hx hb h0 => exact .ptr (π id) b l i m c rm L (hπ id (by simp [AV.ids]) _ hl) hi hx hb h0
  | gp r n i m c rm blk base vals hr hn hi hx h0 hW' hc' h ih =>
    exact .gp r n i m c rm blk base vals hr hn hi hx h0 hW' hc' fun j hj => by
      have := ih j hj (by simp [ids_leafcell hr]); rwa [ren_leafcell hr] at this
  | ns => exact .ns
  | own0 id sz a hl => exact .own0 (π id) sz a (hπ id (by simp [AV.ids]) _ hl)
  | own id len sz l cap L hl hn hk hcap hS h0 hm => exact .own (π id) len sz l cap L (hπ id (by simp [AV.ids]) _ hl) hn hk hcap hS h0 hm
  | sl0 id b lim o sz a hl => exact .sl0 (π id) b lim o sz a hl
  | sl id b lim o len sz cap L hl h0 hx hb hcap hm hlim hS => exact .sl (π id) b lim o len sz cap L (hπ id (by simp [AV.ids]) _ hl) h0 hx hb hcap hm hlim hS
  | vs0 r sz cap a hr hn hl => exact .vs0 r sz cap a hr hn hl
  | vs r len sz l cap blk base vals hr h0 hn hp hk hcap hm hW' hc' h ih =>
    exact .vs r len sz l cap blk base vals hr h0 hn hp hk hcap hm hW' hc' fun j hj => by
      have := ih j hj (by simp [ids_leafcell hr]); rwa [ren_leafcell hr] at this
  | nilm => exact .nilm
  | fn f caps cvs hl h ih =>
    refine .fn f (caps.renL π) cvs (by rw [len_renL, hl]) fun j hj => ?_
    rw [len_renL] at hj
    rw [nth_renL π caps j hj]
    exact ih j hj fun id hid => hπ id (by simpa [AV.ids] using ids_nth caps j hj id hid)
  | nilf => exact .nilf
  | mp id L hl => exact .mp (π id) L (hπ id (by simp [AV.ids]) _ hl)

mutual
theorem cell_scal : ∀ (r : AV) (j : Nat), r.wf → j < r.size → (r.cell j).scal = true
  | .segs s, j, h, hj => by simp only [AV.cell]; exact cellS_scal s j (by simpa [AV.wf] using h) (by simpa [AV.size] using hj)
  | .rI _ _, _, _, _ => rfl
  | .rB _, _, _, _ => rfl
  | .rS _, _, _, _ => rfl
  | .rL _ _, _, _, _ => rfl
  | .one v, j, h, hj => by simp only [AV.size, Nat.lt_one_iff] at hj; subst hj; exact h
  | .undef, _, h, _ => h.elim
  | .bool _, _, h, _ => h.elim
  | .int _ _, _, h, _ => h.elim
  | .str _, _, h, _ => h.elim
  | .rT ks xs, _, _, _ => by simp only [AV.cell]; exact tval_scal _ _
  | .agg _ _, _, h, _ => h.elim
  | .tup _, _, h, _ => h.elim
  | .nilp, _, h, _ => h.elim
  | .ptr _ _ _ _ _ _ _, _, h, _ => h.elim
  | .gp _ _ _ _ _ _, _, h, _ => h.elim
  | .ns, _, h, _ => h.elim
  | .own _ _ _, _, h, _ => h.elim
  | .sl _ _ _ _ _ _, _, h, _ => h.elim
  | .vs _ _ _, _, h, _ => h.elim
  | .mp _, _, h, _ => h.elim
  | .nilm, _, h, _ => h.elim
  | .fn _ _, _, h, _ => h.elim
  | .nilf, _, h, _ => h.elim
  | .rM _ _ _ _, _, h, _ => h.elim
theorem cellS_scal : ∀ (s : AVs) (j : Nat), s.wfS → j < s.sizeS → (s.cellS j).scal = true
  | .nil, _, _, h => by simp [AVs.sizeS] at h
  | .cons n v t, j, h, hj => by
    obtain ⟨hv, hn, ht⟩ := h
    by_cases hlt : j < n
    · rw [cellS_lt hlt]; exact cell_scal v j hv (by omega)
    · rw [cellS_ge (by omega)]; exact cellS_scal t (j - n) ht (by simp [AVs.sizeS] at hj; omega)
end

theorem Rep.one {a : AV} {v : Value} (h : Rep w W ρ a v) (hs : a.scal = true) : v.cells = #[v] ∧ (∀ c, v ≠ .agg c) ∧ ∀ c, v ≠ .tuple c := by
  cases h <;> first | (simp [AV.scal] at hs; done) | exact ⟨rfl, fun c => by simp, fun c => by simp⟩
end Go.Am
