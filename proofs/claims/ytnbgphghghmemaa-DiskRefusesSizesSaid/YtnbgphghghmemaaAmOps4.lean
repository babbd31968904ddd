/- Slices as views; stores. -/
import Derived.Test.YtnbgphghghmemaaAmOps3
set_option linter.unusedVariables false
set_option linter.unusedSimpArgs false
namespace Go.Am
open Go
variable {P : Program} {V : Env} {U : Oth} {w0 : World} {W0 : Nat → Prop} {o : Oper} {ρ ρ' : Rho} {s s' : St} {a : Act} {w w' : World} {av : AV}

theorem slen_eq {r : AV} {len l sz : Nat} (h : r.size = l * sz) (hk : len = klen l sz) : slen r len sz = l := by
  unfold slen; unfold klen at hk
  split
  · simpa using h
  · split at hk
    · simp_all
    · exact hk
theorem slen_eqv {r : AV} {len l sz cap : Nat} (h : r.size = l * sz) (hk : len = klen l sz ∨ (sz = 1 ∧ (len = 1 ∧ cap = l ∨ len = 2))) : slen r len sz = l := by
  rcases hk with hk | ⟨rfl, _⟩
  · exact slen_eq h hk
  · unfold slen; simpa using h
theorem slen_zero {r : AV} (h : r.size = 0) (sz : Nat) : slen r 0 sz = 0 := by
  unfold slen; split
  · exact h
  · rfl
theorem slen_zeroV {r : AV} {len sz : Nat} {a : Option Addr} (h : r.size = 0) (hl : len = 0 ∨ (sz = 1 ∧ (len = 2 ∧ a ≠ none ∨ len = 3 ∧ a = none))) : slen r len sz = 0 := by
  rcases hl with rfl | ⟨rfl, _⟩
  · exact slen_zero h sz
  · unfold slen; exact h
theorem klen_zero (sz : Nat) : klen 0 sz = 0 := by unfold klen; split <;> rfl

theorem Sim.not_wr (h : Sim U V.G w0 W0 ρ s a w) {id n : Nat} {r : AV} {b : Bool} {L : Loc} (hl : lkH id s.heap = .cells n r b) (hL : ρ id = some (some L)) :
    ¬ Wr U ρ (s.setH id (.cells n r false)).heap L.b := by
  rintro (hU | ⟨i, n', r', L', h1, h2, h3⟩)
  · exact h.su id n r b L hl hL (U.sub _ hU)
  simp only [St.setH] at h1
  rw [lkH_put] at h1
  by_cases hi : i = id
  · rw [if_pos hi] at h1; cases h1
  · rw [if_neg hi] at h1
    exact hi (h.sep i id _ _ _ _ _ L' L h1 hl h2 hL h3)

theorem Sim.freezeId (h : Sim U V.G w0 W0 ρ s a w) (id : Nat) : Sim U V.G w0 W0 ρ (freezeId s id) a w ∧ ∀ x v, Rep w (Wr U ρ s.heap) ρ x v → Rep w (Wr U ρ (Am.freezeId s id).heap) ρ x v := by
  unfold Am.freezeId
  split
  · rename_i n r b hl; exact h.weaken (.inr ⟨n, r, b, hl, rfl⟩)
  · exact ⟨h, fun _ _ h => h⟩
theorem Sim.freeze (h : Sim U V.G w0 W0 ρ s a w) (v : AV) : Sim U V.G w0 W0 ρ (Am.freeze s v) a w ∧ ∀ x u, Rep w (Wr U ρ s.heap) ρ x u → Rep w (Wr U ρ (Am.freeze s v).heap) ρ x u := by
  unfold Am.freeze
  split
  · exact h.freezeId _
  · exact h.freezeId _
  · exact ⟨h, fun _ _ h => h⟩

theorem Parts.leaf {r r' : AV} {st n : Nat} (h : r.part st n = some r') : r'.leafB = true := by
  cases r <;> simp only [AV.part, Option.some.injEq, reduceCtorEq] at h
  all_goals subst h; rfl
mutual
theorem vpart_leaf : ∀ (r : AV) (b l st n : Nat) (r' : AV), r.vpart b l st n = some r' → r'.leafB = true
  | .segs s, b, l, st, n, r', h => by simp only [AV.vpart] at h; exact vpartS_leaf s b l st n r' h
  | .rI _ _, b, l, st, n, r', h => by simp only [AV.vpart] at h; exact Parts.leaf h
  | .rB _, b, l, st, n, r', h => by simp only [AV.vpart] at h; exact Parts.leaf h
  | .rS _, b, l, st, n, r', h => by simp only [AV.vpart] at h; exact Parts.leaf h
  | .rL _ _, b, l, st, n, r', h => by simp only [AV.vpart] at h; exact Parts.leaf h
  | .one _, b, l, st, n, r', h => by simp only [AV.vpart] at h; exact Parts.leaf h
  | .undef, b, l, st, n, r', h => by simp only [AV.vpart] at h; exact Parts.leaf h
  | .bool _, b, l, st, n, r', h => by simp only [AV.vpart] at h; exact Parts.leaf h
  | .int _ _, b, l, st, n, r', h => by simp only [AV.vpart] at h; exact Parts.leaf h
  | .str _, b, l, st, n, r', h => by simp only [AV.vpart] at h; exact Parts.leaf h
  | .rT _ _, b, l, st, n, r', h => by simp only [AV.vpart] at h; exact Parts.leaf h
  | .agg _ _, b, l, st, n, r', h => by simp only [AV.vpart] at h; exact Parts.leaf h
  | .tup _, b, l, st, n, r', h => by simp only [AV.vpart] at h; exact Parts.leaf h
  | .nilp, b, l, st, n, r', h => by simp only [AV.vpart] at h; exact Parts.leaf h
  | .ptr _ _ _ _ _ _ _, b, l, st, n, r', h => by simp only [AV.vpart] at h; exact Parts.leaf h
  | .gp _ _ _ _ _ _, b, l, st, n, r', h => by simp only [AV.vpart] at h; exact Parts.leaf h
  | .ns, b, l, st, n, r', h => by simp only [AV.vpart] at h; exact Parts.leaf h
  | .own _ _ _, b, l, st, n, r', h => by simp only [AV.vpart] at h; exact Parts.leaf h
  | .sl _ _ _ _ _ _, b, l, st, n, r', h => by simp only [AV.vpart] at h; exact Parts.leaf h
  | .vs _ _ _, b, l, st, n, r', h => by simp only [AV.vpart] at h; exact Parts.leaf h
  | .mp _, b, l, st, n, r', h => by simp only [AV.vpart] at h; exact Parts.leaf h
  | .nilm, b, l, st, n, r', h => by simp only [AV.vpart] at h; exact Parts.leaf h
  | .fn _ _, b, l, st, n, r', h => by simp only [AV.vpart] at h; exact Parts.leaf h
  | .nilf, b, l, st, n, r', h => by simp only [AV.vpart] at h; exact Parts.leaf h
theorem vpartS_leaf : ∀ (s : AVs) (b l st n : Nat) (r' : AV), s.vpartS b l st n = some r' → r'.leafB = true
  | .nil, b, l, st, n, r', h => by simp [AVs.vpartS] at h
  | .cons m v t, b, l, st, n, r', h => by
    simp only [AVs.vpartS] at h
    split at h
    · split at h
      · exact vpart_leaf v b l st n r' h
      · contradiction
    · exact vpartS_leaf t (b - m) l st n r' h
end

theorem part_size0 {r r' : AV} {st : Nat} (h : r.part st 0 = some r') : r'.size = 0 := by
  cases r <;> simp only [AV.part, Option.some.injEq, reduceCtorEq] at h
  all_goals subst h; simp [AV.size]
mutual
theorem vpart_size0 : ∀ (r : AV) (b l st : Nat) (r' : AV), r.vpart b l st 0 = some r' → r'.size = 0
  | .segs s, b, l, st, r', h => by simp only [AV.vpart] at h; exact vpartS_size0 s b l st r' h
  | .rI _ _, b, l, st, r', h => by simp only [AV.vpart] at h; exact part_size0 h
  | .rB _, b, l, st, r', h => by simp only [AV.vpart] at h; exact part_size0 h
  | .rS _, b, l, st, r', h => by simp only [AV.vpart] at h; exact part_size0 h
  | .rL _ _, b, l, st, r', h => by simp only [AV.vpart] at h; exact part_size0 h
  | .one _, b, l, st, r', h => by simp only [AV.vpart] at h; exact part_size0 h
  | .undef, b, l, st, r', h => by simp only [AV.vpart] at h; exact part_size0 h
  | .bool _, b, l, st, r', h => by simp only [AV.vpart] at h; exact part_size0 h
  | .int _ _, b, l, st, r', h => by simp only [AV.vpart] at h; exact part_size0 h
  | .str _, b, l, st, r', h => by simp only [AV.vpart] at h; exact part_size0 h
  | .rT _ _, b, l, st, r', h => by simp only [AV.vpart] at h; exact part_size0 h
  | .agg _ _, b, l, st, r', h => by simp only [AV.vpart] at h; exact part_size0 h
  | .tup _, b, l, st, r', h => by simp only [AV.vpart] at h; exact part_size0 h
  | .nilp, b, l, st, r', h => by simp only [AV.vpart] at h; exact part_size0 h
  | .ptr _ _ _ _ _ _ _, b, l, st, r', h => by simp only [AV.vpart] at h; exact part_size0 h
  | .gp _ _ _ _ _ _, b, l, st, r', h => by simp only [AV.vpart] at h; exact part_size0 h
  | .ns, b, l, st, r', h => by simp only [AV.vpart] at h; exact part_size0 h
  | .own _ _ _, b, l, st, r', h => by simp only [AV.vpart] at h; exact part_size0 h
  | .sl _ _ _ _ _ _, b, l, st, r', h => by simp only [AV.vpart] at h; exact part_size0 h
  | .vs _ _ _, b, l, st, r', h => by simp only [AV.vpart] at h; exact part_size0 h
  | .mp _, b, l, st, r', h => by simp only [AV.vpart] at h; exact part_size0 h
  | .nilm, b, l, st, r', h => by simp only [AV.vpart] at h; exact part_size0 h
  | .fn _ _, b, l, st, r', h => by simp only [AV.vpart] at h; exact part_size0 h
  | .nilf, b, l, st, r', h => by simp only [AV.vpart] at h; exact part_size0 h
theorem vpartS_size0 : ∀ (s : AVs) (b l st : Nat) (r' : AV), s.vpartS b l st 0 = some r' → r'.size = 0
  | .nil, b, l, st, r', h => by simp [AVs.vpartS] at h
  | .cons m v t, b, l, st, r', h => by
    simp only [AVs.vpartS] at h
    split at h
    · split at h
      · exact vpart_size0 v b l st r' h
      · contradiction
    · exact vpartS_size0 t (b - m) l st r' h
end

theorem partE_leaf {r r' : AV} {o len sz : Nat} (h : r.partE o len sz = some r') : r'.leafB = true := by
  unfold AV.partE at h
  split at h
  · split at h <;> try contradiction
    injection h with h; subst h; rfl
  · exact Parts.leaf h
theorem partE_size0 {r r' : AV} {o sz : Nat} (h : r.partE o 0 sz = some r') : r'.size = 0 := by
  unfold AV.partE at h
  split at h
  · split at h <;> try contradiction
    injection h with h; subst h; simp [AV.size]
  · rw [mz_eq, mz_eq, Nat.zero_mul] at h; exact part_size0 h
theorem vpartE_leaf {r r' : AV} {b lim o len sz : Nat} (h : r.vpartE b lim o len sz = some r') : r'.leafB = true := by
  unfold AV.vpartE at h
  split at h
  · split at h <;> try contradiction
    injection h with h; subst h; rfl
  · exact vpart_leaf _ _ _ _ _ _ h
theorem vpartE_size0 {r r' : AV} {b lim o sz : Nat} (h : r.vpartE b lim o 0 sz = some r') : r'.size = 0 := by
  unfold AV.vpartE at h
  split at h
  · split at h <;> try contradiction
    injection h with h; subst h; simp [AV.size]
  · rw [mz_eq, mz_eq, Nat.zero_mul] at h; exact vpart_size0 _ _ _ _ _ h
theorem view_cells (h : TysOk P V.T) (hs : Sim U V.G w0 W0 ρ s a w) {e : Nat} {x : AV} {u : Value} {r : AV} {len sz : Nat} (hx : Rep w (Wr U ρ s.heap) ρ x u) (hv : view V s e x = some (r, len, sz)) :
    r.leafB = true ∧ r.size = len * sz ∧ (0 < sz ∨ len = 0) ∧ len < 4611686018427387904 ∧ ∃ b cap, u = .slice b len cap ∧ len ≤ cap ∧ (len * sz = 0 ∨ ∃ blk base, ∃ vals : Nat → Value, b = some ⟨blk, base, none⟩ ∧
      (∀ j, j < len * sz → w.cell? ⟨blk, base + j, none⟩ = some (vals j) ∧ Rep w (Wr U ρ s.heap) ρ (r.cell j) (vals j)) ∧ ¬ Wr U ρ (freeze s x).heap blk) := by
  unfold view at hv
  split at hv
  · injection hv with hv
    simp only [Prod.mk.injEq] at hv
    obtain ⟨rfl, rfl, rfl⟩ := hv
    cases hx with
    | vs0 _ _ cap b hr hn hl => rw [slen_zeroV hn hl]; exact ⟨hr, by simp [hn], .inr rfl, by omega, b, cap, rfl, Nat.zero_le _, .inl (by simp)⟩
    | vs _ _ _ l cap blk base vals hr h0 hn hp hk hcap hm hW hc hrep =>
      rw [slen_eqv hn hk]
      exact ⟨hr, hn, .inl h0, hm, _, cap, rfl, hcap, .inr ⟨blk, base, vals, rfl, fun j hj => ⟨hc j hj, hrep j hj⟩, hW⟩⟩
  · simp only [Option.map_eq_some_iff, Prod.mk.injEq] at hv
    obtain ⟨r', h1, rfl, rfl, rfl⟩ := hv
    cases hx with | ns =>
    obtain ⟨_, g1, g2, _⟩ := h.zrow h1
    exact ⟨g1, by rw [g2], .inr rfl, by omega, none, 0, rfl, Nat.le_refl _, .inl (by simp)⟩
  · rename_i id len0 sz0
    split at hv <;> try contradiction
    rename_i n r1 bb hl
    split at hv <;> try contradiction
    rename_i hleaf
    injection hv with hv
    simp only [Prod.mk.injEq] at hv
    obtain ⟨rfl, rfl, rfl⟩ := hv
    cases hx with
    | own0 _ _ b hL =>
      have hb := hs.bl id n r1 bb hl
      have hz : r1.size = 0 := by
        rcases hb.lies with ⟨_, h2⟩ | ⟨L, h1, _⟩
        · rw [hb.size, h2]
        · rw [hL] at h1; cases h1
      rw [slen_zero hz]
      exact ⟨hleaf, by simp [hz], .inr rfl, by omega, b, 0, rfl, Nat.le_refl _, .inl (by simp)⟩
    | own _ _ _ l cap L hL hn hk hcap hS h0 hm =>
      obtain ⟨hw, hsz, hLn, vals, hv⟩ := hs.cells hl hL
      have hsz' : r1.size = l * sz0 := by omega
      rw [slen_eq hsz' hk]
      refine ⟨hleaf, hsz', .inl h0, hm, _, cap, rfl, hcap, .inr ⟨L.b, L.base, vals, rfl, fun j hj => hv j (by omega), ?_⟩⟩
      simp only [freeze, freezeId, hl]
      exact hs.not_wr hl hL
  · rename_i id b lim o len0 sz0
    split at hv <;> try contradiction
    rename_i n r1 bb hl
    simp only [Option.map_eq_some_iff, Prod.mk.injEq] at hv
    obtain ⟨r', h1, rfl, rfl, rfl⟩ := hv
    have hleaf := vpartE_leaf h1
    cases hx with
    | sl0 _ _ _ _ _ b' =>
      refine ⟨hleaf, ?_, .inr rfl, by omega, b', 0, rfl, Nat.le_refl _, .inl (by simp)⟩
      simp only [Nat.zero_mul]
      exact vpartE_size0 h1
    | sl _ _ _ _ _ _ cap L hL h0 hx hb hcap hm =>
      obtain ⟨hw, hsz, hLn, vals, hv⟩ := hs.cells hl hL
      have hw := hw (by cases r1 <;> first | rfl | (simp [AV.vpartE, AV.vpart, AV.part] at h1))
      have hp := vpartE_spec hw (by rw [← Nat.add_mul]; exact hx) (by omega) h1
      rw [Nat.add_mul] at hx
      refine ⟨hleaf, hp.size, .inl h0, hm, _, cap, rfl, hcap, .inr ⟨L.b, L.base + (b + o * sz0), fun j => vals (b + o * sz0 + j), rfl, fun j hj => ?_, ?_⟩⟩
      · rw [hp.cells j hj, Nat.add_assoc]; exact hv _ (by omega)
      · simp only [freeze, freezeId, hl]
        exact hs.not_wr hl hL
  · contradiction

theorem coerce_ok (h : TysOk P V.T) (hs : Sim U V.G w0 W0 ρ s a w) {e : Nat} {x : AV} {u : Value} {r : AV} {len sz : Nat} (hx : Rep w (Wr U ρ s.heap) ρ x u) (hv : view V s e x = some (r, len, sz)) :
    Rep w (Wr U ρ (freeze s x).heap) ρ (mkvs r len sz) u := by
  obtain ⟨g1, g2, h0, hm, b, cap, rfl, g3, g4⟩ := view_cells h hs hx hv
  have hf := (hs.freeze x).2
  rcases g4 with g4 | ⟨blk, base, vals, rfl, g5, g6⟩
  · have : len = 0 := by rcases Nat.mul_eq_zero.1 g4 with h | h <;> omega
    subst this
    unfold mkvs; rw [klen_zero]
    exact .vs0 r sz cap b g1 (by simpa using g2)
  · by_cases hl : 0 < len
    · exact .vs r _ sz len cap blk base vals g1 (by omega) g2 hl (.inl rfl) g3 hm g6 (fun j hj => (g5 j hj).1) (fun j hj => hf _ _ (g5 j hj).2)
    · have : len = 0 := by omega
      subst this
      unfold mkvs; rw [klen_zero]
      exact .vs0 r sz cap _ g1 (by simpa using g2)

theorem rep_one {x : AV} {u : Value} {W : Nat → Prop} (h : Rep w W ρ x u) (hs : x.scal = true) : Rep w W ρ (.agg 1 (.one x)) (.agg #[u]) :=
  .agg 1 (.one x) #[u] hs rfl rfl fun j hj => by
    have : j = 0 := by omega
    subst this; exact h

theorem Sim.write (hs : Sim U V.G w0 W0 ρ s a w) {id n k m : Nat} {r r' x : AV} {L : Loc} {cs : Array Value} (hl : lkH id s.heap = .cells n r true) (hL : ρ id = some (some L))
    (hset : SetsN r r' k m x) (hx : Rep w (Wr U ρ s.heap) ρ (.agg m x) (.agg cs)) (hk : k + m ≤ n) (hn0 : 0 < n) :
    ∃ w', (storeCells ⟨L.b, L.base + k, none⟩ cs.toList).run P w = .ok () w' ∧ Sim U V.G w0 W0 ρ (s.setH id (.cells n r' true)) a w' ∧
      (∀ y v, Rep w (Wr U ρ s.heap) ρ y v → Rep w' (Wr U ρ (s.setH id (.cells n r' true)).heap) ρ y v) := by
  cases hx with | agg _ _ _ hxw hxs hcs hrep =>
  obtain ⟨hw, hsz, hLn, vals, hv⟩ := hs.cells hl hL
  have hw := hw (size_isM (by omega))
  have hb := hs.bl id n r true hl
  have hm : Mine w L := by
    rcases hb.lies with ⟨h1, _⟩ | ⟨L', h1, _, _, h4, _⟩
    · rw [h1] at hL; cases hL
    · rw [h1] at hL; cases hL; exact h4 rfl (size_isM (by omega))
  obtain ⟨c, t, fr, h1, h2, h3, h4⟩ := hm
  obtain ⟨w', c', g1, gs, g2, g3, g4, g5, g6⟩ := run_storeCells_mine (P := P) L.b t fr (L.base + k) cs.toList 0 c w h1 (by simp; omega) (fun j hj => h4 j (by omega)) (fun v hv => by
    obtain ⟨j, hj, rfl⟩ := List.mem_iff_getElem.1 hv
    have hj' : j < m := by simpa [hcs] using hj
    have e : cs.getD j Go.undef = cs.toList[j] := by simp [Array.getD_eq_getD_getElem?, show j < cs.size by omega]
    have := (hrep j hj').one (cell_scal x j hxw (by omega))
    rw [e] at this
    exact this.2)
  have hfz : ∀ j, j < L.S → w'.frozen? ⟨L.b, j, none⟩ = false := fun j hj => by
    have := h4 j hj
    unfold World.frozen? at this ⊢
    simp only [h1] at this
    simp only [g4]; exact this
  have := hs.rewrite (w' := w') hl hL gs hset.wf (hset.size.trans hsz) g2 g3 ⟨c', t, fr, g4, ⟨g5.trans h2.1, h2.2⟩, h3, hfz⟩ fun j hj => by
    have hlt : L.base + j < c'.size := by omega
    refine ⟨c'.getD (L.base + j) Go.undef, by unfold World.cell?; simp only [g4]; simp [Array.getD_eq_getD_getElem?, Array.getElem?_eq_getElem hlt], ?_⟩
    rw [g6]
    simp only [Nat.add_zero, Array.length_toList]
    by_cases hin : k ≤ j ∧ j < k + m
    · rw [if_pos (by omega)]
      have e := hset.same (j - k) (by omega)
      rw [show k + (j - k) = j by omega] at e
      rw [e, show L.base + j - (L.base + k) = j - k by omega]
      have := hrep (j - k) (by omega)
      simpa [Array.getD_eq_getD_getElem?, List.getD_eq_getElem?_getD] using this
    · rw [if_neg (by omega), hset.other j (by omega) (by omega)]
      have := hv j hj
      have e : w.cell? ⟨L.b, L.base + j, none⟩ = some (c.getD (L.base + j) Go.undef) := by
        unfold World.cell?; simp only [h1]; simp [Array.getD_eq_getD_getElem?, Array.getElem?_eq_getElem (show L.base + j < c.size by omega)]
      rw [e] at this
      have h5 := this.1
      injection h5 with h5
      rw [h5]; exact this.2
  exact ⟨w', g1, this.1, this.2⟩

theorem Sets.setsN {r r' x : AV} {j : Nat} (h : Sets r r' j x) : SetsN r r' j 1 (.one x) where
  wf := h.wf
  size := h.size
  same := fun k hk => by
    have : k = 0 := by omega
    subst this; exact h.same
  other := fun k _ hk => h.other k (by omega)

theorem astore_ok (h : TysOk P V.T) (hs : Sim U V.G w0 W0 ρ s a w) {t : Nat} {p x : AV} {u xv : Value} (hp : Rep w (Wr U ρ s.heap) ρ p u) (hx : Rep w (Wr U ρ s.heap) ρ x xv) (hl : astore V t p x s = some s') :
    ∃ w', (Instr.storeAt t u xv).run P w = .ok () w' ∧ Sim U V.G w0 W0 ρ s' a w' := by
  unfold astore at hl
  split at hl <;> try contradiction
  rename_i id b l i m c rm
  cases hp with | ptr _ _ _ _ _ _ _ L hL hi hxx hb h0 =>
  split at hl <;> try contradiction
  rename_i n r hH
  obtain ⟨hw, hsz, hLn, _⟩ := hs.cells hH hL
  have hw := hw (size_isM (by omega))
  split at hl
  · rename_i hagg
    split at hl <;> try contradiction
    rename_i n' r' hle
    rw [Bool.and_eq_true, Nat.ble_eq, Nat.blt_eq] at hle
    split at hl <;> try contradiction
    rename_i hn'
    rw [Nat.beq_eq] at hn'; subst hn'
    simp only [Option.map_eq_some_iff] at hl
    obtain ⟨r1, g1, rfl⟩ := hl
    cases hx with | agg _ _ cs hxw hxs hcs hrep =>
    have hset := rsetN_spec r n b l i m c _ r' r1 hw hsz hi (by omega) (by omega) hle.2 hxw hxs g1
    obtain ⟨w', g2, g3, _⟩ := hs.write (P := P) hH hL hset (.agg _ r' cs hxw hxs hcs hrep) (by omega) (by omega)
    refine ⟨w', ?_, g3⟩
    simp only [Instr.storeAt, Instr.sureAddr, storeVar, Sem.run_bind, Sem.run_pure, Result.andThen_ok, run_sizeOf' h hle.2, Value.cells, hcs, ne_eq, not_true, if_false]
    exact g2
  · split at hl <;> try contradiction
    rename_i hagg hsc
    rw [Bool.and_eq_true, Nat.beq_eq] at hsc
    obtain ⟨hsc, h1⟩ := hsc
    have fin : ∀ (s : St) (x : AV) (r r1 : AV), Sim U V.G w0 W0 ρ s a w → lkH id s.heap = .cells n r true → r.wf → r.size = n → x.scal = true → Rep w (Wr U ρ s.heap) ρ x xv → r.rset b l i m c x = some r1 →
        ∃ w', (Instr.storeAt t (.pointer (some ⟨L.b, L.base + (b + ix i m c), none⟩)) xv).run P w = .ok () w' ∧ Sim U V.G w0 W0 ρ (s.setH id (.cells n r1 true)) a w' := by
      intro s x r r1 hs hH hw hsz hsc hx g1
      have hset := (rset_spec r b l i m c x r1 hw hsc (by omega) (by omega) g1).setsN
      obtain ⟨w', g2, g3, _⟩ := hs.write (P := P) hH hL hset (rep_one hx hsc) (by omega) (by omega)
      refine ⟨w', ?_, g3⟩
      have hc := (hx.one hsc).1
      simp only [Instr.storeAt, Instr.sureAddr, storeVar, Sem.run_bind, Sem.run_pure, Result.andThen_ok, run_sizeOf' h (show 0 < (V.T.at t).sz by omega), hc, h1, ne_eq, List.size_toArray, List.length_singleton, not_true, if_false]
      exact g2
    split at hl
    · rename_i r1 g1
      injection hl with hl; subst hl
      exact fin s x r r1 hs hH hw hsz hsc hx g1
    · split at hl <;> try contradiction
      rename_i e _
      split at hl <;> try contradiction
      rename_i x' hco
      dsimp only at hl
      split at hl <;> try contradiction
      rename_i n2 r2 hH2
      simp only [Option.map_eq_some_iff] at hl
      obtain ⟨r1, g1, rfl⟩ := hl
      simp only [coerce, Option.map_eq_some_iff] at hco
      obtain ⟨⟨rr, len, sz⟩, hv, rfl⟩ := hco
      have hx' := coerce_ok h hs hx hv
      have hs' := (hs.freeze x).1
      have hb2 := hs'.bl id n2 r2 true hH2
      have hn2 : n2 = n := by
        rcases hb2.lies with ⟨h1, _⟩ | ⟨L', h1, h2, _⟩
        · rw [h1] at hL; cases hL
        · rw [h1] at hL; cases hL; omega
      subst hn2
      exact fin _ _ r2 r1 hs' hH2 (hb2.wf (size_isM (by have := hb2.size; omega))) hb2.size rfl hx' g1
end Go.Am
