/- Binary operations; loads and stores. -/
import Derived.Test.YtnbgphghghmemaaAmOps2
set_option linter.unusedVariables false
set_option linter.unusedSimpArgs false
namespace Go.Am
open Go
variable {P : Program} {V : Env} {U : Oth} {w0 : World} {W0 : Nat → Prop} {o : Oper} {ρ ρ' : Rho} {s s' : St} {a : Act} {w w' : World} {av : AV}

theorem anil_ok (h : TysOk P V.T) {t : TypeId} {x y : AV} {u v : Value} {W : Nat → Prop} {b : Bool} (hx : Rep w W ρ x u) (hy : Rep w W ρ y v) (hb : anil V.T t x y = some (true, b)) :
    (∀ op ox oy, (eqGuard op t ox oy u v).run P w = .ok () w) ∧ (Op.equal t u v).run P w = .ok b w ∧ ∀ op, op = .eql ∨ op = .neq → binOp op t u v = (do let b ← Op.equal t u v; pure (.bool (cond (op matches .eql) b (!b)))) := by
  unfold anil at hb
  split at hb <;> try contradiction
  · split at hb <;> try contradiction
    rename_i e hd
    have he := (h t).ptr e hd
    simp only [Option.some.injEq, Prod.mk.injEq, true_and] at hb; subst hb
    cases hx with | ptr =>
    cases hy
    refine ⟨fun op ox oy => by unfold eqGuard; cases op <;> rfl, ?_, fun op ho => by rcases ho with rfl | rfl <;> rfl⟩
    have hd' : ∀ d : Nat, ∀ a, (Op.equalIn (d + 1) t (.pointer (some a)) (.pointer none)).run P w = .ok false w := fun d a => by simp [Op.equalIn, run_underlying' he]
    exact hd' 9999 _
  · split at hb <;> try contradiction
    rename_i e hd
    have he := (h t).ptr e hd
    simp only [Option.some.injEq, Prod.mk.injEq, true_and] at hb; subst hb
    cases hx; cases hy
    refine ⟨fun op ox oy => by unfold eqGuard; cases op <;> rfl, ?_, fun op ho => by rcases ho with rfl | rfl <;> rfl⟩
    have hd' : ∀ d : Nat, (Op.equalIn (d + 1) t (.pointer none) (.pointer none)).run P w = .ok true w := fun d => by simp [Op.equalIn, run_underlying' he]
    exact hd' 9999
  · split at hb <;> try contradiction
    rename_i e hd
    have he := (h t).slice e hd
    simp only [Option.some.injEq, Prod.mk.injEq, decide_eq_true_eq] at hb
    obtain ⟨hlt, rfl⟩ := hb
    cases hx with
    | own0 => omega
    | own =>
      cases hy
      refine ⟨fun op ox oy => by unfold eqGuard; cases op <;> rfl, ?_, fun op ho => by rcases ho with rfl | rfl <;> rfl⟩
      have hd' : ∀ d : Nat, ∀ a n c, (Op.equalIn (d + 1) t (.slice (some a) n c) (.slice none 0 0)).run P w = .ok false w := fun d a n c => by simp [Op.equalIn, run_underlying' he]
      exact hd' 9999 _ _ _
  · split at hb <;> try contradiction
    rename_i k e hd
    have he := (h t).map k e hd
    simp only [Option.some.injEq, Prod.mk.injEq, true_and] at hb; subst hb
    cases hx with | mp =>
    cases hy
    refine ⟨fun op ox oy => by unfold eqGuard; cases op <;> rfl, ?_, fun op ho => by rcases ho with rfl | rfl <;> rfl⟩
    have hd' : ∀ d : Nat, ∀ b, (Op.equalIn (d + 1) t (.map (some b)) (.map none)).run P w = .ok false w := fun d b => by simp [Op.equalIn, run_underlying' he]
    exact hd' 9999 _
theorem abin_ok (h : TysOk P V.T) {op : BinOp} {t : TypeId} {x y : AV} {u v : Value} {W : Nat → Prop} (hx : Rep w W ρ x u) (hy : Rep w W ρ y v) (hb : abin V.T t op x y = some (true, av)) (ox oy : Operand) :
    ∃ r, (do eqGuard op t ox oy u v; binOp op t u v : Sem Value).run P w = .ok r w ∧ Rep w W ρ av r := by
  unfold abin at hb
  split at hb
  · rename_i k x l y
    cases hx with | int _ _ hx =>
    cases hy with | int _ _ hy =>
    simp only [Sem.run_bind, eqGuard_int, Result.andThen_ok]
    split at hb
    · simp only [Option.some.injEq, Prod.mk.injEq, decide_eq_true_eq] at hb
      obtain ⟨h1, rfl⟩ := hb
      exact ⟨_, (shift_ok (k := k) (l := l) hx h1).1, .int _ _ (wrap_has _ _)⟩
    · simp only [Option.some.injEq, Prod.mk.injEq, decide_eq_true_eq] at hb
      obtain ⟨h1, rfl⟩ := hb
      exact ⟨_, (shift_ok (k := k) (l := l) hx h1).2, .int _ _ (fdiv_has _ _ _ hx)⟩
    · split at hb <;> try contradiction
      rename_i hk
      rw [decide_eq_true_eq] at hk; subst hk
      obtain ⟨r, h1, h2⟩ := binOp_ok (P := P) (w := w) (t := t) hx hy hb
      exact ⟨r, h1, h2 _ _⟩
  · cases hx; cases hy
    simp only [Sem.run_bind, eqGuard_str, Result.andThen_ok]
    obtain ⟨r, h1, h2⟩ := sbin_ok (P := P) (w := w) (t := t) hb
    exact ⟨r, h1, h2 _ _⟩
  · rename_i x y
    cases hx; cases hy
    simp only [Sem.run_bind, eqGuard_bool, Result.andThen_ok]
    split at hb <;> try contradiction
    · rename_i hd
      simp only [Option.some.injEq, Prod.mk.injEq, true_and] at hb; subst hb
      exact ⟨_, by simp only [binOp, Sem.run_bind, run_equal_bool w t x y ((h t).bool hd), Result.andThen_ok, Sem.run_pure], .bool _⟩
    · rename_i hd
      simp only [Option.some.injEq, Prod.mk.injEq, true_and] at hb; subst hb
      exact ⟨_, by simp only [binOp, Sem.run_bind, run_equal_bool w t x y ((h t).bool hd), Result.andThen_ok, Sem.run_pure], .bool _⟩
  · rename_i n x m y
    split at hb <;> try contradiction
    · simp only [Option.map_eq_some_iff] at hb
      obtain ⟨b, h1, h2⟩ := hb
      cases h2
      obtain ⟨g1, g2⟩ := run_equal_agg h hx hy h1
      have hg := g2 .eql ox oy
      cases hx; cases hy
      simp only [Sem.run_bind, hg, Result.andThen_ok]
      exact ⟨_, by simp only [binOp, Sem.run_bind, g1, Result.andThen_ok, Sem.run_pure], .bool _⟩
    · simp only [Option.map_eq_some_iff] at hb
      obtain ⟨b, h1, h2⟩ := hb
      cases h2
      obtain ⟨g1, g2⟩ := run_equal_agg h hx hy h1
      have hg := g2 .neq ox oy
      cases hx; cases hy
      simp only [Sem.run_bind, hg, Result.andThen_ok]
      exact ⟨_, by simp only [binOp, Sem.run_bind, g1, Result.andThen_ok, Sem.run_pure], .bool _⟩
  · -- a slice beside nil
    rename_i r f
    cases hy with | ns =>
    have hn : ∀ b len cap, (f = 2 → b ≠ none) → (f = 3 → b = none) → u = .slice b len cap → ∃ r, (do eqGuard op t ox oy u (.slice none 0 0); binOp op t u (.slice none 0 0) : Sem Value).run P w = .ok r w ∧ Rep w W ρ av r := by
      intro b len cap h2 h3 hu
      subst hu
      have hg : ∀ op, (eqGuard op t ox oy (.slice b len cap) (.slice none 0 0)).run P w = .ok () w := fun op => by
        unfold eqGuard; cases op <;> rfl
      have heq : ∀ e, P.underlying t = some (.slice e) → (Op.equal t (.slice b len cap) (.slice none 0 0)).run P w = .ok b.isNone w := fun e he => by
        have hd : ∀ d : Nat, (Op.equalIn (d + 1) t (.slice b len cap) (.slice none 0 0)).run P w = .ok b.isNone w := fun d => by
          cases b <;> simp [Op.equalIn, run_underlying' he]
        exact hd 9999
      simp only [Sem.run_bind, hg, Result.andThen_ok]
      split at hb <;> try contradiction
      · rename_i e hd
        have he := heq e ((h t).slice e hd)
        split at hb <;> try contradiction
        · simp only [Option.some.injEq, Prod.mk.injEq, true_and] at hb; subst hb
          refine ⟨.bool (b.isNone), by simp only [binOp, Sem.run_bind, he, Result.andThen_ok, Sem.run_pure], ?_⟩
          cases b with
          | none => exact absurd rfl (h2 rfl)
          | some b => exact .bool _
        · simp only [Option.some.injEq, Prod.mk.injEq, true_and] at hb; subst hb
          refine ⟨.bool (b.isNone), by simp only [binOp, Sem.run_bind, he, Result.andThen_ok, Sem.run_pure], ?_⟩
          rw [h3 rfl]; exact .bool _
      · rename_i e hd
        have he := heq e ((h t).slice e hd)
        split at hb <;> try contradiction
        · simp only [Option.some.injEq, Prod.mk.injEq, true_and] at hb; subst hb
          refine ⟨.bool (!b.isNone), by simp only [binOp, Sem.run_bind, he, Result.andThen_ok, Sem.run_pure], ?_⟩
          cases b with
          | none => exact absurd rfl (h2 rfl)
          | some b => exact .bool _
        · simp only [Option.some.injEq, Prod.mk.injEq, true_and] at hb; subst hb
          refine ⟨.bool (!b.isNone), by simp only [binOp, Sem.run_bind, he, Result.andThen_ok, Sem.run_pure], ?_⟩
          rw [h3 rfl]; exact .bool _
    cases hx with
    | vs0 _ _ cap b _ _ hl => exact hn b 0 cap (fun e => by subst e; rcases hl with hl | ⟨_, ⟨_, hl⟩ | ⟨hl, _⟩⟩ <;> first | exact hl | cases hl) (fun e => by subst e; rcases hl with hl | ⟨_, ⟨hl, _⟩ | ⟨_, hl⟩⟩ <;> first | exact hl | cases hl) rfl
    | vs _ _ _ l cap blk base vals hr h0 hnn hp hk => exact hn (some ⟨blk, base, none⟩) l cap (fun _ => by simp) (fun e => by subst e; rcases hk with hk | ⟨_, ⟨hk, _⟩ | hk⟩ <;> simp [klen] at hk) rfl
  · -- something beside nil
    split at hb <;> try contradiction
    · rename_i p b hn
      simp only [Option.some.injEq, Prod.mk.injEq] at hb
      obtain ⟨rfl, rfl⟩ := hb
      obtain ⟨g1, g2, g3⟩ := anil_ok h hx hy hn
      simp only [Sem.run_bind, g1, Result.andThen_ok]
      exact ⟨_, by simp only [g3 .eql (.inl rfl), Sem.run_bind, g2, Result.andThen_ok, Sem.run_pure]; rfl, .bool _⟩
    · rename_i p b hn
      simp only [Option.some.injEq, Prod.mk.injEq] at hb
      obtain ⟨rfl, rfl⟩ := hb
      obtain ⟨g1, g2, g3⟩ := anil_ok h hx hy hn
      simp only [Sem.run_bind, g1, Result.andThen_ok]
      exact ⟨_, by simp only [g3 .neq (.inr rfl), Sem.run_bind, g2, Result.andThen_ok, Sem.run_pure]; rfl, .bool _⟩

theorem Addr.add_mk (b o n : Nat) : (⟨b, o, none⟩ : Addr).add n = ⟨b, o + n, none⟩ := by
  unfold Addr.add; split
  · rename_i h; subst h; rfl
  · rfl

theorem run_loadCells_rep {r : AV} {blk base n : Nat} {vals : Nat → Value} {W : Nat → Prop} (hw : r.wf) (hs : r.size = n)
    (hc : ∀ j, j < n → w.cell? ⟨blk, base + j, none⟩ = some (vals j)) (hr : ∀ j, j < n → Rep w W ρ (r.cell j) (vals j)) :
    ∃ cs, (loadCells ⟨blk, base, none⟩ n).run P w = .ok cs w ∧ Rep w W ρ (.agg n r) (.agg cs) ∧ cs.size = n ∧ ∀ j, j < n → cs.getD j Go.undef = vals j := by
  have h := run_loadCells (P := P) w ⟨blk, base, none⟩ n vals (fun j hj => by rw [Addr.add_mk]; exact hc j hj)
  refine ⟨_, h, ?_, ?_, ?_⟩
  · refine .agg n r _ hw hs (by simp) fun j hj => ?_
    rw [show (((List.range n).map vals).toArray).getD j Go.undef = vals j by simp [Array.getD_eq_getD_getElem?, hj]]
    exact hr j hj
  · simp
  · intro j hj; simp [Array.getD_eq_getD_getElem?, hj]

theorem Sim.cells (h : Sim U V.G w0 W0 ρ s a w) {id n : Nat} {r : AV} {b : Bool} {L : Loc} (hl : lkH id s.heap = .cells n r b) (hL : ρ id = some (some L)) :
    (r.isM = false → r.wf) ∧ r.size = n ∧ L.n = n ∧ ∃ vals : Nat → Value, ∀ j, j < n → w.cell? ⟨L.b, L.base + j, none⟩ = some (vals j) ∧ Rep w (Wr U ρ s.heap) ρ (r.cell j) (vals j) := by
  have hb := h.bl id n r b hl
  refine ⟨hb.wf, hb.size, ?_⟩
  rcases hb.lies with ⟨h1, _⟩ | ⟨L', h1, h2, h3, _, _⟩
  · rw [h1] at hL; cases hL
  · rw [h1] at hL; cases hL
    refine ⟨h2, fun j => (w.cell? ⟨L.b, L.base + j, none⟩).getD Go.undef, fun j hj => ?_⟩
    obtain ⟨v, hv, hr⟩ := h3 j hj
    simp only [hv]; exact ⟨rfl, hr⟩

theorem aload_ok (h : TysOk P V.T) (hs : Sim U V.G w0 W0 ρ s a w) {t : Nat} {p : AV} {u : Value} (hp : Rep w (Wr U ρ s.heap) ρ p u) (hl : aload V t p s = some av) :
    ∃ v, (Instr.loadAt t u).run P w = .ok v w ∧ Rep w (Wr U ρ s.heap) ρ av v := by
  have one : ∀ (blk off : Nat) (v : Value), (V.T.at t).d.isAgg = false → (V.T.at t).sz = 1 → w.cell? ⟨blk, off, none⟩ = some v →
      (Instr.loadAt t (.pointer (some ⟨blk, off, none⟩))).run P w = .ok v w := fun blk off v h1 h2 hc => by
    simp [Instr.loadAt, Instr.sureAddr, loadVar, run_isAgg_one h h1 h2, hc]
  have many : ∀ (blk off : Nat) (r : AV), (V.T.at t).d.isAgg = true → 0 < (V.T.at t).sz → r.wf → r.size = (V.T.at t).sz → (∀ j, j < (V.T.at t).sz → ∃ v, w.cell? ⟨blk, off + j, none⟩ = some v ∧ Rep w (Wr U ρ s.heap) ρ (r.cell j) v) →
      ∃ v, (Instr.loadAt t (.pointer (some ⟨blk, off, none⟩))).run P w = .ok v w ∧ Rep w (Wr U ρ s.heap) ρ (.agg (V.T.at t).sz r) v := fun blk off r h1 h0 hw hsz hc => by
    obtain ⟨cs, g1, g2, _, _⟩ := run_loadCells_rep (P := P) (vals := fun j => (w.cell? ⟨blk, off + j, none⟩).getD Go.undef) hw hsz
      (fun j hj => by obtain ⟨v, hv, _⟩ := hc j hj; rw [hv]; rfl) (fun j hj => by obtain ⟨v, hv, hr⟩ := hc j hj; rw [hv]; exact hr)
    exact ⟨.agg cs, by simp [Instr.loadAt, Instr.sureAddr, loadVar, run_isAgg_many h h1, run_sizeOf' h h0, g1], g2⟩
  unfold aload at hl
  split at hl
  · rename_i id b l i m c rm
    cases hp with | ptr _ _ _ _ _ _ _ L hL hi hx hb h0 =>
    split at hl <;> try contradiction
    rename_i n r bb hH
    obtain ⟨hw, hsz, hn, vals, hv⟩ := hs.cells hH hL
    have hw := hw (size_isM (by omega))
    split at hl
    · rename_i hagg
      split at hl <;> try contradiction
      rename_i hle
      rw [Bool.and_eq_true, Nat.ble_eq, Nat.blt_eq] at hle
      obtain ⟨hle, hz⟩ := hle
      simp only [Option.map_eq_some_iff] at hl
      obtain ⟨r', g1, rfl⟩ := hl
      · have hp := rgetN_spec r n b l i m c _ r' hw hsz hi (by omega) (by omega) hz g1
        refine many _ _ r' hagg hz hp.wf hp.size fun j hj => ⟨vals (b + ix i m c + j), ?_, ?_⟩
        · rw [Nat.add_assoc]; exact (hv (b + ix i m c + j) (by omega)).1
        · rw [hp.cells j hj]; exact (hv _ (by omega)).2
    · rename_i hagg
      split at hl <;> try contradiction
      rename_i h1
      rw [Nat.beq_eq] at h1
      injection hl with hl
      have hagg' : (V.T.at t).d.isAgg = false := by simpa using hagg
      have g := hv (b + ix i m c) (by omega)
      refine ⟨_, one _ _ _ hagg' h1 g.1, ?_⟩
      rcases rget_spec r b l i m c hw (by omega) (by omega) with e | e
      · rw [← hl, e]; exact g.2
      · rw [← hl, e]; exact .undef _
  · rename_i r n i m c rm
    cases hp with | gp _ _ _ _ _ _ blk base vals hr hn hi hx h0 hW hc hrep =>
    split at hl
    · rename_i hagg
      split at hl <;> try contradiction
      rename_i hle
      rw [Bool.and_eq_true, Nat.ble_eq, Nat.blt_eq] at hle
      obtain ⟨hle, hz⟩ := hle
      simp only [Option.map_eq_some_iff] at hl
      obtain ⟨r', g1, rfl⟩ := hl
      · have hp := rgetN_spec r n 0 n i m c _ r' (wf_leaf hr) hn hi (by omega) (by omega) hz g1
        refine many _ _ r' hagg hz hp.wf hp.size fun j hj => ⟨vals (0 + ix i m c + j), ?_, ?_⟩
        · rw [Nat.add_assoc, Nat.zero_add]; exact hc _ (by omega)
        · rw [hp.cells j hj]; exact hrep _ (by omega)
    · rename_i hagg
      split at hl <;> try contradiction
      rename_i h1
      rw [Nat.beq_eq] at h1
      injection hl with hl
      have hagg' : (V.T.at t).d.isAgg = false := by simpa using hagg
      refine ⟨_, one _ _ _ hagg' h1 (hc (ix i m c) (by omega)), ?_⟩
      rcases rget_spec r 0 n i m c (wf_leaf hr) (by omega) (by omega) with e | e
      · rw [← hl, e, Nat.zero_add]; exact hrep _ (by omega)
      · rw [← hl, e]; exact .undef _
  · contradiction

theorem run_store1 {blk off : Nat} {u v : Value} {c : Array Value} {t : TypeId} {fr : Nat × Nat} (hc : w.cell? ⟨blk, off, none⟩ = some u) (hf : w.frozen? ⟨blk, off, none⟩ = false)
    (h1 : ∀ c, v ≠ .agg c) (h2 : ∀ c, v ≠ .tuple c) : (store ⟨blk, off, none⟩ v).run P w = .ok () (w.setCell ⟨blk, off, none⟩ v) := by
  unfold store
  cases v <;> simp_all [Sem.run]

theorem setCell_other {blk off b : Nat} {v : Value} (h : b ≠ blk) : (w.setCell ⟨blk, off, none⟩ v).heap[b]? = w.heap[b]? := by
  simp only [World.setCell, Array.getElem?_modify]
  rw [if_neg (fun e => h e.symm)]
theorem setCell_self {blk off : Nat} {v : Value} {c : Array Value} {t : TypeId} {fr : Nat × Nat} (h : w.heap[blk]? = some (.cells c t fr)) :
    (w.setCell ⟨blk, off, none⟩ v).heap[blk]? = some (.cells (c.setIfInBounds off v) t fr) := by
  simp [World.setCell, Array.getElem?_modify, h]

theorem run_storeCells_mine (blk : Nat) (t : TypeId) (fr : Nat × Nat) (o : Nat) : ∀ (vs : List Value) (i : Nat) (c : Array Value) (w : World), w.heap[blk]? = some (.cells c t fr) → o + i + vs.length ≤ c.size →
    (∀ j, j < c.size → w.frozen? ⟨blk, j, none⟩ = false) → (∀ v ∈ vs, (∀ x, v ≠ .agg x) ∧ ∀ x, v ≠ .tuple x) →
    ∃ w' c', (storeCells ⟨blk, o, none⟩ vs i).run P w = .ok () w' ∧ WSame w w' ∧ w'.heap.size = w.heap.size ∧ (∀ b, b ≠ blk → w'.heap[b]? = w.heap[b]?) ∧ w'.heap[blk]? = some (.cells c' t fr) ∧ c'.size = c.size ∧
      (∀ j, c'.getD j Go.undef = if o + i ≤ j ∧ j < o + i + vs.length then vs.getD (j - (o + i)) Go.undef else c.getD j Go.undef)
  | [], i, c, w, hb, hl, hf, hv => ⟨w, c, by simp [storeCells], WSame.refl _, rfl, fun _ _ => rfl, hb, rfl, fun j => by simp; omega⟩
  | v :: vs, i, c, w, hb, hl, hf, hv => by
    simp only [List.length_cons] at hl
    have hc : w.cell? ⟨blk, o + i, none⟩ = some (c.getD (o + i) Go.undef) := by
      unfold World.cell?; simp only [hb]; simp [Array.getD_eq_getD_getElem?, Array.getElem?_eq_getElem (show o + i < c.size by omega)]
    have h1 := run_store1 (P := P) (c := c) (t := t) (fr := fr) hc (hf (o + i) (by omega)) (hv v (by simp)).1 (hv v (by simp)).2
    have hb' := setCell_self (off := o + i) (v := v) hb
    obtain ⟨w', c', g1, gs, g2, g3, g4, g5, g6⟩ := run_storeCells_mine blk t fr o vs (i + 1) _ (w.setCell ⟨blk, o + i, none⟩ v) hb' (by simp; omega)
      (fun j hj => by rw [World.frozen?_setCell]; exact hf j (by simpa using hj)) (fun u hu => hv u (by simp [hu]))
    refine ⟨w', c', ?_, WSame.trans ⟨by simp [World.setCell], by simp [World.setCell], by simp [World.setCell]⟩ gs, by rw [g2]; simp, fun b hb => (g3 b hb).trans (setCell_other hb), g4, by rw [g5]; simp, fun j => ?_⟩
    · simp only [storeCells, Sem.run_bind, Addr.add_mk, h1, Result.andThen_ok]; exact g1
    · rw [g6 j]
      simp only [List.length_cons]
      by_cases e : j = o + i
      · subst e
        rw [if_neg (by omega), if_pos (by omega)]
        simp [Array.getD_eq_getD_getElem?, show o + i < c.size by omega]
      · by_cases e2 : o + i + 1 ≤ j ∧ j < o + i + 1 + vs.length
        · rw [if_pos (by omega), if_pos (by omega), show j - (o + i) = (j - (o + (i + 1))) + 1 by omega]
          rfl
        · rw [if_neg (by omega), if_neg (by omega)]
          simp [Array.getD_eq_getD_getElem?, Array.getElem?_setIfInBounds, Ne.symm e]
end Go.Am
