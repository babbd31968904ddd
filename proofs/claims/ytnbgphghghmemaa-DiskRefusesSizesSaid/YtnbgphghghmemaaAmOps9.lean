/- Operations that make memory. -/
import Derived.Test.YtnbgphghghmemaaAmOps8
set_option linter.unusedVariables false
set_option linter.unusedSimpArgs false
namespace Go.Am
open Go
variable {P : Program} {V : Env} {U : Oth} {w0 : World} {W0 : Nat → Prop} {o : Oper} {ρ ρ' : Rho} {s s' : St} {a : Act} {w w' : World} {av : AV}

theorem newBlk_spec {i n : Nat} {r : AV} {pre : Bool} {f : Nat → AV} (h : newBlk s i n r pre f = some (true, av, s')) :
    pre = true ∧ hasKey (s.next + 16 * i) s.heap = false ∧ av = f (s.next + 16 * i) ∧ s' = s.setH (s.next + 16 * i) (.cells n r true) := by
  unfold newBlk at h
  split at h <;> try contradiction
  rename_i hk
  simp only [Option.some.injEq, Prod.mk.injEq] at h
  exact ⟨h.1, hk, h.2.1.symm, h.2.2.symm⟩

theorem run_newRow (t : TypeId) (c : Array Value) (w : World) : (newRow t c).run P w = .ok ⟨w.heap.size, 0, none⟩ (w.alloc (.cells c t)) := by
  simp [newRow, newObj, Sem.run]
theorem same_alloc (w : World) (o : Obj) : WSame w (w.alloc o) := ⟨rfl, rfl, rfl⟩
theorem heap_alloc (w : World) (o : Obj) : (w.alloc o).heap = w.heap.push o := rfl

theorem newVar_ok (hs : Sim U V.G w0 W0 ρ s a w) {id n t : Nat} {r : AV} {c : Array Value} (hid : hasKey id s.heap = false) (hc : Rep w (Wr U ρ s.heap) ρ (.agg n r) (.agg c)) (h0 : 0 < n) :
    ∃ ρ', Sim U V.G w0 W0 ρ' (s.setH id (.cells n r true)) a (w.alloc (.cells c t)) ∧ Rep (w.alloc (.cells c t)) (Wr U ρ' (s.setH id (.cells n r true)).heap) ρ' (.ptr id 0 n 0 0 0 n) (.pointer (some ⟨w.heap.size, 0, none⟩)) := by
  cases hc with | agg _ _ _ hw hr hcs hrep =>
  obtain ⟨g1, _, _⟩ := hs.newBlock (c := c) (t := t) (fr := (0, 0)) hid (same_alloc w _) (heap_alloc w _) hw hr (by omega) hrep (fun j _ h => by omega) (Nat.le_refl _)
  refine ⟨_, g1, ?_⟩
  have := Rep.ptr (w := w.alloc (.cells c t)) (W := Wr U (ρ.set id (some ⟨w.heap.size, 0, n, c.size⟩)) (s.setH id (.cells n r true)).heap) id 0 n 0 0 0 n ⟨w.heap.size, 0, n, c.size⟩ (Rho.set_same ρ _ _) (fun _ => rfl) (by simp [ix]) (by simp) h0
  simpa [ix] using this

theorem alloc_ok (h : TysOk P V.T) (hs : Sim U V.G w0 W0 ρ s a w) {t : Nat} (ho : o.op = .alloc t) {i : Nat} (ha : aop V i o s = some (true, av, s')) : OpOk U P V w0 W0 o a w av s' := by
  have ha' := ha
  simp only [aop, ho] at ha
  split at ha <;> try contradiction
  rename_i r hz
  obtain ⟨_, hk, rfl, rfl⟩ := newBlk_spec ha
  obtain ⟨h0, z, g1, g2, g3⟩ := zero_ok h hz w (Wr U ρ s.heap) ρ
  obtain ⟨ρ', q1, q2⟩ := newVar_ok (t := t) hs hk g3 h0
  refine ok_value (v := .pointer (some ⟨w.heap.size, 0, none⟩)) (w' := w.alloc (.cells z.cells t)) ?_ q1 q2
  simp only [execOp, ho]
  exact run_v (by simp [Instr.alloc, g1, newVar, run_newRow])

theorem rep_row {W : Nat → Prop} {x : AV} {v : Value} (hx : Rep w W ρ x v) (hl : x.lies = true) : Rep w W ρ (.agg x.csize x.torow) (.agg v.cells) := by
  cases x <;> simp only [AV.lies, AV.scal, reduceCtorEq, Bool.false_eq_true] at hl
  case agg n r => cases hx; simp only [AV.csize, AV.torow, Value.cells]; constructor <;> assumption
  all_goals
    simp only [AV.csize, AV.torow]
    rw [(hx.one rfl).1]
    exact rep_one hx rfl

theorem Sim.newEmpty (h : Sim U V.G w0 W0 ρ s a w) {id : Nat} {r : AV} (hid : hasKey id s.heap = false) (hr : r.wf) (hs : r.size = 0) :
    Sim U V.G w0 W0 (ρ.set id none) (s.setH id (.cells 0 r true)) a w ∧ (∀ x v, Rep w (Wr U ρ s.heap) ρ x v → Rep w (Wr U (ρ.set id none) (s.setH id (.cells 0 r true)).heap) (ρ.set id none) x v) := by
  have hne : ρ id = none := by
    cases hh : ρ id with
    | none => rfl
    | some x => have := h.dom id (by rw [hh]; simp); rw [hid] at this; cases this
  have hρ : ∀ i x, ρ i = some x → (ρ.set id none) i = some x := fun i x hx => by
    rw [Rho.set_other]; exact hx
    rintro rfl; rw [hne] at hx; cases hx
  have wo : ∀ b, WrO (ρ.set id none) ((id, .cells 0 r true) :: s.heap) b → WrO ρ s.heap b ∨ w.heap.size ≤ b := by
    rintro b ⟨i, n', r', L, h1, h2, h3⟩
    rw [lkH_put] at h1
    by_cases hi : i = id
    · subst hi; rw [Rho.set_same] at h2; cases h2
    · rw [if_neg hi] at h1; rw [Rho.set_other _ _ hi] at h2; exact .inl ⟨i, n', r', L, h1, h2, h3⟩
  refine ⟨h.step (fun _ _ _ => rfl) wo hρ (Nat.le_refl _) (WSame.refl _) ?_ ?_ ?_ ?_, fun x v hx => hx.step (fun _ _ _ => rfl) wo hρ⟩
  · intro i n' r' b hl
    rw [lkH_put] at hl
    by_cases hi : i = id
    · subst hi
      rw [if_pos rfl] at hl; cases hl
      have hM := wf_isM hr
      exact ⟨fun _ => hr, hs, .inl ⟨Rho.set_same _ _ _, rfl⟩, fun _ _ _ _ e => absurd e (isM_no hM)⟩
    · rw [if_neg hi] at hl
      exact (h.bl i n' r' b hl).keep (fun _ _ _ => rfl) wo hρ (Nat.le_refl _) (fun L _ hlt => rfl)
  · intro i i' n1 r1 n2 r2 b2 L L' h1 h2 h3 h4 h5
    rw [lkH_put] at h1 h2
    have hi : i ≠ id := by rintro rfl; rw [Rho.set_same] at h3; cases h3
    have hi' : i' ≠ id := by rintro rfl; rw [Rho.set_same] at h4; cases h4
    rw [if_neg hi] at h1; rw [if_neg hi'] at h2; rw [Rho.set_other _ _ hi] at h3; rw [Rho.set_other _ _ hi'] at h4
    exact h.sep i i' n1 r1 n2 r2 b2 L L' h1 h2 h3 h4 h5
  · intro i hi
    rw [hasKey_put]
    by_cases he : i = id
    · simp [he]
    · rw [Rho.set_other _ _ he] at hi; simp [h.dom i hi]
  · intro i n1 r1 b1 L1 h1 h2
    rw [lkH_put] at h1
    have hi : i ≠ id := by rintro rfl; rw [Rho.set_same] at h2; cases h2
    rw [if_neg hi] at h1; rw [Rho.set_other _ _ hi] at h2
    exact h.su i n1 r1 b1 L1 h1 h2

theorem ownF_keep (h : TysOk P V.T) : ∀ (fs : List (Nat × Nat)) (l : AVs) (id : Nat) {s s' : St} {ρ : Rho} {l' : AVs} {cs : Nat → Value}, Sim U V.G w0 W0 ρ s a w → ownF V fs l id s = some (l', s') → l.wfS → (∀ j, j < l.sizeS → Rep w (Wr U ρ s.heap) ρ (l.cellS j) (cs j)) →
    ∃ ρ', Sim U V.G w0 W0 ρ' s' a w ∧ s'.next = s.next ∧ l'.wfS ∧ l'.sizeS = l.sizeS ∧ (∀ j, j < l.sizeS → Rep w (Wr U ρ' s'.heap) ρ' (l'.cellS j) (cs j)) ∧ ∀ x v, Rep w (Wr U ρ s.heap) ρ x v → Rep w (Wr U ρ' s'.heap) ρ' x v
  | [], l, id, s, s', ρ, l', cs, hs, he, hw, hc => by
    simp only [ownF, Option.some.injEq, Prod.mk.injEq] at he
    obtain ⟨rfl, rfl⟩ := he
    exact ⟨ρ, hs, rfl, hw, rfl, hc, fun _ _ h => h⟩
  | (t, off) :: fs, .nil, id, s, s', ρ, l', cs, hs, he, hw, hc => by
    simp only [ownF, Option.some.injEq, Prod.mk.injEq] at he
    obtain ⟨rfl, rfl⟩ := he
    exact ⟨ρ, hs, rfl, hw, rfl, hc, fun _ _ h => h⟩
  | (t, off) :: fs, .cons n v l, id, s, s', ρ, l', cs, hs, he, hw, hc => by
    obtain ⟨hv, hn, hl⟩ := hw
    have keep : ∀ l1 s1, ownF V fs l id s = some (l1, s1) → ∃ ρ', Sim U V.G w0 W0 ρ' s1 a w ∧ s1.next = s.next ∧ (AVs.cons n v l1).wfS ∧ (AVs.cons n v l1).sizeS = (AVs.cons n v l).sizeS ∧ (∀ j, j < (AVs.cons n v l).sizeS → Rep w (Wr U ρ' s1.heap) ρ' ((AVs.cons n v l1).cellS j) (cs j)) ∧ ∀ x v, Rep w (Wr U ρ s.heap) ρ x v → Rep w (Wr U ρ' s1.heap) ρ' x v := by
      intro l1 s1 h1
      obtain ⟨ρ', g1, g2, g3, g4, g5, g6⟩ := ownF_keep h fs l id hs h1 hl (cs := fun j => cs (n + j)) (fun j hj => by
        have := hc (n + j) (by simp only [AVs.sizeS]; omega)
        rwa [cellS_ge (by omega), Nat.add_sub_cancel_left] at this)
      refine ⟨ρ', g1, g2, ⟨hv, hn, g3⟩, by simp only [AVs.sizeS, g4], fun j hj => ?_, g6⟩
      by_cases hlt : j < n
      · have := hc j hj
        rw [cellS_lt hlt] at this ⊢
        exact g6 _ _ this
      · rw [cellS_ge (by omega)]
        simp only [AVs.sizeS] at hj
        have := g5 (j - n) (by omega)
        rwa [show n + (j - n) = j by omega] at this
    simp only [ownF] at he
    split at he
    · rename_i r0 sz hz
      have hv' : v = .one .ns ∧ ∃ e, zrow V.T 8 e 0 = some r0 := by
        unfold nilSl at hz
        split at hz <;> try contradiction
        split at hz <;> try contradiction
        rename_i hr0
        injection hz with hz; injection hz with hz1 hz2; subst hz1
        exact ⟨rfl, _, hr0⟩
      obtain ⟨rfl, e, hz⟩ := hv'
      split at he <;> try contradiction
      rename_i hkey
      split at he <;> try contradiction
      rename_i l1 s1 h3
      simp only [Option.some.injEq, Prod.mk.injEq] at he
      obtain ⟨rfl, rfl⟩ := he
      obtain ⟨_, q0, q9, _⟩ := h.zrow hz
      obtain ⟨p1, p2⟩ := hs.newEmpty (id := id) (r := r0) hkey (wf_leaf q0) (by rw [q9]; simp)
      simp only [AV.size] at hn
      subst hn
      obtain ⟨ρ', g1, g2, g3, g4, g5, g6⟩ := ownF_keep h fs l (id + 1) p1 h3 hl (cs := fun j => cs (1 + j)) (fun j hj => by
        have := hc (1 + j) (by simp only [AVs.sizeS, AV.size]; omega)
        rw [cellS_ge (by omega), Nat.add_sub_cancel_left] at this
        exact p2 _ _ this)
      refine ⟨ρ', g1, g2, ⟨rfl, rfl, g3⟩, by simp only [AVs.sizeS, AV.size, g4], fun j hj => ?_, fun x v hx => g6 _ _ (p2 x v hx)⟩
      by_cases hlt : j < 1
      · have := hc j hj
        rw [cellS_lt hlt] at this ⊢
        obtain rfl : j = 0 := by omega
        generalize cs 0 = u at this ⊢
        cases this with | ns =>
        exact g6 _ _ (.own0 id sz none (Rho.set_same _ _ _))
      · rw [cellS_ge (by omega)]
        simp only [AVs.sizeS, AV.size] at hj
        have := g5 (j - 1) (by omega)
        rwa [show 1 + (j - 1) = j by omega] at this
    · split at he <;> try contradiction
      rename_i l1 s1 h1
      simp only [Option.some.injEq, Prod.mk.injEq] at he
      obtain ⟨rfl, rfl⟩ := he
      exact keep _ _ h1
theorem ownB_ok (h : TysOk P V.T) {d : TyD} {r r' : AV} {id n : Nat} {cs : Array Value} (hs : Sim U V.G w0 W0 ρ s a w) (he : ownB V d r id s = some (r', s')) (hx : Rep w (Wr U ρ s.heap) ρ (.agg n r) (.agg cs)) :
    ∃ ρ', Sim U V.G w0 W0 ρ' s' a w ∧ s'.next = s.next ∧ Rep w (Wr U ρ' s'.heap) ρ' (.agg n r') (.agg cs) := by
  unfold ownB at he
  split at he
  · split at he
    · split at he <;> try contradiction
      rename_i l' s1 h1
      simp only [Option.some.injEq, Prod.mk.injEq] at he
      obtain ⟨rfl, rfl⟩ := he
      cases hx with | agg _ _ _ hw hr hc hrep =>
      simp only [AV.wf] at hw
      simp only [AV.size] at hr
      obtain ⟨ρ', g1, g2, g3, g4, g5, g6⟩ := ownF_keep h _ _ _ (cs := fun j => cs.getD j Go.undef) hs h1 hw (fun j hj => hrep j (by omega))
      exact ⟨ρ', g1, g2, .agg n _ cs (by simpa only [AV.wf] using g3) (by simp only [AV.size]; omega) hc fun j hj => g5 j (by omega)⟩
    · simp only [Option.some.injEq, Prod.mk.injEq] at he
      obtain ⟨rfl, rfl⟩ := he
      exact ⟨ρ, hs, rfl, hx⟩
  · simp only [Option.some.injEq, Prod.mk.injEq] at he
    obtain ⟨rfl, rfl⟩ := he
    exact ⟨ρ, hs, rfl, hx⟩
theorem box_ok (h : TysOk P V.T) (hs : Sim U V.G w0 W0 ρ s a w) {t : Nat} {x : Operand} (ho : o.op = .box t x) {i : Nat} (ha : aop V i o s = some (true, av, s')) : OpOk U P V w0 W0 o a w av s' := by
  simp only [aop, ho] at ha
  split at ha <;> try contradiction
  rename_i hc
  rw [Bool.and_eq_true, Bool.and_eq_true, Nat.beq_eq, Nat.blt_eq] at hc
  obtain ⟨hc, h0⟩ := hc
  split at ha <;> try contradiction
  rename_i r1 s1 hB
  have g3 := rep_row (hs.ev x) hc.2
  rw [hc.1] at g3
  obtain ⟨ρ1, hs1, _, g4⟩ := ownB_ok h hs hB g3
  obtain ⟨_, hk, rfl, rfl⟩ := newBlk_spec ha
  obtain ⟨ρ', q1, q2⟩ := newVar_ok (t := t) hs1 hk g4 h0
  refine ok_value (v := .pointer (some ⟨w.heap.size, 0, none⟩)) (w' := w.alloc (.cells (a.eval x).cells t)) ?_ q1 q2
  simp only [execOp, ho]
  exact run_v (by simp [Instr.box, newVar, run_newRow])

theorem newOwn_ok (hs : Sim U V.G w0 W0 ρ s a w) {id l sz t : Nat} {r : AV} {c : Array Value} {cap : Nat} {fr : Nat × Nat} {w' : World} (hsm : WSame w w') (hw' : w'.heap = w.heap.push (.cells c t fr)) (hid : hasKey id s.heap = false) (hw : r.wf) (hr : r.size = l * sz)
    (hrep : ∀ j, j < l * sz → Rep w (Wr U ρ s.heap) ρ (r.cell j) (c.getD j Go.undef)) (h0 : 0 < sz) (hc : cap * sz ≤ c.size) (hl : l ≤ cap) (hm : l < 4611686018427387904) (hfz : ∀ j, j < c.size → ¬ (fr.1 ≤ j ∧ j < fr.2)) {n : Nat} (hn : n = l * sz) (hfle : fr.1 ≤ fr.2 := by simp) :
    ∃ ρ', Sim U V.G w0 W0 ρ' (s.setH id (.cells n r true)) a w' ∧ Rep w' (Wr U ρ' (s.setH id (.cells n r true)).heap) ρ' (.own id (klen l sz) sz) (.slice (some ⟨w.heap.size, 0, none⟩) l cap) := by
  subst hn
  have hle : l * sz ≤ c.size := Nat.le_trans (Nat.mul_le_mul_right _ hl) hc
  obtain ⟨g1, _, _⟩ := hs.newBlock (c := c) (t := t) (fr := fr) hid hsm hw' hw hr hle hrep hfz hfle
  exact ⟨_, g1, .own id _ sz l cap ⟨w.heap.size, 0, l * sz, c.size⟩ (Rho.set_same _ _ _) rfl rfl hl (by simpa using hc) h0 hm⟩
theorem bsz_eq {r : AV} {l sz : Nat} (hr : r.size = l * sz) : bsz r l sz = l * sz := by
  unfold bsz; split
  · rw [hr]
  · rfl

theorem freeze_key (s : St) (x : AV) (id : Nat) : (∀ n r, lkH id s.heap ≠ .cells n r true) → ∀ n r, lkH id (freeze s x).heap ≠ .cells n r true := by
  have one : ∀ (s : St) (j : Nat), (∀ n r, lkH id s.heap ≠ .cells n r true) → ∀ n r, lkH id (freezeId s j).heap ≠ .cells n r true := by
    intro s j h n r
    unfold freezeId
    split
    · simp only [St.setH]; rw [lkH_put]
      split
      · intro e; cases e
      · exact h n r
    · exact h n r
  intro h
  unfold freeze
  split
  · exact one s _ h
  · exact one s _ h
  · exact h
theorem freeze_sub (s : St) (x : AV) (id n : Nat) (r : AV) (h : lkH id (freeze s x).heap = .cells n r true) : lkH id s.heap = .cells n r true := by
  have one : ∀ (s : St) (j : Nat), lkH id (freezeId s j).heap = .cells n r true → lkH id s.heap = .cells n r true := by
    intro s j h
    unfold freezeId at h
    split at h
    · simp only [St.setH] at h; rw [lkH_put] at h
      split at h
      · cases h
      · exact h
    · exact h
  unfold freeze at h
  split at h
  · exact one s _ h
  · exact one s _ h
  · exact h
theorem Sim.freezeAll : ∀ (l : List AV) {s : St}, Sim U V.G w0 W0 ρ s a w → Sim U V.G w0 W0 ρ (freezeAll s l) a w ∧ (∀ x v, Rep w (Wr U ρ s.heap) ρ x v → Rep w (Wr U ρ (Am.freezeAll s l).heap) ρ x v) ∧ (Am.freezeAll s l).next = s.next ∧
    (∀ id, hasKey id s.heap = hasKey id (Am.freezeAll s l).heap) ∧ ∀ b, WrO ρ (Am.freezeAll s l).heap b → WrO ρ s.heap b
  | [], s, h => ⟨h, fun _ _ h => h, rfl, fun _ => rfl, fun _ h => h⟩
  | x :: l, s, h => by
    obtain ⟨h1, h2⟩ := h.freeze x
    obtain ⟨g1, g2, g3, g4, g5⟩ := Sim.freezeAll l h1
    have key : (Am.freeze s x).next = s.next ∧ (∀ id, hasKey id s.heap = hasKey id (Am.freeze s x).heap) := by
      have one : ∀ j, (Am.freezeId s j).next = s.next ∧ ∀ id, hasKey id s.heap = hasKey id (Am.freezeId s j).heap := by
        intro j
        unfold Am.freezeId
        split
        · rename_i n r b hl
          refine ⟨rfl, fun id => ?_⟩
          simp only [St.setH]; rw [hasKey_put]
          by_cases e : id = j
          · subst e
            cases hk : hasKey id s.heap with
            | true => simp
            | false => rw [lkH_none hk] at hl; cases hl
          · simp [e]
        · exact ⟨rfl, fun _ => rfl⟩
      unfold Am.freeze
      split
      · exact one _
      · exact one _
      · exact ⟨rfl, fun _ => rfl⟩
    refine ⟨g1, fun y v hy => g2 y v (h2 y v hy), g3.trans key.1, fun id => (key.2 id).trans (g4 id), fun b hb => ?_⟩
    obtain ⟨id, n, r, L, q1, q2, q3⟩ := g5 b hb
    exact ⟨id, n, r, L, freeze_sub s x id n r q1, q2, q3⟩
def frozenBy : AV → Nat → Prop
  | .own id _ _, i => i = id
  | .sl id _ _ _ _ _, i => i = id
  | _, _ => False
theorem freeze_other {s : St} {x : AV} {id : Nat} (h : ¬ frozenBy x id) : lkH id (freeze s x).heap = lkH id s.heap := by
  have one : ∀ j, id ≠ j → lkH id (freezeId s j).heap = lkH id s.heap := by
    intro j hj
    unfold freezeId
    split
    · simp only [St.setH]; rw [lkH_put, if_neg hj]
    · rfl
  unfold freeze
  split
  · exact one _ h
  · exact one _ h
  · rfl
theorem freeze_self {s : St} {x : AV} {id : Nat} (h : frozenBy x id) : ∀ n r, lkH id (freeze s x).heap ≠ .cells n r true := by
  have one : ∀ n r, lkH id (freezeId s id).heap ≠ .cells n r true := by
    intro n r
    unfold freezeId
    split
    · simp only [St.setH]; rw [lkH_put, if_pos rfl]; intro e; cases e
    · rename_i hg; rw [hg]; intro e; cases e
  unfold freeze
  cases x <;> simp only [frozenBy] at h
  · subst h; exact one
  · subst h; exact one
theorem freezeAll_keep : ∀ (l : List AV) (s : St) (id : Nat), (∀ n r, lkH id s.heap ≠ .cells n r true) → ∀ n r, lkH id (freezeAll s l).heap ≠ .cells n r true
  | [], _, _, h => h
  | x :: l, s, id, h => freezeAll_keep l (freeze s x) id (freeze_key s x id h)
theorem freezeAll_self : ∀ (l : List AV) (s : St) (x : AV) (id : Nat), x ∈ l → frozenBy x id → ∀ n r, lkH id (freezeAll s l).heap ≠ .cells n r true
  | y :: l, s, x, id, hx, h => by
    rcases List.mem_cons.1 hx with rfl | hx
    · exact freezeAll_keep l _ id (freeze_self h)
    · exact freezeAll_self l (freeze s y) x id hx h
theorem freezeAll_sub : ∀ (l : List AV) (s : St) (id n : Nat) (r : AV), lkH id (freezeAll s l).heap = .cells n r true → lkH id s.heap = .cells n r true
  | [], _, _, _, _, h => h
  | x :: l, s, id, n, r, h => freeze_sub s x id n r (freezeAll_sub l (freeze s x) id n r h)
theorem freezeAll_wr {l : List AV} {s : St} {x : AV} {b : Nat} (hx : x ∈ l) (h : ¬ Wr U ρ (freeze s x).heap b) : ¬ Wr U ρ (freezeAll s l).heap b := by
  rintro (hU | ⟨id, n, r, L, h1, h2, h3⟩)
  · exact h (.inl hU)
  by_cases hf : frozenBy x id
  · exact freezeAll_self l s x id hx hf n r h1
  · exact h (.inr ⟨id, n, r, L, by rw [freeze_other hf]; exact freezeAll_sub l s id n r h1, h2, h3⟩)

theorem coerce_many (h : TysOk P V.T) (hs : Sim U V.G w0 W0 ρ s a w) {l : List AV} {e : Nat} {x y : AV} {u : Value} (hl : x ∈ l) (hx : Rep w (Wr U ρ s.heap) ρ x u) (hv : coerce V s (some e) x = some y) :
    Rep w (Wr U ρ (freezeAll s l).heap) ρ y u := by
  simp only [coerce, Option.map_eq_some_iff] at hv
  obtain ⟨⟨r, len, sz⟩, hv, rfl⟩ := hv
  obtain ⟨g1, g2, h0, hm, b, cap, rfl, g3, g4⟩ := view_cells h hs hx hv
  have hf := (hs.freezeAll l).2.1
  rcases g4 with g4 | ⟨blk, base, vals, rfl, g5, g6⟩
  · have : len = 0 := by rcases Nat.mul_eq_zero.1 g4 with h | h <;> omega
    subst this
    unfold mkvs; rw [klen_zero]
    exact .vs0 r sz cap b g1 (by simpa using g2)
  · by_cases hln : 0 < len
    · exact .vs r _ sz len cap blk base vals g1 (by omega) g2 hln (.inl rfl) g3 hm (freezeAll_wr hl g6) (fun j hj => (g5 j hj).1) (fun j hj => hf _ _ (g5 j hj).2)
    · have : len = 0 := by omega
      subst this
      unfold mkvs; rw [klen_zero]
      exact .vs0 r sz cap _ g1 (by simpa using g2)

theorem partsRep_coerce (h : TysOk P V.T) (hs : Sim U V.G w0 W0 ρ s a w) (e : Nat) (all : List AV) : ∀ (l : List (Nat × Operand)), (∀ p ∈ l, ev V s p.2 ∈ all) →
    PartsRep w (Wr U ρ (freezeAll s all).heap) ρ (l.map fun p => (p.1, (coerce V s (some e) (ev V s p.2)).getD .undef)) (l.map fun p => (p.1, a.eval p.2))
  | [], _ => trivial
  | p :: l, hl => by
    refine ⟨rfl, ?_, partsRep_coerce h hs e all l fun q hq => hl q (by simp [hq])⟩
    cases hc : coerce V s (some e) (ev V s p.2) with
    | none => exact .undef _
    | some y => exact coerce_many h hs (hl p (by simp)) (hs.ev p.2) hc

theorem reps_wf {z : AV} (h : (AV.one z).wf) : ∀ n, (reps z n).wfS
  | 0 => trivial
  | n + 1 => ⟨h, rfl, reps_wf h n⟩
theorem reps_size (z : AV) : ∀ n, (reps z n).sizeS = n
  | 0 => rfl
  | n + 1 => by simp only [reps, AVs.sizeS, AV.size, reps_size z n]; omega
theorem reps_cell (z : AV) : ∀ n j, j < n → (reps z n).cellS j = (AV.one z).cell 0
  | 0, _, h => by omega
  | n + 1, 0, _ => by simp only [reps]; rw [cellS_lt (by omega)]
  | n + 1, j + 1, h => by simp only [reps]; rw [cellS_ge (by omega)]; exact reps_cell z n j (by omega)

theorem buildSlice_ok (h : TysOk P V.T) (hs : Sim U V.G w0 W0 ρ s a w) {t n : Nat} {parts : Array (Nat × Operand)} (ho : o.op = .buildSlice t n parts) {i : Nat} (ha : aop V i o s = some (true, av, s')) : OpOk U P V w0 W0 o a w av s' := by
  simp only [aop, ho] at ha
  have hlist : (parts.map fun (i, x) => (i, a.eval x)).toList = parts.toList.map fun p => (p.1, a.eval p.2) := by simp
  split at ha <;> try contradiction
  rename_i e he
  split at ha
  rotate_left
  · -- cells of values of other types
    split at ha <;> try contradiction
    rename_i z hz
    split at hz <;> try contradiction
    rename_i hle
    rw [Bool.and_eq_true, Nat.ble_eq, Nat.beq_eq] at hle
    split at ha <;> try contradiction
    rename_i r hfill
    split at ha <;> try contradiction
    rename_i r1 s1 hB
    obtain ⟨_, hk, rfl, rfl⟩ := newBlk_spec ha
    obtain ⟨h0, zv, g1, g2, g3⟩ := zero_ok h hz w (Wr U ρ s.heap) ρ
    rw [hle.2] at h0 g2 g3
    have g3' : Rep w (Wr U ρ s.heap) ρ (.agg n (.segs (reps z n))) (.agg ((Array.range n).map (zv.cells[· % zv.cells.size]!))) := by
      cases g3 with | agg _ _ _ hw1 hr1 hc1 hrep1 =>
      refine .agg _ _ _ (by simp only [AV.wf]; exact reps_wf hw1 n) (by simp only [AV.size]; exact reps_size z n) (by simp) fun j hj => ?_
      simp only [AV.cell]
      rw [reps_cell z n j hj]
      have := hrep1 0 (by omega)
      have e1 : j % 1 < zv.cells.size := by rw [g2]; omega
      rwa [show ((Array.range n).map (zv.cells[· % zv.cells.size]!)).getD j Go.undef = zv.cells.getD 0 Go.undef by
        rw [Array.getD_eq_getD_getElem?, Array.getElem?_map, Array.getElem?_range, if_pos hj]
        simp only [Option.map_some, Option.getD_some]
        rw [g2, getElem!_pos zv.cells _ e1, Array.getD_eq_getD_getElem?]
        rw [Array.getElem?_eq_getElem (show 0 < zv.cells.size by omega)]
        simp [Nat.mod_one]]
    obtain ⟨cs', q1, q2⟩ := fillR_ok _ _ _ _ _ (partsRep_map (w := w) (ev V s) a.eval (fun x => hs.ev x) parts.toList) g3' hfill
    obtain ⟨ρ1, hs1, _, q3⟩ := ownB_ok h hs hB q2
    cases q3 with | agg _ _ _ hw hsz hcs hrep =>
    obtain ⟨ρ', p1, p2⟩ := newOwn_ok (t := e) (l := n) (sz := 1) (cap := n) (c := cs') (fr := (0, 0)) hs1 (same_alloc w _) (heap_alloc w _) hk hw (by omega) (fun j hj => hrep j (by omega)) (by omega) (by omega) (Nat.le_refl _) (by omega) (fun j _ hh => by omega) (n := n) (by omega)
    refine ok_value (v := .slice (some ⟨w.heap.size, 0, none⟩) n n) (w' := w.alloc (.cells cs' e)) ?_ p1 p2
    simp only [execOp, ho]
    refine run_v ?_
    have hif : ¬ (n * (V.T.at e).sz > 2 ^ 24) := by rw [hle.2]; omega
    simp only [Instr.buildSlice, Sem.run_bind, run_underlying' ((h t).slice e he), Result.andThen_ok, run_sizeOf' h (show 0 < (V.T.at e).sz by omega), if_neg hif, hlist]
    rw [hle.2, Nat.mul_one]
    by_cases hz0 : n = 0
    · subst hz0
      simp only [if_true, Sem.run_pure, Result.andThen_ok, Sem.run_bind]
      have e0 : ∀ f : Nat → Value, (Array.range 0).map f = #[] := fun f => by simp
      rw [e0] at q1
      rw [e0, q1]
      simp [run_newRow]
    · rw [if_neg hz0]
      simp only [Sem.run_bind, g1, Result.andThen_ok, Sem.run_pure, q1]
      simp [run_newRow]
  rename_i z hz
  split at hz <;> try contradiction
  rename_i hle
  rw [Nat.ble_eq] at hle
  split at ha <;> try contradiction
  rename_i r hr
  have main : ∀ (s1 : St), s1.next = s.next → Sim U V.G w0 W0 ρ s1 a w → PartsRep w (Wr U ρ s1.heap) ρ (match (V.T.at e).d with
      | .slice e' => parts.toList.map fun (p : Nat × Operand) => (p.1, (coerce V s (some e') (ev V s p.2)).getD .undef)
      | _ => parts.toList.map fun (p : Nat × Operand) => (p.1, ev V s p.2)) (parts.toList.map fun p => (p.1, a.eval p.2)) →
      newBlk s1 i (bsz r n (V.T.at e).sz) r true (fun id => .own id (klen n (V.T.at e).sz) (V.T.at e).sz) = some (true, av, s') → OpOk U P V w0 W0 o a w av s' := by
    intro s1 hnext hs1 hp hb
    obtain ⟨_, hk, rfl, rfl⟩ := newBlk_spec hb
    obtain ⟨h0, hleaf, zv, g1, g2, g3⟩ := zeros_ok h hz w (Wr U ρ s1.heap) ρ
    have hfill : fillR (n * (V.T.at e).sz) (V.T.at e).sz z (match (V.T.at e).d with
      | .slice e' => parts.toList.map fun (p : Nat × Operand) => (p.1, (coerce V s (some e') (ev V s p.2)).getD .undef)
      | _ => parts.toList.map fun (p : Nat × Operand) => (p.1, ev V s p.2)) = some r := by
      split at hr <;> simp_all
    obtain ⟨cs', q1, q2⟩ := fillR_ok _ _ _ _ _ hp g3 hfill
    cases q2 with | agg _ _ _ hw hsz hcs hrep =>
    have hn : n < 4611686018427387904 := by
      have := Nat.le_mul_of_pos_right n h0
      omega
    obtain ⟨ρ', p1, p2⟩ := newOwn_ok (t := e) (cap := n) (c := cs') (fr := (0, 0)) hs1 (same_alloc w _) (heap_alloc w _) hk hw hsz hrep h0 (by rw [hcs]; exact Nat.le_refl _) (Nat.le_refl _) hn (fun j _ hh => by omega) (bsz_eq hsz)
    refine ok_value (v := .slice (some ⟨w.heap.size, 0, none⟩) n n) (w' := w.alloc (.cells cs' e)) ?_ p1 p2
    simp only [execOp, ho]
    refine run_v ?_
    have hif : ¬ (n * (V.T.at e).sz > 2 ^ 24) := by omega
    simp only [Instr.buildSlice, Sem.run_bind, run_underlying' ((h t).slice e he), Result.andThen_ok, run_sizeOf' h h0, if_neg hif, hlist]
    by_cases hz0 : n * (V.T.at e).sz = 0
    · have e0 : ∀ f : Nat → Value, (Array.range 0).map f = #[] := fun f => by simp
      rw [hz0, e0] at q1
      rw [hz0]
      simp only [if_true, Sem.run_pure, Result.andThen_ok, Sem.run_bind, e0, q1]
      simp [run_newRow]
    · rw [if_neg hz0]
      simp only [Sem.run_bind, g1, Result.andThen_ok, Sem.run_pure, q1]
      simp [run_newRow]
  split at hr
  · rename_i e' he'
    rw [he'] at ha main
    dsimp only at ha main
    have hfold : (parts.toList.foldl (fun s' (p : Nat × Operand) => freeze s' (ev V s p.2)) s) = freezeAll s (parts.toList.map fun p => ev V s p.2) := by
      unfold freezeAll; rw [List.foldl_map]
    rw [hfold] at ha
    obtain ⟨f1, _, f3, _, _⟩ := hs.freezeAll (parts.toList.map fun p => ev V s p.2)
    exact main _ f3 f1 (partsRep_coerce h hs e' _ _ fun p hp => List.mem_map_of_mem hp) ha
  · rename_i hne
    have e1 : (match (V.T.at e).d with
      | .slice e' => parts.toList.map fun (p : Nat × Operand) => (p.1, (coerce V s (some e') (ev V s p.2)).getD .undef)
      | _ => parts.toList.map fun (p : Nat × Operand) => (p.1, ev V s p.2)) = parts.toList.map fun (p : Nat × Operand) => (p.1, ev V s p.2) := by
      split
      · exact absurd (by assumption) (hne _)
      · rfl
    rw [e1] at main
    have ha2 : newBlk s i (bsz r n (V.T.at e).sz) r true (fun id => .own id (klen n (V.T.at e).sz) (V.T.at e).sz) = some (true, av, s') := by
      split at ha
      · exact absurd (by assumption) (hne _)
      · exact ha
    exact main s rfl hs (partsRep_map (w := w) (ev V s) a.eval (fun x => hs.ev x) parts.toList) ha2
end Go.Am
