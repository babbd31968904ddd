/- Normal form. -/
import Derived.Test.YtnbgphghghmemaaAmExec
set_option linter.unusedVariables false
set_option linter.unusedSimpArgs false
namespace Go.Am
open Go
variable {P : Program} {V : Env} {U : Oth} {w0 : World} {W0 : Nat → Prop} {ρ ρ' : Rho} {s s' : St} {a a' : Act} {w w' : World} {av : AV}

theorem Sim.slot (h : Sim U V.G w0 W0 ρ s a w) {t : Nat} {y : AV} (hy : Rep w (Wr U ρ s.heap) ρ y (a.tmps.getD t Go.undef)) : Sim U V.G w0 W0 ρ { s with tmps := (t, y) :: s.tmps } a w := by
  refine { h with tm := fun u => ?_ }
  simp only [lk_put]
  split
  · rename_i e; subst e; exact hy
  · exact h.tm u
theorem Sim.next (h : Sim U V.G w0 W0 ρ s a w) (n : Nat) : Sim U V.G w0 W0 ρ { s with next := n } a w :=
  { tm := h.tm, nt := h.nt, df := h.df, bl := h.bl, sep := h.sep, dom := h.dom, fr := h.fr, wo := h.wo, sz := h.sz, gl := h.gl, uo := h.uo, ug := h.ug, su := h.su, ini := h.ini, im := h.im, sm := h.sm }

theorem nth_cell : ∀ (s : AVs) (k : Nat) (v v' : AV), s.wfS → k < s.len → s.nth k = .one v → v'.scal = true → ∃ off, off < s.sizeS ∧ s.cellS off = v ∧ (s.setn k (.one v')).wfS ∧ (s.setn k (.one v')).sizeS = s.sizeS ∧ (s.setn k (.one v')).cellS off = v' ∧ ∀ j, j ≠ off → (s.setn k (.one v')).cellS j = s.cellS j
  | .nil, k, v, v', _, hk, _, _ => by simp [AVs.len] at hk
  | .cons n u t, 0, v, v', hw, hk, hn, hv => by
    obtain ⟨hu, hs, ht⟩ := hw
    simp only [AVs.nth] at hn
    subst hn
    simp only [AV.size] at hs
    subst hs
    refine ⟨0, by simp only [AVs.sizeS, AV.size]; omega, by rw [cellS_lt (by omega)]; rfl, ⟨hv, rfl, ht⟩, rfl, by simp only [AVs.setn]; rw [cellS_lt (by omega)]; rfl, fun j hj => ?_⟩
    simp only [AVs.setn]
    rw [cellS_ge (by omega), cellS_ge (by omega)]
  | .cons n u t, k + 1, v, v', hw, hk, hn, hv => by
    obtain ⟨hu, hs, ht⟩ := hw
    obtain ⟨off, g1, g2, g3, g4, g5, g6⟩ := nth_cell t k v v' ht (by simp [AVs.len] at hk; omega) hn hv
    refine ⟨n + off, by simp only [AVs.sizeS]; omega, by rw [cellS_ge (by omega), Nat.add_sub_cancel_left]; exact g2, ⟨hu, hs, g3⟩, by simp only [AVs.setn, AVs.sizeS, g4], by simp only [AVs.setn]; rw [cellS_ge (by omega), Nat.add_sub_cancel_left]; exact g5, fun j hj => ?_⟩
    simp only [AVs.setn]
    by_cases hlt : j < n
    · rw [cellS_lt hlt, cellS_lt hlt]
    · rw [cellS_ge (by omega), cellS_ge (by omega)]
      exact g6 _ (by omega)
theorem recell_ok (hs : Sim U V.G w0 W0 ρ s a w) {id n k : Nat} {l : AVs} {v v' : AV} (hl : lkH id s.heap = .cells n (.segs l) true) (hj : l.nth k = .one v) (hk : k < l.len) (hv' : v'.scal = true)
    (hrep : ∀ u, Rep w (Wr U ρ s.heap) ρ v u → Rep w (Wr U ρ s.heap) ρ v' u) : Sim U V.G w0 W0 ρ (s.setH id (.cells n (.segs (l.setn k (.one v'))) true)) a w := by
  have hb := hs.bl id n _ true hl
  have hw : l.wfS := by have := hb.wf rfl; simpa only [AV.wf] using this
  have hsz : l.sizeS = n := by have := hb.size; simpa only [AV.size] using this
  obtain ⟨off, g1, g2, g3, g4, g5, g6⟩ := nth_cell l k _ v' hw hk hj hv'
  obtain ⟨L, hL, hLn, hcells, hmine, hlt⟩ : ∃ L, ρ id = some (some L) ∧ L.n = n ∧ (∀ j, j < n → ∃ v, w.cell? ⟨L.b, L.base + j, none⟩ = some v ∧ Rep w (Wr U ρ s.heap) ρ ((AV.segs l).cell j) v) ∧ Mine w L ∧ L.b < w.heap.size := by
    rcases hb.lies with ⟨h1, h2⟩ | ⟨L, h1, h2, h3, h4, h5⟩
    · omega
    · exact ⟨L, h1, h2, h3, h4 rfl rfl, h5⟩
  refine (hs.rewrite (r' := .segs (l.setn k (.one v'))) (w' := w) hl hL (WSame.refl _) (by simpa only [AV.wf] using g3) (by simp only [AV.size]; omega) rfl (fun _ _ => rfl) hmine (fun i hi => ?_)).1
  obtain ⟨u, e1, e2⟩ := hcells i hi
  refine ⟨u, e1, ?_⟩
  simp only [AV.cell] at e2 ⊢
  by_cases hio : i = off
  · subst hio
    rw [g2] at e2
    rw [g5]
    exact hrep u e2
  · rw [g6 i hio]; exact e2
theorem touch_ok (hs : Sim U V.G w0 W0 ρ s a w) {id n k j len sz nj fresh : Nat} {l : AVs} {rj : AV} (hl : lkH id s.heap = .cells n (.segs l) true) (hj : l.nth k = .one (.own j len sz)) (hk : k < l.len) (hne : j ≠ id) (hf : hasKey fresh s.heap = false)
    (hlj : lkH j s.heap = .cells nj rj true) (hleaf : rj.leafB = true) :
    ∃ ρ', Sim U V.G w0 W0 ρ' { s with heap := (id, .cells n (.segs (l.setn k (.one (.own fresh len sz)))) true) :: (fresh, .cells nj rj true) :: (j, .gone) :: s.heap, next := fresh + 1 } a w := by
  have hb := hs.bl id n _ true hl
  have hw : l.wfS := by have := hb.wf rfl; simpa only [AV.wf] using this
  have hsz : l.sizeS = n := by have := hb.size; simpa only [AV.size] using this
  obtain ⟨off, g1, g2, g3, g4, g5, g6⟩ := nth_cell l k _ (.own fresh len sz) hw hk hj rfl
  have hfid : fresh ≠ id := by rintro rfl; rw [lkH_none hf] at hl; cases hl
  have hfj : fresh ≠ j := by rintro rfl; rw [lkH_none hf] at hlj; cases hlj
  have hid2 : hasKey fresh (s.setH j .gone).heap = false := by
    simp only [St.setH]; rw [hasKey_put, hf]; simp [hfj]
  obtain ⟨L, hL, hLn, hcells, hmine, hlt⟩ : ∃ L, ρ id = some (some L) ∧ L.n = n ∧ (∀ j, j < n → ∃ v, w.cell? ⟨L.b, L.base + j, none⟩ = some v ∧ Rep w (Wr U ρ s.heap) ρ ((AV.segs l).cell j) v) ∧ Mine w L ∧ L.b < w.heap.size := by
    rcases hb.lies with ⟨h1, h2⟩ | ⟨L, h1, h2, h3, h4, h5⟩
    · omega
    · exact ⟨L, h1, h2, h3, h4 rfl rfl, h5⟩
  obtain ⟨ρ1, q1, q2, q3, q4⟩ : ∃ ρ1, Sim U V.G w0 W0 ρ1 ((s.setH j .gone).setH fresh (.cells nj rj true)) a w ∧ (∀ x v, Rep w (Wr U ρ s.heap) ρ x v → Rep w (Wr U ρ1 ((s.setH j .gone).setH fresh (.cells nj rj true)).heap) ρ1 x v) ∧
      (∀ v, Rep w (Wr U ρ s.heap) ρ (.own j len sz) v → Rep w (Wr U ρ1 ((s.setH j .gone).setH fresh (.cells nj rj true)).heap) ρ1 (.own fresh len sz) v) ∧ ρ1 id = some (some L) := by
    have hbj := hs.bl j nj rj true hlj
    rcases hbj.lies with ⟨h1, h2⟩ | ⟨Lj, h1, h2, h3, h4, h5⟩
    · obtain ⟨f1, f2⟩ := hs.weaken (id := j) (b' := .gone) (.inl rfl)
      obtain ⟨p1, p2⟩ := f1.newEmpty (id := fresh) (r := rj) hid2 (wf_leaf hleaf) (by rw [hbj.size, h2])
      subst h2
      refine ⟨_, p1, fun x v hx => p2 _ _ (f2 _ _ hx), fun v hv => ?_, by rw [Rho.set_other _ _ (Ne.symm hfid)]; exact hL⟩
      cases hv with
      | own0 _ _ b _ => exact .own0 fresh _ b (Rho.set_same _ _ _)
      | own _ _ _ _ _ L' hL' => rw [h1] at hL'; cases hL'
    · obtain ⟨hw', hs', hn', vals, hv'⟩ := hs.cells hlj h1
      have hG := hs.grow (w' := w) (id' := fresh) (r' := rj) (n' := nj) hlj h1 (WSame.refl _) hid2 (wf_leaf hleaf) hbj.size rfl (fun _ _ => rfl) (by
        have := h4 rfl (leaf_isM hleaf)
        obtain ⟨c, t', fr, m1, m2, m3, m4⟩ := this
        exact ⟨c, t', fr, m1, m2, by simp only; omega, m4⟩) fun i hi => ⟨_, (hv' i hi).1, (hv' i hi).2⟩
      refine ⟨_, hG.1, hG.2, fun v hv => ?_, by rw [Rho.set_other _ _ (Ne.symm hfid)]; exact hL⟩
      cases hv with
      | own0 _ _ b hL' => rw [h1] at hL'; cases hL'
      | own _ _ _ ll cap L' hL' hn1 hkl hcap hS h0 hm =>
        rw [h1] at hL'; cases hL'
        exact .own fresh len sz ll cap { Lj with n := nj } (Rho.set_same _ _ _) (by simp only; omega) hkl hcap hS h0 hm
  have hl1 : lkH id ((s.setH j .gone).setH fresh (.cells nj rj true)).heap = .cells n (.segs l) true := by
    simp only [St.setH]; rw [lkH_put, if_neg (Ne.symm hfid), lkH_put, if_neg (Ne.symm hne)]; exact hl
  obtain ⟨r1, _⟩ := q1.rewrite (r' := .segs (l.setn k (.one (.own fresh len sz)))) (w' := w) hl1 q4 (WSame.refl _) (by simpa only [AV.wf] using g3) (by simp only [AV.size]; omega) rfl (fun _ _ => rfl) hmine (fun i hi => by
    obtain ⟨v, e1, e2⟩ := hcells i hi
    refine ⟨v, e1, ?_⟩
    simp only [AV.cell] at e2 ⊢
    by_cases hio : i = off
    · subst hio
      rw [g2] at e2
      rw [g5]
      exact q3 v e2
    · rw [g6 i hio]; exact q2 _ _ e2)
  exact ⟨ρ1, r1.next (fresh + 1)⟩

theorem mode1_ok (h : TysOk P V.T) (hs : Sim U V.G w0 W0 ρ s a w) (t : Nat) (m : Md) (fresh : Nat) : ∃ ρ', Sim U V.G w0 W0 ρ' (mode1 V s t m fresh) a w := by
  unfold mode1
  split
  · exact ⟨ρ, hs⟩
  · rename_i e
    split
    · rename_i r hns hz hk
      obtain ⟨_, g1, g2, _⟩ := h.zrow hz
      obtain ⟨q1, q2⟩ := hs.newEmpty (id := fresh) (r := r) hk (wf_leaf g1) (by rw [g2]; simp)
      have hr := hs.tm t
      rw [hns] at hr
      refine ⟨_, (q1.slot (t := t) (y := .own fresh 0 (V.T.at e).sz) ?_).next (fresh + 1)⟩
      generalize a.tmps.getD t Go.undef = u at hr ⊢
      cases hr with | ns =>
      exact .own0 fresh _ none (Rho.set_same _ _ _)
    · rename_i id lim len r0 hsl hz hk
      split
      · rename_i n r hl
        split
        · rename_i r' hp
          have hr := hs.tm t
          rw [hsl] at hr
          have hne : id ≠ fresh := by
            rintro rfl
            rw [lkH_none hk] at hl; cases hl
          have hid : hasKey fresh (s.setH id .gone).heap = false := by
            simp only [St.setH]; rw [hasKey_put, hk]
            simp [Ne.symm hne]
          generalize hu : a.tmps.getD t Go.undef = u at hr
          cases hr with
          | sl0 _ _ _ _ _ a0 _ =>
            obtain ⟨f1, f2⟩ := hs.weaken (id := id) (b' := .gone) (.inl rfl)
            obtain ⟨q1, q2⟩ := f1.newEmpty (id := fresh) (r := r') hid (wf_leaf (Parts.leaf hp)) (part_size0 hp)
            refine ⟨_, (q1.slot (t := t) (y := .own fresh 0 1) ?_).next (fresh + 1)⟩
            rw [hu]
            exact .own0 fresh _ a0 (Rho.set_same _ _ _)
          | sl _ _ _ _ _ _ cap L hL h0 hx hb hcap hm hlim hS =>
            have hleaf := Parts.leaf hp
            have hb' := hs.bl id n r true hl
            obtain ⟨hw, hsz, hLn, vals, hv⟩ := hs.cells hl hL
            have hps := part_spec hp (by omega)
            have hM : Mine w L := by
              rcases hb'.lies with ⟨h1, _⟩ | ⟨L', h1, _, _, h4, _⟩
              · rw [h1] at hL; cases hL
              · rw [h1] at hL; cases hL; exact h4 rfl (by cases r <;> first | rfl | (simp [AV.part] at hp))
            obtain ⟨c, t', fr, m1, m2, m3, m4⟩ := hM
            have hG := hs.grow (w' := w) (id' := fresh) (r' := r') (n' := len) hl hL (WSame.refl _) hid (wf_leaf hleaf) hps.size rfl (fun _ _ => rfl) ⟨c, t', fr, m1, m2, by simp only; omega, m4⟩ fun j hj => by
              have := hv j (by omega)
              refine ⟨_, this.1, ?_⟩
              rw [hps.cells j hj, Nat.zero_add]
              exact this.2
            refine ⟨_, (hG.1.slot (t := t) (y := .own fresh 0 1) ?_).next (fresh + 1)⟩
            rw [hu]
            have e : (⟨L.b, L.base + (0 + 0 * 1), none⟩ : Addr) = ⟨L.b, L.base, none⟩ := by simp
            rw [e]
            exact .own fresh 0 1 len cap { L with n := len } (Rho.set_same _ _ _) (Nat.mul_one _) rfl hcap (by simp only; omega) (by omega) hm
        · exact ⟨ρ, hs⟩
      · exact ⟨ρ, hs⟩
    · exact ⟨ρ, hs⟩
  · rename_i e
    split
    · rename_i r len sz hv
      have hr := hs.tm t
      exact ⟨ρ, (hs.freeze (lk t s.tmps)).1.slot (coerce_ok h hs hr hv)⟩
    · exact ⟨ρ, hs⟩
  · -- an owned slice in a field gets a new name
    rename_i k
    split <;> first | exact ⟨ρ, hs⟩ | skip
    split <;> first | exact ⟨ρ, hs⟩ | skip
    rename_i id lim rm hptr n l hl
    split <;> first | exact ⟨ρ, hs⟩ | skip
    rename_i j len sz hj
    split <;> first | exact ⟨ρ, hs⟩ | skip
    rename_i nj rj hc hk hlj
    split <;> first | exact ⟨ρ, hs⟩ | skip
    rename_i hleaf
    rw [Bool.and_eq_true, Nat.blt_eq, Bool.not_eq_true'] at hc
    exact touch_ok hs hl hj hc.1 (by intro e; rw [e] at hc; simp at hc) hk hlj hleaf
  · -- a slice in a field, as a view
    rename_i k e
    split <;> first | exact ⟨ρ, hs⟩ | skip
    split <;> first | exact ⟨ρ, hs⟩ | skip
    rename_i id lim rm hptr _ n0 l hl
    split <;> first | exact ⟨ρ, hs⟩ | skip
    rename_i v hj
    split <;> first | exact ⟨ρ, hs⟩ | skip
    rename_i r len sz hv
    split <;> first | exact ⟨ρ, hs⟩ | skip
    rename_i n r0 hl2 hk
    rw [Nat.blt_eq] at hk
    have hl3 := freeze_sub s v id n r0 hl2
    rw [hl] at hl3
    injection hl3 with e1 e2 e3
    subst e1; subst e2
    obtain ⟨f1, f2⟩ := hs.freeze v
    have hb := hs.bl id n0 _ true hl
    have hw : l.wfS := by have := hb.wf rfl; simpa only [AV.wf] using this
    have hsz : l.sizeS = n0 := by have := hb.size; simpa only [AV.size] using this
    obtain ⟨off, g1, g2, g3, g4, g5, g6⟩ := nth_cell l k _ (mkvs r len sz) hw hk hj rfl
    obtain ⟨L, hL, hLn, hcells, hlt⟩ : ∃ L, ρ id = some (some L) ∧ L.n = n0 ∧ (∀ j, j < n0 → ∃ v, w.cell? ⟨L.b, L.base + j, none⟩ = some v ∧ Rep w (Wr U ρ s.heap) ρ ((AV.segs l).cell j) v) ∧ L.b < w.heap.size := by
      rcases hb.lies with ⟨h1, h2⟩ | ⟨L, h1, h2, h3, h4, h5⟩
      · omega
      · exact ⟨L, h1, h2, h3, h5⟩
    have hmine : Mine w L := by
      have hb2 := f1.bl id n0 _ true hl2
      rcases hb2.lies with ⟨h1, h2⟩ | ⟨L2, h1, h2, h3, h4, h5⟩
      · rw [h1] at hL; cases hL
      · rw [h1] at hL; cases hL; exact h4 rfl rfl
    refine ⟨ρ, (f1.rewrite (r' := .segs (l.setn k (.one (mkvs r len sz)))) (w' := w) hl2 hL (WSame.refl _) (by simpa only [AV.wf] using g3) (by simp only [AV.size]; omega) rfl (fun _ _ => rfl) hmine (fun i hi => ?_)).1⟩
    obtain ⟨u, e1, e2⟩ := hcells i hi
    refine ⟨u, e1, ?_⟩
    simp only [AV.cell] at e2 ⊢
    by_cases hio : i = off
    · subst hio
      rw [g2] at e2
      rw [g5]
      exact coerce_ok h hs e2 hv
    · rw [g6 i hio]; exact f2 _ _ e2
theorem modeAll_ok (h : TysOk P V.T) : ∀ (l : List (Nat × Md)) (fresh : Nat) (s : St) (ρ : Rho), Sim U V.G w0 W0 ρ s a w → ∃ ρ', Sim U V.G w0 W0 ρ' (modeAll V l fresh s) a w
  | [], _, s, ρ, hs => ⟨ρ, hs⟩
  | (t, m) :: l, fresh, s, ρ, hs => by
    obtain ⟨ρ1, h1⟩ := mode1_ok h hs t m fresh
    exact modeAll_ok h l (fresh + 1) _ ρ1 h1

theorem lk_map {s : St} (f : AV → AV) : ∀ (keep : List (Nat × Md)) (t : Nat), (lk t (keep.map fun p => (p.1, f (lk p.1 s.tmps))) = f (lk t s.tmps) ∧ ∃ p ∈ keep, p.1 = t) ∨ lk t (keep.map fun p => (p.1, f (lk p.1 s.tmps))) = .undef
  | [], t => .inr rfl
  | p :: keep, t => by
    rw [List.map_cons, lk_put]
    by_cases e : t = p.1
    · rw [if_pos e, e]; exact .inl ⟨rfl, p, by simp, rfl⟩
    · rw [if_neg e]
      rcases lk_map f keep t with ⟨h, q, hq, he⟩ | h
      · exact .inl ⟨h, q, by simp [hq], he⟩
      · exact .inr h

theorem addNew_pre : ∀ (l acc : List Nat), ∃ t, addNew acc l = acc ++ t
  | [], acc => ⟨[], by simp [addNew]⟩
  | n :: l, acc => by
    simp only [addNew]
    split
    · exact addNew_pre l acc
    · obtain ⟨t, ht⟩ := addNew_pre l (acc ++ [n])
      exact ⟨n :: t, by rw [ht]; simp⟩
theorem reach_pre (H : List (Nat × Blk)) : ∀ (d : Nat) (acc todo : List Nat), ∃ t, reach H d acc todo = acc ++ t
  | 0, acc, todo => ⟨[], by simp [reach]⟩
  | d + 1, acc, [] => ⟨[], by simp [reach]⟩
  | d + 1, acc, id :: todo => by
    simp only [reach]
    obtain ⟨t, ht⟩ := reach_pre H d (acc ++ addNew [] ((lkH id H).ids.filter fun n => !(mem n acc))) (todo ++ addNew [] ((lkH id H).ids.filter fun n => !(mem n acc)))
    exact ⟨_, by rw [ht, List.append_assoc]⟩
theorem reach_fix {H : List (Nat × Blk)} {m d : Nat} {l todo : List Nat} : ∀ j, j < m → (reach H d (addNew (List.range m) l) todo)[j]? = some j := by
  intro j hj
  obtain ⟨t, ht⟩ := addNew_pre l (List.range m)
  obtain ⟨t2, ht2⟩ := reach_pre H d (addNew (List.range m) l) todo
  rw [ht2, ht, List.append_assoc, List.getElem?_append_left (by simpa using hj)]
  simp [hj]

theorem norm_ok (h : TysOk P V.T) (hs : Sim U V.G w0 W0 ρ s a w) (keep : List (Nat × Md)) : ∃ ρ', Sim U V.G w0 W0 ρ' (norm V keep s) a w := by
  unfold norm
  dsimp only
  obtain ⟨ρ1, h1⟩ := modeAll_ok h keep s.next s ρ hs
  generalize modeAll V keep s.next s = s1 at h1 ⊢
  generalize hroots : addNew (List.range s1.m) ((keep.map fun p => (p.1, lk p.1 s1.tmps)).flatMap fun p => p.2.ids) = roots
  generalize hids : reach s1.heap 64 roots roots = ids
  split
  · rename_i hgood
    have hg := goodIds_ok hgood
    have hfix : ∀ j, j < s1.m → ids[j]? = some j := by
      rw [← hids, ← hroots]
      exact reach_fix
    refine ⟨rho0 ρ1 ids, ?_⟩
    have key : ∀ x v, Rep w (Wr U ρ1 s1.heap) ρ1 x v → (∀ id ∈ x.ids, id ∈ ids) → Rep w (Wr U (rho0 ρ1 ids) (tagH 0 (ids.map fun n => (lkH n s1.heap).ren fun n => numb n ids))) (rho0 ρ1 ids) (x.ren fun n => numb n ids) v := by
      intro x v hx hid
      have h1 := hx.ren (ρ' := rho0 ρ1 ids) (fun n => numb n ids) (fun id hi y hy => by rw [rho0_numb (hid id hi)]; exact hy)
      exact h1.mono (fun _ _ _ _ => rfl) (fun b hlt hb hb' => hb (by
        rcases hb' with hb' | hb'
        · exact .inl hb'
        · exact .inr (small_wr' hb'))) (fun _ _ h => h)
    exact {
      tm := fun t => by
        have e : (List.map (fun p => (p.1, AV.ren (fun n => numb n ids) p.2)) (keep.map fun p => (p.1, lk p.1 s1.tmps))) = keep.map fun p => (p.1, AV.ren (fun n => numb n ids) (lk p.1 s1.tmps)) := by rw [List.map_map]; rfl
        dsimp only
        rw [e]
        rcases lk_map (s := s1) (AV.ren fun n => numb n ids) keep t with ⟨e2, p, hp, rfl⟩ | e2
        · rw [e2]
          refine key _ _ (h1.tm p.1) fun id hid => hg.roots id ?_
          rw [← hroots]
          refine mem_addNew.2 (.inr (List.mem_flatMap.2 ⟨(p.1, lk p.1 s1.tmps), List.mem_map.2 ⟨p, hp, rfl⟩, hid⟩))
        · rw [e2]; exact .undef _
      nt := h1.nt
      df := h1.df
      bl := fun j n r b hl => by
        obtain ⟨id, r0, g1, g2, g3, rfl⟩ := small_cells hl
        have hb := h1.bl id n r0 b g3
        obtain ⟨q1, q2, q3⟩ := row_renM (fun n => numb n ids) r0 hb.wf
        refine ⟨q1, q2.trans hb.size, ?_, fun k kn v es e => ?_⟩ <;> rw [rho0_some g1]
        rotate_left
        · obtain ⟨L, l1, l2⟩ := hb.map k kn v es (ren_rM e)
          obtain ⟨ms, clock, m1, m2⟩ := l2.ex
          exact ⟨L, l1, ⟨⟨ms, clock, m1, m2.mono fun xs u hx => by
            have := key _ _ hx (fun i hi => by rw [mval_ids] at hi; simp at hi)
            rwa [mval_ren] at this⟩, l2.keys, l2.nd, l2.bo⟩⟩
        rcases hb.lies with hb1 | ⟨L, l1, l2, l3, l4, l5⟩
        · exact .inl hb1
        · refine .inr ⟨L, l1, l2, fun k hk => ?_, (fun e h => l4 e (by rwa [isM_ren] at h)), l5⟩
          obtain ⟨v, e1, e2⟩ := l3 k hk
          refine ⟨v, e1, ?_⟩
          have q := q3 k (by rw [hb.size]; exact hk)
          rw [q.1]
          exact key _ _ e2 fun i hi => hg.closed id g2 i (by rw [g3]; exact q.2 i hi)
      sep := fun j j' n r n' r' b' L L' h1' h2 h3 h4 h5 => by
        obtain ⟨id, r0, g1, g2, g3, rfl⟩ := small_cells h1'
        obtain ⟨id', r0', g1', g2', g3', rfl⟩ := small_cells h2
        rw [rho0_some g1] at h3
        rw [rho0_some g1'] at h4
        have e := h1.sep id id' n r0 n' r0' b' L L' g3 g3' h3 h4 h5
        subst e
        exact (List.getElem?_inj (List.getElem?_eq_some_iff.1 g1).1 hg.nodup).1 (g1.trans g1'.symm)
      dom := fun j hj => by
        simp only [hasKey_tag, List.length_map]
        have : j < ids.length := by
          rcases Nat.lt_or_ge j ids.length with h | h
          · exact h
          · exact absurd (by simp [rho0, List.getElem?_eq_none h]) hj
        simp [this]
      fr := h1.fr
      wo := fun b hb => h1.wo b (small_wr' hb)
      sz := h1.sz
      gl := h1.gl
      uo := h1.uo
      ug := h1.ug
      su := fun j n r b L h1' h2 => by
        obtain ⟨id, r0, g1, g2, g3, rfl⟩ := small_cells h1'
        rw [rho0_some g1] at h2
        exact h1.su id n r0 b L g3 h2
      ini := fun id x hx => by
        have hlt := h1.im id (by rw [hx]; simp)
        rw [rho0_some (hfix id hlt)]
        exact h1.ini id x hx
      im := h1.im, sm := h1.sm }
  · exact ⟨ρ, hs⟩

theorem cutTo_ok (h : TysOk P V.T) (hs : Sim U V.G w0 W0 ρ s a w) (spec : Option (List (Nat × Md))) : ∃ ρ', Sim U V.G w0 W0 ρ' (cutTo V spec s) a w := by
  cases spec with
  | none => exact ⟨ρ, hs⟩
  | some keep => exact norm_ok h hs keep
end Go.Am
