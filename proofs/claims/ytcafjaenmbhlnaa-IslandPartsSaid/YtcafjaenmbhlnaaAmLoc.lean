/- Part of a proof about the functions of the given program. -/
import Derived.Test.YtcafjaenmbhlnaaAmExec
set_option linter.unusedSimpArgs false
set_option linter.unusedVariables false
section
/- Normal form. -/
namespace Go.Am
open Go
variable {P : Program} {V : Env} {U : Oth} {w0 : World} {W0 : Nat → Prop} {ρ ρ' : Rho} {s s' : St} {a a' : Act} {w w' : World} {av : AV}
theorem Sim.slot (h : Sim U V.G w0 W0 ρ s a w) {t : Nat} {y : AV} (hy : Rep w (Wr U ρ s.heap) ρ y (a.tmps.getD t Go.undef)) : Sim U V.G w0 W0 ρ { s with tmps := (t, y) :: s.tmps } a w := by
  refine { h with tm := fun u => ?_ }
  simp only [lk_put]
  split
  · rename_i e; subst e; exact hy
  · exact h.tm u
theorem Sim.next (h : Sim U V.G w0 W0 ρ s a w) (n : Nat) : Sim U V.G w0 W0 ρ { s with next := n } a w :=
  { tm := h.tm, nt := h.nt, df := h.df, bl := h.bl, sep := h.sep, dom := h.dom, fr := h.fr, wo := h.wo, sz := h.sz, gl := h.gl, uo := h.uo, ug := h.ug, su := h.su, ini := h.ini, im := h.im, sm := h.sm, xk := h.xk }
theorem nth_cell : ∀ (s : AVs) (k : Nat) (v v' : AV), s.wfS → k < s.len → s.nth k = .one v → v'.scal = true → ∃ off, off < s.sizeS ∧ s.cellS off = v ∧ (s.setn k (.one v')).wfS ∧ (s.setn k (.one v')).sizeS = s.sizeS ∧ (s.setn k (.one v')).cellS off = v' ∧ ∀ j, j ≠ off → (s.setn k (.one v')).cellS j = s.cellS j
  | .nil, k, v, v', _, hk, _, _ => by simp [AVs.len] at hk
  | .cons n u t, 0, v, v', hw, hk, hn, hv => by
    obtain ⟨hu, hs, ht⟩ := hw
    simp only [AVs.nth] at hn
    subst hn
    simp only [AV.size] at hs
    subst hs
    refine ⟨0, by simp only [AVs.sizeS, AV.size]; omega, by rw [cellS_lt (by omega)]; rfl, ⟨hv, rfl, ht⟩, rfl, by simp only [AVs.setn]; rw [cellS_lt (by omega)]; rfl, fun j hj => ?_⟩
    simp only [AVs.setn]
    rw [cellS_ge (by omega), cellS_ge (by omega)]
  | .cons n u t, k + 1, v, v', hw, hk, hn, hv => by
    obtain ⟨hu, hs, ht⟩ := hw
    obtain ⟨off, g1, g2, g3, g4, g5, g6⟩ := nth_cell t k v v' ht (by simp [AVs.len] at hk; omega) hn hv
    refine ⟨n + off, by simp only [AVs.sizeS]; omega, by rw [cellS_ge (by omega), Nat.add_sub_cancel_left]; exact g2, ⟨hu, hs, g3⟩, by simp only [AVs.setn, AVs.sizeS, g4], by simp only [AVs.setn]; rw [cellS_ge (by omega), Nat.add_sub_cancel_left]; exact g5, fun j hj => ?_⟩
    simp only [AVs.setn]
    by_cases hlt : j < n
    · rw [cellS_lt hlt, cellS_lt hlt]
    · rw [cellS_ge (by omega), cellS_ge (by omega)]
      exact g6 _ (by omega)
theorem touch_ok (hs : Sim U V.G w0 W0 ρ s a w) {id n k j len sz nj fresh : Nat} {l : AVs} {rj : AV} (hl : lkH id s.heap = .cells n (.segs l) true) (hj : l.nth k = .one (.own j len sz)) (hk : k < l.len) (hne : j ≠ id) (hf : hasKey fresh s.heap = false)
    (hlj : lkH j s.heap = .cells nj rj true) (hleaf : rj.leafB = true) :
    ∃ ρ', Sim U V.G w0 W0 ρ' { s with heap := (id, .cells n (.segs (l.setn k (.one (.own fresh len sz)))) true) :: (fresh, .cells nj rj true) :: (j, .gone) :: s.heap, next := fresh + 1 } a w := by
  have hb := hs.bl id n _ true hl
  have hw : l.wfS := by have := hb.wf rfl; simpa only [AV.wf] using this
  have hsz : l.sizeS = n := by have := hb.size; simpa only [AV.size] using this
  obtain ⟨off, g1, g2, g3, g4, g5, g6⟩ := nth_cell l k _ (.own fresh len sz) hw hk hj rfl
  have hfid : fresh ≠ id := by rintro rfl; rw [lkH_none hf] at hl; cases hl
  have hfj : fresh ≠ j := by rintro rfl; rw [lkH_none hf] at hlj; cases hlj
  have hid2 : hasKey fresh (s.setH j .gone).heap = false := by
    simp only [St.setH]; rw [hasKey_put, hf]; simp [hfj]
  obtain ⟨L, hL, hLn, hcells, hmine, hlt⟩ : ∃ L, ρ id = some (some L) ∧ L.n = n ∧ (∀ j, j < n → ∃ v, w.cell? ⟨L.b, L.base + j, none⟩ = some v ∧ Rep w (Wr U ρ s.heap) ρ ((AV.segs l).cell j) v) ∧ Mine w L ∧ L.b < w.heap.size := by
    rcases hb.lies with ⟨h1, h2⟩ | ⟨L, h1, h2, h3, h4, h5⟩
    · omega
    · exact ⟨L, h1, h2, h3, h4 rfl rfl, h5⟩
  obtain ⟨ρ1, q1, q2, q3, q4⟩ : ∃ ρ1, Sim U V.G w0 W0 ρ1 ((s.setH j .gone).setH fresh (.cells nj rj true)) a w ∧ (∀ x v, Rep w (Wr U ρ s.heap) ρ x v → Rep w (Wr U ρ1 ((s.setH j .gone).setH fresh (.cells nj rj true)).heap) ρ1 x v) ∧
      (∀ v, Rep w (Wr U ρ s.heap) ρ (.own j len sz) v → Rep w (Wr U ρ1 ((s.setH j .gone).setH fresh (.cells nj rj true)).heap) ρ1 (.own fresh len sz) v) ∧ ρ1 id = some (some L) := by
    have hbj := hs.bl j nj rj true hlj
    rcases hbj.lies with ⟨h1, h2⟩ | ⟨Lj, h1, h2, h3, h4, h5⟩
    · obtain ⟨f1, f2⟩ := hs.weaken (id := j) (b' := .gone) (.inl rfl)
      obtain ⟨p1, p2⟩ := f1.newEmpty (id := fresh) (r := rj) hid2 (wf_leaf hleaf) (by rw [hbj.size, h2])
      subst h2
      refine ⟨_, p1, fun x v hx => p2 _ _ (f2 _ _ hx), fun v hv => ?_, by rw [Rho.set_other _ _ (Ne.symm hfid)]; exact hL⟩
      cases hv with
      | own0 _ _ b _ => exact .own0 fresh _ b (Rho.set_same _ _ _)
      | own _ _ _ _ _ L' hL' => rw [h1] at hL'; cases hL'
    · obtain ⟨hw', hs', hn', vals, hv'⟩ := hs.cells hlj h1
      have hG := hs.grow (htag := fun t ht => by rw [leaf_tag hleaf] at ht; cases ht) (w' := w) (id' := fresh) (r' := rj) (n' := nj) hlj h1 (WSame.refl _) hid2 (wf_leaf hleaf) hbj.size rfl (fun _ _ => rfl) (by
        have := h4 rfl (leaf_isM hleaf)
        obtain ⟨c, t', fr, m1, m2, m3, m4⟩ := this
        exact ⟨c, t', fr, m1, m2, by simp only; omega, m4⟩) fun i hi => ⟨_, (hv' i hi).1, (hv' i hi).2⟩
      refine ⟨_, hG.1, hG.2, fun v hv => ?_, by rw [Rho.set_other _ _ (Ne.symm hfid)]; exact hL⟩
      cases hv with
      | own0 _ _ b hL' => rw [h1] at hL'; cases hL'
      | own _ _ _ ll cap L' hL' hn1 hkl hcap hS h0 hm =>
        rw [h1] at hL'; cases hL'
        exact .own fresh len sz ll cap { Lj with n := nj } (Rho.set_same _ _ _) (by simp only; omega) hkl hcap hS h0 hm
  have hl1 : lkH id ((s.setH j .gone).setH fresh (.cells nj rj true)).heap = .cells n (.segs l) true := by
    simp only [St.setH]; rw [lkH_put, if_neg (Ne.symm hfid), lkH_put, if_neg (Ne.symm hne)]; exact hl
  obtain ⟨r1, _⟩ := q1.rewrite (r' := .segs (l.setn k (.one (.own fresh len sz)))) (w' := w) (htag := fun t ht => by rw [tag_setn hj hk] at ht; exact ht) hl1 q4 (WSame.refl _) (by simpa only [AV.wf] using g3) (by simp only [AV.size]; omega) rfl (fun _ _ => rfl) hmine (fun i hi => by
    obtain ⟨v, e1, e2⟩ := hcells i hi
    refine ⟨v, e1, ?_⟩
    simp only [AV.cell] at e2 ⊢
    by_cases hio : i = off
    · subst hio
      rw [g2] at e2
      rw [g5]
      exact q3 v e2
    · rw [g6 i hio]; exact q2 _ _ e2)
  exact ⟨ρ1, r1.next (fresh + 1)⟩
theorem fvAt_ok (h : TysOk P V.T) (hs : Sim U V.G w0 W0 ρ s a w) (e id k : Nat) : Sim U V.G w0 W0 ρ (fvAt V e id s k) a w := by
  unfold fvAt
  split <;> first | exact hs | skip
  rename_i n0 l hl
  split <;> first | exact hs | skip
  rename_i v hj
  split <;> first | exact hs | skip
  rename_i r len sz hv
  split <;> first | exact hs | skip
  rename_i n r0 hl2 hk
  rw [Nat.blt_eq] at hk
  have hl3 := freeze_sub s v id n r0 hl2
  rw [hl] at hl3
  injection hl3 with e1 e2 e3
  subst e1; subst e2
  obtain ⟨f1, f2⟩ := hs.freeze v
  have hb := hs.bl id n0 _ true hl
  have hw : l.wfS := by have := hb.wf rfl; simpa only [AV.wf] using this
  have hsz : l.sizeS = n0 := by have := hb.size; simpa only [AV.size] using this
  obtain ⟨off, g1, g2, g3, g4, g5, g6⟩ := nth_cell l k _ (mkvs r len sz) hw hk hj rfl
  obtain ⟨L, hL, hLn, hcells, hlt⟩ : ∃ L, ρ id = some (some L) ∧ L.n = n0 ∧ (∀ j, j < n0 → ∃ v, w.cell? ⟨L.b, L.base + j, none⟩ = some v ∧ Rep w (Wr U ρ s.heap) ρ ((AV.segs l).cell j) v) ∧ L.b < w.heap.size := by
    rcases hb.lies with ⟨h1, h2⟩ | ⟨L, h1, h2, h3, h4, h5⟩
    · omega
    · exact ⟨L, h1, h2, h3, h5⟩
  have hmine : Mine w L := by
    have hb2 := f1.bl id n0 _ true hl2
    rcases hb2.lies with ⟨h1, h2⟩ | ⟨L2, h1, h2, h3, h4, h5⟩
    · rw [h1] at hL; cases hL
    · rw [h1] at hL; cases hL; exact h4 rfl rfl
  refine (f1.rewrite (r' := .segs (l.setn k (.one (mkvs r len sz)))) (w' := w) (htag := fun t ht => by rw [tag_setn hj hk] at ht; exact ht) hl2 hL (WSame.refl _) (by simpa only [AV.wf] using g3) (by simp only [AV.size]; omega) rfl (fun _ _ => rfl) hmine (fun i hi => ?_)).1
  obtain ⟨u, e1, e2⟩ := hcells i hi
  refine ⟨u, e1, ?_⟩
  simp only [AV.cell] at e2 ⊢
  by_cases hio : i = off
  · subst hio
    rw [g2] at e2
    rw [g5]
    exact coerce_ok h hs e2 hv
  · rw [g6 i hio]; exact f2 _ _ e2
theorem fvAll_ok (h : TysOk P V.T) (e id : Nat) : ∀ (n k : Nat) (s : St), Sim U V.G w0 W0 ρ s a w → Sim U V.G w0 W0 ρ (fvAll V e id n k s) a w
  | 0, _, _, hs => hs
  | n + 1, k, _, hs => fvAll_ok h e id n (k + 1) _ (fvAt_ok h hs e id k)
theorem rowsOf_spec {k : IntKind} : ∀ {l : AVs} {xss : List (List Int)}, rowsOf k l = some xss → xss.length = l.sizeS ∧ ∀ j, j < l.sizeS → l.cellS j = .vs (.rI k (xss.getD j [])) 0 1
  | .nil, xss, h => by
    simp only [rowsOf, Option.some.injEq] at h; subst h
    exact ⟨rfl, fun j hj => by simp [AVs.sizeS] at hj⟩
  | .cons m v t, xss, h => by
    unfold rowsOf at h
    split at h <;> try contradiction
    · rename_i k' xs t' heq
      cases heq
      split at h <;> try contradiction
      rename_i l hk hl
      cases h
      have hk' := of_decide_eq_true hk
      subst hk'
      obtain ⟨h1, h2⟩ := rowsOf_spec hl
      refine ⟨by simp only [List.length_cons, AVs.sizeS, AV.size, h1]; omega, fun j hj => ?_⟩
      cases j with
      | zero => rw [cellS_lt (by omega)]; rfl
      | succ j =>
        rw [cellS_ge (by omega)]
        simp only [AVs.sizeS, AV.size] at hj
        rw [Nat.add_sub_cancel, h2 j (by omega)]; rfl
theorem collect_ok (hs : Sim U V.G w0 W0 ρ s a w) (id : Nat) (k : IntKind) : Sim U V.G w0 W0 ρ (collect s id k) a w := by
  unfold collect
  split <;> first | exact hs | skip
  rename_i n l hl
  split <;> first | exact hs | skip
  rename_i xss hn hx
  rw [Nat.blt_eq] at hn
  obtain ⟨h1, h2⟩ := rowsOf_spec hx
  have hb := hs.bl id n _ true hl
  have hsz : l.sizeS = n := by have := hb.size; simpa only [AV.size] using this
  obtain ⟨L, hL, hLn, hcells, hmine, hlt⟩ : ∃ L, ρ id = some (some L) ∧ L.n = n ∧ (∀ j, j < n → ∃ v, w.cell? ⟨L.b, L.base + j, none⟩ = some v ∧ Rep w (Wr U ρ s.heap) ρ ((AV.segs l).cell j) v) ∧ Mine w L ∧ L.b < w.heap.size := by
    rcases hb.lies with ⟨h1, h2⟩ | ⟨L, h1, h2, h3, h4, h5⟩
    · omega
    · exact ⟨L, h1, h2, h3, h4 rfl rfl, h5⟩
  refine (hs.rewrite (r' := .rL k xss) (w' := w) (htag := fun t ht => by rw [leaf_tag rfl] at ht; cases ht) hl hL (WSame.refl _) trivial (by simp only [AV.size]; omega) rfl (fun _ _ => rfl) hmine (fun i hi => ?_)).1
  obtain ⟨u, e1, e2⟩ := hcells i hi
  refine ⟨u, e1, ?_⟩
  simp only [AV.cell] at e2 ⊢
  rw [h2 i (by omega)] at e2
  exact e2
theorem mode1_ok (h : TysOk P V.T) (hs : Sim U V.G w0 W0 ρ s a w) (t : Nat) (m : Md) (fresh : Nat) : ∃ ρ', Sim U V.G w0 W0 ρ' (mode1 V s t m fresh) a w := by
  unfold mode1
  split
  · exact ⟨ρ, hs⟩
  · rename_i e
    split
    · rename_i r hns hz hk
      obtain ⟨_, g1, g2, _⟩ := h.zrow hz
      obtain ⟨q1, q2⟩ := hs.newEmpty (id := fresh) (r := r) hk (wf_leaf g1) (by rw [g2]; simp)
      have hr := hs.tm t
      rw [hns] at hr
      refine ⟨_, (q1.slot (t := t) (y := .own fresh 0 (V.T.at e).sz) ?_).next (fresh + 1)⟩
      generalize a.tmps.getD t Go.undef = u at hr ⊢
      cases hr with | ns =>
      exact .own0 fresh _ none (Rho.set_same _ _ _)
    · rename_i id lim len r0 hsl hz hk
      split
      · rename_i n r hl
        split
        · rename_i r' hp
          have hr := hs.tm t
          rw [hsl] at hr
          have hne : id ≠ fresh := by
            rintro rfl
            rw [lkH_none hk] at hl; cases hl
          have hid : hasKey fresh (s.setH id .gone).heap = false := by
            simp only [St.setH]; rw [hasKey_put, hk]
            simp [Ne.symm hne]
          generalize hu : a.tmps.getD t Go.undef = u at hr
          cases hr with
          | sl0 _ _ _ _ _ a0 _ =>
            obtain ⟨f1, f2⟩ := hs.weaken (id := id) (b' := .gone) (.inl rfl)
            obtain ⟨q1, q2⟩ := f1.newEmpty (id := fresh) (r := r') hid (wf_leaf (Parts.leaf hp)) (part_size0 hp)
            refine ⟨_, (q1.slot (t := t) (y := .own fresh 0 1) ?_).next (fresh + 1)⟩
            rw [hu]
            exact .own0 fresh _ a0 (Rho.set_same _ _ _)
          | sl _ _ _ _ _ _ cap L hL h0 hx hb hcap hm hlim hS =>
            have hleaf := Parts.leaf hp
            have hb' := hs.bl id n r true hl
            obtain ⟨hw, hsz, hLn, vals, hv⟩ := hs.cells hl hL
            have hps := part_spec hp (by omega)
            have hM : Mine w L := by
              rcases hb'.lies with ⟨h1, _⟩ | ⟨L', h1, _, _, h4, _⟩
              · rw [h1] at hL; cases hL
              · rw [h1] at hL; cases hL; exact h4 rfl (by cases r <;> first | rfl | (simp [AV.part] at hp))
            obtain ⟨c, t', fr, m1, m2, m3, m4⟩ := hM
            have hG := hs.grow (htag := fun t ht => by rw [leaf_tag hleaf] at ht; cases ht) (w' := w) (id' := fresh) (r' := r') (n' := len) hl hL (WSame.refl _) hid (wf_leaf hleaf) hps.size rfl (fun _ _ => rfl) ⟨c, t', fr, m1, m2, by simp only; omega, m4⟩ fun j hj => by
              have := hv j (by omega)
              refine ⟨_, this.1, ?_⟩
              rw [hps.cells j hj, Nat.zero_add]
              exact this.2
            refine ⟨_, (hG.1.slot (t := t) (y := .own fresh 0 1) ?_).next (fresh + 1)⟩
            rw [hu]
            have e : (⟨L.b, L.base + (0 + 0 * 1), none⟩ : Addr) = ⟨L.b, L.base, none⟩ := by simp
            rw [e]
            exact .own fresh 0 1 len cap { L with n := len } (Rho.set_same _ _ _) (Nat.mul_one _) rfl hcap (by simp only; omega) (by omega) hm
        · exact ⟨ρ, hs⟩
      · exact ⟨ρ, hs⟩
    · exact ⟨ρ, hs⟩
  · rename_i e
    split
    · rename_i r len sz hv
      have hr := hs.tm t
      exact ⟨ρ, (hs.freeze (lk t s.tmps)).1.slot (coerce_ok h hs hr hv)⟩
    · exact ⟨ρ, hs⟩
  · -- an owned slice in a field gets a new name
    rename_i k
    split <;> first | exact ⟨ρ, hs⟩ | skip
    split <;> first | exact ⟨ρ, hs⟩ | skip
    rename_i id lim rm hptr n l hl
    split <;> first | exact ⟨ρ, hs⟩ | skip
    rename_i j len sz hj
    split <;> first | exact ⟨ρ, hs⟩ | skip
    rename_i nj rj hc hk hlj
    split <;> first | exact ⟨ρ, hs⟩ | skip
    rename_i hleaf
    rw [Bool.and_eq_true, Nat.blt_eq, Bool.not_eq_true'] at hc
    exact touch_ok hs hl hj hc.1 (by intro e; rw [e] at hc; simp at hc) hk hlj hleaf
  · -- a slice in a field, as a view
    rename_i k e
    split <;> first | exact ⟨ρ, hs⟩ | skip
    exact ⟨ρ, fvAt_ok h hs _ _ _⟩
  · -- slices in the elements of an owned one, as views
    rename_i k e
    split <;> first | exact ⟨ρ, hs⟩ | skip
    split <;> first | exact ⟨ρ, hs⟩ | skip
    exact ⟨ρ, collect_ok (fvAll_ok h _ _ _ _ _ hs) _ _⟩
  · -- a map gives up its slices
    split <;> first | exact ⟨ρ, hs⟩ | skip
    · split <;> first | exact ⟨ρ, hs⟩ | skip
      rename_i hl
      exact hs.fixM hl
    · -- a variable of one's own that is only looked at from here on
      rename_i id hp
      split <;> first | exact ⟨ρ, hs⟩ | skip
      rename_i k x hl
      have hr := hs.tm t
      rw [hp] at hr
      refine ⟨ρ, (hs.freezeId id).1.slot ?_⟩
      generalize a.tmps.getD t Go.undef = u at hr ⊢
      cases hr with
      | ptr _ _ _ _ _ _ _ L hL hi hx hb h0 =>
        obtain ⟨hw, hsz, hLn, vals, hv⟩ := hs.cells hl hL
        refine .gp (.rI k [x]) 1 0 0 0 1 L.b L.base vals rfl rfl (fun _ => rfl) (by decide) (by decide) ?_ (fun j hj => (hv j hj).1) (fun j hj => ?_)
        · simp only [Am.freezeId, hl]
          exact hs.not_wr hl hL
        · obtain rfl : j = 0 := by omega
          exact (hs.freezeId id).2 _ _ (hv 0 hj).2
theorem modeAll_ok (h : TysOk P V.T) : ∀ (l : List (Nat × Md)) (fresh : Nat) (s : St) (ρ : Rho), Sim U V.G w0 W0 ρ s a w → ∃ ρ', Sim U V.G w0 W0 ρ' (modeAll V l fresh s) a w
  | [], _, s, ρ, hs => ⟨ρ, hs⟩
  | (t, m) :: l, fresh, s, ρ, hs => by
    obtain ⟨ρ1, h1⟩ := mode1_ok h hs t m fresh
    exact modeAll_ok h l (fresh + 1) _ ρ1 h1
theorem lk_map {s : St} (f : AV → AV) : ∀ (keep : List (Nat × Md)) (t : Nat), (lk t (keep.map fun p => (p.1, f (lk p.1 s.tmps))) = f (lk t s.tmps) ∧ ∃ p ∈ keep, p.1 = t) ∨ lk t (keep.map fun p => (p.1, f (lk p.1 s.tmps))) = .undef
  | [], t => .inr rfl
  | p :: keep, t => by
    rw [List.map_cons, lk_put]
    by_cases e : t = p.1
    · rw [if_pos e, e]; exact .inl ⟨rfl, p, by simp, rfl⟩
    · rw [if_neg e]
      rcases lk_map f keep t with ⟨h, q, hq, he⟩ | h
      · exact .inl ⟨h, q, by simp [hq], he⟩
      · exact .inr h
theorem addNew_pre : ∀ (l acc : List Nat), ∃ t, addNew acc l = acc ++ t
  | [], acc => ⟨[], by simp [addNew]⟩
  | n :: l, acc => by
    simp only [addNew]
    split
    · exact addNew_pre l acc
    · obtain ⟨t, ht⟩ := addNew_pre l (acc ++ [n])
      exact ⟨n :: t, by rw [ht]; simp⟩
theorem reach_pre (H : List (Nat × Blk)) : ∀ (d : Nat) (acc todo : List Nat), ∃ t, reach H d acc todo = acc ++ t
  | 0, acc, todo => ⟨[], by simp [reach]⟩
  | d + 1, acc, [] => ⟨[], by simp [reach]⟩
  | d + 1, acc, id :: todo => by
    simp only [reach]
    obtain ⟨t, ht⟩ := reach_pre H d (acc ++ addNew [] ((lkH id H).ids.filter fun n => !(mem n acc))) (todo ++ addNew [] ((lkH id H).ids.filter fun n => !(mem n acc)))
    exact ⟨_, by rw [ht, List.append_assoc]⟩
theorem reach_fix {H : List (Nat × Blk)} {m d : Nat} {l todo : List Nat} : ∀ j, j < m → (reach H d (addNew (List.range m) l) todo)[j]? = some j := by
  intro j hj
  obtain ⟨t, ht⟩ := addNew_pre l (List.range m)
  obtain ⟨t2, ht2⟩ := reach_pre H d (addNew (List.range m) l) todo
  rw [ht2, ht, List.append_assoc, List.getElem?_append_left (by simpa using hj)]
  simp [hj]
theorem norm_ok (h : TysOk P V.T) (hs : Sim U V.G w0 W0 ρ s a w) (keep : List (Nat × Md)) : ∃ ρ', Sim U V.G w0 W0 ρ' (norm V keep s) a w := by
  unfold norm
  dsimp only
  obtain ⟨ρ1, h1⟩ := modeAll_ok h keep s.next s ρ hs
  generalize modeAll V keep s.next s = s1 at h1 ⊢
  generalize hroots : addNew (List.range s1.m) ((keep.map fun p => (p.1, lk p.1 s1.tmps)).flatMap fun p => p.2.ids) = roots
  generalize hids : reach s1.heap 64 roots roots = ids
  split
  · rename_i hgood
    have hg := goodIds_ok hgood
    have hfix : ∀ j, j < s1.m → ids[j]? = some j := by
      rw [← hids, ← hroots]
      exact reach_fix
    refine ⟨rhoN ρ1 ids, ?_⟩
    have key : ∀ x v, Rep w (Wr U ρ1 s1.heap) ρ1 x v → (∀ id ∈ x.ids, id ∈ ids) → Rep w (Wr U (rhoN ρ1 ids) (tagH 0 (ids.map fun n => (lkH n s1.heap).ren fun n => numb n ids))) (rhoN ρ1 ids) (x.ren fun n => numb n ids) v := by
      intro x v hx hid
      have h1 := hx.ren (ρ' := rhoN ρ1 ids) (fun n => numb n ids) (fun id hi y hy => by rw [rhoN_numb (hid id hi)]; exact hy)
      exact h1.mono (fun _ _ _ _ => rfl) (fun b hlt hb hb' => hb (by
        rcases hb' with hb' | hb'
        · exact .inl hb'
        · exact .inr (small_wrN hb'))) (fun _ _ h => h)
    exact {
      tm := fun t => by
        have e : (List.map (fun p => (p.1, AV.ren (fun n => numb n ids) p.2)) (keep.map fun p => (p.1, lk p.1 s1.tmps))) = keep.map fun p => (p.1, AV.ren (fun n => numb n ids) (lk p.1 s1.tmps)) := by rw [List.map_map]; rfl
        dsimp only
        rw [e]
        rcases lk_map (s := s1) (AV.ren fun n => numb n ids) keep t with ⟨e2, p, hp, rfl⟩ | e2
        · rw [e2]
          refine key _ _ (h1.tm p.1) fun id hid => hg.roots id ?_
          rw [← hroots]
          refine mem_addNew.2 (.inr (List.mem_flatMap.2 ⟨(p.1, lk p.1 s1.tmps), List.mem_map.2 ⟨p, hp, rfl⟩, hid⟩))
        · rw [e2]; exact .undef _
      nt := h1.nt
      df := h1.df
      bl := fun j n r b hl => by
        obtain ⟨id, r0, g1, g2, g3, rfl⟩ := small_cells hl
        have hb := h1.bl id n r0 b g3
        obtain ⟨q1, q2, q3⟩ := row_renM (fun n => numb n ids) r0 hb.wf
        refine ⟨q1, q2.trans hb.size, ?_, fun k kn v es e => ?_, fun t ht => ?_⟩ <;> rw [rhoN_some g1]
        rotate_left
        · obtain ⟨L, l1, l2⟩ := hb.map k kn v es (ren_rM e)
          obtain ⟨ms, clock, m1, m2⟩ := l2.ex
          exact ⟨L, l1, ⟨⟨ms, clock, m1, m2.mono fun xs u hx => by
            have := key _ _ hx (fun i hi => by rw [mval_ids] at hi; simp at hi)
            rwa [mval_ren] at this⟩, l2.keys, l2.nd, l2.bo, l2.hid.mono rfl fun c hc => ⟨rfl, rfl⟩⟩⟩
        · exact hb.typ t (by rw [tag_ren] at ht; exact ht)
        rcases hb.lies with hb1 | ⟨L, l1, l2, l3, l4, l5⟩
        · exact .inl hb1
        · refine .inr ⟨L, l1, l2, fun k hk => ?_, (fun e h => l4 e (by rwa [isM_ren] at h)), l5⟩
          obtain ⟨v, e1, e2⟩ := l3 k hk
          refine ⟨v, e1, ?_⟩
          have q := q3 k (by rw [hb.size]; exact hk)
          rw [q.1]
          exact key _ _ e2 fun i hi => hg.closed id g2 i (by rw [g3]; exact q.2 i hi)
      sep := fun j j' n r n' r' b' L L' h1' h2 h3 h4 h5 => by
        obtain ⟨id, r0, g1, g2, g3, rfl⟩ := small_cells h1'
        obtain ⟨id', r0', g1', g2', g3', rfl⟩ := small_cells h2
        rw [rhoN_some g1] at h3
        rw [rhoN_some g1'] at h4
        have e := h1.sep id id' n r0 n' r0' b' L L' g3 g3' h3 h4 h5
        subst e
        exact (List.getElem?_inj (List.getElem?_eq_some_iff.1 g1).1 hg.nodup).1 (g1.trans g1'.symm)
      dom := fun j hj => by
        simp only [hasKey_tag, List.length_map]
        have : j < ids.length := by
          rcases Nat.lt_or_ge j ids.length with h | h
          · exact h
          · exact absurd (by simp [rhoN, rho0, List.getElem?_eq_none h]) hj
        simp [this]
      fr := h1.fr
      wo := fun b hb => h1.wo b (small_wrN hb)
      sz := h1.sz
      gl := h1.gl
      uo := h1.uo
      ug := h1.ug
      su := fun j n r b L h1' h2 => by
        obtain ⟨id, r0, g1, g2, g3, rfl⟩ := small_cells h1'
        rw [rhoN_some g1] at h2
        exact h1.su id n r0 b L g3 h2
      ini := fun id x hx => by
        have hlt := h1.im id (by rw [hx]; simp)
        rw [rhoN_some (hfix id hlt)]
        exact h1.ini id x hx
      im := h1.im, sm := h1.sm
      xk := ⟨h1.xk.l, fun b M j n r c L hb h1' h2 => by
        obtain ⟨id, r0, g1, g2, g3, rfl⟩ := small_cells h1'
        rw [rhoN_some g1] at h2
        exact h1.xk.s b M id n r0 c L hb g3 h2, h1.xk.u⟩ }
  · exact ⟨ρ, hs⟩
theorem cutTo_ok (h : TysOk P V.T) (hs : Sim U V.G w0 W0 ρ s a w) (spec : Option (List (Nat × Md))) : ∃ ρ', Sim U V.G w0 W0 ρ' (cutTo V spec s) a w := by
  cases spec with
  | none => exact ⟨ρ, hs⟩
  | some keep => exact norm_ok h hs keep
end Go.Am
end
section
/- What an operation looks at: the same operation in another state. -/
namespace Go.Am
open Go
variable {V : Env} {s t : St}
structure AgreeH (l : List Nat) (s t : St) : Prop where
  lk : ∀ id ∈ l, lkH id s.heap = lkH id t.heap
  key : ∀ id ∈ l, hasKey id s.heap = hasKey id t.heap
  next : s.next = t.next
theorem AgreeH.mono {l l' : List Nat} (h : AgreeH l s t) (hl : ∀ x ∈ l', x ∈ l) : AgreeH l' s t := ⟨fun id hid => h.lk id (hl id hid), fun id hid => h.key id (hl id hid), h.next⟩
theorem view_loc {e : Nat} {x : AV} (h : AgreeH (dids x) s t) : view V s e x = view V t e x := by
  cases x <;> simp only [view]
  all_goals (rw [h.lk _ (by simp [dids])])
theorem srcA_loc {e : Nat} {x : AV} (h : AgreeH (dids x) s t) : srcA V s e x = srcA V t e x := by
  cases x <;> first | rfl | (simp only [srcA]; exact view_loc h)
theorem coerce_loc {m : Option Nat} {x : AV} (h : AgreeH (dids x) s t) : coerce V s m x = coerce V t m x := by
  cases m with
  | none => rfl
  | some e => simp only [coerce, view_loc h]
theorem olen_loc {id len sz : Nat} (h : AgreeH [id] s t) : olen s id len sz = olen t id len sz := by
  simp only [olen, h.lk id (by simp)]
theorem aload_loc {ty : Nat} {p : AV} (h : AgreeH (dids p) s t) : aload V ty p s = aload V ty p t := by
  cases p <;> simp only [aload]
  all_goals (rw [h.lk _ (by simp [dids])])
theorem alen_loc {ty : Nat} {x : AV} (h : AgreeH (dids x) s t) : alen V ty x s = alen V ty x t := by
  cases x <;> simp only [alen]
  all_goals (rw [olen_loc (h.mono (by simp [dids]))])
def St.push (s : St) (D : List (Nat × Blk)) : St := { s with heap := D ++ s.heap }
theorem freezeId_loc {id : Nat} (h : AgreeH [id] s t) : ∃ D, freezeId s id = s.push D ∧ freezeId t id = t.push D ∧ ∀ p ∈ D, p.1 = id := by
  unfold freezeId
  rw [← h.lk id (by simp)]
  split
  · rename_i n r b hl; exact ⟨[(id, .cells n r false)], rfl, rfl, fun p hp => by simp at hp; simp [hp]⟩
  · exact ⟨[], rfl, rfl, fun p hp => by simp at hp⟩
theorem freeze_loc {x : AV} (h : AgreeH (dids x) s t) : ∃ D, freeze s x = s.push D ∧ freeze t x = t.push D ∧ ∀ p ∈ D, p.1 ∈ dids x := by
  unfold freeze
  split
  · rename_i id _ _
    obtain ⟨D, h1, h2, h3⟩ := freezeId_loc (id := id) (h.mono (by simp [dids])); exact ⟨D, h1, h2, fun p hp => by simp [dids, h3 p hp]⟩
  · rename_i id _ _ _ _ _
    obtain ⟨D, h1, h2, h3⟩ := freezeId_loc (id := id) (h.mono (by simp [dids])); exact ⟨D, h1, h2, fun p hp => by simp [dids, h3 p hp]⟩
  · exact ⟨[], rfl, rfl, fun p hp => by simp at hp⟩
theorem lkH_push (D : List (Nat × Blk)) : ∀ (id : Nat) (H H' : List (Nat × Blk)), lkH id H = lkH id H' → lkH id (D ++ H) = lkH id (D ++ H') := by
  induction D with
  | nil => intro id H H' h; exact h
  | cons p D ih =>
    intro id H H' h
    simp only [List.cons_append]
    rw [lkH_put, lkH_put]
    split
    · rfl
    · exact ih id H H' h
theorem hasKey_push (D : List (Nat × Blk)) : ∀ (id : Nat) (H H' : List (Nat × Blk)), hasKey id H = hasKey id H' → hasKey id (D ++ H) = hasKey id (D ++ H') := by
  induction D with
  | nil => intro id H H' h; exact h
  | cons p D ih =>
    intro id H H' h
    simp only [List.cons_append]
    rw [hasKey_put, hasKey_put, ih id H H' h]
theorem AgreeH.push {l : List Nat} (h : AgreeH l s t) (D : List (Nat × Blk)) : AgreeH l (s.push D) (t.push D) :=
  ⟨fun id hid => lkH_push D id _ _ (h.lk id hid), fun id hid => hasKey_push D id _ _ (h.key id hid), h.next⟩
theorem push_push (s : St) (D D' : List (Nat × Blk)) : (s.push D).push D' = s.push (D' ++ D) := by simp [St.push]
theorem freezeAll_loc : ∀ (l : List AV) {s t : St}, AgreeH (l.flatMap dids) s t → ∃ D, freezeAll s l = s.push D ∧ freezeAll t l = t.push D ∧ ∀ p ∈ D, p.1 ∈ l.flatMap dids
  | [], s, t, _ => ⟨[], rfl, rfl, fun p hp => by simp at hp⟩
  | x :: l, s, t, h => by
    obtain ⟨D, h1, h2, h3⟩ := freeze_loc (x := x) (h.mono (by simp; intro y hy; exact .inl hy))
    have h' : AgreeH (l.flatMap dids) (s.push D) (t.push D) := (h.push D).mono (by intro y hy; simp at hy ⊢; exact .inr hy)
    obtain ⟨D', g1, g2, g3⟩ := freezeAll_loc l h'
    refine ⟨D' ++ D, ?_, ?_, fun p hp => ?_⟩
    · show freezeAll (freeze s x) l = _; rw [h1, g1, push_push]
    · show freezeAll (freeze t x) l = _; rw [h2, g2, push_push]
    · rcases List.mem_append.1 hp with hp | hp
      · exact List.mem_flatMap.2 (by obtain ⟨y, hy, hz⟩ := List.mem_flatMap.1 (g3 p hp); exact ⟨y, by simp [hy], hz⟩)
      · exact List.mem_flatMap.2 ⟨x, by simp, h3 p hp⟩
def Same (r : Option (Bool × AV × St)) (r' : Option (Bool × AV × St)) (s t : St) (wr : List Nat) : Prop :=
  ∀ p v s', r = some (p, v, s') → ∃ D, s' = s.push D ∧ r' = some (p, v, t.push D) ∧ ∀ q ∈ D, q.1 ∈ wr
theorem Same.pure {p : Bool} {v : AV} {wr : List Nat} : Same (some (p, v, s)) (some (p, v, t)) s t wr := by
  intro p' v' s' h
  simp only [Option.some.injEq, Prod.mk.injEq] at h
  obtain ⟨rfl, rfl, rfl⟩ := h
  exact ⟨[], rfl, rfl, fun q hq => by simp at hq⟩
theorem Same.none {r' : Option (Bool × AV × St)} {wr : List Nat} : Same none r' s t wr := fun _ _ _ h => by cases h
theorem Same.map {β : Type} {x : Option β} {f : β → Bool} {g : β → AV} {wr : List Nat} : Same (x.map fun b => (f b, g b, s)) (x.map fun b => (f b, g b, t)) s t wr := by
  cases x with
  | none => exact Same.none
  | some b => exact Same.pure
theorem newBlk_loc {i n : Nat} {r : AV} {pre : Bool} {f : Nat → AV} {wr : List Nat} (hw : s.next + 16 * i ∈ wr) (h : AgreeH [s.next + 16 * i] s t) : Same (newBlk s i n r pre f) (newBlk t i n r pre f) s t wr := by
  unfold newBlk
  rw [← h.next, ← h.key _ (by simp)]
  split
  · intro p v s' hh
    simp only [Option.some.injEq, Prod.mk.injEq] at hh
    obtain ⟨rfl, rfl, rfl⟩ := hh
    exact ⟨[(s.next + 16 * i, .cells n r true)], rfl, rfl, fun q hq => by simp at hq; rw [hq]; exact hw⟩
  · exact Same.none
theorem newBlkT_loc {ty i n : Nat} {r : AV} {pre : Bool} {f : Nat → AV} {wr : List Nat} (hw : s.next + 16 * i ∈ wr) (h : AgreeH [s.next + 16 * i] s t) : Same (newBlkT ty s i n r pre f) (newBlkT ty t i n r pre f) s t wr := by
  unfold newBlkT
  rw [← h.next, ← h.key _ (by simp)]
  split
  · intro p v s' hh
    simp only [Option.some.injEq, Prod.mk.injEq] at hh
    obtain ⟨rfl, rfl, rfl⟩ := hh
    exact ⟨[(s.next + 16 * i, .cells n r true)], rfl, rfl, fun q hq => by simp at hq; rw [hq]; exact hw⟩
  · exact Same.none
theorem addEmpty_loc {r0 : AV} {sz : Nat} {wr : List Nat} : ∀ (k id : Nat) {s t : St}, (∀ j, j < k → id + j ∈ wr) → AgreeH wr s t → ∀ vs s', addEmpty r0 sz k id s = some (vs, s') → ∃ D, s' = s.push D ∧ addEmpty r0 sz k id t = some (vs, t.push D) ∧ ∀ p ∈ D, p.1 ∈ wr
  | 0, id, s, t, _, h, vs, s', he => by
    simp only [addEmpty, Option.some.injEq, Prod.mk.injEq] at he
    obtain ⟨rfl, rfl⟩ := he
    exact ⟨[], rfl, rfl, fun p hp => by simp at hp⟩
  | k + 1, id, s, t, hk, h, vs, s', he => by
    have hid : id ∈ wr := by simpa using hk 0 (by omega)
    rw [addEmpty] at he
    split at he <;> try contradiction
    rename_i hkey
    split at he <;> try contradiction
    rename_i vs1 s1 h1
    simp only [Option.some.injEq, Prod.mk.injEq] at he
    obtain ⟨rfl, rfl⟩ := he
    obtain ⟨D, d1, d2, d3⟩ := addEmpty_loc k (id + 1) (s := s.push [(id, .cells 0 r0 true)]) (t := t.push [(id, .cells 0 r0 true)]) (fun j hj => by have := hk (j + 1) (by omega); rwa [show id + (j + 1) = id + 1 + j by omega] at this) (h.push _) vs1 s1 h1
    refine ⟨D ++ [(id, .cells 0 r0 true)], by rw [d1, push_push], ?_, fun p hp => ?_⟩
    · rw [addEmpty, ← h.key id hid, hkey]
      show (match addEmpty r0 sz k (id + 1) (t.push [(id, .cells 0 r0 true)]) with | some (vs, s') => some (AVs.cons 1 (.one (.own id 0 sz)) vs, s') | none => none) = _
      rw [d2, push_push]
    · rcases List.mem_append.1 hp with hp | hp
      · exact d3 p hp
      · simp at hp; rw [hp]; exact hid
theorem mkSlices_loc {i e' n : Nat} {one pre : Bool} {wr : List Nat} (hw : ∀ k, k < 16 → s.next + 16 * i + k ∈ wr) (h : AgreeH wr s t) : Same (mkSlices V i e' n one pre s) (mkSlices V i e' n one pre t) s t wr := by
  unfold mkSlices
  split
  · rename_i hn
    rw [Bool.and_eq_true, Nat.ble_eq] at hn
    split
    · rename_i r0 hr0
      intro p v s' hh
      split at hh <;> try contradiction
      rename_i vs s1 h1
      obtain ⟨D, d1, d2, d3⟩ := addEmpty_loc n (s.next + 16 * i + 1) (s := s) (t := t) (wr := wr) (fun j hj => by have := hw (j + 1) (by omega); rwa [show s.next + 16 * i + (j + 1) = s.next + 16 * i + 1 + j by omega] at this) h vs s1 h1
      subst d1
      obtain ⟨D2, e1, e2, e3⟩ := newBlk_loc (s := s.push D) (t := t.push D) (wr := wr) (show s.next + 16 * i ∈ wr by simpa using hw 0 (by omega)) ((h.push D).mono (by intro x hx; rw [List.mem_singleton] at hx; rw [hx]; exact (show s.next + 16 * i ∈ wr by simpa using hw 0 (by omega)))) p v s' hh
      refine ⟨D2 ++ D, by rw [e1, push_push], ?_, fun q hq => ?_⟩
      · rw [← h.next, d2]
        dsimp only
        rw [e2, push_push]
      · rcases List.mem_append.1 hq with hq | hq
        · exact e3 q hq
        · exact d3 q hq
    · exact Same.none
  · exact Same.none
theorem astore_loc {ty : Nat} {p v : AV} {wr : List Nat} (h : AgreeH (dids p ++ dids v) s t) (hw : ∀ x ∈ dids p ++ dids v, x ∈ wr) :
    Same ((astore V ty p v s).map fun s' => (true, AV.undef, s')) ((astore V ty p v t).map fun s' => (true, AV.undef, s')) s t wr := by
  have hpp := h.mono (l' := dids p) (by simp; intro x hx; exact .inl hx)
  have hvv := h.mono (l' := dids v) (by simp; intro x hx; exact .inr hx)
  cases p with
  | ptr id b l i m c rm =>
    have e := hpp.lk id (by simp [dids])
    unfold astore
    dsimp only
    rw [← e]
    have fin : ∀ bl : Blk, Same (some (true, AV.undef, s.setH id bl)) (some (true, AV.undef, t.setH id bl)) s t wr := by
      intro bl p' v' s' hh
      simp only [Option.some.injEq, Prod.mk.injEq] at hh
      obtain ⟨rfl, rfl, rfl⟩ := hh
      exact ⟨[(id, bl)], rfl, rfl, fun q hq => by simp at hq; rw [hq]; exact hw id (by simp [dids])⟩
    split
    · split
      · split
        · split
          · generalize AV.rsetN _ _ _ _ _ _ _ _ _ = oo
            cases oo with
            | none => exact Same.none
            | some r1 => exact fin _
          · exact Same.none
        · exact Same.none
      · split
        · split
          · exact fin _
          · split
            · rename_i e' _
              rw [← coerce_loc (m := some e') hvv]
              split
              · rename_i v' hv'
                obtain ⟨D, h1, h2, h3⟩ := freeze_loc hvv
                have e2 : lkH id (freeze t v).heap = lkH id (freeze s v).heap := by
                  rw [h1, h2]; exact (lkH_push D id _ _ e).symm
                rw [e2]
                split
                · generalize AV.rset _ _ _ _ _ _ _ = oo
                  cases oo with
                  | none => exact Same.none
                  | some r1 =>
                    intro p' u s' hh
                    simp only [Option.map_some, Option.some.injEq, Prod.mk.injEq] at hh
                    obtain ⟨rfl, rfl, rfl⟩ := hh
                    refine ⟨(id, .cells _ r1 true) :: D, by rw [h1]; rfl, by rw [h2]; rfl, fun q hq => ?_⟩
                    rcases List.mem_cons.1 hq with rfl | hq
                    · exact hw id (by simp [dids])
                    · exact hw _ (by simp [h3 q hq])
                · exact Same.none
              · exact Same.none
            · exact Same.none
        · exact Same.none
    · exact Same.none
  | _ => exact Same.none
theorem acopy_loc {id b lim o len ny : Nat} {ry : AV} {wr : List Nat} (h : AgreeH [id] s t) (hw : id ∈ wr) : Same (acopy s id b lim o len ry ny) (acopy t id b lim o len ry ny) s t wr := by
  unfold acopy
  rw [← h.lk id (by simp)]
  split
  · split
    · split
      · intro p v s' hh
        simp only [Option.some.injEq, Prod.mk.injEq] at hh
        obtain ⟨rfl, rfl, rfl⟩ := hh
        exact ⟨[(id, _)], rfl, rfl, fun q hq => by simp at hq; rw [hq]; exact hw⟩
      · exact Same.none
    · exact Same.none
  · exact Same.none
theorem appOwn_loc {i e : Nat} {x y : AV} {l wr : List Nat} (h : AgreeH l s t) (hx : ∀ id ∈ dids x, id ∈ l) (hy : ∀ id ∈ dids y, id ∈ l) (hn : s.next + 16 * i ∈ l ∧ s.next + 16 * i ∈ wr) (hv : ∀ id ∈ dids x, id ∈ wr) :
    Same (appOwn V s i e x y) (appOwn V t i e x y) s t wr := by
  unfold appOwn
  split
  · rename_i id len id2 len2
    rw [h.lk id (hx id (by simp [dids])), h.lk id2 (hy id2 (by simp [dids]))]
    split
    · split
      · intro p v s' hh
        have h' : AgreeH [s.next + 16 * i] (s.push [(id, .gone)]) (t.push [(id, .gone)]) := (h.push _).mono (by simpa using hn.1)
        obtain ⟨D, d1, d2, d3⟩ := newBlk_loc (s := s.push [(id, .gone)]) (t := t.push [(id, .gone)]) (wr := wr) hn.2 h' p v s' hh
        refine ⟨D ++ [(id, .gone)], by rw [d1, push_push], by rw [← push_push]; exact d2, fun q hq => ?_⟩
        rcases List.mem_append.1 hq with hq | hq
        · exact d3 q hq
        · simp at hq; rw [hq]; exact hv id (by simp [dids])
      · exact Same.none
    · exact Same.none
  · exact Same.none
theorem abuiltin_loc {i : Nat} {b : Builtin} {tys : List Nat} {args : List AV} {l wr : List Nat} (h : AgreeH l s t) (hargs : ∀ x ∈ args, ∀ id ∈ dids x, id ∈ l)
    (hnew : b = .append → s.next + 16 * i ∈ l ∧ s.next + 16 * i ∈ wr) (hfirst : b = .append ∨ b = .copy ∨ b = .clear ∨ b = .delete → ∀ id ∈ dids (args.getD 0 .undef), id ∈ wr) :
    Same (abuiltin V i b tys args s) (abuiltin V i b tys args t) s t wr := by
  have one : ∀ {x : AV}, x ∈ args → AgreeH (dids x) s t := fun {x} hx => h.mono (hargs x hx)
  unfold abuiltin
  split
  · -- len
    rename_i v
    split <;> first | exact Same.pure | exact Same.none | skip
    · rename_i id len sz _
      rw [olen_loc (h.mono (l' := [id]) (by simpa using hargs (.own id len sz) (by simp) id (by simp [dids])))]
      cases olen t id len sz with
      | none => exact Same.none
      | some n => exact Same.pure
    · rename_i id _
      rw [h.lk id (hargs (.mp id) (by simp) id (by simp [dids]))]
      split <;> first | exact Same.pure | exact Same.none
    · split <;> first | exact Same.pure | exact Same.none
    · split
      · split <;> first | exact Same.pure | exact Same.none
      · exact Same.none
  · -- append
    rename_i v x
    obtain ⟨hn1, hn2⟩ := hnew rfl
    have hv := hfirst (.inl rfl)
    split
    · dsimp only
      rename_i e _
      rw [srcA_loc (one (x := x) (by simp))]
      split
      · split
        · split
          · split
            · exact newBlk_loc hn2 (h.mono (by simpa using hn1))
            · exact Same.none
          · rename_i id len sz' _
            have hid : id ∈ l := hargs (.own id len sz') (by simp) id (by simp [dids])
            rw [h.lk id hid]
            split
            · split
              · intro p v s' hh
                have h' : AgreeH [s.next + 16 * i] (s.push [(id, .gone)]) (t.push [(id, .gone)]) := (h.push _).mono (by simpa using hn1)
                obtain ⟨D, d1, d2, d3⟩ := newBlkT_loc (s := s.push [(id, .gone)]) (t := t.push [(id, .gone)]) (wr := wr) hn2 h' p v s' hh
                refine ⟨D ++ [(id, .gone)], by rw [d1, push_push], by rw [← push_push]; exact d2, fun q hq => ?_⟩
                rcases List.mem_append.1 hq with hq | hq
                · exact d3 q hq
                · simp at hq; rw [hq]; exact hv id (by simp [dids])
              · exact Same.none
            · exact Same.none
          · split
            · exact Same.pure
            · exact Same.none
          · rename_i id b lim o len _
            have hid : id ∈ l := hargs (.sl id b lim o len 1) (by simp) id (by simp [dids])
            intro p v s' hh
            split at hh <;> try contradiction
            rename_i p0 v0 s1 hb1 hc
            obtain ⟨D, d1, d2, d3⟩ := acopy_loc (h.mono (by simpa using hid)) (hv id (by simp [dids])) p0 v0 s1 hc
            simp only [Option.some.injEq, Prod.mk.injEq] at hh
            obtain ⟨rfl, rfl, rfl⟩ := hh
            exact ⟨D, d1, by rw [hb1, d2], d3⟩
          · exact Same.none
        · exact Same.none
      · exact appOwn_loc h (hargs v (by simp)) (hargs x (by simp)) ⟨hn1, hn2⟩ (by simpa using hv)
    · split
      · split
        · exact newBlk_loc hn2 (h.mono (by simpa using hn1))
        · exact Same.none
      · exact Same.none
  · -- copy
    rename_i v x
    have hv := hfirst (.inr (.inl rfl))
    split
    · rename_i e _
      rw [srcA_loc (one (x := x) (by simp))]
      split
      · split
        · rename_i id len
          have hid : id ∈ l := hargs (.own id len 1) (by simp) id (by simp [dids])
          rw [olen_loc (h.mono (l' := [id]) (by simpa using hid))]
          split
          · exact acopy_loc (h.mono (by simpa using hid)) (hv id (by simp [dids]))
          · exact Same.none
        · rename_i id b lim o len
          have hid : id ∈ l := hargs (.sl id b lim o len 1) (by simp) id (by simp [dids])
          exact acopy_loc (h.mono (by simpa using hid)) (hv id (by simp [dids]))
        · exact Same.none
      · exact Same.none
    · exact Same.none
  · -- clear
    have hv := hfirst (.inr (.inr (.inl rfl)))
    split
    · rename_i e id b lim o len _
      have hid : id ∈ l := hargs (.sl id b lim o len 1) (by simp) id (by simp [dids])
      split
      · intro p v s' hh
        split at hh <;> try contradiction
        rename_i p0 v0 s1 hc
        obtain ⟨D, d1, d2, d3⟩ := acopy_loc (h.mono (by simpa using hid)) (hv id (by simp [dids])) p0 v0 s1 hc
        simp only [Option.some.injEq, Prod.mk.injEq] at hh
        obtain ⟨rfl, rfl, rfl⟩ := hh
        exact ⟨D, d1, by rw [d2], d3⟩
      · exact Same.none
    · exact Same.none
  · -- delete
    have hv := hfirst (.inr (.inr (.inr rfl)))
    split
    · rename_i id
      have hid : id ∈ l := hargs (.mp id) (by simp) id (by simp [dids])
      rw [← h.lk id hid]
      split
      · split
        · split
          · intro p v s' hh
            simp only [Option.some.injEq, Prod.mk.injEq] at hh
            obtain ⟨rfl, rfl, rfl⟩ := hh
            exact ⟨[(id, _)], rfl, rfl, fun q hq => by simp at hq; rw [hq]; exact hv id (by simp [dids])⟩
          · exact Same.none
        · exact Same.none
      · exact Same.none
    · exact Same.none
  · split <;> first | exact Same.pure | exact Same.none
  · split <;> first | exact Same.pure | exact Same.none
  · split <;> first | exact Same.pure | exact Same.none
  · exact Same.none
theorem ownF_loc {wr : List Nat} : ∀ (fs : List (Nat × Nat)) (l : AVs) (id : Nat) {s t : St}, (∀ j, j < fs.length → id + j ∈ wr) → AgreeH wr s t → ∀ l' s', ownF V fs l id s = some (l', s') → ∃ D, s' = s.push D ∧ ownF V fs l id t = some (l', t.push D) ∧ ∀ p ∈ D, p.1 ∈ wr
  | [], l, id, s, t, _, h, l', s', he => by
    simp only [ownF, Option.some.injEq, Prod.mk.injEq] at he
    obtain ⟨rfl, rfl⟩ := he
    exact ⟨[], rfl, rfl, fun p hp => by simp at hp⟩
  | f :: fs, .nil, id, s, t, _, h, l', s', he => by
    simp only [ownF, Option.some.injEq, Prod.mk.injEq] at he
    obtain ⟨rfl, rfl⟩ := he
    exact ⟨[], rfl, rfl, fun p hp => by simp at hp⟩
  | f :: fs, .cons n v l, id, s, t, hk, h, l', s', he => by
    simp only [ownF] at he ⊢
    cases hn : nilSl V f.1 v with
    | some r0s =>
      obtain ⟨r0, sz⟩ := r0s
      rw [hn] at he
      dsimp only at he ⊢
      have hid : id ∈ wr := by simpa using hk 0 (by simp)
      rw [← h.key id hid]
      cases hkey : hasKey id s.heap with
      | true => rw [hkey] at he; cases he
      | false =>
        rw [hkey] at he
        dsimp only at he ⊢
        split at he <;> try contradiction
        rename_i l1 s1 h1
        simp only [Option.some.injEq, Prod.mk.injEq] at he
        obtain ⟨rfl, rfl⟩ := he
        obtain ⟨D, d1, d2, d3⟩ := ownF_loc fs l (id + 1) (s := s.push [(id, .cells 0 r0 true)]) (t := t.push [(id, .cells 0 r0 true)]) (fun j hj => by have := hk (j + 1) (by simp; omega); rwa [show id + (j + 1) = id + 1 + j by omega] at this) (h.push _) l1 s1 h1
        refine ⟨D ++ [(id, .cells 0 r0 true)], by rw [d1, push_push], ?_, fun p hp => ?_⟩
        · show (match ownF V fs l (id + 1) (t.push [(id, .cells 0 r0 true)]) with | some (l', s') => some (AVs.cons n (.one (.own id 0 sz)) l', s') | none => none) = _
          rw [d2, push_push]
        · rcases List.mem_append.1 hp with hp | hp
          · exact d3 p hp
          · simp at hp; rw [hp]; exact hid
    | none =>
      rw [hn] at he
      dsimp only at he ⊢
      split at he <;> try contradiction
      rename_i l1 s1 h1
      simp only [Option.some.injEq, Prod.mk.injEq] at he
      obtain ⟨rfl, rfl⟩ := he
      obtain ⟨D, d1, d2, d3⟩ := ownF_loc fs l id (fun j hj => hk j (by simp; omega)) h l1 s1 h1
      exact ⟨D, d1, by rw [d2], d3⟩
theorem ownB_loc {wr : List Nat} {d : TyD} {r : AV} {id : Nat} (hk : ∀ j, j < 15 → id + j ∈ wr) (h : AgreeH wr s t) : ∀ r' s', ownB V d r id s = some (r', s') → ∃ D, s' = s.push D ∧ ownB V d r id t = some (r', t.push D) ∧ ∀ p ∈ D, p.1 ∈ wr := by
  intro r' s' he
  unfold ownB at he ⊢
  cases d with
  | struct fs =>
    cases r with
    | segs l =>
      dsimp only at he ⊢
      cases hn : Nat.ble fs.length 15 with
      | true =>
        rw [hn] at he
        rw [Nat.ble_eq] at hn
        dsimp only at he ⊢
        split at he <;> try contradiction
        rename_i l1 s1 h1
        simp only [Option.some.injEq, Prod.mk.injEq] at he
        obtain ⟨rfl, rfl⟩ := he
        obtain ⟨D, d1, d2, d3⟩ := ownF_loc fs l id (fun j hj => hk j (by omega)) h l1 s1 h1
        exact ⟨D, d1, by rw [d2], d3⟩
      | false =>
        rw [hn] at he
        simp only [Option.some.injEq, Prod.mk.injEq] at he
        obtain ⟨rfl, rfl⟩ := he
        exact ⟨[], rfl, rfl, fun p hp => by simp at hp⟩
    | _ =>
      simp only [Option.some.injEq, Prod.mk.injEq] at he
      obtain ⟨rfl, rfl⟩ := he
      exact ⟨[], rfl, rfl, fun p hp => by simp at hp⟩
  | _ =>
    simp only [Option.some.injEq, Prod.mk.injEq] at he
    obtain ⟨rfl, rfl⟩ := he
    exact ⟨[], rfl, rfl, fun p hp => by simp at hp⟩
theorem coerceAll_loc : ∀ {ms : List (Option Nat)} {args : List AV}, AgreeH (args.flatMap dids) s t → coerceAll V s ms args = coerceAll V t ms args
  | [], [], _ => rfl
  | [], _ :: _, _ => rfl
  | _ :: _, [], _ => rfl
  | m :: ms, v :: args, h => by
    simp only [coerceAll]
    rw [coerce_loc (h.mono (by simp; intro x hx; exact .inl hx)), coerceAll_loc (ms := ms) (args := args) (h.mono (by intro x hx; simp at hx ⊢; exact .inr hx))]
theorem reach_loc {H H' : List (Nat × Blk)} : ∀ (d : Nat) (acc todo : List Nat), (∀ id ∈ todo, id ∈ acc) → (∀ id ∈ reach H d acc todo, lkH id H = lkH id H') → reach H d acc todo = reach H' d acc todo
  | 0, acc, todo, _, _ => by simp [reach]
  | d + 1, acc, [], _, _ => by simp [reach]
  | d + 1, acc, id :: todo, hsub, h => by
    have hid : id ∈ reach H (d + 1) acc (id :: todo) := by
      obtain ⟨t, ht⟩ := reach_pre H (d + 1) acc (id :: todo)
      rw [ht]; exact List.mem_append.2 (.inl (hsub id (by simp)))
    simp only [reach] at h ⊢
    have e : lkH id H = lkH id H' := h id (by simpa [reach] using hid)
    rw [← e]
    refine reach_loc d _ _ (fun x hx => ?_) h
    rcases List.mem_append.1 hx with hx | hx
    · exact List.mem_append.2 (.inl (hsub x (by simp [hx])))
    · exact List.mem_append.2 (.inr hx)
theorem freeAll_loc {H H' : List (Nat × Blk)} : ∀ (n id : Nat), (∀ j, j < n → hasKey (id + j) H = hasKey (id + j) H') → freeAll id n H = freeAll id n H'
  | 0, _, _ => rfl
  | n + 1, id, h => by
    simp only [freeAll]
    have e0 : hasKey id H = hasKey id H' := h 0 (Nat.succ_pos n)
    have e1 := freeAll_loc n (id + 1) (fun j hj => by simpa [Nat.add_assoc, Nat.add_comm, Nat.add_left_comm] using h (j + 1) (Nat.succ_lt_succ hj))
    rw [e0, e1]
theorem putBackK_loc (ids : List Nat) (fresh : Nat) (π : Nat → Nat) : ∀ (l : List Blk) (j : Nat) (H1 H2 : List (Nat × Blk)), (∀ k, j ≤ k → k < j + l.length → lkH (backOf ids fresh k) H1 = lkH (backOf ids fresh k) H2) →
    ∃ D : List (Nat × Blk), putBackK ids fresh π j l H1 = D ++ H1 ∧ putBackK ids fresh π j l H2 = D ++ H2 ∧ ∀ q ∈ D, q.1 ∈ pushedK ids fresh π j l H1
  | [], j, H1, H2, _ => ⟨[], rfl, rfl, fun q hq => by simp at hq⟩
  | b :: l, j, H1, H2, h => by
    simp only [putBackK, pushedK]
    rw [← h j (Nat.le_refl _) (by simp)]
    split
    · exact putBackK_loc ids fresh π l (j + 1) H1 H2 fun k k1 k2 => h k (by omega) (by simp; omega)
    · obtain ⟨D, d1, d2, d3⟩ := putBackK_loc ids fresh π l (j + 1) ((backOf ids fresh j, b.ren π) :: H1) ((backOf ids fresh j, b.ren π) :: H2) fun k k1 k2 => by
        rw [lkH_put, lkH_put, h k (by omega) (by simp; omega)]
      refine ⟨D ++ [(backOf ids fresh j, b.ren π)], by rw [d1]; simp, by rw [d2]; simp, fun q hq => ?_⟩
      rcases List.mem_append.1 hq with hq | hq
      · exact List.mem_cons_of_mem _ (d3 q hq)
      · simp at hq; rw [hq]; exact List.mem_cons_self
theorem alook_loc {ty i id : Nat} {d : Option Nat} {ok b : Bool} {k : IntKind} {n : Nat} {v : MV} {es : List (List Int × List Int)} {x : AV} {wr : List Nat} (hn : s.next = t.next)
    (hw : V.mvAt d ≠ 0 → s.next + 16 * i ∈ wr ∧ id ∈ wr ∧ hasKey (s.next + 16 * i) s.heap = hasKey (s.next + 16 * i) t.heap) : Same (alook V ty i d ok id k n v es b x s) (alook V ty i d ok id k n v es b x t) s t wr := by
  unfold alook
  split
  · split
    · split
      · exact Same.pure
      · rename_i hz
        obtain ⟨w1, w2, w3⟩ := hw hz
        rw [← hn, ← w3]
        split
        · intro p v s' hh
          simp only [Option.some.injEq, Prod.mk.injEq] at hh
          obtain ⟨rfl, rfl, rfl⟩ := hh
          exact ⟨[(s.next + 16 * i, _), (id, _)], rfl, rfl, fun q hq => by
            simp only [List.mem_cons, List.not_mem_nil, or_false] at hq
            rcases hq with rfl | rfl
            · exact w1
            · exact w2⟩
        · exact Same.none
    · exact Same.none
  · exact Same.none
theorem acall_loc {i f : Nat} {args args' : List AV} {modes : List (Option Nat)} {run : List AV → List Blk → Option (Bool × AV × List Blk)} {l wr : List Nat} (h : AgreeH l s t) (hE : V.E f = some (modes, run)) (hco : coerceAll V s modes args = some args')
    (h1 : ∀ id ∈ args.flatMap dids, id ∈ l) (h2 : ∀ id ∈ reach s.heap 64 (addNew [] (args'.flatMap AV.ids)) (addNew [] (args'.flatMap AV.ids)), id ∈ l)
    (h2w : ∀ id ∈ callW run args' (reach s.heap 64 (addNew [] (args'.flatMap AV.ids)) (addNew [] (args'.flatMap AV.ids))) (coerced modes args) (s.next + 16 * i) s, id ∈ wr)
    (h2c : ∀ id ∈ (coerced modes args).flatMap AV.ids, id ∈ l ∧ (callV run args' (reach s.heap 64 (addNew [] (args'.flatMap AV.ids)) (addNew [] (args'.flatMap AV.ids))) s.heap = true → id ∈ wr))
    (h3 : ∀ j, j < 16 → s.next + 16 * i + j ∈ l ∧ s.next + 16 * i + j ∈ wr) : Same (acall V i f args s) (acall V i f args t) s t wr := by
  unfold acall
  rw [hE]
  dsimp only
  rw [← coerceAll_loc (h.mono h1), hco]
  dsimp only
  have hr : reach s.heap 64 (addNew [] (args'.flatMap AV.ids)) (addNew [] (args'.flatMap AV.ids)) = reach t.heap 64 (addNew [] (args'.flatMap AV.ids)) (addNew [] (args'.flatMap AV.ids)) :=
    reach_loc 64 _ _ (fun _ h => h) fun id hid => h.lk id (h2 id hid)
  rw [← hr]
  generalize hroots : addNew [] (args'.flatMap AV.ids) = roots at h2 hr h2c h2w
  generalize hids : reach s.heap 64 roots roots = ids at h2 hr h2c h2w
  have hids' : ∀ id ∈ ids, id ∈ l := fun id hid => h2 id hid
  have hg : goodIds roots ids t.heap = goodIds roots ids s.heap := by
    unfold goodIds
    have e1 : (ids.all fun n => hasKey n t.heap) = ids.all fun n => hasKey n s.heap := by
      rw [Bool.eq_iff_iff, List.all_eq_true, List.all_eq_true]
      exact ⟨fun hh x hx => by rw [h.key x (hids' x hx)]; exact hh x hx, fun hh x hx => by rw [← h.key x (hids' x hx)]; exact hh x hx⟩
    have e2 : (ids.all fun n => (lkH n t.heap).ids.all fun k => mem k ids) = ids.all fun n => (lkH n s.heap).ids.all fun k => mem k ids := by
      rw [Bool.eq_iff_iff, List.all_eq_true, List.all_eq_true]
      exact ⟨fun hh x hx => by rw [h.lk x (hids' x hx)]; exact hh x hx, fun hh x hx => by rw [← h.lk x (hids' x hx)]; exact hh x hx⟩
    rw [e1, e2]
  have hgo : (ids.all fun n => !(lkH n t.heap).isO) = ids.all fun n => !(lkH n s.heap).isO := by
    rw [Bool.eq_iff_iff, List.all_eq_true, List.all_eq_true]
    exact ⟨fun hh x hx => by rw [h.lk x (hids' x hx)]; exact hh x hx, fun hh x hx => by rw [← h.lk x (hids' x hx)]; exact hh x hx⟩
  rw [hg, hgo]
  split
  · exact Same.none
  · have hm : (ids.map fun n => (lkH n t.heap).ren fun n => numb n ids) = ids.map fun n => (lkH n s.heap).ren fun n => numb n ids := List.map_congr_left fun n hn => by rw [h.lk n (hids' n hn)]
    rw [hm]
    split
    · exact Same.none
    · rename_i pre r H' hrun
      rw [← h.next]
      have hc : (Nat.ble ids.length H'.length && (Nat.ble (H'.length - ids.length) 16 && (freeAll (s.next + 16 * i) (H'.length - ids.length) t.heap && H'.all fun b => !b.isO))) = (Nat.ble ids.length H'.length && (Nat.ble (H'.length - ids.length) 16 && (freeAll (s.next + 16 * i) (H'.length - ids.length) s.heap && H'.all fun b => !b.isO))) := by
        cases hB : Nat.ble (H'.length - ids.length) 16 with
        | false => rfl
        | true =>
          rw [Nat.ble_eq] at hB
          rw [freeAll_loc (H := s.heap) (H' := t.heap) (H'.length - ids.length) (s.next + 16 * i) fun j hj => h.key _ (h3 j (by omega)).1]
      rw [hc]
      split
      · exact Same.none
      · rename_i hcond
        rw [Bool.and_eq_true, Bool.and_eq_true, Nat.ble_eq, Nat.ble_eq] at hcond
        have hback : ∀ k, k < H'.length → backOf ids (s.next + 16 * i) k ∈ l := fun k hk => by
          unfold backOf
          split
          · rename_i id hid; exact hids' id (List.mem_of_getElem? hid)
          · exact (h3 _ (by omega)).1
        unfold callW at h2w
        rw [hrun] at h2w
        dsimp only at h2w
        intro p v s' hh
        cases hl : (r.hasV || H'.any Blk.hasV) with
        | false =>
          rw [hl] at hh h2w
          obtain ⟨D, d1, d2, d3⟩ := putBackK_loc ids (s.next + 16 * i) (backOf ids (s.next + 16 * i)) H' 0 s.heap t.heap fun k _ hk => h.lk _ (hback k (by omega))
          simp only [Option.some.injEq, Prod.mk.injEq] at hh
          obtain ⟨rfl, rfl, rfl⟩ := hh
          exact ⟨D, by simp only [d1]; rfl, by simp only [d2]; rfl, fun q hq => h2w _ (d3 q hq)⟩
        | true =>
          rw [hl] at hh h2w
          simp only [Option.some.injEq, Prod.mk.injEq] at hh
          obtain ⟨rfl, rfl, rfl⟩ := hh
          have hcv : callV run args' ids s.heap = true := by unfold callV; rw [hrun]; exact hl
          have hsub : ∀ x ∈ (coerced modes args).flatMap dids, x ∈ (coerced modes args).flatMap AV.ids := fun x hx => by
            obtain ⟨y, hy, hz⟩ := List.mem_flatMap.1 hx
            refine List.mem_flatMap.2 ⟨y, hy, ?_⟩
            cases y <;> simp [dids] at hz <;> simp [AV.ids, hz]
          obtain ⟨D0, q1, q2, q3⟩ := freezeAll_loc (coerced modes args) (h.mono fun x hx => (h2c x (hsub x hx)).1)
          obtain ⟨D, d1, d2, d3⟩ := putBackK_loc ids (s.next + 16 * i) (backOf ids (s.next + 16 * i)) H' 0 (s.push D0).heap (t.push D0).heap fun k _ hk => (h.push D0).lk _ (hback k (by omega))
          simp only [q1] at h2w ⊢
          simp only [q2]
          refine ⟨D ++ D0, ?_, ?_, fun q hq => ?_⟩
          · have d1' : putBackK ids (s.next + 16 * i) (backOf ids (s.next + 16 * i)) 0 H' (D0 ++ s.heap) = D ++ (D0 ++ s.heap) := d1
            simp only [St.push, d1', List.append_assoc]
          · have d2' : putBackK ids (s.next + 16 * i) (backOf ids (s.next + 16 * i)) 0 H' (D0 ++ t.heap) = D ++ (D0 ++ t.heap) := d2
            simp only [St.push, d2', List.append_assoc]
          · rcases List.mem_append.1 hq with hq | hq
            · exact h2w _ (d3 q hq)
            · exact (h2c _ (hsub _ (q3 q hq))).2 hcv
theorem aop_loc {i : Nat} {o : Oper} {l : List Nat} (hop : ∀ x ∈ o.op.operands, ev V s x = ev V t x) (h : AgreeH l s t) (hl : ∀ id ∈ (foot V i o s).1 ++ (foot V i o s).2, id ∈ l) :
    Same (aop V i o s) (aop V i o t) s t (foot V i o s).2 := by
  have h1 : ∀ id ∈ (foot V i o s).1, id ∈ l := fun id hid => hl id (List.mem_append.2 (.inl hid))
  have h2 : ∀ id ∈ (foot V i o s).2, id ∈ l := fun id hid => hl id (List.mem_append.2 (.inr hid))
  cases ho : o.op with
  | move x => simp only [aop, ho]; rw [← hop x (by simp [ho, Op.operands])]; exact Same.pure
  | assign x => simp only [aop, ho]; rw [← hop x (by simp [ho, Op.operands])]; exact Same.pure
  | alloc ty =>
    simp only [foot, ho] at h1 h2 ⊢
    simp only [aop, ho]
    split
    · exact newBlkT_loc (by simp) (h.mono h2)
    · exact Same.none
  | box ty x =>
    simp only [foot, ho] at h1 h2 ⊢
    simp only [aop, ho]
    rw [← hop x (by simp [ho, Op.operands])]
    have hk : ∀ k, k < 16 → s.next + 16 * i + k ∈ (List.range 16).map fun j => s.next + 16 * i + j := fun k hk => List.mem_map.2 ⟨k, by simpa using hk, rfl⟩
    split
    · intro p v s' hh
      split at hh <;> try contradiction
      rename_i r1 s1 hB
      obtain ⟨D, d1, d2, d3⟩ := ownB_loc (t := t) (wr := (List.range 16).map fun j => s.next + 16 * i + j) (fun j hj => by have := hk (j + 1) (by omega); rwa [show s.next + 16 * i + (j + 1) = s.next + 16 * i + 1 + j by omega] at this) (h.mono h2) r1 s1 hB
      subst d1
      obtain ⟨D2, e1, e2, e3⟩ := newBlk_loc (s := s.push D) (t := t.push D) (wr := (List.range 16).map fun j => s.next + 16 * i + j) (show s.next + 16 * i ∈ _ by simp) (((h.mono h2).push D).mono (by intro x hx; rw [List.mem_singleton] at hx; rw [hx]; exact (show s.next + 16 * i ∈ (List.range 16).map fun j => s.next + 16 * i + j by simp))) p v s' hh
      refine ⟨D2 ++ D, by rw [e1, push_push], ?_, fun q hq => ?_⟩
      · rw [← h.next, d2]
        dsimp only
        rw [e2, push_push]
      · rcases List.mem_append.1 hq with hq | hq
        · exact e3 q hq
        · exact d3 q hq
    · exact Same.none
  | build ty parts =>
    have hp : (parts.toList.map fun (p : Nat × Operand) => (p.1, ev V s p.2)) = parts.toList.map fun (p : Nat × Operand) => (p.1, ev V t p.2) := List.map_congr_left fun p hp => by
      rw [hop p.2 (by simp only [ho, Op.operands]; simp; exact ⟨p.1, by simpa using hp⟩)]
    simp only [aop, ho]
    rw [hp]
    split
    · split
      · generalize fillS _ _ _ _ _ = oo
        cases oo with
        | none => exact Same.none
        | some r => exact Same.pure
      · exact Same.none
    · split
      · split
        · generalize fillR _ _ _ _ = oo
          cases oo with
          | none => exact Same.none
          | some r => exact Same.pure
        · exact Same.none
      · exact Same.none
    · exact Same.none
  | buildSlice ty n parts =>
    have hpo : ∀ p ∈ parts.toList, ev V s p.2 = ev V t p.2 := fun p hp => hop p.2 (by simp only [ho, Op.operands]; simp; exact ⟨p.1, by simpa using hp⟩)
    simp only [foot, ho] at h2 ⊢
    simp only [aop, ho]
    have hd : AgreeH (parts.toList.flatMap fun p => dids (ev V s p.2)) s t := h.mono fun x hx => h2 x (List.mem_append.2 (.inr hx))
    have hk : ∀ k, k < 16 → s.next + 16 * i + k ∈ (List.range 16).map fun j => s.next + 16 * i + j := fun k hk => List.mem_map.2 ⟨k, by simpa using hk, rfl⟩
    have hk0 : s.next + 16 * i ∈ ((List.range 16).map fun j => s.next + 16 * i + j) ++ parts.toList.flatMap fun p => dids (ev V s p.2) := List.mem_append.2 (.inl (by simp))
    have hp : (parts.toList.map fun (p : Nat × Operand) => (p.1, ev V t p.2)) = parts.toList.map fun (p : Nat × Operand) => (p.1, ev V s p.2) := List.map_congr_left fun p hp => by rw [hpo p hp]
    have hpc : ∀ e', (parts.toList.map fun (p : Nat × Operand) => (p.1, (coerce V t (some e') (ev V t p.2)).getD .undef)) = parts.toList.map fun (p : Nat × Operand) => (p.1, (coerce V s (some e') (ev V s p.2)).getD .undef) := fun e' => List.map_congr_left fun p hp => by
      rw [← hpo p hp, coerce_loc (hd.mono fun x hx => List.mem_flatMap.2 ⟨p, hp, hx⟩)]
    split
    · rename_i e _
      split
      · rename_i z hz
        rw [hp]
        have plain : ∀ oo : Option AV, Same (match oo with
            | some r => newBlk s i (bsz r n (V.T.at e).sz) r true fun id => .own id (klen n (V.T.at e).sz) (V.T.at e).sz
            | none => none) (match oo with
            | some r => newBlk t i (bsz r n (V.T.at e).sz) r true fun id => .own id (klen n (V.T.at e).sz) (V.T.at e).sz
            | none => none) s t (((List.range 16).map fun j => s.next + 16 * i + j) ++ parts.toList.flatMap fun p => dids (ev V s p.2)) := by
          intro oo
          cases oo with
          | none => exact Same.none
          | some r => exact newBlk_loc hk0 (h.mono (by intro x hx; rw [List.mem_singleton] at hx; rw [hx]; exact h2 _ hk0))
        cases hdd : (V.T.at e).d
        case slice e' =>
          dsimp only
          rw [hpc]
          generalize fillR _ _ _ _ = oo
          cases oo with
          | none => exact Same.none
          | some r =>
            dsimp only
            have f1 : (parts.toList.foldl (fun s' (p : Nat × Operand) => freeze s' (ev V s p.2)) s) = freezeAll s (parts.toList.map fun p => ev V s p.2) := by unfold freezeAll; rw [List.foldl_map]
            have f2 : (parts.toList.foldl (fun s' (p : Nat × Operand) => freeze s' (ev V t p.2)) t) = freezeAll t (parts.toList.map fun p => ev V s p.2) := by
              have : (parts.toList.map fun p => ev V s p.2) = parts.toList.map fun p => ev V t p.2 := List.map_congr_left fun p hp => hpo p hp
              rw [this]; unfold freezeAll; rw [List.foldl_map]
            rw [f1, f2]
            obtain ⟨D, d1, d2, d3⟩ := freezeAll_loc (s := s) (t := t) (parts.toList.map fun p => ev V s p.2) (by rw [List.flatMap_map]; exact hd)
            rw [d1, d2]
            intro p v s' hh
            have h' : AgreeH [s.next + 16 * i] (s.push D) (t.push D) := (h.push D).mono (by intro x hx; rw [List.mem_singleton] at hx; rw [hx]; exact h2 _ hk0)
            obtain ⟨D2, e1, e2, e3⟩ := newBlk_loc (s := s.push D) (t := t.push D) (wr := [s.next + 16 * i]) (by simp [St.push]) h' p v s' hh
            refine ⟨D2 ++ D, by rw [e1, push_push], by rw [← push_push]; exact e2, fun q hq => ?_⟩
            rcases List.mem_append.1 hq with hq | hq
            · have := e3 q hq; rw [List.mem_singleton] at this; rw [this]; exact hk0
            · have := d3 q hq; rw [List.flatMap_map] at this; exact List.mem_append.2 (.inr this)
        all_goals exact plain _
      · split
        · rw [hp]
          generalize fillR _ _ _ _ = oo
          cases oo with
          | none => exact Same.none
          | some r =>
            dsimp only
            have hk' : ∀ k, k < 16 → s.next + 16 * i + k ∈ ((List.range 16).map fun j => s.next + 16 * i + j) ++ parts.toList.flatMap fun p => dids (ev V s p.2) := fun k hh => List.mem_append.2 (.inl (hk k hh))
            intro p v s' hh
            split at hh <;> try contradiction
            rename_i r1 s1 hB
            obtain ⟨D, d1, d2, d3⟩ := ownB_loc (t := t) (wr := ((List.range 16).map fun j => s.next + 16 * i + j) ++ parts.toList.flatMap fun p => dids (ev V s p.2)) (fun j hj => by have := hk' (j + 1) (by omega); rwa [show s.next + 16 * i + (j + 1) = s.next + 16 * i + 1 + j by omega] at this) (h.mono h2) r1 s1 hB
            subst d1
            obtain ⟨D2, e1, e2, e3⟩ := newBlk_loc (s := s.push D) (t := t.push D) (wr := ((List.range 16).map fun j => s.next + 16 * i + j) ++ parts.toList.flatMap fun p => dids (ev V s p.2)) (show s.next + 16 * i ∈ _ by simp) (((h.mono h2).push D).mono (by intro x hx; rw [List.mem_singleton] at hx; rw [hx]; exact hk0)) p v s' hh
            refine ⟨D2 ++ D, by rw [e1, push_push], ?_, fun q hq => ?_⟩
            · rw [← h.next, d2]
              dsimp only
              rw [e2, push_push]
            · rcases List.mem_append.1 hq with hq | hq
              · exact e3 q hq
              · exact d3 q hq
        · exact Same.none
    · exact Same.none
  | load ty x =>
    simp only [foot, ho] at h1
    simp only [aop, ho]
    rw [← hop x (by simp [ho, Op.operands]), aload_loc (h.mono h1)]
    generalize aload _ _ _ _ = oo
    cases oo with
    | none => exact Same.none
    | some r => exact Same.pure
  | store ty x y =>
    simp only [foot, ho] at h2 ⊢
    simp only [aop, ho]
    rw [← hop x (by simp [ho, Op.operands]), ← hop y (by simp [ho, Op.operands])]
    exact astore_loc (h.mono h2) fun _ h => h
  | nilCheck x =>
    simp only [aop, ho]
    rw [← hop x (by simp [ho, Op.operands])]
    split <;> first | exact Same.pure | exact Same.none
  | binOp op ty x y sg =>
    simp only [foot, ho] at h1
    simp only [aop, ho]
    rw [← hop x (by simp [ho, Op.operands]), ← hop y (by simp [ho, Op.operands])]
    have e : nilcmp V ty op (ev V s x) (ev V s y) s = nilcmp V ty op (ev V s x) (ev V s y) t := by
      have h1' : AgreeH (dids (ev V s x)) s t := h.mono fun z hz => h1 z (List.mem_append.2 (.inl hz))
      generalize ev V s x = p at h1'
      generalize ev V s y = q
      unfold nilcmp
      have e : isNil V ty p q s = isNil V ty p q t := by
        unfold isNil
        cases q <;> try rfl
        dsimp only
        split
        · rename_i id len e hd
          rw [h1'.lk id (by simp [dids])]
        · rfl
      rw [e]
    rw [e]
    split
    · exact Same.pure
    · exact Same.map
  | unOp op ty x =>
    simp only [aop, ho]
    rw [← hop x (by simp [ho, Op.operands])]
    exact Same.map (f := fun _ => true) (g := fun v => v)
  | convert src dst x =>
    simp only [foot, ho] at h1 h2 ⊢
    simp only [aop, ho]
    rw [← hop x (by simp [ho, Op.operands])]
    split
    · exact Same.pure
    · exact Same.pure
    · split
      · exact newBlk_loc (by simp) (h.mono (by simpa using h2))
      · exact Same.none
    · rename_i id len _ _ hev
      have hid := (h.mono h1).lk id (by rw [hev]; simp [dids])
      rw [hid]
      split
      · split
        · exact Same.pure
        · exact Same.none
      · exact Same.none
    · rw [view_loc (h.mono h1)]
      split <;> first | exact Same.pure | exact Same.none
    · exact Same.none
  | sliceToArrayPointer ty x =>
    simp only [foot, ho] at h1
    simp only [aop, ho]
    rw [← hop x (by simp [ho, Op.operands])]
    have h1' := h.mono h1
    generalize ev V s x = y at h1'
    split
    · split
      · exact Same.map
      · rename_i id len sz _
        rw [olen_loc (h1'.mono (by simp [dids]))]
        exact Same.map
      · exact Same.pure
      · exact Same.none
    · exact Same.none
  | makeSlice ty x c =>
    simp only [foot, ho] at h2 ⊢
    simp only [aop, ho]
    rw [← hop x (by simp [ho, Op.operands]), ← hop c (by simp [ho, Op.operands])]
    have hk : ∀ k, k < 16 → s.next + 16 * i + k ∈ (List.range 16).map fun j => s.next + 16 * i + j := fun k hk => List.mem_map.2 ⟨k, by simpa using hk, rfl⟩
    split
    · split
      · exact mkSlices_loc hk (h.mono h2)
      · split
        · exact newBlk_loc (by have hk0 := hk 0 (by omega); rwa [Nat.add_zero] at hk0) (h.mono (by intro x hx; rw [List.mem_singleton] at hx; rw [hx]; simpa using h2 _ (hk 0 (by omega))))
        · exact Same.none
    · exact Same.none
  | slice ty x lo hi mx =>
    cases mx with
    | some m =>
      cases hi with
      | none => simp only [aop, ho]; exact Same.none
      | some hi =>
        simp only [foot, ho] at h2 ⊢
        cases lo with
        | none =>
          simp only [aop, ho]
          rw [← hop x (by simp [ho, Op.operands]), ← hop hi (by simp [ho, Op.operands]), ← hop m (by simp [ho, Op.operands])]
          unfold asliceX
          rw [view_loc (h.mono h2)]
          split
          · split
            · intro p v s' hh
              simp only [Option.some.injEq, Prod.mk.injEq] at hh
              obtain ⟨rfl, rfl, rfl⟩ := hh
              obtain ⟨D, d1, d2, d3⟩ := freeze_loc (s := s) (t := t) (x := ev V s x) (h.mono h2)
              exact ⟨D, d1, by rw [d2], d3⟩
            · exact Same.none
          · exact Same.none
        | some lo =>
          simp only [aop, ho]
          rw [← hop x (by simp [ho, Op.operands]), ← hop lo (by simp [ho, Op.operands]), ← hop hi (by simp [ho, Op.operands]), ← hop m (by simp [ho, Op.operands])]
          have h2' := h.mono h2
          generalize ev V s x = y at h2'
          unfold aslice3
          split
          · rw [alen_loc h2']
            split
            · exact Same.pure
            · exact Same.none
          · exact Same.none
    | none =>
      simp only [foot, ho] at h1
      simp only [aop, ho]
      have e1 : lo.map (ev V t) = lo.map (ev V s) := by
        cases lo with
        | none => rfl
        | some y => simp only [Option.map_some]; rw [hop y (by simp [ho, Op.operands])]
      have e2 : hi.map (ev V t) = hi.map (ev V s) := by
        cases hi with
        | none => rfl
        | some y => simp only [Option.map_some]; rw [hop y (by simp [ho, Op.operands])]
      rw [← hop x (by simp [ho, Op.operands]), e1, e2]
      unfold aslice
      rw [alen_loc (h.mono h1)]
      split
      · exact Same.none
      · split
        · exact Same.pure
        · split
          · split
            · exact Same.pure
            · exact Same.none
          · exact Same.none
  | fieldAddr ty x f =>
    simp only [aop, ho]
    rw [← hop x (by simp [ho, Op.operands])]
    split
    · split
      · exact Same.map (f := fun _ => true) (g := fun v => v)
      · exact Same.none
    · exact Same.none
  | field ty x f =>
    simp only [aop, ho]
    rw [← hop x (by simp [ho, Op.operands])]
    split
    · split
      · split
        · exact Same.map (f := fun _ => true) (g := fun v => v)
        · exact Same.none
      · exact Same.none
    · exact Same.none
  | indexAddr ty x j =>
    simp only [foot, ho] at h1
    simp only [aop, ho]
    rw [← hop x (by simp [ho, Op.operands]), ← hop j (by simp [ho, Op.operands])]
    have h1' := h.mono h1
    generalize ev V s x = y at h1'
    split
    · split
      · split
        · exact Same.pure
        · exact Same.none
      · rename_i id len sz
        rw [olen_loc (id := id) (h1'.mono (by simp [dids]))]
        have e : ∀ len j, ptrAt s id len j sz = ptrAt t id len j sz := fun len j => by
          unfold ptrAt; rw [h1'.lk id (by simp [dids])]
        simp only [e]
        split
        · exact Same.map
        · exact Same.none
      · split
        · exact Same.pure
        · exact Same.none
      · split
        · split
          · exact Same.map
          · exact Same.none
        · exact Same.none
      · split
        · split
          · exact Same.map
          · exact Same.none
        · exact Same.none
      · exact Same.none
    · exact Same.none
  | index ty x j =>
    simp only [aop, ho]
    rw [← hop x (by simp [ho, Op.operands]), ← hop j (by simp [ho, Op.operands])]
    split
    · split
      · exact Same.pure
      · exact Same.none
    · split
      · split
        · split
          · exact Same.map
          · split
            · exact Same.pure
            · exact Same.none
        · exact Same.none
      · exact Same.none
    · exact Same.none
  | extract x j =>
    simp only [aop, ho]
    rw [← hop x (by simp [ho, Op.operands])]
    split
    · split
      · exact Same.pure
      · exact Same.none
    · exact Same.none
  | makeFunc fn first cap =>
    unfold aop
    rw [ho]
    dsimp only
    cases fn with
    | func f =>
      dsimp only
      split
      · have : (cap.toList.map (ev V t)) = cap.toList.map (ev V s) := List.map_congr_left fun x hx => (hop x (by simp only [ho, Op.operands]; simp; exact .inr (by simpa using hx))).symm
        rw [this]; exact Same.pure
      · exact Same.none
    | _ => exact Same.none
  | call c =>
    have hargs : (c.args.toList.map (ev V t)) = c.args.toList.map (ev V s) := List.map_congr_left fun x hx => (hop x (by simp only [ho, Op.operands, Call.operands]; simp; exact .inr (by simpa using hx))).symm
    simp only [aop, ho]
    simp only [foot, ho] at h1 h2 ⊢
    split
    · rename_i b hb
      rw [hb] at h1 h2
      rw [hargs]
      have h0 : dids (ev V s (c.args.getD 0 (.const .nilIface))) = dids ((c.args.toList.map (ev V s)).getD 0 .undef) := by
        cases hl : c.args.toList with
        | nil => simp [Array.getD_eq_getD_getElem?, ← Array.getElem?_toList, hl, ev, ofVal, dids]
        | cons x l => simp [Array.getD_eq_getD_getElem?, ← Array.getElem?_toList, hl]
      cases b
      case append =>
        dsimp only at h1 h2 ⊢
        rw [hb]
        refine abuiltin_loc h (fun x hx id hid => ?_) (fun _ => ⟨h2 _ (List.mem_cons.2 (.inl rfl)), List.mem_cons.2 (.inl rfl)⟩) (fun _ id hid => by rw [← h0] at hid; exact List.mem_cons.2 (.inr hid))
        obtain ⟨y, hy, rfl⟩ := List.mem_map.1 hx
        exact h1 id (List.mem_flatMap.2 ⟨y, hy, hid⟩)
      case copy =>
        dsimp only at h1 h2 ⊢
        rw [hb]
        refine abuiltin_loc h (fun x hx id hid => ?_) (fun e => by cases e) (fun _ id hid => by rw [← h0] at hid; exact hid)
        obtain ⟨y, hy, rfl⟩ := List.mem_map.1 hx
        exact h1 id (List.mem_flatMap.2 ⟨y, hy, hid⟩)
      case clear =>
        dsimp only at h1 h2 ⊢
        rw [hb]
        refine abuiltin_loc h (fun x hx id hid => ?_) (fun e => by cases e) (fun _ id hid => by rw [← h0] at hid; exact hid)
        obtain ⟨y, hy, rfl⟩ := List.mem_map.1 hx
        exact h1 id (List.mem_flatMap.2 ⟨y, hy, hid⟩)
      case delete =>
        dsimp only at h1 h2 ⊢
        rw [hb]
        refine abuiltin_loc h (fun x hx id hid => ?_) (fun e => by cases e) (fun _ id hid => by rw [← h0] at hid; exact hid)
        obtain ⟨y, hy, rfl⟩ := List.mem_map.1 hx
        exact h1 id (List.mem_flatMap.2 ⟨y, hy, hid⟩)
      all_goals
        dsimp only at h1 h2 ⊢
        rw [hb]
        refine abuiltin_loc h (fun x hx id hid => ?_) (fun e => by cases e) (fun e => by rcases e with e | e | e | e <;> cases e)
        obtain ⟨y, hy, rfl⟩ := List.mem_map.1 hx
        exact h1 id (List.mem_flatMap.2 ⟨y, hy, hid⟩)
    · rename_i f hf
      rw [hf] at h1 h2
      dsimp only at h1 h2
      rw [← hop f (by simp [ho, Op.operands, Call.operands, hf]), hargs]
      rw [hf]
      split
      · rename_i f' cap hev
        rw [hev] at h1 h2
        dsimp only at h1 h2 ⊢
        cases hbl : Nat.blt f' 1073741824 with
        | false => exact Same.none
        | true =>
        dsimp only
        cases hE : V.E f' with
        | none =>
          have : acall V i f' (c.args.toList.map (ev V s) ++ cap.toList) s = none := by unfold acall; rw [hE]
          rw [this]; exact Same.none
        | some mr =>
          obtain ⟨modes, run⟩ := mr
          rw [hE] at h1 h2
          dsimp only at h1 h2
          cases hco : coerceAll V s modes (c.args.toList.map (ev V s) ++ cap.toList) with
          | none =>
            have : acall V i f' (c.args.toList.map (ev V s) ++ cap.toList) s = none := by unfold acall; rw [hE]; dsimp only; rw [hco]
            rw [this]; exact Same.none
          | some args' =>
            rw [hco] at h1 h2
            dsimp only at h1 h2 ⊢
            rw [hev]
            dsimp only
            rw [hE]
            dsimp only
            rw [hco]
            dsimp only
            cases hv : callV run args' (reach s.heap 64 (addNew [] (args'.flatMap AV.ids)) (addNew [] (args'.flatMap AV.ids))) s.heap with
            | true =>
              rw [hv] at h1 h2
              dsimp only at h1 h2 ⊢
              exact acall_loc h hE hco (fun id hid => h1 id (List.mem_append.2 (.inl hid))) (fun id hid => h1 id (List.mem_append.2 (.inr hid))) (fun id hid => List.mem_append.2 (.inl (List.mem_append.2 (.inl hid))))
                (fun id hid => ⟨h2 id (List.mem_append.2 (.inl (List.mem_append.2 (.inr hid)))), fun _ => List.mem_append.2 (.inl (List.mem_append.2 (.inr hid)))⟩) (fun j hj => by
                have : s.next + 16 * i + j ∈ (List.range 16).map fun j => s.next + 16 * i + j := List.mem_map.2 ⟨j, by simpa using hj, rfl⟩
                exact ⟨h2 _ (List.mem_append.2 (.inr this)), List.mem_append.2 (.inr this)⟩)
            | false =>
              rw [hv] at h1 h2
              dsimp only at h1 h2 ⊢
              exact acall_loc h hE hco (fun id hid => h1 id (List.mem_append.2 (.inl hid))) (fun id hid => h1 id (List.mem_append.2 (.inr (List.mem_append.2 (.inr hid))))) (fun id hid => List.mem_append.2 (.inl hid))
                (fun id hid => ⟨h1 id (List.mem_append.2 (.inr (List.mem_append.2 (.inl hid)))), fun e => by rw [hv] at e; cases e⟩) (fun j hj => by
                have : s.next + 16 * i + j ∈ (List.range 16).map fun j => s.next + 16 * i + j := List.mem_map.2 ⟨j, by simpa using hj, rfl⟩
                exact ⟨h2 _ (List.mem_append.2 (.inr this)), List.mem_append.2 (.inr this)⟩)
      · exact Same.none
    · exact Same.none
  | makeMap ty r =>
    cases r with
    | some r => (unfold aop; rw [ho]; exact Same.none)
    | none =>
      simp only [foot, ho] at h2 ⊢
      simp only [aop, ho]
      have h' := h.mono h2
      rw [← h'.next, ← h'.key _ (by simp)]
      split
      · intro p v s' hh
        simp only [Option.some.injEq, Prod.mk.injEq] at hh
        obtain ⟨rfl, rfl, rfl⟩ := hh
        exact ⟨[(s.next + 16 * i, _)], rfl, rfl, fun q hq => by simp at hq; rw [hq]; simp⟩
      · exact Same.none
  | lookup ty m x ok =>
    simp only [foot, ho] at h1 h2 ⊢
    simp only [aop, ho]
    rw [← hop m (by simp [ho, Op.operands]), ← hop x (by simp [ho, Op.operands])]
    have h' : AgreeH (dids (ev V s m)) s t := h.mono fun q hq => by
      cases hz : V.mvAt o.dst with
      | zero => rw [hz] at h1; exact h1 q hq
      | succ z => rw [hz] at h2; exact h2 q (List.mem_cons_of_mem _ hq)
    split
    · rename_i id hid
      rw [hid] at h'
      rw [← h'.lk id (by simp [dids])]
      split
      · split
        · split
          · exact Same.pure
          · exact Same.pure
        · refine alook_loc (h.next) fun hz => ?_
          cases hz' : V.mvAt o.dst with
          | zero => exact absurd hz' hz
          | succ z =>
            rw [hz'] at h2
            exact ⟨List.mem_cons_self .., List.mem_cons_of_mem _ (by rw [hid]; simp [dids]), h.key _ (h2 _ (List.mem_cons_self ..))⟩
      · exact Same.none
    · exact Same.none
  | mapUpdate ty m x y =>
    simp only [foot, ho] at h2 ⊢
    simp only [aop, ho]
    rw [← hop m (by simp [ho, Op.operands]), ← hop x (by simp [ho, Op.operands]), ← hop y (by simp [ho, Op.operands])]
    have h' := h.mono h2
    split
    · rename_i id hid
      rw [hid] at h'
      rw [← h'.lk id (by simp [dids])]
      split
      · split
        · intro p v s' hh
          simp only [Option.some.injEq, Prod.mk.injEq] at hh
          obtain ⟨rfl, rfl, rfl⟩ := hh
          exact ⟨[(id, _)], rfl, rfl, fun q hq => by simp at hq; rw [hq, hid]; simp [dids]⟩
        · unfold aputO
          split
          · rename_i k' key0 idy hy hl' hno
            rw [hy] at h'
            rw [← h'.lk idy (by simp [dids])]
            split
            · split
              · intro p v s' hh
                simp only [Option.some.injEq, Prod.mk.injEq] at hh
                obtain ⟨rfl, rfl, rfl⟩ := hh
                exact ⟨[(id, _), (idy, _)], rfl, rfl, fun q hq => by
                  simp only [List.mem_cons, List.not_mem_nil, or_false] at hq
                  rw [hid, hy]
                  rcases hq with rfl | rfl <;> simp [dids]⟩
              · exact Same.none
            · exact Same.none
          · exact Same.none
      · exact Same.none
    · exact Same.none
  | _ => (unfold aop; rw [ho]; exact Same.none)
end Go.Am
end