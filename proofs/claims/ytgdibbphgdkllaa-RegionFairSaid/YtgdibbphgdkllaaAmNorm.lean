/- Normal form. -/
import Derived.Test.YtgdibbphgdkllaaAmExec
set_option linter.unusedVariables false
set_option linter.unusedSimpArgs false
namespace Go.Am
open Go
variable {P : Program} {V : Env} {U : Oth} {w0 : World} {W0 : Nat → Prop} {ρ ρ' : Rho} {s s' : St} {a a' : Act} {w w' : World} {av : AV}

theorem Sim.slot (h : Sim U V.G w0 W0 ρ s a w) {t : Nat} {y : AV} (hy : Rep w (Wr U ρ s.heap) ρ y (a.tmps.getD t Go.undef)) : Sim U V.G w0 W0 ρ { s with tmps := (t, y) :: s.tmps } a w := by
  refine { h with tm := fun u => ?_ }
  simp only [lk_put]
  split
  · rename_i e; subst e; exact hy
  · exact h.tm u
theorem Sim.next (h : Sim U V.G w0 W0 ρ s a w) (n : Nat) : Sim U V.G w0 W0 ρ { s with next := n } a w :=
  { tm := h.tm, nt := h.nt, df := h.df, bl := h.bl, sep := h.sep, dom := h.dom, fr := h.fr, wo := h.wo, sz := h.sz, gl := h.gl, uo := h.uo, ug := h.ug, su := h.su, ini := h.ini, im := h.im, sm := h.sm }

theorem mode1_ok (h : TysOk P V.T) (hs : Sim U V.G w0 W0 ρ s a w) (t : Nat) (m : Md) (fresh : Nat) : ∃ ρ', Sim U V.G w0 W0 ρ' (mode1 V s t m fresh) a w := by
  unfold mode1
  split
  · exact ⟨ρ, hs⟩
  · rename_i e
    split
    · rename_i r hns hz hk
      obtain ⟨_, g1, g2, _⟩ := h.zrow hz
      obtain ⟨q1, q2⟩ := hs.newEmpty (id := fresh) (r := r) hk (wf_leaf g1) (by rw [g2]; simp)
      have hr := hs.tm t
      rw [hns] at hr
      refine ⟨_, (q1.slot (t := t) (y := .own fresh 0 (V.T.at e).sz) ?_).next (fresh + 1)⟩
      generalize a.tmps.getD t Go.undef = u at hr ⊢
      cases hr with | ns =>
      exact .own0 fresh _ none (Rho.set_same _ _ _)
    · exact ⟨ρ, hs⟩
  · rename_i e
    split
    · rename_i r len sz hv
      have hr := hs.tm t
      exact ⟨ρ, (hs.freeze (lk t s.tmps)).1.slot (coerce_ok h hs hr hv)⟩
    · exact ⟨ρ, hs⟩
theorem modeAll_ok (h : TysOk P V.T) : ∀ (l : List (Nat × Md)) (fresh : Nat) (s : St) (ρ : Rho), Sim U V.G w0 W0 ρ s a w → ∃ ρ', Sim U V.G w0 W0 ρ' (modeAll V l fresh s) a w
  | [], _, s, ρ, hs => ⟨ρ, hs⟩
  | (t, m) :: l, fresh, s, ρ, hs => by
    obtain ⟨ρ1, h1⟩ := mode1_ok h hs t m fresh
    exact modeAll_ok h l (fresh + 1) _ ρ1 h1

theorem lk_map {s : St} (f : AV → AV) : ∀ (keep : List (Nat × Md)) (t : Nat), (lk t (keep.map fun p => (p.1, f (lk p.1 s.tmps))) = f (lk t s.tmps) ∧ ∃ p ∈ keep, p.1 = t) ∨ lk t (keep.map fun p => (p.1, f (lk p.1 s.tmps))) = .undef
  | [], t => .inr rfl
  | p :: keep, t => by
    rw [List.map_cons, lk_put]
    by_cases e : t = p.1
    · rw [if_pos e, e]; exact .inl ⟨rfl, p, by simp, rfl⟩
    · rw [if_neg e]
      rcases lk_map f keep t with ⟨h, q, hq, he⟩ | h
      · exact .inl ⟨h, q, by simp [hq], he⟩
      · exact .inr h

/-- The first ids stay first. -/
theorem addNew_pre : ∀ (l acc : List Nat), ∃ t, addNew acc l = acc ++ t
  | [], acc => ⟨[], by simp [addNew]⟩
  | n :: l, acc => by
    simp only [addNew]
    split
    · exact addNew_pre l acc
    · obtain ⟨t, ht⟩ := addNew_pre l (acc ++ [n])
      exact ⟨n :: t, by rw [ht]; simp⟩
theorem reach_pre (H : List (Nat × Blk)) : ∀ (d : Nat) (acc todo : List Nat), ∃ t, reach H d acc todo = acc ++ t
  | 0, acc, todo => ⟨[], by simp [reach]⟩
  | d + 1, acc, [] => ⟨[], by simp [reach]⟩
  | d + 1, acc, id :: todo => by
    simp only [reach]
    obtain ⟨t, ht⟩ := reach_pre H d (acc ++ addNew [] ((lkH id H).ids.filter fun n => !(mem n acc))) (todo ++ addNew [] ((lkH id H).ids.filter fun n => !(mem n acc)))
    exact ⟨_, by rw [ht, List.append_assoc]⟩
theorem reach_fix {H : List (Nat × Blk)} {m d : Nat} {l todo : List Nat} : ∀ j, j < m → (reach H d (addNew (List.range m) l) todo)[j]? = some j := by
  intro j hj
  obtain ⟨t, ht⟩ := addNew_pre l (List.range m)
  obtain ⟨t2, ht2⟩ := reach_pre H d (addNew (List.range m) l) todo
  rw [ht2, ht, List.append_assoc, List.getElem?_append_left (by simpa using hj)]
  simp [hj]

theorem norm_ok (h : TysOk P V.T) (hs : Sim U V.G w0 W0 ρ s a w) (keep : List (Nat × Md)) : ∃ ρ', Sim U V.G w0 W0 ρ' (norm V keep s) a w := by
  unfold norm
  dsimp only
  obtain ⟨ρ1, h1⟩ := modeAll_ok h keep s.next s ρ hs
  generalize modeAll V keep s.next s = s1 at h1 ⊢
  generalize hroots : addNew (List.range s1.m) ((keep.map fun p => (p.1, lk p.1 s1.tmps)).flatMap fun p => p.2.ids) = roots
  generalize hids : reach s1.heap 64 roots roots = ids
  split
  · rename_i hgood
    have hg := goodIds_ok hgood
    have hfix : ∀ j, j < s1.m → ids[j]? = some j := by
      rw [← hids, ← hroots]
      exact reach_fix
    refine ⟨rho0 ρ1 ids, ?_⟩
    have key : ∀ x v, Rep w (Wr U ρ1 s1.heap) ρ1 x v → (∀ id ∈ x.ids, id ∈ ids) → Rep w (Wr U (rho0 ρ1 ids) (tagH 0 (ids.map fun n => (lkH n s1.heap).ren fun n => numb n ids))) (rho0 ρ1 ids) (x.ren fun n => numb n ids) v := by
      intro x v hx hid
      have h1 := hx.ren (ρ' := rho0 ρ1 ids) (fun n => numb n ids) (fun id hi y hy => by rw [rho0_numb (hid id hi)]; exact hy)
      exact h1.mono (fun _ _ _ _ => rfl) (fun b hlt hb hb' => hb (by
        rcases hb' with hb' | hb'
        · exact .inl hb'
        · exact .inr (small_wr' hb'))) (fun _ _ h => h)
    exact {
      tm := fun t => by
        have e : (List.map (fun p => (p.1, AV.ren (fun n => numb n ids) p.2)) (keep.map fun p => (p.1, lk p.1 s1.tmps))) = keep.map fun p => (p.1, AV.ren (fun n => numb n ids) (lk p.1 s1.tmps)) := by rw [List.map_map]; rfl
        dsimp only
        rw [e]
        rcases lk_map (s := s1) (AV.ren fun n => numb n ids) keep t with ⟨e2, p, hp, rfl⟩ | e2
        · rw [e2]
          refine key _ _ (h1.tm p.1) fun id hid => hg.roots id ?_
          rw [← hroots]
          refine mem_addNew.2 (.inr (List.mem_flatMap.2 ⟨(p.1, lk p.1 s1.tmps), List.mem_map.2 ⟨p, hp, rfl⟩, hid⟩))
        · rw [e2]; exact .undef _
      nt := h1.nt
      df := h1.df
      bl := fun j n r b hl => by
        obtain ⟨id, r0, g1, g2, g3, rfl⟩ := small_cells hl
        have hb := h1.bl id n r0 b g3
        obtain ⟨q1, q2, q3⟩ := row_ren (fun n => numb n ids) r0 hb.wf
        refine ⟨q1, q2.trans hb.size, ?_⟩
        rw [rho0_some g1]
        rcases hb.lies with hb1 | ⟨L, l1, l2, l3, l4, l5⟩
        · exact .inl hb1
        · refine .inr ⟨L, l1, l2, fun k hk => ?_, l4, l5⟩
          obtain ⟨v, e1, e2⟩ := l3 k hk
          refine ⟨v, e1, ?_⟩
          have q := q3 k (by rw [hb.size]; exact hk)
          rw [q.1]
          exact key _ _ e2 fun i hi => hg.closed id g2 i (by rw [g3]; exact q.2 i hi)
      sep := fun j j' n r n' r' b' L L' h1' h2 h3 h4 h5 => by
        obtain ⟨id, r0, g1, g2, g3, rfl⟩ := small_cells h1'
        obtain ⟨id', r0', g1', g2', g3', rfl⟩ := small_cells h2
        rw [rho0_some g1] at h3
        rw [rho0_some g1'] at h4
        have e := h1.sep id id' n r0 n' r0' b' L L' g3 g3' h3 h4 h5
        subst e
        exact (List.getElem?_inj (List.getElem?_eq_some_iff.1 g1).1 hg.nodup).1 (g1.trans g1'.symm)
      dom := fun j hj => by
        simp only [hasKey_tag, List.length_map]
        have : j < ids.length := by
          rcases Nat.lt_or_ge j ids.length with h | h
          · exact h
          · exact absurd (by simp [rho0, List.getElem?_eq_none h]) hj
        simp [this]
      fr := h1.fr
      wo := fun b hb => h1.wo b (small_wr' hb)
      sz := h1.sz
      gl := h1.gl
      uo := h1.uo
      ug := h1.ug
      su := fun j n r b L h1' h2 => by
        obtain ⟨id, r0, g1, g2, g3, rfl⟩ := small_cells h1'
        rw [rho0_some g1] at h2
        exact h1.su id n r0 b L g3 h2
      ini := fun id x hx => by
        have hlt := h1.im id (by rw [hx]; simp)
        rw [rho0_some (hfix id hlt)]
        exact h1.ini id x hx
      im := h1.im, sm := h1.sm }
  · exact ⟨ρ, hs⟩

theorem cutTo_ok (h : TysOk P V.T) (hs : Sim U V.G w0 W0 ρ s a w) (spec : Option (List (Nat × Md))) : ∃ ρ', Sim U V.G w0 W0 ρ' (cutTo V spec s) a w := by
  cases spec with
  | none => exact ⟨ρ, hs⟩
  | some keep => exact norm_ok h hs keep
end Go.Am
