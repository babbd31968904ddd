/- Regions whose order is drawn. -/
import Derived.Test.YtcafjaenmbhlnaaAmLoc
set_option linter.unusedVariables false
set_option linter.unusedSimpArgs false
namespace Go.Am
open Go
variable {P : Program} {V : Env} {U : Oth} {w0 : World} {W0 : Nat → Prop} {ρ ρ' : Rho} {s s' t : St} {a a' : Act} {w w' : World} {av : AV}
variable {α : Type} {ops : Array Oper} {K : St → Option α} {x : α}
def footG (V : Env) (i : Nat) (o : Oper) (s : St) : List Nat × List Nat := match o.op with
  | .pick _ _ _ => ([], [])
  | _ => foot V i o s
def footD (V : Env) (ops : Array Oper) (i : Nat) (o : Oper) (s : St) : List Nat × List Nat := match o.guard with
  | none => footG V i o s
  | some (j, want) => match (ops[j]?).bind (·.dst) with
    | none => ([], [])
    | some d => match lk d s.tmps with
      | .bool b => if b = want then footG V i o (s.put (some d) (.bool b)) else ([], [])
      | _ => ([], [])
theorem aopsD_cons {i : Nat} {o : Oper} {l : List Oper} {fs : List (List Nat × List Nat)} (h : aopsD V ops K i (o :: l) s fs = some x) : ∃ s', astep V ops i o s = some s' ∧ aopsD V ops K (i + 1) l s' (footD V ops i o s :: fs) = some x := by
  rw [aopsD] at h
  have go : ∀ s : St, (match o.op with
      | .pick c x y => match ev V s c with
        | .bool b => cond b (aopsD V ops K (i + 1) l (s.put o.dst (ev V s x)) (([], []) :: fs)) (aopsD V ops K (i + 1) l (s.put o.dst (ev V s y)) (([], []) :: fs))
        | _ => none
      | _ => match aop V i o s with
        | some (pre, v, s') => cond pre (spl V s o v fun v => aopsD V ops K (i + 1) l (s'.put o.dst v) (foot V i o s :: fs)) none
        | none => none) = some x → ∃ s', agoOp V i o s = some s' ∧ aopsD V ops K (i + 1) l s' (footG V i o s :: fs) = some x := by
    intro s h
    split at h
    · rename_i c y z hop
      have e1 : footG V i o s = ([], []) := by unfold footG; rw [hop]
      rw [e1]
      split at h <;> try contradiction
      rename_i b hb
      have e2 : agoOp V i o s = some (s.put o.dst (ev V s (if b then y else z))) := by unfold agoOp; rw [hop]; dsimp only; rw [hb]
      rcases cond_some h with ⟨rfl, h⟩ | ⟨rfl, h⟩
      · exact ⟨_, e2, h⟩
      · exact ⟨_, e2, h⟩
    · rename_i hop
      have e1 : footG V i o s = foot V i o s := by
        unfold footG
        split
        · rename_i c y z hop'; exact absurd hop' (hop c y z)
        · rfl
      rw [e1]
      split at h <;> try contradiction
      rename_i pre v s' ha
      rcases cond_some h with ⟨rfl, h⟩ | ⟨rfl, h⟩
      · refine ⟨s'.put o.dst v, ?_, spl_some (Kv := fun v => aopsD V ops K (i + 1) l (s'.put o.dst v) (foot V i o s :: fs)) ha h⟩
        unfold agoOp
        split
        · rename_i c y z hop'; exact absurd hop' (hop c y z)
        · rw [ha]
      · cases h
  dsimp only at h
  unfold astep footD
  split at h
  · rename_i hg
    rw [hg]
    exact go s h
  · rename_i j want hg
    rw [hg]
    dsimp only
    split at h <;> try contradiction
    rename_i d hd
    rw [hd]
    dsimp only
    split at h <;> try contradiction
    · rename_i b hb
      rw [hb]
      rcases cond_some h with ⟨rfl, h⟩ | ⟨rfl, h⟩
      · simp only [if_true]; exact go _ h
      · exact ⟨_, rfl, h⟩
    · rename_i b hb
      rw [hb]
      rcases cond_some h with ⟨rfl, h⟩ | ⟨rfl, h⟩
      · exact ⟨_, rfl, h⟩
      · simp only [if_true]; exact go _ h
    · rename_i hb
      rw [hb]
      exact ⟨_, rfl, h⟩
theorem aopsD_path : ∀ (l : List Oper) (i : Nat) (s : St) (fs : List (List Nat × List Nat)), ops.toList.drop i = l → aopsD V ops K i l s fs = some x →
    ∃ (ss : Nat → St) (gs : List (List Nat × List Nat)), ss i = s ∧ (∀ j o, i ≤ j → ops[j]? = some o → astep V ops j o (ss j) = some (ss (j + 1)) ∧ gs[j - i]? = some (footD V ops j o (ss j))) ∧
      drawOk ops (fs.reverse ++ gs) = true ∧ K { ss (max i ops.size) with next := (ss (max i ops.size)).next + 16 * ops.size } = some x
  | [], i, s, fs, hl, h => by
    have hge : ops.size ≤ i := by have := List.drop_eq_nil_iff.1 hl; simpa using this
    simp only [aopsD] at h
    split at h <;> try contradiction
    rename_i hd
    refine ⟨fun _ => s, [], rfl, fun j o hj ho => ?_, by simpa using hd, h⟩
    have := (Array.getElem?_eq_some_iff.1 ho).1
    omega
  | o :: l, i, s, fs, hl, h => by
    have hlt : i < ops.size := by
      rcases Nat.lt_or_ge i ops.size with h | h
      · exact h
      · rw [List.drop_eq_nil_iff.2 (by simpa using h)] at hl; cases hl
    have ho : ops[i]? = some o := by
      have := List.getElem?_drop (xs := ops.toList) (i := i) (j := 0)
      rw [hl] at this; simpa using this.symm
    have hl' : ops.toList.drop (i + 1) = l := by
      rw [← List.drop_drop, hl]; rfl
    obtain ⟨s', h1, h2⟩ := aopsD_cons h
    obtain ⟨ss, gs, g1, g2, g3, g4⟩ := aopsD_path l (i + 1) s' _ hl' h2
    refine ⟨fun j => if j = i then s else ss j, footD V ops i o s :: gs, by simp, fun j o' hj ho' => ?_, by simpa using g3, ?_⟩
    · dsimp only
      by_cases e : j = i
      · subst e
        rw [ho] at ho'; cases ho'
        simp [g1, h1]
      · have := g2 j o' (by omega) ho'
        rw [if_neg e, if_neg (by omega), show j - i = (j - (i + 1)) + 1 by omega, List.getElem?_cons_succ]
        exact this
    · rw [show max i ops.size = ops.size by omega]
      rw [show max (i + 1) ops.size = ops.size by omega] at g4
      simp only [show ops.size ≠ i by omega, if_false]
      exact g4
theorem Eqv.push (h : Eqv s t) (D : List (Nat × Blk)) : Eqv (s.push D) (t.push D) := ⟨h.tm, fun id => lkH_push D id _ _ (h.hp id), fun id => hasKey_push D id _ _ (h.key id), h.next, h.nt, h.m⟩
theorem lk_St_put (s : St) (dst : Option Nat) (v : AV) (d : Nat) : lk d (s.put dst v).tmps = if dst = some d ∧ d < s.nt then v else lk d s.tmps := by
  cases dst with
  | none => simp [St.put]
  | some d' =>
    by_cases h : d' < s.nt
    · simp only [St.put, blt_true h]
      rw [lk_put]
      by_cases e : d = d'
      · subst e; simp [h]
      · simp [e, Ne.symm e]
    · simp only [St.put, blt_false (by omega : s.nt ≤ d')]
      rw [if_neg]
      rintro ⟨e, h'⟩
      injection e with e; omega
theorem put_heap (s : St) (dst : Option Nat) (v : AV) : (s.put dst v).heap = s.heap ∧ (s.put dst v).next = s.next ∧ (s.put dst v).nt = s.nt ∧ (s.put dst v).m = s.m := by
  cases dst with
  | none => exact ⟨rfl, rfl, rfl, rfl⟩
  | some d => unfold St.put; dsimp only; split <;> exact ⟨rfl, rfl, rfl, rfl⟩
theorem Eqv.put (h : Eqv s t) (dst : Option Nat) (v : AV) : Eqv (s.put dst v) (t.put dst v) := by
  obtain ⟨a1, a2, a3, a4⟩ := put_heap s dst v
  obtain ⟨b1, b2, b3, b4⟩ := put_heap t dst v
  exact ⟨fun d => by rw [lk_St_put, lk_St_put, h.nt, h.tm d], fun id => by rw [a1, b1]; exact h.hp id, fun id => by rw [a1, b1]; exact h.key id, by rw [a2, b2]; exact h.next, by rw [a3, b3]; exact h.nt, by rw [a4, b4]; exact h.m⟩
theorem ev_loc {o : Oper} (h : ∀ d ∈ o.looksAt ops, lk d s.tmps = lk d t.tmps) : ∀ y ∈ o.op.operands, ev V s y = ev V t y := by
  intro y hy
  cases y with
  | tmp d =>
    refine h d ?_
    unfold Oper.looksAt
    exact List.mem_append.2 (.inl (List.mem_filterMap.2 ⟨.tmp d, by simpa using hy, rfl⟩))
  | _ => rfl
theorem push_inj {D D' : List (Nat × Blk)} (h : s.push D = s.push D') : D = D' := by
  have : (s.push D).heap = (s.push D').heap := by rw [h]
  exact List.append_cancel_right this
theorem ago_loc {i : Nat} {o : Oper} {s1 : St} (h : agoOp V i o s = some s1) :
    ∃ v D, s1 = (s.push D).put o.dst v ∧ (∀ q ∈ D, q.1 ∈ (footG V i o s).2) ∧ ∀ (t : St) (l : List Nat), (∀ y ∈ o.op.operands, ev V s y = ev V t y) → AgreeH l s t → (∀ id ∈ (footG V i o s).1 ++ (footG V i o s).2, id ∈ l) → agoOp V i o t = some ((t.push D).put o.dst v) := by
  unfold agoOp at h
  split at h
  · rename_i c y z hop'
    split at h <;> try contradiction
    rename_i b hb
    injection h with h
    refine ⟨ev V s (if b then y else z), [], h.symm, fun q hq => by simp at hq, fun t l hop hH hl => ?_⟩
    unfold agoOp
    rw [hop']
    dsimp only
    rw [← hop c (by simp [hop', Op.operands]), hb]
    dsimp only
    have : ev V t (if b then y else z) = ev V s (if b then y else z) := by
      cases b
      · exact (hop z (by simp [hop', Op.operands])).symm
      · exact (hop y (by simp [hop', Op.operands])).symm
    rw [this]; rfl
  · rename_i hnp
    have e1 : footG V i o s = foot V i o s := by
      unfold footG
      split
      · rename_i c y z hop'; exact absurd hop' (hnp c y z)
      · rfl
    rw [e1]
    split at h <;> try contradiction
    rename_i v s2 ha
    injection h with h
    obtain ⟨D, d1, _, d3⟩ := aop_loc (t := s) (l := (foot V i o s).1 ++ (foot V i o s).2) (fun _ _ => rfl) ⟨fun _ _ => rfl, fun _ _ => rfl, rfl⟩ (fun _ h => h) _ _ _ ha
    refine ⟨v, D, by rw [← h, d1], d3, fun t l hop hH hl => ?_⟩
    obtain ⟨D', g1, g2, _⟩ := aop_loc hop hH hl _ _ _ ha
    have : D' = D := push_inj (g1.symm.trans d1)
    subst this
    unfold agoOp
    split
    · rename_i c y z hop'; exact absurd hop' (hnp c y z)
    · rw [g2]
theorem keep_eqv {d : Nat} {y : AV} (h : lk d s.tmps = y) : Eqv (s.put (some d) y) s := by
  obtain ⟨a1, a2, a3, a4⟩ := put_heap s (some d) y
  refine ⟨fun d' => ?_, fun id => by rw [a1], fun id => by rw [a1], a2, a3, a4⟩
  rw [lk_St_put]
  split
  · rename_i hh; have := hh.1; injection this with e; subst e; exact h.symm
  · rfl
theorem step_loc {i : Nat} {o : Oper} {s1 : St} (h : astep V ops i o s = some s1) :
    ∃ v D, Eqv s1 ((s.push D).put o.dst v) ∧ (∀ q ∈ D, q.1 ∈ (footD V ops i o s).2) ∧ ∀ (t : St) (l : List Nat), (∀ d ∈ o.looksAt ops, lk d s.tmps = lk d t.tmps) → AgreeH l s t → (∀ id ∈ (footD V ops i o s).1 ++ (footD V ops i o s).2, id ∈ l) →
      ∃ t1, astep V ops i o t = some t1 ∧ Eqv t1 ((t.push D).put o.dst v) := by
  unfold astep at h
  unfold footD
  unfold astep
  split at h
  · rename_i hg
    rw [hg]
    dsimp only
    obtain ⟨v, D, h1, h2, h3⟩ := ago_loc h
    exact ⟨v, D, by rw [h1]; exact Eqv.refl _, h2, fun t l hlk hH hl => ⟨_, h3 t l (ev_loc hlk) hH hl, Eqv.refl _⟩⟩
  · rename_i j want hg
    rw [hg]
    dsimp only
    split at h <;> try contradiction
    rename_i d hd
    rw [hd]
    dsimp only
    have hdl : ∀ t : St, (∀ d ∈ o.looksAt ops, lk d s.tmps = lk d t.tmps) → lk d s.tmps = lk d t.tmps := fun t hlk => hlk d (by
      unfold Oper.looksAt
      refine List.mem_append.2 (.inr ?_)
      rw [hg]
      simp [hd])
    split at h <;> try contradiction
    · rename_i b hb
      rw [hb]
      dsimp only
      have es := keep_eqv hb
      by_cases hw : b = want
      · rw [if_pos hw] at h ⊢
        obtain ⟨v, D, h1, h2, h3⟩ := ago_loc h
        refine ⟨v, D, by rw [h1]; exact (es.push D).put _ _, h2, fun t l hlk hH hl => ?_⟩
        have et := keep_eqv (s := t) ((hdl t hlk).symm.trans hb)
        have hop' : ∀ y ∈ o.op.operands, ev V (s.put (some d) (.bool b)) y = ev V (t.put (some d) (.bool b)) y := by
          refine ev_loc (ops := ops) fun d' hd' => ?_
          rw [es.tm, et.tm]; exact hlk d' hd'
        have hH' : AgreeH l (s.put (some d) (.bool b)) (t.put (some d) (.bool b)) := ⟨fun id hid => by rw [es.hp, et.hp]; exact hH.lk id hid, fun id hid => by rw [es.key, et.key]; exact hH.key id hid, by rw [es.next, et.next]; exact hH.next⟩
        rw [← hdl t hlk, hb]
        dsimp only
        rw [if_pos hw]
        exact ⟨_, h3 _ l hop' hH' hl, (et.push D).put _ _⟩
      · rw [if_neg hw] at h ⊢
        injection h with h
        refine ⟨.tup .nil, [], by rw [← h]; exact es.put _ _, fun q hq => by simp at hq, fun t l hlk hH hl => ?_⟩
        have et := keep_eqv (s := t) ((hdl t hlk).symm.trans hb)
        rw [← hdl t hlk, hb]
        dsimp only
        rw [if_neg hw]
        exact ⟨_, rfl, et.put _ _⟩
    · rename_i hb
      rw [hb]
      dsimp only
      injection h with h
      refine ⟨.tup .nil, [], by rw [← h]; exact Eqv.refl _, fun q hq => by simp at hq, fun t l hlk hH hl => ?_⟩
      rw [← hdl t hlk, hb]
      exact ⟨_, rfl, Eqv.refl _⟩
structure Chg where
  dst : Option Nat
  v : AV
  D : List (Nat × Blk)
def Chg.on (c : Chg) (s : St) : St := (s.push c.D).put c.dst c.v
theorem Chg.eqv (c : Chg) (h : Eqv s t) : Eqv (c.on s) (c.on t) := (h.push _).put _ _
def runX (C : Nat → Chg) (X : Nat → Bool) (s : St) : Nat → St
  | 0 => s
  | n + 1 => if X n then (C n).on (runX C X s n) else runX C X s n
theorem runX_const (C : Nat → Chg) (X : Nat → Bool) (s : St) : ∀ n, (runX C X s n).next = s.next ∧ (runX C X s n).nt = s.nt ∧ (runX C X s n).m = s.m
  | 0 => ⟨rfl, rfl, rfl⟩
  | n + 1 => by
    obtain ⟨h1, h2, h3⟩ := runX_const C X s n
    simp only [runX]
    split
    · unfold Chg.on
      obtain ⟨_, a2, a3, a4⟩ := put_heap ((runX C X s n).push (C n).D) (C n).dst (C n).v
      exact ⟨a2.trans h1, a3.trans h2, a4.trans h3⟩
    · exact ⟨h1, h2, h3⟩
theorem lkH_app_out {D : List (Nat × Blk)} {id : Nat} (h : ∀ q ∈ D, q.1 ≠ id) : ∀ H, lkH id (D ++ H) = lkH id H ∧ hasKey id (D ++ H) = hasKey id H := by
  induction D with
  | nil => intro H; exact ⟨rfl, rfl⟩
  | cons q D ih =>
    intro H
    have := ih (fun q hq => h q (by simp [hq])) H
    simp only [List.cons_append]
    rw [lkH_put, hasKey_put, if_neg (Ne.symm (h q (by simp)))]
    exact ⟨this.1, by simp [Ne.symm (h q (by simp)), this.2]⟩
theorem runX_lk (C : Nat → Chg) (X Y : Nat → Bool) (s : St) (d : Nat) : ∀ n, (∀ k, k < n → (C k).dst = some d → X k = Y k) → lk d (runX C X s n).tmps = lk d (runX C Y s n).tmps
  | 0, _ => rfl
  | n + 1, h => by
    have ih := runX_lk C X Y s d n fun k hk => h k (by omega)
    have hnt : (runX C X s n).nt = (runX C Y s n).nt := (runX_const C X s n).2.1.trans (runX_const C Y s n).2.1.symm
    have on : ∀ Z, lk d ((C n).on (runX C Z s n)).tmps = if (C n).dst = some d ∧ d < (runX C Z s n).nt then (C n).v else lk d (runX C Z s n).tmps := fun Z => by
      unfold Chg.on; rw [lk_St_put]; rfl
    simp only [runX]
    by_cases e : (C n).dst = some d
    · rw [h n (by omega) e]
      split
      · rw [on, on, hnt, ih]
      · exact ih
    · have hX : ∀ Z, lk d (if Z n then (C n).on (runX C Z s n) else runX C Z s n).tmps = lk d (runX C Z s n).tmps := fun Z => by
        split
        · rw [on, if_neg (fun hh => e hh.1)]
        · rfl
      rw [hX, hX]; exact ih
theorem runX_hp (C : Nat → Chg) (X Y : Nat → Bool) (s : St) (id : Nat) : ∀ n, (∀ k, k < n → (∃ q ∈ (C k).D, q.1 = id) → X k = Y k) → lkH id (runX C X s n).heap = lkH id (runX C Y s n).heap ∧ hasKey id (runX C X s n).heap = hasKey id (runX C Y s n).heap
  | 0, _ => ⟨rfl, rfl⟩
  | n + 1, h => by
    obtain ⟨ih1, ih2⟩ := runX_hp C X Y s id n fun k hk => h k (by omega)
    have on : ∀ Z, ((C n).on (runX C Z s n)).heap = (C n).D ++ (runX C Z s n).heap := fun Z => by
      unfold Chg.on; rw [(put_heap _ _ _).1]; rfl
    simp only [runX]
    by_cases e : ∃ q ∈ (C n).D, q.1 = id
    · rw [h n (by omega) e]
      split
      · rw [on, on]; exact ⟨lkH_push _ id _ _ ih1, hasKey_push _ id _ _ ih2⟩
      · exact ⟨ih1, ih2⟩
    · have hX : ∀ Z, lkH id (if Z n then (C n).on (runX C Z s n) else runX C Z s n).heap = lkH id (runX C Z s n).heap ∧ hasKey id (if Z n then (C n).on (runX C Z s n) else runX C Z s n).heap = hasKey id (runX C Z s n).heap := fun Z => by
        split
        · rw [on]; exact lkH_app_out (fun q hq he => e ⟨q, hq, he⟩) _
        · exact ⟨rfl, rfl⟩
      rw [(hX X).1, (hX X).2, (hX Y).1, (hX Y).2]; exact ⟨ih1, ih2⟩
theorem runX_congr (C : Nat → Chg) (X Y : Nat → Bool) (s : St) : ∀ n, (∀ k, k < n → X k = Y k) → runX C X s n = runX C Y s n
  | 0, _ => rfl
  | n + 1, h => by simp only [runX]; rw [h n (by omega), runX_congr C X Y s n fun k hk => h k (by omega)]
structure Chg.Apart (c d : Chg) : Prop where
  dst : ∀ x, c.dst = some x → d.dst ≠ some x
  D : ∀ q ∈ c.D, ∀ r ∈ d.D, q.1 ≠ r.1
theorem Chg.comm {c d : Chg} (h : c.Apart d) (s : St) : Eqv (c.on (d.on s)) (d.on (c.on s)) := by
  have hh : ∀ (c : Chg) (s : St), (c.on s).heap = c.D ++ s.heap ∧ (c.on s).next = s.next ∧ (c.on s).nt = s.nt ∧ (c.on s).m = s.m := fun c s => put_heap (s.push c.D) c.dst c.v
  have ht : ∀ (c : Chg) (s : St) (x : Nat), lk x (c.on s).tmps = if c.dst = some x ∧ x < s.nt then c.v else lk x s.tmps := fun c s x => by unfold Chg.on; rw [lk_St_put]; rfl
  refine ⟨fun x => ?_, fun id => ?_, fun id => ?_, ?_, ?_, ?_⟩
  · rw [ht, ht, ht, ht, (hh d s).2.2.1, (hh c s).2.2.1]
    by_cases h1 : c.dst = some x ∧ x < s.nt
    · rw [if_pos h1, if_neg (fun h2 => h.dst x h1.1 h2.1), if_pos h1]
    · rw [if_neg h1, if_neg h1]
  · rw [(hh c _).1, (hh d _).1, (hh d _).1, (hh c _).1]
    by_cases h1 : ∃ q ∈ c.D, q.1 = id
    · obtain ⟨q, hq, rfl⟩ := h1
      have o1 := fun H => (lkH_app_out (D := d.D) (id := q.1) (fun r hr e => h.D q hq r hr e.symm) H).1
      rw [o1]; exact lkH_push _ _ _ _ (o1 _)
    · have o1 := fun H => (lkH_app_out (D := c.D) (id := id) (fun q hq e => h1 ⟨q, hq, e⟩) H).1
      rw [o1]; exact lkH_push _ _ _ _ (o1 _).symm
  · rw [(hh c _).1, (hh d _).1, (hh d _).1, (hh c _).1]
    by_cases h1 : ∃ q ∈ c.D, q.1 = id
    · obtain ⟨q, hq, rfl⟩ := h1
      have o1 := fun H => (lkH_app_out (D := d.D) (id := q.1) (fun r hr e => h.D q hq r hr e.symm) H).2
      rw [o1]; exact hasKey_push _ _ _ _ (o1 _)
    · have o1 := fun H => (lkH_app_out (D := c.D) (id := id) (fun q hq e => h1 ⟨q, hq, e⟩) H).2
      rw [o1]; exact hasKey_push _ _ _ _ (o1 _).symm
  · rw [(hh c _).2.1, (hh d _).2.1, (hh d _).2.1, (hh c _).2.1]
  · rw [(hh c _).2.2.1, (hh d _).2.2.1, (hh d _).2.2.1, (hh c _).2.2.1]
  · rw [(hh c _).2.2.2, (hh d _).2.2.2, (hh d _).2.2.2, (hh c _).2.2.2]
theorem runX_ins (C : Nat → Chg) (X : Nat → Bool) (s : St) (i : Nat) (hi : X i = false) : ∀ n, i < n → (∀ k, i < k → k < n → X k = true → (C k).Apart (C i)) →
    Eqv (runX C (fun k => X k || k == i) s n) ((C i).on (runX C X s n))
  | 0, h, _ => by omega
  | n + 1, h, hap => by
    simp only [runX]
    by_cases e : i = n
    · subst e
      simp only [hi, beq_self_eq_true, Bool.or_true, if_true, Bool.false_eq_true, if_false]
      rw [runX_congr C (fun k => X k || k == i) X s i fun k hk => by simp [show k ≠ i by omega]]
      exact Eqv.refl _
    · have ih := runX_ins C X s i hi n (by omega) fun k h1 h2 h3 => hap k h1 (by omega) h3
      have e2 : (n == i) = false := by simpa using Ne.symm e
      by_cases hX : X n = true
      · have e3 : (X n || n == i) = true := by simp [hX]
        rw [if_pos e3, if_pos hX]
        exact ((C n).eqv ih).trans (Chg.comm (hap n (by omega) (by omega) hX) _)
      · have e3 : ¬ (X n || n == i) = true := by simp [hX, e2]
        rw [if_neg e3, if_neg hX]; exact ih
theorem masks_snoc (l : List Oper) (o : Oper) : masks (l ++ [o]) = masks l ++ [maskOf (masks l) o] := by
  unfold masks; rw [List.foldl_append]; rfl
theorem masks_app (l' : List Oper) : ∀ (ms : List Nat), ∃ m, l'.foldl maskStep ms = ms ++ m ∧ m.length = l'.length := by
  induction l' with
  | nil => intro ms; exact ⟨[], by simp⟩
  | cons o l' ih =>
    intro ms
    rw [List.foldl_cons]
    obtain ⟨m, h1, h2⟩ := ih (maskStep ms o)
    exact ⟨maskOf ms o :: m, by rw [h1]; unfold maskStep; rw [List.append_assoc]; rfl, by simp [h2]⟩
theorem masks_len (l : List Oper) : (masks l).length = l.length := by
  obtain ⟨m, h1, h2⟩ := masks_app l []
  unfold masks; rw [h1]; simpa using h2
theorem masks_pre (l l' : List Oper) : ∃ m, masks (l ++ l') = masks l ++ m := by
  obtain ⟨m, h1, _⟩ := masks_app l' (masks l)
  exact ⟨m, by rw [← h1]; unfold masks; rw [List.foldl_append]⟩
theorem masks_bit {l : List Oper} {i k : Nat} {o : Oper} (ho : l[i]? = some o) (hb : ((masks l).getD i 0).testBit k = true) (hback : ∀ e ∈ o.after.toList, Region.binds .any e = true → e.on < i) :
    ∃ e ∈ o.after.toList, Region.binds .any e = true ∧ (k = e.on ∨ ((masks l).getD e.on 0).testBit k = true) := by
  have hlt := (List.getElem?_eq_some_iff.1 ho).1
  have hsplit : l = l.take i ++ (o :: l.drop (i + 1)) := by
    rw [show o = l[i] from ((List.getElem?_eq_some_iff.1 ho).2).symm, List.getElem_cons_drop, List.take_append_drop]
  obtain ⟨m, hm⟩ := masks_pre (l.take i ++ [o]) (l.drop (i + 1))
  rw [List.append_assoc, List.singleton_append, ← hsplit, masks_snoc] at hm
  have hlen : (masks (l.take i)).length = i := by rw [masks_len]; simp; omega
  have hlow : ∀ j, j < i → (masks l).getD j 0 = (masks (l.take i)).getD j 0 := fun j hj => by
    rw [hm, List.append_assoc, List.getD_eq_getElem?_getD, List.getElem?_append_left (by omega), ← List.getD_eq_getElem?_getD]
  have hi : (masks l).getD i 0 = maskOf (masks (l.take i)) o := by
    rw [hm, List.append_assoc, List.getD_eq_getElem?_getD, List.getElem?_append_right (by omega), hlen]
    simp
  rw [hi] at hb
  have key : ∀ (es : List Edge) (m0 : Nat), (es.foldl (maskE (masks (l.take i))) m0).testBit k = true → m0.testBit k = true ∨ ∃ e ∈ es, Region.binds .any e = true ∧ (k = e.on ∨ ((masks (l.take i)).getD e.on 0).testBit k = true) := by
    intro es
    induction es with
    | nil => intro m0 h; exact .inl h
    | cons e es ih =>
      intro m0 h
      rw [List.foldl_cons] at h
      rcases ih _ h with h | ⟨e', h1, h2, h3⟩
      · cases hbd : Region.binds .any e with
        | false => simp only [maskE, hbd] at h; exact .inl h
        | true =>
          simp only [maskE, hbd] at h
          simp only [Nat.testBit_or, Bool.or_eq_true, Nat.testBit_two_pow] at h
          rcases h with h | h | h
          · exact .inl h
          · exact .inr ⟨e, by simp, hbd, .inl (by have := of_decide_eq_true h; omega)⟩
          · exact .inr ⟨e, by simp, hbd, .inr h⟩
      · exact .inr ⟨e', by simp [h1], h2, h3⟩
  rcases key _ _ hb with h | ⟨e, h1, h2, h3⟩
  · simp at h
  · exact ⟨e, h1, h2, h3.imp id fun h => by rw [hlow _ (hback e h1 h2)]; exact h⟩
theorem disj_ok {a b : List Nat} (h : disj a b = true) : ∀ n ∈ a, n ∉ b := fun n hn hb => by
  have := List.all_eq_true.1 h n hn
  rw [mem_iff.2 hb] at this; simp at this
theorem drawOk_ok {gs : List (List Nat × List Nat)} (h : drawOk ops gs = true) {i : Nat} {o : Oper} {f : List Nat × List Nat} (ho : ops[i]? = some o) (hf : gs[i]? = some f) :
    (∀ e ∈ o.after.toList, Region.binds .any e = true → e.on < i) ∧ ∀ k, k < i → ((masks ops.toList).getD i 0).testBit k = true ∨ ∃ o' f', ops[k]? = some o' ∧ gs[k]? = some f' ∧ o'.apart ops o = true ∧ (∀ n ∈ f'.2, n ∉ f.1 ++ f.2) ∧ ∀ n ∈ f.2, n ∉ f'.1 ++ f'.2 := by
  have hlt := (Array.getElem?_eq_some_iff.1 ho).1
  have h1 := List.all_eq_true.1 h i (by simpa using hlt)
  rw [ho, hf] at h1
  dsimp only at h1
  rw [Bool.and_eq_true] at h1
  refine ⟨fun e he hb => ?_, fun k hk => ?_⟩
  · have := List.all_eq_true.1 h1.1 e he
    rw [hb] at this
    simpa [Nat.blt_eq] using this
  · have := List.all_eq_true.1 h1.2 k (by simpa using hk)
    rw [Bool.or_eq_true] at this
    rcases this with h | h
    · exact .inl h
    · split at h <;> try contradiction
      rename_i o' f' e1 e2
      simp only [Bool.and_eq_true] at h
      exact .inr ⟨o', f', e1, e2, h.1, disj_ok h.2.1, disj_ok h.2.2⟩
theorem countP_lt {p q : Nat → Bool} {i : Nat} : ∀ {l : List Nat}, i ∈ l → p i = true → q i = false → (∀ k, q k = true → p k = true) → l.countP q < l.countP p
  | [], h, _, _, _ => by simp at h
  | k :: l, h, hp, hq, hs => by
    have mono : l.countP q ≤ l.countP p := List.countP_mono_left fun x _ hx => hs x hx
    rw [List.countP_cons, List.countP_cons]
    rcases List.mem_cons.1 h with rfl | h
    · rw [if_pos hp, if_neg (by simp [hq])]; omega
    · have := countP_lt h hp hq hs
      by_cases hk : q k = true
      · rw [if_pos hk, if_pos (hs k hk)]; omega
      · rw [if_neg hk]; split <;> omega
theorem runX_cut (C : Nat → Chg) (s : St) (i : Nat) : ∀ n, i ≤ n → runX C (fun k => decide (k < i)) s n = runX C (fun _ => true) s i
  | 0, h => by
    have : i = 0 := by omega
    subst this; rfl
  | n + 1, h => by
    by_cases e : i = n + 1
    · subst e; exact runX_congr C _ _ s _ fun k hk => by simp [hk]
    · simp only [runX]
      have e2 : ¬ decide (n < i) = true := by simp; omega
      rw [if_neg e2]
      exact runX_cut C s i n (by omega)
theorem aopsD_ok (h : TysOk P V.T) (hE : EOk P V) (Q : Exit → Act → World → Prop) (hQ : ∀ s' a' w' ρ', Sim U V.G w0 W0 ρ' s' a' w' → K s' = some x → Q .normal a' w')
    (hs : Sim U V.G w0 W0 ρ s a w) (ha : aopsD V ops K 0 ops.toList s [] = some x) : wpAny P .any ops Q ops.size (Array.replicate ops.size false) a w := by
  obtain ⟨ss, gs, g1, g2, g3, g4⟩ := aopsD_path ops.toList 0 s [] (by simp) ha
  simp only [Nat.sub_zero, List.reverse_nil, List.nil_append, Nat.zero_max] at g2 g3 g4
  have hC : ∀ j, ∃ c : Chg, ∀ o, ops[j]? = some o → c.dst = o.dst ∧ Eqv (ss (j + 1)) (c.on (ss j)) ∧ (∀ q ∈ c.D, q.1 ∈ (footD V ops j o (ss j)).2) ∧
      ∀ (t : St) (l : List Nat), (∀ d ∈ o.looksAt ops, lk d (ss j).tmps = lk d t.tmps) → AgreeH l (ss j) t → (∀ id ∈ (footD V ops j o (ss j)).1 ++ (footD V ops j o (ss j)).2, id ∈ l) → ∃ t1, astep V ops j o t = some t1 ∧ Eqv t1 (c.on t) := by
    intro j
    cases ho : ops[j]? with
    | none => exact ⟨⟨none, .undef, []⟩, fun o h => by cases h⟩
    | some o =>
      obtain ⟨v, D, h1, h2, h3⟩ := step_loc (g2 j o (Nat.zero_le _) ho).1
      exact ⟨⟨o.dst, v, D⟩, fun o' h' => by cases h'; exact ⟨rfl, h1, h2, h3⟩⟩
  let C : Nat → Chg := fun j => Classical.choose (hC j)
  have hc : ∀ j o, ops[j]? = some o → (C j).dst = o.dst ∧ Eqv (ss (j + 1)) ((C j).on (ss j)) ∧ (∀ q ∈ (C j).D, q.1 ∈ (footD V ops j o (ss j)).2) ∧
      ∀ (t : St) (l : List Nat), (∀ d ∈ o.looksAt ops, lk d (ss j).tmps = lk d t.tmps) → AgreeH l (ss j) t → (∀ id ∈ (footD V ops j o (ss j)).1 ++ (footD V ops j o (ss j)).2, id ∈ l) → ∃ t1, astep V ops j o t = some t1 ∧ Eqv t1 ((C j).on t) := fun j => Classical.choose_spec (hC j)
  generalize C = C at hc
  have some_of : ∀ j, j < ops.size → ∃ o, ops[j]? = some o := fun j hj => ⟨ops[j], Array.getElem?_eq_getElem hj⟩
  have hrun : ∀ j, j ≤ ops.size → Eqv (ss j) (runX C (fun _ => true) s j) := by
    intro j
    induction j with
    | zero => intro _; rw [g1]; exact Eqv.refl _
    | succ j ih =>
      intro hj
      obtain ⟨o, ho⟩ := some_of j (by omega)
      simp only [runX, if_true]
      exact ((hc j o ho).2.1).trans ((C j).eqv (ih (by omega)))
  have hord : ∀ i o, ops[i]? = some o → (∀ e ∈ o.after.toList, Region.binds .any e = true → e.on < i) ∧ ∀ k, k < i → ((masks ops.toList).getD i 0).testBit k = true ∨ ∃ o', ops[k]? = some o' ∧ o'.apart ops o = true ∧
      (∀ n ∈ (footD V ops k o' (ss k)).2, n ∉ (footD V ops i o (ss i)).1 ++ (footD V ops i o (ss i)).2) ∧ ∀ n ∈ (footD V ops i o (ss i)).2, n ∉ (footD V ops k o' (ss k)).1 ++ (footD V ops k o' (ss k)).2 := by
    intro i o ho
    obtain ⟨e1, e2⟩ := drawOk_ok g3 ho (g2 i o (Nat.zero_le _) ho).2
    refine ⟨e1, fun k hk => (e2 k hk).imp id ?_⟩
    rintro ⟨o', f', h1, h2, h3, h4, h5⟩
    have := (g2 k o' (Nat.zero_le _) h1).2
    rw [h2] at this
    injection this with this
    subst this
    exact ⟨o', h1, h3, h4, h5⟩
  have hready : ∀ (listed : Array Bool) (i : Nat), listed.size = ops.size → (i ∈ Region.ready .any ops listed ↔ ∃ o, ops[i]? = some o ∧ listed.getD i false = false ∧ ∀ e ∈ o.after.toList, Region.binds .any e = true → listed.getD e.on false = true) := by
    intro listed i hsz
    unfold Region.ready
    rw [List.mem_filter, List.mem_range]
    have hd : i < ops.size → listed.getD i true = listed.getD i false := fun hi => by
      simp [Array.getD_eq_getD_getElem?, Array.getElem?_eq_getElem (show i < listed.size by omega)]
    constructor
    · rintro ⟨hi, hh⟩
      obtain ⟨o, ho⟩ := some_of i hi
      rw [ho] at hh
      simp only [Bool.and_eq_true, Option.map_some, Option.getD_some, Bool.not_eq_true', hd hi] at hh
      refine ⟨o, ho, hh.1, fun e he hb => ?_⟩
      have := hh.2
      rw [Array.all_eq_true'] at this
      have := this e (by simpa using he)
      rw [hb] at this
      simpa using this
    · rintro ⟨o, ho, h1, h2⟩
      have hi := (Array.getElem?_eq_some_iff.1 ho).1
      refine ⟨hi, ?_⟩
      rw [ho]
      simp only [Bool.and_eq_true, Option.map_some, Option.getD_some, Bool.not_eq_true', hd hi]
      refine ⟨h1, ?_⟩
      rw [Array.all_eq_true']
      intro e he
      cases hb : Region.binds .any e with
      | false => rfl
      | true => simpa using h2 e (by simpa using he) hb
  have hmask : ∀ (listed : Array Bool), (∀ i o, ops[i]? = some o → listed.getD i false = true → ∀ e ∈ o.after.toList, Region.binds .any e = true → listed.getD e.on false = true) →
      ∀ n i o, i ≤ n → ops[i]? = some o → (∀ e ∈ o.after.toList, Region.binds .any e = true → listed.getD e.on false = true) → ∀ k, ((masks ops.toList).getD i 0).testBit k = true → listed.getD k false = true := by
    intro listed hdown n
    induction n with
    | zero =>
      intro i o hi ho hl k hk
      obtain ⟨e, h1, h2, _⟩ := masks_bit (l := ops.toList) (by simpa using ho) hk (hord i o ho).1
      have := (hord i o ho).1 e h1 h2
      omega
    | succ n ih =>
      intro i o hi ho hl k hk
      obtain ⟨e, h1, h2, h3⟩ := masks_bit (l := ops.toList) (by simpa using ho) hk (hord i o ho).1
      have hlt := (hord i o ho).1 e h1 h2
      rcases h3 with h3 | h3
      · rw [h3]; exact hl e h1 h2
      · obtain ⟨o', ho'⟩ := some_of e.on (by have := (Array.getElem?_eq_some_iff.1 ho).1; omega)
        exact ih e.on o' (by omega) ho' (hdown e.on o' ho' (hl e h1 h2)) k h3
  have hend : ∀ (listed : Array Bool) (a : Act) (w : World) (ρ : Rho) (T : St), listed.size = ops.size → Eqv T (runX C (fun k => listed.getD k false) s ops.size) → Sim U V.G w0 W0 ρ T a w → Region.ready .any ops listed = [] → Q .normal a w := by
    intro listed a w ρ T hsz hT hsim hr
    have hall : ∀ n i, i ≤ n → i < ops.size → listed.getD i false = true := by
      intro n
      induction n with
      | zero =>
        intro i hi hlt
        obtain ⟨o, ho⟩ := some_of i hlt
        cases hl : listed.getD i false with
        | true => rfl
        | false =>
          have : i ∈ Region.ready .any ops listed := (hready listed i hsz).2 ⟨o, ho, hl, fun e he hb => by have := (hord i o ho).1 e he hb; omega⟩
          rw [hr] at this; simp at this
      | succ n ih =>
        intro i hi hlt
        obtain ⟨o, ho⟩ := some_of i hlt
        cases hl : listed.getD i false with
        | true => rfl
        | false =>
          have : i ∈ Region.ready .any ops listed := (hready listed i hsz).2 ⟨o, ho, hl, fun e he hb => by
            have := (hord i o ho).1 e he hb
            exact ih e.on (by omega) (by omega)⟩
          rw [hr] at this; simp at this
    have e1 : runX C (fun k => listed.getD k false) s ops.size = runX C (fun _ => true) s ops.size := runX_congr C _ _ s _ fun k hk => hall k k (Nat.le_refl _) hk
    rw [e1] at hT
    have hfin := hsim.eqv (hT.trans (hrun ops.size (Nat.le_refl _)).symm)
    exact hQ _ a w ρ (hfin.next _) g4
  have main : ∀ (fuel : Nat) (listed : Array Bool) (a : Act) (w : World) (ρ : Rho) (T : St), listed.size = ops.size → (List.range ops.size).countP (fun k => !listed.getD k false) ≤ fuel →
      (∀ i o, ops[i]? = some o → listed.getD i false = true → ∀ e ∈ o.after.toList, Region.binds .any e = true → listed.getD e.on false = true) →
      Eqv T (runX C (fun k => listed.getD k false) s ops.size) → Sim U V.G w0 W0 ρ T a w → wpAny P .any ops Q fuel listed a w := by
    intro fuel
    induction fuel with
    | zero =>
      intro listed a w ρ T hsz hcnt hdown hT hsim
      have hr : Region.ready .any ops listed = [] := by
        refine List.eq_nil_iff_forall_not_mem.2 fun i hi => ?_
        obtain ⟨o, ho, h1, _⟩ := (hready listed i hsz).1 hi
        have h0 : (List.range ops.size).countP (fun k => !listed.getD k false) = 0 := by omega
        have := List.countP_eq_zero.1 h0 i (by simpa using (Array.getElem?_eq_some_iff.1 ho).1)
        rw [h1] at this; simp at this
      exact ⟨hr, hend listed a w ρ T hsz hT hsim hr⟩
    | succ fuel ih =>
      intro listed a w ρ T hsz hcnt hdown hT hsim
      refine ⟨fun hr => hend listed a w ρ T hsz hT hsim hr, fun i hi => ?_⟩
      obtain ⟨o, ho, h1, h2⟩ := (hready listed i hsz).1 hi
      have hlt := (Array.getElem?_eq_some_iff.1 ho).1
      obtain ⟨c1, c2, c3, c4⟩ := hc i o ho
      have later : ∀ k o', i < k → ops[k]? = some o' → listed.getD k false = true → o.apart ops o' = true ∧ (∀ n ∈ (footD V ops i o (ss i)).2, n ∉ (footD V ops k o' (ss k)).1 ++ (footD V ops k o' (ss k)).2) ∧ ∀ n ∈ (footD V ops k o' (ss k)).2, n ∉ (footD V ops i o (ss i)).1 ++ (footD V ops i o (ss i)).2 := by
        intro k o' hik hk hl
        rcases (hord k o' hk).2 i hik with hb | ⟨o2, q1, q2, q3, q4⟩
        · have := hmask listed hdown k k o' (Nat.le_refl _) hk (hdown k o' hk hl) i hb
          rw [h1] at this; cases this
        · rw [ho] at q1; cases q1; exact ⟨q2, q3, q4⟩
      have earlier : ∀ k o', k < i → ops[k]? = some o' → listed.getD k false = true ∨ (o'.apart ops o = true ∧ (∀ n ∈ (footD V ops k o' (ss k)).2, n ∉ (footD V ops i o (ss i)).1 ++ (footD V ops i o (ss i)).2)) := by
        intro k o' hki hk
        rcases (hord i o ho).2 k hki with hb | ⟨o2, q1, q2, q3, q4⟩
        · exact .inl (hmask listed hdown i i o (Nat.le_refl _) ho h2 k hb)
        · rw [hk] at q1; cases q1; exact .inr ⟨q2, q3⟩
      have hsi := (hrun i (by omega)).trans (by rw [← runX_cut C s i ops.size (by omega)]; exact Eqv.refl _)
      have hslots : ∀ d ∈ o.looksAt ops, lk d (ss i).tmps = lk d T.tmps := by
        intro d hd
        rw [hsi.tm, hT.tm]
        refine runX_lk C _ _ s d _ fun k hk hdst => ?_
        obtain ⟨o', ho'⟩ := some_of k hk
        rw [(hc k o' ho').1] at hdst
        rcases Nat.lt_trichotomy k i with hki | hki | hki
        · rw [show decide (k < i) = true by simp [hki]]
          rcases earlier k o' hki ho' with h | ⟨h, _⟩
          · exact h.symm
          · exact absurd hd ((Oper.apart_spec h).1 d hdst)
        · subst hki; rw [h1]; simp
        · rw [show decide (k < i) = false by simp; omega]
          cases hl : listed.getD k false with
          | false => rfl
          | true => exact absurd hd ((Oper.apart_spec (later k o' hki ho' hl).1).2.2 d hdst)
      have hheap : ∀ id ∈ (footD V ops i o (ss i)).1 ++ (footD V ops i o (ss i)).2, lkH id (ss i).heap = lkH id T.heap ∧ hasKey id (ss i).heap = hasKey id T.heap := by
        intro id hid
        rw [hsi.hp, hT.hp, hsi.key, hT.key]
        refine runX_hp C _ _ s id _ fun k hk hq => ?_
        obtain ⟨q, hq, rfl⟩ := hq
        obtain ⟨o', ho'⟩ := some_of k hk
        have hw := (hc k o' ho').2.2.1 q hq
        rcases Nat.lt_trichotomy k i with hki | hki | hki
        · rw [show decide (k < i) = true by simp [hki]]
          rcases earlier k o' hki ho' with h | ⟨_, h⟩
          · exact h.symm
          · exact absurd hid (h _ hw)
        · subst hki; rw [h1]; simp
        · rw [show decide (k < i) = false by simp; omega]
          cases hl : listed.getD k false with
          | false => rfl
          | true => exact absurd hid ((later k o' hki ho' hl).2.2 _ hw)
      obtain ⟨T1, t1, t2⟩ := c4 T _ hslots ⟨fun id hid => (hheap id hid).1, fun id hid => (hheap id hid).2, by rw [hsi.next, hT.next, (runX_const C _ s _).1, (runX_const C _ s _).1]⟩ (fun _ h => h)
      refine astep_ok h hE hsim ho t1 _ _ fun a' w' ρ' hs' => ?_
      have hX : ∀ k, (listed.setIfInBounds i true).getD k false = (listed.getD k false || k == i) := fun k => by
        simp only [Array.getD_eq_getD_getElem?, Array.getElem?_setIfInBounds]
        by_cases e : i = k
        · subst e; simp [show i < listed.size by omega]
        · simp [e, Ne.symm e]
      refine ih _ a' w' ρ' T1 (by simp [hsz]) ?_ ?_ ?_ hs'
      · have := countP_lt (p := fun k => !listed.getD k false) (q := fun k => !(listed.setIfInBounds i true).getD k false) (i := i) (l := List.range ops.size) (by simpa using hlt) (by simp [h1]) (by rw [hX]; simp) (fun k hk => by
          rw [hX] at hk; simp at hk; simp [hk.1])
        omega
      · intro k o' hk hl e he hb
        rw [hX] at hl ⊢
        rw [Bool.or_eq_true] at hl ⊢
        rcases hl with hl | hl
        · exact .inl (hdown k o' hk hl e he hb)
        · have : k = i := by simpa using hl
          subst this
          rw [ho] at hk; cases hk
          exact .inl (h2 e he hb)
      · have e1 : runX C (fun k => (listed.setIfInBounds i true).getD k false) s ops.size = runX C (fun k => listed.getD k false || k == i) s ops.size := runX_congr C _ _ s _ fun k _ => hX k
        rw [e1]
        refine (t2.trans ((C i).eqv hT)).trans (runX_ins C (fun k => listed.getD k false) s i h1 ops.size hlt fun k k1 k2 k3 => ?_).symm
        obtain ⟨o', ho'⟩ := some_of k k2
        obtain ⟨l1, l2, l3⟩ := later k o' k1 ho' k3
        have hk' := hc k o' ho'
        refine ⟨fun y hy hy' => ?_, fun q hq r hr e => ?_⟩
        · rw [hk'.1] at hy; rw [c1] at hy'
          exact (Oper.apart_spec l1).2.1 y hy' hy
        · exact l3 _ (hk'.2.2.1 q hq) (List.mem_append.2 (.inr (e ▸ c3 r hr)))
  refine main ops.size _ a w ρ s (by simp) ?_ ?_ ?_ hs
  · exact Nat.le_trans List.countP_le_length (by simp)
  · intro i o ho hl
    simp only [Array.getD_eq_getD_getElem?, Array.getElem?_replicate] at hl
    split at hl <;> simp at hl
  · have : ∀ k, (Array.replicate ops.size false).getD k false = false := fun k => by
      simp only [Array.getD_eq_getD_getElem?, Array.getElem?_replicate]; split <;> rfl
    have e : runX C (fun k => (Array.replicate ops.size false).getD k false) s ops.size = runX C (fun k => decide (k < 0)) s ops.size := runX_congr C _ _ s _ fun k _ => by rw [this]; simp
    rw [e, runX_cut C s 0 _ (Nat.zero_le _)]
    exact Eqv.refl _
end Go.Am
