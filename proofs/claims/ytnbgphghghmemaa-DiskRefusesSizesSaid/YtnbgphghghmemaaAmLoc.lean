/- What an operation looks at: the same operation in another state. -/
import Derived.Test.YtnbgphghghmemaaAmNorm
set_option linter.unusedVariables false
set_option linter.unusedSimpArgs false
namespace Go.Am
open Go
variable {V : Env} {s t : St}

structure AgreeH (l : List Nat) (s t : St) : Prop where
  lk : ∀ id ∈ l, lkH id s.heap = lkH id t.heap
  key : ∀ id ∈ l, hasKey id s.heap = hasKey id t.heap
  next : s.next = t.next

theorem AgreeH.mono {l l' : List Nat} (h : AgreeH l s t) (hl : ∀ x ∈ l', x ∈ l) : AgreeH l' s t := ⟨fun id hid => h.lk id (hl id hid), fun id hid => h.key id (hl id hid), h.next⟩

theorem view_loc {e : Nat} {x : AV} (h : AgreeH (dids x) s t) : view V s e x = view V t e x := by
  cases x <;> simp only [view]
  all_goals (rw [h.lk _ (by simp [dids])])
theorem srcA_loc {e : Nat} {x : AV} (h : AgreeH (dids x) s t) : srcA V s e x = srcA V t e x := by
  cases x <;> first | rfl | (simp only [srcA]; exact view_loc h)
theorem coerce_loc {m : Option Nat} {x : AV} (h : AgreeH (dids x) s t) : coerce V s m x = coerce V t m x := by
  cases m with
  | none => rfl
  | some e => simp only [coerce, view_loc h]
theorem olen_loc {id len sz : Nat} (h : AgreeH [id] s t) : olen s id len sz = olen t id len sz := by
  simp only [olen, h.lk id (by simp)]
theorem aload_loc {ty : Nat} {p : AV} (h : AgreeH (dids p) s t) : aload V ty p s = aload V ty p t := by
  cases p <;> simp only [aload]
  all_goals (rw [h.lk _ (by simp [dids])])
theorem alen_loc {ty : Nat} {x : AV} (h : AgreeH (dids x) s t) : alen V ty x s = alen V ty x t := by
  cases x <;> simp only [alen]
  all_goals (rw [olen_loc (h.mono (by simp [dids]))])

def St.push (s : St) (D : List (Nat × Blk)) : St := { s with heap := D ++ s.heap }
theorem freezeId_loc {id : Nat} (h : AgreeH [id] s t) : ∃ D, freezeId s id = s.push D ∧ freezeId t id = t.push D ∧ ∀ p ∈ D, p.1 = id := by
  unfold freezeId
  rw [← h.lk id (by simp)]
  split
  · rename_i n r b hl; exact ⟨[(id, .cells n r false)], rfl, rfl, fun p hp => by simp at hp; simp [hp]⟩
  · exact ⟨[], rfl, rfl, fun p hp => by simp at hp⟩
theorem freeze_loc {x : AV} (h : AgreeH (dids x) s t) : ∃ D, freeze s x = s.push D ∧ freeze t x = t.push D ∧ ∀ p ∈ D, p.1 ∈ dids x := by
  unfold freeze
  split
  · rename_i id _ _
    obtain ⟨D, h1, h2, h3⟩ := freezeId_loc (id := id) (h.mono (by simp [dids])); exact ⟨D, h1, h2, fun p hp => by simp [dids, h3 p hp]⟩
  · rename_i id _ _ _ _ _
    obtain ⟨D, h1, h2, h3⟩ := freezeId_loc (id := id) (h.mono (by simp [dids])); exact ⟨D, h1, h2, fun p hp => by simp [dids, h3 p hp]⟩
  · exact ⟨[], rfl, rfl, fun p hp => by simp at hp⟩

theorem lkH_push (D : List (Nat × Blk)) : ∀ (id : Nat) (H H' : List (Nat × Blk)), lkH id H = lkH id H' → lkH id (D ++ H) = lkH id (D ++ H') := by
  induction D with
  | nil => intro id H H' h; exact h
  | cons p D ih =>
    intro id H H' h
    simp only [List.cons_append]
    rw [lkH_put, lkH_put]
    split
    · rfl
    · exact ih id H H' h
theorem hasKey_push (D : List (Nat × Blk)) : ∀ (id : Nat) (H H' : List (Nat × Blk)), hasKey id H = hasKey id H' → hasKey id (D ++ H) = hasKey id (D ++ H') := by
  induction D with
  | nil => intro id H H' h; exact h
  | cons p D ih =>
    intro id H H' h
    simp only [List.cons_append]
    rw [hasKey_put, hasKey_put, ih id H H' h]
theorem AgreeH.push {l : List Nat} (h : AgreeH l s t) (D : List (Nat × Blk)) : AgreeH l (s.push D) (t.push D) :=
  ⟨fun id hid => lkH_push D id _ _ (h.lk id hid), fun id hid => hasKey_push D id _ _ (h.key id hid), h.next⟩
theorem push_push (s : St) (D D' : List (Nat × Blk)) : (s.push D).push D' = s.push (D' ++ D) := by simp [St.push]
theorem freezeAll_loc : ∀ (l : List AV) {s t : St}, AgreeH (l.flatMap dids) s t → ∃ D, freezeAll s l = s.push D ∧ freezeAll t l = t.push D ∧ ∀ p ∈ D, p.1 ∈ l.flatMap dids
  | [], s, t, _ => ⟨[], rfl, rfl, fun p hp => by simp at hp⟩
  | x :: l, s, t, h => by
    obtain ⟨D, h1, h2, h3⟩ := freeze_loc (x := x) (h.mono (by simp; intro y hy; exact .inl hy))
    have h' : AgreeH (l.flatMap dids) (s.push D) (t.push D) := (h.push D).mono (by intro y hy; simp at hy ⊢; exact .inr hy)
    obtain ⟨D', g1, g2, g3⟩ := freezeAll_loc l h'
    refine ⟨D' ++ D, ?_, ?_, fun p hp => ?_⟩
    · show freezeAll (freeze s x) l = _; rw [h1, g1, push_push]
    · show freezeAll (freeze t x) l = _; rw [h2, g2, push_push]
    · rcases List.mem_append.1 hp with hp | hp
      · exact List.mem_flatMap.2 (by obtain ⟨y, hy, hz⟩ := List.mem_flatMap.1 (g3 p hp); exact ⟨y, by simp [hy], hz⟩)
      · exact List.mem_flatMap.2 ⟨x, by simp, h3 p hp⟩

def Same (r : Option (Bool × AV × St)) (r' : Option (Bool × AV × St)) (s t : St) (wr : List Nat) : Prop :=
  ∀ p v s', r = some (p, v, s') → ∃ D, s' = s.push D ∧ r' = some (p, v, t.push D) ∧ ∀ q ∈ D, q.1 ∈ wr
theorem Same.pure {p : Bool} {v : AV} {wr : List Nat} : Same (some (p, v, s)) (some (p, v, t)) s t wr := by
  intro p' v' s' h
  simp only [Option.some.injEq, Prod.mk.injEq] at h
  obtain ⟨rfl, rfl, rfl⟩ := h
  exact ⟨[], rfl, rfl, fun q hq => by simp at hq⟩
theorem Same.none {r' : Option (Bool × AV × St)} {wr : List Nat} : Same none r' s t wr := fun _ _ _ h => by cases h
theorem Same.map {β : Type} {x : Option β} {f : β → Bool} {g : β → AV} {wr : List Nat} : Same (x.map fun b => (f b, g b, s)) (x.map fun b => (f b, g b, t)) s t wr := by
  cases x with
  | none => exact Same.none
  | some b => exact Same.pure
theorem newBlk_loc {i n : Nat} {r : AV} {pre : Bool} {f : Nat → AV} {wr : List Nat} (hw : s.next + 16 * i ∈ wr) (h : AgreeH [s.next + 16 * i] s t) : Same (newBlk s i n r pre f) (newBlk t i n r pre f) s t wr := by
  unfold newBlk
  rw [← h.next, ← h.key _ (by simp)]
  split
  · exact Same.none
  · intro p v s' hh
    simp only [Option.some.injEq, Prod.mk.injEq] at hh
    obtain ⟨rfl, rfl, rfl⟩ := hh
    exact ⟨[(s.next + 16 * i, .cells n r true)], rfl, rfl, fun q hq => by simp at hq; rw [hq]; exact hw⟩
theorem addEmpty_loc {r0 : AV} {sz : Nat} {wr : List Nat} : ∀ (k id : Nat) {s t : St}, (∀ j, j < k → id + j ∈ wr) → AgreeH wr s t → ∀ vs s', addEmpty r0 sz k id s = some (vs, s') → ∃ D, s' = s.push D ∧ addEmpty r0 sz k id t = some (vs, t.push D) ∧ ∀ p ∈ D, p.1 ∈ wr
  | 0, id, s, t, _, h, vs, s', he => by
    simp only [addEmpty, Option.some.injEq, Prod.mk.injEq] at he
    obtain ⟨rfl, rfl⟩ := he
    exact ⟨[], rfl, rfl, fun p hp => by simp at hp⟩
  | k + 1, id, s, t, hk, h, vs, s', he => by
    have hid : id ∈ wr := by simpa using hk 0 (by omega)
    rw [addEmpty] at he
    split at he <;> try contradiction
    rename_i hkey
    split at he <;> try contradiction
    rename_i vs1 s1 h1
    simp only [Option.some.injEq, Prod.mk.injEq] at he
    obtain ⟨rfl, rfl⟩ := he
    obtain ⟨D, d1, d2, d3⟩ := addEmpty_loc k (id + 1) (s := s.push [(id, .cells 0 r0 true)]) (t := t.push [(id, .cells 0 r0 true)]) (fun j hj => by have := hk (j + 1) (by omega); rwa [show id + (j + 1) = id + 1 + j by omega] at this) (h.push _) vs1 s1 h1
    refine ⟨D ++ [(id, .cells 0 r0 true)], by rw [d1, push_push], ?_, fun p hp => ?_⟩
    · rw [addEmpty, ← h.key id hid, hkey]
      show (match addEmpty r0 sz k (id + 1) (t.push [(id, .cells 0 r0 true)]) with | some (vs, s') => some (AVs.cons 1 (.one (.own id 0 sz)) vs, s') | none => none) = _
      rw [d2, push_push]
    · rcases List.mem_append.1 hp with hp | hp
      · exact d3 p hp
      · simp at hp; rw [hp]; exact hid
theorem mkSlices_loc {i e' n : Nat} {one pre : Bool} {wr : List Nat} (hw : ∀ k, k < 16 → s.next + 16 * i + k ∈ wr) (h : AgreeH wr s t) : Same (mkSlices V i e' n one pre s) (mkSlices V i e' n one pre t) s t wr := by
  unfold mkSlices
  split
  · rename_i hn
    rw [Bool.and_eq_true, Nat.ble_eq] at hn
    split
    · rename_i r0 hr0
      intro p v s' hh
      split at hh <;> try contradiction
      rename_i vs s1 h1
      obtain ⟨D, d1, d2, d3⟩ := addEmpty_loc n (s.next + 16 * i + 1) (s := s) (t := t) (wr := wr) (fun j hj => by have := hw (j + 1) (by omega); rwa [show s.next + 16 * i + (j + 1) = s.next + 16 * i + 1 + j by omega] at this) h vs s1 h1
      subst d1
      obtain ⟨D2, e1, e2, e3⟩ := newBlk_loc (s := s.push D) (t := t.push D) (wr := wr) (show s.next + 16 * i ∈ wr by simpa using hw 0 (by omega)) ((h.push D).mono (by intro x hx; rw [List.mem_singleton] at hx; rw [hx]; exact (show s.next + 16 * i ∈ wr by simpa using hw 0 (by omega)))) p v s' hh
      refine ⟨D2 ++ D, by rw [e1, push_push], ?_, fun q hq => ?_⟩
      · rw [← h.next, d2]
        dsimp only
        rw [e2, push_push]
      · rcases List.mem_append.1 hq with hq | hq
        · exact e3 q hq
        · exact d3 q hq
    · exact Same.none
  · exact Same.none
theorem astore_loc {ty : Nat} {p v : AV} {wr : List Nat} (h : AgreeH (dids p ++ dids v) s t) (hw : ∀ x ∈ dids p ++ dids v, x ∈ wr) :
    Same ((astore V ty p v s).map fun s' => (true, AV.undef, s')) ((astore V ty p v t).map fun s' => (true, AV.undef, s')) s t wr := by
  have hpp := h.mono (l' := dids p) (by simp; intro x hx; exact .inl hx)
  have hvv := h.mono (l' := dids v) (by simp; intro x hx; exact .inr hx)
  cases p with
  | ptr id b l i m c rm =>
    have e := hpp.lk id (by simp [dids])
    unfold astore
    dsimp only
    rw [← e]
    have fin : ∀ bl : Blk, Same (some (true, AV.undef, s.setH id bl)) (some (true, AV.undef, t.setH id bl)) s t wr := by
      intro bl p' v' s' hh
      simp only [Option.some.injEq, Prod.mk.injEq] at hh
      obtain ⟨rfl, rfl, rfl⟩ := hh
      exact ⟨[(id, bl)], rfl, rfl, fun q hq => by simp at hq; rw [hq]; exact hw id (by simp [dids])⟩
    split
    · split
      · split
        · split
          · generalize AV.rsetN _ _ _ _ _ _ _ _ _ = oo
            cases oo with
            | none => exact Same.none
            | some r1 => exact fin _
          · exact Same.none
        · exact Same.none
      · split
        · split
          · exact fin _
          · split
            · rename_i e' _
              rw [← coerce_loc (m := some e') hvv]
              split
              · rename_i v' hv'
                obtain ⟨D, h1, h2, h3⟩ := freeze_loc hvv
                have e2 : lkH id (freeze t v).heap = lkH id (freeze s v).heap := by
                  rw [h1, h2]; exact (lkH_push D id _ _ e).symm
                rw [e2]
                split
                · generalize AV.rset _ _ _ _ _ _ _ = oo
                  cases oo with
                  | none => exact Same.none
                  | some r1 =>
                    intro p' u s' hh
                    simp only [Option.map_some, Option.some.injEq, Prod.mk.injEq] at hh
                    obtain ⟨rfl, rfl, rfl⟩ := hh
                    refine ⟨(id, .cells _ r1 true) :: D, by rw [h1]; rfl, by rw [h2]; rfl, fun q hq => ?_⟩
                    rcases List.mem_cons.1 hq with rfl | hq
                    · exact hw id (by simp [dids])
                    · exact hw _ (by simp [h3 q hq])
                · exact Same.none
              · exact Same.none
            · exact Same.none
        · exact Same.none
    · exact Same.none
  | _ => exact Same.none

theorem acopy_loc {id b lim o len ny : Nat} {ry : AV} {wr : List Nat} (h : AgreeH [id] s t) (hw : id ∈ wr) : Same (acopy s id b lim o len ry ny) (acopy t id b lim o len ry ny) s t wr := by
  unfold acopy
  rw [← h.lk id (by simp)]
  split
  · split
    · split
      · intro p v s' hh
        simp only [Option.some.injEq, Prod.mk.injEq] at hh
        obtain ⟨rfl, rfl, rfl⟩ := hh
        exact ⟨[(id, _)], rfl, rfl, fun q hq => by simp at hq; rw [hq]; exact hw⟩
      · exact Same.none
    · exact Same.none
  · exact Same.none

theorem abuiltin_loc {i : Nat} {b : Builtin} {tys : List Nat} {args : List AV} {l wr : List Nat} (h : AgreeH l s t) (hargs : ∀ x ∈ args, ∀ id ∈ dids x, id ∈ l)
    (hnew : b = .append → s.next + 16 * i ∈ l ∧ s.next + 16 * i ∈ wr) (hfirst : b = .append ∨ b = .copy ∨ b = .clear ∨ b = .delete → ∀ id ∈ dids (args.getD 0 .undef), id ∈ wr) :
    Same (abuiltin V i b tys args s) (abuiltin V i b tys args t) s t wr := by
  have one : ∀ {x : AV}, x ∈ args → AgreeH (dids x) s t := fun {x} hx => h.mono (hargs x hx)
  unfold abuiltin
  split
  · -- len
    rename_i v
    split <;> first | exact Same.pure | exact Same.none | skip
    · rename_i id len sz _
      rw [olen_loc (h.mono (l' := [id]) (by simpa using hargs (.own id len sz) (by simp) id (by simp [dids])))]
      cases olen t id len sz with
      | none => exact Same.none
      | some n => exact Same.pure
    · split <;> first | exact Same.pure | exact Same.none
    · split
      · split <;> first | exact Same.pure | exact Same.none
      · exact Same.none
  · -- append
    rename_i v x
    obtain ⟨hn1, hn2⟩ := hnew rfl
    have hv := hfirst (.inl rfl)
    split
    · dsimp only
      rename_i e _
      rw [srcA_loc (one (x := x) (by simp))]
      split
      · split
        · split
          · split
            · exact newBlk_loc hn2 (h.mono (by simpa using hn1))
            · exact Same.none
          · rename_i id len sz' _
            have hid : id ∈ l := hargs (.own id len sz') (by simp) id (by simp [dids])
            rw [h.lk id hid]
            split
            · split
              · intro p v s' hh
                have h' : AgreeH [s.next + 16 * i] (s.push [(id, .gone)]) (t.push [(id, .gone)]) := (h.push _).mono (by simpa using hn1)
                obtain ⟨D, d1, d2, d3⟩ := newBlk_loc (s := s.push [(id, .gone)]) (t := t.push [(id, .gone)]) (wr := wr) hn2 h' p v s' hh
                refine ⟨D ++ [(id, .gone)], by rw [d1, push_push], by rw [← push_push]; exact d2, fun q hq => ?_⟩
                rcases List.mem_append.1 hq with hq | hq
                · exact d3 q hq
                · simp at hq; rw [hq]; exact hv id (by simp [dids])
              · exact Same.none
            · exact Same.none
          · split
            · exact Same.pure
            · exact Same.none
          · rename_i id b lim o len _
            have hid : id ∈ l := hargs (.sl id b lim o len 1) (by simp) id (by simp [dids])
            intro p v s' hh
            split at hh <;> try contradiction
            rename_i p0 v0 s1 hb1 hc
            obtain ⟨D, d1, d2, d3⟩ := acopy_loc (h.mono (by simpa using hid)) (hv id (by simp [dids])) p0 v0 s1 hc
            simp only [Option.some.injEq, Prod.mk.injEq] at hh
            obtain ⟨rfl, rfl, rfl⟩ := hh
            exact ⟨D, d1, by rw [hb1, d2], d3⟩
          · exact Same.none
        · exact Same.none
      · exact Same.none
    · split
      · split
        · exact newBlk_loc hn2 (h.mono (by simpa using hn1))
        · exact Same.none
      · exact Same.none
  · -- copy
    rename_i v x
    have hv := hfirst (.inr (.inl rfl))
    split
    · rename_i e _
      rw [srcA_loc (one (x := x) (by simp))]
      split
      · split
        · rename_i id len
          have hid : id ∈ l := hargs (.own id len 1) (by simp) id (by simp [dids])
          rw [olen_loc (h.mono (l' := [id]) (by simpa using hid))]
          split
          · exact acopy_loc (h.mono (by simpa using hid)) (hv id (by simp [dids]))
          · exact Same.none
        · rename_i id b lim o len
          have hid : id ∈ l := hargs (.sl id b lim o len 1) (by simp) id (by simp [dids])
          exact acopy_loc (h.mono (by simpa using hid)) (hv id (by simp [dids]))
        · exact Same.none
      · exact Same.none
    · exact Same.none
  · -- clear
    have hv := hfirst (.inr (.inr (.inl rfl)))
    split
    · rename_i e id b lim o len _
      have hid : id ∈ l := hargs (.sl id b lim o len 1) (by simp) id (by simp [dids])
      split
      · intro p v s' hh
        split at hh <;> try contradiction
        rename_i p0 v0 s1 hc
        obtain ⟨D, d1, d2, d3⟩ := acopy_loc (h.mono (by simpa using hid)) (hv id (by simp [dids])) p0 v0 s1 hc
        simp only [Option.some.injEq, Prod.mk.injEq] at hh
        obtain ⟨rfl, rfl, rfl⟩ := hh
        exact ⟨D, d1, by rw [d2], d3⟩
      · exact Same.none
    · exact Same.none
  · -- delete
    have hv := hfirst (.inr (.inr (.inr rfl)))
    split
    · rename_i id
      have hid : id ∈ l := hargs (.mp id) (by simp) id (by simp [dids])
      rw [← h.lk id hid]
      split
      · split
        · split
          · intro p v s' hh
            simp only [Option.some.injEq, Prod.mk.injEq] at hh
            obtain ⟨rfl, rfl, rfl⟩ := hh
            exact ⟨[(id, _)], rfl, rfl, fun q hq => by simp at hq; rw [hq]; exact hv id (by simp [dids])⟩
          · exact Same.none
        · exact Same.none
      · exact Same.none
    · exact Same.none
  · split <;> first | exact Same.pure | exact Same.none
  · split <;> first | exact Same.pure | exact Same.none
  · split <;> first | exact Same.pure | exact Same.none
  · exact Same.none

theorem ownF_loc {wr : List Nat} : ∀ (fs : List (Nat × Nat)) (l : AVs) (id : Nat) {s t : St}, (∀ j, j < fs.length → id + j ∈ wr) → AgreeH wr s t → ∀ l' s', ownF V fs l id s = some (l', s') → ∃ D, s' = s.push D ∧ ownF V fs l id t = some (l', t.push D) ∧ ∀ p ∈ D, p.1 ∈ wr
  | [], l, id, s, t, _, h, l', s', he => by
    simp only [ownF, Option.some.injEq, Prod.mk.injEq] at he
    obtain ⟨rfl, rfl⟩ := he
    exact ⟨[], rfl, rfl, fun p hp => by simp at hp⟩
  | f :: fs, .nil, id, s, t, _, h, l', s', he => by
    simp only [ownF, Option.some.injEq, Prod.mk.injEq] at he
    obtain ⟨rfl, rfl⟩ := he
    exact ⟨[], rfl, rfl, fun p hp => by simp at hp⟩
  | f :: fs, .cons n v l, id, s, t, hk, h, l', s', he => by
    simp only [ownF] at he ⊢
    cases hn : nilSl V f.1 v with
    | some r0s =>
      obtain ⟨r0, sz⟩ := r0s
      rw [hn] at he
      dsimp only at he ⊢
      have hid : id ∈ wr := by simpa using hk 0 (by simp)
      rw [← h.key id hid]
      cases hkey : hasKey id s.heap with
      | true => rw [hkey] at he; cases he
      | false =>
        rw [hkey] at he
        dsimp only at he ⊢
        split at he <;> try contradiction
        rename_i l1 s1 h1
        simp only [Option.some.injEq, Prod.mk.injEq] at he
        obtain ⟨rfl, rfl⟩ := he
        obtain ⟨D, d1, d2, d3⟩ := ownF_loc fs l (id + 1) (s := s.push [(id, .cells 0 r0 true)]) (t := t.push [(id, .cells 0 r0 true)]) (fun j hj => by have := hk (j + 1) (by simp; omega); rwa [show id + (j + 1) = id + 1 + j by omega] at this) (h.push _) l1 s1 h1
        refine ⟨D ++ [(id, .cells 0 r0 true)], by rw [d1, push_push], ?_, fun p hp => ?_⟩
        · show (match ownF V fs l (id + 1) (t.push [(id, .cells 0 r0 true)]) with | some (l', s') => some (AVs.cons n (.one (.own id 0 sz)) l', s') | none => none) = _
          rw [d2, push_push]
        · rcases List.mem_append.1 hp with hp | hp
          · exact d3 p hp
          · simp at hp; rw [hp]; exact hid
    | none =>
      rw [hn] at he
      dsimp only at he ⊢
      split at he <;> try contradiction
      rename_i l1 s1 h1
      simp only [Option.some.injEq, Prod.mk.injEq] at he
      obtain ⟨rfl, rfl⟩ := he
      obtain ⟨D, d1, d2, d3⟩ := ownF_loc fs l id (fun j hj => hk j (by simp; omega)) h l1 s1 h1
      exact ⟨D, d1, by rw [d2], d3⟩
theorem ownB_loc {wr : List Nat} {d : TyD} {r : AV} {id : Nat} (hk : ∀ j, j < 15 → id + j ∈ wr) (h : AgreeH wr s t) : ∀ r' s', ownB V d r id s = some (r', s') → ∃ D, s' = s.push D ∧ ownB V d r id t = some (r', t.push D) ∧ ∀ p ∈ D, p.1 ∈ wr := by
  intro r' s' he
  unfold ownB at he ⊢
  cases d with
  | struct fs =>
    cases r with
    | segs l =>
      dsimp only at he ⊢
      cases hn : Nat.ble fs.length 15 with
      | true =>
        rw [hn] at he
        rw [Nat.ble_eq] at hn
        dsimp only at he ⊢
        split at he <;> try contradiction
        rename_i l1 s1 h1
        simp only [Option.some.injEq, Prod.mk.injEq] at he
        obtain ⟨rfl, rfl⟩ := he
        obtain ⟨D, d1, d2, d3⟩ := ownF_loc fs l id (fun j hj => hk j (by omega)) h l1 s1 h1
        exact ⟨D, d1, by rw [d2], d3⟩
      | false =>
        rw [hn] at he
        simp only [Option.some.injEq, Prod.mk.injEq] at he
        obtain ⟨rfl, rfl⟩ := he
        exact ⟨[], rfl, rfl, fun p hp => by simp at hp⟩
    | _ =>
      simp only [Option.some.injEq, Prod.mk.injEq] at he
      obtain ⟨rfl, rfl⟩ := he
      exact ⟨[], rfl, rfl, fun p hp => by simp at hp⟩
  | _ =>
    simp only [Option.some.injEq, Prod.mk.injEq] at he
    obtain ⟨rfl, rfl⟩ := he
    exact ⟨[], rfl, rfl, fun p hp => by simp at hp⟩

theorem coerceAll_loc : ∀ {ms : List (Option Nat)} {args : List AV}, AgreeH (args.flatMap dids) s t → coerceAll V s ms args = coerceAll V t ms args
  | [], [], _ => rfl
  | [], _ :: _, _ => rfl
  | _ :: _, [], _ => rfl
  | m :: ms, v :: args, h => by
    simp only [coerceAll]
    rw [coerce_loc (h.mono (by simp; intro x hx; exact .inl hx)), coerceAll_loc (ms := ms) (args := args) (h.mono (by intro x hx; simp at hx ⊢; exact .inr hx))]
theorem reach_loc {H H' : List (Nat × Blk)} : ∀ (d : Nat) (acc todo : List Nat), (∀ id ∈ todo, id ∈ acc) → (∀ id ∈ reach H d acc todo, lkH id H = lkH id H') → reach H d acc todo = reach H' d acc todo
  | 0, acc, todo, _, _ => by simp [reach]
  | d + 1, acc, [], _, _ => by simp [reach]
  | d + 1, acc, id :: todo, hsub, h => by
    have hid : id ∈ reach H (d + 1) acc (id :: todo) := by
      obtain ⟨t, ht⟩ := reach_pre H (d + 1) acc (id :: todo)
      rw [ht]; exact List.mem_append.2 (.inl (hsub id (by simp)))
    simp only [reach] at h ⊢
    have e : lkH id H = lkH id H' := h id (by simpa [reach] using hid)
    rw [← e]
    refine reach_loc d _ _ (fun x hx => ?_) h
    rcases List.mem_append.1 hx with hx | hx
    · exact List.mem_append.2 (.inl (hsub x (by simp [hx])))
    · exact List.mem_append.2 (.inr hx)
theorem freeAll_loc {H H' : List (Nat × Blk)} : ∀ (n id : Nat), (∀ j, j < n → hasKey (id + j) H = hasKey (id + j) H') → freeAll id n H = freeAll id n H'
  | 0, _, _ => rfl
  | n + 1, id, h => by
    simp only [freeAll]
    have e0 : hasKey id H = hasKey id H' := h 0 (Nat.succ_pos n)
    have e1 := freeAll_loc n (id + 1) (fun j hj => by simpa [Nat.add_assoc, Nat.add_comm, Nat.add_left_comm] using h (j + 1) (Nat.succ_lt_succ hj))
    rw [e0, e1]
theorem putBack_app (ids : List Nat) (fresh : Nat) (π : Nat → Nat) : ∀ (l : List Blk) (j : Nat), ∃ D : List (Nat × Blk), (∀ H, putBack ids fresh π j l H = D ++ H) ∧ ∀ q ∈ D, ∃ k, j ≤ k ∧ k < j + l.length ∧ q.1 = backOf ids fresh k
  | [], j => ⟨[], fun H => rfl, fun q hq => by simp at hq⟩
  | b :: l, j => by
    obtain ⟨D, h1, h2⟩ := putBack_app ids fresh π l (j + 1)
    refine ⟨D ++ [(backOf ids fresh j, b.ren π)], fun H => by rw [putBack, h1]; simp, fun q hq => ?_⟩
    rcases List.mem_append.1 hq with hq | hq
    · obtain ⟨k, k1, k2, k3⟩ := h2 q hq
      exact ⟨k, by omega, by simp; omega, k3⟩
    · simp at hq; exact ⟨j, Nat.le_refl _, by simp, by rw [hq]⟩

theorem acall_loc {i f : Nat} {args args' : List AV} {modes : List (Option Nat)} {run : List AV → List Blk → Option (Bool × AV × List Blk)} {l wr : List Nat} (h : AgreeH l s t) (hE : V.E f = some (modes, run)) (hco : coerceAll V s modes args = some args')
    (h1 : ∀ id ∈ args.flatMap dids, id ∈ l) (h2 : ∀ id ∈ reach s.heap 64 (addNew [] (args'.flatMap AV.ids)) (addNew [] (args'.flatMap AV.ids)), id ∈ l ∧ id ∈ wr)
    (h2c : ∀ id ∈ (coerced modes args).flatMap AV.ids, id ∈ l ∧ (callV run args' (reach s.heap 64 (addNew [] (args'.flatMap AV.ids)) (addNew [] (args'.flatMap AV.ids))) s.heap = true → id ∈ wr))
    (h3 : ∀ j, j < 16 → s.next + 16 * i + j ∈ l ∧ s.next + 16 * i + j ∈ wr) : Same (acall V i f args s) (acall V i f args t) s t wr := by
  unfold acall
  rw [hE]
  dsimp only
  rw [← coerceAll_loc (h.mono h1), hco]
  dsimp only
  have hr : reach s.heap 64 (addNew [] (args'.flatMap AV.ids)) (addNew [] (args'.flatMap AV.ids)) = reach t.heap 64 (addNew [] (args'.flatMap AV.ids)) (addNew [] (args'.flatMap AV.ids)) :=
    reach_loc 64 _ _ (fun _ h => h) fun id hid => h.lk id (h2 id hid).1
  rw [← hr]
  generalize hroots : addNew [] (args'.flatMap AV.ids) = roots at h2 hr h2c
  generalize hids : reach s.heap 64 roots roots = ids at h2 hr h2c
  have hids' : ∀ id ∈ ids, id ∈ l ∧ id ∈ wr := fun id hid => h2 id hid
  have hg : goodIds roots ids t.heap = goodIds roots ids s.heap := by
    unfold goodIds
    have e1 : (ids.all fun n => hasKey n t.heap) = ids.all fun n => hasKey n s.heap := by
      rw [Bool.eq_iff_iff, List.all_eq_true, List.all_eq_true]
      exact ⟨fun hh x hx => by rw [h.key x (hids' x hx).1]; exact hh x hx, fun hh x hx => by rw [← h.key x (hids' x hx).1]; exact hh x hx⟩
    have e2 : (ids.all fun n => (lkH n t.heap).ids.all fun k => mem k ids) = ids.all fun n => (lkH n s.heap).ids.all fun k => mem k ids := by
      rw [Bool.eq_iff_iff, List.all_eq_true, List.all_eq_true]
      exact ⟨fun hh x hx => by rw [h.lk x (hids' x hx).1]; exact hh x hx, fun hh x hx => by rw [← h.lk x (hids' x hx).1]; exact hh x hx⟩
    rw [e1, e2]
  rw [hg]
  split
  · exact Same.none
  · have hm : (ids.map fun n => (lkH n t.heap).ren fun n => numb n ids) = ids.map fun n => (lkH n s.heap).ren fun n => numb n ids := List.map_congr_left fun n hn => by rw [h.lk n (hids' n hn).1]
    rw [hm]
    split
    · exact Same.none
    · rename_i pre r H' hrun
      rw [← h.next]
      have hc : (Nat.ble ids.length H'.length && (Nat.ble (H'.length - ids.length) 16 && freeAll (s.next + 16 * i) (H'.length - ids.length) t.heap)) = (Nat.ble ids.length H'.length && (Nat.ble (H'.length - ids.length) 16 && freeAll (s.next + 16 * i) (H'.length - ids.length) s.heap)) := by
        cases hB : Nat.ble (H'.length - ids.length) 16 with
        | false => rfl
        | true =>
          rw [Nat.ble_eq] at hB
          rw [freeAll_loc (H := s.heap) (H' := t.heap) (H'.length - ids.length) (s.next + 16 * i) fun j hj => h.key _ (h3 j (by omega)).1]
      rw [hc]
      split
      · exact Same.none
      · rename_i hcond
        rw [Bool.and_eq_true, Bool.and_eq_true, Nat.ble_eq, Nat.ble_eq] at hcond
        obtain ⟨D, d1, d2⟩ := putBack_app ids (s.next + 16 * i) (backOf ids (s.next + 16 * i)) H' 0
        have hD : ∀ q ∈ D, q.1 ∈ wr := fun q hq => by
          obtain ⟨k, _, k2, k3⟩ := d2 q hq
          rw [k3]
          unfold backOf
          split
          · rename_i id hid; exact (hids' id (List.mem_of_getElem? hid)).2
          · exact (h3 _ (by omega)).2
        intro p v s' hh
        cases hl : (r.hasV || H'.any Blk.hasV) with
        | false =>
          rw [hl] at hh
          simp only [Option.some.injEq, Prod.mk.injEq] at hh
          obtain ⟨rfl, rfl, rfl⟩ := hh
          exact ⟨D, by simp only [d1]; rfl, by simp only [d1]; rfl, hD⟩
        | true =>
          rw [hl] at hh
          simp only [Option.some.injEq, Prod.mk.injEq] at hh
          obtain ⟨rfl, rfl, rfl⟩ := hh
          have hcv : callV run args' ids s.heap = true := by unfold callV; rw [hrun]; exact hl
          have hsub : ∀ x ∈ (coerced modes args).flatMap dids, x ∈ (coerced modes args).flatMap AV.ids := fun x hx => by
            obtain ⟨y, hy, hz⟩ := List.mem_flatMap.1 hx
            refine List.mem_flatMap.2 ⟨y, hy, ?_⟩
            cases y <;> simp [dids] at hz <;> simp [AV.ids, hz]
          obtain ⟨D0, q1, q2, q3⟩ := freezeAll_loc (coerced modes args) (h.mono fun x hx => (h2c x (hsub x hx)).1)
          refine ⟨D ++ D0, ?_, ?_, fun q hq => ?_⟩
          · simp only [d1, q1, St.push, List.append_assoc]
          · simp only [d1, q2, St.push, List.append_assoc]
          · rcases List.mem_append.1 hq with hq | hq
            · exact hD q hq
            · exact (h2c _ (hsub _ (q3 q hq))).2 hcv

theorem aop_loc {i : Nat} {o : Oper} {l : List Nat} (hop : ∀ x ∈ o.op.operands, ev V s x = ev V t x) (h : AgreeH l s t) (hl : ∀ id ∈ (foot V i o s).1 ++ (foot V i o s).2, id ∈ l) :
    Same (aop V i o s) (aop V i o t) s t (foot V i o s).2 := by
  have h1 : ∀ id ∈ (foot V i o s).1, id ∈ l := fun id hid => hl id (List.mem_append.2 (.inl hid))
  have h2 : ∀ id ∈ (foot V i o s).2, id ∈ l := fun id hid => hl id (List.mem_append.2 (.inr hid))
  cases ho : o.op with
  | move x => simp only [aop, ho]; rw [← hop x (by simp [ho, Op.operands])]; exact Same.pure
  | assign x => simp only [aop, ho]; rw [← hop x (by simp [ho, Op.operands])]; exact Same.pure
  | alloc ty =>
    simp only [foot, ho] at h1 h2 ⊢
    simp only [aop, ho]
    split
    · exact newBlk_loc (by simp) (h.mono h2)
    · exact Same.none
  | box ty x =>
    simp only [foot, ho] at h1 h2 ⊢
    simp only [aop, ho]
    rw [← hop x (by simp [ho, Op.operands])]
    have hk : ∀ k, k < 16 → s.next + 16 * i + k ∈ (List.range 16).map fun j => s.next + 16 * i + j := fun k hk => List.mem_map.2 ⟨k, by simpa using hk, rfl⟩
    split
    · intro p v s' hh
      split at hh <;> try contradiction
      rename_i r1 s1 hB
      obtain ⟨D, d1, d2, d3⟩ := ownB_loc (t := t) (wr := (List.range 16).map fun j => s.next + 16 * i + j) (fun j hj => by have := hk (j + 1) (by omega); rwa [show s.next + 16 * i + (j + 1) = s.next + 16 * i + 1 + j by omega] at this) (h.mono h2) r1 s1 hB
      subst d1
      obtain ⟨D2, e1, e2, e3⟩ := newBlk_loc (s := s.push D) (t := t.push D) (wr := (List.range 16).map fun j => s.next + 16 * i + j) (show s.next + 16 * i ∈ _ by simp) (((h.mono h2).push D).mono (by intro x hx; rw [List.mem_singleton] at hx; rw [hx]; exact (show s.next + 16 * i ∈ (List.range 16).map fun j => s.next + 16 * i + j by simp))) p v s' hh
      refine ⟨D2 ++ D, by rw [e1, push_push], ?_, fun q hq => ?_⟩
      · rw [← h.next, d2]
        dsimp only
        rw [e2, push_push]
      · rcases List.mem_append.1 hq with hq | hq
        · exact e3 q hq
        · exact d3 q hq
    · exact Same.none
  | build ty parts =>
    have hp : (parts.toList.map fun (p : Nat × Operand) => (p.1, ev V s p.2)) = parts.toList.map fun (p : Nat × Operand) => (p.1, ev V t p.2) := List.map_congr_left fun p hp => by
      rw [hop p.2 (by simp only [ho, Op.operands]; simp; exact ⟨p.1, by simpa using hp⟩)]
    simp only [aop, ho]
    rw [hp]
    split
    · split
      · generalize fillS _ _ _ _ _ = oo
        cases oo with
        | none => exact Same.none
        | some r => exact Same.pure
      · exact Same.none
    · split
      · split
        · generalize fillR _ _ _ _ = oo
          cases oo with
          | none => exact Same.none
          | some r => exact Same.pure
        · exact Same.none
      · exact Same.none
    · exact Same.none
  | buildSlice ty n parts =>
    have hpo : ∀ p ∈ parts.toList, ev V s p.2 = ev V t p.2 := fun p hp => hop p.2 (by simp only [ho, Op.operands]; simp; exact ⟨p.1, by simpa using hp⟩)
    simp only [foot, ho] at h2 ⊢
    simp only [aop, ho]
    have hd : AgreeH (parts.toList.flatMap fun p => dids (ev V s p.2)) s t := h.mono fun x hx => h2 x (List.mem_append.2 (.inr hx))
    have hk : ∀ k, k < 16 → s.next + 16 * i + k ∈ (List.range 16).map fun j => s.next + 16 * i + j := fun k hk => List.mem_map.2 ⟨k, by simpa using hk, rfl⟩
    have hk0 : s.next + 16 * i ∈ ((List.range 16).map fun j => s.next + 16 * i + j) ++ parts.toList.flatMap fun p => dids (ev V s p.2) := List.mem_append.2 (.inl (by simp))
    have hp : (parts.toList.map fun (p : Nat × Operand) => (p.1, ev V t p.2)) = parts.toList.map fun (p : Nat × Operand) => (p.1, ev V s p.2) := List.map_congr_left fun p hp => by rw [hpo p hp]
    have hpc : ∀ e', (parts.toList.map fun (p : Nat × Operand) => (p.1, (coerce V t (some e') (ev V t p.2)).getD .undef)) = parts.toList.map fun (p : Nat × Operand) => (p.1, (coerce V s (some e') (ev V s p.2)).getD .undef) := fun e' => List.map_congr_left fun p hp => by
      rw [← hpo p hp, coerce_loc (hd.mono fun x hx => List.mem_flatMap.2 ⟨p, hp, hx⟩)]
    split
    · rename_i e _
      split
      · rename_i z hz
        rw [hp]
        have plain : ∀ oo : Option AV, Same (match oo with
            | some r => newBlk s i (bsz r n (V.T.at e).sz) r true fun id => .own id (klen n (V.T.at e).sz) (V.T.at e).sz
            | none => none) (match oo with
            | some r => newBlk t i (bsz r n (V.T.at e).sz) r true fun id => .own id (klen n (V.T.at e).sz) (V.T.at e).sz
            | none => none) s t (((List.range 16).map fun j => s.next + 16 * i + j) ++ parts.toList.flatMap fun p => dids (ev V s p.2)) := by
          intro oo
          cases oo with
          | none => exact Same.none
          | some r => exact newBlk_loc hk0 (h.mono (by intro x hx; rw [List.mem_singleton] at hx; rw [hx]; exact h2 _ hk0))
        cases hdd : (V.T.at e).d
        case slice e' =>
          dsimp only
          rw [hpc]
          generalize fillR _ _ _ _ = oo
          cases oo with
          | none => exact Same.none
          | some r =>
            dsimp only
            have f1 : (parts.toList.foldl (fun s' (p : Nat × Operand) => freeze s' (ev V s p.2)) s) = freezeAll s (parts.toList.map fun p => ev V s p.2) := by unfold freezeAll; rw [List.foldl_map]
            have f2 : (parts.toList.foldl (fun s' (p : Nat × Operand) => freeze s' (ev V t p.2)) t) = freezeAll t (parts.toList.map fun p => ev V s p.2) := by
              have : (parts.toList.map fun p => ev V s p.2) = parts.toList.map fun p => ev V t p.2 := List.map_congr_left fun p hp => hpo p hp
              rw [this]; unfold freezeAll; rw [List.foldl_map]
            rw [f1, f2]
            obtain ⟨D, d1, d2, d3⟩ := freezeAll_loc (s := s) (t := t) (parts.toList.map fun p => ev V s p.2) (by rw [List.flatMap_map]; exact hd)
            rw [d1, d2]
            intro p v s' hh
            have h' : AgreeH [s.next + 16 * i] (s.push D) (t.push D) := (h.push D).mono (by intro x hx; rw [List.mem_singleton] at hx; rw [hx]; exact h2 _ hk0)
            obtain ⟨D2, e1, e2, e3⟩ := newBlk_loc (s := s.push D) (t := t.push D) (wr := [s.next + 16 * i]) (by simp [St.push]) h' p v s' hh
            refine ⟨D2 ++ D, by rw [e1, push_push], by rw [← push_push]; exact e2, fun q hq => ?_⟩
            rcases List.mem_append.1 hq with hq | hq
            · have := e3 q hq; rw [List.mem_singleton] at this; rw [this]; exact hk0
            · have := d3 q hq; rw [List.flatMap_map] at this; exact List.mem_append.2 (.inr this)
        all_goals exact plain _
      · split
        · rw [hp]
          generalize fillR _ _ _ _ = oo
          cases oo with
          | none => exact Same.none
          | some r =>
            dsimp only
            have hk' : ∀ k, k < 16 → s.next + 16 * i + k ∈ ((List.range 16).map fun j => s.next + 16 * i + j) ++ parts.toList.flatMap fun p => dids (ev V s p.2) := fun k hh => List.mem_append.2 (.inl (hk k hh))
            intro p v s' hh
            split at hh <;> try contradiction
            rename_i r1 s1 hB
            obtain ⟨D, d1, d2, d3⟩ := ownB_loc (t := t) (wr := ((List.range 16).map fun j => s.next + 16 * i + j) ++ parts.toList.flatMap fun p => dids (ev V s p.2)) (fun j hj => by have := hk' (j + 1) (by omega); rwa [show s.next + 16 * i + (j + 1) = s.next + 16 * i + 1 + j by omega] at this) (h.mono h2) r1 s1 hB
            subst d1
            obtain ⟨D2, e1, e2, e3⟩ := newBlk_loc (s := s.push D) (t := t.push D) (wr := ((List.range 16).map fun j => s.next + 16 * i + j) ++ parts.toList.flatMap fun p => dids (ev V s p.2)) (show s.next + 16 * i ∈ _ by simp) (((h.mono h2).push D).mono (by intro x hx; rw [List.mem_singleton] at hx; rw [hx]; exact hk0)) p v s' hh
            refine ⟨D2 ++ D, by rw [e1, push_push], ?_, fun q hq => ?_⟩
            · rw [← h.next, d2]
              dsimp only
              rw [e2, push_push]
            · rcases List.mem_append.1 hq with hq | hq
              · exact e3 q hq
              · exact d3 q hq
        · exact Same.none
    · exact Same.none
  | load ty x =>
    simp only [foot, ho] at h1
    simp only [aop, ho]
    rw [← hop x (by simp [ho, Op.operands]), aload_loc (h.mono h1)]
    generalize aload _ _ _ _ = oo
    cases oo with
    | none => exact Same.none
    | some r => exact Same.pure
  | store ty x y =>
    simp only [foot, ho] at h2 ⊢
    simp only [aop, ho]
    rw [← hop x (by simp [ho, Op.operands]), ← hop y (by simp [ho, Op.operands])]
    exact astore_loc (h.mono h2) fun _ h => h
  | nilCheck x =>
    simp only [aop, ho]
    rw [← hop x (by simp [ho, Op.operands])]
    split <;> first | exact Same.pure | exact Same.none
  | binOp op ty x y sg =>
    simp only [foot, ho] at h1
    simp only [aop, ho]
    rw [← hop x (by simp [ho, Op.operands]), ← hop y (by simp [ho, Op.operands])]
    have e : nilcmp V ty op (ev V s x) (ev V s y) s = nilcmp V ty op (ev V s x) (ev V s y) t := by
      have h1' : AgreeH (dids (ev V s x)) s t := h.mono fun z hz => h1 z (List.mem_append.2 (.inl hz))
      generalize ev V s x = p at h1'
      generalize ev V s y = q
      unfold nilcmp
      have e : isNil V ty p q s = isNil V ty p q t := by
        unfold isNil
        cases q <;> try rfl
        dsimp only
        split
        · rename_i id len e hd
          rw [h1'.lk id (by simp [dids])]
        · rfl
      rw [e]
    rw [e]
    split
    · exact Same.pure
    · exact Same.map
  | unOp op ty x =>
    simp only [aop, ho]
    rw [← hop x (by simp [ho, Op.operands])]
    exact Same.map (f := fun _ => true) (g := fun v => v)
  | convert src dst x =>
    simp only [foot, ho] at h1 h2 ⊢
    simp only [aop, ho]
    rw [← hop x (by simp [ho, Op.operands])]
    split
    · exact Same.pure
    · exact Same.pure
    · split
      · exact newBlk_loc (by simp) (h.mono (by simpa using h2))
      · exact Same.none
    · rename_i id len _ _ hev
      have hid := (h.mono h1).lk id (by rw [hev]; simp [dids])
      rw [hid]
      split
      · split
        · exact Same.pure
        · exact Same.none
      · exact Same.none
    · rw [view_loc (h.mono h1)]
      split <;> first | exact Same.pure | exact Same.none
    · exact Same.none
  | sliceToArrayPointer ty x =>
    simp only [foot, ho] at h1
    simp only [aop, ho]
    rw [← hop x (by simp [ho, Op.operands])]
    have h1' := h.mono h1
    generalize ev V s x = y at h1'
    split
    · split
      · exact Same.map
      · rename_i id len sz _
        rw [olen_loc (h1'.mono (by simp [dids]))]
        exact Same.map
      · exact Same.pure
      · exact Same.none
    · exact Same.none
  | makeSlice ty x c =>
    simp only [foot, ho] at h2 ⊢
    simp only [aop, ho]
    rw [← hop x (by simp [ho, Op.operands]), ← hop c (by simp [ho, Op.operands])]
    have hk : ∀ k, k < 16 → s.next + 16 * i + k ∈ (List.range 16).map fun j => s.next + 16 * i + j := fun k hk => List.mem_map.2 ⟨k, by simpa using hk, rfl⟩
    split
    · split
      · exact mkSlices_loc hk (h.mono h2)
      · split
        · exact newBlk_loc (by have hk0 := hk 0 (by omega); rwa [Nat.add_zero] at hk0) (h.mono (by intro x hx; rw [List.mem_singleton] at hx; rw [hx]; simpa using h2 _ (hk 0 (by omega))))
        · exact Same.none
    · exact Same.none
  | slice ty x lo hi mx =>
    cases mx with
    | some m =>
      cases hi with
      | none => simp only [aop, ho]; exact Same.none
      | some hi =>
        simp only [foot, ho] at h2 ⊢
        cases lo with
        | none =>
          simp only [aop, ho]
          rw [← hop x (by simp [ho, Op.operands]), ← hop hi (by simp [ho, Op.operands]), ← hop m (by simp [ho, Op.operands])]
          unfold asliceX
          rw [view_loc (h.mono h2)]
          split
          · split
            · intro p v s' hh
              simp only [Option.some.injEq, Prod.mk.injEq] at hh
              obtain ⟨rfl, rfl, rfl⟩ := hh
              obtain ⟨D, d1, d2, d3⟩ := freeze_loc (s := s) (t := t) (x := ev V s x) (h.mono h2)
              exact ⟨D, d1, by rw [d2], d3⟩
            · exact Same.none
          · exact Same.none
        | some lo =>
          simp only [aop, ho]
          rw [← hop x (by simp [ho, Op.operands]), ← hop lo (by simp [ho, Op.operands]), ← hop hi (by simp [ho, Op.operands]), ← hop m (by simp [ho, Op.operands])]
          have h2' := h.mono h2
          generalize ev V s x = y at h2'
          unfold aslice3
          split
          · rw [alen_loc h2']
            split
            · exact Same.pure
            · exact Same.none
          · exact Same.none
    | none =>
      simp only [foot, ho] at h1
      simp only [aop, ho]
      have e1 : lo.map (ev V t) = lo.map (ev V s) := by
        cases lo with
        | none => rfl
        | some y => simp only [Option.map_some]; rw [hop y (by simp [ho, Op.operands])]
      have e2 : hi.map (ev V t) = hi.map (ev V s) := by
        cases hi with
        | none => rfl
        | some y => simp only [Option.map_some]; rw [hop y (by simp [ho, Op.operands])]
      rw [← hop x (by simp [ho, Op.operands]), e1, e2]
      unfold aslice
      rw [alen_loc (h.mono h1)]
      split
      · exact Same.none
      · split
        · exact Same.pure
        · split
          · split
            · exact Same.pure
            · exact Same.none
          · exact Same.none
  | fieldAddr ty x f =>
    simp only [aop, ho]
    rw [← hop x (by simp [ho, Op.operands])]
    split
    · split
      · exact Same.map (f := fun _ => true) (g := fun v => v)
      · exact Same.none
    · exact Same.none
  | field ty x f =>
    simp only [aop, ho]
    rw [← hop x (by simp [ho, Op.operands])]
    split
    · split
      · split
        · exact Same.map (f := fun _ => true) (g := fun v => v)
        · exact Same.none
      · exact Same.none
    · exact Same.none
  | indexAddr ty x j =>
    simp only [foot, ho] at h1
    simp only [aop, ho]
    rw [← hop x (by simp [ho, Op.operands]), ← hop j (by simp [ho, Op.operands])]
    have h1' := h.mono h1
    generalize ev V s x = y at h1'
    split
    · split
      · split
        · exact Same.pure
        · exact Same.none
      · rename_i id len sz
        rw [olen_loc (id := id) (h1'.mono (by simp [dids]))]
        have e : ∀ len j, ptrAt s id len j sz = ptrAt t id len j sz := fun len j => by
          unfold ptrAt; rw [h1'.lk id (by simp [dids])]
        simp only [e]
        split
        · exact Same.map
        · exact Same.none
      · split
        · exact Same.pure
        · exact Same.none
      · split
        · split
          · exact Same.map
          · exact Same.none
        · exact Same.none
      · split
        · split
          · exact Same.map
          · exact Same.none
        · exact Same.none
      · exact Same.none
    · exact Same.none
  | index ty x j =>
    simp only [aop, ho]
    rw [← hop x (by simp [ho, Op.operands]), ← hop j (by simp [ho, Op.operands])]
    split
    · split
      · exact Same.pure
      · exact Same.none
    · split
      · split
        · split
          · exact Same.map
          · split
            · exact Same.pure
            · exact Same.none
        · exact Same.none
      · exact Same.none
    · exact Same.none
  | extract x j =>
    simp only [aop, ho]
    rw [← hop x (by simp [ho, Op.operands])]
    split
    · split
      · exact Same.pure
      · exact Same.none
    · exact Same.none
  | makeFunc fn first cap =>
    unfold aop
    rw [ho]
    dsimp only
    cases fn with
    | func f =>
      dsimp only
      split
      · have : (cap.toList.map (ev V t)) = cap.toList.map (ev V s) := List.map_congr_left fun x hx => (hop x (by simp only [ho, Op.operands]; simp; exact .inr (by simpa using hx))).symm
        rw [this]; exact Same.pure
      · exact Same.none
    | _ => exact Same.none
  | call c =>
    have hargs : (c.args.toList.map (ev V t)) = c.args.toList.map (ev V s) := List.map_congr_left fun x hx => (hop x (by simp only [ho, Op.operands, Call.operands]; simp; exact .inr (by simpa using hx))).symm
    simp only [aop, ho]
    simp only [foot, ho] at h1 h2 ⊢
    split
    · rename_i b hb
      rw [hb] at h1 h2
      rw [hargs]
      have h0 : dids (ev V s (c.args.getD 0 (.const .nilIface))) = dids ((c.args.toList.map (ev V s)).getD 0 .undef) := by
        cases hl : c.args.toList with
        | nil => simp [Array.getD_eq_getD_getElem?, ← Array.getElem?_toList, hl, ev, ofVal, dids]
        | cons x l => simp [Array.getD_eq_getD_getElem?, ← Array.getElem?_toList, hl]
      cases b
      case append =>
        dsimp only at h1 h2 ⊢
        rw [hb]
        refine abuiltin_loc h (fun x hx id hid => ?_) (fun _ => ⟨h2 _ (List.mem_cons.2 (.inl rfl)), List.mem_cons.2 (.inl rfl)⟩) (fun _ id hid => by rw [← h0] at hid; exact List.mem_cons.2 (.inr hid))
        obtain ⟨y, hy, rfl⟩ := List.mem_map.1 hx
        exact h1 id (List.mem_flatMap.2 ⟨y, hy, hid⟩)
      case copy =>
        dsimp only at h1 h2 ⊢
        rw [hb]
        refine abuiltin_loc h (fun x hx id hid => ?_) (fun e => by cases e) (fun _ id hid => by rw [← h0] at hid; exact hid)
        obtain ⟨y, hy, rfl⟩ := List.mem_map.1 hx
        exact h1 id (List.mem_flatMap.2 ⟨y, hy, hid⟩)
      case clear =>
        dsimp only at h1 h2 ⊢
        rw [hb]
        refine abuiltin_loc h (fun x hx id hid => ?_) (fun e => by cases e) (fun _ id hid => by rw [← h0] at hid; exact hid)
        obtain ⟨y, hy, rfl⟩ := List.mem_map.1 hx
        exact h1 id (List.mem_flatMap.2 ⟨y, hy, hid⟩)
      case delete =>
        dsimp only at h1 h2 ⊢
        rw [hb]
        refine abuiltin_loc h (fun x hx id hid => ?_) (fun e => by cases e) (fun _ id hid => by rw [← h0] at hid; exact hid)
        obtain ⟨y, hy, rfl⟩ := List.mem_map.1 hx
        exact h1 id (List.mem_flatMap.2 ⟨y, hy, hid⟩)
      all_goals
        dsimp only at h1 h2 ⊢
        rw [hb]
        refine abuiltin_loc h (fun x hx id hid => ?_) (fun e => by cases e) (fun e => by rcases e with e | e | e | e <;> cases e)
        obtain ⟨y, hy, rfl⟩ := List.mem_map.1 hx
        exact h1 id (List.mem_flatMap.2 ⟨y, hy, hid⟩)
    · rename_i f hf
      rw [hf] at h1 h2
      dsimp only at h1 h2
      rw [← hop f (by simp [ho, Op.operands, Call.operands, hf]), hargs]
      rw [hf]
      split
      · rename_i f' cap hev
        rw [hev] at h1 h2
        dsimp only at h1 h2 ⊢
        cases hE : V.E f' with
        | none =>
          have : acall V i f' (c.args.toList.map (ev V s) ++ cap.toList) s = none := by unfold acall; rw [hE]
          rw [this]; exact Same.none
        | some mr =>
          obtain ⟨modes, run⟩ := mr
          rw [hE] at h1 h2
          dsimp only at h1 h2
          cases hco : coerceAll V s modes (c.args.toList.map (ev V s) ++ cap.toList) with
          | none =>
            have : acall V i f' (c.args.toList.map (ev V s) ++ cap.toList) s = none := by unfold acall; rw [hE]; dsimp only; rw [hco]
            rw [this]; exact Same.none
          | some args' =>
            rw [hco] at h1 h2
            dsimp only at h1 h2 ⊢
            rw [hev]
            dsimp only
            rw [hE]
            dsimp only
            rw [hco]
            dsimp only
            cases hv : callV run args' (reach s.heap 64 (addNew [] (args'.flatMap AV.ids)) (addNew [] (args'.flatMap AV.ids))) s.heap with
            | true =>
              rw [hv] at h1 h2
              dsimp only at h1 h2 ⊢
              exact acall_loc h hE hco h1 (fun id hid => ⟨h2 id (List.mem_append.2 (.inl (List.mem_append.2 (.inl hid)))), List.mem_append.2 (.inl (List.mem_append.2 (.inl hid)))⟩)
                (fun id hid => ⟨h2 id (List.mem_append.2 (.inl (List.mem_append.2 (.inr hid)))), fun _ => List.mem_append.2 (.inl (List.mem_append.2 (.inr hid)))⟩) (fun j hj => by
                have : s.next + 16 * i + j ∈ (List.range 16).map fun j => s.next + 16 * i + j := List.mem_map.2 ⟨j, by simpa using hj, rfl⟩
                exact ⟨h2 _ (List.mem_append.2 (.inr this)), List.mem_append.2 (.inr this)⟩)
            | false =>
              rw [hv] at h1 h2
              dsimp only at h1 h2 ⊢
              exact acall_loc h hE hco (fun id hid => h1 id (List.mem_append.2 (.inl hid))) (fun id hid => ⟨h2 id (List.mem_append.2 (.inl hid)), List.mem_append.2 (.inl hid)⟩)
                (fun id hid => ⟨h1 id (List.mem_append.2 (.inr hid)), fun e => by rw [hv] at e; cases e⟩) (fun j hj => by
                have : s.next + 16 * i + j ∈ (List.range 16).map fun j => s.next + 16 * i + j := List.mem_map.2 ⟨j, by simpa using hj, rfl⟩
                exact ⟨h2 _ (List.mem_append.2 (.inr this)), List.mem_append.2 (.inr this)⟩)
      · exact Same.none
    · exact Same.none
  | makeMap ty r =>
    cases r with
    | some r => (unfold aop; rw [ho]; exact Same.none)
    | none =>
      simp only [foot, ho] at h2 ⊢
      simp only [aop, ho]
      have h' := h.mono h2
      rw [← h'.next, ← h'.key _ (by simp)]
      split
      · intro p v s' hh
        simp only [Option.some.injEq, Prod.mk.injEq] at hh
        obtain ⟨rfl, rfl, rfl⟩ := hh
        exact ⟨[(s.next + 16 * i, _)], rfl, rfl, fun q hq => by simp at hq; rw [hq]; simp⟩
      · exact Same.none
  | lookup ty m x ok =>
    simp only [foot, ho] at h1 ⊢
    simp only [aop, ho]
    rw [← hop m (by simp [ho, Op.operands]), ← hop x (by simp [ho, Op.operands])]
    have h' := h.mono h1
    split
    · rename_i id hid
      rw [hid] at h'
      rw [← h'.lk id (by simp [dids])]
      split
      · split
        · split
          · exact Same.pure
          · exact Same.pure
        · exact Same.none
      · exact Same.none
    · exact Same.none
  | mapUpdate ty m x y =>
    simp only [foot, ho] at h2 ⊢
    simp only [aop, ho]
    rw [← hop m (by simp [ho, Op.operands]), ← hop x (by simp [ho, Op.operands]), ← hop y (by simp [ho, Op.operands])]
    have h' := h.mono h2
    split
    · rename_i id hid
      rw [hid] at h'
      rw [← h'.lk id (by simp [dids])]
      split
      · split
        · intro p v s' hh
          simp only [Option.some.injEq, Prod.mk.injEq] at hh
          obtain ⟨rfl, rfl, rfl⟩ := hh
          exact ⟨[(id, _)], rfl, rfl, fun q hq => by simp at hq; rw [hq, hid]; simp [dids]⟩
        · exact Same.none
      · exact Same.none
    · exact Same.none
  | _ => (unfold aop; rw [ho]; exact Same.none)
end Go.Am
