/- maps.Clone, as a contract of the machine: a second block with the same entries. -/
import Derived.Test.YtnbgphghghmemaaAmKeys
import Derived.Shelf.SlMaps.Clone
set_option linter.unusedVariables false
set_option linter.unusedSimpArgs false
namespace Go.Am
open Go Go.RowKit Go.Maps Go.Shelf Go.Proofs
variable {P : Program} {w : World}

def runClone : List AV → List Blk → Option (Bool × AV × List Blk)
  | [.mp 0], [.cells 0 (.rM k kn v es) true] => some (true, .mp 1, [.cells 0 (.rM k kn v es) true, .cells 0 (.rM k kn v es) true])
  | _, _ => none

theorem Sim.cloned {U : Oth} {G : Nat → Option AV} {w0 : World} {W0 : Nat → Prop} {ρ : Rho} {a : Act} {k : IntKind} {kn : Nat} {v : MV} {es : List (List Int × List Int)}
    (h : Sim U G w0 W0 ρ (hst [.cells 0 (.rM k kn v es) true]) a w) {L0 : Loc} {ms : Array MapEntry} {clock : Nat} (hL : ρ 0 = some (some L0)) (hb : w.heap[L0.b]? = some (.map ms clock)) :
    Sim U G w0 W0 (ρ.set 1 (some ⟨w.heap.size, 0, 0, 0⟩)) (hst [.cells 0 (.rM k kn v es) true, .cells 0 (.rM k kn v es) true]) a (w.alloc (.map ms clock)) ∧ (∀ i x, ρ i = some x → (ρ.set 1 (some ⟨w.heap.size, 0, 0, 0⟩)) i = some x) := by
  obtain ⟨L0', hL', hmap⟩ := (h.bl 0 0 (.rM k kn v es) true rfl).map _ _ _ _ rfl
  rw [hL] at hL'; cases hL'
  generalize hw'' : w.alloc (.map ms clock) = w'
  have hw' : w'.heap = w.heap.push (.map ms clock) := by rw [← hw'']; rfl
  have hsm : WSame w w' := by rw [← hw'']; exact ⟨rfl, rfl, rfl⟩
  have hne : ρ 1 = none := by
    cases hh : ρ 1 with
    | none => rfl
    | some x => have := h.dom 1 (by rw [hh]; simp); cases this
  have hold : ∀ b, b < w.heap.size → w'.heap[b]? = w.heap[b]? := fun b hb => by
    rw [hw', Array.getElem?_push, if_neg (by omega)]
  have hnew : w'.heap[w.heap.size]? = some (.map ms clock) := by rw [hw', Array.getElem?_push, if_pos rfl]
  have hρ : ∀ i x, ρ i = some x → (ρ.set 1 (some ⟨w.heap.size, 0, 0, 0⟩)) i = some x := fun i x hx => by
    rw [Rho.set_other]; exact hx
    rintro rfl; rw [hne] at hx; cases hx
  have lk : ∀ i, lkH i (tagH 0 [.cells 0 (.rM k kn v es) true, .cells 0 (.rM k kn v es) true]) = if i = 1 then .cells 0 (.rM k kn v es) true else lkH i (tagH 0 [.cells 0 (.rM k kn v es) true]) := fun i => by
    match i with
    | 0 => rfl
    | 1 => rfl
    | i + 2 => rw [if_neg (by omega)]; rfl
  have wo : ∀ b, WrO (ρ.set 1 (some ⟨w.heap.size, 0, 0, 0⟩)) (tagH 0 [.cells 0 (.rM k kn v es) true, .cells 0 (.rM k kn v es) true]) b → WrO ρ (tagH 0 [.cells 0 (.rM k kn v es) true]) b ∨ w.heap.size ≤ b := by
    rintro b ⟨i, n', r', L, h1, h2, h3⟩
    rw [lk] at h1
    by_cases hi : i = 1
    · subst hi; rw [Rho.set_same] at h2; cases h2; right; rw [← h3]; exact Nat.le_refl _
    · rw [if_neg hi] at h1; rw [Rho.set_other _ _ hi] at h2; exact .inl ⟨i, n', r', L, h1, h2, h3⟩
  have hsz : w.heap.size ≤ w'.heap.size := by rw [hw']; simp
  have hst1 := h.step (H' := tagH 0 [.cells 0 (.rM k kn v es) true, .cells 0 (.rM k kn v es) true]) (ρ' := ρ.set 1 (some ⟨w.heap.size, 0, 0, 0⟩)) (w' := w') (fun b hb _ => hold b hb) wo hρ hsz hsm ?_ ?_ ?_ ?_
  · exact ⟨{ tm := hst1.tm, nt := hst1.nt, df := hst1.df, bl := hst1.bl, sep := hst1.sep, dom := hst1.dom, fr := hst1.fr, wo := hst1.wo, sz := hst1.sz, gl := hst1.gl, uo := hst1.uo, ug := hst1.ug, su := hst1.su, ini := hst1.ini,
             im := fun id hi => Nat.lt_succ_of_lt (h.im id hi), sm := hst1.sm }, hρ⟩
  · intro i n' r' b hl
    rw [lk] at hl
    by_cases hi : i = 1
    · subst hi
      rw [if_pos rfl] at hl; cases hl
      refine ⟨(fun hm => by cases hm), rfl, .inr ⟨_, Rho.set_same _ _ _, rfl, (fun j hj => by omega), (fun _ hm => by cases hm), by rw [hw']; simp⟩, fun k1 kn1 v1 es1 e => ?_⟩
      cases e
      obtain ⟨ms', clock', hb', hE⟩ := hmap.ex
      rw [hb] at hb'; cases hb'
      have hbo := hmap.bo ms clock hb
      refine ⟨_, Rho.set_same _ _ _, ⟨⟨ms, clock, hnew, hE.mono fun xs u hr => ?_⟩, hmap.keys, hmap.nd, fun ms1 c1 hh => by rw [hnew] at hh; cases hh; exact hbo⟩⟩
      exact hr.mono (fun b j hb hlt => cell_of_heap (hold b hlt) j) (fun b hlt hb hb' => hb'.elim (fun h => hb (.inl h)) fun hb' => (wo b hb').elim (fun h => hb (.inr h)) (fun h => by omega)) hρ
    · rw [if_neg hi] at hl
      exact (h.bl i n' r' b hl).keep (fun b hb _ => hold b hb) wo hρ hsz (fun L _ hlt => hold _ hlt)
  · intro i i' n1 r1 n2 r2 b2 L L' h1 h2 h3 h4 h5
    rw [lk] at h1 h2
    by_cases hi : i = 1 <;> by_cases hi' : i' = 1
    · rw [hi, hi']
    · subst hi
      rw [if_neg hi'] at h2; rw [Rho.set_same] at h3; rw [Rho.set_other _ _ hi'] at h4
      cases h3
      have := h.loc_lt h2 h4
      simp only at h5; omega
    · subst hi'
      rw [if_neg hi] at h1; rw [Rho.set_same] at h4; rw [Rho.set_other _ _ hi] at h3
      cases h4
      have := h.loc_lt h1 h3
      simp only at h5; omega
    · rw [if_neg hi] at h1; rw [if_neg hi'] at h2; rw [Rho.set_other _ _ hi] at h3; rw [Rho.set_other _ _ hi'] at h4
      exact h.sep i i' n1 r1 n2 r2 b2 L L' h1 h2 h3 h4 h5
  · intro i hi
    by_cases he : i = 1
    · subst he; rfl
    · rw [Rho.set_other _ _ he] at hi
      have := h.dom i hi
      match i, this with
      | 0, _ => rfl
      | 1, _ => rfl
      | i + 2, h => exact absurd (show false = true from h) (by decide)
  · intro i n1 r1 b1 L1 h1 h2 hU
    rw [lk] at h1
    by_cases hi : i = 1
    · subst hi
      rw [Rho.set_same] at h2; cases h2
      have := (h.uo _ hU).1
      have := h.sz
      simp only at *
      omega
    · rw [if_neg hi] at h1; rw [Rho.set_other _ _ hi] at h2
      exact h.su i n1 r1 b1 L1 h1 h2 hU

theorem clone_ok {G : Nat → Option AV} {ρs : Ren} (L : SlLaysW.n5 P ρs) : CallOk P G (ρs.f 5) runClone where
  there := by
    obtain ⟨nm, h1, h2⟩ := L.f5
    exact ⟨_, h2, h1, rfl⟩
  does := by
    intro A H r H' hr U w ρ args hU hs hA
    unfold runClone at hr
    split at hr <;> try contradiction
    rename_i k kn v es
    simp only [Option.some.injEq, Prod.mk.injEq, true_and] at hr
    obtain ⟨rfl, rfl⟩ := hr
    match args, hA with
    | ⟨[x]⟩, hA =>
      have hx := hA.1
      cases hx with | mp _ L0 hL0 =>
      obtain ⟨L1, hL1, hmap⟩ := (hs.bl 0 0 (.rM k kn v es) true rfl).map _ _ _ _ rfl
      rw [hL0] at hL1; cases hL1
      obtain ⟨ms, clock, hb, hE⟩ := hmap.ex
      refine (AnyW.maps_Clone L L0.b ms clock w hb).mono ?_
      rintro e w' ⟨rfl, rfl⟩
      obtain ⟨h1, h2⟩ := hs.cloned hL0 hb
      exact ⟨_, _, rfl, h1, .mp 1 ⟨w.heap.size, 0, 0, 0⟩ (Rho.set_same _ _ _)⟩
end Go.Am
