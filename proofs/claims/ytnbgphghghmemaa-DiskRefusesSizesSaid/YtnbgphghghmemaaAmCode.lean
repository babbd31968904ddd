/- Whole bodies. -/
import Derived.Test.YtnbgphghghmemaaAmDraw
import Derived.Scope
set_option linter.unusedVariables false
set_option linter.unusedSimpArgs false
namespace Go.Am
open Go
variable {P : Program} {V : Env} {U : Oth} {w0 : World} {W0 : Nat → Prop} {ρ ρ' : Rho} {s s' : St} {a a' : Act} {w w' : World} {av : AV}
variable {α : Type} {x : α} {A : Cuts}

def exOf : Ex → Exit
  | .normal => .normal
  | .exit id => .exit id
  | .ret => .ret

theorem wp_loop_n {c : Code} {Q : Exit → Act → World → Prop} (R : Nat → Act → World → Prop) (n : Nat) (h0 : R n a w) (hz : ∀ a w, ¬ R 0 a w)
    (round : ∀ n a w, R (n + 1) a w → c.wp P (Exit.then (fun a' w' => R n a' w') Q) a w) : (Code.loop c).wp P Q a w := by
  classical
  have hex : ∀ a w, (∃ n, R n a w) → ∃ n, R n a w ∧ ∀ m, R m a w → n ≤ m := by
    intro a w h
    obtain ⟨n, hn⟩ := h
    induction n using Nat.strongRecOn with
    | _ n ih =>
      by_cases hm : ∃ m, m < n ∧ R m a w
      · obtain ⟨m, h1, h2⟩ := hm
        exact ih m h1 h2
      · exact ⟨n, hn, fun m h => Nat.le_of_not_lt fun h2 => hm ⟨m, h2, h⟩⟩
  let μ : Act → World → Nat := fun a w => if h : ∃ n, R n a w then Classical.choose (hex a w h) else 0
  have hμ : ∀ a w, (∃ n, R n a w) → R (μ a w) a w ∧ ∀ m, R m a w → μ a w ≤ m := by
    intro a w h
    simp only [μ, dif_pos h]
    exact Classical.choose_spec (hex a w h)
  refine wp_loop (fun a w => ∃ n, R n a w) μ ⟨n, h0⟩ fun a w h => ?_
  obtain ⟨h1, h2⟩ := hμ a w h
  cases hm : μ a w with
  | zero => rw [hm] at h1; exact absurd h1 (hz a w)
  | succ m =>
    rw [hm] at h1
    refine wp_mono (round m a w h1) fun e a' w' hq => ?_
    cases e with
    | normal => exact ⟨⟨m, hq⟩, Nat.lt_succ_of_le ((hμ a' w' ⟨m, hq⟩).2 m hq)⟩
    | _ => exact hq

theorem loopN_ok {c : Code} {Q : Exit → Act → World → Prop} {spec : Option (List (Nat × Md))} {K : Ex → St → Option α}
    (h : TysOk P V.T)
    (ih : ∀ (s : St) (K : Ex → St → Option α) (ρ : Rho) (a : Act) (w : World) (Q : Exit → Act → World → Prop), Sim U V.G w0 W0 ρ s a w → aexec V A c s K = some x →
      (∀ e s' a' w' ρ', Sim U V.G w0 W0 ρ' s' a' w' → K e s' = some x → Q (exOf e) a' w') → c.wp P Q a w)
    (hQ : ∀ e s' a' w' ρ', Sim U V.G w0 W0 ρ' s' a' w' → K e s' = some x → Q (exOf e) a' w') (n : Nat)
    (hs : Sim U V.G w0 W0 ρ s a w) (hl : loopN (fun R s => aexec V A c s (kSeq (fun s => R (cutTo V spec s)) K)) n s = some x) : (Code.loop c).wp P Q a w := by
  refine wp_loop_n (fun n a w => ∃ s ρ, Sim U V.G w0 W0 ρ s a w ∧ loopN (fun R s => aexec V A c s (kSeq (fun s => R (cutTo V spec s)) K)) n s = some x) n ⟨s, ρ, hs, hl⟩ ?_ ?_
  · rintro a w ⟨s, ρ, _, hh⟩
    simp [loopN] at hh
  · rintro n a w ⟨s, ρ, h1, h2⟩
    rw [loopN] at h2
    refine ih s _ ρ a w _ h1 h2 fun e s' a' w' ρ' hs' hk => ?_
    cases e with
    | normal =>
      simp only [kSeq] at hk
      obtain ⟨ρ2, h3⟩ := cutTo_ok h hs' spec
      exact ⟨_, ρ2, h3, hk⟩
    | exit j => exact hQ (.exit j) s' a' w' ρ' hs' hk
    | ret => exact hQ .ret s' a' w' ρ' hs' hk

theorem caseI_some {j : Int} {Kq : Nat → Option α} : ∀ (n q : Nat), caseI j Kq n q = some x → ∃ q : Nat, j = (q : Int) ∧ Kq q = some x
  | 0, _, h => by simp [caseI] at h
  | n + 1, q, h => by
    rw [caseI] at h
    rcases cond_some h with ⟨hb, h⟩ | ⟨_, h⟩
    · exact ⟨q, of_decide_eq_true hb, h⟩
    · exact caseI_some n (q + 1) h
theorem casK_ok (hs : Sim U V.G w0 W0 ρ s a w) {c : Option (Nat × Nat)} {K : St → Option α} (h : casK c s K = some x) : ∃ s', Sim U V.G w0 W0 ρ s' a w ∧ K s' = some x := by
  unfold casK at h
  split at h
  · exact ⟨s, hs, h⟩
  · rename_i t n
    split at h <;> try contradiction
    rename_i k j hj
    obtain ⟨q, rfl, hq⟩ := caseI_some n 0 h
    exact ⟨_, hs.keepTmp hj, hq⟩
theorem aexec_ok (hm : P.follows .mixedOrders = true) (h : TysOk P V.T) (hE : EOk P V) : ∀ (c : Code) (s : St) (K : Ex → St → Option α) (ρ : Rho) (a : Act) (w : World) (Q : Exit → Act → World → Prop), Sim U V.G w0 W0 ρ s a w → aexec V A c s K = some x →
    (∀ e s' a' w' ρ', Sim U V.G w0 W0 ρ' s' a' w' → K e s' = some x → Q (exOf e) a' w') → c.wp P Q a w
  | .skip, s, K, ρ, a, w, Q, hs, ha, hQ => wp_skip (hQ .normal s a w ρ hs (by simpa [aexec] using ha))
  | .label l, s, K, ρ, a, w, Q, hs, ha, hQ => wp_label (hQ .normal s a w ρ hs (by simpa [aexec] using ha))
  | .region id ops false, s, K, ρ, a, w, Q, hs, ha, hQ => by
    refine wp_region ?_
    rw [aexec] at ha
    obtain ⟨s, hs, ha⟩ := casK_ok hs ha
    have := aops_ok (x := x) (ops := ops) h hE Q (fun s' a' w' ρ' h1 h2 => hQ .normal s' a' w' ρ' h1 h2) ops.toList 0 s ρ a w (by simp) hs ha
    simpa using this
  | .region id ops true, s, K, ρ, a, w, Q, hs, ha, hQ => by
    refine wp_region_any hm ?_
    rw [aexec] at ha
    obtain ⟨s, hs, ha⟩ := casK_ok hs ha
    exact aopsD_ok (x := x) (ops := ops) h hE Q (fun s' a' w' ρ' h1 h2 => hQ .normal s' a' w' ρ' h1 h2) (hs.heapEq (w' := { w with drawn := w.drawn + 1 }) rfl ⟨rfl, rfl, rfl⟩) ha
  | .seq c d, s, K, ρ, a, w, Q, hs, ha, hQ => by
    rw [aexec] at ha
    refine wp_seq (aexec_ok hm h hE c s _ ρ a w _ hs ha fun e s' a' w' ρ' hs' hk => ?_)
    cases e with
    | normal =>
      obtain ⟨ρ2, h3⟩ := cutTo_ok h hs' ((ckey d).bind A.join)
      exact aexec_ok hm h hE d _ K ρ2 a' w' Q h3 hk hQ
    | exit j => exact hQ (.exit j) s' a' w' ρ' hs' hk
    | ret => exact hQ .ret s' a' w' ρ' hs' hk
  | .cond o c d, s, K, ρ, a, w, Q, hs, ha, hQ => by
    rw [aexec] at ha
    split at ha <;> try contradiction
    rename_i b hb
    have hc := hs.ev o
    rw [hb] at hc
    have hb' : a.eval o = .bool b := by generalize a.eval o = u at hc; cases hc; rfl
    rcases cond_some ha with ⟨rfl, ha⟩ | ⟨rfl, ha⟩
    · exact wp_cond_true hb' (aexec_ok hm h hE c s K ρ a w Q hs ha hQ)
    · exact wp_cond_false hb' (aexec_ok hm h hE d s K ρ a w Q hs ha hQ)
  | .block id c, s, K, ρ, a, w, Q, hs, ha, hQ => by
    rw [aexec] at ha
    refine wp_block (aexec_ok hm h hE c s _ ρ a w _ hs ha fun e s' a' w' ρ' hs' hk => ?_)
    cases e with
    | normal => exact hQ .normal s' a' w' ρ' hs' hk
    | exit j =>
      simp only [kBlock] at hk
      show if j = id then Q .normal a' w' else Q (.exit j) a' w'
      by_cases e : j = id
      · subst e
        rw [if_pos rfl]
        simp only [show Nat.beq j j = true by simp] at hk
        exact hQ .normal s' a' w' ρ' hs' hk
      · rw [if_neg e]
        have e2 : Nat.beq j id = false := by rw [Bool.eq_false_iff]; intro h'; exact e (Nat.eq_of_beq_eq_true h')
        simp only [e2] at hk
        exact hQ (.exit j) s' a' w' ρ' hs' hk
    | ret => exact hQ .ret s' a' w' ρ' hs' hk
  | .loop c, s, K, ρ, a, w, Q, hs, ha, hQ => by
    rw [aexec] at ha
    obtain ⟨ρ2, h3⟩ := cutTo_ok h hs ((ckey c).bind A.at_)
    exact loopN_ok h (fun s K ρ a w Q => aexec_ok hm h hE c s K ρ a w Q) hQ A.F h3 ha
  | .scope c, s, K, ρ, a, w, Q, hs, ha, hQ => by
    rw [aexec] at ha
    refine wp_scope_straight (aexec_ok hm h hE c s K ρ a w _ hs ha fun e s' a' w' ρ' hs' hk => ?_)
    have := hQ e s' a' w' ρ' hs' hk
    cases e <;> exact this
  | .exit id, s, K, ρ, a, w, Q, hs, ha, hQ => wp_exit (hQ (.exit id) s a w ρ hs (by simpa [aexec] using ha))
  | .ret, s, K, ρ, a, w, Q, hs, ha, hQ => wp_ret (hQ .ret s a w ρ hs (by simpa [aexec] using ha))
  | .goto _, s, K, ρ, a, w, Q, hs, ha, hQ => by simp [aexec] at ha
  | .rangeFunc _ _ _ _, s, K, ρ, a, w, Q, hs, ha, hQ => by simp [aexec] at ha
  | .refuse _, s, K, ρ, a, w, Q, hs, ha, hQ => by simp [aexec] at ha
end Go.Am
