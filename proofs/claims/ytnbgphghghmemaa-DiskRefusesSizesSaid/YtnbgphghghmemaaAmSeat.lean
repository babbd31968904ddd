/- What the texts that are printed for a seat lean on. -/
import Derived.Test.YtnbgphghghmemaaAmOpen
import Derived.Test.YtnbgphghghmemaaAmTyB
import Derived.Test.YtnbgphghghmemaaAmCut
set_option linter.unusedVariables false
set_option linter.unusedSimpArgs false
namespace Go.Am
open Go

def pth : Nat → Nat → List Nat → List Nat
  | 0, _, l => l
  | k + 1, n, l => match Nat.ble n 1 with
    | true => l
    | false => pth k (n / 2) (n % 2 :: l)
abbrev bp (f : Func) (n : Nat) : Code := sub (bodyOf f) (pth 64 n [])
abbrev Rz := Option (AV × List Blk)
abbrev kc (V : Env) (R : St → Rz) (spec : List (Nat × Md)) : St → Rz := fun s => R (cutTo V (some spec) s)
abbrev CRun := List AV → List Blk → Option (Bool × AV × List Blk)
abbrev CEnt := Nat × List (Option Nat) × CRun
def lookE : List CEnt → Nat → Option (List (Option Nat) × CRun)
  | [], _ => none
  | (g, m, r) :: l, f => match Nat.beq f g with
    | true => some (m, r)
    | false => lookE l f
def mkEnv (T : Tys) (G : Nat → Option AV) (l : List CEnt) : Env := { T := T, G := G, E := lookE l }
def okAll (P : Program) (G : Nat → Option AV) : List CEnt → Prop
  | [] => True
  | (f, _, r) :: l => CallOk P G f r ∧ okAll P G l
theorem eok_mk {P : Program} {T : Tys} {G : Nat → Option AV} : ∀ {l : List CEnt}, okAll P G l → EOk P (mkEnv T G l)
  | [], _ => fun f m r h => by simp [mkEnv, lookE] at h
  | (g, m, r) :: l, hl => fun f m' r' h => by
    simp only [mkEnv, lookE] at h
    split at h
    · rename_i hb
      injection h with h; injection h with h1 h2
      subst h1; subst h2
      have := Nat.eq_of_beq_eq_true hb
      subst this
      exact hl.1
    · exact eok_mk (T := T) hl.2 f m' r' h

theorem CallOk.sub {P : Program} {G : Nat → Option AV} {f : Nat} {run run' : CRun} (h : CallOk P G f run) (g : ∀ A H r H', run' A H = some (true, r, H') → run A H = some (true, r, H')) : CallOk P G f run' where
  there := h.there
  does := fun A H r H' e => h.does A H r H' (g A H r H' e)
theorem CallOk.or {P : Program} {G : Nat → Option AV} {f : Nat} {run run2 run' : CRun} (h : CallOk P G f run) (h2 : CallOk P G f run2) (g : ∀ A H r H', run' A H = some (true, r, H') → run A H = some (true, r, H') ∨ run2 A H = some (true, r, H')) : CallOk P G f run' where
  there := h.there
  does := fun A H r H' e => (g A H r H' e).elim (h.does A H r H') (h2.does A H r H')
theorem CallOk.more {P : Program} {G G' : Nat → Option AV} {f : Nat} {run : CRun} (h : CallOk P G f run) (hG : ∀ g r, G g = some r → G' g = some r) : CallOk P G' f run where
  there := h.there
  does := by
    intro A H r H' hr U w ρ args hini hs hargs
    have hs0 : Sim U G w (WrO ρ (tagH 0 H)) ρ (hst H) emptyAct w := {
      tm := hs.tm, nt := hs.nt, df := hs.df, bl := hs.bl, sep := hs.sep, dom := hs.dom, fr := hs.fr, wo := hs.wo, sz := hs.sz, gl := fun g r hg => hs.gl g r (hG g r hg), uo := hs.uo, ug := fun g r hg => hs.ug g r (hG g r hg), su := hs.su, ini := hs.ini, im := hs.im, sm := hs.sm }
    refine (h.does A H r H' hr U w ρ args hini hs0 hargs).mono ?_
    rintro e w' ⟨v, ρ', he, h1, h2⟩
    exact ⟨v, ρ', he, {
      tm := h1.tm, nt := h1.nt, df := h1.df, bl := h1.bl, sep := h1.sep, dom := h1.dom, fr := h1.fr, wo := h1.wo, sz := h1.sz, gl := hs.gl, uo := h1.uo, ug := hs.ug, su := h1.su, ini := h1.ini, im := h1.im, sm := h1.sm }, h2⟩

theorem loopN_ind {σ α : Type} {step : (σ → Option α) → σ → Option α} {r : Option α} (I : Nat → σ → Prop)
    (h : ∀ m s k, I m s → (∀ m' s', m' < m → I m' s' → k s' = r) → step k s = r) : ∀ (F m : Nat) (s : σ), m < F → I m s → loopN step F s = r
  | 0, _, _, hm, _ => by omega
  | F + 1, m, s, hm, hi => h m s _ hi fun m' s' hm' hi' => loopN_ind I h F m' s' (by omega) hi'
theorem loopN_orbit {σ α : Type} {step : (σ → Option α) → σ → Option α} {r : Option α} (s : Nat → σ) (n : Nat) (h1 : ∀ i, i < n → ∀ k, step k (s i) = k (s (i + 1))) (h2 : ∀ k, step k (s n) = r) (F : Nat) (hF : n < F) :
    loopN step F (s 0) = r :=
  loopN_ind (fun m t => m ≤ n ∧ t = s (n - m)) (fun m t k hi hk => by
    obtain ⟨hm, rfl⟩ := hi
    cases m with
    | zero => exact h2 k
    | succ m =>
      rw [h1 (n - (m + 1)) (by omega) k]
      exact hk m _ (by omega) ⟨by omega, by rw [show n - (m + 1) + 1 = n - m by omega]⟩) F n (s 0) hF ⟨Nat.le_refl _, by rw [Nat.sub_self]⟩

theorem loopN_from {σ α : Type} {step : (σ → Option α) → σ → Option α} {r : Option α} {s0 : σ} (s : Nat → σ) (n : Nat) (h0 : s0 = s 0) (h1 : ∀ i, i < n → ∀ k, step k (s i) = k (s (i + 1))) (h2 : ∀ k, step k (s n) = r) (F : Nat) (hF : n < F) :
    loopN step F s0 = r := h0 ▸ loopN_orbit s n h1 h2 F hF

theorem i64w {x : Int} (h1 : -9223372036854775808 ≤ x) (h2 : x ≤ 9223372036854775807) : IntKind.i64.wrap x = x := by
  unfold IntKind.wrap; simp only [IntKind.signed, IntKind.bits]; simp; omega
theorem u64w {x : Int} (h1 : 0 ≤ x) (h2 : x ≤ 18446744073709551615) : IntKind.u64.wrap x = x := by
  unfold IntKind.wrap; simp only [IntKind.signed, IntKind.bits]; simp; omega
theorem u32w {x : Int} (h1 : 0 ≤ x) (h2 : x ≤ 4294967295) : IntKind.u32.wrap x = x := by
  unfold IntKind.wrap; simp only [IntKind.signed, IntKind.bits]; simp; omega
theorem u8w {x : Int} (h1 : 0 ≤ x) (h2 : x ≤ 255) : IntKind.u8.wrap x = x := by
  unfold IntKind.wrap; simp only [IntKind.signed, IntKind.bits]; simp; omega
theorem u32mod (x : Int) : IntKind.u32.wrap x = x % 4294967296 := by
  unfold IntKind.wrap; simp only [IntKind.signed, IntKind.bits]; simp
theorem u8mod (x : Int) : IntKind.u8.wrap x = x % 256 := by
  unfold IntKind.wrap; simp only [IntKind.signed, IntKind.bits]; simp
theorem u64mod (x : Int) : IntKind.u64.wrap x = x % 18446744073709551616 := by
  unfold IntKind.wrap; simp only [IntKind.signed, IntKind.bits]; simp

theorem cond_pos {α : Type} {p : Prop} [Decidable p] {a b : α} (h : p) : cond (decide p) a b = a := by simp [h]
theorem cond_neg {α : Type} {p : Prop} [Decidable p] {a b : α} (h : ¬ p) : cond (decide p) a b = b := by simp [h]
theorem dec_and {p q : Prop} [Decidable p] [Decidable q] : (decide p && decide q) = decide (p ∧ q) := by simp
theorem dec_or {p q : Prop} [Decidable p] [Decidable q] : (decide p || decide q) = decide (p ∨ q) := by simp
theorem dec_not {p : Prop} [Decidable p] : (!(decide p)) = decide (¬ p) := by simp
theorem int_beq (x y : Int) : (x == y) = decide (x = y) := by rw [Bool.eq_iff_iff]; simp
theorem int_bne (x y : Int) : (x != y) = decide (x ≠ y) := by rw [Bool.eq_iff_iff]; simp
theorem okR_rI {n : Nat} {k : IntKind} {xs : List Int} (h : okR n (.rI k xs)) : xs.length = n ∧ okRI k xs := by
  obtain ⟨_, h2, h3⟩ := h
  refine ⟨h2, fun x hx => ?_⟩
  obtain ⟨j, hj, rfl⟩ := List.mem_iff_getElem.mp hx
  have := h3 j (by simp only [AV.size] at h2; omega)
  simp only [AV.cell, okC] at this
  rwa [List.getD_eq_getElem?_getD, List.getElem?_eq_getElem hj] at this
theorem fill_set {α : Type} (g : Nat → α) (z : α) (n i : Nat) (h : i < n) {v : α} (hv : v = g i) :
    ((List.range i).map g ++ List.replicate (n - i) z).set i v = (List.range (i + 1)).map g ++ List.replicate (n - (i + 1)) z := by
  subst hv
  rw [show n - i = (n - (i + 1)) + 1 by omega, List.replicate_succ, List.set_append_right _ _ (by simp), List.range_succ, List.map_append]
  simp
theorem tmod_nn {x y : Int} (h : 0 ≤ x) : Int.tmod x y = x % y := Int.tmod_eq_emod_of_nonneg h
theorem tdiv_nn {x y : Int} (h : 0 ≤ x) : Int.tdiv x y = x / y := Int.tdiv_eq_ediv_of_nonneg h
theorem list_eq {α : Type} (d : α) {a b : List α} (hl : a.length = b.length) (h : ∀ i, i < a.length → a.getD i d = b.getD i d) : a = b := by
  refine List.ext_getElem hl fun i h1 h2 => ?_
  have := h i h1
  rwa [List.getD_eq_getElem?_getD, List.getD_eq_getElem?_getD, List.getElem?_eq_getElem h1, List.getElem?_eq_getElem h2] at this
theorem lst_beq (x y : List Int) : (x == y) = decide (x = y) := by rw [Bool.eq_iff_iff]; simp
theorem okB_size {n : Nat} {r : AV} {c : Bool} (h : okB (.cells n r c)) (hl : r.leafB = true) : n = r.size := by
  cases r <;> first | (simp [AV.leafB] at hl; done) | exact h.2.1.symm
end Go.Am
