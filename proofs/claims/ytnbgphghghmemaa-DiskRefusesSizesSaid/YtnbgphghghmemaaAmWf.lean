/- What the values that a function is handed are known to be; a body, as a contract that may use it. -/
import Derived.Test.YtnbgphghghmemaaAmBody
set_option linter.unusedVariables false
set_option linter.unusedSimpArgs false
namespace Go.Am
open Go
variable {P : Program} {V : Env}

def okS (s : List Int) : Prop := s.length < 4611686018427387904 ∧ ∀ x ∈ s, 0 ≤ x ∧ x ≤ 255
def okRI (k : IntKind) (xs : List Int) : Prop := ∀ x ∈ xs, k.has x
def okC : AV → Prop
  | .int k n => k.has n
  | .str s => okS s
  | .vs (.rI k xs) 0 1 => okRI k xs ∧ xs.length < 4611686018427387904
  | _ => True
def okR (n : Nat) (r : AV) : Prop := r.wf ∧ r.size = n ∧ ∀ j, j < n → okC (r.cell j)
def okL : AV → Prop
  | .rI k xs => okRI k xs ∧ xs.length < 4611686018427387904
  | .rS xss => (∀ s ∈ xss, okS s) ∧ xss.length < 4611686018427387904
  | .rL k xss => (∀ xs ∈ xss, okRI k xs ∧ xs.length < 4611686018427387904) ∧ xss.length < 4611686018427387904
  | .rB xs => xs.length < 4611686018427387904
  | _ => True
def okV : AV → Prop
  | .int k n => k.has n
  | .str s => okS s
  | .agg n r => okR n r
  | .vs r _ 1 => okL r
  | .vs (.rI k xs) len sz => okRI k xs ∧ xs.length = len * sz ∧ len < 4611686018427387904
  | .vs (.rT ks xs) len sz => xs.length * ks.length = len * sz ∧ len < 4611686018427387904 ∧ ∀ j, j < len * sz → okC ((AV.rT ks xs).cell j)
  | _ => True
def okB : Blk → Prop
  | .cells _ (.rM k kn v es) _ => (∀ e ∈ es, keyOk k kn e.1 ∧ okV (mval v e.2)) ∧ (es.map (·.1)).Nodup
  | .cells n r _ => okR n r
  | .gone => True

theorem has_u8 {x : Int} (h : IntKind.u8.has x) : 0 ≤ x ∧ x ≤ 255 := h
theorem okS_of_rep {w : World} {W : Nat → Prop} {ρ : Rho} {s : List Int} {v : Value} (h : Rep w W ρ (.str s) v) : okS s := by
  cases h with
  | str s hm =>
    refine ⟨?_, ?_⟩
    · unfold bytesOf; rw [List.length_map]; exact hm
    · intro x hx
      simp only [bytesOf, List.mem_map] at hx
      obtain ⟨b, _, rfl⟩ := hx
      have := b.toNat_lt
      exact ⟨by omega, by omega⟩
theorem okRI_of_cells {w : World} {W : Nat → Prop} {ρ : Rho} {k : IntKind} {xs : List Int} (h : ∀ j, j < xs.length → ∃ v, Rep w W ρ ((AV.rI k xs).cell j) v) : okRI k xs := by
  intro x hx
  obtain ⟨j, hj, rfl⟩ := List.mem_iff_getElem.mp hx
  obtain ⟨v, hv⟩ := h j hj
  simp only [AV.cell] at hv
  rw [List.getD_eq_getElem?_getD, List.getElem?_eq_getElem hj] at hv
  cases hv with
  | int _ _ h => exact h
theorem okC_of_rep {w : World} {W : Nat → Prop} {ρ : Rho} {x : AV} {v : Value} (h : Rep w W ρ x v) : okC x := by
  unfold okC
  split
  · cases h with | int _ _ h => exact h
  · exact okS_of_rep h
  · rename_i k xs
    cases h with
    | vs0 _ _ cap a hr hn =>
      simp only [AV.size] at hn
      have : xs = [] := List.length_eq_zero_iff.mp hn
      subst this
      exact ⟨fun x hx => by simp at hx, by decide⟩
    | vs _ _ _ l cap blk base vals hr h0 hn hp hk hcap hm hW hc h =>
      simp only [AV.size, Nat.mul_one] at hn
      refine ⟨okRI_of_cells fun j hj => ⟨_, h j (by omega)⟩, by omega⟩
  · trivial
theorem okL_of_cells {w : World} {W : Nat → Prop} {ρ : Rho} {r : AV} (hm : r.size < 4611686018427387904) (h : ∀ j, j < r.size → ∃ v, Rep w W ρ (r.cell j) v) : okL r := by
  unfold okL
  split
  · exact ⟨okRI_of_cells h, hm⟩
  · rename_i xss
    refine ⟨fun s hs => ?_, hm⟩
    obtain ⟨j, hj, rfl⟩ := List.mem_iff_getElem.mp hs
    obtain ⟨v, hv⟩ := h j hj
    simp only [AV.cell] at hv
    rw [List.getD_eq_getElem?_getD, List.getElem?_eq_getElem hj] at hv
    exact okS_of_rep hv
  · rename_i k xss
    refine ⟨fun s hs => ?_, hm⟩
    obtain ⟨j, hj, rfl⟩ := List.mem_iff_getElem.mp hs
    obtain ⟨v, hv⟩ := h j hj
    simp only [AV.cell] at hv
    rw [List.getD_eq_getElem?_getD, List.getElem?_eq_getElem hj] at hv
    exact okC_of_rep hv
  · exact hm
  · trivial

theorem okV_of_rep {w : World} {W : Nat → Prop} {ρ : Rho} {x : AV} {v : Value} (h : Rep w W ρ x v) : okV x := by
  unfold okV
  split
  · cases h with | int _ _ h => exact h
  · exact okS_of_rep h
  · cases h with
    | agg n r cs hw hr hc h => exact ⟨hw, hr, fun j hj => okC_of_rep (h j hj)⟩
  · cases h with
    | vs0 _ _ cap a hr hn => exact okL_of_cells (w := w) (W := W) (ρ := ρ) (by rw [hn]; decide) (fun j hj => by rw [hn] at hj; omega)
    | vs _ _ _ l cap blk base vals hr h0 hn hp hk hcap hm hW hc h =>
      refine okL_of_cells (w := w) (W := W) (ρ := ρ) (by omega) (fun j hj => ⟨_, h j (by omega)⟩)
  · rename_i k xs len sz h1
    have hs1 : sz ≠ 1 := fun e => h1 e
    cases h with
    | vs0 _ _ cap a hr hn hl =>
      simp only [AV.size] at hn
      have : xs = [] := List.length_eq_zero_iff.mp hn
      subst this
      have h0 : len = 0 := by
        rcases hl with h | ⟨h, _⟩
        · exact h
        · exact absurd h hs1
      subst h0
      exact ⟨fun x hx => by simp at hx, by simp, by decide⟩
    | vs _ _ _ l cap blk base vals hr h0 hn hp hk hcap hm hW hc h =>
      simp only [AV.size] at hn
      have hlen : len = l := by
        rcases hk with hk | ⟨e, _⟩
        · rw [hk]; unfold klen; split
          · exact absurd rfl hs1
          · rfl
        · exact absurd e hs1
      refine ⟨okRI_of_cells fun j hj => ⟨_, h j (by omega)⟩, by rw [hlen]; exact hn, by omega⟩
  · rename_i ks xs len sz h1
    have hs1 : sz ≠ 1 := fun e => h1 e
    cases h with
    | vs0 _ _ cap a hr hn hl =>
      simp only [AV.size] at hn
      have h0 : len = 0 := by
        rcases hl with h | ⟨h, _⟩
        · exact h
        · exact absurd h hs1
      subst h0
      exact ⟨by rw [hn, Nat.zero_mul], by decide, fun j hj => by rw [Nat.zero_mul] at hj; omega⟩
    | vs _ _ _ l cap blk base vals hr h0 hn hp hk hcap hm hW hc h =>
      simp only [AV.size] at hn
      have hlen : len = l := by
        rcases hk with hk | ⟨e, _⟩
        · rw [hk]; unfold klen; split
          · exact absurd rfl hs1
          · rfl
        · exact absurd e hs1
      subst hlen
      exact ⟨hn, by omega, fun j hj => okC_of_rep (h j hj)⟩
  · trivial

theorem okB_cells {n : Nat} {r : AV} {c : Bool} (hm : r.isM = false) (h : okR n r) : okB (.cells n r c) := by
  cases r <;> first | exact h | (cases hm)
theorem ments_ok {w : World} {W : Nat → Prop} {ρ : Rho} {k : IntKind} {kn : Nat} {v : MV} : ∀ {ms : List MapEntry} {es : List (List Int × List Int)}, MEnts w W ρ k kn v ms es → ∀ e ∈ es, okV (mval v e.2)
  | [], [], _, e, he => by simp at he
  | [], _ :: _, h, _, _ => h.elim
  | _ :: _, [], h, _, _ => h.elim
  | m :: ms, x :: es, h, e, he => by
    rcases List.mem_cons.1 he with rfl | he
    · exact okV_of_rep h.1.2
    · exact ments_ok h.2 e he
theorem callOk_of (hm : P.follows .mixedOrders = true) (h : TysOk P V.T) (hE : EOk P V) {f : Nat} {fn : Func} {c : Code} (hf : P.funcs[f]? = some fn) (hn : (fn.name == "runtime.NumGoroutine") = false) (hb : fn.body = some c)
    {run : List AV → List Blk → Option (Bool × AV × List Blk)} (hrun : ∀ X H r H', run X H = some (true, r, H') → (∀ x ∈ X, okV x) → (∀ b ∈ H, okB b) → ∃ A, abody V A fn X H = some (r, H')) : CallOk P V.G f run where
  there := ⟨fn, hf, hn, by rw [hb]; rfl⟩
  does := by
    intro X H r H' hr U w ρ args hini hs hargs
    have hX : ∀ x ∈ X, okV x := by
      have : ∀ (l : List AV) (us : List Value), Reps w (Wr U ρ (tagH 0 H)) ρ l us → ∀ x ∈ l, okV x := by
        intro l
        induction l with
        | nil => intro _ _ x hx; simp at hx
        | cons y l ih =>
          intro us hu x hx
          cases us with
          | nil => exact hu.elim
          | cons u us =>
            rcases List.mem_cons.mp hx with rfl | hx
            · exact okV_of_rep hu.1
            · exact ih us hu.2 x hx
      exact this X _ hargs
    have hH : ∀ b ∈ H, okB b := by
      intro b hb
      obtain ⟨j, hj, rfl⟩ := List.mem_iff_getElem.mp hb
      cases e : H[j] with
      | gone => trivial
      | cells n r c =>
        have hl : lkH j (tagH 0 H) = .cells n r c := by
          rw [lkH_tag]; simp [hj, e]
        have hk := hs.bl j n r c hl
        cases hm : r.isM with
        | true =>
          obtain ⟨k, kn, v, es, rfl⟩ := isM_is hm
          obtain ⟨L, l1, l2⟩ := hk.map k kn v es rfl
          obtain ⟨ms, clock, m1, m2⟩ := l2.ex
          exact ⟨fun x hx => ⟨l2.keys x hx, ments_ok m2 x hx⟩, l2.nd⟩
        | false =>
        refine okB_cells hm ⟨hk.wf hm, hk.size, fun i hi => ?_⟩
        rcases hk.lies with ⟨_, h0⟩ | ⟨L, _, _, h1, _⟩
        · omega
        · obtain ⟨v, _, hv⟩ := h1 i hi
          exact okC_of_rep hv
    obtain ⟨A, ha⟩ := hrun X H r H' hr hX hH
    exact (callOk_of_body hm h hE (A := A) (run := fun X' H' => match abody V A fn X' H' with | some (r, H) => some (true, r, H) | none => none) hf hn hb (by
      intro X H r H' h
      split at h
      · rename_i r0 H0 e; injection h with h; injection h with h1 h; injection h with h2 h3; subst h2; subst h3; exact e
      · contradiction)).does X H r H' (by simp only [ha]) U w ρ args hini hs hargs
theorem callOk_never {f : Nat} {fn : Func} (hf : P.funcs[f]? = some fn) (hn : (fn.name == "runtime.NumGoroutine") = false) (hb : fn.body.isNone = false) : CallOk P V.G f (fun _ _ => none) where
  there := ⟨fn, hf, hn, hb⟩
  does := by intro A H r H' h; cases h

theorem callOk_nil (hm : P.follows .mixedOrders = true) (h : TysOk P V.T) (hE : EOk P V) {f : Nat} {fn : Func} {c : Code} (hf : P.funcs[f]? = some fn) (hn : (fn.name == "runtime.NumGoroutine") = false) (hb : fn.body = some c)
    {run : List AV → List Blk → Option (Bool × AV × List Blk)} (hrun : ∀ X H R H', run X H = some (true, R, H') → ∃ r, X = [.vs r 0 1] ∧ H = [] ∧ (okV (.vs r 0 1) → (∃ A, abody V A fn [.vs r 2 1] [] = some (R, H')) ∧ (r.size = 0 → ∃ A, abody V A fn [.vs r 3 1] [] = some (R, H')))) : CallOk P V.G f run where
  there := ⟨fn, hf, hn, by rw [hb]; rfl⟩
  does := by
    intro X H R H' hr U w ρ args hini hs hargs
    obtain ⟨r, rfl, rfl, h1⟩ := hrun X H R H' hr
    have key : ∀ fl, Reps w (Wr U ρ (tagH 0 [])) ρ [.vs r fl 1] args.toList → (∃ A, abody V A fn [.vs r fl 1] [] = some (R, H')) →
        Calls P f args w fun e w' => ∃ v ρ', e = .returned v ∧ Sim U V.G w (WrO ρ (tagH 0 [])) ρ' (hst H') emptyAct w' ∧ Rep w' (Wr U ρ' (tagH 0 H')) ρ' R v := by
      intro fl hfl ⟨A, ha⟩
      exact (callOk_of_body hm h hE (A := A) (run := fun X' H' => match abody V A fn X' H' with | some (r, H) => some (true, r, H) | none => none) hf hn hb (by
        intro X H r H' h
        split at h
        · rename_i r0 H0 e; injection h with h; injection h with h1 h; injection h with h2 h3; subst h2; subst h3; exact e
        · contradiction)).does [.vs r fl 1] [] R H' (by simp only [ha]) U w ρ args hini hs hfl
    generalize hl : args.toList = l at hargs
    match l, hargs with
    | [u], ⟨hu, _⟩ =>
      have hok := okV_of_rep hu
      obtain ⟨q1, q2⟩ := h1 hok
      cases hu with
      | vs0 _ _ cap a hr0 hn0 hl0 =>
        cases a with
        | none => exact key 3 (by rw [hl]; exact ⟨.vs0 r 1 cap none hr0 hn0 (.inr ⟨rfl, .inr ⟨rfl, rfl⟩⟩), trivial⟩) (q2 hn0)
        | some a => exact key 2 (by rw [hl]; exact ⟨.vs0 r 1 cap (some a) hr0 hn0 (.inr ⟨rfl, .inl ⟨rfl, by simp⟩⟩), trivial⟩) q1
      | vs _ _ _ l cap blk base vals hr0 h0 hn0 hp hk hcap hm2 hW hc hrep =>
        exact key 2 (by rw [hl]; exact ⟨.vs r 2 1 l cap blk base vals hr0 h0 hn0 hp (.inr ⟨rfl, .inr rfl⟩) hcap hm2 hW hc hrep, trivial⟩) q1
end Go.Am
