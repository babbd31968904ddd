/- When a state of the machine is what an abstract state says; what each change of the abstract state asks. -/
import Derived.Test.YtnbgphghghmemaaAmRep
set_option linter.unusedVariables false
set_option linter.unusedSimpArgs false
namespace Go.Am
open Go

abbrev Rho := Nat → Option (Option Loc)

def WrO (ρ : Rho) (H : List (Nat × Blk)) (b : Nat) : Prop := ∃ id n r L, lkH id H = .cells n r true ∧ ρ id = some (some L) ∧ L.b = b
structure Oth where
  v : Nat → Prop
  n : Nat → Prop
  sub : ∀ b, v b → n b
  ini : Rho
def Wr (U : Oth) (ρ : Rho) (H : List (Nat × Blk)) (b : Nat) : Prop := U.v b ∨ WrO ρ H b

def Mine (w : World) (L : Loc) : Prop := ∃ c t fr, w.heap[L.b]? = some (.cells c t fr) ∧ (c.size = L.S ∧ fr.1 ≤ fr.2) ∧ (L.base = 0 ∧ L.base + L.n ≤ L.S) ∧ ∀ j, j < L.S → w.frozen? ⟨L.b, j, none⟩ = false

def GOk (G : Nat → Option AV) (w0 : World) (W0 : Nat → Prop) : Prop :=
  ∀ g r, G g = some r → r.leafB = true → 0 < r.size ∧ g < w0.heap.size ∧ ¬ W0 g ∧
    ∃ vals : Nat → Value, ∀ j, j < r.size → w0.cell? ⟨g, j, none⟩ = some (vals j) ∧ ∀ w W ρ, Rep w W ρ (r.cell j) (vals j)

def AV.isM : AV → Bool
  | .rM _ _ _ _ => true
  | _ => false
theorem leaf_isM {r : AV} (h : r.leafB = true) : r.isM = false := by cases r <;> first | rfl | (simp [AV.leafB] at h)
theorem size_isM {r : AV} (h : 0 < r.size) : r.isM = false := by cases r <;> first | rfl | (simp [AV.size] at h)
theorem wf_isM {r : AV} (h : r.wf) : r.isM = false := by cases r <;> first | rfl | exact h.elim
theorem isM_no {r : AV} (h : r.isM = false) {k : IntKind} {kn : Nat} {v : MV} {es : List (List Int × List Int)} : r ≠ .rM k kn v es := by rintro rfl; cases h
def keyV (k : IntKind) (kn : Nat) (xs : List Int) : Value := match kn with
  | 0 => .int k (xs.getD 0 0)
  | _ => .agg (xs.map (Value.int k)).toArray
def keyOk (k : IntKind) (kn : Nat) (xs : List Int) : Prop := xs.length = (match kn with | 0 => 1 | n => n) ∧ ∀ x ∈ xs, k.has x
def MEnts (w : World) (W : Nat → Prop) (ρ : Rho) (k : IntKind) (kn : Nat) (v : MV) : List MapEntry → List (List Int × List Int) → Prop
  | [], [] => True
  | m :: ms, e :: es => (m.key = keyV k kn e.1 ∧ Rep w W ρ (mval v e.2) m.val) ∧ MEnts w W ρ k kn v ms es
  | _, _ => False
theorem MEnts.mono {w w' : World} {W W' : Nat → Prop} {ρ ρ' : Rho} {k : IntKind} {kn : Nat} {v : MV} (f : ∀ xs u, Rep w W ρ (mval v xs) u → Rep w' W' ρ' (mval v xs) u) :
    ∀ {ms : List MapEntry} {es : List (List Int × List Int)}, MEnts w W ρ k kn v ms es → MEnts w' W' ρ' k kn v ms es
  | [], [], _ => trivial
  | m :: ms, e :: es, h => ⟨⟨h.1.1, f _ _ h.1.2⟩, MEnts.mono f h.2⟩
  | [], _ :: _, h => h.elim
  | _ :: _, [], h => h.elim
def Born (ms : Array MapEntry) (clock : Nat) : Prop := (∀ x ∈ ms.toList, x.born < clock) ∧ (ms.toList.map (·.born)).Nodup
structure MapIs (w : World) (W : Nat → Prop) (ρ : Rho) (b : Nat) (k : IntKind) (kn : Nat) (v : MV) (es : List (List Int × List Int)) : Prop where
  ex : ∃ (ms : Array MapEntry) (clock : Nat), w.heap[b]? = some (.map ms clock) ∧ MEnts w W ρ k kn v ms.toList es
  keys : ∀ e ∈ es, keyOk k kn e.1
  nd : (es.map (·.1)).Nodup
  bo : ∀ ms clock, w.heap[b]? = some (.map ms clock) → Born ms clock
structure BlkOk (U : Oth) (w : World) (ρ : Rho) (H : List (Nat × Blk)) (id n : Nat) (r : AV) (b : Bool) : Prop where
  wf : r.isM = false → r.wf
  size : r.size = n
  lies : (ρ id = some none ∧ n = 0) ∨ ∃ L, ρ id = some (some L) ∧ L.n = n ∧
    (∀ j, j < n → ∃ v, w.cell? ⟨L.b, L.base + j, none⟩ = some v ∧ Rep w (Wr U ρ H) ρ (r.cell j) v) ∧ (b = true → r.isM = false → Mine w L) ∧ L.b < w.heap.size
  map : ∀ k kn v es, r = .rM k kn v es → ∃ L, ρ id = some (some L) ∧ MapIs w (Wr U ρ H) ρ L.b k kn v es

def WSame (w0 w : World) : Prop := w.os = w0.os ∧ w.output = w0.output ∧ w.tape = w0.tape
theorem WSame.refl (w : World) : WSame w w := ⟨rfl, rfl, rfl⟩
theorem WSame.trans {a b c : World} (h : WSame a b) (h' : WSame b c) : WSame a c := ⟨h'.1.trans h.1, h'.2.1.trans h.2.1, h'.2.2.trans h.2.2⟩

structure Sim (U : Oth) (G : Nat → Option AV) (w0 : World) (W0 : Nat → Prop) (ρ : Rho) (s : St) (a : Act) (w : World) : Prop where
  tm : ∀ t, Rep w (Wr U ρ s.heap) ρ (lk t s.tmps) (a.tmps.getD t Go.undef)
  nt : a.tmps.size = s.nt
  df : a.defers = []
  bl : ∀ id n r b, lkH id s.heap = .cells n r b → BlkOk U w ρ s.heap id n r b
  sep : ∀ id id' n r n' r' b' L L', lkH id s.heap = .cells n r true → lkH id' s.heap = .cells n' r' b' → ρ id = some (some L) → ρ id' = some (some L') → L.b = L'.b → id = id'
  dom : ∀ id, ρ id ≠ none → hasKey id s.heap = true
  fr : ∀ b, b < w0.heap.size → ¬ W0 b → w.heap[b]? = w0.heap[b]?
  wo : ∀ b, WrO ρ s.heap b → W0 b ∨ w0.heap.size ≤ b
  sz : w0.heap.size ≤ w.heap.size
  gl : GOk G w0 W0
  uo : ∀ b, U.n b → b < w0.heap.size ∧ ¬ W0 b
  ug : ∀ g r, G g = some r → r.leafB = true → ¬ U.v g
  su : ∀ id n r b L, lkH id s.heap = .cells n r b → ρ id = some (some L) → ¬ U.n L.b
  ini : ∀ id x, U.ini id = some x → ρ id = some x
  im : ∀ id, U.ini id ≠ none → id < s.m
  sm : WSame w0 w

variable {U : Oth} {G : Nat → Option AV} {w0 : World} {W0 : Nat → Prop} {ρ : Rho} {s : St} {a : Act} {w : World}

theorem cell_of_heap {w w' : World} {b : Nat} (h : w'.heap[b]? = w.heap[b]?) (j : Nat) : w'.cell? ⟨b, j, none⟩ = w.cell? ⟨b, j, none⟩ := by
  unfold World.cell?; simp only [h]
theorem frozen_of_heap {w w' : World} {b : Nat} (h : w'.heap[b]? = w.heap[b]?) (j : Nat) : w'.frozen? ⟨b, j, none⟩ = w.frozen? ⟨b, j, none⟩ := by
  unfold World.frozen?; simp only [h]

theorem lk_put {t d : Nat} {v : AV} {l : List (Nat × AV)} : lk t ((d, v) :: l) = if t = d then v else lk t l := by
  show (match Nat.beq t d with | true => v | false => lk t l) = _
  by_cases h : t = d
  · subst h; simp
  · have : Nat.beq t d = false := by rw [Bool.eq_false_iff]; intro h'; exact h (Nat.eq_of_beq_eq_true h')
    rw [this, if_neg h]
theorem lkH_put {t d : Nat} {v : Blk} {l : List (Nat × Blk)} : lkH t ((d, v) :: l) = if t = d then v else lkH t l := by
  show (match Nat.beq t d with | true => v | false => lkH t l) = _
  by_cases h : t = d
  · subst h; simp
  · have : Nat.beq t d = false := by rw [Bool.eq_false_iff]; intro h'; exact h (Nat.eq_of_beq_eq_true h')
    rw [this, if_neg h]
theorem hasKey_put {t d : Nat} {v : Blk} {l : List (Nat × Blk)} : hasKey t ((d, v) :: l) = (decide (t = d) || hasKey t l) := by
  by_cases h : t = d
  · subst h; simp [hasKey]
  · have : Nat.beq t d = false := by rw [Bool.eq_false_iff]; intro h'; exact h (Nat.eq_of_beq_eq_true h')
    simp [this, h, hasKey]
theorem lkH_none : ∀ {l : List (Nat × Blk)} {t : Nat}, hasKey t l = false → lkH t l = .gone
  | [], _, _ => rfl
  | (u, b) :: l, t, h => by
    rw [hasKey_put] at h
    simp only [Bool.or_eq_false_iff, decide_eq_false_iff_not] at h
    rw [lkH_put, if_neg h.1]
    exact lkH_none h.2

theorem tmps_put (a : Act) (d t : Nat) (v : Value) (hd : d < a.tmps.size) : (a.put (some d) v).tmps.getD t Go.undef = if t = d then v else a.tmps.getD t Go.undef := by
  simp only [Act.put, Array.getD_eq_getD_getElem?, Array.getElem?_setIfInBounds]
  by_cases h : t = d
  · subst h; simp [hd]
  · simp [h, Ne.symm h]

theorem Sim.put (h : Sim U G w0 W0 ρ s a w) {v : AV} {x : Value} (hv : Rep w (Wr U ρ s.heap) ρ v x) (dst : Option Nat) : Sim U G w0 W0 ρ (s.put dst v) (a.put dst x) w := by
  cases dst with
  | none => exact h
  | some d =>
    have hsize : (a.put (some d) x).tmps.size = a.tmps.size := by simp [Act.put]
    by_cases hd : d < s.nt
    · have e : s.put (some d) v = { s with tmps := (d, v) :: s.tmps } := by simp [St.put, blt_true hd]
      rw [e]
      exact {
        tm := fun t => by
          simp only []
          rw [lk_put, tmps_put _ _ _ _ (by rw [h.nt]; exact hd)]
          split
          · exact hv
          · exact h.tm t
        nt := hsize.trans h.nt
        df := h.df
        bl := h.bl, sep := h.sep, dom := h.dom, fr := h.fr, wo := h.wo, sz := h.sz, gl := h.gl, uo := h.uo, ug := h.ug, su := h.su, ini := h.ini, im := h.im, sm := h.sm }
    · have e : s.put (some d) v = s := by simp [St.put, blt_false (by omega : s.nt ≤ d)]
      have e' : (a.put (some d) x) = a := by
        simp only [Act.put]
        rw [Array.setIfInBounds_eq_of_size_le (by rw [h.nt]; omega)]
      rw [e, e']; exact h

theorem Sim.ev {V : Env} (h : Sim U V.G w0 W0 ρ s a w) (x : Operand) : Rep w (Wr U ρ s.heap) ρ (ev V s x) (a.eval x) := by
  cases x with
  | tmp t => exact h.tm t
  | const v =>
    simp only [Am.ev, Act.eval]
    cases v with
    | bool b => exact .bool b
    | int k n =>
      simp only [ofVal]
      split
      · rename_i hk
        simp only [Bool.and_eq_true, decide_eq_true_eq] at hk
        exact .int k n hk
      · exact .undef _
    | string s =>
      simp only [ofVal]
      split
      · rename_i hk
        rw [Nat.blt_eq] at hk
        exact .str s hk
      · exact .undef _
    | pointer p => cases p with
      | none => exact .nilp
      | some p => exact .undef _
    | slice p n c => cases p with
      | none =>
        cases n with
        | zero => cases c with
          | zero => exact .ns
          | succ c => exact .undef _
        | succ n => exact .undef _
      | some p => exact .undef _
    | map m => cases m with
      | none => exact .nilm
      | some m => exact .undef _
    | nilFunc => exact .nilf
    | _ => exact .undef _
  | global g =>
    simp only [Am.ev, Act.eval]
    split
    · rename_i r hr
      split
      · rename_i hl
        obtain ⟨h0, hg, hW, vals, hv⟩ := h.gl g r hr hl
        have hcell : ∀ j, w.cell? ⟨g, j, none⟩ = w0.cell? ⟨g, j, none⟩ := fun j => cell_of_heap (h.fr g hg hW) j
        have := Rep.gp (w := w) (W := Wr U ρ s.heap) (ρ := ρ) r r.size 0 0 0 r.size g 0 vals hl rfl (fun _ => rfl) (by simp [ix]) h0
          (fun hw => hw.elim (h.ug g r hr hl) fun hw => (h.wo g hw).elim hW (fun h' => by omega)) (fun j hj => by rw [Nat.zero_add, hcell]; exact (hv j hj).1) (fun j hj => (hv j hj).2 _ _ _)
        simpa [ix] using this
      · exact .undef _
    · exact .undef _
  | func f => exact .fn f .nil #[] rfl (fun j hj => by simp [AVs.len] at hj)

theorem BlkOk.keep {w w' : World} {ρ ρ' : Rho} {H H' : List (Nat × Blk)} {id n : Nat} {r : AV} {b : Bool} (h : BlkOk U w ρ H id n r b)
    (hfr : ∀ b, b < w.heap.size → ¬ WrO ρ H b → w'.heap[b]? = w.heap[b]?) (wo : ∀ b, WrO ρ' H' b → WrO ρ H b ∨ w.heap.size ≤ b)
    (hρ : ∀ id x, ρ id = some x → ρ' id = some x) (hsz : w.heap.size ≤ w'.heap.size) (hL : ∀ L, ρ id = some (some L) → L.b < w.heap.size → w'.heap[L.b]? = w.heap[L.b]?) : BlkOk U w' ρ' H' id n r b where
  wf := h.wf
  size := h.size
  lies := by
    rcases h.lies with ⟨h1, h2⟩ | ⟨L, h1, h2, h3, h4, h5⟩
    · exact .inl ⟨hρ _ _ h1, h2⟩
    · have e := hL L h1 h5
      refine .inr ⟨L, hρ _ _ h1, h2, fun j hj => ?_, fun hb hm => ?_, by omega⟩
      · obtain ⟨v, hv, hr⟩ := h3 j hj
        exact ⟨v, (cell_of_heap e _).trans hv, hr.mono (fun b j hb hlt => cell_of_heap (hfr b hlt fun h => hb (.inr h)) j) (fun b hlt hb hb' => hb'.elim (fun h => hb (.inl h)) fun hb' => (wo b hb').elim (fun h => hb (.inr h)) (fun h => by omega)) hρ⟩
      · obtain ⟨c, t, fr, g1, g2, g3, g4⟩ := h4 hb hm
        exact ⟨c, t, fr, e.trans g1, g2, g3, fun j hj => (frozen_of_heap e j).trans (g4 j hj)⟩
  map := fun k kn v es hr => by
    obtain ⟨L, h1, h2⟩ := h.map k kn v es hr
    obtain ⟨ms, clock, m1, m2⟩ := h2.ex
    have e := hL L h1 (by
      rcases Nat.lt_or_ge L.b w.heap.size with hlt | hge
      · exact hlt
      · rw [Array.getElem?_eq_none hge] at m1; cases m1)
    exact ⟨L, hρ _ _ h1, ⟨⟨ms, clock, e.trans m1, m2.mono fun x u hx => hx.mono (fun b j hb hlt => cell_of_heap (hfr b hlt fun h => hb (.inr h)) j) (fun b hlt hb hb' => hb'.elim (fun h => hb (.inl h)) fun hb' => (wo b hb').elim (fun h => hb (.inr h)) (fun h => by omega)) hρ⟩, h2.keys, h2.nd, fun ms clock hh => h2.bo ms clock (e.symm.trans hh)⟩⟩

theorem isM_is {r : AV} (h : r.isM = true) : ∃ k n v es, r = .rM k n v es := by cases r <;> first | (simp [AV.isM] at h; done) | exact ⟨_, _, _, _, rfl⟩
theorem isM_ren {r : AV} (π : Nat → Nat) : (r.ren π).isM = r.isM := by cases r <;> rfl
theorem ren_rM {r : AV} {π : Nat → Nat} {k : IntKind} {n : Nat} {v : MV} {es : List (List Int × List Int)} (h : r.ren π = .rM k n v es) : r = .rM k n v es := by cases r <;> first | exact h | (simp [AV.ren] at h)
theorem mval_ren (v : MV) (xs : List Int) (π : Nat → Nat) : (mval v xs).ren π = mval v xs := by cases v <;> rfl
theorem mval_ids (v : MV) (xs : List Int) : (mval v xs).ids = [] := by cases v <;> rfl
theorem mval_noV {v : MV} (h : v.isSl = false) (xs : List Int) : (mval v xs).hasV = false := by cases v <;> first | rfl | (simp [MV.isSl] at h)
theorem row_renM (π : Nat → Nat) (r : AV) (h : r.isM = false → r.wf) : ((r.ren π).isM = false → (r.ren π).wf) ∧ (r.ren π).size = r.size ∧ ∀ j, j < r.size → (r.ren π).cell j = (r.cell j).ren π ∧ ∀ id ∈ (r.cell j).ids, id ∈ r.ids := by
  cases hm : r.isM with
  | true =>
    obtain ⟨k, n, v, es, rfl⟩ := isM_is hm
    exact ⟨(fun h => by cases h), rfl, fun j hj => by simp [AV.size] at hj⟩
  | false =>
    obtain ⟨h1, h2, h3⟩ := row_ren π r (h hm)
    exact ⟨fun _ => h1, h2, h3⟩

theorem Sim.step (h : Sim U G w0 W0 ρ s a w) {H' : List (Nat × Blk)} {ρ' : Rho} {w' : World}
    (hfr : ∀ b, b < w.heap.size → ¬ WrO ρ s.heap b → w'.heap[b]? = w.heap[b]?) (wo : ∀ b, WrO ρ' H' b → WrO ρ s.heap b ∨ w.heap.size ≤ b)
    (hρ : ∀ id x, ρ id = some x → ρ' id = some x) (hsz : w.heap.size ≤ w'.heap.size) (hsm : WSame w w')
    (bl : ∀ id n r b, lkH id H' = .cells n r b → BlkOk U w' ρ' H' id n r b)
    (sep : ∀ id id' n r n' r' b' L L', lkH id H' = .cells n r true → lkH id' H' = .cells n' r' b' → ρ' id = some (some L) → ρ' id' = some (some L') → L.b = L'.b → id = id')
    (dom : ∀ id, ρ' id ≠ none → hasKey id H' = true) (su : ∀ id n r b L, lkH id H' = .cells n r b → ρ' id = some (some L) → ¬ U.n L.b) : Sim U G w0 W0 ρ' { s with heap := H' } a w' where
  tm := fun t => (h.tm t).mono (fun b j hb hlt => cell_of_heap (hfr b hlt fun h => hb (.inr h)) j) (fun b hlt hb hb' => hb'.elim (fun h => hb (.inl h)) fun hb' => (wo b hb').elim (fun h => hb (.inr h)) (fun h => by omega)) hρ
  nt := h.nt
  df := h.df
  bl := bl
  sep := sep
  dom := dom
  fr := fun b hb hW => (hfr b (Nat.lt_of_lt_of_le hb h.sz) (fun hw => (h.wo b hw).elim hW (fun h' => by omega))).trans (h.fr b hb hW)
  wo := fun b hb => (wo b hb).elim (h.wo b) (fun h' => .inr (Nat.le_trans h.sz h'))
  sz := Nat.le_trans h.sz hsz
  gl := h.gl
  uo := h.uo
  ug := h.ug
  su := su
  ini := fun id x hx => hρ id x (h.ini id x hx)
  im := h.im
  sm := h.sm.trans hsm

theorem Rep.step {H' : List (Nat × Blk)} {ρ' : Rho} {w' : World} {H : List (Nat × Blk)} {x : AV} {v : Value} (h : Rep w (Wr U ρ H) ρ x v)
    (hfr : ∀ b, b < w.heap.size → ¬ WrO ρ H b → w'.heap[b]? = w.heap[b]?) (wo : ∀ b, WrO ρ' H' b → WrO ρ H b ∨ w.heap.size ≤ b)
    (hρ : ∀ id x, ρ id = some x → ρ' id = some x) : Rep w' (Wr U ρ' H') ρ' x v :=
  h.mono (fun b j hb hlt => cell_of_heap (hfr b hlt fun h => hb (.inr h)) j) (fun b hlt hb hb' => hb'.elim (fun h => hb (.inl h)) fun hb' => (wo b hb').elim (fun h => hb (.inr h)) (fun h => by omega)) hρ

theorem Sim.heapEq (h : Sim U G w0 W0 ρ s a w) {w' : World} (e : w'.heap = w.heap) (hsm : WSame w w') : Sim U G w0 W0 ρ s a w' :=
  h.step (H' := s.heap) (ρ' := ρ) (fun b _ _ => by rw [e]) (fun b hb => .inl hb) (fun _ _ h => h) (by rw [e]; exact Nat.le_refl _) hsm
    (fun id n r b hl => (h.bl id n r b hl).keep (fun b _ _ => by rw [e]) (fun b hb => .inl hb) (fun _ _ h => h) (by rw [e]; exact Nat.le_refl _) (fun L _ _ => by rw [e]))
    h.sep h.dom h.su
theorem Rep.heapEq {H : List (Nat × Blk)} {x : AV} {v : Value} (h : Rep w (Wr U ρ H) ρ x v) {w' : World} (e : w'.heap = w.heap) : Rep w' (Wr U ρ H) ρ x v :=
  h.step (fun b _ _ => by rw [e]) (fun b hb => .inl hb) (fun _ _ h => h)

def Rho.set (ρ : Rho) (id : Nat) (x : Option Loc) : Rho := fun i => if i = id then some x else ρ i
theorem Rho.set_same (ρ : Rho) (id : Nat) (x : Option Loc) : (ρ.set id x) id = some x := by simp [Rho.set]
theorem Rho.set_other (ρ : Rho) {id i : Nat} (x : Option Loc) (h : i ≠ id) : (ρ.set id x) i = ρ i := by simp [Rho.set, h]

theorem Sim.loc_lt (h : Sim U G w0 W0 ρ s a w) {id n : Nat} {r : AV} {b : Bool} {L : Loc} (hl : lkH id s.heap = .cells n r b) (hL : ρ id = some (some L)) : L.b < w.heap.size := by
  rcases (h.bl id n r b hl).lies with ⟨h1, _⟩ | ⟨L', h1, _, _, _, h5⟩
  · rw [h1] at hL; cases hL
  · rw [h1] at hL; cases hL; exact h5

theorem Sim.newBlock (h : Sim U G w0 W0 ρ s a w) {id n : Nat} {r : AV} {c : Array Value} {t : TypeId} {fr : Nat × Nat} {w' : World}
    (hid : hasKey id s.heap = false) (hsm : WSame w w') (hw' : w'.heap = w.heap.push (.cells c t fr)) (hr : r.wf) (hs : r.size = n) (hn : n ≤ c.size)
    (hc : ∀ j, j < n → Rep w (Wr U ρ s.heap) ρ (r.cell j) (c.getD j Go.undef)) (hfz : ∀ j, j < c.size → ¬ (fr.1 ≤ j ∧ j < fr.2)) (hle : fr.1 ≤ fr.2) :
    Sim U G w0 W0 (ρ.set id (some ⟨w.heap.size, 0, n, c.size⟩)) (s.setH id (.cells n r true)) a w' ∧
    (∀ b, b < w.heap.size → w'.heap[b]? = w.heap[b]?) ∧
    (∀ x v, Rep w (Wr U ρ s.heap) ρ x v → Rep w' (Wr U (ρ.set id (some ⟨w.heap.size, 0, n, c.size⟩)) (s.setH id (.cells n r true)).heap) (ρ.set id (some ⟨w.heap.size, 0, n, c.size⟩)) x v) := by
  have hne : ρ id = none := by
    cases hh : ρ id with
    | none => rfl
    | some x => have := h.dom id (by rw [hh]; simp); rw [hid] at this; cases this
  have hold : ∀ b, b < w.heap.size → w'.heap[b]? = w.heap[b]? := fun b hb => by
    rw [hw', Array.getElem?_push, if_neg (by omega)]
  have hnew : w'.heap[w.heap.size]? = some (.cells c t fr) := by rw [hw', Array.getElem?_push, if_pos rfl]
  have hρ : ∀ i x, ρ i = some x → (ρ.set id (some ⟨w.heap.size, 0, n, c.size⟩)) i = some x := fun i x hx => by
    rw [Rho.set_other]; exact hx
    rintro rfl; rw [hne] at hx; cases hx
  have wo : ∀ b, WrO (ρ.set id (some ⟨w.heap.size, 0, n, c.size⟩)) ((id, .cells n r true) :: s.heap) b → WrO ρ s.heap b ∨ w.heap.size ≤ b := by
    rintro b ⟨i, n', r', L, h1, h2, h3⟩
    rw [lkH_put] at h1
    by_cases hi : i = id
    · subst hi; rw [Rho.set_same] at h2; cases h2; right; rw [← h3]; exact Nat.le_refl _
    · rw [if_neg hi] at h1; rw [Rho.set_other _ _ hi] at h2; exact .inl ⟨i, n', r', L, h1, h2, h3⟩
  have hsz : w.heap.size ≤ w'.heap.size := by rw [hw']; simp
  refine ⟨?_, hold, fun x v hx => hx.step (fun b hb _ => hold b hb) wo hρ⟩
  refine h.step (fun b hb _ => hold b hb) wo hρ hsz hsm ?_ ?_ ?_ ?_
  · intro i n' r' b hl
    rw [lkH_put] at hl
    by_cases hi : i = id
    · subst hi
      rw [if_pos rfl] at hl; cases hl
      have hM := wf_isM hr
      refine ⟨fun _ => hr, hs, .inr ⟨_, Rho.set_same _ _ _, rfl, fun j hj => ⟨c.getD j Go.undef, ?_, (hc j hj).step (fun b hb _ => hold b hb) wo hρ⟩, fun _ _ => ⟨c, t, fr, hnew, ⟨rfl, hle⟩, by simp; omega, fun j hj => ?_⟩, by rw [hw']; simp⟩, fun _ _ _ _ e => absurd e (isM_no hM)⟩
      · unfold World.cell?; simp only [hnew, Nat.zero_add]
        have : j < c.size := by omega
        simp [Array.getD_eq_getD_getElem?, Array.getElem?_eq_getElem this]
      · unfold World.frozen?; simp only [hnew]
        have := hfz j hj
        simp only [Bool.and_eq_false_iff, decide_eq_false_iff_not]
        omega
    · rw [if_neg hi] at hl
      exact (h.bl i n' r' b hl).keep (fun b hb _ => hold b hb) wo hρ hsz (fun L _ hlt => hold _ hlt)
  · intro i i' n1 r1 n2 r2 b2 L L' h1 h2 h3 h4 h5
    rw [lkH_put] at h1 h2
    by_cases hi : i = id <;> by_cases hi' : i' = id
    · rw [hi, hi']
    · subst hi
      rw [if_neg hi'] at h2; rw [Rho.set_same] at h3; rw [Rho.set_other _ _ hi'] at h4
      cases h3
      have := h.loc_lt h2 h4
      simp only at h5; omega
    · subst hi'
      rw [if_neg hi] at h1; rw [Rho.set_same] at h4; rw [Rho.set_other _ _ hi] at h3
      cases h4
      have := h.loc_lt h1 h3
      simp only at h5; omega
    · rw [if_neg hi] at h1; rw [if_neg hi'] at h2; rw [Rho.set_other _ _ hi] at h3; rw [Rho.set_other _ _ hi'] at h4
      exact h.sep i i' n1 r1 n2 r2 b2 L L' h1 h2 h3 h4 h5
  · intro i hi
    rw [hasKey_put]
    by_cases he : i = id
    · simp [he]
    · rw [Rho.set_other _ _ he] at hi; simp [h.dom i hi]
  · intro i n1 r1 b1 L1 h1 h2 hU
    rw [lkH_put] at h1
    by_cases hi : i = id
    · subst hi
      rw [Rho.set_same] at h2; cases h2
      have := (h.uo _ hU).1
      have := h.sz
      simp only at *
      omega
    · rw [if_neg hi] at h1; rw [Rho.set_other _ _ hi] at h2
      exact h.su i n1 r1 b1 L1 h1 h2 hU

theorem Sim.rewrite (h : Sim U G w0 W0 ρ s a w) {id n : Nat} {r r' : AV} {L : Loc} {w' : World} (hl : lkH id s.heap = .cells n r true) (hL : ρ id = some (some L)) (hsm : WSame w w')
    (hw' : r'.wf) (hs : r'.size = n) (hsz : w'.heap.size = w.heap.size) (hother : ∀ b, b ≠ L.b → w'.heap[b]? = w.heap[b]?) (hm : Mine w' L)
    (hc : ∀ j, j < n → ∃ v, w'.cell? ⟨L.b, L.base + j, none⟩ = some v ∧ Rep w (Wr U ρ s.heap) ρ (r'.cell j) v) :
    Sim U G w0 W0 ρ (s.setH id (.cells n r' true)) a w' ∧ (∀ x v, Rep w (Wr U ρ s.heap) ρ x v → Rep w' (Wr U ρ (s.setH id (.cells n r' true)).heap) ρ x v) := by
  have hWL : WrO ρ s.heap L.b := ⟨id, n, r, L, hl, hL, rfl⟩
  have hn : L.n = n := by
    rcases (h.bl id n r true hl).lies with ⟨h1, _⟩ | ⟨L', h1, h2, _⟩
    · rw [h1] at hL; cases hL
    · rw [h1] at hL; cases hL; exact h2
  have hfr : ∀ b, b < w.heap.size → ¬ WrO ρ s.heap b → w'.heap[b]? = w.heap[b]? := fun b _ hb => hother b fun e => hb (e ▸ hWL)
  have wo : ∀ b, WrO ρ ((id, .cells n r' true) :: s.heap) b → WrO ρ s.heap b ∨ w.heap.size ≤ b := by
    rintro b ⟨i, n', r1, L', h1, h2, h3⟩
    rw [lkH_put] at h1
    by_cases hi : i = id
    · subst hi; exact .inl ⟨i, n, r, L', hl, h2, h3⟩
    · rw [if_neg hi] at h1; exact .inl ⟨i, n', r1, L', h1, h2, h3⟩
  refine ⟨?_, fun x v hx => hx.step hfr wo (fun _ _ h => h)⟩
  refine h.step hfr wo (fun _ _ h => h) (by omega) hsm ?_ ?_ ?_ ?_
  · intro i n' r1 b hl1
    rw [lkH_put] at hl1
    by_cases hi : i = id
    · subst hi
      rw [if_pos rfl] at hl1; cases hl1
      have hM := wf_isM hw'
      refine ⟨fun _ => hw', hs, .inr ⟨L, hL, hn, fun j hj => ?_, fun _ _ => hm, by have := h.loc_lt hl hL; omega⟩, fun _ _ _ _ e => absurd e (isM_no hM)⟩
      obtain ⟨v, h1, h2⟩ := hc j hj
      exact ⟨v, h1, h2.step hfr wo (fun _ _ h => h)⟩
    · rw [if_neg hi] at hl1
      refine (h.bl i n' r1 b hl1).keep hfr wo (fun _ _ h => h) (by omega) fun L' hL' _ => hother _ fun e => hi ?_
      exact (h.sep id i n r n' r1 b L L' hl hl1 hL hL' e.symm).symm
  · intro i i' n1 r1 n2 r2 b2 L1 L2 h1 h2 h3 h4 h5
    rw [lkH_put] at h1 h2
    have g1 : ∃ n1 r1, lkH i s.heap = .cells n1 r1 true := by
      by_cases hi : i = id
      · exact ⟨n, r, hi ▸ hl⟩
      · rw [if_neg hi] at h1; exact ⟨_, _, h1⟩
    have g2 : ∃ n1 r1 b1, lkH i' s.heap = .cells n1 r1 b1 := by
      by_cases hi : i' = id
      · exact ⟨n, r, true, hi ▸ hl⟩
      · rw [if_neg hi] at h2; exact ⟨_, _, _, h2⟩
    obtain ⟨_, _, g1⟩ := g1
    obtain ⟨_, _, _, g2⟩ := g2
    exact h.sep i i' _ _ _ _ _ L1 L2 g1 g2 h3 h4 h5
  · intro i hi
    rw [hasKey_put]; simp [h.dom i hi]
  · intro i n1 r1 b1 L1 h1 h2
    rw [lkH_put] at h1
    by_cases hi : i = id
    · exact h.su i n r true L1 (hi ▸ hl) h2
    · rw [if_neg hi] at h1; exact h.su i n1 r1 b1 L1 h1 h2

theorem Sim.weaken (h : Sim U G w0 W0 ρ s a w) {id : Nat} {b' : Blk} (hb' : b' = .gone ∨ ∃ n r b, lkH id s.heap = .cells n r b ∧ b' = .cells n r false) :
    Sim U G w0 W0 ρ (s.setH id b') a w ∧ (∀ x v, Rep w (Wr U ρ s.heap) ρ x v → Rep w (Wr U ρ (s.setH id b').heap) ρ x v) := by
  have hnt : ∀ n r, b' ≠ .cells n r true := by
    intro n r e
    rcases hb' with h1 | ⟨_, _, _, _, h1⟩ <;> rw [h1] at e <;> cases e
  have wo : ∀ b, WrO ρ ((id, b') :: s.heap) b → WrO ρ s.heap b ∨ w.heap.size ≤ b := by
    rintro b ⟨i, n', r1, L', h1, h2, h3⟩
    rw [lkH_put] at h1
    by_cases hi : i = id
    · rw [if_pos hi] at h1; exact absurd h1 (hnt _ _)
    · rw [if_neg hi] at h1; exact .inl ⟨i, n', r1, L', h1, h2, h3⟩
  refine ⟨?_, fun x v hx => hx.step (fun _ _ _ => rfl) wo (fun _ _ h => h)⟩
  refine h.step (fun _ _ _ => rfl) wo (fun _ _ h => h) (Nat.le_refl _) (WSame.refl _) ?_ ?_ ?_ ?_
  · intro i n' r1 b hl1
    rw [lkH_put] at hl1
    by_cases hi : i = id
    · subst hi
      rw [if_pos rfl] at hl1
      rcases hb' with h1 | ⟨n, r, b1, hl, h1⟩
      · rw [h1] at hl1; cases hl1
      · rw [h1] at hl1; cases hl1
        have := (h.bl i n' r1 b1 hl).keep (H' := (i, b') :: s.heap) (fun _ _ _ => rfl) wo (fun _ _ h => h) (Nat.le_refl _) (fun _ _ _ => rfl)
        refine ⟨this.wf, this.size, ?_, this.map⟩
        rcases this.lies with g | ⟨L, g1, g2, g3, _, g5⟩
        · exact .inl g
        · exact .inr ⟨L, g1, g2, g3, (fun e => by cases e), g5⟩
    · rw [if_neg hi] at hl1
      exact (h.bl i n' r1 b hl1).keep (fun _ _ _ => rfl) wo (fun _ _ h => h) (Nat.le_refl _) (fun _ _ _ => rfl)
  · intro i i' n1 r1 n2 r2 b2 L1 L2 h1 h2 h3 h4 h5
    rw [lkH_put] at h1 h2
    by_cases hi : i = id
    · rw [if_pos hi] at h1; exact absurd h1 (hnt _ _)
    · rw [if_neg hi] at h1
      by_cases hi' : i' = id
      · rw [if_pos hi'] at h2
        rcases hb' with e | ⟨n, r, b1, hl, e⟩
        · rw [e] at h2; cases h2
        · exact h.sep i i' _ _ _ _ _ L1 L2 h1 (hi' ▸ hl) h3 h4 h5
      · rw [if_neg hi'] at h2
        exact h.sep i i' _ _ _ _ _ L1 L2 h1 h2 h3 h4 h5
  · intro i hi
    rw [hasKey_put]; simp [h.dom i hi]
  · intro i n1 r1 b1 L1 h1 h2
    rw [lkH_put] at h1
    by_cases hi : i = id
    · rw [if_pos hi] at h1
      rcases hb' with e | ⟨n, r, b2, hl, e⟩
      · rw [e] at h1; cases h1
      · exact h.su i n r b2 L1 (hi ▸ hl) h2
    · rw [if_neg hi] at h1; exact h.su i n1 r1 b1 L1 h1 h2
end Go.Am
