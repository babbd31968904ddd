/- Part of a proof about the functions of the given program. -/
import Derived.Test.YtcafjaenmbhlnaaAmIsl2
import Derived.Test.YtcafjaenmbhlnaaAm22C
set_option linter.unusedSimpArgs false
set_option linter.unusedVariables false
section
/- Package island: the map of parents. -/
namespace Go.Am.Isl
open Go Go.Am
def tab (s : List Int) (p : Int → Int) : Ents := s.map fun x => ([x], [p x])
def upd (p : Int → Int) (x v : Int) : Int → Int := fun y => if y = x then v else p y
theorem one_beq (x y : Int) : (([x] : List Int) == [y]) = decide (x = y) := by rw [Bool.eq_iff_iff]; simp
theorem mget_tab (z : List Int) (p : Int → Int) {x : Int} : ∀ {s : List Int}, x ∈ s → mget z (tab s p) [x] = [p x]
  | y :: s, h => by
    show cond ([y] == [x]) [p y] (mget z (tab s p) [x]) = _
    rw [one_beq]
    by_cases e : y = x
    · subst e; simp
    · rw [decide_eq_false e, cond_false]
      exact mget_tab z p ((List.mem_cons.1 h).resolve_left fun h => e h.symm)
theorem par_tab {s : List Int} (p : Int → Int) {x : Int} (h : x ∈ s) : par (tab s p) x = p x := by
  unfold par; rw [mget_tab _ p h]; rfl
theorem tab_congr {p q : Int → Int} : ∀ {s : List Int}, (∀ y ∈ s, p y = q y) → tab s p = tab s q
  | [], _ => rfl
  | y :: s, h => by
    show ([y], [p y]) :: tab s p = ([y], [q y]) :: tab s q
    rw [h y (List.mem_cons_self ..), tab_congr fun z hz => h z (List.mem_cons_of_mem _ hz)]
theorem mput_tab (p : Int → Int) (v : Int) {x : Int} : ∀ {s : List Int}, s.Nodup → x ∈ s → mput (tab s p) [x] [v] = tab s (upd p x v)
  | y :: s, hn, h => by
    rw [List.nodup_cons] at hn
    show cond ([y] == [x]) (([x], [v]) :: tab s p) (([y], [p y]) :: mput (tab s p) [x] [v]) = ([y], [upd p x v y]) :: tab s (upd p x v)
    rw [one_beq]
    by_cases e : y = x
    · subst e
      rw [decide_eq_true rfl, cond_true]
      have : tab s p = tab s (upd p y v) := tab_congr fun z hz => by
        unfold upd; rw [if_neg fun (e : z = y) => hn.1 (e ▸ hz)]
      rw [this]; simp [upd]
    · rw [decide_eq_false e, cond_false, mput_tab p v hn.2 ((List.mem_cons.1 h).resolve_left fun h => e h.symm)]
      simp [upd, e]
theorem mput_new (k v : List Int) : ∀ {es : Ents}, (∀ e ∈ es, e.1 ≠ k) → mput es k v = es ++ [(k, v)]
  | [], _ => rfl
  | e :: es, h => by
    show cond (e.1 == k) ((k, v) :: es) (e :: mput es k v) = _
    have : (e.1 == k) = false := by simpa using h e (List.mem_cons_self ..)
    rw [this, cond_false, mput_new k v fun e' he => h e' (List.mem_cons_of_mem _ he)]; rfl
theorem tab_snoc {s : List Int} (p : Int → Int) {x : Int} (h : x ∉ s) : mput (tab s p) [x] [p x] = tab (s ++ [x]) p := by
  rw [mput_new]
  · simp [tab]
  · intro e he
    simp only [tab, List.mem_map] at he
    obtain ⟨y, hy, rfl⟩ := he
    intro e; injection e with e _; exact h (e ▸ hy)
theorem mhas_tab (p : Int → Int) (x : Int) : ∀ s : List Int, mhas (tab s p) [x] = s.any fun y => y == x
  | [] => rfl
  | y :: s => by
    show (([y] == [x]) || mhas (tab s p) [x]) = ((y == x) || s.any fun y => y == x)
    rw [mhas_tab p x s, one_beq, int_beq]
theorem tab_len (s : List Int) (p : Int → Int) : (tab s p).length = s.length := by simp [tab]
theorem mget_mput (z k v q : List Int) : ∀ es : Ents, mget z (mput es k v) q = if q = k then v else mget z es q
  | [] => by
    show cond (k == q) v z = _
    by_cases h : q = k
    · subst h; simp [mget]
    · have : (k == q) = false := by simpa using Ne.symm h
      rw [if_neg h, this]; rfl
  | e :: es => by
    have ih := mget_mput z k v q es
    show mget z (cond (e.1 == k) ((k, v) :: es) (e :: mput es k v)) q = if q = k then v else cond (e.1 == q) e.2 (mget z es q)
    by_cases h : e.1 = k
    · rw [beq_iff_eq.2 h, cond_true]
      show cond (k == q) v (mget z es q) = _
      by_cases hq : q = k
      · subst hq; simp
      · have : (k == q) = false := by simpa using Ne.symm hq
        rw [if_neg hq, h, this]; rfl
    · have : (e.1 == k) = false := by simpa using h
      rw [this, cond_false]
      show cond (e.1 == q) e.2 (mget z (mput es k v) q) = _
      rw [ih]
      by_cases hq : q = k
      · subst hq; simp [this]
      · rw [if_neg hq, if_neg hq]
def Fr (s : List Int) (p : Int → Int) (rk : Int → Nat) : Prop := ∀ x ∈ s, p x ∈ s ∧ (p x ≠ x → rk (p x) < rk x)
inductive RootOf (p : Int → Int) : Int → Int → Prop
  | base (x : Int) (h : p x = x) : RootOf p x x
  | step (x r : Int) (h : p x ≠ x) (ht : RootOf p (p x) r) : RootOf p x r
variable {s : List Int} {links : List (List Int)} {p : Int → Int} {rk : Int → Nat} {x y r q : Int}
theorem RootOf.det (h : RootOf p x r) (h' : RootOf p x q) : r = q := by
  induction h with
  | base x h => cases h' with
    | base => rfl
    | step _ _ h' => exact absurd h h'
  | step x r h ht ih => cases h' with
    | base _ h' => exact absurd h' h
    | step _ _ _ ht' => exact ih ht'
theorem RootOf.fix (h : RootOf p x r) : p r = r := by
  induction h with
  | base x h => exact h
  | step x r h ht ih => exact ih
theorem root_ex (h : Fr s p rk) : ∀ (n : Nat) (x : Int), rk x < n → x ∈ s → ∃ r ∈ s, RootOf p x r
  | 0, x, hn, _ => by omega
  | n + 1, x, hn, hx => by
    obtain ⟨h1, h2⟩ := h x hx
    by_cases e : p x = x
    · exact ⟨x, hx, .base x e⟩
    · obtain ⟨r, hr, ht⟩ := root_ex h n (p x) (by have := h2 e; omega) h1
      exact ⟨r, hr, .step x r e ht⟩
open Classical in
noncomputable def rt (p : Int → Int) (x : Int) : Int := if h : ∃ r, RootOf p x r then h.choose else x
theorem rt_eq (h : RootOf p x r) : rt p x = r := by
  have he : ∃ r, RootOf p x r := ⟨r, h⟩
  unfold rt; rw [dif_pos he]; exact he.choose_spec.det h
theorem rt_ok (h : Fr s p rk) (hx : x ∈ s) : RootOf p x (rt p x) ∧ rt p x ∈ s := by
  obtain ⟨r, hr, ht⟩ := root_ex h (rk x + 1) x (by omega) hx
  rw [rt_eq ht]; exact ⟨ht, hr⟩
theorem halve_ok (h : Fr s p rk) (hx : x ∈ s) (hne : p x ≠ x) : Fr s (upd p x (p (p x))) rk ∧ (p (p x) ∈ s ∧ rk (p (p x)) < rk x) ∧ ∀ y q, RootOf p y q → RootOf (upd p x (p (p x))) y q := by
  obtain ⟨h1, h2⟩ := h x hx
  obtain ⟨g1, g2⟩ := h (p x) h1
  have hlt : rk (p (p x)) < rk x := by
    have := h2 hne
    by_cases e : p (p x) = p x
    · rw [e]; exact this
    · have := g2 e; omega
  have hux : upd p x (p (p x)) x = p (p x) := by simp [upd]
  have huy : ∀ y, y ≠ x → upd p x (p (p x)) y = p y := fun y hy => by simp [upd, hy]
  refine ⟨fun y hy => ?_, ⟨g1, hlt⟩, fun y q hr => ?_⟩
  · by_cases e : y = x
    · subst e; rw [hux]; exact ⟨g1, fun _ => hlt⟩
    · rw [huy y e]; exact h y hy
  · have hnx : p (p x) ≠ x := fun e => by rw [e] at hlt; omega
    induction hr with
    | base y hy => exact .base y (by rw [huy y (fun e => hne (e ▸ hy))]; exact hy)
    | step y q hy ht ih =>
      by_cases e : y = x
      · subst e
        refine .step y q (by rw [hux]; exact hnx) ?_
        rw [hux]
        by_cases e2 : p (p y) = p y
        · rw [e2] at ih ⊢; exact ih
        · cases ih with
          | base _ hb => rw [huy _ hne] at hb; exact absurd hb e2
          | step _ _ hb hb2 => rw [huy _ hne] at hb2; exact hb2
      · exact .step y q (by rw [huy y e]; exact hy) (by rw [huy y e]; exact ih)
theorem steps_ok (hs : s.Nodup) : ∀ (n : Nat) (p : Int → Int) (x : Int), rk x < n → Fr s p rk → x ∈ s →
    ∃ p' r, Steps (tab s p) x (tab s p') r ∧ Fr s p' rk ∧ RootOf p x r ∧ ∀ y q, RootOf p y q → RootOf p' y q
  | 0, p, x, hn, _, _ => by omega
  | n + 1, p, x, hn, h, hx => by
    by_cases e : p x = x
    · exact ⟨p, x, .base _ _ (by rw [par_tab p hx]; exact e), h, .base x e, fun _ _ h => h⟩
    · obtain ⟨h1, ⟨h2, h3⟩, h4⟩ := halve_ok h hx e
      have hpx := (h x hx).1
      obtain ⟨p', r, g1, g2, g3, g4⟩ := steps_ok hs n (upd p x (p (p x))) (p (p x)) (by omega) h1 h2
      have hux : upd p x (p (p x)) x = p (p x) := by simp [upd]
      have hnx : p (p x) ≠ x := fun e => by rw [e] at h3; omega
      refine ⟨p', r, ?_, g2, ?_, fun y q hr => g4 y q (h4 y q hr)⟩
      · refine .step _ _ _ _ (by rw [par_tab p hx]; exact e) ?_
        rw [par_tab p hx, par_tab p hpx, mput_tab p _ hs hx, par_tab _ hx, hux]
        exact g1
      · obtain ⟨r', hr', ht⟩ := root_ex h (rk x + 1) x (by omega) hx
        have := h4 x r' ht
        have h5 : RootOf (upd p x (p (p x))) x r := .step x r (by rw [hux]; exact hnx) (by rw [hux]; exact g3)
        rw [h5.det this]; exact ht
theorem find_ok (hs : s.Nodup) (h : ∃ rk, Fr s p rk) (hx : x ∈ s) : ∃ p', fe (tab s p) x = tab s p' ∧ fv (tab s p) x = rt p x ∧ fok (tab s p) x = true ∧ (∃ rk, Fr s p' rk) ∧ (∀ y ∈ s, rt p' y = rt p y) ∧ rt p x ∈ s ∧ p' (rt p x) = rt p x := by
  obtain ⟨rk, h⟩ := h
  obtain ⟨p', r, g1, g2, g3, g4⟩ := steps_ok hs (rk x + 1) p x (by omega) h hx
  obtain ⟨e1, e2, e3⟩ := g1.eqs
  have hr := rt_ok h hx
  refine ⟨p', e1, by rw [e2, rt_eq g3], e3, ⟨rk, g2⟩, fun y hy => rt_eq (g4 y _ (rt_ok h hy).1), hr.2, (g4 x _ hr.1).fix⟩
theorem union_ok (h : ∃ rk, Fr s p rk) {a b : Int} (ha : a ∈ s) (hb : b ∈ s) (ra : p a = a) (rb : p b = b) :
    (∃ rk, Fr s (upd p a b) rk) ∧ ∀ y ∈ s, rt (upd p a b) y = if rt p y = a then b else rt p y := by
  obtain ⟨rk, h⟩ := h
  by_cases e : a = b
  · subst e
    have : upd p a a = p := by
      funext y; unfold upd; split
      · rename_i h; rw [h]; exact ra.symm
      · rfl
    rw [this]
    refine ⟨⟨rk, h⟩, fun y _ => ?_⟩
    split
    · assumption
    · rfl
  have hua : upd p a b a = b := by simp [upd]
  have huy : ∀ y, y ≠ a → upd p a b y = p y := fun y hy => by simp [upd, hy]
  have key : ∀ y q, RootOf p y q → RootOf (upd p a b) y (if q = a then b else q) := fun y q hr => by
    have hbb : RootOf (upd p a b) b b := .base b (by rw [huy b (Ne.symm e)]; exact rb)
    induction hr with
    | base y hy =>
      by_cases hya : y = a
      · subst hya
        rw [if_pos rfl]
        exact .step _ _ (by rw [hua]; exact Ne.symm e) (by rw [hua]; exact hbb)
      · rw [if_neg hya]
        exact .base y (by rw [huy y hya]; exact hy)
    | step y q hy ht ih =>
      have hya : y ≠ a := fun h => hy (h ▸ ra)
      exact .step _ _ (by rw [huy y hya]; exact hy) (by rw [huy y hya]; exact ih)
  refine ⟨⟨fun y => if rt p y = a then rk y + rk b + 1 else rk y, fun y hy => ?_⟩, fun y hy => rt_eq (key y _ (rt_ok h hy).1)⟩
  by_cases hya : y = a
  · subst hya
    rw [hua]
    refine ⟨hb, fun _ => ?_⟩
    have e1 : rt p y = y := rt_eq (.base y ra)
    have e2 : rt p b = b := rt_eq (.base b rb)
    simp only [e1, e2, if_neg (Ne.symm e), if_true]; omega
  · rw [huy y hya]
    obtain ⟨h1, h2⟩ := h y hy
    refine ⟨h1, fun hne => ?_⟩
    have e1 : rt p (p y) = rt p y := by
      have := (rt_ok h h1).1
      exact (rt_eq (.step y _ hne this)).symm
    have := h2 hne
    simp only [e1]
    split <;> omega
structure UF (s : List Int) (links done : List (List Int)) (p : Int → Int) : Prop where
  fr : ∃ rk, Fr s p rk
  snd : ∀ x ∈ s, ∀ y ∈ s, rt p x = rt p y → Conn s links x y
  cpl : ∀ l ∈ done, ∀ y ∈ l, ∀ z ∈ l, y ∈ s → z ∈ s → rt p y = rt p z
theorem UF.start : UF s links [] (fun x => x) where
  fr := ⟨fun _ => 0, fun x hx => ⟨hx, fun h => absurd rfl h⟩⟩
  snd := fun x _ y _ h => by
    rw [rt_eq (.base x rfl), rt_eq (.base y rfl)] at h; rw [h]; exact .refl
  cpl := fun l h => by simp at h
structure InL (s : List Int) (links done : List (List Int)) (l pre : List Int) (p : Int → Int) (first : Int) (has : Bool) : Prop where
  uf : UF s links done p
  none : has = false → ∀ y ∈ pre, y ∉ s
  some : has = true → first ∈ s ∧ first ∈ l ∧ ∀ y ∈ pre, y ∈ s → rt p y = rt p first
theorem InL.skip {done : List (List Int)} {l pre : List Int} {f : Int} {b : Bool} (h : InL s links done l pre p f b) (hy : y ∉ s) : InL s links done l (pre ++ [y]) p f b where
  uf := h.uf
  none := fun hb z hz => by
    rcases List.mem_append.1 hz with hz | hz
    · exact h.none hb z hz
    · rw [List.mem_singleton.1 hz]; exact hy
  some := fun hb => by
    obtain ⟨h1, h2, h3⟩ := h.some hb
    refine ⟨h1, h2, fun z hz hs => ?_⟩
    rcases List.mem_append.1 hz with hz | hz
    · exact h3 z hz hs
    · rw [List.mem_singleton.1 hz] at hs; exact absurd hs hy
theorem InL.first {done : List (List Int)} {l pre : List Int} {f : Int} (h : InL s links done l pre p f false) (hy : y ∈ s) (hl : y ∈ l) : InL s links done l (pre ++ [y]) p y true where
  uf := h.uf
  none := fun hb => by cases hb
  some := fun _ => ⟨hy, hl, fun z hz hs => by
    rcases List.mem_append.1 hz with hz | hz
    · exact absurd hs (h.none rfl z hz)
    · rw [List.mem_singleton.1 hz]⟩
theorem InL.join (hs : s.Nodup) {done : List (List Int)} {l pre : List Int} {f : Int} (h : InL s links done l pre p f true) (hll : l ∈ links) (hy : y ∈ s) (hl : y ∈ l) :
    ∃ p', fok (tab s p) y = true ∧ fok (fe (tab s p) y) f = true ∧ mput (fe (fe (tab s p) y) f) [fv (tab s p) y] [fv (fe (tab s p) y) f] = tab s p' ∧ InL s links done l (pre ++ [y]) p' f true := by
  obtain ⟨f1, f2, f3⟩ := h.some rfl
  obtain ⟨p1, a1, a2, a3, a4, a5, a6, a7⟩ := find_ok hs h.uf.fr hy
  obtain ⟨p2, b1, b2, b3, b4, b5, b6, b7⟩ := find_ok hs a4 f1
  rw [a1, a2, b1, b2, mput_tab p2 _ hs a6]
  have e5 : ∀ z ∈ s, rt p2 z = rt p z := fun z hz => (b5 z hz).trans (a5 z hz)
  have ra : p2 (rt p y) = rt p y := by
    obtain ⟨rk, hr⟩ := b4
    have h1 := (rt_ok hr a6).1
    have h2 : rt p2 (rt p y) = rt p y := by
      rw [e5 _ a6]
      obtain ⟨rk0, hr0⟩ := h.uf.fr
      exact rt_eq (.base _ (rt_ok hr0 hy).1.fix)
    have := h1.fix
    rwa [h2] at this
  rw [a5 f f1]
  rw [a5 f f1] at b6 b7
  obtain ⟨c1, c2⟩ := union_ok b4 a6 b6 ra b7
  refine ⟨_, a3, b3, rfl, ⟨c1, fun u hu v hv huv => ?_, fun l' hl' u hu v hv us vs => ?_⟩, (fun hb => by cases hb), fun _ => ⟨f1, f2, fun z hz hzs => ?_⟩⟩
  · rw [c2 u hu, c2 v hv, e5 u hu, e5 v hv] at huv
    have hyf : Conn s links y f := .step y f l .refl hll hl f2 f1
    by_cases h1 : rt p u = rt p y <;> by_cases h2 : rt p v = rt p y
    · exact h.uf.snd u hu v hv (h1.trans h2.symm)
    · rw [if_pos h1, if_neg h2] at huv
      exact ((h.uf.snd u hu y hy h1).trans hyf).trans (h.uf.snd f f1 v hv huv)
    · rw [if_neg h1, if_pos h2] at huv
      exact ((h.uf.snd u hu f f1 huv).trans (hyf.symm hy)).trans (h.uf.snd y hy v hv h2.symm)
    · rw [if_neg h1, if_neg h2] at huv
      exact h.uf.snd u hu v hv huv
  · rw [c2 u us, c2 v vs, e5 u us, e5 v vs, h.uf.cpl l' hl' u hu v hv us vs]
  · rw [c2 z hzs, c2 f f1, e5 z hzs, e5 f f1]
    have hff : (if rt p f = rt p y then rt p f else rt p f) = rt p f := by split <;> rfl
    rw [hff]
    rcases List.mem_append.1 hz with hz | hz
    · rw [f3 z hz hzs, hff]
    · rw [List.mem_singleton.1 hz, if_pos rfl]
theorem InL.done {done : List (List Int)} {l : List Int} {f : Int} {b : Bool} (h : InL s links done l l p f b) : UF s links (done ++ [l]) p where
  fr := h.uf.fr
  snd := h.uf.snd
  cpl := fun l' hl' y hy z hz ys zs => by
    rcases List.mem_append.1 hl' with hl' | hl'
    · exact h.uf.cpl l' hl' y hy z hz ys zs
    · rw [List.mem_singleton.1 hl'] at hy hz
      cases b with
      | false => exact absurd ys (h.none rfl y hy)
      | true =>
        obtain ⟨_, _, h3⟩ := h.some rfl
        rw [h3 y hy ys, h3 z hz zs]
theorem InL.alone {done : List (List Int)} {l pre : List Int} {f : Int} {b : Bool} (h : InL s links done l pre p f b) (h1 : s.length = 1) : UF s links (done ++ [l]) p where
  fr := h.uf.fr
  snd := h.uf.snd
  cpl := fun l' hl' y hy z hz ys zs => by
    match s, h1 with
    | [a], _ => rw [List.mem_singleton.1 ys, List.mem_singleton.1 zs]
theorem UF.conn (h : UF s links links p) (hx : x ∈ s) (hy : y ∈ s) : rt p x = rt p y ↔ Conn s links x y := by
  refine ⟨h.snd x hx y hy, fun hc => ?_⟩
  induction hc with
  | refl => rfl
  | step y z l hc hl hyl hz hs ih => exact (ih (hc.mem hx)).trans (h.cpl l hl y hyl z hz (hc.mem hx) hs)
def gOf (ρ : Int → Int) (pre : List Int) (q : Int) : List Int := pre.filter fun y => decide (ρ y = q)
def oOf (ρ : Int → Int) : List Int → List Int → List Int
  | _, [] => []
  | pre, x :: l => if (gOf ρ pre (ρ x)).length = 0 then ρ x :: oOf ρ (pre ++ [x]) l else oOf ρ (pre ++ [x]) l
theorem oOf_eq (hs : Lt s) {ρ : Int → Int} (hc : ∀ x ∈ s, ∀ y ∈ s, ρ x = ρ y ↔ Conn s links x y) : ∀ (rest pre : List Int), s = pre ++ rest → oOf ρ pre rest = (rest.filter (isRep s links)).map ρ
  | [], _, _ => rfl
  | x :: rest, pre, hp => by
    have hx : x ∈ s := by rw [hp]; simp
    have ih := oOf_eq hs hc rest (pre ++ [x]) (by rw [hp]; simp)
    have hrep : (gOf ρ pre (ρ x)).length = 0 ↔ isRep s links x = true := by
      rw [List.length_eq_zero_iff, gOf, List.filter_eq_nil_iff]
      unfold isRep
      simp only [decide_eq_true_eq]
      constructor
      · intro h y hy hyx hcn
        have : y ∈ pre := by
          rw [hp] at hs hy
          obtain ⟨a1, a2, a3⟩ := List.pairwise_append.1 hs
          rcases List.mem_append.1 hy with hy | hy
          · exact hy
          · rcases List.mem_cons.1 hy with rfl | hy
            · omega
            · have := (List.pairwise_cons.1 a2).1 y hy; omega
        exact h y this ((hc y hy x hx).2 hcn)
      · intro h y hy he
        have hys : y ∈ s := by rw [hp]; exact List.mem_append_left _ hy
        have hlt : y < x := by
          rw [hp] at hs
          exact (List.pairwise_append.1 hs).2.2 y hy x (List.mem_cons_self ..)
        exact h y hys hlt ((hc y hys x hx).1 he)
    rw [oOf, ih, List.filter_cons]
    by_cases h : (gOf ρ pre (ρ x)).length = 0
    · rw [if_pos h, hrep.1 h]; rfl
    · rw [if_neg h]
      have : isRep s links x = false := by
        cases hr : isRep s links x with
        | false => rfl
        | true => exact absurd (hrep.2 hr) h
      rw [this]; rfl
theorem groups_eq (hs : Lt s) {ρ : Int → Int} (hc : ∀ x ∈ s, ∀ y ∈ s, ρ x = ρ y ↔ Conn s links x y) : (oOf ρ [] s).map (gOf ρ s) = clss s links := by
  rw [oOf_eq hs hc s [] rfl, clss_eq hs, List.map_map]
  apply List.map_congr_left
  intro x hx
  have hxs := (List.mem_filter.1 hx).1
  show gOf ρ s (ρ x) = part s links x
  unfold gOf part
  apply List.filter_congr
  intro y hy
  rw [Bool.eq_iff_iff]
  simp only [decide_eq_true_eq]
  exact ⟨fun h => (hc x hxs y hy).1 h.symm, fun h => ((hc x hxs y hy).2 h).symm⟩
theorem gOf_snoc (ρ : Int → Int) (pre : List Int) (x q : Int) : gOf ρ (pre ++ [x]) q = if q = ρ x then gOf ρ pre q ++ [x] else gOf ρ pre q := by
  unfold gOf
  rw [List.filter_append, List.filter_cons]
  by_cases h : q = ρ x
  · rw [if_pos h]; simp [h]
  · rw [if_neg h]; simp [Ne.symm h]
theorem oOf_snoc (ρ : Int → Int) (x : Int) : ∀ (l pre : List Int), oOf ρ pre (l ++ [x]) = oOf ρ pre l ++ (if (gOf ρ (pre ++ l) (ρ x)).length = 0 then [ρ x] else [])
  | [], pre => by
    rw [List.nil_append, List.append_nil]
    simp only [oOf]
    split <;> rfl
  | y :: l, pre => by
    rw [List.cons_append, oOf, oOf, oOf_snoc ρ x l (pre ++ [y])]
    have : pre ++ [y] ++ l = pre ++ y :: l := by simp
    rw [this]
    split <;> simp
theorem oOf_len (ρ : Int → Int) : ∀ (l pre : List Int), (oOf ρ pre l).length ≤ l.length
  | [], _ => Nat.le_refl _
  | x :: l, pre => by
    have := oOf_len ρ l (pre ++ [x])
    rw [oOf]; split
    · simp; exact this
    · simp; omega
end Go.Am.Isl
end
section
namespace Go.Am
open Go Go.Proofs
abbrev sp15 : List (Nat × Md) := [(0,.plain),(1,.plain),(5,.plain),(26,.plain),(27,.plain),(28,.plain)]
abbrev sp16 : List (Nat × Md) := [(0,.plain),(5,.plain),(8,.plain),(37,.plain),(38,.plain),(39,.plain)]
abbrev sp17 : List (Nat × Md) := [(0,.plain),(5,.plain),(8,.plain),(11,.plain),(12,.plain),(37,.plain),(38,.plain),(39,.plain),(43,.plain),(44,.plain),(45,.plain)]
abbrev sp18 : List (Nat × Md) := [(8,.plain),(17,.plain),(18,.own 2),(73,.plain),(74,.plain),(75,.plain)]
abbrev sp19 : List (Nat × Md) := [(17,.plain),(22,.own 22),(100,.plain),(101,.plain),(102,.plain)]
abbrev sp20 : List (Nat × Md) := [(0,.plain),(1,.plain),(5,.plain),(8,.plain)]
abbrev sp21 : List (Nat × Md) := [(0,.plain),(5,.plain),(8,.plain),(37,.plain),(38,.plain),(39,.plain),(40,.plain)]
abbrev sp22 : List (Nat × Md) := [(0,.plain),(5,.plain),(8,.plain),(10,.plain),(37,.plain),(38,.plain),(39,.plain)]
abbrev sp23 : List (Nat × Md) := [(0,.plain),(5,.plain),(8,.plain),(10,.plain),(11,.plain),(12,.plain),(37,.plain),(38,.plain),(39,.plain)]
abbrev sp24 : List (Nat × Md) := [(0,.plain),(8,.plain),(17,.plain)]
abbrev sp25 : List (Nat × Md) := [(0,.plain),(8,.plain),(17,.plain),(18,.plain)]
abbrev sp26 : List (Nat × Md) := [(8,.plain),(17,.plain),(18,.plain),(73,.plain),(74,.plain),(75,.plain)]
abbrev sp27 : List (Nat × Md) := [(17,.plain),(18,.plain),(22,.plain)]
abbrev sp28 : List (Nat × Md) := [(17,.plain),(22,.plain),(100,.plain),(101,.plain),(102,.plain)]
abbrev Ty24 := Int × (List (List Int × List Int))
abbrev Ty25 := (List Int) × (List (List Int))
abbrev Ty26 := (List Int) × (List (List Int)) × (List (List Int × List Int))
abbrev Ty27 := (List Int) × (List (List Int)) × (List Int) × Int × Int × (List (List Int × List Int))
abbrev Ty28 := (List Int) × (List (List Int)) × Int × Int × (List (List Int × List Int))
abbrev Ty29 := (List Int) × (List (List Int)) × Int × Int × Bool × (List (List Int × List Int))
abbrev Ty30 := (List Int) × (List Int) × (List (List Int)) × Int × Int × (List (List Int × List Int))
abbrev Ty31 := (List Int) × (List Int) × Int × Bool × (List (List Int)) × Int × Int × (List (List Int × List Int))
abbrev Ty32 := (List Int) × Int × Bool × (List (List Int)) × Int × Int × (List Int) × Int × Int × (List (List Int × List Int))
abbrev Ty33 := (List Int) × (List (List Int × List Int))
abbrev Ty34 := (List Int) × (List (List Int × List Int)) × (List (List Int × List Int))
abbrev Ty35 := (List Int) × Int × Int × (List (List Int × List Int)) × (List (List Int × List Int))
abbrev Ty36 := (List Int) × Int × Int × (List (List Int × List Int)) × (List Int) × (List (List Int × List Int))
abbrev Ty37 := (List (List Int × List Int)) × (List Int)
abbrev Ty38 := Int × Int × (List (List Int × List Int)) × (List Int)
abbrev Ty39 := Int × Int × (List (List Int × List Int)) × (List (List Int)) × (List Int)
noncomputable section
def lVG2257 : List CEnt := []
def VG2257 : Env := mkEnv T22 G22 lVG2257
theorem eVG2257 : EOk Try.prog VG2257 := eok_mk (by exact trivial)
def Af57 (F : Nat) : Cuts := { F := F,at_ := fun n => match n with | 1010 => some [(0,.plain),(1,.plain)] | _ => none,join := fun n => match n with | 1016 => some [(0,.plain),(1,.plain)] | 4003 => some [(0,.plain)] | _ => none }
def ef57_a : Ty24 → St := fun (a0,a1) => { tmps := [(0,(.int .i64 a0)),(1,(.ptr 0 0 1 0 0 0 1))],heap := [(0,(.cells 1 (.one (.mp 1)) true)),(1,(.cells 0 (.rM .i64 0 (.one .i64) a1) true))],next := 2,nt := 20,m := 2 }
def ef57j1 : Ty24 → St := fun (t0,x2) => { tmps := [(0,(.int .i64 t0)),(1,(.ptr 0 0 1 0 0 0 1))],heap := [(0,(.cells 1 (.one (.mp 1)) true)),(1,(.cells 0 (.rM .i64 0 (.one .i64) x2) true))],next := 2,nt := 20,m := 2 }
def ef57l1 : Ty24 → St := fun (t0,x2) => { tmps := [(0,(.int .i64 t0)),(1,(.ptr 0 0 1 0 0 0 1))],heap := [(0,(.cells 1 (.one (.mp 1)) true)),(1,(.cells 0 (.rM .i64 0 (.one .i64) x2) true))],next := 2,nt := 20,m := 2 }
def ef57j2 : Ty24 → St := fun (t0,x2) => { tmps := [(0,(.int .i64 t0))],heap := [(0,(.cells 1 (.one (.mp 1)) true)),(1,(.cells 0 (.rM .i64 0 (.one .i64) x2) true))],next := 2,nt := 20,m := 2 }
def f57_1 (F : Nat) (kf57j1 : Ty24 → Rz) : Ty24 → Rz := fun (a0,a1) => (kf57j1 (a0,a1))
theorem f57_1_eq (F : Nat) (Rf57j1 : St → Rz) : ∀ v,aexec VG2257 (Af57 F) (bp Try.f57 2) (ef57_a v) (kSeq (kc VG2257 Rf57j1 [(0,.plain),(1,.plain)]) (kFin VG2257 none (Try.f57).results.toList)) = f57_1 F (Rf57j1 ∘ ef57j1) v := by
  rintro ⟨a0,a1⟩; kernel_rfl
def f57_2 (F : Nat) (kf57l1 : Ty24 → Rz) (kf57j2 : Ty24 → Rz) : Ty24 → Rz := fun (t0,x2) => (cond (((mget (mzero (.one .i64)) x2 [t0]).getD 0 0) != t0) (kf57l1 (((mget (mzero (.one .i64)) (mput x2 [t0] [((mget (mzero (.one .i64)) x2 [((mget (mzero (.one .i64)) x2 [t0]).getD 0 0)]).getD 0 0)]) [t0]).getD 0 0),(mput x2 [t0] [((mget (mzero (.one .i64)) x2 [((mget (mzero (.one .i64)) x2 [t0]).getD 0 0)]).getD 0 0)]))) (kf57j2 (t0,x2)))
theorem f57_2_eq (F : Nat) (Rf57l1 : St → Rz) (Rf57j2 : St → Rz) : ∀ v,aexec VG2257 (Af57 F) (bp Try.f57 24) (ef57l1 v) (kSeq (kc VG2257 Rf57l1 [(0,.plain),(1,.plain)]) (kBlock 0 (kSeq (kc VG2257 Rf57j2 [(0,.plain)]) (kFin VG2257 none (Try.f57).results.toList)))) = f57_2 F (Rf57l1 ∘ ef57l1) (Rf57j2 ∘ ef57j2) v := by
  rintro ⟨t0,x2⟩; kernel_rfl
def f57_3_i : Ty24 → Int × (List (List Int × List Int)) := fun (t0,x2) => (t0,x2)
def f57_3 (F : Nat) (kf57j2 : Ty24 → Rz) : Ty24 → Rz := fun v => loopN (fun k => f57_2 F k kf57j2) F (f57_3_i v)
theorem f57_3_eq (F : Nat) (Rf57j2 : St → Rz) : ∀ v,aexec VG2257 (Af57 F) (bp Try.f57 12) (ef57j1 v) (kBlock 0 (kSeq (kc VG2257 Rf57j2 [(0,.plain)]) (kFin VG2257 none (Try.f57).results.toList))) = f57_3 F (Rf57j2 ∘ ef57j2) v :=
  loop_cut (by kernel_rfl) (by kernel_rfl) ef57j1 ef57l1 _ f57_3_i (fun k => f57_2 F k (Rf57j2 ∘ ef57j2))
    (by rintro ⟨t0,x2⟩; kernel_rfl) (fun Rf57l1 => f57_2_eq F Rf57l1 Rf57j2)
def f57_4 (F : Nat) (kf57j2 : Ty24 → Rz) : Ty24 → Rz := f57_3 F kf57j2
theorem f57_4_eq (F : Nat) (Rf57j2 : St → Rz) : ∀ v,aexec VG2257 (Af57 F) (bp Try.f57 6) (ef57j1 v) (kSeq (kc VG2257 Rf57j2 [(0,.plain)]) (kFin VG2257 none (Try.f57).results.toList)) = f57_4 F (Rf57j2 ∘ ef57j2) v := fun v =>
  (block_in  (by kernel_rfl) _ _).trans (f57_3_eq F Rf57j2 v)
def f57_5 (F : Nat) : Ty24 → Rz := fun (t0,x2) => (some ((.int .i64 t0),[(.cells 1 (.one (.mp 1)) true),(.cells 0 (.rM .i64 0 (.one .i64) x2) true)]))
theorem f57_5_eq (F : Nat) : ∀ v,aexec VG2257 (Af57 F) (bp Try.f57 7) (ef57j2 v) (kFin VG2257 none (Try.f57).results.toList) = f57_5 F v := by
  rintro ⟨t0,x2⟩; kernel_rfl
def f57_6 (F : Nat) : Ty24 → Rz := fun v => f57_4 F (f57_5 F) v
theorem f57_6_eq (F : Nat) : ∀ v,aexec VG2257 (Af57 F) (bp Try.f57 3) (ef57j1 v) (kFin VG2257 none (Try.f57).results.toList) = f57_6 F v :=
  seq_cut (by kernel_rfl) (by kernel_rfl) ef57j1 ef57j2 _ (fun k => f57_4 F k) (f57_5 F)
    (fun Rf57j2 => f57_4_eq F Rf57j2) (f57_5_eq F)
def f57_7 (F : Nat) : Ty24 → Rz := fun v => f57_1 F (f57_6 F) v
theorem f57_7_eq (F : Nat) : ∀ v,aexec VG2257 (Af57 F) (sub (bodyOf Try.f57) []) (ef57_a v) (kFin VG2257 none (Try.f57).results.toList) = f57_7 F v :=
  seq_cut (by kernel_rfl) (by kernel_rfl) ef57_a ef57j1 _ (fun k => f57_1 F k) (f57_6 F)
    (fun Rf57j1 => f57_1_eq F Rf57j1) (f57_6_eq F)
def f57 (F : Nat) : Ty24 → Rz := f57_7 F
theorem f57_body (F : Nat) (a0 : Int) (a1 : List (List Int × List Int)) : abody VG2257 (Af57 F) Try.f57 [(.int .i64 a0),(.ptr 0 0 1 0 0 0 1)] [(.cells 1 (.one (.mp 1)) true),(.cells 0 (.rM .i64 0 (.one .i64) a1) true)] = f57 F (a0,a1) :=
  (abody_in (c := (sub (bodyOf Try.f57) [])) (by kernel_rfl) (s := ef57_a (a0,a1)) (by kernel_rfl)).trans (f57_7_eq F (a0,a1))
def r57 : CRun := fun X H => match X,H with
  | [(.int .i64 a0),(.ptr 0 0 1 0 0 0 1)],[(.cells 1 (.one (.mp 1)) true),(.cells 0 (.rM .i64 0 (.one .i64) a1) true)] => some ((Isl.fok a1 a0),(.int .i64 (Isl.fv a1 a0)),[(.cells 1 (.one (.mp 1)) true),(.cells 0 (.rM .i64 0 (.one .i64) (Isl.fe a1 a0)) true)])
  | _,_ => none
theorem s57 (a0 : Int) (a1 : List (List Int × List Int)) (hp : ((Isl.fok a1 a0)) = true) (h0 : okV (.int .i64 a0)) (k0 : okB (.cells 1 (.one (.mp 1)) true)) (k1 : okB (.cells 0 (.rM .i64 0 (.one .i64) a1) true)) : ∃ F,f57 F (a0,a1) = some ((.int .i64 (Isl.fv a1 a0)),[(.cells 1 (.one (.mp 1)) true),(.cells 0 (.rM .i64 0 (.one .i64) (Isl.fe a1 a0)) true)]) := by
  have key : ∀ (F : Nat) (es : Isl.Ents) (x : Int) (es' : Isl.Ents) (r : Int),Isl.Steps es x es' r → ∃ N,∀ G,N < G → loopN (fun k => f57_2 F k (f57_5 F)) G (x,es) = some ((.int .i64 r),[(.cells 1 (.one (.mp 1)) true),(.cells 0 (.rM .i64 0 (.one .i64) es') true)]) := by
    intro F es x es' r h
    induction h with
    | base es x h =>
      refine ⟨0,fun G hG => ?_⟩
      obtain ⟨G,rfl⟩ : ∃ n,G = n + 1 := ⟨G - 1,by omega⟩
      simp only [loopN,f57_2,f57_5]
      have h' : (mget (mzero (.one .i64)) es [x]).getD 0 0 = x := h
      have e : ((mget (mzero (.one .i64)) es [x]).getD 0 0 != x) = false := by rw [h']; simp
      rw [e]; rfl
    | step es x es' r h ht ih =>
      obtain ⟨N,hN⟩ := ih
      refine ⟨N + 1,fun G hG => ?_⟩
      obtain ⟨G,rfl⟩ : ∃ n,G = n + 1 := ⟨G - 1,by omega⟩
      have h' : (mget (mzero (.one .i64)) es [x]).getD 0 0 ≠ x := h
      have e : ((mget (mzero (.one .i64)) es [x]).getD 0 0 != x) = true := bne_iff_ne.2 h'
      rw [loopN]
      show f57_2 F (loopN (fun k => f57_2 F k (f57_5 F)) G) (f57_5 F) (x,es) = _
      rw [← hN G (by omega)]
      simp only [f57_2]
      rw [e]; rfl
  have hs : ∃ es' r,Isl.Steps a1 a0 es' r := by
    unfold Isl.fok at hp
    simpa using hp
  obtain ⟨es',r,h⟩ := hs
  obtain ⟨e1,e2,_⟩ := h.eqs
  rw [e1,e2]
  obtain ⟨N,hN⟩ := key 0 a1 a0 es' r h
  refine ⟨N + 1,?_⟩
  simp only [f57_1,f57_3_i,f57_3,f57_4,f57_5,f57_6,f57_7,f57]
  exact hN (N + 1) (by omega)
theorem c57 : CallOk Try.prog G22 57 r57 := callOk_of (V := VG2257) mixed tys eVG2257 (f := 57) (fn := Try.f57) Try.func57 (by kernel_rfl) (c := sub (bodyOf Try.f57) []) (by kernel_rfl) (by
  intro X H r H' h hX hH
  unfold r57 at h; split at h <;> try contradiction
  · simp only [Option.some.injEq,Prod.mk.injEq] at h
    obtain ⟨hp,rfl,rfl⟩ := h
    obtain ⟨F,hF⟩ := s57 _ _ hp (hX _ (.head _)) (hH _ (.head _)) (hH _ (.tail _ (.head _)))
    exact ⟨Af57 F,(f57_body F _ _).trans hF⟩)
def lVG2237 : List CEnt := [(57,[none,none],r57)]
def VG2237 : Env := { mkEnv T22 G22 lVG2237 with mv := fun n => match n with | 72 => 1 | 95 => 1 | _ => 0 }
theorem eVG2237 : EOk Try.prog VG2237 := eok_mk (T := T22) (G := G22) (l := lVG2237) (by exact ⟨c57,trivial⟩)
def Af37 (F : Nat) : Cuts := { F := F,at_ := fun n => match n with | 3012 => some sp15 | 9051 => some sp16 | 13034 => some sp17 | 26020 => some sp18 | 35012 => some sp19 | _ => none,join := fun n => match n with | 1131 => some [(0,.plain),(1,.plain)] | 2128 => some sp2 | 3014 => some sp15 | 7111 => some sp2 | 8107 => some sp20 | 8109 => some sp20 | 9053 => some sp16 | 10045 => some sp16 | 10049 => some sp21 | 11040 => some sp22 | 12038 => some sp23 | 13036 => some sp17 | 22001 => some sp16 | 23051 => some [(0,.plain),(8,.plain)] | 24049 => some sp24 | 25047 => some sp25 | 26022 => some sp26 | 33022 => some [(17,.mfix),(18,.plain)] | 34020 => some sp27 | 35014 => some sp28 | 39003 => some [(22,.plain)] | _ => none,fin := (some [(4,(.own 22))]) }
def ef37_a : Ty25 → St := fun (a0,a1) => { tmps := [(0,(.vs (.rI .i64 a0) 0 1)),(1,(.vs (.rL .i64 a1) 0 1))],heap := [],next := 0,nt := 114,m := 0 }
def ef37j1 : Ty25 → St := fun (t0,t1) => { tmps := [(0,(.vs (.rI .i64 t0) 0 1)),(1,(.vs (.rL .i64 t1) 0 1))],heap := [],next := 0,nt := 114,m := 0 }
def ef37j2 : Ty26 → St := fun (t0,t1,x3) => { tmps := [(0,(.vs (.rI .i64 t0) 0 1)),(1,(.vs (.rL .i64 t1) 0 1)),(5,(.ptr 0 0 1 0 0 0 1))],heap := [(0,(.cells 1 (.one (.mp 1)) true)),(1,(.cells 0 (.rM .i64 0 (.one .i64) x3) true))],next := 2,nt := 114,m := 0 }
def ef37j3 : Ty27 → St := fun (t0,t1,t26,t27,t28,x6) => { tmps := [(0,(.vs (.rI .i64 t0) 0 1)),(1,(.vs (.rL .i64 t1) 0 1)),(5,(.ptr 0 0 1 0 0 0 1)),(26,(.vs (.rI .i64 t26) 0 1)),(27,(.int .i64 t27)),(28,(.int .i64 t28))],heap := [(0,(.cells 1 (.one (.mp 1)) true)),(1,(.cells 0 (.rM .i64 0 (.one .i64) x6) true))],next := 2,nt := 114,m := 0 }
def ef37l1 : Ty27 → St := fun (t0,t1,t26,t27,t28,x6) => { tmps := [(0,(.vs (.rI .i64 t0) 0 1)),(1,(.vs (.rL .i64 t1) 0 1)),(5,(.ptr 0 0 1 0 0 0 1)),(26,(.vs (.rI .i64 t26) 0 1)),(27,(.int .i64 t27)),(28,(.int .i64 t28))],heap := [(0,(.cells 1 (.one (.mp 1)) true)),(1,(.cells 0 (.rM .i64 0 (.one .i64) x6) true))],next := 2,nt := 114,m := 0 }
def ef37j4 : Ty26 → St := fun (t0,t1,x3) => { tmps := [(0,(.vs (.rI .i64 t0) 0 1)),(1,(.vs (.rL .i64 t1) 0 1)),(5,(.ptr 0 0 1 0 0 0 1))],heap := [(0,(.cells 1 (.one (.mp 1)) true)),(1,(.cells 0 (.rM .i64 0 (.one .i64) x3) true))],next := 2,nt := 114,m := 0 }
def ef37j5 : Ty26 → St := fun (t0,t1,x3) => { tmps := [(0,(.vs (.rI .i64 t0) 0 1)),(1,(.vs (.rL .i64 t1) 0 1)),(5,(.ptr 0 0 1 0 0 0 1)),(8,(.fn 57 (.cons 0 (.ptr 0 0 1 0 0 0 1) .nil)))],heap := [(0,(.cells 1 (.one (.mp 1)) true)),(1,(.cells 0 (.rM .i64 0 (.one .i64) x3) true))],next := 2,nt := 114,m := 0 }
def ef37j6 : Ty26 → St := fun (t0,t1,x3) => { tmps := [(0,(.vs (.rI .i64 t0) 0 1)),(1,(.vs (.rL .i64 t1) 0 1)),(5,(.ptr 0 0 1 0 0 0 1)),(8,(.fn 57 (.cons 0 (.ptr 0 0 1 0 0 0 1) .nil)))],heap := [(0,(.cells 1 (.one (.mp 1)) true)),(1,(.cells 0 (.rM .i64 0 (.one .i64) x3) true))],next := 2,nt := 114,m := 0 }
def ef37j7 : Ty28 → St := fun (t0,t37,t38,t39,x5) => { tmps := [(0,(.vs (.rI .i64 t0) 0 1)),(5,(.ptr 0 0 1 0 0 0 1)),(8,(.fn 57 (.cons 0 (.ptr 0 0 1 0 0 0 1) .nil))),(37,(.vs (.rL .i64 t37) 0 1)),(38,(.int .i64 t38)),(39,(.int .i64 t39))],heap := [(0,(.cells 1 (.one (.mp 1)) true)),(1,(.cells 0 (.rM .i64 0 (.one .i64) x5) true))],next := 2,nt := 114,m := 0 }
def ef37l2 : Ty28 → St := fun (t0,t37,t38,t39,x5) => { tmps := [(0,(.vs (.rI .i64 t0) 0 1)),(5,(.ptr 0 0 1 0 0 0 1)),(8,(.fn 57 (.cons 0 (.ptr 0 0 1 0 0 0 1) .nil))),(37,(.vs (.rL .i64 t37) 0 1)),(38,(.int .i64 t38)),(39,(.int .i64 t39))],heap := [(0,(.cells 1 (.one (.mp 1)) true)),(1,(.cells 0 (.rM .i64 0 (.one .i64) x5) true))],next := 2,nt := 114,m := 0 }
def ef37j8 : Ty29 → St := fun (t0,t37,t38,t39,t40,x6) => { tmps := [(0,(.vs (.rI .i64 t0) 0 1)),(5,(.ptr 0 0 1 0 0 0 1)),(8,(.fn 57 (.cons 0 (.ptr 0 0 1 0 0 0 1) .nil))),(37,(.vs (.rL .i64 t37) 0 1)),(38,(.int .i64 t38)),(39,(.int .i64 t39)),(40,(.bool t40))],heap := [(0,(.cells 1 (.one (.mp 1)) true)),(1,(.cells 0 (.rM .i64 0 (.one .i64) x6) true))],next := 2,nt := 114,m := 0 }
def ef37j9 : Ty28 → St := fun (t0,t37,t38,t39,x5) => { tmps := [(0,(.vs (.rI .i64 t0) 0 1)),(5,(.ptr 0 0 1 0 0 0 1)),(8,(.fn 57 (.cons 0 (.ptr 0 0 1 0 0 0 1) .nil))),(37,(.vs (.rL .i64 t37) 0 1)),(38,(.int .i64 t38)),(39,(.int .i64 t39))],heap := [(0,(.cells 1 (.one (.mp 1)) true)),(1,(.cells 0 (.rM .i64 0 (.one .i64) x5) true))],next := 2,nt := 114,m := 0 }
def ef37j10 : Ty30 → St := fun (t0,t10,t37,t38,t39,x6) => { tmps := [(0,(.vs (.rI .i64 t0) 0 1)),(5,(.ptr 0 0 1 0 0 0 1)),(8,(.fn 57 (.cons 0 (.ptr 0 0 1 0 0 0 1) .nil))),(10,(.vs (.rI .i64 t10) 0 1)),(37,(.vs (.rL .i64 t37) 0 1)),(38,(.int .i64 t38)),(39,(.int .i64 t39))],heap := [(0,(.cells 1 (.one (.mp 1)) true)),(1,(.cells 0 (.rM .i64 0 (.one .i64) x6) true))],next := 2,nt := 114,m := 0 }
def ef37j11 : Ty31 → St := fun (t0,t10,t11,t12,t37,t38,t39,x8) => { tmps := [(0,(.vs (.rI .i64 t0) 0 1)),(5,(.ptr 0 0 1 0 0 0 1)),(8,(.fn 57 (.cons 0 (.ptr 0 0 1 0 0 0 1) .nil))),(10,(.vs (.rI .i64 t10) 0 1)),(11,(.int .i64 t11)),(12,(.bool t12)),(37,(.vs (.rL .i64 t37) 0 1)),(38,(.int .i64 t38)),(39,(.int .i64 t39))],heap := [(0,(.cells 1 (.one (.mp 1)) true)),(1,(.cells 0 (.rM .i64 0 (.one .i64) x8) true))],next := 2,nt := 114,m := 0 }
def ef37j12 : Ty32 → St := fun (t0,t11,t12,t37,t38,t39,t43,t44,t45,x10) => { tmps := [(0,(.vs (.rI .i64 t0) 0 1)),(5,(.ptr 0 0 1 0 0 0 1)),(8,(.fn 57 (.cons 0 (.ptr 0 0 1 0 0 0 1) .nil))),(11,(.int .i64 t11)),(12,(.bool t12)),(37,(.vs (.rL .i64 t37) 0 1)),(38,(.int .i64 t38)),(39,(.int .i64 t39)),(43,(.vs (.rI .i64 t43) 0 1)),(44,(.int .i64 t44)),(45,(.int .i64 t45))],heap := [(0,(.cells 1 (.one (.mp 1)) true)),(1,(.cells 0 (.rM .i64 0 (.one .i64) x10) true))],next := 2,nt := 114,m := 0 }
def ef37l3 : Ty32 → St := fun (t0,t11,t12,t37,t38,t39,t43,t44,t45,x10) => { tmps := [(0,(.vs (.rI .i64 t0) 0 1)),(5,(.ptr 0 0 1 0 0 0 1)),(8,(.fn 57 (.cons 0 (.ptr 0 0 1 0 0 0 1) .nil))),(11,(.int .i64 t11)),(12,(.bool t12)),(37,(.vs (.rL .i64 t37) 0 1)),(38,(.int .i64 t38)),(39,(.int .i64 t39)),(43,(.vs (.rI .i64 t43) 0 1)),(44,(.int .i64 t44)),(45,(.int .i64 t45))],heap := [(0,(.cells 1 (.one (.mp 1)) true)),(1,(.cells 0 (.rM .i64 0 (.one .i64) x10) true))],next := 2,nt := 114,m := 0 }
def ef37j13 : Ty28 → St := fun (t0,t37,t38,t39,x5) => { tmps := [(0,(.vs (.rI .i64 t0) 0 1)),(5,(.ptr 0 0 1 0 0 0 1)),(8,(.fn 57 (.cons 0 (.ptr 0 0 1 0 0 0 1) .nil))),(37,(.vs (.rL .i64 t37) 0 1)),(38,(.int .i64 t38)),(39,(.int .i64 t39))],heap := [(0,(.cells 1 (.one (.mp 1)) true)),(1,(.cells 0 (.rM .i64 0 (.one .i64) x5) true))],next := 2,nt := 114,m := 0 }
def ef37j14 : Ty33 → St := fun (t0,x2) => { tmps := [(0,(.vs (.rI .i64 t0) 0 1)),(8,(.fn 57 (.cons 0 (.ptr 0 0 1 0 0 0 1) .nil)))],heap := [(0,(.cells 1 (.one (.mp 1)) true)),(1,(.cells 0 (.rM .i64 0 (.one .i64) x2) true))],next := 2,nt := 114,m := 0 }
def ef37j15 : Ty34 → St := fun (t0,x2,x3) => { tmps := [(0,(.vs (.rI .i64 t0) 0 1)),(8,(.fn 57 (.cons 0 (.ptr 0 0 1 0 0 0 1) .nil))),(17,(.mp 1))],heap := [(0,(.cells 1 (.one (.mp 2)) true)),(1,(.cells 0 (.rM .i64 0 (.osl .i64) x2) true)),(2,(.cells 0 (.rM .i64 0 (.one .i64) x3) true))],next := 3,nt := 114,m := 0 }
def ef37j16 : Ty34 → St := fun (t0,x2,x3) => { tmps := [(0,(.vs (.rI .i64 t0) 0 1)),(8,(.fn 57 (.cons 0 (.ptr 0 0 1 0 0 0 1) .nil))),(17,(.mp 1)),(18,.ns)],heap := [(0,(.cells 1 (.one (.mp 2)) true)),(1,(.cells 0 (.rM .i64 0 (.osl .i64) x2) true)),(2,(.cells 0 (.rM .i64 0 (.one .i64) x3) true))],next := 3,nt := 114,m := 0 }
def ef37j17 : Ty35 → St := fun (t73,t74,t75,x4,x5) => { tmps := [(8,(.fn 57 (.cons 0 (.ptr 0 0 1 0 0 0 1) .nil))),(17,(.mp 1)),(18,.ns),(73,(.vs (.rI .i64 t73) 0 1)),(74,(.int .i64 t74)),(75,(.int .i64 t75))],heap := [(0,(.cells 1 (.one (.mp 2)) true)),(1,(.cells 0 (.rM .i64 0 (.osl .i64) x4) true)),(2,(.cells 0 (.rM .i64 0 (.one .i64) x5) true))],next := 3,nt := 114,m := 0 }
def ef37l4 : Ty36 → St := fun (t73,t74,t75,x4,x5,x6) => { tmps := [(8,(.fn 57 (.cons 0 (.ptr 0 0 1 0 0 0 1) .nil))),(17,(.mp 1)),(18,(.own 2 0 1)),(73,(.vs (.rI .i64 t73) 0 1)),(74,(.int .i64 t74)),(75,(.int .i64 t75))],heap := [(0,(.cells 1 (.one (.mp 3)) true)),(1,(.cells 0 (.rM .i64 0 (.osl .i64) x4) true)),(2,(.cells x5.length (.rI .i64 x5) true)),(3,(.cells 0 (.rM .i64 0 (.one .i64) x6) true))],next := 4,nt := 114,m := 0 }
def ef37j18 : Ty37 → St := fun (x1,x2) => { tmps := [(17,(.mp 0)),(18,(.own 1 0 1))],heap := [(0,(.cells 0 (.rM .i64 0 (.sl .i64) x1) true)),(1,(.cells x2.length (.rI .i64 x2) true))],next := 2,nt := 114,m := 0 }
def ef37j19 : Ty37 → St := fun (x1,x2) => { tmps := [(17,(.mp 0)),(18,(.own 1 0 1)),(22,.ns)],heap := [(0,(.cells 0 (.rM .i64 0 (.sl .i64) x1) true)),(1,(.cells x2.length (.rI .i64 x2) true))],next := 2,nt := 114,m := 0 }
def ef37j20 : Ty38 → St := fun (t101,t102,x3,x4) => { tmps := [(17,(.mp 0)),(22,.ns),(100,(.own 1 0 1)),(101,(.int .i64 t101)),(102,(.int .i64 t102))],heap := [(0,(.cells 0 (.rM .i64 0 (.sl .i64) x3) true)),(1,(.cells x4.length (.rI .i64 x4) true))],next := 2,nt := 114,m := 0 }
def ef37l5 : Ty39 → St := fun (t101,t102,x3,x4,x5) => { tmps := [(17,(.mp 0)),(22,(.own 1 0 1)),(100,(.own 2 0 1)),(101,(.int .i64 t101)),(102,(.int .i64 t102))],heap := [(0,(.cells 0 (.rM .i64 0 (.sl .i64) x3) true)),(1,(.cells x4.length (.rL .i64 x4) true)),(2,(.cells x5.length (.rI .i64 x5) true))],next := 3,nt := 114,m := 0 }
def ef37j21 : (List (List Int)) → St := fun x1 => { tmps := [(22,(.own 0 0 1))],heap := [(0,(.cells x1.length (.rL .i64 x1) true))],next := 1,nt := 114,m := 0 }
def f37_1 (F : Nat) (kf37j1 : Ty25 → Rz) : Ty25 → Rz := fun (a0,a1) => (kf37j1 (a0,a1))
theorem f37_1_eq (F : Nat) (Rf37j1 : St → Rz) : ∀ v,aexec VG2237 (Af37 F) (bp Try.f37 2) (ef37_a v) (kSeq (kc VG2237 Rf37j1 [(0,.plain),(1,.plain)]) (kFin VG2237 (some [(4,(.own 22))]) (Try.f37).results.toList)) = f37_1 F (Rf37j1 ∘ ef37j1) v := by
  rintro ⟨a0,a1⟩; kernel_rfl
def f37_2 (F : Nat) (kf37j2 : Ty26 → Rz) : Ty25 → Rz := fun (t0,t1) => (kf37j2 (t0,t1,[]))
theorem f37_2_eq (F : Nat) (Rf37j2 : St → Rz) : ∀ v,aexec VG2237 (Af37 F) (bp Try.f37 12) (ef37j1 v) (kSeq (kc VG2237 Rf37j2 sp2) (kFin VG2237 (some [(4,(.own 22))]) (Try.f37).results.toList)) = f37_2 F (Rf37j2 ∘ ef37j2) v := by
  rintro ⟨t0,t1⟩; kernel_rfl
def f37_3 (F : Nat) (kf37j3 : Ty27 → Rz) (kf37j4 : Ty26 → Rz) : Ty26 → Rz := fun (t0,t1,x3) => (kf37j3 (t0,t1,t0,(↑t0.length : Int),(0 : Int),x3))
theorem f37_3_eq (F : Nat) (Rf37j3 : St → Rz) (Rf37j4 : St → Rz) : ∀ v,aexec VG2237 (Af37 F) (bp Try.f37 52) (ef37j2 v) (kSeq (kc VG2237 Rf37j3 sp15) (kSeq (kc VG2237 Rf37j4 sp2) (kFin VG2237 (some [(4,(.own 22))]) (Try.f37).results.toList))) = f37_3 F (Rf37j3 ∘ ef37j3) (Rf37j4 ∘ ef37j4) v := by
  rintro ⟨t0,t1,x3⟩; kernel_rfl
def f37_4 (F : Nat) (kf37l1 : Ty27 → Rz) (kf37j4 : Ty26 → Rz) : Ty27 → Rz := fun (t0,t1,t26,t27,t28,x6) => (cond (decide (t28 < t27)) (cond ((decide (0 ≤ t28)) && (decide (t28 < (↑t26.length : Int)))) (kf37l1 (t0,t1,t26,t27,(IntKind.i64.wrap (t28 + (1 : Int))),(mput x6 [(t26.getD (Int.toNat t28) 0)] [(t26.getD (Int.toNat t28) 0)]))) none) (kf37j4 (t0,t1,x6)))
theorem f37_4_eq (F : Nat) (Rf37l1 : St → Rz) (Rf37j4 : St → Rz) : ∀ v,aexec VG2237 (Af37 F) (bp Try.f37 212) (ef37l1 v) (kSeq (kc VG2237 Rf37l1 sp15) (kBlock 0 (kSeq (kc VG2237 Rf37j4 sp2) (kFin VG2237 (some [(4,(.own 22))]) (Try.f37).results.toList)))) = f37_4 F (Rf37l1 ∘ ef37l1) (Rf37j4 ∘ ef37j4) v := by
  rintro ⟨t0,t1,t26,t27,t28,x6⟩; kernel_rfl
def f37_5_i : Ty27 → (List Int) × (List (List Int)) × (List Int) × Int × Int × (List (List Int × List Int)) := fun (t0,t1,t26,t27,t28,x6) => (t0,t1,t26,t27,t28,x6)
def f37_5 (F : Nat) (kf37j4 : Ty26 → Rz) : Ty27 → Rz := fun v => loopN (fun k => f37_4 F k kf37j4) F (f37_5_i v)
theorem f37_5_eq (F : Nat) (Rf37j4 : St → Rz) : ∀ v,aexec VG2237 (Af37 F) (bp Try.f37 106) (ef37j3 v) (kBlock 0 (kSeq (kc VG2237 Rf37j4 sp2) (kFin VG2237 (some [(4,(.own 22))]) (Try.f37).results.toList))) = f37_5 F (Rf37j4 ∘ ef37j4) v :=
  loop_cut (by kernel_rfl) (by kernel_rfl) ef37j3 ef37l1 _ f37_5_i (fun k => f37_4 F k (Rf37j4 ∘ ef37j4))
    (by rintro ⟨t0,t1,t26,t27,t28,x6⟩; kernel_rfl) (fun Rf37l1 => f37_4_eq F Rf37l1 Rf37j4)
def f37_6 (F : Nat) (kf37j4 : Ty26 → Rz) : Ty27 → Rz := f37_5 F kf37j4
theorem f37_6_eq (F : Nat) (Rf37j4 : St → Rz) : ∀ v,aexec VG2237 (Af37 F) (bp Try.f37 53) (ef37j3 v) (kSeq (kc VG2237 Rf37j4 sp2) (kFin VG2237 (some [(4,(.own 22))]) (Try.f37).results.toList)) = f37_6 F (Rf37j4 ∘ ef37j4) v := fun v =>
  (block_in  (by kernel_rfl) _ _).trans (f37_5_eq F Rf37j4 v)
def f37_7 (F : Nat) (kf37j4 : Ty26 → Rz) : Ty26 → Rz := fun v => f37_3 F (f37_6 F kf37j4) kf37j4 v
theorem f37_7_eq (F : Nat) (Rf37j4 : St → Rz) : ∀ v,aexec VG2237 (Af37 F) (bp Try.f37 26) (ef37j2 v) (kSeq (kc VG2237 Rf37j4 sp2) (kFin VG2237 (some [(4,(.own 22))]) (Try.f37).results.toList)) = f37_7 F (Rf37j4 ∘ ef37j4) v :=
  seq_cut (by kernel_rfl) (by kernel_rfl) ef37j2 ef37j3 _ (fun k => f37_3 F k (Rf37j4 ∘ ef37j4)) (f37_6 F (Rf37j4 ∘ ef37j4))
    (fun Rf37j3 => f37_3_eq F Rf37j3 Rf37j4) (f37_6_eq F Rf37j4)
def f37_8 (F : Nat) (kf37j5 : Ty26 → Rz) : Ty26 → Rz := fun (t0,t1,x3) => (kf37j5 (t0,t1,x3))
theorem f37_8_eq (F : Nat) (Rf37j5 : St → Rz) : ∀ v,aexec VG2237 (Af37 F) (bp Try.f37 54) (ef37j4 v) (kSeq (kc VG2237 Rf37j5 sp20) (kFin VG2237 (some [(4,(.own 22))]) (Try.f37).results.toList)) = f37_8 F (Rf37j5 ∘ ef37j5) v := by
  rintro ⟨t0,t1,x3⟩; kernel_rfl
def f37_9 (F : Nat) (kf37j6 : Ty26 → Rz) : Ty26 → Rz := fun (t0,t1,x3) => (kf37j6 (t0,t1,x3))
theorem f37_9_eq (F : Nat) (Rf37j6 : St → Rz) : ∀ v,aexec VG2237 (Af37 F) (bp Try.f37 110) (ef37j5 v) (kSeq (kc VG2237 Rf37j6 sp20) (kFin VG2237 (some [(4,(.own 22))]) (Try.f37).results.toList)) = f37_9 F (Rf37j6 ∘ ef37j6) v := by
  rintro ⟨t0,t1,x3⟩; kernel_rfl
def f37_10 (F : Nat) (kf37j7 : Ty28 → Rz) (kf37j14 : Ty33 → Rz) : Ty26 → Rz := fun (t0,t1,x3) => (kf37j7 (t0,t1,(↑t1.length : Int),(0 : Int),x3))
theorem f37_10_eq (F : Nat) (Rf37j7 : St → Rz) (Rf37j14 : St → Rz) : ∀ v,aexec VG2237 (Af37 F) (bp Try.f37 444) (ef37j6 v) (kSeq (kc VG2237 Rf37j7 sp16) (kSeq (kc VG2237 Rf37j14 [(0,.plain),(8,.plain)]) (kFin VG2237 (some [(4,(.own 22))]) (Try.f37).results.toList))) = f37_10 F (Rf37j7 ∘ ef37j7) (Rf37j14 ∘ ef37j14) v := by
  rintro ⟨t0,t1,x3⟩; kernel_rfl
def f37_11 (F : Nat) (kf37j8 : Ty29 → Rz) (kf37l2 : Ty28 → Rz) (kf37j14 : Ty33 → Rz) : Ty28 → Rz := fun (t0,t37,t38,t39,x5) => (kf37j8 (t0,t37,t38,t39,(decide (t39 < t38)),x5))
theorem f37_11_eq (F : Nat) (Rf37j8 : St → Rz) (Rf37l2 : St → Rz) (Rf37j14 : St → Rz) : ∀ v,aexec VG2237 (Af37 F) (bp Try.f37 3560) (ef37l2 v) (kSeq (kc VG2237 Rf37j8 sp21) (kSeq (kc VG2237 Rf37l2 sp16) (kBlock 2 (kSeq (kc VG2237 Rf37j14 [(0,.plain),(8,.plain)]) (kFin VG2237 (some [(4,(.own 22))]) (Try.f37).results.toList))))) = f37_11 F (Rf37j8 ∘ ef37j8) (Rf37l2 ∘ ef37l2) (Rf37j14 ∘ ef37j14) v := by
  rintro ⟨t0,t37,t38,t39,x5⟩; kernel_rfl
def f37_12 (F : Nat) (kf37j9 : Ty28 → Rz) (kf37l2 : Ty28 → Rz) (kf37j14 : Ty33 → Rz) : Ty29 → Rz := fun (t0,t37,t38,t39,t40,x6) => (cond t40 (kf37j9 (t0,t37,t38,t39,x6)) (kf37j14 (t0,x6)))
theorem f37_12_eq (F : Nat) (Rf37j9 : St → Rz) (Rf37l2 : St → Rz) (Rf37j14 : St → Rz) : ∀ v,aexec VG2237 (Af37 F) (bp Try.f37 7122) (ef37j8 v) (kSeq (kc VG2237 Rf37j9 sp16) (kSeq (kc VG2237 Rf37l2 sp16) (kBlock 2 (kSeq (kc VG2237 Rf37j14 [(0,.plain),(8,.plain)]) (kFin VG2237 (some [(4,(.own 22))]) (Try.f37).results.toList))))) = f37_12 F (Rf37j9 ∘ ef37j9) (Rf37l2 ∘ ef37l2) (Rf37j14 ∘ ef37j14) v := by
  rintro ⟨t0,t37,t38,t39,t40,x6⟩; kernel_rfl
def f37_13 (F : Nat) (kf37j10 : Ty30 → Rz) (kf37j13 : Ty28 → Rz) (kf37l2 : Ty28 → Rz) (kf37j14 : Ty33 → Rz) : Ty28 → Rz := fun (t0,t37,t38,t39,x5) => (cond ((decide (0 ≤ t39)) && (decide (t39 < (↑t37.length : Int)))) (kf37j10 (t0,(t37.getD (Int.toNat t39) []),t37,t38,t39,x5)) none)
theorem f37_13_eq (F : Nat) (Rf37j10 : St → Rz) (Rf37j13 : St → Rz) (Rf37l2 : St → Rz) (Rf37j14 : St → Rz) : ∀ v,aexec VG2237 (Af37 F) (bp Try.f37 56984) (ef37j9 v) (kSeq (kc VG2237 Rf37j10 sp22) (kBlock 3 (kSeq (kc VG2237 Rf37j13 sp16) (kSeq (kc VG2237 Rf37l2 sp16) (kBlock 2 (kSeq (kc VG2237 Rf37j14 [(0,.plain),(8,.plain)]) (kFin VG2237 (some [(4,(.own 22))]) (Try.f37).results.toList))))))) = f37_13 F (Rf37j10 ∘ ef37j10) (Rf37j13 ∘ ef37j13) (Rf37l2 ∘ ef37l2) (Rf37j14 ∘ ef37j14) v := by
  rintro ⟨t0,t37,t38,t39,x5⟩; kernel_rfl
def f37_14 (F : Nat) (kf37j11 : Ty31 → Rz) (kf37j13 : Ty28 → Rz) (kf37l2 : Ty28 → Rz) (kf37j14 : Ty33 → Rz) : Ty30 → Rz := fun (t0,t10,t37,t38,t39,x6) => (kf37j11 (t0,t10,(0 : Int),false,t37,t38,t39,x6))
theorem f37_14_eq (F : Nat) (Rf37j11 : St → Rz) (Rf37j13 : St → Rz) (Rf37l2 : St → Rz) (Rf37j14 : St → Rz) : ∀ v,aexec VG2237 (Af37 F) (bp Try.f37 113970) (ef37j10 v) (kSeq (kc VG2237 Rf37j11 sp23) (kBlock 3 (kSeq (kc VG2237 Rf37j13 sp16) (kSeq (kc VG2237 Rf37l2 sp16) (kBlock 2 (kSeq (kc VG2237 Rf37j14 [(0,.plain),(8,.plain)]) (kFin VG2237 (some [(4,(.own 22))]) (Try.f37).results.toList))))))) = f37_14 F (Rf37j11 ∘ ef37j11) (Rf37j13 ∘ ef37j13) (Rf37l2 ∘ ef37l2) (Rf37j14 ∘ ef37j14) v := by
  rintro ⟨t0,t10,t37,t38,t39,x6⟩; kernel_rfl
def f37_15 (F : Nat) (kf37j12 : Ty32 → Rz) (kf37j13 : Ty28 → Rz) (kf37l2 : Ty28 → Rz) (kf37j14 : Ty33 → Rz) : Ty31 → Rz := fun (t0,t10,t11,t12,t37,t38,t39,x8) => (kf37j12 (t0,t11,t12,t37,t38,t39,t10,(↑t10.length : Int),(0 : Int),x8))
theorem f37_15_eq (F : Nat) (Rf37j12 : St → Rz) (Rf37j13 : St → Rz) (Rf37l2 : St → Rz) (Rf37j14 : St → Rz) : ∀ v,aexec VG2237 (Af37 F) (bp Try.f37 227942) (ef37j11 v) (kSeq (kc VG2237 Rf37j12 sp17) (kBlock 3 (kSeq (kc VG2237 Rf37j13 sp16) (kSeq (kc VG2237 Rf37l2 sp16) (kBlock 2 (kSeq (kc VG2237 Rf37j14 [(0,.plain),(8,.plain)]) (kFin VG2237 (some [(4,(.own 22))]) (Try.f37).results.toList))))))) = f37_15 F (Rf37j12 ∘ ef37j12) (Rf37j13 ∘ ef37j13) (Rf37l2 ∘ ef37l2) (Rf37j14 ∘ ef37j14) v := by
  rintro ⟨t0,t10,t11,t12,t37,t38,t39,x8⟩; kernel_rfl
def f37_16 (F : Nat) (kf37l3 : Ty32 → Rz) (kf37j13 : Ty28 → Rz) (kf37l2 : Ty28 → Rz) (kf37j14 : Ty33 → Rz) : Ty32 → Rz := fun (t0,t11,t12,t37,t38,t39,t43,t44,t45,x10) => (cond (decide (t45 < t44)) (cond ((decide (0 ≤ t45)) && (decide (t45 < (↑t43.length : Int)))) (cond (!(mhas x10 [(t43.getD (Int.toNat t45) 0)])) (kf37l3 (t0,t11,t12,t37,t38,t39,t43,t44,(IntKind.i64.wrap (t45 + (1 : Int))),x10)) (cond (!t12) (kf37l3 (t0,(t43.getD (Int.toNat t45) 0),true,t37,t38,t39,t43,t44,(IntKind.i64.wrap (t45 + (1 : Int))),x10)) (cond (Isl.fok x10 (t43.getD (Int.toNat t45) 0)) (cond (Isl.fok (Isl.fe x10 (t43.getD (Int.toNat t45) 0)) t11) (cond (decide ((mput (Isl.fe (Isl.fe x10 (t43.getD (Int.toNat t45) 0)) t11) [(Isl.fv x10 (t43.getD (Int.toNat t45) 0))] [(Isl.fv (Isl.fe x10 (t43.getD (Int.toNat t45) 0)) t11)]).length < 4611686018427387904)) (cond ((↑(mput (Isl.fe (Isl.fe x10 (t43.getD (Int.toNat t45) 0)) t11) [(Isl.fv x10 (t43.getD (Int.toNat t45) 0))] [(Isl.fv (Isl.fe x10 (t43.getD (Int.toNat t45) 0)) t11)]).length : Int) == (1 : Int)) (kf37j13 (t0,t37,t38,t39,(mput (Isl.fe (Isl.fe x10 (t43.getD (Int.toNat t45) 0)) t11) [(Isl.fv x10 (t43.getD (Int.toNat t45) 0))] [(Isl.fv (Isl.fe x10 (t43.getD (Int.toNat t45) 0)) t11)]))) (kf37l3 (t0,t11,t12,t37,t38,t39,t43,t44,(IntKind.i64.wrap (t45 + (1 : Int))),(mput (Isl.fe (Isl.fe x10 (t43.getD (Int.toNat t45) 0)) t11) [(Isl.fv x10 (t43.getD (Int.toNat t45) 0))] [(Isl.fv (Isl.fe x10 (t43.getD (Int.toNat t45) 0)) t11)])))) none) none) none))) none) (kf37j13 (t0,t37,t38,t39,x10)))
theorem f37_16_eq (F : Nat) (Rf37l3 : St → Rz) (Rf37j13 : St → Rz) (Rf37l2 : St → Rz) (Rf37j14 : St → Rz) : ∀ v,aexec VG2237 (Af37 F) (bp Try.f37 911772) (ef37l3 v) (kSeq (kc VG2237 Rf37l3 sp17) (kBlock 4 (kBlock 3 (kSeq (kc VG2237 Rf37j13 sp16) (kSeq (kc VG2237 Rf37l2 sp16) (kBlock 2 (kSeq (kc VG2237 Rf37j14 [(0,.plain),(8,.plain)]) (kFin VG2237 (some [(4,(.own 22))]) (Try.f37).results.toList)))))))) = f37_16 F (Rf37l3 ∘ ef37l3) (Rf37j13 ∘ ef37j13) (Rf37l2 ∘ ef37l2) (Rf37j14 ∘ ef37j14) v := by
  rintro ⟨t0,t11,t12,t37,t38,t39,t43,t44,t45,x10⟩; kernel_rfl
def f37_17_i : Ty32 → (List Int) × Int × Bool × (List (List Int)) × Int × Int × (List Int) × Int × Int × (List (List Int × List Int)) := fun (t0,t11,t12,t37,t38,t39,t43,t44,t45,x10) => (t0,t11,t12,t37,t38,t39,t43,t44,t45,x10)
def f37_17 (F : Nat) (kf37j13 : Ty28 → Rz) (kf37l2 : Ty28 → Rz) (kf37j14 : Ty33 → Rz) : Ty32 → Rz := fun v => loopN (fun k => f37_16 F k kf37j13 kf37l2 kf37j14) F (f37_17_i v)
theorem f37_17_eq (F : Nat) (Rf37j13 : St → Rz) (Rf37l2 : St → Rz) (Rf37j14 : St → Rz) : ∀ v,aexec VG2237 (Af37 F) (bp Try.f37 455886) (ef37j12 v) (kBlock 4 (kBlock 3 (kSeq (kc VG2237 Rf37j13 sp16) (kSeq (kc VG2237 Rf37l2 sp16) (kBlock 2 (kSeq (kc VG2237 Rf37j14 [(0,.plain),(8,.plain)]) (kFin VG2237 (some [(4,(.own 22))]) (Try.f37).results.toList))))))) = f37_17 F (Rf37j13 ∘ ef37j13) (Rf37l2 ∘ ef37l2) (Rf37j14 ∘ ef37j14) v :=
  loop_cut (by kernel_rfl) (by kernel_rfl) ef37j12 ef37l3 _ f37_17_i (fun k => f37_16 F k (Rf37j13 ∘ ef37j13) (Rf37l2 ∘ ef37l2) (Rf37j14 ∘ ef37j14))
    (by rintro ⟨t0,t11,t12,t37,t38,t39,t43,t44,t45,x10⟩; kernel_rfl) (fun Rf37l3 => f37_16_eq F Rf37l3 Rf37j13 Rf37l2 Rf37j14)
def f37_18 (F : Nat) (kf37j13 : Ty28 → Rz) (kf37l2 : Ty28 → Rz) (kf37j14 : Ty33 → Rz) : Ty32 → Rz := f37_17 F kf37j13 kf37l2 kf37j14
theorem f37_18_eq (F : Nat) (Rf37j13 : St → Rz) (Rf37l2 : St → Rz) (Rf37j14 : St → Rz) : ∀ v,aexec VG2237 (Af37 F) (bp Try.f37 227943) (ef37j12 v) (kBlock 3 (kSeq (kc VG2237 Rf37j13 sp16) (kSeq (kc VG2237 Rf37l2 sp16) (kBlock 2 (kSeq (kc VG2237 Rf37j14 [(0,.plain),(8,.plain)]) (kFin VG2237 (some [(4,(.own 22))]) (Try.f37).results.toList)))))) = f37_18 F (Rf37j13 ∘ ef37j13) (Rf37l2 ∘ ef37l2) (Rf37j14 ∘ ef37j14) v := fun v =>
  (block_in  (by kernel_rfl) _ _).trans (f37_17_eq F Rf37j13 Rf37l2 Rf37j14 v)
def f37_19 (F : Nat) (kf37j13 : Ty28 → Rz) (kf37l2 : Ty28 → Rz) (kf37j14 : Ty33 → Rz) : Ty31 → Rz := fun v => f37_15 F (f37_18 F kf37j13 kf37l2 kf37j14) kf37j13 kf37l2 kf37j14 v
theorem f37_19_eq (F : Nat) (Rf37j13 : St → Rz) (Rf37l2 : St → Rz) (Rf37j14 : St → Rz) : ∀ v,aexec VG2237 (Af37 F) (bp Try.f37 113971) (ef37j11 v) (kBlock 3 (kSeq (kc VG2237 Rf37j13 sp16) (kSeq (kc VG2237 Rf37l2 sp16) (kBlock 2 (kSeq (kc VG2237 Rf37j14 [(0,.plain),(8,.plain)]) (kFin VG2237 (some [(4,(.own 22))]) (Try.f37).results.toList)))))) = f37_19 F (Rf37j13 ∘ ef37j13) (Rf37l2 ∘ ef37l2) (Rf37j14 ∘ ef37j14) v :=
  seq_cut (by kernel_rfl) (by kernel_rfl) ef37j11 ef37j12 _ (fun k => f37_15 F k (Rf37j13 ∘ ef37j13) (Rf37l2 ∘ ef37l2) (Rf37j14 ∘ ef37j14)) (f37_18 F (Rf37j13 ∘ ef37j13) (Rf37l2 ∘ ef37l2) (Rf37j14 ∘ ef37j14))
    (fun Rf37j12 => f37_15_eq F Rf37j12 Rf37j13 Rf37l2 Rf37j14) (f37_18_eq F Rf37j13 Rf37l2 Rf37j14)
def f37_20 (F : Nat) (kf37j13 : Ty28 → Rz) (kf37l2 : Ty28 → Rz) (kf37j14 : Ty33 → Rz) : Ty30 → Rz := fun v => f37_14 F (f37_19 F kf37j13 kf37l2 kf37j14) kf37j13 kf37l2 kf37j14 v
theorem f37_20_eq (F : Nat) (Rf37j13 : St → Rz) (Rf37l2 : St → Rz) (Rf37j14 : St → Rz) : ∀ v,aexec VG2237 (Af37 F) (bp Try.f37 56985) (ef37j10 v) (kBlock 3 (kSeq (kc VG2237 Rf37j13 sp16) (kSeq (kc VG2237 Rf37l2 sp16) (kBlock 2 (kSeq (kc VG2237 Rf37j14 [(0,.plain),(8,.plain)]) (kFin VG2237 (some [(4,(.own 22))]) (Try.f37).results.toList)))))) = f37_20 F (Rf37j13 ∘ ef37j13) (Rf37l2 ∘ ef37l2) (Rf37j14 ∘ ef37j14) v :=
  seq_cut (by kernel_rfl) (by kernel_rfl) ef37j10 ef37j11 _ (fun k => f37_14 F k (Rf37j13 ∘ ef37j13) (Rf37l2 ∘ ef37l2) (Rf37j14 ∘ ef37j14)) (f37_19 F (Rf37j13 ∘ ef37j13) (Rf37l2 ∘ ef37l2) (Rf37j14 ∘ ef37j14))
    (fun Rf37j11 => f37_14_eq F Rf37j11 Rf37j13 Rf37l2 Rf37j14) (f37_19_eq F Rf37j13 Rf37l2 Rf37j14)
def f37_21 (F : Nat) (kf37j13 : Ty28 → Rz) (kf37l2 : Ty28 → Rz) (kf37j14 : Ty33 → Rz) : Ty28 → Rz := fun v => f37_13 F (f37_20 F kf37j13 kf37l2 kf37j14) kf37j13 kf37l2 kf37j14 v
theorem f37_21_eq (F : Nat) (Rf37j13 : St → Rz) (Rf37l2 : St → Rz) (Rf37j14 : St → Rz) : ∀ v,aexec VG2237 (Af37 F) (bp Try.f37 28492) (ef37j9 v) (kBlock 3 (kSeq (kc VG2237 Rf37j13 sp16) (kSeq (kc VG2237 Rf37l2 sp16) (kBlock 2 (kSeq (kc VG2237 Rf37j14 [(0,.plain),(8,.plain)]) (kFin VG2237 (some [(4,(.own 22))]) (Try.f37).results.toList)))))) = f37_21 F (Rf37j13 ∘ ef37j13) (Rf37l2 ∘ ef37l2) (Rf37j14 ∘ ef37j14) v :=
  seq_cut (by kernel_rfl) (by kernel_rfl) ef37j9 ef37j10 _ (fun k => f37_13 F k (Rf37j13 ∘ ef37j13) (Rf37l2 ∘ ef37l2) (Rf37j14 ∘ ef37j14)) (f37_20 F (Rf37j13 ∘ ef37j13) (Rf37l2 ∘ ef37l2) (Rf37j14 ∘ ef37j14))
    (fun Rf37j10 => f37_13_eq F Rf37j10 Rf37j13 Rf37l2 Rf37j14) (f37_20_eq F Rf37j13 Rf37l2 Rf37j14)
def f37_22 (F : Nat) (kf37j13 : Ty28 → Rz) (kf37l2 : Ty28 → Rz) (kf37j14 : Ty33 → Rz) : Ty28 → Rz := f37_21 F kf37j13 kf37l2 kf37j14
theorem f37_22_eq (F : Nat) (Rf37j13 : St → Rz) (Rf37l2 : St → Rz) (Rf37j14 : St → Rz) : ∀ v,aexec VG2237 (Af37 F) (bp Try.f37 14246) (ef37j9 v) (kSeq (kc VG2237 Rf37j13 sp16) (kSeq (kc VG2237 Rf37l2 sp16) (kBlock 2 (kSeq (kc VG2237 Rf37j14 [(0,.plain),(8,.plain)]) (kFin VG2237 (some [(4,(.own 22))]) (Try.f37).results.toList))))) = f37_22 F (Rf37j13 ∘ ef37j13) (Rf37l2 ∘ ef37l2) (Rf37j14 ∘ ef37j14) v := fun v =>
  (block_in  (by kernel_rfl) _ _).trans (f37_21_eq F Rf37j13 Rf37l2 Rf37j14 v)
def f37_23 (F : Nat) (kf37l2 : Ty28 → Rz) (kf37j14 : Ty33 → Rz) : Ty28 → Rz := fun (t0,t37,t38,t39,x5) => (kf37l2 (t0,t37,t38,(IntKind.i64.wrap (t39 + (1 : Int))),x5))
theorem f37_23_eq (F : Nat) (Rf37l2 : St → Rz) (Rf37j14 : St → Rz) : ∀ v,aexec VG2237 (Af37 F) (bp Try.f37 14247) (ef37j13 v) (kSeq (kc VG2237 Rf37l2 sp16) (kBlock 2 (kSeq (kc VG2237 Rf37j14 [(0,.plain),(8,.plain)]) (kFin VG2237 (some [(4,(.own 22))]) (Try.f37).results.toList)))) = f37_23 F (Rf37l2 ∘ ef37l2) (Rf37j14 ∘ ef37j14) v := by
  rintro ⟨t0,t37,t38,t39,x5⟩; kernel_rfl
def f37_24 (F : Nat) (kf37l2 : Ty28 → Rz) (kf37j14 : Ty33 → Rz) : Ty28 → Rz := fun v => f37_22 F (f37_23 F kf37l2 kf37j14) kf37l2 kf37j14 v
theorem f37_24_eq (F : Nat) (Rf37l2 : St → Rz) (Rf37j14 : St → Rz) : ∀ v,aexec VG2237 (Af37 F) (bp Try.f37 7123) (ef37j9 v) (kSeq (kc VG2237 Rf37l2 sp16) (kBlock 2 (kSeq (kc VG2237 Rf37j14 [(0,.plain),(8,.plain)]) (kFin VG2237 (some [(4,(.own 22))]) (Try.f37).results.toList)))) = f37_24 F (Rf37l2 ∘ ef37l2) (Rf37j14 ∘ ef37j14) v :=
  seq_cut (by kernel_rfl) (by kernel_rfl) ef37j9 ef37j13 _ (fun k => f37_22 F k (Rf37l2 ∘ ef37l2) (Rf37j14 ∘ ef37j14)) (f37_23 F (Rf37l2 ∘ ef37l2) (Rf37j14 ∘ ef37j14))
    (fun Rf37j13 => f37_22_eq F Rf37j13 Rf37l2 Rf37j14) (f37_23_eq F Rf37l2 Rf37j14)
def f37_25 (F : Nat) (kf37l2 : Ty28 → Rz) (kf37j14 : Ty33 → Rz) : Ty29 → Rz := fun v => f37_12 F (f37_24 F kf37l2 kf37j14) kf37l2 kf37j14 v
theorem f37_25_eq (F : Nat) (Rf37l2 : St → Rz) (Rf37j14 : St → Rz) : ∀ v,aexec VG2237 (Af37 F) (bp Try.f37 3561) (ef37j8 v) (kSeq (kc VG2237 Rf37l2 sp16) (kBlock 2 (kSeq (kc VG2237 Rf37j14 [(0,.plain),(8,.plain)]) (kFin VG2237 (some [(4,(.own 22))]) (Try.f37).results.toList)))) = f37_25 F (Rf37l2 ∘ ef37l2) (Rf37j14 ∘ ef37j14) v :=
  seq_cut (by kernel_rfl) (by kernel_rfl) ef37j8 ef37j9 _ (fun k => f37_12 F k (Rf37l2 ∘ ef37l2) (Rf37j14 ∘ ef37j14)) (f37_24 F (Rf37l2 ∘ ef37l2) (Rf37j14 ∘ ef37j14))
    (fun Rf37j9 => f37_12_eq F Rf37j9 Rf37l2 Rf37j14) (f37_24_eq F Rf37l2 Rf37j14)
def f37_26 (F : Nat) (kf37l2 : Ty28 → Rz) (kf37j14 : Ty33 → Rz) : Ty28 → Rz := fun v => f37_11 F (f37_25 F kf37l2 kf37j14) kf37l2 kf37j14 v
theorem f37_26_eq (F : Nat) (Rf37l2 : St → Rz) (Rf37j14 : St → Rz) : ∀ v,aexec VG2237 (Af37 F) (bp Try.f37 1780) (ef37l2 v) (kSeq (kc VG2237 Rf37l2 sp16) (kBlock 2 (kSeq (kc VG2237 Rf37j14 [(0,.plain),(8,.plain)]) (kFin VG2237 (some [(4,(.own 22))]) (Try.f37).results.toList)))) = f37_26 F (Rf37l2 ∘ ef37l2) (Rf37j14 ∘ ef37j14) v :=
  seq_cut (by kernel_rfl) (by kernel_rfl) ef37l2 ef37j8 _ (fun k => f37_11 F k (Rf37l2 ∘ ef37l2) (Rf37j14 ∘ ef37j14)) (f37_25 F (Rf37l2 ∘ ef37l2) (Rf37j14 ∘ ef37j14))
    (fun Rf37j8 => f37_11_eq F Rf37j8 Rf37l2 Rf37j14) (f37_25_eq F Rf37l2 Rf37j14)
def f37_27_i : Ty28 → (List Int) × (List (List Int)) × Int × Int × (List (List Int × List Int)) := fun (t0,t37,t38,t39,x5) => (t0,t37,t38,t39,x5)
def f37_27 (F : Nat) (kf37j14 : Ty33 → Rz) : Ty28 → Rz := fun v => loopN (fun k => f37_26 F k kf37j14) F (f37_27_i v)
theorem f37_27_eq (F : Nat) (Rf37j14 : St → Rz) : ∀ v,aexec VG2237 (Af37 F) (bp Try.f37 890) (ef37j7 v) (kBlock 2 (kSeq (kc VG2237 Rf37j14 [(0,.plain),(8,.plain)]) (kFin VG2237 (some [(4,(.own 22))]) (Try.f37).results.toList))) = f37_27 F (Rf37j14 ∘ ef37j14) v :=
  loop_cut (by kernel_rfl) (by kernel_rfl) ef37j7 ef37l2 _ f37_27_i (fun k => f37_26 F k (Rf37j14 ∘ ef37j14))
    (by rintro ⟨t0,t37,t38,t39,x5⟩; kernel_rfl) (fun Rf37l2 => f37_26_eq F Rf37l2 Rf37j14)
def f37_28 (F : Nat) (kf37j14 : Ty33 → Rz) : Ty28 → Rz := f37_27 F kf37j14
theorem f37_28_eq (F : Nat) (Rf37j14 : St → Rz) : ∀ v,aexec VG2237 (Af37 F) (bp Try.f37 445) (ef37j7 v) (kSeq (kc VG2237 Rf37j14 [(0,.plain),(8,.plain)]) (kFin VG2237 (some [(4,(.own 22))]) (Try.f37).results.toList)) = f37_28 F (Rf37j14 ∘ ef37j14) v := fun v =>
  (block_in  (by kernel_rfl) _ _).trans (f37_27_eq F Rf37j14 v)
def f37_29 (F : Nat) (kf37j14 : Ty33 → Rz) : Ty26 → Rz := fun v => f37_10 F (f37_28 F kf37j14) kf37j14 v
theorem f37_29_eq (F : Nat) (Rf37j14 : St → Rz) : ∀ v,aexec VG2237 (Af37 F) (bp Try.f37 222) (ef37j6 v) (kSeq (kc VG2237 Rf37j14 [(0,.plain),(8,.plain)]) (kFin VG2237 (some [(4,(.own 22))]) (Try.f37).results.toList)) = f37_29 F (Rf37j14 ∘ ef37j14) v :=
  seq_cut (by kernel_rfl) (by kernel_rfl) ef37j6 ef37j7 _ (fun k => f37_10 F k (Rf37j14 ∘ ef37j14)) (f37_28 F (Rf37j14 ∘ ef37j14))
    (fun Rf37j7 => f37_10_eq F Rf37j7 Rf37j14) (f37_28_eq F Rf37j14)
def f37_30 (F : Nat) (kf37j15 : Ty34 → Rz) : Ty33 → Rz := fun (t0,x2) => (kf37j15 (t0,[],x2))
theorem f37_30_eq (F : Nat) (Rf37j15 : St → Rz) : ∀ v,aexec VG2237 (Af37 F) (bp Try.f37 446) (ef37j14 v) (kSeq (kc VG2237 Rf37j15 sp24) (kFin VG2237 (some [(4,(.own 22))]) (Try.f37).results.toList)) = f37_30 F (Rf37j15 ∘ ef37j15) v := by
  rintro ⟨t0,x2⟩; kernel_rfl
def f37_31 (F : Nat) (kf37j16 : Ty34 → Rz) : Ty34 → Rz := fun (t0,x2,x3) => (kf37j16 (t0,x2,x3))
theorem f37_31_eq (F : Nat) (Rf37j16 : St → Rz) : ∀ v,aexec VG2237 (Af37 F) (bp Try.f37 894) (ef37j15 v) (kSeq (kc VG2237 Rf37j16 sp25) (kFin VG2237 (some [(4,(.own 22))]) (Try.f37).results.toList)) = f37_31 F (Rf37j16 ∘ ef37j16) v := by
  rintro ⟨t0,x2,x3⟩; kernel_rfl
def f37_32 (F : Nat) (kf37j17 : Ty35 → Rz) (kf37j18 : Ty37 → Rz) : Ty34 → Rz := fun (t0,x2,x3) => (kf37j17 (t0,(↑t0.length : Int),(0 : Int),x2,x3))
theorem f37_32_eq (F : Nat) (Rf37j17 : St → Rz) (Rf37j18 : St → Rz) : ∀ v,aexec VG2237 (Af37 F) (bp Try.f37 3580) (ef37j16 v) (kSeq (kc VG2237 Rf37j17 sp26) (kSeq (kc VG2237 Rf37j18 [(17,.mfix),(18,.plain)]) (kFin VG2237 (some [(4,(.own 22))]) (Try.f37).results.toList))) = f37_32 F (Rf37j17 ∘ ef37j17) (Rf37j18 ∘ ef37j18) v := by
  rintro ⟨t0,x2,x3⟩; kernel_rfl
def f37_33 (F : Nat) (kf37l4 : Ty36 → Rz) (kf37j18 : Ty37 → Rz) : Ty36 → Rz := fun (t73,t74,t75,x4,x5,x6) => (cond (decide (t75 < t74)) (cond ((decide (0 ≤ t75)) && (decide (t75 < (↑t73.length : Int)))) (cond (Isl.fok x6 (t73.getD (Int.toNat t75) 0)) (cond ((↑(mget [] x4 [(Isl.fv x6 (t73.getD (Int.toNat t75) 0))]).length : Int) == (0 : Int)) (cond (decide ((x5.length + 1) < 1073741824)) (cond (decide (((mget [] x4 [(Isl.fv x6 (t73.getD (Int.toNat t75) 0))]).length + 1) < 1073741824)) (cond ((([(Isl.fv x6 (t73.getD (Int.toNat t75) 0))] : List Int) == [(Isl.fv x6 (t73.getD (Int.toNat t75) 0))]) && (decide (0 < ((mget [] x4 [(Isl.fv x6 (t73.getD (Int.toNat t75) 0))]) ++ [(t73.getD (Int.toNat t75) 0)]).length))) (kf37l4 (t73,t74,(IntKind.i64.wrap (t75 + (1 : Int))),(mput x4 [(Isl.fv x6 (t73.getD (Int.toNat t75) 0))] ((mget [] x4 [(Isl.fv x6 (t73.getD (Int.toNat t75) 0))]) ++ [(t73.getD (Int.toNat t75) 0)])),(x5 ++ [(Isl.fv x6 (t73.getD (Int.toNat t75) 0))]),(Isl.fe x6 (t73.getD (Int.toNat t75) 0)))) none) none) none) (cond (decide (((mget [] x4 [(Isl.fv x6 (t73.getD (Int.toNat t75) 0))]).length + 1) < 1073741824)) (cond ((([(Isl.fv x6 (t73.getD (Int.toNat t75) 0))] : List Int) == [(Isl.fv x6 (t73.getD (Int.toNat t75) 0))]) && (decide (0 < ((mget [] x4 [(Isl.fv x6 (t73.getD (Int.toNat t75) 0))]) ++ [(t73.getD (Int.toNat t75) 0)]).length))) (kf37l4 (t73,t74,(IntKind.i64.wrap (t75 + (1 : Int))),(mput x4 [(Isl.fv x6 (t73.getD (Int.toNat t75) 0))] ((mget [] x4 [(Isl.fv x6 (t73.getD (Int.toNat t75) 0))]) ++ [(t73.getD (Int.toNat t75) 0)])),x5,(Isl.fe x6 (t73.getD (Int.toNat t75) 0)))) none) none)) none) none) (kf37j18 (x4,x5)))
theorem f37_33_eq (F : Nat) (Rf37l4 : St → Rz) (Rf37j18 : St → Rz) : ∀ v,aexec VG2237 (Af37 F) (bp Try.f37 14324) (ef37l4 v) (kSeq (kc VG2237 Rf37l4 sp18) (kBlock 6 (kSeq (kc VG2237 Rf37j18 [(17,.mfix),(18,.plain)]) (kFin VG2237 (some [(4,(.own 22))]) (Try.f37).results.toList)))) = f37_33 F (Rf37l4 ∘ ef37l4) (Rf37j18 ∘ ef37j18) v := by
  rintro ⟨t73,t74,t75,x4,x5,x6⟩; kernel_rfl
def f37_34_i : Ty35 → (List Int) × Int × Int × (List (List Int × List Int)) × (List Int) × (List (List Int × List Int)) := fun (t73,t74,t75,x4,x5) => (t73,t74,t75,x4,[],x5)
def f37_34 (F : Nat) (kf37j18 : Ty37 → Rz) : Ty35 → Rz := fun v => loopN (fun k => f37_33 F k kf37j18) F (f37_34_i v)
theorem f37_34_eq (F : Nat) (Rf37j18 : St → Rz) : ∀ v,aexec VG2237 (Af37 F) (bp Try.f37 7162) (ef37j17 v) (kBlock 6 (kSeq (kc VG2237 Rf37j18 [(17,.mfix),(18,.plain)]) (kFin VG2237 (some [(4,(.own 22))]) (Try.f37).results.toList))) = f37_34 F (Rf37j18 ∘ ef37j18) v :=
  loop_cut (by kernel_rfl) (by kernel_rfl) ef37j17 ef37l4 _ f37_34_i (fun k => f37_33 F k (Rf37j18 ∘ ef37j18))
    (by rintro ⟨t73,t74,t75,x4,x5⟩; kernel_rfl) (fun Rf37l4 => f37_33_eq F Rf37l4 Rf37j18)
def f37_35 (F : Nat) (kf37j18 : Ty37 → Rz) : Ty35 → Rz := f37_34 F kf37j18
theorem f37_35_eq (F : Nat) (Rf37j18 : St → Rz) : ∀ v,aexec VG2237 (Af37 F) (bp Try.f37 3581) (ef37j17 v) (kSeq (kc VG2237 Rf37j18 [(17,.mfix),(18,.plain)]) (kFin VG2237 (some [(4,(.own 22))]) (Try.f37).results.toList)) = f37_35 F (Rf37j18 ∘ ef37j18) v := fun v =>
  (block_in  (by kernel_rfl) _ _).trans (f37_34_eq F Rf37j18 v)
def f37_36 (F : Nat) (kf37j18 : Ty37 → Rz) : Ty34 → Rz := fun v => f37_32 F (f37_35 F kf37j18) kf37j18 v
theorem f37_36_eq (F : Nat) (Rf37j18 : St → Rz) : ∀ v,aexec VG2237 (Af37 F) (bp Try.f37 1790) (ef37j16 v) (kSeq (kc VG2237 Rf37j18 [(17,.mfix),(18,.plain)]) (kFin VG2237 (some [(4,(.own 22))]) (Try.f37).results.toList)) = f37_36 F (Rf37j18 ∘ ef37j18) v :=
  seq_cut (by kernel_rfl) (by kernel_rfl) ef37j16 ef37j17 _ (fun k => f37_32 F k (Rf37j18 ∘ ef37j18)) (f37_35 F (Rf37j18 ∘ ef37j18))
    (fun Rf37j17 => f37_32_eq F Rf37j17 Rf37j18) (f37_35_eq F Rf37j18)
def f37_37 (F : Nat) (kf37j19 : Ty37 → Rz) : Ty37 → Rz := fun (x1,x2) => (kf37j19 (x1,x2))
theorem f37_37_eq (F : Nat) (Rf37j19 : St → Rz) : ∀ v,aexec VG2237 (Af37 F) (bp Try.f37 3582) (ef37j18 v) (kSeq (kc VG2237 Rf37j19 sp27) (kFin VG2237 (some [(4,(.own 22))]) (Try.f37).results.toList)) = f37_37 F (Rf37j19 ∘ ef37j19) v := by
  rintro ⟨x1,x2⟩; kernel_rfl
def f37_38 (F : Nat) (kf37j20 : Ty38 → Rz) (kf37j21 : (List (List Int)) → Rz) : Ty37 → Rz := fun (x1,x2) => (kf37j20 ((↑x2.length : Int),(0 : Int),x1,x2))
theorem f37_38_eq (F : Nat) (Rf37j20 : St → Rz) (Rf37j21 : St → Rz) : ∀ v,aexec VG2237 (Af37 F) (bp Try.f37 14332) (ef37j19 v) (kSeq (kc VG2237 Rf37j20 sp28) (kSeq (kc VG2237 Rf37j21 [(22,.plain)]) (kFin VG2237 (some [(4,(.own 22))]) (Try.f37).results.toList))) = f37_38 F (Rf37j20 ∘ ef37j20) (Rf37j21 ∘ ef37j21) v := by
  rintro ⟨x1,x2⟩; kernel_rfl
def f37_39 (F : Nat) (kf37l5 : Ty39 → Rz) (kf37j21 : (List (List Int)) → Rz) : Ty39 → Rz := fun (t101,t102,x3,x4,x5) => (cond (decide (t102 < t101)) (cond ((decide (0 ≤ t102)) && (decide (t102 < (↑x5.length : Int)))) (cond (decide ((x4.length + 1) < 1073741824)) (kf37l5 (t101,(IntKind.i64.wrap (t102 + (1 : Int))),x3,(x4 ++ [(mget (mzero (.sl .i64)) x3 [(x5.getD (Int.toNat t102) 0)])]),x5)) none) none) (kf37j21 x4))
theorem f37_39_eq (F : Nat) (Rf37l5 : St → Rz) (Rf37j21 : St → Rz) : ∀ v,aexec VG2237 (Af37 F) (bp Try.f37 57332) (ef37l5 v) (kSeq (kc VG2237 Rf37l5 sp19) (kBlock 8 (kSeq (kc VG2237 Rf37j21 [(22,.plain)]) (kFin VG2237 (some [(4,(.own 22))]) (Try.f37).results.toList)))) = f37_39 F (Rf37l5 ∘ ef37l5) (Rf37j21 ∘ ef37j21) v := by
  rintro ⟨t101,t102,x3,x4,x5⟩; kernel_rfl
def f37_40_i : Ty38 → Int × Int × (List (List Int × List Int)) × (List (List Int)) × (List Int) := fun (t101,t102,x3,x4) => (t101,t102,x3,[],x4)
def f37_40 (F : Nat) (kf37j21 : (List (List Int)) → Rz) : Ty38 → Rz := fun v => loopN (fun k => f37_39 F k kf37j21) F (f37_40_i v)
theorem f37_40_eq (F : Nat) (Rf37j21 : St → Rz) : ∀ v,aexec VG2237 (Af37 F) (bp Try.f37 28666) (ef37j20 v) (kBlock 8 (kSeq (kc VG2237 Rf37j21 [(22,.plain)]) (kFin VG2237 (some [(4,(.own 22))]) (Try.f37).results.toList))) = f37_40 F (Rf37j21 ∘ ef37j21) v :=
  loop_cut (by kernel_rfl) (by kernel_rfl) ef37j20 ef37l5 _ f37_40_i (fun k => f37_39 F k (Rf37j21 ∘ ef37j21))
    (by rintro ⟨t101,t102,x3,x4⟩; kernel_rfl) (fun Rf37l5 => f37_39_eq F Rf37l5 Rf37j21)
def f37_41 (F : Nat) (kf37j21 : (List (List Int)) → Rz) : Ty38 → Rz := f37_40 F kf37j21
theorem f37_41_eq (F : Nat) (Rf37j21 : St → Rz) : ∀ v,aexec VG2237 (Af37 F) (bp Try.f37 14333) (ef37j20 v) (kSeq (kc VG2237 Rf37j21 [(22,.plain)]) (kFin VG2237 (some [(4,(.own 22))]) (Try.f37).results.toList)) = f37_41 F (Rf37j21 ∘ ef37j21) v := fun v =>
  (block_in  (by kernel_rfl) _ _).trans (f37_40_eq F Rf37j21 v)
def f37_42 (F : Nat) (kf37j21 : (List (List Int)) → Rz) : Ty37 → Rz := fun v => f37_38 F (f37_41 F kf37j21) kf37j21 v
theorem f37_42_eq (F : Nat) (Rf37j21 : St → Rz) : ∀ v,aexec VG2237 (Af37 F) (bp Try.f37 7166) (ef37j19 v) (kSeq (kc VG2237 Rf37j21 [(22,.plain)]) (kFin VG2237 (some [(4,(.own 22))]) (Try.f37).results.toList)) = f37_42 F (Rf37j21 ∘ ef37j21) v :=
  seq_cut (by kernel_rfl) (by kernel_rfl) ef37j19 ef37j20 _ (fun k => f37_38 F k (Rf37j21 ∘ ef37j21)) (f37_41 F (Rf37j21 ∘ ef37j21))
    (fun Rf37j20 => f37_38_eq F Rf37j20 Rf37j21) (f37_41_eq F Rf37j21)
def f37_43 (F : Nat) : (List (List Int)) → Rz := fun x1 => (some ((.own 0 0 1),[(.cells x1.length (.rL .i64 x1) true)]))
theorem f37_43_eq (F : Nat) : ∀ v,aexec VG2237 (Af37 F) (bp Try.f37 7167) (ef37j21 v) (kFin VG2237 (some [(4,(.own 22))]) (Try.f37).results.toList) = f37_43 F v := by
  intro x1; kernel_rfl
def f37_44 (F : Nat) : Ty37 → Rz := fun v => f37_42 F (f37_43 F) v
theorem f37_44_eq (F : Nat) : ∀ v,aexec VG2237 (Af37 F) (bp Try.f37 3583) (ef37j19 v) (kFin VG2237 (some [(4,(.own 22))]) (Try.f37).results.toList) = f37_44 F v :=
  seq_cut (by kernel_rfl) (by kernel_rfl) ef37j19 ef37j21 _ (fun k => f37_42 F k) (f37_43 F)
    (fun Rf37j21 => f37_42_eq F Rf37j21) (f37_43_eq F)
def f37_45 (F : Nat) : Ty37 → Rz := fun v => f37_37 F (f37_44 F) v
theorem f37_45_eq (F : Nat) : ∀ v,aexec VG2237 (Af37 F) (bp Try.f37 1791) (ef37j18 v) (kFin VG2237 (some [(4,(.own 22))]) (Try.f37).results.toList) = f37_45 F v :=
  seq_cut (by kernel_rfl) (by kernel_rfl) ef37j18 ef37j19 _ (fun k => f37_37 F k) (f37_44 F)
    (fun Rf37j19 => f37_37_eq F Rf37j19) (f37_44_eq F)
def f37_46 (F : Nat) : Ty34 → Rz := fun v => f37_36 F (f37_45 F) v
theorem f37_46_eq (F : Nat) : ∀ v,aexec VG2237 (Af37 F) (bp Try.f37 895) (ef37j16 v) (kFin VG2237 (some [(4,(.own 22))]) (Try.f37).results.toList) = f37_46 F v :=
  seq_cut (by kernel_rfl) (by kernel_rfl) ef37j16 ef37j18 _ (fun k => f37_36 F k) (f37_45 F)
    (fun Rf37j18 => f37_36_eq F Rf37j18) (f37_45_eq F)
def f37_47 (F : Nat) : Ty34 → Rz := fun v => f37_31 F (f37_46 F) v
theorem f37_47_eq (F : Nat) : ∀ v,aexec VG2237 (Af37 F) (bp Try.f37 447) (ef37j15 v) (kFin VG2237 (some [(4,(.own 22))]) (Try.f37).results.toList) = f37_47 F v :=
  seq_cut (by kernel_rfl) (by kernel_rfl) ef37j15 ef37j16 _ (fun k => f37_31 F k) (f37_46 F)
    (fun Rf37j16 => f37_31_eq F Rf37j16) (f37_46_eq F)
def f37_48 (F : Nat) : Ty33 → Rz := fun v => f37_30 F (f37_47 F) v
theorem f37_48_eq (F : Nat) : ∀ v,aexec VG2237 (Af37 F) (bp Try.f37 223) (ef37j14 v) (kFin VG2237 (some [(4,(.own 22))]) (Try.f37).results.toList) = f37_48 F v :=
  seq_cut (by kernel_rfl) (by kernel_rfl) ef37j14 ef37j15 _ (fun k => f37_30 F k) (f37_47 F)
    (fun Rf37j15 => f37_30_eq F Rf37j15) (f37_47_eq F)
def f37_49 (F : Nat) : Ty26 → Rz := fun v => f37_29 F (f37_48 F) v
theorem f37_49_eq (F : Nat) : ∀ v,aexec VG2237 (Af37 F) (bp Try.f37 111) (ef37j6 v) (kFin VG2237 (some [(4,(.own 22))]) (Try.f37).results.toList) = f37_49 F v :=
  seq_cut (by kernel_rfl) (by kernel_rfl) ef37j6 ef37j14 _ (fun k => f37_29 F k) (f37_48 F)
    (fun Rf37j14 => f37_29_eq F Rf37j14) (f37_48_eq F)
def f37_50 (F : Nat) : Ty26 → Rz := fun v => f37_9 F (f37_49 F) v
theorem f37_50_eq (F : Nat) : ∀ v,aexec VG2237 (Af37 F) (bp Try.f37 55) (ef37j5 v) (kFin VG2237 (some [(4,(.own 22))]) (Try.f37).results.toList) = f37_50 F v :=
  seq_cut (by kernel_rfl) (by kernel_rfl) ef37j5 ef37j6 _ (fun k => f37_9 F k) (f37_49 F)
    (fun Rf37j6 => f37_9_eq F Rf37j6) (f37_49_eq F)
def f37_51 (F : Nat) : Ty26 → Rz := fun v => f37_8 F (f37_50 F) v
theorem f37_51_eq (F : Nat) : ∀ v,aexec VG2237 (Af37 F) (bp Try.f37 27) (ef37j4 v) (kFin VG2237 (some [(4,(.own 22))]) (Try.f37).results.toList) = f37_51 F v :=
  seq_cut (by kernel_rfl) (by kernel_rfl) ef37j4 ef37j5 _ (fun k => f37_8 F k) (f37_50 F)
    (fun Rf37j5 => f37_8_eq F Rf37j5) (f37_50_eq F)
def f37_52 (F : Nat) : Ty26 → Rz := fun v => f37_7 F (f37_51 F) v
theorem f37_52_eq (F : Nat) : ∀ v,aexec VG2237 (Af37 F) (bp Try.f37 13) (ef37j2 v) (kFin VG2237 (some [(4,(.own 22))]) (Try.f37).results.toList) = f37_52 F v :=
  seq_cut (by kernel_rfl) (by kernel_rfl) ef37j2 ef37j4 _ (fun k => f37_7 F k) (f37_51 F)
    (fun Rf37j4 => f37_7_eq F Rf37j4) (f37_51_eq F)
def f37_53 (F : Nat) : Ty25 → Rz := fun v => f37_2 F (f37_52 F) v
theorem f37_53_eq (F : Nat) : ∀ v,aexec VG2237 (Af37 F) (bp Try.f37 6) (ef37j1 v) (kFin VG2237 (some [(4,(.own 22))]) (Try.f37).results.toList) = f37_53 F v :=
  seq_cut (by kernel_rfl) (by kernel_rfl) ef37j1 ef37j2 _ (fun k => f37_2 F k) (f37_52 F)
    (fun Rf37j2 => f37_2_eq F Rf37j2) (f37_52_eq F)
def f37_54 (F : Nat) : Ty25 → Rz := f37_53 F
theorem f37_54_eq (F : Nat) : ∀ v,aexec VG2237 (Af37 F) (bp Try.f37 3) (ef37j1 v) (kFin VG2237 (some [(4,(.own 22))]) (Try.f37).results.toList) = f37_54 F v := fun v =>
  (scope_in  (by kernel_rfl) _ _).trans (f37_53_eq F v)
def f37_55 (F : Nat) : Ty25 → Rz := fun v => f37_1 F (f37_54 F) v
theorem f37_55_eq (F : Nat) : ∀ v,aexec VG2237 (Af37 F) (sub (bodyOf Try.f37) []) (ef37_a v) (kFin VG2237 (some [(4,(.own 22))]) (Try.f37).results.toList) = f37_55 F v :=
  seq_cut (by kernel_rfl) (by kernel_rfl) ef37_a ef37j1 _ (fun k => f37_1 F k) (f37_54 F)
    (fun Rf37j1 => f37_1_eq F Rf37j1) (f37_54_eq F)
def f37 (F : Nat) : Ty25 → Rz := f37_55 F
theorem f37_body (F : Nat) (a0 : List Int) (a1 : List (List Int)) : abody VG2237 (Af37 F) Try.f37 [(.vs (.rI .i64 a0) 0 1),(.vs (.rL .i64 a1) 0 1)] [] = f37 F (a0,a1) :=
  (abody_in (c := (sub (bodyOf Try.f37) [])) (by kernel_rfl) (s := ef37_a (a0,a1)) (by kernel_rfl)).trans (f37_55_eq F (a0,a1))
def r37 : CRun := fun X H => match X,H with
  | [(.vs (.rI .i64 a0) 0 1),(.vs (.rL .i64 a1) 0 1)],[] => some (((decide (a0.length < 1073740000)) && (Isl.inc a0)),(.own 0 0 1),[(.cells (Isl.clss a0 a1).length (.rL .i64 (Isl.clss a0 a1)) true)])
  | _,_ => none
theorem s37 (a0 : List Int) (a1 : List (List Int)) (hp : (((decide (a0.length < 1073740000)) && (Isl.inc a0))) = true) (h0 : okV (.vs (.rI .i64 a0) 0 1)) (h1 : okV (.vs (.rL .i64 a1) 0 1)) : ∃ F,f37 F (a0,a1) = some ((.own 0 0 1),[(.cells (Isl.clss a0 a1).length (.rL .i64 (Isl.clss a0 a1)) true)]) := by
  simp only [Bool.and_eq_true,decide_eq_true_eq] at hp
  have hs := Isl.inc_iff.1 hp.2
  have hnd := hs.nodup
  have hl1 := h1.2
  obtain ⟨F,hF⟩ : ∃ F,F = 4611686018427387914 := ⟨_,rfl⟩
  refine ⟨F,?_⟩
  have fin : ∀ (ρ : Int → Int) (g : Isl.Ents),(∀ q,mget [] g [q] = Isl.gOf ρ a0 q) → (∀ x ∈ a0,∀ y ∈ a0,ρ x = ρ y ↔ Isl.Conn a0 a1 x y) →
      f37_45 F (g,Isl.oOf ρ [] a0) = some ((.own 0 0 1),[(.cells (Isl.clss a0 a1).length (.rL .i64 (Isl.clss a0 a1)) true)]) := by
    intro ρ g hg hc
    have hol := Isl.oOf_len ρ a0 []
    rw [← Isl.groups_eq hs hc]
    generalize Isl.oOf ρ [] a0 = o at hol
    simp only [f37_37,f37_38,f37_40_i,f37_40,f37_41,f37_42,f37_43,f37_44,f37_45]
    refine loopN_from (fun i => ((o.length : Int),(i : Int),g,(o.take i).map (Isl.gOf ρ a0),o)) o.length (by rfl) (fun i hi k => ?_) (fun k => ?_) _ (by omega)
    · have e : mget (mzero (.sl .i64)) g [o.getD i 0] = Isl.gOf ρ a0 (o.getD i 0) := hg _
      simp only [f37_39,dec_and,Int.toNat_natCast,e]
      rw [cond_pos (by omega),cond_pos (by omega),cond_pos (by simp; omega),i64w (by omega) (by omega),← Reg.take_get o 0 i hi,List.map_append]
      rfl
    · simp only [f37_39,f37_37,f37_38,f37_40_i,f37_40,f37_41,f37_42,f37_43,f37_44,f37_45]
      rw [cond_neg (by omega),List.take_length]
  have grp : ∀ p,Isl.UF a0 a1 a1 p → f37_48 F (a0,Isl.tab a0 p) = some ((.own 0 0 1),[(.cells (Isl.clss a0 a1).length (.rL .i64 (Isl.clss a0 a1)) true)]) := by
    intro p hp'
    simp only [f37_30,f37_31,f37_32,f37_34_i,f37_34,f37_35,f37_36,f37_46,f37_47,f37_48]
    refine loopN_ind (fun m s => ∃ (g : Isl.Ents) (p' : Int → Int),s = (a0,(a0.length : Int),((a0.length - m : Nat) : Int),g,Isl.oOf (Isl.rt p) [] (a0.take (a0.length - m)),Isl.tab a0 p') ∧ m ≤ a0.length ∧ (∀ q,mget [] g [q] = Isl.gOf (Isl.rt p) (a0.take (a0.length - m)) q) ∧ (∃ rk,Isl.Fr a0 p' rk) ∧ ∀ y ∈ a0,Isl.rt p' y = Isl.rt p y)
      ?_ _ a0.length _ (by omega) ⟨[],p,by rw [Nat.sub_self]; rfl,Nat.le_refl _,fun q => by rw [Nat.sub_self]; rfl,hp'.fr,fun _ _ => rfl⟩
    rintro m s k ⟨g,p',rfl,hm,hg,hfr,hrt⟩ hk
    simp only [f37_33,dec_and,Int.toNat_natCast]
    cases m with
    | zero =>
      rw [Nat.sub_zero,List.take_length] at hg ⊢
      rw [cond_neg (by omega)]
      exact fin (Isl.rt p) g hg fun x hx y hy => hp'.conn hx hy
    | succ m =>
      have hi : a0.length - (m + 1) < a0.length := by omega
      have hx := Isl.getD_mem hi
      have ht := Reg.take_get a0 0 _ hi
      rw [show a0.length - (m + 1) + 1 = a0.length - m by omega] at ht
      have hpl : (a0.take (a0.length - (m + 1))).length = a0.length - (m + 1) := by rw [List.length_take]; omega
      have hol := Isl.oOf_len (Isl.rt p) (a0.take (a0.length - (m + 1))) []
      have hos := Isl.oOf_snoc (Isl.rt p) (a0.getD (a0.length - (m + 1)) 0) (a0.take (a0.length - (m + 1))) []
      rw [ht,List.nil_append] at hos
      generalize a0.take (a0.length - (m + 1)) = pre at hg ht hpl hol hos
      obtain ⟨x,ex⟩ : ∃ x,a0.getD (a0.length - (m + 1)) 0 = x := ⟨_,rfl⟩
      simp only [ex] at hx ht hos ⊢
      obtain ⟨p2,f1,f2,f3,f4,f5,_⟩ := Isl.find_ok hnd hfr hx
      rw [hrt x hx] at f2
      have hgl : (Isl.gOf (Isl.rt p) pre (Isl.rt p x)).length ≤ pre.length := List.length_filter_le _ _
      rw [cond_pos (by omega),cond_pos (by omega)]
      simp only [f1,f2,f3,cond_true,hg,int_beq]
      rw [i64w (by omega) (by omega),show ((a0.length - (m + 1) : Nat) : Int) + 1 = ((a0.length - m : Nat) : Int) by omega]
      have hq : ∀ q,mget [] (mput g [Isl.rt p x] (Isl.gOf (Isl.rt p) pre (Isl.rt p x) ++ [x])) [q] = Isl.gOf (Isl.rt p) (a0.take (a0.length - m)) q := fun q => by
        rw [Isl.mget_mput,hg,← ht,Isl.gOf_snoc]
        by_cases h : q = Isl.rt p x
        · rw [if_pos (by rw [h]),if_pos h,h]
        · rw [if_neg (by simpa using h),if_neg h]
      have hl0 : (([Isl.rt p x] : List Int) == [Isl.rt p x] && decide (0 < (Isl.gOf (Isl.rt p) pre (Isl.rt p x) ++ [x]).length)) = true := by simp
      simp only [hl0,cond_true]
      by_cases h : ((Isl.gOf (Isl.rt p) pre (Isl.rt p x)).length : Int) = 0
      · rw [cond_pos h,cond_pos (by omega),cond_pos (by omega)]
        refine hk m _ (by omega) ⟨_,p2,?_,by omega,hq,f4,fun y hy => (f5 y hy).trans (hrt y hy)⟩
        rw [hos,if_pos (by omega)]
      · rw [cond_neg h,cond_pos (by omega)]
        refine hk m _ (by omega) ⟨_,p2,?_,by omega,hq,f4,fun y hy => (f5 y hy).trans (hrt y hy)⟩
        rw [hos,if_neg (by omega),List.append_nil]
  simp only [f37_1,f37_2,f37_3,f37_5_i,f37_5,f37_6,f37_7,f37_8,f37_9,f37_10,f37_11,f37_12,f37_13,f37_14,f37_15,f37_16,f37_17_i,f37_17,f37_18,f37_19,f37_20,f37_21,f37_22,f37_23,f37_24,f37_25,f37_26,f37_27_i,f37_27,f37_28,f37_29,f37_30,f37_31,f37_32,f37_33,f37_34_i,f37_34,f37_35,f37_36,f37_37,f37_38,f37_39,f37_40_i,f37_40,f37_41,f37_42,f37_43,f37_44,f37_45,f37_46,f37_47,f37_48,f37_49,f37_50,f37_51,f37_52,f37_53,f37_54,f37_55,f37,f37_8,f37_9,f37_10,f37_25,f37_26,f37_27_i,f37_27,f37_28,f37_29,f37_49,f37_50,f37_51]
  refine loopN_from (fun i => (a0,a1,a0,(a0.length : Int),(i : Int),Isl.tab (a0.take i) fun x => x)) a0.length (by rfl) (fun i hi k => ?_) (fun k => ?_) _ (by omega)
  · have hx : a0.getD i 0 ∉ a0.take i := by
      have hn := hnd
      rw [← List.take_append_drop i a0,Isl.drop_get hi] at hn
      intro h'
      exact (List.nodup_append.1 hn).2.2 _ h' _ (List.mem_cons_self ..) rfl
    have e := Isl.tab_snoc (fun x => x) hx
    rw [Reg.take_get a0 0 i hi] at e
    simp only [f37_4,dec_and,Int.toNat_natCast]
    rw [cond_pos (by omega),cond_pos (by omega),i64w (by omega) (by omega)]
    rw [e]
    rfl
  simp only [f37_4,f37_8,f37_9,f37_10,f37_25,f37_26,f37_27_i,f37_27,f37_28,f37_29,f37_49,f37_50,f37_51]
  rw [cond_neg (by omega),List.take_length]
  refine loopN_ind (fun m s => ∃ p : Int → Int,s = (a0,a1,(a1.length : Int),((a1.length - m : Nat) : Int),Isl.tab a0 p) ∧ m ≤ a1.length ∧ Isl.UF a0 a1 (a1.take (a1.length - m)) p) ?_ _ a1.length _ (by omega) ⟨_,by rw [Nat.sub_self]; rfl,Nat.le_refl _,by rw [Nat.sub_self]; exact Isl.UF.start⟩
  rintro m s k ⟨p,rfl,hm,hu⟩ hk
  simp only [f37_11,f37_12,f37_13,f37_14,f37_15,f37_17_i,f37_17,f37_18,f37_19,f37_20,f37_21,f37_22,f37_23,f37_24,f37_25,f37_26,f37_27_i,f37_27,f37_28]
  cases m with
  | zero =>
    rw [Nat.sub_zero,List.take_length] at hu
    rw [cond_neg (by omega)]
    exact grp p hu
  | succ m =>
    have hi : a1.length - (m + 1) < a1.length := by omega
    have ht := Reg.take_get a1 [] _ hi
    rw [show a1.length - (m + 1) + 1 = a1.length - m by omega] at ht
    have hl : a1.getD (a1.length - (m + 1)) [] ∈ a1 := by rw [List.getD_eq_getElem?_getD,List.getElem?_eq_getElem hi]; exact List.getElem_mem hi
    have hll := (h1.1 _ hl).2
    simp only [dec_and,Int.toNat_natCast]
    rw [cond_pos (by omega),cond_pos (by omega)]
    generalize a1.getD (a1.length - (m + 1)) [] = l at hl ht hll
    generalize a1.take (a1.length - (m + 1)) = dn at hu ht
    have nxt : ∀ p',Isl.UF a0 a1 (dn ++ [l]) p' → k (a0,a1,(a1.length : Int),IntKind.i64.wrap (((a1.length - (m + 1) : Nat) : Int) + 1),Isl.tab a0 p') = some ((.own 0 0 1),[(.cells (Isl.clss a0 a1).length (.rL .i64 (Isl.clss a0 a1)) true)]) := fun p' hu' => by
      rw [i64w (by omega) (by omega),show ((a1.length - (m + 1) : Nat) : Int) + 1 = ((a1.length - m : Nat) : Int) by omega]
      exact hk m _ (by omega) ⟨p',rfl,by omega,by rw [← ht]; exact hu'⟩
    refine loopN_ind (fun q s => ∃ (p' : Int → Int) (f : Int) (b : Bool),s = (a0,f,b,a1,(a1.length : Int),((a1.length - (m + 1) : Nat) : Int),l,(l.length : Int),((l.length - q : Nat) : Int),Isl.tab a0 p') ∧ q ≤ l.length ∧ Isl.InL a0 a1 dn l (l.take (l.length - q)) p' f b) ?_ _ l.length _ (by omega)
      ⟨p,0,false,by rw [Nat.sub_self]; rfl,Nat.le_refl _,by rw [Nat.sub_self]; exact ⟨hu,fun _ y hy => by simp at hy,fun h => by cases h⟩⟩
    rintro q s k2 ⟨p',f,b,rfl,hq,hin⟩ hk2
    simp only [f37_16,dec_and,Int.toNat_natCast]
    cases q with
    | zero =>
      rw [Nat.sub_zero,List.take_length] at hin
      rw [cond_neg (by omega)]
      exact nxt p' hin.done
    | succ q =>
      have hj : l.length - (q + 1) < l.length := by omega
      have hy := Isl.getD_mem hj
      have htl := Reg.take_get l 0 _ hj
      rw [show l.length - (q + 1) + 1 = l.length - q by omega] at htl
      have hw : IntKind.i64.wrap (((l.length - (q + 1) : Nat) : Int) + 1) = ((l.length - q : Nat) : Int) := by rw [i64w (by omega) (by omega)]; omega
      rw [cond_pos (by omega),cond_pos (by omega)]
      obtain ⟨y,ey⟩ : ∃ y,l.getD (l.length - (q + 1)) 0 = y := ⟨_,rfl⟩
      simp only [ey] at hy htl ⊢
      simp only [Isl.mhas_tab,hw]
      cases hh : a0.any (fun z => z == y) with
      | false =>
        simp only [Bool.not_false,cond_true]
        exact hk2 q _ (by omega) ⟨p',f,b,rfl,by omega,by rw [← htl]; exact hin.skip (Isl.any_false.1 hh)⟩
      | true =>
        have hys := Isl.any_iff.1 hh
        simp only [Bool.not_true,cond_false]
        cases b with
        | false =>
          simp only [Bool.not_false,cond_true]
          exact hk2 q _ (by omega) ⟨p',y,true,rfl,by omega,by rw [← htl]; exact hin.first hys hy⟩
        | true =>
          obtain ⟨p2,c1,c2,c3,c4⟩ := hin.join hnd hl hys hy
          simp only [Bool.not_true,cond_false,c1,c2,c3,cond_true,Isl.tab_len,int_beq]
          rw [cond_pos (by omega)]
          by_cases h1' : (a0.length : Int) = 1
          · rw [cond_pos h1']
            exact nxt p2 (c4.alone (by omega))
          · rw [cond_neg h1']
            exact hk2 q _ (by omega) ⟨p2,f,true,rfl,by omega,by rw [← htl]; exact c4⟩
theorem c37 : CallOk Try.prog G22 37 r37 := callOk_of (V := VG2237) mixed tys eVG2237 (f := 37) (fn := Try.f37) Try.func37 (by kernel_rfl) (c := sub (bodyOf Try.f37) []) (by kernel_rfl) (by
  intro X H r H' h hX hH
  unfold r37 at h; split at h <;> try contradiction
  · simp only [Option.some.injEq,Prod.mk.injEq] at h
    obtain ⟨hp,rfl,rfl⟩ := h
    obtain ⟨F,hF⟩ := s37 _ _ hp (hX _ (.head _)) (hX _ (.tail _ (.head _)))
    exact ⟨Af37 F,(f37_body F _ _).trans hF⟩)
end
end Go.Am
end