/- Builtins: len, copy, append, min, max. -/
import Derived.Test.YtnbgphghghmemaaAmOps9
set_option linter.unusedVariables false
set_option linter.unusedSimpArgs false
namespace Go.Am
open Go
variable {P : Program} {V : Env} {U : Oth} {w0 : World} {W0 : Nat → Prop} {o : Oper} {ρ ρ' : Rho} {s s' : St} {a : Act} {w w' : World} {av : AV}

theorem Sim.same (h : Sim U V.G w0 W0 ρ s a w) {id n : Nat} {r : AV} {b : Bool} (hl : lkH id s.heap = .cells n r b) :
    Sim U V.G w0 W0 ρ (s.setH id (.cells n r b)) a w ∧ (∀ x v, Rep w (Wr U ρ s.heap) ρ x v → Rep w (Wr U ρ (s.setH id (.cells n r b)).heap) ρ x v) := by
  have e : ∀ i, lkH i (s.setH id (.cells n r b)).heap = lkH i s.heap := fun i => by
    simp only [St.setH]; rw [lkH_put]; split
    · rename_i h; rw [h, hl]
    · rfl
  have wo : ∀ c, WrO ρ (s.setH id (.cells n r b)).heap c → WrO ρ s.heap c ∨ w.heap.size ≤ c := by
    rintro c ⟨i, n', r', L, h1, h2, h3⟩
    rw [e] at h1; exact .inl ⟨i, n', r', L, h1, h2, h3⟩
  refine ⟨h.step (fun _ _ _ => rfl) wo (fun _ _ h => h) (Nat.le_refl _) (WSame.refl _) ?_ ?_ ?_ ?_, fun x v hx => hx.step (fun _ _ _ => rfl) wo (fun _ _ h => h)⟩
  · intro i n' r' b' hi
    have hi' := hi
    rw [show ((id, Blk.cells n r b) :: s.heap) = (s.setH id (.cells n r b)).heap from rfl, e] at hi'
    exact (h.bl i n' r' b' hi').keep (fun _ _ _ => rfl) wo (fun _ _ h => h) (Nat.le_refl _) (fun _ _ _ => rfl)
  · intro i i' n1 r1 n2 r2 b2 L1 L2 h1 h2
    rw [show ((id, Blk.cells n r b) :: s.heap) = (s.setH id (.cells n r b)).heap from rfl, e] at h1 h2
    exact h.sep i i' n1 r1 n2 r2 b2 L1 L2 h1 h2
  · intro i hi; rw [hasKey_put]; simp [h.dom i hi]
  · intro i n1 r1 b1 L1 h1
    rw [show ((id, Blk.cells n r b) :: s.heap) = (s.setH id (.cells n r b)).heap from rfl, e] at h1
    exact h.su i n1 r1 b1 L1 h1

structure Eqv (s t : St) : Prop where
  tm : ∀ d, lk d s.tmps = lk d t.tmps
  hp : ∀ id, lkH id s.heap = lkH id t.heap
  key : ∀ id, hasKey id s.heap = hasKey id t.heap
  next : s.next = t.next
  nt : s.nt = t.nt
  m : s.m = t.m
section
variable {t : St}
theorem Eqv.refl (s : St) : Eqv s s := ⟨fun _ => rfl, fun _ => rfl, fun _ => rfl, rfl, rfl, rfl⟩
theorem Eqv.symm (h : Eqv s t) : Eqv t s := ⟨fun d => (h.tm d).symm, fun d => (h.hp d).symm, fun d => (h.key d).symm, h.next.symm, h.nt.symm, h.m.symm⟩
theorem Eqv.trans {u : St} (h : Eqv s t) (h' : Eqv t u) : Eqv s u := ⟨fun d => (h.tm d).trans (h'.tm d), fun d => (h.hp d).trans (h'.hp d), fun d => (h.key d).trans (h'.key d), h.next.trans h'.next, h.nt.trans h'.nt, h.m.trans h'.m⟩
theorem Wr_eqv {H H' : List (Nat × Blk)} (h : ∀ id, lkH id H = lkH id H') : Wr U ρ H = Wr U ρ H' := by
  funext b
  unfold Wr WrO
  simp only [h]
theorem Sim.eqv (hs : Sim U V.G w0 W0 ρ s a w) (h : Eqv s t) : Sim U V.G w0 W0 ρ t a w := by
  have e : Wr U ρ t.heap = Wr U ρ s.heap := Wr_eqv fun id => (h.hp id).symm
  exact {
    tm := fun d => by rw [e, ← h.tm d]; exact hs.tm d
    nt := by rw [← h.nt]; exact hs.nt
    df := hs.df
    bl := fun id n r b hl => by
      rw [← h.hp id] at hl
      have hb := hs.bl id n r b hl
      refine ⟨hb.wf, hb.size, ?_, ?_⟩ <;> rw [e]
      · exact hb.lies
      · exact hb.map
    sep := fun id id' n r n' r' b' L L' h1 h2 => by rw [← h.hp] at h1 h2; exact hs.sep id id' n r n' r' b' L L' h1 h2
    dom := fun id hid => by rw [← h.key]; exact hs.dom id hid
    fr := hs.fr
    wo := fun b hb => hs.wo b (by
      obtain ⟨id, n, r, L, h1, h2, h3⟩ := hb
      exact ⟨id, n, r, L, by rw [h.hp]; exact h1, h2, h3⟩)
    sz := hs.sz, gl := hs.gl, uo := hs.uo, ug := hs.ug
    su := fun id n r b L h1 => by rw [← h.hp] at h1; exact hs.su id n r b L h1
    ini := hs.ini
    im := fun id hid => by rw [← h.m]; exact hs.im id hid
    sm := hs.sm }

end

structure SrcOk (P : Program) (w : World) (W : Nat → Prop) (ρ : Rho) (u : Value) (ry : AV) (ny sz : Nat) : Prop where
  leaf : ry.leafB = true
  size : ry.size = ny * sz
  len : ∀ w1, (Builtin.lenOf u).run P w1 = .ok ny w1
  bound : ny < 4611686018427387904
  read : 0 < sz → ∀ n, n ≤ ny → ∃ cs : Array Value, (∀ w1, w1.heap = w.heap → (Builtin.firstCells sz n u).run P w1 = .ok cs w1) ∧ cs.size = n * sz ∧ ∀ j, j < n * sz → Rep w W ρ (ry.cell j) (cs.getD j Go.undef)

theorem src_view (h : TysOk P V.T) (hs : Sim U V.G w0 W0 ρ s a w) {e : Nat} {x : AV} {u : Value} {r : AV} {len sz : Nat} (hx : Rep w (Wr U ρ s.heap) ρ x u) (hv : view V s e x = some (r, len, sz)) :
    SrcOk P w (Wr U ρ s.heap) ρ u r len sz := by
  obtain ⟨g1, g2, g3, g4, b, cap, rfl, g5, g6⟩ := view_cells h hs hx hv
  refine ⟨g1, g2, fun w1 => rfl, g4, fun h0 n hn => ?_⟩
  by_cases hz : n * sz = 0
  · refine ⟨#[], fun w1 _ => ?_, by simp [hz], fun j hj => by omega⟩
    unfold Builtin.firstCells
    cases b with
    | none => rfl
    | some b => simp only [hz]; simp [loadCells, loadCellsFrom]
  · have hle : n * sz ≤ len * sz := Nat.mul_le_mul_right _ hn
    rcases g6 with g6 | ⟨blk, base, vals, rfl, g6, _⟩
    · omega
    · have hl := fun (w1 : World) (hw1 : w1.heap = w.heap) => run_loadCells (P := P) w1 ⟨blk, base, none⟩ (n * sz) vals (fun j hj => by
        rw [Addr.add_mk]; rw [← (g6 j (by omega)).1]; unfold World.cell?; rw [hw1])
      refine ⟨_, hl, by simp, fun j hj => ?_⟩
      rw [show (((List.range (n * sz)).map vals).toArray).getD j Go.undef = vals j by simp [Array.getD_eq_getD_getElem?, hj]]
      exact (g6 j (by omega)).2

theorem src_str {W : Nat → Prop} {xs : List Int} {u : Value} (hx : Rep w W ρ (.str xs) u) : SrcOk P w W ρ u (.rI .u8 xs) xs.length 1 := by
  cases hx with | str b hm =>
  have hl : (bytesOf b).length = b.size := bytesOf_len b
  refine ⟨rfl, by simp [AV.size], fun w1 => by rw [hl]; rfl, by rw [hl]; exact hm, fun _ n hn => ⟨_, fun _ _ => rfl, ?_, fun j hj => ?_⟩⟩
  · simp only [Array.size_map]
    have : (b.extract 0 n).size = min n b.size - 0 := by simp [ByteArray.size_extract]
    have e : (b.extract 0 n).data.size = (b.extract 0 n).size := rfl
    rw [e, this]; omega
  · have hj' : j < b.size := by omega
    have e : (b.extract 0 n).data = b.data.extract 0 n := by simp
    rw [e]
    have hsz : b.data.size = b.size := rfl
    simp only [Array.getD_eq_getD_getElem?, Array.getElem?_map, Array.getElem?_extract]
    rw [if_pos (by omega)]
    simp only [Nat.zero_add, Array.getElem?_eq_getElem (show j < b.data.size by omega), Option.map_some, Option.getD_some, AV.cell, bytesOf, List.getD_eq_getElem?_getD, List.getElem?_map, Array.getElem?_toList]
    refine .int .u8 _ ⟨?_, ?_⟩
    · simp [IntKind.min, IntKind.signed]
    · have := b.data[j].toNat_lt
      simp [IntKind.max, IntKind.signed, IntKind.bits]; omega

theorem src_ok (h : TysOk P V.T) (hs : Sim U V.G w0 W0 ρ s a w) {e : Nat} {x : AV} {u : Value} {r : AV} {len sz : Nat} (hx : Rep w (Wr U ρ s.heap) ρ x u) (hv : srcA V s e x = some (r, len, sz)) :
    SrcOk P w (Wr U ρ s.heap) ρ u r len sz := by
  unfold srcA at hv
  split at hv
  · split at hv <;> try contradiction
    simp only [Option.some.injEq, Prod.mk.injEq] at hv
    obtain ⟨rfl, rfl, rfl⟩ := hv
    exact src_str hx
  · exact src_view h hs hx hv

theorem tyD_at {T : Tys} {tys : List Nat} {j : Nat} {d : TyD} (h : tyD T tys j = d) (hd : d ≠ .other) : ∃ t, tys[j]? = some t ∧ (T.at t).d = d := by
  unfold tyD at h
  split at h
  · rename_i t ht; exact ⟨t, ht, h⟩
  · exact absurd h.symm hd

theorem run_u0 {t : Nat} {d : TypeDesc} (h : P.underlying t = some d) {tys : Array Nat} {j : Nat} (ht : tys.toList[j]? = some t) : tys[j]? = some t := by simpa using ht

theorem len_ok (h : TysOk P V.T) (hs : Sim U V.G w0 W0 ρ s a w) {tys : Array Nat} {ty : Nat} {x : AV} {u : Value} (hx : Rep w (Wr U ρ s.heap) ρ x u) {i : Nat}
    (ha : abuiltin V i .len tys.toList [x] s = some (true, av, s')) :
    s' = s ∧ ∃ v, (Builtin.len_ tys ty #[u]).run P w = .ok v w ∧ Rep w (Wr U ρ s.heap) ρ av v := by
  have fin : ∀ (t : Nat) (d : TypeDesc) (n : Nat), tys.toList[0]? = some t → P.underlying t = some d → n < 4611686018427387904 →
      (tys[0]? = some t → (Builtin.len_ tys ty #[u]).run P w = .ok (goInt n) w) → ∃ v, (Builtin.len_ tys ty #[u]).run P w = .ok v w ∧ Rep w (Wr U ρ s.heap) ρ (toI n) v := by
    intro t d n h1 h2 h3 h4
    exact ⟨goInt n, h4 (by simpa using h1), toI_rep n _ (by omega)⟩
  unfold abuiltin at ha
  dsimp only at ha
  split at ha <;> try contradiction
  · rename_i xs hd
    obtain ⟨t, ht, hd⟩ := tyD_at hd (by simp)
    simp only [Option.some.injEq, Prod.mk.injEq, true_and] at ha
    obtain ⟨rfl, rfl⟩ := ha
    cases hx with | str b hm =>
    have := fin t .string b.size ht ((h t).str hd) hm (fun k => by simp [Builtin.len_, k, run_underlying' ((h t).str hd)])
    rw [bytesOf_len]
    exact ⟨rfl, this⟩
  · rename_i e hd
    obtain ⟨t, ht, hd⟩ := tyD_at hd (by simp)
    simp only [Option.some.injEq, Prod.mk.injEq, true_and] at ha
    obtain ⟨rfl, rfl⟩ := ha
    cases hx with | ns =>
    exact ⟨rfl, fin t (.slice e) 0 ht ((h t).slice e hd) (by omega) (fun k => by simp [Builtin.len_, k, run_underlying' ((h t).slice e hd)])⟩
  · rename_i e r len sz hd
    obtain ⟨t, ht, hd⟩ := tyD_at hd (by simp)
    simp only [Option.some.injEq, Prod.mk.injEq, true_and] at ha
    obtain ⟨rfl, rfl⟩ := ha
    cases hx with
    | vs0 _ _ cap b hr hn hl => rw [slen_zeroV hn hl]; exact ⟨rfl, fin t (.slice e) 0 ht ((h t).slice e hd) (by omega) (fun k => by simp [Builtin.len_, k, run_underlying' ((h t).slice e hd)])⟩
    | vs _ _ _ l cap blk base vals hr h0 hn hp hk hcap hm hW hc hrep => rw [slen_eqv hn hk]; exact ⟨rfl, fin t (.slice e) l ht ((h t).slice e hd) hm (fun k => by simp [Builtin.len_, k, run_underlying' ((h t).slice e hd)])⟩
  · rename_i e id len sz hd
    obtain ⟨t, ht, hd⟩ := tyD_at hd (by simp)
    simp only [Option.map_eq_some_iff, Prod.mk.injEq, true_and] at ha
    obtain ⟨n, ho, rfl, rfl⟩ := ha
    obtain ⟨_, _, _, _, _, hh⟩ := olen_ok hs hx ho
    rcases hh with ⟨rfl, _, _, b, rfl⟩ | ⟨cap, L, _, rfl, _, _, _, _, _, hm⟩
    · exact ⟨rfl, fin t (.slice e) 0 ht ((h t).slice e hd) (by omega) (fun k => by simp [Builtin.len_, k, run_underlying' ((h t).slice e hd)])⟩
    · exact ⟨rfl, fin t (.slice e) n ht ((h t).slice e hd) hm (fun k => by simp [Builtin.len_, k, run_underlying' ((h t).slice e hd)])⟩
  · rename_i e id b lim o len sz hd
    obtain ⟨t, ht, hd⟩ := tyD_at hd (by simp)
    simp only [Option.some.injEq, Prod.mk.injEq, true_and] at ha
    obtain ⟨rfl, rfl⟩ := ha
    cases hx with
    | sl0 _ _ _ _ _ b' => exact ⟨rfl, fin t (.slice e) 0 ht ((h t).slice e hd) (by omega) (fun k => by simp [Builtin.len_, k, run_underlying' ((h t).slice e hd)])⟩
    | sl _ _ _ _ _ _ cap L hL h0 hx hb hcap hm => exact ⟨rfl, fin t (.slice e) len ht ((h t).slice e hd) hm (fun k => by simp [Builtin.len_, k, run_underlying' ((h t).slice e hd)])⟩
  · rename_i n e hd
    obtain ⟨t, ht, hd⟩ := tyD_at hd (by simp)
    split at ha <;> try contradiction
    rename_i hn
    rw [Nat.blt_eq] at hn
    simp only [Option.some.injEq, Prod.mk.injEq, true_and] at ha
    obtain ⟨rfl, rfl⟩ := ha
    exact ⟨rfl, fin t (.array n e) n ht ((h t).arr n e hd) hn (fun k => by simp [Builtin.len_, k, run_underlying' ((h t).arr n e hd)])⟩
  · rename_i e hd
    obtain ⟨t, ht, hd⟩ := tyD_at hd (by simp)
    split at ha <;> try contradiction
    rename_i n e' he
    split at ha <;> try contradiction
    rename_i hn
    rw [Nat.blt_eq] at hn
    simp only [Option.some.injEq, Prod.mk.injEq, true_and] at ha
    obtain ⟨rfl, rfl⟩ := ha
    exact ⟨rfl, fin t (.pointer e) n ht ((h t).ptr e hd) hn (fun k => by simp [Builtin.len_, k, run_underlying' ((h t).ptr e hd), run_underlying' ((h e).arr n e' he)])⟩

theorem rsetN_nil : ∀ (r : AV) (n b l o : Nat) (x r' : AV), x.size = 0 → r.rsetN n b l o 1 0 0 x = some r' → r' = r := by
  have put : ∀ (r : AV) (j : Nat) (x r' : AV), x.size = 0 → r.putpart j 0 x = some r' → r' = r := by
    intro r j x r' hx hp
    unfold AV.putpart at hp
    split at hp <;> try contradiction
    · split at hp <;> try contradiction
      injection hp with hp; subst hp
      simp only [AV.size, List.length_eq_zero_iff] at hx
      subst hx; simp
    · rename_i ys
      injection hp with hp; subst hp
      have : ys = [] := List.length_eq_zero_iff.1 (by simpa [AV.size] using hx)
      subst this; simp
    · rename_i ys
      injection hp with hp; subst hp
      have : ys = [] := List.length_eq_zero_iff.1 (by simpa [AV.size] using hx)
      subst this; simp
    · split at hp <;> try contradiction
      injection hp with hp; subst hp
      simp only [AV.size, List.length_eq_zero_iff] at hx
      subst hx; simp
  intro r
  refine AV.rec (motive_1 := fun r => ∀ (n b l o : Nat) (x r' : AV), x.size = 0 → r.rsetN n b l o 1 0 0 x = some r' → r' = r)
    (motive_2 := fun s => ∀ (b l o : Nat) (x : AV) (s' : AVs), x.size = 0 → s.rsetNS b l o 1 0 0 x = some s' → s' = s)
    ?_ ?_ ?_ ?_ ?_ ?_ ?_ ?_ ?_ ?_ ?_ ?_ ?_ ?_ ?_ ?_ ?_ ?_ ?_ ?_ ?_ ?_ ?_ ?_ ?_ ?_ ?_ r
  case refine_5 =>
    intro k xs n b l o x r' hx hr
    simp only [AV.rsetN, whole] at hr
    exact put _ _ _ _ hx hr
  case refine_6 =>
    intro xs n b l o x r' hx hr
    simp only [AV.rsetN, whole] at hr
    exact put _ _ _ _ hx hr
  case refine_7 =>
    intro xs n b l o x r' hx hr
    simp only [AV.rsetN, whole] at hr
    exact put _ _ _ _ hx hr
  case refine_8 =>
    intro k xs n b l o x r' hx hr
    simp only [AV.rsetN, whole] at hr
    exact put _ _ _ _ hx hr
  case refine_10 =>
    intro s ih n b l o x r' hx hr
    have e1 : Nat.beq 1 0 = false := rfl
    simp only [AV.rsetN, e1, Bool.and_false, Bool.false_and, Option.map_eq_some_iff] at hr
    obtain ⟨s', hs, rfl⟩ := hr
    rw [ih _ _ _ _ _ hx hs]
  case refine_11 =>
    intro ks xs n b l o x r' hx hr
    simp only [AV.rsetN] at hr
    split at hr <;> try contradiction
    split at hr <;> contradiction
  case refine_26 =>
    intro b l o x s' hx hr
    simp [AVs.rsetNS] at hr
  case refine_27 =>
    intro n v t ih1 ih2 b l o x s' hx hr
    simp only [AVs.rsetNS] at hr
    split at hr
    · split at hr <;> try contradiction
      simp only [Option.map_eq_some_iff] at hr
      obtain ⟨v', hv, rfl⟩ := hr
      rw [ih1 _ _ _ _ _ _ hx hv]
    · simp only [Option.map_eq_some_iff] at hr
      obtain ⟨v', hv, rfl⟩ := hr
      rw [ih2 _ _ _ _ _ hx hv]
  all_goals (intros; rename_i h; simp [AV.rsetN] at h)

theorem acopy_ok (hs : Sim U V.G w0 W0 ρ s a w) {id b lim o len ny : Nat} {ry : AV} {src : Value} {base : Option Addr} {cap : Nat} (hsrc : SrcOk P w (Wr U ρ s.heap) ρ src ry ny 1)
    (hd : (base = none ∨ True) ∧ len = 0 ∨ ∃ L, ρ id = some (some L) ∧ o + len ≤ lim ∧ b + lim ≤ L.n ∧ base = some ⟨L.b, L.base + (b + o), none⟩)
    (ha : acopy s id b lim o len ry ny = some (true, av, s')) (hlen : len < 4611686018427387904) :
    ∃ cs w', (Builtin.firstCells 1 (Nat.min ny len) src).run P w = .ok cs w ∧ (match base with | some a => storeCells a cs.toList | none => pure ()).run P w = .ok () w' ∧
      Sim U V.G w0 W0 ρ s' a w' ∧ av = toI (Nat.min ny len) := by
  unfold acopy at ha
  split at ha <;> try contradiction
  rename_i n r hl
  split at ha <;> try contradiction
  rename_i part hpart
  split at ha <;> try contradiction
  rename_i r' hset
  simp only [Option.some.injEq, Prod.mk.injEq, true_and] at ha
  obtain ⟨rfl, rfl⟩ := ha
  have hle : min ny len ≤ ny := Nat.min_le_left _ _
  have hle2 : min ny len ≤ len := Nat.min_le_right _ _
  obtain ⟨cs, c1, c2, c3⟩ := hsrc.read (by omega) (min ny len) hle
  replace c1 := c1 w rfl
  have hsz := hsrc.size
  have hpt := part_spec hpart (by rw [hsz]; omega)
  have hb := hs.bl _ _ _ _ hl
  by_cases hz : min ny len = 0
  · rw [hz] at c2 hset hpart
    have e1 : cs = #[] := by apply Array.eq_empty_of_size_eq_zero; omega
    subst e1
    have e2 := rsetN_nil r n b lim o part r' (part_size0 hpart) hset
    subst e2
    refine ⟨#[], w, c1, ?_, (hs.same hl).1, rfl⟩
    cases base <;> simp [storeCells]
  · rcases hd with ⟨_, h0⟩ | ⟨L, hL, g1, g2, rfl⟩
    · subst h0; simp at hz
    · obtain ⟨hw, hsz2, hLn, _⟩ := hs.cells hl hL
      have hw := hw (by cases r <;> first | rfl | (simp [AV.rsetN] at hset))
      have hst := rsetN_spec r n b lim o 1 0 (min ny len) part r' hw hsz2 (by simp) (by simp [ix]; omega) (by omega) (by omega) hpt.wf hpt.size hset
      have hix : b + ix o 1 0 = b + o := by simp [ix]
      rw [hix] at hst
      obtain ⟨w', q1, q2, _⟩ := hs.write (P := P) hl hL hst (.agg _ part cs hpt.wf hpt.size (by omega) fun j hj => by
        rw [hpt.cells j hj, Nat.zero_add]; exact c3 j (by omega)) (by omega) (by omega)
      exact ⟨cs, w', c1, q1, q2, rfl⟩

theorem copy_ok (h : TysOk P V.T) (hs : Sim U V.G w0 W0 ρ s a w) {tys : Array Nat} {ty : Nat} {x y : AV} {u v : Value} (hx : Rep w (Wr U ρ s.heap) ρ x u) (hy : Rep w (Wr U ρ s.heap) ρ y v) {i : Nat}
    (ha : abuiltin V i .copy tys.toList [x, y] s = some (true, av, s')) :
    ∃ v' w', (Builtin.copy_ tys ty #[u, v]).run P w = .ok v' w' ∧ Sim U V.G w0 W0 ρ s' a w' ∧ Rep w' (Wr U ρ s'.heap) ρ av v' := by
  unfold abuiltin at ha
  dsimp only at ha
  split at ha <;> try contradiction
  rename_i e hd
  obtain ⟨t, ht, hd⟩ := tyD_at hd (by simp)
  have ht' : tys[0]? = some t := by simpa using ht
  split at ha <;> try contradiction
  rename_i ry ny hv
  split at hv <;> try contradiction
  rename_i hsz
  rw [Nat.beq_eq] at hsz
  have hsrc : SrcOk P w (Wr U ρ s.heap) ρ v ry ny 1 := src_ok h hs hy hv
  have fin : ∀ (base : Option Addr) (len cap id b lim o : Nat), u = .slice base len cap → len < 4611686018427387904 →
      ((base = none ∨ True) ∧ len = 0 ∨ ∃ L, ρ id = some (some L) ∧ o + len ≤ lim ∧ b + lim ≤ L.n ∧ base = some ⟨L.b, L.base + (b + o), none⟩) →
      acopy s id b lim o len ry ny = some (true, av, s') → ∃ v' w', (Builtin.copy_ tys ty #[u, v]).run P w = .ok v' w' ∧ Sim U V.G w0 W0 ρ s' a w' ∧ Rep w' (Wr U ρ s'.heap) ρ av v' := by
    intro base len cap id b lim o hu hm hd' hc
    subst hu
    obtain ⟨cs, w', c1, c2, c3, rfl⟩ := acopy_ok (P := P) (cap := cap) hs hsrc hd' hc hm
    refine ⟨goInt (Nat.min ny len), w', ?_, c3, toI_rep _ _ (by have := Nat.min_le_right ny len; show ((Nat.min ny len : Nat) : Int) ≤ _; have e : Nat.min ny len = min ny len := rfl; omega)⟩
    have h0 : 0 < (V.T.at e).sz := by omega
    have rl := hsrc.len w
    cases base with
    | none => simp [Builtin.copy_, ht', run_underlying' ((h t).slice e hd), rl, run_sizeOf' h h0, hsz, c1] at c2 ⊢; exact c2
    | some a => simp [Builtin.copy_, ht', run_underlying' ((h t).slice e hd), rl, run_sizeOf' h h0, hsz, c1] at c2 ⊢; simp [c2]
  split at ha <;> try contradiction
  · rename_i id len0
    split at ha <;> try contradiction
    rename_i len ho
    obtain ⟨n, r, bb, hl, hn, hh⟩ := olen_ok hs hx ho
    rcases hh with ⟨rfl, _, _, b, rfl⟩ | ⟨cap, L, hL, rfl, g1, g2, _, _, _, hm⟩
    · exact fin b 0 0 id 0 0 0 rfl (by omega) (.inl ⟨.inr trivial, rfl⟩) ha
    · exact fin _ len cap id 0 len 0 rfl hm (.inr ⟨L, hL, by omega, by omega, by simp⟩) ha
  · rename_i id b lim o len
    cases hx with
    | sl0 _ _ _ _ _ b' _ => exact fin b' 0 0 id b lim o rfl (by omega) (.inl ⟨.inr trivial, rfl⟩) ha
    | sl _ _ _ _ _ _ cap L hL h0 hx hb hcap hm _ _ => exact fin _ len cap id b lim o (by rw [Nat.mul_one]) hm (.inr ⟨L, hL, by omega, hb, rfl⟩) ha

theorem clear_ok (h : TysOk P V.T) (hs : Sim U V.G w0 W0 ρ s a w) {tys : Array Nat} {ty : Nat} {x : AV} {u : Value} (hx : Rep w (Wr U ρ s.heap) ρ x u) {i : Nat}
    (ha : abuiltin V i .clear tys.toList [x] s = some (true, av, s')) :
    ∃ w', (Builtin.clear_ tys ty #[u]).run P w = .ok (.tuple #[]) w' ∧ Sim U V.G w0 W0 ρ s' a w' ∧ av = .tup .nil := by
  unfold abuiltin at ha
  dsimp only at ha
  split at ha <;> try contradiction
  rename_i e id b lim o len hd
  obtain ⟨t, ht, hd⟩ := tyD_at hd (by simp)
  have ht' : tys[0]? = some t := by simpa using ht
  split at ha <;> try contradiction
  rename_i z hsz hz
  rw [Nat.beq_eq] at hsz
  split at ha <;> try contradiction
  rename_i p0 v0 s1 hc
  simp only [Option.some.injEq, Prod.mk.injEq, true_and] at ha
  obtain ⟨rfl, rfl⟩ := ha
  obtain ⟨h0, hleaf, zv, z1, z2, z3⟩ := zeros_ok (P := P) h hz w (Wr U ρ s.heap) ρ
  rw [hsz, Nat.mul_one] at z3
  unfold acopy at hc
  split at hc <;> try contradiction
  rename_i n r hl
  rw [Nat.min_self] at hc
  split at hc <;> try contradiction
  rename_i part hpart
  split at hc <;> try contradiction
  rename_i r' hset
  simp only [Option.some.injEq, Prod.mk.injEq] at hc
  obtain ⟨_, _, rfl⟩ := hc
  have hzc : (Builtin.zeroCells zv.cells len) = (Array.range len).map (zv.cells[· % zv.cells.size]!) := by
    unfold Builtin.zeroCells; rw [z2, hsz, Nat.mul_one]
  have hu := run_underlying' ((h t).slice e hd)
  by_cases hz0 : len = 0
  · subst hz0
    cases z3 with | agg _ _ _ q1 q2 q3 q4 =>
    have e2 := rsetN_nil r n b lim o part r' (part_size0 hpart) hset
    subst e2
    refine ⟨w, ?_, (hs.same hl).1, rfl⟩
    cases hx with
    | sl0 _ _ _ _ _ a0 _ => cases a0 <;> simp [Builtin.clear_, ht', hu (w := w)]
    | sl => simp [Builtin.clear_, ht', hu (w := w)]
  · cases hx with
    | sl0 => omega
    | sl _ _ _ _ _ _ cap L hL h00 hxx hb hcap hm _ _ =>
      cases z3 with | agg _ _ _ q1 q2 q3 q4 =>
      have hpt := part_spec hpart (by omega)
      have hsz2 := (hs.bl _ _ _ _ hl).size
      obtain ⟨hw, _, hLn, _⟩ := hs.cells hl hL
      have hw := hw (by cases r <;> first | rfl | (simp [AV.rsetN] at hset))
      have hst := rsetN_spec r n b lim o 1 0 len part r' hw hsz2 (by simp) (by simp [ix]; omega) (by omega) (by omega) hpt.wf hpt.size hset
      have hix : b + ix o 1 0 = b + o := by simp [ix]
      rw [hix] at hst
      obtain ⟨w', g1, g2, _⟩ := hs.write (P := P) hl hL hst (.agg _ part _ hpt.wf hpt.size q3 fun j hj => by
        rw [hpt.cells j hj, Nat.zero_add]; exact q4 j (by omega)) (by omega) (by omega)
      refine ⟨w', ?_, g2, rfl⟩
      rw [← hzc] at g1
      rw [Nat.mul_one]
      obtain ⟨m, rfl⟩ : ∃ m, len = m + 1 := ⟨len - 1, by omega⟩
      simp [Builtin.clear_, ht', hu (w := w), z1, g1]

theorem minmax_ok {tys : Array Nat} {ty : Nat} {x y : AV} {u v : Value} {W : Nat → Prop} (hx : Rep w W ρ x u) (hy : Rep w W ρ y v) {i : Nat} {b : Builtin} (hb : b = .min ∨ b = .max)
    (ha : abuiltin V i b tys.toList [x, y] s = some (true, av, s')) :
    s' = s ∧ ∃ v', ((if b = .min then Builtin.min_ tys ty #[u, v] else Builtin.max_ tys ty #[u, v])).run P w = .ok v' w ∧ Rep w W ρ av v' := by
  rcases hb with rfl | rfl
  · unfold abuiltin at ha
    cases hx <;> dsimp only at ha <;> try contradiction
    cases hy <;> dsimp only at ha <;> try contradiction
    rename_i k x h1 k' y h2
    split at ha <;> try contradiction
    rename_i hk
    rw [decide_eq_true_eq] at hk; subst hk
    simp only [Option.some.injEq, Prod.mk.injEq, true_and] at ha
    obtain ⟨rfl, rfl⟩ := ha
    refine ⟨rfl, .int k (if y < x then y else x), rfl, .int _ _ ?_⟩
    split <;> assumption
  · unfold abuiltin at ha
    cases hx <;> dsimp only at ha <;> try contradiction
    cases hy <;> dsimp only at ha <;> try contradiction
    rename_i k x h1 k' y h2
    split at ha <;> try contradiction
    rename_i hk
    rw [decide_eq_true_eq] at hk; subst hk
    simp only [Option.some.injEq, Prod.mk.injEq, true_and] at ha
    obtain ⟨rfl, rfl⟩ := ha
    refine ⟨rfl, .int k (if y > x then y else x), rfl, .int _ _ ?_⟩
    split <;> assumption
end Go.Am
