/- Conversions; all operations but calls. -/
import Derived.Test.YtnbgphghghmemaaAmOpsM
import Derived.Laws.BytesString
set_option linter.unusedVariables false
set_option linter.unusedSimpArgs false
namespace Go.Am
open Go
variable {P : Program} {V : Env} {U : Oth} {w0 : World} {W0 : Nat → Prop} {o : Oper} {ρ ρ' : Rho} {s s' : St} {a : Act} {w w' : World} {av : AV}

theorem foldl_push : ∀ (l : List Int) (b : ByteArray), (l.foldl (fun r n => r.push (UInt8.ofNat n.toNat)) b) = ⟨b.data ++ (l.map fun n => UInt8.ofNat n.toNat).toArray⟩
  | [], b => by simp
  | n :: l, b => by
    simp only [List.foldl_cons, foldl_push l]
    congr 1
    apply Array.ext'
    simp [ByteArray.push]
theorem bytesOf_foldl (l : List Int) (h : ∀ n ∈ l, 0 ≤ n ∧ n < 256) : bytesOf (l.foldl (fun r n => r.push (UInt8.ofNat n.toNat)) ByteArray.empty) = l := by
  rw [foldl_push]
  have e : (ByteArray.empty.data ++ (l.map fun n => UInt8.ofNat n.toNat).toArray) = (l.map fun n => UInt8.ofNat n.toNat).toArray := by simp
  rw [e, bytesOf_mk, List.map_map]
  conv => rhs; rw [← List.map_id l]
  apply List.map_congr_left
  intro n hn
  have := h n hn
  simp only [Function.comp, UInt8.toNat_ofNat', id]
  omega

theorem cells_u8 {W : Nat → Prop} {xs : List Int} {n : Nat} {cs : Array Value} (hl : xs.length = n) (hc : cs.size = n) (h : ∀ j, j < n → Rep w W ρ ((AV.rI .u8 xs).cell j) (cs.getD j Go.undef)) :
    cs = (xs.map (Value.int .u8)).toArray ∧ ∀ x ∈ xs, 0 ≤ x ∧ x < 256 := by
  have key : ∀ j (hj : j < n), cs.getD j Go.undef = .int .u8 (xs[j]'(by omega)) ∧ 0 ≤ xs[j]'(by omega) ∧ xs[j]'(by omega) < 256 := by
    intro j hj
    have := h j hj
    simp only [AV.cell] at this
    rw [show xs.getD j 0 = xs[j]'(by omega) by simp [List.getD_eq_getElem?_getD, show j < xs.length by omega]] at this
    generalize hv : cs.getD j Go.undef = v at this ⊢
    cases this with | int _ _ hk =>
    refine ⟨rfl, ?_⟩
    have h1 := hk.1
    have h2 := hk.2
    simp [IntKind.min, IntKind.max, IntKind.signed, IntKind.bits] at h1 h2
    omega
  refine ⟨?_, fun x hx => ?_⟩
  · apply Array.ext
    · simp [hc, hl]
    · intro j h1 h2
      have := (key j (by omega)).1
      simp only [List.getElem_toArray, List.getElem_map]
      rw [← this, Array.getD_eq_getD_getElem?, Array.getElem?_eq_getElem h1]; rfl
  · obtain ⟨j, hj, rfl⟩ := List.mem_iff_getElem.1 hx
    exact (key j (by omega)).2

theorem bytesToString_ok (h : TysOk P V.T) (hs : Sim U V.G w0 W0 ρ s a w) {e : Nat} {x : AV} {u : Value} {xs : List Int} {len : Nat} (hx : Rep w (Wr U ρ s.heap) ρ x u) (hv : view V s e x = some (.rI .u8 xs, len, 1)) :
    ∃ b cap str, u = .slice b len cap ∧ (Conv.bytesToString u).run P w = .ok (.string str) w ∧ bytesOf str = xs ∧ str.size < 4611686018427387904 := by
  obtain ⟨g1, g2, _, g4, b, cap, rfl, g5, g6⟩ := view_cells h hs hx hv
  simp only [AV.size, Nat.mul_one] at g2
  rcases g6 with g6 | ⟨blk, base, vals, rfl, g6, _⟩
  · have : len = 0 := by omega
    subst this
    have e1 : xs = [] := List.length_eq_zero_iff.1 g2
    subst e1
    cases b with
    | none => exact ⟨none, cap, .empty, rfl, rfl, rfl, by decide⟩
    | some b =>
      refine ⟨some b, cap, .empty, rfl, ?_, rfl, by decide⟩
      have := run_bytesToString (P := P) w b 0 cap [] (by simp [loadCells, loadCellsFrom])
      simpa using this
  · rw [Nat.mul_one] at g6
    obtain ⟨cs, q1, q2, q3, q4⟩ := run_loadCells_rep (P := P) (r := .rI .u8 xs) (wf_leaf g1) g2 (fun j hj => (g6 j hj).1) (fun j hj => (g6 j hj).2)
    cases q2 with | agg _ _ _ _ _ hcs hrep =>
    obtain ⟨e1, e2⟩ := cells_u8 g2 hcs hrep
    rw [e1] at q1
    have := run_bytesToString (P := P) w ⟨blk, base, none⟩ len cap xs q1
    refine ⟨_, cap, _, rfl, this, bytesOf_foldl xs e2, ?_⟩
    rw [← bytesOf_len, bytesOf_foldl xs e2, g2]; exact g4

theorem run_stringToBytes (e : Nat) (str : ByteArray) (w : World) : ∃ cap w', (Conv.stringToBytes e str).run P w = .ok (.slice (some ⟨w.heap.size, 0, none⟩) str.size cap) w' ∧ str.size ≤ cap ∧ WSame w w' ∧
    w'.heap = w.heap.push (.cells ((str.data.map fun (c : UInt8) => Value.int .u8 (c.toNat : Int)) ++ Array.replicate (cap - str.size) (Value.int .u8 0)) e (cap, cap + 1)) := by
  let cap := grownCap w str.size 0 e
  let c : Array Value := (str.data.map fun (c : UInt8) => Value.int .u8 (c.toNat : Int)) ++ Array.replicate (cap - str.size) (Value.int .u8 0)
  have hge : str.size ≤ cap := grownCap_ge w str.size 0 e
  have hd : str.data.size = str.size := rfl
  have hsz : c.size = cap := by simp [c, hd]; omega
  have hnew : (w.drew.alloc (.cells c e)).heap[w.heap.size]? = some (.cells c e) := by
    show (w.heap.push _)[w.heap.size]? = _
    simp
  refine ⟨cap, (w.drew.alloc (.cells c e)).freeze ⟨w.heap.size, cap, none⟩ 1, ?_, hge, ⟨rfl, rfl, rfl⟩, ?_⟩
  · simp only [Conv.stringToBytes, Sem.run_bind]
    rw [run_choose_drew]
    simp only [Question.forced, Bool.false_eq_true, if_false, Result.andThen_ok, run_newRow]
    show (((markStringish ⟨w.heap.size, 0, none⟩).run P (w.drew.alloc (.cells c e))).andThen fun _ w' => _) = _
    have hsh : (shape w.heap.size).run P (w.drew.alloc (.cells c e)) = .ok (some (e, cap)) (w.drew.alloc (.cells c e)) := by
      show Result.ok ((w.drew.alloc (.cells c e)).shape? w.heap.size) _ = _
      unfold World.shape?
      rw [hnew]; show Result.ok (some (e, c.size)) _ = _; rw [hsz]
    simp [markStringish, hsh]
    rfl
  · have : ((w.drew.alloc (.cells c e)).freeze ⟨w.heap.size, cap, none⟩ 1).heap = (w.heap.push (.cells c e)).modify w.heap.size fun
      | .cells c elem (lo, hi) => .cells c elem (if lo == hi then (cap, cap + 1) else (min lo cap, max hi (cap + 1)))
      | o => o := rfl
    rw [this]
    apply Array.ext
    · simp
    · intro j h1 h2
      simp only [Array.getElem_modify, Array.getElem_push]
      by_cases hj : j < w.heap.size
      · rw [if_neg (by omega), dif_pos hj, dif_pos hj]
      · have hj2 : j = w.heap.size := by simp at h2; omega
        rw [if_pos hj2.symm, dif_neg hj, dif_neg hj]; rfl

theorem convert_ok (h : TysOk P V.T) (hs : Sim U V.G w0 W0 ρ s a w) {src dst : Nat} {x : Operand} (ho : o.op = .convert src dst x) {i : Nat} (ha : aop V i o s = some (true, av, s')) : OpOk U P V w0 W0 o a w av s' := by
  have hx := hs.ev x
  simp only [aop, ho] at ha
  have fin : ∀ v w' ρ', (convert src dst (a.eval x)).run P w = .ok v w' → Sim U V.G w0 W0 ρ' s' a w' → Rep w' (Wr U ρ' s'.heap) ρ' av v → OpOk U P V w0 W0 o a w av s' := fun v w' ρ' h1 h2 h3 =>
    ok_value (by simp only [execOp, ho]; exact run_v h1) h2 h3
  split at ha <;> try contradiction
  · rename_i k1 k k2 n h1 h2 h3
    simp only [Option.some.injEq, Prod.mk.injEq, true_and] at ha
    obtain ⟨rfl, rfl⟩ := ha
    rw [h3] at hx
    generalize a.eval x = u at hx fin
    cases hx with | int _ _ hk =>
    exact fin (.int k (k.wrap n)) w ρ (by simp [convert, run_underlying' ((h src).int _ h1), run_underlying' ((h dst).int _ h2), Conv.intToInt]) hs (.int _ _ (wrap_has _ _))
  · rename_i xs h1 h2 h3
    simp only [Option.some.injEq, Prod.mk.injEq, true_and] at ha
    obtain ⟨rfl, rfl⟩ := ha
    rw [h3] at hx
    generalize a.eval x = u at hx fin
    cases hx with | str b hm =>
    exact fin (.string b) w ρ (by simp [convert, run_underlying' ((h src).str h1), run_underlying' ((h dst).str h2)]) hs (.str b hm)
  · rename_i e xs h1 h2 h3
    split at ha <;> try contradiction
    rename_i he
    obtain ⟨hp, hk, rfl, rfl⟩ := newBlk_spec ha
    rw [h3] at hx
    generalize a.eval x = u at hx fin
    cases hx with | str b hm =>
    obtain ⟨cap, w', q1, q2, qs, q3⟩ := run_stringToBytes (P := P) e b w
    have hsz : (b.data.map fun (c : UInt8) => Value.int .u8 (c.toNat : Int)).size = b.size := by rw [Array.size_map]; rfl
    obtain ⟨ρ', p1, p2⟩ := newOwn_ok (cap := cap) (l := b.size) (sz := 1) (r := .rI .u8 (bytesOf b)) hs qs q3 hk trivial (by simp [AV.size, bytesOf_len]) (fun j hj => by
      have hsrc := (src_str (P := P) (w := w) (ρ := ρ) (W := Wr U ρ s.heap) (.str b hm)).read (by omega) b.size (by rw [bytesOf_len]; exact Nat.le_refl _)
      obtain ⟨cs, c1, c2, c3⟩ := hsrc
      have c1 := c1 w rfl
      simp only [Builtin.firstCells, Sem.run_pure] at c1
      injection c1 with c1
      have e1 : (b.extract 0 b.size).data = b.data := by simp
      rw [e1] at c1
      have := c3 j hj
      rw [← c1] at this
      have e2 : ((b.data.map fun (c : UInt8) => Value.int .u8 (c.toNat : Int)) ++ Array.replicate (cap - b.size) (Value.int .u8 0)).getD j Go.undef = (b.data.map fun (c : UInt8) => Value.int .u8 (c.toNat : Int)).getD j Go.undef := by
        rw [Array.getD_eq_getD_getElem?, Array.getD_eq_getD_getElem?, Array.getElem?_append, if_pos (by rw [hsz]; omega)]
      rw [e2]; exact this) (by omega) (by simp [hsz]; omega) q2 hm (fun j hj hh => by simp [hsz] at hj; omega) (n := (bytesOf b).length) (by rw [bytesOf_len, Nat.mul_one])
    exact fin _ w' ρ' (by simp only [convert, Sem.run_bind, run_underlying' ((h src).str h1), run_underlying' ((h dst).slice _ h2), Result.andThen_ok, run_underlying' ((h e).int _ he)]; exact q1) p1 p2
  · rename_i e e2 id len h1 h2 h3
    split at ha <;> try contradiction
    rename_i n r hsd he hl
    split at ha <;> try contradiction
    rename_i h0
    rw [Nat.blt_eq] at h0
    rw [Nat.beq_eq] at hsd; subst hsd
    rw [h1] at h2; injection h2 with h2; subst h2
    simp only [Option.some.injEq, Prod.mk.injEq, true_and] at ha
    obtain ⟨rfl, rfl⟩ := ha
    rw [h3] at hx
    generalize a.eval x = u at hx fin
    have hb := hs.bl id n r true hl
    cases hx with
    | own0 _ _ b hL =>
      rcases hb.lies with ⟨_, h⟩ | ⟨L, h, _⟩
      · omega
      · rw [hL] at h; cases h
    | own _ _ _ l cap L hL hn hk hcap hS h00 hm =>
      obtain ⟨hw, hsz, hLn, vals, hv⟩ := hs.cells hl hL
      have hM : Mine w L := by
        rcases hb.lies with ⟨h, _⟩ | ⟨L', h, _, _, h4, _⟩
        · rw [h] at hL; cases hL
        · rw [h] at hL; cases hL; exact h4 rfl (size_isM (by omega))
      have hw := hw (size_isM (by omega))
      obtain ⟨c, t, ⟨lo, hi⟩, m1, m2, m3, m4⟩ := hM
      let fr' : Nat × Nat := if lo == hi then (c.size, c.size + 1) else (min lo c.size, max hi (c.size + 1))
      have hw' : ∀ b, (w.freeze ⟨L.b, c.size, none⟩ 1).heap[b]? = if b = L.b then some (.cells c t fr') else w.heap[b]? := by
        intro b
        have e1 : (w.freeze ⟨L.b, c.size, none⟩ 1).heap = w.heap.modify L.b fun
          | .cells c' elem (lo, hi) => .cells c' elem (if lo == hi then (c.size, c.size + 1) else (min lo c.size, max hi (c.size + 1)))
          | o => o := rfl
        rw [e1, Array.getElem?_modify]
        by_cases e : b = L.b
        · subst e; rw [if_pos rfl, if_pos rfl, m1]; rfl
        · rw [if_neg (Ne.symm e), if_neg e]
      have hS2 : c.size = L.S := m2.1
      have hlh : lo ≤ hi := m2.2
      have hlo : lo ≠ hi → L.S ≤ lo := fun hne => by
        refine Nat.le_of_not_lt fun hlt => ?_
        have h4 := m4 lo hlt
        unfold World.frozen? at h4
        simp only [m1, Bool.and_eq_false_iff, decide_eq_false_iff_not] at h4
        omega
      have hfz : ∀ j, j < L.S → (w.freeze ⟨L.b, c.size, none⟩ 1).frozen? ⟨L.b, j, none⟩ = false := fun j hj => by
        have h4 := m4 j hj
        unfold World.frozen? at h4 ⊢
        simp only [m1] at h4
        simp only [hw' L.b, if_true]
        simp only [fr']
        simp only [Bool.and_eq_false_iff, decide_eq_false_iff_not] at h4 ⊢
        split
        · left; simp only; omega
        · rename_i hne
          have hne' := hlo (by simpa using hne)
          simp only
          omega
      have := hs.rewrite (w' := w.freeze ⟨L.b, c.size, none⟩ 1) hl hL ⟨rfl, rfl, rfl⟩ hw hsz (by
          have e1 : (w.freeze ⟨L.b, c.size, none⟩ 1).heap = w.heap.modify L.b fun
            | .cells c' elem (lo, hi) => .cells c' elem (if lo == hi then (c.size, c.size + 1) else (min lo c.size, max hi (c.size + 1)))
            | o => o := rfl
          rw [e1]; simp) (fun b hb => by rw [hw' b, if_neg hb]) ⟨c, t, fr', by rw [hw' L.b, if_pos rfl], ⟨m2.1, by simp only [fr']; split <;> simp only <;> omega⟩, m3, hfz⟩ (fun j hj => by
          obtain ⟨q1, q2⟩ := hv j hj
          refine ⟨vals j, ?_, q2⟩
          rw [← q1]
          unfold World.cell?
          simp only [hw' L.b, if_true, m1])
      have heq : Eqv (s.setH id (.cells n r true)) s := ⟨fun _ => rfl, fun i => by
          simp only [St.setH]; rw [lkH_put]; split
          · rename_i h; rw [h, hl]
          · rfl, fun i => by
          simp only [St.setH]; rw [hasKey_put]
          by_cases e : i = id
          · subst e; cases hk : hasKey i s.heap with
            | true => simp
            | false => rw [lkH_none hk] at hl; cases hl
          · simp [e], rfl, rfl, rfl⟩
      refine fin (.slice (some ⟨L.b, L.base, none⟩) l cap) _ ρ ?_ (this.1.eqv heq) (.own id len 1 l cap L hL hn hk hcap hS h00 hm)
      have hsh : (shape L.b).run P w = .ok (some (t, c.size)) w := by
        show Result.ok (w.shape? L.b) _ = _
        unfold World.shape?
        rw [m1]
      simp [convert, run_underlying' ((h src).slice _ h1), run_underlying' ((h e).int _ he), markStringish, hsh]
  · rename_i v e h1 h2
    split at ha <;> try contradiction
    rename_i xs len he hv
    simp only [Option.some.injEq, Prod.mk.injEq, true_and] at ha
    obtain ⟨rfl, rfl⟩ := ha
    obtain ⟨b, cap, str, hu, q1, q2, q3⟩ := bytesToString_ok (P := P) h hs hx hv
    refine fin (.string str) w ρ ?_ hs (by rw [← q2]; exact .str str q3)
    rw [hu] at q1 ⊢
    simp only [convert, Sem.run_bind, run_underlying' ((h src).slice _ h1), run_underlying' ((h dst).str h2), Result.andThen_ok, run_underlying' ((h e).int _ he)]
    exact q1

theorem arrayAt_ok (h : TysOk P V.T) (hs : Sim U V.G w0 W0 ρ s a w) {t : Nat} {x : Operand} (ho : o.op = .sliceToArrayPointer t x) {i : Nat} (ha : aop V i o s = some (true, av, s')) :
    s' = s ∧ ∃ v, (Instr.arrayAt t (a.eval x)).run P w = .ok v w ∧ Rep w (Wr U ρ s.heap) ρ av v := by
  have hx := hs.ev x
  simp only [aop, ho] at ha
  generalize ev V s x = y at hx ha
  generalize a.eval x = u at hx
  split at ha <;> try contradiction
  rename_i n e hd
  have run : ∀ (b : Option Addr) (len cap : Nat), n ≤ len → (Instr.arrayAt t (.slice b len cap)).run P w = .ok (.pointer b) w := fun b len cap hn => by
    have : ¬ len < n := by omega
    simp [Instr.arrayAt, run_underlying' ((h t).arr n e hd), this]
  split at ha <;> try contradiction
  · rename_i r len sz hc
    simp only [Bool.and_eq_true, Nat.beq_eq, Nat.blt_eq] at hc
    obtain ⟨he, h0⟩ := hc
    simp only [Option.map_eq_some_iff, Prod.mk.injEq, decide_eq_true_eq] at ha
    obtain ⟨r', hp, hn, rfl, rfl⟩ := ha
    rw [mz_eq] at h0 hp
    have hz : 0 < n ∧ 0 < sz := ⟨Nat.pos_of_mul_pos_right h0, Nat.pos_of_mul_pos_left h0⟩
    cases hx with
    | vs0 _ _ cap b hr hs0 hl => rw [slen_zeroV hs0 hl] at hn; omega
    | vs _ _ _ l cap blk base vals hr h00 hns hp0 hk hcap hm hW hcell hrep =>
      rw [slen_eqv hns hk] at hn
      have hle : n * sz ≤ l * sz := Nat.mul_le_mul_right _ hn
      have hpt := part_spec hp (by omega)
      refine ⟨rfl, _, run _ _ _ hn, ?_⟩
      rw [mz_eq]
      have := Rep.gp (w := w) (W := Wr U ρ s.heap) (ρ := ρ) r' (n * sz) 0 0 0 (n * sz) blk base vals (Parts.leaf hp) hpt.size (fun _ => rfl) (by simp [ix]) h0 hW (fun j hj => hcell j (by omega)) (fun j hj => by
        rw [hpt.cells j hj, Nat.zero_add]; exact hrep j (by omega))
      simpa [ix] using this
  · rename_i id len sz hc
    simp only [Bool.and_eq_true, Nat.beq_eq, Nat.blt_eq] at hc
    obtain ⟨he, h0⟩ := hc
    simp only [Option.map_eq_some_iff, Prod.mk.injEq, decide_eq_true_eq] at ha
    obtain ⟨l, hol, hn, rfl, rfl⟩ := ha
    rw [mz_eq] at h0
    have hz : 0 < n ∧ 0 < sz := ⟨Nat.pos_of_mul_pos_right h0, Nat.pos_of_mul_pos_left h0⟩
    obtain ⟨_, _, _, _, _, hh⟩ := olen_ok hs hx hol
    rcases hh with ⟨h1, _⟩ | ⟨cap, L, hL, rfl, g1, g2, g3, g4, g5, g6⟩
    · omega
    · refine ⟨rfl, _, run _ _ _ hn, ?_⟩
      rw [mz_eq, mz_eq]
      have hle : n * sz ≤ l * sz := Nat.mul_le_mul_right _ hn
      have hix : ix 0 sz 0 = 0 := by rw [ix_elem hz.2]; simp
      have := Rep.ptr (w := w) (W := Wr U ρ s.heap) (ρ := ρ) id 0 (l * sz) 0 sz 0 (n * sz) L hL (fun h => rfl) (by rw [hix]; omega) (by omega) h0
      simpa [hix] using this
  · rename_i id b lim o' len sz hc
    simp only [Bool.and_eq_true, Nat.beq_eq, Nat.blt_eq] at hc
    obtain ⟨he, h0⟩ := hc
    simp only [Option.some.injEq, Prod.mk.injEq, decide_eq_true_eq] at ha
    obtain ⟨hn, rfl, rfl⟩ := ha
    rw [mz_eq] at h0
    have hz : 0 < n ∧ 0 < sz := ⟨Nat.pos_of_mul_pos_right h0, Nat.pos_of_mul_pos_left h0⟩
    cases hx with
    | sl0 _ _ _ _ _ b' => omega
    | sl _ _ _ _ _ _ cap L hL h00 hx hb hcap hm =>
      refine ⟨rfl, _, run _ _ _ hn, ?_⟩
      rw [mz_eq]
      have hle : (o' + n) * sz ≤ (o' + len) * sz := Nat.mul_le_mul_right _ (by omega)
      rw [Nat.add_mul] at hle
      have hix : ix o' sz 0 = o' * sz := by rw [ix_elem hz.2]; simp
      have := Rep.ptr (w := w) (W := Wr U ρ s.heap) (ρ := ρ) id b lim o' sz 0 (n * sz) L hL (fun h => by omega) (by rw [hix]; omega) hb h0
      simpa [hix] using this

theorem run_b {x : Sem Bool} {q : Bool} (f : Bool → Value) (h : x.run P w = .ok q w) : (do pure (f (← x)) : Sem Value).run P w = .ok (f q) w := by simp [h]
theorem nilcmp_ok (h : TysOk P V.T) (hs : Sim U V.G w0 W0 ρ s a w) {op : BinOp} {t : TypeId} {x y : AV} {u v : Value} {r : Bool} (hx : Rep w (Wr U ρ s.heap) ρ x u) (hy : Rep w (Wr U ρ s.heap) ρ y v) (hb : nilcmp V t op x y s = some r) (ox oy : Operand) :
    ∃ q, (do eqGuard op t ox oy u v; binOp op t u v : Sem Value).run P w = .ok q w ∧ Rep w (Wr U ρ s.heap) ρ (.bool r) q := by
  unfold nilcmp at hb
  split at hb <;> try contradiction
  rename_i q hq
  have hE : (∀ op, (eqGuard op t ox oy u v).run P w = .ok () w) ∧ (binOp .eql t u v).run P w = .ok (.bool q) w ∧ (binOp .neq t u v).run P w = .ok (.bool (!q)) w := by
    unfold isNil at hq
    split at hq <;> try contradiction
    · split at hq <;> try contradiction
      · rename_i e hd
        injection hq with hq; subst hq
        cases hx with | ptr =>
        cases hy with | nilp =>
        have hd9 : ∀ (d : Nat) (b : Addr), (Op.equalIn (d + 1) t (.pointer (some b)) (.pointer none)).run P w = .ok false w := fun d b => by simp [Op.equalIn, run_underlying' ((h t).ptr e hd)]
        exact ⟨fun op => by unfold eqGuard; cases op <;> rfl, (run_b (fun b => Value.bool b) (hd9 9999 _)), (run_b (fun b => Value.bool (!b)) (hd9 9999 _))⟩
      · rename_i e hd
        injection hq with hq; subst hq
        cases hx with | nilp =>
        cases hy with | nilp =>
        have hd9 : ∀ d : Nat, (Op.equalIn (d + 1) t (.pointer none) (.pointer none)).run P w = .ok true w := fun d => by simp [Op.equalIn, run_underlying' ((h t).ptr e hd)]
        exact ⟨fun op => by unfold eqGuard; cases op <;> rfl, (run_b (fun b => Value.bool b) (hd9 9999)), (run_b (fun b => Value.bool (!b)) (hd9 9999))⟩
    · split at hq <;> try contradiction
      rename_i id len e hd
      split at hq <;> try contradiction
      rename_i n rr bb hl
      split at hq <;> try contradiction
      rename_i hn
      rw [Nat.blt_eq] at hn
      injection hq with hq; subst hq
      cases hy with | ns =>
      cases hx with
      | own0 _ _ b hL =>
        have hb := hs.bl id n rr bb hl
        rcases hb.lies with ⟨_, h2⟩ | ⟨L, h1, _⟩
        · omega
        · rw [hL] at h1; cases h1
      | own =>
        have hd9 : ∀ (d : Nat) b len cap, (Op.equalIn (d + 1) t (.slice (some b) len cap) (.slice none 0 0)).run P w = .ok false w := fun d b len cap => by simp [Op.equalIn, run_underlying' ((h t).slice e hd)]
        exact ⟨fun op => by unfold eqGuard; cases op <;> rfl, (run_b (fun b => Value.bool b) (hd9 9999 _ _ _)), (run_b (fun b => Value.bool (!b)) (hd9 9999 _ _ _))⟩
  split at hb <;> try contradiction
  · injection hb with hb; subst hb
    exact ⟨.bool q, by simp only [Sem.run_bind, hE.1, Result.andThen_ok, hE.2.1], .bool _⟩
  · injection hb with hb; subst hb
    exact ⟨.bool (!q), by simp only [Sem.run_bind, hE.1, Result.andThen_ok, hE.2.2], .bool _⟩
theorem aop_plain (h : TysOk P V.T) (hs : Sim U V.G w0 W0 ρ s a w) (hc : ∀ c f, o.op = .call c → c.callee ≠ .value f) {i : Nat} (ha : aop V i o s = some (true, av, s')) : OpOk U P V w0 W0 o a w av s' := by
  cases ho : o.op with
  | move x =>
    simp only [aop, ho, Option.some.injEq, Prod.mk.injEq, true_and] at ha
    obtain ⟨rfl, rfl⟩ := ha
    exact ok_value (v := a.eval x) (by simp [execOp, ho]) hs (hs.ev x)
  | assign x =>
    simp only [aop, ho, Option.some.injEq, Prod.mk.injEq, true_and] at ha
    obtain ⟨rfl, rfl⟩ := ha
    exact ok_value (v := a.eval x) (by simp [execOp, ho]) hs (hs.ev x)
  | alloc t => exact alloc_ok h hs ho ha
  | box t x => exact box_ok h hs ho ha
  | build t parts =>
    obtain ⟨rfl, v, g1, g2⟩ := build_ok h hs ho ha
    exact ok_value (by simp only [execOp, ho]; exact run_v g1) hs g2
  | buildSlice t n parts => exact buildSlice_ok h hs ho ha
  | load t x =>
    simp only [aop, ho, Option.map_eq_some_iff, Prod.mk.injEq, true_and] at ha
    obtain ⟨v, g1, rfl, rfl⟩ := ha
    obtain ⟨u, g2, g3⟩ := aload_ok (P := P) h hs (hs.ev x) g1
    exact ok_value (by simp only [execOp, ho]; exact run_v g2) hs g3
  | store t x y =>
    simp only [aop, ho, Option.map_eq_some_iff, Prod.mk.injEq, true_and] at ha
    obtain ⟨v, g1, rfl, rfl⟩ := ha
    obtain ⟨u, g2, g3⟩ := astore_ok (P := P) h hs (hs.ev x) (hs.ev y) g1
    exact ok_skip (by simp only [execOp, ho]; exact run_u g2) g3
  | nilCheck x =>
    have hx := hs.ev x
    simp only [aop, ho] at ha
    generalize ev V s x = y at hx ha
    have fin : ∀ v, a.eval x = v → (execOp a.eval o).run P w = .ok (.value v) w → Rep w (Wr U ρ s.heap) ρ y v → some (true, y, s) = some (true, av, s') → OpOk U P V w0 W0 o a w av s' := fun v _ h2 h3 h4 => by
      simp only [Option.some.injEq, Prod.mk.injEq, true_and] at h4
      obtain ⟨rfl, rfl⟩ := h4
      exact ok_value h2 hs h3
    generalize hu : a.eval x = u at hx fin
    cases hx <;> simp only [reduceCtorEq] at ha
    · exact fin _ rfl (by simp [execOp, ho, hu]) (by constructor <;> assumption) ha
    · exact fin _ rfl (by simp [execOp, ho, hu]) (by constructor <;> assumption) ha
    · exact fin _ rfl (by simp [execOp, ho, hu]) (by constructor <;> assumption) ha
  | binOp op t x y sg =>
    simp only [aop, ho] at ha
    split at ha
    · rename_i b hb
      simp only [Option.some.injEq, Prod.mk.injEq, true_and] at ha
      obtain ⟨rfl, rfl⟩ := ha
      obtain ⟨u, g2, g3⟩ := nilcmp_ok (P := P) h hs (hs.ev x) (hs.ev y) hb x y
      exact ok_value (by simp only [execOp, ho]; exact run_v g2) hs g3
    simp only [Option.map_eq_some_iff, Prod.mk.injEq] at ha
    obtain ⟨⟨p, v⟩, g1, rfl, rfl, rfl⟩ := ha
    obtain ⟨u, g2, g3⟩ := abin_ok (P := P) h (hs.ev x) (hs.ev y) g1 x y
    exact ok_value (by simp only [execOp, ho]; exact run_v g2) hs g3
  | unOp op t x =>
    simp only [aop, ho, Option.map_eq_some_iff, Prod.mk.injEq, true_and] at ha
    obtain ⟨v, g1, rfl, rfl⟩ := ha
    obtain ⟨u, g2, g3⟩ := unary_ok (P := P) (hs.ev x) g1
    exact ok_value (by simp only [execOp, ho]; exact run_v g2) hs g3
  | convert src dst x => exact convert_ok h hs ho ha
  | sliceToArrayPointer t x =>
    obtain ⟨rfl, v, g1, g2⟩ := arrayAt_ok h hs ho ha
    exact ok_value (by simp only [execOp, ho]; exact run_v g1) hs g2
  | makeSlice t l c => exact makeSlice_ok h hs ho ha
  | slice t x lo hi mx =>
    cases mx with
    | some m =>
      cases hi with
      | none => simp [aop, ho] at ha
      | some hi =>
        cases lo with
        | none =>
          simp only [aop, ho] at ha
          obtain ⟨v, g1, g2, g3⟩ := asliceX_ok (P := P) h hs (hs.ev x) (lo' := none) (.inl ⟨rfl, rfl⟩) (hs.ev hi) (hs.ev m) ha
          exact ok_value (by simp only [execOp, ho]; exact run_v g1) g2 g3
        | some l =>
          simp only [aop, ho] at ha
          obtain ⟨rfl, rfl, v, g1⟩ := aslice3_ok (P := P) h hs (hs.ev x) (hs.ev l) (hs.ev hi) (hs.ev m) ha
          exact ok_value (by simp only [execOp, ho]; exact run_v g1) hs (.undef v)
    | none =>
      simp only [aop, ho] at ha
      obtain ⟨rfl, v, g1, g2⟩ := aslice_ok (P := P) h hs (hs.ev x) (lo' := lo.map a.eval) (hi' := hi.map a.eval) (by
        cases lo with
        | none => exact .inl ⟨rfl, rfl⟩
        | some l => exact .inr ⟨_, _, rfl, rfl, hs.ev l⟩) (by
        cases hi with
        | none => exact .inl ⟨rfl, rfl⟩
        | some l => exact .inr ⟨_, _, rfl, rfl, hs.ev l⟩) ha
      exact ok_value (by simp only [execOp, ho]; exact run_v g1) hs g2
  | fieldAddr t x f =>
    simp only [aop, ho] at ha
    split at ha <;> try contradiction
    rename_i fs hd
    split at ha <;> try contradiction
    rename_i ft off hf
    simp only [Option.map_eq_some_iff, Prod.mk.injEq, true_and] at ha
    obtain ⟨v, g1, rfl, rfl⟩ := ha
    obtain ⟨u, g2, g3⟩ := fieldAddr_ok h hd hf (hs.ev x) g1
    exact ok_value (by simp only [execOp, ho]; exact run_v g2) hs g3
  | field t x f =>
    have hx := hs.ev x
    simp only [aop, ho] at ha
    split at ha <;> try contradiction
    rename_i fs n r hd hv
    split at ha <;> try contradiction
    rename_i ft off hf
    split at ha <;> try contradiction
    rename_i hle
    rw [Nat.ble_eq] at hle
    simp only [Option.map_eq_some_iff, Prod.mk.injEq, true_and] at ha
    obtain ⟨v, g1, rfl, rfl⟩ := ha
    rw [hv] at hx
    generalize hu : a.eval x = u at hx
    cases hx with | agg _ _ cs hw hr hcs hrep =>
    obtain ⟨arr, fd, q1, q2, q3, q4⟩ := struct_field h hd hf
    obtain ⟨u, g2, g3⟩ := part_ok (P := P) h (.agg n r cs hw hr hcs hrep) hle g1
    refine ok_value (v := u) ?_ hs g3
    simp only [execOp, ho]
    refine run_v ?_
    rw [hu]
    simp only [Instr.field, Sem.run_bind, run_underlying' q1, Result.andThen_ok, q2, asAgg, Sem.run_pure, q3]
    first | exact g2 | (rw [q4]; exact g2)
  | indexAddr t x j =>
    obtain ⟨rfl, v, g1, g2⟩ := indexAddr_ok (y := j) h hs ho ha
    exact ok_value (by simp only [execOp, ho]; exact run_v g1) hs g2
  | index t x j =>
    obtain ⟨rfl, v, g1, g2⟩ := index_ok h hs ho ha
    exact ok_value (by simp only [execOp, ho]; exact run_v g1) hs g2
  | extract x j =>
    have hx := hs.ev x
    simp only [aop, ho] at ha
    split at ha <;> try contradiction
    rename_i vs hv
    split at ha <;> try contradiction
    rename_i hj
    rw [Nat.blt_eq] at hj
    simp only [Option.some.injEq, Prod.mk.injEq, true_and] at ha
    obtain ⟨rfl, rfl⟩ := ha
    rw [hv] at hx
    generalize hu : a.eval x = u at hx
    cases hx with | tup _ ws hl hrep =>
    refine ok_value (v := ws.getD j Go.undef) ?_ hs (hrep j hj)
    simp only [execOp, ho]
    refine run_v ?_
    rw [hu]
    simp [Instr.extract, Array.getD_eq_getD_getElem?, Array.getElem?_eq_getElem (show j < ws.size by omega)]
  | makeFunc fn first cap =>
    unfold aop at ha
    rw [ho] at ha
    dsimp only at ha
    split at ha <;> try contradiction
    rename_i f first cap hop
    injection hop with e1 e2 e3
    subst e1; subst e2; subst e3
    split at ha <;> try contradiction
    rename_i hf
    simp only [Option.some.injEq, Prod.mk.injEq, true_and] at ha
    obtain ⟨rfl, rfl⟩ := ha
    have e0 : first = #[] := by apply Array.ext'; simpa using hf
    subst e0
    refine ok_value (v := .func (.func f) #[] (cap.map a.eval)) (by simp [execOp, ho, Instr.makeFunc]) hs ?_
    have key : ∀ (l : List Operand) (j : Nat), (AVs.ofList (l.map (ev V s))).len = l.length ∧ (j < l.length → Rep w (Wr U ρ s.heap) ρ ((AVs.ofList (l.map (ev V s))).nth j) ((l.map a.eval).getD j Go.undef)) := by
      intro l
      induction l with
      | nil => intro j; exact ⟨rfl, fun h => by simp at h⟩
      | cons x l ih =>
        intro j
        refine ⟨by simp [AVs.ofList, AVs.len, (ih 0).1], fun hj => ?_⟩
        cases j with
        | zero => exact hs.ev x
        | succ j => exact (ih j).2 (by simpa using hj)
    refine .fn f _ _ (by simpa using (key cap.toList 0).1) fun j hj => ?_
    have := (key cap.toList j).2 (by rw [← (key cap.toList 0).1]; exact hj)
    simpa [Array.getD_eq_getD_getElem?, List.getD_eq_getElem?_getD] using this
  | call c =>
    unfold aop at ha
    rw [ho] at ha
    dsimp only at ha
    split at ha
    · rename_i b hb
      have one : ∀ {l : List Operand} {x : AV}, l.map (ev V s) = [x] → ∃ p, l = [p] ∧ x = ev V s p := fun {l x} h => by
        cases l with
        | nil => simp at h
        | cons p l => cases l with
          | nil => simp at h; exact ⟨p, rfl, h.symm⟩
          | cons q l => simp at h
      have two : ∀ {l : List Operand} {x y : AV}, l.map (ev V s) = [x, y] → ∃ p q, l = [p, q] ∧ x = ev V s p ∧ y = ev V s q := fun {l x y} h => by
        cases l with
        | nil => simp at h
        | cons p l => cases l with
          | nil => simp at h
          | cons q l => cases l with
            | nil => simp at h; exact ⟨p, q, rfl, h.1.symm, h.2.symm⟩
            | cons r l => simp at h
      have hop : ∀ l : List Operand, c.args.toList = l → c.args.map a.eval = (l.map a.eval).toArray := fun l hl => by
        subst hl; apply Array.ext'; simp
      have run : ∀ (x : Sem Value) v w', x.run P w = .ok v w' → (∀ k, Go.builtin b c.argTypes o.type k (c.args.map a.eval) = (do pure (Next.value (← x)) : Sem Next)) → (execOp a.eval o).run P w = .ok (.value v) w' := fun x v w' h1 h2 => by
        simp only [execOp, ho, resolve, hb, Sem.run_bind, Sem.run_pure, Result.andThen_ok, invoke]
        rw [h2]; exact run_v h1
      cases b <;> try (unfold abuiltin at ha; dsimp only at ha; contradiction)
      case len =>
        generalize hargs : c.args.toList.map (ev V s) = args at ha
        have ha' := ha
        unfold abuiltin at ha
        dsimp only at ha
        split at ha <;> try contradiction
        rename_i heq; cases heq
        obtain ⟨p, hp, rfl⟩ := one hargs
        obtain ⟨rfl, v, g1, g2⟩ := len_ok (P := P) (ty := o.type) h hs (hs.ev p) ha'
        exact ok_value (run _ v w g1 (fun k => by rw [hop _ hp]; rfl)) hs g2
      case append =>
        generalize hargs : c.args.toList.map (ev V s) = args at ha
        have ha' := ha
        unfold abuiltin at ha
        dsimp only at ha
        split at ha <;> try contradiction
        rename_i heq; cases heq
        obtain ⟨p, q, hp, rfl, rfl⟩ := two hargs
        obtain ⟨v, w', ρ', g1, g2, g3⟩ := append_ok (P := P) (ty := o.type) h hs (hs.ev p) (hs.ev q) ha'
        exact ok_value (run _ v w' g1 (fun k => by rw [hop _ hp]; rfl)) g2 g3
      case copy =>
        generalize hargs : c.args.toList.map (ev V s) = args at ha
        have ha' := ha
        unfold abuiltin at ha
        dsimp only at ha
        split at ha <;> try contradiction
        rename_i heq; cases heq
        obtain ⟨p, q, hp, rfl, rfl⟩ := two hargs
        obtain ⟨v, w', g1, g2, g3⟩ := copy_ok (P := P) (ty := o.type) h hs (hs.ev p) (hs.ev q) ha'
        exact ok_value (run _ v w' g1 (fun k => by rw [hop _ hp]; rfl)) g2 g3
      case clear =>
        generalize hargs : c.args.toList.map (ev V s) = args at ha
        have ha' := ha
        unfold abuiltin at ha
        dsimp only at ha
        split at ha <;> try contradiction
        rename_i heq; cases heq
        obtain ⟨p, hp, rfl⟩ := one hargs
        obtain ⟨w', g1, g2, rfl⟩ := clear_ok (P := P) (ty := o.type) h hs (hs.ev p) ha'
        exact ok_value (run _ _ w' g1 (fun k => by rw [hop _ hp]; rfl)) g2 (.tup _ _ rfl fun j hj => by simp [AVs.len] at hj)
      case delete =>
        generalize hargs : c.args.toList.map (ev V s) = args at ha
        have ha' := ha
        unfold abuiltin at ha
        dsimp only at ha
        split at ha <;> try contradiction
        rename_i heq; cases heq
        obtain ⟨p, q, hp, rfl, rfl⟩ := two hargs
        obtain ⟨w', g1, g2, rfl⟩ := delete_ok (P := P) (ty := o.type) h hs (hs.ev p) (hs.ev q) ha'
        exact ok_value (run _ _ w' g1 (fun k => by rw [hop _ hp]; rfl)) g2 (.tup _ _ rfl fun j hj => by simp [AVs.len] at hj)
      case cap =>
        generalize hargs : c.args.toList.map (ev V s) = args at ha
        unfold abuiltin at ha
        dsimp only at ha
        split at ha <;> try contradiction
        rename_i heq; cases heq
        obtain ⟨p, hp, e0⟩ := one hargs
        split at ha <;> try contradiction
        rename_i e hd
        simp only [Option.some.injEq, Prod.mk.injEq, true_and] at ha
        obtain ⟨rfl, rfl⟩ := ha
        obtain ⟨t, ht, hd⟩ := tyD_at hd (by simp)
        have ht' : c.argTypes[0]? = some t := by simpa using ht
        have hr := hs.ev p
        rw [← e0] at hr
        generalize hu : a.eval p = u at hr
        cases hr with | ns =>
        refine ok_value (run _ (goInt 0) w ?_ (fun k => by rw [hop _ hp]; rfl)) hs (toI_rep 0 _ (by simp))
        simp [Builtin.cap_, ht', run_underlying' ((h t).slice e hd), hu]
      case min =>
        generalize hargs : c.args.toList.map (ev V s) = args at ha
        have ha' := ha
        unfold abuiltin at ha
        dsimp only at ha
        split at ha <;> try contradiction
        rename_i heq; cases heq
        obtain ⟨p, q, hp, e1, e2⟩ := two hargs
        rw [e1, e2] at ha'
        obtain ⟨rfl, v, g1, g2⟩ := minmax_ok (P := P) (ty := o.type) (hs.ev p) (hs.ev q) (.inl rfl) ha'
        exact ok_value (run _ v w g1 (fun k => by rw [hop _ hp]; rfl)) hs g2
      case max =>
        generalize hargs : c.args.toList.map (ev V s) = args at ha
        have ha' := ha
        unfold abuiltin at ha
        dsimp only at ha
        split at ha <;> try contradiction
        rename_i heq; cases heq
        obtain ⟨p, q, hp, e1, e2⟩ := two hargs
        rw [e1, e2] at ha'
        obtain ⟨rfl, v, g1, g2⟩ := minmax_ok (P := P) (ty := o.type) (hs.ev p) (hs.ev q) (.inr rfl) ha'
        exact ok_value (run _ v w g1 (fun k => by rw [hop _ hp]; rfl)) hs g2
    · rename_i f hf
      exact absurd hf (hc c f ho)
    · contradiction
  | makeMap t r =>
    cases r with
    | none => exact makeMap_ok h hs ho ha
    | some r => (unfold aop at ha; rw [ho] at ha; dsimp only at ha; contradiction)
  | lookup t m x ok => exact lookup_ok h hs ho ha
  | mapUpdate t m x y => exact mapUpdate_ok h hs ho ha
  | _ => (unfold aop at ha; rw [ho] at ha; dsimp only at ha; contradiction)
end Go.Am
