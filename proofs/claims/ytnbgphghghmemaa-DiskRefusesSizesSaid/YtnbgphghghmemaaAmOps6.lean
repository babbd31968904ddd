/- Addresses of elements and fields; parts of aggregates. -/
import Derived.Test.YtnbgphghghmemaaAmOps5
set_option linter.unusedVariables false
set_option linter.unusedSimpArgs false
namespace Go.Am
open Go
variable {P : Program} {V : Env} {U : Oth} {w0 : World} {W0 : Nat → Prop} {o : Oper} {ρ ρ' : Rho} {s s' : St} {a : Act} {w w' : World} {av : AV}

theorem run_indexAt_sl (h : TysOk P V.T) {t sz : Nat} (ht : slTy V.T t sz = true) {b o len cap : Nat} {k : IntKind} {j : Int} (h0 : 0 ≤ j) (h1 : j < len) (w : World) :
    (Instr.indexAt t (.slice (some ⟨b, o, none⟩) len cap) (.int k j)).run P w = .ok (.pointer (some ⟨b, o + j.toNat * sz, none⟩)) w := by
  obtain ⟨g0, e, g1, g2⟩ := slTy_ok h ht
  have g3 : (sizeOf e).run P w = .ok sz w := by rw [run_sizeOf' h (by omega) w, g2]
  simp [Instr.indexAt, asIntOf, run_underlying' g1, h0, h1, g3, Addr.add_mk]
theorem run_indexAt_arr (h : TysOk P V.T) {t n e : Nat} (ht : (V.T.at t).d = .arr n e) (he : 0 < (V.T.at e).sz) {b o : Nat} {k : IntKind} {j : Int} (h0 : 0 ≤ j) (h1 : j < n) (w : World) :
    (Instr.indexAt t (.pointer (some ⟨b, o, none⟩)) (.int k j)).run P w = .ok (.pointer (some ⟨b, o + j.toNat * (V.T.at e).sz, none⟩)) w := by
  simp [Instr.indexAt, Instr.sureAddr, asIntOf, run_underlying' ((h t).arr _ _ ht), h0, h1, run_sizeOf' h he, Addr.add_mk]

theorem ix_zero (i c : Nat) : ix i 0 c = c := rfl
theorem ix_elem {i m : Nat} (hm : 0 < m) (c : Nat) : ix i m c = i * m + c := by
  unfold ix; split
  · omega
  · omega
  · rfl

theorem ixx_ok {i m c j sz n rm lim p1 p2 p3 : Nat} (hi : m = 0 → i = 0) (h : ixx i m c j sz = some (p1, p2, p3)) (hs : 0 < sz) (hj : j < n) (hr : n * sz ≤ rm) (hx : ix i m c + rm ≤ lim) :
    (p2 = 0 → p1 = 0) ∧ ix p1 p2 p3 = ix i m c + j * sz ∧ ix p1 p2 p3 + sz ≤ lim := by
  have e : (j + 1) * sz ≤ n * sz := Nat.mul_le_mul_right _ hj
  rw [Nat.add_mul, Nat.one_mul] at e
  unfold ixx at h
  split at h
  · simp only [Option.some.injEq, Prod.mk.injEq] at h
    obtain ⟨rfl, rfl, rfl⟩ := h
    rw [ix_zero] at hx
    rw [ix_elem hs, ix_zero]
    exact ⟨fun h => by omega, by omega, by omega⟩
  · split at h <;> try contradiction
    simp only [Option.some.injEq, Prod.mk.injEq] at h
    obtain ⟨rfl, rfl, rfl⟩ := h
    have hm : 0 < m := by rename_i hz _; exact Nat.pos_of_ne_zero hz
    rw [ix_elem hm] at hx
    rw [ix_elem hm]
    have e1 : ix (j + i * m) 1 c = j + i * m + c := rfl
    rw [e1]
    exact ⟨fun h => by omega, by omega, by omega⟩

theorem indexAddr_ok (h : TysOk P V.T) (hs : Sim U V.G w0 W0 ρ s a w) {t : Nat} {x y j : Operand} (ho : o.op = .indexAddr t x j) {i : Nat} (ha : aop V i o s = some (true, av, s')) :
    s' = s ∧ ∃ v, (Instr.indexAt t (a.eval x) (a.eval j)).run P w = .ok v w ∧ Rep w (Wr U ρ s.heap) ρ av v := by
  have hx := hs.ev x
  have hj := hs.ev j
  simp only [aop, ho] at ha
  split at ha <;> try contradiction
  rename_i k jj hjj
  have ej := intOf_rep hj hjj
  rw [ej]
  generalize hax : ev V s x = ax at hx ha
  generalize a.eval x = u at hx ⊢
  split at ha <;> try contradiction
  · rename_i r len sz
    split at ha <;> try contradiction
    rename_i ht
    simp only [Option.some.injEq, Prod.mk.injEq, Bool.and_eq_true, decide_eq_true_eq] at ha
    obtain ⟨⟨g0, g1⟩, rfl, rfl⟩ := ha
    refine ⟨rfl, ?_⟩
    cases hx with
    | vs0 _ _ _ _ _ hn hl => rw [slen_zeroV hn hl] at g1; omega
    | vs _ _ _ l cap blk base vals hr h0 hn hp hk hcap hm hW hc hrep =>
      rw [slen_eqv hn hk] at g1 ⊢
      rw [mz_eq]
      refine ⟨_, run_indexAt_sl h ht g0 g1 w, ?_⟩
      have e : (jj.toNat + 1) * sz ≤ l * sz := Nat.mul_le_mul_right _ (by omega)
      rw [Nat.add_mul, Nat.one_mul] at e
      have := Rep.gp (w := w) (W := Wr U ρ s.heap) (ρ := ρ) r (l * sz) jj.toNat sz 0 sz blk base vals hr hn (fun h => by omega) (by rw [ix_elem h0]; omega) h0 hW hc hrep
      rwa [ix_elem h0, Nat.add_zero] at this
  · rename_i id len sz
    split at ha <;> try contradiction
    rename_i ht
    simp only [Option.map_eq_some_iff, Prod.mk.injEq, Bool.and_eq_true, decide_eq_true_eq] at ha
    obtain ⟨L0, hol, ⟨g0, g1⟩, rfl, rfl⟩ := ha
    refine ⟨rfl, ?_⟩
    obtain ⟨n, r, bb, hH, hsz, ⟨rfl, _, _, b, rfl⟩ | ⟨cap, L, hL, rfl, hn, hLn, hcap, _, h0, hm⟩⟩ := olen_ok hs hx hol
    · omega
    · refine ⟨_, run_indexAt_sl h ht g0 g1 w, ?_⟩
      have e : (jj.toNat + 1) * sz ≤ L0 * sz := Nat.mul_le_mul_right _ (by omega)
      rw [Nat.add_mul, Nat.one_mul] at e
      unfold ptrAt
      split
      · have := Rep.ptr (w := w) (W := Wr U ρ s.heap) id (jj.toNat * sz) sz 0 0 0 sz L hL (fun _ => rfl) (by simp [ix]) (by omega) h0
        rw [mz_eq]
        simpa [ix] using this
      · have := Rep.ptr (w := w) (W := Wr U ρ s.heap) id 0 (L0 * sz) jj.toNat sz 0 sz L hL (fun h => by omega) (by rw [ix_elem h0]; omega) (by omega) h0
        rw [mz_eq]
        rwa [ix_elem h0, Nat.add_zero, Nat.zero_add] at this
  · rename_i id b lim o len sz
    split at ha <;> try contradiction
    rename_i ht
    simp only [Option.some.injEq, Prod.mk.injEq, Bool.and_eq_true, decide_eq_true_eq] at ha
    obtain ⟨⟨g0, g1⟩, rfl, rfl⟩ := ha
    refine ⟨rfl, ?_⟩
    cases hx with
    | sl0 => omega
    | sl _ _ _ _ _ _ cap L hL h0 hxx hb hcap hm =>
      refine ⟨_, run_indexAt_sl h ht g0 g1 w, ?_⟩
      have e : (jj.toNat + o + 1) * sz ≤ (o + len) * sz := Nat.mul_le_mul_right _ (by omega)
      rw [Nat.add_mul _ 1, Nat.one_mul] at e
      have := Rep.ptr (w := w) (W := Wr U ρ s.heap) id b lim (jj.toNat + o) sz 0 sz L hL (fun h => by omega) (by rw [ix_elem h0]; omega) (by omega) h0
      rw [ix_elem h0, Nat.add_zero] at this
      rwa [show L.base + (b + o * sz) + jj.toNat * sz = L.base + (b + (jj.toNat + o) * sz) by rw [Nat.add_mul]; omega]
  · rename_i id b l i m c rm
    split at ha <;> try contradiction
    rename_i n e he
    split at ha <;> try contradiction
    rename_i hc
    rw [Bool.and_eq_true, Nat.ble_eq, Nat.blt_eq, mz_eq] at hc
    simp only [Option.map_eq_some_iff, Prod.mk.injEq, Bool.and_eq_true, decide_eq_true_eq] at ha
    obtain ⟨⟨p1, p2, p3⟩, hix, ⟨g0, g1⟩, rfl, rfl⟩ := ha
    refine ⟨rfl, ?_⟩
    cases hx with | ptr _ _ _ _ _ _ _ L hL hi hxx hb h0 =>
    obtain ⟨q1, q2, q3⟩ := ixx_ok hi hix hc.2 (show jj.toNat < n by omega) hc.1 hxx
    refine ⟨_, run_indexAt_arr h he hc.2 g0 g1 w, ?_⟩
    have := Rep.ptr (w := w) (W := Wr U ρ s.heap) id b l p1 p2 p3 (V.T.at e).sz L hL q1 q3 hb hc.2
    rw [q2] at this
    rwa [show L.base + (b + ix i m c) + jj.toNat * (V.T.at e).sz = L.base + (b + (ix i m c + jj.toNat * (V.T.at e).sz)) by omega]
  · rename_i r k' i m c rm
    split at ha <;> try contradiction
    rename_i n e he
    split at ha <;> try contradiction
    rename_i hc
    rw [Bool.and_eq_true, Nat.ble_eq, Nat.blt_eq, mz_eq] at hc
    simp only [Option.map_eq_some_iff, Prod.mk.injEq, Bool.and_eq_true, decide_eq_true_eq] at ha
    obtain ⟨⟨p1, p2, p3⟩, hix, ⟨g0, g1⟩, rfl, rfl⟩ := ha
    refine ⟨rfl, ?_⟩
    cases hx with | gp _ _ _ _ _ _ blk base vals hr hn hi hxx h0 hW hcc hrep =>
    obtain ⟨q1, q2, q3⟩ := ixx_ok hi hix hc.2 (show jj.toNat < n by omega) hc.1 hxx
    refine ⟨_, run_indexAt_arr h he hc.2 g0 g1 w, ?_⟩
    have := Rep.gp (w := w) (W := Wr U ρ s.heap) (ρ := ρ) r k' p1 p2 p3 (V.T.at e).sz blk base vals hr hn q1 q3 hc.2 hW hcc hrep
    rw [q2] at this
    rwa [show base + ix i m c + jj.toNat * (V.T.at e).sz = base + (ix i m c + jj.toNat * (V.T.at e).sz) by omega]

theorem addc_ok {W : Nat → Prop} {x : AV} {blk off : Nat} {d sz : Nat} (hx : Rep w W ρ x (.pointer (some ⟨blk, off, none⟩))) (ha : addc x d sz = some av) : 0 < sz ∧ Rep w W ρ av (.pointer (some ⟨blk, off + d, none⟩)) := by
  unfold addc at ha
  split at ha <;> try contradiction
  · rename_i id b l i m c rm
    split at ha <;> try contradiction
    rename_i hc
    rw [Bool.and_eq_true, Nat.ble_eq, Nat.blt_eq] at hc
    cases hx with | ptr _ _ _ _ _ _ _ L hL hi hxx hb h0 =>
    split at ha
    · rw [ix_zero] at hxx
      rw [ix_zero]
      split at ha
      · injection ha with ha; subst ha
        have := Rep.ptr (w := w) (W := W) id (b + d) sz i 0 0 sz L hL hi (by simp [ix]) (by omega) hc.2
        simp only [ix, Nat.add_zero] at this
        exact ⟨hc.2, by rwa [show L.base + (b + 0) + d = L.base + (b + d) by omega]⟩
      · injection ha with ha; subst ha
        have := Rep.ptr (w := w) (W := W) id b l i 0 (c + d) sz L hL hi (by rw [ix_zero]; omega) hb hc.2
        rw [ix_zero] at this
        exact ⟨hc.2, by rwa [Nat.add_assoc, Nat.add_assoc]⟩
    · injection ha with ha; subst ha
      rename_i hm
      have hm' : 0 < m := Nat.pos_of_ne_zero hm
      rw [ix_elem hm'] at hxx
      rw [ix_elem hm']
      have := Rep.ptr (w := w) (W := W) id b l i m (c + d) sz L hL hi (by rw [ix_elem hm']; omega) hb hc.2
      rw [ix_elem hm'] at this
      exact ⟨hc.2, by rwa [show L.base + (b + (i * m + c)) + d = L.base + (b + (i * m + (c + d))) by omega]⟩
  · rename_i r n i m c rm
    split at ha <;> try contradiction
    rename_i hc
    rw [Bool.and_eq_true, Nat.ble_eq, Nat.blt_eq] at hc
    injection ha with ha; subst ha
    cases hx with | gp _ _ _ _ _ _ _ base vals hr hn hi hxx h0 hW hcc hrep =>
    have e : ix i m (c + d) = ix i m c + d := by rw [ix_add]; omega
    have := Rep.gp (w := w) (W := W) (ρ := ρ) r n i m (c + d) sz blk base vals hr hn hi (by omega) hc.2 hW hcc hrep
    rw [e] at this
    exact ⟨hc.2, by rwa [Nat.add_assoc]⟩

theorem struct_field (h : TysOk P V.T) {t f ft off : Nat} {fs : List (Nat × Nat)} (ht : (V.T.at t).d = .struct fs) (hf : fs[f]? = some (ft, off)) :
    ∃ (arr : Array Field) (fd : Field), P.underlying t = some (.struct arr) ∧ arr[f]? = some fd ∧ fd.type = ft ∧ fd.offset = off := by
  obtain ⟨arr, g1, g2, _⟩ := (h t).struct _ ht
  rw [← g2, List.getElem?_map, Option.map_eq_some_iff] at hf
  obtain ⟨fd, q1, q2⟩ := hf
  simp only [Prod.mk.injEq] at q2
  exact ⟨arr, fd, g1, by simpa using q1, q2.1, q2.2⟩

theorem fieldAddr_ok (h : TysOk P V.T) {W : Nat → Prop} {t f ft off : Nat} {fs : List (Nat × Nat)} {x : AV} {u : Value} (ht : (V.T.at t).d = .struct fs) (hf : fs[f]? = some (ft, off)) (hx : Rep w W ρ x u) (ha : addc x off (V.T.at ft).sz = some av) :
    ∃ v, (Instr.fieldAt t u f).run P w = .ok v w ∧ Rep w W ρ av v := by
  obtain ⟨blk, o, rfl⟩ : ∃ blk o, u = .pointer (some ⟨blk, o, none⟩) := by
    unfold addc at ha
    split at ha <;> try contradiction
    all_goals cases hx; exact ⟨_, _, rfl⟩
  obtain ⟨h0, hr⟩ := addc_ok hx ha
  obtain ⟨arr, fd, g1, g2, g3, g4⟩ := struct_field h ht hf
  refine ⟨_, ?_, hr⟩
  simp only [Instr.fieldAt, Sem.run_bind, run_underlying' g1, Result.andThen_ok, g2, Instr.sureAddr, Sem.run_pure, fieldPlace, g3, run_sizeOf' h h0]
  rw [if_neg (by omega)]
  simp [Addr.add_mk, g4]

theorem part_ok (h : TysOk P V.T) {W : Nat → Prop} {r : AV} {n t off : Nat} {cs : Array Value} (hx : Rep w W ρ (.agg n r) (.agg cs)) (hb : off + (V.T.at t).sz ≤ n) (ha : getv (V.T.at t).d.isAgg r n off (V.T.at t).sz = some av) :
    ∃ v, (part t cs off).run P w = .ok v w ∧ Rep w W ρ av v := by
  cases hx with | agg _ _ _ hw hr hc hrep =>
  unfold getv at ha
  split at ha
  · rename_i hagg
    split at ha <;> try contradiction
    rename_i h0
    rw [Nat.blt_eq] at h0
    simp only [Option.map_eq_some_iff] at ha
    obtain ⟨r', g1, rfl⟩ := ha
    have hp := rgetN_spec r n off _ 0 0 0 _ r' hw hr (fun _ => rfl) (by simp [ix]) hb h0 g1
    have e0 : off + ix 0 0 0 = off := rfl
    rw [e0] at hp
    refine ⟨.agg (cs.extract off (off + (V.T.at t).sz)), by simp [part, run_isAgg_many h hagg, run_sizeOf' h h0], .agg _ r' _ hp.wf hp.size (by simp; omega) fun j hj => ?_⟩
    rw [hp.cells j hj]
    have := hrep (off + j) (by omega)
    rwa [show (cs.extract off (off + (V.T.at t).sz)).getD j Go.undef = cs.getD (off + j) Go.undef by
      simp [Array.getD_eq_getD_getElem?, Array.getElem?_extract]; rw [if_pos (by omega)]]
  · rename_i hagg
    split at ha <;> try contradiction
    rename_i h1
    rw [Nat.beq_eq] at h1
    injection ha with ha
    have e1 : cs[off]? = some (cs.getD off Go.undef) := by rw [Array.getD_eq_getD_getElem?, Array.getElem?_eq_getElem (by omega)]; rfl
    refine ⟨cs.getD off Go.undef, by simp only [part, Sem.run_bind, run_isAgg_one h (by simpa using hagg) h1, Result.andThen_ok, e1]; rfl, ?_⟩
    rcases rget_spec r off (V.T.at t).sz 0 0 0 hw (by simp [ix]; omega) (by omega) with e | e
    · rw [← ha, e]; exact hrep off (by omega)
    · rw [← ha, e]; exact .undef _
end Go.Am
