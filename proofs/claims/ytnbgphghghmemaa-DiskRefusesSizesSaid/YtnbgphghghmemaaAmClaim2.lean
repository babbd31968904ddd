/- The same where a row bears a condition on the sizes of what it reads. -/
import Derived.Test.YtnbgphghghmemaaAmClaim
set_option linter.unusedVariables false
set_option linter.unusedSimpArgs false
namespace Go.Am
open Go Go.ChangeShapes Go.WideShapes Go.RowKit
variable {P : Program} {H : Type} {enc : TypeId × Value → H} {W : World}

abbrev Shape2 := (H : Type) → DataW H → AV → Prop
def Opens2 (P : Program) (t : TypeId) (S : Shape2) : Prop := ∀ (H : Type) (enc : TypeId × Value → H) (W : World) (b0 : Nat) (v : Value) (d : DataW H) (ps : List MemPlace),
  Value.okWide P W .any b0 t v → DataW.Trod enc P W 0 (fun _ => true) true t v d ps → (∀ n ∈ d.weights P t, n ≤ reachBytes) → ∃ X, S H d X ∧ Rep W W0 ρ0 X v
def any2 (S : AV → Prop) : Shape2 := fun _ _ X => S X
theorem opens2_any {t : TypeId} {S : AV → Prop} (h : Opens P t S) : Opens2 P t (any2 S) := h
def str2 : Shape2 := fun H d X => ∃ (bs : List UInt8) (s : List Int), d = .lit (.string bs) ∧ X = .str s ∧ s.length = bs.length
def ints2 (k : IntKind) : Shape2 := fun H d X => ∃ zs : List Int, X = .vs (.rI k zs) 0 1 ∧ (zs = [] ∨ ∃ es sp, d = .slice es sp ∧ es.length = zs.length)
def strs2 : Shape2 := fun H d X => ∃ ss : List (List Int), X = .vs (.rS ss) 0 1 ∧ (ss = [] ∨ ∃ (bss : List (List UInt8)) (sp : List (DataW H)), d = .slice (bss.map fun b => .lit (.string b)) sp ∧ bss.map List.length = ss.map List.length)
def arrs2 (n : Nat) (k : IntKind) : Shape2 := fun H d X => ∃ (zs : List Int) (m : Nat), X = .vs (.rI k zs) m n ∧ (m = 0 ∨ ∃ es sp, d = .slice es sp ∧ es.length = m)

theorem opens2_str {t : TypeId} (ht : P.underlying t = some .string) : Opens2 P t str2 := fun H enc W b0 v d ps hv hd hw => by
  obtain ⟨s, rfl, rfl, _, _⟩ := ChangeMaps.open_string ht hv hd
  have h1 : s.size ≤ reachBytes := by
    have := hw s.data.toList.length (by simp [DataW.weights])
    simpa using this
  have h2 : s.size < 4611686018427387904 := Nat.lt_of_le_of_lt h1 (by decide)
  exact ⟨.str (bytesOf s), ⟨s.data.toList, bytesOf s, rfl, rfl, by unfold bytesOf; rw [List.length_map]⟩, .str s h2⟩
theorem opens2_ints {t e : TypeId} {k : IntKind} (ht : P.underlying t = some (.slice e)) (he : P.underlying e = some (.int k)) (hc : P.cellsOf e = 1) (hb0 : Nat.blt 0 (P.bytesOf e) = true) : Opens2 P t (ints2 k) := fun H enc W b0 v d ps hv hd hw => by
  obtain ⟨X, ⟨zs, rfl⟩, hR⟩ := opens_ints ht he hc hb0 H enc W b0 v d ps hv hd hw
  obtain ⟨a0, len0, cap0, rfl⟩ := okWide_slice ht hv
  obtain ⟨fuel, hf⟩ := hd
  refine ⟨_, ⟨zs, rfl, ?_⟩, hR⟩
  rcases open_ints ht he hc hf with ⟨h1, _⟩ | ⟨a, len, cap, zs', h1, _, hl, _, hz, hx, _, _⟩
  · have h2 : (Value.slice a0 len0 cap0) = .slice none 0 0 := by simpa [Value.cells] using h1
    rw [h2] at hR
    left
    cases hR with
    | vs0 _ _ _ _ hr hn => exact List.length_eq_zero_iff.mp hn
  · have h2 : (Value.slice a0 len0 cap0) = .slice (some a) len cap := by simpa [Value.cells] using h1
    rw [h2] at hR
    simp only [if_true] at hz
    simp only [Prod.mk.injEq] at hx
    cases hR with
    | vs0 _ _ _ _ hr hn => exact .inl (List.length_eq_zero_iff.mp hn)
    | vs _ _ _ l _ _ _ _ hr h0 hn hp hk hcap hm hW hcell h =>
      refine .inr ⟨_, _, hx.1, ?_⟩
      simp only [AV.size] at hn
      simp only [lits, List.length_map, List.length_take]; omega
theorem opens2_strs {t e : TypeId} (ht : P.underlying t = some (.slice e)) (he : P.underlying e = some .string) (hc : P.cellsOf e = 1) (hb0 : Nat.blt 0 (P.bytesOf e) = true) : Opens2 P t strs2 := fun H enc W b0 v d ps hv hd hw => by
  have hb : 0 < P.bytesOf e := by rw [Nat.blt_eq] at hb0; exact hb0
  obtain ⟨a0, len0, cap0, rfl⟩ := okWide_slice ht hv
  obtain ⟨fuel, hf⟩ := hd
  rcases open_strings ht he hc hf with ⟨h1, _⟩ | ⟨a, len, cap, ss, h1, _, hl, _, hz, hx, hcell, hwf⟩
  · have h2 : (Value.slice a0 len0 cap0) = .slice none 0 0 := by simpa [Value.cells] using h1
    rw [h2]
    exact ⟨.vs (.rS []) 0 1, ⟨[], rfl, .inl rfl⟩, .vs0 _ 1 0 none rfl rfl⟩
  · have h2 : (Value.slice a0 len0 cap0) = .slice (some a) len cap := by simpa [Value.cells] using h1
    rw [h2]
    simp only [if_true] at hz
    simp only [Prod.mk.injEq] at hx
    by_cases h0 : len = 0
    · subst h0
      exact ⟨.vs (.rS []) 0 1, ⟨[], rfl, .inl rfl⟩, .vs0 _ 1 cap _ rfl rfl⟩
    · refine ⟨.vs (.rS ((ss.take len).map bytesOf)) 0 1, ⟨_, rfl, .inr ⟨(ss.take len).map fun s => s.data.toList, strs (ss.drop len), ?_, ?_⟩⟩, ?_⟩
      · rw [hx.1]; simp only [strs, List.map_map]; rfl
      · simp only [List.map_map]
        apply List.map_congr_left
        intro s _
        simp only [Function.comp]; unfold bytesOf; rw [List.length_map]
      have hlt : len ≤ reachBytes := by
        have := hw (((strs (H := H) (ss.take len)).length + (strs (H := H) (ss.drop len)).length) * P.bytesOf e) (by rw [hx.1]; simp [DataW.weights, ht])
        simp only [strs, List.length_map, List.length_take, List.length_drop] at this
        have h3 := Nat.le_mul_of_pos_right (min len ss.length + (ss.length - len)) hb
        omega
      have hr : reachBytes < 4611686018427387904 := by decide
      have hsz : ∀ s ∈ ss.take len, s.size < 4611686018427387904 := fun s hs => by
        have := hw s.data.toList.length (by
          rw [hx.1]; simp only [DataW.weights, ht, List.mem_cons, List.mem_append]
          refine .inr (.inl (weightsAll_mem (d := .lit (.string s.data.toList)) ?_ (by simp [DataW.weights])))
          simp only [strs, List.mem_map]
          exact ⟨s, hs, rfl⟩)
        have h4 : s.size = s.data.toList.length := rfl
        omega
      have ha := hcell 0 (by omega)
      rw [show a.add 0 = a by simp [Addr.add]] at ha
      rw [(add_of_cell ha 0).1]
      refine .vs _ 0 1 len cap a.block a.off (fun i => .string (ss.getD i ByteArray.empty)) rfl (by omega) (by simp [AV.size]; omega) (by omega) (.inl rfl) hl (by omega) (fun h => h) (fun j hj => ?_) (fun j hj => ?_)
      · rw [← (add_of_cell ha j).2]; exact hcell j (by omega)
      · simp only [AV.cell]
        have hj' : j < (ss.take len).length := by rw [List.length_take]; omega
        have e1 : ((ss.take len).map bytesOf).getD j [] = bytesOf (ss.getD j ByteArray.empty) := by
          rw [← getD_take ss len j _ (by omega)]
          simp only [List.getD_eq_getElem?_getD, List.getElem?_map, List.getElem?_eq_getElem hj']; rfl
        rw [e1]
        refine .str _ (hsz _ ?_)
        rw [← getD_take ss len j _ (by omega), List.getD_eq_getElem?_getD, List.getElem?_eq_getElem hj']
        exact List.getElem_mem _
theorem opens2_arrs {t e e' n : Nat} {k : IntKind} (ht : P.underlying t = some (.slice e)) (he : P.underlying e = some (.array n e')) (he' : P.underlying e' = some (.int k)) (hc : P.cellsOf e' = 1) (hn : P.cellsOf e = n) (h1n : Nat.blt 1 n = true)
    (hb0 : Nat.blt 0 (P.bytesOf e) = true) : Opens2 P t (arrs2 n k) := fun H enc W b0 v d ps hv hd hw => by
  have hb : 0 < P.bytesOf e := by rw [Nat.blt_eq] at hb0; exact hb0
  rw [Nat.blt_eq] at h1n
  obtain ⟨a0, len0, cap0, rfl⟩ := okWide_slice ht hv
  obtain ⟨fuel, hf⟩ := hd
  rcases DataW.trod_slice ht hf with ⟨h1, _⟩ | ⟨a, len, cap, elems, rest, m, _, h1, hx, _, hl, _, hlen, hel, _, _⟩
  · have h2 : (Value.slice a0 len0 cap0) = .slice none 0 0 := by simpa [Value.cells] using h1
    rw [h2]
    exact ⟨.vs (.rI k []) 0 n, ⟨[], 0, rfl, .inl rfl⟩, .vs0 _ n 0 none rfl rfl⟩
  · have h2 : (Value.slice a0 len0 cap0) = .slice (some a) len cap := by simpa [Value.cells] using h1
    rw [h2]
    simp only [Prod.mk.injEq] at hx
    by_cases h0 : len = 0
    · subst h0
      exact ⟨.vs (.rI k []) 0 n, ⟨[], 0, rfl, .inl rfl⟩, .vs0 _ n cap _ rfl rfl⟩
    · have hlt : len ≤ reachBytes := by
        have := hw (((elems.map (·.1)).length + (rest.map (·.1)).length) * P.bytesOf e) (by rw [hx.1]; simp [DataW.weights, ht])
        simp only [List.length_map] at this
        have h3 := Nat.le_mul_of_pos_right (elems.length + rest.length) hb
        omega
      have hr : reachBytes < 4611686018427387904 := by decide
      have each : ∀ i j, i < len → j < n → ∃ z, W.cell? ((a.add (i * n)).add j) = some (.int k z) ∧ k.has z := fun i j hi hj => by
        have h3 := hel i hi
        rw [hn, List.getElem?_eq_getElem (show i < elems.length by omega)] at h3
        cases hcs : W.cells? 0 (a.add (i * n)) n with
        | none => rw [hcs] at h3; cases h3
        | some cs =>
          rw [hcs] at h3
          obtain ⟨_, _, g3⟩ := World.cells?_some hcs
          obtain ⟨xs, m1, _, _, _, gn, gel⟩ := DataW.trod_array he h3
          have h4 := gel j hj
          rw [hc, Nat.mul_one, List.getElem?_eq_getElem (show j < xs.length by omega)] at h4
          obtain ⟨z, q1, q2, q3⟩ := DataW.trod_int he' h4
          refine ⟨z, ?_, lit_has q3⟩
          rw [g3 j hj]
          have : ((cs.drop j).take 1)[0]? = some (.int k z) := by rw [q1]; rfl
          simpa [List.getElem?_take] using this
      have ha : ∃ z, W.cell? a = some (.int k z) := by
        obtain ⟨z, q, _⟩ := each 0 0 (by omega) (by omega)
        rw [Nat.zero_mul, show (a.add 0).add 0 = a by simp [Addr.add]] at q
        exact ⟨z, q⟩
      obtain ⟨z0, ha⟩ := ha
      have ea := (add_of_cell ha 0).1
      have cell : ∀ j, j < len * n → ∃ z, W.cell? ⟨a.block, a.off + j, none⟩ = some (.int k z) ∧ k.has z := fun j hj => by
        have hi : j / n < len := by rw [Nat.div_lt_iff_lt_mul (by omega)]; exact hj
        obtain ⟨z, q1, q2⟩ := each (j / n) (j % n) hi (Nat.mod_lt _ (by omega))
        refine ⟨z, ?_, q2⟩
        have e1 : (a.add (j / n * n)).add (j % n) = ⟨a.block, a.off + j, none⟩ := by
          rw [(add_of_cell ha (j / n * n)).2]
          have h5 := Nat.div_add_mod j n
          rw [Nat.mul_comm] at h5
          unfold Addr.add; split
          · rename_i h0'; rw [h0', Nat.add_zero] at h5; rw [h5]
          · show (⟨a.block, a.off + j / n * n + j % n, none⟩ : Addr) = _
            rw [Nat.add_assoc, h5]
        rw [← e1]; exact q1
      refine ⟨.vs (.rI k ((List.range (len * n)).map fun j => intval ((W.cell? ⟨a.block, a.off + j, none⟩).getD Go.undef))) len n, ⟨_, len, rfl, .inr ⟨_, _, hx.1, by rw [List.length_map]; exact hlen⟩⟩, ?_⟩
      rw [ea]
      refine .vs _ len n len cap a.block a.off (fun j => (W.cell? ⟨a.block, a.off + j, none⟩).getD Go.undef) rfl (by omega) (by simp [AV.size]) (by omega) (.inl ?_) hl (by omega) (fun h => h) (fun j hj => ?_) (fun j hj => ?_)
      · unfold klen; split
        · omega
        · rfl
      · obtain ⟨z, q1, _⟩ := cell j hj
        rw [q1]; rfl
      · obtain ⟨z, q1, q2⟩ := cell j hj
        simp only [AV.cell]
        have e2 : ((List.range (len * n)).map fun j => intval ((W.cell? ⟨a.block, a.off + j, none⟩).getD Go.undef)).getD j 0 = z := by
          rw [List.getD_eq_getElem?_getD, List.getElem?_map, List.getElem?_range hj]
          simp only [Option.map_some, Option.getD_some, q1, intval]
        rw [e2, q1]
        exact .int k z q2

def strR : Shape2 := fun _ _ X => ∃ s : List Int, X = .str s ∧ s.length ≤ reachBytes
def intsR (k : IntKind) : Shape2 := fun _ _ X => ∃ zs : List Int, X = .vs (.rI k zs) 0 1 ∧ zs.length ≤ reachBytes
def strsR : Shape2 := fun _ _ X => ∃ ss : List (List Int), X = .vs (.rS ss) 0 1 ∧ ss.length ≤ reachBytes ∧ ∀ s ∈ ss, s.length ≤ reachBytes
def arrsR (n : Nat) (k : IntKind) : Shape2 := fun _ _ X => ∃ (zs : List Int) (m : Nat), X = .vs (.rI k zs) m n ∧ m ≤ reachBytes
theorem opensR_str {t : TypeId} (h : Opens2 P t str2) : Opens2 P t strR := fun H enc W b0 v d ps hv hd hw => by
  obtain ⟨X, ⟨bs, s, rfl, rfl, hl⟩, hR⟩ := h H enc W b0 v d ps hv hd hw
  exact ⟨_, ⟨s, rfl, by rw [hl]; exact hw _ (by simp [DataW.weights])⟩, hR⟩
theorem slice_w {t e : TypeId} (ht : P.underlying t = some (.slice e)) (hb0 : Nat.blt 0 (P.bytesOf e) = true) {es sp : List (DataW H)} (hw : ∀ n ∈ (DataW.slice es sp).weights P t, n ≤ reachBytes) : es.length ≤ reachBytes := by
  have hb : 0 < P.bytesOf e := by rw [Nat.blt_eq] at hb0; exact hb0
  have := hw ((es.length + sp.length) * P.bytesOf e) (by simp [DataW.weights, ht])
  have h3 := Nat.le_mul_of_pos_right (es.length + sp.length) hb
  omega
theorem opensR_ints {t e : TypeId} {k : IntKind} (ht : P.underlying t = some (.slice e)) (hb0 : Nat.blt 0 (P.bytesOf e) = true) (h : Opens2 P t (ints2 k)) : Opens2 P t (intsR k) := fun H enc W b0 v d ps hv hd hw => by
  obtain ⟨X, ⟨zs, rfl, hz⟩, hR⟩ := h H enc W b0 v d ps hv hd hw
  refine ⟨_, ⟨zs, rfl, ?_⟩, hR⟩
  rcases hz with rfl | ⟨es, sp, rfl, he⟩
  · simp
  · rw [← he]; exact slice_w ht hb0 hw
theorem opensR_arrs {t e n : TypeId} {k : IntKind} (ht : P.underlying t = some (.slice e)) (hb0 : Nat.blt 0 (P.bytesOf e) = true) (h : Opens2 P t (arrs2 n k)) : Opens2 P t (arrsR n k) := fun H enc W b0 v d ps hv hd hw => by
  obtain ⟨X, ⟨zs, m, rfl, hz⟩, hR⟩ := h H enc W b0 v d ps hv hd hw
  refine ⟨_, ⟨zs, m, rfl, ?_⟩, hR⟩
  rcases hz with rfl | ⟨es, sp, rfl, he⟩
  · exact Nat.zero_le _
  · rw [← he]; exact slice_w ht hb0 hw
theorem opensR_strs {t e : TypeId} (ht : P.underlying t = some (.slice e)) (hb0 : Nat.blt 0 (P.bytesOf e) = true) (h : Opens2 P t strs2) : Opens2 P t strsR := fun H enc W b0 v d ps hv hd hw => by
  obtain ⟨X, ⟨ss, rfl, hz⟩, hR⟩ := h H enc W b0 v d ps hv hd hw
  refine ⟨_, ⟨ss, rfl, ?_⟩, hR⟩
  rcases hz with rfl | ⟨bss, sp, rfl, he⟩
  · exact ⟨Nat.zero_le _, fun s hs => by simp at hs⟩
  · have hl : ss.length = bss.length := by have := congrArg List.length he; simpa using this.symm
    refine ⟨?_, fun s hs => ?_⟩
    · have := slice_w ht hb0 hw
      rw [List.length_map] at this; omega
    · have h1 : s.length ∈ bss.map List.length := by rw [he]; exact List.mem_map_of_mem hs
      obtain ⟨b, hb, e1⟩ := List.mem_map.mp h1
      rw [← e1]
      refine hw _ ?_
      simp only [DataW.weights, ht, List.mem_cons, List.mem_append]
      exact .inr (.inl (weightsAll_mem (d := .lit (.string b)) (List.mem_map.mpr ⟨b, hb, rfl⟩) (by simp [DataW.weights])))

def Fits2 : List Shape2 → List (DataW H) → List AV → Prop
  | [], [], [] => True
  | S :: l, d :: ds, X :: Xs => S H d X ∧ Fits2 l ds Xs
  | _, _, _ => False
theorem Fits2.inv {S : Shape2} {l : List Shape2} : ∀ {ds : List (DataW H)} {X : List AV}, Fits2 (S :: l) ds X → ∃ d ds' x X', ds = d :: ds' ∧ X = x :: X' ∧ S H d x ∧ Fits2 l ds' X'
  | [], _, h => h.elim
  | _ :: _, [], h => h.elim
  | d :: ds, x :: X, h => ⟨d, ds, x, X, rfl, rfl, h.1, h.2⟩
theorem Fits2.inv0 : ∀ {ds : List (DataW H)} {X : List AV}, Fits2 [] ds X → ds = [] ∧ X = []
  | [], [], _ => ⟨rfl, rfl⟩
  | [], _ :: _, h => h.elim
  | _ :: _, _, h => h.elim
def OpensAll2 (P : Program) : List TypeId → List Shape2 → Prop
  | [], [] => True
  | t :: ts, S :: l => Opens2 P t S ∧ OpensAll2 P ts l
  | _, _ => False
theorem open_all2 : ∀ {ts : List TypeId} {l : List Shape2} {vs : List Value} {ds : List (DataW H)} {ps : List MemPlace} {b0 : Nat}, OpensAll2 P ts l → DataW.TrodAll enc P W 0 (fun _ => true) true ts vs ds ps →
    (∀ (j : Nat) t v, ts[j]? = some t → vs[j]? = some v → Value.okWide P W .any b0 t v) → (∀ n ∈ DataW.weightsEach P ts ds, n ≤ reachBytes) → ∃ X, Fits2 l ds X ∧ Reps W W0 ρ0 X vs
  | [], [], [], [], _, _, _, h, _, _ => ⟨[], trivial, trivial⟩
  | [], [], [], _ :: _, _, _, _, h, _, _ => h.elim
  | [], [], _ :: _, [], _, _, _, h, _, _ => h.elim
  | [], [], _ :: _, _ :: _, _, _, _, h, _, _ => h.elim
  | [], _ :: _, _, _, _, _, ho, _, _, _ => ho.elim
  | _ :: _, [], _, _, _, _, ho, _, _, _ => ho.elim
  | _ :: _, _ :: _, [], _, _, _, _, h, _, _ => h.elim
  | _ :: _, _ :: _, _ :: _, [], _, _, _, h, _, _ => h.elim
  | t :: ts, S :: l, v :: vs, d :: ds, ps, b0, ho, h, hv, hw => by
    obtain ⟨p, q, h1, h2, _⟩ := h
    simp only [DataW.weightsEach, List.mem_append] at hw
    obtain ⟨X, hX, hR⟩ := ho.1 H enc W b0 v d p (hv 0 t v rfl rfl) h1 (fun n hn => hw n (.inl hn))
    obtain ⟨Xs, hXs, hRs⟩ := open_all2 ho.2 h2 (fun j t v g1 g2 => hv (j + 1) t v (by simpa using g1) (by simpa using g2)) (fun n hn => hw n (.inr hn))
    exact ⟨X :: Xs, ⟨hX, hXs⟩, hR, hRs⟩

theorem law_calls2 {G : Nat → Option AV} {f : Nat} {fn : Func} {s : ChangeSpec} {run : List AV → List Blk → Option (Bool × AV × List Blk)} {base : Nat} {args : Array Value} {ds gs : List (DataW H)} {before : List MemPlace} {tb : TypeId} {l : List Shape2} {C : List (DataW H) → Prop}
    (hc : CallOk P G f run) (hG : GOk G W W0) (ho : OpensAll2 P fn.params.toList l) (hrun : ∀ X ds, Fits2 (H := H) l ds X → C ds → run X [] = some (true, .bool true, []))
    (hl : laidOutB P = true) (ht : (fn.params.toList.all fun t => P.readableRec t && decide (t < P.types.size)) = true) (hr : fn.resultTypes = #[tb]) (hb : P.underlying tb = some .bool) (hvars : s.vars = [])
    (hfn : ∀ ds : List (DataW H), ds.length = fn.params.size → s.fn H ds = { results := [.lit (.bool true)], args := ds })
    (hval : ∀ (j : Nat) t v, fn.params[j]? = some t → args[j]? = some v → Value.okWide P W .any base t v) (hW : DataW.Whole enc P fn.params.toList s.vars false W args.toList ds gs before)
    (hsz : (DataW.weightsEach P (fn.params.toList ++ s.plain.varTypes P) (ds ++ gs)).all (· ≤ reachBytes) = true) (hC : C (ds ++ gs)) :
    Calls P f args W fun e W' => ∃ v, e = .returned v ∧ s.post enc P fn false true false false W args v W' := by
  have hW' := hW
  obtain ⟨p, q, hA, hV, rfl, hfz, hnd⟩ := hW'
  have hg : gs = [] := by
    rw [hvars] at hV
    cases gs with
    | nil => rfl
    | cons _ _ => exact hV.elim
  subst hg
  rw [List.append_nil] at hC
  have hlen : ds.length = fn.params.size := by
    have : ∀ {ts : List TypeId} {vs : List Value} {ds : List (DataW H)} {ps : List MemPlace}, DataW.TrodAll enc P W 0 (fun _ => true) true ts vs ds ps → ds.length = ts.length := by
      intro ts
      induction ts with
      | nil => intro vs ds ps h; cases vs <;> cases ds <;> first | rfl | exact h.elim
      | cons t ts ih =>
        intro vs ds ps h
        cases vs with
        | nil => exact h.elim
        | cons v vs => cases ds with
          | nil => exact h.elim
          | cons d ds => obtain ⟨_, _, _, h2, _⟩ := h; simp [ih h2]
    rw [this hA]; simp
  obtain ⟨X, hX, hR⟩ := open_all2 (b0 := base) ho hA (fun j t v g1 g2 => hval j t v (by rw [← Array.getElem?_toList]; exact g1) (by rw [← Array.getElem?_toList]; exact g2)) (fun n hn => by
    have := List.all_eq_true.1 hsz n (by
      rw [List.append_nil]
      have key : ∀ (ts us : List TypeId) (ds : List (DataW H)), n ∈ DataW.weightsEach P ts ds → n ∈ DataW.weightsEach P (ts ++ us) ds := by
        intro ts
        induction ts with
        | nil => intro us ds h; cases ds <;> simp [DataW.weightsEach] at h
        | cons t ts ih =>
          intro us ds h
          cases ds with
          | nil => simp [DataW.weightsEach] at h
          | cons d ds =>
            simp only [DataW.weightsEach, List.cons_append, List.mem_append] at h ⊢
            exact h.imp id (ih us ds)
      exact key _ _ _ hn)
    simpa using this)
  refine (enter hc (hrun X ds hX hC) hG hR).mono ?_
  rintro e W' ⟨rfl, hB⟩
  exact ⟨_, rfl, post_true hl ht hr hb hW hvars (by rw [List.append_nil]; exact hfn ds hlen) hB⟩
end Go.Am
