/- Slices of structs whose fields are integers, bools, strings and slices of integers, as arguments. -/
import Derived.Test.YtnbgphghghmemaaAmClaim2
set_option linter.unusedVariables false
set_option linter.unusedSimpArgs false
namespace Go.Am
open Go Go.ChangeShapes Go.WideShapes Go.RowKit
variable {P : Program} {H : Type} {enc : TypeId × Value → H} {W : World}

def FOpens (P : Program) (t : TypeId) (k : CK) : Prop := ∀ (H : Type) (enc : TypeId × Value → H) (W : World) (n : Nat) (cs : List Value) (x : DataW H × List MemPlace),
  DataW.trod enc P W 0 (fun _ => true) true n t cs = some x → (∀ m ∈ x.1.weights P t, m ≤ reachBytes) → ∃ c f, cs = [c] ∧ Rep W W0 ρ0 (tval k f) c ∧ f.length ≤ reachBytes + 1
theorem fopens_int {t : TypeId} {k : IntKind} (ht : P.underlying t = some (.int k)) : FOpens P t (.int k) := fun H enc W n cs x h _ => by
  obtain ⟨z, h1, _, h3⟩ := DataW.trod_int ht h
  exact ⟨_, [z], h1, .int k z (lit_has h3), by simp⟩
theorem fopens_bool {t : TypeId} (ht : P.underlying t = some .bool) : FOpens P t .bool := fun H enc W n cs x h _ => by
  obtain ⟨b, h1, _⟩ := DataW.trod_bool ht h
  refine ⟨_, [cond b 1 0], h1, ?_, by simp⟩
  have e : tval .bool [cond b 1 0] = .bool b := by cases b <;> rfl
  rw [e]; exact .bool b
theorem fopens_str {t : TypeId} (ht : P.underlying t = some .string) : FOpens P t .str := fun H enc W n cs x h hw => by
  obtain ⟨s, h1, h2, _⟩ := DataW.trod_string ht h
  have h3 : s.size ≤ reachBytes := by
    have := hw s.data.toList.length (by rw [h2]; simp [DataW.weights])
    simpa using this
  exact ⟨_, bytesOf s, h1, .str s (Nat.lt_of_le_of_lt h3 (by decide)), by unfold bytesOf; rw [List.length_map]; exact Nat.le_succ_of_le h3⟩
theorem fopens_sl {t e : TypeId} {k : IntKind} (ht : P.underlying t = some (.slice e)) (he : P.underlying e = some (.int k)) (hc : P.cellsOf e = 1) (hb0 : Nat.blt 0 (P.bytesOf e) = true) : FOpens P t (.sl k) := fun H enc W n cs x h hw => by
  have hb : 0 < P.bytesOf e := by rw [Nat.blt_eq] at hb0; exact hb0
  rcases open_ints ht he hc h with ⟨h1, _⟩ | ⟨a, len, cap, zs, h1, _, hl, _, hz, hx, hcell, hwf⟩
  · exact ⟨_, [], h1, .vs0 _ 1 0 none rfl rfl, by simp⟩
  · simp only [if_true] at hz
    by_cases h0 : len = 0
    · subst h0
      exact ⟨_, [], h1, .vs0 _ 1 cap _ rfl rfl, by simp⟩
    · have hlt : len ≤ reachBytes := by
        have := hw (((lits (H := H) k (zs.take len)).length + (lits (H := H) k (zs.drop len)).length) * P.bytesOf e) (by rw [hx]; simp [DataW.weights, ht])
        simp only [lits, List.length_map, List.length_take, List.length_drop] at this
        have h3 := Nat.le_mul_of_pos_right (min len zs.length + (zs.length - len)) hb
        omega
      refine ⟨_, zs.take len, h1, ?_, by rw [List.length_take]; omega⟩
      have hr : reachBytes < 4611686018427387904 := by decide
      have ha := hcell 0 (by omega)
      rw [show a.add 0 = a by simp [Addr.add]] at ha
      rw [(add_of_cell ha 0).1]
      refine .vs _ 0 1 len cap a.block a.off (fun i => .int k (zs.getD i 0)) rfl (by omega) (by simp [AV.size]; omega) (by omega) (.inl rfl) hl (by omega) (fun h => h) (fun j hj => ?_) (fun j hj => ?_)
      · rw [← (add_of_cell ha j).2]; exact hcell j (by omega)
      · simp only [AV.cell]
        rw [getD_take _ _ _ _ (by omega)]
        refine .int k _ (lit_has (hwf _ ?_))
        rw [List.getD_eq_getElem?_getD, List.getElem?_eq_getElem (by omega)]
        exact List.getElem_mem _

def FAll (P : Program) : List Field → List CK → Nat → Prop
  | [], [], _ => True
  | f :: fs, k :: ks, c => f.offset = c ∧ P.cellsOf f.type = 1 ∧ FOpens P f.type k ∧ FAll P fs ks (c + 1)
  | _, _, _ => False
theorem FAll.len : ∀ {fs : List Field} {ks : List CK} {c : Nat}, FAll P fs ks c → fs.length = ks.length
  | [], [], _, _ => rfl
  | [], _ :: _, _, h => h.elim
  | _ :: _, [], _, h => h.elim
  | _ :: fs, _ :: ks, c, h => by simp [FAll.len h.2.2.2]
theorem FAll.at : ∀ {fs : List Field} {ks : List CK} {c : Nat}, FAll P fs ks c → ∀ j, j < ks.length → ∃ f, fs[j]? = some f ∧ f.offset = c + j ∧ P.cellsOf f.type = 1 ∧ FOpens P f.type (ks.getD j .bool)
  | [], [], _, _, j, hj => by simp at hj
  | [], _ :: _, _, h, _, _ => h.elim
  | _ :: _, [], _, h, _, _ => h.elim
  | f :: fs, k :: ks, c, h, 0, _ => ⟨f, rfl, h.1, h.2.1, h.2.2.1⟩
  | f :: fs, k :: ks, c, h, j + 1, hj => by
    obtain ⟨g, h1, h2, h3, h4⟩ := FAll.at h.2.2.2 j (by simpa using hj)
    exact ⟨g, by simpa using h1, by omega, h3, by simpa using h4⟩
theorem weightsEach_mem : ∀ {ts : List TypeId} {ds : List (DataW H)} {j : Nat} {t : TypeId} {d : DataW H} {n : Nat}, ts[j]? = some t → ds[j]? = some d → n ∈ d.weights P t → n ∈ DataW.weightsEach P ts ds
  | [], _, _, _, _, _, h, _, _ => by simp at h
  | _ :: _, [], _, _, _, _, _, h, _ => by simp at h
  | t :: ts, d :: ds, 0, _, _, n, h1, h2, h3 => by
    simp only [List.getElem?_cons_zero, Option.some.injEq] at h1 h2
    subst h1; subst h2
    simp only [DataW.weightsEach, List.mem_append]; exact .inl h3
  | t :: ts, d :: ds, j + 1, _, _, n, h1, h2, h3 => by
    simp only [DataW.weightsEach, List.mem_append]
    exact .inr (weightsEach_mem (by simpa using h1) (by simpa using h2) h3)

def recsR (ks : List CK) : Shape2 := fun _ _ X => ∃ (xs : List (List (List Int))) (m : Nat), X = .vs (.rT ks xs) m ks.length ∧ m ≤ reachBytes ∧ xs.length = m ∧ ∀ x ∈ xs, x.length = ks.length ∧ ∀ f ∈ x, f.length ≤ reachBytes + 1
theorem opensR_recs {t e : TypeId} {fs : Array Field} {ks : List CK} (ht : P.underlying t = some (.slice e)) (he : P.underlying e = some (.struct fs)) (hf : FAll P fs.toList ks 0) (hn : P.cellsOf e = ks.length) (h1n : Nat.blt 1 ks.length = true)
    (hb0 : Nat.blt 0 (P.bytesOf e) = true) : Opens2 P t (recsR ks) := fun H enc W b0 v d ps hv hd hw => by
  have hb : 0 < P.bytesOf e := by rw [Nat.blt_eq] at hb0; exact hb0
  rw [Nat.blt_eq] at h1n
  have hk1 : klen = klen := rfl
  obtain ⟨a0, len0, cap0, rfl⟩ := okWide_slice ht hv
  obtain ⟨fuel, hf'⟩ := hd
  have hkl : ∀ l, klen l ks.length = l := fun l => by
    unfold klen; split
    · omega
    · rfl
  rcases DataW.trod_slice ht hf' with ⟨h1, _⟩ | ⟨a, len, cap, elems, rest, m, _, h1, hx, _, hl, _, hlen, hel, _, _⟩
  · have h2 : (Value.slice a0 len0 cap0) = .slice none 0 0 := by simpa [Value.cells] using h1
    rw [h2]
    exact ⟨.vs (.rT ks []) 0 ks.length, ⟨[], 0, rfl, Nat.zero_le _, rfl, fun x hx => by simp at hx⟩, .vs0 _ _ 0 none rfl (by simp [AV.size])⟩
  · have h2 : (Value.slice a0 len0 cap0) = .slice (some a) len cap := by simpa [Value.cells] using h1
    rw [h2]
    simp only [Prod.mk.injEq] at hx
    by_cases h0 : len = 0
    · subst h0
      exact ⟨.vs (.rT ks []) 0 ks.length, ⟨[], 0, rfl, Nat.zero_le _, rfl, fun x hx => by simp at hx⟩, .vs0 _ _ cap _ rfl (by simp [AV.size])⟩
    · have hlt : len ≤ reachBytes := by
        have := hw (((elems.map (·.1)).length + (rest.map (·.1)).length) * P.bytesOf e) (by rw [hx.1]; simp [DataW.weights, ht])
        simp only [List.length_map] at this
        have h3 := Nat.le_mul_of_pos_right (elems.length + rest.length) hb
        omega
      have hr : reachBytes < 4611686018427387904 := by decide
      have each : ∀ i j, i < len → j < ks.length → ∃ c f, W.cell? ((a.add (i * ks.length)).add j) = some c ∧ Rep W W0 ρ0 (tval (ks.getD j .bool) f) c ∧ f.length ≤ reachBytes + 1 := fun i j hi hj => by
        have h3 := hel i hi
        rw [hn, List.getElem?_eq_getElem (show i < elems.length by omega)] at h3
        cases hcs : W.cells? 0 (a.add (i * ks.length)) ks.length with
        | none => rw [hcs] at h3; cases h3
        | some cs =>
          rw [hcs] at h3
          obtain ⟨_, _, g3⟩ := World.cells?_some hcs
          have h3' : DataW.trod enc P W 0 (fun _ => true) true m e cs = some elems[i] := h3
          obtain ⟨xs, m1, _, gx, _, gn, gel⟩ := DataW.trod_struct he h3'
          obtain ⟨f, q1, q2, q3, q4⟩ := hf.at j hj
          have q1' : fs[j]? = some f := by rw [← Array.getElem?_toList]; exact q1
          have hjx : j < xs.length := by
            rw [gn]; have := hf.len; rw [← Array.length_toList]; omega
          have h4 := gel j f q1'
          rw [q2, q3, Nat.zero_add, List.getElem?_eq_getElem hjx] at h4
          obtain ⟨c, z, r1, r2, r3⟩ := q4 H enc W m1 _ _ h4 (fun n hn' => by
            refine hw n ?_
            rw [hx.1]
            simp only [DataW.weights, ht, List.mem_cons, List.mem_append]
            refine .inr (.inl (weightsAll_mem (d := elems[i].1) (List.mem_map.mpr ⟨_, List.getElem_mem _, rfl⟩) ?_))
            rw [gx]
            simp only [DataW.weights, he]
            exact weightsEach_mem (j := j) (t := f.type) (d := xs[j].1) (by rw [List.getElem?_map, q1]; rfl) (by rw [List.getElem?_map, List.getElem?_eq_getElem hjx]; rfl) hn')
          refine ⟨c, z, ?_, r2, r3⟩
          rw [g3 j hj]
          have : ((cs.drop j).take 1)[0]? = some c := by rw [r1]; rfl
          simpa [List.getElem?_take] using this
      have ha : ∃ z, W.cell? a = some z := by
        obtain ⟨c, f, q, _⟩ := each 0 0 (by omega) (by omega)
        rw [Nat.zero_mul, show (a.add 0).add 0 = a by simp [Addr.add]] at q
        exact ⟨c, q⟩
      obtain ⟨z0, ha⟩ := ha
      have ea := (add_of_cell ha 0).1
      have eaddr : ∀ i j, (a.add (i * ks.length)).add j = ⟨a.block, a.off + (i * ks.length + j), none⟩ := fun i j => by
        rw [(add_of_cell ha (i * ks.length)).2]
        unfold Addr.add; split
        · rename_i h0'; rw [h0', Nat.add_zero]
        · show (⟨a.block, a.off + i * ks.length + j, none⟩ : Addr) = _
          rw [Nat.add_assoc]
      have pick : ∀ i j, ∃ f : List Int, (i < len → j < ks.length → ∃ c, W.cell? ⟨a.block, a.off + (i * ks.length + j), none⟩ = some c ∧ Rep W W0 ρ0 (tval (ks.getD j .bool) f) c) ∧ f.length ≤ reachBytes + 1 := fun i j => by
        by_cases hi : i < len
        · by_cases hj : j < ks.length
          · obtain ⟨c, f, q1, q2, q3⟩ := each i j hi hj
            rw [eaddr] at q1
            exact ⟨f, fun _ _ => ⟨c, q1, q2⟩, q3⟩
          · exact ⟨[], fun _ h => absurd h hj, by simp⟩
        · exact ⟨[], fun h => absurd h hi, by simp⟩
      let F : Nat → Nat → List Int := fun i j => Classical.choose (pick i j)
      have hF : ∀ i j, i < len → j < ks.length → ∃ c, W.cell? ⟨a.block, a.off + (i * ks.length + j), none⟩ = some c ∧ Rep W W0 ρ0 (tval (ks.getD j .bool) (F i j)) c := fun i j => (Classical.choose_spec (pick i j)).1
      have hF2 : ∀ i j, (F i j).length ≤ reachBytes + 1 := fun i j => (Classical.choose_spec (pick i j)).2
      refine ⟨.vs (.rT ks ((List.range len).map fun i => (List.range ks.length).map fun j => F i j)) len ks.length, ⟨_, len, rfl, hlt, by simp, fun x hx => ?_⟩, ?_⟩
      · simp only [List.mem_map, List.mem_range] at hx
        obtain ⟨i, _, rfl⟩ := hx
        refine ⟨by simp, fun f hf => ?_⟩
        simp only [List.mem_map, List.mem_range] at hf
        obtain ⟨j, _, rfl⟩ := hf
        exact hF2 i j
      · rw [ea]
        have hpos : 0 < ks.length := by omega
        refine .vs _ len ks.length len cap a.block a.off (fun j => (W.cell? ⟨a.block, a.off + j, none⟩).getD Go.undef) rfl hpos (by simp [AV.size]) (by omega) (.inl (hkl len).symm) hl (by omega) (fun h => h) (fun j hj => ?_) (fun j hj => ?_)
        · have hi : j / ks.length < len := by rw [Nat.div_lt_iff_lt_mul hpos]; exact hj
          obtain ⟨c, q1, _⟩ := hF (j / ks.length) (j % ks.length) hi (Nat.mod_lt _ hpos)
          rw [Nat.mul_comm, Nat.div_add_mod] at q1
          rw [q1]; rfl
        · have hi : j / ks.length < len := by rw [Nat.div_lt_iff_lt_mul hpos]; exact hj
          have hjm := Nat.mod_lt j hpos
          obtain ⟨c, q1, q2⟩ := hF (j / ks.length) (j % ks.length) hi hjm
          rw [Nat.mul_comm, Nat.div_add_mod] at q1
          rw [q1]
          simp only [AV.cell, Option.getD_some]
          have e1 : (((List.range len).map fun i => (List.range ks.length).map fun j => F i j).getD (j / ks.length) []).getD (j % ks.length) [] = F (j / ks.length) (j % ks.length) := by
            have e2 : ((List.range len).map fun i => (List.range ks.length).map fun j => F i j).getD (j / ks.length) [] = (List.range ks.length).map fun j' => F (j / ks.length) j' := by
              rw [List.getD_eq_getElem?_getD, List.getElem?_map, List.getElem?_range hi]; rfl
            rw [e2, List.getD_eq_getElem?_getD, List.getElem?_map, List.getElem?_range hjm]; rfl
          rw [e1]; exact q2
end Go.Am
