/- Literals; new variables. -/
import Derived.Test.YtnbgphghghmemaaAmOps7
set_option linter.unusedVariables false
set_option linter.unusedSimpArgs false
namespace Go.Am
open Go
variable {P : Program} {V : Env} {U : Oth} {w0 : World} {W0 : Nat → Prop} {o : Oper} {ρ ρ' : Rho} {s s' : St} {a : Act} {w w' : World} {av : AV}

theorem fill_step {place : Nat → Option (Nat × Nat)} {cs : Array Value} {i off size : Nat} {v : Value} {rest : List (Nat × Value)} (hp : place i = some (off, size)) (h1 : v.cells.size = size) (h2 : off + v.cells.size ≤ cs.size) :
    Instr.fill place cs ((i, v) :: rest) = Instr.fill place ((v.cells.toList.zipIdx 0).foldl (fun cs (x : Value × Nat) => cs.setIfInBounds (off + x.2) x.1) cs) rest := by
  rw [Instr.fill, hp]
  simp only []
  rw [if_neg (by simp; omega), zip_fold]

def PartsRep (w : World) (W : Nat → Prop) (ρ : Rho) : List (Nat × AV) → List (Nat × Value) → Prop
  | [], [] => True
  | (i, x) :: l, (j, v) :: l' => i = j ∧ Rep w W ρ x v ∧ PartsRep w W ρ l l'
  | _, _ => False

theorem fillS_ok {W : Nat → Prop} {T : Tys} {fs : List (Nat × Nat)} {k : Nat} {place : Nat → Option (Nat × Nat)} (hpl : ∀ f t off, fs[f]? = some (t, off) → place f = some (off, (T.at t).sz)) :
    ∀ (l : List (Nat × AV)) (l' : List (Nat × Value)) (r r' : AV) (cs : Array Value), PartsRep w W ρ l l' → Rep w W ρ (.agg k r) (.agg cs) → fillS T fs k r l = some r' →
      ∃ cs', Instr.fill place cs l' = some cs' ∧ Rep w W ρ (.agg k r') (.agg cs')
  | [], [], r, r', cs, _, hx, h => by simp [fillS] at h; subst h; exact ⟨cs, rfl, hx⟩
  | [], _ :: _, _, _, _, hp, _, _ => hp.elim
  | _ :: _, [], _, _, _, hp, _, _ => hp.elim
  | (f, x) :: l, (f', v) :: l', r, r', cs, hp, hx, h => by
    obtain ⟨rfl, hy, hp⟩ := hp
    simp only [fillS] at h
    split at h <;> try contradiction
    rename_i t off hf
    split at h <;> try contradiction
    rename_i hb
    rw [Nat.ble_eq] at hb
    split at h <;> try contradiction
    rename_i r1 h1
    have hput := putv_ok hx hy hb h1
    have hcs : cs.size = k := by cases hx; assumption
    obtain ⟨cs', g1, g2⟩ := fillS_ok hpl l l' r1 r' _ hp hput.rep h
    exact ⟨cs', by rw [fill_step (hpl f t off hf) hput.size (by rw [hput.size]; omega)]; exact g1, g2⟩

theorem fillR_ok {W : Nat → Prop} {k sz : Nat} :
    ∀ (l : List (Nat × AV)) (l' : List (Nat × Value)) (r r' : AV) (cs : Array Value), PartsRep w W ρ l l' → Rep w W ρ (.agg k r) (.agg cs) → fillR k sz r l = some r' →
      ∃ cs', Instr.fill (fun i => some (i * sz, sz)) cs l' = some cs' ∧ Rep w W ρ (.agg k r') (.agg cs')
  | [], [], r, r', cs, _, hx, h => by simp [fillR] at h; subst h; exact ⟨cs, rfl, hx⟩
  | [], _ :: _, _, _, _, hp, _, _ => hp.elim
  | _ :: _, [], _, _, _, hp, _, _ => hp.elim
  | (f, x) :: l, (f', v) :: l', r, r', cs, hp, hx, h => by
    obtain ⟨rfl, hy, hp⟩ := hp
    simp only [fillR] at h
    split at h <;> try contradiction
    rename_i hb
    rw [Nat.ble_eq] at hb
    split at h <;> try contradiction
    rename_i r1 h1
    have hput := putv_ok hx hy hb h1
    have hcs : cs.size = k := by cases hx; assumption
    obtain ⟨cs', g1, g2⟩ := fillR_ok l l' r1 r' _ hp hput.rep h
    exact ⟨cs', by rw [fill_step rfl hput.size (by rw [hput.size]; omega)]; exact g1, g2⟩

theorem partsRep_map {W : Nat → Prop} (f : Operand → AV) (g : Operand → Value) (h : ∀ x, Rep w W ρ (f x) (g x)) : ∀ (l : List (Nat × Operand)), PartsRep w W ρ (l.map fun p => (p.1, f p.2)) (l.map fun p => (p.1, g p.2))
  | [] => trivial
  | p :: l => ⟨rfl, h _, partsRep_map f g h l⟩

theorem run_zeroValue' {t : TypeId} {i : TypeInfo} {z : Value} (h : P.info? t = some i) (hz : i.zero = some z) (w : World) : (zeroValue t).run P w = .ok z w := by
  simp [zeroValue, typeInfo, program, Sem.run, h, hz]

theorem zero_ok (h : TysOk P V.T) {t : Nat} {r : AV} (hz : zvar V.T 16 t = some r) (w : World) (W : Nat → Prop) (ρ : Rho) :
    0 < (V.T.at t).sz ∧ ∃ z, (zeroValue t).run P w = .ok z w ∧ z.cells.size = (V.T.at t).sz ∧ Rep w W ρ (.agg (V.T.at t).sz r) (.agg z.cells) := by
  obtain ⟨h0, hw, hs, i, z, g1, g2, g3, g4⟩ := (h t).zero r hz
  exact ⟨h0, z, run_zeroValue' g1 g2 w, g3, .agg _ _ _ hw hs g3 fun j hj => concZ_rep (g4 j hj) _ _ _⟩
theorem zeros_ok (h : TysOk P V.T) {e n : Nat} {r : AV} (hz : zrow V.T 8 e n = some r) (w : World) (W : Nat → Prop) (ρ : Rho) :
    0 < (V.T.at e).sz ∧ r.leafB = true ∧ ∃ z, (zeroValue e).run P w = .ok z w ∧ z.cells.size = (V.T.at e).sz ∧ Rep w W ρ (.agg (n * (V.T.at e).sz) r) (.agg ((Array.range (n * (V.T.at e).sz)).map (z.cells[· % z.cells.size]!))) := by
  obtain ⟨h0, hl, hs, i, z, g1, g2, g3, g4, g5⟩ := h.zrow hz
  refine ⟨h0, hl, z, run_zeroValue' g1 g3 w, g4, .agg _ _ _ (wf_leaf hl) hs (by simp) fun j hj => ?_⟩
  have := g5 j hj w W ρ
  have e1 : j % (V.T.at e).sz < z.cells.size := by rw [g4]; exact Nat.mod_lt _ h0
  rwa [show ((Array.range (n * (V.T.at e).sz)).map (z.cells[· % z.cells.size]!)).getD j Go.undef = z.cells.getD (j % (V.T.at e).sz) Go.undef by
    rw [Array.getD_eq_getD_getElem?, Array.getElem?_map, Array.getElem?_range, if_pos hj]
    simp only [Option.map_some, Option.getD_some]
    rw [g4, getElem!_pos z.cells _ e1, Array.getD_eq_getD_getElem?, Array.getElem?_eq_getElem e1]; rfl]

theorem run_mapM {α β : Type} (f : α → Sem β) (g : α → β) : ∀ (l : List α), (∀ x ∈ l, ∀ w, (f x).run P w = .ok (g x) w) → ∀ w, (l.mapM f).run P w = .ok (l.map g) w
  | [], _, w => by simp
  | x :: l, h, w => by
    rw [List.mapM_cons]
    simp only [Sem.run_bind, h x (by simp) w, Result.andThen_ok, run_mapM f g l (fun y hy => h y (by simp [hy])) w, Sem.run_pure, List.map_cons]

theorem build_ok (h : TysOk P V.T) (hs : Sim U V.G w0 W0 ρ s a w) {t : Nat} {parts : Array (Nat × Operand)} (ho : o.op = .build t parts) {i : Nat} (ha : aop V i o s = some (true, av, s')) :
    s' = s ∧ ∃ v, (Instr.build t (parts.map fun (i, x) => (i, a.eval x))).run P w = .ok v w ∧ Rep w (Wr U ρ s.heap) ρ av v := by
  simp only [aop, ho] at ha
  have hparts := partsRep_map (w := w) (W := Wr U ρ s.heap) (ρ := ρ) (ev V s) a.eval (fun x => hs.ev x) parts.toList
  have hlist : (parts.map fun (i, x) => (i, a.eval x)).toList = parts.toList.map fun p => (p.1, a.eval p.2) := by simp
  split at ha <;> try contradiction
  · rename_i fs hfs
    split at ha <;> try contradiction
    rename_i z hz
    split at hz <;> try contradiction
    rename_i hall
    simp only [Option.map_eq_some_iff, Prod.mk.injEq, true_and] at ha
    obtain ⟨r, h1, rfl, rfl⟩ := ha
    obtain ⟨h0, zv, g1, g2, g3⟩ := zero_ok h hz w (Wr U ρ s.heap) ρ
    obtain ⟨arr, u1, u2, _⟩ := (h t).struct _ hfs
    have hpos : ∀ f ∈ arr.toList, 0 < (V.T.at f.type).sz := fun f hf => by
      rw [List.all_eq_true] at hall
      have := hall (f.type, f.offset) (by rw [← u2]; exact List.mem_map_of_mem hf)
      simpa [Nat.blt_eq] using this
    have hm : (arr.mapM fun f => do pure (f.offset, ← sizeOf f.type) : Sem (Array (Nat × Nat))).run P w = .ok (arr.map fun f => (f.offset, (V.T.at f.type).sz)) w := by
      rw [Array.mapM_eq_mapM_toList]
      simp only [Sem.run_map]
      rw [run_mapM _ (fun f => (f.offset, (V.T.at f.type).sz)) arr.toList (fun f hf w => by simp [run_sizeOf' h (hpos f hf)])]
      simp only [Result.andThen_ok]
      exact congrArg (fun x => Result.ok x w) (Array.ext' (by simp))
    obtain ⟨cs', q1, q2⟩ := fillS_ok (place := fun i => (arr.map fun f => (f.offset, (V.T.at f.type).sz))[i]?) (fun f t off hf => by
      rw [← u2, List.getElem?_map, Option.map_eq_some_iff] at hf
      obtain ⟨fd, q1, q2⟩ := hf
      simp only [Prod.mk.injEq] at q2
      obtain ⟨rfl, rfl⟩ := q2
      simp [show arr[f]? = some fd by simpa using q1]) _ _ _ _ _ hparts g3 h1
    refine ⟨rfl, .agg cs', ?_, q2⟩
    simp only [Instr.build, Sem.run_bind, g1, Result.andThen_ok, run_underlying' u1, hm, hlist, q1, Sem.run_pure]
  · rename_i n e he
    split at ha <;> try contradiction
    rename_i z hz
    split at ha <;> try contradiction
    rename_i hsz
    rw [Nat.beq_eq] at hsz
    simp only [Option.map_eq_some_iff, Prod.mk.injEq, true_and] at ha
    obtain ⟨r, h1, rfl, rfl⟩ := ha
    obtain ⟨h0, zv, g1, g2, g3⟩ := zero_ok h hz w (Wr U ρ s.heap) ρ
    have he0 : 0 < (V.T.at e).sz := by
      rcases Nat.eq_zero_or_pos (V.T.at e).sz with q | q
      · rw [q, Nat.mul_zero] at hsz; omega
      · exact q
    rw [hsz] at g3
    obtain ⟨cs', q1, q2⟩ := fillR_ok _ _ _ _ _ hparts g3 h1
    refine ⟨rfl, .agg cs', ?_, by rw [hsz]; exact q2⟩
    simp only [Instr.build, Sem.run_bind, g1, Result.andThen_ok, run_underlying' ((h t).arr _ _ he), run_sizeOf' h he0, hlist, q1, Sem.run_pure]
end Go.Am
