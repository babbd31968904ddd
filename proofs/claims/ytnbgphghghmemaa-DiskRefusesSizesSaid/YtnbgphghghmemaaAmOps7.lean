/- Elements of values; literals of structs and arrays. -/
import Derived.Test.YtnbgphghghmemaaAmOps6
set_option linter.unusedVariables false
set_option linter.unusedSimpArgs false
namespace Go.Am
open Go
variable {P : Program} {V : Env} {U : Oth} {w0 : World} {W0 : Nat → Prop} {o : Oper} {ρ ρ' : Rho} {s s' : St} {a : Act} {w w' : World} {av : AV}

theorem part_many (h : TysOk P V.T) {W : Nat → Prop} {r r' : AV} {n t off : Nat} {cs : Array Value} (hagg : (V.T.at t).d.isAgg = true) (h0 : 0 < (V.T.at t).sz) (hx : Rep w W ρ (.agg n r) (.agg cs)) (hb : off + (V.T.at t).sz ≤ n) (hp : Parts r r' off (V.T.at t).sz) :
    ∃ v, (part t cs off).run P w = .ok v w ∧ Rep w W ρ (.agg (V.T.at t).sz r') v := by
  cases hx with | agg _ _ _ hw hr hc hrep =>
  refine ⟨.agg (cs.extract off (off + (V.T.at t).sz)), by simp [part, run_isAgg_many h hagg, run_sizeOf' h h0], .agg _ r' _ hp.wf hp.size (by simp; omega) fun j hj => ?_⟩
  rw [hp.cells j hj]
  have := hrep (off + j) (by omega)
  rwa [show (cs.extract off (off + (V.T.at t).sz)).getD j Go.undef = cs.getD (off + j) Go.undef by
    simp [Array.getD_eq_getD_getElem?, Array.getElem?_extract]; rw [if_pos (by omega)]]
theorem part_one (h : TysOk P V.T) {W : Nat → Prop} {r : AV} {n t off : Nat} {cs : Array Value} (hagg : (V.T.at t).d.isAgg = false) (h1 : (V.T.at t).sz = 1) (hx : Rep w W ρ (.agg n r) (.agg cs)) (hb : off < n) :
    ∃ v, (part t cs off).run P w = .ok v w ∧ Rep w W ρ (r.cell off) v := by
  cases hx with | agg _ _ _ hw hr hc hrep =>
  have e1 : cs[off]? = some (cs.getD off Go.undef) := by rw [Array.getD_eq_getD_getElem?, Array.getElem?_eq_getElem (by omega)]; rfl
  exact ⟨cs.getD off Go.undef, by simp only [part, Sem.run_bind, run_isAgg_one h hagg h1, Result.andThen_ok, e1]; rfl, hrep off hb⟩

theorem getD_bytes (s : ByteArray) (j : Nat) (h : j < s.size) : (bytesOf s).getD j 0 = (s[j].toNat : Int) := by
  have h1 : j < s.data.toList.length := by simpa using h
  simp only [bytesOf, List.getD_eq_getElem?_getD, List.getElem?_map, List.getElem?_eq_getElem h1, Option.map_some, Option.getD_some]
  rfl

theorem index_ok (h : TysOk P V.T) (hs : Sim U V.G w0 W0 ρ s a w) {t : Nat} {x j : Operand} (ho : o.op = .index t x j) {i : Nat} (ha : aop V i o s = some (true, av, s')) :
    s' = s ∧ ∃ v, (Instr.index t (a.eval x) (a.eval j)).run P w = .ok v w ∧ Rep w (Wr U ρ s.heap) ρ av v := by
  have hx := hs.ev x
  have hj := hs.ev j
  simp only [aop, ho] at ha
  split at ha <;> try contradiction
  · rename_i k jj xs hjj hxx
    have ej := intOf_rep hj hjj
    rw [ej]
    rw [hxx] at hx
    generalize a.eval x = u at hx ⊢
    split at ha <;> try contradiction
    rename_i hd
    have hu := isStr_ok h hd
    simp only [Option.some.injEq, Prod.mk.injEq, Bool.and_eq_true, decide_eq_true_eq] at ha
    obtain ⟨⟨g0, g1⟩, rfl, rfl⟩ := ha
    cases hx with | str b hm =>
    rw [bytesOf_len] at g1
    have hlt : jj.toNat < b.size := by omega
    refine ⟨rfl, .int .u8 b[jj.toNat].toNat, ?_, ?_⟩
    · simp only [Instr.index, Sem.run_bind, asIntOf, Sem.run_pure, Result.andThen_ok, run_underlying' hu, if_pos g0]
      rw [show b[jj.toNat]? = some b[jj.toNat] from getElem?_pos b jj.toNat hlt]
      rfl
    · rw [getD_bytes b _ hlt]
      have := UInt8.toNat_lt b[jj.toNat]
      exact .int .u8 _ ⟨by show (0 : Int) ≤ _; omega, by show (_ : Int) ≤ 255; omega⟩
  · rename_i k jj n r hjj hxx
    have ej := intOf_rep hj hjj
    rw [ej]
    rw [hxx] at hx
    generalize a.eval x = u at hx ⊢
    split at ha <;> try contradiction
    rename_i len e he
    split at ha <;> try contradiction
    rename_i hc
    rw [Bool.and_eq_true, Nat.beq_eq, Nat.blt_eq, mz_eq] at hc
    obtain ⟨hn, h0⟩ := hc
    have hu := (h t).arr _ _ he
    obtain ⟨cs, rfl⟩ : ∃ cs, u = .agg cs := by cases hx; exact ⟨_, rfl⟩
    have hx' := hx
    cases hx' with | agg _ _ _ hw hr hcs hrep =>
    split at ha
    · rename_i hagg
      simp only [Option.map_eq_some_iff, Prod.mk.injEq, Bool.and_eq_true, decide_eq_true_eq] at ha
      obtain ⟨r', g3, ⟨g0, g1⟩, rfl, rfl⟩ := ha
      have e1 : (jj.toNat + 1) * (V.T.at e).sz ≤ len * (V.T.at e).sz := Nat.mul_le_mul_right _ (by omega)
      rw [Nat.add_mul, Nat.one_mul] at e1
      have hp := rgetN_spec r n 0 n jj.toNat (V.T.at e).sz 0 _ r' hw hr (fun h => by omega) (by rw [ix_elem h0]; omega) (by omega) h0 g3
      rw [ix_elem h0, Nat.zero_add, Nat.add_zero] at hp
      obtain ⟨v, q1, q2⟩ := part_many h hagg h0 hx (by omega) hp
      refine ⟨rfl, v, ?_, q2⟩
      simp only [Instr.index, Sem.run_bind, asIntOf, Sem.run_pure, Result.andThen_ok, run_underlying' hu, if_pos (And.intro g0 g1), run_sizeOf' h h0, q1]
    · rename_i hagg
      split at ha <;> try contradiction
      rename_i h1
      rw [Nat.beq_eq] at h1
      simp only [Option.some.injEq, Prod.mk.injEq, Bool.and_eq_true, decide_eq_true_eq] at ha
      obtain ⟨⟨g0, g1⟩, rfl, rfl⟩ := ha
      rw [h1, Nat.mul_one] at hn
      have e2 : ix jj.toNat 1 0 = jj.toNat := rfl
      obtain ⟨v, q1, q2⟩ := part_one (off := jj.toNat) h (by simpa using hagg) h1 hx (by omega)
      refine ⟨rfl, v, ?_, ?_⟩
      · simp only [Instr.index, Sem.run_bind, asIntOf, Sem.run_pure, Result.andThen_ok, run_underlying' hu, if_pos (And.intro g0 g1), run_sizeOf' h h0, h1, Nat.mul_one, q1]
      · rcases rget_spec r 0 n jj.toNat 1 0 hw (by rw [e2]; omega) (by omega) with q | q
        · rw [q, e2, Nat.zero_add]; exact q2
        · rw [q]; exact .undef _

theorem foldl_set (vs : List Value) : ∀ (k off : Nat) (cs : Array Value), off + k + vs.length ≤ cs.size →
    ((vs.zipIdx k).foldl (fun cs (x : Value × Nat) => cs.setIfInBounds (off + x.2) x.1) cs).size = cs.size ∧
    ∀ j, ((vs.zipIdx k).foldl (fun cs (x : Value × Nat) => cs.setIfInBounds (off + x.2) x.1) cs).getD j Go.undef = if off + k ≤ j ∧ j < off + k + vs.length then vs.getD (j - (off + k)) Go.undef else cs.getD j Go.undef := by
  induction vs with
  | nil => intro k off cs h; exact ⟨rfl, fun j => by simp; omega⟩
  | cons v vs ih =>
    intro k off cs h
    simp only [List.length_cons] at h
    simp only [List.zipIdx_cons, List.foldl_cons]
    obtain ⟨h1, h2⟩ := ih (k + 1) off (cs.setIfInBounds (off + k) v) (by simp; omega)
    refine ⟨by rw [h1]; simp, fun j => ?_⟩
    rw [h2 j]
    simp only [List.length_cons]
    by_cases e : j = off + k
    · subst e
      rw [if_neg (by omega), if_pos (by omega)]
      simp [Array.getD_eq_getD_getElem?, show off + k < cs.size by omega]
    · by_cases e2 : off + k + 1 ≤ j ∧ j < off + k + 1 + vs.length
      · rw [if_pos (by omega), if_pos (by omega), show j - (off + k) = (j - (off + (k + 1))) + 1 by omega]
        rfl
      · rw [if_neg (by omega), if_neg (by omega)]
        simp [Array.getD_eq_getD_getElem?, Array.getElem?_setIfInBounds, Ne.symm e]

theorem zip_fold (vs cs : Array Value) (off : Nat) : vs.zipIdx.foldl (fun cs (c, j) => cs.setIfInBounds (off + j) c) cs = (vs.toList.zipIdx 0).foldl (fun cs (x : Value × Nat) => cs.setIfInBounds (off + x.2) x.1) cs := by
  rw [← Array.foldl_toList, Array.toList_zipIdx]

structure PutOk (w : World) (W : Nat → Prop) (ρ : Rho) (n : Nat) (r' : AV) (v : Value) (off m : Nat) (cs : Array Value) : Prop where
  size : v.cells.size = m
  fits : off + m ≤ n
  rep : Rep w W ρ (.agg n r') (.agg ((v.cells.toList.zipIdx 0).foldl (fun cs (x : Value × Nat) => cs.setIfInBounds (off + x.2) x.1) cs))

theorem put_sets {W : Nat → Prop} {r r' x : AV} {n off m : Nat} {v : Value} {vs cs : Array Value} (hv : v.cells = vs) (hx : Rep w W ρ (.agg n r) (.agg cs)) (hy : Rep w W ρ (.agg m x) (.agg vs)) (hset : SetsN r r' off m x) (hb : off + m ≤ n) :
    PutOk w W ρ n r' v off m cs := by
  cases hx with | agg _ _ _ hw hr hc hrep =>
  cases hy with | agg _ _ _ hxw hxs hvs hxrep =>
  obtain ⟨h1, h2⟩ := foldl_set vs.toList 0 off cs (by simp; omega)
  refine ⟨by rw [hv]; exact hvs, hb, .agg _ _ _ hset.wf (hset.size.trans hr) (by rw [hv, h1]; exact hc) fun j hj => ?_⟩
  rw [hv, h2 j]
  simp only [Nat.add_zero, Array.length_toList]
  by_cases hin : off ≤ j ∧ j < off + m
  · rw [if_pos (by omega)]
    have e := hset.same (j - off) (by omega)
    rw [show off + (j - off) = j by omega] at e
    rw [e]
    have := hxrep (j - off) (by omega)
    simpa [Array.getD_eq_getD_getElem?, List.getD_eq_getElem?_getD] using this
  · rw [if_neg (by omega), hset.other j (by omega) (by omega)]
    exact hrep j hj

theorem putv_ok {W : Nat → Prop} {r r' x : AV} {n off m : Nat} {v : Value} {cs : Array Value} (hx : Rep w W ρ (.agg n r) (.agg cs)) (hy : Rep w W ρ x v) (hb : off + m ≤ n) (h : putv r n off m x = some r') :
    PutOk w W ρ n r' v off m cs := by
  have hx' := hx
  cases hx' with | agg _ _ _ hw hr hc hrep =>
  unfold putv at h
  split at h
  · rename_i n' y
    split at h <;> try contradiction
    rename_i hc
    rw [Bool.and_eq_true, Nat.beq_eq, Nat.blt_eq] at hc
    obtain ⟨rfl, h0⟩ := hc
    have hy' := hy
    cases hy' with | agg _ _ vs hyw hys hvs hyrep =>
    have hset := rsetN_spec r n off m 0 0 0 m y r' hw hr (fun _ => rfl) (by simp [ix]) hb h0 hyw hys h
    have e0 : off + ix 0 0 0 = off := rfl
    rw [e0] at hset
    exact put_sets rfl hx hy hset hb
  · split at h <;> try contradiction
    rename_i hc
    rw [Bool.and_eq_true, Nat.beq_eq] at hc
    obtain ⟨hsc, rfl⟩ := hc
    have hset := (rset_spec r off 1 0 0 0 x r' hw hsc (by simp [ix]) (by omega) h).setsN
    have e0 : off + ix 0 0 0 = off := rfl
    rw [e0] at hset
    exact put_sets (hy.one hsc).1 hx (rep_one hy hsc) hset hb
end Go.Am
