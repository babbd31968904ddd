/- Regions in the text's order. -/
import Derived.Test.YtnbgphghghmemaaAmCall
set_option linter.unusedVariables false
set_option linter.unusedSimpArgs false
namespace Go.Am
open Go
variable {P : Program} {V : Env} {U : Oth} {w0 : World} {W0 : Nat → Prop} {ρ ρ' : Rho} {s s' : St} {a a' : Act} {w w' : World} {av : AV}

def agoOp (V : Env) (i : Nat) (o : Oper) (s : St) : Option St := match o.op with
  | .pick c x y => match ev V s c with
    | .bool b => some (s.put o.dst (ev V s (if b then x else y)))
    | _ => none
  | _ => match aop V i o s with
    | some (true, v, s') => some (s'.put o.dst v)
    | _ => none
def astep (V : Env) (ops : Array Oper) (i : Nat) (o : Oper) (s : St) : Option St := match o.guard with
  | none => agoOp V i o s
  | some (j, want) => match (ops[j]?).bind (·.dst) with
    | none => none
    | some d => match lk d s.tmps with
      | .bool b => if b = want then agoOp V i o (s.put (some d) (.bool b)) else some ((s.put (some d) (.bool b)).put o.dst (.tup .nil))
      | .tup .nil => some (s.put o.dst (.tup .nil))
      | _ => none

variable {α : Type} {ops : Array Oper} {K : St → Option α} {x : α}
theorem cond_some {b : Bool} {X Y : Option α} (h : cond b X Y = some x) : (b = true ∧ X = some x) ∨ (b = false ∧ Y = some x) := by
  cases b
  · exact .inr ⟨rfl, h⟩
  · exact .inl ⟨rfl, h⟩

theorem caseS_some {J : Nat} {Kq : Nat → Option α} : ∀ (l : AVs) (q : Nat), caseS J Kq l q = some x → Kq J = some x
  | .nil, _, h => by simp [caseS] at h
  | .cons _ _ t, q, h => by
    rw [caseS] at h
    rcases cond_some h with ⟨hb, h⟩ | ⟨_, h⟩
    · rw [Nat.eq_of_beq_eq_true hb]; exact h
    · exact caseS_some t (q + 1) h
theorem spl_some {i : Nat} {o : Oper} {s s' : St} {pre : Bool} {v : AV} {Kv : AV → Option α} (ha : aop V i o s = some (pre, v, s')) (h : spl V s o v Kv = some x) : Kv v = some x := by
  unfold spl at h
  split at h
  · rename_i t y j hop
    split at h
    · rename_i k jj id len sz hj hy
      split at h
      · rename_i n l b hl
        have := caseS_some (Kq := fun q => Kv (.ptr id (mz q sz) sz 0 0 0 sz)) l 0 h
        simp only [aop, hop, hj, hy] at ha
        split at ha <;> try contradiction
        simp only [Option.map_eq_some_iff, Prod.mk.injEq] at ha
        obtain ⟨n0, _, _, rfl, _⟩ := ha
        unfold ptrAt
        rw [hl]
        exact this
      · exact h
    · exact h
  · exact h
theorem aops_cons {i : Nat} {o : Oper} {l : List Oper} (h : aops V ops K i (o :: l) s = some x) : ∃ s', astep V ops i o s = some s' ∧ aops V ops K (i + 1) l s' = some x := by
  rw [aops] at h
  have go : ∀ s : St, (match o.op with
      | .pick c x y => match ev V s c with
        | .bool b => cond b (aops V ops K (i + 1) l (s.put o.dst (ev V s x))) (aops V ops K (i + 1) l (s.put o.dst (ev V s y)))
        | _ => none
      | _ => match aop V i o s with
        | some (pre, v, s') => cond pre (spl V s o v fun v => aops V ops K (i + 1) l (s'.put o.dst v)) none
        | none => none) = some x → ∃ s', agoOp V i o s = some s' ∧ aops V ops K (i + 1) l s' = some x := by
    intro s h
    unfold agoOp
    split at h
    · rename_i c y z hop
      split at h <;> try contradiction
      rename_i b hb
      rcases cond_some h with ⟨rfl, h⟩ | ⟨rfl, h⟩
      · exact ⟨_, rfl, h⟩
      · exact ⟨_, rfl, h⟩
    · rename_i hop
      split at h <;> try contradiction
      rename_i pre v s' ha
      rcases cond_some h with ⟨rfl, h⟩ | ⟨rfl, h⟩
      · refine ⟨s'.put o.dst v, ?_, spl_some (Kv := fun v => aops V ops K (i + 1) l (s'.put o.dst v)) ha h⟩
        rw [ha]
      · cases h
  dsimp only at h
  unfold astep
  split at h
  · rename_i hg
    rw [hg]
    exact go s h
  · rename_i j want hg
    rw [hg]
    dsimp only
    split at h <;> try contradiction
    rename_i d hd
    rw [hd]
    dsimp only
    split at h <;> try contradiction
    · rename_i b hb
      rw [hb]
      rcases cond_some h with ⟨rfl, h⟩ | ⟨rfl, h⟩
      · simp only [if_true]; exact go _ h
      · exact ⟨_, rfl, h⟩
    · rename_i b hb
      rw [hb]
      rcases cond_some h with ⟨rfl, h⟩ | ⟨rfl, h⟩
      · exact ⟨_, rfl, h⟩
      · simp only [if_true]; exact go _ h
    · rename_i hb
      rw [hb]
      exact ⟨_, rfl, h⟩

theorem Sim.keepTmp (h : Sim U V.G w0 W0 ρ s a w) {d : Nat} {y : AV} (hy : lk d s.tmps = y) : Sim U V.G w0 W0 ρ (s.put (some d) y) a w := by
  unfold St.put
  dsimp only
  split
  · refine { h with tm := fun t => ?_ }
    simp only [lk_put]
    split
    · rename_i e; subst e; rw [← hy]; exact h.tm t
    · exact h.tm t
  · exact h

theorem astep_ok (h : TysOk P V.T) (hE : EOk P V) (hs : Sim U V.G w0 W0 ρ s a w) {i : Nat} {o : Oper} (ho : ops[i]? = some o) (ha : astep V ops i o s = some s') (Kk : Act → World → Prop) (Q : Exit → Act → World → Prop)
    (hk : ∀ a' w' ρ', Sim U V.G w0 W0 ρ' s' a' w' → Kk a' w') : wpOp P ops Q i Kk a w := by
  have go : ∀ s1 : St, Sim U V.G w0 W0 ρ s1 a w → agoOp V i o s1 = some s' → o.wp P a w Kk Q := by
    intro s1 hs1 hg
    unfold agoOp at hg
    split at hg
    · rename_i c y z hop
      split at hg <;> try contradiction
      rename_i b hb
      injection hg with hg; subst hg
      have hc := hs1.ev c
      rw [hb] at hc
      have hb' : a.eval c = .bool b := by generalize a.eval c = u at hc; cases hc; rfl
      unfold Oper.wp
      have : (execOp a.eval o).run P w = .ok (.value (a.eval (if b then y else z))) w := by
        simp only [execOp, hop, hb', asBool, Sem.run_bind, Sem.run_pure, Result.andThen_ok]
        cases b <;> rfl
      rw [this]
      exact hk _ _ _ (hs1.put (hs1.ev _) o.dst)
    · split at hg <;> try contradiction
      rename_i v s2 ha2
      injection hg with hg; subst hg
      exact aop_ok h hE hs1 ha2 Kk Q fun v w' ρ' q1 q2 => hk _ _ _ (q1.put q2 o.dst)
  unfold wpOp
  rw [ho]
  dsimp only
  unfold astep at ha
  split at ha
  · rename_i hg
    have : Region.wanted o (yielded ops a.tmps) = true := by simp [Region.wanted, hg]
    rw [if_pos this]
    exact .inl (go s hs ha)
  · rename_i j want hg
    split at ha <;> try contradiction
    rename_i d hd
    have hy : ∀ v, a.tmps.getD d Go.undef = v → (∀ b, v = .bool b → yielded ops a.tmps j = some b) ∧ (v = .tuple #[] → yielded ops a.tmps j = none) := by
      intro v hv
      unfold yielded
      rw [hd]
      simp only [Option.bind_some]
      rw [Array.getD_eq_getD_getElem?] at hv
      cases he : a.tmps[d]? with
      | none => rw [he] at hv; simp only [Option.getD_none] at hv; subst hv; exact ⟨fun b hb => by simp [Go.undef] at hb, fun _ => rfl⟩
      | some u => rw [he] at hv; simp only [Option.getD_some] at hv; exact ⟨fun b hb => by rw [hv, hb], fun hb => by rw [hv, hb]⟩
    split at ha <;> try contradiction
    · rename_i b hb
      have hr := hs.tm d
      rw [hb] at hr
      have hv : a.tmps.getD d Go.undef = .bool b := by generalize a.tmps.getD d Go.undef = u at hr; cases hr; rfl
      have hyy := (hy _ hv).1 b rfl
      have hs1 := hs.keepTmp hb
      by_cases hw : b = want
      · rw [if_pos hw] at ha
        have : Region.wanted o (yielded ops a.tmps) = true := by simp [Region.wanted, hg, hyy, hw]
        rw [if_pos this]
        exact .inl (go _ hs1 ha)
      · rw [if_neg hw] at ha
        injection ha with ha; subst ha
        have : ¬ Region.wanted o (yielded ops a.tmps) = true := by simp [Region.wanted, hg, hyy, hw]
        rw [if_neg this]
        exact hk _ _ _ (hs1.put (.tup .nil #[] rfl fun j hj => by simp [AVs.len] at hj) o.dst)
    · rename_i hb
      have hr := hs.tm d
      rw [hb] at hr
      have hv : a.tmps.getD d Go.undef = .tuple #[] := by
        generalize a.tmps.getD d Go.undef = u at hr
        cases hr with | tup _ ws hl _ =>
        have : ws = #[] := by apply Array.eq_empty_of_size_eq_zero; rw [← hl]; rfl
        rw [this]
      have hyy := (hy _ hv).2 rfl
      injection ha with ha; subst ha
      have : ¬ Region.wanted o (yielded ops a.tmps) = true := by simp [Region.wanted, hg, hyy]
      rw [if_neg this]
      exact hk _ _ _ (hs.put (.tup .nil #[] rfl fun j hj => by simp [AVs.len] at hj) o.dst)

theorem aops_ok (h : TysOk P V.T) (hE : EOk P V) (Q : Exit → Act → World → Prop) (hQ : ∀ s' a' w' ρ', Sim U V.G w0 W0 ρ' s' a' w' → K s' = some x → Q .normal a' w') :
    ∀ (l : List Oper) (i : Nat) (s : St) (ρ : Rho) (a : Act) (w : World), ops.toList.drop i = l → Sim U V.G w0 W0 ρ s a w → aops V ops K i l s = some x → wpOps P ops Q ((List.range ops.size).drop i) a w
  | [], i, s, ρ, a, w, hl, hs, ha => by
    have hge : ops.size ≤ i := by have := List.drop_eq_nil_iff.1 hl; simpa using this
    rw [List.drop_eq_nil_iff.2 (by simpa using hge)]
    simp only [aops] at ha
    exact hQ { s with next := s.next + 16 * ops.size } a w ρ { tm := hs.tm, nt := hs.nt, df := hs.df, bl := hs.bl, sep := hs.sep, dom := hs.dom, fr := hs.fr, wo := hs.wo, sz := hs.sz, gl := hs.gl, uo := hs.uo, ug := hs.ug, su := hs.su, ini := hs.ini, im := hs.im, sm := hs.sm } ha
  | o :: l, i, s, ρ, a, w, hl, hs, ha => by
    have hlt : i < ops.size := by
      rcases Nat.lt_or_ge i ops.size with h | h
      · exact h
      · rw [List.drop_eq_nil_iff.2 (by simpa using h)] at hl; cases hl
    have ho : ops[i]? = some o := by
      have := List.getElem?_drop (xs := ops.toList) (i := i) (j := 0)
      rw [hl] at this; simpa using this.symm
    have hl' : ops.toList.drop (i + 1) = l := by
      rw [← List.drop_drop, hl]; rfl
    have hr : (List.range ops.size).drop i = i :: (List.range ops.size).drop (i + 1) := by
      rw [List.drop_eq_getElem_cons (by simpa using hlt)]; simp
    rw [hr, wpOps_cons]
    obtain ⟨s', h1, h2⟩ := aops_cons ha
    exact astep_ok h hE hs ho h1 _ _ fun a' w' ρ' hs' => aops_ok h hE Q hQ l (i + 1) s' ρ' a' w' hl' hs' h2
end Go.Am
