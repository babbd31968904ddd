/- What a function's body gives, as a contract. -/
import Derived.Test.YtnbgphghghmemaaAmCode
set_option linter.unusedVariables false
set_option linter.unusedSimpArgs false
namespace Go.Am
open Go
variable {P : Program} {V : Env} {U : Oth} {w0 : World} {W0 : Nat → Prop} {ρ ρ' : Rho} {s s' : St} {a a' : Act} {w w' : World} {av : AV}

theorem aresult_ok (h : TysOk P V.T) (hs : Sim U V.G w0 W0 ρ s a w) {r : ResultVar} (hr : aresult V s r = some av) :
    ∃ v, (match r with | .tmp t => pure (a.tmps.getD t Go.undef) | .cell x t => do loadVar t (← asAddr (a.tmps.getD x Go.undef)) : Sem Value).run P w = .ok v w ∧ Rep w (Wr U ρ s.heap) ρ av v := by
  cases r with
  | tmp t =>
    simp only [aresult, Option.some.injEq] at hr; subst hr
    exact ⟨_, rfl, hs.tm t⟩
  | cell x t =>
    simp only [aresult] at hr
    have hx := hs.tm x
    obtain ⟨v, g1, g2⟩ := aload_ok (P := P) h hs hx hr
    refine ⟨v, ?_, g2⟩
    obtain ⟨A, hA⟩ : ∃ A, a.tmps.getD x Go.undef = .pointer (some A) := by
      generalize a.tmps.getD x Go.undef = u at hx
      generalize lk x s.tmps = p at hx hr
      unfold aload at hr
      split at hr <;> try contradiction
      · cases hx; exact ⟨_, rfl⟩
      · cases hx; exact ⟨_, rfl⟩
    dsimp only
    rw [hA] at g1 ⊢
    simpa [Instr.loadAt, Instr.sureAddr, asAddr] using g1

theorem aresults_ok (h : TysOk P V.T) (hs : Sim U V.G w0 W0 ρ s a w) : ∀ (l : List ResultVar) (vs : List AV), aresults V s l = some vs →
    ∃ us : List Value, (l.mapM fun r => (match r with | .tmp t => pure (a.tmps.getD t Go.undef) | .cell x t => do loadVar t (← asAddr (a.tmps.getD x Go.undef)) : Sem Value)).run P w = .ok us w ∧ Reps w (Wr U ρ s.heap) ρ vs us
  | [], vs, hv => by simp only [aresults, Option.some.injEq] at hv; subst hv; exact ⟨[], rfl, trivial⟩
  | r :: l, vs, hv => by
    simp only [aresults] at hv
    split at hv <;> try contradiction
    rename_i v vl h1 h2
    injection hv with hv; subst hv
    obtain ⟨u, g1, g2⟩ := aresult_ok (P := P) h hs h1
    obtain ⟨us, g3, g4⟩ := aresults_ok h hs l vl h2
    exact ⟨u :: us, by simp only [List.mapM_cons, Sem.run_bind, g1, g3, Result.andThen_ok, Sem.run_pure], g2, g4⟩

theorem ofList_len : ∀ (l : List AV), (AVs.ofList l).len = l.length
  | [] => rfl
  | x :: l => by simp [AVs.ofList, AVs.len, ofList_len l]
theorem ofList_rep {W : Nat → Prop} : ∀ (l : List AV) (us : List Value), Reps w W ρ l us → ∀ j, j < l.length → Rep w W ρ ((AVs.ofList l).nth j) (us.getD j Go.undef)
  | [], _, _, j, hj => by simp at hj
  | x :: l, [], h, _, _ => h.elim
  | x :: l, u :: us, h, 0, _ => h.1
  | x :: l, u :: us, h, j + 1, hj => ofList_rep l us h.2 j (by simpa using hj)

theorem Sim.renamed (h1 : Sim U V.G w0 W0 ρ s a w) {roots ids : List Nat} (hg : Good roots ids s.heap) (hfix : ∀ j, j < s.m → ids[j]? = some j) {N M : Nat} (hM : s.m ≤ M) :
    Sim U V.G w0 W0 (rho0 ρ ids) { tmps := [], heap := tagH 0 (ids.map fun n => (lkH n s.heap).ren fun n => numb n ids), next := N, nt := 0, m := M } emptyAct w ∧
    ∀ x v, Rep w (Wr U ρ s.heap) ρ x v → (∀ id ∈ x.ids, id ∈ ids) → Rep w (Wr U (rho0 ρ ids) (tagH 0 (ids.map fun n => (lkH n s.heap).ren fun n => numb n ids))) (rho0 ρ ids) (x.ren fun n => numb n ids) v := by
  have key : ∀ x v, Rep w (Wr U ρ s.heap) ρ x v → (∀ id ∈ x.ids, id ∈ ids) → Rep w (Wr U (rho0 ρ ids) (tagH 0 (ids.map fun n => (lkH n s.heap).ren fun n => numb n ids))) (rho0 ρ ids) (x.ren fun n => numb n ids) v := by
    intro x v hx hid
    have h1 := hx.ren (ρ' := rho0 ρ ids) (fun n => numb n ids) (fun id hi y hy => by rw [rho0_numb (hid id hi)]; exact hy)
    exact h1.mono (fun _ _ _ _ => rfl) (fun b hlt hb hb' => hb (by
      rcases hb' with hb' | hb'
      · exact .inl hb'
      · exact .inr (small_wr' hb'))) (fun _ _ h => h)
  refine ⟨?_, key⟩
  exact {
    tm := fun t => by simp only [lk]; exact .undef _
    nt := rfl
    df := rfl
    bl := fun j n r b hl => by
      obtain ⟨id, r0, g1, g2, g3, rfl⟩ := small_cells hl
      have hb := h1.bl id n r0 b g3
      obtain ⟨q1, q2, q3⟩ := row_renM (fun n => numb n ids) r0 hb.wf
      refine ⟨q1, q2.trans hb.size, ?_, fun k kn v es e => ?_⟩ <;> rw [rho0_some g1]
      rotate_left
      · obtain ⟨L, l1, l2⟩ := hb.map k kn v es (ren_rM e)
        obtain ⟨ms, clock, m1, m2⟩ := l2.ex
        exact ⟨L, l1, ⟨⟨ms, clock, m1, m2.mono fun xs u hx => by
          have := key _ _ hx (fun i hi => by rw [mval_ids] at hi; simp at hi)
          rwa [mval_ren] at this⟩, l2.keys, l2.nd, l2.bo⟩⟩
      rcases hb.lies with hb1 | ⟨L, l1, l2, l3, l4, l5⟩
      · exact .inl hb1
      · refine .inr ⟨L, l1, l2, fun k hk => ?_, (fun e h => l4 e (by rwa [isM_ren] at h)), l5⟩
        obtain ⟨v, e1, e2⟩ := l3 k hk
        refine ⟨v, e1, ?_⟩
        have q := q3 k (by rw [hb.size]; exact hk)
        rw [q.1]
        exact key _ _ e2 fun i hi => hg.closed id g2 i (by rw [g3]; exact q.2 i hi)
    sep := fun j j' n r n' r' b' L L' h1' h2 h3 h4 h5 => by
      obtain ⟨id, r0, g1, g2, g3, rfl⟩ := small_cells h1'
      obtain ⟨id', r0', g1', g2', g3', rfl⟩ := small_cells h2
      rw [rho0_some g1] at h3
      rw [rho0_some g1'] at h4
      have e := h1.sep id id' n r0 n' r0' b' L L' g3 g3' h3 h4 h5
      subst e
      exact (List.getElem?_inj (List.getElem?_eq_some_iff.1 g1).1 hg.nodup).1 (g1.trans g1'.symm)
    dom := fun j hj => by
      simp only [hasKey_tag, List.length_map]
      have : j < ids.length := by
        rcases Nat.lt_or_ge j ids.length with h | h
        · exact h
        · exact absurd (by simp [rho0, List.getElem?_eq_none h]) hj
      simp [this]
    fr := h1.fr
    wo := fun b hb => h1.wo b (small_wr' hb)
    sz := h1.sz
    gl := h1.gl
    uo := h1.uo
    ug := h1.ug
    su := fun j n r b L h1' h2 => by
      obtain ⟨id, r0, g1, g2, g3, rfl⟩ := small_cells h1'
      rw [rho0_some g1] at h2
      exact h1.su id n r0 b L g3 h2
    ini := fun id x hx => by
      have hlt := h1.im id (by rw [hx]; simp)
      rw [rho0_some (hfix id hlt)]
      exact h1.ini id x hx
    im := fun id hid => Nat.lt_of_lt_of_le (h1.im id hid) hM
    sm := h1.sm }

theorem retV_rep {W : Nat → Prop} {vs : List AV} {us : List Value} (h : Reps w W ρ vs us) : Rep w W ρ (retV vs) (if h : us.toArray.size = 1 then us.toArray[0] else .tuple us.toArray) := by
  match vs, us, h with
  | [], [], _ => exact .tup .nil #[] rfl fun j hj => by simp [AVs.len] at hj
  | [x], [y], g2 => exact g2.1
  | x :: x2 :: l, y :: y2 :: m, g2 =>
    have hlen := g2.length
    have e : (if h : (y :: y2 :: m).toArray.size = 1 then (y :: y2 :: m).toArray[0] else Value.tuple (y :: y2 :: m).toArray) = .tuple (y :: y2 :: m).toArray := by simp
    rw [e]
    refine .tup _ _ (by rw [ofList_len]; simpa using hlen) fun j hj => ?_
    have := ofList_rep _ _ g2 j (by rw [ofList_len] at hj; exact hj)
    simpa [Array.getD_eq_getD_getElem?, List.getD_eq_getElem?_getD] using this

theorem afin_ok (h : TysOk P V.T) (hs : Sim U V.G w0 W0 ρ s a w) {fn : Func} {r : AV} {H' : List Blk} (hf : afin V s.m fn.results.toList s = some (r, H')) :
    ∃ v ρ', (results fn a.tmps).run P w = .ok v w ∧ Sim U V.G w0 W0 ρ' (hst H') emptyAct w ∧ Rep w (Wr U ρ' (tagH 0 H')) ρ' r v := by
  unfold afin at hf
  split at hf <;> try contradiction
  rename_i vs hvs
  obtain ⟨us, g1, g2⟩ := aresults_ok (P := P) h hs _ vs hvs
  dsimp only at hf
  generalize hv : retV vs = v0 at hf
  generalize hroots : addNew (List.range s.m) v0.ids = roots at hf
  generalize hids : reach s.heap 64 roots roots = ids at hf
  split at hf <;> try contradiction
  rename_i hgood
  have hg := goodIds_ok hgood
  simp only [Option.some.injEq, Prod.mk.injEq] at hf
  obtain ⟨rfl, rfl⟩ := hf
  have hfix : ∀ j, j < s.m → ids[j]? = some j := by
    rw [← hids, ← hroots]
    exact reach_fix
  have hM : s.m ≤ (ids.map fun n => (lkH n s.heap).ren fun n => numb n ids).length := by
    simp only [List.length_map]
    rcases Nat.eq_zero_or_pos s.m with h0 | h0
    · omega
    · have := (List.getElem?_eq_some_iff.1 (hfix (s.m - 1) (by omega))).1
      omega
  obtain ⟨k1, k2⟩ := hs.renamed hg hfix (N := (ids.map fun n => (lkH n s.heap).ren fun n => numb n ids).length) hM
  have hrep := retV_rep g2
  rw [hv] at hrep
  refine ⟨_, _, ?_, k1, k2 v0 _ hrep fun id hid => hg.roots id (by rw [← hroots]; exact mem_addNew.2 (.inr hid))⟩
  have e : ∀ f : ResultVar → Sem Value, (fn.results.toList.mapM f).run P w = .ok us w → (fn.results.mapM f).run P w = .ok us.toArray w := by
    intro f hf
    rw [Array.mapM_eq_mapM_toList, Sem.run_map, hf]
    rfl
  have e1 := e _ g1
  rw [show results fn a.tmps = (do
    let vs ← fn.results.mapM fun r => (match r with | .tmp t => pure (a.tmps.getD t Go.undef) | .cell x t => do loadVar t (← asAddr (a.tmps.getD x Go.undef)) : Sem Value)
    pure (if h : vs.size = 1 then vs[0] else .tuple vs)) from rfl, Sem.run_bind, e1]
  rfl

theorem callOk_of_body (hm : P.follows .mixedOrders = true) (h : TysOk P V.T) (hE : EOk P V) {A : Cuts} {f : Nat} {fn : Func} {c : Code} (hf : P.funcs[f]? = some fn) (hn : (fn.name == "runtime.NumGoroutine") = false) (hb : fn.body = some c)
    {run : List AV → List Blk → Option (Bool × AV × List Blk)} (hrun : ∀ X H r H', run X H = some (true, r, H') → abody V A fn X H = some (r, H')) : CallOk P V.G f run where
  there := ⟨fn, hf, hn, by rw [hb]; rfl⟩
  does := by
    intro X H r H' hr U w ρ args hini hs hargs
    have ha := hrun X H r H' hr
    unfold abody at ha
    rw [hb] at ha
    dsimp only at ha
    have hlen := hargs.length
    refine calls_of_wp hf hb ?_
    have hs0 : Sim U V.G w (WrO ρ (tagH 0 H)) ρ { tmps := tagT 0 X, heap := tagH 0 H, next := H.length, nt := max X.length fn.ntmps, m := H.length } { tmps := args ++ Array.replicate (fn.ntmps - args.size) Go.undef, defers := [] } w := {
      tm := fun t => by
        have key : ∀ (l : List AV) (us : List Value) (i : Nat), Reps w (Wr U ρ (tagH 0 H)) ρ l us → lk t (tagT i l) = .undef ∨ (i ≤ t ∧ t < i + l.length ∧ Rep w (Wr U ρ (tagH 0 H)) ρ (lk t (tagT i l)) (us.getD (t - i) Go.undef)) := by
          intro l
          induction l with
          | nil => intro us i _; exact .inl rfl
          | cons y l ih =>
            intro us i hr
            cases us with
            | nil => exact hr.elim
            | cons u us =>
              rw [tagT, lk_put]
              by_cases e : t = i
              · subst e; simp only [if_true]; exact .inr ⟨Nat.le_refl _, by simp, by simpa using hr.1⟩
              · rw [if_neg e]
                rcases ih us (i + 1) hr.2 with h | ⟨h1, h2, h3⟩
                · exact .inl h
                · refine .inr ⟨by omega, by simp; omega, ?_⟩
                  rw [show t - i = (t - (i + 1)) + 1 by omega]
                  simpa using h3
        rcases key X args.toList 0 hargs with h | ⟨_, h2, h3⟩
        · dsimp only; rw [h]; exact .undef _
        · have hlt : t < args.size := by rw [hlen] at h2; simpa using h2
          rw [Nat.sub_zero] at h3
          have e : (args ++ Array.replicate (fn.ntmps - args.size) Go.undef).getD t Go.undef = args.toList.getD t Go.undef := by
            simp [Array.getD_eq_getD_getElem?, List.getD_eq_getElem?_getD, Array.getElem?_append, hlt]
          show Rep w (Wr U ρ (tagH 0 H)) ρ (lk t (tagT 0 X)) ((args ++ Array.replicate (fn.ntmps - args.size) Go.undef).getD t Go.undef)
          rw [e]; exact h3
      nt := by
        simp only [Array.size_append, Array.size_replicate]
        rw [hlen]; simp only [Array.length_toList]; omega
      df := rfl
      bl := hs.bl, sep := hs.sep, dom := hs.dom, fr := hs.fr, wo := hs.wo, sz := hs.sz, gl := hs.gl, uo := hs.uo, ug := hs.ug, su := hs.su, ini := hs.ini, im := hs.im, sm := hs.sm }
    refine aexec_ok hm h hE c _ _ ρ _ w _ hs0 ha ?_
    intro e s' a' w' ρ' hs' hk
    obtain ⟨ρ1, hs1⟩ := cutTo_ok h hs' A.fin
    have fin : afin V (cutTo V A.fin s').m fn.results.toList (cutTo V A.fin s') = some (r, H') → ∃ v, (results fn a'.tmps).run P w' = .ok v w' ∧ ∃ v' ρ'', Ending.returned v = .returned v' ∧ Sim U V.G w (WrO ρ (tagH 0 H)) ρ'' (hst H') emptyAct w' ∧ Rep w' (Wr U ρ'' (tagH 0 H')) ρ'' r v' := by
      intro hfin
      obtain ⟨v, ρ2, g1, g2, g3⟩ := afin_ok (P := P) h hs1 hfin
      exact ⟨v, g1, v, ρ2, rfl, g2, g3⟩
    cases e with
    | exit j => simp [kFin] at hk
    | normal => exact ⟨hs'.df, fin hk⟩
    | ret => exact ⟨hs'.df, fin hk⟩
end Go.Am
