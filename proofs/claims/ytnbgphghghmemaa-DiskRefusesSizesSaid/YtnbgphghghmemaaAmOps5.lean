/- Slice expressions. -/
import Derived.Test.YtnbgphghghmemaaAmOps4
set_option linter.unusedVariables false
set_option linter.unusedSimpArgs false
namespace Go.Am
open Go
variable {P : Program} {V : Env} {U : Oth} {w0 : World} {W0 : Nat → Prop} {o : Oper} {ρ ρ' : Rho} {s s' : St} {a : Act} {w w' : World} {av : AV}

def LoIs (lo : Option Value) (l : Int) : Prop := (lo = none ∧ l = 0) ∨ ∃ k, lo = some (.int k l)
def HiIs (hi : Option Value) (h : Int) (d : Nat) : Prop := (hi = none ∧ h = d) ∨ ∃ k, hi = some (.int k h)

theorem run_bound {k : IntKind} {i : Int} {y : Nat} {code : BoundsCode} (h0 : 0 ≤ i) (h1 : i ≤ y) (w : World) : (Instr.sliceBound (.int k i) y code).run P w = .ok i.toNat w := by
  simp [Instr.sliceBound, asIntOf, h0, h1]
theorem run_bounds {b : Bool} {len cap : Nat} {lo hi : Option Value} {l h : Int} (hl : LoIs lo l) (hh : HiIs hi h len) (h0 : 0 ≤ l) (h1 : l ≤ h) (h2 : h ≤ cap) (w : World) :
    (Instr.sliceBounds b len cap lo hi none).run P w = .ok (l.toNat, h.toNat, cap) w := by
  have e1 : (h.toNat : Int) = h := Int.toNat_of_nonneg (by omega)
  rcases hl with ⟨rfl, rfl⟩ | ⟨k, rfl⟩ <;> rcases hh with ⟨rfl, rfl⟩ | ⟨k', rfl⟩
  · simp [Instr.sliceBounds]
  · simp [Instr.sliceBounds, run_bound (show 0 ≤ h by omega) h2]
  · simp [Instr.sliceBounds, run_bound h0 h1]
  · simp [Instr.sliceBounds, run_bound (show 0 ≤ h by omega) h2, run_bound h0 (show l ≤ h.toNat by omega)]

def OptRep (w : World) (W : Nat → Prop) (ρ : Rho) (x : Option AV) (u : Option Value) : Prop := (x = none ∧ u = none) ∨ ∃ y v, x = some y ∧ u = some v ∧ Rep w W ρ y v
theorem intOf_rep {W : Nat → Prop} {x : AV} {u : Value} {k : IntKind} {h : Int} (hr : Rep w W ρ x u) (hi : intOf x = some (k, h)) : u = .int k h := by
  unfold intOf at hi; split at hi <;> try contradiction
  injection hi with h1; cases h1
  cases hr; rfl
theorem low_ok {W : Nat → Prop} {lo : Option AV} {lo' : Option Value} {l : Int} (h : OptRep w W ρ lo lo') (hl : lowOf lo = some l) : LoIs lo' l := by
  rcases h with ⟨rfl, rfl⟩ | ⟨x, u, rfl, rfl, hr⟩
  · simp [lowOf] at hl; exact .inl ⟨rfl, hl.symm⟩
  · simp only [lowOf, Option.map_eq_some_iff] at hl
    obtain ⟨⟨k, n⟩, h1, rfl⟩ := hl
    exact .inr ⟨k, by rw [intOf_rep hr h1]⟩
theorem high_ok {W : Nat → Prop} {hi : Option AV} {hi' : Option Value} {k : Int} {len : Nat} (h : OptRep w W ρ hi hi') (hl : highOf hi len = some k) : HiIs hi' k len := by
  rcases h with ⟨rfl, rfl⟩ | ⟨x, u, rfl, rfl, hr⟩
  · simp [highOf] at hl; exact .inl ⟨rfl, hl.symm⟩
  · simp only [highOf, Option.map_eq_some_iff] at hl
    obtain ⟨⟨k, n⟩, h1, rfl⟩ := hl
    exact .inr ⟨k, by rw [intOf_rep hr h1]⟩

theorem slTy_ok (h : TysOk P V.T) {t sz : Nat} (ht : slTy V.T t sz = true) : 0 < sz ∧ ∃ e, P.underlying t = some (.slice e) ∧ (V.T.at e).sz = sz := by
  unfold slTy at ht
  split at ht
  · rename_i e he
    rw [Bool.and_eq_true, Nat.beq_eq, Nat.blt_eq] at ht
    exact ⟨ht.2, e, (h t).slice e he, ht.1⟩
  · contradiction

theorem run_sliceAt_sl (h : TysOk P V.T) {t sz : Nat} (ht : slTy V.T t sz = true) {b : Option Addr} {len cap : Nat} {lo hi : Option Value} {l k : Int} (hl : LoIs lo l) (hh : HiIs hi k len) (h0 : 0 ≤ l) (h1 : l ≤ k) (h2 : k ≤ cap) (w : World) :
    (Instr.sliceAt t (.slice b len cap) lo hi none).run P w = .ok (.slice (if cap = l.toNat then b else b.map (·.add (l.toNat * sz))) (k.toNat - l.toNat) (cap - l.toNat)) w := by
  obtain ⟨g0, e, g1, g2⟩ := slTy_ok h ht
  have g3 : (sizeOf e).run P w = .ok sz w := by rw [run_sizeOf' h (by omega) w, g2]
  simp [Instr.sliceAt, Instr.slice, run_underlying' g1, run_bounds hl hh h0 h1 h2, g3]

theorem rep_vs_slice {W : Nat → Prop} {r r' : AV} {len sz L cap l k : Nat} {b : Option Addr} (hx : Rep w W ρ (.vs r len sz) (.slice b L cap)) (h0 : 0 < sz) (h1 : l ≤ k) (h2 : k ≤ L) (hp : r.partE l (k - l) sz = some r') :
    Rep w W ρ (mkvs r' (k - l) sz) (.slice (if cap = l then b else b.map (·.add (l * sz))) (k - l) (cap - l)) := by
  by_cases hkl : l < k
  · cases hx with
    | vs0 => omega
    | vs _ _ _ _ _ blk base vals hr _ hn hp0 hk hcap hm hW hc hrep =>
      have e1 : (k - l) * sz + l * sz = k * sz := by rw [← Nat.add_mul, Nat.sub_add_cancel h1]
      have e2 : k * sz ≤ L * sz := Nat.mul_le_mul_right _ h2
      have hps := partE_spec hp (by omega)
      rw [if_neg (by omega)]
      simp only [Option.map_some, Addr.add_mk]
      refine .vs r' _ sz (k - l) _ blk (base + l * sz) (fun j => vals (l * sz + j)) (partE_leaf hp) h0 hps.size (by omega) (.inl rfl) (by omega) (by omega) hW (fun j hj => ?_) (fun j hj => ?_)
      · rw [Nat.add_assoc]; exact hc _ (by omega)
      · rw [hps.cells j hj]; exact hrep _ (by omega)
  · have e : k - l = 0 := by omega
    rw [e] at hp ⊢
    unfold mkvs; rw [klen_zero]
    exact .vs0 r' sz _ _ (partE_leaf hp) (partE_size0 hp)

theorem rep_sl_slice {W : Nat → Prop} {id b lim o sz L cap l k : Nat} {B : Loc} (hL : ρ id = some (some B)) (h0 : 0 < sz) (hx : (o + L) * sz ≤ lim) (hb : b + lim ≤ B.n) (hcap : L ≤ cap) (hm : L < 4611686018427387904) (hlim : lim ≤ (o + cap) * sz) (hS : b + (o + cap) * sz ≤ B.n ∨ B.base + (b + (o + cap) * sz) ≤ B.S) (h1 : l ≤ k) (h2 : k ≤ L ∨ ((o + k) * sz ≤ lim ∧ k ≤ cap ∧ k < 4611686018427387904)) :
    Rep w W ρ (.sl id b lim (l + o) (k - l) sz) (.slice (if cap = l then some ⟨B.b, B.base + (b + o * sz), none⟩ else (some ⟨B.b, B.base + (b + o * sz), none⟩ : Option Addr).map (·.add (l * sz))) (k - l) (cap - l)) := by
  by_cases e : cap = l
  · have e1 : k - l = 0 := by omega
    have e2 : cap - l = 0 := by omega
    rw [if_pos e, e1, e2]
    exact .sl0 id b lim (l + o) sz _ (by rw [Nat.add_comm l o, ← e]; exact hlim)
  · rw [if_neg e]
    simp only [Option.map_some, Addr.add_mk]
    have e3 : B.base + (b + o * sz) + l * sz = B.base + (b + (l + o) * sz) := by rw [Nat.add_mul]; omega
    rw [e3]
    have e4 : l + o + (cap - l) = o + cap := by omega
    have hx' : (l + o + (k - l)) * sz ≤ lim := by
      rw [show l + o + (k - l) = o + k by omega]
      rcases h2 with h2 | h2
      · exact Nat.le_trans (Nat.mul_le_mul_right _ (by omega)) hx
      · exact h2.1
    refine .sl id b lim (l + o) (k - l) sz (cap - l) B hL h0 hx' hb (by omega) (by omega) (by rw [e4]; exact hlim) (by rw [e4]; exact hS)

theorem isStr_ok (h : TysOk P V.T) {t : Nat} (hd : (V.T.at t).d.isStr = true) : P.underlying t = some .string := by
  cases hd' : (V.T.at t).d <;> rw [hd'] at hd <;> simp [TyD.isStr] at hd
  exact (h t).str hd'
theorem alen_str {t len : Nat} {xs : List Int} (h : alen V t (.str xs) s = some len) : (V.T.at t).d.isStr = true ∧ len = xs.length := by
  simp only [alen] at h; split at h <;> try contradiction
  injection h with h; exact ⟨by assumption, h.symm⟩
theorem alen_vs {t len l0 sz : Nat} {r : AV} (h : alen V t (.vs r l0 sz) s = some len) : slTy V.T t sz = true ∧ len = slen r l0 sz := by
  simp only [alen] at h; split at h <;> try contradiction
  injection h with h; exact ⟨by assumption, h.symm⟩
theorem alen_sl {t len id b lim o l0 sz : Nat} (h : alen V t (.sl id b lim o l0 sz) s = some len) : slTy V.T t sz = true ∧ len = l0 := by
  simp only [alen] at h; split at h <;> try contradiction
  injection h with h; exact ⟨by assumption, h.symm⟩
theorem alen_own {t len id l0 sz : Nat} (h : alen V t (.own id l0 sz) s = some len) : slTy V.T t sz = true ∧ olen s id l0 sz = some len := by
  simp only [alen] at h; split at h <;> try contradiction
  exact ⟨by assumption, h⟩
theorem olen_ok (hs : Sim U V.G w0 W0 ρ s a w) {id l0 sz len : Nat} {u : Value} (hx : Rep w (Wr U ρ s.heap) ρ (.own id l0 sz) u) (h : olen s id l0 sz = some len) :
    ∃ n r bb, lkH id s.heap = .cells n r bb ∧ r.size = n ∧ ((len = 0 ∧ n = 0 ∧ ρ id = some none ∧ ∃ b, u = .slice b 0 0) ∨ ∃ cap L, ρ id = some (some L) ∧ u = .slice (some ⟨L.b, L.base, none⟩) len cap ∧ len * sz = L.n ∧ L.n = n ∧ len ≤ cap ∧
      L.base + cap * sz ≤ L.S ∧ 0 < sz ∧ len < 4611686018427387904) := by
  unfold olen at h
  split at h <;> try contradiction
  rename_i n r bb hH
  injection h with h
  have hb := hs.bl _ _ _ _ hH
  refine ⟨n, r, bb, hH, hb.size, ?_⟩
  cases hx with
  | own0 _ _ b hL =>
    have : r.size = 0 ∧ n = 0 := by
      rcases hb.lies with ⟨_, h2⟩ | ⟨L, h1, _⟩
      · exact ⟨by rw [hb.size, h2], h2⟩
      · rw [hL] at h1; cases h1
    rw [slen_zero this.1] at h
    exact .inl ⟨h.symm, this.2, hL, b, rfl⟩
  | own _ _ _ L0 cap L hL hn hkl hcap hS h0 hm =>
    obtain ⟨hw, hsz, hLn, _⟩ := hs.cells hH hL
    rw [slen_eq (show r.size = L0 * sz by omega) hkl] at h; subst h
    exact .inr ⟨cap, L, hL, rfl, hn, hLn, hcap, hS, h0, hm⟩

theorem run_sliceAt_all (h : TysOk P V.T) {t : Nat} {W : Nat → Prop} {x : AV} {u : Value} {len : Nat} (hx : Rep w W ρ x u) (hl : alen V t x s = some len) (ha : sliceAll none none x = true) :
    (Instr.sliceAt t u none none none).run P w = .ok u w := by
  have sl : ∀ b n c, slTy V.T t (match x with | .vs _ _ z => z | .own _ _ z => z | .sl _ _ _ _ _ z => z | _ => 0) = true → n ≤ c → (Instr.sliceAt t (.slice b n c) none none none).run P w = .ok (.slice b n c) w := fun b n c ht hc => by
    rw [run_sliceAt_sl h ht (.inl ⟨rfl, rfl⟩) (.inl ⟨rfl, rfl⟩) (by omega) (by omega) (by omega)]
    simp only [Int.toNat_zero, Int.toNat_natCast, Nat.zero_mul, Nat.sub_zero]
    congr 2
    split
    · rfl
    · cases b with
      | none => rfl
      | some b => simp [Addr.add]
  cases x <;> simp only [sliceAll, reduceCtorEq, Bool.false_eq_true] at ha
  · cases hx
    have := isStr_ok h (alen_str hl).1
    simp [Instr.sliceAt, Instr.slice, run_underlying' this, Instr.sliceBounds]
  · have ht := (alen_own hl).1
    cases hx with
    | own0 => exact sl _ _ _ ht (Nat.le_refl _)
    | own _ _ _ _ _ _ _ _ _ hcap => exact sl _ _ _ ht hcap
  · have ht := (alen_sl hl).1
    cases hx with
    | sl0 => exact sl _ _ _ ht (Nat.le_refl _)
    | sl _ _ _ _ _ _ _ _ _ _ _ _ hcap => exact sl _ _ _ ht hcap
  · have ht := (alen_vs hl).1
    cases hx with
    | vs0 => exact sl _ _ _ ht (Nat.zero_le _)
    | vs _ _ _ _ _ _ _ _ _ _ _ _ _ hcap => exact sl _ _ _ ht hcap

theorem aslice_ok (h : TysOk P V.T) (hs : Sim U V.G w0 W0 ρ s a w) {t : Nat} {x : AV} {u : Value} {lo hi : Option AV} {lo' hi' : Option Value}
    (hx : Rep w (Wr U ρ s.heap) ρ x u) (hlo : OptRep w (Wr U ρ s.heap) ρ lo lo') (hhi : OptRep w (Wr U ρ s.heap) ρ hi hi')
    (ha : aslice V t x lo hi s = some (true, av, s')) : s' = s ∧ ∃ v, (Instr.sliceAt t u lo' hi' none).run P w = .ok v w ∧ Rep w (Wr U ρ s.heap) ρ av v := by
  unfold aslice at ha
  split at ha <;> try contradiction
  rename_i len hlen
  split at ha
  · rename_i hall
    simp only [Option.some.injEq, Prod.mk.injEq, true_and] at ha
    obtain ⟨rfl, rfl⟩ := ha
    have hn : lo = none ∧ hi = none := by unfold sliceAll at hall; split at hall <;> simp_all
    obtain ⟨rfl, rfl⟩ := hn
    have e1 : lo' = none := by rcases hlo with ⟨_, h⟩ | ⟨_, _, h, _⟩ <;> simp_all
    have e2 : hi' = none := by rcases hhi with ⟨_, h⟩ | ⟨_, _, h, _⟩ <;> simp_all
    subst e1; subst e2
    exact ⟨rfl, u, run_sliceAt_all h hx hlen hall, hx⟩
  · split at ha <;> try contradiction
    rename_i l k hl hk
    have hl := low_ok hlo hl
    have hk := high_ok hhi hk
    split at ha <;> try contradiction
    rename_i v hv
    simp only [Option.some.injEq, Prod.mk.injEq, Bool.and_eq_true, decide_eq_true_eq] at ha
    obtain ⟨⟨⟨g0, g1⟩, g2⟩, rfl, rfl⟩ := ha
    refine ⟨rfl, ?_⟩
    have ek : (k.toNat : Int) = k := Int.toNat_of_nonneg (by omega)
    split at hv
    · rename_i id len0 sz _
      simp only [hiOk, decide_eq_true_eq] at g2
      obtain ⟨ht, hol⟩ := alen_own hlen
      obtain ⟨h0, _⟩ := slTy_ok h ht
      simp only [aslice2, Option.some.injEq] at hv
      subst hv
      rw [mz_eq]
      obtain ⟨n, r, bb, hH, hsz, ⟨rfl, _, _, b, rfl⟩ | ⟨cap, L, hL, rfl, hn, hLn, hcap, hS', _, hm⟩⟩ := olen_ok hs hx hol
      · have e : k.toNat - l.toNat = 0 := by omega
        exact ⟨_, run_sliceAt_sl h ht hl hk g0 g1 (by omega) w, by rw [e, Nat.zero_sub]; exact .sl0 _ _ _ _ _ _ (by simp)⟩
      · have := rep_sl_slice (w := w) (W := Wr U ρ s.heap) (sz := sz) (b := 0) (lim := len * sz) (o := 0) hL h0 (by simp) (by omega) hcap hm (by rw [Nat.zero_add]; exact Nat.mul_le_mul_right _ hcap) (.inr (by rw [Nat.zero_add, Nat.zero_add]; exact hS')) (show l.toNat ≤ k.toNat by omega) (by omega)
        rw [Nat.zero_mul, Nat.add_zero, Nat.add_zero] at this
        exact ⟨_, run_sliceAt_sl h ht hl hk g0 g1 (by omega) w, this⟩
    · rename_i hnot
      unfold aslice2 at hv
      split at hv <;> try contradiction
      · rename_i xs
        simp only [hiOk, decide_eq_true_eq] at g2
        cases hx with | str b hm =>
        injection hv with hv; subst hv
        obtain ⟨hd, hlen⟩ := alen_str hlen
        have hu := isStr_ok h hd
        rw [bytesOf_len] at hlen; subst hlen
        refine ⟨.string (b.extract l.toNat k.toNat), ?_, ?_⟩
        · simp only [Instr.sliceAt, Instr.slice, Sem.run_bind, run_underlying' hu, Result.andThen_ok]
          have := run_bounds (P := P) (b := false) (cap := b.size) hl hk g0 g1 (by omega) w
          simp [this]
        · have e : ((bytesOf b).take k.toNat).drop l.toNat = bytesOf (b.extract l.toNat k.toNat) := by
            unfold bytesOf
            rw [Lib.extract_data, ← List.map_take, ← List.map_drop, List.drop_take]
          rw [e]
          exact .str _ (by simp; omega)
      · rename_i r len0 sz
        simp only [hiOk, decide_eq_true_eq] at g2
        obtain ⟨ht, hlen⟩ := alen_vs hlen
        replace hlen := hlen.symm
        obtain ⟨h0, _⟩ := slTy_ok h ht
        simp only [Option.map_eq_some_iff] at hv
        obtain ⟨r', hp, rfl⟩ := hv
        obtain ⟨b, cap, rfl, hcap⟩ : ∃ b cap, u = .slice b len cap ∧ len ≤ cap := by
          cases hx with
          | vs0 _ _ cap b hr hn hl => rw [slen_zeroV hn hl] at hlen; subst hlen; exact ⟨b, cap, rfl, Nat.zero_le _⟩
          | vs _ _ _ L0 cap blk base vals hr _ hn hp0 hkl hcap hm hW hc hrep => rw [slen_eqv hn hkl] at hlen; subst hlen; exact ⟨_, cap, rfl, hcap⟩
        exact ⟨_, run_sliceAt_sl h ht hl hk g0 g1 (by omega) w, rep_vs_slice hx h0 (by omega) (by omega) hp⟩
      · exact absurd rfl (hnot _ _ _)
      · rename_i id b lim o len0 sz _
        obtain ⟨ht, hlen⟩ := alen_sl hlen
        subst hlen
        obtain ⟨h0, _⟩ := slTy_ok h ht
        injection hv with hv; subst hv
        have g2 : k ≤ len ∨ (sz = 1 ∧ k ≤ ((lim - o : Nat) : Int) ∧ k < 1073741824) := by
          unfold hiOk at g2
          split at g2
          · rename_i heq
            injection heq with _ _ q1 q2 _ q3
            subst q1; subst q2; subst q3
            split at g2
            · simp only [Bool.or_eq_true, Bool.and_eq_true, decide_eq_true_eq] at g2
              rcases g2 with g2 | g2
              · exact .inl g2
              · exact .inr ⟨rfl, g2⟩
            · exact .inl (of_decide_eq_true g2)
          · exact .inl (of_decide_eq_true g2)
        cases hx with
        | sl0 _ _ _ _ _ b' hl0 =>
          have g2 : k ≤ 0 := by
            rcases g2 with g2 | ⟨rfl, g2, _⟩
            · exact g2
            · omega
          have e : k.toNat - l.toNat = 0 := by omega
          exact ⟨_, run_sliceAt_sl h ht hl hk g0 g1 (by omega) w, by rw [e, Nat.zero_sub]; exact .sl0 _ _ _ _ _ _ (Nat.le_trans hl0 (Nat.mul_le_mul_right _ (by omega)))⟩
        | sl _ _ _ _ _ _ cap L hL _ hxx hb hcap hm hlim hS =>
          have g3 : k.toNat ≤ len ∨ ((o + k.toNat) * sz ≤ lim ∧ k.toNat ≤ cap ∧ k.toNat < 4611686018427387904) := by
            rcases g2 with g2 | ⟨rfl, g2, g4⟩
            · exact .inl (by omega)
            · by_cases hle : k.toNat ≤ len
              · exact .inl hle
              · exact .inr ⟨by omega, by omega, by omega⟩
          exact ⟨_, run_sliceAt_sl h ht hl hk g0 g1 (by omega) w, rep_sl_slice hL h0 hxx hb hcap hm hlim hS (by omega) g3⟩
      rotate_left
      · injection hv with hv; subst hv
        simp only [hiOk, decide_eq_true_eq] at g2
        cases hx with | ns =>
        simp only [alen] at hlen
        split at hlen <;> try contradiction
        rename_i e he
        split at hlen <;> try contradiction
        rename_i h00
        rw [Nat.blt_eq] at h00
        injection hlen with hlen; subst hlen
        have ek : k.toNat = 0 := by omega
        have el : l.toNat = 0 := by omega
        refine ⟨.slice none 0 0, ?_, .ns⟩
        have := run_bounds (P := P) (b := true) (cap := 0) hl hk g0 g1 (by omega) w
        rw [ek, el] at this
        simp [Instr.sliceAt, Instr.slice, run_underlying' ((h t).slice e he), this, run_sizeOf' h h00]
      · rename_i id b lim i m c rm _
        split at hv <;> try contradiction
        rename_i n e he
        split at hv <;> try contradiction
        rename_i o sz hix
        injection hv with hv; subst hv
        simp only [alen, he] at hlen
        split at hlen <;> try contradiction
        rename_i hc
        injection hlen with hlen; subst hlen
        rw [Bool.and_eq_true, Bool.and_eq_true, Nat.ble_eq, Nat.blt_eq, Nat.blt_eq, mz_eq] at hc
        obtain ⟨hc1, hc2, hc3⟩ := hc
        simp only [hiOk, decide_eq_true_eq] at g2
        cases hx with | ptr _ _ _ _ _ _ _ L hL hi hxx hb h0 =>
        have hp : sz = (V.T.at e).sz ∧ b + ix i m c = b + o * sz ∧ (o + n) * sz ≤ lim := by
          unfold ixx at hix
          split at hix
          · simp only [Option.some.injEq, Prod.mk.injEq] at hix
            obtain ⟨rfl, rfl, rfl⟩ := hix
            refine ⟨rfl, by simp [ix], ?_⟩
            simp only [ix] at hxx; simp only [Nat.zero_add]; omega
          · split at hix <;> try contradiction
            rename_i hsz
            simp only [Option.some.injEq, Prod.mk.injEq] at hix
            obtain ⟨rfl, rfl, rfl⟩ := hix
            rw [hsz] at hc1 hc2
            have e1 : ix i m 0 = i * m := by unfold ix; split <;> simp_all
            rw [e1] at hxx
            exact ⟨hsz.symm, by rw [e1]; omega, by omega⟩
        obtain ⟨rfl, e1, e2⟩ := hp
        have hu := (h t).arr _ _ he
        rw [mz_eq, Nat.add_comm n o]
        have := rep_sl_slice (w := w) (W := Wr U ρ s.heap) (id := id) (b := b) (cap := n) (o := o) (lim := (o + n) * (V.T.at e).sz) hL hc2 (Nat.le_refl _) (by omega) (Nat.le_refl n) hc3 (Nat.le_refl _) (.inl (by omega)) (show l.toNat ≤ k.toNat by omega) (.inl (show k.toNat ≤ n by omega))
        refine ⟨_, ?_, this⟩
        have hb := run_bounds (P := P) (b := false) hl hk g0 g1 (show k ≤ (n : Int) by omega) w
        simp only [Instr.sliceAt, Sem.run_bind, run_underlying' hu, Result.andThen_ok, Instr.sureAddr, Sem.run_pure, hb, run_sizeOf' h hc2, e1]
        congr 2
        split <;> rfl
theorem asliceX_ok (h : TysOk P V.T) (hs : Sim U V.G w0 W0 ρ s a w) {t : Nat} {x hi mx : AV} {u hi' mx' : Value} {lo : Option AV} {lo' : Option Value}
    (hx : Rep w (Wr U ρ s.heap) ρ x u) (hlo : OptRep w (Wr U ρ s.heap) ρ lo lo') (hhi : Rep w (Wr U ρ s.heap) ρ hi hi') (hmx : Rep w (Wr U ρ s.heap) ρ mx mx')
    (ha : asliceX V t x lo hi mx s = some (true, av, s')) : ∃ v, (Instr.sliceAt t u lo' (some hi') (some mx')).run P w = .ok v w ∧ Sim U V.G w0 W0 ρ s' a w ∧ Rep w (Wr U ρ s'.heap) ρ av v := by
  unfold asliceX at ha
  split at ha <;> try contradiction
  rename_i ht
  split at ha <;> try contradiction
  rename_i r len k h1 k' m hv e1 e2
  simp only [Option.some.injEq, Prod.mk.injEq, Bool.and_eq_true, Nat.blt_eq, decide_eq_true_eq] at ha
  obtain ⟨⟨h0, rfl, rfl⟩, rfl, rfl⟩ := ha
  rw [intOf_rep hhi e1, intOf_rep hmx e2]
  have hlo' : lo' = none := by
    rcases hlo with ⟨_, e⟩ | ⟨y, v, e, _⟩
    · exact e
    · cases e
  subst hlo'
  obtain ⟨g1, g2, _, hm, b, cap, rfl, g3, g4⟩ := view_cells h hs hx hv
  obtain ⟨hf1, hf2⟩ := hs.freeze x
  rw [Nat.mul_one] at g2 g4
  rcases g4 with g4 | ⟨blk, base, vals, rfl, g5, g6⟩
  · omega
  · obtain ⟨g0, e, q1, q2⟩ := slTy_ok h ht
    refine ⟨.slice (some ⟨blk, base, none⟩) len len, ?_, hf1, ?_⟩
    · have g3' : (sizeOf e).run P w = .ok 1 w := by rw [run_sizeOf' h (by omega) w, q2]
      have b1 := run_bound (P := P) (k := k') (i := (len : Int)) (y := cap) (code := .slice3Acap) (by omega) (by omega) w
      have b2 := run_bound (P := P) (k := k) (i := (len : Int)) (y := len) (code := .slice3B) (by omega) (by omega) w
      simp only [Int.toNat_natCast] at b1 b2
      have hne : ¬ (len = 0) := by omega
      simp [Instr.sliceAt, Instr.slice, Instr.sliceBounds, run_underlying' q1, b1, b2, g3', hne, Addr.add]
    · exact .vs r 1 1 len len blk base vals g1 (by omega) (by omega) h0 (.inr ⟨rfl, .inl ⟨rfl, rfl⟩⟩) (Nat.le_refl _) hm g6 (fun j hj => (g5 j (by omega)).1) (fun j hj => hf2 _ _ (g5 j (by omega)).2)
theorem aslice3_ok (h : TysOk P V.T) (hs : Sim U V.G w0 W0 ρ s a w) {t : Nat} {x lo hi mx : AV} {u lo' hi' mx' : Value}
    (hx : Rep w (Wr U ρ s.heap) ρ x u) (hlo : Rep w (Wr U ρ s.heap) ρ lo lo') (hhi : Rep w (Wr U ρ s.heap) ρ hi hi') (hmx : Rep w (Wr U ρ s.heap) ρ mx mx')
    (ha : aslice3 V t x lo hi mx s = some (true, av, s')) : s' = s ∧ av = .undef ∧ ∃ v, (Instr.sliceAt t u (some lo') (some hi') (some mx')).run P w = .ok v w := by
  unfold aslice3 at ha
  split at ha <;> try contradiction
  rename_i id len0 sz
  split at ha <;> try contradiction
  rename_i len k1 l k2 hh k3 m hlen e1 e2 e3
  simp only [Option.some.injEq, Prod.mk.injEq, Bool.and_eq_true, decide_eq_true_eq] at ha
  obtain ⟨⟨⟨g0, g1⟩, g2, g3⟩, rfl, rfl⟩ := ha
  rw [intOf_rep hlo e1, intOf_rep hhi e2, intOf_rep hmx e3]
  obtain ⟨ht, hol⟩ := alen_own hlen
  obtain ⟨h0, e, q1, q2⟩ := slTy_ok h ht
  obtain ⟨b, cap, rfl, hcap⟩ : ∃ b cap, u = .slice b len cap ∧ len ≤ cap := by
    obtain ⟨n, r, bb, hH, hsz, ⟨rfl, _, _, b, rfl⟩ | ⟨cap, L, hL, rfl, hn, hLn, hcap, hS', _, hm⟩⟩ := olen_ok hs hx hol
    · exact ⟨b, 0, rfl, Nat.le_refl _⟩
    · exact ⟨_, cap, rfl, hcap⟩
  refine ⟨rfl, rfl, ?_⟩
  have g3' : (sizeOf e).run P w = .ok sz w := by rw [run_sizeOf' h (by omega) w, q2]
  have em : (m.toNat : Int) = m := Int.toNat_of_nonneg (by omega)
  have eh : (hh.toNat : Int) = hh := Int.toNat_of_nonneg (by omega)
  have b1 := run_bound (P := P) (k := k3) (i := m) (y := cap) (code := .slice3Acap) (by omega) (by omega) w
  have b2 := run_bound (P := P) (k := k2) (i := hh) (y := m.toNat) (code := .slice3B) (by omega) (by omega) w
  have b3 := run_bound (P := P) (k := k1) (i := l) (y := hh.toNat) (code := .slice3C) (by omega) (by omega) w
  exact ⟨_, by simp [Instr.sliceAt, Instr.slice, Instr.sliceBounds, run_underlying' q1, b1, b2, b3, g3']; rfl⟩
end Go.Am
