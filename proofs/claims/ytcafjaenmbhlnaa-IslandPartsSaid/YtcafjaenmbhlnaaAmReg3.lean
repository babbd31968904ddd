/- Part of a proof about the functions of the given program. -/
import Derived.Test.YtcafjaenmbhlnaaAmTy
import Derived.KernelRfl
import Derived.Test.YtcafjaenmbhlnaaAmCore
import Derived.Test.YtcafjaenmbhlnaaAmOpen
set_option linter.unusedSimpArgs false
set_option linter.unusedVariables false
section
/- The table of types, checked by one closed look. -/
namespace Go.Am
open Go
mutual
def wfB : AV → Bool
  | .rI _ _ => true
  | .rB _ => true
  | .rS _ => true
  | .rL _ _ => true
  | .rT _ _ => true
  | .one v => v.scal
  | .segs s => wfSB s
  | _ => false
def wfSB : AVs → Bool
  | .nil => true
  | .cons n v t => wfB v && (Nat.beq v.size n && wfSB t)
end
mutual
theorem wfB_ok : ∀ (r : AV), wfB r = true → r.wf
  | .rI _ _, _ => trivial
  | .rB _, _ => trivial
  | .rS _, _ => trivial
  | .rL _ _, _ => trivial
  | .one v, h => h
  | .segs s, h => wfSB_ok s h
  | .undef, h => by simp [wfB] at h
  | .bool _, h => by simp [wfB] at h
  | .int _ _, h => by simp [wfB] at h
  | .str _, h => by simp [wfB] at h
  | .rT _ _, _ => trivial
  | .agg _ _, h => by simp [wfB] at h
  | .tup _, h => by simp [wfB] at h
  | .nilp, h => by simp [wfB] at h
  | .ptr _ _ _ _ _ _ _, h => by simp [wfB] at h
  | .gp _ _ _ _ _ _, h => by simp [wfB] at h
  | .ns, h => by simp [wfB] at h
  | .own _ _ _, h => by simp [wfB] at h
  | .sl _ _ _ _ _ _, h => by simp [wfB] at h
  | .vs _ _ _, h => by simp [wfB] at h
  | .mp _, h => by simp [wfB] at h
  | .nilm, h => by simp [wfB] at h
  | .fn _ _, h => by simp [wfB] at h
  | .nilf, h => by simp [wfB] at h
theorem wfSB_ok : ∀ (s : AVs), wfSB s = true → s.wfS
  | .nil, _ => trivial
  | .cons n v t, h => by
    simp only [wfSB, Bool.and_eq_true] at h
    exact ⟨wfB_ok v h.1, Nat.eq_of_beq_eq_true h.2.1, wfSB_ok t h.2.2⟩
end
def descB (P : Program) (T : Tys) (t : Nat) : Bool := match (T.at t).d, P.underlying t with
  | .int k, some (.int k') => decide (k = k') && Nat.beq (T.at t).sz 1
  | .bool, some .bool => Nat.beq (T.at t).sz 1
  | .str, some .string => true
  | .ptr e, some (.pointer e') => Nat.beq e e'
  | .slice e, some (.slice e') => Nat.beq e e'
  | .arr n e, some (.array n' e') => Nat.beq n n' && Nat.beq e e'
  | .struct fs, some (.struct a) => decide (a.toList.map (fun f => (f.type, f.offset)) = fs) && (!(P.stoodInHeld t) && a.toList.all fun f => f.name != "_")
  | .map k e, some (.map k' e') => Nat.beq k k' && Nat.beq e e'
  | .func, d => match d with
    | some (.struct _) => false
    | some (.array _ _) => false
    | some _ => true
    | none => false
  | .other, d => !(Nat.beq (T.at t).sz 1) || match d with
    | some (.struct _) => false
    | some (.array _ _) => false
    | some _ => true
    | none => false
  | _, _ => false
def zeroB (P : Program) (T : Tys) (t : Nat) : Bool := match zvar T 16 t with
  | none => true
  | some r => Nat.blt 0 (T.at t).sz && (wfB r && (Nat.beq r.size (T.at t).sz && match P.info? t with
    | none => false
    | some i => match i.zero with
      | none => false
      | some z => (Nat.beq z.cells.size (T.at t).sz && aggB z (T.at t).d.isAgg) && (List.range (T.at t).sz).all fun j => match concZ (r.cell j) with
        | some v => veq v (z.cells.getD j Go.undef)
        | none => false))
def kindB (P : Program) (T : Tys) (t : Nat) : Bool := match zkind T 8 t with
  | none => true
  | some (k, c) => Nat.blt 0 c && (Nat.beq c (T.at t).sz && match P.info? t with
    | none => false
    | some i => match i.zero with
      | none => false
      | some z => Nat.beq z.cells.size c && (List.range c).all fun j => veq (z.cells.getD j Go.undef) (k.zero j))
def tyB (P : Program) (T : Tys) (t : Nat) : Bool := (Nat.beq (T.at t).sz 0 || match P.info? t with
  | some i => Nat.beq i.size (T.at t).sz && Nat.ble i.bytes 65536
  | none => false) && (descB P T t && (zeroB P T t && kindB P T t))
def tysB (P : Program) (T : Tys) : Bool := Nat.beq P.types.size T.length && (List.range T.length).all (tyB P T)
theorem tyB_ok {P : Program} {T : Tys} {t : Nat} (h : tyB P T t = true) : TyOk P T t := by
  simp only [tyB, Bool.and_eq_true] at h
  obtain ⟨h1, h2, h3, h4⟩ := h
  have hd : ∀ {d}, (T.at t).d = d → descB P T t = true := fun _ => h2
  unfold descB at h2
  refine {
    size := fun h0 => ?_, int := fun k hk => ?_, bool := fun hk => ?_, int1 := fun k hk => ?_, bool1 := fun hk => ?_, str := fun hk => ?_, ptr := fun e hk => ?_, slice := fun e hk => ?_, arr := fun n e hk => ?_, struct := fun fs hk => ?_, names := fun fs hk a ha => ?_, map := fun k e hk => ?_,
    one := fun ha hs => ?_, bytes := fun hz0 i hi => ?_, zero := fun r hr => ?_, zagg := fun r hr => ?_, kind := fun k c hk => ?_ }
  · rcases Bool.or_eq_true _ _ ▸ h1 with h1 | h1
    · have := Nat.eq_of_beq_eq_true h1; omega
    · split at h1
      · rename_i i hi
        simp only [Bool.and_eq_true] at h1
        exact ⟨i, hi, Nat.eq_of_beq_eq_true h1.1⟩
      · contradiction
  · rw [hk] at h2; split at h2 <;> simp_all
  · rw [hk] at h2; split at h2 <;> simp_all
  · rw [hk] at h2; split at h2 <;> simp_all
  · rw [hk] at h2; split at h2 <;> simp_all
  · rw [hk] at h2; split at h2 <;> simp_all
  · rw [hk] at h2; split at h2 <;> simp_all
  · rw [hk] at h2; split at h2 <;> simp_all
  · rw [hk] at h2; split at h2 <;> simp_all
  · rw [hk] at h2
    split at h2 <;> simp_all
  · rw [hk, ha] at h2
    simp only [Bool.and_eq_true, List.all_eq_true, bne_iff_ne] at h2
    exact h2.2.2
  · rw [hk] at h2; split at h2 <;> simp_all
  · cases hdd : (T.at t).d with
    | int k => rw [hdd] at h2; split at h2 <;> simp_all
    | bool => rw [hdd] at h2; split at h2 <;> simp_all
    | str => rw [hdd] at h2; split at h2 <;> simp_all
    | ptr e => rw [hdd] at h2; split at h2 <;> simp_all
    | slice e => rw [hdd] at h2; split at h2 <;> simp_all
    | arr n e => rw [hdd] at ha; simp [TyD.isAgg] at ha
    | struct fs => rw [hdd] at ha; simp [TyD.isAgg] at ha
    | map k e => rw [hdd] at h2; split at h2 <;> simp_all
    | func =>
      rw [hdd] at h2
      simp only at h2
      split at h2 <;> try contradiction
      rename_i d hn1 hn2 e
      exact ⟨d, e, fun fs h => hn1 fs h, fun n e' h => hn2 n e' h⟩
    | other =>
      rw [hdd] at h2
      simp only [hs, show Nat.beq 1 1 = true from rfl, Bool.not_true, Bool.false_or] at h2
      split at h2 <;> try contradiction
      rename_i d hn1 hn2 e
      exact ⟨d, e, fun fs h => hn1 fs h, fun n e' h => hn2 n e' h⟩
  · rw [hi] at h1
    rcases Bool.or_eq_true _ _ ▸ h1 with h1 | h1
    · have := Nat.eq_of_beq_eq_true h1; omega
    · simp only [Bool.and_eq_true] at h1
      exact Nat.le_of_ble_eq_true h1.2
  · unfold zeroB at h3
    rw [hr] at h3
    simp only [Bool.and_eq_true, Nat.blt_eq] at h3
    obtain ⟨g1, g2, g3, g4⟩ := h3
    refine ⟨g1, wfB_ok r g2, Nat.eq_of_beq_eq_true g3, ?_⟩
    split at g4 <;> try contradiction
    rename_i i hi
    split at g4 <;> try contradiction
    rename_i z hz
    simp only [Bool.and_eq_true, List.all_eq_true, List.mem_range] at g4
    refine ⟨i, z, hi, hz, Nat.eq_of_beq_eq_true g4.1.1, fun j hj => ?_⟩
    have := g4.2 j hj
    split at this
    · rename_i v hv; rw [hv, veq_eq this]
    · contradiction
  · unfold zeroB at h3
    rw [hr] at h3
    simp only [Bool.and_eq_true, Nat.blt_eq] at h3
    obtain ⟨g1, g2, g3, g4⟩ := h3
    split at g4 <;> try contradiction
    rename_i i hi
    split at g4 <;> try contradiction
    rename_i z hz
    simp only [Bool.and_eq_true, List.all_eq_true, List.mem_range] at g4
    exact ⟨i, z, hi, hz, g4.1.2⟩
  · unfold kindB at h4
    rw [hk] at h4
    simp only [Bool.and_eq_true, Nat.blt_eq] at h4
    obtain ⟨g1, g2, g4⟩ := h4
    refine ⟨g1, Nat.eq_of_beq_eq_true g2, ?_⟩
    split at g4 <;> try contradiction
    rename_i i hi
    split at g4 <;> try contradiction
    rename_i z hz
    simp only [Bool.and_eq_true, List.all_eq_true, List.mem_range] at g4
    exact ⟨i, z, hi, hz, Nat.eq_of_beq_eq_true g4.1, fun j hj => veq_eq (g4.2 j hj)⟩
theorem tysB_ok {P : Program} {T : Tys} (h : tysB P T = true) : TysOk P T := by
  simp only [tysB, Bool.and_eq_true, List.all_eq_true, List.mem_range] at h
  intro t
  by_cases ht : t < T.length
  · exact tyB_ok (h.2 t ht)
  · have e : T.at t = ⟨.other, 0, 0⟩ := by simp [Tys.at, List.getD_eq_getElem?_getD, List.getElem?_eq_none (Nat.le_of_not_lt ht)]
    refine {
      size := fun h0 => ?_, int := fun k hk => ?_, bool := fun hk => ?_, int1 := fun k hk => ?_, bool1 := fun hk => ?_, str := fun hk => ?_, ptr := fun e hk => ?_, slice := fun e hk => ?_, arr := fun n e hk => ?_, struct := fun fs hk => ?_, names := fun fs hk a ha => ?_, map := fun k e hk => ?_,
      one := fun ha hs => ?_, bytes := fun hz0 i hi' => ?_, zero := fun r hr => ?_, zagg := fun r hr => ?_, kind := fun k c hk => ?_ }
    all_goals first | (exfalso; simp_all [zvar, zkind]; done) | skip
end Go.Am
end
section
/- How the executor is cut into pieces: one lemma for each kind of node. -/
namespace Go.Am
open Go
variable {α σ τ : Type} {V : Env} {A : Cuts}
theorem seq_cut {c a b : Code} (hc : c = .seq a b) {spec : List (Nat × Md)} (hj : (ckey b).bind A.join = some spec) (eE : σ → St) (eB : τ → St)
    (K : Ex → St → Option α) (Na : (τ → Option α) → σ → Option α) (Nb : τ → Option α)
    (ha : ∀ (R : St → Option α) v, aexec V A a (eE v) (kSeq (fun s => R (cutTo V (some spec) s)) K) = Na (fun w => R (eB w)) v)
    (hb : ∀ w, aexec V A b (eB w) K = Nb w) : ∀ v, aexec V A c (eE v) K = Na Nb v := by
  intro v
  subst hc
  rw [aexec, hj, ha (fun s => aexec V A b s K) v]
  exact congrArg (fun g => Na g v) (funext hb)
theorem block_in {c d : Code} {id : Nat} (hc : c = .block id d) (s : St) (K : Ex → St → Option α) : aexec V A c s K = aexec V A d s (kBlock id K) := by
  subst hc; rfl
theorem scope_in {c d : Code} (hc : c = .scope d) (s : St) (K : Ex → St → Option α) : aexec V A c s K = aexec V A d s K := by
  subst hc; rfl
theorem loop_deep {d : Code} {spec : List (Nat × Md)} (hj : (ckey d).bind A.at_ = some spec) (eL : τ → St)
    (K : Ex → St → Option α) (S : (τ → Option α) → τ → Option α)
    (hs : ∀ (R : St → Option α) w, aexec V A d (eL w) (kSeq (fun s => R (cutTo V (some spec) s)) K) = S (fun w => R (eL w)) w) (n : Nat) (w : τ) :
    loopN (fun R s => aexec V A d s (kSeq (fun s => R (cutTo V ((ckey d).bind A.at_) s)) K)) n (eL w) = loopN S n w := by
  rw [hj]
  induction n generalizing w with
  | zero => rfl
  | succ n ih =>
    rw [loopN, loopN, hs]
    exact congrArg (fun g => S g w) (funext ih)
theorem loop_cut {c d : Code} (hc : c = .loop d) {spec : List (Nat × Md)} (hj : (ckey d).bind A.at_ = some spec) (eE : σ → St) (eL : τ → St)
    (K : Ex → St → Option α) (i : σ → τ) (S : (τ → Option α) → τ → Option α)
    (hi : ∀ v, cutTo V (some spec) (eE v) = eL (i v))
    (hs : ∀ (R : St → Option α) w, aexec V A d (eL w) (kSeq (fun s => R (cutTo V (some spec) s)) K) = S (fun w => R (eL w)) w)
    (hp : (ckey d).map A.peel = some false := by kernel_rfl) :
    ∀ v, aexec V A c (eE v) K = loopN S A.F (i v) := by
  intro v
  subst hc
  rw [aexec, hp]
  have h := loop_deep hj eL K S hs A.F (i v)
  rw [← hi, ← hj] at h
  exact h
theorem cond_in {c x y : Code} {o : Operand} (hc : c = .cond o x y) (eE : σ → St) (K : Ex → St → Option α) (b : σ → Bool)
    (ho : ∀ v, ev V (eE v) o = .bool (b v)) (X Y : σ → Option α) (hx : ∀ v, aexec V A x (eE v) K = X v) (hy : ∀ v, aexec V A y (eE v) K = Y v) :
    ∀ v, aexec V A c (eE v) K = cond (b v) (X v) (Y v) := by
  intro v
  subst hc
  rw [aexec, ho, hx, hy]
theorem abody_in {f : Func} {args : List AV} {H : List Blk} {c : Code} (hc : f.body = some c) {s : St}
    (hs : { tmps := tagT 0 args, heap := tagH 0 H, next := H.length, nt := max args.length f.ntmps, m := H.length } = s) :
    abody V A f args H = aexec V A c s (kFin V A.fin f.results.toList) := by
  subst hs
  rw [abody, hc]
end Go.Am
end
section
/- What the texts that are printed for a seat lean on. -/
namespace Go.Am
open Go
def pth : Nat → Nat → List Nat → List Nat
  | 0, _, l => l
  | k + 1, n, l => match Nat.ble n 1 with
    | true => l
    | false => pth k (n / 2) (n % 2 :: l)
abbrev bp (f : Func) (n : Nat) : Code := sub (bodyOf f) (pth 64 n [])
abbrev Rz := Option (AV × List Blk)
abbrev kc (V : Env) (R : St → Rz) (spec : List (Nat × Md)) : St → Rz := fun s => R (cutTo V (some spec) s)
abbrev CRun := List AV → List Blk → Option (Bool × AV × List Blk)
abbrev CEnt := Nat × List (Option Nat) × CRun
def lookE : List CEnt → Nat → Option (List (Option Nat) × CRun)
  | [], _ => none
  | (g, m, r) :: l, f => match Nat.beq f g with
    | true => some (m, r)
    | false => lookE l f
def mkEnv (T : Tys) (G : Nat → Option AV) (l : List CEnt) : Env := { T := T, G := G, E := lookE l }
def okAll (P : Program) (G : Nat → Option AV) : List CEnt → Prop
  | [] => True
  | (f, _, r) :: l => CallOk P G f r ∧ okAll P G l
theorem eok_mk {P : Program} {T : Tys} {G : Nat → Option AV} : ∀ {l : List CEnt}, okAll P G l → EOk P (mkEnv T G l)
  | [], _ => fun f m r h => by simp [mkEnv, lookE] at h
  | (g, m, r) :: l, hl => fun f m' r' h => by
    simp only [mkEnv, lookE] at h
    split at h
    · rename_i hb
      injection h with h; injection h with h1 h2
      subst h1; subst h2
      have := Nat.eq_of_beq_eq_true hb
      subst this
      exact hl.1
    · exact eok_mk (T := T) hl.2 f m' r' h
theorem CallOk.sub {P : Program} {G : Nat → Option AV} {f : Nat} {run run' : CRun} (h : CallOk P G f run) (g : ∀ A H r H', run' A H = some (true, r, H') → run A H = some (true, r, H')) : CallOk P G f run' where
  there := h.there
  does := fun A H r H' e => h.does A H r H' (g A H r H' e)
theorem CallOk.or {P : Program} {G : Nat → Option AV} {f : Nat} {run run2 run' : CRun} (h : CallOk P G f run) (h2 : CallOk P G f run2) (g : ∀ A H r H', run' A H = some (true, r, H') → run A H = some (true, r, H') ∨ run2 A H = some (true, r, H')) : CallOk P G f run' where
  there := h.there
  does := fun A H r H' e => (g A H r H' e).elim (h.does A H r H') (h2.does A H r H')
theorem loopN_ind {σ α : Type} {step : (σ → Option α) → σ → Option α} {r : Option α} (I : Nat → σ → Prop)
    (h : ∀ m s k, I m s → (∀ m' s', m' < m → I m' s' → k s' = r) → step k s = r) : ∀ (F m : Nat) (s : σ), m < F → I m s → loopN step F s = r
  | 0, _, _, hm, _ => by omega
  | F + 1, m, s, hm, hi => h m s _ hi fun m' s' hm' hi' => loopN_ind I h F m' s' (by omega) hi'
theorem loopN_orbit {σ α : Type} {step : (σ → Option α) → σ → Option α} {r : Option α} (s : Nat → σ) (n : Nat) (h1 : ∀ i, i < n → ∀ k, step k (s i) = k (s (i + 1))) (h2 : ∀ k, step k (s n) = r) (F : Nat) (hF : n < F) :
    loopN step F (s 0) = r :=
  loopN_ind (fun m t => m ≤ n ∧ t = s (n - m)) (fun m t k hi hk => by
    obtain ⟨hm, rfl⟩ := hi
    cases m with
    | zero => exact h2 k
    | succ m =>
      rw [h1 (n - (m + 1)) (by omega) k]
      exact hk m _ (by omega) ⟨by omega, by rw [show n - (m + 1) + 1 = n - m by omega]⟩) F n (s 0) hF ⟨Nat.le_refl _, by rw [Nat.sub_self]⟩
theorem loopN_from {σ α : Type} {step : (σ → Option α) → σ → Option α} {r : Option α} {s0 : σ} (s : Nat → σ) (n : Nat) (h0 : s0 = s 0) (h1 : ∀ i, i < n → ∀ k, step k (s i) = k (s (i + 1))) (h2 : ∀ k, step k (s n) = r) (F : Nat) (hF : n < F) :
    loopN step F s0 = r := h0 ▸ loopN_orbit s n h1 h2 F hF
theorem i64w {x : Int} (h1 : -9223372036854775808 ≤ x) (h2 : x ≤ 9223372036854775807) : IntKind.i64.wrap x = x := by
  unfold IntKind.wrap; simp only [IntKind.signed, IntKind.bits]; simp; omega
theorem cond_pos {α : Type} {p : Prop} [Decidable p] {a b : α} (h : p) : cond (decide p) a b = a := by simp [h]
theorem cond_neg {α : Type} {p : Prop} [Decidable p] {a b : α} (h : ¬ p) : cond (decide p) a b = b := by simp [h]
theorem dec_and {p q : Prop} [Decidable p] [Decidable q] : (decide p && decide q) = decide (p ∧ q) := by simp
theorem dec_not {p : Prop} [Decidable p] : (!(decide p)) = decide (¬ p) := by simp
theorem int_beq (x y : Int) : (x == y) = decide (x = y) := by rw [Bool.eq_iff_iff]; simp
theorem int_bne (x y : Int) : (x != y) = decide (x ≠ y) := by rw [Bool.eq_iff_iff]; simp
theorem fill_set {α : Type} (g : Nat → α) (z : α) (n i : Nat) (h : i < n) {v : α} (hv : v = g i) :
    ((List.range i).map g ++ List.replicate (n - i) z).set i v = (List.range (i + 1)).map g ++ List.replicate (n - (i + 1)) z := by
  subst hv
  rw [show n - i = (n - (i + 1)) + 1 by omega, List.replicate_succ, List.set_append_right _ _ (by simp), List.range_succ, List.map_append]
  simp
theorem tmod_nn {x y : Int} (h : 0 ≤ x) : Int.tmod x y = x % y := Int.tmod_eq_emod_of_nonneg h
theorem list_eq {α : Type} (d : α) {a b : List α} (hl : a.length = b.length) (h : ∀ i, i < a.length → a.getD i d = b.getD i d) : a = b := by
  refine List.ext_getElem hl fun i h1 h2 => ?_
  have := h i h1
  rwa [List.getD_eq_getElem?_getD, List.getD_eq_getElem?_getD, List.getElem?_eq_getElem h1, List.getElem?_eq_getElem h2] at this
theorem lst_beq (x y : List Int) : (x == y) = decide (x = y) := by rw [Bool.eq_iff_iff]; simp
theorem okB_size {n : Nat} {r : AV} {c : Bool} (h : okB (.cells n r c)) (hl : r.leafB = true) : n = r.size := by
  cases r <;> first | (simp [AV.leafB] at hl; done) | exact h.2.1.symm
end Go.Am
end
section
/- Plain laws for the regions: what the functions of gantryref38, region and the library's slices compute. -/
namespace Go.Am
open Go
def scan {α : Type} (q : Nat → Option (Option α)) : Nat → Nat → Option α → Option α
  | 0, _, e => e
  | m + 1, i, e => match q i with
    | some r => r
    | none => scan q m (i + 1) e
theorem loopN_scan {σ α : Type} {S : (σ → Option α) → σ → Option α} {s0 : σ} (st : Nat → σ) (n : Nat) (q : Nat → Option (Option α)) (e : Option α) (h0 : s0 = st 0)
    (h1 : ∀ i, i < n → ∀ k, S k (st i) = match q i with | some r => r | none => k (st (i + 1))) (h2 : ∀ k, S k (st n) = e) (F : Nat) (hF : n < F) : loopN S F s0 = scan q n 0 e := by
  subst h0
  have : ∀ (m i F : Nat), i + m = n → m < F → loopN S F (st i) = scan q m i e := by
    intro m
    induction m with
    | zero =>
      intro i F hi hF
      cases F with
      | zero => omega
      | succ F => rw [loopN, scan]; rw [show i = n by omega]; exact h2 _
    | succ m ih =>
      intro i F hi hF
      cases F with
      | zero => omega
      | succ F =>
        rw [loopN, scan, h1 i (by omega)]
        cases q i with
        | some r => rfl
        | none => exact ih (i + 1) F (by omega) (by omega)
  exact this n 0 F (by omega) hF
theorem scan_idx {α β : Type} (p : β → Bool) (l : List β) (d : β) (r : Nat → Option α) (e : Option α) :
    scan (fun i => if p (l.getD i d) = true then some (r i) else none) l.length 0 e = match l.findIdx? p with | some i => r i | none => e := by
  have : ∀ (rest pre : List β), pre ++ rest = l → scan (fun i => if p (l.getD i d) = true then some (r i) else none) rest.length pre.length e = match rest.findIdx? p with | some i => r (pre.length + i) | none => e := by
    intro rest
    induction rest with
    | nil => intro pre _; rfl
    | cons x rest ih =>
      intro pre hl
      have hx : l.getD pre.length d = x := by rw [← hl]; simp [List.getD_eq_getElem?_getD]
      rw [List.length_cons, scan]
      simp only [hx, List.findIdx?_cons]
      by_cases hp : p x = true
      · rw [if_pos hp, if_pos hp]; simp
      · rw [if_neg hp, if_neg hp]
        have := ih (pre ++ [x]) (by rw [← hl]; simp)
        rw [List.length_append, List.length_singleton] at this
        rw [this]
        cases rest.findIdx? p with
        | none => rfl
        | some i => simp [Nat.add_assoc, Nat.add_comm 1 i]
  have h := this l [] rfl
  simpa using h
namespace Reg
def around (n m : Int) : Int := Int.tmod (if n < 0 then -(n + 1) else n) m
theorem around_lt {n m : Int} (hm : 0 < m) : 0 ≤ around n m ∧ around n m < m := by
  unfold around
  have h : 0 ≤ (if n < 0 then -(n + 1) else n) := by split <;> omega
  rw [tmod_nn h]
  exact ⟨Int.emod_nonneg _ (by omega), Int.emod_lt_of_pos _ hm⟩
def at_ (l : List Int) (i m : Int) : Int := if i < 0 ∨ i ≥ (l.length : Int) then 0 else around (l.getD i.toNat 0) m
theorem at_lt {l : List Int} {i m : Int} (hm : 0 < m) : 0 ≤ at_ l i m ∧ at_ l i m < m := by
  unfold at_; split
  · omega
  · exact around_lt hm
def cls (l : List Int) (m : Int) (n i : Nat) (q : Int) : List Int := ((List.range i).map fun (t : Nat) => (n : Int) - 1 - (t : Int)).filter fun d => decide (at_ l d m = q)
def groups (l : List Int) (n many : Nat) : List (List Int) := ((List.range many).map fun (q : Nat) => cls l ((many : Int) + 1) n n (q : Int)).filter fun g => decide (0 < g.length)
def kk : Nat → Int → Int
  | 0, k => k
  | t + 1, k => Int.tdiv (kk t k) 2
theorem take_get {β : Type} (l : List β) (d : β) (i : Nat) (h : i < l.length) : l.take i ++ [l.getD i d] = l.take (i + 1) := by
  rw [List.take_add_one, List.getD_eq_getElem?_getD, List.getElem?_eq_getElem h]; rfl
def idx {β : Type} (p : β → Bool) (l : List β) : Int := match l.findIdx? p with
  | some i => (i : Int)
  | none => -1
theorem idx_neg {β : Type} (p : β → Bool) (l : List β) : decide (idx p l ≥ 0) = l.any p := by
  unfold idx
  cases h : l.findIdx? p with
  | none =>
    rw [List.findIdx?_eq_none_iff] at h
    have : l.any p = false := by rw [List.any_eq_false]; intro x hx; simpa using h x hx
    rw [this]; rfl
  | some i =>
    have : l.any p = true := by
      rw [List.findIdx?_eq_some_iff_getElem] at h
      obtain ⟨hi, hp, _⟩ := h
      exact List.any_eq_true.mpr ⟨_, List.getElem_mem hi, hp⟩
    rw [this]; exact decide_eq_true (Int.natCast_nonneg i)
def first (up : List Bool) : Int := idx (fun x => x == true) up
def okO (m : Nat) (o : Int) : Bool := decide (-1 ≤ o) && decide (o < (m : Int))
def bad (n : Nat) (met : List Bool) (d : Int) : Prop := d < 0 ∨ d ≥ (n : Int) ∨ met.getD d.toNat false = true
instance (n : Nat) (met : List Bool) (d : Int) : Decidable (bad n met d) := inferInstanceAs (Decidable (_ ∨ _ ∨ _))
def vg (n : Nat) : List Int → List Bool → Option (List Bool)
  | [], met => some met
  | d :: g, met => if bad n met d then none else vg n g (met.set d.toNat true)
def vgs (n : Nat) : List (List Int) → List Bool → Option (List Bool)
  | [], met => some met
  | g :: gs, met => if g.length = 0 then none else match vg n g met with
    | some met => vgs n gs met
    | none => none
def valid (g : List (List Int)) (n : Nat) (o : List Int) (u : List Bool) : Bool :=
  (decide (1 ≤ u.length) && decide (u.length ≤ 6)) && ((vgs n g (List.replicate n false)).isSome && o.all (okO u.length))
def has (g o : List Int) (h : Int) : Int := ((g.filter fun d => decide (o.getD d.toNat 0 = h)).length : Int)
def inr (n : Nat) (g : List Int) : Bool := g.all fun d => decide (0 ≤ d) && decide (d < (n : Int))
def best (g o : List Int) (u : List Bool) : Int := (List.range u.length).foldl (fun (out : Int) (h : Nat) => if u.getD h false = true ∧ has g o (h : Int) > has g o out then (h : Int) else out) (first u)
def put (h : Int) (g : List Int) (out : List Int) : List Int := g.foldl (fun out d => out.set d.toNat h) out
def own (g : List (List Int)) (old : List Int) (u : List Bool) : List Int × Int :=
  if valid g old.length old u = false then ([], 1) else if 0 < g.length ∧ first u < 0 then ([], 6) else (g.foldl (fun out x => put (best x old u) x out) old, 0)
theorem getD_mem {l : List (List Int)} {i : Nat} (h : i < l.length) : l.getD i [] ∈ l := by
  rw [List.getD_eq_getElem?_getD, List.getElem?_eq_getElem h]
  exact List.getElem_mem h
def tk (o : List Int) (h : Int) (left : List Bool) (out x : List Int) : List Int := if x.any (fun d => o.getD d.toNat 0 == h) then put (best x o left) x out else out
def tkTo (o : List Int) (g : List (List Int)) (h : Int) (left : List Bool) (out : List Int) (i : Nat) : List Int := (g.take i).foldl (tk o h left) out
def swp (h f x : Int) : Int := if x = h then f else x
def take (o : List Int) (g : List (List Int)) (h : Int) (u : List Bool) : List Int × Int :=
  if valid g o.length o u = false ∨ h < 0 ∨ (u.length : Int) ≤ h then ([], 1) else
  if o.any (fun y => y == h) = true ∧ first (u.set h.toNat false) < 0 then ([], 6) else
  ((tkTo o g h (u.set h.toNat false) o g.length).map (swp h (first (u.set h.toNat false))), 0)
theorem has_zero (g o : List Int) (h : Int) : (has g o h == 0) = !(g.any (fun d => o.getD d.toNat 0 == h)) := by
  unfold has
  induction g with
  | nil => rfl
  | cons d g ih =>
    rw [List.filter_cons, List.any_cons]
    by_cases hd : o.getD d.toNat 0 = h
    · rw [decide_eq_true hd, if_pos rfl, beq_iff_eq.mpr hd, List.length_cons]
      simp only [Bool.true_or, Bool.not_true]
      rw [int_beq, decide_eq_false (by omega)]
    · rw [decide_eq_false hd, if_neg (by simp), ih, show (o.getD d.toNat 0 == h) = false by simpa using hd, Bool.false_or]
def pickTo (u : List Bool) (sh : List Int) (i : Nat) : Int := (List.range i).foldl (fun (h : Int) (k : Nat) => if u.getD k false = true ∧ sh.getD k 0 < sh.getD h.toNat 0 then (k : Int) else h) (first u)
def pick (u : List Bool) (sh : List Int) : Int := pickTo u sh u.length
def rem : List (List Int) → List Bool → List (List Int)
  | x :: g, d :: D => if d = true then rem g D else x :: rem g D
  | _, _ => []
def selTo (g : List (List Int)) (D : List Bool) (i : Nat) : Int := (List.range i).foldl (fun (s : Int) (k : Nat) => if D.getD k false = false ∧ (s < 0 ∨ (g.getD k []).length > (g.getD s.toNat []).length) then (k : Int) else s) (-1)
def dn (g : List (List Int)) : Nat → List Bool
  | 0 => List.replicate g.length false
  | i + 1 => (dn g i).set (selTo g (dn g i) g.length).toNat true
end Reg
end Go.Am
end
section
namespace Go.Am
open Go
namespace Reg
end Reg
end Go.Am
namespace Go.Am.Reg
theorem getD_mem' {x : List Int} {i : Nat} (h : i < x.length) : x.getD i 0 ∈ x := by
  rw [List.getD_eq_getElem?_getD, List.getElem?_eq_getElem h]
  exact List.getElem_mem h
end Go.Am.Reg
namespace Go.Am.Reg
end Go.Am.Reg
end
section
/- Dividing groups evenly: the greatest share is at most 4/3 of the least possible one, for at most six groups and three hosts. -/
namespace Go.Am
open Go
namespace Reg
def mn (a b : Nat) : Nat := cond (Nat.ble b a) b a
def mx (a b : Nat) : Nat := cond (Nat.ble b a) a b
def n1 : List Nat → Nat → Nat
  | [], a => a
  | p :: ps, a => mn 1048576 (n1 ps (a + p))
def n2 : List Nat → Nat → Nat → Nat
  | [], a, b => mx a b
  | p :: ps, a, b => mn (mn 1048576 (n2 ps (a + p) b)) (n2 ps a (b + p))
def n3 : List Nat → Nat → Nat → Nat → Nat
  | [], a, b, c => mx (mx a b) c
  | p :: ps, a, b, c => mn (mn (mn 1048576 (n3 ps (a + p) b c)) (n3 ps a (b + p) c)) (n3 ps a b (c + p))
def up (l : List Nat) : List Int := l.map fun (n : Nat) => (n : Int)
theorem r1 : List.range 1 = [0] := rfl
theorem r2 : List.range 2 = [0, 1] := rfl
theorem r3 : List.range 3 = [0, 1, 2] := rfl
end Reg
end Go.Am
end