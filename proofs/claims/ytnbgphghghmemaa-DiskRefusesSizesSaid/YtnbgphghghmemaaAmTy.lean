/- The table of types against the program's own; zero values. -/
import Derived.Test.YtnbgphghghmemaaAmSim
set_option linter.unusedVariables false
set_option linter.unusedSimpArgs false
namespace Go.Am
open Go

inductive RK where
  | I (k : IntKind)
  | B
  | S
  | L (k : IntKind)
  | T (ks : List CK)
def CK.zero : CK → Value
  | .int k => .int k 0
  | .bool => .bool false
  | .str => .string ⟨#[]⟩
  | .sl _ => .slice none 0 0
def RK.zero : RK → Nat → Value
  | .I k, _ => .int k 0
  | .B, _ => .bool false
  | .S, _ => .string ⟨#[]⟩
  | .L _, _ => .slice none 0 0
  | .T ks, j => (ks.getD (j % ks.length) .bool).zero
def RK.unit : RK → Nat
  | .T ks => ks.length
  | _ => 1
def RK.row : RK → Nat → AV
  | .I k, n => .rI k (List.replicate n 0)
  | .B, n => .rB (List.replicate n false)
  | .S, n => .rS (List.replicate n [])
  | .L k, n => .rL k (List.replicate n [])
  | .T ks, n => .rT ks (List.replicate (n / ks.length) (ks.map CK.z))
def zkind (T : Tys) : Nat → Nat → Option (RK × Nat)
  | 0, _ => none
  | d + 1, t => match (T.at t).d with
    | .int k => some (.I k, 1)
    | .bool => some (.B, 1)
    | .str => some (.S, 1)
    | .slice e => match (T.at e).d with
      | .int k => some (.L k, 1)
      | _ => none
    | .arr m e => match zkind T d e with
      | some (k, c) => some (k, m * c)
      | none => none
    | .struct fs => match tks T fs with
      | some ks => match Nat.blt 1 ks.length with
        | true => some (.T ks, ks.length)
        | false => none
      | none => none
    | _ => none

theorem zrow_kind (T : Tys) : ∀ (d t n : Nat) (r : AV), zrow T d t n = some r → ∃ k c, zkind T d t = some (k, c) ∧ r = k.row (n * c)
  | 0, _, _, _, h => by simp [zrow] at h
  | d + 1, t, n, r, h => by
    simp only [zrow] at h
    simp only [zkind]
    cases hd : (T.at t).d <;> simp only [hd] at h ⊢ <;> try contradiction
    · injection h with h; exact ⟨_, _, rfl, by rw [← h]; simp [RK.row]⟩
    · injection h with h; exact ⟨_, _, rfl, by rw [← h]; simp [RK.row]⟩
    · injection h with h; exact ⟨_, _, rfl, by rw [← h]; simp [RK.row]⟩
    · rename_i e
      cases he : (T.at e).d <;> simp only [he] at h ⊢ <;> try contradiction
      injection h with h; exact ⟨_, _, rfl, by rw [← h]; simp [RK.row]⟩
    · rename_i m e
      obtain ⟨k, c, h1, h2⟩ := zrow_kind T d e (n * m) r h
      exact ⟨k, m * c, by simp [h1], by rw [h2, Nat.mul_assoc]⟩
    · rename_i fs
      cases hk : tks T fs with
      | none => simp only [hk] at h; cases h
      | some ks =>
        simp only [hk] at h ⊢
        cases hl : Nat.blt 1 ks.length with
        | false => rw [hl] at h; cases h
        | true =>
          rw [hl] at h
          rw [Nat.blt_eq] at hl
          injection h with h
          exact ⟨_, _, rfl, by rw [← h]; simp only [RK.row]; rw [Nat.mul_div_cancel _ (by omega)]⟩
theorem zkind_unit (T : Tys) : ∀ (d t : Nat) (k : RK) (c : Nat), zkind T d t = some (k, c) → 0 < k.unit ∧ k.unit ∣ c
  | 0, _, _, _, h => by simp [zkind] at h
  | d + 1, t, k, c, h => by
    simp only [zkind] at h
    cases hd : (T.at t).d <;> simp only [hd] at h <;> try contradiction
    all_goals (try (injection h with h; injection h with h1 h2; subst h1; subst h2; exact ⟨Nat.one_pos, Nat.one_dvd _⟩))
    · rename_i e
      cases he : (T.at e).d <;> simp only [he] at h <;> try contradiction
      injection h with h; injection h with h1 h2; subst h1; subst h2; exact ⟨Nat.one_pos, Nat.one_dvd _⟩
    · rename_i m e
      cases hz : zkind T d e with
      | none => rw [hz] at h; cases h
      | some p =>
        obtain ⟨k', c'⟩ := p
        rw [hz] at h
        injection h with h; injection h with h1 h2; subst h1; subst h2
        obtain ⟨q1, q2⟩ := zkind_unit T d e k' c' hz
        exact ⟨q1, Nat.dvd_trans q2 (Nat.dvd_mul_left _ _)⟩
    · rename_i fs
      cases hk : tks T fs with
      | none => simp only [hk] at h; cases h
      | some ks =>
        simp only [hk] at h
        cases hl : Nat.blt 1 ks.length with
        | false => rw [hl] at h; cases h
        | true =>
          rw [hl] at h
          rw [Nat.blt_eq] at hl
          injection h with h; injection h with h1 h2; subst h1; subst h2
          exact ⟨by show 0 < ks.length; omega, Nat.dvd_refl _⟩

theorem has_zero (k : IntKind) : k.has 0 := by cases k <;> exact ⟨by decide, by decide⟩
theorem RK.size_row (k : RK) (n : Nat) (h : k.unit ∣ n) : (k.row n).size = n := by
  cases k with
  | T ks => simp only [RK.row, AV.size, List.length_replicate]; exact Nat.div_mul_cancel h
  | _ => simp [RK.row, AV.size]
theorem RK.leaf_row (k : RK) (n : Nat) : (k.row n).leafB = true := by cases k <;> rfl
theorem tval_z (k : CK) (w : World) (W : Nat → Prop) (ρ : Rho) : Rep w W ρ (tval k k.z) k.zero := by
  cases k with
  | int k => exact .int k 0 (has_zero k)
  | bool => exact .bool false
  | str => exact .str ⟨#[]⟩ (by decide)
  | sl k => exact .vs0 _ 1 0 none rfl rfl
theorem map_z (ks : List CK) (q : Nat) (h : q < ks.length) : (ks.map CK.z).getD q [] = (ks.getD q .bool).z := by
  rw [List.getD_eq_getElem?_getD, List.getD_eq_getElem?_getD, List.getElem?_map, List.getElem?_eq_getElem h]
  rfl
theorem RK.rep_row (k : RK) (n j : Nat) (h : k.unit ∣ n) (hj : j < n) (w : World) (W : Nat → Prop) (ρ : Rho) : Rep w W ρ ((k.row n).cell j) (k.zero j) := by
  cases k with
  | I k => simp only [RK.row, AV.cell, RK.zero]; rw [show (List.replicate n (0 : Int)).getD j 0 = 0 by simp [List.getD_eq_getElem?_getD, List.getElem?_replicate, hj]]; exact .int k 0 (has_zero k)
  | B => simp only [RK.row, AV.cell, RK.zero]; rw [show (List.replicate n false).getD j false = false by simp [List.getD_eq_getElem?_getD, List.getElem?_replicate, hj]]; exact .bool false
  | S =>
    simp only [RK.row, AV.cell, RK.zero]; rw [show (List.replicate n ([] : List Int)).getD j [] = [] by simp [List.getD_eq_getElem?_getD, List.getElem?_replicate, hj]]
    exact .str ⟨#[]⟩ (by decide)
  | L k =>
    simp only [RK.row, AV.cell, RK.zero]; rw [show (List.replicate n ([] : List Int)).getD j [] = [] by simp [List.getD_eq_getElem?_getD, List.getElem?_replicate, hj]]
    exact .vs0 _ 1 0 none rfl rfl
  | T ks =>
    have h0 : 0 < ks.length := by
      rcases Nat.eq_zero_or_pos ks.length with h1 | h1
      · change ks.length ∣ n at h
        rw [h1, Nat.zero_dvd] at h; omega
      · exact h1
    have hq : j / ks.length < n / ks.length := Nat.div_lt_div_of_lt_of_dvd h hj
    simp only [RK.row, AV.cell, RK.zero]
    rw [show (List.replicate (n / ks.length) (ks.map CK.z)).getD (j / ks.length) [] = ks.map CK.z by rw [List.getD_eq_getElem?_getD, List.getElem?_replicate, if_pos hq]; rfl, map_z ks _ (Nat.mod_lt _ h0)]
    exact tval_z _ w W ρ

def veq : Value → Value → Bool
  | .bool a, .bool b => a == b
  | .int k a, .int l b => decide (k = l) && decide (a = b)
  | .string a, .string b => decide (a.data.toList = []) && decide (b.data.toList = [])
  | .pointer none, .pointer none => true
  | .slice none 0 0, .slice none 0 0 => true
  | .map none, .map none => true
  | .nilFunc, .nilFunc => true
  | _, _ => false
theorem veq_eq {a b : Value} (h : veq a b = true) : a = b := by
  unfold veq at h
  split at h <;> simp_all
  rename_i a b
  obtain ⟨⟨l⟩⟩ := a
  obtain ⟨⟨l'⟩⟩ := b
  simp_all

def concZ : AV → Option Value
  | .bool b => some (.bool b)
  | .int k n => match decide (n = 0) with
    | true => some (.int k 0)
    | false => none
  | .str s => match s with
    | [] => some (.string ⟨#[]⟩)
    | _ => none
  | .nilp => some (.pointer none)
  | .ns => some (.slice none 0 0)
  | .nilm => some (.map none)
  | .nilf => some .nilFunc
  | .vs (.rI _ []) 0 1 => some (.slice none 0 0)
  | _ => none
theorem concZ_rep {a : AV} {v : Value} (h : concZ a = some v) (w : World) (W : Nat → Prop) (ρ : Rho) : Rep w W ρ a v := by
  unfold concZ at h
  split at h <;> try contradiction
  all_goals (try (split at h <;> try contradiction))
  all_goals injection h with h
  all_goals subst h
  · exact .bool _
  · rename_i hn; rw [decide_eq_true_eq] at hn; subst hn; exact .int _ 0 (has_zero _)
  · exact .str ⟨#[]⟩ (by decide)
  · exact .nilp
  · exact .ns
  · exact .nilm
  · exact .nilf
  · exact .vs0 _ 1 0 none rfl rfl

def aggB (z : Value) (b : Bool) : Bool := match z with
  | .agg _ => b
  | _ => !b
structure TyOk (P : Program) (T : Tys) (t : Nat) : Prop where
  size : 0 < (T.at t).sz → ∃ i, P.info? t = some i ∧ i.size = (T.at t).sz
  int : ∀ k, (T.at t).d = .int k → P.underlying t = some (.int k)
  bool : (T.at t).d = .bool → P.underlying t = some .bool
  int1 : ∀ k, (T.at t).d = .int k → (T.at t).sz = 1
  bool1 : (T.at t).d = .bool → (T.at t).sz = 1
  str : (T.at t).d = .str → P.underlying t = some .string
  ptr : ∀ e, (T.at t).d = .ptr e → P.underlying t = some (.pointer e)
  slice : ∀ e, (T.at t).d = .slice e → P.underlying t = some (.slice e)
  arr : ∀ n e, (T.at t).d = .arr n e → P.underlying t = some (.array n e)
  struct : ∀ fs, (T.at t).d = .struct fs → ∃ a, P.underlying t = some (.struct a) ∧ a.toList.map (fun f => (f.type, f.offset)) = fs ∧ P.stoodInHeld t = false
  map : ∀ k e, (T.at t).d = .map k e → P.underlying t = some (.map k e)
  one : (T.at t).d.isAgg = false → (T.at t).sz = 1 → ∃ d, P.underlying t = some d ∧ (∀ fs, d ≠ .struct fs) ∧ ∀ n e, d ≠ .array n e
  bytes : 0 < (T.at t).sz → ∀ i, P.info? t = some i → i.bytes ≤ 65536
  zero : ∀ r, zvar T 16 t = some r → 0 < (T.at t).sz ∧ r.wf ∧ r.size = (T.at t).sz ∧ ∃ i z, P.info? t = some i ∧ i.zero = some z ∧ z.cells.size = (T.at t).sz ∧ ∀ j, j < (T.at t).sz → concZ (r.cell j) = some (z.cells.getD j Go.undef)
  zagg : ∀ r, zvar T 16 t = some r → ∃ i z, P.info? t = some i ∧ i.zero = some z ∧ aggB z (T.at t).d.isAgg = true
  kind : ∀ k c, zkind T 8 t = some (k, c) → 0 < c ∧ c = (T.at t).sz ∧ ∃ i z, P.info? t = some i ∧ i.zero = some z ∧ z.cells.size = c ∧ ∀ j, j < c → z.cells.getD j Go.undef = k.zero j
def TysOk (P : Program) (T : Tys) : Prop := ∀ t, TyOk P T t

variable {P : Program} {T : Tys}
theorem TysOk.zrow (h : TysOk P T) {e n : Nat} {r : AV} (hz : zrow T 8 e n = some r) : 0 < (T.at e).sz ∧ r.leafB = true ∧ r.size = n * (T.at e).sz ∧
    ∃ i z, P.info? e = some i ∧ i.size = (T.at e).sz ∧ i.zero = some z ∧ z.cells.size = (T.at e).sz ∧ ∀ j, j < n * (T.at e).sz → ∀ w W ρ, Rep w W ρ (r.cell j) (z.cells.getD (j % (T.at e).sz) Go.undef) := by
  obtain ⟨k, c, h1, rfl⟩ := zrow_kind T 8 e n r hz
  obtain ⟨hu, hd⟩ := zkind_unit T 8 e k c h1
  obtain ⟨h0, rfl, i, z, g1, g2, g3, g4⟩ := (h e).kind k c h1
  have hd2 : k.unit ∣ n * (T.at e).sz := Nat.dvd_trans hd (Nat.dvd_mul_left _ _)
  refine ⟨h0, k.leaf_row _, k.size_row _ hd2, i, z, g1, ?_, g2, g3, fun j hj w W ρ => ?_⟩
  · obtain ⟨i', g1', g5⟩ := (h e).size h0
    rw [g1] at g1'; cases g1'; exact g5
  · rw [g4 _ (Nat.mod_lt _ h0)]
    have hz : k.zero (j % (T.at e).sz) = k.zero j := by
      cases k with
      | T ks =>
        have hd' : ks.length ∣ (T.at e).sz := hd
        simp only [RK.zero]; rw [Nat.mod_mod_of_dvd _ hd']
      | _ => rfl
    rw [hz]
    exact k.rep_row _ j hd2 hj w W ρ

theorem run_underlying' {t : TypeId} {d : TypeDesc} (h : P.underlying t = some d) (w : World) : (Go.underlying t).run P w = .ok d w := by
  simp [Go.underlying, program, Sem.run, h]
theorem run_sizeOf' (h : TysOk P T) {t : Nat} (h0 : 0 < (T.at t).sz) (w : World) : (sizeOf t).run P w = .ok (T.at t).sz w := by
  obtain ⟨i, g1, g2⟩ := (h t).size h0
  simp [sizeOf, typeInfo, program, Sem.run, g1, g2]
end Go.Am
