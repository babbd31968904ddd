/- The table of types, checked by one closed look. -/
import Derived.Test.YtnbgphghghmemaaAmTy
import Derived.KernelRfl
set_option linter.unusedVariables false
set_option linter.unusedSimpArgs false
namespace Go.Am
open Go

mutual
def wfB : AV → Bool
  | .rI _ _ => true
  | .rB _ => true
  | .rS _ => true
  | .rL _ _ => true
  | .rT _ _ => true
  | .one v => v.scal
  | .segs s => wfSB s
  | _ => false
def wfSB : AVs → Bool
  | .nil => true
  | .cons n v t => wfB v && (Nat.beq v.size n && wfSB t)
end
mutual
theorem wfB_ok : ∀ (r : AV), wfB r = true → r.wf
  | .rI _ _, _ => trivial
  | .rB _, _ => trivial
  | .rS _, _ => trivial
  | .rL _ _, _ => trivial
  | .one v, h => h
  | .segs s, h => wfSB_ok s h
  | .undef, h => by simp [wfB] at h
  | .bool _, h => by simp [wfB] at h
  | .int _ _, h => by simp [wfB] at h
  | .str _, h => by simp [wfB] at h
  | .rT _ _, _ => trivial
  | .agg _ _, h => by simp [wfB] at h
  | .tup _, h => by simp [wfB] at h
  | .nilp, h => by simp [wfB] at h
  | .ptr _ _ _ _ _ _ _, h => by simp [wfB] at h
  | .gp _ _ _ _ _ _, h => by simp [wfB] at h
  | .ns, h => by simp [wfB] at h
  | .own _ _ _, h => by simp [wfB] at h
  | .sl _ _ _ _ _ _, h => by simp [wfB] at h
  | .vs _ _ _, h => by simp [wfB] at h
  | .mp _, h => by simp [wfB] at h
  | .nilm, h => by simp [wfB] at h
  | .fn _ _, h => by simp [wfB] at h
  | .nilf, h => by simp [wfB] at h
theorem wfSB_ok : ∀ (s : AVs), wfSB s = true → s.wfS
  | .nil, _ => trivial
  | .cons n v t, h => by
    simp only [wfSB, Bool.and_eq_true] at h
    exact ⟨wfB_ok v h.1, Nat.eq_of_beq_eq_true h.2.1, wfSB_ok t h.2.2⟩
end

def descB (P : Program) (T : Tys) (t : Nat) : Bool := match (T.at t).d, P.underlying t with
  | .int k, some (.int k') => decide (k = k') && Nat.beq (T.at t).sz 1
  | .bool, some .bool => Nat.beq (T.at t).sz 1
  | .str, some .string => true
  | .ptr e, some (.pointer e') => Nat.beq e e'
  | .slice e, some (.slice e') => Nat.beq e e'
  | .arr n e, some (.array n' e') => Nat.beq n n' && Nat.beq e e'
  | .struct fs, some (.struct a) => decide (a.toList.map (fun f => (f.type, f.offset)) = fs) && !(P.stoodInHeld t)
  | .map k e, some (.map k' e') => Nat.beq k k' && Nat.beq e e'
  | .other, d => !(Nat.beq (T.at t).sz 1) || match d with
    | some (.struct _) => false
    | some (.array _ _) => false
    | some _ => true
    | none => false
  | _, _ => false
def zeroB (P : Program) (T : Tys) (t : Nat) : Bool := match zvar T 16 t with
  | none => true
  | some r => Nat.blt 0 (T.at t).sz && (wfB r && (Nat.beq r.size (T.at t).sz && match P.info? t with
    | none => false
    | some i => match i.zero with
      | none => false
      | some z => (Nat.beq z.cells.size (T.at t).sz && aggB z (T.at t).d.isAgg) && (List.range (T.at t).sz).all fun j => match concZ (r.cell j) with
        | some v => veq v (z.cells.getD j Go.undef)
        | none => false))
def kindB (P : Program) (T : Tys) (t : Nat) : Bool := match zkind T 8 t with
  | none => true
  | some (k, c) => Nat.blt 0 c && (Nat.beq c (T.at t).sz && match P.info? t with
    | none => false
    | some i => match i.zero with
      | none => false
      | some z => Nat.beq z.cells.size c && (List.range c).all fun j => veq (z.cells.getD j Go.undef) (k.zero j))
def tyB (P : Program) (T : Tys) (t : Nat) : Bool := (Nat.beq (T.at t).sz 0 || match P.info? t with
  | some i => Nat.beq i.size (T.at t).sz && Nat.ble i.bytes 65536
  | none => false) && (descB P T t && (zeroB P T t && kindB P T t))
def tysB (P : Program) (T : Tys) : Bool := Nat.beq P.types.size T.length && (List.range T.length).all (tyB P T)

theorem tyB_ok {P : Program} {T : Tys} {t : Nat} (h : tyB P T t = true) : TyOk P T t := by
  simp only [tyB, Bool.and_eq_true] at h
  obtain ⟨h1, h2, h3, h4⟩ := h
  have hd : ∀ {d}, (T.at t).d = d → descB P T t = true := fun _ => h2
  unfold descB at h2
  refine {
    size := fun h0 => ?_, int := fun k hk => ?_, bool := fun hk => ?_, int1 := fun k hk => ?_, bool1 := fun hk => ?_, str := fun hk => ?_, ptr := fun e hk => ?_, slice := fun e hk => ?_, arr := fun n e hk => ?_, struct := fun fs hk => ?_, map := fun k e hk => ?_,
    one := fun ha hs => ?_, bytes := fun hz0 i hi => ?_, zero := fun r hr => ?_, zagg := fun r hr => ?_, kind := fun k c hk => ?_ }
  · rcases Bool.or_eq_true _ _ ▸ h1 with h1 | h1
    · have := Nat.eq_of_beq_eq_true h1; omega
    · split at h1
      · rename_i i hi
        simp only [Bool.and_eq_true] at h1
        exact ⟨i, hi, Nat.eq_of_beq_eq_true h1.1⟩
      · contradiction
  · rw [hk] at h2; split at h2 <;> simp_all
  · rw [hk] at h2; split at h2 <;> simp_all
  · rw [hk] at h2; split at h2 <;> simp_all
  · rw [hk] at h2; split at h2 <;> simp_all
  · rw [hk] at h2; split at h2 <;> simp_all
  · rw [hk] at h2; split at h2 <;> simp_all
  · rw [hk] at h2; split at h2 <;> simp_all
  · rw [hk] at h2; split at h2 <;> simp_all
  · rw [hk] at h2
    split at h2 <;> simp_all
  · rw [hk] at h2; split at h2 <;> simp_all
  · cases hdd : (T.at t).d with
    | int k => rw [hdd] at h2; split at h2 <;> simp_all
    | bool => rw [hdd] at h2; split at h2 <;> simp_all
    | str => rw [hdd] at h2; split at h2 <;> simp_all
    | ptr e => rw [hdd] at h2; split at h2 <;> simp_all
    | slice e => rw [hdd] at h2; split at h2 <;> simp_all
    | arr n e => rw [hdd] at ha; simp [TyD.isAgg] at ha
    | struct fs => rw [hdd] at ha; simp [TyD.isAgg] at ha
    | map k e => rw [hdd] at h2; split at h2 <;> simp_all
    | other =>
      rw [hdd] at h2
      simp only [hs, show Nat.beq 1 1 = true from rfl, Bool.not_true, Bool.false_or] at h2
      split at h2 <;> try contradiction
      rename_i d hn1 hn2 e
      exact ⟨d, e, fun fs h => hn1 fs h, fun n e' h => hn2 n e' h⟩
  · rw [hi] at h1
    rcases Bool.or_eq_true _ _ ▸ h1 with h1 | h1
    · have := Nat.eq_of_beq_eq_true h1; omega
    · simp only [Bool.and_eq_true] at h1
      exact Nat.le_of_ble_eq_true h1.2
  · unfold zeroB at h3
    rw [hr] at h3
    simp only [Bool.and_eq_true, Nat.blt_eq] at h3
    obtain ⟨g1, g2, g3, g4⟩ := h3
    refine ⟨g1, wfB_ok r g2, Nat.eq_of_beq_eq_true g3, ?_⟩
    split at g4 <;> try contradiction
    rename_i i hi
    split at g4 <;> try contradiction
    rename_i z hz
    simp only [Bool.and_eq_true, List.all_eq_true, List.mem_range] at g4
    refine ⟨i, z, hi, hz, Nat.eq_of_beq_eq_true g4.1.1, fun j hj => ?_⟩
    have := g4.2 j hj
    split at this
    · rename_i v hv; rw [hv, veq_eq this]
    · contradiction
  · unfold zeroB at h3
    rw [hr] at h3
    simp only [Bool.and_eq_true, Nat.blt_eq] at h3
    obtain ⟨g1, g2, g3, g4⟩ := h3
    split at g4 <;> try contradiction
    rename_i i hi
    split at g4 <;> try contradiction
    rename_i z hz
    simp only [Bool.and_eq_true, List.all_eq_true, List.mem_range] at g4
    exact ⟨i, z, hi, hz, g4.1.2⟩
  · unfold kindB at h4
    rw [hk] at h4
    simp only [Bool.and_eq_true, Nat.blt_eq] at h4
    obtain ⟨g1, g2, g4⟩ := h4
    refine ⟨g1, Nat.eq_of_beq_eq_true g2, ?_⟩
    split at g4 <;> try contradiction
    rename_i i hi
    split at g4 <;> try contradiction
    rename_i z hz
    simp only [Bool.and_eq_true, List.all_eq_true, List.mem_range] at g4
    exact ⟨i, z, hi, hz, Nat.eq_of_beq_eq_true g4.1, fun j hj => veq_eq (g4.2 j hj)⟩

theorem tysB_ok {P : Program} {T : Tys} (h : tysB P T = true) : TysOk P T := by
  simp only [tysB, Bool.and_eq_true, List.all_eq_true, List.mem_range] at h
  intro t
  by_cases ht : t < T.length
  · exact tyB_ok (h.2 t ht)
  · have e : T.at t = ⟨.other, 0, 0⟩ := by simp [Tys.at, List.getD_eq_getElem?_getD, List.getElem?_eq_none (Nat.le_of_not_lt ht)]
    refine {
      size := fun h0 => ?_, int := fun k hk => ?_, bool := fun hk => ?_, int1 := fun k hk => ?_, bool1 := fun hk => ?_, str := fun hk => ?_, ptr := fun e hk => ?_, slice := fun e hk => ?_, arr := fun n e hk => ?_, struct := fun fs hk => ?_, map := fun k e hk => ?_,
      one := fun ha hs => ?_, bytes := fun hz0 i hi' => ?_, zero := fun r hr => ?_, zagg := fun r hr => ?_, kind := fun k c hk => ?_ }
    all_goals first | (exfalso; simp_all [zvar, zkind]; done) | skip
end Go.Am
