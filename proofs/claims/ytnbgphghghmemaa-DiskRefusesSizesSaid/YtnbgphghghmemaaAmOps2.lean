/- Operations on strings, bools and arrays. -/
import Derived.Test.YtnbgphghghmemaaAmOps1
import Derived.ChangeKeysEq
set_option linter.unusedVariables false
set_option linter.unusedSimpArgs false
namespace Go.Am
open Go
variable {P : Program} {V : Env} {U : Oth} {w0 : World} {W0 : Nat → Prop} {o : Oper} {ρ ρ' : Rho} {s s' : St} {a : Act} {w w' : World} {av : AV}

theorem bytesOf_len (s : ByteArray) : (bytesOf s).length = s.size := by simp [bytesOf]
theorem bytesOf_mk (l : List UInt8) : bytesOf ⟨l.toArray⟩ = l.map fun b => (b.toNat : Int) := by simp [bytesOf]
theorem byte_inj : ∀ {x y : UInt8}, ((x.toNat : Int)) = (y.toNat : Int) → x = y := fun h => UInt8.toNat_inj.1 (Int.ofNat_inj.1 h)
theorem map_inj : ∀ {x y : List UInt8}, (x.map fun b => (b.toNat : Int)) = (y.map fun b => (b.toNat : Int)) → x = y
  | [], [], _ => rfl
  | [], _ :: _, h => by simp at h
  | _ :: _, [], h => by simp at h
  | a :: x, b :: y, h => by
    simp only [List.map_cons, List.cons.injEq] at h
    rw [byte_inj h.1, map_inj h.2]
theorem bytesOf_beq (a b : ByteArray) : (bytesOf a == bytesOf b) = (a.toList == b.toList) := by
  rw [Bool.eq_iff_iff, beq_iff_eq, beq_iff_eq, ByteArray.toList_eq, ByteArray.toList_eq]
  exact ⟨map_inj, fun h => by unfold bytesOf; rw [h]⟩
theorem sless_bytes : ∀ (x y : List UInt8), sless (x.map fun b => (b.toNat : Int)) (y.map fun b => (b.toNat : Int)) = Op.bytesLess x y
  | x, [] => by cases x <;> simp [sless, Op.bytesLess]
  | [], _ :: _ => by simp [sless, Op.bytesLess]
  | a :: x, b :: y => by
    simp only [List.map_cons, sless, Op.bytesLess, sless_bytes x y]
    congr 1
    · rw [Bool.eq_iff_iff, decide_eq_true_eq, decide_eq_true_eq, UInt8.lt_iff_toNat_lt]; omega
    · congr 1
      rw [Bool.eq_iff_iff, beq_iff_eq, beq_iff_eq]
      exact ⟨byte_inj, fun h => by rw [h]⟩
theorem bytesOf_append (a b : ByteArray) : bytesOf (a ++ b) = bytesOf a ++ bytesOf b := by
  simp [bytesOf]

theorem sbin_ok {op : BinOp} {t : TypeId} {x y : ByteArray} (h : sbin op (bytesOf x) (bytesOf y) = some (true, av)) :
    ∃ v, (binOp op t (.string x) (.string y)).run P w = .ok v w ∧ ∀ W ρ, Rep w W ρ av v := by
  have hl : Op.bytesLess x.toList y.toList = sless (bytesOf x) (bytesOf y) := by rw [ByteArray.toList_eq, ByteArray.toList_eq]; exact (sless_bytes _ _).symm
  cases op <;> simp only [sbin, Option.some.injEq, Prod.mk.injEq, true_and, reduceCtorEq] at h
  case add =>
    obtain ⟨h1, rfl⟩ := h
    rw [decide_eq_true_eq, bytesOf_len, bytesOf_len] at h1
    refine ⟨.string (x ++ y), ?_, fun W ρ => by rw [← bytesOf_append]; exact .str _ (by simpa using h1)⟩
    have : ¬ ((x.size + y.size : Nat) : Int) > IntKind.i64.max := by show ¬ ((x.size + y.size : Nat) : Int) > 9223372036854775807; omega
    simp only [binOp, Op.stringOp, if_neg this]; rfl
  case eql => cases h; exact ⟨.bool (x.toList == y.toList), by simp [binOp, Op.stringOp], fun W ρ => by rw [bytesOf_beq]; exact .bool _⟩
  case neq => cases h; exact ⟨.bool (!(x.toList == y.toList)), by simp [binOp, Op.stringOp], fun W ρ => by rw [bytesOf_beq]; exact .bool _⟩
  case lss => cases h; exact ⟨.bool (Op.bytesLess x.toList y.toList), by simp [binOp, Op.stringOp], fun W ρ => by rw [← hl]; exact .bool _⟩
  case leq => cases h; exact ⟨.bool (Op.bytesLess x.toList y.toList || x.toList == y.toList), by simp [binOp, Op.stringOp], fun W ρ => by rw [← hl, bytesOf_beq]; exact .bool _⟩
  case gtr => cases h; exact ⟨.bool (!(Op.bytesLess x.toList y.toList || x.toList == y.toList)), by simp [binOp, Op.stringOp], fun W ρ => by rw [← hl, bytesOf_beq]; exact .bool _⟩
  case geq => cases h; exact ⟨.bool (!(Op.bytesLess x.toList y.toList)), by simp [binOp, Op.stringOp], fun W ρ => by rw [← hl]; exact .bool _⟩

theorem run_isAgg_one (h : TysOk P V.T) {t : Nat} (h1 : (V.T.at t).d.isAgg = false) (h2 : (V.T.at t).sz = 1) (w : World) : (isAgg t).run P w = .ok false w := by
  obtain ⟨d, hd, g1, g2⟩ := (h t).one h1 h2
  simp only [isAgg, Sem.run_bind, run_underlying' hd, Result.andThen_ok]
  cases d <;> simp_all
theorem run_isAgg_many (h : TysOk P V.T) {t : Nat} (h1 : (V.T.at t).d.isAgg = true) (w : World) : (isAgg t).run P w = .ok true w := by
  cases hd : (V.T.at t).d <;> rw [hd] at h1 <;> simp [TyD.isAgg] at h1
  · simp [isAgg, run_underlying' ((h t).arr _ _ hd)]
  · obtain ⟨a, g, _⟩ := (h t).struct _ hd
    simp [isAgg, run_underlying' g]

theorem run_eqItems_all (h : TysOk P V.T) {e : Nat} {d : Nat} {xs ys : Array Value} {n : Nat} (f : Nat → Bool) (h1 : (V.T.at e).d.isAgg = false) (h2 : (V.T.at e).sz = 1) (hx : xs.size = n) (hy : ys.size = n)
    (hf : ∀ j, j < n → ∀ w, (Op.equalIn d e (xs.getD j Go.undef) (ys.getD j Go.undef)).run P w = .ok (f j) w) (w : World) :
    ∀ (is : List Nat), (∀ i ∈ is, i < n) → (Op.eqItems d e 1 xs ys is).run P w = .ok (is.all f) w
  | [], _ => by simp [Op.eqItems]
  | i :: is, hi => by
    have hin : i < n := hi i (by simp)
    have p1 : (part e xs (i * 1)).run P w = .ok (xs.getD i Go.undef) w := by
      have e1 : xs[i]? = some (xs.getD i Go.undef) := by rw [Array.getD_eq_getD_getElem?, Array.getElem?_eq_getElem (by omega)]; rfl
      simp only [part, Sem.run_bind, run_isAgg_one h h1 h2, Result.andThen_ok, Nat.mul_one, e1]; rfl
    have p2 : (part e ys (i * 1)).run P w = .ok (ys.getD i Go.undef) w := by
      have e1 : ys[i]? = some (ys.getD i Go.undef) := by rw [Array.getD_eq_getD_getElem?, Array.getElem?_eq_getElem (by omega)]; rfl
      simp only [part, Sem.run_bind, run_isAgg_one h h1 h2, Result.andThen_ok, Nat.mul_one, e1]; rfl
    simp only [Op.eqItems, Sem.run_bind, p1, p2, Result.andThen_ok, hf i hin]
    cases hfi : f i
    · simp [hfi]
    · simp only [Bool.not_true, Bool.false_eq_true, if_false, List.all_cons, hfi, Bool.true_and]
      exact run_eqItems_all h f h1 h2 hx hy hf w is fun j hj => hi j (by simp [hj])

theorem beq_all (xs ys : List Int) (n : Nat) (hx : xs.length = n) (hy : ys.length = n) : ((List.range n).all fun j => xs.getD j 0 == ys.getD j 0) = (xs == ys) := by
  rw [Bool.eq_iff_iff, List.all_eq_true, beq_iff_eq]
  constructor
  · intro h
    apply List.ext_getElem (by omega)
    intro i h1 h2
    have := h i (by simp; omega)
    simpa [List.getD_eq_getElem?_getD, h1, h2] using this
  · rintro rfl i _; simp
theorem beq_allB (xs ys : List Bool) (n : Nat) (hx : xs.length = n) (hy : ys.length = n) : ((List.range n).all fun j => xs.getD j false == ys.getD j false) = (xs == ys) := by
  rw [Bool.eq_iff_iff, List.all_eq_true, beq_iff_eq]
  constructor
  · intro h
    apply List.ext_getElem (by omega)
    intro i h1 h2
    have := h i (by simp; omega)
    simpa [List.getD_eq_getElem?_getD, h1, h2] using this
  · rintro rfl i _; simp

theorem eqGuard_agg (h : TysOk P V.T) {op : BinOp} {t n e : Nat} {x y : Operand} {xs ys : Array Value} (ht : (V.T.at t).d = .arr n e) (he : (∃ k, (V.T.at e).d = .int k) ∨ (V.T.at e).d = .bool) (w : World) :
    (eqGuard op t x y (.agg xs) (.agg ys)).run P w = .ok () w := by
  have hu := (h t).arr _ _ ht
  have hg : P.eqGuardType P.depth t = false := by
    unfold Program.depth
    rw [show 2 * (P.types.size + Made.depth) + 2 = (2 * (P.types.size + Made.depth)) + 1 + 1 from rfl]
    simp only [Program.eqGuardType, hu]
    rcases he with ⟨k, he⟩ | he
    · simp [(h e).int k he]
    · simp [(h e).bool he]
  cases op <;> simp [eqGuard, program, Sem.run, hg]

theorem equalIn_int (h : TysOk P V.T) {e : Nat} {l k : IntKind} (he : (V.T.at e).d = .int l) (d : Nat) (x y : Int) (w : World) : (Op.equalIn (d + 1) e (.int k x) (.int k y)).run P w = .ok (x == y) w := by
  simp [Op.equalIn, run_underlying' ((h e).int l he)]
theorem equalIn_bool (h : TysOk P V.T) {e : Nat} (he : (V.T.at e).d = .bool) (d : Nat) (x y : Bool) (w : World) : (Op.equalIn (d + 1) e (.bool x) (.bool y)).run P w = .ok (x == y) w := by
  simp [Op.equalIn, run_underlying' ((h e).bool he)]

theorem run_equal_agg (h : TysOk P V.T) {t n m : Nat} {x y : AV} {u v : Value} {W : Nat → Prop} {b : Bool} (hx : Rep w W ρ (.agg n x) u) (hy : Rep w W ρ (.agg m y) v) (hb : aeq V.T t n x m y = some b) :
    (Op.equal t u v).run P w = .ok b w ∧ ∀ op a b, (eqGuard op t a b u v).run P w = .ok () w := by
  cases hx with | agg _ _ cs hw1 hr1 hc1 h1 =>
  cases hy with | agg _ _ ds hw2 hr2 hc2 h2 =>
  unfold aeq at hb
  split at hb <;> try contradiction
  rename_i len e hd
  split at hb <;> try contradiction
  rename_i hl
  simp only [Bool.and_eq_true, Nat.beq_eq] at hl
  obtain ⟨rfl, rfl⟩ := hl
  have main : ∀ (f : Nat → Bool), ((∃ k, (V.T.at e).d = .int k) ∨ (V.T.at e).d = .bool) → (V.T.at e).sz = 1 →
      (∀ j, j < m → ∀ w, (Op.equalIn 9999 e (cs.getD j Go.undef) (ds.getD j Go.undef)).run P w = .ok (f j) w) → (Op.equal t (.agg cs) (.agg ds)).run P w = .ok ((List.range m).all f) w := by
    intro f he h0 hf
    obtain ⟨i, hi, his⟩ := (h e).size (by omega)
    have hagg : (V.T.at e).d.isAgg = false := by rcases he with ⟨k, he⟩ | he <;> rw [he] <;> rfl
    show (Op.equalIn (9999 + 1) t (.agg cs) (.agg ds)).run P w = _
    rw [run_equalIn_array w 9999 cs ds ((h t).arr _ _ hd) hi]
    have : P.cellsOf e = 1 := by simp [Program.cellsOf, hi, his, h0]
    rw [this]
    exact run_eqItems_all h f hagg h0 hc1 hc2 hf w _ (fun i hi => by simpa using hi)
  split at hb
  · rename_i k k1 xs k2 ys he
    split at hb <;> try contradiction
    rename_i hk
    rw [decide_eq_true_eq] at hk; subst hk
    injection hb with hb; subst hb
    simp only [AV.size] at hr1 hr2
    refine ⟨?_, fun op a b => eqGuard_agg h hd (.inl ⟨k, he⟩) w⟩
    rw [main (fun j => xs.getD j 0 == ys.getD j 0) (.inl ⟨k, he⟩) ((h e).int1 k he) ?_, beq_all xs ys m hr1 hr2]
    intro j hj w
    have g1 := h1 j hj
    have g2 := h2 j hj
    simp only [AV.cell] at g1 g2
    generalize cs.getD j Go.undef = cj at g1 ⊢
    generalize ds.getD j Go.undef = dj at g2 ⊢
    cases g1; cases g2
    exact equalIn_int h he 9998 _ _ w
  · rename_i xs ys he
    injection hb with hb; subst hb
    simp only [AV.size] at hr1 hr2
    refine ⟨?_, fun op a b => eqGuard_agg h hd (.inr he) w⟩
    rw [main (fun j => xs.getD j false == ys.getD j false) (.inr he) ((h e).bool1 he) ?_, beq_allB xs ys m hr1 hr2]
    intro j hj w
    have g1 := h1 j hj
    have g2 := h2 j hj
    simp only [AV.cell] at g1 g2
    generalize cs.getD j Go.undef = cj at g1 ⊢
    generalize ds.getD j Go.undef = dj at g2 ⊢
    cases g1; cases g2
    exact equalIn_bool h he 9998 _ _ w
  · contradiction
end Go.Am
