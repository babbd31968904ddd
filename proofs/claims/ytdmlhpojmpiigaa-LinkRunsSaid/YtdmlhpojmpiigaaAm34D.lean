/- Part of a proof about the functions of the given program. -/
import Derived.Test.YtdmlhpojmpiigaaAm34B
import Derived.Test.YtdmlhpojmpiigaaAm34C
import Derived.Test.YtdmlhpojmpiigaaAmWire4
set_option linter.unusedVariables false
set_option linter.unusedSimpArgs false
namespace Go.Am
open Go Go.Proofs
abbrev sp31 : List (Nat × Md) := [(0,.plain),(3,.own 33),(20,.plain),(21,.plain),(22,.plain)]
abbrev sp32 : List (Nat × Md) := [(0,.plain),(3,.plain),(20,.plain),(21,.plain),(22,.plain)]
abbrev Ty20 := Int × Int × (List (List Int)) × Int × Int × (List (List Int × List Int)) × Bool × Int × (List Int)
abbrev Ty21 := (List (List Int)) × Int × Int
abbrev Ty22 := Int × Int × (List (List Int)) × Int × Int × (List (List Int × List Int)) × Bool × Int
abbrev Ty23 := Int × Int × Int × Int × Bool × Int × (List (List Int)) × (List (List Int × List Int))
abbrev Ty24 := Int × Int × Int × Int × Bool × Int × (List (List Int)) × (List (List Int × List Int)) × (List (List Int))
abbrev Ty25 := Nat × Nat × Nat × Int × Int × Int × Int × Int × Int × Bool × Int × (List (List Int)) × (List (List Int × List Int))
abbrev Ty26 := Nat × Nat × Nat × Int × Int × Int × Int × Int × Int × Bool × Int × (List (List Int)) × (List (List Int × List Int)) × (List (List Int))

def lVG3448 : List CEnt := []
def VG3448 : Env := mkEnv T34 G34 lVG3448
theorem eVG3448 : EOk Try.prog VG3448 := eok_mk (by exact trivial)
def Af48 (F : Nat) : Cuts := { F := F,at_ := fun _ => none,join := fun _ => none }
def ef48_a : Int × Int × (List Int) → St := fun (a0,a1,a2) => { tmps := [(0,(.agg 3 (.segs (.cons 1 (.one (.int .i64 a0)) (.cons 1 (.one (.int .i64 a1)) (.cons 1 (.one (.vs (.rI .u8 a2) 0 1)) .nil))))))],heap := [],next := 0,nt := 28,m := 0 }
def f48_1 (F : Nat) : Int × Int × (List Int) → Rz := fun (a0,a1,a2) => (cond (decide (a0 ≥ (0 : Int))) (cond (decide (a1 ≥ (0 : Int))) (cond (decide ((↑a2.length : Int) ≤ (65536 : Int))) (cond (decide (a0 > (0 : Int))) (some ((.bool true),[])) (some ((.bool ((↑a2.length : Int) == (0 : Int))),[]))) (some ((.bool false),[]))) (some ((.bool false),[]))) (some ((.bool false),[])))
theorem f48_1_eq (F : Nat) : ∀ v,aexec VG3448 (Af48 F) (sub (bodyOf Try.f48) []) (ef48_a v) (kFin VG3448 none (Try.f48).results.toList) = f48_1 F v := by
  rintro ⟨a0,a1,a2⟩; kernel_rfl
def f48 (F : Nat) : Int × Int × (List Int) → Rz := f48_1 F
theorem f48_body (F : Nat) (a0 : Int) (a1 : Int) (a2 : List Int) : abody VG3448 (Af48 F) Try.f48 [(.agg 3 (.segs (.cons 1 (.one (.int .i64 a0)) (.cons 1 (.one (.int .i64 a1)) (.cons 1 (.one (.vs (.rI .u8 a2) 0 1)) .nil)))))] [] = f48 F (a0,a1,a2) :=
  (abody_in (c := (sub (bodyOf Try.f48) [])) (by kernel_rfl) (s := ef48_a (a0,a1,a2)) (by kernel_rfl)).trans (f48_1_eq F (a0,a1,a2))
def Af48o (F : Nat) : Cuts := { F := F,at_ := fun _ => none,join := fun _ => none }
def ef48o_a : Int × Int × (List Int) → St := fun (a0,a1,a2) => { tmps := [(0,(.agg 3 (.segs (.cons 1 (.one (.int .i64 a0)) (.cons 1 (.one (.int .i64 a1)) (.cons 1 (.one (.own 0 0 1)) .nil))))))],heap := [(0,(.cells a2.length (.rI .u8 a2) true))],next := 1,nt := 28,m := 1 }
def f48o_1 (F : Nat) : Int × Int × (List Int) → Rz := fun (a0,a1,a2) => (cond (decide (a0 ≥ (0 : Int))) (cond (decide (a1 ≥ (0 : Int))) (cond (decide ((↑a2.length : Int) ≤ (65536 : Int))) (cond (decide (a0 > (0 : Int))) (some ((.bool true),[(.cells a2.length (.rI .u8 a2) true)])) (some ((.bool ((↑a2.length : Int) == (0 : Int))),[(.cells a2.length (.rI .u8 a2) true)]))) (some ((.bool false),[(.cells a2.length (.rI .u8 a2) true)]))) (some ((.bool false),[(.cells a2.length (.rI .u8 a2) true)]))) (some ((.bool false),[(.cells a2.length (.rI .u8 a2) true)])))
theorem f48o_1_eq (F : Nat) : ∀ v,aexec VG3448 (Af48o F) (sub (bodyOf Try.f48) []) (ef48o_a v) (kFin VG3448 none (Try.f48).results.toList) = f48o_1 F v := by
  rintro ⟨a0,a1,a2⟩; kernel_rfl
def f48o (F : Nat) : Int × Int × (List Int) → Rz := f48o_1 F
theorem f48o_body (F : Nat) (a0 : Int) (a1 : Int) (a2 : List Int) : abody VG3448 (Af48o F) Try.f48 [(.agg 3 (.segs (.cons 1 (.one (.int .i64 a0)) (.cons 1 (.one (.int .i64 a1)) (.cons 1 (.one (.own 0 0 1)) .nil)))))] [(.cells a2.length (.rI .u8 a2) true)] = f48o F (a0,a1,a2) :=
  (abody_in (c := (sub (bodyOf Try.f48) [])) (by kernel_rfl) (s := ef48o_a (a0,a1,a2)) (by kernel_rfl)).trans (f48o_1_eq F (a0,a1,a2))
def r48 : CRun := fun X H => match X,H with
  | [(.agg 3 (.segs (.cons 1 (.one (.int .i64 a0)) (.cons 1 (.one (.int .i64 a1)) (.cons 1 (.one (.vs (.rI .u8 a2) 0 1)) .nil)))))],[] => some (true,(.bool (Lk.valid a0 a1 a2)),[])
  | [(.agg 3 (.segs (.cons 1 (.one (.int .i64 a0)) (.cons 1 (.one (.int .i64 a1)) (.cons 1 (.one (.own 0 0 1)) .nil)))))],[(.cells z0 (.rI .u8 a2) true)] => some (true,(.bool (Lk.valid a0 a1 a2)),[(.cells a2.length (.rI .u8 a2) true)])
  | _,_ => none
theorem s48 (a0 : Int) (a1 : Int) (a2 : List Int) (h0 : okV (.agg 3 (.segs (.cons 1 (.one (.int .i64 a0)) (.cons 1 (.one (.int .i64 a1)) (.cons 1 (.one (.vs (.rI .u8 a2) 0 1)) .nil)))))) : ∃ F,f48 F (a0,a1,a2) = some ((.bool (Lk.valid a0 a1 a2)),[]) := by
  refine ⟨0,?_⟩
  simp only [f48,f48_1,Lk.valid,int_beq]
  by_cases h1 : 0 ≤ a0
  · by_cases h2 : 0 ≤ a1
    · by_cases h3 : a2.length ≤ 65536
      · rw [cond_pos h1,cond_pos h2,cond_pos (by omega),decide_eq_true h1,decide_eq_true h2,decide_eq_true h3]
        by_cases h4 : 0 < a0
        · rw [cond_pos h4,decide_eq_true h4]; rfl
        · rw [cond_neg h4,decide_eq_false h4]
          simp
      · rw [cond_pos h1,cond_pos h2,cond_neg (by omega),decide_eq_false h3]; simp
    · rw [cond_pos h1,cond_neg h2,decide_eq_false h2]; simp
  · rw [cond_neg h1,decide_eq_false h1]; simp

theorem s48o (a0 : Int) (a1 : Int) (a2 : List Int) (h0 : okV (.agg 3 (.segs (.cons 1 (.one (.int .i64 a0)) (.cons 1 (.one (.int .i64 a1)) (.cons 1 (.one (.own 0 0 1)) .nil)))))) (k0 : okB (.cells a2.length (.rI .u8 a2) true)) : ∃ F,f48o F (a0,a1,a2) = some ((.bool (Lk.valid a0 a1 a2)),[(.cells a2.length (.rI .u8 a2) true)]) := by
  refine ⟨0,?_⟩
  simp only [f48o,f48o_1,Lk.valid,int_beq]
  by_cases h1 : 0 ≤ a0
  · by_cases h2 : 0 ≤ a1
    · by_cases h3 : a2.length ≤ 65536
      · rw [cond_pos h1,cond_pos h2,cond_pos (by omega),decide_eq_true h1,decide_eq_true h2,decide_eq_true h3]
        by_cases h4 : 0 < a0
        · rw [cond_pos h4,decide_eq_true h4]; rfl
        · rw [cond_neg h4,decide_eq_false h4]
          simp
      · rw [cond_pos h1,cond_pos h2,cond_neg (by omega),decide_eq_false h3]; simp
    · rw [cond_pos h1,cond_neg h2,decide_eq_false h2]; simp
  · rw [cond_neg h1,decide_eq_false h1]; simp

theorem c48 : CallOk Try.prog G34 48 r48 := callOk_of (V := VG3448) mixed tys eVG3448 (f := 48) (fn := Try.f48) Try.func48 (by kernel_rfl) (c := sub (bodyOf Try.f48) []) (by kernel_rfl) (by
  intro X H r H' h hX hH
  unfold r48 at h; split at h <;> try contradiction
  · simp only [Option.some.injEq,Prod.mk.injEq] at h
    obtain ⟨hp,rfl,rfl⟩ := h
    obtain ⟨F,hF⟩ := s48 _ _ _ (hX _ (.head _))
    exact ⟨Af48 F,(f48_body F _ _ _).trans hF⟩
  · simp only [Option.some.injEq,Prod.mk.injEq] at h
    obtain ⟨hp,rfl,rfl⟩ := h
    obtain rfl := okB_size (hH _ (.head _)) rfl
    obtain ⟨F,hF⟩ := s48o _ _ _ (hX _ (.head _)) (hH _ (.head _))
    exact ⟨Af48o F,(f48o_body F _ _ _).trans hF⟩)
def lVG3436 : List CEnt := [(46,[some 5],r46),(47,[some 5],r47),(48,[none],r48)]
def VG3436 : Env := mkEnv T34 G34 lVG3436
theorem eVG3436 : EOk Try.prog VG3436 := eok_mk (by exact ⟨c46,c47,c48,trivial⟩)
def Af36 (F : Nat) : Cuts := { F := F,at_ := fun _ => none,join := fun _ => none,fin := (some [(3,.plain),(2,(.fview 2 5))]) }
def ef36_a : (List Int) → St := fun a0 => { tmps := [(0,(.vs (.rI .u8 a0) 0 1))],heap := [],next := 0,nt := 55,m := 0 }
def f36_1 (F : Nat) : (List Int) → Rz := fun a0 => (cond (decide (a0.length < 1073741000)) (cond ((Wire.getInts a0).2.2 != (0 : Int)) (some ((.tup (.cons 0 (.agg 3 (.segs (.cons 1 (.one (.int .i64 (0 : Int))) (.cons 1 (.one (.int .i64 (0 : Int))) (.cons 1 (.one (.vs (.rI .u8 []) 0 1)) .nil))))) (.cons 0 (.bool false) .nil))),[])) (cond ((↑(Wire.getInts a0).1.length : Int) != (2 : Int)) (some ((.tup (.cons 0 (.agg 3 (.segs (.cons 1 (.one (.int .i64 (0 : Int))) (.cons 1 (.one (.int .i64 (0 : Int))) (.cons 1 (.one (.vs (.rI .u8 []) 0 1)) .nil))))) (.cons 0 (.bool false) .nil))),[])) (cond (((decide (0 ≤ (Wire.getInts a0).2.1)) && (decide ((Wire.getInts a0).2.1 ≤ (↑a0.length : Int)))) && (decide ((↑a0.length : Int) ≤ (↑a0.length : Int)))) (cond ((Wire.getBytes ((a0.drop (Int.toNat (Wire.getInts a0).2.1)).take (a0.length - (Int.toNat (Wire.getInts a0).2.1)))).2.2 != (0 : Int)) (some ((.tup (.cons 0 (.agg 3 (.segs (.cons 1 (.one (.int .i64 (0 : Int))) (.cons 1 (.one (.int .i64 (0 : Int))) (.cons 1 (.one (.vs (.rI .u8 []) 0 1)) .nil))))) (.cons 0 (.bool false) .nil))),[])) (cond ((IntKind.i64.wrap ((Wire.getInts a0).2.1 + (Wire.getBytes ((a0.drop (Int.toNat (Wire.getInts a0).2.1)).take (a0.length - (Int.toNat (Wire.getInts a0).2.1)))).2.1)) != (↑a0.length : Int)) (some ((.tup (.cons 0 (.agg 3 (.segs (.cons 1 (.one (.int .i64 (0 : Int))) (.cons 1 (.one (.int .i64 (0 : Int))) (.cons 1 (.one (.vs (.rI .u8 []) 0 1)) .nil))))) (.cons 0 (.bool false) .nil))),[])) (cond (decide ((0 : Int) < (↑(Wire.getInts a0).1.length : Int))) (cond (decide ((1 : Int) < (↑(Wire.getInts a0).1.length : Int))) (some ((.tup (.cons 0 (.agg 3 (.segs (.cons 1 (.one (.int .i64 ((Wire.getInts a0).1.getD 0 0))) (.cons 1 (.one (.int .i64 ((Wire.getInts a0).1.getD 1 0))) (.cons 1 (.one (.vs (.rI .u8 (Wire.getBytes ((a0.drop (Int.toNat (Wire.getInts a0).2.1)).take (a0.length - (Int.toNat (Wire.getInts a0).2.1)))).1) 0 1)) .nil))))) (.cons 0 (.bool (Lk.valid ((Wire.getInts a0).1.getD 0 0) ((Wire.getInts a0).1.getD 1 0) (Wire.getBytes ((a0.drop (Int.toNat (Wire.getInts a0).2.1)).take (a0.length - (Int.toNat (Wire.getInts a0).2.1)))).1)) .nil))),[])) none) none))) none))) none)
theorem f36_1_eq (F : Nat) : ∀ v,aexec VG3436 (Af36 F) (sub (bodyOf Try.f36) []) (ef36_a v) (kFin VG3436 (some [(3,.plain),(2,(.fview 2 5))]) (Try.f36).results.toList) = f36_1 F v := by
  intro a0; kernel_rfl
def f36 (F : Nat) : (List Int) → Rz := f36_1 F
theorem f36_body (F : Nat) (a0 : List Int) : abody VG3436 (Af36 F) Try.f36 [(.vs (.rI .u8 a0) 0 1)] [] = f36 F a0 :=
  (abody_in (c := (sub (bodyOf Try.f36) [])) (by kernel_rfl) (s := ef36_a a0) (by kernel_rfl)).trans (f36_1_eq F a0)
def r36 : CRun := fun X H => match X,H with
  | [(.vs (.rI .u8 a0) 0 1)],[] => some ((decide (a0.length < 1073741000)),(.tup (.cons 0 (.agg 3 (.segs (.cons 1 (.one (.int .i64 (Lk.rd a0).1)) (.cons 1 (.one (.int .i64 (Lk.rd a0).2.1)) (.cons 1 (.one (.vs (.rI .u8 (Lk.rd a0).2.2.1) 0 1)) .nil))))) (.cons 0 (.bool (Lk.rd a0).2.2.2) .nil))),[])
  | _,_ => none
theorem s36 (a0 : List Int) (hp : ((decide (a0.length < 1073741000))) = true) (h0 : okV (.vs (.rI .u8 a0) 0 1)) : ∃ F,f36 F a0 = some ((.tup (.cons 0 (.agg 3 (.segs (.cons 1 (.one (.int .i64 (Lk.rd a0).1)) (.cons 1 (.one (.int .i64 (Lk.rd a0).2.1)) (.cons 1 (.one (.vs (.rI .u8 (Lk.rd a0).2.2.1) 0 1)) .nil))))) (.cons 0 (.bool (Lk.rd a0).2.2.2) .nil))),[]) := by
  rw [decide_eq_true_eq] at hp
  have hb : Wire.okBytes a0 := Wire.okB_of h0.1
  refine ⟨0,?_⟩
  simp only [f36,f36_1,int_bne,dec_and,Wire.drop_all]
  rw [cond_pos hp]
  by_cases h1 : (Wire.getInts a0).2.2 = 0
  · rw [cond_neg (by simpa using h1)]
    by_cases h2 : (Wire.getInts a0).1.length = 2
    · obtain ⟨q1,q2,_⟩ := Wire.getInts_canon hb h1
      rw [cond_neg (by omega),cond_pos (by omega)]
      obtain ⟨w1,w2,_⟩ := Wire.getBytes_rng (Wire.okBytes_drop hb (Wire.getInts a0).2.1.toNat)
      rw [List.length_drop] at w2
      rw [i64w (by omega) (by omega)]
      by_cases h3 : (Wire.getBytes (a0.drop (Wire.getInts a0).2.1.toNat)).2.2 = 0
      · rw [cond_neg (by simpa using h3)]
        by_cases h4 : (Wire.getInts a0).2.1 + (Wire.getBytes (a0.drop (Wire.getInts a0).2.1.toNat)).2.1 = a0.length
        · rw [cond_neg (by simpa using h4),cond_pos (by omega),cond_pos (by omega)]
          have e : Lk.pread a0 = some ((Wire.getInts a0).1.getD 0 0,(Wire.getInts a0).1.getD 1 0,(Wire.getBytes (a0.drop (Wire.getInts a0).2.1.toNat)).1) := by
            unfold Lk.pread; rw [if_neg (by simp [h1,h2]),if_neg (by simp [h3,h4])]
          simp only [Lk.rd,e]
        · have e : Lk.pread a0 = none := by
            unfold Lk.pread; rw [if_neg (by simp [h1,h2]),if_pos (.inr h4)]
          rw [cond_pos h4]
          simp only [Lk.rd,e]
      · have e : Lk.pread a0 = none := by
          unfold Lk.pread; rw [if_neg (by simp [h1,h2]),if_pos (.inl h3)]
        rw [cond_pos h3]
        simp only [Lk.rd,e]
    · have e : Lk.pread a0 = none := by
        unfold Lk.pread; rw [if_pos (.inr h2)]
      rw [cond_pos (by omega)]
      simp only [Lk.rd,e]
  · have e : Lk.pread a0 = none := by
      unfold Lk.pread; rw [if_pos (.inl h1)]
    rw [cond_pos h1]
    simp only [Lk.rd,e]

theorem c36 : CallOk Try.prog G34 36 r36 := callOk_of (V := VG3436) mixed tys eVG3436 (f := 36) (fn := Try.f36) Try.func36 (by kernel_rfl) (c := sub (bodyOf Try.f36) []) (by kernel_rfl) (by
  intro X H r H' h hX hH
  unfold r36 at h; split at h <;> try contradiction
  · simp only [Option.some.injEq,Prod.mk.injEq] at h
    obtain ⟨hp,rfl,rfl⟩ := h
    obtain ⟨F,hF⟩ := s36 _ hp (hX _ (.head _))
    exact ⟨Af36 F,(f36_body F _).trans hF⟩)
def lVG3428 : List CEnt := []
def VG3428 : Env := mkEnv T34 G34 lVG3428
theorem eVG3428 : EOk Try.prog VG3428 := eok_mk (by exact trivial)
def Af28 (F : Nat) : Cuts := { F := F,at_ := fun _ => none,join := fun _ => none }
def ef28_a : Int × Int → St := fun (a0,a1) => { tmps := [(0,(.int .i64 a0)),(1,(.int .u64 a1))],heap := [],next := 0,nt := 17,m := 0 }
def f28_1 (F : Nat) : Int × Int → Rz := fun (a0,a1) => (cond (decide (a0 < (1 : Int))) (some ((.tup (.cons 0 .nilp (.cons 0 (.int .i64 (1 : Int)) .nil))),[])) (cond (decide (a0 > (16 : Int))) (some ((.tup (.cons 0 .nilp (.cons 0 (.int .i64 (1 : Int)) .nil))),[])) (some ((.tup (.cons 0 (.ptr 0 0 8 0 0 0 8) (.cons 0 (.int .i64 (0 : Int)) .nil))),[(.cells 8 (.segs (.cons 1 (.one (.int .i64 a0)) (.cons 1 (.one (.int .u64 a1)) (.cons 1 (.one (.own 1 0 1)) (.cons 1 (.one (.int .i64 (0 : Int))) (.cons 1 (.one (.int .i64 (0 : Int))) (.cons 1 (.one (.mp 2)) (.cons 1 (.one (.bool false)) (.cons 1 (.one (.int .i64 (0 : Int))) .nil))))))))) true),(.cells 0 (.rL .u8 []) true),(.cells 0 (.rM .i64 0 (.sl .u8) []) true)]))))
theorem f28_1_eq (F : Nat) : ∀ v,aexec VG3428 (Af28 F) (sub (bodyOf Try.f28) []) (ef28_a v) (kFin VG3428 none (Try.f28).results.toList) = f28_1 F v := by
  rintro ⟨a0,a1⟩; kernel_rfl
def f28 (F : Nat) : Int × Int → Rz := f28_1 F
theorem f28_body (F : Nat) (a0 : Int) (a1 : Int) : abody VG3428 (Af28 F) Try.f28 [(.int .i64 a0),(.int .u64 a1)] [] = f28 F (a0,a1) :=
  (abody_in (c := (sub (bodyOf Try.f28) [])) (by kernel_rfl) (s := ef28_a (a0,a1)) (by kernel_rfl)).trans (f28_1_eq F (a0,a1))
def r28 : CRun := fun X H => match X,H with
  | [(.int .i64 a0),(.int .u64 a1)],[] => some (((decide (0 < a0)) && (decide (a0 < 17))),(.tup (.cons 0 (.ptr 0 0 8 0 0 0 8) (.cons 0 (.int .i64 0) .nil))),[(Lk.bE (Lk.E.mk a0 a1 [] 0 0 [] false 0) 1 2),(.cells (Lk.E.mk a0 a1 [] 0 0 [] false 0).wait.length (.rL .u8 (Lk.E.mk a0 a1 [] 0 0 [] false 0).wait) true),(.cells 0 (.rM .i64 0 (.sl .u8) (Lk.E.mk a0 a1 [] 0 0 [] false 0).held) true)])
  | _,_ => none
theorem s28 (a0 : Int) (a1 : Int) (hp : (((decide (0 < a0)) && (decide (a0 < 17)))) = true) (h0 : okV (.int .i64 a0)) (h1 : okV (.int .u64 a1)) : ∃ F,f28 F (a0,a1) = some ((.tup (.cons 0 (.ptr 0 0 8 0 0 0 8) (.cons 0 (.int .i64 0) .nil))),[(Lk.bE (Lk.E.mk a0 a1 [] 0 0 [] false 0) 1 2),(.cells (Lk.E.mk a0 a1 [] 0 0 [] false 0).wait.length (.rL .u8 (Lk.E.mk a0 a1 [] 0 0 [] false 0).wait) true),(.cells 0 (.rM .i64 0 (.sl .u8) (Lk.E.mk a0 a1 [] 0 0 [] false 0).held) true)]) := by
  rw [dec_and,decide_eq_true_eq] at hp
  refine ⟨0,?_⟩
  simp only [f28,f28_1]
  rw [cond_neg (by omega),cond_neg (by omega)]
  rfl

theorem c28 : CallOk Try.prog G34 28 r28 := callOk_of (V := VG3428) mixed tys eVG3428 (f := 28) (fn := Try.f28) Try.func28 (by kernel_rfl) (c := sub (bodyOf Try.f28) []) (by kernel_rfl) (by
  intro X H r H' h hX hH
  unfold r28 at h; split at h <;> try contradiction
  · simp only [Option.some.injEq,Prod.mk.injEq] at h
    obtain ⟨hp,rfl,rfl⟩ := h
    obtain ⟨F,hF⟩ := s28 _ _ hp (hX _ (.head _)) (hX _ (.tail _ (.head _)))
    exact ⟨Af28 F,(f28_body F _ _).trans hF⟩)
def lVG3411 : List CEnt := [(32,[some 5],r32)]
def VG3411 : Env := mkEnv T34 G34 lVG3411
theorem eVG3411 : EOk Try.prog VG3411 := eok_mk (by exact ⟨c32,trivial⟩)
def Af11 (F : Nat) : Cuts := { F := F,at_ := fun _ => none,join := fun _ => none,fin := (some [(4,.plain),(0,(.touch 2))]) }
def ef11_a : Ty20 → St := fun (a0w,a0k,a0l,a0a,a0d,a0h,a0o,a0f,a1) => { tmps := [(0,(.ptr 0 0 8 0 0 0 8)),(1,(.vs (.rI .u8 a1) 0 1))],heap := [(0,(.cells 8 (.segs (.cons 1 (.one (.int .i64 a0w)) (.cons 1 (.one (.int .u64 a0k)) (.cons 1 (.one (.own 1 0 1)) (.cons 1 (.one (.int .i64 a0a)) (.cons 1 (.one (.int .i64 a0d)) (.cons 1 (.one (.mp 2)) (.cons 1 (.one (.bool a0o)) (.cons 1 (.one (.int .i64 a0f)) .nil))))))))) true)),(1,(.cells a0l.length (.rL .u8 a0l) true)),(2,(.cells 0 (.rM .i64 0 (.sl .u8) a0h) true))],next := 3,nt := 27,m := 3 }
def f11_1 (F : Nat) : Ty20 → Rz := fun (a0w,a0k,a0l,a0a,a0d,a0h,a0o,a0f,a1) => (cond (decide ((↑a1.length : Int) > (65536 : Int))) (some ((.int .i64 (4 : Int)),[(.cells 8 (.segs (.cons 1 (.one (.int .i64 a0w)) (.cons 1 (.one (.int .u64 a0k)) (.cons 1 (.one (.own 3 0 1)) (.cons 1 (.one (.int .i64 a0a)) (.cons 1 (.one (.int .i64 a0d)) (.cons 1 (.one (.mp 2)) (.cons 1 (.one (.bool a0o)) (.cons 1 (.one (.int .i64 a0f)) .nil))))))))) true),.gone,(.cells 0 (.rM .i64 0 (.sl .u8) a0h) true),(.cells a0l.length (.rL .u8 a0l) true)])) (cond (decide ((↑a0l.length : Int) ≥ (1000 : Int))) (some ((.int .i64 (4 : Int)),[(.cells 8 (.segs (.cons 1 (.one (.int .i64 a0w)) (.cons 1 (.one (.int .u64 a0k)) (.cons 1 (.one (.own 3 0 1)) (.cons 1 (.one (.int .i64 a0a)) (.cons 1 (.one (.int .i64 a0d)) (.cons 1 (.one (.mp 2)) (.cons 1 (.one (.bool a0o)) (.cons 1 (.one (.int .i64 a0f)) .nil))))))))) true),.gone,(.cells 0 (.rM .i64 0 (.sl .u8) a0h) true),(.cells a0l.length (.rL .u8 a0l) true)])) (cond (decide (a1.length < 1073741000)) (cond (decide ((a0l.length + 1) < 1073741824)) (some ((.int .i64 (0 : Int)),[(.cells 8 (.segs (.cons 1 (.one (.int .i64 a0w)) (.cons 1 (.one (.int .u64 a0k)) (.cons 1 (.one (.own 3 0 1)) (.cons 1 (.one (.int .i64 a0a)) (.cons 1 (.one (.int .i64 a0d)) (.cons 1 (.one (.mp 2)) (.cons 1 (.one (.bool a0o)) (.cons 1 (.one (.int .i64 a0f)) .nil))))))))) true),.gone,(.cells 0 (.rM .i64 0 (.sl .u8) a0h) true),(.cells (a0l ++ [a1]).length (.rL .u8 (a0l ++ [a1])) true)])) none) none)))
theorem f11_1_eq (F : Nat) : ∀ v,aexec VG3411 (Af11 F) (sub (bodyOf Try.f11) []) (ef11_a v) (kFin VG3411 (some [(4,.plain),(0,(.touch 2))]) (Try.f11).results.toList) = f11_1 F v := by
  rintro ⟨a0w,a0k,a0l,a0a,a0d,a0h,a0o,a0f,a1⟩; kernel_rfl
def f11 (F : Nat) : Ty20 → Rz := f11_1 F
theorem f11_body (F : Nat) (a0w : Int) (a0k : Int) (a0l : List (List Int)) (a0a : Int) (a0d : Int) (a0h : List (List Int × List Int)) (a0o : Bool) (a0f : Int) (a1 : List Int) : abody VG3411 (Af11 F) Try.f11 [(.ptr 0 0 8 0 0 0 8),(.vs (.rI .u8 a1) 0 1)] [(.cells 8 (.segs (.cons 1 (.one (.int .i64 a0w)) (.cons 1 (.one (.int .u64 a0k)) (.cons 1 (.one (.own 1 0 1)) (.cons 1 (.one (.int .i64 a0a)) (.cons 1 (.one (.int .i64 a0d)) (.cons 1 (.one (.mp 2)) (.cons 1 (.one (.bool a0o)) (.cons 1 (.one (.int .i64 a0f)) .nil))))))))) true),(.cells a0l.length (.rL .u8 a0l) true),(.cells 0 (.rM .i64 0 (.sl .u8) a0h) true)] = f11 F (a0w,a0k,a0l,a0a,a0d,a0h,a0o,a0f,a1) :=
  (abody_in (c := (sub (bodyOf Try.f11) [])) (by kernel_rfl) (s := ef11_a (a0w,a0k,a0l,a0a,a0d,a0h,a0o,a0f,a1)) (by kernel_rfl)).trans (f11_1_eq F (a0w,a0k,a0l,a0a,a0d,a0h,a0o,a0f,a1))
def r11 : CRun := fun X H => match X,H with
  | [(.ptr 0 0 8 0 0 0 8),(.vs (.rI .u8 a1) 0 1)],[(.cells 8 (.segs (.cons 1 (.one (.int .i64 a0w)) (.cons 1 (.one (.int .u64 a0k)) (.cons 1 (.one (.own 1 0 1)) (.cons 1 (.one (.int .i64 a0a)) (.cons 1 (.one (.int .i64 a0d)) (.cons 1 (.one (.mp 2)) (.cons 1 (.one (.bool a0o)) (.cons 1 (.one (.int .i64 a0f)) .nil))))))))) true),(.cells z1 (.rL .u8 a0l) true),(.cells 0 (.rM .i64 0 (.sl .u8) a0h) true)] => some ((Lk.room (Lk.E.mk a0w a0k a0l a0a a0d a0h a0o a0f)) && (decide (a1.length < 1073741000)),(.int .i64 (Lk.send (Lk.E.mk a0w a0k a0l a0a a0d a0h a0o a0f) a1).2),[(Lk.bE ((Lk.send (Lk.E.mk a0w a0k a0l a0a a0d a0h a0o a0f) a1).1) 3 2),.gone,(.cells 0 (.rM .i64 0 (.sl .u8) (Lk.send (Lk.E.mk a0w a0k a0l a0a a0d a0h a0o a0f) a1).1.held) true),(.cells (Lk.send (Lk.E.mk a0w a0k a0l a0a a0d a0h a0o a0f) a1).1.wait.length (.rL .u8 (Lk.send (Lk.E.mk a0w a0k a0l a0a a0d a0h a0o a0f) a1).1.wait) true)])
  | _,_ => none
theorem s11 (a0w : Int) (a0k : Int) (a0l : List (List Int)) (a0a : Int) (a0d : Int) (a0h : List (List Int × List Int)) (a0o : Bool) (a0f : Int) (a1 : List Int) (hp : ((Lk.room (Lk.E.mk a0w a0k a0l a0a a0d a0h a0o a0f)) && (decide (a1.length < 1073741000))) = true) (h1 : okV (.vs (.rI .u8 a1) 0 1)) (k0 : okB (.cells 8 (.segs (.cons 1 (.one (.int .i64 a0w)) (.cons 1 (.one (.int .u64 a0k)) (.cons 1 (.one (.own 1 0 1)) (.cons 1 (.one (.int .i64 a0a)) (.cons 1 (.one (.int .i64 a0d)) (.cons 1 (.one (.mp 2)) (.cons 1 (.one (.bool a0o)) (.cons 1 (.one (.int .i64 a0f)) .nil))))))))) true)) (k1 : okB (.cells a0l.length (.rL .u8 a0l) true)) (k2 : okB (.cells 0 (.rM .i64 0 (.sl .u8) a0h) true)) : ∃ F,f11 F (a0w,a0k,a0l,a0a,a0d,a0h,a0o,a0f,a1) = some ((.int .i64 (Lk.send (Lk.E.mk a0w a0k a0l a0a a0d a0h a0o a0f) a1).2),[(Lk.bE ((Lk.send (Lk.E.mk a0w a0k a0l a0a a0d a0h a0o a0f) a1).1) 3 2),.gone,(.cells 0 (.rM .i64 0 (.sl .u8) (Lk.send (Lk.E.mk a0w a0k a0l a0a a0d a0h a0o a0f) a1).1.held) true),(.cells (Lk.send (Lk.E.mk a0w a0k a0l a0a a0d a0h a0o a0f) a1).1.wait.length (.rL .u8 (Lk.send (Lk.E.mk a0w a0k a0l a0a a0d a0h a0o a0f) a1).1.wait) true)]) := by
  rw [Bool.and_eq_true,decide_eq_true_eq] at hp
  obtain ⟨q1,q2,q3,q4,q5,q6,q7⟩ := Lk.fineN_iff.1 hp.1
  simp only at q5
  refine ⟨0,?_⟩
  simp only [f11,f11_1,Lk.send]
  by_cases h1 : 65536 < a1.length
  · rw [cond_pos (by omega),if_pos (.inl h1)]
  · by_cases h2 : 1000 ≤ a0l.length
    · rw [cond_neg (by omega),cond_pos (by omega),if_pos (.inr h2)]
    · rw [cond_neg (by omega),cond_neg (by omega),cond_pos (by omega),cond_pos (by omega),if_neg (by omega)]

theorem c11 : CallOk Try.prog G34 11 r11 := callOk_of (V := VG3411) mixed tys eVG3411 (f := 11) (fn := Try.f11) Try.func11 (by kernel_rfl) (c := sub (bodyOf Try.f11) []) (by kernel_rfl) (by
  intro X H r H' h hX hH
  unfold r11 at h; split at h <;> try contradiction
  · simp only [Option.some.injEq,Prod.mk.injEq] at h
    obtain ⟨hp,rfl,rfl⟩ := h
    obtain rfl := okB_size (hH _ (.tail _ (.head _))) rfl
    obtain ⟨F,hF⟩ := s11 _ _ _ _ _ _ _ _ _ hp (hX _ (.tail _ (.head _))) (hH _ (.head _)) (hH _ (.tail _ (.head _))) (hH _ (.tail _ (.tail _ (.head _))))
    exact ⟨Af11 F,(f11_body F _ _ _ _ _ _ _ _ _).trans hF⟩)
def lVG3437 : List CEnt := []
def VG3437 : Env := mkEnv T34 G34 lVG3437
theorem eVG3437 : EOk Try.prog VG3437 := eok_mk (by exact trivial)
def Af37 (F : Nat) : Cuts := { F := F,at_ := fun _ => none,join := fun _ => none,fin := (some [(6,(.own 33))]) }
def ef37_a : Ty21 → St := fun (a0,a1,a2) => { tmps := [(0,(.own 0 0 1)),(1,(.int .i64 a1)),(2,(.int .i64 a2))],heap := [(0,(.cells a0.length (.rL .u8 a0) true))],next := 1,nt := 33,m := 1 }
def f37_1 (F : Nat) : Ty21 → Rz := fun (a0,a1,a2) => (cond (((decide (0 ≤ a1)) && (decide (a1 ≤ a2))) && ((decide (a2 ≤ (↑a0.length : Int))) && (decide ((↑a0.length : Int) ≤ (↑a0.length : Int))))) (cond (a1 == a2) (some ((.own 0 0 1),[(.cells a0.length (.rL .u8 a0) true)])) (cond ((decide ((0 : Int) ≤ a1)) && (decide (a1 ≤ (↑a0.length : Int)))) (cond (((decide (0 ≤ a2)) && (decide (a2 ≤ (↑a0.length : Int)))) && (decide ((↑a0.length : Int) ≤ (↑a0.length : Int)))) (cond ((decide (((0 + (Int.toNat a1)) + (a0.length - (Int.toNat a2))) ≤ a0.length)) && (decide (((Int.toNat a1) + (a0.length - (Int.toNat a2))) < 1073741824))) (cond (((decide (0 ≤ (↑((Int.toNat a1) + (a0.length - (Int.toNat a2))) : Int))) && (decide ((↑((Int.toNat a1) + (a0.length - (Int.toNat a2))) : Int) ≤ (↑a0.length : Int)))) && ((decide ((↑a0.length : Int) ≤ (↑((Int.toNat a1) + (a0.length - (Int.toNat a2))) : Int))) || ((decide ((↑a0.length : Int) ≤ (↑a0.length : Int))) && (decide ((↑a0.length : Int) < 1073741824))))) (some ((.own 1 0 1),[.gone,(.cells ((Int.toNat a1) + (a0.length - (Int.toNat a2))) (.rL .u8 (((a0.take (0 + (Int.toNat a1)) ++ (((a0.drop (Int.toNat a2)).take (a0.length - (Int.toNat a2))).take (min (a0.length - (Int.toNat a2)) (a0.length - (Int.toNat a2)))) ++ a0.drop ((0 + (Int.toNat a1)) + (min (a0.length - (Int.toNat a2)) (a0.length - (Int.toNat a2))))).take (Int.toNat (↑((Int.toNat a1) + (a0.length - (Int.toNat a2))) : Int)) ++ ((List.replicate ((Int.toNat (↑a0.length : Int)) - (Int.toNat (↑((Int.toNat a1) + (a0.length - (Int.toNat a2))) : Int))) []).take (min ((Int.toNat (↑a0.length : Int)) - (Int.toNat (↑((Int.toNat a1) + (a0.length - (Int.toNat a2))) : Int))) ((Int.toNat (↑a0.length : Int)) - (Int.toNat (↑((Int.toNat a1) + (a0.length - (Int.toNat a2))) : Int))))) ++ (a0.take (0 + (Int.toNat a1)) ++ (((a0.drop (Int.toNat a2)).take (a0.length - (Int.toNat a2))).take (min (a0.length - (Int.toNat a2)) (a0.length - (Int.toNat a2)))) ++ a0.drop ((0 + (Int.toNat a1)) + (min (a0.length - (Int.toNat a2)) (a0.length - (Int.toNat a2))))).drop ((Int.toNat (↑((Int.toNat a1) + (a0.length - (Int.toNat a2))) : Int)) + (min ((Int.toNat (↑a0.length : Int)) - (Int.toNat (↑((Int.toNat a1) + (a0.length - (Int.toNat a2))) : Int))) ((Int.toNat (↑a0.length : Int)) - (Int.toNat (↑((Int.toNat a1) + (a0.length - (Int.toNat a2))) : Int)))))).take ((Int.toNat a1) + (a0.length - (Int.toNat a2))))) true)])) none) none) none) none)) none)
theorem f37_1_eq (F : Nat) : ∀ v,aexec VG3437 (Af37 F) (sub (bodyOf Try.f37) []) (ef37_a v) (kFin VG3437 (some [(6,(.own 33))]) (Try.f37).results.toList) = f37_1 F v := by
  rintro ⟨a0,a1,a2⟩; kernel_rfl
def f37 (F : Nat) : Ty21 → Rz := f37_1 F
theorem f37_body (F : Nat) (a0 : List (List Int)) (a1 : Int) (a2 : Int) : abody VG3437 (Af37 F) Try.f37 [(.own 0 0 1),(.int .i64 a1),(.int .i64 a2)] [(.cells a0.length (.rL .u8 a0) true)] = f37 F (a0,a1,a2) :=
  (abody_in (c := (sub (bodyOf Try.f37) [])) (by kernel_rfl) (s := ef37_a (a0,a1,a2)) (by kernel_rfl)).trans (f37_1_eq F (a0,a1,a2))
def r37 : CRun := fun X H => match X,H with
  | [(.own 0 0 1),(.int .i64 a1),(.int .i64 a2)],[(.cells z0 (.rL .u8 a0) true)] => some ((((decide (a1 = 0)) && (decide (0 < a2))) && (decide (a2 ≤ (a0.length : Int))) && (decide (a0.length < 1073741000))),(.own 1 0 1),[.gone,(.cells (a0.drop (Int.toNat a2)).length (.rL .u8 (a0.drop (Int.toNat a2))) true)])
  | _,_ => none
theorem s37 (a0 : List (List Int)) (a1 : Int) (a2 : Int) (hp : ((((decide (a1 = 0)) && (decide (0 < a2))) && (decide (a2 ≤ (a0.length : Int))) && (decide (a0.length < 1073741000)))) = true) (h1 : okV (.int .i64 a1)) (h2 : okV (.int .i64 a2)) (k0 : okB (.cells a0.length (.rL .u8 a0) true)) : ∃ F,f37 F (a0,a1,a2) = some ((.own 1 0 1),[.gone,(.cells (a0.drop (Int.toNat a2)).length (.rL .u8 (a0.drop (Int.toNat a2))) true)]) := by
  simp only [dec_and,Bool.and_eq_true,decide_eq_true_eq] at hp
  obtain ⟨⟨⟨rfl,g1⟩,g2⟩,g3⟩ := hp
  have hz : Int.toNat 0 = 0 := rfl
  have g2' : Int.toNat a2 ≤ a0.length := by omega
  refine ⟨0,?_⟩
  simp only [f37,f37_1,dec_and,dec_or,int_beq,hz,Nat.zero_add,Nat.add_zero,Int.toNat_natCast,List.take_zero,List.nil_append,Nat.min_self]
  have hq : ∀ (p : Prop) [Decidable p] (x y : Rz),p → cond (decide p) x y = x := fun p _ x y h => by simp [h]
  rw [cond_pos (by omega),cond_neg (by omega),cond_pos (by omega),cond_pos (by omega),cond_pos (by first | omega | exact ⟨Nat.sub_le _ _,by omega⟩ | (constructor <;> omega) | (simp; omega)),cond_pos (by first | omega | (simp; omega))]
  have e1 : (a0.drop (Int.toNat a2)).take (a0.length - Int.toNat a2) = a0.drop (Int.toNat a2) := List.take_of_length_le (by rw [List.length_drop]; exact Nat.le_refl _)
  rw [e1,e1]
  have e2 : (a0.drop (Int.toNat a2)).length = a0.length - Int.toNat a2 := List.length_drop
  rw [e2]
  congr 4
  rw [List.append_assoc,List.take_append_of_le_length (by rw [List.length_take,List.length_append,List.length_drop,List.length_drop]; omega),List.take_take,Nat.min_self,List.take_append_of_le_length (by omega),List.take_of_length_le (by omega)]

theorem c37 : CallOk Try.prog G34 37 r37 := callOk_of (V := VG3437) mixed tys eVG3437 (f := 37) (fn := Try.f37) Try.func37 (by kernel_rfl) (c := sub (bodyOf Try.f37) []) (by kernel_rfl) (by
  intro X H r H' h hX hH
  unfold r37 at h; split at h <;> try contradiction
  · simp only [Option.some.injEq,Prod.mk.injEq] at h
    obtain ⟨hp,rfl,rfl⟩ := h
    obtain rfl := okB_size (hH _ (.head _)) rfl
    obtain ⟨F,hF⟩ := s37 _ _ _ hp (hX _ (.tail _ (.head _))) (hX _ (.tail _ (.tail _ (.head _)))) (hH _ (.head _))
    exact ⟨Af37 F,(f37_body F _ _ _).trans hF⟩)
def lVG3438 : List CEnt := []
def VG3438 : Env := mkEnv T34 G34 lVG3438
theorem eVG3438 : EOk Try.prog VG3438 := eok_mk (by exact trivial)
def Af38 (F : Nat) : Cuts := { F := F,at_ := fun n => match n with | 2016 => some [(0,.plain),(3,.own 33)] | _ => none,join := fun n => match n with | 1020 => some [(0,.plain)] | 2018 => some [(0,.plain),(3,.plain)] | _ => none,fin := (some [(2,(.own 33))]) }
def ef38_a : Ty22 → St := fun (a0w,a0k,a0l,a0a,a0d,a0h,a0o,a0f) => { tmps := [(0,(.ptr 0 0 8 0 0 0 8))],heap := [(0,(.cells 8 (.segs (.cons 1 (.one (.int .i64 a0w)) (.cons 1 (.one (.int .u64 a0k)) (.cons 1 (.one (.own 1 0 1)) (.cons 1 (.one (.int .i64 a0a)) (.cons 1 (.one (.int .i64 a0d)) (.cons 1 (.one (.mp 2)) (.cons 1 (.one (.bool a0o)) (.cons 1 (.one (.int .i64 a0f)) .nil))))))))) true)),(1,(.cells a0l.length (.rL .u8 a0l) true)),(2,(.cells 0 (.rM .i64 0 (.sl .u8) a0h) true))],next := 3,nt := 41,m := 3 }
def ef38j1 : Ty23 → St := fun (x1,x2,x3,x4,x5,x6,x7,x8) => { tmps := [(0,(.ptr 0 0 8 0 0 0 8))],heap := [(0,(.cells 8 (.segs (.cons 1 (.one (.int .i64 x1)) (.cons 1 (.one (.int .u64 x2)) (.cons 1 (.one (.own 1 0 1)) (.cons 1 (.one (.int .i64 x3)) (.cons 1 (.one (.int .i64 x4)) (.cons 1 (.one (.mp 2)) (.cons 1 (.one (.bool x5)) (.cons 1 (.one (.int .i64 x6)) .nil))))))))) true)),(1,(.cells x7.length (.rL .u8 x7) true)),(2,(.cells 0 (.rM .i64 0 (.sl .u8) x8) true))],next := 3,nt := 41,m := 3 }
def ef38j2 : Ty23 → St := fun (x1,x2,x3,x4,x5,x6,x7,x8) => { tmps := [(0,(.ptr 0 0 8 0 0 0 8)),(3,.ns)],heap := [(0,(.cells 8 (.segs (.cons 1 (.one (.int .i64 x1)) (.cons 1 (.one (.int .u64 x2)) (.cons 1 (.one (.own 1 0 1)) (.cons 1 (.one (.int .i64 x3)) (.cons 1 (.one (.int .i64 x4)) (.cons 1 (.one (.mp 2)) (.cons 1 (.one (.bool x5)) (.cons 1 (.one (.int .i64 x6)) .nil))))))))) true)),(1,(.cells x7.length (.rL .u8 x7) true)),(2,(.cells 0 (.rM .i64 0 (.sl .u8) x8) true))],next := 3,nt := 41,m := 3 }
def ef38l1 : Ty24 → St := fun (x1,x2,x3,x4,x5,x6,x7,x8,x9) => { tmps := [(0,(.ptr 0 0 8 0 0 0 8)),(3,(.own 3 0 1))],heap := [(0,(.cells 8 (.segs (.cons 1 (.one (.int .i64 x1)) (.cons 1 (.one (.int .u64 x2)) (.cons 1 (.one (.own 1 0 1)) (.cons 1 (.one (.int .i64 x3)) (.cons 1 (.one (.int .i64 x4)) (.cons 1 (.one (.mp 2)) (.cons 1 (.one (.bool x5)) (.cons 1 (.one (.int .i64 x6)) .nil))))))))) true)),(1,(.cells x7.length (.rL .u8 x7) true)),(2,(.cells 0 (.rM .i64 0 (.sl .u8) x8) true)),(3,(.cells x9.length (.rL .u8 x9) true))],next := 4,nt := 41,m := 3 }
def f38_1 (F : Nat) (kf38j1 : Ty23 → Rz) : Ty22 → Rz := fun (a0w,a0k,a0l,a0a,a0d,a0h,a0o,a0f) => (kf38j1 (a0w,a0k,a0a,a0d,a0o,a0f,a0l,a0h))
theorem f38_1_eq (F : Nat) (Rf38j1 : St → Rz) : ∀ v,aexec VG3438 (Af38 F) (bp Try.f38 2) (ef38_a v) (kSeq (kc VG3438 Rf38j1 [(0,.plain)]) (kFin VG3438 (some [(2,(.own 33))]) (Try.f38).results.toList)) = f38_1 F (Rf38j1 ∘ ef38j1) v := by
  rintro ⟨a0w,a0k,a0l,a0a,a0d,a0h,a0o,a0f⟩; kernel_rfl
def f38_2 (F : Nat) (kf38j2 : Ty23 → Rz) : Ty23 → Rz := fun (x1,x2,x3,x4,x5,x6,x7,x8) => (kf38j2 (x1,x2,x3,x4,x5,x6,x7,x8))
theorem f38_2_eq (F : Nat) (Rf38j2 : St → Rz) : ∀ v,aexec VG3438 (Af38 F) (bp Try.f38 6) (ef38j1 v) (kSeq (kc VG3438 Rf38j2 [(0,.plain),(3,.plain)]) (kFin VG3438 (some [(2,(.own 33))]) (Try.f38).results.toList)) = f38_2 F (Rf38j2 ∘ ef38j2) v := by
  rintro ⟨x1,x2,x3,x4,x5,x6,x7,x8⟩; kernel_rfl
def f38_3 (F : Nat) (kf38l1 : Ty24 → Rz) : Ty24 → Rz := fun (x1,x2,x3,x4,x5,x6,x7,x8,x9) => (cond (!(mhas x8 [(IntKind.i64.wrap (x4 + (1 : Int)))])) (some ((.own 3 0 1),[(.cells 8 (.segs (.cons 1 (.one (.int .i64 x1)) (.cons 1 (.one (.int .u64 x2)) (.cons 1 (.one (.own 1 0 1)) (.cons 1 (.one (.int .i64 x3)) (.cons 1 (.one (.int .i64 x4)) (.cons 1 (.one (.mp 2)) (.cons 1 (.one (.bool x5)) (.cons 1 (.one (.int .i64 x6)) .nil))))))))) true),(.cells x7.length (.rL .u8 x7) true),(.cells 0 (.rM .i64 0 (.sl .u8) x8) true),(.cells x9.length (.rL .u8 x9) true)])) (cond (decide ((x9.length + 1) < 1073741824)) (kf38l1 (x1,x2,x3,(IntKind.i64.wrap (x4 + (1 : Int))),x5,x6,x7,(mdel x8 [(IntKind.i64.wrap (x4 + (1 : Int)))]),(x9 ++ [(mget (mzero (.sl .u8)) x8 [(IntKind.i64.wrap (x4 + (1 : Int)))])]))) none))
theorem f38_3_eq (F : Nat) (Rf38l1 : St → Rz) : ∀ v,aexec VG3438 (Af38 F) (bp Try.f38 28) (ef38l1 v) (kSeq (kc VG3438 Rf38l1 [(0,.plain),(3,.own 33)]) (kBlock 0 (kFin VG3438 (some [(2,(.own 33))]) (Try.f38).results.toList))) = f38_3 F (Rf38l1 ∘ ef38l1) v := by
  rintro ⟨x1,x2,x3,x4,x5,x6,x7,x8,x9⟩; kernel_rfl
def f38_4_i : Ty23 → Int × Int × Int × Int × Bool × Int × (List (List Int)) × (List (List Int × List Int)) × (List (List Int)) := fun (x1,x2,x3,x4,x5,x6,x7,x8) => (x1,x2,x3,x4,x5,x6,x7,x8,[])
def f38_4 (F : Nat) : Ty23 → Rz := fun v => loopN (fun k => f38_3 F k) F (f38_4_i v)
theorem f38_4_eq (F : Nat) : ∀ v,aexec VG3438 (Af38 F) (bp Try.f38 14) (ef38j2 v) (kBlock 0 (kFin VG3438 (some [(2,(.own 33))]) (Try.f38).results.toList)) = f38_4 F v :=
  loop_cut (by kernel_rfl) (by kernel_rfl) ef38j2 ef38l1 _ f38_4_i (fun k => f38_3 F k)
    (by rintro ⟨x1,x2,x3,x4,x5,x6,x7,x8⟩; kernel_rfl) (fun Rf38l1 => f38_3_eq F Rf38l1)
def f38_5 (F : Nat) : Ty23 → Rz := f38_4 F
theorem f38_5_eq (F : Nat) : ∀ v,aexec VG3438 (Af38 F) (bp Try.f38 7) (ef38j2 v) (kFin VG3438 (some [(2,(.own 33))]) (Try.f38).results.toList) = f38_5 F v := fun v =>
  (block_in  (by kernel_rfl) _ _).trans (f38_4_eq F v)
def f38_6 (F : Nat) : Ty23 → Rz := fun v => f38_2 F (f38_5 F) v
theorem f38_6_eq (F : Nat) : ∀ v,aexec VG3438 (Af38 F) (bp Try.f38 3) (ef38j1 v) (kFin VG3438 (some [(2,(.own 33))]) (Try.f38).results.toList) = f38_6 F v :=
  seq_cut (by kernel_rfl) (by kernel_rfl) ef38j1 ef38j2 _ (fun k => f38_2 F k) (f38_5 F)
    (fun Rf38j2 => f38_2_eq F Rf38j2) (f38_5_eq F)
def f38_7 (F : Nat) : Ty22 → Rz := fun v => f38_1 F (f38_6 F) v
theorem f38_7_eq (F : Nat) : ∀ v,aexec VG3438 (Af38 F) (sub (bodyOf Try.f38) []) (ef38_a v) (kFin VG3438 (some [(2,(.own 33))]) (Try.f38).results.toList) = f38_7 F v :=
  seq_cut (by kernel_rfl) (by kernel_rfl) ef38_a ef38j1 _ (fun k => f38_1 F k) (f38_6 F)
    (fun Rf38j1 => f38_1_eq F Rf38j1) (f38_6_eq F)
def f38 (F : Nat) : Ty22 → Rz := f38_7 F
theorem f38_body (F : Nat) (a0w : Int) (a0k : Int) (a0l : List (List Int)) (a0a : Int) (a0d : Int) (a0h : List (List Int × List Int)) (a0o : Bool) (a0f : Int) : abody VG3438 (Af38 F) Try.f38 [(.ptr 0 0 8 0 0 0 8)] [(.cells 8 (.segs (.cons 1 (.one (.int .i64 a0w)) (.cons 1 (.one (.int .u64 a0k)) (.cons 1 (.one (.own 1 0 1)) (.cons 1 (.one (.int .i64 a0a)) (.cons 1 (.one (.int .i64 a0d)) (.cons 1 (.one (.mp 2)) (.cons 1 (.one (.bool a0o)) (.cons 1 (.one (.int .i64 a0f)) .nil))))))))) true),(.cells a0l.length (.rL .u8 a0l) true),(.cells 0 (.rM .i64 0 (.sl .u8) a0h) true)] = f38 F (a0w,a0k,a0l,a0a,a0d,a0h,a0o,a0f) :=
  (abody_in (c := (sub (bodyOf Try.f38) [])) (by kernel_rfl) (s := ef38_a (a0w,a0k,a0l,a0a,a0d,a0h,a0o,a0f)) (by kernel_rfl)).trans (f38_7_eq F (a0w,a0k,a0l,a0a,a0d,a0h,a0o,a0f))
def r38 : CRun := fun X H => match X,H with
  | [(.ptr 0 0 8 0 0 0 8)],[(.cells 8 (.segs (.cons 1 (.one (.int .i64 a0w)) (.cons 1 (.one (.int .u64 a0k)) (.cons 1 (.one (.own 1 0 1)) (.cons 1 (.one (.int .i64 a0a)) (.cons 1 (.one (.int .i64 a0d)) (.cons 1 (.one (.mp 2)) (.cons 1 (.one (.bool a0o)) (.cons 1 (.one (.int .i64 a0f)) .nil))))))))) true),(.cells z1 (.rL .u8 a0l) true),(.cells 0 (.rM .i64 0 (.sl .u8) a0h) true)] => some ((Lk.fine (Lk.E.mk a0w a0k a0l a0a a0d a0h a0o a0f)),(.own 3 0 1),[(Lk.bE ((Lk.deliver (Lk.E.mk a0w a0k a0l a0a a0d a0h a0o a0f)).1) 1 2),(.cells (Lk.deliver (Lk.E.mk a0w a0k a0l a0a a0d a0h a0o a0f)).1.wait.length (.rL .u8 (Lk.deliver (Lk.E.mk a0w a0k a0l a0a a0d a0h a0o a0f)).1.wait) true),(.cells 0 (.rM .i64 0 (.sl .u8) (Lk.deliver (Lk.E.mk a0w a0k a0l a0a a0d a0h a0o a0f)).1.held) true),(.cells (Lk.deliver (Lk.E.mk a0w a0k a0l a0a a0d a0h a0o a0f)).2.length (.rL .u8 (Lk.deliver (Lk.E.mk a0w a0k a0l a0a a0d a0h a0o a0f)).2) true)])
  | _,_ => none
theorem s38 (a0w : Int) (a0k : Int) (a0l : List (List Int)) (a0a : Int) (a0d : Int) (a0h : List (List Int × List Int)) (a0o : Bool) (a0f : Int) (hp : ((Lk.fine (Lk.E.mk a0w a0k a0l a0a a0d a0h a0o a0f))) = true) (k0 : okB (.cells 8 (.segs (.cons 1 (.one (.int .i64 a0w)) (.cons 1 (.one (.int .u64 a0k)) (.cons 1 (.one (.own 1 0 1)) (.cons 1 (.one (.int .i64 a0a)) (.cons 1 (.one (.int .i64 a0d)) (.cons 1 (.one (.mp 2)) (.cons 1 (.one (.bool a0o)) (.cons 1 (.one (.int .i64 a0f)) .nil))))))))) true)) (k1 : okB (.cells a0l.length (.rL .u8 a0l) true)) (k2 : okB (.cells 0 (.rM .i64 0 (.sl .u8) a0h) true)) : ∃ F,f38 F (a0w,a0k,a0l,a0a,a0d,a0h,a0o,a0f) = some ((.own 3 0 1),[(Lk.bE ((Lk.deliver (Lk.E.mk a0w a0k a0l a0a a0d a0h a0o a0f)).1) 1 2),(.cells (Lk.deliver (Lk.E.mk a0w a0k a0l a0a a0d a0h a0o a0f)).1.wait.length (.rL .u8 (Lk.deliver (Lk.E.mk a0w a0k a0l a0a a0d a0h a0o a0f)).1.wait) true),(.cells 0 (.rM .i64 0 (.sl .u8) (Lk.deliver (Lk.E.mk a0w a0k a0l a0a a0d a0h a0o a0f)).1.held) true),(.cells (Lk.deliver (Lk.E.mk a0w a0k a0l a0a a0d a0h a0o a0f)).2.length (.rL .u8 (Lk.deliver (Lk.E.mk a0w a0k a0l a0a a0d a0h a0o a0f)).2) true)]) := by
  obtain ⟨q1,q2,q3,q4,q5,q6,q7⟩ := Lk.fineN_iff.1 hp
  simp only at q3 q7
  refine ⟨a0h.length + 1,?_⟩
  simp only [f38,f38_7,f38_1,f38_6,f38_2,f38_5,f38_4,f38_4_i]
  refine loopN_ind (fun m (s : Int × Int × Int × Int × Bool × Int × (List (List Int)) × (List (List Int × List Int)) × (List (List Int))) => ∃ e l,s = (e.win,e.key,e.ack,e.del,e.owes,e.forged,e.wait,e.held,l) ∧ e.held.length ≤ m ∧ Lk.delv m e l = Lk.deliver (Lk.E.mk a0w a0k a0l a0a a0d a0h a0o a0f) ∧ 0 ≤ e.del ∧ e.del + m < 2147483649 ∧ l.length + m < 1073741824) ?_ _ a0h.length _ (by omega) ⟨Lk.E.mk a0w a0k a0l a0a a0d a0h a0o a0f,[],rfl,Nat.le_refl _,rfl,q3.1,by simp only; omega,by simp only [List.length_nil]; omega⟩
  rintro m s k ⟨e,l,rfl,hm,hd,g0,g1,g2⟩ hk
  simp only [f38_3]
  rw [i64w (by omega) (by omega)]
  cases hh : mhas e.held [e.del + 1] with
  | false =>
    rw [Lk.delv_spec m e l hm hh] at hd
    rw [← hd]
    rfl
  | true =>
    have := Lk.mdel_len hh
    cases m with
    | zero => omega
    | succ m =>
      rw [Bool.not_true,cond_false,cond_pos (by omega)]
      refine hk m _ (by omega) ⟨{ e with del := e.del + 1,held := mdel e.held [e.del + 1] },l ++ [mget [] e.held [e.del + 1]],rfl,by simp only; omega,?_,by simp only; omega,by simp only; omega,by simp only [List.length_append,List.length_cons,List.length_nil]; omega⟩
      rw [← hd]
      simp only [Lk.delv,hh,cond_true]

theorem c38 : CallOk Try.prog G34 38 r38 := callOk_of (V := VG3438) mixed tys eVG3438 (f := 38) (fn := Try.f38) Try.func38 (by kernel_rfl) (c := sub (bodyOf Try.f38) []) (by kernel_rfl) (by
  intro X H r H' h hX hH
  unfold r38 at h; split at h <;> try contradiction
  · simp only [Option.some.injEq,Prod.mk.injEq] at h
    obtain ⟨hp,rfl,rfl⟩ := h
    obtain rfl := okB_size (hH _ (.tail _ (.head _))) rfl
    obtain ⟨F,hF⟩ := s38 _ _ _ _ _ _ _ _ hp (hH _ (.head _)) (hH _ (.tail _ (.head _))) (hH _ (.tail _ (.tail _ (.head _))))
    exact ⟨Af38 F,(f38_body F _ _ _ _ _ _ _ _).trans hF⟩)
def lVG3413 : List CEnt := [(24,[none,some 5],r24),(33,[none],r33)]
def VG3413 : Env := mkEnv T34 G34 lVG3413
theorem eVG3413 : EOk Try.prog VG3413 := eok_mk (by exact ⟨c24,c33,trivial⟩)
def Af13 (F : Nat) : Cuts := { F := F,at_ := fun n => match n with | 3012 => some sp31 | _ => none,join := fun n => match n with | 1030 => some [(0,.plain)] | 2028 => some [(0,.plain),(3,.plain)] | 3014 => some sp32 | 7011 => some [(0,.plain),(3,.plain)] | _ => none,fin := (some [(2,(.own 33))]) }
def ef13_a : Ty22 → St := fun (a0w,a0k,a0l,a0a,a0d,a0h,a0o,a0f) => { tmps := [(0,(.ptr 0 0 8 0 0 0 8))],heap := [(0,(.cells 8 (.segs (.cons 1 (.one (.int .i64 a0w)) (.cons 1 (.one (.int .u64 a0k)) (.cons 1 (.one (.own 1 0 1)) (.cons 1 (.one (.int .i64 a0a)) (.cons 1 (.one (.int .i64 a0d)) (.cons 1 (.one (.mp 2)) (.cons 1 (.one (.bool a0o)) (.cons 1 (.one (.int .i64 a0f)) .nil))))))))) true)),(1,(.cells a0l.length (.rL .u8 a0l) true)),(2,(.cells 0 (.rM .i64 0 (.sl .u8) a0h) true))],next := 3,nt := 77,m := 3 }
def ef13j1 : Ty23 → St := fun (x1,x2,x3,x4,x5,x6,x7,x8) => { tmps := [(0,(.ptr 0 0 8 0 0 0 8))],heap := [(0,(.cells 8 (.segs (.cons 1 (.one (.int .i64 x1)) (.cons 1 (.one (.int .u64 x2)) (.cons 1 (.one (.own 1 0 1)) (.cons 1 (.one (.int .i64 x3)) (.cons 1 (.one (.int .i64 x4)) (.cons 1 (.one (.mp 2)) (.cons 1 (.one (.bool x5)) (.cons 1 (.one (.int .i64 x6)) .nil))))))))) true)),(1,(.cells x7.length (.rL .u8 x7) true)),(2,(.cells 0 (.rM .i64 0 (.sl .u8) x8) true))],next := 3,nt := 77,m := 3 }
def ef13j2 : Ty23 → St := fun (x1,x2,x3,x4,x5,x6,x7,x8) => { tmps := [(0,(.ptr 0 0 8 0 0 0 8)),(3,.ns)],heap := [(0,(.cells 8 (.segs (.cons 1 (.one (.int .i64 x1)) (.cons 1 (.one (.int .u64 x2)) (.cons 1 (.one (.own 1 0 1)) (.cons 1 (.one (.int .i64 x3)) (.cons 1 (.one (.int .i64 x4)) (.cons 1 (.one (.mp 2)) (.cons 1 (.one (.bool x5)) (.cons 1 (.one (.int .i64 x6)) .nil))))))))) true)),(1,(.cells x7.length (.rL .u8 x7) true)),(2,(.cells 0 (.rM .i64 0 (.sl .u8) x8) true))],next := 3,nt := 77,m := 3 }
def ef13j3 : Ty25 → St := fun (x1,x2,x3,t21,t22,x6,x7,x8,x9,x10,x11,x12,x13) => { tmps := [(0,(.ptr 0 0 8 0 0 0 8)),(3,.ns),(20,(.sl 1 0 x1 x2 x3 1)),(21,(.int .i64 t21)),(22,(.int .i64 t22))],heap := [(0,(.cells 8 (.segs (.cons 1 (.one (.int .i64 x6)) (.cons 1 (.one (.int .u64 x7)) (.cons 1 (.one (.own 1 0 1)) (.cons 1 (.one (.int .i64 x8)) (.cons 1 (.one (.int .i64 x9)) (.cons 1 (.one (.mp 2)) (.cons 1 (.one (.bool x10)) (.cons 1 (.one (.int .i64 x11)) .nil))))))))) true)),(1,(.cells x12.length (.rL .u8 x12) true)),(2,(.cells 0 (.rM .i64 0 (.sl .u8) x13) true))],next := 3,nt := 77,m := 3 }
def ef13l1 : Ty26 → St := fun (x1,x2,x3,t21,t22,x6,x7,x8,x9,x10,x11,x12,x13,x14) => { tmps := [(0,(.ptr 0 0 8 0 0 0 8)),(3,(.own 3 0 1)),(20,(.sl 1 0 x1 x2 x3 1)),(21,(.int .i64 t21)),(22,(.int .i64 t22))],heap := [(0,(.cells 8 (.segs (.cons 1 (.one (.int .i64 x6)) (.cons 1 (.one (.int .u64 x7)) (.cons 1 (.one (.own 1 0 1)) (.cons 1 (.one (.int .i64 x8)) (.cons 1 (.one (.int .i64 x9)) (.cons 1 (.one (.mp 2)) (.cons 1 (.one (.bool x10)) (.cons 1 (.one (.int .i64 x11)) .nil))))))))) true)),(1,(.cells x12.length (.rL .u8 x12) true)),(2,(.cells 0 (.rM .i64 0 (.sl .u8) x13) true)),(3,(.cells x14.length (.rL .u8 x14) true))],next := 4,nt := 77,m := 3 }
def ef13j4 : Ty24 → St := fun (x1,x2,x3,x4,x5,x6,x7,x8,x9) => { tmps := [(0,(.ptr 0 0 8 0 0 0 8)),(3,(.own 3 0 1))],heap := [(0,(.cells 8 (.segs (.cons 1 (.one (.int .i64 x1)) (.cons 1 (.one (.int .u64 x2)) (.cons 1 (.one (.own 1 0 1)) (.cons 1 (.one (.int .i64 x3)) (.cons 1 (.one (.int .i64 x4)) (.cons 1 (.one (.mp 2)) (.cons 1 (.one (.bool x5)) (.cons 1 (.one (.int .i64 x6)) .nil))))))))) true)),(1,(.cells x7.length (.rL .u8 x7) true)),(2,(.cells 0 (.rM .i64 0 (.sl .u8) x8) true)),(3,(.cells x9.length (.rL .u8 x9) true))],next := 4,nt := 77,m := 3 }
def f13_1 (F : Nat) (kf13j1 : Ty23 → Rz) : Ty22 → Rz := fun (a0w,a0k,a0l,a0a,a0d,a0h,a0o,a0f) => (kf13j1 (a0w,a0k,a0a,a0d,a0o,a0f,a0l,a0h))
theorem f13_1_eq (F : Nat) (Rf13j1 : St → Rz) : ∀ v,aexec VG3413 (Af13 F) (bp Try.f13 2) (ef13_a v) (kSeq (kc VG3413 Rf13j1 [(0,.plain)]) (kFin VG3413 (some [(2,(.own 33))]) (Try.f13).results.toList)) = f13_1 F (Rf13j1 ∘ ef13j1) v := by
  rintro ⟨a0w,a0k,a0l,a0a,a0d,a0h,a0o,a0f⟩; kernel_rfl
def f13_2 (F : Nat) (kf13j2 : Ty23 → Rz) : Ty23 → Rz := fun (x1,x2,x3,x4,x5,x6,x7,x8) => (kf13j2 (x1,x2,x3,x4,x5,x6,x7,x8))
theorem f13_2_eq (F : Nat) (Rf13j2 : St → Rz) : ∀ v,aexec VG3413 (Af13 F) (bp Try.f13 6) (ef13j1 v) (kSeq (kc VG3413 Rf13j2 [(0,.plain),(3,.plain)]) (kFin VG3413 (some [(2,(.own 33))]) (Try.f13).results.toList)) = f13_2 F (Rf13j2 ∘ ef13j2) v := by
  rintro ⟨x1,x2,x3,x4,x5,x6,x7,x8⟩; kernel_rfl
def f13_3 (F : Nat) (kf13j3 : Ty25 → Rz) (kf13j4 : Ty24 → Rz) : Ty23 → Rz := fun (x1,x2,x3,x4,x5,x6,x7,x8) => (cond ((decide ((0 : Int) ≤ (if x1 < (↑x7.length : Int) then x1 else (↑x7.length : Int)))) && (decide ((if x1 < (↑x7.length : Int) then x1 else (↑x7.length : Int)) ≤ (↑x7.length : Int)))) (kf13j3 (x7.length,0,(Int.toNat (if x1 < (↑x7.length : Int) then x1 else (↑x7.length : Int))),(↑(Int.toNat (if x1 < (↑x7.length : Int) then x1 else (↑x7.length : Int))) : Int),(0 : Int),x1,x2,x3,x4,x5,x6,x7,x8)) none)
theorem f13_3_eq (F : Nat) (Rf13j3 : St → Rz) (Rf13j4 : St → Rz) : ∀ v,aexec VG3413 (Af13 F) (bp Try.f13 28) (ef13j2 v) (kSeq (kc VG3413 Rf13j3 sp32) (kSeq (kc VG3413 Rf13j4 [(0,.plain),(3,.plain)]) (kFin VG3413 (some [(2,(.own 33))]) (Try.f13).results.toList))) = f13_3 F (Rf13j3 ∘ ef13j3) (Rf13j4 ∘ ef13j4) v := by
  rintro ⟨x1,x2,x3,x4,x5,x6,x7,x8⟩; kernel_rfl
def f13_4 (F : Nat) (kf13l1 : Ty26 → Rz) (kf13j4 : Ty24 → Rz) : Ty26 → Rz := fun (x1,x2,x3,t21,t22,x6,x7,x8,x9,x10,x11,x12,x13,x14) => (cond (decide (t22 < t21)) (cond ((decide (0 ≤ t22)) && (decide (t22 < (↑x3 : Int)))) (cond (decide ((x12.getD ((Int.toNat t22) + x2) []).length < 65537)) (cond (decide ((Lk.pbytes (IntKind.i64.wrap ((IntKind.i64.wrap (x8 + t22)) + (1 : Int))) x9 (x12.getD ((Int.toNat t22) + x2) [])).length < 1073740000)) (cond (decide ((x14.length + 1) < 1073741824)) (kf13l1 (x1,x2,x3,t21,(IntKind.i64.wrap (t22 + (1 : Int))),x6,x7,x8,x9,x10,x11,x12,x13,(x14 ++ [(Lk.sealed x7 (Lk.pbytes (IntKind.i64.wrap ((IntKind.i64.wrap (x8 + t22)) + (1 : Int))) x9 (x12.getD ((Int.toNat t22) + x2) [])))]))) none) none) none) none) (kf13j4 (x6,x7,x8,x9,x10,x11,x12,x13,x14)))
theorem f13_4_eq (F : Nat) (Rf13l1 : St → Rz) (Rf13j4 : St → Rz) : ∀ v,aexec VG3413 (Af13 F) (bp Try.f13 116) (ef13l1 v) (kSeq (kc VG3413 Rf13l1 sp31) (kBlock 0 (kSeq (kc VG3413 Rf13j4 [(0,.plain),(3,.plain)]) (kFin VG3413 (some [(2,(.own 33))]) (Try.f13).results.toList)))) = f13_4 F (Rf13l1 ∘ ef13l1) (Rf13j4 ∘ ef13j4) v := by
  rintro ⟨x1,x2,x3,t21,t22,x6,x7,x8,x9,x10,x11,x12,x13,x14⟩; kernel_rfl
def f13_5_i : Ty25 → Nat × Nat × Nat × Int × Int × Int × Int × Int × Int × Bool × Int × (List (List Int)) × (List (List Int × List Int)) × (List (List Int)) := fun (x1,x2,x3,t21,t22,x6,x7,x8,x9,x10,x11,x12,x13) => (x1,x2,x3,t21,t22,x6,x7,x8,x9,x10,x11,x12,x13,[])
def f13_5 (F : Nat) (kf13j4 : Ty24 → Rz) : Ty25 → Rz := fun v => loopN (fun k => f13_4 F k kf13j4) F (f13_5_i v)
theorem f13_5_eq (F : Nat) (Rf13j4 : St → Rz) : ∀ v,aexec VG3413 (Af13 F) (bp Try.f13 58) (ef13j3 v) (kBlock 0 (kSeq (kc VG3413 Rf13j4 [(0,.plain),(3,.plain)]) (kFin VG3413 (some [(2,(.own 33))]) (Try.f13).results.toList))) = f13_5 F (Rf13j4 ∘ ef13j4) v :=
  loop_cut (by kernel_rfl) (by kernel_rfl) ef13j3 ef13l1 _ f13_5_i (fun k => f13_4 F k (Rf13j4 ∘ ef13j4))
    (by rintro ⟨x1,x2,x3,t21,t22,x6,x7,x8,x9,x10,x11,x12,x13⟩; kernel_rfl) (fun Rf13l1 => f13_4_eq F Rf13l1 Rf13j4)
def f13_6 (F : Nat) (kf13j4 : Ty24 → Rz) : Ty25 → Rz := f13_5 F kf13j4
theorem f13_6_eq (F : Nat) (Rf13j4 : St → Rz) : ∀ v,aexec VG3413 (Af13 F) (bp Try.f13 29) (ef13j3 v) (kSeq (kc VG3413 Rf13j4 [(0,.plain),(3,.plain)]) (kFin VG3413 (some [(2,(.own 33))]) (Try.f13).results.toList)) = f13_6 F (Rf13j4 ∘ ef13j4) v := fun v =>
  (block_in  (by kernel_rfl) _ _).trans (f13_5_eq F Rf13j4 v)
def f13_7 (F : Nat) (kf13j4 : Ty24 → Rz) : Ty23 → Rz := fun v => f13_3 F (f13_6 F kf13j4) kf13j4 v
theorem f13_7_eq (F : Nat) (Rf13j4 : St → Rz) : ∀ v,aexec VG3413 (Af13 F) (bp Try.f13 14) (ef13j2 v) (kSeq (kc VG3413 Rf13j4 [(0,.plain),(3,.plain)]) (kFin VG3413 (some [(2,(.own 33))]) (Try.f13).results.toList)) = f13_7 F (Rf13j4 ∘ ef13j4) v :=
  seq_cut (by kernel_rfl) (by kernel_rfl) ef13j2 ef13j3 _ (fun k => f13_3 F k (Rf13j4 ∘ ef13j4)) (f13_6 F (Rf13j4 ∘ ef13j4))
    (fun Rf13j3 => f13_3_eq F Rf13j3 Rf13j4) (f13_6_eq F Rf13j4)
def f13_8 (F : Nat) : Ty24 → Rz := fun (x1,x2,x3,x4,x5,x6,x7,x8,x9) => (cond ((↑x9.length : Int) == (0 : Int)) (cond x5 (cond (decide ((Lk.pbytes (0 : Int) x4 []).length < 1073740000)) (cond (decide ((x9.length + 1) < 1073741824)) (some ((.own 3 0 1),[(.cells 8 (.segs (.cons 1 (.one (.int .i64 x1)) (.cons 1 (.one (.int .u64 x2)) (.cons 1 (.one (.own 1 0 1)) (.cons 1 (.one (.int .i64 x3)) (.cons 1 (.one (.int .i64 x4)) (.cons 1 (.one (.mp 2)) (.cons 1 (.one (.bool false)) (.cons 1 (.one (.int .i64 x6)) .nil))))))))) true),(.cells x7.length (.rL .u8 x7) true),(.cells 0 (.rM .i64 0 (.sl .u8) x8) true),(.cells (x9 ++ [(Lk.sealed x2 (Lk.pbytes (0 : Int) x4 []))]).length (.rL .u8 (x9 ++ [(Lk.sealed x2 (Lk.pbytes (0 : Int) x4 []))])) true)])) none) none) (some ((.own 3 0 1),[(.cells 8 (.segs (.cons 1 (.one (.int .i64 x1)) (.cons 1 (.one (.int .u64 x2)) (.cons 1 (.one (.own 1 0 1)) (.cons 1 (.one (.int .i64 x3)) (.cons 1 (.one (.int .i64 x4)) (.cons 1 (.one (.mp 2)) (.cons 1 (.one (.bool false)) (.cons 1 (.one (.int .i64 x6)) .nil))))))))) true),(.cells x7.length (.rL .u8 x7) true),(.cells 0 (.rM .i64 0 (.sl .u8) x8) true),(.cells x9.length (.rL .u8 x9) true)]))) (some ((.own 3 0 1),[(.cells 8 (.segs (.cons 1 (.one (.int .i64 x1)) (.cons 1 (.one (.int .u64 x2)) (.cons 1 (.one (.own 1 0 1)) (.cons 1 (.one (.int .i64 x3)) (.cons 1 (.one (.int .i64 x4)) (.cons 1 (.one (.mp 2)) (.cons 1 (.one (.bool false)) (.cons 1 (.one (.int .i64 x6)) .nil))))))))) true),(.cells x7.length (.rL .u8 x7) true),(.cells 0 (.rM .i64 0 (.sl .u8) x8) true),(.cells x9.length (.rL .u8 x9) true)])))
theorem f13_8_eq (F : Nat) : ∀ v,aexec VG3413 (Af13 F) (bp Try.f13 15) (ef13j4 v) (kFin VG3413 (some [(2,(.own 33))]) (Try.f13).results.toList) = f13_8 F v := by
  rintro ⟨x1,x2,x3,x4,x5,x6,x7,x8,x9⟩; kernel_rfl
def f13_9 (F : Nat) : Ty23 → Rz := fun v => f13_7 F (f13_8 F) v
theorem f13_9_eq (F : Nat) : ∀ v,aexec VG3413 (Af13 F) (bp Try.f13 7) (ef13j2 v) (kFin VG3413 (some [(2,(.own 33))]) (Try.f13).results.toList) = f13_9 F v :=
  seq_cut (by kernel_rfl) (by kernel_rfl) ef13j2 ef13j4 _ (fun k => f13_7 F k) (f13_8 F)
    (fun Rf13j4 => f13_7_eq F Rf13j4) (f13_8_eq F)
def f13_10 (F : Nat) : Ty23 → Rz := fun v => f13_2 F (f13_9 F) v
theorem f13_10_eq (F : Nat) : ∀ v,aexec VG3413 (Af13 F) (bp Try.f13 3) (ef13j1 v) (kFin VG3413 (some [(2,(.own 33))]) (Try.f13).results.toList) = f13_10 F v :=
  seq_cut (by kernel_rfl) (by kernel_rfl) ef13j1 ef13j2 _ (fun k => f13_2 F k) (f13_9 F)
    (fun Rf13j2 => f13_2_eq F Rf13j2) (f13_9_eq F)
def f13_11 (F : Nat) : Ty22 → Rz := fun v => f13_1 F (f13_10 F) v
theorem f13_11_eq (F : Nat) : ∀ v,aexec VG3413 (Af13 F) (sub (bodyOf Try.f13) []) (ef13_a v) (kFin VG3413 (some [(2,(.own 33))]) (Try.f13).results.toList) = f13_11 F v :=
  seq_cut (by kernel_rfl) (by kernel_rfl) ef13_a ef13j1 _ (fun k => f13_1 F k) (f13_10 F)
    (fun Rf13j1 => f13_1_eq F Rf13j1) (f13_10_eq F)
def f13 (F : Nat) : Ty22 → Rz := f13_11 F
theorem f13_body (F : Nat) (a0w : Int) (a0k : Int) (a0l : List (List Int)) (a0a : Int) (a0d : Int) (a0h : List (List Int × List Int)) (a0o : Bool) (a0f : Int) : abody VG3413 (Af13 F) Try.f13 [(.ptr 0 0 8 0 0 0 8)] [(.cells 8 (.segs (.cons 1 (.one (.int .i64 a0w)) (.cons 1 (.one (.int .u64 a0k)) (.cons 1 (.one (.own 1 0 1)) (.cons 1 (.one (.int .i64 a0a)) (.cons 1 (.one (.int .i64 a0d)) (.cons 1 (.one (.mp 2)) (.cons 1 (.one (.bool a0o)) (.cons 1 (.one (.int .i64 a0f)) .nil))))))))) true),(.cells a0l.length (.rL .u8 a0l) true),(.cells 0 (.rM .i64 0 (.sl .u8) a0h) true)] = f13 F (a0w,a0k,a0l,a0a,a0d,a0h,a0o,a0f) :=
  (abody_in (c := (sub (bodyOf Try.f13) [])) (by kernel_rfl) (s := ef13_a (a0w,a0k,a0l,a0a,a0d,a0h,a0o,a0f)) (by kernel_rfl)).trans (f13_11_eq F (a0w,a0k,a0l,a0a,a0d,a0h,a0o,a0f))
def r13 : CRun := fun X H => match X,H with
  | [(.ptr 0 0 8 0 0 0 8)],[(.cells 8 (.segs (.cons 1 (.one (.int .i64 a0w)) (.cons 1 (.one (.int .u64 a0k)) (.cons 1 (.one (.own 1 0 1)) (.cons 1 (.one (.int .i64 a0a)) (.cons 1 (.one (.int .i64 a0d)) (.cons 1 (.one (.mp 2)) (.cons 1 (.one (.bool a0o)) (.cons 1 (.one (.int .i64 a0f)) .nil))))))))) true),(.cells z1 (.rL .u8 a0l) true),(.cells 0 (.rM .i64 0 (.sl .u8) a0h) true)] => some ((Lk.room (Lk.E.mk a0w a0k a0l a0a a0d a0h a0o a0f)),(.own 3 0 1),[(Lk.bE ((Lk.out (Lk.E.mk a0w a0k a0l a0a a0d a0h a0o a0f)).1) 1 2),(.cells (Lk.out (Lk.E.mk a0w a0k a0l a0a a0d a0h a0o a0f)).1.wait.length (.rL .u8 (Lk.out (Lk.E.mk a0w a0k a0l a0a a0d a0h a0o a0f)).1.wait) true),(.cells 0 (.rM .i64 0 (.sl .u8) (Lk.out (Lk.E.mk a0w a0k a0l a0a a0d a0h a0o a0f)).1.held) true),(.cells (Lk.outs (Lk.E.mk a0w a0k a0l a0a a0d a0h a0o a0f)).length (.rL .u8 (Lk.outs (Lk.E.mk a0w a0k a0l a0a a0d a0h a0o a0f))) true)])
  | _,_ => none
theorem s13 (a0w : Int) (a0k : Int) (a0l : List (List Int)) (a0a : Int) (a0d : Int) (a0h : List (List Int × List Int)) (a0o : Bool) (a0f : Int) (hp : ((Lk.room (Lk.E.mk a0w a0k a0l a0a a0d a0h a0o a0f))) = true) (k0 : okB (.cells 8 (.segs (.cons 1 (.one (.int .i64 a0w)) (.cons 1 (.one (.int .u64 a0k)) (.cons 1 (.one (.own 1 0 1)) (.cons 1 (.one (.int .i64 a0a)) (.cons 1 (.one (.int .i64 a0d)) (.cons 1 (.one (.mp 2)) (.cons 1 (.one (.bool a0o)) (.cons 1 (.one (.int .i64 a0f)) .nil))))))))) true)) (k1 : okB (.cells a0l.length (.rL .u8 a0l) true)) (k2 : okB (.cells 0 (.rM .i64 0 (.sl .u8) a0h) true)) : ∃ F,f13 F (a0w,a0k,a0l,a0a,a0d,a0h,a0o,a0f) = some ((.own 3 0 1),[(Lk.bE ((Lk.out (Lk.E.mk a0w a0k a0l a0a a0d a0h a0o a0f)).1) 1 2),(.cells (Lk.out (Lk.E.mk a0w a0k a0l a0a a0d a0h a0o a0f)).1.wait.length (.rL .u8 (Lk.out (Lk.E.mk a0w a0k a0l a0a a0d a0h a0o a0f)).1.wait) true),(.cells 0 (.rM .i64 0 (.sl .u8) (Lk.out (Lk.E.mk a0w a0k a0l a0a a0d a0h a0o a0f)).1.held) true),(.cells (Lk.outs (Lk.E.mk a0w a0k a0l a0a a0d a0h a0o a0f)).length (.rL .u8 (Lk.outs (Lk.E.mk a0w a0k a0l a0a a0d a0h a0o a0f))) true)]) := by
  obtain ⟨q1,q2,q3,q4,q5,q6,q7⟩ := Lk.fineN_iff.1 hp
  simp only at q1 q2 q3 q4 q5 q6 q7
  refine ⟨a0l.length + 1,?_⟩
  simp only [f13,f13_11,f13_1,f13_10,f13_2,f13_9,f13_7,f13_3,f13_6,f13_5,f13_5_i,dec_and]
  have hn : (if a0w < (a0l.length : Int) then a0w else (a0l.length : Int)) = ((min a0w.toNat a0l.length : Nat) : Int) := by split <;> omega
  rw [hn,cond_pos (by omega),Int.toNat_natCast]
  have hle : min a0w.toNat a0l.length ≤ a0l.length := Nat.min_le_right _ _
  have htk : a0l.take (min a0w.toNat a0l.length) = a0l.take a0w.toNat := by
    rcases Nat.le_total a0w.toNat a0l.length with h | h
    · rw [Nat.min_eq_left h]
    · rw [Nat.min_eq_right h,List.take_length,List.take_of_length_le h]
  generalize min a0w.toNat a0l.length = n at hle htk
  refine loopN_from (fun i => (a0l.length,0,n,(n : Int),(i : Int),a0w,a0k,a0a,a0d,a0o,a0f,a0l,a0h,Lk.packs a0k a0a a0d (a0l.take i))) n (by rfl) (fun i hi k => ?_) (fun k => ?_) _ (by omega)
  · have e1 := Lk.packs_take a0k a0d a0l a0a i (by omega)
    have e2 := Lk.packs_length a0k a0d (a0l.take i) a0a
    have e3 : (a0l.getD i []).length < 65537 := by
      rw [List.getD_eq_getElem?_getD,List.getElem?_eq_getElem (by omega)]
      exact q6 _ (List.getElem_mem _)
    have e4 := Lk.pbytes_length (a0a + i + 1) a0d (a0l.getD i [])
    rw [List.length_take] at e2
    simp only [f13_4,dec_and]
    rw [Int.toNat_natCast,Nat.add_zero,i64w (x := a0a + (i : Int)) (by omega) (by omega),i64w (x := a0a + (i : Int) + 1) (by omega) (by omega),i64w (x := (i : Int) + 1) (by omega) (by omega),cond_pos (by omega),cond_pos (by omega),cond_pos e3,cond_pos (by omega),cond_pos (by omega),e1]
    rfl
  · simp only [f13_4]
    rw [cond_neg (by omega),htk]
    simp only [f13_8,int_beq,Lk.out,Lk.outs]
    have e4 := Lk.pbytes_length 0 a0d []
    simp only [List.length_nil] at e4
    by_cases h1 : Lk.packs a0k a0a a0d (a0l.take a0w.toNat) = []
    · rw [h1]
      simp only [List.length_nil,Int.ofNat_eq_natCast]
      rw [cond_pos (by rfl)]
      cases a0o with
      | true =>
        rw [cond_true,cond_pos (by omega),cond_pos (by omega),if_pos (by simp)]
        rfl
      | false =>
        rw [cond_false,if_neg (by simp)]
        rfl
    · have h2 : ((Lk.packs a0k a0a a0d (a0l.take a0w.toNat)).length : Int) ≠ 0 := by
        intro h; apply h1; exact List.length_eq_zero_iff.1 (by omega)
      rw [cond_neg h2,if_neg (fun h => h1 h.1)]

theorem c13 : CallOk Try.prog G34 13 r13 := callOk_of (V := VG3413) mixed tys eVG3413 (f := 13) (fn := Try.f13) Try.func13 (by kernel_rfl) (c := sub (bodyOf Try.f13) []) (by kernel_rfl) (by
  intro X H r H' h hX hH
  unfold r13 at h; split at h <;> try contradiction
  · simp only [Option.some.injEq,Prod.mk.injEq] at h
    obtain ⟨hp,rfl,rfl⟩ := h
    obtain rfl := okB_size (hH _ (.tail _ (.head _))) rfl
    obtain ⟨F,hF⟩ := s13 _ _ _ _ _ _ _ _ hp (hH _ (.head _)) (hH _ (.tail _ (.head _))) (hH _ (.tail _ (.tail _ (.head _))))
    exact ⟨Af13 F,(f13_body F _ _ _ _ _ _ _ _).trans hF⟩)
def lVG3419 : List CEnt := [(25,[none,some 5],r25),(32,[some 5],r32),(36,[some 5],r36),(37,[none,none,none],r37),(38,[none],r38)]
def VG3419 : Env := mkEnv T34 G34 lVG3419
theorem eVG3419 : EOk Try.prog VG3419 := eok_mk (by exact ⟨c25,c32,c36,c37,c38,trivial⟩)
def Af19 (F : Nat) : Cuts := { F := F,at_ := fun _ => none,join := fun _ => none,fin := (some [(4,(.own 33)),(5,.plain),(0,(.touch 2))]) }
def ef19_a : Ty20 → St := fun (a0w,a0k,a0l,a0a,a0d,a0h,a0o,a0f,a1) => { tmps := [(0,(.ptr 0 0 8 0 0 0 8)),(1,(.vs (.rI .u8 a1) 0 1))],heap := [(0,(.cells 8 (.segs (.cons 1 (.one (.int .i64 a0w)) (.cons 1 (.one (.int .u64 a0k)) (.cons 1 (.one (.own 1 0 1)) (.cons 1 (.one (.int .i64 a0a)) (.cons 1 (.one (.int .i64 a0d)) (.cons 1 (.one (.mp 2)) (.cons 1 (.one (.bool a0o)) (.cons 1 (.one (.int .i64 a0f)) .nil))))))))) true)),(1,(.cells a0l.length (.rL .u8 a0l) true)),(2,(.cells 0 (.rM .i64 0 (.sl .u8) a0h) true))],next := 3,nt := 125,m := 3 }
def f19_1 (F : Nat) : Ty20 → Rz := fun (a0w,a0k,a0l,a0a,a0d,a0h,a0o,a0f,a1) => (cond (decide (a1.length < 1073740000)) (cond ((Lk.openB a0k a1).2 != (0 : Int)) (cond ((Lk.openB a0k a1).2 == (9 : Int)) (some ((.tup (.cons 0 (.own 3 0 1) (.cons 0 (.int .i64 (Lk.openB a0k a1).2) .nil))),[(.cells 8 (.segs (.cons 1 (.one (.int .i64 a0w)) (.cons 1 (.one (.int .u64 a0k)) (.cons 1 (.one (.own 4 0 1)) (.cons 1 (.one (.int .i64 a0a)) (.cons 1 (.one (.int .i64 a0d)) (.cons 1 (.one (.mp 2)) (.cons 1 (.one (.bool a0o)) (.cons 1 (.one (.int .i64 (IntKind.i64.wrap (a0f + (1 : Int))))) .nil))))))))) true),.gone,(.cells 0 (.rM .i64 0 (.sl .u8) a0h) true),(.cells 0 (.rL .u8 []) true),(.cells a0l.length (.rL .u8 a0l) true)])) (some ((.tup (.cons 0 (.own 3 0 1) (.cons 0 (.int .i64 (Lk.openB a0k a1).2) .nil))),[(.cells 8 (.segs (.cons 1 (.one (.int .i64 a0w)) (.cons 1 (.one (.int .u64 a0k)) (.cons 1 (.one (.own 4 0 1)) (.cons 1 (.one (.int .i64 a0a)) (.cons 1 (.one (.int .i64 a0d)) (.cons 1 (.one (.mp 2)) (.cons 1 (.one (.bool a0o)) (.cons 1 (.one (.int .i64 a0f)) .nil))))))))) true),.gone,(.cells 0 (.rM .i64 0 (.sl .u8) a0h) true),(.cells 0 (.rL .u8 []) true),(.cells a0l.length (.rL .u8 a0l) true)]))) (cond (decide ((Lk.openB a0k a1).1.length < 1073741000)) (cond (!(Lk.rd (Lk.openB a0k a1).1).2.2.2) (some ((.tup (.cons 0 (.own 3 0 1) (.cons 0 (.int .i64 (2 : Int)) .nil))),[(.cells 8 (.segs (.cons 1 (.one (.int .i64 a0w)) (.cons 1 (.one (.int .u64 a0k)) (.cons 1 (.one (.own 4 0 1)) (.cons 1 (.one (.int .i64 a0a)) (.cons 1 (.one (.int .i64 a0d)) (.cons 1 (.one (.mp 2)) (.cons 1 (.one (.bool a0o)) (.cons 1 (.one (.int .i64 a0f)) .nil))))))))) true),.gone,(.cells 0 (.rM .i64 0 (.sl .u8) a0h) true),(.cells 0 (.rL .u8 []) true),(.cells a0l.length (.rL .u8 a0l) true)])) (cond (decide ((Lk.rd (Lk.openB a0k a1).1).2.1 > (IntKind.i64.wrap (a0a + (↑a0l.length : Int))))) (some ((.tup (.cons 0 (.own 3 0 1) (.cons 0 (.int .i64 (0 : Int)) .nil))),[(.cells 8 (.segs (.cons 1 (.one (.int .i64 a0w)) (.cons 1 (.one (.int .u64 a0k)) (.cons 1 (.one (.own 4 0 1)) (.cons 1 (.one (.int .i64 a0a)) (.cons 1 (.one (.int .i64 a0d)) (.cons 1 (.one (.mp 2)) (.cons 1 (.one (.bool a0o)) (.cons 1 (.one (.int .i64 a0f)) .nil))))))))) true),.gone,(.cells 0 (.rM .i64 0 (.sl .u8) a0h) true),(.cells 0 (.rL .u8 []) true),(.cells a0l.length (.rL .u8 a0l) true)])) (cond (decide ((Lk.rd (Lk.openB a0k a1).1).1 > (IntKind.i64.wrap (a0d + (16 : Int))))) (some ((.tup (.cons 0 (.own 3 0 1) (.cons 0 (.int .i64 (0 : Int)) .nil))),[(.cells 8 (.segs (.cons 1 (.one (.int .i64 a0w)) (.cons 1 (.one (.int .u64 a0k)) (.cons 1 (.one (.own 4 0 1)) (.cons 1 (.one (.int .i64 a0a)) (.cons 1 (.one (.int .i64 a0d)) (.cons 1 (.one (.mp 2)) (.cons 1 (.one (.bool a0o)) (.cons 1 (.one (.int .i64 a0f)) .nil))))))))) true),.gone,(.cells 0 (.rM .i64 0 (.sl .u8) a0h) true),(.cells 0 (.rL .u8 []) true),(.cells a0l.length (.rL .u8 a0l) true)])) (cond (decide ((IntKind.i64.wrap ((Lk.rd (Lk.openB a0k a1).1).2.1 - a0a)) > (0 : Int))) (cond (((decide ((0 : Int) = 0)) && (decide (0 < (IntKind.i64.wrap ((Lk.rd (Lk.openB a0k a1).1).2.1 - a0a))))) && (decide ((IntKind.i64.wrap ((Lk.rd (Lk.openB a0k a1).1).2.1 - a0a)) ≤ (a0l.length : Int))) && (decide (a0l.length < 1073741000))) (cond ((Lk.rd (Lk.openB a0k a1).1).1 == (0 : Int)) (some ((.tup (.cons 0 (.own 3 0 1) (.cons 0 (.int .i64 (0 : Int)) .nil))),[(.cells 8 (.segs (.cons 1 (.one (.int .i64 a0w)) (.cons 1 (.one (.int .u64 a0k)) (.cons 1 (.one (.own 4 0 1)) (.cons 1 (.one (.int .i64 (Lk.rd (Lk.openB a0k a1).1).2.1)) (.cons 1 (.one (.int .i64 a0d)) (.cons 1 (.one (.mp 2)) (.cons 1 (.one (.bool a0o)) (.cons 1 (.one (.int .i64 a0f)) .nil))))))))) true),.gone,(.cells 0 (.rM .i64 0 (.sl .u8) a0h) true),(.cells 0 (.rL .u8 []) true),(.cells (a0l.drop (Int.toNat (IntKind.i64.wrap ((Lk.rd (Lk.openB a0k a1).1).2.1 - a0a)))).length (.rL .u8 (a0l.drop (Int.toNat (IntKind.i64.wrap ((Lk.rd (Lk.openB a0k a1).1).2.1 - a0a))))) true)])) (cond (decide ((Lk.rd (Lk.openB a0k a1).1).1 > a0d)) (cond (!(mhas a0h [(Lk.rd (Lk.openB a0k a1).1).1])) (cond (decide ((Lk.rd (Lk.openB a0k a1).1).2.2.1.length < 1073741000)) (cond (Lk.fine (Lk.E.mk a0w a0k (a0l.drop (Int.toNat (IntKind.i64.wrap ((Lk.rd (Lk.openB a0k a1).1).2.1 - a0a)))) (Lk.rd (Lk.openB a0k a1).1).2.1 a0d (mput a0h [(Lk.rd (Lk.openB a0k a1).1).1] (Lk.rd (Lk.openB a0k a1).1).2.2.1) true a0f)) (some ((.tup (.cons 0 (.own 3 0 1) (.cons 0 (.int .i64 (0 : Int)) .nil))),[(.cells 8 (.segs (.cons 1 (.one (.int .i64 (Lk.deliver (Lk.E.mk a0w a0k (a0l.drop (Int.toNat (IntKind.i64.wrap ((Lk.rd (Lk.openB a0k a1).1).2.1 - a0a)))) (Lk.rd (Lk.openB a0k a1).1).2.1 a0d (mput a0h [(Lk.rd (Lk.openB a0k a1).1).1] (Lk.rd (Lk.openB a0k a1).1).2.2.1) true a0f)).1.win)) (.cons 1 (.one (.int .u64 (Lk.deliver (Lk.E.mk a0w a0k (a0l.drop (Int.toNat (IntKind.i64.wrap ((Lk.rd (Lk.openB a0k a1).1).2.1 - a0a)))) (Lk.rd (Lk.openB a0k a1).1).2.1 a0d (mput a0h [(Lk.rd (Lk.openB a0k a1).1).1] (Lk.rd (Lk.openB a0k a1).1).2.2.1) true a0f)).1.key)) (.cons 1 (.one (.own 4 0 1)) (.cons 1 (.one (.int .i64 (Lk.deliver (Lk.E.mk a0w a0k (a0l.drop (Int.toNat (IntKind.i64.wrap ((Lk.rd (Lk.openB a0k a1).1).2.1 - a0a)))) (Lk.rd (Lk.openB a0k a1).1).2.1 a0d (mput a0h [(Lk.rd (Lk.openB a0k a1).1).1] (Lk.rd (Lk.openB a0k a1).1).2.2.1) true a0f)).1.ack)) (.cons 1 (.one (.int .i64 (Lk.deliver (Lk.E.mk a0w a0k (a0l.drop (Int.toNat (IntKind.i64.wrap ((Lk.rd (Lk.openB a0k a1).1).2.1 - a0a)))) (Lk.rd (Lk.openB a0k a1).1).2.1 a0d (mput a0h [(Lk.rd (Lk.openB a0k a1).1).1] (Lk.rd (Lk.openB a0k a1).1).2.2.1) true a0f)).1.del)) (.cons 1 (.one (.mp 2)) (.cons 1 (.one (.bool (Lk.deliver (Lk.E.mk a0w a0k (a0l.drop (Int.toNat (IntKind.i64.wrap ((Lk.rd (Lk.openB a0k a1).1).2.1 - a0a)))) (Lk.rd (Lk.openB a0k a1).1).2.1 a0d (mput a0h [(Lk.rd (Lk.openB a0k a1).1).1] (Lk.rd (Lk.openB a0k a1).1).2.2.1) true a0f)).1.owes)) (.cons 1 (.one (.int .i64 (Lk.deliver (Lk.E.mk a0w a0k (a0l.drop (Int.toNat (IntKind.i64.wrap ((Lk.rd (Lk.openB a0k a1).1).2.1 - a0a)))) (Lk.rd (Lk.openB a0k a1).1).2.1 a0d (mput a0h [(Lk.rd (Lk.openB a0k a1).1).1] (Lk.rd (Lk.openB a0k a1).1).2.2.1) true a0f)).1.forged)) .nil))))))))) true),.gone,(.cells 0 (.rM .i64 0 (.sl .u8) (Lk.deliver (Lk.E.mk a0w a0k (a0l.drop (Int.toNat (IntKind.i64.wrap ((Lk.rd (Lk.openB a0k a1).1).2.1 - a0a)))) (Lk.rd (Lk.openB a0k a1).1).2.1 a0d (mput a0h [(Lk.rd (Lk.openB a0k a1).1).1] (Lk.rd (Lk.openB a0k a1).1).2.2.1) true a0f)).1.held) true),(.cells (Lk.deliver (Lk.E.mk a0w a0k (a0l.drop (Int.toNat (IntKind.i64.wrap ((Lk.rd (Lk.openB a0k a1).1).2.1 - a0a)))) (Lk.rd (Lk.openB a0k a1).1).2.1 a0d (mput a0h [(Lk.rd (Lk.openB a0k a1).1).1] (Lk.rd (Lk.openB a0k a1).1).2.2.1) true a0f)).2.length (.rL .u8 (Lk.deliver (Lk.E.mk a0w a0k (a0l.drop (Int.toNat (IntKind.i64.wrap ((Lk.rd (Lk.openB a0k a1).1).2.1 - a0a)))) (Lk.rd (Lk.openB a0k a1).1).2.1 a0d (mput a0h [(Lk.rd (Lk.openB a0k a1).1).1] (Lk.rd (Lk.openB a0k a1).1).2.2.1) true a0f)).2) true),(.cells (Lk.deliver (Lk.E.mk a0w a0k (a0l.drop (Int.toNat (IntKind.i64.wrap ((Lk.rd (Lk.openB a0k a1).1).2.1 - a0a)))) (Lk.rd (Lk.openB a0k a1).1).2.1 a0d (mput a0h [(Lk.rd (Lk.openB a0k a1).1).1] (Lk.rd (Lk.openB a0k a1).1).2.2.1) true a0f)).1.wait.length (.rL .u8 (Lk.deliver (Lk.E.mk a0w a0k (a0l.drop (Int.toNat (IntKind.i64.wrap ((Lk.rd (Lk.openB a0k a1).1).2.1 - a0a)))) (Lk.rd (Lk.openB a0k a1).1).2.1 a0d (mput a0h [(Lk.rd (Lk.openB a0k a1).1).1] (Lk.rd (Lk.openB a0k a1).1).2.2.1) true a0f)).1.wait) true)])) none) none) (cond (Lk.fine (Lk.E.mk a0w a0k (a0l.drop (Int.toNat (IntKind.i64.wrap ((Lk.rd (Lk.openB a0k a1).1).2.1 - a0a)))) (Lk.rd (Lk.openB a0k a1).1).2.1 a0d a0h true a0f)) (some ((.tup (.cons 0 (.own 3 0 1) (.cons 0 (.int .i64 (0 : Int)) .nil))),[(.cells 8 (.segs (.cons 1 (.one (.int .i64 (Lk.deliver (Lk.E.mk a0w a0k (a0l.drop (Int.toNat (IntKind.i64.wrap ((Lk.rd (Lk.openB a0k a1).1).2.1 - a0a)))) (Lk.rd (Lk.openB a0k a1).1).2.1 a0d a0h true a0f)).1.win)) (.cons 1 (.one (.int .u64 (Lk.deliver (Lk.E.mk a0w a0k (a0l.drop (Int.toNat (IntKind.i64.wrap ((Lk.rd (Lk.openB a0k a1).1).2.1 - a0a)))) (Lk.rd (Lk.openB a0k a1).1).2.1 a0d a0h true a0f)).1.key)) (.cons 1 (.one (.own 4 0 1)) (.cons 1 (.one (.int .i64 (Lk.deliver (Lk.E.mk a0w a0k (a0l.drop (Int.toNat (IntKind.i64.wrap ((Lk.rd (Lk.openB a0k a1).1).2.1 - a0a)))) (Lk.rd (Lk.openB a0k a1).1).2.1 a0d a0h true a0f)).1.ack)) (.cons 1 (.one (.int .i64 (Lk.deliver (Lk.E.mk a0w a0k (a0l.drop (Int.toNat (IntKind.i64.wrap ((Lk.rd (Lk.openB a0k a1).1).2.1 - a0a)))) (Lk.rd (Lk.openB a0k a1).1).2.1 a0d a0h true a0f)).1.del)) (.cons 1 (.one (.mp 2)) (.cons 1 (.one (.bool (Lk.deliver (Lk.E.mk a0w a0k (a0l.drop (Int.toNat (IntKind.i64.wrap ((Lk.rd (Lk.openB a0k a1).1).2.1 - a0a)))) (Lk.rd (Lk.openB a0k a1).1).2.1 a0d a0h true a0f)).1.owes)) (.cons 1 (.one (.int .i64 (Lk.deliver (Lk.E.mk a0w a0k (a0l.drop (Int.toNat (IntKind.i64.wrap ((Lk.rd (Lk.openB a0k a1).1).2.1 - a0a)))) (Lk.rd (Lk.openB a0k a1).1).2.1 a0d a0h true a0f)).1.forged)) .nil))))))))) true),.gone,(.cells 0 (.rM .i64 0 (.sl .u8) (Lk.deliver (Lk.E.mk a0w a0k (a0l.drop (Int.toNat (IntKind.i64.wrap ((Lk.rd (Lk.openB a0k a1).1).2.1 - a0a)))) (Lk.rd (Lk.openB a0k a1).1).2.1 a0d a0h true a0f)).1.held) true),(.cells (Lk.deliver (Lk.E.mk a0w a0k (a0l.drop (Int.toNat (IntKind.i64.wrap ((Lk.rd (Lk.openB a0k a1).1).2.1 - a0a)))) (Lk.rd (Lk.openB a0k a1).1).2.1 a0d a0h true a0f)).2.length (.rL .u8 (Lk.deliver (Lk.E.mk a0w a0k (a0l.drop (Int.toNat (IntKind.i64.wrap ((Lk.rd (Lk.openB a0k a1).1).2.1 - a0a)))) (Lk.rd (Lk.openB a0k a1).1).2.1 a0d a0h true a0f)).2) true),(.cells (Lk.deliver (Lk.E.mk a0w a0k (a0l.drop (Int.toNat (IntKind.i64.wrap ((Lk.rd (Lk.openB a0k a1).1).2.1 - a0a)))) (Lk.rd (Lk.openB a0k a1).1).2.1 a0d a0h true a0f)).1.wait.length (.rL .u8 (Lk.deliver (Lk.E.mk a0w a0k (a0l.drop (Int.toNat (IntKind.i64.wrap ((Lk.rd (Lk.openB a0k a1).1).2.1 - a0a)))) (Lk.rd (Lk.openB a0k a1).1).2.1 a0d a0h true a0f)).1.wait) true)])) none)) (cond (Lk.fine (Lk.E.mk a0w a0k (a0l.drop (Int.toNat (IntKind.i64.wrap ((Lk.rd (Lk.openB a0k a1).1).2.1 - a0a)))) (Lk.rd (Lk.openB a0k a1).1).2.1 a0d a0h true a0f)) (some ((.tup (.cons 0 (.own 3 0 1) (.cons 0 (.int .i64 (0 : Int)) .nil))),[(.cells 8 (.segs (.cons 1 (.one (.int .i64 (Lk.deliver (Lk.E.mk a0w a0k (a0l.drop (Int.toNat (IntKind.i64.wrap ((Lk.rd (Lk.openB a0k a1).1).2.1 - a0a)))) (Lk.rd (Lk.openB a0k a1).1).2.1 a0d a0h true a0f)).1.win)) (.cons 1 (.one (.int .u64 (Lk.deliver (Lk.E.mk a0w a0k (a0l.drop (Int.toNat (IntKind.i64.wrap ((Lk.rd (Lk.openB a0k a1).1).2.1 - a0a)))) (Lk.rd (Lk.openB a0k a1).1).2.1 a0d a0h true a0f)).1.key)) (.cons 1 (.one (.own 4 0 1)) (.cons 1 (.one (.int .i64 (Lk.deliver (Lk.E.mk a0w a0k (a0l.drop (Int.toNat (IntKind.i64.wrap ((Lk.rd (Lk.openB a0k a1).1).2.1 - a0a)))) (Lk.rd (Lk.openB a0k a1).1).2.1 a0d a0h true a0f)).1.ack)) (.cons 1 (.one (.int .i64 (Lk.deliver (Lk.E.mk a0w a0k (a0l.drop (Int.toNat (IntKind.i64.wrap ((Lk.rd (Lk.openB a0k a1).1).2.1 - a0a)))) (Lk.rd (Lk.openB a0k a1).1).2.1 a0d a0h true a0f)).1.del)) (.cons 1 (.one (.mp 2)) (.cons 1 (.one (.bool (Lk.deliver (Lk.E.mk a0w a0k (a0l.drop (Int.toNat (IntKind.i64.wrap ((Lk.rd (Lk.openB a0k a1).1).2.1 - a0a)))) (Lk.rd (Lk.openB a0k a1).1).2.1 a0d a0h true a0f)).1.owes)) (.cons 1 (.one (.int .i64 (Lk.deliver (Lk.E.mk a0w a0k (a0l.drop (Int.toNat (IntKind.i64.wrap ((Lk.rd (Lk.openB a0k a1).1).2.1 - a0a)))) (Lk.rd (Lk.openB a0k a1).1).2.1 a0d a0h true a0f)).1.forged)) .nil))))))))) true),.gone,(.cells 0 (.rM .i64 0 (.sl .u8) (Lk.deliver (Lk.E.mk a0w a0k (a0l.drop (Int.toNat (IntKind.i64.wrap ((Lk.rd (Lk.openB a0k a1).1).2.1 - a0a)))) (Lk.rd (Lk.openB a0k a1).1).2.1 a0d a0h true a0f)).1.held) true),(.cells (Lk.deliver (Lk.E.mk a0w a0k (a0l.drop (Int.toNat (IntKind.i64.wrap ((Lk.rd (Lk.openB a0k a1).1).2.1 - a0a)))) (Lk.rd (Lk.openB a0k a1).1).2.1 a0d a0h true a0f)).2.length (.rL .u8 (Lk.deliver (Lk.E.mk a0w a0k (a0l.drop (Int.toNat (IntKind.i64.wrap ((Lk.rd (Lk.openB a0k a1).1).2.1 - a0a)))) (Lk.rd (Lk.openB a0k a1).1).2.1 a0d a0h true a0f)).2) true),(.cells (Lk.deliver (Lk.E.mk a0w a0k (a0l.drop (Int.toNat (IntKind.i64.wrap ((Lk.rd (Lk.openB a0k a1).1).2.1 - a0a)))) (Lk.rd (Lk.openB a0k a1).1).2.1 a0d a0h true a0f)).1.wait.length (.rL .u8 (Lk.deliver (Lk.E.mk a0w a0k (a0l.drop (Int.toNat (IntKind.i64.wrap ((Lk.rd (Lk.openB a0k a1).1).2.1 - a0a)))) (Lk.rd (Lk.openB a0k a1).1).2.1 a0d a0h true a0f)).1.wait) true)])) none))) none) (cond ((Lk.rd (Lk.openB a0k a1).1).1 == (0 : Int)) (some ((.tup (.cons 0 (.own 3 0 1) (.cons 0 (.int .i64 (0 : Int)) .nil))),[(.cells 8 (.segs (.cons 1 (.one (.int .i64 a0w)) (.cons 1 (.one (.int .u64 a0k)) (.cons 1 (.one (.own 4 0 1)) (.cons 1 (.one (.int .i64 a0a)) (.cons 1 (.one (.int .i64 a0d)) (.cons 1 (.one (.mp 2)) (.cons 1 (.one (.bool a0o)) (.cons 1 (.one (.int .i64 a0f)) .nil))))))))) true),.gone,(.cells 0 (.rM .i64 0 (.sl .u8) a0h) true),(.cells 0 (.rL .u8 []) true),(.cells a0l.length (.rL .u8 a0l) true)])) (cond (decide ((Lk.rd (Lk.openB a0k a1).1).1 > a0d)) (cond (!(mhas a0h [(Lk.rd (Lk.openB a0k a1).1).1])) (cond (decide ((Lk.rd (Lk.openB a0k a1).1).2.2.1.length < 1073741000)) (cond (Lk.fine (Lk.E.mk a0w a0k a0l a0a a0d (mput a0h [(Lk.rd (Lk.openB a0k a1).1).1] (Lk.rd (Lk.openB a0k a1).1).2.2.1) true a0f)) (some ((.tup (.cons 0 (.own 3 0 1) (.cons 0 (.int .i64 (0 : Int)) .nil))),[(.cells 8 (.segs (.cons 1 (.one (.int .i64 (Lk.deliver (Lk.E.mk a0w a0k a0l a0a a0d (mput a0h [(Lk.rd (Lk.openB a0k a1).1).1] (Lk.rd (Lk.openB a0k a1).1).2.2.1) true a0f)).1.win)) (.cons 1 (.one (.int .u64 (Lk.deliver (Lk.E.mk a0w a0k a0l a0a a0d (mput a0h [(Lk.rd (Lk.openB a0k a1).1).1] (Lk.rd (Lk.openB a0k a1).1).2.2.1) true a0f)).1.key)) (.cons 1 (.one (.own 4 0 1)) (.cons 1 (.one (.int .i64 (Lk.deliver (Lk.E.mk a0w a0k a0l a0a a0d (mput a0h [(Lk.rd (Lk.openB a0k a1).1).1] (Lk.rd (Lk.openB a0k a1).1).2.2.1) true a0f)).1.ack)) (.cons 1 (.one (.int .i64 (Lk.deliver (Lk.E.mk a0w a0k a0l a0a a0d (mput a0h [(Lk.rd (Lk.openB a0k a1).1).1] (Lk.rd (Lk.openB a0k a1).1).2.2.1) true a0f)).1.del)) (.cons 1 (.one (.mp 2)) (.cons 1 (.one (.bool (Lk.deliver (Lk.E.mk a0w a0k a0l a0a a0d (mput a0h [(Lk.rd (Lk.openB a0k a1).1).1] (Lk.rd (Lk.openB a0k a1).1).2.2.1) true a0f)).1.owes)) (.cons 1 (.one (.int .i64 (Lk.deliver (Lk.E.mk a0w a0k a0l a0a a0d (mput a0h [(Lk.rd (Lk.openB a0k a1).1).1] (Lk.rd (Lk.openB a0k a1).1).2.2.1) true a0f)).1.forged)) .nil))))))))) true),.gone,(.cells 0 (.rM .i64 0 (.sl .u8) (Lk.deliver (Lk.E.mk a0w a0k a0l a0a a0d (mput a0h [(Lk.rd (Lk.openB a0k a1).1).1] (Lk.rd (Lk.openB a0k a1).1).2.2.1) true a0f)).1.held) true),(.cells (Lk.deliver (Lk.E.mk a0w a0k a0l a0a a0d (mput a0h [(Lk.rd (Lk.openB a0k a1).1).1] (Lk.rd (Lk.openB a0k a1).1).2.2.1) true a0f)).2.length (.rL .u8 (Lk.deliver (Lk.E.mk a0w a0k a0l a0a a0d (mput a0h [(Lk.rd (Lk.openB a0k a1).1).1] (Lk.rd (Lk.openB a0k a1).1).2.2.1) true a0f)).2) true),(.cells (Lk.deliver (Lk.E.mk a0w a0k a0l a0a a0d (mput a0h [(Lk.rd (Lk.openB a0k a1).1).1] (Lk.rd (Lk.openB a0k a1).1).2.2.1) true a0f)).1.wait.length (.rL .u8 (Lk.deliver (Lk.E.mk a0w a0k a0l a0a a0d (mput a0h [(Lk.rd (Lk.openB a0k a1).1).1] (Lk.rd (Lk.openB a0k a1).1).2.2.1) true a0f)).1.wait) true)])) none) none) (cond (Lk.fine (Lk.E.mk a0w a0k a0l a0a a0d a0h true a0f)) (some ((.tup (.cons 0 (.own 3 0 1) (.cons 0 (.int .i64 (0 : Int)) .nil))),[(Lk.bE ((Lk.deliver (Lk.E.mk a0w a0k a0l a0a a0d a0h true a0f)).1) 4 2),.gone,(.cells 0 (.rM .i64 0 (.sl .u8) (Lk.deliver (Lk.E.mk a0w a0k a0l a0a a0d a0h true a0f)).1.held) true),(.cells (Lk.deliver (Lk.E.mk a0w a0k a0l a0a a0d a0h true a0f)).2.length (.rL .u8 (Lk.deliver (Lk.E.mk a0w a0k a0l a0a a0d a0h true a0f)).2) true),(.cells (Lk.deliver (Lk.E.mk a0w a0k a0l a0a a0d a0h true a0f)).1.wait.length (.rL .u8 (Lk.deliver (Lk.E.mk a0w a0k a0l a0a a0d a0h true a0f)).1.wait) true)])) none)) (cond (Lk.fine (Lk.E.mk a0w a0k a0l a0a a0d a0h true a0f)) (some ((.tup (.cons 0 (.own 3 0 1) (.cons 0 (.int .i64 (0 : Int)) .nil))),[(Lk.bE ((Lk.deliver (Lk.E.mk a0w a0k a0l a0a a0d a0h true a0f)).1) 4 2),.gone,(.cells 0 (.rM .i64 0 (.sl .u8) (Lk.deliver (Lk.E.mk a0w a0k a0l a0a a0d a0h true a0f)).1.held) true),(.cells (Lk.deliver (Lk.E.mk a0w a0k a0l a0a a0d a0h true a0f)).2.length (.rL .u8 (Lk.deliver (Lk.E.mk a0w a0k a0l a0a a0d a0h true a0f)).2) true),(.cells (Lk.deliver (Lk.E.mk a0w a0k a0l a0a a0d a0h true a0f)).1.wait.length (.rL .u8 (Lk.deliver (Lk.E.mk a0w a0k a0l a0a a0d a0h true a0f)).1.wait) true)])) none))))))) none)) none)
theorem f19_1_eq (F : Nat) : ∀ v,aexec VG3419 (Af19 F) (sub (bodyOf Try.f19) []) (ef19_a v) (kFin VG3419 (some [(4,(.own 33)),(5,.plain),(0,(.touch 2))]) (Try.f19).results.toList) = f19_1 F v := by
  rintro ⟨a0w,a0k,a0l,a0a,a0d,a0h,a0o,a0f,a1⟩; kernel_rfl
def f19 (F : Nat) : Ty20 → Rz := f19_1 F
theorem f19_body (F : Nat) (a0w : Int) (a0k : Int) (a0l : List (List Int)) (a0a : Int) (a0d : Int) (a0h : List (List Int × List Int)) (a0o : Bool) (a0f : Int) (a1 : List Int) : abody VG3419 (Af19 F) Try.f19 [(.ptr 0 0 8 0 0 0 8),(.vs (.rI .u8 a1) 0 1)] [(.cells 8 (.segs (.cons 1 (.one (.int .i64 a0w)) (.cons 1 (.one (.int .u64 a0k)) (.cons 1 (.one (.own 1 0 1)) (.cons 1 (.one (.int .i64 a0a)) (.cons 1 (.one (.int .i64 a0d)) (.cons 1 (.one (.mp 2)) (.cons 1 (.one (.bool a0o)) (.cons 1 (.one (.int .i64 a0f)) .nil))))))))) true),(.cells a0l.length (.rL .u8 a0l) true),(.cells 0 (.rM .i64 0 (.sl .u8) a0h) true)] = f19 F (a0w,a0k,a0l,a0a,a0d,a0h,a0o,a0f,a1) :=
  (abody_in (c := (sub (bodyOf Try.f19) [])) (by kernel_rfl) (s := ef19_a (a0w,a0k,a0l,a0a,a0d,a0h,a0o,a0f,a1)) (by kernel_rfl)).trans (f19_1_eq F (a0w,a0k,a0l,a0a,a0d,a0h,a0o,a0f,a1))
def r19 : CRun := fun X H => match X,H with
  | [(.ptr 0 0 8 0 0 0 8),(.vs (.rI .u8 a1) 0 1)],[(.cells 8 (.segs (.cons 1 (.one (.int .i64 a0w)) (.cons 1 (.one (.int .u64 a0k)) (.cons 1 (.one (.own 1 0 1)) (.cons 1 (.one (.int .i64 a0a)) (.cons 1 (.one (.int .i64 a0d)) (.cons 1 (.one (.mp 2)) (.cons 1 (.one (.bool a0o)) (.cons 1 (.one (.int .i64 a0f)) .nil))))))))) true),(.cells z1 (.rL .u8 a0l) true),(.cells 0 (.rM .i64 0 (.sl .u8) a0h) true)] => some ((Lk.room (Lk.E.mk a0w a0k a0l a0a a0d a0h a0o a0f)) && (decide (a1.length < 1073740000)),(.tup (.cons 0 (.own 3 0 1) (.cons 0 (.int .i64 (Lk.recv (Lk.E.mk a0w a0k a0l a0a a0d a0h a0o a0f) a1).2.2) .nil))),[(Lk.bE ((Lk.recv (Lk.E.mk a0w a0k a0l a0a a0d a0h a0o a0f) a1).1) 4 2),.gone,(.cells 0 (.rM .i64 0 (.sl .u8) (Lk.recv (Lk.E.mk a0w a0k a0l a0a a0d a0h a0o a0f) a1).1.held) true),(.cells (Lk.recv (Lk.E.mk a0w a0k a0l a0a a0d a0h a0o a0f) a1).2.1.length (.rL .u8 (Lk.recv (Lk.E.mk a0w a0k a0l a0a a0d a0h a0o a0f) a1).2.1) true),(.cells (Lk.recv (Lk.E.mk a0w a0k a0l a0a a0d a0h a0o a0f) a1).1.wait.length (.rL .u8 (Lk.recv (Lk.E.mk a0w a0k a0l a0a a0d a0h a0o a0f) a1).1.wait) true)])
  | _,_ => none
theorem s19 (a0w : Int) (a0k : Int) (a0l : List (List Int)) (a0a : Int) (a0d : Int) (a0h : List (List Int × List Int)) (a0o : Bool) (a0f : Int) (a1 : List Int) (hp : ((Lk.room (Lk.E.mk a0w a0k a0l a0a a0d a0h a0o a0f)) && (decide (a1.length < 1073740000))) = true) (h1 : okV (.vs (.rI .u8 a1) 0 1)) (k0 : okB (.cells 8 (.segs (.cons 1 (.one (.int .i64 a0w)) (.cons 1 (.one (.int .u64 a0k)) (.cons 1 (.one (.own 1 0 1)) (.cons 1 (.one (.int .i64 a0a)) (.cons 1 (.one (.int .i64 a0d)) (.cons 1 (.one (.mp 2)) (.cons 1 (.one (.bool a0o)) (.cons 1 (.one (.int .i64 a0f)) .nil))))))))) true)) (k1 : okB (.cells a0l.length (.rL .u8 a0l) true)) (k2 : okB (.cells 0 (.rM .i64 0 (.sl .u8) a0h) true)) : ∃ F,f19 F (a0w,a0k,a0l,a0a,a0d,a0h,a0o,a0f,a1) = some ((.tup (.cons 0 (.own 3 0 1) (.cons 0 (.int .i64 (Lk.recv (Lk.E.mk a0w a0k a0l a0a a0d a0h a0o a0f) a1).2.2) .nil))),[(Lk.bE ((Lk.recv (Lk.E.mk a0w a0k a0l a0a a0d a0h a0o a0f) a1).1) 4 2),.gone,(.cells 0 (.rM .i64 0 (.sl .u8) (Lk.recv (Lk.E.mk a0w a0k a0l a0a a0d a0h a0o a0f) a1).1.held) true),(.cells (Lk.recv (Lk.E.mk a0w a0k a0l a0a a0d a0h a0o a0f) a1).2.1.length (.rL .u8 (Lk.recv (Lk.E.mk a0w a0k a0l a0a a0d a0h a0o a0f) a1).2.1) true),(.cells (Lk.recv (Lk.E.mk a0w a0k a0l a0a a0d a0h a0o a0f) a1).1.wait.length (.rL .u8 (Lk.recv (Lk.E.mk a0w a0k a0l a0a a0d a0h a0o a0f) a1).1.wait) true)]) := by
  rw [Bool.and_eq_true,decide_eq_true_eq] at hp
  obtain ⟨hp,hl⟩ := hp
  obtain ⟨q1,q2,q3,q4,q5,q6,q7⟩ := Lk.fineN_iff.1 hp
  simp only at q1 q2 q3 q4 q5 q6 q7
  have hol := Lk.openB_len a0k a1
  refine ⟨0,?_⟩
  simp only [f19,f19_1,int_beq,int_bne]
  rw [cond_pos hl]
  by_cases h1 : (Lk.openB a0k a1).2 = 0
  · rw [cond_neg (by simpa using h1),cond_pos (by omega)]
    generalize hrd : Lk.rd (Lk.openB a0k a1).1 = rd
    obtain ⟨s,a,b,ok⟩ := rd
    simp only
    cases ok with
    | false =>
      rw [Bool.not_false,cond_true]
      simp only [Lk.recv,h1,hrd,if_pos,if_neg,Bool.false_eq_true,if_false,if_true]
      rfl
    | true =>
      have hv := Lk.rd_valid (c := (Lk.openB a0k a1).1) (by rw [hrd])
      rw [hrd] at hv
      simp only at hv
      obtain ⟨v1,v2,v3⟩ := hv
      have er : Lk.recv (Lk.E.mk a0w a0k a0l a0a a0d a0h a0o a0f) a1 = ((Lk.take (Lk.E.mk a0w a0k a0l a0a a0d a0h a0o a0f) s a b).1,(Lk.take (Lk.E.mk a0w a0k a0l a0a a0d a0h a0o a0f) s a b).2,0) := by
        simp only [Lk.recv,h1,hrd,if_true]
      rw [er]
      rw [Bool.not_true,cond_false,i64w (x := a0a + (a0l.length : Int)) (by omega) (by omega),i64w (x := a0d + 16) (by omega) (by omega)]
      by_cases h2 : a0a + (a0l.length : Int) < a
      · rw [cond_pos h2]
        simp only [Lk.take,if_pos (show (a0a + (a0l.length : Int) < a ∨ a0d + 16 < s) from .inl h2)]
        rfl
      rw [cond_neg h2]
      by_cases h3 : a0d + 16 < s
      · rw [cond_pos h3]
        simp only [Lk.take,if_pos (show (a0a + (a0l.length : Int) < a ∨ a0d + 16 < s) from .inr h3)]
        rfl
      rw [cond_neg h3,i64w (x := a - a0a) (by omega) (by omega)]
      have et : Lk.take (Lk.E.mk a0w a0k a0l a0a a0d a0h a0o a0f) s a b = if s = 0 then (Lk.acked (Lk.E.mk a0w a0k a0l a0a a0d a0h a0o a0f) a,[]) else Lk.deliver (Lk.hold { Lk.acked (Lk.E.mk a0w a0k a0l a0a a0d a0h a0o a0f) a with owes := true } s b) := by
        simp only [Lk.take,if_neg (show ¬ (a0a + (a0l.length : Int) < a ∨ a0d + 16 < s) by omega)]
      rw [et]
      have fin : ∀ (l' : List (List Int)) (a' : Int) (h' : List (List Int × List Int)),l'.length ≤ a0l.length → (∀ x ∈ l',x ∈ a0l) → 0 ≤ a' → a' < 536870912 + 1001 → h'.length ≤ a0h.length + 1 → Lk.fine (Lk.E.mk a0w a0k l' a' a0d h' true a0f) = true := by
        intro l' a' h' g1 g2 g3 g4 g5
        exact Lk.fineN_iff.2 ⟨q1,⟨g3,by simp only; omega⟩,⟨q3.1,by simp only; omega⟩,⟨q4.1,by simp only; omega⟩,by simp only; omega,fun x hx => q6 x (g2 x hx),by simp only; omega⟩
      have hml := Lk.mput_len a0h [s] b
      by_cases h4 : 0 < a - a0a
      · have ea : Lk.acked (Lk.E.mk a0w a0k a0l a0a a0d a0h a0o a0f) a = Lk.E.mk a0w a0k (a0l.drop (a - a0a).toNat) a a0d a0h a0o a0f := by
          simp only [Lk.acked,if_pos h4]
        rw [ea,cond_pos h4]
        simp only [dec_and]
        rw [cond_pos (by first | omega | (refine ⟨⟨⟨?_,?_⟩,?_⟩,?_⟩ <;> first | trivial | omega))]
        have hdl : (a0l.drop (a - a0a).toNat).length ≤ a0l.length := by rw [List.length_drop]; omega
        have hdm : ∀ x ∈ a0l.drop (a - a0a).toNat,x ∈ a0l := fun x hx => List.mem_of_mem_drop hx
        by_cases h5 : s = 0
        · rw [cond_pos h5,if_pos h5]
          rfl
        rw [cond_neg h5,if_neg h5]
        by_cases h6 : a0d < s
        · rw [cond_pos h6]
          cases hh : mhas a0h [s] with
          | false =>
            rw [Bool.not_false,cond_true,cond_pos (by omega),fin _ _ _ hdl hdm (by omega) (by omega) hml,cond_true]
            simp only [Lk.hold,if_pos (show a0d < s ∧ mhas a0h [s] = false from ⟨h6,hh⟩)]
          | true =>
            rw [Bool.not_true,cond_false,fin _ _ _ hdl hdm (by omega) (by omega) (by omega),cond_true]
            simp only [Lk.hold,if_neg (show ¬ (a0d < s ∧ mhas a0h [s] = false) by rw [hh]; simp)]
        · rw [cond_neg h6,fin _ _ _ hdl hdm (by omega) (by omega) (by omega),cond_true]
          simp only [Lk.hold,if_neg (show ¬ (a0d < s ∧ mhas a0h [s] = false) from fun h => h6 h.1)]
      · have ea : Lk.acked (Lk.E.mk a0w a0k a0l a0a a0d a0h a0o a0f) a = Lk.E.mk a0w a0k a0l a0a a0d a0h a0o a0f := by
          simp only [Lk.acked,if_neg h4]
        rw [ea,cond_neg h4]
        by_cases h5 : s = 0
        · rw [cond_pos h5,if_pos h5]
          rfl
        rw [cond_neg h5,if_neg h5]
        by_cases h6 : a0d < s
        · rw [cond_pos h6]
          cases hh : mhas a0h [s] with
          | false =>
            rw [Bool.not_false,cond_true,cond_pos (by omega),fin _ _ _ (Nat.le_refl _) (fun _ h => h) (by omega) (by omega) hml,cond_true]
            simp only [Lk.hold,if_pos (show a0d < s ∧ mhas a0h [s] = false from ⟨h6,hh⟩)]
          | true =>
            rw [Bool.not_true,cond_false,fin _ _ _ (Nat.le_refl _) (fun _ h => h) (by omega) (by omega) (by omega),cond_true]
            simp only [Lk.hold,if_neg (show ¬ (a0d < s ∧ mhas a0h [s] = false) by rw [hh]; simp)]
        · rw [cond_neg h6,fin _ _ _ (Nat.le_refl _) (fun _ h => h) (by omega) (by omega) (by omega),cond_true]
          simp only [Lk.hold,if_neg (show ¬ (a0d < s ∧ mhas a0h [s] = false) from fun h => h6 h.1)]
  · rw [cond_pos h1]
    by_cases h9 : (Lk.openB a0k a1).2 = 9
    · rw [cond_pos h9,i64w (by omega) (by omega)]
      simp only [Lk.recv,h9,if_neg (show ¬ ((9 : Int) = 0) by decide),if_true]
      rfl
    · rw [cond_neg h9]
      simp only [Lk.recv,if_neg h1,if_neg h9]
      rfl

theorem c19 : CallOk Try.prog G34 19 r19 := callOk_of (V := VG3419) mixed tys eVG3419 (f := 19) (fn := Try.f19) Try.func19 (by kernel_rfl) (c := sub (bodyOf Try.f19) []) (by kernel_rfl) (by
  intro X H r H' h hX hH
  unfold r19 at h; split at h <;> try contradiction
  · simp only [Option.some.injEq,Prod.mk.injEq] at h
    obtain ⟨hp,rfl,rfl⟩ := h
    obtain rfl := okB_size (hH _ (.tail _ (.head _))) rfl
    obtain ⟨F,hF⟩ := s19 _ _ _ _ _ _ _ _ _ hp (hX _ (.tail _ (.head _))) (hH _ (.head _)) (hH _ (.tail _ (.head _))) (hH _ (.tail _ (.tail _ (.head _))))
    exact ⟨Af19 F,(f19_body F _ _ _ _ _ _ _ _ _).trans hF⟩)
def lVG3421 : List CEnt := []
def VG3421 : Env := mkEnv T34 G34 lVG3421
theorem eVG3421 : EOk Try.prog VG3421 := eok_mk (by exact trivial)
def Af21 (F : Nat) : Cuts := { F := F,at_ := fun _ => none,join := fun _ => none }
def ef21_a : Ty22 → St := fun (a0w,a0k,a0l,a0a,a0d,a0h,a0o,a0f) => { tmps := [(0,(.ptr 0 0 8 0 0 0 8))],heap := [(0,(.cells 8 (.segs (.cons 1 (.one (.int .i64 a0w)) (.cons 1 (.one (.int .u64 a0k)) (.cons 1 (.one (.own 1 0 1)) (.cons 1 (.one (.int .i64 a0a)) (.cons 1 (.one (.int .i64 a0d)) (.cons 1 (.one (.mp 2)) (.cons 1 (.one (.bool a0o)) (.cons 1 (.one (.int .i64 a0f)) .nil))))))))) true)),(1,(.cells a0l.length (.rL .u8 a0l) true)),(2,(.cells 0 (.rM .i64 0 (.sl .u8) a0h) true))],next := 3,nt := 8,m := 3 }
def f21_1 (F : Nat) : Ty22 → Rz := fun (a0w,a0k,a0l,a0a,a0d,a0h,a0o,a0f) => (some ((.int .i64 (↑a0l.length : Int)),[(.cells 8 (.segs (.cons 1 (.one (.int .i64 a0w)) (.cons 1 (.one (.int .u64 a0k)) (.cons 1 (.one (.own 1 0 1)) (.cons 1 (.one (.int .i64 a0a)) (.cons 1 (.one (.int .i64 a0d)) (.cons 1 (.one (.mp 2)) (.cons 1 (.one (.bool a0o)) (.cons 1 (.one (.int .i64 a0f)) .nil))))))))) true),(.cells a0l.length (.rL .u8 a0l) true),(.cells 0 (.rM .i64 0 (.sl .u8) a0h) true)]))
theorem f21_1_eq (F : Nat) : ∀ v,aexec VG3421 (Af21 F) (sub (bodyOf Try.f21) []) (ef21_a v) (kFin VG3421 none (Try.f21).results.toList) = f21_1 F v := by
  rintro ⟨a0w,a0k,a0l,a0a,a0d,a0h,a0o,a0f⟩; kernel_rfl
def f21 (F : Nat) : Ty22 → Rz := f21_1 F
theorem f21_body (F : Nat) (a0w : Int) (a0k : Int) (a0l : List (List Int)) (a0a : Int) (a0d : Int) (a0h : List (List Int × List Int)) (a0o : Bool) (a0f : Int) : abody VG3421 (Af21 F) Try.f21 [(.ptr 0 0 8 0 0 0 8)] [(.cells 8 (.segs (.cons 1 (.one (.int .i64 a0w)) (.cons 1 (.one (.int .u64 a0k)) (.cons 1 (.one (.own 1 0 1)) (.cons 1 (.one (.int .i64 a0a)) (.cons 1 (.one (.int .i64 a0d)) (.cons 1 (.one (.mp 2)) (.cons 1 (.one (.bool a0o)) (.cons 1 (.one (.int .i64 a0f)) .nil))))))))) true),(.cells a0l.length (.rL .u8 a0l) true),(.cells 0 (.rM .i64 0 (.sl .u8) a0h) true)] = f21 F (a0w,a0k,a0l,a0a,a0d,a0h,a0o,a0f) :=
  (abody_in (c := (sub (bodyOf Try.f21) [])) (by kernel_rfl) (s := ef21_a (a0w,a0k,a0l,a0a,a0d,a0h,a0o,a0f)) (by kernel_rfl)).trans (f21_1_eq F (a0w,a0k,a0l,a0a,a0d,a0h,a0o,a0f))
def r21 : CRun := fun X H => match X,H with
  | [(.ptr 0 0 8 0 0 0 8)],[(.cells 8 (.segs (.cons 1 (.one (.int .i64 a0w)) (.cons 1 (.one (.int .u64 a0k)) (.cons 1 (.one (.own 1 0 1)) (.cons 1 (.one (.int .i64 a0a)) (.cons 1 (.one (.int .i64 a0d)) (.cons 1 (.one (.mp 2)) (.cons 1 (.one (.bool a0o)) (.cons 1 (.one (.int .i64 a0f)) .nil))))))))) true),(.cells z1 (.rL .u8 a0l) true),(.cells 0 (.rM .i64 0 (.sl .u8) a0h) true)] => some ((Lk.room (Lk.E.mk a0w a0k a0l a0a a0d a0h a0o a0f)),(.int .i64 (a0l.length : Int)),[(Lk.bE (Lk.E.mk a0w a0k a0l a0a a0d a0h a0o a0f) 1 2),(.cells (Lk.E.mk a0w a0k a0l a0a a0d a0h a0o a0f).wait.length (.rL .u8 (Lk.E.mk a0w a0k a0l a0a a0d a0h a0o a0f).wait) true),(.cells 0 (.rM .i64 0 (.sl .u8) (Lk.E.mk a0w a0k a0l a0a a0d a0h a0o a0f).held) true)])
  | _,_ => none
theorem s21 (a0w : Int) (a0k : Int) (a0l : List (List Int)) (a0a : Int) (a0d : Int) (a0h : List (List Int × List Int)) (a0o : Bool) (a0f : Int) (hp : ((Lk.room (Lk.E.mk a0w a0k a0l a0a a0d a0h a0o a0f))) = true) (k0 : okB (.cells 8 (.segs (.cons 1 (.one (.int .i64 a0w)) (.cons 1 (.one (.int .u64 a0k)) (.cons 1 (.one (.own 1 0 1)) (.cons 1 (.one (.int .i64 a0a)) (.cons 1 (.one (.int .i64 a0d)) (.cons 1 (.one (.mp 2)) (.cons 1 (.one (.bool a0o)) (.cons 1 (.one (.int .i64 a0f)) .nil))))))))) true)) (k1 : okB (.cells a0l.length (.rL .u8 a0l) true)) (k2 : okB (.cells 0 (.rM .i64 0 (.sl .u8) a0h) true)) : ∃ F,f21 F (a0w,a0k,a0l,a0a,a0d,a0h,a0o,a0f) = some ((.int .i64 (a0l.length : Int)),[(Lk.bE (Lk.E.mk a0w a0k a0l a0a a0d a0h a0o a0f) 1 2),(.cells (Lk.E.mk a0w a0k a0l a0a a0d a0h a0o a0f).wait.length (.rL .u8 (Lk.E.mk a0w a0k a0l a0a a0d a0h a0o a0f).wait) true),(.cells 0 (.rM .i64 0 (.sl .u8) (Lk.E.mk a0w a0k a0l a0a a0d a0h a0o a0f).held) true)]) := by
  exact ⟨0,rfl⟩

theorem c21 : CallOk Try.prog G34 21 r21 := callOk_of (V := VG3421) mixed tys eVG3421 (f := 21) (fn := Try.f21) Try.func21 (by kernel_rfl) (c := sub (bodyOf Try.f21) []) (by kernel_rfl) (by
  intro X H r H' h hX hH
  unfold r21 at h; split at h <;> try contradiction
  · simp only [Option.some.injEq,Prod.mk.injEq] at h
    obtain ⟨hp,rfl,rfl⟩ := h
    obtain rfl := okB_size (hH _ (.tail _ (.head _))) rfl
    obtain ⟨F,hF⟩ := s21 _ _ _ _ _ _ _ _ hp (hH _ (.head _)) (hH _ (.tail _ (.head _))) (hH _ (.tail _ (.tail _ (.head _))))
    exact ⟨Af21 F,(f21_body F _ _ _ _ _ _ _ _).trans hF⟩)
def lVG3422 : List CEnt := []
def VG3422 : Env := mkEnv T34 G34 lVG3422
theorem eVG3422 : EOk Try.prog VG3422 := eok_mk (by exact trivial)
def Af22 (F : Nat) : Cuts := { F := F,at_ := fun _ => none,join := fun _ => none }
def ef22_a : Ty22 → St := fun (a0w,a0k,a0l,a0a,a0d,a0h,a0o,a0f) => { tmps := [(0,(.ptr 0 0 8 0 0 0 8))],heap := [(0,(.cells 8 (.segs (.cons 1 (.one (.int .i64 a0w)) (.cons 1 (.one (.int .u64 a0k)) (.cons 1 (.one (.own 1 0 1)) (.cons 1 (.one (.int .i64 a0a)) (.cons 1 (.one (.int .i64 a0d)) (.cons 1 (.one (.mp 2)) (.cons 1 (.one (.bool a0o)) (.cons 1 (.one (.int .i64 a0f)) .nil))))))))) true)),(1,(.cells a0l.length (.rL .u8 a0l) true)),(2,(.cells 0 (.rM .i64 0 (.sl .u8) a0h) true))],next := 3,nt := 7,m := 3 }
def f22_1 (F : Nat) : Ty22 → Rz := fun (a0w,a0k,a0l,a0a,a0d,a0h,a0o,a0f) => (some ((.int .i64 a0f),[(.cells 8 (.segs (.cons 1 (.one (.int .i64 a0w)) (.cons 1 (.one (.int .u64 a0k)) (.cons 1 (.one (.own 1 0 1)) (.cons 1 (.one (.int .i64 a0a)) (.cons 1 (.one (.int .i64 a0d)) (.cons 1 (.one (.mp 2)) (.cons 1 (.one (.bool a0o)) (.cons 1 (.one (.int .i64 a0f)) .nil))))))))) true),(.cells a0l.length (.rL .u8 a0l) true),(.cells 0 (.rM .i64 0 (.sl .u8) a0h) true)]))
theorem f22_1_eq (F : Nat) : ∀ v,aexec VG3422 (Af22 F) (sub (bodyOf Try.f22) []) (ef22_a v) (kFin VG3422 none (Try.f22).results.toList) = f22_1 F v := by
  rintro ⟨a0w,a0k,a0l,a0a,a0d,a0h,a0o,a0f⟩; kernel_rfl
def f22 (F : Nat) : Ty22 → Rz := f22_1 F
theorem f22_body (F : Nat) (a0w : Int) (a0k : Int) (a0l : List (List Int)) (a0a : Int) (a0d : Int) (a0h : List (List Int × List Int)) (a0o : Bool) (a0f : Int) : abody VG3422 (Af22 F) Try.f22 [(.ptr 0 0 8 0 0 0 8)] [(.cells 8 (.segs (.cons 1 (.one (.int .i64 a0w)) (.cons 1 (.one (.int .u64 a0k)) (.cons 1 (.one (.own 1 0 1)) (.cons 1 (.one (.int .i64 a0a)) (.cons 1 (.one (.int .i64 a0d)) (.cons 1 (.one (.mp 2)) (.cons 1 (.one (.bool a0o)) (.cons 1 (.one (.int .i64 a0f)) .nil))))))))) true),(.cells a0l.length (.rL .u8 a0l) true),(.cells 0 (.rM .i64 0 (.sl .u8) a0h) true)] = f22 F (a0w,a0k,a0l,a0a,a0d,a0h,a0o,a0f) :=
  (abody_in (c := (sub (bodyOf Try.f22) [])) (by kernel_rfl) (s := ef22_a (a0w,a0k,a0l,a0a,a0d,a0h,a0o,a0f)) (by kernel_rfl)).trans (f22_1_eq F (a0w,a0k,a0l,a0a,a0d,a0h,a0o,a0f))
def r22 : CRun := fun X H => match X,H with
  | [(.ptr 0 0 8 0 0 0 8)],[(.cells 8 (.segs (.cons 1 (.one (.int .i64 a0w)) (.cons 1 (.one (.int .u64 a0k)) (.cons 1 (.one (.own 1 0 1)) (.cons 1 (.one (.int .i64 a0a)) (.cons 1 (.one (.int .i64 a0d)) (.cons 1 (.one (.mp 2)) (.cons 1 (.one (.bool a0o)) (.cons 1 (.one (.int .i64 a0f)) .nil))))))))) true),(.cells z1 (.rL .u8 a0l) true),(.cells 0 (.rM .i64 0 (.sl .u8) a0h) true)] => some (true,(.int .i64 a0f),[(Lk.bE (Lk.E.mk a0w a0k a0l a0a a0d a0h a0o a0f) 1 2),(.cells (Lk.E.mk a0w a0k a0l a0a a0d a0h a0o a0f).wait.length (.rL .u8 (Lk.E.mk a0w a0k a0l a0a a0d a0h a0o a0f).wait) true),(.cells 0 (.rM .i64 0 (.sl .u8) (Lk.E.mk a0w a0k a0l a0a a0d a0h a0o a0f).held) true)])
  | _,_ => none
theorem s22 (a0w : Int) (a0k : Int) (a0l : List (List Int)) (a0a : Int) (a0d : Int) (a0h : List (List Int × List Int)) (a0o : Bool) (a0f : Int) (k0 : okB (.cells 8 (.segs (.cons 1 (.one (.int .i64 a0w)) (.cons 1 (.one (.int .u64 a0k)) (.cons 1 (.one (.own 1 0 1)) (.cons 1 (.one (.int .i64 a0a)) (.cons 1 (.one (.int .i64 a0d)) (.cons 1 (.one (.mp 2)) (.cons 1 (.one (.bool a0o)) (.cons 1 (.one (.int .i64 a0f)) .nil))))))))) true)) (k1 : okB (.cells a0l.length (.rL .u8 a0l) true)) (k2 : okB (.cells 0 (.rM .i64 0 (.sl .u8) a0h) true)) : ∃ F,f22 F (a0w,a0k,a0l,a0a,a0d,a0h,a0o,a0f) = some ((.int .i64 a0f),[(Lk.bE (Lk.E.mk a0w a0k a0l a0a a0d a0h a0o a0f) 1 2),(.cells (Lk.E.mk a0w a0k a0l a0a a0d a0h a0o a0f).wait.length (.rL .u8 (Lk.E.mk a0w a0k a0l a0a a0d a0h a0o a0f).wait) true),(.cells 0 (.rM .i64 0 (.sl .u8) (Lk.E.mk a0w a0k a0l a0a a0d a0h a0o a0f).held) true)]) := by
  exact ⟨0,rfl⟩

theorem c22 : CallOk Try.prog G34 22 r22 := callOk_of (V := VG3422) mixed tys eVG3422 (f := 22) (fn := Try.f22) Try.func22 (by kernel_rfl) (c := sub (bodyOf Try.f22) []) (by kernel_rfl) (by
  intro X H r H' h hX hH
  unfold r22 at h; split at h <;> try contradiction
  · simp only [Option.some.injEq,Prod.mk.injEq] at h
    obtain ⟨hp,rfl,rfl⟩ := h
    obtain rfl := okB_size (hH _ (.tail _ (.head _))) rfl
    obtain ⟨F,hF⟩ := s22 _ _ _ _ _ _ _ _ (hH _ (.head _)) (hH _ (.tail _ (.head _))) (hH _ (.tail _ (.tail _ (.head _))))
    exact ⟨Af22 F,(f22_body F _ _ _ _ _ _ _ _).trans hF⟩)
end Go.Am
