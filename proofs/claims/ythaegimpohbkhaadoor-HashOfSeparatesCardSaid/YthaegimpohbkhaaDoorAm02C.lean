/- Part of a proof about the functions of the given program. -/
import Derived.Test.YthaegimpohbkhaaDoorAm02B
set_option linter.unusedVariables false
set_option linter.unusedSimpArgs false
namespace Go.Am
open Go Go.Proofs

/-! gantry/hash.Begin -/
def lVG0214 : List CEnt := []
def VG0214 : Env := mkEnv T02 G02 lVG0214
theorem eVG0214 : EOk Tryd.prog VG0214 := eok_mk (by exact trivial)
def Af14 (F : Nat) : Cuts := { F := F, at_ := fun _ => none, join := fun _ => none }
def ef14_a : Unit → St := fun _ => { tmps := [], heap := [], next := 0, nt := 3, m := 0 }
def f14_nt (F : Nat) : Unit → Option (AV × List Blk) := fun _ => (some ((.agg 73 (.segs (.cons 8 (.rI .u32 [(1779033703 : Int), (3144134277 : Int), (1013904242 : Int), (2773480762 : Int), (1359893119 : Int), (2600822924 : Int), (528734635 : Int), (1541459225 : Int)]) (.cons 64 (.rI .u8 (List.replicate 64 0)) (.cons 1 (.one (.int .u64 (0 : Int))) .nil))))), []))
theorem f14_nt_eq (F : Nat) : ∀ v, aexec VG0214 (Af14 F) (sub (bodyOf Tryd.f14) []) (ef14_a v) (kFin VG0214 0 (Tryd.f14).results.toList) = f14_nt F v := by
  intro _; kernel_rfl
/-- gantry/hash.Begin -/
def f14 (F : Nat) : Unit → Option (AV × List Blk) := f14_nt F
theorem f14_body (F : Nat)  : abody VG0214 (Af14 F) Tryd.f14 [] [] = f14 F () :=
  (abody_in (c := (sub (bodyOf Tryd.f14) [])) (by kernel_rfl) (s := ef14_a ()) (by kernel_rfl)).trans (f14_nt_eq F ())
def r14 : CRun := fun X H => match X, H with
  | [], [] => some (true, (.agg 73 (.segs (.cons 8 (.rI .u32 Sha.iv) (.cons 64 (.rI .u8 (List.replicate 64 0)) (.cons 1 (.one (.int .u64 (0 : Int))) .nil))))), [])
  | _, _ => none
theorem s14 : ∃ F, f14 F () = some ((.agg 73 (.segs (.cons 8 (.rI .u32 Sha.iv) (.cons 64 (.rI .u8 (List.replicate 64 0)) (.cons 1 (.one (.int .u64 (0 : Int))) .nil))))), []) := ⟨0, rfl⟩

theorem c14 : CallOk Tryd.prog G02 14 r14 := callOk_of (V := VG0214) mixed tys eVG0214 (f := 14) (fn := Tryd.f14) Tryd.func14 (by kernel_rfl) (c := sub (bodyOf Tryd.f14) []) (by kernel_rfl) (by
  intro X H r H' h hX hH
  unfold r14 at h; split at h <;> try contradiction
  simp only [Option.some.injEq, Prod.mk.injEq] at h
  obtain ⟨hp, rfl, rfl⟩ := h
  obtain ⟨F, hF⟩ := s14 
  exact ⟨Af14 F, (f14_body F).trans hF⟩)
/-! (gantry/hash.Stream).Add -/
def lVG0215 : List CEnt := [(30, [none, some 5], r30)]
def VG0215 : Env := mkEnv T02 G02 lVG0215
theorem eVG0215 : EOk Tryd.prog VG0215 := eok_mk (by exact ⟨c30, trivial⟩)
def Af15 (F : Nat) : Cuts := { F := F, at_ := fun n => match n with | 1020 => some [(1, .plain), (2, .plain), (4, .plain)] | _ => none, join := fun n => match n with | 1026 => some [(1, .plain), (2, .plain), (4, .plain)] | 8003 => some [(2, .plain), (4, .plain)] | _ => none }
def ef15_a : (List Int) × (List Int) × Int × (List Int) → St := fun (a0_0, a0_1, a0_2, a1) => { tmps := [(0, (.agg 73 (.segs (.cons 8 (.rI .u32 a0_0) (.cons 64 (.rI .u8 a0_1) (.cons 1 (.one (.int .u64 a0_2)) .nil)))))), (1, (.str a1))], heap := [], next := 0, nt := 38, m := 0 }
def ef15_j1026 : (List Int) × (List Int) × (List Int) × Int × (List Int) × (List Int) × Int → St := fun (t1, x2, x3, x4, x5, x6, x7) => { tmps := [(1, (.str t1)), (2, (.ptr 0 0 73 0 0 0 73)), (4, (.ptr 1 0 73 0 0 0 73))], heap := [(0, (.cells 73 (.segs (.cons 8 (.rI .u32 x2) (.cons 64 (.rI .u8 x3) (.cons 1 (.one (.int .u64 x4)) .nil)))) true)), (1, (.cells 73 (.segs (.cons 8 (.rI .u32 x5) (.cons 64 (.rI .u8 x6) (.cons 1 (.one (.int .u64 x7)) .nil)))) true))], next := 2, nt := 38, m := 0 }
def ef15_l1020 : (List Int) × (List Int) × (List Int) × Int × (List Int) × (List Int) × Int → St := fun (t1, x2, x3, x4, x5, x6, x7) => { tmps := [(1, (.str t1)), (2, (.ptr 0 0 73 0 0 0 73)), (4, (.ptr 1 0 73 0 0 0 73))], heap := [(0, (.cells 73 (.segs (.cons 8 (.rI .u32 x2) (.cons 64 (.rI .u8 x3) (.cons 1 (.one (.int .u64 x4)) .nil)))) true)), (1, (.cells 73 (.segs (.cons 8 (.rI .u32 x5) (.cons 64 (.rI .u8 x6) (.cons 1 (.one (.int .u64 x7)) .nil)))) true))], next := 2, nt := 38, m := 0 }
def ef15_j8003 : (List Int) × (List Int) × Int × (List Int) × (List Int) × Int → St := fun (x1, x2, x3, x4, x5, x6) => { tmps := [(2, (.ptr 0 0 73 0 0 0 73)), (4, (.ptr 1 0 73 0 0 0 73))], heap := [(0, (.cells 73 (.segs (.cons 8 (.rI .u32 x1) (.cons 64 (.rI .u8 x2) (.cons 1 (.one (.int .u64 x3)) .nil)))) true)), (1, (.cells 73 (.segs (.cons 8 (.rI .u32 x4) (.cons 64 (.rI .u8 x5) (.cons 1 (.one (.int .u64 x6)) .nil)))) true))], next := 2, nt := 38, m := 0 }
def f15_n0 (F : Nat) (kf15_j1026 : (List Int) × (List Int) × (List Int) × Int × (List Int) × (List Int) × Int → Option (AV × List Blk)) : (List Int) × (List Int) × Int × (List Int) → Option (AV × List Blk) := fun (a0_0, a0_1, a0_2, a1) => (kf15_j1026 (a1, a0_0, a0_1, a0_2, [0, 0, 0, 0, 0, 0, 0, 0], (List.replicate 64 0), (0 : Int)))
theorem f15_n0_eq (F : Nat) (Rf15_j1026 : St → Option (AV × List Blk)) : ∀ v, aexec VG0215 (Af15 F) (sub (bodyOf Tryd.f15) [0]) (ef15_a v) (kSeq (fun s => Rf15_j1026 (cutTo VG0215 (some [(1, .plain), (2, .plain), (4, .plain)]) s)) (kFin VG0215 0 (Tryd.f15).results.toList)) = f15_n0 F (fun w => Rf15_j1026 (ef15_j1026 w)) v := by
  rintro ⟨a0_0, a0_1, a0_2, a1⟩; kernel_rfl
def f15_n1000 (F : Nat) (kf15_l1020 : (List Int) × (List Int) × (List Int) × Int × (List Int) × (List Int) × Int → Option (AV × List Blk)) (kf15_j8003 : (List Int) × (List Int) × Int × (List Int) × (List Int) × Int → Option (AV × List Blk)) : (List Int) × (List Int) × (List Int) × Int × (List Int) × (List Int) × Int → Option (AV × List Blk) := fun (t1, x2, x3, x4, x5, x6, x7) => (cond (!((t1 : List Int) == ([] : List Int))) (cond (((decide (0 ≤ (IntKind.i64.wrap (Int.tmod x4 (64 : Int))))) && (decide ((IntKind.i64.wrap (Int.tmod x4 (64 : Int))) ≤ (64 : Int)))) && true) (cond (((decide (0 ≤ (↑(min t1.length (64 - (Int.toNat (IntKind.i64.wrap (Int.tmod x4 (64 : Int)))))) : Int))) && (decide ((↑(min t1.length (64 - (Int.toNat (IntKind.i64.wrap (Int.tmod x4 (64 : Int)))))) : Int) ≤ (↑t1.length : Int)))) && (decide ((↑t1.length : Int) ≤ (↑t1.length : Int)))) (cond ((IntKind.i64.wrap ((IntKind.i64.wrap (Int.tmod x4 (64 : Int))) + (↑(min t1.length (64 - (Int.toNat (IntKind.i64.wrap (Int.tmod x4 (64 : Int)))))) : Int))) == (64 : Int)) (cond (decide (((x3.take (Int.toNat (IntKind.i64.wrap (Int.tmod x4 (64 : Int)))) ++ (t1.take (min t1.length (64 - (Int.toNat (IntKind.i64.wrap (Int.tmod x4 (64 : Int))))))) ++ x3.drop ((Int.toNat (IntKind.i64.wrap (Int.tmod x4 (64 : Int)))) + (min t1.length (64 - (Int.toNat (IntKind.i64.wrap (Int.tmod x4 (64 : Int)))))))).take 64).length = 64)) (kf15_l1020 (((t1.take t1.length).drop (Int.toNat (↑(min t1.length (64 - (Int.toNat (IntKind.i64.wrap (Int.tmod x4 (64 : Int)))))) : Int))), (Sha.comp x2 ((x3.take (Int.toNat (IntKind.i64.wrap (Int.tmod x4 (64 : Int)))) ++ (t1.take (min t1.length (64 - (Int.toNat (IntKind.i64.wrap (Int.tmod x4 (64 : Int))))))) ++ x3.drop ((Int.toNat (IntKind.i64.wrap (Int.tmod x4 (64 : Int)))) + (min t1.length (64 - (Int.toNat (IntKind.i64.wrap (Int.tmod x4 (64 : Int)))))))).take 64)), (x3.take (Int.toNat (IntKind.i64.wrap (Int.tmod x4 (64 : Int)))) ++ (t1.take (min t1.length (64 - (Int.toNat (IntKind.i64.wrap (Int.tmod x4 (64 : Int))))))) ++ x3.drop ((Int.toNat (IntKind.i64.wrap (Int.tmod x4 (64 : Int)))) + (min t1.length (64 - (Int.toNat (IntKind.i64.wrap (Int.tmod x4 (64 : Int)))))))), (IntKind.u64.wrap (x4 + (IntKind.u64.wrap (↑(min t1.length (64 - (Int.toNat (IntKind.i64.wrap (Int.tmod x4 (64 : Int)))))) : Int)))), x5, x6, x7)) none) (kf15_l1020 (((t1.take t1.length).drop (Int.toNat (↑(min t1.length (64 - (Int.toNat (IntKind.i64.wrap (Int.tmod x4 (64 : Int)))))) : Int))), x2, (x3.take (Int.toNat (IntKind.i64.wrap (Int.tmod x4 (64 : Int)))) ++ (t1.take (min t1.length (64 - (Int.toNat (IntKind.i64.wrap (Int.tmod x4 (64 : Int))))))) ++ x3.drop ((Int.toNat (IntKind.i64.wrap (Int.tmod x4 (64 : Int)))) + (min t1.length (64 - (Int.toNat (IntKind.i64.wrap (Int.tmod x4 (64 : Int)))))))), (IntKind.u64.wrap (x4 + (IntKind.u64.wrap (↑(min t1.length (64 - (Int.toNat (IntKind.i64.wrap (Int.tmod x4 (64 : Int)))))) : Int)))), x5, x6, x7))) none) none) (kf15_j8003 (x2, x3, x4, x5, x6, x7)))
theorem f15_n1000_eq (F : Nat) (Rf15_l1020 : St → Option (AV × List Blk)) (Rf15_j8003 : St → Option (AV × List Blk)) : ∀ v, aexec VG0215 (Af15 F) (sub (bodyOf Tryd.f15) [1, 0, 0, 0]) (ef15_l1020 v) (kSeq (fun s => Rf15_l1020 (cutTo VG0215 (some [(1, .plain), (2, .plain), (4, .plain)]) s)) (kBlock 0 (kSeq (fun s => Rf15_j8003 (cutTo VG0215 (some [(2, .plain), (4, .plain)]) s)) (kFin VG0215 0 (Tryd.f15).results.toList)))) = f15_n1000 F (fun w => Rf15_l1020 (ef15_l1020 w)) (fun w => Rf15_j8003 (ef15_j8003 w)) v := by
  rintro ⟨t1, x2, x3, x4, x5, x6, x7⟩; kernel_rfl
def f15_n100_i : (List Int) × (List Int) × (List Int) × Int × (List Int) × (List Int) × Int → (List Int) × (List Int) × (List Int) × Int × (List Int) × (List Int) × Int := fun (t1, x2, x3, x4, x5, x6, x7) => (t1, x2, x3, x4, x5, x6, x7)
def f15_n100 (F : Nat) (kf15_j8003 : (List Int) × (List Int) × Int × (List Int) × (List Int) × Int → Option (AV × List Blk)) : (List Int) × (List Int) × (List Int) × Int × (List Int) × (List Int) × Int → Option (AV × List Blk) := fun v => loopN (fun k => f15_n1000 F k kf15_j8003) F (f15_n100_i v)
theorem f15_n100_eq (F : Nat) (Rf15_j8003 : St → Option (AV × List Blk)) : ∀ v, aexec VG0215 (Af15 F) (sub (bodyOf Tryd.f15) [1, 0, 0]) (ef15_j1026 v) (kBlock 0 (kSeq (fun s => Rf15_j8003 (cutTo VG0215 (some [(2, .plain), (4, .plain)]) s)) (kFin VG0215 0 (Tryd.f15).results.toList))) = f15_n100 F (fun w => Rf15_j8003 (ef15_j8003 w)) v :=
  loop_cut (c := (sub (bodyOf Tryd.f15) [1, 0, 0])) (d := (sub (bodyOf Tryd.f15) [1, 0, 0, 0])) (by kernel_rfl) (spec := [(1, .plain), (2, .plain), (4, .plain)]) (by kernel_rfl) ef15_j1026 ef15_l1020 (kBlock 0 (kSeq (fun s => Rf15_j8003 (cutTo VG0215 (some [(2, .plain), (4, .plain)]) s)) (kFin VG0215 0 (Tryd.f15).results.toList))) f15_n100_i (fun k => f15_n1000 F k (fun w => Rf15_j8003 (ef15_j8003 w)))
    (by rintro ⟨t1, x2, x3, x4, x5, x6, x7⟩; kernel_rfl) (fun Rf15_l1020 => f15_n1000_eq F Rf15_l1020 Rf15_j8003)
def f15_n10 (F : Nat) (kf15_j8003 : (List Int) × (List Int) × Int × (List Int) × (List Int) × Int → Option (AV × List Blk)) : (List Int) × (List Int) × (List Int) × Int × (List Int) × (List Int) × Int → Option (AV × List Blk) := f15_n100 F kf15_j8003
theorem f15_n10_eq (F : Nat) (Rf15_j8003 : St → Option (AV × List Blk)) : ∀ v, aexec VG0215 (Af15 F) (sub (bodyOf Tryd.f15) [1, 0]) (ef15_j1026 v) (kSeq (fun s => Rf15_j8003 (cutTo VG0215 (some [(2, .plain), (4, .plain)]) s)) (kFin VG0215 0 (Tryd.f15).results.toList)) = f15_n10 F (fun w => Rf15_j8003 (ef15_j8003 w)) v := fun v =>
  (block_in (c := (sub (bodyOf Tryd.f15) [1, 0])) (d := (sub (bodyOf Tryd.f15) [1, 0, 0])) (id := 0) (by kernel_rfl) _ _).trans (f15_n100_eq F Rf15_j8003 v)
def f15_n11 (F : Nat) : (List Int) × (List Int) × Int × (List Int) × (List Int) × Int → Option (AV × List Blk) := fun (x1, x2, x3, x4, x5, x6) => (some ((.agg 73 (.segs (.cons 8 (.rI .u32 x1) (.cons 64 (.rI .u8 x2) (.cons 1 (.one (.int .u64 x3)) .nil))))), []))
theorem f15_n11_eq (F : Nat) : ∀ v, aexec VG0215 (Af15 F) (sub (bodyOf Tryd.f15) [1, 1]) (ef15_j8003 v) (kFin VG0215 0 (Tryd.f15).results.toList) = f15_n11 F v := by
  rintro ⟨x1, x2, x3, x4, x5, x6⟩; kernel_rfl
def f15_n1 (F : Nat) : (List Int) × (List Int) × (List Int) × Int × (List Int) × (List Int) × Int → Option (AV × List Blk) := fun v => f15_n10 F (f15_n11 F) v
theorem f15_n1_eq (F : Nat) : ∀ v, aexec VG0215 (Af15 F) (sub (bodyOf Tryd.f15) [1]) (ef15_j1026 v) (kFin VG0215 0 (Tryd.f15).results.toList) = f15_n1 F v :=
  seq_cut (c := (sub (bodyOf Tryd.f15) [1])) (a := (sub (bodyOf Tryd.f15) [1, 0])) (b := (sub (bodyOf Tryd.f15) [1, 1])) (by kernel_rfl) (spec := [(2, .plain), (4, .plain)]) (by kernel_rfl) ef15_j1026 ef15_j8003 (kFin VG0215 0 (Tryd.f15).results.toList) (fun k => f15_n10 F k) (f15_n11 F)
    (fun Rf15_j8003 => f15_n10_eq F Rf15_j8003) (f15_n11_eq F)
def f15_nt (F : Nat) : (List Int) × (List Int) × Int × (List Int) → Option (AV × List Blk) := fun v => f15_n0 F (f15_n1 F) v
theorem f15_nt_eq (F : Nat) : ∀ v, aexec VG0215 (Af15 F) (sub (bodyOf Tryd.f15) []) (ef15_a v) (kFin VG0215 0 (Tryd.f15).results.toList) = f15_nt F v :=
  seq_cut (c := (sub (bodyOf Tryd.f15) [])) (a := (sub (bodyOf Tryd.f15) [0])) (b := (sub (bodyOf Tryd.f15) [1])) (by kernel_rfl) (spec := [(1, .plain), (2, .plain), (4, .plain)]) (by kernel_rfl) ef15_a ef15_j1026 (kFin VG0215 0 (Tryd.f15).results.toList) (fun k => f15_n0 F k) (f15_n1 F)
    (fun Rf15_j1026 => f15_n0_eq F Rf15_j1026) (f15_n1_eq F)
/-- (gantry/hash.Stream).Add -/
def f15 (F : Nat) : (List Int) × (List Int) × Int × (List Int) → Option (AV × List Blk) := f15_nt F
theorem f15_body (F : Nat) (a0_0 : List Int) (a0_1 : List Int) (a0_2 : Int) (a1 : List Int) : abody VG0215 (Af15 F) Tryd.f15 [(.agg 73 (.segs (.cons 8 (.rI .u32 a0_0) (.cons 64 (.rI .u8 a0_1) (.cons 1 (.one (.int .u64 a0_2)) .nil))))), (.str a1)] [] = f15 F (a0_0, a0_1, a0_2, a1) :=
  (abody_in (c := (sub (bodyOf Tryd.f15) [])) (by kernel_rfl) (s := ef15_a (a0_0, a0_1, a0_2, a1)) (by kernel_rfl)).trans (f15_nt_eq F (a0_0, a0_1, a0_2, a1))
def r15 : CRun := fun X H => match X, H with
  | [(.agg 73 (.segs (.cons 8 (.rI .u32 a0_0) (.cons 64 (.rI .u8 a0_1) (.cons 1 (.one (.int .u64 a0_2)) .nil))))), (.str a1)], [] => some (true, (.agg 73 (.segs (.cons 8 (.rI .u32 (Sha.addS (a0_0, a0_1, a0_2) a1).1) (.cons 64 (.rI .u8 (Sha.addS (a0_0, a0_1, a0_2) a1).2.1) (.cons 1 (.one (.int .u64 (Sha.addS (a0_0, a0_1, a0_2) a1).2.2)) .nil))))), [])
  | _, _ => none
theorem ok_str {a b : List Int} {n : Int} (h : okV (.agg 73 (.segs (.cons 8 (.rI .u32 a) (.cons 64 (.rI .u8 b) (.cons 1 (.one (.int .u64 n)) .nil)))))) : a.length = 8 ∧ b.length = 64 ∧ 0 ≤ n ∧ n ≤ 18446744073709551615 := by
  obtain ⟨h1, _, h3⟩ := h
  simp only [AV.wf, AVs.wfS, AV.size, true_and, and_true] at h1
  have := h3 72 (by omega)
  exact ⟨h1.1, h1.2.1, this⟩
theorem s15 (a0_0 : List Int) (a0_1 : List Int) (a0_2 : Int) (a1 : List Int) (h0 : okV (.agg 73 (.segs (.cons 8 (.rI .u32 a0_0) (.cons 64 (.rI .u8 a0_1) (.cons 1 (.one (.int .u64 a0_2)) .nil)))))) (h1 : okV (.str a1)) : ∃ F, f15 F (a0_0, a0_1, a0_2, a1) = some ((.agg 73 (.segs (.cons 8 (.rI .u32 (Sha.addS (a0_0, a0_1, a0_2) a1).1) (.cons 64 (.rI .u8 (Sha.addS (a0_0, a0_1, a0_2) a1).2.1) (.cons 1 (.one (.int .u64 (Sha.addS (a0_0, a0_1, a0_2) a1).2.2)) .nil))))), []) := by
  obtain ⟨_, hb, hn0, hn1⟩ := ok_str h0
  refine ⟨a1.length + 1, ?_⟩
  simp only [f15, f15_nt, f15_n0, f15_n1, f15_n10, f15_n100, f15_n100_i]
  generalize hR : Sha.addS (a0_0, a0_1, a0_2) a1 = R
  refine loopN_ind (fun m s => s.1.length = m ∧ m < 4611686018427387904 ∧ s.2.2.1.length = 64 ∧ 0 ≤ s.2.2.2.1 ∧ s.2.2.2.1 ≤ 18446744073709551615 ∧ Sha.addS (s.2.1, s.2.2.1, s.2.2.2.1) s.1 = R) ?_ _ a1.length _ (by omega) ⟨rfl, h1.1, hb, hn0, hn1, hR⟩
  rintro m ⟨t1, x2, x3, x4, x5, x6, x7⟩ k ⟨g1, gm, g2, g3, g4, g5⟩ hk
  simp only at g1 g2 g3 g4 g5 hk
  simp only [f15_n1000]
  by_cases ht : t1 = []
  · subst ht
    rw [Sha.addS_nil] at g5
    subst g5
    rfl
  · have hne : (!(t1 == [])) = true := by simp [ht]
    have hpos : 0 < t1.length := List.length_pos_iff.mpr ht
    rw [hne]
    simp only [cond_true]
    have hat : IntKind.i64.wrap (Int.tmod x4 (64 : Int)) = ((x4 % 64).toNat : Int) := by
      rw [Int.tmod_eq_emod_of_nonneg g3, i64w (by omega) (by omega)]; omega
    simp only [hat, Int.toNat_natCast, Bool.and_true, dec_and, int_beq]
    generalize hA : (x4 % 64).toNat = A
    generalize hK : min t1.length (64 - A) = k0
    rw [cond_pos (by omega), cond_pos (by omega), i64w (x := (A : Int) + (k0 : Int)) (by omega) (by omega), List.take_of_length_le (Nat.le_refl t1.length)]
    have hch := Sha.addS_chunk (t1.take k0) x2 x3 x4 g2 g3 g4 (by rw [List.length_take]; omega)
    have hlen : (t1.take k0).length = k0 := by rw [List.length_take]; omega
    rw [hA, hlen] at hch
    have hsplit : Sha.addS (x2, x3, x4) t1 = Sha.addS (Sha.addS (x2, x3, x4) (t1.take k0)) (t1.drop k0) := by
      rw [← Sha.addS_append, List.take_append_drop]
    rw [hch] at hsplit
    have hw : IntKind.u64.wrap (x4 + IntKind.u64.wrap (k0 : Int)) = IntKind.u64.wrap (x4 + (k0 : Int)) := by simp only [u64mod]; omega
    have hx3 : (x3.take A ++ t1.take k0 ++ x3.drop (A + k0)).length = 64 := by simp [g2]; omega
    by_cases h64 : A + k0 = 64
    · rw [cond_pos (show ((A : Int) + (k0 : Int) = 64) by omega), List.take_of_length_le (l := (x3.take A ++ t1.take k0 ++ x3.drop (A + k0))) (by rw [hx3]; exact Nat.le_refl _), cond_pos hx3]
      rw [if_pos h64] at hsplit
      refine hk (m - k0) _ (by omega) ⟨by simp only []; rw [List.length_drop]; omega, by omega, hx3, ?_, ?_, ?_⟩
      · simp only [u64mod]; omega
      · simp only [u64mod]; omega
      · simp only []; rw [hw, ← hsplit]; exact g5
    · rw [cond_neg (show ¬ ((A : Int) + (k0 : Int) = 64) by omega)]
      rw [if_neg h64] at hsplit
      refine hk (m - k0) _ (by omega) ⟨by simp only []; rw [List.length_drop]; omega, by omega, hx3, ?_, ?_, ?_⟩
      · simp only [u64mod]; omega
      · simp only [u64mod]; omega
      · simp only []; rw [hw, ← hsplit]; exact g5

theorem c15 : CallOk Tryd.prog G02 15 r15 := callOk_of (V := VG0215) mixed tys eVG0215 (f := 15) (fn := Tryd.f15) Tryd.func15 (by kernel_rfl) (c := sub (bodyOf Tryd.f15) []) (by kernel_rfl) (by
  intro X H r H' h hX hH
  unfold r15 at h; split at h <;> try contradiction
  simp only [Option.some.injEq, Prod.mk.injEq] at h
  obtain ⟨hp, rfl, rfl⟩ := h
  obtain ⟨F, hF⟩ := s15 _ _ _ _ (hX _ (.head _)) (hX _ (.tail _ (.head _)))
  exact ⟨Af15 F, (f15_body F _ _ _ _).trans hF⟩)
/-! (gantry/hash.Stream).Sum -/
def lVG0217 : List CEnt := [(15, [none, none], r15)]
def VG0217 : Env := mkEnv T02 G02 lVG0217
theorem eVG0217 : EOk Tryd.prog VG0217 := eok_mk (by exact ⟨c15, trivial⟩)
def Af17 (F : Nat) : Cuts := { F := F, at_ := fun n => match n with | 3008 => some [(1, .plain), (2, .plain), (3, .plain), (4, .plain)] | 6012 => some [(1, .plain), (2, .plain), (3, .plain), (4, .plain), (23, .plain)] | 13012 => some [(1, .plain), (2, .plain), (6, .plain), (40, .plain)] | _ => none, join := fun n => match n with | 1056 => some [(1, .plain), (2, .plain)] | 2054 => some [(1, .plain), (2, .plain), (3, .plain)] | 3052 => some [(1, .plain), (2, .plain), (3, .plain), (4, .plain)] | 5041 => some [(1, .plain), (2, .plain), (3, .plain), (4, .plain)] | 6014 => some [(1, .plain), (2, .plain), (3, .plain), (4, .plain), (23, .plain)] | 10024 => some [(1, .plain), (2, .plain), (4, .plain)] | 11022 => some [(1, .plain), (2, .plain)] | 12020 => some [(1, .plain), (2, .plain), (6, .plain)] | 13014 => some [(1, .plain), (2, .plain), (6, .plain), (40, .plain)] | 17003 => some [(2, .plain), (6, .plain)] | _ => none }
def ef17_a : (List Int) × (List Int) × Int → St := fun (a0_0, a0_1, a0_2) => { tmps := [(0, (.agg 73 (.segs (.cons 8 (.rI .u32 a0_0) (.cons 64 (.rI .u8 a0_1) (.cons 1 (.one (.int .u64 a0_2)) .nil))))))], heap := [], next := 0, nt := 58, m := 0 }
def ef17_j1056 : (List Int) × (List Int) × Int × (List Int) → St := fun (x1, x2, x3, x4) => { tmps := [(1, (.ptr 0 0 73 0 0 0 73)), (2, (.ptr 1 0 32 0 0 0 32))], heap := [(0, (.cells 73 (.segs (.cons 8 (.rI .u32 x1) (.cons 64 (.rI .u8 x2) (.cons 1 (.one (.int .u64 x3)) .nil)))) true)), (1, (.cells 32 (.rI .u8 x4) true))], next := 2, nt := 58, m := 0 }
def ef17_j2054 : Int × (List Int) × (List Int) × Int × (List Int) → St := fun (t3, x2, x3, x4, x5) => { tmps := [(1, (.ptr 0 0 73 0 0 0 73)), (2, (.ptr 1 0 32 0 0 0 32)), (3, (.int .u64 t3))], heap := [(0, (.cells 73 (.segs (.cons 8 (.rI .u32 x2) (.cons 64 (.rI .u8 x3) (.cons 1 (.one (.int .u64 x4)) .nil)))) true)), (1, (.cells 32 (.rI .u8 x5) true))], next := 2, nt := 58, m := 0 }
def ef17_j3052 : Int × (List Int) × (List Int) × Int × (List Int) × (List Int) → St := fun (t3, x2, x3, x4, x5, x6) => { tmps := [(1, (.ptr 0 0 73 0 0 0 73)), (2, (.ptr 1 0 32 0 0 0 32)), (3, (.int .u64 t3)), (4, (.own 2 0 1))], heap := [(0, (.cells 73 (.segs (.cons 8 (.rI .u32 x2) (.cons 64 (.rI .u8 x3) (.cons 1 (.one (.int .u64 x4)) .nil)))) true)), (1, (.cells 32 (.rI .u8 x5) true)), (2, (.cells x6.length (.rI .u8 x6) true))], next := 3, nt := 58, m := 0 }
def ef17_l3008 : Int × (List Int) × (List Int) × Int × (List Int) × (List Int) → St := fun (t3, x2, x3, x4, x5, x6) => { tmps := [(1, (.ptr 0 0 73 0 0 0 73)), (2, (.ptr 1 0 32 0 0 0 32)), (3, (.int .u64 t3)), (4, (.own 2 0 1))], heap := [(0, (.cells 73 (.segs (.cons 8 (.rI .u32 x2) (.cons 64 (.rI .u8 x3) (.cons 1 (.one (.int .u64 x4)) .nil)))) true)), (1, (.cells 32 (.rI .u8 x5) true)), (2, (.cells x6.length (.rI .u8 x6) true))], next := 3, nt := 58, m := 0 }
def ef17_j5041 : Int × (List Int) × (List Int) × Int × (List Int) × (List Int) → St := fun (t3, x2, x3, x4, x5, x6) => { tmps := [(1, (.ptr 0 0 73 0 0 0 73)), (2, (.ptr 1 0 32 0 0 0 32)), (3, (.int .u64 t3)), (4, (.own 2 0 1))], heap := [(0, (.cells 73 (.segs (.cons 8 (.rI .u32 x2) (.cons 64 (.rI .u8 x3) (.cons 1 (.one (.int .u64 x4)) .nil)))) true)), (1, (.cells 32 (.rI .u8 x5) true)), (2, (.cells x6.length (.rI .u8 x6) true))], next := 3, nt := 58, m := 0 }
def ef17_j6014 : Int × Int × (List Int) × (List Int) × Int × (List Int) × (List Int) → St := fun (t3, t23, x3, x4, x5, x6, x7) => { tmps := [(1, (.ptr 0 0 73 0 0 0 73)), (2, (.ptr 1 0 32 0 0 0 32)), (3, (.int .u64 t3)), (4, (.own 2 0 1)), (23, (.int .i64 t23))], heap := [(0, (.cells 73 (.segs (.cons 8 (.rI .u32 x3) (.cons 64 (.rI .u8 x4) (.cons 1 (.one (.int .u64 x5)) .nil)))) true)), (1, (.cells 32 (.rI .u8 x6) true)), (2, (.cells x7.length (.rI .u8 x7) true))], next := 3, nt := 58, m := 0 }
def ef17_l6012 : Int × Int × (List Int) × (List Int) × Int × (List Int) × (List Int) → St := fun (t3, t23, x3, x4, x5, x6, x7) => { tmps := [(1, (.ptr 0 0 73 0 0 0 73)), (2, (.ptr 1 0 32 0 0 0 32)), (3, (.int .u64 t3)), (4, (.own 2 0 1)), (23, (.int .i64 t23))], heap := [(0, (.cells 73 (.segs (.cons 8 (.rI .u32 x3) (.cons 64 (.rI .u8 x4) (.cons 1 (.one (.int .u64 x5)) .nil)))) true)), (1, (.cells 32 (.rI .u8 x6) true)), (2, (.cells x7.length (.rI .u8 x7) true))], next := 3, nt := 58, m := 0 }
def ef17_j10024 : (List Int) × (List Int) × Int × (List Int) × (List Int) → St := fun (x1, x2, x3, x4, x5) => { tmps := [(1, (.ptr 0 0 73 0 0 0 73)), (2, (.ptr 1 0 32 0 0 0 32)), (4, (.own 2 0 1))], heap := [(0, (.cells 73 (.segs (.cons 8 (.rI .u32 x1) (.cons 64 (.rI .u8 x2) (.cons 1 (.one (.int .u64 x3)) .nil)))) true)), (1, (.cells 32 (.rI .u8 x4) true)), (2, (.cells x5.length (.rI .u8 x5) true))], next := 3, nt := 58, m := 0 }
def ef17_j11022 : (List Int) × (List Int) × Int × (List Int) → St := fun (x1, x2, x3, x4) => { tmps := [(1, (.ptr 0 0 73 0 0 0 73)), (2, (.ptr 1 0 32 0 0 0 32))], heap := [(0, (.cells 73 (.segs (.cons 8 (.rI .u32 x1) (.cons 64 (.rI .u8 x2) (.cons 1 (.one (.int .u64 x3)) .nil)))) true)), (1, (.cells 32 (.rI .u8 x4) true))], next := 2, nt := 58, m := 0 }
def ef17_j12020 : (List Int) × (List Int) × Int × (List Int) × (List Int) → St := fun (x1, x2, x3, x4, x5) => { tmps := [(1, (.ptr 0 0 73 0 0 0 73)), (2, (.ptr 1 0 32 0 0 0 32)), (6, (.ptr 2 0 32 0 0 0 32))], heap := [(0, (.cells 73 (.segs (.cons 8 (.rI .u32 x1) (.cons 64 (.rI .u8 x2) (.cons 1 (.one (.int .u64 x3)) .nil)))) true)), (1, (.cells 32 (.rI .u8 x4) true)), (2, (.cells 32 (.rI .u8 x5) true))], next := 3, nt := 58, m := 0 }
def ef17_j13014 : Int × (List Int) × (List Int) × Int × (List Int) × (List Int) → St := fun (t40, x2, x3, x4, x5, x6) => { tmps := [(1, (.ptr 0 0 73 0 0 0 73)), (2, (.ptr 1 0 32 0 0 0 32)), (6, (.ptr 2 0 32 0 0 0 32)), (40, (.int .i64 t40))], heap := [(0, (.cells 73 (.segs (.cons 8 (.rI .u32 x2) (.cons 64 (.rI .u8 x3) (.cons 1 (.one (.int .u64 x4)) .nil)))) true)), (1, (.cells 32 (.rI .u8 x5) true)), (2, (.cells 32 (.rI .u8 x6) true))], next := 3, nt := 58, m := 0 }
def ef17_l13012 : Int × (List Int) × (List Int) × Int × (List Int) × (List Int) → St := fun (t40, x2, x3, x4, x5, x6) => { tmps := [(1, (.ptr 0 0 73 0 0 0 73)), (2, (.ptr 1 0 32 0 0 0 32)), (6, (.ptr 2 0 32 0 0 0 32)), (40, (.int .i64 t40))], heap := [(0, (.cells 73 (.segs (.cons 8 (.rI .u32 x2) (.cons 64 (.rI .u8 x3) (.cons 1 (.one (.int .u64 x4)) .nil)))) true)), (1, (.cells 32 (.rI .u8 x5) true)), (2, (.cells 32 (.rI .u8 x6) true))], next := 3, nt := 58, m := 0 }
def ef17_j17003 : (List Int) × (List Int) → St := fun (x1, x2) => { tmps := [(2, (.ptr 0 0 32 0 0 0 32)), (6, (.ptr 1 0 32 0 0 0 32))], heap := [(0, (.cells 32 (.rI .u8 x1) true)), (1, (.cells 32 (.rI .u8 x2) true))], next := 2, nt := 58, m := 0 }
def f17_n0 (F : Nat) (kf17_j1056 : (List Int) × (List Int) × Int × (List Int) → Option (AV × List Blk)) : (List Int) × (List Int) × Int → Option (AV × List Blk) := fun (a0_0, a0_1, a0_2) => (kf17_j1056 (a0_0, a0_1, a0_2, (List.replicate 32 0)))
theorem f17_n0_eq (F : Nat) (Rf17_j1056 : St → Option (AV × List Blk)) : ∀ v, aexec VG0217 (Af17 F) (sub (bodyOf Tryd.f17) [0]) (ef17_a v) (kSeq (fun s => Rf17_j1056 (cutTo VG0217 (some [(1, .plain), (2, .plain)]) s)) (kFin VG0217 0 (Tryd.f17).results.toList)) = f17_n0 F (fun w => Rf17_j1056 (ef17_j1056 w)) v := by
  rintro ⟨a0_0, a0_1, a0_2⟩; kernel_rfl
def f17_n10 (F : Nat) (kf17_j2054 : Int × (List Int) × (List Int) × Int × (List Int) → Option (AV × List Blk)) : (List Int) × (List Int) × Int × (List Int) → Option (AV × List Blk) := fun (x1, x2, x3, x4) => (kf17_j2054 ((IntKind.u64.wrap ((8 : Int) * x3)), x1, x2, x3, x4))
theorem f17_n10_eq (F : Nat) (Rf17_j2054 : St → Option (AV × List Blk)) : ∀ v, aexec VG0217 (Af17 F) (sub (bodyOf Tryd.f17) [1, 0]) (ef17_j1056 v) (kSeq (fun s => Rf17_j2054 (cutTo VG0217 (some [(1, .plain), (2, .plain), (3, .plain)]) s)) (kFin VG0217 0 (Tryd.f17).results.toList)) = f17_n10 F (fun w => Rf17_j2054 (ef17_j2054 w)) v := by
  rintro ⟨x1, x2, x3, x4⟩; kernel_rfl
def f17_n110 (F : Nat) (kf17_j3052 : Int × (List Int) × (List Int) × Int × (List Int) × (List Int) → Option (AV × List Blk)) : Int × (List Int) × (List Int) × Int × (List Int) → Option (AV × List Blk) := fun (t3, x2, x3, x4, x5) => (kf17_j3052 (t3, x2, x3, x4, x5, [(128 : Int)]))
theorem f17_n110_eq (F : Nat) (Rf17_j3052 : St → Option (AV × List Blk)) : ∀ v, aexec VG0217 (Af17 F) (sub (bodyOf Tryd.f17) [1, 1, 0]) (ef17_j2054 v) (kSeq (fun s => Rf17_j3052 (cutTo VG0217 (some [(1, .plain), (2, .plain), (3, .plain), (4, .plain)]) s)) (kFin VG0217 0 (Tryd.f17).results.toList)) = f17_n110 F (fun w => Rf17_j3052 (ef17_j3052 w)) v := by
  rintro ⟨t3, x2, x3, x4, x5⟩; kernel_rfl
def f17_n111000 (F : Nat) (kf17_l3008 : Int × (List Int) × (List Int) × Int × (List Int) × (List Int) → Option (AV × List Blk)) (kf17_j5041 : Int × (List Int) × (List Int) × Int × (List Int) × (List Int) → Option (AV × List Blk)) : Int × (List Int) × (List Int) × Int × (List Int) × (List Int) → Option (AV × List Blk) := fun (t3, x2, x3, x4, x5, x6) => (cond ((Int.tmod (IntKind.i64.wrap ((IntKind.i64.wrap x4) + (↑x6.length : Int))) (64 : Int)) != (56 : Int)) (cond (decide ((x6.length + 1) < 1073741824)) (kf17_l3008 (t3, x2, x3, x4, x5, (x6 ++ [(0 : Int)]))) none) (kf17_j5041 (t3, x2, x3, x4, x5, x6)))
theorem f17_n111000_eq (F : Nat) (Rf17_l3008 : St → Option (AV × List Blk)) (Rf17_j5041 : St → Option (AV × List Blk)) : ∀ v, aexec VG0217 (Af17 F) (sub (bodyOf Tryd.f17) [1, 1, 1, 0, 0, 0]) (ef17_l3008 v) (kSeq (fun s => Rf17_l3008 (cutTo VG0217 (some [(1, .plain), (2, .plain), (3, .plain), (4, .plain)]) s)) (kBlock 0 (kSeq (fun s => Rf17_j5041 (cutTo VG0217 (some [(1, .plain), (2, .plain), (3, .plain), (4, .plain)]) s)) (kFin VG0217 0 (Tryd.f17).results.toList)))) = f17_n111000 F (fun w => Rf17_l3008 (ef17_l3008 w)) (fun w => Rf17_j5041 (ef17_j5041 w)) v := by
  rintro ⟨t3, x2, x3, x4, x5, x6⟩; kernel_rfl
def f17_n11100_i : Int × (List Int) × (List Int) × Int × (List Int) × (List Int) → Int × (List Int) × (List Int) × Int × (List Int) × (List Int) := fun (t3, x2, x3, x4, x5, x6) => (t3, x2, x3, x4, x5, x6)
def f17_n11100 (F : Nat) (kf17_j5041 : Int × (List Int) × (List Int) × Int × (List Int) × (List Int) → Option (AV × List Blk)) : Int × (List Int) × (List Int) × Int × (List Int) × (List Int) → Option (AV × List Blk) := fun v => loopN (fun k => f17_n111000 F k kf17_j5041) F (f17_n11100_i v)
theorem f17_n11100_eq (F : Nat) (Rf17_j5041 : St → Option (AV × List Blk)) : ∀ v, aexec VG0217 (Af17 F) (sub (bodyOf Tryd.f17) [1, 1, 1, 0, 0]) (ef17_j3052 v) (kBlock 0 (kSeq (fun s => Rf17_j5041 (cutTo VG0217 (some [(1, .plain), (2, .plain), (3, .plain), (4, .plain)]) s)) (kFin VG0217 0 (Tryd.f17).results.toList))) = f17_n11100 F (fun w => Rf17_j5041 (ef17_j5041 w)) v :=
  loop_cut (c := (sub (bodyOf Tryd.f17) [1, 1, 1, 0, 0])) (d := (sub (bodyOf Tryd.f17) [1, 1, 1, 0, 0, 0])) (by kernel_rfl) (spec := [(1, .plain), (2, .plain), (3, .plain), (4, .plain)]) (by kernel_rfl) ef17_j3052 ef17_l3008 (kBlock 0 (kSeq (fun s => Rf17_j5041 (cutTo VG0217 (some [(1, .plain), (2, .plain), (3, .plain), (4, .plain)]) s)) (kFin VG0217 0 (Tryd.f17).results.toList))) f17_n11100_i (fun k => f17_n111000 F k (fun w => Rf17_j5041 (ef17_j5041 w)))
    (by rintro ⟨t3, x2, x3, x4, x5, x6⟩; kernel_rfl) (fun Rf17_l3008 => f17_n111000_eq F Rf17_l3008 Rf17_j5041)
def f17_n1110 (F : Nat) (kf17_j5041 : Int × (List Int) × (List Int) × Int × (List Int) × (List Int) → Option (AV × List Blk)) : Int × (List Int) × (List Int) × Int × (List Int) × (List Int) → Option (AV × List Blk) := f17_n11100 F kf17_j5041
theorem f17_n1110_eq (F : Nat) (Rf17_j5041 : St → Option (AV × List Blk)) : ∀ v, aexec VG0217 (Af17 F) (sub (bodyOf Tryd.f17) [1, 1, 1, 0]) (ef17_j3052 v) (kSeq (fun s => Rf17_j5041 (cutTo VG0217 (some [(1, .plain), (2, .plain), (3, .plain), (4, .plain)]) s)) (kFin VG0217 0 (Tryd.f17).results.toList)) = f17_n1110 F (fun w => Rf17_j5041 (ef17_j5041 w)) v := fun v =>
  (block_in (c := (sub (bodyOf Tryd.f17) [1, 1, 1, 0])) (d := (sub (bodyOf Tryd.f17) [1, 1, 1, 0, 0])) (id := 0) (by kernel_rfl) _ _).trans (f17_n11100_eq F Rf17_j5041 v)
def f17_n111100 (F : Nat) (kf17_j6014 : Int × Int × (List Int) × (List Int) × Int × (List Int) × (List Int) → Option (AV × List Blk)) (kf17_j10024 : (List Int) × (List Int) × Int × (List Int) × (List Int) → Option (AV × List Blk)) : Int × (List Int) × (List Int) × Int × (List Int) × (List Int) → Option (AV × List Blk) := fun (t3, x2, x3, x4, x5, x6) => (kf17_j6014 (t3, (0 : Int), x2, x3, x4, x5, x6))
theorem f17_n111100_eq (F : Nat) (Rf17_j6014 : St → Option (AV × List Blk)) (Rf17_j10024 : St → Option (AV × List Blk)) : ∀ v, aexec VG0217 (Af17 F) (sub (bodyOf Tryd.f17) [1, 1, 1, 1, 0, 0]) (ef17_j5041 v) (kSeq (fun s => Rf17_j6014 (cutTo VG0217 (some [(1, .plain), (2, .plain), (3, .plain), (4, .plain), (23, .plain)]) s)) (kSeq (fun s => Rf17_j10024 (cutTo VG0217 (some [(1, .plain), (2, .plain), (4, .plain)]) s)) (kFin VG0217 0 (Tryd.f17).results.toList))) = f17_n111100 F (fun w => Rf17_j6014 (ef17_j6014 w)) (fun w => Rf17_j10024 (ef17_j10024 w)) v := by
  rintro ⟨t3, x2, x3, x4, x5, x6⟩; kernel_rfl
def f17_n11110100 (F : Nat) (kf17_l6012 : Int × Int × (List Int) × (List Int) × Int × (List Int) × (List Int) → Option (AV × List Blk)) (kf17_j10024 : (List Int) × (List Int) × Int × (List Int) × (List Int) → Option (AV × List Blk)) : Int × Int × (List Int) × (List Int) × Int × (List Int) × (List Int) → Option (AV × List Blk) := fun (t3, t23, x3, x4, x5, x6, x7) => (cond (decide (t23 < (8 : Int))) (cond (decide (0 ≤ (IntKind.i64.wrap ((56 : Int) - (IntKind.i64.wrap ((8 : Int) * t23)))))) (cond (decide ((x7.length + 1) < 1073741824)) (kf17_l6012 (t3, (IntKind.i64.wrap (t23 + (1 : Int))), x3, x4, x5, x6, (x7 ++ [(IntKind.u8.wrap (Int.fdiv t3 (2 ^ (min (Int.toNat (IntKind.i64.wrap ((56 : Int) - (IntKind.i64.wrap ((8 : Int) * t23))))) 64))))]))) none) none) (kf17_j10024 (x3, x4, x5, x6, x7)))
theorem f17_n11110100_eq (F : Nat) (Rf17_l6012 : St → Option (AV × List Blk)) (Rf17_j10024 : St → Option (AV × List Blk)) : ∀ v, aexec VG0217 (Af17 F) (sub (bodyOf Tryd.f17) [1, 1, 1, 1, 0, 1, 0, 0]) (ef17_l6012 v) (kSeq (fun s => Rf17_l6012 (cutTo VG0217 (some [(1, .plain), (2, .plain), (3, .plain), (4, .plain), (23, .plain)]) s)) (kBlock 2 (kSeq (fun s => Rf17_j10024 (cutTo VG0217 (some [(1, .plain), (2, .plain), (4, .plain)]) s)) (kFin VG0217 0 (Tryd.f17).results.toList)))) = f17_n11110100 F (fun w => Rf17_l6012 (ef17_l6012 w)) (fun w => Rf17_j10024 (ef17_j10024 w)) v := by
  rintro ⟨t3, t23, x3, x4, x5, x6, x7⟩; kernel_rfl
def f17_n1111010_i : Int × Int × (List Int) × (List Int) × Int × (List Int) × (List Int) → Int × Int × (List Int) × (List Int) × Int × (List Int) × (List Int) := fun (t3, t23, x3, x4, x5, x6, x7) => (t3, t23, x3, x4, x5, x6, x7)
def f17_n1111010 (F : Nat) (kf17_j10024 : (List Int) × (List Int) × Int × (List Int) × (List Int) → Option (AV × List Blk)) : Int × Int × (List Int) × (List Int) × Int × (List Int) × (List Int) → Option (AV × List Blk) := fun v => loopN (fun k => f17_n11110100 F k kf17_j10024) F (f17_n1111010_i v)
theorem f17_n1111010_eq (F : Nat) (Rf17_j10024 : St → Option (AV × List Blk)) : ∀ v, aexec VG0217 (Af17 F) (sub (bodyOf Tryd.f17) [1, 1, 1, 1, 0, 1, 0]) (ef17_j6014 v) (kBlock 2 (kSeq (fun s => Rf17_j10024 (cutTo VG0217 (some [(1, .plain), (2, .plain), (4, .plain)]) s)) (kFin VG0217 0 (Tryd.f17).results.toList))) = f17_n1111010 F (fun w => Rf17_j10024 (ef17_j10024 w)) v :=
  loop_cut (c := (sub (bodyOf Tryd.f17) [1, 1, 1, 1, 0, 1, 0])) (d := (sub (bodyOf Tryd.f17) [1, 1, 1, 1, 0, 1, 0, 0])) (by kernel_rfl) (spec := [(1, .plain), (2, .plain), (3, .plain), (4, .plain), (23, .plain)]) (by kernel_rfl) ef17_j6014 ef17_l6012 (kBlock 2 (kSeq (fun s => Rf17_j10024 (cutTo VG0217 (some [(1, .plain), (2, .plain), (4, .plain)]) s)) (kFin VG0217 0 (Tryd.f17).results.toList))) f17_n1111010_i (fun k => f17_n11110100 F k (fun w => Rf17_j10024 (ef17_j10024 w)))
    (by rintro ⟨t3, t23, x3, x4, x5, x6, x7⟩; kernel_rfl) (fun Rf17_l6012 => f17_n11110100_eq F Rf17_l6012 Rf17_j10024)
def f17_n111101 (F : Nat) (kf17_j10024 : (List Int) × (List Int) × Int × (List Int) × (List Int) → Option (AV × List Blk)) : Int × Int × (List Int) × (List Int) × Int × (List Int) × (List Int) → Option (AV × List Blk) := f17_n1111010 F kf17_j10024
theorem f17_n111101_eq (F : Nat) (Rf17_j10024 : St → Option (AV × List Blk)) : ∀ v, aexec VG0217 (Af17 F) (sub (bodyOf Tryd.f17) [1, 1, 1, 1, 0, 1]) (ef17_j6014 v) (kSeq (fun s => Rf17_j10024 (cutTo VG0217 (some [(1, .plain), (2, .plain), (4, .plain)]) s)) (kFin VG0217 0 (Tryd.f17).results.toList)) = f17_n111101 F (fun w => Rf17_j10024 (ef17_j10024 w)) v := fun v =>
  (block_in (c := (sub (bodyOf Tryd.f17) [1, 1, 1, 1, 0, 1])) (d := (sub (bodyOf Tryd.f17) [1, 1, 1, 1, 0, 1, 0])) (id := 2) (by kernel_rfl) _ _).trans (f17_n1111010_eq F Rf17_j10024 v)
def f17_n11110 (F : Nat) (kf17_j10024 : (List Int) × (List Int) × Int × (List Int) × (List Int) → Option (AV × List Blk)) : Int × (List Int) × (List Int) × Int × (List Int) × (List Int) → Option (AV × List Blk) := fun v => f17_n111100 F (f17_n111101 F kf17_j10024) kf17_j10024 v
theorem f17_n11110_eq (F : Nat) (Rf17_j10024 : St → Option (AV × List Blk)) : ∀ v, aexec VG0217 (Af17 F) (sub (bodyOf Tryd.f17) [1, 1, 1, 1, 0]) (ef17_j5041 v) (kSeq (fun s => Rf17_j10024 (cutTo VG0217 (some [(1, .plain), (2, .plain), (4, .plain)]) s)) (kFin VG0217 0 (Tryd.f17).results.toList)) = f17_n11110 F (fun w => Rf17_j10024 (ef17_j10024 w)) v :=
  seq_cut (c := (sub (bodyOf Tryd.f17) [1, 1, 1, 1, 0])) (a := (sub (bodyOf Tryd.f17) [1, 1, 1, 1, 0, 0])) (b := (sub (bodyOf Tryd.f17) [1, 1, 1, 1, 0, 1])) (by kernel_rfl) (spec := [(1, .plain), (2, .plain), (3, .plain), (4, .plain), (23, .plain)]) (by kernel_rfl) ef17_j5041 ef17_j6014 (kSeq (fun s => Rf17_j10024 (cutTo VG0217 (some [(1, .plain), (2, .plain), (4, .plain)]) s)) (kFin VG0217 0 (Tryd.f17).results.toList)) (fun k => f17_n111100 F k (fun w => Rf17_j10024 (ef17_j10024 w))) (f17_n111101 F (fun w => Rf17_j10024 (ef17_j10024 w)))
    (fun Rf17_j6014 => f17_n111100_eq F Rf17_j6014 Rf17_j10024) (f17_n111101_eq F Rf17_j10024)
def f17_n111110 (F : Nat) (kf17_j11022 : (List Int) × (List Int) × Int × (List Int) → Option (AV × List Blk)) : (List Int) × (List Int) × Int × (List Int) × (List Int) → Option (AV × List Blk) := fun (x1, x2, x3, x4, x5) => (kf17_j11022 ((Sha.addS (x1, x2, x3) x5).1, (Sha.addS (x1, x2, x3) x5).2.1, (Sha.addS (x1, x2, x3) x5).2.2, x4))
theorem f17_n111110_eq (F : Nat) (Rf17_j11022 : St → Option (AV × List Blk)) : ∀ v, aexec VG0217 (Af17 F) (sub (bodyOf Tryd.f17) [1, 1, 1, 1, 1, 0]) (ef17_j10024 v) (kSeq (fun s => Rf17_j11022 (cutTo VG0217 (some [(1, .plain), (2, .plain)]) s)) (kFin VG0217 0 (Tryd.f17).results.toList)) = f17_n111110 F (fun w => Rf17_j11022 (ef17_j11022 w)) v := by
  rintro ⟨x1, x2, x3, x4, x5⟩; kernel_rfl
def f17_n1111110 (F : Nat) (kf17_j12020 : (List Int) × (List Int) × Int × (List Int) × (List Int) → Option (AV × List Blk)) : (List Int) × (List Int) × Int × (List Int) → Option (AV × List Blk) := fun (x1, x2, x3, x4) => (kf17_j12020 (x1, x2, x3, x4, (List.replicate 32 0)))
theorem f17_n1111110_eq (F : Nat) (Rf17_j12020 : St → Option (AV × List Blk)) : ∀ v, aexec VG0217 (Af17 F) (sub (bodyOf Tryd.f17) [1, 1, 1, 1, 1, 1, 0]) (ef17_j11022 v) (kSeq (fun s => Rf17_j12020 (cutTo VG0217 (some [(1, .plain), (2, .plain), (6, .plain)]) s)) (kFin VG0217 0 (Tryd.f17).results.toList)) = f17_n1111110 F (fun w => Rf17_j12020 (ef17_j12020 w)) v := by
  rintro ⟨x1, x2, x3, x4⟩; kernel_rfl
def f17_n111111100 (F : Nat) (kf17_j13014 : Int × (List Int) × (List Int) × Int × (List Int) × (List Int) → Option (AV × List Blk)) (kf17_j17003 : (List Int) × (List Int) → Option (AV × List Blk)) : (List Int) × (List Int) × Int × (List Int) × (List Int) → Option (AV × List Blk) := fun (x1, x2, x3, x4, x5) => (kf17_j13014 ((0 : Int), x1, x2, x3, x4, x5))
theorem f17_n111111100_eq (F : Nat) (Rf17_j13014 : St → Option (AV × List Blk)) (Rf17_j17003 : St → Option (AV × List Blk)) : ∀ v, aexec VG0217 (Af17 F) (sub (bodyOf Tryd.f17) [1, 1, 1, 1, 1, 1, 1, 0, 0]) (ef17_j12020 v) (kSeq (fun s => Rf17_j13014 (cutTo VG0217 (some [(1, .plain), (2, .plain), (6, .plain), (40, .plain)]) s)) (kSeq (fun s => Rf17_j17003 (cutTo VG0217 (some [(2, .plain), (6, .plain)]) s)) (kFin VG0217 0 (Tryd.f17).results.toList))) = f17_n111111100 F (fun w => Rf17_j13014 (ef17_j13014 w)) (fun w => Rf17_j17003 (ef17_j17003 w)) v := by
  rintro ⟨x1, x2, x3, x4, x5⟩; kernel_rfl
def f17_n11111110100 (F : Nat) (kf17_l13012 : Int × (List Int) × (List Int) × Int × (List Int) × (List Int) → Option (AV × List Blk)) (kf17_j17003 : (List Int) × (List Int) → Option (AV × List Blk)) : Int × (List Int) × (List Int) × Int × (List Int) × (List Int) → Option (AV × List Blk) := fun (t40, x2, x3, x4, x5, x6) => (cond (decide (t40 < (32 : Int))) (cond ((decide (0 ≤ (IntKind.i64.wrap (Int.tdiv t40 (4 : Int))))) && (decide ((IntKind.i64.wrap (Int.tdiv t40 (4 : Int))) < (8 : Int)))) (cond (decide (0 ≤ (IntKind.i64.wrap ((24 : Int) - (IntKind.i64.wrap ((8 : Int) * (Int.tmod t40 (4 : Int)))))))) (cond ((decide (0 ≤ t40)) && (decide (t40 < (32 : Int)))) (kf17_l13012 ((IntKind.i64.wrap (t40 + (1 : Int))), x2, x3, x4, x5, (x6.set (Int.toNat t40) (IntKind.u8.wrap (Int.fdiv (x2.getD (Int.toNat (IntKind.i64.wrap (Int.tdiv t40 (4 : Int)))) 0) (2 ^ (min (Int.toNat (IntKind.i64.wrap ((24 : Int) - (IntKind.i64.wrap ((8 : Int) * (Int.tmod t40 (4 : Int))))))) 32))))))) none) none) none) (kf17_j17003 (x5, x6)))
theorem f17_n11111110100_eq (F : Nat) (Rf17_l13012 : St → Option (AV × List Blk)) (Rf17_j17003 : St → Option (AV × List Blk)) : ∀ v, aexec VG0217 (Af17 F) (sub (bodyOf Tryd.f17) [1, 1, 1, 1, 1, 1, 1, 0, 1, 0, 0]) (ef17_l13012 v) (kSeq (fun s => Rf17_l13012 (cutTo VG0217 (some [(1, .plain), (2, .plain), (6, .plain), (40, .plain)]) s)) (kBlock 4 (kSeq (fun s => Rf17_j17003 (cutTo VG0217 (some [(2, .plain), (6, .plain)]) s)) (kFin VG0217 0 (Tryd.f17).results.toList)))) = f17_n11111110100 F (fun w => Rf17_l13012 (ef17_l13012 w)) (fun w => Rf17_j17003 (ef17_j17003 w)) v := by
  rintro ⟨t40, x2, x3, x4, x5, x6⟩; kernel_rfl
def f17_n1111111010_i : Int × (List Int) × (List Int) × Int × (List Int) × (List Int) → Int × (List Int) × (List Int) × Int × (List Int) × (List Int) := fun (t40, x2, x3, x4, x5, x6) => (t40, x2, x3, x4, x5, x6)
def f17_n1111111010 (F : Nat) (kf17_j17003 : (List Int) × (List Int) → Option (AV × List Blk)) : Int × (List Int) × (List Int) × Int × (List Int) × (List Int) → Option (AV × List Blk) := fun v => loopN (fun k => f17_n11111110100 F k kf17_j17003) F (f17_n1111111010_i v)
theorem f17_n1111111010_eq (F : Nat) (Rf17_j17003 : St → Option (AV × List Blk)) : ∀ v, aexec VG0217 (Af17 F) (sub (bodyOf Tryd.f17) [1, 1, 1, 1, 1, 1, 1, 0, 1, 0]) (ef17_j13014 v) (kBlock 4 (kSeq (fun s => Rf17_j17003 (cutTo VG0217 (some [(2, .plain), (6, .plain)]) s)) (kFin VG0217 0 (Tryd.f17).results.toList))) = f17_n1111111010 F (fun w => Rf17_j17003 (ef17_j17003 w)) v :=
  loop_cut (c := (sub (bodyOf Tryd.f17) [1, 1, 1, 1, 1, 1, 1, 0, 1, 0])) (d := (sub (bodyOf Tryd.f17) [1, 1, 1, 1, 1, 1, 1, 0, 1, 0, 0])) (by kernel_rfl) (spec := [(1, .plain), (2, .plain), (6, .plain), (40, .plain)]) (by kernel_rfl) ef17_j13014 ef17_l13012 (kBlock 4 (kSeq (fun s => Rf17_j17003 (cutTo VG0217 (some [(2, .plain), (6, .plain)]) s)) (kFin VG0217 0 (Tryd.f17).results.toList))) f17_n1111111010_i (fun k => f17_n11111110100 F k (fun w => Rf17_j17003 (ef17_j17003 w)))
    (by rintro ⟨t40, x2, x3, x4, x5, x6⟩; kernel_rfl) (fun Rf17_l13012 => f17_n11111110100_eq F Rf17_l13012 Rf17_j17003)
def f17_n111111101 (F : Nat) (kf17_j17003 : (List Int) × (List Int) → Option (AV × List Blk)) : Int × (List Int) × (List Int) × Int × (List Int) × (List Int) → Option (AV × List Blk) := f17_n1111111010 F kf17_j17003
theorem f17_n111111101_eq (F : Nat) (Rf17_j17003 : St → Option (AV × List Blk)) : ∀ v, aexec VG0217 (Af17 F) (sub (bodyOf Tryd.f17) [1, 1, 1, 1, 1, 1, 1, 0, 1]) (ef17_j13014 v) (kSeq (fun s => Rf17_j17003 (cutTo VG0217 (some [(2, .plain), (6, .plain)]) s)) (kFin VG0217 0 (Tryd.f17).results.toList)) = f17_n111111101 F (fun w => Rf17_j17003 (ef17_j17003 w)) v := fun v =>
  (block_in (c := (sub (bodyOf Tryd.f17) [1, 1, 1, 1, 1, 1, 1, 0, 1])) (d := (sub (bodyOf Tryd.f17) [1, 1, 1, 1, 1, 1, 1, 0, 1, 0])) (id := 4) (by kernel_rfl) _ _).trans (f17_n1111111010_eq F Rf17_j17003 v)
def f17_n11111110 (F : Nat) (kf17_j17003 : (List Int) × (List Int) → Option (AV × List Blk)) : (List Int) × (List Int) × Int × (List Int) × (List Int) → Option (AV × List Blk) := fun v => f17_n111111100 F (f17_n111111101 F kf17_j17003) kf17_j17003 v
theorem f17_n11111110_eq (F : Nat) (Rf17_j17003 : St → Option (AV × List Blk)) : ∀ v, aexec VG0217 (Af17 F) (sub (bodyOf Tryd.f17) [1, 1, 1, 1, 1, 1, 1, 0]) (ef17_j12020 v) (kSeq (fun s => Rf17_j17003 (cutTo VG0217 (some [(2, .plain), (6, .plain)]) s)) (kFin VG0217 0 (Tryd.f17).results.toList)) = f17_n11111110 F (fun w => Rf17_j17003 (ef17_j17003 w)) v :=
  seq_cut (c := (sub (bodyOf Tryd.f17) [1, 1, 1, 1, 1, 1, 1, 0])) (a := (sub (bodyOf Tryd.f17) [1, 1, 1, 1, 1, 1, 1, 0, 0])) (b := (sub (bodyOf Tryd.f17) [1, 1, 1, 1, 1, 1, 1, 0, 1])) (by kernel_rfl) (spec := [(1, .plain), (2, .plain), (6, .plain), (40, .plain)]) (by kernel_rfl) ef17_j12020 ef17_j13014 (kSeq (fun s => Rf17_j17003 (cutTo VG0217 (some [(2, .plain), (6, .plain)]) s)) (kFin VG0217 0 (Tryd.f17).results.toList)) (fun k => f17_n111111100 F k (fun w => Rf17_j17003 (ef17_j17003 w))) (f17_n111111101 F (fun w => Rf17_j17003 (ef17_j17003 w)))
    (fun Rf17_j13014 => f17_n111111100_eq F Rf17_j13014 Rf17_j17003) (f17_n111111101_eq F Rf17_j17003)
def f17_n11111111 (F : Nat) : (List Int) × (List Int) → Option (AV × List Blk) := fun (x1, x2) => (some ((.agg 32 (.rI .u8 x2)), []))
theorem f17_n11111111_eq (F : Nat) : ∀ v, aexec VG0217 (Af17 F) (sub (bodyOf Tryd.f17) [1, 1, 1, 1, 1, 1, 1, 1]) (ef17_j17003 v) (kFin VG0217 0 (Tryd.f17).results.toList) = f17_n11111111 F v := by
  rintro ⟨x1, x2⟩; kernel_rfl
def f17_n1111111 (F : Nat) : (List Int) × (List Int) × Int × (List Int) × (List Int) → Option (AV × List Blk) := fun v => f17_n11111110 F (f17_n11111111 F) v
theorem f17_n1111111_eq (F : Nat) : ∀ v, aexec VG0217 (Af17 F) (sub (bodyOf Tryd.f17) [1, 1, 1, 1, 1, 1, 1]) (ef17_j12020 v) (kFin VG0217 0 (Tryd.f17).results.toList) = f17_n1111111 F v :=
  seq_cut (c := (sub (bodyOf Tryd.f17) [1, 1, 1, 1, 1, 1, 1])) (a := (sub (bodyOf Tryd.f17) [1, 1, 1, 1, 1, 1, 1, 0])) (b := (sub (bodyOf Tryd.f17) [1, 1, 1, 1, 1, 1, 1, 1])) (by kernel_rfl) (spec := [(2, .plain), (6, .plain)]) (by kernel_rfl) ef17_j12020 ef17_j17003 (kFin VG0217 0 (Tryd.f17).results.toList) (fun k => f17_n11111110 F k) (f17_n11111111 F)
    (fun Rf17_j17003 => f17_n11111110_eq F Rf17_j17003) (f17_n11111111_eq F)
def f17_n111111 (F : Nat) : (List Int) × (List Int) × Int × (List Int) → Option (AV × List Blk) := fun v => f17_n1111110 F (f17_n1111111 F) v
theorem f17_n111111_eq (F : Nat) : ∀ v, aexec VG0217 (Af17 F) (sub (bodyOf Tryd.f17) [1, 1, 1, 1, 1, 1]) (ef17_j11022 v) (kFin VG0217 0 (Tryd.f17).results.toList) = f17_n111111 F v :=
  seq_cut (c := (sub (bodyOf Tryd.f17) [1, 1, 1, 1, 1, 1])) (a := (sub (bodyOf Tryd.f17) [1, 1, 1, 1, 1, 1, 0])) (b := (sub (bodyOf Tryd.f17) [1, 1, 1, 1, 1, 1, 1])) (by kernel_rfl) (spec := [(1, .plain), (2, .plain), (6, .plain)]) (by kernel_rfl) ef17_j11022 ef17_j12020 (kFin VG0217 0 (Tryd.f17).results.toList) (fun k => f17_n1111110 F k) (f17_n1111111 F)
    (fun Rf17_j12020 => f17_n1111110_eq F Rf17_j12020) (f17_n1111111_eq F)
def f17_n11111 (F : Nat) : (List Int) × (List Int) × Int × (List Int) × (List Int) → Option (AV × List Blk) := fun v => f17_n111110 F (f17_n111111 F) v
theorem f17_n11111_eq (F : Nat) : ∀ v, aexec VG0217 (Af17 F) (sub (bodyOf Tryd.f17) [1, 1, 1, 1, 1]) (ef17_j10024 v) (kFin VG0217 0 (Tryd.f17).results.toList) = f17_n11111 F v :=
  seq_cut (c := (sub (bodyOf Tryd.f17) [1, 1, 1, 1, 1])) (a := (sub (bodyOf Tryd.f17) [1, 1, 1, 1, 1, 0])) (b := (sub (bodyOf Tryd.f17) [1, 1, 1, 1, 1, 1])) (by kernel_rfl) (spec := [(1, .plain), (2, .plain)]) (by kernel_rfl) ef17_j10024 ef17_j11022 (kFin VG0217 0 (Tryd.f17).results.toList) (fun k => f17_n111110 F k) (f17_n111111 F)
    (fun Rf17_j11022 => f17_n111110_eq F Rf17_j11022) (f17_n111111_eq F)
def f17_n1111 (F : Nat) : Int × (List Int) × (List Int) × Int × (List Int) × (List Int) → Option (AV × List Blk) := fun v => f17_n11110 F (f17_n11111 F) v
theorem f17_n1111_eq (F : Nat) : ∀ v, aexec VG0217 (Af17 F) (sub (bodyOf Tryd.f17) [1, 1, 1, 1]) (ef17_j5041 v) (kFin VG0217 0 (Tryd.f17).results.toList) = f17_n1111 F v :=
  seq_cut (c := (sub (bodyOf Tryd.f17) [1, 1, 1, 1])) (a := (sub (bodyOf Tryd.f17) [1, 1, 1, 1, 0])) (b := (sub (bodyOf Tryd.f17) [1, 1, 1, 1, 1])) (by kernel_rfl) (spec := [(1, .plain), (2, .plain), (4, .plain)]) (by kernel_rfl) ef17_j5041 ef17_j10024 (kFin VG0217 0 (Tryd.f17).results.toList) (fun k => f17_n11110 F k) (f17_n11111 F)
    (fun Rf17_j10024 => f17_n11110_eq F Rf17_j10024) (f17_n11111_eq F)
def f17_n111 (F : Nat) : Int × (List Int) × (List Int) × Int × (List Int) × (List Int) → Option (AV × List Blk) := fun v => f17_n1110 F (f17_n1111 F) v
theorem f17_n111_eq (F : Nat) : ∀ v, aexec VG0217 (Af17 F) (sub (bodyOf Tryd.f17) [1, 1, 1]) (ef17_j3052 v) (kFin VG0217 0 (Tryd.f17).results.toList) = f17_n111 F v :=
  seq_cut (c := (sub (bodyOf Tryd.f17) [1, 1, 1])) (a := (sub (bodyOf Tryd.f17) [1, 1, 1, 0])) (b := (sub (bodyOf Tryd.f17) [1, 1, 1, 1])) (by kernel_rfl) (spec := [(1, .plain), (2, .plain), (3, .plain), (4, .plain)]) (by kernel_rfl) ef17_j3052 ef17_j5041 (kFin VG0217 0 (Tryd.f17).results.toList) (fun k => f17_n1110 F k) (f17_n1111 F)
    (fun Rf17_j5041 => f17_n1110_eq F Rf17_j5041) (f17_n1111_eq F)
def f17_n11 (F : Nat) : Int × (List Int) × (List Int) × Int × (List Int) → Option (AV × List Blk) := fun v => f17_n110 F (f17_n111 F) v
theorem f17_n11_eq (F : Nat) : ∀ v, aexec VG0217 (Af17 F) (sub (bodyOf Tryd.f17) [1, 1]) (ef17_j2054 v) (kFin VG0217 0 (Tryd.f17).results.toList) = f17_n11 F v :=
  seq_cut (c := (sub (bodyOf Tryd.f17) [1, 1])) (a := (sub (bodyOf Tryd.f17) [1, 1, 0])) (b := (sub (bodyOf Tryd.f17) [1, 1, 1])) (by kernel_rfl) (spec := [(1, .plain), (2, .plain), (3, .plain), (4, .plain)]) (by kernel_rfl) ef17_j2054 ef17_j3052 (kFin VG0217 0 (Tryd.f17).results.toList) (fun k => f17_n110 F k) (f17_n111 F)
    (fun Rf17_j3052 => f17_n110_eq F Rf17_j3052) (f17_n111_eq F)
def f17_n1 (F : Nat) : (List Int) × (List Int) × Int × (List Int) → Option (AV × List Blk) := fun v => f17_n10 F (f17_n11 F) v
theorem f17_n1_eq (F : Nat) : ∀ v, aexec VG0217 (Af17 F) (sub (bodyOf Tryd.f17) [1]) (ef17_j1056 v) (kFin VG0217 0 (Tryd.f17).results.toList) = f17_n1 F v :=
  seq_cut (c := (sub (bodyOf Tryd.f17) [1])) (a := (sub (bodyOf Tryd.f17) [1, 0])) (b := (sub (bodyOf Tryd.f17) [1, 1])) (by kernel_rfl) (spec := [(1, .plain), (2, .plain), (3, .plain)]) (by kernel_rfl) ef17_j1056 ef17_j2054 (kFin VG0217 0 (Tryd.f17).results.toList) (fun k => f17_n10 F k) (f17_n11 F)
    (fun Rf17_j2054 => f17_n10_eq F Rf17_j2054) (f17_n11_eq F)
def f17_nt (F : Nat) : (List Int) × (List Int) × Int → Option (AV × List Blk) := fun v => f17_n0 F (f17_n1 F) v
theorem f17_nt_eq (F : Nat) : ∀ v, aexec VG0217 (Af17 F) (sub (bodyOf Tryd.f17) []) (ef17_a v) (kFin VG0217 0 (Tryd.f17).results.toList) = f17_nt F v :=
  seq_cut (c := (sub (bodyOf Tryd.f17) [])) (a := (sub (bodyOf Tryd.f17) [0])) (b := (sub (bodyOf Tryd.f17) [1])) (by kernel_rfl) (spec := [(1, .plain), (2, .plain)]) (by kernel_rfl) ef17_a ef17_j1056 (kFin VG0217 0 (Tryd.f17).results.toList) (fun k => f17_n0 F k) (f17_n1 F)
    (fun Rf17_j1056 => f17_n0_eq F Rf17_j1056) (f17_n1_eq F)
/-- (gantry/hash.Stream).Sum -/
def f17 (F : Nat) : (List Int) × (List Int) × Int → Option (AV × List Blk) := f17_nt F
theorem f17_body (F : Nat) (a0_0 : List Int) (a0_1 : List Int) (a0_2 : Int) : abody VG0217 (Af17 F) Tryd.f17 [(.agg 73 (.segs (.cons 8 (.rI .u32 a0_0) (.cons 64 (.rI .u8 a0_1) (.cons 1 (.one (.int .u64 a0_2)) .nil)))))] [] = f17 F (a0_0, a0_1, a0_2) :=
  (abody_in (c := (sub (bodyOf Tryd.f17) [])) (by kernel_rfl) (s := ef17_a (a0_0, a0_1, a0_2)) (by kernel_rfl)).trans (f17_nt_eq F (a0_0, a0_1, a0_2))
def r17 : CRun := fun X H => match X, H with
  | [(.agg 73 (.segs (.cons 8 (.rI .u32 a0_0) (.cons 64 (.rI .u8 a0_1) (.cons 1 (.one (.int .u64 a0_2)) .nil)))))], [] => some ((decide (a0_2 ≤ 9223372036854775000)), (.agg 32 (.rI .u8 (Sha.fin (a0_0, a0_1, a0_2)))), [])
  | _, _ => none
theorem s17 (a0_0 : List Int) (a0_1 : List Int) (a0_2 : Int) (hp : ((decide (a0_2 ≤ 9223372036854775000))) = true) (h0 : okV (.agg 73 (.segs (.cons 8 (.rI .u32 a0_0) (.cons 64 (.rI .u8 a0_1) (.cons 1 (.one (.int .u64 a0_2)) .nil)))))) : ∃ F, f17 F (a0_0, a0_1, a0_2) = some ((.agg 32 (.rI .u8 (Sha.fin (a0_0, a0_1, a0_2)))), []) := by
  obtain ⟨h8, hb, hn0, hn1⟩ := ok_str h0
  have hn : a0_2 ≤ 9223372036854775000 := of_decide_eq_true hp
  refine ⟨65, ?_⟩
  simp only [f17, f17_nt, f17_n0, f17_n1, f17_n10, f17_n11, f17_n110, f17_n111, f17_n1110, f17_n11100, f17_n11100_i]
  refine loopN_from (fun i => (IntKind.u64.wrap (8 * a0_2), a0_0, a0_1, a0_2, List.replicate 32 0, 128 :: List.replicate i 0)) ((55 - a0_2) % 64).toNat (by rfl) (fun i hi k => ?_) (fun k => ?_) 65 (by omega)
  · simp only [f17_n111000, List.length_cons, List.length_replicate, int_bne]
    rw [i64w (x := a0_2) (by omega) (by omega), i64w (x := a0_2 + ((i + 1 : Nat) : Int)) (by omega) (by omega), tmod_nn (by omega), cond_pos (by omega), cond_pos (by omega)]
    rw [show List.replicate (i + 1) (0 : Int) = List.replicate i 0 ++ [0] from List.replicate_succ']; rfl
  · simp only [f17_n111000, List.length_cons, List.length_replicate, int_bne]
    rw [i64w (x := a0_2) (by omega) (by omega), i64w (x := a0_2 + ((((55 - a0_2) % 64).toNat + 1 : Nat) : Int)) (by omega) (by omega), tmod_nn (by omega), cond_neg (by omega)]
    generalize hP : (128 : Int) :: List.replicate ((55 - a0_2) % 64).toNat 0 = P
    have hPl : P.length ≤ 64 := by rw [← hP]; simp; omega
    generalize hM : IntKind.u64.wrap (8 * a0_2) = M
    simp only [f17_n1111, f17_n11110, f17_n111100, f17_n111101, f17_n1111010, f17_n1111010_i]
    refine loopN_from (fun j => (M, (j : Int), a0_0, a0_1, a0_2, List.replicate 32 0, P ++ (List.range j).map fun i => IntKind.u8.wrap (M.fdiv (2 ^ (56 - 8 * i))))) 8 (by simp) (fun j hj k' => ?_) (fun k' => ?_) 65 (by omega)
    · simp only [f17_n11110100, List.length_append, List.length_map, List.length_range]
      rw [i64w (x := 8 * (j : Int)) (by omega) (by omega), i64w (x := 56 - 8 * (j : Int)) (by omega) (by omega), i64w (x := (j : Int) + 1) (by omega) (by omega), cond_pos (by omega), cond_pos (by omega), cond_pos (by omega)]
      rw [show min (56 - 8 * (j : Int)).toNat 64 = 56 - 8 * j by omega, List.range_succ, List.map_append, List.append_assoc]
      rfl
    · simp only [f17_n11110100]
      rw [cond_neg (by omega)]
      simp only [f17_n11111, f17_n111110, f17_n111111, f17_n1111110, f17_n1111111, f17_n11111110, f17_n111111100, f17_n111111101, f17_n1111111010, f17_n1111111010_i]
      have hpad : P ++ (List.range 8).map (fun i => IntKind.u8.wrap (M.fdiv (2 ^ (56 - 8 * i)))) = Sha.pad a0_2 := by rw [← hP, ← hM]; rfl
      rw [hpad]
      show loopN _ _ _ = some (AV.agg 32 (AV.rI IntKind.u8 (Sha.out (Sha.addS (a0_0, a0_1, a0_2) (Sha.pad a0_2)).1)), [])
      generalize Sha.addS (a0_0, a0_1, a0_2) (Sha.pad a0_2) = R
      obtain ⟨R1, R2, R3⟩ := R
      refine loopN_from (fun i => ((i : Int), R1, R2, R3, List.replicate 32 0, (List.range i).map (fun i => IntKind.u8.wrap ((R1.getD (i / 4) 0).fdiv (2 ^ (24 - 8 * (i % 4))))) ++ List.replicate (32 - i) 0)) 32 (by rfl) (fun i hi k'' => ?_) (fun k'' => ?_) 65 (by omega)
      · simp only [f17_n11111110100, dec_and]
        rw [tdiv_nn (by omega), tmod_nn (by omega), i64w (x := (i : Int) / 4) (by omega) (by omega), i64w (x := 8 * ((i : Int) % 4)) (by omega) (by omega), i64w (x := 24 - 8 * ((i : Int) % 4)) (by omega) (by omega), i64w (x := (i : Int) + 1) (by omega) (by omega),
          cond_pos (by omega), cond_pos (by omega), cond_pos (by omega), cond_pos (by omega)]
        rw [show min (24 - 8 * ((i : Int) % 4)).toNat 32 = 24 - 8 * (i % 4) by omega, show ((i : Int) / 4).toNat = i / 4 by omega, Int.toNat_natCast, fill_set _ 0 32 i hi rfl]
        rfl
      · simp only [f17_n11111110100]
        rw [cond_neg (by omega), Nat.sub_self, List.replicate_zero, List.append_nil]
        rfl

theorem c17 : CallOk Tryd.prog G02 17 r17 := callOk_of (V := VG0217) mixed tys eVG0217 (f := 17) (fn := Tryd.f17) Tryd.func17 (by kernel_rfl) (c := sub (bodyOf Tryd.f17) []) (by kernel_rfl) (by
  intro X H r H' h hX hH
  unfold r17 at h; split at h <;> try contradiction
  simp only [Option.some.injEq, Prod.mk.injEq] at h
  obtain ⟨hp, rfl, rfl⟩ := h
  obtain ⟨F, hF⟩ := s17 _ _ _ hp (hX _ (.head _))
  exact ⟨Af17 F, (f17_body F _ _ _).trans hF⟩)
/-! gantry/hash.Sum -/
def lVG0211 : List CEnt := [(14, [], r14), (15, [none, none], r15), (17, [none], r17)]
def VG0211 : Env := mkEnv T02 G02 lVG0211
theorem eVG0211 : EOk Tryd.prog VG0211 := eok_mk (by exact ⟨c14, c15, c17, trivial⟩)
def Af11 (F : Nat) : Cuts := { F := F, at_ := fun _ => none, join := fun _ => none }
def ef11_a : (List Int) → St := fun a0 => { tmps := [(0, (.vs (.rI .u8 a0) 0 1))], heap := [], next := 0, nt := 8, m := 0 }
def f11_nt (F : Nat) : (List Int) → Option (AV × List Blk) := fun a0 => (cond (decide ((Sha.addS (Sha.iv, (List.replicate 64 0), (0 : Int)) a0).2.2 ≤ 9223372036854775000)) (some ((.agg 32 (.rI .u8 (Sha.fin ((Sha.addS (Sha.iv, (List.replicate 64 0), (0 : Int)) a0).1, (Sha.addS (Sha.iv, (List.replicate 64 0), (0 : Int)) a0).2.1, (Sha.addS (Sha.iv, (List.replicate 64 0), (0 : Int)) a0).2.2)))), [])) none)
theorem f11_nt_eq (F : Nat) : ∀ v, aexec VG0211 (Af11 F) (sub (bodyOf Tryd.f11) []) (ef11_a v) (kFin VG0211 0 (Tryd.f11).results.toList) = f11_nt F v := by
  intro a0; kernel_rfl
/-- gantry/hash.Sum -/
def f11 (F : Nat) : (List Int) → Option (AV × List Blk) := f11_nt F
theorem f11_body (F : Nat) (a0 : List Int) : abody VG0211 (Af11 F) Tryd.f11 [(.vs (.rI .u8 a0) 0 1)] [] = f11 F a0 :=
  (abody_in (c := (sub (bodyOf Tryd.f11) [])) (by kernel_rfl) (s := ef11_a a0) (by kernel_rfl)).trans (f11_nt_eq F a0)
def r11 : CRun := fun X H => match X, H with
  | [(.vs (.rI .u8 a0) 0 1)], [] => some (true, (.agg 32 (.rI .u8 (Sha.hash a0))), [])
  | _, _ => none
theorem s11 (a0 : List Int) (h0 : okV (.vs (.rI .u8 a0) 0 1)) : ∃ F, f11 F a0 = some ((.agg 32 (.rI .u8 (Sha.hash a0))), []) := by
  refine ⟨0, ?_⟩
  have := h0.2
  simp only [f11, f11_nt]
  rw [Sha.addS_n _ _ _ _ (by omega) (by omega), cond_pos (by rw [u64mod]; omega), ← Sha.addS_n _ Sha.iv (List.replicate 64 0) _ (by omega) (by omega)]
  rfl

theorem c11 : CallOk Tryd.prog G02 11 r11 := callOk_of (V := VG0211) mixed tys eVG0211 (f := 11) (fn := Tryd.f11) Tryd.func11 (by kernel_rfl) (c := sub (bodyOf Tryd.f11) []) (by kernel_rfl) (by
  intro X H r H' h hX hH
  unfold r11 at h; split at h <;> try contradiction
  simp only [Option.some.injEq, Prod.mk.injEq] at h
  obtain ⟨hp, rfl, rfl⟩ := h
  obtain ⟨F, hF⟩ := s11 _ (hX _ (.head _))
  exact ⟨Af11 F, (f11_body F _).trans hF⟩)
end Go.Am
