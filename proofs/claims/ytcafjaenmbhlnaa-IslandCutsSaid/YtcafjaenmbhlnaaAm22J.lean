/- Part of a proof about the functions of the given program. -/
import Derived.Test.YtcafjaenmbhlnaaAmIsl4
set_option linter.unusedVariables false
set_option linter.unusedSimpArgs false
namespace Go.Am
open Go Go.Proofs
abbrev sp50 : List (Nat × Md) := [(8,.plain),(9,.plain),(10,.plain)]
abbrev sp51 : List (Nat × Md) := [(0,.plain),(2,.plain),(7,.plain)]
abbrev sp52 : List (Nat × Md) := [(2,.plain),(7,.plain),(8,.plain)]
abbrev sp53 : List (Nat × Md) := [(2,.plain),(8,.plain),(9,.plain)]
abbrev Ty64 := (List Int) × Int × (List (List Int))
def lVG224 : List CEnt := [(10,[none,none],r10),(11,[some 3,none],r11),(12,[none,some 22],r12),(13,[some 22],r13),(19,[],r19),(20,[none],r20),(21,[some 3,some 3],r21),(22,[some 3,some 22],r22),(23,[some 3,some 22],r23)]
def VG224 : Env := mkEnv T22 G22 lVG224
theorem eVG224 : EOk Try.prog VG224 := eok_mk (by exact ⟨c10,c11,c12,c13,c19,c20,c21,c22,c23,trivial⟩)
def Af4 (F : Nat) : Cuts := { F := F,at_ := fun n => match n with | 6016 => some sp50 | _ => none,join := fun n => match n with | 1032 => some sp39 | 2030 => some sp51 | 3028 => some sp52 | 4026 => some sp53 | 5024 => some [(8,.plain),(9,.plain)] | 6018 => some sp50 | 10003 => some [] | _ => none }
def ef4_a : Ty64 → St := fun (a0,a1,a2) => { tmps := [(0,(.vs (.rI .i64 a0) 0 1)),(1,(.int .i64 a1)),(2,(.vs (.rL .i64 a2) 0 1))],heap := [],next := 0,nt := 49,m := 0 }
def ef4j1 : Ty64 → St := fun (t0,t1,t2) => { tmps := [(0,(.vs (.rI .i64 t0) 0 1)),(1,(.int .i64 t1)),(2,(.vs (.rL .i64 t2) 0 1))],heap := [],next := 0,nt := 49,m := 0 }
def ef4j2 : Ty47 → St := fun (t0,t2,t7) => { tmps := [(0,(.vs (.rI .i64 t0) 0 1)),(2,(.vs (.rL .i64 t2) 0 1)),(7,(.int .i64 t7))],heap := [],next := 0,nt := 49,m := 0 }
def ef4j3 : Ty4 → St := fun (t2,t7,x3) => { tmps := [(2,(.vs (.rL .i64 t2) 0 1)),(7,(.int .i64 t7)),(8,(.own 0 0 1))],heap := [(0,(.cells x3.length (.rL .i64 x3) true))],next := 1,nt := 49,m := 0 }
def ef4j4 : Ty19 → St := fun (t2,x2,x3) => { tmps := [(2,(.vs (.rL .i64 t2) 0 1)),(8,(.own 0 0 1)),(9,(.own 1 0 1))],heap := [(0,(.cells x2.length (.rL .i64 x2) false)),(1,(.cells x3.length (.rL .i64 x3) true))],next := 2,nt := 49,m := 0 }
def ef4j5 : Ty6 → St := fun (x1,x2) => { tmps := [(8,(.own 0 0 1)),(9,(.own 1 0 1))],heap := [(0,(.cells x1.length (.rL .i64 x1) false)),(1,(.cells x2.length (.rL .i64 x2) true))],next := 2,nt := 49,m := 0 }
def ef4j6 : Ty17 → St := fun (t10,x2,x3) => { tmps := [(8,(.own 0 0 1)),(9,(.own 1 0 1)),(10,(.int .i64 t10))],heap := [(0,(.cells x2.length (.rL .i64 x2) false)),(1,(.cells x3.length (.rL .i64 x3) true))],next := 2,nt := 49,m := 0 }
def ef4l1 : Ty17 → St := fun (t10,x2,x3) => { tmps := [(8,(.own 0 0 1)),(9,(.own 1 0 1)),(10,(.int .i64 t10))],heap := [(0,(.cells x2.length (.rL .i64 x2) false)),(1,(.cells x3.length (.rL .i64 x3) true))],next := 2,nt := 49,m := 0 }
def ef4j7 : Unit → St := fun _ => { tmps := [],heap := [],next := 0,nt := 49,m := 0 }
def f4_1 (F : Nat) (kf4j1 : Ty64 → Rz) : Ty64 → Rz := fun (a0,a1,a2) => (kf4j1 (a0,a1,a2))
theorem f4_1_eq (F : Nat) (Rf4j1 : St → Rz) : ∀ v,aexec VG224 (Af4 F) (bp Try.f4 2) (ef4_a v) (kSeq (kc VG224 Rf4j1 sp39) (kFin VG224 none (Try.f4).results.toList)) = f4_1 F (Rf4j1 ∘ ef4j1) v := by
  rintro ⟨a0,a1,a2⟩; kernel_rfl
def f4_2 (F : Nat) (kf4j2 : Ty47 → Rz) : Ty64 → Rz := fun (t0,t1,t2) => (cond (decide (0 < (10 : Int))) (kf4j2 (t0,t2,(IntKind.i64.wrap ((1 : Int) + (Reg.around t1 (10 : Int)))))) none)
theorem f4_2_eq (F : Nat) (Rf4j2 : St → Rz) : ∀ v,aexec VG224 (Af4 F) (bp Try.f4 6) (ef4j1 v) (kSeq (kc VG224 Rf4j2 sp51) (kFin VG224 none (Try.f4).results.toList)) = f4_2 F (Rf4j2 ∘ ef4j2) v := by
  rintro ⟨t0,t1,t2⟩; kernel_rfl
def f4_3 (F : Nat) (kf4j3 : Ty4 → Rz) : Ty47 → Rz := fun (t0,t2,t7) => (cond ((decide (0 ≤ t7)) && (decide (t7 < 1000))) (kf4j3 (t2,t7,(Isl.some t0 t7))) none)
theorem f4_3_eq (F : Nat) (Rf4j3 : St → Rz) : ∀ v,aexec VG224 (Af4 F) (bp Try.f4 14) (ef4j2 v) (kSeq (kc VG224 Rf4j3 sp52) (kFin VG224 none (Try.f4).results.toList)) = f4_3 F (Rf4j3 ∘ ef4j3) v := by
  rintro ⟨t0,t2,t7⟩; kernel_rfl
def f4_4 (F : Nat) (kf4j4 : Ty19 → Rz) : Ty4 → Rz := fun (t2,t7,x3) => (cond ((decide (0 ≤ t7)) && (decide (Int.toNat t7 < 1073741000))) (cond (decide (((Isl.groups t7 x3).length + 2) < 1073741824)) (kf4j4 (t2,x3,((Isl.groups t7 x3) ++ [(Isl.nums (Int.toNat t7)),[]]))) none) none)
theorem f4_4_eq (F : Nat) (Rf4j4 : St → Rz) : ∀ v,aexec VG224 (Af4 F) (bp Try.f4 30) (ef4j3 v) (kSeq (kc VG224 Rf4j4 sp53) (kFin VG224 none (Try.f4).results.toList)) = f4_4 F (Rf4j4 ∘ ef4j4) v := by
  rintro ⟨t2,t7,x3⟩; kernel_rfl
def f4_5 (F : Nat) (kf4j5 : Ty6 → Rz) : Ty19 → Rz := fun (t2,x2,x3) => (cond (decide ((x3.length + (Isl.few t2).length) < 1073741824)) (kf4j5 (x2,(x3 ++ (Isl.few t2)))) none)
theorem f4_5_eq (F : Nat) (Rf4j5 : St → Rz) : ∀ v,aexec VG224 (Af4 F) (bp Try.f4 62) (ef4j4 v) (kSeq (kc VG224 Rf4j5 [(8,.plain),(9,.plain)]) (kFin VG224 none (Try.f4).results.toList)) = f4_5 F (Rf4j5 ∘ ef4j5) v := by
  rintro ⟨t2,x2,x3⟩; kernel_rfl
def f4_6 (F : Nat) (kf4j6 : Ty17 → Rz) (kf4j7 : Unit → Rz) : Ty6 → Rz := fun (x1,x2) => (kf4j6 ((0 : Int),x1,x2))
theorem f4_6_eq (F : Nat) (Rf4j6 : St → Rz) (Rf4j7 : St → Rz) : ∀ v,aexec VG224 (Af4 F) (bp Try.f4 252) (ef4j5 v) (kSeq (kc VG224 Rf4j6 sp50) (kSeq (kc VG224 Rf4j7 []) (kFin VG224 none (Try.f4).results.toList))) = f4_6 F (Rf4j6 ∘ ef4j6) (Rf4j7 ∘ ef4j7) v := by
  rintro ⟨x1,x2⟩; kernel_rfl
def f4_7 (F : Nat) (kf4l1 : Ty17 → Rz) (kf4j7 : Unit → Rz) : Ty17 → Rz := fun (t10,x2,x3) => (cond (decide (t10 < (↑x3.length : Int))) (cond ((decide (0 ≤ t10)) && (decide (t10 < (↑x3.length : Int)))) (cond (decide ((x3.getD (Int.toNat t10) []).length < 1073740000)) (cond ((decide (0 ≤ t10)) && (decide (t10 < (↑x3.length : Int)))) (cond (decide ((x3.getD (Int.toNat t10) []).length < 1073740000)) (cond (!(decide ((Isl.cut (x3.getD (Int.toNat t10) []) x2) = (Isl.cut (x3.getD (Int.toNat t10) []) x2)))) (some ((.bool false),[])) (kf4l1 ((IntKind.i64.wrap (t10 + (1 : Int))),x2,x3))) none) none) none) none) (kf4j7 ()))
theorem f4_7_eq (F : Nat) (Rf4l1 : St → Rz) (Rf4j7 : St → Rz) : ∀ v,aexec VG224 (Af4 F) (bp Try.f4 1012) (ef4l1 v) (kSeq (kc VG224 Rf4l1 sp50) (kBlock 0 (kSeq (kc VG224 Rf4j7 []) (kFin VG224 none (Try.f4).results.toList)))) = f4_7 F (Rf4l1 ∘ ef4l1) (Rf4j7 ∘ ef4j7) v := by
  rintro ⟨t10,x2,x3⟩; kernel_rfl
def f4_8_i : Ty17 → Int × (List (List Int)) × (List (List Int)) := fun (t10,x2,x3) => (t10,x2,x3)
def f4_8 (F : Nat) (kf4j7 : Unit → Rz) : Ty17 → Rz := fun v => loopN (fun k => f4_7 F k kf4j7) F (f4_8_i v)
theorem f4_8_eq (F : Nat) (Rf4j7 : St → Rz) : ∀ v,aexec VG224 (Af4 F) (bp Try.f4 506) (ef4j6 v) (kBlock 0 (kSeq (kc VG224 Rf4j7 []) (kFin VG224 none (Try.f4).results.toList))) = f4_8 F (Rf4j7 ∘ ef4j7) v :=
  loop_cut (by kernel_rfl) (by kernel_rfl) ef4j6 ef4l1 _ f4_8_i (fun k => f4_7 F k (Rf4j7 ∘ ef4j7))
    (by rintro ⟨t10,x2,x3⟩; kernel_rfl) (fun Rf4l1 => f4_7_eq F Rf4l1 Rf4j7)
def f4_9 (F : Nat) (kf4j7 : Unit → Rz) : Ty17 → Rz := f4_8 F kf4j7
theorem f4_9_eq (F : Nat) (Rf4j7 : St → Rz) : ∀ v,aexec VG224 (Af4 F) (bp Try.f4 253) (ef4j6 v) (kSeq (kc VG224 Rf4j7 []) (kFin VG224 none (Try.f4).results.toList)) = f4_9 F (Rf4j7 ∘ ef4j7) v := fun v =>
  (block_in  (by kernel_rfl) _ _).trans (f4_8_eq F Rf4j7 v)
def f4_10 (F : Nat) (kf4j7 : Unit → Rz) : Ty6 → Rz := fun v => f4_6 F (f4_9 F kf4j7) kf4j7 v
theorem f4_10_eq (F : Nat) (Rf4j7 : St → Rz) : ∀ v,aexec VG224 (Af4 F) (bp Try.f4 126) (ef4j5 v) (kSeq (kc VG224 Rf4j7 []) (kFin VG224 none (Try.f4).results.toList)) = f4_10 F (Rf4j7 ∘ ef4j7) v :=
  seq_cut (by kernel_rfl) (by kernel_rfl) ef4j5 ef4j6 _ (fun k => f4_6 F k (Rf4j7 ∘ ef4j7)) (f4_9 F (Rf4j7 ∘ ef4j7))
    (fun Rf4j6 => f4_6_eq F Rf4j6 Rf4j7) (f4_9_eq F Rf4j7)
def f4_11 (F : Nat) : Unit → Rz := fun _ => (some ((.bool true),[]))
theorem f4_11_eq (F : Nat) : ∀ v,aexec VG224 (Af4 F) (bp Try.f4 127) (ef4j7 v) (kFin VG224 none (Try.f4).results.toList) = f4_11 F v := by
  intro _; kernel_rfl
def f4_12 (F : Nat) : Ty6 → Rz := fun v => f4_10 F (f4_11 F) v
theorem f4_12_eq (F : Nat) : ∀ v,aexec VG224 (Af4 F) (bp Try.f4 63) (ef4j5 v) (kFin VG224 none (Try.f4).results.toList) = f4_12 F v :=
  seq_cut (by kernel_rfl) (by kernel_rfl) ef4j5 ef4j7 _ (fun k => f4_10 F k) (f4_11 F)
    (fun Rf4j7 => f4_10_eq F Rf4j7) (f4_11_eq F)
def f4_13 (F : Nat) : Ty19 → Rz := fun v => f4_5 F (f4_12 F) v
theorem f4_13_eq (F : Nat) : ∀ v,aexec VG224 (Af4 F) (bp Try.f4 31) (ef4j4 v) (kFin VG224 none (Try.f4).results.toList) = f4_13 F v :=
  seq_cut (by kernel_rfl) (by kernel_rfl) ef4j4 ef4j5 _ (fun k => f4_5 F k) (f4_12 F)
    (fun Rf4j5 => f4_5_eq F Rf4j5) (f4_12_eq F)
def f4_14 (F : Nat) : Ty4 → Rz := fun v => f4_4 F (f4_13 F) v
theorem f4_14_eq (F : Nat) : ∀ v,aexec VG224 (Af4 F) (bp Try.f4 15) (ef4j3 v) (kFin VG224 none (Try.f4).results.toList) = f4_14 F v :=
  seq_cut (by kernel_rfl) (by kernel_rfl) ef4j3 ef4j4 _ (fun k => f4_4 F k) (f4_13 F)
    (fun Rf4j4 => f4_4_eq F Rf4j4) (f4_13_eq F)
def f4_15 (F : Nat) : Ty47 → Rz := fun v => f4_3 F (f4_14 F) v
theorem f4_15_eq (F : Nat) : ∀ v,aexec VG224 (Af4 F) (bp Try.f4 7) (ef4j2 v) (kFin VG224 none (Try.f4).results.toList) = f4_15 F v :=
  seq_cut (by kernel_rfl) (by kernel_rfl) ef4j2 ef4j3 _ (fun k => f4_3 F k) (f4_14 F)
    (fun Rf4j3 => f4_3_eq F Rf4j3) (f4_14_eq F)
def f4_16 (F : Nat) : Ty64 → Rz := fun v => f4_2 F (f4_15 F) v
theorem f4_16_eq (F : Nat) : ∀ v,aexec VG224 (Af4 F) (bp Try.f4 3) (ef4j1 v) (kFin VG224 none (Try.f4).results.toList) = f4_16 F v :=
  seq_cut (by kernel_rfl) (by kernel_rfl) ef4j1 ef4j2 _ (fun k => f4_2 F k) (f4_15 F)
    (fun Rf4j2 => f4_2_eq F Rf4j2) (f4_15_eq F)
def f4_17 (F : Nat) : Ty64 → Rz := fun v => f4_1 F (f4_16 F) v
theorem f4_17_eq (F : Nat) : ∀ v,aexec VG224 (Af4 F) (sub (bodyOf Try.f4) []) (ef4_a v) (kFin VG224 none (Try.f4).results.toList) = f4_17 F v :=
  seq_cut (by kernel_rfl) (by kernel_rfl) ef4_a ef4j1 _ (fun k => f4_1 F k) (f4_16 F)
    (fun Rf4j1 => f4_1_eq F Rf4j1) (f4_16_eq F)
def f4 (F : Nat) : Ty64 → Rz := f4_17 F
theorem f4_body (F : Nat) (a0 : List Int) (a1 : Int) (a2 : List (List Int)) : abody VG224 (Af4 F) Try.f4 [(.vs (.rI .i64 a0) 0 1),(.int .i64 a1),(.vs (.rL .i64 a2) 0 1)] [] = f4 F (a0,a1,a2) :=
  (abody_in (c := (sub (bodyOf Try.f4) [])) (by kernel_rfl) (s := ef4_a (a0,a1,a2)) (by kernel_rfl)).trans (f4_17_eq F (a0,a1,a2))
def r4 : CRun := fun X H => match X,H with
  | [(.vs (.rI .i64 a0) 0 1),(.int .i64 a1),(.vs (.rL .i64 a2) 0 1)],[] => some (true,(.bool true),[])
  | _,_ => none
theorem s4 (a0 : List Int) (a1 : Int) (a2 : List (List Int)) (h0 : okV (.vs (.rI .i64 a0) 0 1)) (h1 : okV (.int .i64 a1)) (h2 : okV (.vs (.rL .i64 a2) 0 1)) : ∃ F,f4 F (a0,a1,a2) = some ((.bool true),[]) := by
  have hr := Reg.around_lt (n := a1) (m := 10) (by decide)
  refine ⟨100,?_⟩
  simp only [f4_1,f4_2,f4_3,f4_4,f4_5,f4_6,f4_8_i,f4_8,f4_9,f4_10,f4_11,f4_12,f4_13,f4_14,f4_15,f4_16,f4_17,f4,dec_and]
  rw [cond_pos (by decide),i64w (by omega) (by omega)]
  generalize hk : (1 : Int) + Reg.around a1 10 = t
  obtain ⟨g1,g2⟩ := Isl.groups_bound t (Isl.some a0 t)
  have g3 := Isl.few_len a2
  have g4 : (Isl.groups t (Isl.some a0 t) ++ [Isl.nums t.toNat,[]]).length = (Isl.groups t (Isl.some a0 t)).length + 2 := by simp
  rw [cond_pos (by omega),cond_pos (by omega),cond_pos (by omega),cond_pos (by omega)]
  have hL : ∀ g ∈ (Isl.groups t (Isl.some a0 t) ++ [Isl.nums t.toNat,[]]) ++ Isl.few a2,g.length ≤ 20 := fun g hg => by
    simp only [List.mem_append,List.mem_cons,List.not_mem_nil,or_false] at hg
    rcases hg with (hg | rfl | rfl) | hg
    · have := g2 g hg; omega
    · rw [Isl.nums_len]; omega
    · simp
    · have := Isl.few_each g hg; omega
  have hl : ((Isl.groups t (Isl.some a0 t) ++ [Isl.nums t.toNat,[]]) ++ Isl.few a2).length ≤ 90 := by simp; omega
  generalize (Isl.groups t (Isl.some a0 t) ++ [Isl.nums t.toNat,[]]) ++ Isl.few a2 = L at hL hl
  refine loopN_from (fun i => ((i : Int),Isl.some a0 t,L)) L.length (by rfl) (fun i hi k => ?_) (fun k => ?_) _ (by omega)
  · have := Isl.getD_len hL i
    simp only [f4_7,dec_and,Int.toNat_natCast]
    rw [cond_pos (by omega),cond_pos (by omega),cond_pos (by omega),cond_pos (by omega),cond_pos (by omega),i64w (by omega) (by omega)]
    simp
  · simp only [f4_7]
    rw [cond_neg (by omega)]
    rfl
theorem c4 : CallOk Try.prog G22 4 r4 := callOk_of (V := VG224) mixed tys eVG224 (f := 4) (fn := Try.f4) Try.func4 (by kernel_rfl) (c := sub (bodyOf Try.f4) []) (by kernel_rfl) (by
  intro X H r H' h hX hH
  unfold r4 at h; split at h <;> try contradiction
  · simp only [Option.some.injEq,Prod.mk.injEq] at h
    obtain ⟨hp,rfl,rfl⟩ := h
    obtain ⟨F,hF⟩ := s4 _ _ _ (hX _ (.head _)) (hX _ (.tail _ (.head _))) (hX _ (.tail _ (.tail _ (.head _))))
    exact ⟨Af4 F,(f4_body F _ _ _).trans hF⟩)
end Go.Am
