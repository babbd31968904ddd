/- Part of a proof about the functions of the given program. -/
import Derived.Test.YtcafjaenmbhlnaaAmIsl4
set_option linter.unusedVariables false
set_option linter.unusedSimpArgs false
namespace Go.Am
open Go Go.Proofs
abbrev sp50 : List (Nat × Md) := [(0,.plain),(1,.plain),(2,.plain),(3,.plain)]
abbrev sp51 : List (Nat × Md) := [(0,.plain),(1,.plain),(2,.plain),(3,.plain),(9,.plain)]
abbrev Ty64 := (List Int) × Int × (List (List Int)) × (List (List Int))
abbrev Ty65 := (List Int) × Int × (List (List Int)) × (List (List Int)) × Int
abbrev Ty66 := Int × (List (List Int)) × Int × (List (List Int)) × (List (List Int))
abbrev Ty67 := Int × (List (List Int)) × Int × Int × (List (List Int)) × (List (List Int))
def lVG226 : List CEnt := [(10,[none,none],r10),(11,[some 3,none],r11),(12,[none,some 22],r12),(13,[some 22],r13),(14,[some 22,some 22],r14),(19,[],r19),(21,[some 3,some 3],r21),(24,[none,some 22],r24),(25,[none,some 22],r25),(26,[none,some 22],r26)]
def VG226 : Env := mkEnv T22 G22 lVG226
theorem eVG226 : EOk Try.prog VG226 := eok_mk (by exact ⟨c10,c11,c12,c13,c14,c19,c21,c24,c25,c26,trivial⟩)
def Af6 (F : Nat) : Cuts := { F := F,at_ := fun n => match n with | 4018 => some [(1,.plain),(3,.plain),(9,.plain),(10,.lists .i64 22),(11,.plain)] | _ => none,join := fun n => match n with | 1038 => some sp50 | 2036 => some sp51 | 3034 => some [(1,.plain),(3,.plain),(9,.plain),(10,.lists .i64 22)] | 4020 => some [(1,.plain),(3,.plain),(9,.plain),(10,.lists .i64 22),(11,.plain)] | 9011 => some [(1,.plain),(3,.plain),(9,.plain),(10,.lists .i64 22)] | _ => none,cas := fun n => match n with | 6 => some (11,2) | 7 => some (11,2) | _ => none }
def ef6_a : Ty64 → St := fun (a0,a1,a2,a3) => { tmps := [(0,(.vs (.rI .i64 a0) 0 1)),(1,(.int .i64 a1)),(2,(.vs (.rL .i64 a2) 0 1)),(3,(.vs (.rL .i64 a3) 0 1))],heap := [],next := 0,nt := 87,m := 0 }
def ef6j1 : Ty64 → St := fun (t0,t1,t2,t3) => { tmps := [(0,(.vs (.rI .i64 t0) 0 1)),(1,(.int .i64 t1)),(2,(.vs (.rL .i64 t2) 0 1)),(3,(.vs (.rL .i64 t3) 0 1))],heap := [],next := 0,nt := 87,m := 0 }
def ef6j2 : Ty65 → St := fun (t0,t1,t2,t3,t9) => { tmps := [(0,(.vs (.rI .i64 t0) 0 1)),(1,(.int .i64 t1)),(2,(.vs (.rL .i64 t2) 0 1)),(3,(.vs (.rL .i64 t3) 0 1)),(9,(.int .i64 t9))],heap := [],next := 0,nt := 87,m := 0 }
def ef6j3 : Ty66 → St := fun (t1,t3,t9,x4,x5) => { tmps := [(1,(.int .i64 t1)),(3,(.vs (.rL .i64 t3) 0 1)),(9,(.int .i64 t9)),(10,(.own 0 0 1))],heap := [(0,(.cells 2 (.segs (.cons 1 (.one (.vs (.rL .i64 x4) 0 1)) (.cons 1 (.one (.vs (.rL .i64 x5) 0 1)) .nil))) true))],next := 1,nt := 87,m := 0 }
def ef6j4 : Ty67 → St := fun (t1,t3,t9,t11,x5,x6) => { tmps := [(1,(.int .i64 t1)),(3,(.vs (.rL .i64 t3) 0 1)),(9,(.int .i64 t9)),(10,(.own 0 0 1)),(11,(.int .i64 t11))],heap := [(0,(.cells 2 (.segs (.cons 1 (.one (.vs (.rL .i64 x5) 0 1)) (.cons 1 (.one (.vs (.rL .i64 x6) 0 1)) .nil))) true))],next := 1,nt := 87,m := 0 }
def ef6l1 : Ty67 → St := fun (t1,t3,t9,t11,x5,x6) => { tmps := [(1,(.int .i64 t1)),(3,(.vs (.rL .i64 t3) 0 1)),(9,(.int .i64 t9)),(10,(.own 0 0 1)),(11,(.int .i64 t11))],heap := [(0,(.cells 2 (.segs (.cons 1 (.one (.vs (.rL .i64 x5) 0 1)) (.cons 1 (.one (.vs (.rL .i64 x6) 0 1)) .nil))) true))],next := 1,nt := 87,m := 0 }
def ef6j5 : Ty66 → St := fun (t1,t3,t9,x4,x5) => { tmps := [(1,(.int .i64 t1)),(3,(.vs (.rL .i64 t3) 0 1)),(9,(.int .i64 t9)),(10,(.own 0 0 1))],heap := [(0,(.cells 2 (.segs (.cons 1 (.one (.vs (.rL .i64 x4) 0 1)) (.cons 1 (.one (.vs (.rL .i64 x5) 0 1)) .nil))) true))],next := 1,nt := 87,m := 0 }
def f6_1 (F : Nat) (kf6j1 : Ty64 → Rz) : Ty64 → Rz := fun (a0,a1,a2,a3) => (kf6j1 (a0,a1,a2,a3))
theorem f6_1_eq (F : Nat) (Rf6j1 : St → Rz) : ∀ v,aexec VG226 (Af6 F) (bp Try.f6 2) (ef6_a v) (kSeq (kc VG226 Rf6j1 sp50) (kFin VG226 none (Try.f6).results.toList)) = f6_1 F (Rf6j1 ∘ ef6j1) v := by
  rintro ⟨a0,a1,a2,a3⟩; kernel_rfl
def f6_2 (F : Nat) (kf6j2 : Ty65 → Rz) : Ty64 → Rz := fun (t0,t1,t2,t3) => (cond (decide (0 < (14 : Int))) (kf6j2 (t0,t1,t2,t3,(IntKind.i64.wrap ((1 : Int) + (Reg.around t1 (14 : Int)))))) none)
theorem f6_2_eq (F : Nat) (Rf6j2 : St → Rz) : ∀ v,aexec VG226 (Af6 F) (bp Try.f6 6) (ef6j1 v) (kSeq (kc VG226 Rf6j2 sp51) (kFin VG226 none (Try.f6).results.toList)) = f6_2 F (Rf6j2 ∘ ef6j2) v := by
  rintro ⟨t0,t1,t2,t3⟩; kernel_rfl
def f6_3 (F : Nat) (kf6j3 : Ty66 → Rz) : Ty65 → Rz := fun (t0,t1,t2,t3,t9) => (cond ((decide (0 ≤ t9)) && (decide (t9 < 1000))) (kf6j3 (t1,t3,t9,(Isl.some t0 t9),(Isl.few t2))) none)
theorem f6_3_eq (F : Nat) (Rf6j3 : St → Rz) : ∀ v,aexec VG226 (Af6 F) (bp Try.f6 14) (ef6j2 v) (kSeq (kc VG226 Rf6j3 [(1,.plain),(3,.plain),(9,.plain),(10,.lists .i64 22)]) (kFin VG226 none (Try.f6).results.toList)) = f6_3 F (Rf6j3 ∘ ef6j3) v := by
  rintro ⟨t0,t1,t2,t3,t9⟩; kernel_rfl
def f6_4 (F : Nat) (kf6j4 : Ty67 → Rz) (kf6j5 : Ty66 → Rz) : Ty66 → Rz := fun (t1,t3,t9,x4,x5) => (kf6j4 (t1,t3,t9,(0 : Int),x4,x5))
theorem f6_4_eq (F : Nat) (Rf6j4 : St → Rz) (Rf6j5 : St → Rz) : ∀ v,aexec VG226 (Af6 F) (bp Try.f6 60) (ef6j3 v) (kSeq (kc VG226 Rf6j4 [(1,.plain),(3,.plain),(9,.plain),(10,.lists .i64 22),(11,.plain)]) (kSeq (kc VG226 Rf6j5 [(1,.plain),(3,.plain),(9,.plain),(10,.lists .i64 22)]) (kFin VG226 none (Try.f6).results.toList))) = f6_4 F (Rf6j4 ∘ ef6j4) (Rf6j5 ∘ ef6j5) v := by
  rintro ⟨t1,t3,t9,x4,x5⟩; kernel_rfl
def f6_5 (F : Nat) (kf6l1 : Ty67 → Rz) (kf6j5 : Ty66 → Rz) : Ty67 → Rz := fun (t1,t3,t9,t11,x5,x6) => (cond (decide (t11 < (2 : Int))) (cond (decide (t11 = (0 : Int))) (cond (!(decide ((Isl.groups t9 x5) = (Isl.groups t9 x5)))) (some ((.bool false),[])) (cond (!(decide ((Isl.of t9 (Isl.groups t9 x5)) = (Isl.of t9 (Isl.groups t9 x5))))) (some ((.bool false),[])) (kf6l1 (t1,t3,t9,(1 : Int),x5,x6)))) (cond (decide (t11 = (1 : Int))) (cond (!(decide ((Isl.groups t9 x6) = (Isl.groups t9 x6)))) (some ((.bool false),[])) (cond (!(decide ((Isl.of t9 (Isl.groups t9 x6)) = (Isl.of t9 (Isl.groups t9 x6))))) (some ((.bool false),[])) (kf6l1 (t1,t3,t9,(2 : Int),x5,x6)))) none)) (kf6j5 (t1,t3,t9,x5,x6)))
theorem f6_5_eq (F : Nat) (Rf6l1 : St → Rz) (Rf6j5 : St → Rz) : ∀ v,aexec VG226 (Af6 F) (bp Try.f6 244) (ef6l1 v) (kSeq (kc VG226 Rf6l1 [(1,.plain),(3,.plain),(9,.plain),(10,.lists .i64 22),(11,.plain)]) (kBlock 0 (kSeq (kc VG226 Rf6j5 [(1,.plain),(3,.plain),(9,.plain),(10,.lists .i64 22)]) (kFin VG226 none (Try.f6).results.toList)))) = f6_5 F (Rf6l1 ∘ ef6l1) (Rf6j5 ∘ ef6j5) v := by
  rintro ⟨t1,t3,t9,t11,x5,x6⟩; kernel_rfl
def f6_6_i : Ty67 → Int × (List (List Int)) × Int × Int × (List (List Int)) × (List (List Int)) := fun (t1,t3,t9,t11,x5,x6) => (t1,t3,t9,t11,x5,x6)
def f6_6 (F : Nat) (kf6j5 : Ty66 → Rz) : Ty67 → Rz := fun v => loopN (fun k => f6_5 F k kf6j5) F (f6_6_i v)
theorem f6_6_eq (F : Nat) (Rf6j5 : St → Rz) : ∀ v,aexec VG226 (Af6 F) (bp Try.f6 122) (ef6j4 v) (kBlock 0 (kSeq (kc VG226 Rf6j5 [(1,.plain),(3,.plain),(9,.plain),(10,.lists .i64 22)]) (kFin VG226 none (Try.f6).results.toList))) = f6_6 F (Rf6j5 ∘ ef6j5) v :=
  loop_cut (by kernel_rfl) (by kernel_rfl) ef6j4 ef6l1 _ f6_6_i (fun k => f6_5 F k (Rf6j5 ∘ ef6j5))
    (by rintro ⟨t1,t3,t9,t11,x5,x6⟩; kernel_rfl) (fun Rf6l1 => f6_5_eq F Rf6l1 Rf6j5)
def f6_7 (F : Nat) (kf6j5 : Ty66 → Rz) : Ty67 → Rz := f6_6 F kf6j5
theorem f6_7_eq (F : Nat) (Rf6j5 : St → Rz) : ∀ v,aexec VG226 (Af6 F) (bp Try.f6 61) (ef6j4 v) (kSeq (kc VG226 Rf6j5 [(1,.plain),(3,.plain),(9,.plain),(10,.lists .i64 22)]) (kFin VG226 none (Try.f6).results.toList)) = f6_7 F (Rf6j5 ∘ ef6j5) v := fun v =>
  (block_in  (by kernel_rfl) _ _).trans (f6_6_eq F Rf6j5 v)
def f6_8 (F : Nat) (kf6j5 : Ty66 → Rz) : Ty66 → Rz := fun v => f6_4 F (f6_7 F kf6j5) kf6j5 v
theorem f6_8_eq (F : Nat) (Rf6j5 : St → Rz) : ∀ v,aexec VG226 (Af6 F) (bp Try.f6 30) (ef6j3 v) (kSeq (kc VG226 Rf6j5 [(1,.plain),(3,.plain),(9,.plain),(10,.lists .i64 22)]) (kFin VG226 none (Try.f6).results.toList)) = f6_8 F (Rf6j5 ∘ ef6j5) v :=
  seq_cut (by kernel_rfl) (by kernel_rfl) ef6j3 ef6j4 _ (fun k => f6_4 F k (Rf6j5 ∘ ef6j5)) (f6_7 F (Rf6j5 ∘ ef6j5))
    (fun Rf6j4 => f6_4_eq F Rf6j4 Rf6j5) (f6_7_eq F Rf6j5)
def f6_9 (F : Nat) : Ty66 → Rz := fun (t1,t3,t9,x4,x5) => (cond (decide (t1 < (1 : Int))) (cond (decide ((↑(Isl.groups t1 x4).length : Int) > (0 : Int))) (some ((.bool false),[])) (cond (decide ((↑(Isl.of t1 x4).length : Int) > (0 : Int))) (some ((.bool false),[])) (cond (decide ((Isl.of t9 (Isl.few t3)) = (Isl.of t9 (Isl.few t3)))) (some ((.bool true),[])) (some ((.bool false),[]))))) (cond (decide (t1 > (4096 : Int))) (cond (decide ((↑(Isl.groups t1 x4).length : Int) > (0 : Int))) (some ((.bool false),[])) (cond (decide ((↑(Isl.of t1 x4).length : Int) > (0 : Int))) (some ((.bool false),[])) (cond (decide ((Isl.of t9 (Isl.few t3)) = (Isl.of t9 (Isl.few t3)))) (some ((.bool true),[])) (some ((.bool false),[]))))) (cond (decide ((Isl.of t9 (Isl.few t3)) = (Isl.of t9 (Isl.few t3)))) (some ((.bool true),[])) (some ((.bool false),[])))))
theorem f6_9_eq (F : Nat) : ∀ v,aexec VG226 (Af6 F) (bp Try.f6 31) (ef6j5 v) (kFin VG226 none (Try.f6).results.toList) = f6_9 F v := by
  rintro ⟨t1,t3,t9,x4,x5⟩; kernel_rfl
def f6_10 (F : Nat) : Ty66 → Rz := fun v => f6_8 F (f6_9 F) v
theorem f6_10_eq (F : Nat) : ∀ v,aexec VG226 (Af6 F) (bp Try.f6 15) (ef6j3 v) (kFin VG226 none (Try.f6).results.toList) = f6_10 F v :=
  seq_cut (by kernel_rfl) (by kernel_rfl) ef6j3 ef6j5 _ (fun k => f6_8 F k) (f6_9 F)
    (fun Rf6j5 => f6_8_eq F Rf6j5) (f6_9_eq F)
def f6_11 (F : Nat) : Ty65 → Rz := fun v => f6_3 F (f6_10 F) v
theorem f6_11_eq (F : Nat) : ∀ v,aexec VG226 (Af6 F) (bp Try.f6 7) (ef6j2 v) (kFin VG226 none (Try.f6).results.toList) = f6_11 F v :=
  seq_cut (by kernel_rfl) (by kernel_rfl) ef6j2 ef6j3 _ (fun k => f6_3 F k) (f6_10 F)
    (fun Rf6j3 => f6_3_eq F Rf6j3) (f6_10_eq F)
def f6_12 (F : Nat) : Ty64 → Rz := fun v => f6_2 F (f6_11 F) v
theorem f6_12_eq (F : Nat) : ∀ v,aexec VG226 (Af6 F) (bp Try.f6 3) (ef6j1 v) (kFin VG226 none (Try.f6).results.toList) = f6_12 F v :=
  seq_cut (by kernel_rfl) (by kernel_rfl) ef6j1 ef6j2 _ (fun k => f6_2 F k) (f6_11 F)
    (fun Rf6j2 => f6_2_eq F Rf6j2) (f6_11_eq F)
def f6_13 (F : Nat) : Ty64 → Rz := fun v => f6_1 F (f6_12 F) v
theorem f6_13_eq (F : Nat) : ∀ v,aexec VG226 (Af6 F) (sub (bodyOf Try.f6) []) (ef6_a v) (kFin VG226 none (Try.f6).results.toList) = f6_13 F v :=
  seq_cut (by kernel_rfl) (by kernel_rfl) ef6_a ef6j1 _ (fun k => f6_1 F k) (f6_12 F)
    (fun Rf6j1 => f6_1_eq F Rf6j1) (f6_12_eq F)
def f6 (F : Nat) : Ty64 → Rz := f6_13 F
theorem f6_body (F : Nat) (a0 : List Int) (a1 : Int) (a2 : List (List Int)) (a3 : List (List Int)) : abody VG226 (Af6 F) Try.f6 [(.vs (.rI .i64 a0) 0 1),(.int .i64 a1),(.vs (.rL .i64 a2) 0 1),(.vs (.rL .i64 a3) 0 1)] [] = f6 F (a0,a1,a2,a3) :=
  (abody_in (c := (sub (bodyOf Try.f6) [])) (by kernel_rfl) (s := ef6_a (a0,a1,a2,a3)) (by kernel_rfl)).trans (f6_13_eq F (a0,a1,a2,a3))
def r6 : CRun := fun X H => match X,H with
  | [(.vs (.rI .i64 a0) 0 1),(.int .i64 a1),(.vs (.rL .i64 a2) 0 1),(.vs (.rL .i64 a3) 0 1)],[] => some (true,(.bool true),[])
  | _,_ => none
theorem s6 (a0 : List Int) (a1 : Int) (a2 : List (List Int)) (a3 : List (List Int)) (h0 : okV (.vs (.rI .i64 a0) 0 1)) (h1 : okV (.int .i64 a1)) (h2 : okV (.vs (.rL .i64 a2) 0 1)) (h3 : okV (.vs (.rL .i64 a3) 0 1)) : ∃ F,f6 F (a0,a1,a2,a3) = some ((.bool true),[]) := by
  have hr := Reg.around_lt (n := a1) (m := 14) (by decide)
  refine ⟨0 + 1 + 1 + 1,?_⟩
  simp only [f6_1,f6_2,f6_3,f6_4,f6_6_i,f6_6,f6_7,f6_8,f6_9,f6_10,f6_11,f6_12,f6_13,f6,dec_and]
  rw [cond_pos (by decide),i64w (by omega) (by omega),cond_pos (by omega)]
  simp only [loopN,f6_5,f6_9]
  simp [Isl.groups,Isl.of]
  by_cases h1 : a1 < 1 <;> by_cases h2 : 4096 < a1 <;> simp [h1,h2]
theorem c6 : CallOk Try.prog G22 6 r6 := callOk_of (V := VG226) mixed tys eVG226 (f := 6) (fn := Try.f6) Try.func6 (by kernel_rfl) (c := sub (bodyOf Try.f6) []) (by kernel_rfl) (by
  intro X H r H' h hX hH
  unfold r6 at h; split at h <;> try contradiction
  · simp only [Option.some.injEq,Prod.mk.injEq] at h
    obtain ⟨hp,rfl,rfl⟩ := h
    obtain ⟨F,hF⟩ := s6 _ _ _ _ (hX _ (.head _)) (hX _ (.tail _ (.head _))) (hX _ (.tail _ (.tail _ (.head _)))) (hX _ (.tail _ (.tail _ (.tail _ (.head _)))))
    exact ⟨Af6 F,(f6_body F _ _ _ _).trans hF⟩)
end Go.Am
