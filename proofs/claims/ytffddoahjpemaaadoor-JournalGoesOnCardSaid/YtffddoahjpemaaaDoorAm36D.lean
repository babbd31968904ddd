/- Part of a proof about the functions of the given program. -/
import Derived.Test.YtffddoahjpemaaaDoorAm36C
import Derived.Test.YtffddoahjpemaaaDoorAmJrn
set_option linter.unusedVariables false
set_option linter.unusedSimpArgs false
namespace Go.Am
open Go Go.Proofs
abbrev sp37 : List (Nat × Md) := [(0,.plain),(1,.plain)]
abbrev sp39 : List (Nat × Md) := [(0,.plain),(1,.plain),(5,.plain)]
abbrev Ty24 := (List Li) × (List Li)
abbrev Ty25 := (List Li) × (List Li) × Int
def lV11 : List CEnt := []
def V11 : Env := mkEnv T36 G36 lV11
noncomputable abbrev Kf13 := kFin V11 none (Tryd.f11).results.toList
theorem eV11 : EOk Tryd.prog V11 := eok_mk (by exact trivial)
def Af11 (F : Nat) : Cuts := { F := F,at_ := fun _ => none,join := fun _ => none }
def ef11_a : Int → St := fun a0 => ⟨[(0,.int .i64 a0)],[],0,14,0⟩
def f11_1 (F : Nat) : Int → Rz := fun a0 => (cond (decide (a0 < (0 : Int))) (some ((.int .i64 0),[])) (cond (decide (a0 > (8000 : Int))) (some ((.int .i64 0),[])) (some ((.int .i64 (if (IntKind.i64.wrap (Int.tdiv (IntKind.i64.wrap ((IntKind.i64.wrap (a0 + (48 : Int))) - (1 : Int))) (48 : Int))) > (1 : Int) then (IntKind.i64.wrap (Int.tdiv (IntKind.i64.wrap ((IntKind.i64.wrap (a0 + (48 : Int))) - (1 : Int))) (48 : Int))) else (1 : Int))),[]))))
theorem f11_1_eq (F : Nat) : ∀ v,aexec V11 (Af11 F) (sub (bodyOf Tryd.f11) []) (ef11_a v) Kf13 = f11_1 F v := by
 intro a0; kernel_rfl
def f11 (F : Nat) : Int → Rz := f11_1 F
theorem f11_body (F : Nat) (a0 : Int) : abody V11 (Af11 F) Tryd.f11 [(.int .i64 a0)] [] = f11 F a0 :=
 (abody_in (c := (sub (bodyOf Tryd.f11) [])) (by kernel_rfl) (s := ef11_a a0) (by kernel_rfl)).trans (f11_1_eq F a0)
def r11 : CRun := fun X H => match X,H with
 | [(.int .i64 a0)],[] => some (true,(.int .i64 (Jr.count a0)),[])
 | _,_ => none
theorem s11 (a0 : Int) (h0 : okV (.int .i64 a0)) : ∃ F,f11 F a0 = some ((.int .i64 (Jr.count a0)),[]) := by
 have hw := h0
 refine ⟨0,?_⟩
 simp only [f11,f11_1]
 by_cases h1 : a0 < 0
 ·rw [cond_pos h1,Jr.count,cond_pos (.inl h1)]
 by_cases h2 : a0 > 8000
 ·rw [cond_neg h1,cond_pos h2,Jr.count,cond_pos (.inr h2)]
 rw [cond_neg h1,cond_neg h2,Jr.count,cond_neg (by omega),i64w (x := a0 + 48) (by omega) (by omega),i64w (x := a0 + 48 - 1) (by omega) (by omega),tdiv_nn (by omega),i64w (by omega) (by omega),show a0 + 48 - 1 = a0 + 47 by omega]
theorem c11 : CallOk Tryd.prog G36 11 r11 := callOk_of mixed tys eV11 Tryd.func11 (by kernel_rfl) (c := sub (bodyOf Tryd.f11) []) (by kernel_rfl) (by
 intro X H r H' h hX hH
 unfold r11 at h; split at h <;> try contradiction
 ·simp only [Option.some.injEq,Prod.mk.injEq] at h
  obtain ⟨hp,rfl,rfl⟩ := h
  obtain ⟨F,hF⟩ := s11 _ (hX _ hm0)
  exact ⟨Af11 F,(f11_body F _).trans hF⟩)
def f12_1 (F : Nat) : Int → Rz := fun a0 => (cond (decide (a0 < (0 : Int))) (some ((.int .i64 0),[])) (cond (decide (a0 > (8000 : Int))) (some ((.int .i64 0),[])) (cond (a0 == (0 : Int)) (some ((.int .i64 1),[])) (some ((.int .i64 (IntKind.i64.wrap (Int.tdiv (IntKind.i64.wrap (a0 + (47 : Int))) (48 : Int)))),[])))))
def f12 (F : Nat) : Int → Rz := f12_1 F
def lV46 : List CEnt := []
def V46 : Env := mkEnv T36 G36 lV46
noncomputable abbrev Kf15 := kFin V46 none (Tryd.f46).results.toList
theorem eV46 : EOk Tryd.prog V46 := eok_mk (by exact trivial)
def Af46a (F : Nat) : Cuts := { F := F + 6,at_ := fun _ => none,join := fun _ => none }
def ef46a_a : Li × Int → St := fun (a0,a1) => ⟨[(0,.sl 0 0 64 0 4 1),(1,.int .i64 a1)],[(0,(.cells 64 (.rI .u8 a0) true))],1,18,1⟩
def f46a_1 (F : Nat) : Li × Int → Rz := fun (a0,a1) => (some ((.tup .nil),[(.cells 64 (.rI .u8 ((((a0.set 0 (IntKind.u8.wrap a1)).set 1 (IntKind.u8.wrap (Int.fdiv a1 (2 ^ 8)))).set 2 (IntKind.u8.wrap (Int.fdiv (Int.fdiv a1 (2 ^ 8)) (2 ^ 8)))).set 3 (IntKind.u8.wrap (Int.fdiv (Int.fdiv (Int.fdiv a1 (2 ^ 8)) (2 ^ 8)) (2 ^ 8))))) true)]))
theorem f46a_1_eq (F : Nat) : ∀ v,aexec V46 (Af46a F) (sub (bodyOf Tryd.f46) []) (ef46a_a v) Kf15 = f46a_1 F v := by
 rintro ⟨a0,a1⟩; kernel_rfl
def f46a (F : Nat) : Li × Int → Rz := f46a_1 F
theorem f46a_body (F : Nat) (a0 : Li) (a1 : Int) : abody V46 (Af46a F) Tryd.f46 [(.sl 0 0 64 0 4 1),.int .i64 a1] [(.cells 64 (.rI .u8 a0) true)] = f46a F (a0,a1) :=
 (abody_in (by kernel_rfl) (by kernel_rfl)).trans (f46a_1_eq F (a0,a1))
def Af46b (F : Nat) : Cuts := { F := F + 6,at_ := fun _ => none,join := fun _ => none }
def ef46b_a : Li × Int → St := fun (a0,a1) => ⟨[(0,.sl 0 0 64 4 2 1),(1,.int .i64 a1)],[(0,(.cells 64 (.rI .u8 a0) true))],1,18,1⟩
def f46b_1 (F : Nat) : Li × Int → Rz := fun (a0,a1) => (some ((.tup .nil),[(.cells 64 (.rI .u8 ((a0.set 4 (IntKind.u8.wrap a1)).set 5 (IntKind.u8.wrap (Int.fdiv a1 (2 ^ 8))))) true)]))
theorem f46b_1_eq (F : Nat) : ∀ v,aexec V46 (Af46b F) (sub (bodyOf Tryd.f46) []) (ef46b_a v) Kf15 = f46b_1 F v := by
 rintro ⟨a0,a1⟩; kernel_rfl
def f46b (F : Nat) : Li × Int → Rz := f46b_1 F
theorem f46b_body (F : Nat) (a0 : Li) (a1 : Int) : abody V46 (Af46b F) Tryd.f46 [(.sl 0 0 64 4 2 1),.int .i64 a1] [(.cells 64 (.rI .u8 a0) true)] = f46b F (a0,a1) :=
 (abody_in (by kernel_rfl) (by kernel_rfl)).trans (f46b_1_eq F (a0,a1))
def Af46c (F : Nat) : Cuts := { F := F + 6,at_ := fun _ => none,join := fun _ => none }
def ef46c_a : Li × Int → St := fun (a0,a1) => ⟨[(0,.sl 0 0 64 6 2 1),(1,.int .i64 a1)],[(0,(.cells 64 (.rI .u8 a0) true))],1,18,1⟩
def f46c_1 (F : Nat) : Li × Int → Rz := fun (a0,a1) => (some ((.tup .nil),[(.cells 64 (.rI .u8 ((a0.set 6 (IntKind.u8.wrap a1)).set 7 (IntKind.u8.wrap (Int.fdiv a1 (2 ^ 8))))) true)]))
theorem f46c_1_eq (F : Nat) : ∀ v,aexec V46 (Af46c F) (sub (bodyOf Tryd.f46) []) (ef46c_a v) Kf15 = f46c_1 F v := by
 rintro ⟨a0,a1⟩; kernel_rfl
def f46c (F : Nat) : Li × Int → Rz := f46c_1 F
theorem f46c_body (F : Nat) (a0 : Li) (a1 : Int) : abody V46 (Af46c F) Tryd.f46 [(.sl 0 0 64 6 2 1),.int .i64 a1] [(.cells 64 (.rI .u8 a0) true)] = f46c F (a0,a1) :=
 (abody_in (by kernel_rfl) (by kernel_rfl)).trans (f46c_1_eq F (a0,a1))
def r46 : CRun := fun X H => match X,H with
 | [(.sl 0 0 64 0 4 1),.int .i64 a1],[(.cells 64 (.rI .u8 a0) true)] => some ((decide (0 ≤ a1)),.tup .nil,[(.cells 64 (.rI .u8 (Jr.put a0 0 a1 4)) true)])
 | [(.sl 0 0 64 4 2 1),.int .i64 a1],[(.cells 64 (.rI .u8 a0) true)] => some ((decide (0 ≤ a1)),.tup .nil,[(.cells 64 (.rI .u8 (Jr.put a0 4 a1 2)) true)])
 | [(.sl 0 0 64 6 2 1),.int .i64 a1],[(.cells 64 (.rI .u8 a0) true)] => some ((decide (0 ≤ a1)),.tup .nil,[(.cells 64 (.rI .u8 (Jr.put a0 6 a1 2)) true)])
 | _,_ => none
theorem s46a (a0 : Li) (a1 : Int) (hp : ((decide (0 ≤ a1))) = true) (h1 : okV (.int .i64 a1)) (k0 : okB (.cells 64 (.rI .u8 a0) true)) : ∃ F,f46a F (a0,a1) = some ((.tup .nil),[(.cells 64 (.rI .u8 (Jr.put a0 0 a1 4)) true)]) := by
 refine ⟨0,?_⟩
 simp only [f46a,f46a_1,u8mod,show ((2 : Int) ^ 8) = 256 from rfl,Int.fdiv_eq_ediv_of_nonneg _ (show (0 : Int) ≤ 256 by decide)]
 rfl
theorem s46b (a0 : Li) (a1 : Int) (hp : ((decide (0 ≤ a1))) = true) (h1 : okV (.int .i64 a1)) (k0 : okB (.cells 64 (.rI .u8 a0) true)) : ∃ F,f46b F (a0,a1) = some ((.tup .nil),[(.cells 64 (.rI .u8 (Jr.put a0 4 a1 2)) true)]) := by
 refine ⟨0,?_⟩
 simp only [f46b,f46b_1,u8mod,show ((2 : Int) ^ 8) = 256 from rfl,Int.fdiv_eq_ediv_of_nonneg _ (show (0 : Int) ≤ 256 by decide)]
 rfl
theorem s46c (a0 : Li) (a1 : Int) (hp : ((decide (0 ≤ a1))) = true) (h1 : okV (.int .i64 a1)) (k0 : okB (.cells 64 (.rI .u8 a0) true)) : ∃ F,f46c F (a0,a1) = some ((.tup .nil),[(.cells 64 (.rI .u8 (Jr.put a0 6 a1 2)) true)]) := by
 refine ⟨0,?_⟩
 simp only [f46c,f46c_1,u8mod,show ((2 : Int) ^ 8) = 256 from rfl,Int.fdiv_eq_ediv_of_nonneg _ (show (0 : Int) ≤ 256 by decide)]
 rfl
theorem c46 : CallOk Tryd.prog G36 46 r46 := callOk_of mixed tys eV46 Tryd.func46 (by kernel_rfl) (c := sub (bodyOf Tryd.f46) []) (by kernel_rfl) (by
 intro X H r H' h hX hH
 unfold r46 at h; split at h <;> try contradiction
 ·simp only [Option.some.injEq,Prod.mk.injEq] at h
  obtain ⟨hp,rfl,rfl⟩ := h
  obtain ⟨F,hF⟩ := s46a _ _ hp (hX _ hm1) (hH _ hm0)
  exact ⟨Af46a F,(f46a_body F _ _).trans hF⟩
 ·simp only [Option.some.injEq,Prod.mk.injEq] at h
  obtain ⟨hp,rfl,rfl⟩ := h
  obtain ⟨F,hF⟩ := s46b _ _ hp (hX _ hm1) (hH _ hm0)
  exact ⟨Af46b F,(f46b_body F _ _).trans hF⟩
 ·simp only [Option.some.injEq,Prod.mk.injEq] at h
  obtain ⟨hp,rfl,rfl⟩ := h
  obtain ⟨F,hF⟩ := s46c _ _ hp (hX _ hm1) (hH _ hm0)
  exact ⟨Af46c F,(f46c_body F _ _).trans hF⟩)
def f31_1 (F : Nat) (kf31j1 : Li → Rz) : Li → Rz := fun a0 => (kf31j1 a0)
def f31_2 (F : Nat) (kf31j2 : Li × Int → Rz) : Li → Rz := fun t0 => (kf31j2 (t0,(0 : Int)))
def f31_3 (F : Nat) (kf31j3 : Li × Int × Int → Rz) (kf31j4 : Int → Rz) : Li × Int → Rz := fun (t0,t3) => (kf31j3 (t0,t3,(IntKind.i64.wrap ((↑t0.length : Int) - (1 : Int)))))
def f31_4 (F : Nat) (kf31l1 : Li × Int × Int → Rz) (kf31j4 : Int → Rz) : Li × Int × Int → Rz := fun (t0,t3,t4) => (cond (decide (t4 ≥ (0 : Int))) (cond ((decide (0 ≤ t4)) && (decide (t4 < (↑t0.length : Int)))) (kf31l1 (t0,(IntKind.i64.wrap ((IntKind.i64.wrap ((256 : Int) * t3)) + (IntKind.i64.wrap (t0.getD (Int.toNat t4) 0)))),(IntKind.i64.wrap (t4 - (1 : Int))))) none) (kf31j4 t3))
def f31_5_i : Li × Int × Int → Li × Int × Int := fun (t0,t3,t4) => (t0,t3,t4)
def f31_5 (F : Nat) (kf31j4 : Int → Rz) : Li × Int × Int → Rz := fun v => loopN (fun k => f31_4 F k kf31j4) F (f31_5_i v)
def f31_6 (F : Nat) (kf31j4 : Int → Rz) : Li × Int × Int → Rz := f31_5 F kf31j4
def f31_7 (F : Nat) (kf31j4 : Int → Rz) : Li × Int → Rz := fun v => f31_3 F (f31_6 F kf31j4) kf31j4 v
def f31_8 (F : Nat) : Int → Rz := fun t3 => (some ((.int .i64 t3),[]))
def f31_9 (F : Nat) : Li × Int → Rz := fun v => f31_7 F (f31_8 F) v
def f31_10 (F : Nat) : Li → Rz := fun v => f31_2 F (f31_9 F) v
def f31_11 (F : Nat) : Li → Rz := fun v => f31_1 F (f31_10 F) v
def f31 (F : Nat) : Li → Rz := f31_11 F
def lV50 : List CEnt := []
def V50 : Env := mkEnv T36 G36 lV50
noncomputable abbrev Kf19 := kFin V50 none (Tryd.f50).results.toList
theorem eV50 : EOk Tryd.prog V50 := eok_mk (by exact trivial)
def Af50 (F : Nat) : Cuts := { F := F,at_ := fun _ => none,join := fun _ => none }
def ef50_a : Li × Li → St := fun (a0,a1) => ⟨[(0,(.vs (.rI .u8 a0) 0 1)),(1,(.vs (.rI .u8 a1) 0 1))],[],0,10,0⟩
def f50_1 (F : Nat) : Li × Li → Rz := fun (a0,a1) => (some ((.bool ((a0 : Li) == (a1 : Li))),[]))
theorem f50_1_eq (F : Nat) : ∀ v,aexec V50 (Af50 F) (sub (bodyOf Tryd.f50) []) (ef50_a v) Kf19 = f50_1 F v := by
 rintro ⟨a0,a1⟩; kernel_rfl
def f50 (F : Nat) : Li × Li → Rz := f50_1 F
theorem f50_body (F : Nat) (a0 a1 : Li) : abody V50 (Af50 F) Tryd.f50 [(.vs (.rI .u8 a0) 0 1),(.vs (.rI .u8 a1) 0 1)] [] = f50 F (a0,a1) :=
 (abody_in (by kernel_rfl) (by kernel_rfl)).trans (f50_1_eq F (a0,a1))
def r50 : CRun := fun X H => match X,H with
 | [(.vs (.rI .u8 a0) 0 1),(.vs (.rI .u8 a1) 0 1)],[] => some (true,(.bool (a0 == a1)),[])
 | _,_ => none
theorem s50 (a0 a1 : Li) (h0 : okV (.vs (.rI .u8 a0) 0 1)) (h1 : okV (.vs (.rI .u8 a1) 0 1)) : ∃ F,f50 F (a0,a1) = some ((.bool (a0 == a1)),[]) := by
 refine ⟨0,?_⟩
 simp only [f50,f50_1]
theorem c50 : CallOk Tryd.prog G36 50 r50 := callOk_of mixed tys eV50 Tryd.func50 (by kernel_rfl) (c := sub (bodyOf Tryd.f50) []) (by kernel_rfl) (by
 intro X H r H' h hX hH
 unfold r50 at h; split at h <;> try contradiction
 ·simp only [Option.some.injEq,Prod.mk.injEq] at h
  obtain ⟨hp,rfl,rfl⟩ := h
  obtain ⟨F,hF⟩ := s50 _ _ (hX _ hm0) (hX _ hm1)
  exact ⟨Af50 F,(f50_body F _ _).trans hF⟩)
def lV10 : List CEnt := []
def V10 : Env := mkEnv T36 G36 lV10
noncomputable abbrev Kf20 := kFin V10 none (Tryd.f10).results.toList
theorem eV10 : EOk Tryd.prog V10 := eok_mk (by exact trivial)
def Af10 (F : Nat) : Cuts := { F := F,at_ := fun n => match n with | 4016 => some sp39 | _ => none,join := fun n => match n with | 1032 => some sp37 | 3024 => some sp37 | 4018 => some sp39 | 8003 => some [] | _ => none }
noncomputable abbrev XAf10 (F : Nat) {α : Type} := @aexec α V10 (Af10 F)
def ef10_a : Ty24 → St := fun (a0,a1) => ⟨[(0,(.vs (.rS a0) 0 1)),(1,(.vs (.rS a1) 0 1))],[],0,26,0⟩
def ef10j1 : Ty24 → St := fun (t0,t1) => ⟨[(0,(.vs (.rS t0) 0 1)),(1,(.vs (.rS t1) 0 1))],[],0,26,0⟩
def ef10j2 : Ty24 → St := ef10j1
def ef10j3 : Ty25 → St := fun (t0,t1,t5) => ⟨[(0,(.vs (.rS t0) 0 1)),(1,(.vs (.rS t1) 0 1)),(5,.int .i64 t5)],[],0,26,0⟩
def ef10l1 : Ty25 → St := ef10j3
def ef10j4 : Unit → St := fun _ => ⟨[],[],0,26,0⟩
def f10_1 (F : Nat) (kf10j1 : Ty24 → Rz) : Ty24 → Rz := fun (a0,a1) => (kf10j1 (a0,a1))
theorem f10_1_eq (F : Nat) (Rf10j1 : St → Rz) : ∀ v,XAf10 F (bp Tryd.f10 2) (ef10_a v) (kSeq (kc V10 Rf10j1 sp37) Kf20) = f10_1 F (Rf10j1 ∘ ef10j1) v := by
 rintro ⟨a0,a1⟩; kernel_rfl
def f10_2 (F : Nat) (kf10j2 : Ty24 → Rz) : Ty24 → Rz := fun (t0,t1) => (cond ((↑t0.length : Int) != (↑t1.length : Int)) (some ((.bool false),[])) (kf10j2 (t0,t1)))
theorem f10_2_eq (F : Nat) (Rf10j2 : St → Rz) : ∀ v,XAf10 F (bp Tryd.f10 6) (ef10j1 v) (kSeq (kc V10 Rf10j2 sp37) Kf20) = f10_2 F (Rf10j2 ∘ ef10j2) v := by
 rintro ⟨t0,t1⟩; kernel_rfl
def f10_3 (F : Nat) (kf10j3 : Ty25 → Rz) (kf10j4 : Unit → Rz) : Ty24 → Rz := fun (t0,t1) => (kf10j3 (t0,t1,(0 : Int)))
theorem f10_3_eq (F : Nat) (Rf10j3 Rf10j4 : St → Rz) : ∀ v,XAf10 F (bp Tryd.f10 28) (ef10j2 v) (kSeq (kc V10 Rf10j3 sp39) (kSeq (kc V10 Rf10j4 []) Kf20)) = f10_3 F (Rf10j3 ∘ ef10j3) (Rf10j4 ∘ ef10j4) v := by
 rintro ⟨t0,t1⟩; kernel_rfl
def f10_4 (F : Nat) (kf10l1 : Ty25 → Rz) (kf10j4 : Unit → Rz) : Ty25 → Rz := fun (t0,t1,t5) => (cond (decide (t5 < (↑t0.length : Int))) (cond ((decide (0 ≤ t5)) && (decide (t5 < (↑t0.length : Int)))) (cond ((decide (0 ≤ t5)) && (decide (t5 < (↑t1.length : Int)))) (cond (!(((t0.getD (Int.toNat t5) []) : Li) == ((t1.getD (Int.toNat t5) []) : Li))) (some ((.bool false),[])) (kf10l1 (t0,t1,(IntKind.i64.wrap (t5 + (1 : Int)))))) none) none) (kf10j4 ()))
theorem f10_4_eq (F : Nat) (Rf10l1 Rf10j4 : St → Rz) : ∀ v,XAf10 F (bp Tryd.f10 116) (ef10l1 v) (kSeq (kc V10 Rf10l1 sp39) (kBlock 0 (kSeq (kc V10 Rf10j4 []) Kf20))) = f10_4 F (Rf10l1 ∘ ef10l1) (Rf10j4 ∘ ef10j4) v := by
 rintro ⟨t0,t1,t5⟩; kernel_rfl
def f10_5_i : Ty25 → (List Li) × (List Li) × Int := fun (t0,t1,t5) => (t0,t1,t5)
def f10_5 (F : Nat) (kf10j4 : Unit → Rz) : Ty25 → Rz := fun v => loopN (fun k => f10_4 F k kf10j4) F (f10_5_i v)
theorem f10_5_eq (F : Nat) (Rf10j4 : St → Rz) : ∀ v,XAf10 F (bp Tryd.f10 58) (ef10j3 v) (kBlock 0 (kSeq (kc V10 Rf10j4 []) Kf20)) = f10_5 F (Rf10j4 ∘ ef10j4) v :=
 loop_cut (by kernel_rfl) (by kernel_rfl) ef10j3 ef10l1 _ f10_5_i (fun k => f10_4 F k (Rf10j4 ∘ ef10j4))
  (by rintro ⟨t0,t1,t5⟩; kernel_rfl) (fun Rf10l1 => f10_4_eq F Rf10l1 Rf10j4)
def f10_6 (F : Nat) (kf10j4 : Unit → Rz) : Ty25 → Rz := f10_5 F kf10j4
theorem f10_6_eq (F : Nat) (Rf10j4 : St → Rz) : ∀ v,XAf10 F (bp Tryd.f10 29) (ef10j3 v) (kSeq (kc V10 Rf10j4 []) Kf20) = f10_6 F (Rf10j4 ∘ ef10j4) v := fun v =>
 (block_in  (by kernel_rfl) _ _).trans (f10_5_eq F Rf10j4 v)
def f10_7 (F : Nat) (kf10j4 : Unit → Rz) : Ty24 → Rz := fun v => f10_3 F (f10_6 F kf10j4) kf10j4 v
theorem f10_7_eq (F : Nat) (Rf10j4 : St → Rz) : ∀ v,XAf10 F (bp Tryd.f10 14) (ef10j2 v) (kSeq (kc V10 Rf10j4 []) Kf20) = f10_7 F (Rf10j4 ∘ ef10j4) v :=
 seq_cut (by kernel_rfl) (by kernel_rfl) ef10j2 ef10j3 _ (fun k => f10_3 F k (Rf10j4 ∘ ef10j4)) (f10_6 F (Rf10j4 ∘ ef10j4))
  (fun Rf10j3 => f10_3_eq F Rf10j3 Rf10j4) (f10_6_eq F Rf10j4)
def f10_8 (F : Nat) : Unit → Rz := fun _ => (some ((.bool true),[]))
theorem f10_8_eq (F : Nat) : ∀ v,XAf10 F (bp Tryd.f10 15) (ef10j4 v) Kf20 = f10_8 F v := by
 intro _; kernel_rfl
def f10_9 (F : Nat) : Ty24 → Rz := fun v => f10_7 F (f10_8 F) v
theorem f10_9_eq (F : Nat) : ∀ v,XAf10 F (bp Tryd.f10 7) (ef10j2 v) Kf20 = f10_9 F v :=
 seq_cut (by kernel_rfl) (by kernel_rfl) ef10j2 ef10j4 _ (fun k => f10_7 F k) (f10_8 F)
  (fun Rf10j4 => f10_7_eq F Rf10j4) (f10_8_eq F)
def f10_10 (F : Nat) : Ty24 → Rz := fun v => f10_2 F (f10_9 F) v
theorem f10_10_eq (F : Nat) : ∀ v,XAf10 F (bp Tryd.f10 3) (ef10j1 v) Kf20 = f10_10 F v :=
 seq_cut (by kernel_rfl) (by kernel_rfl) ef10j1 ef10j2 _ (fun k => f10_2 F k) (f10_9 F)
  (fun Rf10j2 => f10_2_eq F Rf10j2) (f10_9_eq F)
def f10_11 (F : Nat) : Ty24 → Rz := fun v => f10_1 F (f10_10 F) v
theorem f10_11_eq (F : Nat) : ∀ v,XAf10 F (sub (bodyOf Tryd.f10) []) (ef10_a v) Kf20 = f10_11 F v :=
 seq_cut (by kernel_rfl) (by kernel_rfl) ef10_a ef10j1 _ (fun k => f10_1 F k) (f10_10 F)
  (fun Rf10j1 => f10_1_eq F Rf10j1) (f10_10_eq F)
def f10 (F : Nat) : Ty24 → Rz := f10_11 F
theorem f10_body (F : Nat) (a0 a1 : List Li) : abody V10 (Af10 F) Tryd.f10 [(.vs (.rS a0) 0 1),(.vs (.rS a1) 0 1)] [] = f10 F (a0,a1) :=
 (abody_in (by kernel_rfl) (by kernel_rfl)).trans (f10_11_eq F (a0,a1))
def r10 : CRun := fun X H => match X,H with
 | [(.vs (.rS a0) 0 1),(.vs (.rS a1) 0 1)],[] => some ((decide (a0.length < 1073741824)),(.bool (a0 == a1)),[])
 | _,_ => none
theorem s10 (a0 a1 : List Li) (hp : ((decide (a0.length < 1073741824))) = true) (h0 : okV (.vs (.rS a0) 0 1)) (h1 : okV (.vs (.rS a1) 0 1)) : ∃ F,f10 F (a0,a1) = some ((.bool (a0 == a1)),[]) := by
 rw [decide_eq_true_iff] at hp
 refine ⟨a0.length + 1,?_⟩
 simp only [f10,f10_11,f10_1,f10_10,f10_2,f10_9,f10_7,f10_8,f10_3,f10_6,f10_5,f10_5_i]
 by_cases hl : a0.length = a1.length
 ·have e : ((a0.length : Int) != (a1.length : Int)) = false := by simp [hl]
  rw [e,cond_false]
  refine loopN_ind (fun m s => ∃ k : Nat,s = (a0,a1,(k : Int)) ∧ m = a0.length - k ∧ k ≤ a0.length ∧ ∀ j,j < k → a0.getD j [] = a1.getD j []) (fun m s K hi hk => ?_) (a0.length + 1) a0.length _ (by omega) ⟨0,rfl,by omega,by omega,fun j hj => by omega⟩
  obtain ⟨k,rfl,hm,hle,heq⟩ := hi
  simp only [f10_4,Int.toNat_natCast]
  by_cases hlt : k < a0.length
  ·have e1 : (decide (0 ≤ (k : Int)) && decide ((k : Int) < (a0.length : Int))) = true := by rw [dec_and,decide_eq_true_iff]; omega
   have e2 : (decide (0 ≤ (k : Int)) && decide ((k : Int) < (a1.length : Int))) = true := by rw [dec_and,decide_eq_true_iff]; omega
   rw [cond_pos (show (k : Int) < (a0.length : Int) by omega),e1,e2,cond_true,cond_true,i64w (by omega) (by omega)]
   by_cases h : a0.getD k [] = a1.getD k []
   ·have e3 : (!(((a0.getD k []) : Li) == ((a1.getD k []) : Li))) = false := by rw [h]; simp
    rw [e3,cond_false]
    exact hk (m - 1) _ (by omega) ⟨k + 1,rfl,by omega,by omega,fun j hj => by
     by_cases hj' : j = k
     ·subst hj'; exact h
     ·exact heq j (by omega)⟩
   ·have e3 : (!(((a0.getD k []) : Li) == ((a1.getD k []) : Li))) = true := by simpa using h
    rw [e3,cond_true]
    have e4 : (a0 == a1) = false := by rw [beq_eq_false_iff_ne]; intro h'; exact h (by rw [h'])
    rw [e4]
  ·rw [cond_neg (by omega)]
   have e4 : (a0 == a1) = true := by rw [beq_iff_eq]; exact list_eq [] hl fun j hj => heq j (by omega)
   rw [e4]; rfl
 ·have e : ((a0.length : Int) != (a1.length : Int)) = true := by simp; omega
  have e4 : (a0 == a1) = false := by rw [beq_eq_false_iff_ne]; intro h'; exact hl (by rw [h'])
  rw [e,cond_true,e4]
theorem c10 : CallOk Tryd.prog G36 10 r10 := callOk_of mixed tys eV10 Tryd.func10 (by kernel_rfl) (c := sub (bodyOf Tryd.f10) []) (by kernel_rfl) (by
 intro X H r H' h hX hH
 unfold r10 at h; split at h <;> try contradiction
 ·simp only [Option.some.injEq,Prod.mk.injEq] at h
  obtain ⟨hp,rfl,rfl⟩ := h
  obtain ⟨F,hF⟩ := s10 _ _ hp (hX _ hm0) (hX _ hm1)
  exact ⟨Af10 F,(f10_body F _ _).trans hF⟩)
def lV18 : List CEnt := []
def V18 : Env := mkEnv T36 G36 lV18
noncomputable abbrev Kf21 := kFin V18 none (Tryd.f18).results.toList
theorem eV18 : EOk Tryd.prog V18 := eok_mk (by exact trivial)
def Af18 (F : Nat) : Cuts := { F := F,at_ := fun n => match n with | 4016 => some sp39 | _ => none,join := fun n => match n with | 1032 => some sp37 | 3024 => some sp37 | 4018 => some sp39 | 8003 => some [] | _ => none }
noncomputable abbrev XAf18 (F : Nat) {α : Type} := @aexec α V18 (Af18 F)
def ef18_a : Li × Li → St := fun (a0,a1) => ⟨[(0,(.vs (.rI .i64 a0) 0 1)),(1,(.vs (.rI .i64 a1) 0 1))],[],0,26,0⟩
def ef18j1 : Li × Li → St := fun (t0,t1) => ⟨[(0,(.vs (.rI .i64 t0) 0 1)),(1,(.vs (.rI .i64 t1) 0 1))],[],0,26,0⟩
def ef18j2 : Li × Li → St := ef18j1
def ef18j3 : Ty13 → St := fun (t0,t1,t5) => ⟨[(0,(.vs (.rI .i64 t0) 0 1)),(1,(.vs (.rI .i64 t1) 0 1)),(5,.int .i64 t5)],[],0,26,0⟩
def ef18l1 : Ty13 → St := ef18j3
def ef18j4 : Unit → St := ef10j4
def f18_1 (F : Nat) (kf18j1 : Li × Li → Rz) : Li × Li → Rz := fun (a0,a1) => (kf18j1 (a0,a1))
theorem f18_1_eq (F : Nat) (Rf18j1 : St → Rz) : ∀ v,XAf18 F (bp Tryd.f18 2) (ef18_a v) (kSeq (kc V18 Rf18j1 sp37) Kf21) = f18_1 F (Rf18j1 ∘ ef18j1) v := by
 rintro ⟨a0,a1⟩; kernel_rfl
def f18_2 (F : Nat) (kf18j2 : Li × Li → Rz) : Li × Li → Rz := fun (t0,t1) => (cond ((↑t0.length : Int) != (↑t1.length : Int)) (some ((.bool false),[])) (kf18j2 (t0,t1)))
theorem f18_2_eq (F : Nat) (Rf18j2 : St → Rz) : ∀ v,XAf18 F (bp Tryd.f18 6) (ef18j1 v) (kSeq (kc V18 Rf18j2 sp37) Kf21) = f18_2 F (Rf18j2 ∘ ef18j2) v := by
 rintro ⟨t0,t1⟩; kernel_rfl
def f18_3 (F : Nat) (kf18j3 : Ty13 → Rz) (kf18j4 : Unit → Rz) : Li × Li → Rz := fun (t0,t1) => (kf18j3 (t0,t1,(0 : Int)))
theorem f18_3_eq (F : Nat) (Rf18j3 Rf18j4 : St → Rz) : ∀ v,XAf18 F (bp Tryd.f18 28) (ef18j2 v) (kSeq (kc V18 Rf18j3 sp39) (kSeq (kc V18 Rf18j4 []) Kf21)) = f18_3 F (Rf18j3 ∘ ef18j3) (Rf18j4 ∘ ef18j4) v := by
 rintro ⟨t0,t1⟩; kernel_rfl
def f18_4 (F : Nat) (kf18l1 : Ty13 → Rz) (kf18j4 : Unit → Rz) : Ty13 → Rz := fun (t0,t1,t5) => (cond (decide (t5 < (↑t0.length : Int))) (cond ((decide (0 ≤ t5)) && (decide (t5 < (↑t0.length : Int)))) (cond ((decide (0 ≤ t5)) && (decide (t5 < (↑t1.length : Int)))) (cond ((t0.getD (Int.toNat t5) 0) != (t1.getD (Int.toNat t5) 0)) (some ((.bool false),[])) (kf18l1 (t0,t1,(IntKind.i64.wrap (t5 + (1 : Int)))))) none) none) (kf18j4 ()))
theorem f18_4_eq (F : Nat) (Rf18l1 Rf18j4 : St → Rz) : ∀ v,XAf18 F (bp Tryd.f18 116) (ef18l1 v) (kSeq (kc V18 Rf18l1 sp39) (kBlock 0 (kSeq (kc V18 Rf18j4 []) Kf21))) = f18_4 F (Rf18l1 ∘ ef18l1) (Rf18j4 ∘ ef18j4) v := by
 rintro ⟨t0,t1,t5⟩; kernel_rfl
def f18_5_i : Ty13 → Li × Li × Int := fun (t0,t1,t5) => (t0,t1,t5)
def f18_5 (F : Nat) (kf18j4 : Unit → Rz) : Ty13 → Rz := fun v => loopN (fun k => f18_4 F k kf18j4) F (f18_5_i v)
theorem f18_5_eq (F : Nat) (Rf18j4 : St → Rz) : ∀ v,XAf18 F (bp Tryd.f18 58) (ef18j3 v) (kBlock 0 (kSeq (kc V18 Rf18j4 []) Kf21)) = f18_5 F (Rf18j4 ∘ ef18j4) v :=
 loop_cut (by kernel_rfl) (by kernel_rfl) ef18j3 ef18l1 _ f18_5_i (fun k => f18_4 F k (Rf18j4 ∘ ef18j4))
  (by rintro ⟨t0,t1,t5⟩; kernel_rfl) (fun Rf18l1 => f18_4_eq F Rf18l1 Rf18j4)
def f18_6 (F : Nat) (kf18j4 : Unit → Rz) : Ty13 → Rz := f18_5 F kf18j4
theorem f18_6_eq (F : Nat) (Rf18j4 : St → Rz) : ∀ v,XAf18 F (bp Tryd.f18 29) (ef18j3 v) (kSeq (kc V18 Rf18j4 []) Kf21) = f18_6 F (Rf18j4 ∘ ef18j4) v := fun v =>
 (block_in  (by kernel_rfl) _ _).trans (f18_5_eq F Rf18j4 v)
def f18_7 (F : Nat) (kf18j4 : Unit → Rz) : Li × Li → Rz := fun v => f18_3 F (f18_6 F kf18j4) kf18j4 v
theorem f18_7_eq (F : Nat) (Rf18j4 : St → Rz) : ∀ v,XAf18 F (bp Tryd.f18 14) (ef18j2 v) (kSeq (kc V18 Rf18j4 []) Kf21) = f18_7 F (Rf18j4 ∘ ef18j4) v :=
 seq_cut (by kernel_rfl) (by kernel_rfl) ef18j2 ef18j3 _ (fun k => f18_3 F k (Rf18j4 ∘ ef18j4)) (f18_6 F (Rf18j4 ∘ ef18j4))
  (fun Rf18j3 => f18_3_eq F Rf18j3 Rf18j4) (f18_6_eq F Rf18j4)
def f18_8 (F : Nat) : Unit → Rz := fun _ => (some ((.bool true),[]))
theorem f18_8_eq (F : Nat) : ∀ v,XAf18 F (bp Tryd.f18 15) (ef18j4 v) Kf21 = f18_8 F v := by
 intro _; kernel_rfl
def f18_9 (F : Nat) : Li × Li → Rz := fun v => f18_7 F (f18_8 F) v
theorem f18_9_eq (F : Nat) : ∀ v,XAf18 F (bp Tryd.f18 7) (ef18j2 v) Kf21 = f18_9 F v :=
 seq_cut (by kernel_rfl) (by kernel_rfl) ef18j2 ef18j4 _ (fun k => f18_7 F k) (f18_8 F)
  (fun Rf18j4 => f18_7_eq F Rf18j4) (f18_8_eq F)
def f18_10 (F : Nat) : Li × Li → Rz := fun v => f18_2 F (f18_9 F) v
theorem f18_10_eq (F : Nat) : ∀ v,XAf18 F (bp Tryd.f18 3) (ef18j1 v) Kf21 = f18_10 F v :=
 seq_cut (by kernel_rfl) (by kernel_rfl) ef18j1 ef18j2 _ (fun k => f18_2 F k) (f18_9 F)
  (fun Rf18j2 => f18_2_eq F Rf18j2) (f18_9_eq F)
def f18_11 (F : Nat) : Li × Li → Rz := fun v => f18_1 F (f18_10 F) v
theorem f18_11_eq (F : Nat) : ∀ v,XAf18 F (sub (bodyOf Tryd.f18) []) (ef18_a v) Kf21 = f18_11 F v :=
 seq_cut (by kernel_rfl) (by kernel_rfl) ef18_a ef18j1 _ (fun k => f18_1 F k) (f18_10 F)
  (fun Rf18j1 => f18_1_eq F Rf18j1) (f18_10_eq F)
def f18 (F : Nat) : Li × Li → Rz := f18_11 F
theorem f18_body (F : Nat) (a0 a1 : Li) : abody V18 (Af18 F) Tryd.f18 [(.vs (.rI .i64 a0) 0 1),(.vs (.rI .i64 a1) 0 1)] [] = f18 F (a0,a1) :=
 (abody_in (by kernel_rfl) (by kernel_rfl)).trans (f18_11_eq F (a0,a1))
def r18 : CRun := fun X H => match X,H with
 | [(.vs (.rI .i64 a0) 0 1),(.vs (.rI .i64 a1) 0 1)],[] => some ((decide (a0.length < 1073741824)),(.bool (a0 == a1)),[])
 | _,_ => none
theorem s18 (a0 a1 : Li) (hp : ((decide (a0.length < 1073741824))) = true) (h0 : okV (.vs (.rI .i64 a0) 0 1)) (h1 : okV (.vs (.rI .i64 a1) 0 1)) : ∃ F,f18 F (a0,a1) = some ((.bool (a0 == a1)),[]) := by
 rw [decide_eq_true_iff] at hp
 refine ⟨a0.length + 1,?_⟩
 simp only [f18,f18_11,f18_1,f18_10,f18_2,f18_9,f18_7,f18_8,f18_3,f18_6,f18_5,f18_5_i]
 by_cases hl : a0.length = a1.length
 ·have e : ((a0.length : Int) != (a1.length : Int)) = false := by simp [hl]
  rw [e,cond_false]
  refine loopN_ind (fun m s => ∃ k : Nat,s = (a0,a1,(k : Int)) ∧ m = a0.length - k ∧ k ≤ a0.length ∧ ∀ j,j < k → a0.getD j 0 = a1.getD j 0) (fun m s K hi hk => ?_) (a0.length + 1) a0.length _ (by omega) ⟨0,rfl,by omega,by omega,fun j hj => by omega⟩
  obtain ⟨k,rfl,hm,hle,heq⟩ := hi
  simp only [f18_4,Int.toNat_natCast]
  by_cases hlt : k < a0.length
  ·have e1 : (decide (0 ≤ (k : Int)) && decide ((k : Int) < (a0.length : Int))) = true := by rw [dec_and,decide_eq_true_iff]; omega
   have e2 : (decide (0 ≤ (k : Int)) && decide ((k : Int) < (a1.length : Int))) = true := by rw [dec_and,decide_eq_true_iff]; omega
   rw [cond_pos (show (k : Int) < (a0.length : Int) by omega),e1,e2,cond_true,cond_true,i64w (by omega) (by omega)]
   by_cases h : a0.getD k 0 = a1.getD k 0
   ·have e3 : (a0.getD k 0 != a1.getD k 0) = false := by rw [h]; simp
    rw [e3,cond_false]
    exact hk (m - 1) _ (by omega) ⟨k + 1,rfl,by omega,by omega,fun j hj => by
     by_cases hj' : j = k
     ·subst hj'; exact h
     ·exact heq j (by omega)⟩
   ·have e3 : (a0.getD k 0 != a1.getD k 0) = true := by simpa using h
    rw [e3,cond_true]
    have e4 : (a0 == a1) = false := by rw [beq_eq_false_iff_ne]; intro h'; exact h (by rw [h'])
    rw [e4]
  ·rw [cond_neg (by omega)]
   have e4 : (a0 == a1) = true := by rw [beq_iff_eq]; exact list_eq 0 hl fun j hj => heq j (by omega)
   rw [e4]; rfl
 ·have e : ((a0.length : Int) != (a1.length : Int)) = true := by simp; omega
  have e4 : (a0 == a1) = false := by rw [beq_eq_false_iff_ne]; intro h'; exact hl (by rw [h'])
  rw [e,cond_true,e4]
theorem c18 : CallOk Tryd.prog G36 18 r18 := callOk_of mixed tys eV18 Tryd.func18 (by kernel_rfl) (c := sub (bodyOf Tryd.f18) []) (by kernel_rfl) (by
 intro X H r H' h hX hH
 unfold r18 at h; split at h <;> try contradiction
 ·simp only [Option.some.injEq,Prod.mk.injEq] at h
  obtain ⟨hp,rfl,rfl⟩ := h
  obtain ⟨F,hF⟩ := s18 _ _ hp (hX _ hm0) (hX _ hm1)
  exact ⟨Af18 F,(f18_body F _ _).trans hF⟩)
def lV27 : List CEnt := []
def V27 : Env := mkEnv T36 G36 lV27
noncomputable abbrev Kf22 := kFin V27 none (Tryd.f27).results.toList
theorem eV27 : EOk Tryd.prog V27 := eok_mk (by exact trivial)
def Af27 (F : Nat) : Cuts := { F := F,at_ := fun _ => none,join := fun _ => none }
def ef27_a : Int × Li → St := fun (a0,a1) => ⟨[(0,.int .i64 a0),(1,.str a1)],[],0,6,0⟩
def f27_1 (F : Nat) : Int × Li → Rz := fun (a0,a1) => (some ((.fn 45 (.cons 0 (.ptr 0 0 1 0 0 0 1) (.cons 0 (.ptr 1 0 1 0 0 0 1) .nil))),[(.cells 1 (.one (.str a1)) true),(.cells 1 (.one (.int .i64 a0)) true)]))
theorem f27_1_eq (F : Nat) : ∀ v,aexec V27 (Af27 F) (sub (bodyOf Tryd.f27) []) (ef27_a v) Kf22 = f27_1 F v := by
 rintro ⟨a0,a1⟩; kernel_rfl
def f27 (F : Nat) : Int × Li → Rz := f27_1 F
theorem f27_body (F : Nat) (a0 : Int) (a1 : Li) : abody V27 (Af27 F) Tryd.f27 [(.int .i64 a0),.str a1] [] = f27 F (a0,a1) :=
 (abody_in (by kernel_rfl) (by kernel_rfl)).trans (f27_1_eq F (a0,a1))
def r27 : CRun := fun X H => match X,H with
 | [(.int .i64 a0),.str a1],[] => some (true,(.fn 45 (.cons 0 (.ptr 0 0 1 0 0 0 1) (.cons 0 (.ptr 1 0 1 0 0 0 1) .nil))),[(.cells 1 (.one (.str a1)) true),(.cells 1 (.one (.int .i64 a0)) true)])
 | _,_ => none
theorem s27 (a0 : Int) (a1 : Li) (h0 : okV (.int .i64 a0)) (h1 : okV (.str a1)) : ∃ F,f27 F (a0,a1) = some ((.fn 45 (.cons 0 (.ptr 0 0 1 0 0 0 1) (.cons 0 (.ptr 1 0 1 0 0 0 1) .nil))),[(.cells 1 (.one (.str a1)) true),(.cells 1 (.one (.int .i64 a0)) true)]) := ⟨0,rfl⟩
theorem c27 : CallOk Tryd.prog G36 27 r27 := callOk_of mixed tys eV27 Tryd.func27 (by kernel_rfl) (c := sub (bodyOf Tryd.f27) []) (by kernel_rfl) (by
 intro X H r H' h hX hH
 unfold r27 at h; split at h <;> try contradiction
 ·simp only [Option.some.injEq,Prod.mk.injEq] at h
  obtain ⟨hp,rfl,rfl⟩ := h
  obtain ⟨F,hF⟩ := s27 _ _ (hX _ hm0) (hX _ hm1)
  exact ⟨Af27 F,(f27_body F _ _).trans hF⟩)
end Go.Am
