/- Part of a proof about the functions of the given program. -/
import Derived.Test.YtnbgphghghmemaaAm35F
set_option linter.unusedVariables false
set_option linter.unusedSimpArgs false
namespace Go.Am
open Go Go.Proofs
abbrev sp27 : List (Nat × Md) := [(0,.plain),(1,.plain),(5,.plain),(6,.plain),(7,.plain),(8,.plain)]
abbrev sp28 : List (Nat × Md) := [(0,.plain),(1,.plain),(2,.plain)]
abbrev sp29 : List (Nat × Md) := [(0,.plain),(1,.plain),(2,.plain),(7,.plain)]
abbrev sp30 : List (Nat × Md) := [(0,.plain),(1,.plain),(2,.plain),(7,.plain),(8,.plain),(10,.plain)]
abbrev sp31 : List (Nat × Md) := [(0,.plain),(1,.plain),(2,.plain),(7,.plain),(8,.plain),(9,.plain),(10,.plain)]
abbrev sp32 : List (Nat × Md) := [(0,.plain),(1,.plain),(2,.plain),(3,.plain)]
abbrev sp33 : List (Nat × Md) := [(0,.plain),(1,.plain),(2,.plain),(3,.plain),(9,.plain)]
abbrev sp34 : List (Nat × Md) := [(0,.plain),(1,.plain),(2,.plain),(3,.plain),(9,.plain),(10,.plain),(12,.plain)]
abbrev sp35 : List (Nat × Md) := [(0,.plain),(1,.plain),(2,.plain),(3,.plain),(9,.plain),(10,.plain),(11,.plain),(12,.plain)]
abbrev Ty54 := Int × (List (List (List Int))) × Nat
abbrev Ty55 := Int × (List (List (List Int))) × Nat × (List Int)
abbrev Ty56 := Int × (List (List (List Int))) × Nat × Int × Int
abbrev Ty57 := Int × (List (List (List Int))) × Nat × (List (List (List Int))) × Nat × (List (List (List Int))) × Nat

def lVG353i : List CEnt := [(9,[],r9),(10,[none],r10i)]
def VG353i : Env := mkEnv T35 G35 lVG353i
theorem eVG353i : EOk Try.prog VG353i := eok_mk (by exact ⟨c9,c10i,trivial⟩)
def Af3i (F : Nat) : Cuts := { F := F,at_ := fun _ => none,join := fun n => match n with | 1040 => some [(0,.plain),(1,.plain)] | 2038 => some sp7 | 3036 => some sp27 | _ => none }
def ef3i_a : Ty54 → St := fun (a0,a1,a1n) => { tmps := [(0,(.int .i64 a0)),(1,(.vs (.rT [.int .i64,.int .i64,.int .i64,.str,.sl .i64] a1) a1n 5))],heap := [],next := 0,nt := 79,m := 0 }
def ef3ij1 : Ty54 → St := fun (t0,t1,x3) => { tmps := [(0,(.int .i64 t0)),(1,(.vs (.rT [.int .i64,.int .i64,.int .i64,.str,.sl .i64] t1) x3 5))],heap := [],next := 0,nt := 79,m := 0 }
def ef3ij2 : Ty54 → St := fun (t0,t1,x3) => { tmps := [(0,(.int .i64 t0)),(1,(.vs (.rT [.int .i64,.int .i64,.int .i64,.str,.sl .i64] t1) x3 5)),(5,(.bool true))],heap := [],next := 0,nt := 79,m := 0 }
def ef3ij3 : Ty54 → St := fun (t0,t1,x3) => { tmps := [(0,(.int .i64 t0)),(1,(.vs (.rT [.int .i64,.int .i64,.int .i64,.str,.sl .i64] t1) x3 5)),(5,(.bool true)),(6,.nilp),(7,.nilp),(8,(.bool false))],heap := [],next := 0,nt := 79,m := 0 }
def f3i_1 (F : Nat) (kf3ij1 : Ty54 → Rz) : Ty54 → Rz := fun (a0,a1,a1n) => (kf3ij1 (a0,a1,a1n))
theorem f3i_1_eq (F : Nat) (Rf3ij1 : St → Rz) : ∀ v,aexec VG353i (Af3i F) (bp Try.f3 2) (ef3i_a v) (kSeq (kc VG353i Rf3ij1 [(0,.plain),(1,.plain)]) (kFin VG353i none (Try.f3).results.toList)) = f3i_1 F (Rf3ij1 ∘ ef3ij1) v := by
  rintro ⟨a0,a1,a1n⟩; kernel_rfl
def f3i_2 (F : Nat) (kf3ij2 : Ty54 → Rz) : Ty54 → Rz := fun (t0,t1,x3) => (kf3ij2 (t0,t1,x3))
theorem f3i_2_eq (F : Nat) (Rf3ij2 : St → Rz) : ∀ v,aexec VG353i (Af3i F) (bp Try.f3 6) (ef3ij1 v) (kSeq (kc VG353i Rf3ij2 sp7) (kFin VG353i none (Try.f3).results.toList)) = f3i_2 F (Rf3ij2 ∘ ef3ij2) v := by
  rintro ⟨t0,t1,x3⟩; kernel_rfl
def f3i_3 (F : Nat) (kf3ij3 : Ty54 → Rz) : Ty54 → Rz := fun (t0,t1,x3) => (cond (!((decide (0 < t0)) && (decide (t0 < 65)))) (kf3ij3 (t0,t1,x3)) none)
theorem f3i_3_eq (F : Nat) (Rf3ij3 : St → Rz) : ∀ v,aexec VG353i (Af3i F) (bp Try.f3 14) (ef3ij2 v) (kSeq (kc VG353i Rf3ij3 sp27) (kFin VG353i none (Try.f3).results.toList)) = f3i_3 F (Rf3ij3 ∘ ef3ij3) v := by
  rintro ⟨t0,t1,x3⟩; kernel_rfl
def f3i_4 (F : Nat) : Ty54 → Rz := fun (t0,t1,x3) => (cond (decide (t0 < (1 : Int))) (some ((.bool true),[])) (some ((.bool (decide (t0 > (64 : Int)))),[])))
theorem f3i_4_eq (F : Nat) : ∀ v,aexec VG353i (Af3i F) (bp Try.f3 15) (ef3ij3 v) (kFin VG353i none (Try.f3).results.toList) = f3i_4 F v := by
  rintro ⟨t0,t1,x3⟩; kernel_rfl
def f3i_5 (F : Nat) : Ty54 → Rz := fun v => f3i_3 F (f3i_4 F) v
theorem f3i_5_eq (F : Nat) : ∀ v,aexec VG353i (Af3i F) (bp Try.f3 7) (ef3ij2 v) (kFin VG353i none (Try.f3).results.toList) = f3i_5 F v :=
  seq_cut (by kernel_rfl) (by kernel_rfl) ef3ij2 ef3ij3 _ (fun k => f3i_3 F k) (f3i_4 F)
    (fun Rf3ij3 => f3i_3_eq F Rf3ij3) (f3i_4_eq F)
def f3i_6 (F : Nat) : Ty54 → Rz := fun v => f3i_2 F (f3i_5 F) v
theorem f3i_6_eq (F : Nat) : ∀ v,aexec VG353i (Af3i F) (bp Try.f3 3) (ef3ij1 v) (kFin VG353i none (Try.f3).results.toList) = f3i_6 F v :=
  seq_cut (by kernel_rfl) (by kernel_rfl) ef3ij1 ef3ij2 _ (fun k => f3i_2 F k) (f3i_5 F)
    (fun Rf3ij2 => f3i_2_eq F Rf3ij2) (f3i_5_eq F)
def f3i_7 (F : Nat) : Ty54 → Rz := fun v => f3i_1 F (f3i_6 F) v
theorem f3i_7_eq (F : Nat) : ∀ v,aexec VG353i (Af3i F) (sub (bodyOf Try.f3) []) (ef3i_a v) (kFin VG353i none (Try.f3).results.toList) = f3i_7 F v :=
  seq_cut (by kernel_rfl) (by kernel_rfl) ef3i_a ef3ij1 _ (fun k => f3i_1 F k) (f3i_6 F)
    (fun Rf3ij1 => f3i_1_eq F Rf3ij1) (f3i_6_eq F)
def f3i (F : Nat) : Ty54 → Rz := f3i_7 F
theorem f3i_body (F : Nat) (a0 : Int) (a1 : List (List (List Int))) (a1n : Nat) : abody VG353i (Af3i F) Try.f3 [(.int .i64 a0),(.vs (.rT [.int .i64,.int .i64,.int .i64,.str,.sl .i64] a1) a1n 5)] [] = f3i F (a0,a1,a1n) :=
  (abody_in (c := (sub (bodyOf Try.f3) [])) (by kernel_rfl) (s := ef3i_a (a0,a1,a1n)) (by kernel_rfl)).trans (f3i_7_eq F (a0,a1,a1n))
def r3i : CRun := fun X H => match X,H with
  | [(.int .i64 a0),(.vs (.rT [.int .i64,.int .i64,.int .i64,.str,.sl .i64] a1) a1n 5)],[] => some ((!((decide (0 < a0)) && (decide (a0 < 65)))),(.bool true),[])
  | _,_ => none
theorem s3i (a0 : Int) (a1 : List (List (List Int))) (a1n : Nat) (hp : ((!((decide (0 < a0)) && (decide (a0 < 65))))) = true) (h0 : okV (.int .i64 a0)) (h1 : okV (.vs (.rT [.int .i64,.int .i64,.int .i64,.str,.sl .i64] a1) a1n 5)) : ∃ F,f3i F (a0,a1,a1n) = some ((.bool true),[]) := by
  rw [dec_and,dec_not,decide_eq_true_iff] at hp
  refine ⟨0,?_⟩
  have e : (!(decide (0 < a0) && decide (a0 < 65))) = true := by rw [dec_and,dec_not,decide_eq_true_iff]; exact hp
  simp only [f3i,f3i_1,f3i_2,f3i_3,f3i_4,f3i_5,f3i_6,f3i_7,e,cond_true]
  by_cases h : a0 < 1
  · rw [cond_pos h]
  · rw [cond_neg h,show decide (a0 > 64) = true by simp; omega]

theorem c3i : CallOk Try.prog G35 3 r3i := callOk_of (V := VG353i) mixed tys eVG353i (f := 3) (fn := Try.f3) Try.func3 (by kernel_rfl) (c := sub (bodyOf Try.f3) []) (by kernel_rfl) (by
  intro X H r H' h hX hH
  unfold r3i at h; split at h <;> try contradiction
  · simp only [Option.some.injEq,Prod.mk.injEq] at h
    obtain ⟨hp,rfl,rfl⟩ := h
    obtain ⟨F,hF⟩ := s3i _ _ _ hp (hX _ (.head _)) (hX _ (.tail _ (.head _)))
    exact ⟨Af3i F,(f3i_body F _ _ _).trans hF⟩)
def lVG355i : List CEnt := [(9,[],r9),(10,[none],r10i)]
def VG355i : Env := mkEnv T35 G35 lVG355i
theorem eVG355i : EOk Try.prog VG355i := eok_mk (by exact ⟨c9,c10i,trivial⟩)
def Af5i (F : Nat) : Cuts := { F := F,at_ := fun _ => none,join := fun n => match n with | 1069 => some sp28 | 2067 => some sp29 | 3065 => some sp30 | _ => none }
def ef5i_a : Ty55 → St := fun (a0,a1,a1n,a2) => { tmps := [(0,(.int .i64 a0)),(1,(.vs (.rT [.int .i64,.int .i64,.int .i64,.str,.sl .i64] a1) a1n 5)),(2,(.vs (.rI .i64 a2) 0 1))],heap := [],next := 0,nt := 128,m := 0 }
def ef5ij1 : Ty55 → St := fun (t0,t1,x3,t2) => { tmps := [(0,(.int .i64 t0)),(1,(.vs (.rT [.int .i64,.int .i64,.int .i64,.str,.sl .i64] t1) x3 5)),(2,(.vs (.rI .i64 t2) 0 1))],heap := [],next := 0,nt := 128,m := 0 }
def ef5ij2 : Ty55 → St := fun (t0,t1,x3,t2) => { tmps := [(0,(.int .i64 t0)),(1,(.vs (.rT [.int .i64,.int .i64,.int .i64,.str,.sl .i64] t1) x3 5)),(2,(.vs (.rI .i64 t2) 0 1)),(7,(.bool true))],heap := [],next := 0,nt := 128,m := 0 }
def ef5ij3 : Ty55 → St := fun (t0,t1,x3,t2) => { tmps := [(0,(.int .i64 t0)),(1,(.vs (.rT [.int .i64,.int .i64,.int .i64,.str,.sl .i64] t1) x3 5)),(2,(.vs (.rI .i64 t2) 0 1)),(7,(.bool true)),(8,.nilp),(10,(.bool false))],heap := [],next := 0,nt := 128,m := 0 }
def f5i_1 (F : Nat) (kf5ij1 : Ty55 → Rz) : Ty55 → Rz := fun (a0,a1,a1n,a2) => (kf5ij1 (a0,a1,a1n,a2))
theorem f5i_1_eq (F : Nat) (Rf5ij1 : St → Rz) : ∀ v,aexec VG355i (Af5i F) (bp Try.f5 2) (ef5i_a v) (kSeq (kc VG355i Rf5ij1 sp28) (kFin VG355i none (Try.f5).results.toList)) = f5i_1 F (Rf5ij1 ∘ ef5ij1) v := by
  rintro ⟨a0,a1,a1n,a2⟩; kernel_rfl
def f5i_2 (F : Nat) (kf5ij2 : Ty55 → Rz) : Ty55 → Rz := fun (t0,t1,x3,t2) => (kf5ij2 (t0,t1,x3,t2))
theorem f5i_2_eq (F : Nat) (Rf5ij2 : St → Rz) : ∀ v,aexec VG355i (Af5i F) (bp Try.f5 6) (ef5ij1 v) (kSeq (kc VG355i Rf5ij2 sp29) (kFin VG355i none (Try.f5).results.toList)) = f5i_2 F (Rf5ij2 ∘ ef5ij2) v := by
  rintro ⟨t0,t1,x3,t2⟩; kernel_rfl
def f5i_3 (F : Nat) (kf5ij3 : Ty55 → Rz) : Ty55 → Rz := fun (t0,t1,x3,t2) => (cond (!((decide (0 < t0)) && (decide (t0 < 65)))) (kf5ij3 (t0,t1,x3,t2)) none)
theorem f5i_3_eq (F : Nat) (Rf5ij3 : St → Rz) : ∀ v,aexec VG355i (Af5i F) (bp Try.f5 14) (ef5ij2 v) (kSeq (kc VG355i Rf5ij3 sp30) (kFin VG355i none (Try.f5).results.toList)) = f5i_3 F (Rf5ij3 ∘ ef5ij3) v := by
  rintro ⟨t0,t1,x3,t2⟩; kernel_rfl
def f5i_4 (F : Nat) : Ty55 → Rz := fun (t0,t1,x3,t2) => (cond (decide (t0 < (1 : Int))) (some ((.bool true),[])) (some ((.bool (decide (t0 > (64 : Int)))),[])))
theorem f5i_4_eq (F : Nat) : ∀ v,aexec VG355i (Af5i F) (bp Try.f5 15) (ef5ij3 v) (kFin VG355i none (Try.f5).results.toList) = f5i_4 F v := by
  rintro ⟨t0,t1,x3,t2⟩; kernel_rfl
def f5i_5 (F : Nat) : Ty55 → Rz := fun v => f5i_3 F (f5i_4 F) v
theorem f5i_5_eq (F : Nat) : ∀ v,aexec VG355i (Af5i F) (bp Try.f5 7) (ef5ij2 v) (kFin VG355i none (Try.f5).results.toList) = f5i_5 F v :=
  seq_cut (by kernel_rfl) (by kernel_rfl) ef5ij2 ef5ij3 _ (fun k => f5i_3 F k) (f5i_4 F)
    (fun Rf5ij3 => f5i_3_eq F Rf5ij3) (f5i_4_eq F)
def f5i_6 (F : Nat) : Ty55 → Rz := fun v => f5i_2 F (f5i_5 F) v
theorem f5i_6_eq (F : Nat) : ∀ v,aexec VG355i (Af5i F) (bp Try.f5 3) (ef5ij1 v) (kFin VG355i none (Try.f5).results.toList) = f5i_6 F v :=
  seq_cut (by kernel_rfl) (by kernel_rfl) ef5ij1 ef5ij2 _ (fun k => f5i_2 F k) (f5i_5 F)
    (fun Rf5ij2 => f5i_2_eq F Rf5ij2) (f5i_5_eq F)
def f5i_7 (F : Nat) : Ty55 → Rz := fun v => f5i_1 F (f5i_6 F) v
theorem f5i_7_eq (F : Nat) : ∀ v,aexec VG355i (Af5i F) (sub (bodyOf Try.f5) []) (ef5i_a v) (kFin VG355i none (Try.f5).results.toList) = f5i_7 F v :=
  seq_cut (by kernel_rfl) (by kernel_rfl) ef5i_a ef5ij1 _ (fun k => f5i_1 F k) (f5i_6 F)
    (fun Rf5ij1 => f5i_1_eq F Rf5ij1) (f5i_6_eq F)
def f5i (F : Nat) : Ty55 → Rz := f5i_7 F
theorem f5i_body (F : Nat) (a0 : Int) (a1 : List (List (List Int))) (a1n : Nat) (a2 : List Int) : abody VG355i (Af5i F) Try.f5 [(.int .i64 a0),(.vs (.rT [.int .i64,.int .i64,.int .i64,.str,.sl .i64] a1) a1n 5),(.vs (.rI .i64 a2) 0 1)] [] = f5i F (a0,a1,a1n,a2) :=
  (abody_in (c := (sub (bodyOf Try.f5) [])) (by kernel_rfl) (s := ef5i_a (a0,a1,a1n,a2)) (by kernel_rfl)).trans (f5i_7_eq F (a0,a1,a1n,a2))
def r5i : CRun := fun X H => match X,H with
  | [(.int .i64 a0),(.vs (.rT [.int .i64,.int .i64,.int .i64,.str,.sl .i64] a1) a1n 5),(.vs (.rI .i64 a2) 0 1)],[] => some ((!((decide (0 < a0)) && (decide (a0 < 65)))),(.bool true),[])
  | _,_ => none
theorem s5i (a0 : Int) (a1 : List (List (List Int))) (a1n : Nat) (a2 : List Int) (hp : ((!((decide (0 < a0)) && (decide (a0 < 65))))) = true) (h0 : okV (.int .i64 a0)) (h1 : okV (.vs (.rT [.int .i64,.int .i64,.int .i64,.str,.sl .i64] a1) a1n 5)) (h2 : okV (.vs (.rI .i64 a2) 0 1)) : ∃ F,f5i F (a0,a1,a1n,a2) = some ((.bool true),[]) := by
  rw [dec_and,dec_not,decide_eq_true_iff] at hp
  refine ⟨0,?_⟩
  have e : (!(decide (0 < a0) && decide (a0 < 65))) = true := by rw [dec_and,dec_not,decide_eq_true_iff]; exact hp
  simp only [f5i,f5i_1,f5i_2,f5i_3,f5i_4,f5i_5,f5i_6,f5i_7,e,cond_true]
  by_cases h : a0 < 1
  · rw [cond_pos h]
  · rw [cond_neg h,show decide (a0 > 64) = true by simp; omega]

theorem c5i : CallOk Try.prog G35 5 r5i := callOk_of (V := VG355i) mixed tys eVG355i (f := 5) (fn := Try.f5) Try.func5 (by kernel_rfl) (c := sub (bodyOf Try.f5) []) (by kernel_rfl) (by
  intro X H r H' h hX hH
  unfold r5i at h; split at h <;> try contradiction
  · simp only [Option.some.injEq,Prod.mk.injEq] at h
    obtain ⟨hp,rfl,rfl⟩ := h
    obtain ⟨F,hF⟩ := s5i _ _ _ _ hp (hX _ (.head _)) (hX _ (.tail _ (.head _))) (hX _ (.tail _ (.tail _ (.head _))))
    exact ⟨Af5i F,(f5i_body F _ _ _ _).trans hF⟩)
def lVG356i : List CEnt := [(9,[],r9),(10,[none],r10i)]
def VG356i : Env := mkEnv T35 G35 lVG356i
theorem eVG356i : EOk Try.prog VG356i := eok_mk (by exact ⟨c9,c10i,trivial⟩)
def Af6i (F : Nat) : Cuts := { F := F,at_ := fun _ => none,join := fun n => match n with | 1095 => some sp28 | 2093 => some sp29 | 3091 => some sp31 | _ => none }
def ef6i_a : Ty55 → St := fun (a0,a1,a1n,a2) => { tmps := [(0,(.int .i64 a0)),(1,(.vs (.rT [.int .i64,.int .i64,.int .i64,.str,.sl .i64] a1) a1n 5)),(2,(.vs (.rI .i64 a2) 0 1))],heap := [],next := 0,nt := 146,m := 0 }
def ef6ij1 : Ty55 → St := fun (t0,t1,x3,t2) => { tmps := [(0,(.int .i64 t0)),(1,(.vs (.rT [.int .i64,.int .i64,.int .i64,.str,.sl .i64] t1) x3 5)),(2,(.vs (.rI .i64 t2) 0 1))],heap := [],next := 0,nt := 146,m := 0 }
def ef6ij2 : Ty55 → St := fun (t0,t1,x3,t2) => { tmps := [(0,(.int .i64 t0)),(1,(.vs (.rT [.int .i64,.int .i64,.int .i64,.str,.sl .i64] t1) x3 5)),(2,(.vs (.rI .i64 t2) 0 1)),(7,(.bool true))],heap := [],next := 0,nt := 146,m := 0 }
def ef6ij3 : Ty55 → St := fun (t0,t1,x3,t2) => { tmps := [(0,(.int .i64 t0)),(1,(.vs (.rT [.int .i64,.int .i64,.int .i64,.str,.sl .i64] t1) x3 5)),(2,(.vs (.rI .i64 t2) 0 1)),(7,(.bool true)),(8,.nilp),(9,.nilp),(10,(.bool false))],heap := [],next := 0,nt := 146,m := 0 }
def f6i_1 (F : Nat) (kf6ij1 : Ty55 → Rz) : Ty55 → Rz := fun (a0,a1,a1n,a2) => (kf6ij1 (a0,a1,a1n,a2))
theorem f6i_1_eq (F : Nat) (Rf6ij1 : St → Rz) : ∀ v,aexec VG356i (Af6i F) (bp Try.f6 2) (ef6i_a v) (kSeq (kc VG356i Rf6ij1 sp28) (kFin VG356i none (Try.f6).results.toList)) = f6i_1 F (Rf6ij1 ∘ ef6ij1) v := by
  rintro ⟨a0,a1,a1n,a2⟩; kernel_rfl
def f6i_2 (F : Nat) (kf6ij2 : Ty55 → Rz) : Ty55 → Rz := fun (t0,t1,x3,t2) => (kf6ij2 (t0,t1,x3,t2))
theorem f6i_2_eq (F : Nat) (Rf6ij2 : St → Rz) : ∀ v,aexec VG356i (Af6i F) (bp Try.f6 6) (ef6ij1 v) (kSeq (kc VG356i Rf6ij2 sp29) (kFin VG356i none (Try.f6).results.toList)) = f6i_2 F (Rf6ij2 ∘ ef6ij2) v := by
  rintro ⟨t0,t1,x3,t2⟩; kernel_rfl
def f6i_3 (F : Nat) (kf6ij3 : Ty55 → Rz) : Ty55 → Rz := fun (t0,t1,x3,t2) => (cond (!((decide (0 < t0)) && (decide (t0 < 65)))) (kf6ij3 (t0,t1,x3,t2)) none)
theorem f6i_3_eq (F : Nat) (Rf6ij3 : St → Rz) : ∀ v,aexec VG356i (Af6i F) (bp Try.f6 14) (ef6ij2 v) (kSeq (kc VG356i Rf6ij3 sp31) (kFin VG356i none (Try.f6).results.toList)) = f6i_3 F (Rf6ij3 ∘ ef6ij3) v := by
  rintro ⟨t0,t1,x3,t2⟩; kernel_rfl
def f6i_4 (F : Nat) : Ty55 → Rz := fun (t0,t1,x3,t2) => (cond (decide (t0 < (1 : Int))) (some ((.bool true),[])) (some ((.bool (decide (t0 > (64 : Int)))),[])))
theorem f6i_4_eq (F : Nat) : ∀ v,aexec VG356i (Af6i F) (bp Try.f6 15) (ef6ij3 v) (kFin VG356i none (Try.f6).results.toList) = f6i_4 F v := by
  rintro ⟨t0,t1,x3,t2⟩; kernel_rfl
def f6i_5 (F : Nat) : Ty55 → Rz := fun v => f6i_3 F (f6i_4 F) v
theorem f6i_5_eq (F : Nat) : ∀ v,aexec VG356i (Af6i F) (bp Try.f6 7) (ef6ij2 v) (kFin VG356i none (Try.f6).results.toList) = f6i_5 F v :=
  seq_cut (by kernel_rfl) (by kernel_rfl) ef6ij2 ef6ij3 _ (fun k => f6i_3 F k) (f6i_4 F)
    (fun Rf6ij3 => f6i_3_eq F Rf6ij3) (f6i_4_eq F)
def f6i_6 (F : Nat) : Ty55 → Rz := fun v => f6i_2 F (f6i_5 F) v
theorem f6i_6_eq (F : Nat) : ∀ v,aexec VG356i (Af6i F) (bp Try.f6 3) (ef6ij1 v) (kFin VG356i none (Try.f6).results.toList) = f6i_6 F v :=
  seq_cut (by kernel_rfl) (by kernel_rfl) ef6ij1 ef6ij2 _ (fun k => f6i_2 F k) (f6i_5 F)
    (fun Rf6ij2 => f6i_2_eq F Rf6ij2) (f6i_5_eq F)
def f6i_7 (F : Nat) : Ty55 → Rz := fun v => f6i_1 F (f6i_6 F) v
theorem f6i_7_eq (F : Nat) : ∀ v,aexec VG356i (Af6i F) (sub (bodyOf Try.f6) []) (ef6i_a v) (kFin VG356i none (Try.f6).results.toList) = f6i_7 F v :=
  seq_cut (by kernel_rfl) (by kernel_rfl) ef6i_a ef6ij1 _ (fun k => f6i_1 F k) (f6i_6 F)
    (fun Rf6ij1 => f6i_1_eq F Rf6ij1) (f6i_6_eq F)
def f6i (F : Nat) : Ty55 → Rz := f6i_7 F
theorem f6i_body (F : Nat) (a0 : Int) (a1 : List (List (List Int))) (a1n : Nat) (a2 : List Int) : abody VG356i (Af6i F) Try.f6 [(.int .i64 a0),(.vs (.rT [.int .i64,.int .i64,.int .i64,.str,.sl .i64] a1) a1n 5),(.vs (.rI .i64 a2) 0 1)] [] = f6i F (a0,a1,a1n,a2) :=
  (abody_in (c := (sub (bodyOf Try.f6) [])) (by kernel_rfl) (s := ef6i_a (a0,a1,a1n,a2)) (by kernel_rfl)).trans (f6i_7_eq F (a0,a1,a1n,a2))
def r6i : CRun := fun X H => match X,H with
  | [(.int .i64 a0),(.vs (.rT [.int .i64,.int .i64,.int .i64,.str,.sl .i64] a1) a1n 5),(.vs (.rI .i64 a2) 0 1)],[] => some ((!((decide (0 < a0)) && (decide (a0 < 65)))),(.bool true),[])
  | _,_ => none
theorem s6i (a0 : Int) (a1 : List (List (List Int))) (a1n : Nat) (a2 : List Int) (hp : ((!((decide (0 < a0)) && (decide (a0 < 65))))) = true) (h0 : okV (.int .i64 a0)) (h1 : okV (.vs (.rT [.int .i64,.int .i64,.int .i64,.str,.sl .i64] a1) a1n 5)) (h2 : okV (.vs (.rI .i64 a2) 0 1)) : ∃ F,f6i F (a0,a1,a1n,a2) = some ((.bool true),[]) := by
  rw [dec_and,dec_not,decide_eq_true_iff] at hp
  refine ⟨0,?_⟩
  have e : (!(decide (0 < a0) && decide (a0 < 65))) = true := by rw [dec_and,dec_not,decide_eq_true_iff]; exact hp
  simp only [f6i,f6i_1,f6i_2,f6i_3,f6i_4,f6i_5,f6i_6,f6i_7,e,cond_true]
  by_cases h : a0 < 1
  · rw [cond_pos h]
  · rw [cond_neg h,show decide (a0 > 64) = true by simp; omega]

theorem c6i : CallOk Try.prog G35 6 r6i := callOk_of (V := VG356i) mixed tys eVG356i (f := 6) (fn := Try.f6) Try.func6 (by kernel_rfl) (c := sub (bodyOf Try.f6) []) (by kernel_rfl) (by
  intro X H r H' h hX hH
  unfold r6i at h; split at h <;> try contradiction
  · simp only [Option.some.injEq,Prod.mk.injEq] at h
    obtain ⟨hp,rfl,rfl⟩ := h
    obtain ⟨F,hF⟩ := s6i _ _ _ _ hp (hX _ (.head _)) (hX _ (.tail _ (.head _))) (hX _ (.tail _ (.tail _ (.head _))))
    exact ⟨Af6i F,(f6i_body F _ _ _ _).trans hF⟩)
def lVG357i : List CEnt := [(9,[],r9),(10,[none],r10i)]
def VG357i : Env := mkEnv T35 G35 lVG357i
theorem eVG357i : EOk Try.prog VG357i := eok_mk (by exact ⟨c9,c10i,trivial⟩)
def Af7i (F : Nat) : Cuts := { F := F,at_ := fun _ => none,join := fun n => match n with | 1100 => some sp32 | 2098 => some sp33 | 3096 => some sp34 | _ => none }
def ef7i_a : Ty56 → St := fun (a0,a1,a1n,a2,a3) => { tmps := [(0,(.int .i64 a0)),(1,(.vs (.rT [.int .i64,.int .i64,.int .i64,.str,.sl .i64] a1) a1n 5)),(2,(.int .i64 a2)),(3,(.int .i64 a3))],heap := [],next := 0,nt := 210,m := 0 }
def ef7ij1 : Ty56 → St := fun (t0,t1,x3,t2,t3) => { tmps := [(0,(.int .i64 t0)),(1,(.vs (.rT [.int .i64,.int .i64,.int .i64,.str,.sl .i64] t1) x3 5)),(2,(.int .i64 t2)),(3,(.int .i64 t3))],heap := [],next := 0,nt := 210,m := 0 }
def ef7ij2 : Ty56 → St := fun (t0,t1,x3,t2,t3) => { tmps := [(0,(.int .i64 t0)),(1,(.vs (.rT [.int .i64,.int .i64,.int .i64,.str,.sl .i64] t1) x3 5)),(2,(.int .i64 t2)),(3,(.int .i64 t3)),(9,(.bool true))],heap := [],next := 0,nt := 210,m := 0 }
def ef7ij3 : Ty56 → St := fun (t0,t1,x3,t2,t3) => { tmps := [(0,(.int .i64 t0)),(1,(.vs (.rT [.int .i64,.int .i64,.int .i64,.str,.sl .i64] t1) x3 5)),(2,(.int .i64 t2)),(3,(.int .i64 t3)),(9,(.bool true)),(10,.nilp),(12,(.bool false))],heap := [],next := 0,nt := 210,m := 0 }
def f7i_1 (F : Nat) (kf7ij1 : Ty56 → Rz) : Ty56 → Rz := fun (a0,a1,a1n,a2,a3) => (kf7ij1 (a0,a1,a1n,a2,a3))
theorem f7i_1_eq (F : Nat) (Rf7ij1 : St → Rz) : ∀ v,aexec VG357i (Af7i F) (bp Try.f7 2) (ef7i_a v) (kSeq (kc VG357i Rf7ij1 sp32) (kFin VG357i none (Try.f7).results.toList)) = f7i_1 F (Rf7ij1 ∘ ef7ij1) v := by
  rintro ⟨a0,a1,a1n,a2,a3⟩; kernel_rfl
def f7i_2 (F : Nat) (kf7ij2 : Ty56 → Rz) : Ty56 → Rz := fun (t0,t1,x3,t2,t3) => (kf7ij2 (t0,t1,x3,t2,t3))
theorem f7i_2_eq (F : Nat) (Rf7ij2 : St → Rz) : ∀ v,aexec VG357i (Af7i F) (bp Try.f7 6) (ef7ij1 v) (kSeq (kc VG357i Rf7ij2 sp33) (kFin VG357i none (Try.f7).results.toList)) = f7i_2 F (Rf7ij2 ∘ ef7ij2) v := by
  rintro ⟨t0,t1,x3,t2,t3⟩; kernel_rfl
def f7i_3 (F : Nat) (kf7ij3 : Ty56 → Rz) : Ty56 → Rz := fun (t0,t1,x3,t2,t3) => (cond (!((decide (0 < t0)) && (decide (t0 < 65)))) (kf7ij3 (t0,t1,x3,t2,t3)) none)
theorem f7i_3_eq (F : Nat) (Rf7ij3 : St → Rz) : ∀ v,aexec VG357i (Af7i F) (bp Try.f7 14) (ef7ij2 v) (kSeq (kc VG357i Rf7ij3 sp34) (kFin VG357i none (Try.f7).results.toList)) = f7i_3 F (Rf7ij3 ∘ ef7ij3) v := by
  rintro ⟨t0,t1,x3,t2,t3⟩; kernel_rfl
def f7i_4 (F : Nat) : Ty56 → Rz := fun (t0,t1,x3,t2,t3) => (cond (decide (t0 < (1 : Int))) (some ((.bool true),[])) (some ((.bool (decide (t0 > (64 : Int)))),[])))
theorem f7i_4_eq (F : Nat) : ∀ v,aexec VG357i (Af7i F) (bp Try.f7 15) (ef7ij3 v) (kFin VG357i none (Try.f7).results.toList) = f7i_4 F v := by
  rintro ⟨t0,t1,x3,t2,t3⟩; kernel_rfl
def f7i_5 (F : Nat) : Ty56 → Rz := fun v => f7i_3 F (f7i_4 F) v
theorem f7i_5_eq (F : Nat) : ∀ v,aexec VG357i (Af7i F) (bp Try.f7 7) (ef7ij2 v) (kFin VG357i none (Try.f7).results.toList) = f7i_5 F v :=
  seq_cut (by kernel_rfl) (by kernel_rfl) ef7ij2 ef7ij3 _ (fun k => f7i_3 F k) (f7i_4 F)
    (fun Rf7ij3 => f7i_3_eq F Rf7ij3) (f7i_4_eq F)
def f7i_6 (F : Nat) : Ty56 → Rz := fun v => f7i_2 F (f7i_5 F) v
theorem f7i_6_eq (F : Nat) : ∀ v,aexec VG357i (Af7i F) (bp Try.f7 3) (ef7ij1 v) (kFin VG357i none (Try.f7).results.toList) = f7i_6 F v :=
  seq_cut (by kernel_rfl) (by kernel_rfl) ef7ij1 ef7ij2 _ (fun k => f7i_2 F k) (f7i_5 F)
    (fun Rf7ij2 => f7i_2_eq F Rf7ij2) (f7i_5_eq F)
def f7i_7 (F : Nat) : Ty56 → Rz := fun v => f7i_1 F (f7i_6 F) v
theorem f7i_7_eq (F : Nat) : ∀ v,aexec VG357i (Af7i F) (sub (bodyOf Try.f7) []) (ef7i_a v) (kFin VG357i none (Try.f7).results.toList) = f7i_7 F v :=
  seq_cut (by kernel_rfl) (by kernel_rfl) ef7i_a ef7ij1 _ (fun k => f7i_1 F k) (f7i_6 F)
    (fun Rf7ij1 => f7i_1_eq F Rf7ij1) (f7i_6_eq F)
def f7i (F : Nat) : Ty56 → Rz := f7i_7 F
theorem f7i_body (F : Nat) (a0 : Int) (a1 : List (List (List Int))) (a1n : Nat) (a2 : Int) (a3 : Int) : abody VG357i (Af7i F) Try.f7 [(.int .i64 a0),(.vs (.rT [.int .i64,.int .i64,.int .i64,.str,.sl .i64] a1) a1n 5),(.int .i64 a2),(.int .i64 a3)] [] = f7i F (a0,a1,a1n,a2,a3) :=
  (abody_in (c := (sub (bodyOf Try.f7) [])) (by kernel_rfl) (s := ef7i_a (a0,a1,a1n,a2,a3)) (by kernel_rfl)).trans (f7i_7_eq F (a0,a1,a1n,a2,a3))
def r7i : CRun := fun X H => match X,H with
  | [(.int .i64 a0),(.vs (.rT [.int .i64,.int .i64,.int .i64,.str,.sl .i64] a1) a1n 5),(.int .i64 a2),(.int .i64 a3)],[] => some ((!((decide (0 < a0)) && (decide (a0 < 65)))),(.bool true),[])
  | _,_ => none
theorem s7i (a0 : Int) (a1 : List (List (List Int))) (a1n : Nat) (a2 : Int) (a3 : Int) (hp : ((!((decide (0 < a0)) && (decide (a0 < 65))))) = true) (h0 : okV (.int .i64 a0)) (h1 : okV (.vs (.rT [.int .i64,.int .i64,.int .i64,.str,.sl .i64] a1) a1n 5)) (h2 : okV (.int .i64 a2)) (h3 : okV (.int .i64 a3)) : ∃ F,f7i F (a0,a1,a1n,a2,a3) = some ((.bool true),[]) := by
  rw [dec_and,dec_not,decide_eq_true_iff] at hp
  refine ⟨0,?_⟩
  have e : (!(decide (0 < a0) && decide (a0 < 65))) = true := by rw [dec_and,dec_not,decide_eq_true_iff]; exact hp
  simp only [f7i,f7i_1,f7i_2,f7i_3,f7i_4,f7i_5,f7i_6,f7i_7,e,cond_true]
  by_cases h : a0 < 1
  · rw [cond_pos h]
  · rw [cond_neg h,show decide (a0 > 64) = true by simp; omega]

theorem c7i : CallOk Try.prog G35 7 r7i := callOk_of (V := VG357i) mixed tys eVG357i (f := 7) (fn := Try.f7) Try.func7 (by kernel_rfl) (c := sub (bodyOf Try.f7) []) (by kernel_rfl) (by
  intro X H r H' h hX hH
  unfold r7i at h; split at h <;> try contradiction
  · simp only [Option.some.injEq,Prod.mk.injEq] at h
    obtain ⟨hp,rfl,rfl⟩ := h
    obtain ⟨F,hF⟩ := s7i _ _ _ _ _ hp (hX _ (.head _)) (hX _ (.tail _ (.head _))) (hX _ (.tail _ (.tail _ (.head _)))) (hX _ (.tail _ (.tail _ (.tail _ (.head _)))))
    exact ⟨Af7i F,(f7i_body F _ _ _ _ _).trans hF⟩)
def lVG358i : List CEnt := [(9,[],r9),(10,[none],r10i)]
def VG358i : Env := mkEnv T35 G35 lVG358i
theorem eVG358i : EOk Try.prog VG358i := eok_mk (by exact ⟨c9,c10i,trivial⟩)
def Af8i (F : Nat) : Cuts := { F := F,at_ := fun _ => none,join := fun n => match n with | 1078 => some sp32 | 2076 => some sp33 | 3074 => some sp35 | _ => none }
def ef8i_a : Ty57 → St := fun (a0,a1,a1n,a2,a2n,a3,a3n) => { tmps := [(0,(.int .i64 a0)),(1,(.vs (.rT [.int .i64,.int .i64,.int .i64,.str,.sl .i64] a1) a1n 5)),(2,(.vs (.rT [.int .i64,.int .i64,.int .i64,.str,.sl .i64] a2) a2n 5)),(3,(.vs (.rT [.int .i64,.int .i64,.int .i64,.str,.sl .i64] a3) a3n 5))],heap := [],next := 0,nt := 131,m := 0 }
def ef8ij1 : Ty57 → St := fun (t0,t1,x3,t2,x5,t3,x7) => { tmps := [(0,(.int .i64 t0)),(1,(.vs (.rT [.int .i64,.int .i64,.int .i64,.str,.sl .i64] t1) x3 5)),(2,(.vs (.rT [.int .i64,.int .i64,.int .i64,.str,.sl .i64] t2) x5 5)),(3,(.vs (.rT [.int .i64,.int .i64,.int .i64,.str,.sl .i64] t3) x7 5))],heap := [],next := 0,nt := 131,m := 0 }
def ef8ij2 : Ty57 → St := fun (t0,t1,x3,t2,x5,t3,x7) => { tmps := [(0,(.int .i64 t0)),(1,(.vs (.rT [.int .i64,.int .i64,.int .i64,.str,.sl .i64] t1) x3 5)),(2,(.vs (.rT [.int .i64,.int .i64,.int .i64,.str,.sl .i64] t2) x5 5)),(3,(.vs (.rT [.int .i64,.int .i64,.int .i64,.str,.sl .i64] t3) x7 5)),(9,(.bool true))],heap := [],next := 0,nt := 131,m := 0 }
def ef8ij3 : Ty57 → St := fun (t0,t1,x3,t2,x5,t3,x7) => { tmps := [(0,(.int .i64 t0)),(1,(.vs (.rT [.int .i64,.int .i64,.int .i64,.str,.sl .i64] t1) x3 5)),(2,(.vs (.rT [.int .i64,.int .i64,.int .i64,.str,.sl .i64] t2) x5 5)),(3,(.vs (.rT [.int .i64,.int .i64,.int .i64,.str,.sl .i64] t3) x7 5)),(9,(.bool true)),(10,.nilp),(11,.nilp),(12,(.bool false))],heap := [],next := 0,nt := 131,m := 0 }
def f8i_1 (F : Nat) (kf8ij1 : Ty57 → Rz) : Ty57 → Rz := fun (a0,a1,a1n,a2,a2n,a3,a3n) => (kf8ij1 (a0,a1,a1n,a2,a2n,a3,a3n))
theorem f8i_1_eq (F : Nat) (Rf8ij1 : St → Rz) : ∀ v,aexec VG358i (Af8i F) (bp Try.f8 2) (ef8i_a v) (kSeq (kc VG358i Rf8ij1 sp32) (kFin VG358i none (Try.f8).results.toList)) = f8i_1 F (Rf8ij1 ∘ ef8ij1) v := by
  rintro ⟨a0,a1,a1n,a2,a2n,a3,a3n⟩; kernel_rfl
def f8i_2 (F : Nat) (kf8ij2 : Ty57 → Rz) : Ty57 → Rz := fun (t0,t1,x3,t2,x5,t3,x7) => (kf8ij2 (t0,t1,x3,t2,x5,t3,x7))
theorem f8i_2_eq (F : Nat) (Rf8ij2 : St → Rz) : ∀ v,aexec VG358i (Af8i F) (bp Try.f8 6) (ef8ij1 v) (kSeq (kc VG358i Rf8ij2 sp33) (kFin VG358i none (Try.f8).results.toList)) = f8i_2 F (Rf8ij2 ∘ ef8ij2) v := by
  rintro ⟨t0,t1,x3,t2,x5,t3,x7⟩; kernel_rfl
def f8i_3 (F : Nat) (kf8ij3 : Ty57 → Rz) : Ty57 → Rz := fun (t0,t1,x3,t2,x5,t3,x7) => (cond (!((decide (0 < t0)) && (decide (t0 < 65)))) (kf8ij3 (t0,t1,x3,t2,x5,t3,x7)) none)
theorem f8i_3_eq (F : Nat) (Rf8ij3 : St → Rz) : ∀ v,aexec VG358i (Af8i F) (bp Try.f8 14) (ef8ij2 v) (kSeq (kc VG358i Rf8ij3 sp35) (kFin VG358i none (Try.f8).results.toList)) = f8i_3 F (Rf8ij3 ∘ ef8ij3) v := by
  rintro ⟨t0,t1,x3,t2,x5,t3,x7⟩; kernel_rfl
def f8i_4 (F : Nat) : Ty57 → Rz := fun (t0,t1,x3,t2,x5,t3,x7) => (cond (decide (t0 < (1 : Int))) (some ((.bool true),[])) (some ((.bool (decide (t0 > (64 : Int)))),[])))
theorem f8i_4_eq (F : Nat) : ∀ v,aexec VG358i (Af8i F) (bp Try.f8 15) (ef8ij3 v) (kFin VG358i none (Try.f8).results.toList) = f8i_4 F v := by
  rintro ⟨t0,t1,x3,t2,x5,t3,x7⟩; kernel_rfl
def f8i_5 (F : Nat) : Ty57 → Rz := fun v => f8i_3 F (f8i_4 F) v
theorem f8i_5_eq (F : Nat) : ∀ v,aexec VG358i (Af8i F) (bp Try.f8 7) (ef8ij2 v) (kFin VG358i none (Try.f8).results.toList) = f8i_5 F v :=
  seq_cut (by kernel_rfl) (by kernel_rfl) ef8ij2 ef8ij3 _ (fun k => f8i_3 F k) (f8i_4 F)
    (fun Rf8ij3 => f8i_3_eq F Rf8ij3) (f8i_4_eq F)
def f8i_6 (F : Nat) : Ty57 → Rz := fun v => f8i_2 F (f8i_5 F) v
theorem f8i_6_eq (F : Nat) : ∀ v,aexec VG358i (Af8i F) (bp Try.f8 3) (ef8ij1 v) (kFin VG358i none (Try.f8).results.toList) = f8i_6 F v :=
  seq_cut (by kernel_rfl) (by kernel_rfl) ef8ij1 ef8ij2 _ (fun k => f8i_2 F k) (f8i_5 F)
    (fun Rf8ij2 => f8i_2_eq F Rf8ij2) (f8i_5_eq F)
def f8i_7 (F : Nat) : Ty57 → Rz := fun v => f8i_1 F (f8i_6 F) v
theorem f8i_7_eq (F : Nat) : ∀ v,aexec VG358i (Af8i F) (sub (bodyOf Try.f8) []) (ef8i_a v) (kFin VG358i none (Try.f8).results.toList) = f8i_7 F v :=
  seq_cut (by kernel_rfl) (by kernel_rfl) ef8i_a ef8ij1 _ (fun k => f8i_1 F k) (f8i_6 F)
    (fun Rf8ij1 => f8i_1_eq F Rf8ij1) (f8i_6_eq F)
def f8i (F : Nat) : Ty57 → Rz := f8i_7 F
theorem f8i_body (F : Nat) (a0 : Int) (a1 : List (List (List Int))) (a1n : Nat) (a2 : List (List (List Int))) (a2n : Nat) (a3 : List (List (List Int))) (a3n : Nat) : abody VG358i (Af8i F) Try.f8 [(.int .i64 a0),(.vs (.rT [.int .i64,.int .i64,.int .i64,.str,.sl .i64] a1) a1n 5),(.vs (.rT [.int .i64,.int .i64,.int .i64,.str,.sl .i64] a2) a2n 5),(.vs (.rT [.int .i64,.int .i64,.int .i64,.str,.sl .i64] a3) a3n 5)] [] = f8i F (a0,a1,a1n,a2,a2n,a3,a3n) :=
  (abody_in (c := (sub (bodyOf Try.f8) [])) (by kernel_rfl) (s := ef8i_a (a0,a1,a1n,a2,a2n,a3,a3n)) (by kernel_rfl)).trans (f8i_7_eq F (a0,a1,a1n,a2,a2n,a3,a3n))
def r8i : CRun := fun X H => match X,H with
  | [(.int .i64 a0),(.vs (.rT [.int .i64,.int .i64,.int .i64,.str,.sl .i64] a1) a1n 5),(.vs (.rT [.int .i64,.int .i64,.int .i64,.str,.sl .i64] a2) a2n 5),(.vs (.rT [.int .i64,.int .i64,.int .i64,.str,.sl .i64] a3) a3n 5)],[] => some ((!((decide (0 < a0)) && (decide (a0 < 65)))),(.bool true),[])
  | _,_ => none
theorem s8i (a0 : Int) (a1 : List (List (List Int))) (a1n : Nat) (a2 : List (List (List Int))) (a2n : Nat) (a3 : List (List (List Int))) (a3n : Nat) (hp : ((!((decide (0 < a0)) && (decide (a0 < 65))))) = true) (h0 : okV (.int .i64 a0)) (h1 : okV (.vs (.rT [.int .i64,.int .i64,.int .i64,.str,.sl .i64] a1) a1n 5)) (h2 : okV (.vs (.rT [.int .i64,.int .i64,.int .i64,.str,.sl .i64] a2) a2n 5)) (h3 : okV (.vs (.rT [.int .i64,.int .i64,.int .i64,.str,.sl .i64] a3) a3n 5)) : ∃ F,f8i F (a0,a1,a1n,a2,a2n,a3,a3n) = some ((.bool true),[]) := by
  rw [dec_and,dec_not,decide_eq_true_iff] at hp
  refine ⟨0,?_⟩
  have e : (!(decide (0 < a0) && decide (a0 < 65))) = true := by rw [dec_and,dec_not,decide_eq_true_iff]; exact hp
  simp only [f8i,f8i_1,f8i_2,f8i_3,f8i_4,f8i_5,f8i_6,f8i_7,e,cond_true]
  by_cases h : a0 < 1
  · rw [cond_pos h]
  · rw [cond_neg h,show decide (a0 > 64) = true by simp; omega]

theorem c8i : CallOk Try.prog G35 8 r8i := callOk_of (V := VG358i) mixed tys eVG358i (f := 8) (fn := Try.f8) Try.func8 (by kernel_rfl) (c := sub (bodyOf Try.f8) []) (by kernel_rfl) (by
  intro X H r H' h hX hH
  unfold r8i at h; split at h <;> try contradiction
  · simp only [Option.some.injEq,Prod.mk.injEq] at h
    obtain ⟨hp,rfl,rfl⟩ := h
    obtain ⟨F,hF⟩ := s8i _ _ _ _ _ _ _ hp (hX _ (.head _)) (hX _ (.tail _ (.head _))) (hX _ (.tail _ (.tail _ (.head _)))) (hX _ (.tail _ (.tail _ (.tail _ (.head _)))))
    exact ⟨Af8i F,(f8i_body F _ _ _ _ _ _ _).trans hF⟩)
end Go.Am
