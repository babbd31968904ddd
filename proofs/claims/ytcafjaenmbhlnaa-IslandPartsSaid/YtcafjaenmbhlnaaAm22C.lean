/- Part of a proof about the functions of the given program. -/
import Derived.Test.YtcafjaenmbhlnaaAm22A
import Derived.Test.YtcafjaenmbhlnaaAmIsl2
set_option linter.unusedVariables false
set_option linter.unusedSimpArgs false
namespace Go.Am
open Go Go.Proofs
abbrev sp9 : List (Nat × Md) := [(0,.plain),(1,.plain),(7,.plain),(8,.plain)]
abbrev sp10 : List (Nat × Md) := [(3,.plain),(8,.plain),(9,.plain)]
abbrev sp11 : List (Nat × Md) := [(0,.plain),(3,.plain),(9,.plain),(10,.plain),(11,.plain)]
abbrev sp12 : List (Nat × Md) := [(6,.plain),(25,.plain),(26,.plain),(27,.plain)]
abbrev Ty8 := (List Int) × Int × Int × Int
abbrev Ty9 := (List (List Int)) × (List Int)
abbrev Ty10 := (List (List Int)) × (List Int) × Int × Int
abbrev Ty11 := Int × Int × (List Int) × Int
abbrev Ty12 := Int × Int × (List Int) × Nat × Int
abbrev Ty13 := Int × (List Int) × Nat × Int
abbrev Ty14 := Int × Int × (List Int) × Nat
abbrev Ty15 := (List (List Int)) × Int × (List (List Int)) × Int × Int
abbrev Ty16 := (List (List Int)) × Int × Int × (List Int)
abbrev Ty17 := Int × (List (List Int)) × (List (List Int))
abbrev Ty18 := Int × Int × Int × (List (List Int)) × (List (List Int))
abbrev Ty19 := (List (List Int)) × (List (List Int)) × (List (List Int))
abbrev Ty20 := Int × Int × (List (List Int)) × (List (List Int)) × (List (List Int))
def lVG2263 : List CEnt := []
def VG2263 : Env := mkEnv T22 G22 lVG2263
theorem eVG2263 : EOk Try.prog VG2263 := eok_mk (by exact trivial)
def Af63 (F : Nat) : Cuts := { F := F,at_ := fun n => match n with | 2018 => some sp9 | _ => none,join := fun n => match n with | 1026 => some [(0,.plain),(1,.plain)] | 2020 => some sp9 | 7003 => some [] | _ => none }
def ef63_a : (List Int) × Int → St := fun (a0,a1) => { tmps := [(0,(.vs (.rI .i64 a0) 0 1)),(1,(.int .i64 a1))],heap := [],next := 0,nt := 19,m := 0 }
def ef63j1 : (List Int) × Int → St := fun (t0,t1) => { tmps := [(0,(.vs (.rI .i64 t0) 0 1)),(1,(.int .i64 t1))],heap := [],next := 0,nt := 19,m := 0 }
def ef63j2 : Ty8 → St := fun (t0,t1,t7,t8) => { tmps := [(0,(.vs (.rI .i64 t0) 0 1)),(1,(.int .i64 t1)),(7,(.int .i64 t7)),(8,(.int .i64 t8))],heap := [],next := 0,nt := 19,m := 0 }
def ef63l1 : Ty8 → St := fun (t0,t1,t7,t8) => { tmps := [(0,(.vs (.rI .i64 t0) 0 1)),(1,(.int .i64 t1)),(7,(.int .i64 t7)),(8,(.int .i64 t8))],heap := [],next := 0,nt := 19,m := 0 }
def ef63j3 : Unit → St := fun _ => { tmps := [],heap := [],next := 0,nt := 19,m := 0 }
def f63_1 (F : Nat) (kf63j1 : (List Int) × Int → Rz) : (List Int) × Int → Rz := fun (a0,a1) => (kf63j1 (a0,a1))
theorem f63_1_eq (F : Nat) (Rf63j1 : St → Rz) : ∀ v,aexec VG2263 (Af63 F) (bp Try.f63 2) (ef63_a v) (kSeq (kc VG2263 Rf63j1 [(0,.plain),(1,.plain)]) (kFin VG2263 none (Try.f63).results.toList)) = f63_1 F (Rf63j1 ∘ ef63j1) v := by
  rintro ⟨a0,a1⟩; kernel_rfl
def f63_2 (F : Nat) (kf63j2 : Ty8 → Rz) (kf63j3 : Unit → Rz) : (List Int) × Int → Rz := fun (t0,t1) => (kf63j2 (t0,t1,(↑t0.length : Int),(0 : Int)))
theorem f63_2_eq (F : Nat) (Rf63j2 : St → Rz) (Rf63j3 : St → Rz) : ∀ v,aexec VG2263 (Af63 F) (bp Try.f63 12) (ef63j1 v) (kSeq (kc VG2263 Rf63j2 sp9) (kSeq (kc VG2263 Rf63j3 []) (kFin VG2263 none (Try.f63).results.toList))) = f63_2 F (Rf63j2 ∘ ef63j2) (Rf63j3 ∘ ef63j3) v := by
  rintro ⟨t0,t1⟩; kernel_rfl
def f63_3 (F : Nat) (kf63l1 : Ty8 → Rz) (kf63j3 : Unit → Rz) : Ty8 → Rz := fun (t0,t1,t7,t8) => (cond (decide (t8 < t7)) (cond ((decide (0 ≤ t8)) && (decide (t8 < (↑t0.length : Int)))) (cond (t1 == (t0.getD (Int.toNat t8) 0)) (some ((.int .i64 t8),[])) (kf63l1 (t0,t1,t7,(IntKind.i64.wrap (t8 + (1 : Int)))))) none) (kf63j3 ()))
theorem f63_3_eq (F : Nat) (Rf63l1 : St → Rz) (Rf63j3 : St → Rz) : ∀ v,aexec VG2263 (Af63 F) (bp Try.f63 52) (ef63l1 v) (kSeq (kc VG2263 Rf63l1 sp9) (kBlock 0 (kSeq (kc VG2263 Rf63j3 []) (kFin VG2263 none (Try.f63).results.toList)))) = f63_3 F (Rf63l1 ∘ ef63l1) (Rf63j3 ∘ ef63j3) v := by
  rintro ⟨t0,t1,t7,t8⟩; kernel_rfl
def f63_4_i : Ty8 → (List Int) × Int × Int × Int := fun (t0,t1,t7,t8) => (t0,t1,t7,t8)
def f63_4 (F : Nat) (kf63j3 : Unit → Rz) : Ty8 → Rz := fun v => loopN (fun k => f63_3 F k kf63j3) F (f63_4_i v)
theorem f63_4_eq (F : Nat) (Rf63j3 : St → Rz) : ∀ v,aexec VG2263 (Af63 F) (bp Try.f63 26) (ef63j2 v) (kBlock 0 (kSeq (kc VG2263 Rf63j3 []) (kFin VG2263 none (Try.f63).results.toList))) = f63_4 F (Rf63j3 ∘ ef63j3) v :=
  loop_cut (by kernel_rfl) (by kernel_rfl) ef63j2 ef63l1 _ f63_4_i (fun k => f63_3 F k (Rf63j3 ∘ ef63j3))
    (by rintro ⟨t0,t1,t7,t8⟩; kernel_rfl) (fun Rf63l1 => f63_3_eq F Rf63l1 Rf63j3)
def f63_5 (F : Nat) (kf63j3 : Unit → Rz) : Ty8 → Rz := f63_4 F kf63j3
theorem f63_5_eq (F : Nat) (Rf63j3 : St → Rz) : ∀ v,aexec VG2263 (Af63 F) (bp Try.f63 13) (ef63j2 v) (kSeq (kc VG2263 Rf63j3 []) (kFin VG2263 none (Try.f63).results.toList)) = f63_5 F (Rf63j3 ∘ ef63j3) v := fun v =>
  (block_in  (by kernel_rfl) _ _).trans (f63_4_eq F Rf63j3 v)
def f63_6 (F : Nat) (kf63j3 : Unit → Rz) : (List Int) × Int → Rz := fun v => f63_2 F (f63_5 F kf63j3) kf63j3 v
theorem f63_6_eq (F : Nat) (Rf63j3 : St → Rz) : ∀ v,aexec VG2263 (Af63 F) (bp Try.f63 6) (ef63j1 v) (kSeq (kc VG2263 Rf63j3 []) (kFin VG2263 none (Try.f63).results.toList)) = f63_6 F (Rf63j3 ∘ ef63j3) v :=
  seq_cut (by kernel_rfl) (by kernel_rfl) ef63j1 ef63j2 _ (fun k => f63_2 F k (Rf63j3 ∘ ef63j3)) (f63_5 F (Rf63j3 ∘ ef63j3))
    (fun Rf63j2 => f63_2_eq F Rf63j2 Rf63j3) (f63_5_eq F Rf63j3)
def f63_7 (F : Nat) : Unit → Rz := fun _ => (some ((.int .i64 (-1 : Int)),[]))
theorem f63_7_eq (F : Nat) : ∀ v,aexec VG2263 (Af63 F) (bp Try.f63 7) (ef63j3 v) (kFin VG2263 none (Try.f63).results.toList) = f63_7 F v := by
  intro _; kernel_rfl
def f63_8 (F : Nat) : (List Int) × Int → Rz := fun v => f63_6 F (f63_7 F) v
theorem f63_8_eq (F : Nat) : ∀ v,aexec VG2263 (Af63 F) (bp Try.f63 3) (ef63j1 v) (kFin VG2263 none (Try.f63).results.toList) = f63_8 F v :=
  seq_cut (by kernel_rfl) (by kernel_rfl) ef63j1 ef63j3 _ (fun k => f63_6 F k) (f63_7 F)
    (fun Rf63j3 => f63_6_eq F Rf63j3) (f63_7_eq F)
def f63_9 (F : Nat) : (List Int) × Int → Rz := fun v => f63_1 F (f63_8 F) v
theorem f63_9_eq (F : Nat) : ∀ v,aexec VG2263 (Af63 F) (sub (bodyOf Try.f63) []) (ef63_a v) (kFin VG2263 none (Try.f63).results.toList) = f63_9 F v :=
  seq_cut (by kernel_rfl) (by kernel_rfl) ef63_a ef63j1 _ (fun k => f63_1 F k) (f63_8 F)
    (fun Rf63j1 => f63_1_eq F Rf63j1) (f63_8_eq F)
def f63 (F : Nat) : (List Int) × Int → Rz := f63_9 F
theorem f63_body (F : Nat) (a0 : List Int) (a1 : Int) : abody VG2263 (Af63 F) Try.f63 [(.vs (.rI .i64 a0) 0 1),(.int .i64 a1)] [] = f63 F (a0,a1) :=
  (abody_in (c := (sub (bodyOf Try.f63) [])) (by kernel_rfl) (s := ef63_a (a0,a1)) (by kernel_rfl)).trans (f63_9_eq F (a0,a1))
def r63 : CRun := fun X H => match X,H with
  | [(.vs (.rI .i64 a0) 0 1),(.int .i64 a1)],[] => some (true,(.int .i64 (Reg.idx (fun y => y == a1) a0)),[])
  | _,_ => none
theorem s63 (a0 : List Int) (a1 : Int) (h0 : okV (.vs (.rI .i64 a0) 0 1)) (h1 : okV (.int .i64 a1)) : ∃ F,f63 F (a0,a1) = some ((.int .i64 (Reg.idx (fun y => y == a1) a0)),[]) := by
  have hlen : a0.length < 4611686018427387904 := h0.2
  refine ⟨a0.length + 1,?_⟩
  simp only [f63,f63_9,f63_1,f63_8,f63_6,f63_2,f63_5,f63_4,f63_4_i]
  have hb : a0.length < 4611686018427387904 := hlen
  refine (loopN_scan (fun i => (a0,a1,(a0.length : Int),(i : Int))) a0.length (fun i => if (a1 == (a0.getD i 0)) = true then some (some (AV.int .i64 (i : Int),[])) else none) (some (AV.int .i64 (-1),[])) (by rfl) (fun i hi k => ?_) (fun k => ?_) _ (by omega)).trans ?_
  · simp only [f63_3,dec_and]
    rw [cond_pos (by omega),cond_pos (by omega),Int.toNat_natCast,i64w (by omega) (by omega)]
    cases (a1 == a0.getD i 0) <;> rfl
  · simp only [f63_3]
    rw [cond_neg (by omega)]
    rfl
  · rw [scan_idx (fun x => (a1 == x)) a0 0 (fun i => some (AV.int .i64 (i : Int),[]))]
    have e : (fun x : Int => a1 == x) = fun x => x == a1 := funext fun x => Bool.beq_comm
    rw [e]
    unfold Reg.idx
    cases a0.findIdx? _ <;> rfl
theorem c63 : CallOk Try.prog G22 63 r63 := callOk_of (V := VG2263) mixed tys eVG2263 (f := 63) (fn := Try.f63) Try.func63 (by kernel_rfl) (c := sub (bodyOf Try.f63) []) (by kernel_rfl) (by
  intro X H r H' h hX hH
  unfold r63 at h; split at h <;> try contradiction
  · simp only [Option.some.injEq,Prod.mk.injEq] at h
    obtain ⟨hp,rfl,rfl⟩ := h
    obtain ⟨F,hF⟩ := s63 _ _ (hX _ (.head _)) (hX _ (.tail _ (.head _)))
    exact ⟨Af63 F,(f63_body F _ _).trans hF⟩)
def lVG2249 : List CEnt := [(63,[some 3,none],r63)]
def VG2249 : Env := mkEnv T22 G22 lVG2249
theorem eVG2249 : EOk Try.prog VG2249 := eok_mk (by exact ⟨c63,trivial⟩)
def Af49 (F : Nat) : Cuts := { F := F,at_ := fun _ => none,join := fun _ => none }
def ef49_a : (List Int) × Int → St := fun (a0,a1) => { tmps := [(0,(.vs (.rI .i64 a0) 0 1)),(1,(.int .i64 a1))],heap := [],next := 0,nt := 9,m := 0 }
def f49_1 (F : Nat) : (List Int) × Int → Rz := fun (a0,a1) => (some ((.bool (decide ((Reg.idx (fun y => y == a1) a0) ≥ (0 : Int)))),[]))
theorem f49_1_eq (F : Nat) : ∀ v,aexec VG2249 (Af49 F) (sub (bodyOf Try.f49) []) (ef49_a v) (kFin VG2249 none (Try.f49).results.toList) = f49_1 F v := by
  rintro ⟨a0,a1⟩; kernel_rfl
def f49 (F : Nat) : (List Int) × Int → Rz := f49_1 F
theorem f49_body (F : Nat) (a0 : List Int) (a1 : Int) : abody VG2249 (Af49 F) Try.f49 [(.vs (.rI .i64 a0) 0 1),(.int .i64 a1)] [] = f49 F (a0,a1) :=
  (abody_in (c := (sub (bodyOf Try.f49) [])) (by kernel_rfl) (s := ef49_a (a0,a1)) (by kernel_rfl)).trans (f49_1_eq F (a0,a1))
def r49 : CRun := fun X H => match X,H with
  | [(.vs (.rI .i64 a0) 0 1),(.int .i64 a1)],[] => some (true,(.bool (a0.any (fun y => y == a1))),[])
  | _,_ => none
theorem s49 (a0 : List Int) (a1 : Int) (h0 : okV (.vs (.rI .i64 a0) 0 1)) (h1 : okV (.int .i64 a1)) : ∃ F,f49 F (a0,a1) = some ((.bool (a0.any (fun y => y == a1))),[]) := ⟨0,by simp only [f49,f49_1,Reg.idx_neg]⟩
theorem c49 : CallOk Try.prog G22 49 r49 := callOk_of (V := VG2249) mixed tys eVG2249 (f := 49) (fn := Try.f49) Try.func49 (by kernel_rfl) (c := sub (bodyOf Try.f49) []) (by kernel_rfl) (by
  intro X H r H' h hX hH
  unfold r49 at h; split at h <;> try contradiction
  · simp only [Option.some.injEq,Prod.mk.injEq] at h
    obtain ⟨hp,rfl,rfl⟩ := h
    obtain ⟨F,hF⟩ := s49 _ _ (hX _ (.head _)) (hX _ (.tail _ (.head _)))
    exact ⟨Af49 F,(f49_body F _ _).trans hF⟩)
def lVG2248 : List CEnt := [(49,[some 3,none],r49)]
def VG2248 : Env := mkEnv T22 G22 lVG2248
theorem eVG2248 : EOk Try.prog VG2248 := eok_mk (by exact ⟨c49,trivial⟩)
def Af48 (F : Nat) : Cuts := { F := F,at_ := fun _ => none,join := fun _ => none }
def ef48_a : (List Int) × (List Int) → St := fun (a0,a1) => { tmps := [(0,(.vs (.rI .i64 a0) 0 1)),(1,(.gp (.rI .i64 a1) 1 0 0 0 1))],heap := [],next := 0,nt := 7,m := 0 }
def f48_1 (F : Nat) : (List Int) × (List Int) → Rz := fun (a0,a1) => (some ((.bool (a0.any (fun y => y == (a1.getD 0 0)))),[]))
theorem f48_1_eq (F : Nat) : ∀ v,aexec VG2248 (Af48 F) (sub (bodyOf Try.f48) []) (ef48_a v) (kFin VG2248 none (Try.f48).results.toList) = f48_1 F v := by
  rintro ⟨a0,a1⟩; kernel_rfl
def f48 (F : Nat) : (List Int) × (List Int) → Rz := f48_1 F
theorem f48_body (F : Nat) (a0 : List Int) (a1 : List Int) : abody VG2248 (Af48 F) Try.f48 [(.vs (.rI .i64 a0) 0 1),(.gp (.rI .i64 a1) 1 0 0 0 1)] [] = f48 F (a0,a1) :=
  (abody_in (c := (sub (bodyOf Try.f48) [])) (by kernel_rfl) (s := ef48_a (a0,a1)) (by kernel_rfl)).trans (f48_1_eq F (a0,a1))
def r48 : CRun := fun X H => match X,H with
  | [(.vs (.rI .i64 a0) 0 1),(.gp (.rI .i64 a1) 1 0 0 0 1)],[] => some (true,(.bool (a0.any (fun y => y == a1.getD 0 0))),[])
  | _,_ => none
theorem s48 (a0 : List Int) (a1 : List Int) (h0 : okV (.vs (.rI .i64 a0) 0 1)) : ∃ F,f48 F (a0,a1) = some ((.bool (a0.any (fun y => y == a1.getD 0 0))),[]) := ⟨0,rfl⟩
theorem c48 : CallOk Try.prog G22 48 r48 := callOk_of (V := VG2248) mixed tys eVG2248 (f := 48) (fn := Try.f48) Try.func48 (by kernel_rfl) (c := sub (bodyOf Try.f48) []) (by kernel_rfl) (by
  intro X H r H' h hX hH
  unfold r48 at h; split at h <;> try contradiction
  · simp only [Option.some.injEq,Prod.mk.injEq] at h
    obtain ⟨hp,rfl,rfl⟩ := h
    obtain ⟨F,hF⟩ := s48 _ _ (hX _ (.head _))
    exact ⟨Af48 F,(f48_body F _ _).trans hF⟩)
def lVG2247 : List CEnt := [(48,[some 3,none],r48)]
def VG2247 : Env := mkEnv T22 G22 lVG2247
theorem eVG2247 : EOk Try.prog VG2247 := eok_mk (by exact ⟨c48,trivial⟩)
def Af47 (F : Nat) : Cuts := { F := F,at_ := fun n => match n with | 2018 => some sp9 | _ => none,join := fun n => match n with | 1026 => some [(0,.plain),(1,.plain)] | 2020 => some sp9 | 7003 => some [] | _ => none }
def ef47_a : Ty9 → St := fun (a0,a1) => { tmps := [(0,(.vs (.rL .i64 a0) 0 1)),(1,(.fn 48 (.cons 0 (.gp (.rI .i64 a1) 1 0 0 0 1) .nil)))],heap := [],next := 0,nt := 19,m := 0 }
def ef47j1 : Ty9 → St := fun (t0,x2) => { tmps := [(0,(.vs (.rL .i64 t0) 0 1)),(1,(.fn 48 (.cons 0 (.gp (.rI .i64 x2) 1 0 0 0 1) .nil)))],heap := [],next := 0,nt := 19,m := 0 }
def ef47j2 : Ty10 → St := fun (t0,x2,t7,t8) => { tmps := [(0,(.vs (.rL .i64 t0) 0 1)),(1,(.fn 48 (.cons 0 (.gp (.rI .i64 x2) 1 0 0 0 1) .nil))),(7,(.int .i64 t7)),(8,(.int .i64 t8))],heap := [],next := 0,nt := 19,m := 0 }
def ef47l1 : Ty10 → St := fun (t0,x2,t7,t8) => { tmps := [(0,(.vs (.rL .i64 t0) 0 1)),(1,(.fn 48 (.cons 0 (.gp (.rI .i64 x2) 1 0 0 0 1) .nil))),(7,(.int .i64 t7)),(8,(.int .i64 t8))],heap := [],next := 0,nt := 19,m := 0 }
def ef47j3 : Unit → St := fun _ => { tmps := [],heap := [],next := 0,nt := 19,m := 0 }
def f47_1 (F : Nat) (kf47j1 : Ty9 → Rz) : Ty9 → Rz := fun (a0,a1) => (kf47j1 (a0,a1))
theorem f47_1_eq (F : Nat) (Rf47j1 : St → Rz) : ∀ v,aexec VG2247 (Af47 F) (bp Try.f47 2) (ef47_a v) (kSeq (kc VG2247 Rf47j1 [(0,.plain),(1,.plain)]) (kFin VG2247 none (Try.f47).results.toList)) = f47_1 F (Rf47j1 ∘ ef47j1) v := by
  rintro ⟨a0,a1⟩; kernel_rfl
def f47_2 (F : Nat) (kf47j2 : Ty10 → Rz) (kf47j3 : Unit → Rz) : Ty9 → Rz := fun (t0,x2) => (kf47j2 (t0,x2,(↑t0.length : Int),(0 : Int)))
theorem f47_2_eq (F : Nat) (Rf47j2 : St → Rz) (Rf47j3 : St → Rz) : ∀ v,aexec VG2247 (Af47 F) (bp Try.f47 12) (ef47j1 v) (kSeq (kc VG2247 Rf47j2 sp9) (kSeq (kc VG2247 Rf47j3 []) (kFin VG2247 none (Try.f47).results.toList))) = f47_2 F (Rf47j2 ∘ ef47j2) (Rf47j3 ∘ ef47j3) v := by
  rintro ⟨t0,x2⟩; kernel_rfl
def f47_3 (F : Nat) (kf47l1 : Ty10 → Rz) (kf47j3 : Unit → Rz) : Ty10 → Rz := fun (t0,x2,t7,t8) => (cond (decide (t8 < t7)) (cond ((decide (0 ≤ t8)) && (decide (t8 < (↑t0.length : Int)))) (cond ((t0.getD (Int.toNat t8) []).any (fun y => y == x2.getD 0 0)) (some ((.int .i64 t8),[])) (kf47l1 (t0,x2,t7,(IntKind.i64.wrap (t8 + (1 : Int)))))) none) (kf47j3 ()))
theorem f47_3_eq (F : Nat) (Rf47l1 : St → Rz) (Rf47j3 : St → Rz) : ∀ v,aexec VG2247 (Af47 F) (bp Try.f47 52) (ef47l1 v) (kSeq (kc VG2247 Rf47l1 sp9) (kBlock 0 (kSeq (kc VG2247 Rf47j3 []) (kFin VG2247 none (Try.f47).results.toList)))) = f47_3 F (Rf47l1 ∘ ef47l1) (Rf47j3 ∘ ef47j3) v := by
  rintro ⟨t0,x2,t7,t8⟩; kernel_rfl
def f47_4_i : Ty10 → (List (List Int)) × (List Int) × Int × Int := fun (t0,x2,t7,t8) => (t0,x2,t7,t8)
def f47_4 (F : Nat) (kf47j3 : Unit → Rz) : Ty10 → Rz := fun v => loopN (fun k => f47_3 F k kf47j3) F (f47_4_i v)
theorem f47_4_eq (F : Nat) (Rf47j3 : St → Rz) : ∀ v,aexec VG2247 (Af47 F) (bp Try.f47 26) (ef47j2 v) (kBlock 0 (kSeq (kc VG2247 Rf47j3 []) (kFin VG2247 none (Try.f47).results.toList))) = f47_4 F (Rf47j3 ∘ ef47j3) v :=
  loop_cut (by kernel_rfl) (by kernel_rfl) ef47j2 ef47l1 _ f47_4_i (fun k => f47_3 F k (Rf47j3 ∘ ef47j3))
    (by rintro ⟨t0,x2,t7,t8⟩; kernel_rfl) (fun Rf47l1 => f47_3_eq F Rf47l1 Rf47j3)
def f47_5 (F : Nat) (kf47j3 : Unit → Rz) : Ty10 → Rz := f47_4 F kf47j3
theorem f47_5_eq (F : Nat) (Rf47j3 : St → Rz) : ∀ v,aexec VG2247 (Af47 F) (bp Try.f47 13) (ef47j2 v) (kSeq (kc VG2247 Rf47j3 []) (kFin VG2247 none (Try.f47).results.toList)) = f47_5 F (Rf47j3 ∘ ef47j3) v := fun v =>
  (block_in  (by kernel_rfl) _ _).trans (f47_4_eq F Rf47j3 v)
def f47_6 (F : Nat) (kf47j3 : Unit → Rz) : Ty9 → Rz := fun v => f47_2 F (f47_5 F kf47j3) kf47j3 v
theorem f47_6_eq (F : Nat) (Rf47j3 : St → Rz) : ∀ v,aexec VG2247 (Af47 F) (bp Try.f47 6) (ef47j1 v) (kSeq (kc VG2247 Rf47j3 []) (kFin VG2247 none (Try.f47).results.toList)) = f47_6 F (Rf47j3 ∘ ef47j3) v :=
  seq_cut (by kernel_rfl) (by kernel_rfl) ef47j1 ef47j2 _ (fun k => f47_2 F k (Rf47j3 ∘ ef47j3)) (f47_5 F (Rf47j3 ∘ ef47j3))
    (fun Rf47j2 => f47_2_eq F Rf47j2 Rf47j3) (f47_5_eq F Rf47j3)
def f47_7 (F : Nat) : Unit → Rz := fun _ => (some ((.int .i64 (-1 : Int)),[]))
theorem f47_7_eq (F : Nat) : ∀ v,aexec VG2247 (Af47 F) (bp Try.f47 7) (ef47j3 v) (kFin VG2247 none (Try.f47).results.toList) = f47_7 F v := by
  intro _; kernel_rfl
def f47_8 (F : Nat) : Ty9 → Rz := fun v => f47_6 F (f47_7 F) v
theorem f47_8_eq (F : Nat) : ∀ v,aexec VG2247 (Af47 F) (bp Try.f47 3) (ef47j1 v) (kFin VG2247 none (Try.f47).results.toList) = f47_8 F v :=
  seq_cut (by kernel_rfl) (by kernel_rfl) ef47j1 ef47j3 _ (fun k => f47_6 F k) (f47_7 F)
    (fun Rf47j3 => f47_6_eq F Rf47j3) (f47_7_eq F)
def f47_9 (F : Nat) : Ty9 → Rz := fun v => f47_1 F (f47_8 F) v
theorem f47_9_eq (F : Nat) : ∀ v,aexec VG2247 (Af47 F) (sub (bodyOf Try.f47) []) (ef47_a v) (kFin VG2247 none (Try.f47).results.toList) = f47_9 F v :=
  seq_cut (by kernel_rfl) (by kernel_rfl) ef47_a ef47j1 _ (fun k => f47_1 F k) (f47_8 F)
    (fun Rf47j1 => f47_1_eq F Rf47j1) (f47_8_eq F)
def f47 (F : Nat) : Ty9 → Rz := f47_9 F
theorem f47_body (F : Nat) (a0 : List (List Int)) (a1 : List Int) : abody VG2247 (Af47 F) Try.f47 [(.vs (.rL .i64 a0) 0 1),(.fn 48 (.cons 0 (.gp (.rI .i64 a1) 1 0 0 0 1) .nil))] [] = f47 F (a0,a1) :=
  (abody_in (c := (sub (bodyOf Try.f47) [])) (by kernel_rfl) (s := ef47_a (a0,a1)) (by kernel_rfl)).trans (f47_9_eq F (a0,a1))
def r47 : CRun := fun X H => match X,H with
  | [(.vs (.rL .i64 a0) 0 1),(.fn 48 (.cons 0 (.gp (.rI .i64 a1) 1 0 0 0 1) .nil))],[] => some (true,(.int .i64 (Isl.idxL (a1.getD 0 0) a0)),[])
  | _,_ => none
theorem s47 (a0 : List (List Int)) (a1 : List Int) (h0 : okV (.vs (.rL .i64 a0) 0 1)) : ∃ F,f47 F (a0,a1) = some ((.int .i64 (Isl.idxL (a1.getD 0 0) a0)),[]) := by
  have hlen := h0.2
  obtain ⟨x,ex⟩ : ∃ x,a1.getD 0 0 = x := ⟨_,rfl⟩
  rw [ex]
  refine ⟨a0.length + 1,?_⟩
  simp only [f47_1,f47_2,f47_4_i,f47_4,f47_5,f47_6,f47_7,f47_8,f47_9,f47]
  have hb : a0.length < 4611686018427387904 := hlen
  refine (loopN_scan (fun i => (a0,a1,(a0.length : Int),(i : Int))) a0.length (fun i => if ((a0.getD i []).any (fun y => y == x)) = true then some (some (AV.int .i64 (i : Int),[])) else none) (some (AV.int .i64 (-1),[])) (by rfl) (fun i hi k => ?_) (fun k => ?_) _ (by omega)).trans ?_
  · simp only [f47_3,dec_and,ex]
    rw [cond_pos (by omega),cond_pos (by omega),Int.toNat_natCast,i64w (by omega) (by omega)]
    cases ((a0.getD i []).any (fun y => y == x)) <;> rfl
  · simp only [f47_3]
    rw [cond_neg (by omega)]
    rfl
  · rw [scan_idx (fun g : List Int => g.any (fun y => y == x)) a0 [] (fun i => some (AV.int .i64 (i : Int),[]))]
    unfold Isl.idxL Reg.idx
    cases a0.findIdx? _ <;> rfl
theorem c47 : CallOk Try.prog G22 47 r47 := callOk_of (V := VG2247) mixed tys eVG2247 (f := 47) (fn := Try.f47) Try.func47 (by kernel_rfl) (c := sub (bodyOf Try.f47) []) (by kernel_rfl) (by
  intro X H r H' h hX hH
  unfold r47 at h; split at h <;> try contradiction
  · simp only [Option.some.injEq,Prod.mk.injEq] at h
    obtain ⟨hp,rfl,rfl⟩ := h
    obtain ⟨F,hF⟩ := s47 _ _ (hX _ (.head _))
    exact ⟨Af47 F,(f47_body F _ _).trans hF⟩)
def lVG2244 : List CEnt := []
def VG2244 : Env := mkEnv T22 G22 lVG2244
theorem eVG2244 : EOk Try.prog VG2244 := eok_mk (by exact trivial)
def Af44 (F : Nat) : Cuts := { F := F,at_ := fun _ => none,join := fun _ => none }
def ef44_a : Int × Int → St := fun (a0,a1) => { tmps := [(0,(.int .i64 a0)),(1,(.ptr 0 0 1 0 0 0 1))],heap := [(0,(.cells 1 (.one (.int .i64 a1)) true))],next := 1,nt := 7,m := 1 }
def f44_1 (F : Nat) : Int × Int → Rz := fun (a0,a1) => (some ((.bool (a0 == a1)),[(.cells 1 (.one (.int .i64 a1)) true)]))
theorem f44_1_eq (F : Nat) : ∀ v,aexec VG2244 (Af44 F) (sub (bodyOf Try.f44) []) (ef44_a v) (kFin VG2244 none (Try.f44).results.toList) = f44_1 F v := by
  rintro ⟨a0,a1⟩; kernel_rfl
def f44 (F : Nat) : Int × Int → Rz := f44_1 F
theorem f44_body (F : Nat) (a0 : Int) (a1 : Int) : abody VG2244 (Af44 F) Try.f44 [(.int .i64 a0),(.ptr 0 0 1 0 0 0 1)] [(.cells 1 (.one (.int .i64 a1)) true)] = f44 F (a0,a1) :=
  (abody_in (c := (sub (bodyOf Try.f44) [])) (by kernel_rfl) (s := ef44_a (a0,a1)) (by kernel_rfl)).trans (f44_1_eq F (a0,a1))
def r44 : CRun := fun X H => match X,H with
  | [(.int .i64 a0),(.ptr 0 0 1 0 0 0 1)],[(.cells 1 (.one (.int .i64 a1)) true)] => some (true,(.bool (a0 == a1)),[(.cells 1 (.one (.int .i64 a1)) true)])
  | _,_ => none
theorem s44 (a0 : Int) (a1 : Int) (h0 : okV (.int .i64 a0)) (k0 : okB (.cells 1 (.one (.int .i64 a1)) true)) : ∃ F,f44 F (a0,a1) = some ((.bool (a0 == a1)),[(.cells 1 (.one (.int .i64 a1)) true)]) := ⟨0,rfl⟩
theorem c44 : CallOk Try.prog G22 44 r44 := callOk_of (V := VG2244) mixed tys eVG2244 (f := 44) (fn := Try.f44) Try.func44 (by kernel_rfl) (c := sub (bodyOf Try.f44) []) (by kernel_rfl) (by
  intro X H r H' h hX hH
  unfold r44 at h; split at h <;> try contradiction
  · simp only [Option.some.injEq,Prod.mk.injEq] at h
    obtain ⟨hp,rfl,rfl⟩ := h
    obtain ⟨F,hF⟩ := s44 _ _ (hX _ (.head _)) (hH _ (.head _))
    exact ⟨Af44 F,(f44_body F _ _).trans hF⟩)
def lVG2262 : List CEnt := [(44,[none,none],r44)]
def VG2262 : Env := mkEnv T22 G22 lVG2262
theorem eVG2262 : EOk Try.prog VG2262 := eok_mk (by exact ⟨c44,trivial⟩)
def Af62 (F : Nat) : Cuts := { F := F,at_ := fun n => match n with | 2018 => some sp9 | _ => none,join := fun n => match n with | 1026 => some [(0,.plain),(1,.plain)] | 2020 => some sp9 | 7003 => some [] | _ => none }
def ef62_a : (List Int) × Int → St := fun (a0,a1) => { tmps := [(0,(.vs (.rI .i64 a0) 0 1)),(1,(.fn 44 (.cons 0 (.ptr 0 0 1 0 0 0 1) .nil)))],heap := [(0,(.cells 1 (.one (.int .i64 a1)) true))],next := 1,nt := 19,m := 1 }
def ef62j1 : (List Int) × Int → St := fun (t0,x2) => { tmps := [(0,(.vs (.rI .i64 t0) 0 1)),(1,(.fn 44 (.cons 0 (.ptr 0 0 1 0 0 0 1) .nil)))],heap := [(0,(.cells 1 (.one (.int .i64 x2)) true))],next := 1,nt := 19,m := 1 }
def ef62j2 : Ty8 → St := fun (t0,t7,t8,x4) => { tmps := [(0,(.vs (.rI .i64 t0) 0 1)),(1,(.fn 44 (.cons 0 (.ptr 0 0 1 0 0 0 1) .nil))),(7,(.int .i64 t7)),(8,(.int .i64 t8))],heap := [(0,(.cells 1 (.one (.int .i64 x4)) true))],next := 1,nt := 19,m := 1 }
def ef62l1 : Ty8 → St := fun (t0,t7,t8,x4) => { tmps := [(0,(.vs (.rI .i64 t0) 0 1)),(1,(.fn 44 (.cons 0 (.ptr 0 0 1 0 0 0 1) .nil))),(7,(.int .i64 t7)),(8,(.int .i64 t8))],heap := [(0,(.cells 1 (.one (.int .i64 x4)) true))],next := 1,nt := 19,m := 1 }
def ef62j3 : Int → St := fun x1 => { tmps := [],heap := [(0,(.cells 1 (.one (.int .i64 x1)) true))],next := 1,nt := 19,m := 1 }
def f62_1 (F : Nat) (kf62j1 : (List Int) × Int → Rz) : (List Int) × Int → Rz := fun (a0,a1) => (kf62j1 (a0,a1))
theorem f62_1_eq (F : Nat) (Rf62j1 : St → Rz) : ∀ v,aexec VG2262 (Af62 F) (bp Try.f62 2) (ef62_a v) (kSeq (kc VG2262 Rf62j1 [(0,.plain),(1,.plain)]) (kFin VG2262 none (Try.f62).results.toList)) = f62_1 F (Rf62j1 ∘ ef62j1) v := by
  rintro ⟨a0,a1⟩; kernel_rfl
def f62_2 (F : Nat) (kf62j2 : Ty8 → Rz) (kf62j3 : Int → Rz) : (List Int) × Int → Rz := fun (t0,x2) => (kf62j2 (t0,(↑t0.length : Int),(0 : Int),x2))
theorem f62_2_eq (F : Nat) (Rf62j2 : St → Rz) (Rf62j3 : St → Rz) : ∀ v,aexec VG2262 (Af62 F) (bp Try.f62 12) (ef62j1 v) (kSeq (kc VG2262 Rf62j2 sp9) (kSeq (kc VG2262 Rf62j3 []) (kFin VG2262 none (Try.f62).results.toList))) = f62_2 F (Rf62j2 ∘ ef62j2) (Rf62j3 ∘ ef62j3) v := by
  rintro ⟨t0,x2⟩; kernel_rfl
def f62_3 (F : Nat) (kf62l1 : Ty8 → Rz) (kf62j3 : Int → Rz) : Ty8 → Rz := fun (t0,t7,t8,x4) => (cond (decide (t8 < t7)) (cond ((decide (0 ≤ t8)) && (decide (t8 < (↑t0.length : Int)))) (cond ((t0.getD (Int.toNat t8) 0) == x4) (some ((.int .i64 t8),[(.cells 1 (.one (.int .i64 x4)) true)])) (kf62l1 (t0,t7,(IntKind.i64.wrap (t8 + (1 : Int))),x4))) none) (kf62j3 x4))
theorem f62_3_eq (F : Nat) (Rf62l1 : St → Rz) (Rf62j3 : St → Rz) : ∀ v,aexec VG2262 (Af62 F) (bp Try.f62 52) (ef62l1 v) (kSeq (kc VG2262 Rf62l1 sp9) (kBlock 0 (kSeq (kc VG2262 Rf62j3 []) (kFin VG2262 none (Try.f62).results.toList)))) = f62_3 F (Rf62l1 ∘ ef62l1) (Rf62j3 ∘ ef62j3) v := by
  rintro ⟨t0,t7,t8,x4⟩; kernel_rfl
def f62_4_i : Ty8 → (List Int) × Int × Int × Int := fun (t0,t7,t8,x4) => (t0,t7,t8,x4)
def f62_4 (F : Nat) (kf62j3 : Int → Rz) : Ty8 → Rz := fun v => loopN (fun k => f62_3 F k kf62j3) F (f62_4_i v)
theorem f62_4_eq (F : Nat) (Rf62j3 : St → Rz) : ∀ v,aexec VG2262 (Af62 F) (bp Try.f62 26) (ef62j2 v) (kBlock 0 (kSeq (kc VG2262 Rf62j3 []) (kFin VG2262 none (Try.f62).results.toList))) = f62_4 F (Rf62j3 ∘ ef62j3) v :=
  loop_cut (by kernel_rfl) (by kernel_rfl) ef62j2 ef62l1 _ f62_4_i (fun k => f62_3 F k (Rf62j3 ∘ ef62j3))
    (by rintro ⟨t0,t7,t8,x4⟩; kernel_rfl) (fun Rf62l1 => f62_3_eq F Rf62l1 Rf62j3)
def f62_5 (F : Nat) (kf62j3 : Int → Rz) : Ty8 → Rz := f62_4 F kf62j3
theorem f62_5_eq (F : Nat) (Rf62j3 : St → Rz) : ∀ v,aexec VG2262 (Af62 F) (bp Try.f62 13) (ef62j2 v) (kSeq (kc VG2262 Rf62j3 []) (kFin VG2262 none (Try.f62).results.toList)) = f62_5 F (Rf62j3 ∘ ef62j3) v := fun v =>
  (block_in  (by kernel_rfl) _ _).trans (f62_4_eq F Rf62j3 v)
def f62_6 (F : Nat) (kf62j3 : Int → Rz) : (List Int) × Int → Rz := fun v => f62_2 F (f62_5 F kf62j3) kf62j3 v
theorem f62_6_eq (F : Nat) (Rf62j3 : St → Rz) : ∀ v,aexec VG2262 (Af62 F) (bp Try.f62 6) (ef62j1 v) (kSeq (kc VG2262 Rf62j3 []) (kFin VG2262 none (Try.f62).results.toList)) = f62_6 F (Rf62j3 ∘ ef62j3) v :=
  seq_cut (by kernel_rfl) (by kernel_rfl) ef62j1 ef62j2 _ (fun k => f62_2 F k (Rf62j3 ∘ ef62j3)) (f62_5 F (Rf62j3 ∘ ef62j3))
    (fun Rf62j2 => f62_2_eq F Rf62j2 Rf62j3) (f62_5_eq F Rf62j3)
def f62_7 (F : Nat) : Int → Rz := fun x1 => (some ((.int .i64 (-1 : Int)),[(.cells 1 (.one (.int .i64 x1)) true)]))
theorem f62_7_eq (F : Nat) : ∀ v,aexec VG2262 (Af62 F) (bp Try.f62 7) (ef62j3 v) (kFin VG2262 none (Try.f62).results.toList) = f62_7 F v := by
  intro x1; kernel_rfl
def f62_8 (F : Nat) : (List Int) × Int → Rz := fun v => f62_6 F (f62_7 F) v
theorem f62_8_eq (F : Nat) : ∀ v,aexec VG2262 (Af62 F) (bp Try.f62 3) (ef62j1 v) (kFin VG2262 none (Try.f62).results.toList) = f62_8 F v :=
  seq_cut (by kernel_rfl) (by kernel_rfl) ef62j1 ef62j3 _ (fun k => f62_6 F k) (f62_7 F)
    (fun Rf62j3 => f62_6_eq F Rf62j3) (f62_7_eq F)
def f62_9 (F : Nat) : (List Int) × Int → Rz := fun v => f62_1 F (f62_8 F) v
theorem f62_9_eq (F : Nat) : ∀ v,aexec VG2262 (Af62 F) (sub (bodyOf Try.f62) []) (ef62_a v) (kFin VG2262 none (Try.f62).results.toList) = f62_9 F v :=
  seq_cut (by kernel_rfl) (by kernel_rfl) ef62_a ef62j1 _ (fun k => f62_1 F k) (f62_8 F)
    (fun Rf62j1 => f62_1_eq F Rf62j1) (f62_8_eq F)
def f62 (F : Nat) : (List Int) × Int → Rz := f62_9 F
theorem f62_body (F : Nat) (a0 : List Int) (a1 : Int) : abody VG2262 (Af62 F) Try.f62 [(.vs (.rI .i64 a0) 0 1),(.fn 44 (.cons 0 (.ptr 0 0 1 0 0 0 1) .nil))] [(.cells 1 (.one (.int .i64 a1)) true)] = f62 F (a0,a1) :=
  (abody_in (c := (sub (bodyOf Try.f62) [])) (by kernel_rfl) (s := ef62_a (a0,a1)) (by kernel_rfl)).trans (f62_9_eq F (a0,a1))
def r62 : CRun := fun X H => match X,H with
  | [(.vs (.rI .i64 a0) 0 1),(.fn 44 (.cons 0 (.ptr 0 0 1 0 0 0 1) .nil))],[(.cells 1 (.one (.int .i64 a1)) true)] => some (true,(.int .i64 (Reg.idx (fun y => y == a1) a0)),[(.cells 1 (.one (.int .i64 a1)) true)])
  | _,_ => none
theorem s62 (a0 : List Int) (a1 : Int) (h0 : okV (.vs (.rI .i64 a0) 0 1)) (k0 : okB (.cells 1 (.one (.int .i64 a1)) true)) : ∃ F,f62 F (a0,a1) = some ((.int .i64 (Reg.idx (fun y => y == a1) a0)),[(.cells 1 (.one (.int .i64 a1)) true)]) := by
  have hlen := h0.2
  refine ⟨a0.length + 1,?_⟩
  simp only [f62_1,f62_2,f62_4_i,f62_4,f62_5,f62_6,f62_7,f62_8,f62_9,f62]
  have hb : a0.length < 4611686018427387904 := hlen
  refine (loopN_scan (fun i => (a0,(a0.length : Int),(i : Int),a1)) a0.length (fun i => if (a0.getD i 0 == a1) = true then some (some (AV.int .i64 (i : Int),[(Blk.cells 1 (.one (.int .i64 a1)) true)])) else none) (some (AV.int .i64 (-1),[(Blk.cells 1 (.one (.int .i64 a1)) true)])) (by rfl) (fun i hi k => ?_) (fun k => ?_) _ (by omega)).trans ?_
  · simp only [f62_3,dec_and]
    rw [cond_pos (by omega),cond_pos (by omega),Int.toNat_natCast,i64w (by omega) (by omega)]
    cases (a0.getD i 0 == a1) <;> rfl
  · simp only [f62_3]
    rw [cond_neg (by omega)]
    rfl
  · rw [scan_idx (fun y => y == a1) a0 0 (fun i => some (AV.int .i64 (i : Int),[(Blk.cells 1 (.one (.int .i64 a1)) true)]))]
    unfold Reg.idx
    cases a0.findIdx? _ <;> rfl
theorem c62 : CallOk Try.prog G22 62 r62 := callOk_of (V := VG2262) mixed tys eVG2262 (f := 62) (fn := Try.f62) Try.func62 (by kernel_rfl) (c := sub (bodyOf Try.f62) []) (by kernel_rfl) (by
  intro X H r H' h hX hH
  unfold r62 at h; split at h <;> try contradiction
  · simp only [Option.some.injEq,Prod.mk.injEq] at h
    obtain ⟨hp,rfl,rfl⟩ := h
    obtain ⟨F,hF⟩ := s62 _ _ (hX _ (.head _)) (hH _ (.head _))
    exact ⟨Af62 F,(f62_body F _ _).trans hF⟩)
def lVG2242 : List CEnt := [(44,[none,none],r44),(62,[some 3,none],r62)]
def VG2242 : Env := mkEnv T22 G22 lVG2242
theorem eVG2242 : EOk Try.prog VG2242 := eok_mk (by exact ⟨c44,c62,trivial⟩)
def Af42 (F : Nat) : Cuts := { F := F,at_ := fun n => match n with | 5018 => some sp3 | _ => none,join := fun n => match n with | 1038 => some [(0,.plain),(1,.plain)] | 2036 => some sp2 | 4028 => some sp2 | 5020 => some sp3 | 11005 => some [(0,.plain),(5,.plain)] | _ => none,fin := (some [(4,(.view 3))]) }
def ef42_a : (List Int) × Int → St := fun (a0,a1) => { tmps := [(0,(.own 0 0 1)),(1,(.fn 44 (.cons 0 (.ptr 1 0 1 0 0 0 1) .nil)))],heap := [(0,(.cells a0.length (.rI .i64 a0) true)),(1,(.cells 1 (.one (.int .i64 a1)) true))],next := 2,nt := 42,m := 2 }
def ef42j1 : (List Int) × Int → St := fun (x1,x2) => { tmps := [(0,(.own 0 0 1)),(1,(.fn 44 (.cons 0 (.ptr 1 0 1 0 0 0 1) .nil)))],heap := [(0,(.cells x1.length (.rI .i64 x1) true)),(1,(.cells 1 (.one (.int .i64 x2)) true))],next := 2,nt := 42,m := 2 }
def ef42j2 : Int × (List Int) × Int → St := fun (t5,x2,x3) => { tmps := [(0,(.own 0 0 1)),(1,(.fn 44 (.cons 0 (.ptr 1 0 1 0 0 0 1) .nil))),(5,(.int .i64 t5))],heap := [(0,(.cells x2.length (.rI .i64 x2) true)),(1,(.cells 1 (.one (.int .i64 x3)) true))],next := 2,nt := 42,m := 2 }
def ef42j3 : Int × (List Int) × Int → St := fun (t5,x2,x3) => { tmps := [(0,(.own 0 0 1)),(1,(.fn 44 (.cons 0 (.ptr 1 0 1 0 0 0 1) .nil))),(5,(.int .i64 t5))],heap := [(0,(.cells x2.length (.rI .i64 x2) true)),(1,(.cells 1 (.one (.int .i64 x3)) true))],next := 2,nt := 42,m := 2 }
def ef42j4 : Ty11 → St := fun (t5,t6,x3,x4) => { tmps := [(0,(.own 0 0 1)),(1,(.fn 44 (.cons 0 (.ptr 1 0 1 0 0 0 1) .nil))),(5,(.int .i64 t5)),(6,(.int .i64 t6))],heap := [(0,(.cells x3.length (.rI .i64 x3) true)),(1,(.cells 1 (.one (.int .i64 x4)) true))],next := 2,nt := 42,m := 2 }
def ef42l1 : Ty12 → St := fun (t5,t6,x3,x5,x4) => { tmps := [(0,(.own 0 0 1)),(1,(.fn 44 (.cons 0 (.ptr 1 0 1 0 0 0 1) .nil))),(5,(.int .i64 t5)),(6,(.int .i64 t6))],heap := [(0,(.cells x5 (.rI .i64 x3) true)),(1,(.cells 1 (.one (.int .i64 x4)) true))],next := 2,nt := 42,m := 2 }
def ef42j5 : Ty13 → St := fun (t5,x2,x3,x4) => { tmps := [(0,(.own 0 0 1)),(5,(.int .i64 t5))],heap := [(0,(.cells x3 (.rI .i64 x2) true)),(1,(.cells 1 (.one (.int .i64 x4)) true))],next := 2,nt := 42,m := 2 }
def f42_1 (F : Nat) (kf42j1 : (List Int) × Int → Rz) : (List Int) × Int → Rz := fun (a0,a1) => (kf42j1 (a0,a1))
theorem f42_1_eq (F : Nat) (Rf42j1 : St → Rz) : ∀ v,aexec VG2242 (Af42 F) (bp Try.f42 2) (ef42_a v) (kSeq (kc VG2242 Rf42j1 [(0,.plain),(1,.plain)]) (kFin VG2242 (some [(4,(.view 3))]) (Try.f42).results.toList)) = f42_1 F (Rf42j1 ∘ ef42j1) v := by
  rintro ⟨a0,a1⟩; kernel_rfl
def f42_2 (F : Nat) (kf42j2 : Int × (List Int) × Int → Rz) : (List Int) × Int → Rz := fun (x1,x2) => (kf42j2 ((Reg.idx (fun y => y == x2) x1),x1,x2))
theorem f42_2_eq (F : Nat) (Rf42j2 : St → Rz) : ∀ v,aexec VG2242 (Af42 F) (bp Try.f42 6) (ef42j1 v) (kSeq (kc VG2242 Rf42j2 sp2) (kFin VG2242 (some [(4,(.view 3))]) (Try.f42).results.toList)) = f42_2 F (Rf42j2 ∘ ef42j2) v := by
  rintro ⟨x1,x2⟩; kernel_rfl
def f42_3 (F : Nat) (kf42j3 : Int × (List Int) × Int → Rz) : Int × (List Int) × Int → Rz := fun (t5,x2,x3) => (cond (t5 == (-1 : Int)) (some ((.vs (.rI .i64 x2) 0 1),[(.cells x2.length (.rI .i64 x2) false),(.cells 1 (.one (.int .i64 x3)) true)])) (kf42j3 (t5,x2,x3)))
theorem f42_3_eq (F : Nat) (Rf42j3 : St → Rz) : ∀ v,aexec VG2242 (Af42 F) (bp Try.f42 14) (ef42j2 v) (kSeq (kc VG2242 Rf42j3 sp2) (kFin VG2242 (some [(4,(.view 3))]) (Try.f42).results.toList)) = f42_3 F (Rf42j3 ∘ ef42j3) v := by
  rintro ⟨t5,x2,x3⟩; kernel_rfl
def f42_4 (F : Nat) (kf42j4 : Ty11 → Rz) (kf42j5 : Ty13 → Rz) : Int × (List Int) × Int → Rz := fun (t5,x2,x3) => (kf42j4 (t5,(IntKind.i64.wrap (t5 + (1 : Int))),x2,x3))
theorem f42_4_eq (F : Nat) (Rf42j4 : St → Rz) (Rf42j5 : St → Rz) : ∀ v,aexec VG2242 (Af42 F) (bp Try.f42 60) (ef42j3 v) (kSeq (kc VG2242 Rf42j4 sp3) (kSeq (kc VG2242 Rf42j5 [(0,.plain),(5,.plain)]) (kFin VG2242 (some [(4,(.view 3))]) (Try.f42).results.toList))) = f42_4 F (Rf42j4 ∘ ef42j4) (Rf42j5 ∘ ef42j5) v := by
  rintro ⟨t5,x2,x3⟩; kernel_rfl
def f42_5 (F : Nat) (kf42l1 : Ty12 → Rz) (kf42j5 : Ty13 → Rz) : Ty12 → Rz := fun (t5,t6,x3,x5,x4) => (cond (decide (t6 < (↑x3.length : Int))) (cond ((decide (0 ≤ t6)) && (decide (t6 < (↑x3.length : Int)))) (cond (!((x3.getD (Int.toNat t6) 0) == x4)) (cond ((decide (0 ≤ t5)) && (decide (t5 < (↑x3.length : Int)))) (kf42l1 ((IntKind.i64.wrap (t5 + (1 : Int))),(IntKind.i64.wrap (t6 + (1 : Int))),(x3.set (Int.toNat t5) (x3.getD (Int.toNat t6) 0)),x5,x4)) none) (kf42l1 (t5,(IntKind.i64.wrap (t6 + (1 : Int))),x3,x5,x4))) none) (kf42j5 (t5,x3,x5,x4)))
theorem f42_5_eq (F : Nat) (Rf42l1 : St → Rz) (Rf42j5 : St → Rz) : ∀ v,aexec VG2242 (Af42 F) (bp Try.f42 244) (ef42l1 v) (kSeq (kc VG2242 Rf42l1 sp3) (kBlock 0 (kSeq (kc VG2242 Rf42j5 [(0,.plain),(5,.plain)]) (kFin VG2242 (some [(4,(.view 3))]) (Try.f42).results.toList)))) = f42_5 F (Rf42l1 ∘ ef42l1) (Rf42j5 ∘ ef42j5) v := by
  rintro ⟨t5,t6,x3,x5,x4⟩; kernel_rfl
def f42_6_i : Ty11 → Int × Int × (List Int) × Nat × Int := fun (t5,t6,x3,x4) => (t5,t6,x3,x3.length,x4)
def f42_6 (F : Nat) (kf42j5 : Ty13 → Rz) : Ty11 → Rz := fun v => loopN (fun k => f42_5 F k kf42j5) F (f42_6_i v)
theorem f42_6_eq (F : Nat) (Rf42j5 : St → Rz) : ∀ v,aexec VG2242 (Af42 F) (bp Try.f42 122) (ef42j4 v) (kBlock 0 (kSeq (kc VG2242 Rf42j5 [(0,.plain),(5,.plain)]) (kFin VG2242 (some [(4,(.view 3))]) (Try.f42).results.toList))) = f42_6 F (Rf42j5 ∘ ef42j5) v :=
  loop_cut (by kernel_rfl) (by kernel_rfl) ef42j4 ef42l1 _ f42_6_i (fun k => f42_5 F k (Rf42j5 ∘ ef42j5))
    (by rintro ⟨t5,t6,x3,x4⟩; kernel_rfl) (fun Rf42l1 => f42_5_eq F Rf42l1 Rf42j5)
def f42_7 (F : Nat) (kf42j5 : Ty13 → Rz) : Ty11 → Rz := f42_6 F kf42j5
theorem f42_7_eq (F : Nat) (Rf42j5 : St → Rz) : ∀ v,aexec VG2242 (Af42 F) (bp Try.f42 61) (ef42j4 v) (kSeq (kc VG2242 Rf42j5 [(0,.plain),(5,.plain)]) (kFin VG2242 (some [(4,(.view 3))]) (Try.f42).results.toList)) = f42_7 F (Rf42j5 ∘ ef42j5) v := fun v =>
  (block_in  (by kernel_rfl) _ _).trans (f42_6_eq F Rf42j5 v)
def f42_8 (F : Nat) (kf42j5 : Ty13 → Rz) : Int × (List Int) × Int → Rz := fun v => f42_4 F (f42_7 F kf42j5) kf42j5 v
theorem f42_8_eq (F : Nat) (Rf42j5 : St → Rz) : ∀ v,aexec VG2242 (Af42 F) (bp Try.f42 30) (ef42j3 v) (kSeq (kc VG2242 Rf42j5 [(0,.plain),(5,.plain)]) (kFin VG2242 (some [(4,(.view 3))]) (Try.f42).results.toList)) = f42_8 F (Rf42j5 ∘ ef42j5) v :=
  seq_cut (by kernel_rfl) (by kernel_rfl) ef42j3 ef42j4 _ (fun k => f42_4 F k (Rf42j5 ∘ ef42j5)) (f42_7 F (Rf42j5 ∘ ef42j5))
    (fun Rf42j4 => f42_4_eq F Rf42j4 Rf42j5) (f42_7_eq F Rf42j5)
def f42_9 (F : Nat) : Ty13 → Rz := fun (t5,x2,x3,x4) => (cond (((decide (0 ≤ t5)) && (decide (t5 ≤ (↑x2.length : Int)))) && (decide ((↑x2.length : Int) ≤ (↑x2.length : Int)))) (cond ((decide ((0 : Int) ≤ t5)) && (decide (t5 ≤ (↑(x2.take (Int.toNat t5) ++ ((List.replicate (x2.length - (Int.toNat t5)) 0).take (min (x2.length - (Int.toNat t5)) (x2.length - (Int.toNat t5)))) ++ x2.drop ((Int.toNat t5) + (min (x2.length - (Int.toNat t5)) (x2.length - (Int.toNat t5))))).length : Int)))) (some ((.vs (.rI .i64 ((x2.take (Int.toNat t5) ++ ((List.replicate (x2.length - (Int.toNat t5)) 0).take (min (x2.length - (Int.toNat t5)) (x2.length - (Int.toNat t5)))) ++ x2.drop ((Int.toNat t5) + (min (x2.length - (Int.toNat t5)) (x2.length - (Int.toNat t5))))).take (Int.toNat t5))) 0 1),[(.cells x3 (.rI .i64 (x2.take (Int.toNat t5) ++ ((List.replicate (x2.length - (Int.toNat t5)) 0).take (min (x2.length - (Int.toNat t5)) (x2.length - (Int.toNat t5)))) ++ x2.drop ((Int.toNat t5) + (min (x2.length - (Int.toNat t5)) (x2.length - (Int.toNat t5)))))) false),(.cells 1 (.one (.int .i64 x4)) true)])) none) none)
theorem f42_9_eq (F : Nat) : ∀ v,aexec VG2242 (Af42 F) (bp Try.f42 31) (ef42j5 v) (kFin VG2242 (some [(4,(.view 3))]) (Try.f42).results.toList) = f42_9 F v := by
  rintro ⟨t5,x2,x3,x4⟩; kernel_rfl
def f42_10 (F : Nat) : Int × (List Int) × Int → Rz := fun v => f42_8 F (f42_9 F) v
theorem f42_10_eq (F : Nat) : ∀ v,aexec VG2242 (Af42 F) (bp Try.f42 15) (ef42j3 v) (kFin VG2242 (some [(4,(.view 3))]) (Try.f42).results.toList) = f42_10 F v :=
  seq_cut (by kernel_rfl) (by kernel_rfl) ef42j3 ef42j5 _ (fun k => f42_8 F k) (f42_9 F)
    (fun Rf42j5 => f42_8_eq F Rf42j5) (f42_9_eq F)
def f42_11 (F : Nat) : Int × (List Int) × Int → Rz := fun v => f42_3 F (f42_10 F) v
theorem f42_11_eq (F : Nat) : ∀ v,aexec VG2242 (Af42 F) (bp Try.f42 7) (ef42j2 v) (kFin VG2242 (some [(4,(.view 3))]) (Try.f42).results.toList) = f42_11 F v :=
  seq_cut (by kernel_rfl) (by kernel_rfl) ef42j2 ef42j3 _ (fun k => f42_3 F k) (f42_10 F)
    (fun Rf42j3 => f42_3_eq F Rf42j3) (f42_10_eq F)
def f42_12 (F : Nat) : (List Int) × Int → Rz := fun v => f42_2 F (f42_11 F) v
theorem f42_12_eq (F : Nat) : ∀ v,aexec VG2242 (Af42 F) (bp Try.f42 3) (ef42j1 v) (kFin VG2242 (some [(4,(.view 3))]) (Try.f42).results.toList) = f42_12 F v :=
  seq_cut (by kernel_rfl) (by kernel_rfl) ef42j1 ef42j2 _ (fun k => f42_2 F k) (f42_11 F)
    (fun Rf42j2 => f42_2_eq F Rf42j2) (f42_11_eq F)
def f42_13 (F : Nat) : (List Int) × Int → Rz := fun v => f42_1 F (f42_12 F) v
theorem f42_13_eq (F : Nat) : ∀ v,aexec VG2242 (Af42 F) (sub (bodyOf Try.f42) []) (ef42_a v) (kFin VG2242 (some [(4,(.view 3))]) (Try.f42).results.toList) = f42_13 F v :=
  seq_cut (by kernel_rfl) (by kernel_rfl) ef42_a ef42j1 _ (fun k => f42_1 F k) (f42_12 F)
    (fun Rf42j1 => f42_1_eq F Rf42j1) (f42_12_eq F)
def f42 (F : Nat) : (List Int) × Int → Rz := f42_13 F
theorem f42_body (F : Nat) (a0 : List Int) (a1 : Int) : abody VG2242 (Af42 F) Try.f42 [(.own 0 0 1),(.fn 44 (.cons 0 (.ptr 1 0 1 0 0 0 1) .nil))] [(.cells a0.length (.rI .i64 a0) true),(.cells 1 (.one (.int .i64 a1)) true)] = f42 F (a0,a1) :=
  (abody_in (c := (sub (bodyOf Try.f42) [])) (by kernel_rfl) (s := ef42_a (a0,a1)) (by kernel_rfl)).trans (f42_13_eq F (a0,a1))
def r42 : CRun := fun X H => match X,H with
  | [(.own 0 0 1),(.fn 44 (.cons 0 (.ptr 1 0 1 0 0 0 1) .nil))],[(.cells z0 (.rI .i64 a0) true),(.cells 1 (.one (.int .i64 a1)) true)] => some ((decide (a0.length < 1073740000)),(.vs (.rI .i64 (Isl.del a0 a1)) 0 1),[(.cells a0.length (.rI .i64 (Isl.delZ a0 a1)) false),(.cells 1 (.one (.int .i64 a1)) true)])
  | _,_ => none
theorem s42 (a0 : List Int) (a1 : Int) (hp : ((decide (a0.length < 1073740000))) = true) (k0 : okB (.cells a0.length (.rI .i64 a0) true)) (k1 : okB (.cells 1 (.one (.int .i64 a1)) true)) : ∃ F,f42 F (a0,a1) = some ((.vs (.rI .i64 (Isl.del a0 a1)) 0 1),[(.cells a0.length (.rI .i64 (Isl.delZ a0 a1)) false),(.cells 1 (.one (.int .i64 a1)) true)]) := by
  simp only [decide_eq_true_eq] at hp
  refine ⟨a0.length + 1,?_⟩
  simp only [f42_1,f42_2,f42_3,f42_4,f42_6_i,f42_6,f42_7,f42_8,f42_9,f42_10,f42_11,f42_12,f42_13,f42,Nat.min_self]
  have hii := Isl.idx_del a1 a0
  generalize Reg.idx (fun y => y == a1) a0 = ix at hii
  simp only [int_beq]
  rcases hii with ⟨h1,h2⟩ | ⟨j,hj,h1,h2⟩
  · rw [h1,cond_pos rfl,Isl.delZ,h2,Nat.sub_self]
    simp
  rw [h1,cond_neg (by omega),i64w (by omega) (by omega)]
  refine loopN_ind (fun m s => ∃ (t : Nat) (x : List Int),s = ((t : Int),((a0.length - m : Nat) : Int),x,a0.length,a1) ∧ m < a0.length ∧ t < a0.length - m ∧ x.length = a0.length ∧ x.take t = Isl.del (a0.take (a0.length - m)) a1 ∧ x.drop (a0.length - m) = a0.drop (a0.length - m)) ?_ _ (a0.length - (j + 1)) _ (by omega)
    ⟨j,a0,by rw [show a0.length - (a0.length - (j + 1)) = j + 1 by omega]; rfl,by omega,by omega,rfl,by rw [show a0.length - (a0.length - (j + 1)) = j + 1 by omega,h2],rfl⟩
  rintro m s k ⟨t,x,rfl,hm,ht,hx,e1,e2⟩ hk
  have htl : t = (Isl.del (a0.take (a0.length - m)) a1).length := by rw [← e1,List.length_take]; omega
  simp only [f42_5,dec_and,Int.toNat_natCast,dec_not,int_beq]
  cases m with
  | zero =>
    rw [Nat.sub_zero,List.take_length] at e1 htl
    rw [cond_neg (by omega)]
    simp only [f42_1,f42_2,f42_3,f42_4,f42_6_i,f42_6,f42_7,f42_8,f42_9,f42_10,f42_11,f42_12,f42_13,f42,dec_and,Int.toNat_natCast,Nat.min_self]
    have e3 : (List.replicate (x.length - t) (0 : Int)).take (x.length - t) = List.replicate (x.length - t) 0 := List.take_of_length_le (by simp)
    have e4 : x.drop (t + (x.length - t)) = [] := List.drop_of_length_le (by omega)
    have e5 : x.take t ++ (List.replicate (x.length - t) 0 ++ []) = Isl.delZ a0 a1 := by
      rw [e1,List.append_nil,Isl.delZ,hx,← htl]
    have e6 : (Isl.delZ a0 a1).take t = Isl.del a0 a1 := by unfold Isl.delZ; rw [htl,List.take_left]
    have e7 : (Isl.delZ a0 a1).length = a0.length := by unfold Isl.delZ; have := Isl.del_len a0 a1; simp; omega
    simp only [List.append_assoc,e3,e4,e5,e6,e7]
    rw [cond_pos (by omega),cond_pos (by omega)]
  | succ m =>
    have hi : a0.length - (m + 1) < a0.length := by omega
    have e3 : x.getD (a0.length - (m + 1)) 0 = a0.getD (a0.length - (m + 1)) 0 := by
      have := congrArg (fun l => l.getD 0 0) e2
      simpa [List.getD_eq_getElem?_getD,List.getElem?_drop] using this
    have hs := Isl.del_succ (l := a0) (i := a0.length - (m + 1)) a1 hi
    rw [show a0.length - (m + 1) + 1 = a0.length - m by omega] at hs
    have hd : ∀ y : List Int,y.drop (a0.length - m) = (y.drop (a0.length - (m + 1))).drop 1 := fun y => by rw [List.drop_drop]; congr 1; omega
    rw [cond_pos (by omega),cond_pos (by omega),e3]
    have hc : ((a0.length - (m + 1) : Nat) : Int) + 1 = ((a0.length - m : Nat) : Int) := by omega
    by_cases h : a0.getD (a0.length - (m + 1)) 0 = a1
    · rw [cond_neg (fun hn => hn h),i64w (by omega) (by omega),hc]
      refine hk m _ (by omega) ⟨t,x,rfl,by omega,by omega,hx,?_,?_⟩
      · rw [hs,if_pos h,List.append_nil]; exact e1
      · rw [hd,hd,e2]
    · rw [cond_pos h,cond_pos (by omega),i64w (by omega) (by omega),i64w (by omega) (by omega),hc,show (t : Int) + 1 = ((t + 1 : Nat) : Int) by omega]
      refine hk m _ (by omega) ⟨t + 1,_,rfl,by omega,by omega,by simp; exact hx,?_,?_⟩
      · rw [Isl.take_set (by omega),e1,hs,if_neg h]
      · rw [Isl.drop_set (by omega),hd,hd,e2]
theorem c42 : CallOk Try.prog G22 42 r42 := callOk_of (V := VG2242) mixed tys eVG2242 (f := 42) (fn := Try.f42) Try.func42 (by kernel_rfl) (c := sub (bodyOf Try.f42) []) (by kernel_rfl) (by
  intro X H r H' h hX hH
  unfold r42 at h; split at h <;> try contradiction
  · simp only [Option.some.injEq,Prod.mk.injEq] at h
    obtain ⟨hp,rfl,rfl⟩ := h
    obtain rfl := okB_size (hH _ (.head _)) rfl
    obtain ⟨F,hF⟩ := s42 _ _ hp (hH _ (.head _)) (hH _ (.tail _ (.head _)))
    exact ⟨Af42 F,(f42_body F _ _).trans hF⟩)
def lVG2243 : List CEnt := []
def VG2243 : Env := mkEnv T22 G22 lVG2243
theorem eVG2243 : EOk Try.prog VG2243 := eok_mk (by exact trivial)
def Af43p (F : Nat) : Cuts := { F := F,at_ := fun _ => none,join := fun _ => none,fin := (some [(2,(.own 3))]) }
def ef43p_a : (List Int) → St := fun a0 => { tmps := [(0,(.vs (.rI .i64 a0) 2 1))],heap := [],next := 0,nt := 8,m := 0 }
def f43p_1 (F : Nat) : (List Int) → Rz := fun a0 => (cond (decide ((0 + a0.length) < 1073741824)) (some ((.own 0 0 1),[(.cells ([] ++ a0).length (.rI .i64 ([] ++ a0)) true)])) none)
theorem f43p_1_eq (F : Nat) : ∀ v,aexec VG2243 (Af43p F) (sub (bodyOf Try.f43) []) (ef43p_a v) (kFin VG2243 (some [(2,(.own 3))]) (Try.f43).results.toList) = f43p_1 F v := by
  intro a0; kernel_rfl
def f43p (F : Nat) : (List Int) → Rz := f43p_1 F
theorem f43p_body (F : Nat) (a0 : List Int) : abody VG2243 (Af43p F) Try.f43 [(.vs (.rI .i64 a0) 2 1)] [] = f43p F a0 :=
  (abody_in (c := (sub (bodyOf Try.f43) [])) (by kernel_rfl) (s := ef43p_a a0) (by kernel_rfl)).trans (f43p_1_eq F a0)
def Af43z (F : Nat) : Cuts := { F := F,at_ := fun _ => none,join := fun _ => none,fin := (some [(2,(.own 3))]) }
def ef43z_a : Unit → St := fun _ => { tmps := [(0,(.vs (.rI .i64 []) 3 1))],heap := [],next := 0,nt := 8,m := 0 }
def f43z_1 (F : Nat) : Unit → Rz := fun _ => (some ((.own 0 0 1),[(.cells 0 (.rI .i64 []) true)]))
theorem f43z_1_eq (F : Nat) : ∀ v,aexec VG2243 (Af43z F) (sub (bodyOf Try.f43) []) (ef43z_a v) (kFin VG2243 (some [(2,(.own 3))]) (Try.f43).results.toList) = f43z_1 F v := by
  intro _; kernel_rfl
def f43z (F : Nat) : Unit → Rz := f43z_1 F
theorem f43z_body (F : Nat)  : abody VG2243 (Af43z F) Try.f43 [(.vs (.rI .i64 []) 3 1)] [] = f43z F () :=
  (abody_in (c := (sub (bodyOf Try.f43) [])) (by kernel_rfl) (s := ef43z_a ()) (by kernel_rfl)).trans (f43z_1_eq F ())
def r43 : CRun := fun X H => match X,H with
  | [(.vs (.rI .i64 a0) 0 1)],[] => some ((decide (a0.length < 1073741000)),(.own 0 0 1),[(.cells a0.length (.rI .i64 a0) true)])
  | _,_ => none
theorem s43p (a0 : List Int) (hp : ((decide (a0.length < 1073741000))) = true) (h0 : okV (.vs (.rI .i64 a0) 0 1)) : ∃ F,f43p F a0 = some ((.own 0 0 1),[(.cells a0.length (.rI .i64 a0) true)]) := by
  have h := of_decide_eq_true hp
  refine ⟨0,?_⟩
  simp only [f43p,f43p_1,List.nil_append]
  rw [cond_pos (by omega)]
theorem s43z : ∃ F,f43z F () = some ((.own 0 0 1),[(.cells ([] : List Int).length (.rI .i64 ([] : List Int)) true)]) := ⟨0,rfl⟩
theorem c43 : CallOk Try.prog G22 43 r43 := callOk_nil (V := VG2243) mixed tys eVG2243 (f := 43) (fn := Try.f43) Try.func43 (by kernel_rfl) (c := sub (bodyOf Try.f43) []) (by kernel_rfl) (by
  intro X H R H' h
  unfold r43 at h; split at h <;> try contradiction
  rename_i a0
  simp only [Option.some.injEq,Prod.mk.injEq] at h
  obtain ⟨hp,rfl,rfl⟩ := h
  refine ⟨_,rfl,rfl,fun hok => ⟨?_,fun hz => ?_⟩⟩
  · obtain ⟨F,hF⟩ := s43p a0 hp hok
    exact ⟨Af43p F,(f43p_body F a0).trans hF⟩
  · have e : a0 = [] := List.length_eq_zero_iff.mp hz
    subst e
    obtain ⟨F,hF⟩ := s43z
    exact ⟨Af43z F,(f43z_body F).trans hF⟩)
def lVG2245 : List CEnt := []
def VG2245 : Env := mkEnv T22 G22 lVG2245
theorem eVG2245 : EOk Try.prog VG2245 := eok_mk (by exact trivial)
def Af45 (F : Nat) : Cuts := { F := F,at_ := fun _ => none,join := fun _ => none }
def ef45_a : Int → St := fun a0 => { tmps := [(0,(.int .i64 a0))],heap := [],next := 0,nt := 9,m := 0 }
def f45_1 (F : Nat) : Int → Rz := fun a0 => (cond (decide (a0 ≥ (1 : Int))) (some ((.bool (decide (a0 ≤ (4096 : Int)))),[])) (some ((.bool false),[])))
theorem f45_1_eq (F : Nat) : ∀ v,aexec VG2245 (Af45 F) (sub (bodyOf Try.f45) []) (ef45_a v) (kFin VG2245 none (Try.f45).results.toList) = f45_1 F v := by
  intro a0; kernel_rfl
def f45 (F : Nat) : Int → Rz := f45_1 F
theorem f45_body (F : Nat) (a0 : Int) : abody VG2245 (Af45 F) Try.f45 [(.int .i64 a0)] [] = f45 F a0 :=
  (abody_in (c := (sub (bodyOf Try.f45) [])) (by kernel_rfl) (s := ef45_a a0) (by kernel_rfl)).trans (f45_1_eq F a0)
def r45 : CRun := fun X H => match X,H with
  | [(.int .i64 a0)],[] => some (true,(.bool ((decide (1 ≤ a0)) && (decide (a0 ≤ 4096)))),[])
  | _,_ => none
theorem s45 (a0 : Int) (h0 : okV (.int .i64 a0)) : ∃ F,f45 F a0 = some ((.bool ((decide (1 ≤ a0)) && (decide (a0 ≤ 4096)))),[]) := by
  refine ⟨0,?_⟩
  simp only [f45,f45_1]
  by_cases h : a0 ≥ 1
  · rw [cond_pos h,decide_eq_true (show 1 ≤ a0 from h),Bool.true_and]
  · rw [cond_neg h,decide_eq_false (show ¬ 1 ≤ a0 from h),Bool.false_and]
theorem c45 : CallOk Try.prog G22 45 r45 := callOk_of (V := VG2245) mixed tys eVG2245 (f := 45) (fn := Try.f45) Try.func45 (by kernel_rfl) (c := sub (bodyOf Try.f45) []) (by kernel_rfl) (by
  intro X H r H' h hX hH
  unfold r45 at h; split at h <;> try contradiction
  · simp only [Option.some.injEq,Prod.mk.injEq] at h
    obtain ⟨hp,rfl,rfl⟩ := h
    obtain ⟨F,hF⟩ := s45 _ (hX _ (.head _))
    exact ⟨Af45 F,(f45_body F _).trans hF⟩)
def lVG2246 : List CEnt := []
def VG2246 : Env := mkEnv T22 G22 lVG2246
theorem eVG2246 : EOk Try.prog VG2246 := eok_mk (by exact trivial)
def Af46 (F : Nat) : Cuts := { F := F,at_ := fun n => match n with | 3012 => some sp10 | _ => none,join := fun n => match n with | 1022 => some [(0,.plain)] | 2020 => some [(3,.plain)] | 3014 => some sp10 | 7003 => some [(3,.plain)] | _ => none,fin := (some [(2,(.own 3))]) }
def ef46_a : Int → St := fun a0 => { tmps := [(0,(.int .i64 a0))],heap := [],next := 0,nt := 18,m := 0 }
def ef46j1 : Int → St := fun t0 => { tmps := [(0,(.int .i64 t0))],heap := [],next := 0,nt := 18,m := 0 }
def ef46j2 : (List Int) → St := fun x1 => { tmps := [(3,(.own 0 0 1))],heap := [(0,(.cells x1.length (.rI .i64 x1) true))],next := 1,nt := 18,m := 0 }
def ef46j3 : Int × Int × (List Int) → St := fun (t8,t9,x3) => { tmps := [(3,(.own 0 0 1)),(8,(.int .i64 t8)),(9,(.int .i64 t9))],heap := [(0,(.cells x3.length (.rI .i64 x3) true))],next := 1,nt := 18,m := 0 }
def ef46l1 : Ty14 → St := fun (t8,t9,x3,x4) => { tmps := [(3,(.own 0 0 1)),(8,(.int .i64 t8)),(9,(.int .i64 t9))],heap := [(0,(.cells x4 (.rI .i64 x3) true))],next := 1,nt := 18,m := 0 }
def ef46j4 : (List Int) × Nat → St := fun (x1,x2) => { tmps := [(3,(.own 0 0 1))],heap := [(0,(.cells x2 (.rI .i64 x1) true))],next := 1,nt := 18,m := 0 }
def f46_1 (F : Nat) (kf46j1 : Int → Rz) : Int → Rz := fun a0 => (kf46j1 a0)
theorem f46_1_eq (F : Nat) (Rf46j1 : St → Rz) : ∀ v,aexec VG2246 (Af46 F) (bp Try.f46 2) (ef46_a v) (kSeq (kc VG2246 Rf46j1 [(0,.plain)]) (kFin VG2246 (some [(2,(.own 3))]) (Try.f46).results.toList)) = f46_1 F (Rf46j1 ∘ ef46j1) v := by
  intro a0; kernel_rfl
def f46_2 (F : Nat) (kf46j2 : (List Int) → Rz) : Int → Rz := fun t0 => (cond (((decide (0 ≤ t0)) && (decide (t0 ≤ t0))) && (decide (t0 < 1073741824))) (kf46j2 (List.replicate (Int.toNat t0) 0)) none)
theorem f46_2_eq (F : Nat) (Rf46j2 : St → Rz) : ∀ v,aexec VG2246 (Af46 F) (bp Try.f46 6) (ef46j1 v) (kSeq (kc VG2246 Rf46j2 [(3,.plain)]) (kFin VG2246 (some [(2,(.own 3))]) (Try.f46).results.toList)) = f46_2 F (Rf46j2 ∘ ef46j2) v := by
  intro t0; kernel_rfl
def f46_3 (F : Nat) (kf46j3 : Int × Int × (List Int) → Rz) (kf46j4 : (List Int) × Nat → Rz) : (List Int) → Rz := fun x1 => (kf46j3 ((↑x1.length : Int),(0 : Int),x1))
theorem f46_3_eq (F : Nat) (Rf46j3 : St → Rz) (Rf46j4 : St → Rz) : ∀ v,aexec VG2246 (Af46 F) (bp Try.f46 28) (ef46j2 v) (kSeq (kc VG2246 Rf46j3 sp10) (kSeq (kc VG2246 Rf46j4 [(3,.plain)]) (kFin VG2246 (some [(2,(.own 3))]) (Try.f46).results.toList))) = f46_3 F (Rf46j3 ∘ ef46j3) (Rf46j4 ∘ ef46j4) v := by
  intro x1; kernel_rfl
def f46_4 (F : Nat) (kf46l1 : Ty14 → Rz) (kf46j4 : (List Int) × Nat → Rz) : Ty14 → Rz := fun (t8,t9,x3,x4) => (cond (decide (t9 < t8)) (cond ((decide (0 ≤ t9)) && (decide (t9 < (↑x3.length : Int)))) (kf46l1 (t8,(IntKind.i64.wrap (t9 + (1 : Int))),(x3.set (Int.toNat t9) t9),x4)) none) (kf46j4 (x3,x4)))
theorem f46_4_eq (F : Nat) (Rf46l1 : St → Rz) (Rf46j4 : St → Rz) : ∀ v,aexec VG2246 (Af46 F) (bp Try.f46 116) (ef46l1 v) (kSeq (kc VG2246 Rf46l1 sp10) (kBlock 0 (kSeq (kc VG2246 Rf46j4 [(3,.plain)]) (kFin VG2246 (some [(2,(.own 3))]) (Try.f46).results.toList)))) = f46_4 F (Rf46l1 ∘ ef46l1) (Rf46j4 ∘ ef46j4) v := by
  rintro ⟨t8,t9,x3,x4⟩; kernel_rfl
def f46_5_i : Int × Int × (List Int) → Int × Int × (List Int) × Nat := fun (t8,t9,x3) => (t8,t9,x3,x3.length)
def f46_5 (F : Nat) (kf46j4 : (List Int) × Nat → Rz) : Int × Int × (List Int) → Rz := fun v => loopN (fun k => f46_4 F k kf46j4) F (f46_5_i v)
theorem f46_5_eq (F : Nat) (Rf46j4 : St → Rz) : ∀ v,aexec VG2246 (Af46 F) (bp Try.f46 58) (ef46j3 v) (kBlock 0 (kSeq (kc VG2246 Rf46j4 [(3,.plain)]) (kFin VG2246 (some [(2,(.own 3))]) (Try.f46).results.toList))) = f46_5 F (Rf46j4 ∘ ef46j4) v :=
  loop_cut (by kernel_rfl) (by kernel_rfl) ef46j3 ef46l1 _ f46_5_i (fun k => f46_4 F k (Rf46j4 ∘ ef46j4))
    (by rintro ⟨t8,t9,x3⟩; kernel_rfl) (fun Rf46l1 => f46_4_eq F Rf46l1 Rf46j4)
def f46_6 (F : Nat) (kf46j4 : (List Int) × Nat → Rz) : Int × Int × (List Int) → Rz := f46_5 F kf46j4
theorem f46_6_eq (F : Nat) (Rf46j4 : St → Rz) : ∀ v,aexec VG2246 (Af46 F) (bp Try.f46 29) (ef46j3 v) (kSeq (kc VG2246 Rf46j4 [(3,.plain)]) (kFin VG2246 (some [(2,(.own 3))]) (Try.f46).results.toList)) = f46_6 F (Rf46j4 ∘ ef46j4) v := fun v =>
  (block_in  (by kernel_rfl) _ _).trans (f46_5_eq F Rf46j4 v)
def f46_7 (F : Nat) (kf46j4 : (List Int) × Nat → Rz) : (List Int) → Rz := fun v => f46_3 F (f46_6 F kf46j4) kf46j4 v
theorem f46_7_eq (F : Nat) (Rf46j4 : St → Rz) : ∀ v,aexec VG2246 (Af46 F) (bp Try.f46 14) (ef46j2 v) (kSeq (kc VG2246 Rf46j4 [(3,.plain)]) (kFin VG2246 (some [(2,(.own 3))]) (Try.f46).results.toList)) = f46_7 F (Rf46j4 ∘ ef46j4) v :=
  seq_cut (by kernel_rfl) (by kernel_rfl) ef46j2 ef46j3 _ (fun k => f46_3 F k (Rf46j4 ∘ ef46j4)) (f46_6 F (Rf46j4 ∘ ef46j4))
    (fun Rf46j3 => f46_3_eq F Rf46j3 Rf46j4) (f46_6_eq F Rf46j4)
def f46_8 (F : Nat) : (List Int) × Nat → Rz := fun (x1,x2) => (some ((.own 0 0 1),[(.cells x2 (.rI .i64 x1) true)]))
theorem f46_8_eq (F : Nat) : ∀ v,aexec VG2246 (Af46 F) (bp Try.f46 15) (ef46j4 v) (kFin VG2246 (some [(2,(.own 3))]) (Try.f46).results.toList) = f46_8 F v := by
  rintro ⟨x1,x2⟩; kernel_rfl
def f46_9 (F : Nat) : (List Int) → Rz := fun v => f46_7 F (f46_8 F) v
theorem f46_9_eq (F : Nat) : ∀ v,aexec VG2246 (Af46 F) (bp Try.f46 7) (ef46j2 v) (kFin VG2246 (some [(2,(.own 3))]) (Try.f46).results.toList) = f46_9 F v :=
  seq_cut (by kernel_rfl) (by kernel_rfl) ef46j2 ef46j4 _ (fun k => f46_7 F k) (f46_8 F)
    (fun Rf46j4 => f46_7_eq F Rf46j4) (f46_8_eq F)
def f46_10 (F : Nat) : Int → Rz := fun v => f46_2 F (f46_9 F) v
theorem f46_10_eq (F : Nat) : ∀ v,aexec VG2246 (Af46 F) (bp Try.f46 3) (ef46j1 v) (kFin VG2246 (some [(2,(.own 3))]) (Try.f46).results.toList) = f46_10 F v :=
  seq_cut (by kernel_rfl) (by kernel_rfl) ef46j1 ef46j2 _ (fun k => f46_2 F k) (f46_9 F)
    (fun Rf46j2 => f46_2_eq F Rf46j2) (f46_9_eq F)
def f46_11 (F : Nat) : Int → Rz := fun v => f46_1 F (f46_10 F) v
theorem f46_11_eq (F : Nat) : ∀ v,aexec VG2246 (Af46 F) (sub (bodyOf Try.f46) []) (ef46_a v) (kFin VG2246 (some [(2,(.own 3))]) (Try.f46).results.toList) = f46_11 F v :=
  seq_cut (by kernel_rfl) (by kernel_rfl) ef46_a ef46j1 _ (fun k => f46_1 F k) (f46_10 F)
    (fun Rf46j1 => f46_1_eq F Rf46j1) (f46_10_eq F)
def f46 (F : Nat) : Int → Rz := f46_11 F
theorem f46_body (F : Nat) (a0 : Int) : abody VG2246 (Af46 F) Try.f46 [(.int .i64 a0)] [] = f46 F a0 :=
  (abody_in (c := (sub (bodyOf Try.f46) [])) (by kernel_rfl) (s := ef46_a a0) (by kernel_rfl)).trans (f46_11_eq F a0)
def r46 : CRun := fun X H => match X,H with
  | [(.int .i64 a0)],[] => some (((decide (0 ≤ a0)) && (decide (Int.toNat a0 < 1073741000))),(.own 0 0 1),[(.cells (Isl.nums (Int.toNat a0)).length (.rI .i64 (Isl.nums (Int.toNat a0))) true)])
  | _,_ => none
theorem s46 (a0 : Int) (hp : (((decide (0 ≤ a0)) && (decide (Int.toNat a0 < 1073741000)))) = true) (h0 : okV (.int .i64 a0)) : ∃ F,f46 F a0 = some ((.own 0 0 1),[(.cells (Isl.nums (Int.toNat a0)).length (.rI .i64 (Isl.nums (Int.toNat a0))) true)]) := by
  simp only [Bool.and_eq_true,decide_eq_true_eq] at hp
  obtain ⟨n,rfl⟩ : ∃ n : Nat,a0 = (n : Int) := ⟨a0.toNat,by omega⟩
  rw [Int.toNat_natCast] at *
  refine ⟨n + 1,?_⟩
  simp only [f46_1,f46_2,f46_3,f46_5_i,f46_5,f46_6,f46_7,f46_8,f46_9,f46_10,f46_11,f46,dec_and,Int.toNat_natCast,List.length_replicate]
  rw [cond_pos (by omega)]
  refine loopN_from (fun i => ((n : Int),(i : Int),(List.range i).map (fun (i : Nat) => (i : Int)) ++ List.replicate (n - i) 0,n)) n (by rfl) (fun i hi k => ?_) (fun k => ?_) _ (by omega)
  · simp only [f46_4,dec_and,Int.toNat_natCast]
    rw [cond_pos (by omega),cond_pos (by simp; omega),i64w (by omega) (by omega),fill_set (fun (i : Nat) => (i : Int)) 0 n i hi rfl]
    rfl
  · simp only [f46_4,f46_1,f46_2,f46_3,f46_5_i,f46_5,f46_6,f46_7,f46_8,f46_9,f46_10,f46_11,f46]
    rw [cond_neg (by omega),Nat.sub_self,List.replicate_zero,List.append_nil,Isl.nums_len]
    rfl
theorem c46 : CallOk Try.prog G22 46 r46 := callOk_of (V := VG2246) mixed tys eVG2246 (f := 46) (fn := Try.f46) Try.func46 (by kernel_rfl) (c := sub (bodyOf Try.f46) []) (by kernel_rfl) (by
  intro X H r H' h hX hH
  unfold r46 at h; split at h <;> try contradiction
  · simp only [Option.some.injEq,Prod.mk.injEq] at h
    obtain ⟨hp,rfl,rfl⟩ := h
    obtain ⟨F,hF⟩ := s46 _ hp (hX _ (.head _))
    exact ⟨Af46 F,(f46_body F _).trans hF⟩)
def lVG2260 : List CEnt := []
def VG2260 : Env := mkEnv T22 G22 lVG2260
theorem eVG2260 : EOk Try.prog VG2260 := eok_mk (by exact trivial)
def Af60 (F : Nat) : Cuts := { F := F,at_ := fun _ => none,join := fun _ => none,fin := (some [(4,(.own 3))]) }
def ef60_a : Int → St := fun a1 => { tmps := [(0,.ns),(1,(.int .i64 a1))],heap := [],next := 0,nt := 27,m := 0 }
def f60_1 (F : Nat) : Int → Rz := fun a1 => (cond (decide (a1 < (0 : Int))) none (cond (decide ((IntKind.i64.wrap (a1 - (0 : Int))) > (0 : Int))) (cond ((decide (0 < (IntKind.i64.wrap (a1 - (0 : Int))))) && (decide ((IntKind.i64.wrap (a1 - (0 : Int))) < 1073741824))) (cond (decide ((0 : Int) ≤ (↑(List.replicate (Int.toNat (IntKind.i64.wrap (a1 - (0 : Int)))) 0).length : Int))) (some ((.own 0 0 1),[(.cells 0 (.rI .i64 ((List.replicate (Int.toNat (IntKind.i64.wrap (a1 - (0 : Int)))) 0).take 0)) true)])) none) none) (some ((.own 0 0 1),[(.cells 0 (.rI .i64 []) true)]))))
theorem f60_1_eq (F : Nat) : ∀ v,aexec VG2260 (Af60 F) (sub (bodyOf Try.f60) []) (ef60_a v) (kFin VG2260 (some [(4,(.own 3))]) (Try.f60).results.toList) = f60_1 F v := by
  intro a1; kernel_rfl
def f60 (F : Nat) : Int → Rz := f60_1 F
theorem f60_body (F : Nat) (a1 : Int) : abody VG2260 (Af60 F) Try.f60 [.ns,(.int .i64 a1)] [] = f60 F a1 :=
  (abody_in (c := (sub (bodyOf Try.f60) [])) (by kernel_rfl) (s := ef60_a a1) (by kernel_rfl)).trans (f60_1_eq F a1)
def r60 : CRun := fun X H => match X,H with
  | [.ns,(.int .i64 a1)],[] => some (((decide (0 ≤ a1)) && (decide (Int.toNat a1 < 1073741000))),(.own 0 0 1),[(.cells 0 (.rI .i64 []) true)])
  | _,_ => none
theorem s60 (a1 : Int) (hp : (((decide (0 ≤ a1)) && (decide (Int.toNat a1 < 1073741000)))) = true) (h1 : okV (.int .i64 a1)) : ∃ F,f60 F a1 = some ((.own 0 0 1),[(.cells 0 (.rI .i64 []) true)]) := by
  simp only [Bool.and_eq_true,decide_eq_true_eq] at hp
  refine ⟨0,?_⟩
  simp only [f60,f60_1,Int.sub_zero,dec_and]
  rw [cond_neg (by omega),i64w (by omega) (by omega)]
  by_cases h : a1 > 0
  · rw [cond_pos h,cond_pos (by omega),cond_pos (by omega),List.take_zero]
  · rw [cond_neg h]
theorem c60 : CallOk Try.prog G22 60 r60 := callOk_of (V := VG2260) mixed tys eVG2260 (f := 60) (fn := Try.f60) Try.func60 (by kernel_rfl) (c := sub (bodyOf Try.f60) []) (by kernel_rfl) (by
  intro X H r H' h hX hH
  unfold r60 at h; split at h <;> try contradiction
  · simp only [Option.some.injEq,Prod.mk.injEq] at h
    obtain ⟨hp,rfl,rfl⟩ := h
    obtain ⟨F,hF⟩ := s60 _ hp (hX _ (.tail _ (.head _)))
    exact ⟨Af60 F,(f60_body F _).trans hF⟩)
def lVG2261 : List CEnt := []
def VG2261 : Env := mkEnv T22 G22 lVG2261
theorem eVG2261 : EOk Try.prog VG2261 := eok_mk (by exact trivial)
def Af61 (F : Nat) : Cuts := { F := F,at_ := fun _ => none,join := fun _ => none,fin := (some [(4,(.own 22))]) }
def ef61_a : Int → St := fun a1 => { tmps := [(0,.ns),(1,(.int .i64 a1))],heap := [],next := 0,nt := 27,m := 0 }
def f61_1 (F : Nat) : Int → Rz := fun a1 => (cond (decide (a1 < (0 : Int))) none (cond (decide ((IntKind.i64.wrap (a1 - (0 : Int))) > (0 : Int))) (cond ((decide (0 < (IntKind.i64.wrap (a1 - (0 : Int))))) && (decide ((IntKind.i64.wrap (a1 - (0 : Int))) < 1073741824))) (cond (decide ((0 : Int) ≤ (↑(List.replicate (Int.toNat (IntKind.i64.wrap (a1 - (0 : Int)))) ([] : List Int)).length : Int))) (some ((.own 0 0 1),[(.cells 0 (.rL .i64 ((List.replicate (Int.toNat (IntKind.i64.wrap (a1 - (0 : Int)))) ([] : List Int)).take 0)) true)])) none) none) (some ((.own 0 0 1),[(.cells 0 (.rL .i64 []) true)]))))
theorem f61_1_eq (F : Nat) : ∀ v,aexec VG2261 (Af61 F) (sub (bodyOf Try.f61) []) (ef61_a v) (kFin VG2261 (some [(4,(.own 22))]) (Try.f61).results.toList) = f61_1 F v := by
  intro a1; kernel_rfl
def f61 (F : Nat) : Int → Rz := f61_1 F
theorem f61_body (F : Nat) (a1 : Int) : abody VG2261 (Af61 F) Try.f61 [.ns,(.int .i64 a1)] [] = f61 F a1 :=
  (abody_in (c := (sub (bodyOf Try.f61) [])) (by kernel_rfl) (s := ef61_a a1) (by kernel_rfl)).trans (f61_1_eq F a1)
def r61 : CRun := fun X H => match X,H with
  | [.ns,(.int .i64 a1)],[] => some (((decide (0 ≤ a1)) && (decide (Int.toNat a1 < 1073741000))),(.own 0 0 1),[(.cells 0 (.rL .i64 []) true)])
  | _,_ => none
theorem s61 (a1 : Int) (hp : (((decide (0 ≤ a1)) && (decide (Int.toNat a1 < 1073741000)))) = true) (h1 : okV (.int .i64 a1)) : ∃ F,f61 F a1 = some ((.own 0 0 1),[(.cells 0 (.rL .i64 []) true)]) := by
  simp only [Bool.and_eq_true,decide_eq_true_eq] at hp
  refine ⟨0,?_⟩
  simp only [f61,f61_1,Int.sub_zero,dec_and]
  rw [cond_neg (by omega),i64w (by omega) (by omega)]
  by_cases h : a1 > 0
  · rw [cond_pos h,cond_pos (by omega),cond_pos (by omega),List.take_zero]
  · rw [cond_neg h]
theorem c61 : CallOk Try.prog G22 61 r61 := callOk_of (V := VG2261) mixed tys eVG2261 (f := 61) (fn := Try.f61) Try.func61 (by kernel_rfl) (c := sub (bodyOf Try.f61) []) (by kernel_rfl) (by
  intro X H r H' h hX hH
  unfold r61 at h; split at h <;> try contradiction
  · simp only [Option.some.injEq,Prod.mk.injEq] at h
    obtain ⟨hp,rfl,rfl⟩ := h
    obtain ⟨F,hF⟩ := s61 _ hp (hX _ (.tail _ (.head _)))
    exact ⟨Af61 F,(f61_body F _).trans hF⟩)
def lVG2239 : List CEnt := [(60,[none,none],r60)]
def VG2239 : Env := mkEnv T22 G22 lVG2239
theorem eVG2239 : EOk Try.prog VG2239 := eok_mk (by exact ⟨c60,trivial⟩)
def Af39 (F : Nat) : Cuts := { F := F,at_ := fun n => match n with | 3018 => some sp11 | 11012 => some sp12 | _ => none,join := fun n => match n with | 1047 => some [(0,.plain)] | 2045 => some [(0,.plain),(3,.plain)] | 3020 => some sp11 | 9022 => some [(0,.plain),(3,.plain)] | 10020 => some [(0,.plain),(6,.plain)] | 11014 => some sp12 | 15003 => some [(6,.plain)] | _ => none,fin := (some [(2,(.own 3))]) }
def ef39_a : (List (List Int)) → St := fun a0 => { tmps := [(0,(.vs (.rL .i64 a0) 0 1))],heap := [],next := 0,nt := 36,m := 0 }
def ef39j1 : (List (List Int)) → St := fun t0 => { tmps := [(0,(.vs (.rL .i64 t0) 0 1))],heap := [],next := 0,nt := 36,m := 0 }
def ef39j2 : (List (List Int)) × Int → St := fun (t0,t3) => { tmps := [(0,(.vs (.rL .i64 t0) 0 1)),(3,(.int .i64 t3))],heap := [],next := 0,nt := 36,m := 0 }
def ef39j3 : Ty15 → St := fun (t0,t3,t9,t10,t11) => { tmps := [(0,(.vs (.rL .i64 t0) 0 1)),(3,(.int .i64 t3)),(9,(.vs (.rL .i64 t9) 0 1)),(10,(.int .i64 t10)),(11,(.int .i64 t11))],heap := [],next := 0,nt := 36,m := 0 }
def ef39l1 : Ty15 → St := fun (t0,t3,t9,t10,t11) => { tmps := [(0,(.vs (.rL .i64 t0) 0 1)),(3,(.int .i64 t3)),(9,(.vs (.rL .i64 t9) 0 1)),(10,(.int .i64 t10)),(11,(.int .i64 t11))],heap := [],next := 0,nt := 36,m := 0 }
def ef39j4 : (List (List Int)) × Int → St := fun (t0,t3) => { tmps := [(0,(.vs (.rL .i64 t0) 0 1)),(3,(.int .i64 t3))],heap := [],next := 0,nt := 36,m := 0 }
def ef39j5 : Ty9 → St := fun (t0,x2) => { tmps := [(0,(.vs (.rL .i64 t0) 0 1)),(6,(.own 0 0 1))],heap := [(0,(.cells x2.length (.rI .i64 x2) true))],next := 1,nt := 36,m := 0 }
def ef39j6 : Ty16 → St := fun (t25,t26,t27,x4) => { tmps := [(6,(.own 0 0 1)),(25,(.vs (.rL .i64 t25) 0 1)),(26,(.int .i64 t26)),(27,(.int .i64 t27))],heap := [(0,(.cells x4.length (.rI .i64 x4) true))],next := 1,nt := 36,m := 0 }
def ef39l2 : Ty16 → St := fun (t25,t26,t27,x4) => { tmps := [(6,(.own 0 0 1)),(25,(.vs (.rL .i64 t25) 0 1)),(26,(.int .i64 t26)),(27,(.int .i64 t27))],heap := [(0,(.cells x4.length (.rI .i64 x4) true))],next := 1,nt := 36,m := 0 }
def ef39j7 : (List Int) → St := fun x1 => { tmps := [(6,(.own 0 0 1))],heap := [(0,(.cells x1.length (.rI .i64 x1) true))],next := 1,nt := 36,m := 0 }
def f39_1 (F : Nat) (kf39j1 : (List (List Int)) → Rz) : (List (List Int)) → Rz := fun a0 => (kf39j1 a0)
theorem f39_1_eq (F : Nat) (Rf39j1 : St → Rz) : ∀ v,aexec VG2239 (Af39 F) (bp Try.f39 2) (ef39_a v) (kSeq (kc VG2239 Rf39j1 [(0,.plain)]) (kFin VG2239 (some [(2,(.own 3))]) (Try.f39).results.toList)) = f39_1 F (Rf39j1 ∘ ef39j1) v := by
  intro a0; kernel_rfl
def f39_2 (F : Nat) (kf39j2 : (List (List Int)) × Int → Rz) : (List (List Int)) → Rz := fun t0 => (kf39j2 (t0,(0 : Int)))
theorem f39_2_eq (F : Nat) (Rf39j2 : St → Rz) : ∀ v,aexec VG2239 (Af39 F) (bp Try.f39 6) (ef39j1 v) (kSeq (kc VG2239 Rf39j2 [(0,.plain),(3,.plain)]) (kFin VG2239 (some [(2,(.own 3))]) (Try.f39).results.toList)) = f39_2 F (Rf39j2 ∘ ef39j2) v := by
  intro t0; kernel_rfl
def f39_3 (F : Nat) (kf39j3 : Ty15 → Rz) (kf39j4 : (List (List Int)) × Int → Rz) : (List (List Int)) × Int → Rz := fun (t0,t3) => (kf39j3 (t0,t3,t0,(↑t0.length : Int),(0 : Int)))
theorem f39_3_eq (F : Nat) (Rf39j3 : St → Rz) (Rf39j4 : St → Rz) : ∀ v,aexec VG2239 (Af39 F) (bp Try.f39 28) (ef39j2 v) (kSeq (kc VG2239 Rf39j3 sp11) (kSeq (kc VG2239 Rf39j4 [(0,.plain),(3,.plain)]) (kFin VG2239 (some [(2,(.own 3))]) (Try.f39).results.toList))) = f39_3 F (Rf39j3 ∘ ef39j3) (Rf39j4 ∘ ef39j4) v := by
  rintro ⟨t0,t3⟩; kernel_rfl
def f39_4 (F : Nat) (kf39l1 : Ty15 → Rz) (kf39j4 : (List (List Int)) × Int → Rz) : Ty15 → Rz := fun (t0,t3,t9,t10,t11) => (cond (decide (t11 < t10)) (cond ((decide (0 ≤ t11)) && (decide (t11 < (↑t9.length : Int)))) (cond (decide ((IntKind.i64.wrap (t3 + (↑(t9.getD (Int.toNat t11) []).length : Int))) < (0 : Int))) none (kf39l1 (t0,(IntKind.i64.wrap (t3 + (↑(t9.getD (Int.toNat t11) []).length : Int))),t9,t10,(IntKind.i64.wrap (t11 + (1 : Int)))))) none) (kf39j4 (t0,t3)))
theorem f39_4_eq (F : Nat) (Rf39l1 : St → Rz) (Rf39j4 : St → Rz) : ∀ v,aexec VG2239 (Af39 F) (bp Try.f39 116) (ef39l1 v) (kSeq (kc VG2239 Rf39l1 sp11) (kBlock 0 (kSeq (kc VG2239 Rf39j4 [(0,.plain),(3,.plain)]) (kFin VG2239 (some [(2,(.own 3))]) (Try.f39).results.toList)))) = f39_4 F (Rf39l1 ∘ ef39l1) (Rf39j4 ∘ ef39j4) v := by
  rintro ⟨t0,t3,t9,t10,t11⟩; kernel_rfl
def f39_5_i : Ty15 → (List (List Int)) × Int × (List (List Int)) × Int × Int := fun (t0,t3,t9,t10,t11) => (t0,t3,t9,t10,t11)
def f39_5 (F : Nat) (kf39j4 : (List (List Int)) × Int → Rz) : Ty15 → Rz := fun v => loopN (fun k => f39_4 F k kf39j4) F (f39_5_i v)
theorem f39_5_eq (F : Nat) (Rf39j4 : St → Rz) : ∀ v,aexec VG2239 (Af39 F) (bp Try.f39 58) (ef39j3 v) (kBlock 0 (kSeq (kc VG2239 Rf39j4 [(0,.plain),(3,.plain)]) (kFin VG2239 (some [(2,(.own 3))]) (Try.f39).results.toList))) = f39_5 F (Rf39j4 ∘ ef39j4) v :=
  loop_cut (by kernel_rfl) (by kernel_rfl) ef39j3 ef39l1 _ f39_5_i (fun k => f39_4 F k (Rf39j4 ∘ ef39j4))
    (by rintro ⟨t0,t3,t9,t10,t11⟩; kernel_rfl) (fun Rf39l1 => f39_4_eq F Rf39l1 Rf39j4)
def f39_6 (F : Nat) (kf39j4 : (List (List Int)) × Int → Rz) : Ty15 → Rz := f39_5 F kf39j4
theorem f39_6_eq (F : Nat) (Rf39j4 : St → Rz) : ∀ v,aexec VG2239 (Af39 F) (bp Try.f39 29) (ef39j3 v) (kSeq (kc VG2239 Rf39j4 [(0,.plain),(3,.plain)]) (kFin VG2239 (some [(2,(.own 3))]) (Try.f39).results.toList)) = f39_6 F (Rf39j4 ∘ ef39j4) v := fun v =>
  (block_in  (by kernel_rfl) _ _).trans (f39_5_eq F Rf39j4 v)
def f39_7 (F : Nat) (kf39j4 : (List (List Int)) × Int → Rz) : (List (List Int)) × Int → Rz := fun v => f39_3 F (f39_6 F kf39j4) kf39j4 v
theorem f39_7_eq (F : Nat) (Rf39j4 : St → Rz) : ∀ v,aexec VG2239 (Af39 F) (bp Try.f39 14) (ef39j2 v) (kSeq (kc VG2239 Rf39j4 [(0,.plain),(3,.plain)]) (kFin VG2239 (some [(2,(.own 3))]) (Try.f39).results.toList)) = f39_7 F (Rf39j4 ∘ ef39j4) v :=
  seq_cut (by kernel_rfl) (by kernel_rfl) ef39j2 ef39j3 _ (fun k => f39_3 F k (Rf39j4 ∘ ef39j4)) (f39_6 F (Rf39j4 ∘ ef39j4))
    (fun Rf39j3 => f39_3_eq F Rf39j3 Rf39j4) (f39_6_eq F Rf39j4)
def f39_8 (F : Nat) (kf39j5 : Ty9 → Rz) : (List (List Int)) × Int → Rz := fun (t0,t3) => (cond ((decide (0 ≤ t3)) && (decide (Int.toNat t3 < 1073741000))) (kf39j5 (t0,[])) none)
theorem f39_8_eq (F : Nat) (Rf39j5 : St → Rz) : ∀ v,aexec VG2239 (Af39 F) (bp Try.f39 30) (ef39j4 v) (kSeq (kc VG2239 Rf39j5 [(0,.plain),(6,.plain)]) (kFin VG2239 (some [(2,(.own 3))]) (Try.f39).results.toList)) = f39_8 F (Rf39j5 ∘ ef39j5) v := by
  rintro ⟨t0,t3⟩; kernel_rfl
def f39_9 (F : Nat) (kf39j6 : Ty16 → Rz) (kf39j7 : (List Int) → Rz) : Ty9 → Rz := fun (t0,x2) => (kf39j6 (t0,(↑t0.length : Int),(0 : Int),x2))
theorem f39_9_eq (F : Nat) (Rf39j6 : St → Rz) (Rf39j7 : St → Rz) : ∀ v,aexec VG2239 (Af39 F) (bp Try.f39 124) (ef39j5 v) (kSeq (kc VG2239 Rf39j6 sp12) (kSeq (kc VG2239 Rf39j7 [(6,.plain)]) (kFin VG2239 (some [(2,(.own 3))]) (Try.f39).results.toList))) = f39_9 F (Rf39j6 ∘ ef39j6) (Rf39j7 ∘ ef39j7) v := by
  rintro ⟨t0,x2⟩; kernel_rfl
def f39_10 (F : Nat) (kf39l2 : Ty16 → Rz) (kf39j7 : (List Int) → Rz) : Ty16 → Rz := fun (t25,t26,t27,x4) => (cond (decide (t27 < t26)) (cond ((decide (0 ≤ t27)) && (decide (t27 < (↑t25.length : Int)))) (cond (decide ((x4.length + (t25.getD (Int.toNat t27) []).length) < 1073741824)) (kf39l2 (t25,t26,(IntKind.i64.wrap (t27 + (1 : Int))),(x4 ++ (t25.getD (Int.toNat t27) [])))) none) none) (kf39j7 x4))
theorem f39_10_eq (F : Nat) (Rf39l2 : St → Rz) (Rf39j7 : St → Rz) : ∀ v,aexec VG2239 (Af39 F) (bp Try.f39 500) (ef39l2 v) (kSeq (kc VG2239 Rf39l2 sp12) (kBlock 2 (kSeq (kc VG2239 Rf39j7 [(6,.plain)]) (kFin VG2239 (some [(2,(.own 3))]) (Try.f39).results.toList)))) = f39_10 F (Rf39l2 ∘ ef39l2) (Rf39j7 ∘ ef39j7) v := by
  rintro ⟨t25,t26,t27,x4⟩; kernel_rfl
def f39_11_i : Ty16 → (List (List Int)) × Int × Int × (List Int) := fun (t25,t26,t27,x4) => (t25,t26,t27,x4)
def f39_11 (F : Nat) (kf39j7 : (List Int) → Rz) : Ty16 → Rz := fun v => loopN (fun k => f39_10 F k kf39j7) F (f39_11_i v)
theorem f39_11_eq (F : Nat) (Rf39j7 : St → Rz) : ∀ v,aexec VG2239 (Af39 F) (bp Try.f39 250) (ef39j6 v) (kBlock 2 (kSeq (kc VG2239 Rf39j7 [(6,.plain)]) (kFin VG2239 (some [(2,(.own 3))]) (Try.f39).results.toList))) = f39_11 F (Rf39j7 ∘ ef39j7) v :=
  loop_cut (by kernel_rfl) (by kernel_rfl) ef39j6 ef39l2 _ f39_11_i (fun k => f39_10 F k (Rf39j7 ∘ ef39j7))
    (by rintro ⟨t25,t26,t27,x4⟩; kernel_rfl) (fun Rf39l2 => f39_10_eq F Rf39l2 Rf39j7)
def f39_12 (F : Nat) (kf39j7 : (List Int) → Rz) : Ty16 → Rz := f39_11 F kf39j7
theorem f39_12_eq (F : Nat) (Rf39j7 : St → Rz) : ∀ v,aexec VG2239 (Af39 F) (bp Try.f39 125) (ef39j6 v) (kSeq (kc VG2239 Rf39j7 [(6,.plain)]) (kFin VG2239 (some [(2,(.own 3))]) (Try.f39).results.toList)) = f39_12 F (Rf39j7 ∘ ef39j7) v := fun v =>
  (block_in  (by kernel_rfl) _ _).trans (f39_11_eq F Rf39j7 v)
def f39_13 (F : Nat) (kf39j7 : (List Int) → Rz) : Ty9 → Rz := fun v => f39_9 F (f39_12 F kf39j7) kf39j7 v
theorem f39_13_eq (F : Nat) (Rf39j7 : St → Rz) : ∀ v,aexec VG2239 (Af39 F) (bp Try.f39 62) (ef39j5 v) (kSeq (kc VG2239 Rf39j7 [(6,.plain)]) (kFin VG2239 (some [(2,(.own 3))]) (Try.f39).results.toList)) = f39_13 F (Rf39j7 ∘ ef39j7) v :=
  seq_cut (by kernel_rfl) (by kernel_rfl) ef39j5 ef39j6 _ (fun k => f39_9 F k (Rf39j7 ∘ ef39j7)) (f39_12 F (Rf39j7 ∘ ef39j7))
    (fun Rf39j6 => f39_9_eq F Rf39j6 Rf39j7) (f39_12_eq F Rf39j7)
def f39_14 (F : Nat) : (List Int) → Rz := fun x1 => (some ((.own 0 0 1),[(.cells x1.length (.rI .i64 x1) true)]))
theorem f39_14_eq (F : Nat) : ∀ v,aexec VG2239 (Af39 F) (bp Try.f39 63) (ef39j7 v) (kFin VG2239 (some [(2,(.own 3))]) (Try.f39).results.toList) = f39_14 F v := by
  intro x1; kernel_rfl
def f39_15 (F : Nat) : Ty9 → Rz := fun v => f39_13 F (f39_14 F) v
theorem f39_15_eq (F : Nat) : ∀ v,aexec VG2239 (Af39 F) (bp Try.f39 31) (ef39j5 v) (kFin VG2239 (some [(2,(.own 3))]) (Try.f39).results.toList) = f39_15 F v :=
  seq_cut (by kernel_rfl) (by kernel_rfl) ef39j5 ef39j7 _ (fun k => f39_13 F k) (f39_14 F)
    (fun Rf39j7 => f39_13_eq F Rf39j7) (f39_14_eq F)
def f39_16 (F : Nat) : (List (List Int)) × Int → Rz := fun v => f39_8 F (f39_15 F) v
theorem f39_16_eq (F : Nat) : ∀ v,aexec VG2239 (Af39 F) (bp Try.f39 15) (ef39j4 v) (kFin VG2239 (some [(2,(.own 3))]) (Try.f39).results.toList) = f39_16 F v :=
  seq_cut (by kernel_rfl) (by kernel_rfl) ef39j4 ef39j5 _ (fun k => f39_8 F k) (f39_15 F)
    (fun Rf39j5 => f39_8_eq F Rf39j5) (f39_15_eq F)
def f39_17 (F : Nat) : (List (List Int)) × Int → Rz := fun v => f39_7 F (f39_16 F) v
theorem f39_17_eq (F : Nat) : ∀ v,aexec VG2239 (Af39 F) (bp Try.f39 7) (ef39j2 v) (kFin VG2239 (some [(2,(.own 3))]) (Try.f39).results.toList) = f39_17 F v :=
  seq_cut (by kernel_rfl) (by kernel_rfl) ef39j2 ef39j4 _ (fun k => f39_7 F k) (f39_16 F)
    (fun Rf39j4 => f39_7_eq F Rf39j4) (f39_16_eq F)
def f39_18 (F : Nat) : (List (List Int)) → Rz := fun v => f39_2 F (f39_17 F) v
theorem f39_18_eq (F : Nat) : ∀ v,aexec VG2239 (Af39 F) (bp Try.f39 3) (ef39j1 v) (kFin VG2239 (some [(2,(.own 3))]) (Try.f39).results.toList) = f39_18 F v :=
  seq_cut (by kernel_rfl) (by kernel_rfl) ef39j1 ef39j2 _ (fun k => f39_2 F k) (f39_17 F)
    (fun Rf39j2 => f39_2_eq F Rf39j2) (f39_17_eq F)
def f39_19 (F : Nat) : (List (List Int)) → Rz := fun v => f39_1 F (f39_18 F) v
theorem f39_19_eq (F : Nat) : ∀ v,aexec VG2239 (Af39 F) (sub (bodyOf Try.f39) []) (ef39_a v) (kFin VG2239 (some [(2,(.own 3))]) (Try.f39).results.toList) = f39_19 F v :=
  seq_cut (by kernel_rfl) (by kernel_rfl) ef39_a ef39j1 _ (fun k => f39_1 F k) (f39_18 F)
    (fun Rf39j1 => f39_1_eq F Rf39j1) (f39_18_eq F)
def f39 (F : Nat) : (List (List Int)) → Rz := f39_19 F
theorem f39_body (F : Nat) (a0 : List (List Int)) : abody VG2239 (Af39 F) Try.f39 [(.vs (.rL .i64 a0) 0 1)] [] = f39 F a0 :=
  (abody_in (c := (sub (bodyOf Try.f39) [])) (by kernel_rfl) (s := ef39_a a0) (by kernel_rfl)).trans (f39_19_eq F a0)
def r39 : CRun := fun X H => match X,H with
  | [(.vs (.rL .i64 a0) 0 1)],[] => some ((decide (a0.flatten.length < 1073740000)),(.own 0 0 1),[(.cells a0.flatten.length (.rI .i64 a0.flatten) true)])
  | _,_ => none
theorem s39 (a0 : List (List Int)) (hp : ((decide (a0.flatten.length < 1073740000))) = true) (h0 : okV (.vs (.rL .i64 a0) 0 1)) : ∃ F,f39 F a0 = some ((.own 0 0 1),[(.cells a0.flatten.length (.rI .i64 a0.flatten) true)]) := by
  simp only [decide_eq_true_eq] at hp
  have hl := h0.2
  refine ⟨a0.length + 1,?_⟩
  simp only [f39_1,f39_2,f39_3,f39_5_i,f39_5,f39_6,f39_7,f39_8,f39_9,f39_10,f39_11_i,f39_11,f39_12,f39_13,f39_14,f39_15,f39_16,f39_17,f39_18,f39_19,f39]
  have hfl : ∀ i,i < a0.length → (a0.take (i + 1)).flatten = (a0.take i).flatten ++ a0.getD i [] := fun i hi => by rw [← Reg.take_get a0 [] i hi]; simp
  refine loopN_from (fun i => (a0,((a0.take i).flatten.length : Int),a0,(a0.length : Int),(i : Int))) a0.length (by rfl) (fun i hi k => ?_) (fun k => ?_) _ (by omega)
  · have e := hfl i hi
    have hle := Isl.flatten_take_le a0 (i + 1)
    have e2 : ((a0.take (i + 1)).flatten.length : Int) = ((a0.take i).flatten.length : Int) + ((a0.getD i []).length : Int) := by rw [e,List.length_append]; omega
    simp only [f39_4,dec_and,Int.toNat_natCast]
    have hw : IntKind.i64.wrap (((a0.take i).flatten.length : Int) + ((a0.getD i []).length : Int)) = ((a0.take (i + 1)).flatten.length : Int) := by rw [i64w (by omega) (by omega),e2]
    simp only [hw]
    rw [cond_pos (by omega),cond_pos (by omega),cond_neg (by omega),i64w (by omega) (by omega)]
    rfl
  · simp only [f39_4,f39_1,f39_2,f39_3,f39_5_i,f39_5,f39_6,f39_7,f39_8,f39_9,f39_10,f39_11_i,f39_11,f39_12,f39_13,f39_14,f39_15,f39_16,f39_17,f39_18,f39_19,f39,dec_and,Int.toNat_natCast]
    rw [cond_neg (by omega),List.take_length,cond_pos (by omega)]
    refine loopN_from (fun i => (a0,(a0.length : Int),(i : Int),(a0.take i).flatten)) a0.length (by rfl) (fun i hi k => ?_) (fun k => ?_) _ (by omega)
    · have e := hfl i hi
      have hle := Isl.flatten_take_le a0 (i + 1)
      rw [e,List.length_append] at hle
      simp only [f39_10,dec_and,Int.toNat_natCast]
      rw [cond_pos (by omega),cond_pos (by omega),cond_pos (by omega),i64w (by omega) (by omega),e]
      rfl
    · simp only [f39_10,f39_14]
      rw [cond_neg (by omega),List.take_length]
theorem c39 : CallOk Try.prog G22 39 r39 := callOk_of (V := VG2239) mixed tys eVG2239 (f := 39) (fn := Try.f39) Try.func39 (by kernel_rfl) (c := sub (bodyOf Try.f39) []) (by kernel_rfl) (by
  intro X H r H' h hX hH
  unfold r39 at h; split at h <;> try contradiction
  · simp only [Option.some.injEq,Prod.mk.injEq] at h
    obtain ⟨hp,rfl,rfl⟩ := h
    obtain ⟨F,hF⟩ := s39 _ hp (hX _ (.head _))
    exact ⟨Af39 F,(f39_body F _).trans hF⟩)
def lVG2240 : List CEnt := [(61,[none,none],r61)]
def VG2240 : Env := mkEnv T22 G22 lVG2240
theorem eVG2240 : EOk Try.prog VG2240 := eok_mk (by exact ⟨c61,trivial⟩)
def Af40 (F : Nat) : Cuts := { F := F,at_ := fun n => match n with | 3018 => some sp11 | 11012 => some sp12 | _ => none,join := fun n => match n with | 1047 => some [(0,.plain)] | 2045 => some [(0,.plain),(3,.plain)] | 3020 => some sp11 | 9022 => some [(0,.plain),(3,.plain)] | 10020 => some [(0,.plain),(6,.plain)] | 11014 => some sp12 | 15003 => some [(6,.plain)] | _ => none,fin := (some [(2,(.own 22))]) }
def ef40_a : Ty6 → St := fun (a0,a1) => { tmps := [(0,(.own 0 0 1))],heap := [(0,(.cells 2 (.segs (.cons 1 (.one (.vs (.rL .i64 a0) 0 1)) (.cons 1 (.one (.vs (.rL .i64 a1) 0 1)) .nil))) true))],next := 1,nt := 36,m := 1 }
def ef40j1 : Ty6 → St := fun (x1,x2) => { tmps := [(0,(.own 0 0 1))],heap := [(0,(.cells 2 (.segs (.cons 1 (.one (.vs (.rL .i64 x1) 0 1)) (.cons 1 (.one (.vs (.rL .i64 x2) 0 1)) .nil))) true))],next := 1,nt := 36,m := 1 }
def ef40j2 : Ty17 → St := fun (t3,x2,x3) => { tmps := [(0,(.own 0 0 1)),(3,(.int .i64 t3))],heap := [(0,(.cells 2 (.segs (.cons 1 (.one (.vs (.rL .i64 x2) 0 1)) (.cons 1 (.one (.vs (.rL .i64 x3) 0 1)) .nil))) true))],next := 1,nt := 36,m := 1 }
def ef40j3 : Ty18 → St := fun (t3,t10,t11,x4,x5) => { tmps := [(0,(.own 0 0 1)),(3,(.int .i64 t3)),(9,(.own 0 0 1)),(10,(.int .i64 t10)),(11,(.int .i64 t11))],heap := [(0,(.cells 2 (.segs (.cons 1 (.one (.vs (.rL .i64 x4) 0 1)) (.cons 1 (.one (.vs (.rL .i64 x5) 0 1)) .nil))) true))],next := 1,nt := 36,m := 1 }
def ef40l1 : Ty18 → St := fun (t3,t10,t11,x4,x5) => { tmps := [(0,(.own 0 0 1)),(3,(.int .i64 t3)),(9,(.own 0 0 1)),(10,(.int .i64 t10)),(11,(.int .i64 t11))],heap := [(0,(.cells 2 (.segs (.cons 1 (.one (.vs (.rL .i64 x4) 0 1)) (.cons 1 (.one (.vs (.rL .i64 x5) 0 1)) .nil))) true))],next := 1,nt := 36,m := 1 }
def ef40j4 : Ty17 → St := fun (t3,x2,x3) => { tmps := [(0,(.own 0 0 1)),(3,(.int .i64 t3))],heap := [(0,(.cells 2 (.segs (.cons 1 (.one (.vs (.rL .i64 x2) 0 1)) (.cons 1 (.one (.vs (.rL .i64 x3) 0 1)) .nil))) true))],next := 1,nt := 36,m := 1 }
def ef40j5 : Ty19 → St := fun (x1,x2,x3) => { tmps := [(0,(.own 0 0 1)),(6,(.own 1 0 1))],heap := [(0,(.cells 2 (.segs (.cons 1 (.one (.vs (.rL .i64 x1) 0 1)) (.cons 1 (.one (.vs (.rL .i64 x2) 0 1)) .nil))) true)),(1,(.cells x3.length (.rL .i64 x3) true))],next := 2,nt := 36,m := 1 }
def ef40j6 : Ty20 → St := fun (t26,t27,x3,x4,x5) => { tmps := [(6,(.own 1 0 1)),(25,(.own 0 0 1)),(26,(.int .i64 t26)),(27,(.int .i64 t27))],heap := [(0,(.cells 2 (.segs (.cons 1 (.one (.vs (.rL .i64 x3) 0 1)) (.cons 1 (.one (.vs (.rL .i64 x4) 0 1)) .nil))) true)),(1,(.cells x5.length (.rL .i64 x5) true))],next := 2,nt := 36,m := 1 }
def ef40l2 : Ty20 → St := fun (t26,t27,x3,x4,x5) => { tmps := [(6,(.own 1 0 1)),(25,(.own 0 0 1)),(26,(.int .i64 t26)),(27,(.int .i64 t27))],heap := [(0,(.cells 2 (.segs (.cons 1 (.one (.vs (.rL .i64 x3) 0 1)) (.cons 1 (.one (.vs (.rL .i64 x4) 0 1)) .nil))) true)),(1,(.cells x5.length (.rL .i64 x5) true))],next := 2,nt := 36,m := 1 }
def ef40j7 : Ty19 → St := fun (x1,x2,x3) => { tmps := [(6,(.own 1 0 1))],heap := [(0,(.cells 2 (.segs (.cons 1 (.one (.vs (.rL .i64 x1) 0 1)) (.cons 1 (.one (.vs (.rL .i64 x2) 0 1)) .nil))) true)),(1,(.cells x3.length (.rL .i64 x3) true))],next := 2,nt := 36,m := 1 }
def f40_1 (F : Nat) (kf40j1 : Ty6 → Rz) : Ty6 → Rz := fun (a0,a1) => (kf40j1 (a0,a1))
theorem f40_1_eq (F : Nat) (Rf40j1 : St → Rz) : ∀ v,aexec VG2240 (Af40 F) (bp Try.f40 2) (ef40_a v) (kSeq (kc VG2240 Rf40j1 [(0,.plain)]) (kFin VG2240 (some [(2,(.own 22))]) (Try.f40).results.toList)) = f40_1 F (Rf40j1 ∘ ef40j1) v := by
  rintro ⟨a0,a1⟩; kernel_rfl
def f40_2 (F : Nat) (kf40j2 : Ty17 → Rz) : Ty6 → Rz := fun (x1,x2) => (kf40j2 ((0 : Int),x1,x2))
theorem f40_2_eq (F : Nat) (Rf40j2 : St → Rz) : ∀ v,aexec VG2240 (Af40 F) (bp Try.f40 6) (ef40j1 v) (kSeq (kc VG2240 Rf40j2 [(0,.plain),(3,.plain)]) (kFin VG2240 (some [(2,(.own 22))]) (Try.f40).results.toList)) = f40_2 F (Rf40j2 ∘ ef40j2) v := by
  rintro ⟨x1,x2⟩; kernel_rfl
def f40_3 (F : Nat) (kf40j3 : Ty18 → Rz) (kf40j4 : Ty17 → Rz) : Ty17 → Rz := fun (t3,x2,x3) => (kf40j3 (t3,(2 : Int),(0 : Int),x2,x3))
theorem f40_3_eq (F : Nat) (Rf40j3 : St → Rz) (Rf40j4 : St → Rz) : ∀ v,aexec VG2240 (Af40 F) (bp Try.f40 28) (ef40j2 v) (kSeq (kc VG2240 Rf40j3 sp11) (kSeq (kc VG2240 Rf40j4 [(0,.plain),(3,.plain)]) (kFin VG2240 (some [(2,(.own 22))]) (Try.f40).results.toList))) = f40_3 F (Rf40j3 ∘ ef40j3) (Rf40j4 ∘ ef40j4) v := by
  rintro ⟨t3,x2,x3⟩; kernel_rfl
def f40_4 (F : Nat) (kf40l1 : Ty18 → Rz) (kf40j4 : Ty17 → Rz) : Ty18 → Rz := fun (t3,t10,t11,x4,x5) => (cond (decide (t11 < t10)) (cond ((decide (0 ≤ t11)) && (decide (t11 < (2 : Int)))) (cond (Nat.beq (Int.toNat t11) 0) (cond (decide ((IntKind.i64.wrap (t3 + (↑x4.length : Int))) < (0 : Int))) none (kf40l1 ((IntKind.i64.wrap (t3 + (↑x4.length : Int))),t10,(IntKind.i64.wrap (t11 + (1 : Int))),x4,x5))) (cond (Nat.beq (Int.toNat t11) 1) (cond (decide ((IntKind.i64.wrap (t3 + (↑x5.length : Int))) < (0 : Int))) none (kf40l1 ((IntKind.i64.wrap (t3 + (↑x5.length : Int))),t10,(IntKind.i64.wrap (t11 + (1 : Int))),x4,x5))) none)) none) (kf40j4 (t3,x4,x5)))
theorem f40_4_eq (F : Nat) (Rf40l1 : St → Rz) (Rf40j4 : St → Rz) : ∀ v,aexec VG2240 (Af40 F) (bp Try.f40 116) (ef40l1 v) (kSeq (kc VG2240 Rf40l1 sp11) (kBlock 0 (kSeq (kc VG2240 Rf40j4 [(0,.plain),(3,.plain)]) (kFin VG2240 (some [(2,(.own 22))]) (Try.f40).results.toList)))) = f40_4 F (Rf40l1 ∘ ef40l1) (Rf40j4 ∘ ef40j4) v := by
  rintro ⟨t3,t10,t11,x4,x5⟩; kernel_rfl
def f40_5_i : Ty18 → Int × Int × Int × (List (List Int)) × (List (List Int)) := fun (t3,t10,t11,x4,x5) => (t3,t10,t11,x4,x5)
def f40_5 (F : Nat) (kf40j4 : Ty17 → Rz) : Ty18 → Rz := fun v => loopN (fun k => f40_4 F k kf40j4) F (f40_5_i v)
theorem f40_5_eq (F : Nat) (Rf40j4 : St → Rz) : ∀ v,aexec VG2240 (Af40 F) (bp Try.f40 58) (ef40j3 v) (kBlock 0 (kSeq (kc VG2240 Rf40j4 [(0,.plain),(3,.plain)]) (kFin VG2240 (some [(2,(.own 22))]) (Try.f40).results.toList))) = f40_5 F (Rf40j4 ∘ ef40j4) v :=
  loop_cut (by kernel_rfl) (by kernel_rfl) ef40j3 ef40l1 _ f40_5_i (fun k => f40_4 F k (Rf40j4 ∘ ef40j4))
    (by rintro ⟨t3,t10,t11,x4,x5⟩; kernel_rfl) (fun Rf40l1 => f40_4_eq F Rf40l1 Rf40j4)
def f40_6 (F : Nat) (kf40j4 : Ty17 → Rz) : Ty18 → Rz := f40_5 F kf40j4
theorem f40_6_eq (F : Nat) (Rf40j4 : St → Rz) : ∀ v,aexec VG2240 (Af40 F) (bp Try.f40 29) (ef40j3 v) (kSeq (kc VG2240 Rf40j4 [(0,.plain),(3,.plain)]) (kFin VG2240 (some [(2,(.own 22))]) (Try.f40).results.toList)) = f40_6 F (Rf40j4 ∘ ef40j4) v := fun v =>
  (block_in  (by kernel_rfl) _ _).trans (f40_5_eq F Rf40j4 v)
def f40_7 (F : Nat) (kf40j4 : Ty17 → Rz) : Ty17 → Rz := fun v => f40_3 F (f40_6 F kf40j4) kf40j4 v
theorem f40_7_eq (F : Nat) (Rf40j4 : St → Rz) : ∀ v,aexec VG2240 (Af40 F) (bp Try.f40 14) (ef40j2 v) (kSeq (kc VG2240 Rf40j4 [(0,.plain),(3,.plain)]) (kFin VG2240 (some [(2,(.own 22))]) (Try.f40).results.toList)) = f40_7 F (Rf40j4 ∘ ef40j4) v :=
  seq_cut (by kernel_rfl) (by kernel_rfl) ef40j2 ef40j3 _ (fun k => f40_3 F k (Rf40j4 ∘ ef40j4)) (f40_6 F (Rf40j4 ∘ ef40j4))
    (fun Rf40j3 => f40_3_eq F Rf40j3 Rf40j4) (f40_6_eq F Rf40j4)
def f40_8 (F : Nat) (kf40j5 : Ty19 → Rz) : Ty17 → Rz := fun (t3,x2,x3) => (cond ((decide (0 ≤ t3)) && (decide (Int.toNat t3 < 1073741000))) (kf40j5 (x2,x3,[])) none)
theorem f40_8_eq (F : Nat) (Rf40j5 : St → Rz) : ∀ v,aexec VG2240 (Af40 F) (bp Try.f40 30) (ef40j4 v) (kSeq (kc VG2240 Rf40j5 [(0,.plain),(6,.plain)]) (kFin VG2240 (some [(2,(.own 22))]) (Try.f40).results.toList)) = f40_8 F (Rf40j5 ∘ ef40j5) v := by
  rintro ⟨t3,x2,x3⟩; kernel_rfl
def f40_9 (F : Nat) (kf40j6 : Ty20 → Rz) (kf40j7 : Ty19 → Rz) : Ty19 → Rz := fun (x1,x2,x3) => (kf40j6 ((2 : Int),(0 : Int),x1,x2,x3))
theorem f40_9_eq (F : Nat) (Rf40j6 : St → Rz) (Rf40j7 : St → Rz) : ∀ v,aexec VG2240 (Af40 F) (bp Try.f40 124) (ef40j5 v) (kSeq (kc VG2240 Rf40j6 sp12) (kSeq (kc VG2240 Rf40j7 [(6,.plain)]) (kFin VG2240 (some [(2,(.own 22))]) (Try.f40).results.toList))) = f40_9 F (Rf40j6 ∘ ef40j6) (Rf40j7 ∘ ef40j7) v := by
  rintro ⟨x1,x2,x3⟩; kernel_rfl
def f40_10 (F : Nat) (kf40l2 : Ty20 → Rz) (kf40j7 : Ty19 → Rz) : Ty20 → Rz := fun (t26,t27,x3,x4,x5) => (cond (decide (t27 < t26)) (cond ((decide (0 ≤ t27)) && (decide (t27 < (2 : Int)))) (cond (Nat.beq (Int.toNat t27) 0) (cond (decide ((x5.length + x3.length) < 1073741824)) (kf40l2 (t26,(IntKind.i64.wrap (t27 + (1 : Int))),x3,x4,(x5 ++ x3))) none) (cond (Nat.beq (Int.toNat t27) 1) (cond (decide ((x5.length + x4.length) < 1073741824)) (kf40l2 (t26,(IntKind.i64.wrap (t27 + (1 : Int))),x3,x4,(x5 ++ x4))) none) none)) none) (kf40j7 (x3,x4,x5)))
theorem f40_10_eq (F : Nat) (Rf40l2 : St → Rz) (Rf40j7 : St → Rz) : ∀ v,aexec VG2240 (Af40 F) (bp Try.f40 500) (ef40l2 v) (kSeq (kc VG2240 Rf40l2 sp12) (kBlock 2 (kSeq (kc VG2240 Rf40j7 [(6,.plain)]) (kFin VG2240 (some [(2,(.own 22))]) (Try.f40).results.toList)))) = f40_10 F (Rf40l2 ∘ ef40l2) (Rf40j7 ∘ ef40j7) v := by
  rintro ⟨t26,t27,x3,x4,x5⟩; kernel_rfl
def f40_11_i : Ty20 → Int × Int × (List (List Int)) × (List (List Int)) × (List (List Int)) := fun (t26,t27,x3,x4,x5) => (t26,t27,x3,x4,x5)
def f40_11 (F : Nat) (kf40j7 : Ty19 → Rz) : Ty20 → Rz := fun v => loopN (fun k => f40_10 F k kf40j7) F (f40_11_i v)
theorem f40_11_eq (F : Nat) (Rf40j7 : St → Rz) : ∀ v,aexec VG2240 (Af40 F) (bp Try.f40 250) (ef40j6 v) (kBlock 2 (kSeq (kc VG2240 Rf40j7 [(6,.plain)]) (kFin VG2240 (some [(2,(.own 22))]) (Try.f40).results.toList))) = f40_11 F (Rf40j7 ∘ ef40j7) v :=
  loop_cut (by kernel_rfl) (by kernel_rfl) ef40j6 ef40l2 _ f40_11_i (fun k => f40_10 F k (Rf40j7 ∘ ef40j7))
    (by rintro ⟨t26,t27,x3,x4,x5⟩; kernel_rfl) (fun Rf40l2 => f40_10_eq F Rf40l2 Rf40j7)
def f40_12 (F : Nat) (kf40j7 : Ty19 → Rz) : Ty20 → Rz := f40_11 F kf40j7
theorem f40_12_eq (F : Nat) (Rf40j7 : St → Rz) : ∀ v,aexec VG2240 (Af40 F) (bp Try.f40 125) (ef40j6 v) (kSeq (kc VG2240 Rf40j7 [(6,.plain)]) (kFin VG2240 (some [(2,(.own 22))]) (Try.f40).results.toList)) = f40_12 F (Rf40j7 ∘ ef40j7) v := fun v =>
  (block_in  (by kernel_rfl) _ _).trans (f40_11_eq F Rf40j7 v)
def f40_13 (F : Nat) (kf40j7 : Ty19 → Rz) : Ty19 → Rz := fun v => f40_9 F (f40_12 F kf40j7) kf40j7 v
theorem f40_13_eq (F : Nat) (Rf40j7 : St → Rz) : ∀ v,aexec VG2240 (Af40 F) (bp Try.f40 62) (ef40j5 v) (kSeq (kc VG2240 Rf40j7 [(6,.plain)]) (kFin VG2240 (some [(2,(.own 22))]) (Try.f40).results.toList)) = f40_13 F (Rf40j7 ∘ ef40j7) v :=
  seq_cut (by kernel_rfl) (by kernel_rfl) ef40j5 ef40j6 _ (fun k => f40_9 F k (Rf40j7 ∘ ef40j7)) (f40_12 F (Rf40j7 ∘ ef40j7))
    (fun Rf40j6 => f40_9_eq F Rf40j6 Rf40j7) (f40_12_eq F Rf40j7)
def f40_14 (F : Nat) : Ty19 → Rz := fun (x1,x2,x3) => (some ((.own 1 0 1),[(.cells 2 (.segs (.cons 1 (.one (.vs (.rL .i64 x1) 0 1)) (.cons 1 (.one (.vs (.rL .i64 x2) 0 1)) .nil))) true),(.cells x3.length (.rL .i64 x3) true)]))
theorem f40_14_eq (F : Nat) : ∀ v,aexec VG2240 (Af40 F) (bp Try.f40 63) (ef40j7 v) (kFin VG2240 (some [(2,(.own 22))]) (Try.f40).results.toList) = f40_14 F v := by
  rintro ⟨x1,x2,x3⟩; kernel_rfl
def f40_15 (F : Nat) : Ty19 → Rz := fun v => f40_13 F (f40_14 F) v
theorem f40_15_eq (F : Nat) : ∀ v,aexec VG2240 (Af40 F) (bp Try.f40 31) (ef40j5 v) (kFin VG2240 (some [(2,(.own 22))]) (Try.f40).results.toList) = f40_15 F v :=
  seq_cut (by kernel_rfl) (by kernel_rfl) ef40j5 ef40j7 _ (fun k => f40_13 F k) (f40_14 F)
    (fun Rf40j7 => f40_13_eq F Rf40j7) (f40_14_eq F)
def f40_16 (F : Nat) : Ty17 → Rz := fun v => f40_8 F (f40_15 F) v
theorem f40_16_eq (F : Nat) : ∀ v,aexec VG2240 (Af40 F) (bp Try.f40 15) (ef40j4 v) (kFin VG2240 (some [(2,(.own 22))]) (Try.f40).results.toList) = f40_16 F v :=
  seq_cut (by kernel_rfl) (by kernel_rfl) ef40j4 ef40j5 _ (fun k => f40_8 F k) (f40_15 F)
    (fun Rf40j5 => f40_8_eq F Rf40j5) (f40_15_eq F)
def f40_17 (F : Nat) : Ty17 → Rz := fun v => f40_7 F (f40_16 F) v
theorem f40_17_eq (F : Nat) : ∀ v,aexec VG2240 (Af40 F) (bp Try.f40 7) (ef40j2 v) (kFin VG2240 (some [(2,(.own 22))]) (Try.f40).results.toList) = f40_17 F v :=
  seq_cut (by kernel_rfl) (by kernel_rfl) ef40j2 ef40j4 _ (fun k => f40_7 F k) (f40_16 F)
    (fun Rf40j4 => f40_7_eq F Rf40j4) (f40_16_eq F)
def f40_18 (F : Nat) : Ty6 → Rz := fun v => f40_2 F (f40_17 F) v
theorem f40_18_eq (F : Nat) : ∀ v,aexec VG2240 (Af40 F) (bp Try.f40 3) (ef40j1 v) (kFin VG2240 (some [(2,(.own 22))]) (Try.f40).results.toList) = f40_18 F v :=
  seq_cut (by kernel_rfl) (by kernel_rfl) ef40j1 ef40j2 _ (fun k => f40_2 F k) (f40_17 F)
    (fun Rf40j2 => f40_2_eq F Rf40j2) (f40_17_eq F)
def f40_19 (F : Nat) : Ty6 → Rz := fun v => f40_1 F (f40_18 F) v
theorem f40_19_eq (F : Nat) : ∀ v,aexec VG2240 (Af40 F) (sub (bodyOf Try.f40) []) (ef40_a v) (kFin VG2240 (some [(2,(.own 22))]) (Try.f40).results.toList) = f40_19 F v :=
  seq_cut (by kernel_rfl) (by kernel_rfl) ef40_a ef40j1 _ (fun k => f40_1 F k) (f40_18 F)
    (fun Rf40j1 => f40_1_eq F Rf40j1) (f40_18_eq F)
def f40 (F : Nat) : Ty6 → Rz := f40_19 F
theorem f40_body (F : Nat) (a0 : List (List Int)) (a1 : List (List Int)) : abody VG2240 (Af40 F) Try.f40 [(.own 0 0 1)] [(.cells 2 (.segs (.cons 1 (.one (.vs (.rL .i64 a0) 0 1)) (.cons 1 (.one (.vs (.rL .i64 a1) 0 1)) .nil))) true)] = f40 F (a0,a1) :=
  (abody_in (c := (sub (bodyOf Try.f40) [])) (by kernel_rfl) (s := ef40_a (a0,a1)) (by kernel_rfl)).trans (f40_19_eq F (a0,a1))
def r40 : CRun := fun X H => match X,H with
  | [(.own 0 0 1)],[(.cells 2 (.segs (.cons 1 (.one (.vs (.rL .i64 a0) 0 1)) (.cons 1 (.one (.vs (.rL .i64 a1) 0 1)) .nil))) true)] => some ((decide (a0.length + a1.length < 1073741000)),(.own 1 0 1),[(.cells 2 (.segs (.cons 1 (.one (.vs (.rL .i64 a0) 0 1)) (.cons 1 (.one (.vs (.rL .i64 a1) 0 1)) .nil))) true),(.cells (a0 ++ a1).length (.rL .i64 (a0 ++ a1)) true)])
  | _,_ => none
theorem s40 (a0 : List (List Int)) (a1 : List (List Int)) (hp : ((decide (a0.length + a1.length < 1073741000))) = true) (k0 : okB (.cells 2 (.segs (.cons 1 (.one (.vs (.rL .i64 a0) 0 1)) (.cons 1 (.one (.vs (.rL .i64 a1) 0 1)) .nil))) true)) : ∃ F,f40 F (a0,a1) = some ((.own 1 0 1),[(.cells 2 (.segs (.cons 1 (.one (.vs (.rL .i64 a0) 0 1)) (.cons 1 (.one (.vs (.rL .i64 a1) 0 1)) .nil))) true),(.cells (a0 ++ a1).length (.rL .i64 (a0 ++ a1)) true)]) := by
  simp only [decide_eq_true_eq] at hp
  obtain ⟨F,hF⟩ : ∃ F,F = 10 := ⟨_,rfl⟩
  refine ⟨F,?_⟩
  simp only [f40_1,f40_2,f40_3,f40_5_i,f40_5,f40_6,f40_7,f40_8,f40_9,f40_10,f40_11_i,f40_11,f40_12,f40_13,f40_14,f40_15,f40_16,f40_17,f40_18,f40_19,f40]
  have w0 : IntKind.i64.wrap (0 + (a0.length : Int)) = (a0.length : Int) := by rw [Int.zero_add]; exact i64w (by omega) (by omega)
  have w1 : IntKind.i64.wrap ((a0.length : Int) + (a1.length : Int)) = ((a0.length + a1.length : Nat) : Int) := by rw [i64w (by omega) (by omega)]; omega
  refine loopN_from (fun i => ((match i with | 0 => 0 | 1 => (a0.length : Int) | _ => ((a0.length + a1.length : Nat) : Int)),2,(i : Int),a0,a1)) 2 (by rfl) (fun i hi k => ?_) (fun k => ?_) _ (by omega)
  · simp only [f40_4,dec_and,Int.toNat_natCast]
    rw [cond_pos (by omega),cond_pos (by omega),i64w (x := (i : Int) + 1) (by omega) (by omega)]
    match i,hi with
    | 0,_ =>
      simp only [w0]
      show cond true (cond (decide ((a0.length : Int) < 0)) none _) _ = _
      rw [cond_true,cond_neg (by omega)]; rfl
    | 1,_ =>
      simp only [w1]
      show cond false _ (cond true (cond (decide (((a0.length + a1.length : Nat) : Int) < 0)) none _) _) = _
      rw [cond_false,cond_true,cond_neg (by omega)]; rfl
  · simp only [f40_4,f40_1,f40_2,f40_3,f40_5_i,f40_5,f40_6,f40_7,f40_8,f40_9,f40_10,f40_11_i,f40_11,f40_12,f40_13,f40_14,f40_15,f40_16,f40_17,f40_18,f40_19,f40,dec_and,Int.toNat_natCast]
    rw [cond_neg (by omega),cond_pos (by omega)]
    refine loopN_from (fun i => (2,(i : Int),a0,a1,(match i with | 0 => [] | 1 => a0 | _ => a0 ++ a1))) 2 (by rfl) (fun i hi k => ?_) (fun k => ?_) _ (by omega)
    · simp only [f40_10,dec_and,Int.toNat_natCast]
      rw [cond_pos (by omega),cond_pos (by omega),i64w (by omega) (by omega)]
      match i,hi with
      | 0,_ =>
        show cond true (cond (decide (0 + a0.length < 1073741824)) (k (2,((0 : Nat) : Int) + 1,a0,a1,[] ++ a0)) none) _ = _
        rw [cond_true,cond_pos (by omega)]; rfl
      | 1,_ =>
        show cond false _ (cond true (cond (decide (a0.length + a1.length < 1073741824)) (k (2,((1 : Nat) : Int) + 1,a0,a1,a0 ++ a1)) none) _) = _
        rw [cond_false,cond_true,cond_pos (by omega)]; rfl
    · simp only [f40_10,f40_14]
      rw [cond_neg (by omega)]
theorem c40 : CallOk Try.prog G22 40 r40 := callOk_of (V := VG2240) mixed tys eVG2240 (f := 40) (fn := Try.f40) Try.func40 (by kernel_rfl) (c := sub (bodyOf Try.f40) []) (by kernel_rfl) (by
  intro X H r H' h hX hH
  unfold r40 at h; split at h <;> try contradiction
  · simp only [Option.some.injEq,Prod.mk.injEq] at h
    obtain ⟨hp,rfl,rfl⟩ := h
    obtain ⟨F,hF⟩ := s40 _ _ hp (hH _ (.head _))
    exact ⟨Af40 F,(f40_body F _ _).trans hF⟩)
end Go.Am
