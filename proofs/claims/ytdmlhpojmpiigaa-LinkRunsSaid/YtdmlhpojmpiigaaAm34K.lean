/- Part of a proof about the functions of the given program. -/
import Derived.Test.YtdmlhpojmpiigaaAm34Ka
set_option linter.unusedVariables false
set_option linter.unusedSimpArgs false
namespace Go.Am
open Go Go.Proofs
abbrev Ty74 := Int × (List Int) × Int × Int × (List Int) × Int × (List (List Int)) × (List Int) × (List (List Int)) × (Lk.E) × (Lk.E) × (Lk.R) × (Lk.R)
abbrev Ty75 := Int × (List Int) × Int × Int × Int × (List (List Int)) × (List Int) × (List (List Int)) × (List (List Int)) × (Lk.E) × (Lk.E) × (Lk.R) × (Lk.R)
abbrev Ty76 := Int × (List Int) × Int × Int × Bool × (List (List Int)) × (List Int) × (Lk.E) × (Lk.E) × (Lk.R) × (Lk.R)
def f3_51 (F : Nat) (kf3j33 : Ty73 → Rz) (kf3j37 : Ty57 → Rz) (kf3j42 : Ty57 → Rz) (kf3l1 : Ty57 → Rz) (kf3j43 : Unit → Rz) : Ty72 → Rz := fun (t1,t2,t11,t12,t18,t122,x21,x22,x23,x24,e1,e2,e3,e4) => (cond t122 (cond ((decide ((0 : Int) ≤ (Int.tmod t12 (12 : Int)))) && (decide ((Int.tmod t12 (12 : Int)) ≤ (↑x23.length : Int)))) (kf3j33 (t1,t2,t11,t18,(x23.take (Int.toNat (Int.tmod t12 (12 : Int)))),x21,x22,e1,e2,e3,e4)) none) (kf3j33 (t1,t2,t11,t18,x23,x21,x22,e1,e2,e3,e4)))
theorem f3_51_eq (F : Nat) (Rf3j33 : St → Rz) (Rf3j37 : St → Rz) (Rf3j42 : St → Rz) (Rf3l1 : St → Rz) (Rf3j43 : St → Rz) : ∀ v,aexec VG343 (Af3 F) (bp Try.f3 1067767805) (ef3j32 v) (kSeq (kc VG343 Rf3j33 sp62) (kBlock 2 (kSeq (kc VG343 Rf3j37 sp46) (kBlock 1 (kSeq (kc VG343 Rf3j42 sp46) (kSeq (kc VG343 Rf3l1 sp46) (kBlock 0 (kSeq (kc VG343 Rf3j43 []) (kFin VG343 none (Try.f3).results.toList))))))))) = f3_51 F (Rf3j33 ∘ ef3j33) (Rf3j37 ∘ ef3j37) (Rf3j42 ∘ ef3j42) (Rf3l1 ∘ ef3l1) (Rf3j43 ∘ ef3j43) v := by
  rintro ⟨t1,t2,t11,t12,t18,t122,x21,x22,x23,x24,e1,e2,e3,e4⟩; kernel_rfl
def f3_52 (F : Nat) (kf3j33 : Ty73 → Rz) (kf3j37 : Ty57 → Rz) (kf3j42 : Ty57 → Rz) (kf3l1 : Ty57 → Rz) (kf3j43 : Unit → Rz) : Ty71 → Rz := fun v => f3_50 F (f3_51 F kf3j33 kf3j37 kf3j42 kf3l1 kf3j43) kf3j33 kf3j37 kf3j42 kf3l1 kf3j43 v
theorem f3_52_eq (F : Nat) (Rf3j33 : St → Rz) (Rf3j37 : St → Rz) (Rf3j42 : St → Rz) (Rf3l1 : St → Rz) (Rf3j43 : St → Rz) : ∀ v,aexec VG343 (Af3 F) (bp Try.f3 533883902) (ef3j31 v) (kSeq (kc VG343 Rf3j33 sp62) (kBlock 2 (kSeq (kc VG343 Rf3j37 sp46) (kBlock 1 (kSeq (kc VG343 Rf3j42 sp46) (kSeq (kc VG343 Rf3l1 sp46) (kBlock 0 (kSeq (kc VG343 Rf3j43 []) (kFin VG343 none (Try.f3).results.toList))))))))) = f3_52 F (Rf3j33 ∘ ef3j33) (Rf3j37 ∘ ef3j37) (Rf3j42 ∘ ef3j42) (Rf3l1 ∘ ef3l1) (Rf3j43 ∘ ef3j43) v :=
  seq_cut (by kernel_rfl) (by kernel_rfl) ef3j31 ef3j32 _ (fun k => f3_50 F k (Rf3j33 ∘ ef3j33) (Rf3j37 ∘ ef3j37) (Rf3j42 ∘ ef3j42) (Rf3l1 ∘ ef3l1) (Rf3j43 ∘ ef3j43)) (f3_51 F (Rf3j33 ∘ ef3j33) (Rf3j37 ∘ ef3j37) (Rf3j42 ∘ ef3j42) (Rf3l1 ∘ ef3l1) (Rf3j43 ∘ ef3j43))
    (fun Rf3j32 => f3_50_eq F Rf3j32 Rf3j33 Rf3j37 Rf3j42 Rf3l1 Rf3j43) (f3_51_eq F Rf3j33 Rf3j37 Rf3j42 Rf3l1 Rf3j43)
def f3_53 (F : Nat) (kf3j34 : Ty74 → Rz) (kf3j37 : Ty57 → Rz) (kf3j42 : Ty57 → Rz) (kf3l1 : Ty57 → Rz) (kf3j43 : Unit → Rz) : Ty73 → Rz := fun (t1,t2,t11,t18,t19,x20,x21,e1,e2,e3,e4) => (cond ((decide (0 ≤ t18)) && (decide (t18 < (↑x21.length : Int)))) (cond ((decide (0 ≤ (x21.getD (Int.toNat t18) 0))) && (decide ((x21.getD (Int.toNat t18) 0) < (2 : Int)))) (cond (Nat.beq (Int.toNat (x21.getD (Int.toNat t18) 0)) 0) (cond ((Lk.room e1) && (decide (t19.length < 1073740000))) (kf3j34 (t1,t2,t11,t18,t19,(Lk.recv e1 t19).2.2,x20,x21,(Lk.recv e1 t19).2.1,(Lk.recv e1 t19).1,e2,e3,e4)) none) (cond (Nat.beq (Int.toNat (x21.getD (Int.toNat t18) 0)) 1) (cond ((Lk.room e2) && (decide (t19.length < 1073740000))) (kf3j34 (t1,t2,t11,t18,t19,(Lk.recv e2 t19).2.2,x20,x21,(Lk.recv e2 t19).2.1,e1,(Lk.recv e2 t19).1,e3,e4)) none) none)) none) none)
theorem f3_53_eq (F : Nat) (Rf3j34 : St → Rz) (Rf3j37 : St → Rz) (Rf3j42 : St → Rz) (Rf3l1 : St → Rz) (Rf3j43 : St → Rz) : ∀ v,aexec VG343 (Af3 F) (bp Try.f3 1067767806) (ef3j33 v) (kSeq (kc VG343 Rf3j34 [(1,.plain),(2,.plain),(7,.plain),(8,.plain),(9,.own 33),(10,.own 3),(11,.plain),(18,.plain),(19,.plain),(20,.plain),(21,.plain)]) (kBlock 2 (kSeq (kc VG343 Rf3j37 sp46) (kBlock 1 (kSeq (kc VG343 Rf3j42 sp46) (kSeq (kc VG343 Rf3l1 sp46) (kBlock 0 (kSeq (kc VG343 Rf3j43 []) (kFin VG343 none (Try.f3).results.toList))))))))) = f3_53 F (Rf3j34 ∘ ef3j34) (Rf3j37 ∘ ef3j37) (Rf3j42 ∘ ef3j42) (Rf3l1 ∘ ef3l1) (Rf3j43 ∘ ef3j43) v := by
  rintro ⟨t1,t2,t11,t18,t19,x20,x21,e1,e2,e3,e4⟩; kernel_rfl
def f3_54 (F : Nat) (kf3j35 : Ty75 → Rz) (kf3j37 : Ty57 → Rz) (kf3j42 : Ty57 → Rz) (kf3l1 : Ty57 → Rz) (kf3j43 : Unit → Rz) : Ty74 → Rz := fun (t1,t2,t11,t18,t19,t21,x21,x22,x23,e1,e2,e3,e4) => (cond ((decide (0 ≤ t18)) && (decide (t18 < (↑x22.length : Int)))) (cond ((decide (0 ≤ (x22.getD (Int.toNat t18) 0))) && (decide ((x22.getD (Int.toNat t18) 0) < (2 : Int)))) (cond (Nat.beq (Int.toNat (x22.getD (Int.toNat t18) 0)) 0) (cond ((Lk.rfine e3.held.length e3) && (decide (t19.length < 1073740000))) (kf3j35 (t1,t2,t11,t21,(Lk.rrecv e3 t19).2.2,x21,x22,x23,(Lk.rrecv e3 t19).2.1,e1,e2,(Lk.rrecv e3 t19).1,e4)) none) (cond (Nat.beq (Int.toNat (x22.getD (Int.toNat t18) 0)) 1) (cond ((Lk.rfine e4.held.length e4) && (decide (t19.length < 1073740000))) (kf3j35 (t1,t2,t11,t21,(Lk.rrecv e4 t19).2.2,x21,x22,x23,(Lk.rrecv e4 t19).2.1,e1,e2,e3,(Lk.rrecv e4 t19).1)) none) none)) none) none)
theorem f3_54_eq (F : Nat) (Rf3j35 : St → Rz) (Rf3j37 : St → Rz) (Rf3j42 : St → Rz) (Rf3l1 : St → Rz) (Rf3j43 : St → Rz) : ∀ v,aexec VG343 (Af3 F) (bp Try.f3 2135535614) (ef3j34 v) (kSeq (kc VG343 Rf3j35 [(1,.plain),(2,.plain),(7,.plain),(8,.plain),(9,.own 33),(10,.own 3),(11,.plain),(20,.plain),(21,.plain),(22,.plain),(23,.plain)]) (kBlock 2 (kSeq (kc VG343 Rf3j37 sp46) (kBlock 1 (kSeq (kc VG343 Rf3j42 sp46) (kSeq (kc VG343 Rf3l1 sp46) (kBlock 0 (kSeq (kc VG343 Rf3j43 []) (kFin VG343 none (Try.f3).results.toList))))))))) = f3_54 F (Rf3j35 ∘ ef3j35) (Rf3j37 ∘ ef3j37) (Rf3j42 ∘ ef3j42) (Rf3l1 ∘ ef3l1) (Rf3j43 ∘ ef3j43) v := by
  rintro ⟨t1,t2,t11,t18,t19,t21,x21,x22,x23,e1,e2,e3,e4⟩; kernel_rfl
def f3_55 (F : Nat) (kf3j36 : Ty63 → Rz) (kf3j37 : Ty57 → Rz) (kf3j42 : Ty57 → Rz) (kf3l1 : Ty57 → Rz) (kf3j43 : Unit → Rz) : Ty75 → Rz := fun (t1,t2,t11,t21,t23,x20,x21,x22,x23,e1,e2,e3,e4) => (cond (t21 != t23) (kf3j36 (t1,t2,t11,true,x20,x21,e1,e2,e3,e4)) (kf3j36 (t1,t2,t11,(!(decide (x22 = x23))),x20,x21,e1,e2,e3,e4)))
theorem f3_55_eq (F : Nat) (Rf3j36 : St → Rz) (Rf3j37 : St → Rz) (Rf3j42 : St → Rz) (Rf3l1 : St → Rz) (Rf3j43 : St → Rz) : ∀ v,aexec VG343 (Af3 F) (bp Try.f3 4271071230) (ef3j35 v) (kSeq (kc VG343 Rf3j36 [(1,.plain),(2,.plain),(7,.plain),(8,.plain),(9,.own 33),(10,.own 3),(11,.plain),(159,.plain)]) (kBlock 2 (kSeq (kc VG343 Rf3j37 sp46) (kBlock 1 (kSeq (kc VG343 Rf3j42 sp46) (kSeq (kc VG343 Rf3l1 sp46) (kBlock 0 (kSeq (kc VG343 Rf3j43 []) (kFin VG343 none (Try.f3).results.toList))))))))) = f3_55 F (Rf3j36 ∘ ef3j36) (Rf3j37 ∘ ef3j37) (Rf3j42 ∘ ef3j42) (Rf3l1 ∘ ef3l1) (Rf3j43 ∘ ef3j43) v := by
  rintro ⟨t1,t2,t11,t21,t23,x20,x21,x22,x23,e1,e2,e3,e4⟩; kernel_rfl
def f3_56 (F : Nat) (kf3j37 : Ty57 → Rz) (kf3j42 : Ty57 → Rz) (kf3l1 : Ty57 → Rz) (kf3j43 : Unit → Rz) : Ty63 → Rz := fun (t1,t2,t11,t159,x19,x20,e1,e2,e3,e4) => (cond t159 (some ((.bool false),[])) (kf3j37 (t1,t2,t11,x19,x20,e1,e2,e3,e4)))
theorem f3_56_eq (F : Nat) (Rf3j37 : St → Rz) (Rf3j42 : St → Rz) (Rf3l1 : St → Rz) (Rf3j43 : St → Rz) : ∀ v,aexec VG343 (Af3 F) (bp Try.f3 4271071231) (ef3j36 v) (kBlock 2 (kSeq (kc VG343 Rf3j37 sp46) (kBlock 1 (kSeq (kc VG343 Rf3j42 sp46) (kSeq (kc VG343 Rf3l1 sp46) (kBlock 0 (kSeq (kc VG343 Rf3j43 []) (kFin VG343 none (Try.f3).results.toList)))))))) = f3_56 F (Rf3j37 ∘ ef3j37) (Rf3j42 ∘ ef3j42) (Rf3l1 ∘ ef3l1) (Rf3j43 ∘ ef3j43) v := by
  rintro ⟨t1,t2,t11,t159,x19,x20,e1,e2,e3,e4⟩; kernel_rfl
def f3_57 (F : Nat) (kf3j37 : Ty57 → Rz) (kf3j42 : Ty57 → Rz) (kf3l1 : Ty57 → Rz) (kf3j43 : Unit → Rz) : Ty75 → Rz := fun v => f3_55 F (f3_56 F kf3j37 kf3j42 kf3l1 kf3j43) kf3j37 kf3j42 kf3l1 kf3j43 v
theorem f3_57_eq (F : Nat) (Rf3j37 : St → Rz) (Rf3j42 : St → Rz) (Rf3l1 : St → Rz) (Rf3j43 : St → Rz) : ∀ v,aexec VG343 (Af3 F) (bp Try.f3 2135535615) (ef3j35 v) (kBlock 2 (kSeq (kc VG343 Rf3j37 sp46) (kBlock 1 (kSeq (kc VG343 Rf3j42 sp46) (kSeq (kc VG343 Rf3l1 sp46) (kBlock 0 (kSeq (kc VG343 Rf3j43 []) (kFin VG343 none (Try.f3).results.toList)))))))) = f3_57 F (Rf3j37 ∘ ef3j37) (Rf3j42 ∘ ef3j42) (Rf3l1 ∘ ef3l1) (Rf3j43 ∘ ef3j43) v :=
  seq_cut (by kernel_rfl) (by kernel_rfl) ef3j35 ef3j36 _ (fun k => f3_55 F k (Rf3j37 ∘ ef3j37) (Rf3j42 ∘ ef3j42) (Rf3l1 ∘ ef3l1) (Rf3j43 ∘ ef3j43)) (f3_56 F (Rf3j37 ∘ ef3j37) (Rf3j42 ∘ ef3j42) (Rf3l1 ∘ ef3l1) (Rf3j43 ∘ ef3j43))
    (fun Rf3j36 => f3_55_eq F Rf3j36 Rf3j37 Rf3j42 Rf3l1 Rf3j43) (f3_56_eq F Rf3j37 Rf3j42 Rf3l1 Rf3j43)
def f3_58 (F : Nat) (kf3j37 : Ty57 → Rz) (kf3j42 : Ty57 → Rz) (kf3l1 : Ty57 → Rz) (kf3j43 : Unit → Rz) : Ty74 → Rz := fun v => f3_54 F (f3_57 F kf3j37 kf3j42 kf3l1 kf3j43) kf3j37 kf3j42 kf3l1 kf3j43 v
theorem f3_58_eq (F : Nat) (Rf3j37 : St → Rz) (Rf3j42 : St → Rz) (Rf3l1 : St → Rz) (Rf3j43 : St → Rz) : ∀ v,aexec VG343 (Af3 F) (bp Try.f3 1067767807) (ef3j34 v) (kBlock 2 (kSeq (kc VG343 Rf3j37 sp46) (kBlock 1 (kSeq (kc VG343 Rf3j42 sp46) (kSeq (kc VG343 Rf3l1 sp46) (kBlock 0 (kSeq (kc VG343 Rf3j43 []) (kFin VG343 none (Try.f3).results.toList)))))))) = f3_58 F (Rf3j37 ∘ ef3j37) (Rf3j42 ∘ ef3j42) (Rf3l1 ∘ ef3l1) (Rf3j43 ∘ ef3j43) v :=
  seq_cut (by kernel_rfl) (by kernel_rfl) ef3j34 ef3j35 _ (fun k => f3_54 F k (Rf3j37 ∘ ef3j37) (Rf3j42 ∘ ef3j42) (Rf3l1 ∘ ef3l1) (Rf3j43 ∘ ef3j43)) (f3_57 F (Rf3j37 ∘ ef3j37) (Rf3j42 ∘ ef3j42) (Rf3l1 ∘ ef3l1) (Rf3j43 ∘ ef3j43))
    (fun Rf3j35 => f3_54_eq F Rf3j35 Rf3j37 Rf3j42 Rf3l1 Rf3j43) (f3_57_eq F Rf3j37 Rf3j42 Rf3l1 Rf3j43)
def f3_59 (F : Nat) (kf3j37 : Ty57 → Rz) (kf3j42 : Ty57 → Rz) (kf3l1 : Ty57 → Rz) (kf3j43 : Unit → Rz) : Ty73 → Rz := fun v => f3_53 F (f3_58 F kf3j37 kf3j42 kf3l1 kf3j43) kf3j37 kf3j42 kf3l1 kf3j43 v
theorem f3_59_eq (F : Nat) (Rf3j37 : St → Rz) (Rf3j42 : St → Rz) (Rf3l1 : St → Rz) (Rf3j43 : St → Rz) : ∀ v,aexec VG343 (Af3 F) (bp Try.f3 533883903) (ef3j33 v) (kBlock 2 (kSeq (kc VG343 Rf3j37 sp46) (kBlock 1 (kSeq (kc VG343 Rf3j42 sp46) (kSeq (kc VG343 Rf3l1 sp46) (kBlock 0 (kSeq (kc VG343 Rf3j43 []) (kFin VG343 none (Try.f3).results.toList)))))))) = f3_59 F (Rf3j37 ∘ ef3j37) (Rf3j42 ∘ ef3j42) (Rf3l1 ∘ ef3l1) (Rf3j43 ∘ ef3j43) v :=
  seq_cut (by kernel_rfl) (by kernel_rfl) ef3j33 ef3j34 _ (fun k => f3_53 F k (Rf3j37 ∘ ef3j37) (Rf3j42 ∘ ef3j42) (Rf3l1 ∘ ef3l1) (Rf3j43 ∘ ef3j43)) (f3_58 F (Rf3j37 ∘ ef3j37) (Rf3j42 ∘ ef3j42) (Rf3l1 ∘ ef3l1) (Rf3j43 ∘ ef3j43))
    (fun Rf3j34 => f3_53_eq F Rf3j34 Rf3j37 Rf3j42 Rf3l1 Rf3j43) (f3_58_eq F Rf3j37 Rf3j42 Rf3l1 Rf3j43)
def f3_60 (F : Nat) (kf3j37 : Ty57 → Rz) (kf3j42 : Ty57 → Rz) (kf3l1 : Ty57 → Rz) (kf3j43 : Unit → Rz) : Ty71 → Rz := fun v => f3_52 F (f3_59 F kf3j37 kf3j42 kf3l1 kf3j43) kf3j37 kf3j42 kf3l1 kf3j43 v
theorem f3_60_eq (F : Nat) (Rf3j37 : St → Rz) (Rf3j42 : St → Rz) (Rf3l1 : St → Rz) (Rf3j43 : St → Rz) : ∀ v,aexec VG343 (Af3 F) (bp Try.f3 266941951) (ef3j31 v) (kBlock 2 (kSeq (kc VG343 Rf3j37 sp46) (kBlock 1 (kSeq (kc VG343 Rf3j42 sp46) (kSeq (kc VG343 Rf3l1 sp46) (kBlock 0 (kSeq (kc VG343 Rf3j43 []) (kFin VG343 none (Try.f3).results.toList)))))))) = f3_60 F (Rf3j37 ∘ ef3j37) (Rf3j42 ∘ ef3j42) (Rf3l1 ∘ ef3l1) (Rf3j43 ∘ ef3j43) v :=
  seq_cut (by kernel_rfl) (by kernel_rfl) ef3j31 ef3j33 _ (fun k => f3_52 F k (Rf3j37 ∘ ef3j37) (Rf3j42 ∘ ef3j42) (Rf3l1 ∘ ef3l1) (Rf3j43 ∘ ef3j43)) (f3_59 F (Rf3j37 ∘ ef3j37) (Rf3j42 ∘ ef3j42) (Rf3l1 ∘ ef3l1) (Rf3j43 ∘ ef3j43))
    (fun Rf3j33 => f3_52_eq F Rf3j33 Rf3j37 Rf3j42 Rf3l1 Rf3j43) (f3_59_eq F Rf3j37 Rf3j42 Rf3l1 Rf3j43)
def f3_61 (F : Nat) (kf3j37 : Ty57 → Rz) (kf3j42 : Ty57 → Rz) (kf3l1 : Ty57 → Rz) (kf3j43 : Unit → Rz) : Ty71 → Rz := fun v => f3_49 F (f3_60 F kf3j37 kf3j42 kf3l1 kf3j43) kf3j37 kf3j42 kf3l1 kf3j43 v
theorem f3_61_eq (F : Nat) (Rf3j37 : St → Rz) (Rf3j42 : St → Rz) (Rf3l1 : St → Rz) (Rf3j43 : St → Rz) : ∀ v,aexec VG343 (Af3 F) (bp Try.f3 133470975) (ef3j29 v) (kBlock 2 (kSeq (kc VG343 Rf3j37 sp46) (kBlock 1 (kSeq (kc VG343 Rf3j42 sp46) (kSeq (kc VG343 Rf3l1 sp46) (kBlock 0 (kSeq (kc VG343 Rf3j43 []) (kFin VG343 none (Try.f3).results.toList)))))))) = f3_61 F (Rf3j37 ∘ ef3j37) (Rf3j42 ∘ ef3j42) (Rf3l1 ∘ ef3l1) (Rf3j43 ∘ ef3j43) v :=
  seq_cut (by kernel_rfl) (by kernel_rfl) ef3j29 ef3j31 _ (fun k => f3_49 F k (Rf3j37 ∘ ef3j37) (Rf3j42 ∘ ef3j42) (Rf3l1 ∘ ef3l1) (Rf3j43 ∘ ef3j43)) (f3_60 F (Rf3j37 ∘ ef3j37) (Rf3j42 ∘ ef3j42) (Rf3l1 ∘ ef3l1) (Rf3j43 ∘ ef3j43))
    (fun Rf3j31 => f3_49_eq F Rf3j31 Rf3j37 Rf3j42 Rf3l1 Rf3j43) (f3_60_eq F Rf3j37 Rf3j42 Rf3l1 Rf3j43)
def f3_62 (F : Nat) (kf3j37 : Ty57 → Rz) (kf3j42 : Ty57 → Rz) (kf3l1 : Ty57 → Rz) (kf3j43 : Unit → Rz) : Ty69 → Rz := fun v => f3_46 F (f3_61 F kf3j37 kf3j42 kf3l1 kf3j43) kf3j37 kf3j42 kf3l1 kf3j43 v
theorem f3_62_eq (F : Nat) (Rf3j37 : St → Rz) (Rf3j42 : St → Rz) (Rf3l1 : St → Rz) (Rf3j43 : St → Rz) : ∀ v,aexec VG343 (Af3 F) (bp Try.f3 66735487) (ef3j27 v) (kBlock 2 (kSeq (kc VG343 Rf3j37 sp46) (kBlock 1 (kSeq (kc VG343 Rf3j42 sp46) (kSeq (kc VG343 Rf3l1 sp46) (kBlock 0 (kSeq (kc VG343 Rf3j43 []) (kFin VG343 none (Try.f3).results.toList)))))))) = f3_62 F (Rf3j37 ∘ ef3j37) (Rf3j42 ∘ ef3j42) (Rf3l1 ∘ ef3l1) (Rf3j43 ∘ ef3j43) v :=
  seq_cut (by kernel_rfl) (by kernel_rfl) ef3j27 ef3j29 _ (fun k => f3_46 F k (Rf3j37 ∘ ef3j37) (Rf3j42 ∘ ef3j42) (Rf3l1 ∘ ef3l1) (Rf3j43 ∘ ef3j43)) (f3_61 F (Rf3j37 ∘ ef3j37) (Rf3j42 ∘ ef3j42) (Rf3l1 ∘ ef3l1) (Rf3j43 ∘ ef3j43))
    (fun Rf3j29 => f3_46_eq F Rf3j29 Rf3j37 Rf3j42 Rf3l1 Rf3j43) (f3_61_eq F Rf3j37 Rf3j42 Rf3l1 Rf3j43)
def f3_63 (F : Nat) (kf3j37 : Ty57 → Rz) (kf3j42 : Ty57 → Rz) (kf3l1 : Ty57 → Rz) (kf3j43 : Unit → Rz) : Ty59 → Rz := fun v => f3_43 F (f3_62 F kf3j37 kf3j42 kf3l1 kf3j43) kf3j37 kf3j42 kf3l1 kf3j43 v
theorem f3_63_eq (F : Nat) (Rf3j37 : St → Rz) (Rf3j42 : St → Rz) (Rf3l1 : St → Rz) (Rf3j43 : St → Rz) : ∀ v,aexec VG343 (Af3 F) (bp Try.f3 33367743) (ef3j26 v) (kBlock 2 (kSeq (kc VG343 Rf3j37 sp46) (kBlock 1 (kSeq (kc VG343 Rf3j42 sp46) (kSeq (kc VG343 Rf3l1 sp46) (kBlock 0 (kSeq (kc VG343 Rf3j43 []) (kFin VG343 none (Try.f3).results.toList)))))))) = f3_63 F (Rf3j37 ∘ ef3j37) (Rf3j42 ∘ ef3j42) (Rf3l1 ∘ ef3l1) (Rf3j43 ∘ ef3j43) v :=
  seq_cut (by kernel_rfl) (by kernel_rfl) ef3j26 ef3j27 _ (fun k => f3_43 F k (Rf3j37 ∘ ef3j37) (Rf3j42 ∘ ef3j42) (Rf3l1 ∘ ef3l1) (Rf3j43 ∘ ef3j43)) (f3_62 F (Rf3j37 ∘ ef3j37) (Rf3j42 ∘ ef3j42) (Rf3l1 ∘ ef3l1) (Rf3j43 ∘ ef3j43))
    (fun Rf3j27 => f3_43_eq F Rf3j27 Rf3j37 Rf3j42 Rf3l1 Rf3j43) (f3_62_eq F Rf3j37 Rf3j42 Rf3l1 Rf3j43)
def f3_64 (F : Nat) (kf3j37 : Ty57 → Rz) (kf3j42 : Ty57 → Rz) (kf3l1 : Ty57 → Rz) (kf3j43 : Unit → Rz) : Ty58 → Rz := fun v => f3_42 F (f3_63 F kf3j37 kf3j42 kf3l1 kf3j43) kf3j37 kf3j42 kf3l1 kf3j43 v
theorem f3_64_eq (F : Nat) (Rf3j37 : St → Rz) (Rf3j42 : St → Rz) (Rf3l1 : St → Rz) (Rf3j43 : St → Rz) : ∀ v,aexec VG343 (Af3 F) (bp Try.f3 16683871) (ef3j25 v) (kBlock 2 (kSeq (kc VG343 Rf3j37 sp46) (kBlock 1 (kSeq (kc VG343 Rf3j42 sp46) (kSeq (kc VG343 Rf3l1 sp46) (kBlock 0 (kSeq (kc VG343 Rf3j43 []) (kFin VG343 none (Try.f3).results.toList)))))))) = f3_64 F (Rf3j37 ∘ ef3j37) (Rf3j42 ∘ ef3j42) (Rf3l1 ∘ ef3l1) (Rf3j43 ∘ ef3j43) v :=
  seq_cut (by kernel_rfl) (by kernel_rfl) ef3j25 ef3j26 _ (fun k => f3_42 F k (Rf3j37 ∘ ef3j37) (Rf3j42 ∘ ef3j42) (Rf3l1 ∘ ef3l1) (Rf3j43 ∘ ef3j43)) (f3_63 F (Rf3j37 ∘ ef3j37) (Rf3j42 ∘ ef3j42) (Rf3l1 ∘ ef3l1) (Rf3j43 ∘ ef3j43))
    (fun Rf3j26 => f3_42_eq F Rf3j26 Rf3j37 Rf3j42 Rf3l1 Rf3j43) (f3_63_eq F Rf3j37 Rf3j42 Rf3l1 Rf3j43)
def f3_65 (F : Nat) (kf3j37 : Ty57 → Rz) (kf3j42 : Ty57 → Rz) (kf3l1 : Ty57 → Rz) (kf3j43 : Unit → Rz) : Ty64 → Rz := fun v => f3_41 F (f3_64 F kf3j37 kf3j42 kf3l1 kf3j43) kf3j37 kf3j42 kf3l1 kf3j43 v
theorem f3_65_eq (F : Nat) (Rf3j37 : St → Rz) (Rf3j42 : St → Rz) (Rf3l1 : St → Rz) (Rf3j43 : St → Rz) : ∀ v,aexec VG343 (Af3 F) (bp Try.f3 8341935) (ef3j16 v) (kBlock 2 (kSeq (kc VG343 Rf3j37 sp46) (kBlock 1 (kSeq (kc VG343 Rf3j42 sp46) (kSeq (kc VG343 Rf3l1 sp46) (kBlock 0 (kSeq (kc VG343 Rf3j43 []) (kFin VG343 none (Try.f3).results.toList)))))))) = f3_65 F (Rf3j37 ∘ ef3j37) (Rf3j42 ∘ ef3j42) (Rf3l1 ∘ ef3l1) (Rf3j43 ∘ ef3j43) v :=
  seq_cut (by kernel_rfl) (by kernel_rfl) ef3j16 ef3j25 _ (fun k => f3_41 F k (Rf3j37 ∘ ef3j37) (Rf3j42 ∘ ef3j42) (Rf3l1 ∘ ef3l1) (Rf3j43 ∘ ef3j43)) (f3_64 F (Rf3j37 ∘ ef3j37) (Rf3j42 ∘ ef3j42) (Rf3l1 ∘ ef3l1) (Rf3j43 ∘ ef3j43))
    (fun Rf3j25 => f3_41_eq F Rf3j25 Rf3j37 Rf3j42 Rf3l1 Rf3j43) (f3_64_eq F Rf3j37 Rf3j42 Rf3l1 Rf3j43)
def f3_66 (F : Nat) (kf3j37 : Ty57 → Rz) (kf3j42 : Ty57 → Rz) (kf3l1 : Ty57 → Rz) (kf3j43 : Unit → Rz) : Ty64 → Rz := fun v => cond ((fun (t1,t2,t11,t12,t13,t181,x21,x22,e1,e2,e3,e4) => t181) v) (f3_40 F kf3j37 kf3j42 kf3l1 kf3j43 v) (f3_65 F kf3j37 kf3j42 kf3l1 kf3j43 v)
theorem f3_66_eq (F : Nat) (Rf3j37 : St → Rz) (Rf3j42 : St → Rz) (Rf3l1 : St → Rz) (Rf3j43 : St → Rz) : ∀ v,aexec VG343 (Af3 F) (bp Try.f3 4170967) (ef3j16 v) (kBlock 2 (kSeq (kc VG343 Rf3j37 sp46) (kBlock 1 (kSeq (kc VG343 Rf3j42 sp46) (kSeq (kc VG343 Rf3l1 sp46) (kBlock 0 (kSeq (kc VG343 Rf3j43 []) (kFin VG343 none (Try.f3).results.toList)))))))) = f3_66 F (Rf3j37 ∘ ef3j37) (Rf3j42 ∘ ef3j42) (Rf3l1 ∘ ef3l1) (Rf3j43 ∘ ef3j43) v :=
  cond_in (o := .tmp 181) (by kernel_rfl) ef3j16 _ (fun (t1,t2,t11,t12,t13,t181,x21,x22,e1,e2,e3,e4) => t181) (by rintro ⟨t1,t2,t11,t12,t13,t181,x21,x22,e1,e2,e3,e4⟩; kernel_rfl) _ _ (f3_40_eq F Rf3j37 Rf3j42 Rf3l1 Rf3j43) (f3_65_eq F Rf3j37 Rf3j42 Rf3l1 Rf3j43)
def f3_67 (F : Nat) (kf3j37 : Ty57 → Rz) (kf3j42 : Ty57 → Rz) (kf3l1 : Ty57 → Rz) (kf3j43 : Unit → Rz) : Ty61 → Rz := fun v => f3_20 F (f3_66 F kf3j37 kf3j42 kf3l1 kf3j43) kf3j37 kf3j42 kf3l1 kf3j43 v
theorem f3_67_eq (F : Nat) (Rf3j37 : St → Rz) (Rf3j42 : St → Rz) (Rf3l1 : St → Rz) (Rf3j43 : St → Rz) : ∀ v,aexec VG343 (Af3 F) (bp Try.f3 2085483) (ef3j13 v) (kBlock 2 (kSeq (kc VG343 Rf3j37 sp46) (kBlock 1 (kSeq (kc VG343 Rf3j42 sp46) (kSeq (kc VG343 Rf3l1 sp46) (kBlock 0 (kSeq (kc VG343 Rf3j43 []) (kFin VG343 none (Try.f3).results.toList)))))))) = f3_67 F (Rf3j37 ∘ ef3j37) (Rf3j42 ∘ ef3j42) (Rf3l1 ∘ ef3l1) (Rf3j43 ∘ ef3j43) v :=
  seq_cut (by kernel_rfl) (by kernel_rfl) ef3j13 ef3j16 _ (fun k => f3_20 F k (Rf3j37 ∘ ef3j37) (Rf3j42 ∘ ef3j42) (Rf3l1 ∘ ef3l1) (Rf3j43 ∘ ef3j43)) (f3_66 F (Rf3j37 ∘ ef3j37) (Rf3j42 ∘ ef3j42) (Rf3l1 ∘ ef3l1) (Rf3j43 ∘ ef3j43))
    (fun Rf3j16 => f3_20_eq F Rf3j16 Rf3j37 Rf3j42 Rf3l1 Rf3j43) (f3_66_eq F Rf3j37 Rf3j42 Rf3l1 Rf3j43)
def f3_68 (F : Nat) (kf3j37 : Ty57 → Rz) (kf3j42 : Ty57 → Rz) (kf3l1 : Ty57 → Rz) (kf3j43 : Unit → Rz) : Ty61 → Rz := fun v => cond ((fun (t1,t2,t11,t12,t13,t66,t160,x22,x23,e1,e2,e3,e4) => t160) v) (f3_19 F kf3j37 kf3j42 kf3l1 kf3j43 v) (f3_67 F kf3j37 kf3j42 kf3l1 kf3j43 v)
theorem f3_68_eq (F : Nat) (Rf3j37 : St → Rz) (Rf3j42 : St → Rz) (Rf3l1 : St → Rz) (Rf3j43 : St → Rz) : ∀ v,aexec VG343 (Af3 F) (bp Try.f3 1042741) (ef3j13 v) (kBlock 2 (kSeq (kc VG343 Rf3j37 sp46) (kBlock 1 (kSeq (kc VG343 Rf3j42 sp46) (kSeq (kc VG343 Rf3l1 sp46) (kBlock 0 (kSeq (kc VG343 Rf3j43 []) (kFin VG343 none (Try.f3).results.toList)))))))) = f3_68 F (Rf3j37 ∘ ef3j37) (Rf3j42 ∘ ef3j42) (Rf3l1 ∘ ef3l1) (Rf3j43 ∘ ef3j43) v :=
  cond_in (o := .tmp 160) (by kernel_rfl) ef3j13 _ (fun (t1,t2,t11,t12,t13,t66,t160,x22,x23,e1,e2,e3,e4) => t160) (by rintro ⟨t1,t2,t11,t12,t13,t66,t160,x22,x23,e1,e2,e3,e4⟩; kernel_rfl) _ _ (f3_19_eq F Rf3j37 Rf3j42 Rf3l1 Rf3j43) (f3_67_eq F Rf3j37 Rf3j42 Rf3l1 Rf3j43)
def f3_69 (F : Nat) (kf3j37 : Ty57 → Rz) (kf3j42 : Ty57 → Rz) (kf3l1 : Ty57 → Rz) (kf3j43 : Unit → Rz) : Ty60 → Rz := fun v => f3_14 F (f3_68 F kf3j37 kf3j42 kf3l1 kf3j43) kf3j37 kf3j42 kf3l1 kf3j43 v
theorem f3_69_eq (F : Nat) (Rf3j37 : St → Rz) (Rf3j42 : St → Rz) (Rf3l1 : St → Rz) (Rf3j43 : St → Rz) : ∀ v,aexec VG343 (Af3 F) (bp Try.f3 521370) (ef3j12 v) (kBlock 2 (kSeq (kc VG343 Rf3j37 sp46) (kBlock 1 (kSeq (kc VG343 Rf3j42 sp46) (kSeq (kc VG343 Rf3l1 sp46) (kBlock 0 (kSeq (kc VG343 Rf3j43 []) (kFin VG343 none (Try.f3).results.toList)))))))) = f3_69 F (Rf3j37 ∘ ef3j37) (Rf3j42 ∘ ef3j42) (Rf3l1 ∘ ef3l1) (Rf3j43 ∘ ef3j43) v :=
  seq_cut (by kernel_rfl) (by kernel_rfl) ef3j12 ef3j13 _ (fun k => f3_14 F k (Rf3j37 ∘ ef3j37) (Rf3j42 ∘ ef3j42) (Rf3l1 ∘ ef3l1) (Rf3j43 ∘ ef3j43)) (f3_68 F (Rf3j37 ∘ ef3j37) (Rf3j42 ∘ ef3j42) (Rf3l1 ∘ ef3l1) (Rf3j43 ∘ ef3j43))
    (fun Rf3j13 => f3_14_eq F Rf3j13 Rf3j37 Rf3j42 Rf3l1 Rf3j43) (f3_68_eq F Rf3j37 Rf3j42 Rf3l1 Rf3j43)
def f3_70 (F : Nat) (kf3j37 : Ty57 → Rz) (kf3j42 : Ty57 → Rz) (kf3l1 : Ty57 → Rz) (kf3j43 : Unit → Rz) : Ty60 → Rz := f3_69 F kf3j37 kf3j42 kf3l1 kf3j43
theorem f3_70_eq (F : Nat) (Rf3j37 : St → Rz) (Rf3j42 : St → Rz) (Rf3l1 : St → Rz) (Rf3j43 : St → Rz) : ∀ v,aexec VG343 (Af3 F) (bp Try.f3 260685) (ef3j12 v) (kSeq (kc VG343 Rf3j37 sp46) (kBlock 1 (kSeq (kc VG343 Rf3j42 sp46) (kSeq (kc VG343 Rf3l1 sp46) (kBlock 0 (kSeq (kc VG343 Rf3j43 []) (kFin VG343 none (Try.f3).results.toList))))))) = f3_70 F (Rf3j37 ∘ ef3j37) (Rf3j42 ∘ ef3j42) (Rf3l1 ∘ ef3l1) (Rf3j43 ∘ ef3j43) v := fun v =>
  (block_in  (by kernel_rfl) _ _).trans (f3_69_eq F Rf3j37 Rf3j42 Rf3l1 Rf3j43 v)
def f3_71 (F : Nat) (kf3j37 : Ty57 → Rz) (kf3j42 : Ty57 → Rz) (kf3l1 : Ty57 → Rz) (kf3j43 : Unit → Rz) : Ty59 → Rz := fun v => f3_13 F (f3_70 F kf3j37 kf3j42 kf3l1 kf3j43) kf3j37 kf3j42 kf3l1 kf3j43 v
theorem f3_71_eq (F : Nat) (Rf3j37 : St → Rz) (Rf3j42 : St → Rz) (Rf3l1 : St → Rz) (Rf3j43 : St → Rz) : ∀ v,aexec VG343 (Af3 F) (bp Try.f3 130342) (ef3j11 v) (kSeq (kc VG343 Rf3j37 sp46) (kBlock 1 (kSeq (kc VG343 Rf3j42 sp46) (kSeq (kc VG343 Rf3l1 sp46) (kBlock 0 (kSeq (kc VG343 Rf3j43 []) (kFin VG343 none (Try.f3).results.toList))))))) = f3_71 F (Rf3j37 ∘ ef3j37) (Rf3j42 ∘ ef3j42) (Rf3l1 ∘ ef3l1) (Rf3j43 ∘ ef3j43) v :=
  seq_cut (by kernel_rfl) (by kernel_rfl) ef3j11 ef3j12 _ (fun k => f3_13 F k (Rf3j37 ∘ ef3j37) (Rf3j42 ∘ ef3j42) (Rf3l1 ∘ ef3l1) (Rf3j43 ∘ ef3j43)) (f3_70 F (Rf3j37 ∘ ef3j37) (Rf3j42 ∘ ef3j42) (Rf3l1 ∘ ef3l1) (Rf3j43 ∘ ef3j43))
    (fun Rf3j12 => f3_13_eq F Rf3j12 Rf3j37 Rf3j42 Rf3l1 Rf3j43) (f3_70_eq F Rf3j37 Rf3j42 Rf3l1 Rf3j43)
def f3_72 (F : Nat) (kf3j38 : Ty58 → Rz) (kf3j42 : Ty57 → Rz) (kf3l1 : Ty57 → Rz) (kf3j43 : Unit → Rz) : Ty57 → Rz := fun (t1,t2,t11,x18,x19,e1,e2,e3,e4) => (kf3j38 (t1,t2,t11,(0 : Int),x18,x19,e1,e2,e3,e4))
theorem f3_72_eq (F : Nat) (Rf3j38 : St → Rz) (Rf3j42 : St → Rz) (Rf3l1 : St → Rz) (Rf3j43 : St → Rz) : ∀ v,aexec VG343 (Af3 F) (bp Try.f3 260686) (ef3j37 v) (kSeq (kc VG343 Rf3j38 sp48) (kBlock 1 (kSeq (kc VG343 Rf3j42 sp46) (kSeq (kc VG343 Rf3l1 sp46) (kBlock 0 (kSeq (kc VG343 Rf3j43 []) (kFin VG343 none (Try.f3).results.toList))))))) = f3_72 F (Rf3j38 ∘ ef3j38) (Rf3j42 ∘ ef3j42) (Rf3l1 ∘ ef3l1) (Rf3j43 ∘ ef3j43) v := by
  rintro ⟨t1,t2,t11,x18,x19,e1,e2,e3,e4⟩; kernel_rfl
def f3_73 (F : Nat) (kf3j39 : Ty58 → Rz) (kf3l3 : Ty58 → Rz) (kf3j42 : Ty57 → Rz) (kf3l1 : Ty57 → Rz) (kf3j43 : Unit → Rz) : Ty58 → Rz := fun (t1,t2,t11,t24,x19,x20,e1,e2,e3,e4) => (cond (decide (t24 < (2 : Int))) (kf3j39 (t1,t2,t11,t24,x19,x20,e1,e2,e3,e4)) (kf3j42 (t1,t2,t11,x19,x20,e1,e2,e3,e4)))
theorem f3_73_eq (F : Nat) (Rf3j39 : St → Rz) (Rf3l3 : St → Rz) (Rf3j42 : St → Rz) (Rf3l1 : St → Rz) (Rf3j43 : St → Rz) : ∀ v,aexec VG343 (Af3 F) (bp Try.f3 2085496) (ef3l3 v) (kSeq (kc VG343 Rf3j39 sp48) (kSeq (kc VG343 Rf3l3 sp48) (kBlock 5 (kBlock 1 (kSeq (kc VG343 Rf3j42 sp46) (kSeq (kc VG343 Rf3l1 sp46) (kBlock 0 (kSeq (kc VG343 Rf3j43 []) (kFin VG343 none (Try.f3).results.toList))))))))) = f3_73 F (Rf3j39 ∘ ef3j39) (Rf3l3 ∘ ef3l3) (Rf3j42 ∘ ef3j42) (Rf3l1 ∘ ef3l1) (Rf3j43 ∘ ef3j43) v := by
  rintro ⟨t1,t2,t11,t24,x19,x20,e1,e2,e3,e4⟩; kernel_rfl
def f3_74 (F : Nat) (kf3j40 : Ty76 → Rz) (kf3j41 : Ty58 → Rz) (kf3l3 : Ty58 → Rz) (kf3j42 : Ty57 → Rz) (kf3l1 : Ty57 → Rz) (kf3j43 : Unit → Rz) : Ty58 → Rz := fun (t1,t2,t11,t24,x19,x20,e1,e2,e3,e4) => (cond (decide (t24 = (0 : Int))) (cond (Lk.room e1) (cond ((e1.wait.length : Int) != (IntKind.i64.wrap ((↑e3.sent.length : Int) - e3.ack))) (kf3j40 (t1,t2,t11,(0 : Int),true,x19,x20,e1,e2,e3,e4)) (kf3j40 (t1,t2,t11,(0 : Int),(e1.forged != e3.forged),x19,x20,e1,e2,e3,e4))) none) (cond (decide (t24 = (1 : Int))) (cond (Lk.room e2) (cond ((e2.wait.length : Int) != (IntKind.i64.wrap ((↑e4.sent.length : Int) - e4.ack))) (kf3j40 (t1,t2,t11,(1 : Int),true,x19,x20,e1,e2,e3,e4)) (kf3j40 (t1,t2,t11,(1 : Int),(e2.forged != e4.forged),x19,x20,e1,e2,e3,e4))) none) none))
theorem f3_74_eq (F : Nat) (Rf3j40 : St → Rz) (Rf3j41 : St → Rz) (Rf3l3 : St → Rz) (Rf3j42 : St → Rz) (Rf3l1 : St → Rz) (Rf3j43 : St → Rz) : ∀ v,aexec VG343 (Af3 F) (bp Try.f3 16683976) (ef3j39 v) (kSeq (kc VG343 Rf3j40 [(1,.plain),(2,.plain),(7,.plain),(8,.plain),(9,.own 33),(10,.own 3),(11,.plain),(24,.plain),(256,.plain)]) (kBlock 6 (kSeq (kc VG343 Rf3j41 sp48) (kSeq (kc VG343 Rf3l3 sp48) (kBlock 5 (kBlock 1 (kSeq (kc VG343 Rf3j42 sp46) (kSeq (kc VG343 Rf3l1 sp46) (kBlock 0 (kSeq (kc VG343 Rf3j43 []) (kFin VG343 none (Try.f3).results.toList))))))))))) = f3_74 F (Rf3j40 ∘ ef3j40) (Rf3j41 ∘ ef3j41) (Rf3l3 ∘ ef3l3) (Rf3j42 ∘ ef3j42) (Rf3l1 ∘ ef3l1) (Rf3j43 ∘ ef3j43) v := by
  rintro ⟨t1,t2,t11,t24,x19,x20,e1,e2,e3,e4⟩; kernel_rfl
def f3_75 (F : Nat) (kf3j41 : Ty58 → Rz) (kf3l3 : Ty58 → Rz) (kf3j42 : Ty57 → Rz) (kf3l1 : Ty57 → Rz) (kf3j43 : Unit → Rz) : Ty76 → Rz := fun (t1,t2,t11,t24,t256,x20,x21,e1,e2,e3,e4) => (cond t256 (some ((.bool false),[])) (kf3j41 (t1,t2,t11,t24,x20,x21,e1,e2,e3,e4)))
theorem f3_75_eq (F : Nat) (Rf3j41 : St → Rz) (Rf3l3 : St → Rz) (Rf3j42 : St → Rz) (Rf3l1 : St → Rz) (Rf3j43 : St → Rz) : ∀ v,aexec VG343 (Af3 F) (bp Try.f3 16683977) (ef3j40 v) (kBlock 6 (kSeq (kc VG343 Rf3j41 sp48) (kSeq (kc VG343 Rf3l3 sp48) (kBlock 5 (kBlock 1 (kSeq (kc VG343 Rf3j42 sp46) (kSeq (kc VG343 Rf3l1 sp46) (kBlock 0 (kSeq (kc VG343 Rf3j43 []) (kFin VG343 none (Try.f3).results.toList)))))))))) = f3_75 F (Rf3j41 ∘ ef3j41) (Rf3l3 ∘ ef3l3) (Rf3j42 ∘ ef3j42) (Rf3l1 ∘ ef3l1) (Rf3j43 ∘ ef3j43) v := by
  rintro ⟨t1,t2,t11,t24,t256,x20,x21,e1,e2,e3,e4⟩; kernel_rfl
def f3_76 (F : Nat) (kf3j41 : Ty58 → Rz) (kf3l3 : Ty58 → Rz) (kf3j42 : Ty57 → Rz) (kf3l1 : Ty57 → Rz) (kf3j43 : Unit → Rz) : Ty58 → Rz := fun v => f3_74 F (f3_75 F kf3j41 kf3l3 kf3j42 kf3l1 kf3j43) kf3j41 kf3l3 kf3j42 kf3l1 kf3j43 v
theorem f3_76_eq (F : Nat) (Rf3j41 : St → Rz) (Rf3l3 : St → Rz) (Rf3j42 : St → Rz) (Rf3l1 : St → Rz) (Rf3j43 : St → Rz) : ∀ v,aexec VG343 (Af3 F) (bp Try.f3 8341988) (ef3j39 v) (kBlock 6 (kSeq (kc VG343 Rf3j41 sp48) (kSeq (kc VG343 Rf3l3 sp48) (kBlock 5 (kBlock 1 (kSeq (kc VG343 Rf3j42 sp46) (kSeq (kc VG343 Rf3l1 sp46) (kBlock 0 (kSeq (kc VG343 Rf3j43 []) (kFin VG343 none (Try.f3).results.toList)))))))))) = f3_76 F (Rf3j41 ∘ ef3j41) (Rf3l3 ∘ ef3l3) (Rf3j42 ∘ ef3j42) (Rf3l1 ∘ ef3l1) (Rf3j43 ∘ ef3j43) v :=
  seq_cut (by kernel_rfl) (by kernel_rfl) ef3j39 ef3j40 _ (fun k => f3_74 F k (Rf3j41 ∘ ef3j41) (Rf3l3 ∘ ef3l3) (Rf3j42 ∘ ef3j42) (Rf3l1 ∘ ef3l1) (Rf3j43 ∘ ef3j43)) (f3_75 F (Rf3j41 ∘ ef3j41) (Rf3l3 ∘ ef3l3) (Rf3j42 ∘ ef3j42) (Rf3l1 ∘ ef3l1) (Rf3j43 ∘ ef3j43))
    (fun Rf3j40 => f3_74_eq F Rf3j40 Rf3j41 Rf3l3 Rf3j42 Rf3l1 Rf3j43) (f3_75_eq F Rf3j41 Rf3l3 Rf3j42 Rf3l1 Rf3j43)
def f3_77 (F : Nat) (kf3j41 : Ty58 → Rz) (kf3l3 : Ty58 → Rz) (kf3j42 : Ty57 → Rz) (kf3l1 : Ty57 → Rz) (kf3j43 : Unit → Rz) : Ty58 → Rz := f3_76 F kf3j41 kf3l3 kf3j42 kf3l1 kf3j43
theorem f3_77_eq (F : Nat) (Rf3j41 : St → Rz) (Rf3l3 : St → Rz) (Rf3j42 : St → Rz) (Rf3l1 : St → Rz) (Rf3j43 : St → Rz) : ∀ v,aexec VG343 (Af3 F) (bp Try.f3 4170994) (ef3j39 v) (kSeq (kc VG343 Rf3j41 sp48) (kSeq (kc VG343 Rf3l3 sp48) (kBlock 5 (kBlock 1 (kSeq (kc VG343 Rf3j42 sp46) (kSeq (kc VG343 Rf3l1 sp46) (kBlock 0 (kSeq (kc VG343 Rf3j43 []) (kFin VG343 none (Try.f3).results.toList))))))))) = f3_77 F (Rf3j41 ∘ ef3j41) (Rf3l3 ∘ ef3l3) (Rf3j42 ∘ ef3j42) (Rf3l1 ∘ ef3l1) (Rf3j43 ∘ ef3j43) v := fun v =>
  (block_in  (by kernel_rfl) _ _).trans (f3_76_eq F Rf3j41 Rf3l3 Rf3j42 Rf3l1 Rf3j43 v)
def f3_78 (F : Nat) (kf3l3 : Ty58 → Rz) (kf3j42 : Ty57 → Rz) (kf3l1 : Ty57 → Rz) (kf3j43 : Unit → Rz) : Ty58 → Rz := fun (t1,t2,t11,t24,x19,x20,e1,e2,e3,e4) => (kf3l3 (t1,t2,t11,(IntKind.i64.wrap (t24 + (1 : Int))),x19,x20,e1,e2,e3,e4))
theorem f3_78_eq (F : Nat) (Rf3l3 : St → Rz) (Rf3j42 : St → Rz) (Rf3l1 : St → Rz) (Rf3j43 : St → Rz) : ∀ v,aexec VG343 (Af3 F) (bp Try.f3 4170995) (ef3j41 v) (kSeq (kc VG343 Rf3l3 sp48) (kBlock 5 (kBlock 1 (kSeq (kc VG343 Rf3j42 sp46) (kSeq (kc VG343 Rf3l1 sp46) (kBlock 0 (kSeq (kc VG343 Rf3j43 []) (kFin VG343 none (Try.f3).results.toList)))))))) = f3_78 F (Rf3l3 ∘ ef3l3) (Rf3j42 ∘ ef3j42) (Rf3l1 ∘ ef3l1) (Rf3j43 ∘ ef3j43) v := by
  rintro ⟨t1,t2,t11,t24,x19,x20,e1,e2,e3,e4⟩; kernel_rfl
def f3_79 (F : Nat) (kf3l3 : Ty58 → Rz) (kf3j42 : Ty57 → Rz) (kf3l1 : Ty57 → Rz) (kf3j43 : Unit → Rz) : Ty58 → Rz := fun v => f3_77 F (f3_78 F kf3l3 kf3j42 kf3l1 kf3j43) kf3l3 kf3j42 kf3l1 kf3j43 v
theorem f3_79_eq (F : Nat) (Rf3l3 : St → Rz) (Rf3j42 : St → Rz) (Rf3l1 : St → Rz) (Rf3j43 : St → Rz) : ∀ v,aexec VG343 (Af3 F) (bp Try.f3 2085497) (ef3j39 v) (kSeq (kc VG343 Rf3l3 sp48) (kBlock 5 (kBlock 1 (kSeq (kc VG343 Rf3j42 sp46) (kSeq (kc VG343 Rf3l1 sp46) (kBlock 0 (kSeq (kc VG343 Rf3j43 []) (kFin VG343 none (Try.f3).results.toList)))))))) = f3_79 F (Rf3l3 ∘ ef3l3) (Rf3j42 ∘ ef3j42) (Rf3l1 ∘ ef3l1) (Rf3j43 ∘ ef3j43) v :=
  seq_cut (by kernel_rfl) (by kernel_rfl) ef3j39 ef3j41 _ (fun k => f3_77 F k (Rf3l3 ∘ ef3l3) (Rf3j42 ∘ ef3j42) (Rf3l1 ∘ ef3l1) (Rf3j43 ∘ ef3j43)) (f3_78 F (Rf3l3 ∘ ef3l3) (Rf3j42 ∘ ef3j42) (Rf3l1 ∘ ef3l1) (Rf3j43 ∘ ef3j43))
    (fun Rf3j41 => f3_77_eq F Rf3j41 Rf3l3 Rf3j42 Rf3l1 Rf3j43) (f3_78_eq F Rf3l3 Rf3j42 Rf3l1 Rf3j43)
def f3_80 (F : Nat) (kf3l3 : Ty58 → Rz) (kf3j42 : Ty57 → Rz) (kf3l1 : Ty57 → Rz) (kf3j43 : Unit → Rz) : Ty58 → Rz := fun v => f3_73 F (f3_79 F kf3l3 kf3j42 kf3l1 kf3j43) kf3l3 kf3j42 kf3l1 kf3j43 v
theorem f3_80_eq (F : Nat) (Rf3l3 : St → Rz) (Rf3j42 : St → Rz) (Rf3l1 : St → Rz) (Rf3j43 : St → Rz) : ∀ v,aexec VG343 (Af3 F) (bp Try.f3 1042748) (ef3l3 v) (kSeq (kc VG343 Rf3l3 sp48) (kBlock 5 (kBlock 1 (kSeq (kc VG343 Rf3j42 sp46) (kSeq (kc VG343 Rf3l1 sp46) (kBlock 0 (kSeq (kc VG343 Rf3j43 []) (kFin VG343 none (Try.f3).results.toList)))))))) = f3_80 F (Rf3l3 ∘ ef3l3) (Rf3j42 ∘ ef3j42) (Rf3l1 ∘ ef3l1) (Rf3j43 ∘ ef3j43) v :=
  seq_cut (by kernel_rfl) (by kernel_rfl) ef3l3 ef3j39 _ (fun k => f3_73 F k (Rf3l3 ∘ ef3l3) (Rf3j42 ∘ ef3j42) (Rf3l1 ∘ ef3l1) (Rf3j43 ∘ ef3j43)) (f3_79 F (Rf3l3 ∘ ef3l3) (Rf3j42 ∘ ef3j42) (Rf3l1 ∘ ef3l1) (Rf3j43 ∘ ef3j43))
    (fun Rf3j39 => f3_73_eq F Rf3j39 Rf3l3 Rf3j42 Rf3l1 Rf3j43) (f3_79_eq F Rf3l3 Rf3j42 Rf3l1 Rf3j43)
def f3_81_i : Ty58 → Int × (List Int) × Int × Int × (List (List Int)) × (List Int) × (Lk.E) × (Lk.E) × (Lk.R) × (Lk.R) := fun (t1,t2,t11,t24,x19,x20,e1,e2,e3,e4) => (t1,t2,t11,t24,x19,x20,e1,e2,e3,e4)
def f3_81 (F : Nat) (kf3j42 : Ty57 → Rz) (kf3l1 : Ty57 → Rz) (kf3j43 : Unit → Rz) : Ty58 → Rz := fun v => loopN (fun k => f3_80 F k kf3j42 kf3l1 kf3j43) F (f3_81_i v)
theorem f3_81_eq (F : Nat) (Rf3j42 : St → Rz) (Rf3l1 : St → Rz) (Rf3j43 : St → Rz) : ∀ v,aexec VG343 (Af3 F) (bp Try.f3 521374) (ef3j38 v) (kBlock 5 (kBlock 1 (kSeq (kc VG343 Rf3j42 sp46) (kSeq (kc VG343 Rf3l1 sp46) (kBlock 0 (kSeq (kc VG343 Rf3j43 []) (kFin VG343 none (Try.f3).results.toList))))))) = f3_81 F (Rf3j42 ∘ ef3j42) (Rf3l1 ∘ ef3l1) (Rf3j43 ∘ ef3j43) v :=
  loop_cut (by kernel_rfl) (by kernel_rfl) ef3j38 ef3l3 _ f3_81_i (fun k => f3_80 F k (Rf3j42 ∘ ef3j42) (Rf3l1 ∘ ef3l1) (Rf3j43 ∘ ef3j43))
    (by rintro ⟨t1,t2,t11,t24,x19,x20,e1,e2,e3,e4⟩; kernel_rfl) (fun Rf3l3 => f3_80_eq F Rf3l3 Rf3j42 Rf3l1 Rf3j43)
def f3_82 (F : Nat) (kf3j42 : Ty57 → Rz) (kf3l1 : Ty57 → Rz) (kf3j43 : Unit → Rz) : Ty58 → Rz := f3_81 F kf3j42 kf3l1 kf3j43
theorem f3_82_eq (F : Nat) (Rf3j42 : St → Rz) (Rf3l1 : St → Rz) (Rf3j43 : St → Rz) : ∀ v,aexec VG343 (Af3 F) (bp Try.f3 260687) (ef3j38 v) (kBlock 1 (kSeq (kc VG343 Rf3j42 sp46) (kSeq (kc VG343 Rf3l1 sp46) (kBlock 0 (kSeq (kc VG343 Rf3j43 []) (kFin VG343 none (Try.f3).results.toList)))))) = f3_82 F (Rf3j42 ∘ ef3j42) (Rf3l1 ∘ ef3l1) (Rf3j43 ∘ ef3j43) v := fun v =>
  (block_in  (by kernel_rfl) _ _).trans (f3_81_eq F Rf3j42 Rf3l1 Rf3j43 v)
def f3_83 (F : Nat) (kf3j42 : Ty57 → Rz) (kf3l1 : Ty57 → Rz) (kf3j43 : Unit → Rz) : Ty57 → Rz := fun v => f3_72 F (f3_82 F kf3j42 kf3l1 kf3j43) kf3j42 kf3l1 kf3j43 v
theorem f3_83_eq (F : Nat) (Rf3j42 : St → Rz) (Rf3l1 : St → Rz) (Rf3j43 : St → Rz) : ∀ v,aexec VG343 (Af3 F) (bp Try.f3 130343) (ef3j37 v) (kBlock 1 (kSeq (kc VG343 Rf3j42 sp46) (kSeq (kc VG343 Rf3l1 sp46) (kBlock 0 (kSeq (kc VG343 Rf3j43 []) (kFin VG343 none (Try.f3).results.toList)))))) = f3_83 F (Rf3j42 ∘ ef3j42) (Rf3l1 ∘ ef3l1) (Rf3j43 ∘ ef3j43) v :=
  seq_cut (by kernel_rfl) (by kernel_rfl) ef3j37 ef3j38 _ (fun k => f3_72 F k (Rf3j42 ∘ ef3j42) (Rf3l1 ∘ ef3l1) (Rf3j43 ∘ ef3j43)) (f3_82 F (Rf3j42 ∘ ef3j42) (Rf3l1 ∘ ef3l1) (Rf3j43 ∘ ef3j43))
    (fun Rf3j38 => f3_72_eq F Rf3j38 Rf3j42 Rf3l1 Rf3j43) (f3_82_eq F Rf3j42 Rf3l1 Rf3j43)
def f3_84 (F : Nat) (kf3j42 : Ty57 → Rz) (kf3l1 : Ty57 → Rz) (kf3j43 : Unit → Rz) : Ty59 → Rz := fun v => f3_71 F (f3_83 F kf3j42 kf3l1 kf3j43) kf3j42 kf3l1 kf3j43 v
theorem f3_84_eq (F : Nat) (Rf3j42 : St → Rz) (Rf3l1 : St → Rz) (Rf3j43 : St → Rz) : ∀ v,aexec VG343 (Af3 F) (bp Try.f3 65171) (ef3j11 v) (kBlock 1 (kSeq (kc VG343 Rf3j42 sp46) (kSeq (kc VG343 Rf3l1 sp46) (kBlock 0 (kSeq (kc VG343 Rf3j43 []) (kFin VG343 none (Try.f3).results.toList)))))) = f3_84 F (Rf3j42 ∘ ef3j42) (Rf3l1 ∘ ef3l1) (Rf3j43 ∘ ef3j43) v :=
  seq_cut (by kernel_rfl) (by kernel_rfl) ef3j11 ef3j37 _ (fun k => f3_71 F k (Rf3j42 ∘ ef3j42) (Rf3l1 ∘ ef3l1) (Rf3j43 ∘ ef3j43)) (f3_83 F (Rf3j42 ∘ ef3j42) (Rf3l1 ∘ ef3l1) (Rf3j43 ∘ ef3j43))
    (fun Rf3j37 => f3_71_eq F Rf3j37 Rf3j42 Rf3l1 Rf3j43) (f3_83_eq F Rf3j42 Rf3l1 Rf3j43)
def f3_85 (F : Nat) (kf3j42 : Ty57 → Rz) (kf3l1 : Ty57 → Rz) (kf3j43 : Unit → Rz) : Ty58 → Rz := fun v => f3_12 F (f3_84 F kf3j42 kf3l1 kf3j43) kf3j42 kf3l1 kf3j43 v
theorem f3_85_eq (F : Nat) (Rf3j42 : St → Rz) (Rf3l1 : St → Rz) (Rf3j43 : St → Rz) : ∀ v,aexec VG343 (Af3 F) (bp Try.f3 32585) (ef3j10 v) (kBlock 1 (kSeq (kc VG343 Rf3j42 sp46) (kSeq (kc VG343 Rf3l1 sp46) (kBlock 0 (kSeq (kc VG343 Rf3j43 []) (kFin VG343 none (Try.f3).results.toList)))))) = f3_85 F (Rf3j42 ∘ ef3j42) (Rf3l1 ∘ ef3l1) (Rf3j43 ∘ ef3j43) v :=
  seq_cut (by kernel_rfl) (by kernel_rfl) ef3j10 ef3j11 _ (fun k => f3_12 F k (Rf3j42 ∘ ef3j42) (Rf3l1 ∘ ef3l1) (Rf3j43 ∘ ef3j43)) (f3_84 F (Rf3j42 ∘ ef3j42) (Rf3l1 ∘ ef3l1) (Rf3j43 ∘ ef3j43))
    (fun Rf3j11 => f3_12_eq F Rf3j11 Rf3j42 Rf3l1 Rf3j43) (f3_84_eq F Rf3j42 Rf3l1 Rf3j43)
def f3_86 (F : Nat) (kf3j42 : Ty57 → Rz) (kf3l1 : Ty57 → Rz) (kf3j43 : Unit → Rz) : Ty57 → Rz := fun v => f3_11 F (f3_85 F kf3j42 kf3l1 kf3j43) kf3j42 kf3l1 kf3j43 v
theorem f3_86_eq (F : Nat) (Rf3j42 : St → Rz) (Rf3l1 : St → Rz) (Rf3j43 : St → Rz) : ∀ v,aexec VG343 (Af3 F) (bp Try.f3 16292) (ef3j9 v) (kBlock 1 (kSeq (kc VG343 Rf3j42 sp46) (kSeq (kc VG343 Rf3l1 sp46) (kBlock 0 (kSeq (kc VG343 Rf3j43 []) (kFin VG343 none (Try.f3).results.toList)))))) = f3_86 F (Rf3j42 ∘ ef3j42) (Rf3l1 ∘ ef3l1) (Rf3j43 ∘ ef3j43) v :=
  seq_cut (by kernel_rfl) (by kernel_rfl) ef3j9 ef3j10 _ (fun k => f3_11 F k (Rf3j42 ∘ ef3j42) (Rf3l1 ∘ ef3l1) (Rf3j43 ∘ ef3j43)) (f3_85 F (Rf3j42 ∘ ef3j42) (Rf3l1 ∘ ef3l1) (Rf3j43 ∘ ef3j43))
    (fun Rf3j10 => f3_11_eq F Rf3j10 Rf3j42 Rf3l1 Rf3j43) (f3_85_eq F Rf3j42 Rf3l1 Rf3j43)
def f3_87 (F : Nat) (kf3j42 : Ty57 → Rz) (kf3l1 : Ty57 → Rz) (kf3j43 : Unit → Rz) : Ty57 → Rz := f3_86 F kf3j42 kf3l1 kf3j43
theorem f3_87_eq (F : Nat) (Rf3j42 : St → Rz) (Rf3l1 : St → Rz) (Rf3j43 : St → Rz) : ∀ v,aexec VG343 (Af3 F) (bp Try.f3 8146) (ef3j9 v) (kSeq (kc VG343 Rf3j42 sp46) (kSeq (kc VG343 Rf3l1 sp46) (kBlock 0 (kSeq (kc VG343 Rf3j43 []) (kFin VG343 none (Try.f3).results.toList))))) = f3_87 F (Rf3j42 ∘ ef3j42) (Rf3l1 ∘ ef3l1) (Rf3j43 ∘ ef3j43) v := fun v =>
  (block_in  (by kernel_rfl) _ _).trans (f3_86_eq F Rf3j42 Rf3l1 Rf3j43 v)
def f3_88 (F : Nat) (kf3l1 : Ty57 → Rz) (kf3j43 : Unit → Rz) : Ty57 → Rz := fun (t1,t2,t11,x18,x19,e1,e2,e3,e4) => (kf3l1 (t1,t2,(IntKind.i64.wrap (t11 + (1 : Int))),x18,x19,e1,e2,e3,e4))
theorem f3_88_eq (F : Nat) (Rf3l1 : St → Rz) (Rf3j43 : St → Rz) : ∀ v,aexec VG343 (Af3 F) (bp Try.f3 8147) (ef3j42 v) (kSeq (kc VG343 Rf3l1 sp46) (kBlock 0 (kSeq (kc VG343 Rf3j43 []) (kFin VG343 none (Try.f3).results.toList)))) = f3_88 F (Rf3l1 ∘ ef3l1) (Rf3j43 ∘ ef3j43) v := by
  rintro ⟨t1,t2,t11,x18,x19,e1,e2,e3,e4⟩; kernel_rfl
def f3_89 (F : Nat) (kf3l1 : Ty57 → Rz) (kf3j43 : Unit → Rz) : Ty57 → Rz := fun v => f3_87 F (f3_88 F kf3l1 kf3j43) kf3l1 kf3j43 v
theorem f3_89_eq (F : Nat) (Rf3l1 : St → Rz) (Rf3j43 : St → Rz) : ∀ v,aexec VG343 (Af3 F) (bp Try.f3 4073) (ef3j9 v) (kSeq (kc VG343 Rf3l1 sp46) (kBlock 0 (kSeq (kc VG343 Rf3j43 []) (kFin VG343 none (Try.f3).results.toList)))) = f3_89 F (Rf3l1 ∘ ef3l1) (Rf3j43 ∘ ef3j43) v :=
  seq_cut (by kernel_rfl) (by kernel_rfl) ef3j9 ef3j42 _ (fun k => f3_87 F k (Rf3l1 ∘ ef3l1) (Rf3j43 ∘ ef3j43)) (f3_88 F (Rf3l1 ∘ ef3l1) (Rf3j43 ∘ ef3j43))
    (fun Rf3j42 => f3_87_eq F Rf3j42 Rf3l1 Rf3j43) (f3_88_eq F Rf3l1 Rf3j43)
def f3_90 (F : Nat) (kf3l1 : Ty57 → Rz) (kf3j43 : Unit → Rz) : Ty57 → Rz := fun v => f3_10 F (f3_89 F kf3l1 kf3j43) kf3l1 kf3j43 v
theorem f3_90_eq (F : Nat) (Rf3l1 : St → Rz) (Rf3j43 : St → Rz) : ∀ v,aexec VG343 (Af3 F) (bp Try.f3 2036) (ef3l1 v) (kSeq (kc VG343 Rf3l1 sp46) (kBlock 0 (kSeq (kc VG343 Rf3j43 []) (kFin VG343 none (Try.f3).results.toList)))) = f3_90 F (Rf3l1 ∘ ef3l1) (Rf3j43 ∘ ef3j43) v :=
  seq_cut (by kernel_rfl) (by kernel_rfl) ef3l1 ef3j9 _ (fun k => f3_10 F k (Rf3l1 ∘ ef3l1) (Rf3j43 ∘ ef3j43)) (f3_89 F (Rf3l1 ∘ ef3l1) (Rf3j43 ∘ ef3j43))
    (fun Rf3j9 => f3_10_eq F Rf3j9 Rf3l1 Rf3j43) (f3_89_eq F Rf3l1 Rf3j43)
def f3_91_i : Ty57 → Int × (List Int) × Int × (List (List Int)) × (List Int) × (Lk.E) × (Lk.E) × (Lk.R) × (Lk.R) := fun (t1,t2,t11,x18,x19,e1,e2,e3,e4) => (t1,t2,t11,x18,x19,e1,e2,e3,e4)
def f3_91 (F : Nat) (kf3j43 : Unit → Rz) : Ty57 → Rz := fun v => loopN (fun k => f3_90 F k kf3j43) F (f3_91_i v)
theorem f3_91_eq (F : Nat) (Rf3j43 : St → Rz) : ∀ v,aexec VG343 (Af3 F) (bp Try.f3 1018) (ef3j8 v) (kBlock 0 (kSeq (kc VG343 Rf3j43 []) (kFin VG343 none (Try.f3).results.toList))) = f3_91 F (Rf3j43 ∘ ef3j43) v :=
  loop_cut (by kernel_rfl) (by kernel_rfl) ef3j8 ef3l1 _ f3_91_i (fun k => f3_90 F k (Rf3j43 ∘ ef3j43))
    (by rintro ⟨t1,t2,t11,x18,x19,e1,e2,e3,e4⟩; kernel_rfl) (fun Rf3l1 => f3_90_eq F Rf3l1 Rf3j43)
def f3_92 (F : Nat) (kf3j43 : Unit → Rz) : Ty57 → Rz := f3_91 F kf3j43
theorem f3_92_eq (F : Nat) (Rf3j43 : St → Rz) : ∀ v,aexec VG343 (Af3 F) (bp Try.f3 509) (ef3j8 v) (kSeq (kc VG343 Rf3j43 []) (kFin VG343 none (Try.f3).results.toList)) = f3_92 F (Rf3j43 ∘ ef3j43) v := fun v =>
  (block_in  (by kernel_rfl) _ _).trans (f3_91_eq F Rf3j43 v)
def f3_93 (F : Nat) (kf3j43 : Unit → Rz) : Ty56 → Rz := fun v => f3_9 F (f3_92 F kf3j43) kf3j43 v
theorem f3_93_eq (F : Nat) (Rf3j43 : St → Rz) : ∀ v,aexec VG343 (Af3 F) (bp Try.f3 254) (ef3j7 v) (kSeq (kc VG343 Rf3j43 []) (kFin VG343 none (Try.f3).results.toList)) = f3_93 F (Rf3j43 ∘ ef3j43) v :=
  seq_cut (by kernel_rfl) (by kernel_rfl) ef3j7 ef3j8 _ (fun k => f3_9 F k (Rf3j43 ∘ ef3j43)) (f3_92 F (Rf3j43 ∘ ef3j43))
    (fun Rf3j8 => f3_9_eq F Rf3j8 Rf3j43) (f3_92_eq F Rf3j43)
def f3_94 (F : Nat) : Unit → Rz := fun _ => (some ((.bool true),[]))
theorem f3_94_eq (F : Nat) : ∀ v,aexec VG343 (Af3 F) (bp Try.f3 255) (ef3j43 v) (kFin VG343 none (Try.f3).results.toList) = f3_94 F v := by
  intro _; kernel_rfl
def f3_95 (F : Nat) : Ty56 → Rz := fun v => f3_93 F (f3_94 F) v
theorem f3_95_eq (F : Nat) : ∀ v,aexec VG343 (Af3 F) (bp Try.f3 127) (ef3j7 v) (kFin VG343 none (Try.f3).results.toList) = f3_95 F v :=
  seq_cut (by kernel_rfl) (by kernel_rfl) ef3j7 ef3j43 _ (fun k => f3_93 F k) (f3_94 F)
    (fun Rf3j43 => f3_93_eq F Rf3j43) (f3_94_eq F)
def f3_96 (F : Nat) : Ty55 → Rz := fun v => f3_8 F (f3_95 F) v
theorem f3_96_eq (F : Nat) : ∀ v,aexec VG343 (Af3 F) (bp Try.f3 63) (ef3j6 v) (kFin VG343 none (Try.f3).results.toList) = f3_96 F v :=
  seq_cut (by kernel_rfl) (by kernel_rfl) ef3j6 ef3j7 _ (fun k => f3_8 F k) (f3_95 F)
    (fun Rf3j7 => f3_8_eq F Rf3j7) (f3_95_eq F)
def f3_97 (F : Nat) : Ty54 → Rz := fun v => f3_7 F (f3_96 F) v
theorem f3_97_eq (F : Nat) : ∀ v,aexec VG343 (Af3 F) (bp Try.f3 31) (ef3j5 v) (kFin VG343 none (Try.f3).results.toList) = f3_97 F v :=
  seq_cut (by kernel_rfl) (by kernel_rfl) ef3j5 ef3j6 _ (fun k => f3_7 F k) (f3_96 F)
    (fun Rf3j6 => f3_7_eq F Rf3j6) (f3_96_eq F)
def f3_98 (F : Nat) : Ty52 → Rz := fun v => f3_6 F (f3_97 F) v
theorem f3_98_eq (F : Nat) : ∀ v,aexec VG343 (Af3 F) (bp Try.f3 15) (ef3j4 v) (kFin VG343 none (Try.f3).results.toList) = f3_98 F v :=
  seq_cut (by kernel_rfl) (by kernel_rfl) ef3j4 ef3j5 _ (fun k => f3_6 F k) (f3_97 F)
    (fun Rf3j5 => f3_6_eq F Rf3j5) (f3_97_eq F)
def f3_99 (F : Nat) : Ty52 → Rz := fun v => f3_5 F (f3_98 F) v
theorem f3_99_eq (F : Nat) : ∀ v,aexec VG343 (Af3 F) (bp Try.f3 7) (ef3j2 v) (kFin VG343 none (Try.f3).results.toList) = f3_99 F v :=
  seq_cut (by kernel_rfl) (by kernel_rfl) ef3j2 ef3j4 _ (fun k => f3_5 F k) (f3_98 F)
    (fun Rf3j4 => f3_5_eq F Rf3j4) (f3_98_eq F)
def f3_100 (F : Nat) : Int × Int × (List Int) → Rz := fun v => f3_2 F (f3_99 F) v
theorem f3_100_eq (F : Nat) : ∀ v,aexec VG343 (Af3 F) (bp Try.f3 3) (ef3j1 v) (kFin VG343 none (Try.f3).results.toList) = f3_100 F v :=
  seq_cut (by kernel_rfl) (by kernel_rfl) ef3j1 ef3j2 _ (fun k => f3_2 F k) (f3_99 F)
    (fun Rf3j2 => f3_2_eq F Rf3j2) (f3_99_eq F)
def f3_101 (F : Nat) : Int × Int × (List Int) → Rz := fun v => f3_1 F (f3_100 F) v
theorem f3_101_eq (F : Nat) : ∀ v,aexec VG343 (Af3 F) (sub (bodyOf Try.f3) []) (ef3_a v) (kFin VG343 none (Try.f3).results.toList) = f3_101 F v :=
  seq_cut (by kernel_rfl) (by kernel_rfl) ef3_a ef3j1 _ (fun k => f3_1 F k) (f3_100 F)
    (fun Rf3j1 => f3_1_eq F Rf3j1) (f3_100_eq F)
def f3 (F : Nat) : Int × Int × (List Int) → Rz := f3_101 F
theorem f3_body (F : Nat) (a0 : Int) (a1 : Int) (a2 : List Int) : abody VG343 (Af3 F) Try.f3 [(.int .i64 a0),(.int .u64 a1),(.vs (.rI .i64 a2) 0 1)] [] = f3 F (a0,a1,a2) :=
  (abody_in (c := (sub (bodyOf Try.f3) [])) (by kernel_rfl) (s := ef3_a (a0,a1,a2)) (by kernel_rfl)).trans (f3_101_eq F (a0,a1,a2))
def r3 : CRun := fun X H => match X,H with
  | [(.int .i64 a0),(.int .u64 a1),(.vs (.rI .i64 a2) 0 1)],[] => some (true,(.bool true),[])
  | _,_ => none
theorem take_snoc3 (l : List (List Int)) (q : Nat) (h : q < l.length) : l.take q ++ [l.getD q []] = l.take (q + 1) := by
  rw [List.take_succ_eq_append_getElem h,List.getD_eq_getElem?_getD,List.getElem?_eq_getElem h]
  rfl
set_option maxHeartbeats 1000000 in
theorem s3 (a0 : Int) (a1 : Int) (a2 : List Int) (h0 : okV (.int .i64 a0)) (h1 : okV (.int .u64 a1)) (h2 : okV (.vs (.rI .i64 a2) 0 1)) : ∃ F,f3 F (a0,a1,a2) = some ((.bool true),[]) := by
  have q0 := Lk.around_lt (n := a0) (m := 16) (by omega)
  have q1 := Lk.around_lt (n := Int.tdiv a0 16) (m := 16) (by omega)
  have hl2 := h2.2
  refine ⟨100,?_⟩
  have hw0 : 0 < 1 + Lk.around a0 16 ∧ 1 + Lk.around a0 16 < 17 := by omega
  have hw1 : 0 < 1 + Lk.around (Int.tdiv a0 16) 16 ∧ 1 + Lk.around (Int.tdiv a0 16) 16 < 17 := by omega
  simp only [f3,f3_101,f3_1,f3_100,f3_2,f3_99,f3_5,f3_3,f3_4,f3_98,f3_6,cond_false,dec_and]
  rw [show Int.toNat 16 = 16 from rfl,cond_pos (by omega),cond_pos (by omega),Lk.tdiv_has h0 16 (by omega),i64w (x := 1 + Lk.around a0 16) (by omega) (by omega),i64w (x := 1 + Lk.around (Int.tdiv a0 16) 16) (by omega) (by omega)]
  simp only [f3_97,f3_7,f3_96,f3_8,f3_95,f3_93,f3_9,f3_92,f3_91,f3_91_i]
  obtain ⟨z1,z2⟩ := Lk.rel_start (key := a1) hw0
  obtain ⟨z3,z4⟩ := Lk.rel_start (key := a1) hw1
  refine loopN_ind (fun z s => ∃ (i : Nat) (P : List (List Int)) (to : List Int) (e f : Lk.E) (r t : Lk.R),s = (a1,a2,(i : Int),P,to,e,f,r,t) ∧ Lk.Rn i P to e f r t ∧ i + z = 60) ?_ _ 60 _ (by omega) ⟨0,[],[],_,_,_,_,rfl,⟨z1,z3,z2,z4,⟨rfl,Nat.le_refl _,fun q hq => by simp at hq,fun q hq => by simp at hq⟩⟩,rfl⟩
  rintro z s k ⟨i,P,to,e,f,r,t,rfl,hO,hz⟩ hk
  simp only [f3_90,f3_10]
  by_cases hc1 : (i : Int) < a2.length
  rotate_left
  · rw [cond_neg hc1]; simp only [f3_94]
  rw [cond_pos hc1]
  by_cases hc2 : (i : Int) < 60
  rotate_left
  · rw [cond_neg hc2]; simp only [f3_94]
  rw [cond_pos hc2]
  have hrm1 := hO.one.rooms hO.b1 (by omega)
  have hrm2 := hO.two.rooms hO.b2 (by omega)
  have hnext : ∀ (P : List (List Int)) (to : List Int) (e f : Lk.E) (r t : Lk.R),Lk.Rn (i + 1) P to e f r t → (f3_88 100 k (f3_94 100)) (a1,a2,(i : Int),P,to,e,f,r,t) = some (.bool true,[]) := by
    intro P to e f r t hO'
    simp only [f3_88]
    rw [i64w (by omega) (by omega)]
    exact hk (z - 1) _ (by omega) ⟨i + 1,P,to,e,f,r,t,rfl,hO',by omega⟩
  have hend : ∀ (P : List (List Int)) (to : List Int) (e f : Lk.E) (r t : Lk.R),Lk.Rn (i + 1) P to e f r t → (f3_83 100 (f3_88 100 k (f3_94 100)) k (f3_94 100)) (a1,a2,(i : Int),P,to,e,f,r,t) = some (.bool true,[]) := by
    intro P to e f r t hO'
    have w1 := (hO'.one.rooms hO'.b1 (by omega)).1
    have w2 := (hO'.two.rooms hO'.b2 (by omega)).1
    obtain ⟨w3,w4⟩ := hO'.waits
    have w5 := hO'.b1.sent.1
    have w7 := hO'.one.ack
    have w8 := hO'.two.ack
    have w6 := hO'.b2.sent.1
    simp only [f3_83,f3_72,f3_82,f3_81,f3_81_i]
    refine loopN_from (fun q => (a1,a2,(i : Int),(q : Int),P,to,e,f,r,t)) 2 (by rfl) (fun q hq k' => ?_) (fun k' => ?_) _ (by omega)
    · simp only [f3_80,f3_73]
      rw [cond_pos (by omega)]
      have hq2 : q = 0 ∨ q = 1 := by omega
      rcases hq2 with rfl | rfl
      · simp only [f3_79,f3_77,f3_76,f3_74,int_bne]
        rw [cond_pos (by omega),w1,cond_true,i64w (by omega) (by omega),cond_neg (by omega),hO'.one.forged.1]
        simp only [f3_75,f3_78]
        rw [cond_neg (by simp)]
        rfl
      · simp only [f3_79,f3_77,f3_76,f3_74,int_bne]
        rw [cond_neg (by omega),cond_pos (by omega),w2,cond_true,i64w (by omega) (by omega),cond_neg (by omega),hO'.two.forged.1]
        simp only [f3_75,f3_78]
        rw [cond_neg (by simp)]
        rfl
    · simp only [f3_80,f3_73]
      rw [cond_neg (by omega)]
      exact hnext _ _ _ _ _ _ hO'
  simp only [f3_89,f3_87,f3_86,f3_11,dec_and,Int.toNat_natCast]
  rw [cond_pos (by omega),show Int.toNat 1073741824 = 1073741824 from rfl,cond_pos (by omega)]
  have hnn := Lk.around_lt (n := IntKind.i64.wrap (Int.tdiv (a2.getD i 0) 8)) (m := 1073741824) (by omega)
  obtain ⟨nn,hnn'⟩ : ∃ nn : Nat,Lk.around (IntKind.i64.wrap (Int.tdiv (a2.getD i 0) 8)) 1073741824 = nn := ⟨(Lk.around (IntKind.i64.wrap (Int.tdiv (a2.getD i 0) 8)) 1073741824).toNat,by omega⟩
  rw [hnn'] at hnn ⊢
  clear hnn'
  simp only [f3_85,f3_12,f3_84,f3_71,f3_13,dec_and,Int.toNat_natCast]
  rw [cond_pos (by omega),show Int.toNat 8 = 8 from rfl,cond_pos (by omega)]
  rw [show Int.tmod (nn : Int) 2 = ((nn % 2 : Nat) : Int) by rw [tmod_nn (by omega)]; omega]
  generalize Lk.around (a2.getD i 0) 8 = kd
  have h01' : nn % 2 = 0 ∨ nn % 2 = 1 := by omega
  generalize hkk : nn % 2 = kk at h01' ⊢
  have hA : ∀ bb : Bool,f3_19 100 (f3_83 100 (f3_88 100 k (f3_94 100)) k (f3_94 100)) (f3_88 100 k (f3_94 100)) k (f3_94 100) (a1,a2,(i : Int),(nn : Int),(kk : Int),kd,bb,P,to,e,f,r,t) = some (.bool true,[]) := by
    intro bb
    rcases h01' with h01 | h01
    · rw [h01] at *
      obtain ⟨s1,s2,s3,s4⟩ := Lk.rel_send hO.one hO.b1 (by omega) (b := [IntKind.u8.wrap (i : Int),IntKind.u8.wrap (nn : Int)]) (by simp)
      simp only [f3_19,f3_15,f3_18,f3_16,int_bne]
      rw [cond_pos (by omega)]
      rw [hrm1.1,hrm1.2,Bool.true_and,cond_pos (by simp),cond_pos (by simp),s1,s2]
      simp only [f3_17]
      rw [cond_neg (by omega)]
      have hfin := hend P to _ _ _ _ ⟨by rw [Lk.rsend_got]; exact s3,hO.two,s4,hO.b2.next,hO.pks.next⟩
      exact hfin
    · rw [h01] at *
      obtain ⟨s1,s2,s3,s4⟩ := Lk.rel_send hO.two hO.b2 (by omega) (b := [IntKind.u8.wrap (i : Int),IntKind.u8.wrap (nn : Int)]) (by simp)
      simp only [f3_19,f3_15,f3_18,f3_16,int_bne]
      rw [cond_neg (by omega),cond_pos (by omega)]
      rw [hrm2.1,hrm2.2,Bool.true_and,cond_pos (by simp),cond_pos (by simp),s1,s2]
      simp only [f3_17]
      rw [cond_neg (by omega)]
      have hfin := hend P to _ _ _ _ ⟨hO.one,by rw [Lk.rsend_got]; exact s3,hO.b1.next,s4,hO.pks.next⟩
      exact hfin
  have hC : ∀ bb : Bool,f3_40 100 (f3_83 100 (f3_88 100 k (f3_94 100)) k (f3_94 100)) (f3_88 100 k (f3_94 100)) k (f3_94 100) (a1,a2,(i : Int),(nn : Int),(kk : Int),bb,P,to,e,f,r,t) = some (.bool true,[]) := by
    intro bb
    rcases h01' with h01 | h01
    · rw [h01] at *
      obtain ⟨s1,s2,s3⟩ := Lk.rel_out hO.one hO.b1
      obtain ⟨l1,l2⟩ := Lk.routs_ok hO.one hO.b1
      simp only [f3_40,f3_21,dec_and,Int.toNat_natCast]
      rw [cond_pos (by omega)]
      rw [show Nat.beq 0 0 = true from rfl,cond_true]
      rw [hrm1.1,cond_true]
      simp only [f3_39,f3_22,dec_and,Int.toNat_natCast]
      rw [cond_pos (by omega)]
      rw [show Nat.beq 0 0 = true from rfl,cond_true]
      rw [hrm1.2,cond_true]
      simp only [f3_38,f3_25,f3_23,f3_24,dec_not]
      rw [s1,cond_neg (by simp)]
      simp only [f3_37,f3_26,f3_36,f3_35,f3_35_i]
      have hsm := hO.pks.small
      have hlen := hO.pks.len
      refine loopN_from (fun q => (a1,a2,(i : Int),((0 : Nat) : Int),(q : Int),P ++ (Lk.routs r).take q,to ++ List.replicate q 1,Lk.routs r,(Lk.out e).1,f,Lk.rout r,t)) (Lk.routs r).length (by simp) (fun q hq k' => ?_) (fun k' => ?_) _ (by omega)
      · simp only [f3_34,f3_27]
        rw [cond_pos (by omega)]
        simp only [f3_33,f3_31,f3_30,f3_28,dec_and,Int.toNat_natCast,List.length_append,List.length_take]
        rw [cond_pos (by omega),cond_pos (by omega)]
        simp only [f3_29,f3_32,List.length_append,List.length_replicate]
        rw [cond_pos (by omega),i64w (x := (q : Int) + 1) (by omega) (by omega)]
        refine congrArg k' ?_
        rw [List.append_assoc,List.append_assoc,show IntKind.i64.wrap (1 - ((0 : Nat) : Int)) = 1 from rfl,← List.replicate_succ',take_snoc3 _ _ hq]
        rfl
      · simp only [f3_34,f3_27]
        rw [cond_neg (by omega),List.take_length]
        have hfin := hend _ _ _ _ _ _ ⟨s2,hO.two,s3,hO.b2.next,hO.pks.add ⟨l1,l2⟩ (u := 1) (by omega)⟩
        exact hfin
    · rw [h01] at *
      obtain ⟨s1,s2,s3⟩ := Lk.rel_out hO.two hO.b2
      obtain ⟨l1,l2⟩ := Lk.routs_ok hO.two hO.b2
      simp only [f3_40,f3_21,dec_and,Int.toNat_natCast]
      rw [cond_pos (by omega)]
      rw [show Nat.beq 1 0 = false from rfl,cond_false,show Nat.beq 1 1 = true from rfl,cond_true]
      rw [hrm2.1,cond_true]
      simp only [f3_39,f3_22,dec_and,Int.toNat_natCast]
      rw [cond_pos (by omega)]
      rw [show Nat.beq 1 0 = false from rfl,cond_false,show Nat.beq 1 1 = true from rfl,cond_true]
      rw [hrm2.2,cond_true]
      simp only [f3_38,f3_25,f3_23,f3_24,dec_not]
      rw [s1,cond_neg (by simp)]
      simp only [f3_37,f3_26,f3_36,f3_35,f3_35_i]
      have hsm := hO.pks.small
      have hlen := hO.pks.len
      refine loopN_from (fun q => (a1,a2,(i : Int),((1 : Nat) : Int),(q : Int),P ++ (Lk.routs t).take q,to ++ List.replicate q 0,Lk.routs t,e,(Lk.out f).1,r,Lk.rout t)) (Lk.routs t).length (by simp) (fun q hq k' => ?_) (fun k' => ?_) _ (by omega)
      · simp only [f3_34,f3_27]
        rw [cond_pos (by omega)]
        simp only [f3_33,f3_31,f3_30,f3_28,dec_and,Int.toNat_natCast,List.length_append,List.length_take]
        rw [cond_pos (by omega),cond_pos (by omega)]
        simp only [f3_29,f3_32,List.length_append,List.length_replicate]
        rw [cond_pos (by omega),i64w (x := (q : Int) + 1) (by omega) (by omega)]
        refine congrArg k' ?_
        rw [List.append_assoc,List.append_assoc,show IntKind.i64.wrap (1 - ((1 : Nat) : Int)) = 0 from rfl,← List.replicate_succ',take_snoc3 _ _ hq]
        rfl
      · simp only [f3_34,f3_27]
        rw [cond_neg (by omega),List.take_length]
        have hfin := hend _ _ _ _ _ _ ⟨hO.one,s2,hO.b1.next,s3,hO.pks.add ⟨l1,l2⟩ (u := 0) (by omega)⟩
        exact hfin
  have hD : ∀ bb : Bool,f3_65 100 (f3_83 100 (f3_88 100 k (f3_94 100)) k (f3_94 100)) (f3_88 100 k (f3_94 100)) k (f3_94 100) (a1,a2,(i : Int),(nn : Int),(kk : Int),bb,P,to,e,f,r,t) = some (.bool true,[]) := by
    intro bb
    have hlen := hO.pks.len
    have hsm := hO.pks.small
    simp only [f3_65,f3_41,int_beq]
    by_cases hP : P.length = 0
    · rw [cond_pos (by omega)]
      exact hnext _ _ _ _ _ _ ⟨hO.one,hO.two,hO.b1.next,hO.b2.next,hO.pks.next⟩
    rw [cond_neg (by omega)]
    simp only [f3_64,f3_42,int_beq,dec_not]
    have hmin : (if 20 < (P.length : Int) then 20 else (P.length : Int)) = ((min 20 P.length : Nat) : Int) := by split <;> omega
    rw [hmin]
    have hmp : 0 < min 20 P.length := by omega
    have hml : min 20 P.length ≤ P.length := Nat.min_le_right _ _
    generalize min 20 P.length = mm at hmp hml
    rw [cond_pos (by omega)]
    have ht : Int.tmod (IntKind.i64.wrap (Int.tdiv (nn : Int) 2)) (mm : Int) = ((nn / 2 % mm : Nat) : Int) := by
      rw [tdiv_nn (by omega),i64w (by omega) (by omega),tmod_nn (by omega)]
      push_cast
      rfl
    have hq0 : nn / 2 % mm < mm := Nat.mod_lt _ hmp
    rw [ht,i64w (x := (P.length : Int) - 1) (by omega) (by omega),i64w (by omega) (by omega)]
    obtain ⟨q,hqq⟩ : ∃ q : Nat,(P.length : Int) - 1 - ((nn / 2 % mm : Nat) : Int) = q := ⟨((P.length : Int) - 1 - ((nn / 2 % mm : Nat) : Int)).toNat,by omega⟩
    have hq : q < P.length := by omega
    rw [hqq]
    clear hqq
    have hpk := hO.pks.pk q hq
    simp only [f3_63,f3_43,dec_and,Int.toNat_natCast,List.take_length]
    rw [cond_pos (by omega),cond_pos (by omega),cond_pos (by omega)]
    generalize P.getD q [] = pk at hpk ⊢
    simp only [f3_62,f3_46,f3_44,f3_45,int_beq,dec_and,dec_not]
    have hlast : ∀ b : List Int,b.length ≤ 200 → f3_53 100 (f3_58 100 (f3_83 100 (f3_88 100 k (f3_94 100)) k (f3_94 100)) (f3_88 100 k (f3_94 100)) k (f3_94 100)) (f3_83 100 (f3_88 100 k (f3_94 100)) k (f3_94 100)) (f3_88 100 k (f3_94 100)) k (f3_94 100) (a1,a2,(i : Int),(q : Int),b,P,to,e,f,r,t) = some (.bool true,[]) := by
      intro b hb
      have hto := hO.pks.to q hq
      rcases hto with h01 | h01
      · obtain ⟨s1,s2,s3⟩ := Lk.rel_recv hO.one hO.b1 b
        simp only [f3_53,dec_and,Int.toNat_natCast,h01]
        rw [cond_pos (by omega),cond_pos (by omega),show Int.toNat 0 = 0 from rfl]
        rw [show Nat.beq 0 0 = true from rfl,cond_true]
        rw [hrm1.1,Bool.true_and,cond_pos (by omega),s1]
        simp only [f3_58,f3_54,dec_and,Int.toNat_natCast,h01]
        rw [cond_pos (by omega),cond_pos (by omega),show Int.toNat 0 = 0 from rfl]
        rw [show Nat.beq 0 0 = true from rfl,cond_true]
        rw [hrm1.2,Bool.true_and,cond_pos (by omega)]
        simp only [f3_57,f3_55,int_bne,dec_not]
        rw [cond_neg (by simp)]
        simp only [f3_56]
        rw [cond_neg (by simp)]
        have hfin := hend P to _ _ _ _ ⟨s2,hO.two,s3,hO.b2.next,hO.pks.next⟩
        exact hfin
      · obtain ⟨s1,s2,s3⟩ := Lk.rel_recv hO.two hO.b2 b
        simp only [f3_53,dec_and,Int.toNat_natCast,h01]
        rw [cond_pos (by omega),cond_pos (by omega),show Int.toNat 1 = 1 from rfl]
        rw [show Nat.beq 1 0 = false from rfl,cond_false,show Nat.beq 1 1 = true from rfl,cond_true]
        rw [hrm2.1,Bool.true_and,cond_pos (by omega),s1]
        simp only [f3_58,f3_54,dec_and,Int.toNat_natCast,h01]
        rw [cond_pos (by omega),cond_pos (by omega),show Int.toNat 1 = 1 from rfl]
        rw [show Nat.beq 1 0 = false from rfl,cond_false,show Nat.beq 1 1 = true from rfl,cond_true]
        rw [hrm2.2,Bool.true_and,cond_pos (by omega)]
        simp only [f3_57,f3_55,int_bne,dec_not]
        rw [cond_neg (by simp)]
        simp only [f3_56]
        rw [cond_neg (by simp)]
        have hfin := hend P to _ _ _ _ ⟨hO.one,s2,hO.b1.next,s3,hO.pks.next⟩
        exact hfin
    have hcut : ∀ b : List Int,11 ≤ b.length → b.length ≤ 200 → ∀ x : Nat,f3_52 100 (f3_59 100 (f3_83 100 (f3_88 100 k (f3_94 100)) k (f3_94 100)) (f3_88 100 k (f3_94 100)) k (f3_94 100)) (f3_83 100 (f3_88 100 k (f3_94 100)) k (f3_94 100)) (f3_88 100 k (f3_94 100)) k (f3_94 100) (a1,a2,(i : Int),(nn : Int),(q : Int),P,to,b,x,e,f,r,t) = some (.bool true,[]) := by
      intro b hb1 hb2 x
      simp only [f3_52,f3_50,f3_51,f3_59,int_beq,dec_and]
      have ht : Int.tmod (nn : Int) 12 = ((nn % 12 : Nat) : Int) := by rw [tmod_nn (by omega)]; omega
      by_cases h19 : Int.tmod (nn : Int) 19 = 0
      · rw [cond_pos h19,ht,cond_pos (by omega)]
        exact hlast _ (by rw [List.length_take]; omega)
      · rw [cond_neg h19]
        exact hlast _ hb2
    have hseal : ∀ b : List Int,11 ≤ b.length → b.length ≤ 200 → ∀ x : Nat,f3_49 100 (f3_60 100 (f3_83 100 (f3_88 100 k (f3_94 100)) k (f3_94 100)) (f3_88 100 k (f3_94 100)) k (f3_94 100)) (f3_83 100 (f3_88 100 k (f3_94 100)) k (f3_94 100)) (f3_88 100 k (f3_94 100)) k (f3_94 100) (a1,a2,(i : Int),(nn : Int),(q : Int),P,to,b,x,e,f,r,t) = some (.bool true,[]) := by
      intro b hb1 hb2 x
      simp only [f3_49,f3_47,f3_48,f3_60,int_beq,dec_and]
      have ht : Int.tmod (nn : Int) 3 = ((nn % 3 : Nat) : Int) := by rw [tmod_nn (by omega)]; omega
      by_cases h17 : Int.tmod (nn : Int) 17 = 0
      · rw [cond_pos h17,ht,Int.toNat_natCast]
        generalize Int.tmod (IntKind.i64.wrap (Int.tdiv (nn : Int) 17)) 30 = s
        generalize IntKind.i64.wrap (Int.tmod (IntKind.i64.wrap (Int.tdiv (nn : Int) 510)) 9 - 1) = a
        have hlt : (b.take (nn % 3)).length ≤ 2 := by rw [List.length_take]; omega
        have hp1 := Lk.pbytes_length s a (b.take (nn % 3))
        have hp2 := Lk.pbytes_ge s a (b.take (nn % 3))
        have hp3 := Lk.sealed_length a1 (Lk.pbytes s a (b.take (nn % 3)))
        rw [cond_pos (by omega),cond_pos (by omega),cond_pos (by omega)]
        exact hcut _ (by omega) (by omega) _
      · rw [cond_neg h17]
        exact hcut b hb1 hb2 x
    by_cases h13 : Int.tmod (nn : Int) 13 = 0
    · rw [cond_pos h13,cond_pos (by omega)]
      have ht : Int.tmod (IntKind.i64.wrap (Int.tdiv (nn : Int) 13)) (pk.length : Int) = ((nn / 13 % pk.length : Nat) : Int) := by
        rw [tdiv_nn (by omega),i64w (by omega) (by omega),tmod_nn (by omega)]
        push_cast
        rfl
      have hlt : nn / 13 % pk.length < pk.length := Nat.mod_lt _ (by omega)
      rw [ht,cond_pos (by omega)]
      exact hseal _ (by rw [List.length_set]; omega) (by rw [List.length_set]; omega) _
    · rw [cond_neg h13]
      exact hseal _ (by omega) (by omega) _
  have hB : ∀ bb : Bool,f3_67 100 (f3_83 100 (f3_88 100 k (f3_94 100)) k (f3_94 100)) (f3_88 100 k (f3_94 100)) k (f3_94 100) (a1,a2,(i : Int),(nn : Int),(kk : Int),kd,bb,P,to,e,f,r,t) = some (.bool true,[]) := by
    intro bb
    simp only [f3_67,f3_20,f3_66,int_beq]
    by_cases k2 : kd = 2
    · rw [cond_pos k2,cond_pos k2]
      exact hC _
    · rw [cond_neg k2]
      by_cases k3 : kd = 3
      · rw [cond_pos k3]; exact hC _
      · rw [cond_neg k3]; exact hD _
  simp only [f3_70,f3_69,f3_14,f3_68,int_beq]
  by_cases k0 : kd = 0
  · rw [cond_pos k0,cond_pos k0]
    exact hA _
  · rw [cond_neg k0]
    by_cases k1 : kd = 1
    · rw [cond_pos k1]; exact hA _
    · rw [cond_neg k1]; exact hB _

theorem c3 : CallOk Try.prog G34 3 r3 := callOk_of (V := VG343) mixed tys eVG343 (f := 3) (fn := Try.f3) Try.func3 (by kernel_rfl) (c := sub (bodyOf Try.f3) []) (by kernel_rfl) (by
  intro X H r H' h hX hH
  unfold r3 at h; split at h <;> try contradiction
  · simp only [Option.some.injEq,Prod.mk.injEq] at h
    obtain ⟨hp,rfl,rfl⟩ := h
    obtain ⟨F,hF⟩ := s3 _ _ _ (hX _ (.head _)) (hX _ (.tail _ (.head _))) (hX _ (.tail _ (.tail _ (.head _))))
    exact ⟨Af3 F,(f3_body F _ _ _).trans hF⟩)
end Go.Am
