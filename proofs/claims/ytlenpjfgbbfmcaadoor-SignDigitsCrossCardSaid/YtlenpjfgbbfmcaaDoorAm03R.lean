/- Part of a proof about the functions of the given program. -/
import Derived.Test.YtlenpjfgbbfmcaaDoorAm03P
set_option linter.unusedSimpArgs false
set_option linter.unusedVariables false
section
namespace Go.Am
open Go Go.Proofs
noncomputable section
def lVG026 : List CEnt := [(9,[],r9),(12,[none,none],r12),(14,[none,none,none,none],r14),(18,[none,none,none,none],r18),(20,[none],r20)]
def VG026 : Env := mkEnv T03 G02 lVG026
noncomputable abbrev Kf60 := kFin VG026 none (Tryd.f6).results.toList
theorem eVG026 : EOk Tryd.prog VG026 := eok_mk (by exact ⟨c9,c12,c14,c18,c20,trivial⟩)
def Af6 (F : Nat) : Cuts := { F := F,at_ := fun _ => none,join := fun _ => none }
def ef6_a : Ty18 → St := fun (a0,a1,a2,a3) => ⟨[(0,.int .u8 a0),(1,.int .u8 a1),(2,.int .u8 a2),(3,.str a3)],[],0,109,0⟩
def f6_1 (F : Nat) : Ty18 → Rz := fun (a0,a1,a2,a3) => (cond (decide ((↑a3.length : Int) > (200 : Int))) (some ((.bool true),[])) (cond (decide (0 ≤ (Int.tmod (IntKind.i64.wrap a1) (3 : Int)))) (cond (!((IntKind.i64.wrap ((1 : Int) * 2 ^ (min (Int.toNat (Int.tmod (IntKind.i64.wrap a1) (3 : Int))) 64))) == 0)) (cond (Sg.low (Int.tmod (IntKind.i64.wrap a1) (3 : Int))) (cond (Sg.low (Int.tmod (IntKind.i64.wrap a1) (3 : Int))) (cond ((Sg.pub (List.replicate 32 a0) (Int.tmod (IntKind.i64.wrap a1) (3 : Int))).2 != (0 : Int)) (some ((.bool false),[])) (cond ((Sg.sign (List.replicate 32 a0) (Int.tmod (IntKind.i64.wrap a1) (3 : Int)) (Int.tmod (IntKind.i64.wrap a2) (IntKind.i64.wrap ((1 : Int) * 2 ^ (min (Int.toNat (Int.tmod (IntKind.i64.wrap a1) (3 : Int))) 64)))) a3).2 != (0 : Int)) (some ((.bool false),[])) (cond ((Sg.verO (Sg.pub (List.replicate 32 a0) (Int.tmod (IntKind.i64.wrap a1) (3 : Int))).1 (Int.tmod (IntKind.i64.wrap a1) (3 : Int)) a3 (Sg.sign (List.replicate 32 a0) (Int.tmod (IntKind.i64.wrap a1) (3 : Int)) (Int.tmod (IntKind.i64.wrap a2) (IntKind.i64.wrap ((1 : Int) * 2 ^ (min (Int.toNat (Int.tmod (IntKind.i64.wrap a1) (3 : Int))) 64)))) a3).1).2 != (0 : Int)) (some ((.bool false),[])) (cond (decide ((↑(Sg.sign (List.replicate 32 a0) (Int.tmod (IntKind.i64.wrap a1) (3 : Int)) (Int.tmod (IntKind.i64.wrap a2) (IntKind.i64.wrap ((1 : Int) * 2 ^ (min (Int.toNat (Int.tmod (IntKind.i64.wrap a1) (3 : Int))) 64)))) a3).1.length : Int) < (2 : Int))) (some ((.bool false),[])) (cond (decide (((Sg.sign (List.replicate 32 a0) (Int.tmod (IntKind.i64.wrap a1) (3 : Int)) (Int.tmod (IntKind.i64.wrap a2) (IntKind.i64.wrap ((1 : Int) * 2 ^ (min (Int.toNat (Int.tmod (IntKind.i64.wrap a1) (3 : Int))) 64)))) a3).1.length + 1) < 4611686018427387904)) (cond ((decide ((0 : Int) ≤ (IntKind.i64.wrap ((↑(Sg.sign (List.replicate 32 a0) (Int.tmod (IntKind.i64.wrap a1) (3 : Int)) (Int.tmod (IntKind.i64.wrap a2) (IntKind.i64.wrap ((1 : Int) * 2 ^ (min (Int.toNat (Int.tmod (IntKind.i64.wrap a1) (3 : Int))) 64)))) a3).1.length : Int) - (1 : Int))))) && (decide ((IntKind.i64.wrap ((↑(Sg.sign (List.replicate 32 a0) (Int.tmod (IntKind.i64.wrap a1) (3 : Int)) (Int.tmod (IntKind.i64.wrap a2) (IntKind.i64.wrap ((1 : Int) * 2 ^ (min (Int.toNat (Int.tmod (IntKind.i64.wrap a1) (3 : Int))) 64)))) a3).1.length : Int) - (1 : Int))) ≤ (↑(Sg.sign (List.replicate 32 a0) (Int.tmod (IntKind.i64.wrap a1) (3 : Int)) (Int.tmod (IntKind.i64.wrap a2) (IntKind.i64.wrap ((1 : Int) * 2 ^ (min (Int.toNat (Int.tmod (IntKind.i64.wrap a1) (3 : Int))) 64)))) a3).1.length : Int)))) (cond ((Sg.verO (Sg.pub (List.replicate 32 a0) (Int.tmod (IntKind.i64.wrap a1) (3 : Int))).1 (Int.tmod (IntKind.i64.wrap a1) (3 : Int)) a3 (Sg.sign (List.replicate 32 a0) (Int.tmod (IntKind.i64.wrap a1) (3 : Int)) (Int.tmod (IntKind.i64.wrap a2) (IntKind.i64.wrap ((1 : Int) * 2 ^ (min (Int.toNat (Int.tmod (IntKind.i64.wrap a1) (3 : Int))) 64)))) a3).1).1 == (Int.tmod (IntKind.i64.wrap a2) (IntKind.i64.wrap ((1 : Int) * 2 ^ (min (Int.toNat (Int.tmod (IntKind.i64.wrap a1) (3 : Int))) 64))))) (cond ((Sg.verO (Sg.pub (List.replicate 32 a0) (Int.tmod (IntKind.i64.wrap a1) (3 : Int))).1 (Int.tmod (IntKind.i64.wrap a1) (3 : Int)) a3 ((Sg.sign (List.replicate 32 a0) (Int.tmod (IntKind.i64.wrap a1) (3 : Int)) (Int.tmod (IntKind.i64.wrap a2) (IntKind.i64.wrap ((1 : Int) * 2 ^ (min (Int.toNat (Int.tmod (IntKind.i64.wrap a1) (3 : Int))) 64)))) a3).1 ++ [120])).2 == (2 : Int)) (some ((.bool ((Sg.verO (Sg.pub (List.replicate 32 a0) (Int.tmod (IntKind.i64.wrap a1) (3 : Int))).1 (Int.tmod (IntKind.i64.wrap a1) (3 : Int)) a3 ((Sg.sign (List.replicate 32 a0) (Int.tmod (IntKind.i64.wrap a1) (3 : Int)) (Int.tmod (IntKind.i64.wrap a2) (IntKind.i64.wrap ((1 : Int) * 2 ^ (min (Int.toNat (Int.tmod (IntKind.i64.wrap a1) (3 : Int))) 64)))) a3).1.take (Int.toNat (IntKind.i64.wrap ((↑(Sg.sign (List.replicate 32 a0) (Int.tmod (IntKind.i64.wrap a1) (3 : Int)) (Int.tmod (IntKind.i64.wrap a2) (IntKind.i64.wrap ((1 : Int) * 2 ^ (min (Int.toNat (Int.tmod (IntKind.i64.wrap a1) (3 : Int))) 64)))) a3).1.length : Int) - (1 : Int)))))).2 == (2 : Int))),[])) (some ((.bool false),[]))) (some ((.bool false),[]))) none) none))))) none) none) none) none))
theorem f6_1_eq (F : Nat) : ∀ v,aexec VG026 (Af6 F) (sub (bodyOf Tryd.f6) []) (ef6_a v) Kf60 = f6_1 F v := by
 rintro ⟨a0,a1,a2,a3⟩; kernel_rfl
def f6 (F : Nat) : Ty18 → Rz := f6_1 F
theorem f6_body (F : Nat) (a0 : Int) (a1 : Int) (a2 : Int) (a3 : List Int) : abody VG026 (Af6 F) Tryd.f6 [(.int .u8 a0),.int .u8 a1,.int .u8 a2,.str a3] [] = f6 F (a0,a1,a2,a3) :=
 (abody_in (c := (sub (bodyOf Tryd.f6) [])) (by kernel_rfl) (s := ef6_a (a0,a1,a2,a3)) (by kernel_rfl)).trans (f6_1_eq F (a0,a1,a2,a3))
def r6 : CRun := fun X H => match X,H with
 | [(.int .u8 a0),.int .u8 a1,.int .u8 a2,.str a3],[] => some (true,.bool true,[])
 | _,_ => none
theorem lowOk {n : Nat} (h : n ≤ 2) : Sg.low (n : Int) = true := by simp only [Sg.low,decide_eq_true_eq]; omega
theorem pow_pos1 {n : Nat} : (1 : Int) ≤ 2 ^ n := Int.pow_pos (by decide)
theorem idx_rng {a : Int} (ha : 0 ≤ a ∧ a ≤ 255) {n : Nat} : Int.tmod (IntKind.i64.wrap a) ((2 : Int) ^ n) = a % 2 ^ n ∧ 0 ≤ a % 2 ^ n ∧ a % 2 ^ n < 2 ^ n := by
 have hp := pow_pos1 (n := n)
 rw [i64w (x := a) (by omega) (by omega),tmod_nn ha.1]
 exact ⟨rfl,Int.emod_nonneg _ (by omega),Int.emod_lt_of_pos _ (by omega)⟩
theorem pub_ok {s : List Int} {n : Nat} (hs : s.length = 32) (h : n ≤ 2) : Sg.pub s (n : Int) = (Sg.nd s n 0,0) := by
 rw [Sg.pub,if_neg (by omega),Int.toNat_natCast]
theorem signed {s m : List Int} {n : Nat} {i : Int} (hs : s.length = 32) (h : n ≤ 2) (hi : 0 ≤ i ∧ i < 2 ^ n) (hm : m.length ≤ 1048576) :
  ∃ R : List Int,Sg.sign s (n : Int) i m = (Wire.int i ++ R,0) ∧ R.length = 1088 + 16 * n ∧ Sg.verify (Sg.nd s n 0) (n : Int) m (Wire.int i ++ R) = (i,0) := by
 have h1 := Sg.sign_ok (s := s) (h := (n : Int)) (i := i) (m := m) hs (by omega) (by rw [Int.toNat_natCast]; exact hi) hm
 have h2 := Sg.verify_sign (s := s) (h := (n : Int)) (i := i) (m := m) hs (by omega) (by rw [Int.toNat_natCast]; exact hi) hm
 rw [h1,Int.toNat_natCast] at h2
 rw [Int.toNat_natCast] at h1
 exact ⟨_,h1,by rw [List.length_append,Sg.body_len,Sg.path_len],h2⟩
theorem ver_len {p m R : List Int} {n : Nat} {i : Int} (h : n ≤ 2) (hi : 0 ≤ i ∧ i < 2 ^ n) (hm : m.length ≤ 1048576) (hR : R.length ≠ 1088 + 16 * n) : Sg.verify p (n : Int) m (Wire.int i ++ R) = (0,2) := by
 rw [Sg.verify_at (by omega) (by rw [Int.toNat_natCast]; exact hi) hm,if_pos (by omega)]
theorem s6 (a0 : Int) (a1 : Int) (a2 : Int) (a3 : List Int) (h0 : okV (.int .u8 a0)) (h1 : okV (.int .u8 a1)) (h2 : okV (.int .u8 a2)) (h3 : okV (.str a3)) : ∃ F,f6 F (a0,a1,a2,a3) = some ((.bool true),[]) := by
 have b1 : 0 ≤ a1 ∧ a1 ≤ 255 := has_u8 h1
 have b2 : 0 ≤ a2 ∧ a2 ≤ 255 := has_u8 h2
 have eH : Int.tmod (IntKind.i64.wrap a1) (3 : Int) = a1 % 3 := by rw [i64w (by omega) (by omega),tmod_nn b1.1]
 obtain ⟨n,hn⟩ : ∃ n : Nat,a1 % 3 = n := ⟨(a1 % 3).toNat,by omega⟩
 have hn2 : n ≤ 2 := by omega
 have ePW := pow_small (n := n) (by omega)
 obtain ⟨eI,i1,i2⟩ := idx_rng b2 (n := n)
 refine ⟨0,?_⟩
 simp only [f6,f6_1,Sg.verO_eq,eH,hn,ePW,eI]
 by_cases hm : (a3.length : Int) > 200
 ·rw [cond_pos hm]
 rw [cond_neg hm]
 generalize a2 % 2 ^ n = i at i1 i2
 have hs : (List.replicate 32 a0).length = 32 := by simp
 generalize List.replicate 32 a0 = s at hs
 obtain ⟨R,q1,q2,q3⟩ := signed hs hn2 ⟨i1,i2⟩ (show a3.length ≤ 1048576 by omega)
 have hi9 := Sg.int_le i
 have hi1 := Wire.int_pos i
 have hl : (Wire.int i ++ R).length = (Wire.int i).length + R.length := List.length_append
 have hlong : Sg.verify (Sg.nd s n 0) (n : Int) a3 (Wire.int i ++ R ++ [120]) = (0,2) := by
  rw [List.append_assoc]; exact ver_len hn2 ⟨i1,i2⟩ (by omega) (by rw [List.length_append]; simp only [List.length_cons,List.length_nil]; omega)
 have hless : Sg.verify (Sg.nd s n 0) (n : Int) a3 ((Wire.int i ++ R).take (Int.toNat (IntKind.i64.wrap (((Wire.int i ++ R).length : Int) - 1)))) = (0,2) := by
  have e : (Wire.int i ++ R).take (Int.toNat (IntKind.i64.wrap (((Wire.int i ++ R).length : Int) - 1))) = Wire.int i ++ R.take (R.length - 1) := by
   rw [i64w (by omega) (by omega),List.take_append,List.take_of_length_le (by omega)]
   congr 2; omega
  rw [e]; exact ver_len hn2 ⟨i1,i2⟩ (by omega) (by rw [List.length_take]; omega)
 have hp := pow_pos1 (n := n)
 simp only [q1,pub_ok hs hn2,q3,hlong,hless,lowOk hn2,cond_true,int_bne,int_beq,dec_not,dec_and]
 rw [cond_pos (by omega),cond_pos (by omega),cond_neg (fun h => h rfl),cond_neg (fun h => h rfl),cond_neg (fun h => h rfl),cond_neg (by omega),cond_pos (by omega),i64w (by omega) (by omega),cond_pos (by omega),cond_pos trivial,cond_pos trivial]
 simp
theorem c6 : CallOk Tryd.prog G02 6 r6 := callOk_of (V := VG026) mixed tys eVG026 (f := 6) (fn := Tryd.f6) Tryd.func6 (by kernel_rfl) (c := sub (bodyOf Tryd.f6) []) (by kernel_rfl) (by
 intro X H r H' h hX hH
 unfold r6 at h; split at h <;> try contradiction
 ·simp only [Option.some.injEq,Prod.mk.injEq] at h
  obtain ⟨hp,rfl,rfl⟩ := h
  obtain ⟨F,hF⟩ := s6 _ _ _ _ (hX _ (.head _)) (hX _ (.tail _ (.head _))) (hX _ (.tail _ (.tail _ (.head _)))) (hX _ (.tail _ (.tail _ (.tail _ (.head _)))))
  exact ⟨Af6 F,(f6_body F _ _ _ _).trans hF⟩)
end
end Go.Am
end
section
namespace Go.Am
open Go Go.Proofs
noncomputable section
def r5 : CRun := fun X H => match X,H with
 | [(.agg 16 (.rI .u8 a0)),.int .i64 a1,.str a2,.str a3],[] => some (true,.bool true,[])
 | _,_ => none
def lVG038 : List CEnt := [(9,[],r9),(12,[none,none],r12),(14,[none,none,none,none],r14),(18,[none,none,none,none],r18),(19,[none,none,none,none],r19),(20,[none],r20)]
def VG038 : Env := mkEnv T03 G03 lVG038
noncomputable abbrev Kf62 := kFin VG038 none (Tryd.f8).results.toList
theorem eVG038 : EOk Tryd.prog VG038 := eok_mk (by exact ⟨c9.more gsub,c12.more gsub,c14.more gsub,c18.more gsub,c19,c20.more gsub,trivial⟩)
def Af8 (F : Nat) : Cuts := { F := F,at_ := fun _ => none,join := fun _ => none }
def ef8_a : Ty38 → St := fun (a0,a1,a2,a3,a4) => ⟨[(0,.int .u8 a0),(1,.int .u8 a1),(2,.int .u8 a2),(3,.int .u8 a3),(4,.str a4)],[],0,139,0⟩
def f8_1 (F : Nat) : Ty38 → Rz := fun (a0,a1,a2,a3,a4) => (cond (decide ((↑a4.length : Int) > (200 : Int))) (some ((.bool true),[])) (cond (decide (0 ≤ (Int.tmod (IntKind.i64.wrap a1) (3 : Int)))) (cond (!((IntKind.i64.wrap ((1 : Int) * 2 ^ (min (Int.toNat (Int.tmod (IntKind.i64.wrap a1) (3 : Int))) 64))) == 0)) (cond (decide (0 ≤ (Int.tmod (IntKind.i64.wrap a1) (3 : Int)))) (cond (!((IntKind.i64.wrap ((1 : Int) * 2 ^ (min (Int.toNat (Int.tmod (IntKind.i64.wrap a1) (3 : Int))) 64))) == 0)) (cond (Sg.low (Int.tmod (IntKind.i64.wrap a1) (3 : Int))) (cond (Sg.low (Int.tmod (IntKind.i64.wrap a1) (3 : Int))) (cond (Sg.low (Int.tmod (IntKind.i64.wrap a1) (3 : Int))) (cond ((Sg.sign (List.replicate 32 a0) (Int.tmod (IntKind.i64.wrap a1) (3 : Int)) (Int.tmod (IntKind.i64.wrap a3) (IntKind.i64.wrap ((1 : Int) * 2 ^ (min (Int.toNat (Int.tmod (IntKind.i64.wrap a1) (3 : Int))) 64)))) a4).2 != (0 : Int)) (some ((.bool false),[])) (cond (decide ((↑(Sg.sign (List.replicate 32 a0) (Int.tmod (IntKind.i64.wrap a1) (3 : Int)) (Int.tmod (IntKind.i64.wrap a2) (IntKind.i64.wrap ((1 : Int) * 2 ^ (min (Int.toNat (Int.tmod (IntKind.i64.wrap a1) (3 : Int))) 64)))) a4).1.length : Int) < (1088 : Int))) (some ((.bool false),[])) (cond (decide ((↑(Sg.sign (List.replicate 32 a0) (Int.tmod (IntKind.i64.wrap a1) (3 : Int)) (Int.tmod (IntKind.i64.wrap a2) (IntKind.i64.wrap ((1 : Int) * 2 ^ (min (Int.toNat (Int.tmod (IntKind.i64.wrap a1) (3 : Int))) 64)))) a4).1.length : Int) < (IntKind.i64.wrap ((IntKind.i64.wrap ((68 : Int) + (Int.tmod (IntKind.i64.wrap a1) (3 : Int)))) * (16 : Int))))) (some ((.bool false),[])) (cond (decide ((↑(Sg.sign (List.replicate 32 a0) (Int.tmod (IntKind.i64.wrap a1) (3 : Int)) (Int.tmod (IntKind.i64.wrap a3) (IntKind.i64.wrap ((1 : Int) * 2 ^ (min (Int.toNat (Int.tmod (IntKind.i64.wrap a1) (3 : Int))) 64)))) a4).1.length : Int) < (IntKind.i64.wrap ((IntKind.i64.wrap ((68 : Int) + (Int.tmod (IntKind.i64.wrap a1) (3 : Int)))) * (16 : Int))))) (some ((.bool false),[])) (cond ((decide ((0 : Int) ≤ (IntKind.i64.wrap ((↑(Sg.sign (List.replicate 32 a0) (Int.tmod (IntKind.i64.wrap a1) (3 : Int)) (Int.tmod (IntKind.i64.wrap a3) (IntKind.i64.wrap ((1 : Int) * 2 ^ (min (Int.toNat (Int.tmod (IntKind.i64.wrap a1) (3 : Int))) 64)))) a4).1.length : Int) - (IntKind.i64.wrap ((IntKind.i64.wrap ((68 : Int) + (Int.tmod (IntKind.i64.wrap a1) (3 : Int)))) * (16 : Int))))))) && (decide ((IntKind.i64.wrap ((↑(Sg.sign (List.replicate 32 a0) (Int.tmod (IntKind.i64.wrap a1) (3 : Int)) (Int.tmod (IntKind.i64.wrap a3) (IntKind.i64.wrap ((1 : Int) * 2 ^ (min (Int.toNat (Int.tmod (IntKind.i64.wrap a1) (3 : Int))) 64)))) a4).1.length : Int) - (IntKind.i64.wrap ((IntKind.i64.wrap ((68 : Int) + (Int.tmod (IntKind.i64.wrap a1) (3 : Int)))) * (16 : Int))))) ≤ (↑(Sg.sign (List.replicate 32 a0) (Int.tmod (IntKind.i64.wrap a1) (3 : Int)) (Int.tmod (IntKind.i64.wrap a3) (IntKind.i64.wrap ((1 : Int) * 2 ^ (min (Int.toNat (Int.tmod (IntKind.i64.wrap a1) (3 : Int))) 64)))) a4).1.length : Int)))) (cond (((decide (0 ≤ (IntKind.i64.wrap ((↑(Sg.sign (List.replicate 32 a0) (Int.tmod (IntKind.i64.wrap a1) (3 : Int)) (Int.tmod (IntKind.i64.wrap a2) (IntKind.i64.wrap ((1 : Int) * 2 ^ (min (Int.toNat (Int.tmod (IntKind.i64.wrap a1) (3 : Int))) 64)))) a4).1.length : Int) - (IntKind.i64.wrap ((IntKind.i64.wrap ((68 : Int) + (Int.tmod (IntKind.i64.wrap a1) (3 : Int)))) * (16 : Int))))))) && (decide ((IntKind.i64.wrap ((↑(Sg.sign (List.replicate 32 a0) (Int.tmod (IntKind.i64.wrap a1) (3 : Int)) (Int.tmod (IntKind.i64.wrap a2) (IntKind.i64.wrap ((1 : Int) * 2 ^ (min (Int.toNat (Int.tmod (IntKind.i64.wrap a1) (3 : Int))) 64)))) a4).1.length : Int) - (IntKind.i64.wrap ((IntKind.i64.wrap ((68 : Int) + (Int.tmod (IntKind.i64.wrap a1) (3 : Int)))) * (16 : Int))))) ≤ (↑(Sg.sign (List.replicate 32 a0) (Int.tmod (IntKind.i64.wrap a1) (3 : Int)) (Int.tmod (IntKind.i64.wrap a2) (IntKind.i64.wrap ((1 : Int) * 2 ^ (min (Int.toNat (Int.tmod (IntKind.i64.wrap a1) (3 : Int))) 64)))) a4).1.length : Int)))) && (decide ((↑(Sg.sign (List.replicate 32 a0) (Int.tmod (IntKind.i64.wrap a1) (3 : Int)) (Int.tmod (IntKind.i64.wrap a2) (IntKind.i64.wrap ((1 : Int) * 2 ^ (min (Int.toNat (Int.tmod (IntKind.i64.wrap a1) (3 : Int))) 64)))) a4).1.length : Int) ≤ (↑(Sg.sign (List.replicate 32 a0) (Int.tmod (IntKind.i64.wrap a1) (3 : Int)) (Int.tmod (IntKind.i64.wrap a2) (IntKind.i64.wrap ((1 : Int) * 2 ^ (min (Int.toNat (Int.tmod (IntKind.i64.wrap a1) (3 : Int))) 64)))) a4).1.length : Int)))) (cond (decide ((((Sg.sign (List.replicate 32 a0) (Int.tmod (IntKind.i64.wrap a1) (3 : Int)) (Int.tmod (IntKind.i64.wrap a3) (IntKind.i64.wrap ((1 : Int) * 2 ^ (min (Int.toNat (Int.tmod (IntKind.i64.wrap a1) (3 : Int))) 64)))) a4).1.take (Int.toNat (IntKind.i64.wrap ((↑(Sg.sign (List.replicate 32 a0) (Int.tmod (IntKind.i64.wrap a1) (3 : Int)) (Int.tmod (IntKind.i64.wrap a3) (IntKind.i64.wrap ((1 : Int) * 2 ^ (min (Int.toNat (Int.tmod (IntKind.i64.wrap a1) (3 : Int))) 64)))) a4).1.length : Int) - (IntKind.i64.wrap ((IntKind.i64.wrap ((68 : Int) + (Int.tmod (IntKind.i64.wrap a1) (3 : Int)))) * (16 : Int))))))).length + (((Sg.sign (List.replicate 32 a0) (Int.tmod (IntKind.i64.wrap a1) (3 : Int)) (Int.tmod (IntKind.i64.wrap a2) (IntKind.i64.wrap ((1 : Int) * 2 ^ (min (Int.toNat (Int.tmod (IntKind.i64.wrap a1) (3 : Int))) 64)))) a4).1.take (Sg.sign (List.replicate 32 a0) (Int.tmod (IntKind.i64.wrap a1) (3 : Int)) (Int.tmod (IntKind.i64.wrap a2) (IntKind.i64.wrap ((1 : Int) * 2 ^ (min (Int.toNat (Int.tmod (IntKind.i64.wrap a1) (3 : Int))) 64)))) a4).1.length).drop (Int.toNat (IntKind.i64.wrap ((↑(Sg.sign (List.replicate 32 a0) (Int.tmod (IntKind.i64.wrap a1) (3 : Int)) (Int.tmod (IntKind.i64.wrap a2) (IntKind.i64.wrap ((1 : Int) * 2 ^ (min (Int.toNat (Int.tmod (IntKind.i64.wrap a1) (3 : Int))) 64)))) a4).1.length : Int) - (IntKind.i64.wrap ((IntKind.i64.wrap ((68 : Int) + (Int.tmod (IntKind.i64.wrap a1) (3 : Int)))) * (16 : Int))))))).length) < 4611686018427387904)) (cond (decide ((((Sg.sign (List.replicate 32 a0) (Int.tmod (IntKind.i64.wrap a1) (3 : Int)) (Int.tmod (IntKind.i64.wrap a3) (IntKind.i64.wrap ((1 : Int) * 2 ^ (min (Int.toNat (Int.tmod (IntKind.i64.wrap a1) (3 : Int))) 64)))) a4).1.take (Int.toNat (IntKind.i64.wrap ((↑(Sg.sign (List.replicate 32 a0) (Int.tmod (IntKind.i64.wrap a1) (3 : Int)) (Int.tmod (IntKind.i64.wrap a3) (IntKind.i64.wrap ((1 : Int) * 2 ^ (min (Int.toNat (Int.tmod (IntKind.i64.wrap a1) (3 : Int))) 64)))) a4).1.length : Int) - (IntKind.i64.wrap ((IntKind.i64.wrap ((68 : Int) + (Int.tmod (IntKind.i64.wrap a1) (3 : Int)))) * (16 : Int))))))) ++ (((Sg.sign (List.replicate 32 a0) (Int.tmod (IntKind.i64.wrap a1) (3 : Int)) (Int.tmod (IntKind.i64.wrap a2) (IntKind.i64.wrap ((1 : Int) * 2 ^ (min (Int.toNat (Int.tmod (IntKind.i64.wrap a1) (3 : Int))) 64)))) a4).1.take (Sg.sign (List.replicate 32 a0) (Int.tmod (IntKind.i64.wrap a1) (3 : Int)) (Int.tmod (IntKind.i64.wrap a2) (IntKind.i64.wrap ((1 : Int) * 2 ^ (min (Int.toNat (Int.tmod (IntKind.i64.wrap a1) (3 : Int))) 64)))) a4).1.length).drop (Int.toNat (IntKind.i64.wrap ((↑(Sg.sign (List.replicate 32 a0) (Int.tmod (IntKind.i64.wrap a1) (3 : Int)) (Int.tmod (IntKind.i64.wrap a2) (IntKind.i64.wrap ((1 : Int) * 2 ^ (min (Int.toNat (Int.tmod (IntKind.i64.wrap a1) (3 : Int))) 64)))) a4).1.length : Int) - (IntKind.i64.wrap ((IntKind.i64.wrap ((68 : Int) + (Int.tmod (IntKind.i64.wrap a1) (3 : Int)))) * (16 : Int)))))))).length < 1073730000)) (cond ((Sg.verO (Sg.pub (List.replicate 32 a0) (Int.tmod (IntKind.i64.wrap a1) (3 : Int))).1 (Int.tmod (IntKind.i64.wrap a1) (3 : Int)) a4 (((Sg.sign (List.replicate 32 a0) (Int.tmod (IntKind.i64.wrap a1) (3 : Int)) (Int.tmod (IntKind.i64.wrap a3) (IntKind.i64.wrap ((1 : Int) * 2 ^ (min (Int.toNat (Int.tmod (IntKind.i64.wrap a1) (3 : Int))) 64)))) a4).1.take (Int.toNat (IntKind.i64.wrap ((↑(Sg.sign (List.replicate 32 a0) (Int.tmod (IntKind.i64.wrap a1) (3 : Int)) (Int.tmod (IntKind.i64.wrap a3) (IntKind.i64.wrap ((1 : Int) * 2 ^ (min (Int.toNat (Int.tmod (IntKind.i64.wrap a1) (3 : Int))) 64)))) a4).1.length : Int) - (IntKind.i64.wrap ((IntKind.i64.wrap ((68 : Int) + (Int.tmod (IntKind.i64.wrap a1) (3 : Int)))) * (16 : Int))))))) ++ (((Sg.sign (List.replicate 32 a0) (Int.tmod (IntKind.i64.wrap a1) (3 : Int)) (Int.tmod (IntKind.i64.wrap a2) (IntKind.i64.wrap ((1 : Int) * 2 ^ (min (Int.toNat (Int.tmod (IntKind.i64.wrap a1) (3 : Int))) 64)))) a4).1.take (Sg.sign (List.replicate 32 a0) (Int.tmod (IntKind.i64.wrap a1) (3 : Int)) (Int.tmod (IntKind.i64.wrap a2) (IntKind.i64.wrap ((1 : Int) * 2 ^ (min (Int.toNat (Int.tmod (IntKind.i64.wrap a1) (3 : Int))) 64)))) a4).1.length).drop (Int.toNat (IntKind.i64.wrap ((↑(Sg.sign (List.replicate 32 a0) (Int.tmod (IntKind.i64.wrap a1) (3 : Int)) (Int.tmod (IntKind.i64.wrap a2) (IntKind.i64.wrap ((1 : Int) * 2 ^ (min (Int.toNat (Int.tmod (IntKind.i64.wrap a1) (3 : Int))) 64)))) a4).1.length : Int) - (IntKind.i64.wrap ((IntKind.i64.wrap ((68 : Int) + (Int.tmod (IntKind.i64.wrap a1) (3 : Int)))) * (16 : Int))))))))).1 == (Sg.verify (Sg.pub (List.replicate 32 a0) (Int.tmod (IntKind.i64.wrap a1) (3 : Int))).1 (Int.tmod (IntKind.i64.wrap a1) (3 : Int)) a4 (((Sg.sign (List.replicate 32 a0) (Int.tmod (IntKind.i64.wrap a1) (3 : Int)) (Int.tmod (IntKind.i64.wrap a3) (IntKind.i64.wrap ((1 : Int) * 2 ^ (min (Int.toNat (Int.tmod (IntKind.i64.wrap a1) (3 : Int))) 64)))) a4).1.take (Int.toNat (IntKind.i64.wrap ((↑(Sg.sign (List.replicate 32 a0) (Int.tmod (IntKind.i64.wrap a1) (3 : Int)) (Int.tmod (IntKind.i64.wrap a3) (IntKind.i64.wrap ((1 : Int) * 2 ^ (min (Int.toNat (Int.tmod (IntKind.i64.wrap a1) (3 : Int))) 64)))) a4).1.length : Int) - (IntKind.i64.wrap ((IntKind.i64.wrap ((68 : Int) + (Int.tmod (IntKind.i64.wrap a1) (3 : Int)))) * (16 : Int))))))) ++ (((Sg.sign (List.replicate 32 a0) (Int.tmod (IntKind.i64.wrap a1) (3 : Int)) (Int.tmod (IntKind.i64.wrap a2) (IntKind.i64.wrap ((1 : Int) * 2 ^ (min (Int.toNat (Int.tmod (IntKind.i64.wrap a1) (3 : Int))) 64)))) a4).1.take (Sg.sign (List.replicate 32 a0) (Int.tmod (IntKind.i64.wrap a1) (3 : Int)) (Int.tmod (IntKind.i64.wrap a2) (IntKind.i64.wrap ((1 : Int) * 2 ^ (min (Int.toNat (Int.tmod (IntKind.i64.wrap a1) (3 : Int))) 64)))) a4).1.length).drop (Int.toNat (IntKind.i64.wrap ((↑(Sg.sign (List.replicate 32 a0) (Int.tmod (IntKind.i64.wrap a1) (3 : Int)) (Int.tmod (IntKind.i64.wrap a2) (IntKind.i64.wrap ((1 : Int) * 2 ^ (min (Int.toNat (Int.tmod (IntKind.i64.wrap a1) (3 : Int))) 64)))) a4).1.length : Int) - (IntKind.i64.wrap ((IntKind.i64.wrap ((68 : Int) + (Int.tmod (IntKind.i64.wrap a1) (3 : Int)))) * (16 : Int))))))))).1) (cond ((Sg.verO (Sg.pub (List.replicate 32 a0) (Int.tmod (IntKind.i64.wrap a1) (3 : Int))).1 (Int.tmod (IntKind.i64.wrap a1) (3 : Int)) a4 (((Sg.sign (List.replicate 32 a0) (Int.tmod (IntKind.i64.wrap a1) (3 : Int)) (Int.tmod (IntKind.i64.wrap a3) (IntKind.i64.wrap ((1 : Int) * 2 ^ (min (Int.toNat (Int.tmod (IntKind.i64.wrap a1) (3 : Int))) 64)))) a4).1.take (Int.toNat (IntKind.i64.wrap ((↑(Sg.sign (List.replicate 32 a0) (Int.tmod (IntKind.i64.wrap a1) (3 : Int)) (Int.tmod (IntKind.i64.wrap a3) (IntKind.i64.wrap ((1 : Int) * 2 ^ (min (Int.toNat (Int.tmod (IntKind.i64.wrap a1) (3 : Int))) 64)))) a4).1.length : Int) - (IntKind.i64.wrap ((IntKind.i64.wrap ((68 : Int) + (Int.tmod (IntKind.i64.wrap a1) (3 : Int)))) * (16 : Int))))))) ++ (((Sg.sign (List.replicate 32 a0) (Int.tmod (IntKind.i64.wrap a1) (3 : Int)) (Int.tmod (IntKind.i64.wrap a2) (IntKind.i64.wrap ((1 : Int) * 2 ^ (min (Int.toNat (Int.tmod (IntKind.i64.wrap a1) (3 : Int))) 64)))) a4).1.take (Sg.sign (List.replicate 32 a0) (Int.tmod (IntKind.i64.wrap a1) (3 : Int)) (Int.tmod (IntKind.i64.wrap a2) (IntKind.i64.wrap ((1 : Int) * 2 ^ (min (Int.toNat (Int.tmod (IntKind.i64.wrap a1) (3 : Int))) 64)))) a4).1.length).drop (Int.toNat (IntKind.i64.wrap ((↑(Sg.sign (List.replicate 32 a0) (Int.tmod (IntKind.i64.wrap a1) (3 : Int)) (Int.tmod (IntKind.i64.wrap a2) (IntKind.i64.wrap ((1 : Int) * 2 ^ (min (Int.toNat (Int.tmod (IntKind.i64.wrap a1) (3 : Int))) 64)))) a4).1.length : Int) - (IntKind.i64.wrap ((IntKind.i64.wrap ((68 : Int) + (Int.tmod (IntKind.i64.wrap a1) (3 : Int)))) * (16 : Int))))))))).2 == (Sg.verify (Sg.pub (List.replicate 32 a0) (Int.tmod (IntKind.i64.wrap a1) (3 : Int))).1 (Int.tmod (IntKind.i64.wrap a1) (3 : Int)) a4 (((Sg.sign (List.replicate 32 a0) (Int.tmod (IntKind.i64.wrap a1) (3 : Int)) (Int.tmod (IntKind.i64.wrap a3) (IntKind.i64.wrap ((1 : Int) * 2 ^ (min (Int.toNat (Int.tmod (IntKind.i64.wrap a1) (3 : Int))) 64)))) a4).1.take (Int.toNat (IntKind.i64.wrap ((↑(Sg.sign (List.replicate 32 a0) (Int.tmod (IntKind.i64.wrap a1) (3 : Int)) (Int.tmod (IntKind.i64.wrap a3) (IntKind.i64.wrap ((1 : Int) * 2 ^ (min (Int.toNat (Int.tmod (IntKind.i64.wrap a1) (3 : Int))) 64)))) a4).1.length : Int) - (IntKind.i64.wrap ((IntKind.i64.wrap ((68 : Int) + (Int.tmod (IntKind.i64.wrap a1) (3 : Int)))) * (16 : Int))))))) ++ (((Sg.sign (List.replicate 32 a0) (Int.tmod (IntKind.i64.wrap a1) (3 : Int)) (Int.tmod (IntKind.i64.wrap a2) (IntKind.i64.wrap ((1 : Int) * 2 ^ (min (Int.toNat (Int.tmod (IntKind.i64.wrap a1) (3 : Int))) 64)))) a4).1.take (Sg.sign (List.replicate 32 a0) (Int.tmod (IntKind.i64.wrap a1) (3 : Int)) (Int.tmod (IntKind.i64.wrap a2) (IntKind.i64.wrap ((1 : Int) * 2 ^ (min (Int.toNat (Int.tmod (IntKind.i64.wrap a1) (3 : Int))) 64)))) a4).1.length).drop (Int.toNat (IntKind.i64.wrap ((↑(Sg.sign (List.replicate 32 a0) (Int.tmod (IntKind.i64.wrap a1) (3 : Int)) (Int.tmod (IntKind.i64.wrap a2) (IntKind.i64.wrap ((1 : Int) * 2 ^ (min (Int.toNat (Int.tmod (IntKind.i64.wrap a1) (3 : Int))) 64)))) a4).1.length : Int) - (IntKind.i64.wrap ((IntKind.i64.wrap ((68 : Int) + (Int.tmod (IntKind.i64.wrap a1) (3 : Int)))) * (16 : Int))))))))).2) (cond ((Int.tmod (IntKind.i64.wrap a2) (IntKind.i64.wrap ((1 : Int) * 2 ^ (min (Int.toNat (Int.tmod (IntKind.i64.wrap a1) (3 : Int))) 64)))) != (Int.tmod (IntKind.i64.wrap a3) (IntKind.i64.wrap ((1 : Int) * 2 ^ (min (Int.toNat (Int.tmod (IntKind.i64.wrap a1) (3 : Int))) 64))))) (some ((.bool true),[])) (some ((.bool ((Sg.verO (Sg.pub (List.replicate 32 a0) (Int.tmod (IntKind.i64.wrap a1) (3 : Int))).1 (Int.tmod (IntKind.i64.wrap a1) (3 : Int)) a4 (((Sg.sign (List.replicate 32 a0) (Int.tmod (IntKind.i64.wrap a1) (3 : Int)) (Int.tmod (IntKind.i64.wrap a3) (IntKind.i64.wrap ((1 : Int) * 2 ^ (min (Int.toNat (Int.tmod (IntKind.i64.wrap a1) (3 : Int))) 64)))) a4).1.take (Int.toNat (IntKind.i64.wrap ((↑(Sg.sign (List.replicate 32 a0) (Int.tmod (IntKind.i64.wrap a1) (3 : Int)) (Int.tmod (IntKind.i64.wrap a3) (IntKind.i64.wrap ((1 : Int) * 2 ^ (min (Int.toNat (Int.tmod (IntKind.i64.wrap a1) (3 : Int))) 64)))) a4).1.length : Int) - (IntKind.i64.wrap ((IntKind.i64.wrap ((68 : Int) + (Int.tmod (IntKind.i64.wrap a1) (3 : Int)))) * (16 : Int))))))) ++ (((Sg.sign (List.replicate 32 a0) (Int.tmod (IntKind.i64.wrap a1) (3 : Int)) (Int.tmod (IntKind.i64.wrap a2) (IntKind.i64.wrap ((1 : Int) * 2 ^ (min (Int.toNat (Int.tmod (IntKind.i64.wrap a1) (3 : Int))) 64)))) a4).1.take (Sg.sign (List.replicate 32 a0) (Int.tmod (IntKind.i64.wrap a1) (3 : Int)) (Int.tmod (IntKind.i64.wrap a2) (IntKind.i64.wrap ((1 : Int) * 2 ^ (min (Int.toNat (Int.tmod (IntKind.i64.wrap a1) (3 : Int))) 64)))) a4).1.length).drop (Int.toNat (IntKind.i64.wrap ((↑(Sg.sign (List.replicate 32 a0) (Int.tmod (IntKind.i64.wrap a1) (3 : Int)) (Int.tmod (IntKind.i64.wrap a2) (IntKind.i64.wrap ((1 : Int) * 2 ^ (min (Int.toNat (Int.tmod (IntKind.i64.wrap a1) (3 : Int))) 64)))) a4).1.length : Int) - (IntKind.i64.wrap ((IntKind.i64.wrap ((68 : Int) + (Int.tmod (IntKind.i64.wrap a1) (3 : Int)))) * (16 : Int))))))))).2 == (0 : Int))),[]))) (some ((.bool false),[]))) (some ((.bool false),[]))) none) none) none) none))))) none) none) none) none) none) none) none))
theorem f8_1_eq (F : Nat) : ∀ v,aexec VG038 (Af8 F) (sub (bodyOf Tryd.f8) []) (ef8_a v) Kf62 = f8_1 F v := by
 rintro ⟨a0,a1,a2,a3,a4⟩; kernel_rfl
def f8 (F : Nat) : Ty38 → Rz := f8_1 F
theorem f8_body (F : Nat) (a0 : Int) (a1 : Int) (a2 : Int) (a3 : Int) (a4 : List Int) : abody VG038 (Af8 F) Tryd.f8 [(.int .u8 a0),.int .u8 a1,.int .u8 a2,.int .u8 a3,.str a4] [] = f8 F (a0,a1,a2,a3,a4) :=
 (abody_in (c := (sub (bodyOf Tryd.f8) [])) (by kernel_rfl) (s := ef8_a (a0,a1,a2,a3,a4)) (by kernel_rfl)).trans (f8_1_eq F (a0,a1,a2,a3,a4))
def r8 : CRun := fun X H => match X,H with
 | [(.int .u8 a0),.int .u8 a1,.int .u8 a2,.int .u8 a3,.str a4],[] => some (true,.bool true,[])
 | _,_ => none
theorem s8 (a0 : Int) (a1 : Int) (a2 : Int) (a3 : Int) (a4 : List Int) (h0 : okV (.int .u8 a0)) (h1 : okV (.int .u8 a1)) (h2 : okV (.int .u8 a2)) (h3 : okV (.int .u8 a3)) (h4 : okV (.str a4)) : ∃ F,f8 F (a0,a1,a2,a3,a4) = some ((.bool true),[]) := by
 have b1 : 0 ≤ a1 ∧ a1 ≤ 255 := has_u8 h1
 have b2 : 0 ≤ a2 ∧ a2 ≤ 255 := has_u8 h2
 have b3 : 0 ≤ a3 ∧ a3 ≤ 255 := has_u8 h3
 have eH : Int.tmod (IntKind.i64.wrap a1) (3 : Int) = a1 % 3 := by rw [i64w (by omega) (by omega),tmod_nn b1.1]
 obtain ⟨n,hn⟩ : ∃ n : Nat,a1 % 3 = n := ⟨(a1 % 3).toNat,by omega⟩
 have hn2 : n ≤ 2 := by omega
 have ePW := pow_small (n := n) (by omega)
 obtain ⟨eI,i1,i2⟩ := idx_rng b2 (n := n)
 obtain ⟨eK,k1,k2⟩ := idx_rng b3 (n := n)
 have eW : IntKind.i64.wrap (IntKind.i64.wrap ((68 : Int) + (n : Int)) * (16 : Int)) = (68 + (n : Int)) * 16 := by
  rw [i64w (x := 68 + (n : Int)) (by omega) (by omega),i64w (by omega) (by omega)]
 refine ⟨0,?_⟩
 simp only [f8,f8_1,Sg.verO_eq,eH,hn,ePW,eI,eK,eW]
 by_cases hm : (a4.length : Int) > 200
 ·rw [cond_pos hm]
 rw [cond_neg hm]
 generalize a2 % 2 ^ n = i at i1 i2
 generalize a3 % 2 ^ n = j at k1 k2
 have hs : (List.replicate 32 a0).length = 32 := by simp
 generalize List.replicate 32 a0 = s at hs
 obtain ⟨R,q1,q2,q3⟩ := signed hs hn2 ⟨i1,i2⟩ (show a4.length ≤ 1048576 by omega)
 obtain ⟨R',p1,p2,p3⟩ := signed hs hn2 ⟨k1,k2⟩ (show a4.length ≤ 1048576 by omega)
 have hi9 := Sg.int_le i
 have hk9 := Sg.int_le j
 have hl : (Wire.int i ++ R).length = (Wire.int i).length + R.length := List.length_append
 have hl' : (Wire.int j ++ R').length = (Wire.int j).length + R'.length := List.length_append
 have hp := pow_pos1 (n := n)
 simp only [q1,p1,pub_ok hs hn2,lowOk hn2,cond_true,int_bne,int_beq,dec_not,dec_and,List.take_length]
 rw [i64w (x := ((Wire.int j ++ R').length : Int) - (68 + (n : Int)) * 16) (by omega) (by omega),i64w (x := ((Wire.int i ++ R).length : Int) - (68 + (n : Int)) * 16) (by omega) (by omega)]
 rw [cond_pos (by omega),cond_pos (by omega),cond_pos (by omega),cond_pos (by omega),cond_neg (fun h => h rfl),cond_neg (by omega),cond_neg (by omega),cond_neg (by omega),cond_pos (by omega),cond_pos (by omega),
  cond_pos (by rw [List.length_take,List.length_drop]; omega),cond_pos (by rw [List.length_append,List.length_take,List.length_drop]; omega),cond_pos trivial,cond_pos trivial]
 by_cases hij : i = j
 ·rw [cond_neg (fun h => h hij)]
  subst hij
  rw [q1] at p1
  have hR : R = R' := List.append_cancel_left (Prod.mk.inj p1).1
  subst hR
  rw [List.take_append_drop,q3]
  simp
 ·rw [cond_pos hij]
theorem c8 : CallOk Tryd.prog G03 8 r8 := callOk_of (V := VG038) mixed tys eVG038 (f := 8) (fn := Tryd.f8) Tryd.func8 (by kernel_rfl) (c := sub (bodyOf Tryd.f8) []) (by kernel_rfl) (by
 intro X H r H' h hX hH
 unfold r8 at h; split at h <;> try contradiction
 ·simp only [Option.some.injEq,Prod.mk.injEq] at h
  obtain ⟨hp,rfl,rfl⟩ := h
  obtain ⟨F,hF⟩ := s8 _ _ _ _ _ (hX _ (.head _)) (hX _ (.tail _ (.head _))) (hX _ (.tail _ (.tail _ (.head _)))) (hX _ (.tail _ (.tail _ (.tail _ (.head _))))) (hX _ (.tail _ (.tail _ (.tail _ (.tail _ (.head _))))))
  exact ⟨Af8 F,(f8_body F _ _ _ _ _).trans hF⟩)
end
end Go.Am
end