/- Part of a proof about the functions of the given program. -/
import Derived.Test.YtcafjaenmbhlnaaAmIsl
import Derived.Test.YtcafjaenmbhlnaaProg
set_option linter.unusedVariables false
set_option linter.unusedSimpArgs false
namespace Go.Am
open Go Go.Proofs
abbrev sp0 : List (Nat × Md) := [(0,.plain),(1,.plain),(5,.own 22),(6,.plain)]
abbrev sp1 : List (Nat × Md) := [(0,.plain),(1,.plain),(5,.plain),(6,.plain),(7,.own 2),(8,.plain)]
abbrev sp2 : List (Nat × Md) := [(0,.plain),(1,.plain),(5,.plain)]
abbrev sp3 : List (Nat × Md) := [(0,.plain),(1,.plain),(5,.plain),(6,.plain)]
abbrev sp4 : List (Nat × Md) := [(0,.plain),(1,.plain),(5,.plain),(6,.plain),(7,.plain)]
abbrev sp5 : List (Nat × Md) := [(0,.plain),(1,.plain),(5,.plain),(6,.plain),(7,.plain),(8,.plain)]
abbrev sp6 : List (Nat × Md) := [(0,.plain),(3,.own 22),(4,.plain)]
abbrev sp7 : List (Nat × Md) := [(0,.plain),(3,.plain),(4,.plain)]
abbrev sp8 : List (Nat × Md) := [(0,.plain),(3,.own 2),(4,.plain)]
abbrev Ty0 := (List Int) × Int × Int × (List (List Int))
abbrev Ty1 := (List Int) × Int × Int × Int × (List (List Int))
abbrev Ty2 := (List Int) × Int × Int × Int × (List (List Int)) × (List Int)
abbrev Ty3 := (List Int) × Int × Int × (List (List Int)) × (List Int)
abbrev Ty4 := (List (List Int)) × Int × (List (List Int))
abbrev Ty5 := (List Int) × (List Int) × Int
abbrev Ty6 := (List (List Int)) × (List (List Int))
abbrev Ty7 := (List (List Int)) × (List (List Int)) × Int
def T22 : Tys := [⟨.other,1,0⟩,⟨.func,1,8⟩,⟨.int .i64,1,8⟩,⟨.int .i64,1,8⟩,⟨.bool,1,1⟩,⟨.int .u8,1,1⟩,⟨.int .u8,1,1⟩,⟨.struct [(2,0),(3,1),(4,2),(6,3)],4,24⟩,⟨.struct [(2,0),(3,1),(4,2),(6,3)],4,24⟩,⟨.str,1,16⟩,⟨.str,1,16⟩,⟨.str,1,16⟩,⟨.int .u64,1,8⟩,⟨.other,0,0⟩,⟨.other,0,0⟩,⟨.ptr 110,1,8⟩,⟨.ptr 113,1,8⟩,⟨.ptr 122,1,8⟩,⟨.other,0,0⟩,⟨.other,0,0⟩,⟨.other,1,16⟩,⟨.int .i32,1,4⟩,⟨.slice 3,1,24⟩,⟨.slice 22,1,24⟩,⟨.func,1,8⟩,⟨.func,1,8⟩,⟨.func,1,8⟩,⟨.func,1,8⟩,⟨.slice 23,1,24⟩,⟨.func,1,8⟩,⟨.func,1,8⟩,⟨.func,1,8⟩,⟨.func,1,8⟩,⟨.func,1,8⟩,⟨.func,1,8⟩,⟨.func,1,8⟩,⟨.func,1,8⟩,⟨.func,1,8⟩,⟨.func,1,8⟩,⟨.func,1,8⟩,⟨.func,1,8⟩,⟨.func,1,8⟩,⟨.slice 55,1,24⟩,⟨.func,1,8⟩,⟨.func,1,8⟩,⟨.slice 42,1,24⟩,⟨.func,1,8⟩,⟨.func,1,8⟩,⟨.func,1,8⟩,⟨.struct [(4,0),(22,1)],2,32⟩,⟨.struct [(4,0),(22,1)],2,32⟩,⟨.struct [(50,0),(50,2)],4,64⟩,⟨.struct [(50,0),(50,2)],4,64⟩,⟨.slice 67,1,24⟩,⟨.struct [(3,0),(3,1),(3,2),(3,3),(52,4),(53,8),(53,9),(52,10),(52,14)],18,272⟩,⟨.struct [(3,0),(3,1),(3,2),(3,3),(52,4),(53,8),(53,9),(52,10),(52,14)],18,272⟩,⟨.func,1,8⟩,⟨.func,1,8⟩,⟨.func,1,8⟩,⟨.func,1,8⟩,⟨.func,1,8⟩,⟨.func,1,8⟩,⟨.func,1,8⟩,⟨.func,1,8⟩,⟨.func,1,8⟩,⟨.int .u64,1,8⟩,⟨.struct [(3,0),(52,1)],5,72⟩,⟨.struct [(3,0),(52,1)],5,72⟩,⟨.func,1,8⟩,⟨.func,1,8⟩,⟨.func,1,8⟩,⟨.func,1,8⟩,⟨.map 3 3,1,8⟩,⟨.func,1,8⟩,⟨.other,1,0⟩,⟨.map 3 22,1,8⟩,⟨.func,1,8⟩,⟨.func,1,8⟩,⟨.func,1,8⟩,⟨.func,1,8⟩,⟨.func,1,8⟩,⟨.func,1,8⟩,⟨.func,1,8⟩,⟨.slice 53,1,24⟩,⟨.func,1,8⟩,⟨.func,1,8⟩,⟨.func,1,8⟩,⟨.func,1,8⟩,⟨.int .i64,1,8⟩,⟨.other,1,0⟩,⟨.func,1,8⟩,⟨.func,1,8⟩,⟨.func,1,8⟩,⟨.func,1,8⟩,⟨.func,1,8⟩,⟨.int .u32,1,4⟩,⟨.func,1,8⟩,⟨.int .u64,1,8⟩,⟨.func,1,8⟩,⟨.int .u64,1,8⟩,⟨.func,1,8⟩,⟨.func,1,8⟩,⟨.func,1,8⟩,⟨.ptr 3,1,8⟩,⟨.func,1,8⟩,⟨.ptr 99,1,8⟩,⟨.other,1,0⟩,⟨.func,1,8⟩,⟨.func,1,8⟩,⟨.other,0,0⟩,⟨.other,0,0⟩,⟨.arr 0 16,0,0⟩,⟨.other,0,0⟩,⟨.other,0,0⟩,⟨.func,1,8⟩,⟨.int .u8,1,1⟩,⟨.int .u8,1,1⟩,⟨.func,1,8⟩,⟨.ptr 5,1,8⟩,⟨.int .i32,1,4⟩,⟨.int .i32,1,4⟩,⟨.other,0,0⟩,⟨.other,0,0⟩,⟨.other,1,8⟩]
def G22 : Nat → Option AV := fun _ => none
theorem mixed : Try.prog.follows .mixedOrders = true := by kernel_rfl
theorem tys : TysOk Try.prog T22 := tysB_ok (by kernel_rfl)
def lVG2210 : List CEnt := []
def VG2210 : Env := mkEnv T22 G22 lVG2210
theorem eVG2210 : EOk Try.prog VG2210 := eok_mk (by exact trivial)
def Af10 (F : Nat) : Cuts := { F := F,at_ := fun _ => none,join := fun _ => none }
def ef10_a : Int × Int → St := fun (a0,a1) => { tmps := [(0,(.int .i64 a0)),(1,(.int .i64 a1))],heap := [],next := 0,nt := 13,m := 0 }
def f10_1 (F : Nat) : Int × Int → Rz := fun (a0,a1) => (cond (decide (a0 < (0 : Int))) (cond (!(a1 == 0)) (some ((.int .i64 (Int.tmod (IntKind.i64.wrap (0 - (IntKind.i64.wrap (a0 + (1 : Int))))) a1)),[])) none) (cond (!(a1 == 0)) (some ((.int .i64 (Int.tmod a0 a1)),[])) none))
theorem f10_1_eq (F : Nat) : ∀ v,aexec VG2210 (Af10 F) (sub (bodyOf Try.f10) []) (ef10_a v) (kFin VG2210 none (Try.f10).results.toList) = f10_1 F v := by
  rintro ⟨a0,a1⟩; kernel_rfl
def f10 (F : Nat) : Int × Int → Rz := f10_1 F
theorem f10_body (F : Nat) (a0 : Int) (a1 : Int) : abody VG2210 (Af10 F) Try.f10 [(.int .i64 a0),(.int .i64 a1)] [] = f10 F (a0,a1) :=
  (abody_in (c := (sub (bodyOf Try.f10) [])) (by kernel_rfl) (s := ef10_a (a0,a1)) (by kernel_rfl)).trans (f10_1_eq F (a0,a1))
def r10 : CRun := fun X H => match X,H with
  | [(.int .i64 a0),(.int .i64 a1)],[] => some ((decide (0 < a1)),(.int .i64 (Reg.around a0 a1)),[])
  | _,_ => none
theorem s10 (a0 : Int) (a1 : Int) (hp : ((decide (0 < a1))) = true) (h0 : okV (.int .i64 a0)) (h1 : okV (.int .i64 a1)) : ∃ F,f10 F (a0,a1) = some ((.int .i64 (Reg.around a0 a1)),[]) := by
  have hm : 0 < a1 := of_decide_eq_true hp
  have hn : -9223372036854775808 ≤ a0 ∧ a0 ≤ 9223372036854775807 := h0
  refine ⟨0,?_⟩
  simp only [f10,f10_1,int_beq,dec_not,Reg.around]
  by_cases h : a0 < 0
  · rw [cond_pos h,cond_pos (by omega),i64w (x := a0 + 1) (by omega) (by omega),i64w (by omega) (by omega),if_pos h,Int.zero_sub]
  · rw [cond_neg h,cond_pos (by omega),if_neg h]
theorem c10 : CallOk Try.prog G22 10 r10 := callOk_of (V := VG2210) mixed tys eVG2210 (f := 10) (fn := Try.f10) Try.func10 (by kernel_rfl) (c := sub (bodyOf Try.f10) []) (by kernel_rfl) (by
  intro X H r H' h hX hH
  unfold r10 at h; split at h <;> try contradiction
  · simp only [Option.some.injEq,Prod.mk.injEq] at h
    obtain ⟨hp,rfl,rfl⟩ := h
    obtain ⟨F,hF⟩ := s10 _ _ hp (hX _ (.head _)) (hX _ (.tail _ (.head _)))
    exact ⟨Af10 F,(f10_body F _ _).trans hF⟩)
def lVG2235 : List CEnt := [(10,[none,none],r10)]
def VG2235 : Env := mkEnv T22 G22 lVG2235
theorem eVG2235 : EOk Try.prog VG2235 := eok_mk (by exact ⟨c10,trivial⟩)
def Af35 (F : Nat) : Cuts := { F := F,at_ := fun _ => none,join := fun _ => none }
def ef35_a : (List Int) × Int × Int → St := fun (a0,a1,a2) => { tmps := [(0,(.vs (.rI .i64 a0) 0 1)),(1,(.int .i64 a1)),(2,(.int .i64 a2))],heap := [],next := 0,nt := 21,m := 0 }
def f35_1 (F : Nat) : (List Int) × Int × Int → Rz := fun (a0,a1,a2) => (cond (decide (a1 < (0 : Int))) (some ((.int .i64 (0 : Int)),[])) (cond (decide (a1 ≥ (↑a0.length : Int))) (some ((.int .i64 (0 : Int)),[])) (cond ((decide (0 ≤ a1)) && (decide (a1 < (↑a0.length : Int)))) (cond (decide (0 < a2)) (some ((.int .i64 (Reg.around (a0.getD (Int.toNat a1) 0) a2)),[])) none) none)))
theorem f35_1_eq (F : Nat) : ∀ v,aexec VG2235 (Af35 F) (sub (bodyOf Try.f35) []) (ef35_a v) (kFin VG2235 none (Try.f35).results.toList) = f35_1 F v := by
  rintro ⟨a0,a1,a2⟩; kernel_rfl
def f35 (F : Nat) : (List Int) × Int × Int → Rz := f35_1 F
theorem f35_body (F : Nat) (a0 : List Int) (a1 : Int) (a2 : Int) : abody VG2235 (Af35 F) Try.f35 [(.vs (.rI .i64 a0) 0 1),(.int .i64 a1),(.int .i64 a2)] [] = f35 F (a0,a1,a2) :=
  (abody_in (c := (sub (bodyOf Try.f35) [])) (by kernel_rfl) (s := ef35_a (a0,a1,a2)) (by kernel_rfl)).trans (f35_1_eq F (a0,a1,a2))
def r35 : CRun := fun X H => match X,H with
  | [(.vs (.rI .i64 a0) 0 1),(.int .i64 a1),(.int .i64 a2)],[] => some ((decide (0 < a2)),(.int .i64 (Reg.at_ a0 a1 a2)),[])
  | _,_ => none
theorem s35 (a0 : List Int) (a1 : Int) (a2 : Int) (hp : ((decide (0 < a2))) = true) (h0 : okV (.vs (.rI .i64 a0) 0 1)) (h1 : okV (.int .i64 a1)) (h2 : okV (.int .i64 a2)) : ∃ F,f35 F (a0,a1,a2) = some ((.int .i64 (Reg.at_ a0 a1 a2)),[]) := by
  refine ⟨0,?_⟩
  simp only [f35,f35_1,hp,cond_true,Reg.at_,dec_and]
  by_cases h : a1 < 0
  · rw [cond_pos h,if_pos (.inl h)]
  · rw [cond_neg h]
    by_cases h' : a1 ≥ (a0.length : Int)
    · rw [cond_pos h',if_pos (.inr h')]
    · rw [cond_neg h',cond_pos (by omega),if_neg (by omega)]
theorem c35 : CallOk Try.prog G22 35 r35 := callOk_of (V := VG2235) mixed tys eVG2235 (f := 35) (fn := Try.f35) Try.func35 (by kernel_rfl) (c := sub (bodyOf Try.f35) []) (by kernel_rfl) (by
  intro X H r H' h hX hH
  unfold r35 at h; split at h <;> try contradiction
  · simp only [Option.some.injEq,Prod.mk.injEq] at h
    obtain ⟨hp,rfl,rfl⟩ := h
    obtain ⟨F,hF⟩ := s35 _ _ _ hp (hX _ (.head _)) (hX _ (.tail _ (.head _))) (hX _ (.tail _ (.tail _ (.head _))))
    exact ⟨Af35 F,(f35_body F _ _ _).trans hF⟩)
def lVG2211 : List CEnt := [(35,[some 3,none,none],r35)]
def VG2211 : Env := mkEnv T22 G22 lVG2211
theorem eVG2211 : EOk Try.prog VG2211 := eok_mk (by exact ⟨c35,trivial⟩)
def Af11 (F : Nat) : Cuts := { F := F,at_ := fun n => match n with | 3035 => some sp0 | 7018 => some sp1 | _ => none,join := fun n => match n with | 1045 => some [(0,.plain),(1,.plain)] | 2043 => some sp2 | 3037 => some sp3 | 4001 => some sp3 | 5029 => some sp3 | 6024 => some sp4 | 7020 => some sp5 | 13001 => some sp4 | 14003 => some [(5,.plain)] | _ => none,fin := (some [(4,(.own 22))]) }
def ef11_a : (List Int) × Int → St := fun (a0,a1) => { tmps := [(0,(.vs (.rI .i64 a0) 0 1)),(1,(.int .i64 a1))],heap := [],next := 0,nt := 51,m := 0 }
def ef11j1 : (List Int) × Int → St := fun (t0,t1) => { tmps := [(0,(.vs (.rI .i64 t0) 0 1)),(1,(.int .i64 t1))],heap := [],next := 0,nt := 51,m := 0 }
def ef11j2 : (List Int) × Int → St := fun (t0,t1) => { tmps := [(0,(.vs (.rI .i64 t0) 0 1)),(1,(.int .i64 t1)),(5,.ns)],heap := [],next := 0,nt := 51,m := 0 }
def ef11j3 : (List Int) × Int × Int → St := fun (t0,t1,t6) => { tmps := [(0,(.vs (.rI .i64 t0) 0 1)),(1,(.int .i64 t1)),(5,.ns),(6,(.int .i64 t6))],heap := [],next := 0,nt := 51,m := 0 }
def ef11l1 : Ty0 → St := fun (t0,t1,t6,x4) => { tmps := [(0,(.vs (.rI .i64 t0) 0 1)),(1,(.int .i64 t1)),(5,(.own 0 0 1)),(6,(.int .i64 t6))],heap := [(0,(.cells x4.length (.rL .i64 x4) true))],next := 1,nt := 51,m := 0 }
def ef11j4 : Ty0 → St := fun (t0,t1,t6,x4) => { tmps := [(0,(.vs (.rI .i64 t0) 0 1)),(1,(.int .i64 t1)),(5,(.own 0 0 1)),(6,(.int .i64 t6))],heap := [(0,(.cells x4.length (.rL .i64 x4) true))],next := 1,nt := 51,m := 0 }
def ef11j5 : Ty0 → St := fun (t0,t1,t6,x4) => { tmps := [(0,(.vs (.rI .i64 t0) 0 1)),(1,(.int .i64 t1)),(5,(.own 0 0 1)),(6,(.int .i64 t6)),(7,.ns)],heap := [(0,(.cells x4.length (.rL .i64 x4) true))],next := 1,nt := 51,m := 0 }
def ef11j6 : Ty1 → St := fun (t0,t1,t6,t8,x5) => { tmps := [(0,(.vs (.rI .i64 t0) 0 1)),(1,(.int .i64 t1)),(5,(.own 0 0 1)),(6,(.int .i64 t6)),(7,.ns),(8,(.int .i64 t8))],heap := [(0,(.cells x5.length (.rL .i64 x5) true))],next := 1,nt := 51,m := 0 }
def ef11l2 : Ty2 → St := fun (t0,t1,t6,t8,x5,x6) => { tmps := [(0,(.vs (.rI .i64 t0) 0 1)),(1,(.int .i64 t1)),(5,(.own 0 0 1)),(6,(.int .i64 t6)),(7,(.own 1 0 1)),(8,(.int .i64 t8))],heap := [(0,(.cells x5.length (.rL .i64 x5) true)),(1,(.cells x6.length (.rI .i64 x6) true))],next := 2,nt := 51,m := 0 }
def ef11j7 : Ty3 → St := fun (t0,t1,t6,x4,x5) => { tmps := [(0,(.vs (.rI .i64 t0) 0 1)),(1,(.int .i64 t1)),(5,(.own 0 0 1)),(6,(.int .i64 t6)),(7,(.own 1 0 1))],heap := [(0,(.cells x4.length (.rL .i64 x4) true)),(1,(.cells x5.length (.rI .i64 x5) true))],next := 2,nt := 51,m := 0 }
def ef11j8 : Ty0 → St := fun (t0,t1,t6,x4) => { tmps := [(0,(.vs (.rI .i64 t0) 0 1)),(1,(.int .i64 t1)),(5,(.own 0 0 1)),(6,(.int .i64 t6))],heap := [(0,(.cells x4.length (.rL .i64 x4) true))],next := 1,nt := 51,m := 0 }
def ef11j9 : (List (List Int)) → St := fun x1 => { tmps := [(5,(.own 0 0 1))],heap := [(0,(.cells x1.length (.rL .i64 x1) true))],next := 1,nt := 51,m := 0 }
def f11_1 (F : Nat) (kf11j1 : (List Int) × Int → Rz) : (List Int) × Int → Rz := fun (a0,a1) => (kf11j1 (a0,a1))
theorem f11_1_eq (F : Nat) (Rf11j1 : St → Rz) : ∀ v,aexec VG2211 (Af11 F) (bp Try.f11 2) (ef11_a v) (kSeq (kc VG2211 Rf11j1 [(0,.plain),(1,.plain)]) (kFin VG2211 (some [(4,(.own 22))]) (Try.f11).results.toList)) = f11_1 F (Rf11j1 ∘ ef11j1) v := by
  rintro ⟨a0,a1⟩; kernel_rfl
def f11_2 (F : Nat) (kf11j2 : (List Int) × Int → Rz) : (List Int) × Int → Rz := fun (t0,t1) => (kf11j2 (t0,t1))
theorem f11_2_eq (F : Nat) (Rf11j2 : St → Rz) : ∀ v,aexec VG2211 (Af11 F) (bp Try.f11 6) (ef11j1 v) (kSeq (kc VG2211 Rf11j2 sp2) (kFin VG2211 (some [(4,(.own 22))]) (Try.f11).results.toList)) = f11_2 F (Rf11j2 ∘ ef11j2) v := by
  rintro ⟨t0,t1⟩; kernel_rfl
def f11_3 (F : Nat) (kf11j3 : (List Int) × Int × Int → Rz) (kf11j9 : (List (List Int)) → Rz) : (List Int) × Int → Rz := fun (t0,t1) => (kf11j3 (t0,t1,(0 : Int)))
theorem f11_3_eq (F : Nat) (Rf11j3 : St → Rz) (Rf11j9 : St → Rz) : ∀ v,aexec VG2211 (Af11 F) (bp Try.f11 28) (ef11j2 v) (kSeq (kc VG2211 Rf11j3 sp3) (kSeq (kc VG2211 Rf11j9 [(5,.plain)]) (kFin VG2211 (some [(4,(.own 22))]) (Try.f11).results.toList))) = f11_3 F (Rf11j3 ∘ ef11j3) (Rf11j9 ∘ ef11j9) v := by
  rintro ⟨t0,t1⟩; kernel_rfl
def f11_4 (F : Nat) (kf11j4 : Ty0 → Rz) (kf11l1 : Ty0 → Rz) (kf11j9 : (List (List Int)) → Rz) : Ty0 → Rz := fun (t0,t1,t6,x4) => (cond (decide ((IntKind.i64.wrap ((4 : Int) * t6)) < (↑t0.length : Int))) (cond (decide (t6 < (10 : Int))) (kf11j4 (t0,t1,t6,x4)) (kf11j9 x4)) (kf11j9 x4))
theorem f11_4_eq (F : Nat) (Rf11j4 : St → Rz) (Rf11l1 : St → Rz) (Rf11j9 : St → Rz) : ∀ v,aexec VG2211 (Af11 F) (bp Try.f11 232) (ef11l1 v) (kSeq (kc VG2211 Rf11j4 sp3) (kSeq (kc VG2211 Rf11l1 sp0) (kBlock 0 (kSeq (kc VG2211 Rf11j9 [(5,.plain)]) (kFin VG2211 (some [(4,(.own 22))]) (Try.f11).results.toList))))) = f11_4 F (Rf11j4 ∘ ef11j4) (Rf11l1 ∘ ef11l1) (Rf11j9 ∘ ef11j9) v := by
  rintro ⟨t0,t1,t6,x4⟩; kernel_rfl
def f11_5 (F : Nat) (kf11j5 : Ty0 → Rz) (kf11j8 : Ty0 → Rz) (kf11l1 : Ty0 → Rz) (kf11j9 : (List (List Int)) → Rz) : Ty0 → Rz := fun (t0,t1,t6,x4) => (kf11j5 (t0,t1,t6,x4))
theorem f11_5_eq (F : Nat) (Rf11j5 : St → Rz) (Rf11j8 : St → Rz) (Rf11l1 : St → Rz) (Rf11j9 : St → Rz) : ∀ v,aexec VG2211 (Af11 F) (bp Try.f11 1864) (ef11j4 v) (kSeq (kc VG2211 Rf11j5 sp4) (kBlock 1 (kSeq (kc VG2211 Rf11j8 sp3) (kSeq (kc VG2211 Rf11l1 sp0) (kBlock 0 (kSeq (kc VG2211 Rf11j9 [(5,.plain)]) (kFin VG2211 (some [(4,(.own 22))]) (Try.f11).results.toList))))))) = f11_5 F (Rf11j5 ∘ ef11j5) (Rf11j8 ∘ ef11j8) (Rf11l1 ∘ ef11l1) (Rf11j9 ∘ ef11j9) v := by
  rintro ⟨t0,t1,t6,x4⟩; kernel_rfl
def f11_6 (F : Nat) (kf11j6 : Ty1 → Rz) (kf11j7 : Ty3 → Rz) (kf11j8 : Ty0 → Rz) (kf11l1 : Ty0 → Rz) (kf11j9 : (List (List Int)) → Rz) : Ty0 → Rz := fun (t0,t1,t6,x4) => (kf11j6 (t0,t1,t6,(0 : Int),x4))
theorem f11_6_eq (F : Nat) (Rf11j6 : St → Rz) (Rf11j7 : St → Rz) (Rf11j8 : St → Rz) (Rf11l1 : St → Rz) (Rf11j9 : St → Rz) : ∀ v,aexec VG2211 (Af11 F) (bp Try.f11 7460) (ef11j5 v) (kSeq (kc VG2211 Rf11j6 sp5) (kSeq (kc VG2211 Rf11j7 sp4) (kBlock 1 (kSeq (kc VG2211 Rf11j8 sp3) (kSeq (kc VG2211 Rf11l1 sp0) (kBlock 0 (kSeq (kc VG2211 Rf11j9 [(5,.plain)]) (kFin VG2211 (some [(4,(.own 22))]) (Try.f11).results.toList)))))))) = f11_6 F (Rf11j6 ∘ ef11j6) (Rf11j7 ∘ ef11j7) (Rf11j8 ∘ ef11j8) (Rf11l1 ∘ ef11l1) (Rf11j9 ∘ ef11j9) v := by
  rintro ⟨t0,t1,t6,x4⟩; kernel_rfl
def f11_7 (F : Nat) (kf11l2 : Ty2 → Rz) (kf11j7 : Ty3 → Rz) (kf11j8 : Ty0 → Rz) (kf11l1 : Ty0 → Rz) (kf11j9 : (List (List Int)) → Rz) : Ty2 → Rz := fun (t0,t1,t6,t8,x5,x6) => (cond (decide (0 < (3 : Int))) (cond (decide (t8 < (IntKind.i64.wrap ((1 : Int) + (Reg.at_ t0 (IntKind.i64.wrap ((4 : Int) * t6)) (3 : Int)))))) (cond (decide (0 < (IntKind.i64.wrap (t1 + (2 : Int))))) (cond (decide ((Reg.at_ t0 (IntKind.i64.wrap ((IntKind.i64.wrap ((IntKind.i64.wrap ((4 : Int) * t6)) + (1 : Int))) + t8)) (IntKind.i64.wrap (t1 + (2 : Int)))) > t1)) (cond (decide ((x6.length + 1) < 1073741824)) (kf11l2 (t0,t1,t6,(IntKind.i64.wrap (t8 + (1 : Int))),x5,(x6 ++ [(-1 : Int)]))) none) (cond (decide ((x6.length + 1) < 1073741824)) (kf11l2 (t0,t1,t6,(IntKind.i64.wrap (t8 + (1 : Int))),x5,(x6 ++ [(Reg.at_ t0 (IntKind.i64.wrap ((IntKind.i64.wrap ((IntKind.i64.wrap ((4 : Int) * t6)) + (1 : Int))) + t8)) (IntKind.i64.wrap (t1 + (2 : Int))))]))) none)) none) (kf11j7 (t0,t1,t6,x5,x6))) none)
theorem f11_7_eq (F : Nat) (Rf11l2 : St → Rz) (Rf11j7 : St → Rz) (Rf11j8 : St → Rz) (Rf11l1 : St → Rz) (Rf11j9 : St → Rz) : ∀ v,aexec VG2211 (Af11 F) (bp Try.f11 29844) (ef11l2 v) (kSeq (kc VG2211 Rf11l2 sp1) (kBlock 2 (kSeq (kc VG2211 Rf11j7 sp4) (kBlock 1 (kSeq (kc VG2211 Rf11j8 sp3) (kSeq (kc VG2211 Rf11l1 sp0) (kBlock 0 (kSeq (kc VG2211 Rf11j9 [(5,.plain)]) (kFin VG2211 (some [(4,(.own 22))]) (Try.f11).results.toList))))))))) = f11_7 F (Rf11l2 ∘ ef11l2) (Rf11j7 ∘ ef11j7) (Rf11j8 ∘ ef11j8) (Rf11l1 ∘ ef11l1) (Rf11j9 ∘ ef11j9) v := by
  rintro ⟨t0,t1,t6,t8,x5,x6⟩; kernel_rfl
def f11_8_i : Ty1 → (List Int) × Int × Int × Int × (List (List Int)) × (List Int) := fun (t0,t1,t6,t8,x5) => (t0,t1,t6,t8,x5,[])
def f11_8 (F : Nat) (kf11j7 : Ty3 → Rz) (kf11j8 : Ty0 → Rz) (kf11l1 : Ty0 → Rz) (kf11j9 : (List (List Int)) → Rz) : Ty1 → Rz := fun v => loopN (fun k => f11_7 F k kf11j7 kf11j8 kf11l1 kf11j9) F (f11_8_i v)
theorem f11_8_eq (F : Nat) (Rf11j7 : St → Rz) (Rf11j8 : St → Rz) (Rf11l1 : St → Rz) (Rf11j9 : St → Rz) : ∀ v,aexec VG2211 (Af11 F) (bp Try.f11 14922) (ef11j6 v) (kBlock 2 (kSeq (kc VG2211 Rf11j7 sp4) (kBlock 1 (kSeq (kc VG2211 Rf11j8 sp3) (kSeq (kc VG2211 Rf11l1 sp0) (kBlock 0 (kSeq (kc VG2211 Rf11j9 [(5,.plain)]) (kFin VG2211 (some [(4,(.own 22))]) (Try.f11).results.toList)))))))) = f11_8 F (Rf11j7 ∘ ef11j7) (Rf11j8 ∘ ef11j8) (Rf11l1 ∘ ef11l1) (Rf11j9 ∘ ef11j9) v :=
  loop_cut (by kernel_rfl) (by kernel_rfl) ef11j6 ef11l2 _ f11_8_i (fun k => f11_7 F k (Rf11j7 ∘ ef11j7) (Rf11j8 ∘ ef11j8) (Rf11l1 ∘ ef11l1) (Rf11j9 ∘ ef11j9))
    (by rintro ⟨t0,t1,t6,t8,x5⟩; kernel_rfl) (fun Rf11l2 => f11_7_eq F Rf11l2 Rf11j7 Rf11j8 Rf11l1 Rf11j9)
def f11_9 (F : Nat) (kf11j7 : Ty3 → Rz) (kf11j8 : Ty0 → Rz) (kf11l1 : Ty0 → Rz) (kf11j9 : (List (List Int)) → Rz) : Ty1 → Rz := f11_8 F kf11j7 kf11j8 kf11l1 kf11j9
theorem f11_9_eq (F : Nat) (Rf11j7 : St → Rz) (Rf11j8 : St → Rz) (Rf11l1 : St → Rz) (Rf11j9 : St → Rz) : ∀ v,aexec VG2211 (Af11 F) (bp Try.f11 7461) (ef11j6 v) (kSeq (kc VG2211 Rf11j7 sp4) (kBlock 1 (kSeq (kc VG2211 Rf11j8 sp3) (kSeq (kc VG2211 Rf11l1 sp0) (kBlock 0 (kSeq (kc VG2211 Rf11j9 [(5,.plain)]) (kFin VG2211 (some [(4,(.own 22))]) (Try.f11).results.toList))))))) = f11_9 F (Rf11j7 ∘ ef11j7) (Rf11j8 ∘ ef11j8) (Rf11l1 ∘ ef11l1) (Rf11j9 ∘ ef11j9) v := fun v =>
  (block_in  (by kernel_rfl) _ _).trans (f11_8_eq F Rf11j7 Rf11j8 Rf11l1 Rf11j9 v)
def f11_10 (F : Nat) (kf11j7 : Ty3 → Rz) (kf11j8 : Ty0 → Rz) (kf11l1 : Ty0 → Rz) (kf11j9 : (List (List Int)) → Rz) : Ty0 → Rz := fun v => f11_6 F (f11_9 F kf11j7 kf11j8 kf11l1 kf11j9) kf11j7 kf11j8 kf11l1 kf11j9 v
theorem f11_10_eq (F : Nat) (Rf11j7 : St → Rz) (Rf11j8 : St → Rz) (Rf11l1 : St → Rz) (Rf11j9 : St → Rz) : ∀ v,aexec VG2211 (Af11 F) (bp Try.f11 3730) (ef11j5 v) (kSeq (kc VG2211 Rf11j7 sp4) (kBlock 1 (kSeq (kc VG2211 Rf11j8 sp3) (kSeq (kc VG2211 Rf11l1 sp0) (kBlock 0 (kSeq (kc VG2211 Rf11j9 [(5,.plain)]) (kFin VG2211 (some [(4,(.own 22))]) (Try.f11).results.toList))))))) = f11_10 F (Rf11j7 ∘ ef11j7) (Rf11j8 ∘ ef11j8) (Rf11l1 ∘ ef11l1) (Rf11j9 ∘ ef11j9) v :=
  seq_cut (by kernel_rfl) (by kernel_rfl) ef11j5 ef11j6 _ (fun k => f11_6 F k (Rf11j7 ∘ ef11j7) (Rf11j8 ∘ ef11j8) (Rf11l1 ∘ ef11l1) (Rf11j9 ∘ ef11j9)) (f11_9 F (Rf11j7 ∘ ef11j7) (Rf11j8 ∘ ef11j8) (Rf11l1 ∘ ef11l1) (Rf11j9 ∘ ef11j9))
    (fun Rf11j6 => f11_6_eq F Rf11j6 Rf11j7 Rf11j8 Rf11l1 Rf11j9) (f11_9_eq F Rf11j7 Rf11j8 Rf11l1 Rf11j9)
def f11_11 (F : Nat) (kf11j8 : Ty0 → Rz) (kf11l1 : Ty0 → Rz) (kf11j9 : (List (List Int)) → Rz) : Ty3 → Rz := fun (t0,t1,t6,x4,x5) => (cond (decide ((x4.length + 1) < 1073741824)) (kf11j8 (t0,t1,t6,(x4 ++ [x5]))) none)
theorem f11_11_eq (F : Nat) (Rf11j8 : St → Rz) (Rf11l1 : St → Rz) (Rf11j9 : St → Rz) : ∀ v,aexec VG2211 (Af11 F) (bp Try.f11 3731) (ef11j7 v) (kBlock 1 (kSeq (kc VG2211 Rf11j8 sp3) (kSeq (kc VG2211 Rf11l1 sp0) (kBlock 0 (kSeq (kc VG2211 Rf11j9 [(5,.plain)]) (kFin VG2211 (some [(4,(.own 22))]) (Try.f11).results.toList)))))) = f11_11 F (Rf11j8 ∘ ef11j8) (Rf11l1 ∘ ef11l1) (Rf11j9 ∘ ef11j9) v := by
  rintro ⟨t0,t1,t6,x4,x5⟩; kernel_rfl
def f11_12 (F : Nat) (kf11j8 : Ty0 → Rz) (kf11l1 : Ty0 → Rz) (kf11j9 : (List (List Int)) → Rz) : Ty0 → Rz := fun v => f11_10 F (f11_11 F kf11j8 kf11l1 kf11j9) kf11j8 kf11l1 kf11j9 v
theorem f11_12_eq (F : Nat) (Rf11j8 : St → Rz) (Rf11l1 : St → Rz) (Rf11j9 : St → Rz) : ∀ v,aexec VG2211 (Af11 F) (bp Try.f11 1865) (ef11j5 v) (kBlock 1 (kSeq (kc VG2211 Rf11j8 sp3) (kSeq (kc VG2211 Rf11l1 sp0) (kBlock 0 (kSeq (kc VG2211 Rf11j9 [(5,.plain)]) (kFin VG2211 (some [(4,(.own 22))]) (Try.f11).results.toList)))))) = f11_12 F (Rf11j8 ∘ ef11j8) (Rf11l1 ∘ ef11l1) (Rf11j9 ∘ ef11j9) v :=
  seq_cut (by kernel_rfl) (by kernel_rfl) ef11j5 ef11j7 _ (fun k => f11_10 F k (Rf11j8 ∘ ef11j8) (Rf11l1 ∘ ef11l1) (Rf11j9 ∘ ef11j9)) (f11_11 F (Rf11j8 ∘ ef11j8) (Rf11l1 ∘ ef11l1) (Rf11j9 ∘ ef11j9))
    (fun Rf11j7 => f11_10_eq F Rf11j7 Rf11j8 Rf11l1 Rf11j9) (f11_11_eq F Rf11j8 Rf11l1 Rf11j9)
def f11_13 (F : Nat) (kf11j8 : Ty0 → Rz) (kf11l1 : Ty0 → Rz) (kf11j9 : (List (List Int)) → Rz) : Ty0 → Rz := fun v => f11_5 F (f11_12 F kf11j8 kf11l1 kf11j9) kf11j8 kf11l1 kf11j9 v
theorem f11_13_eq (F : Nat) (Rf11j8 : St → Rz) (Rf11l1 : St → Rz) (Rf11j9 : St → Rz) : ∀ v,aexec VG2211 (Af11 F) (bp Try.f11 932) (ef11j4 v) (kBlock 1 (kSeq (kc VG2211 Rf11j8 sp3) (kSeq (kc VG2211 Rf11l1 sp0) (kBlock 0 (kSeq (kc VG2211 Rf11j9 [(5,.plain)]) (kFin VG2211 (some [(4,(.own 22))]) (Try.f11).results.toList)))))) = f11_13 F (Rf11j8 ∘ ef11j8) (Rf11l1 ∘ ef11l1) (Rf11j9 ∘ ef11j9) v :=
  seq_cut (by kernel_rfl) (by kernel_rfl) ef11j4 ef11j5 _ (fun k => f11_5 F k (Rf11j8 ∘ ef11j8) (Rf11l1 ∘ ef11l1) (Rf11j9 ∘ ef11j9)) (f11_12 F (Rf11j8 ∘ ef11j8) (Rf11l1 ∘ ef11l1) (Rf11j9 ∘ ef11j9))
    (fun Rf11j5 => f11_5_eq F Rf11j5 Rf11j8 Rf11l1 Rf11j9) (f11_12_eq F Rf11j8 Rf11l1 Rf11j9)
def f11_14 (F : Nat) (kf11j8 : Ty0 → Rz) (kf11l1 : Ty0 → Rz) (kf11j9 : (List (List Int)) → Rz) : Ty0 → Rz := f11_13 F kf11j8 kf11l1 kf11j9
theorem f11_14_eq (F : Nat) (Rf11j8 : St → Rz) (Rf11l1 : St → Rz) (Rf11j9 : St → Rz) : ∀ v,aexec VG2211 (Af11 F) (bp Try.f11 466) (ef11j4 v) (kSeq (kc VG2211 Rf11j8 sp3) (kSeq (kc VG2211 Rf11l1 sp0) (kBlock 0 (kSeq (kc VG2211 Rf11j9 [(5,.plain)]) (kFin VG2211 (some [(4,(.own 22))]) (Try.f11).results.toList))))) = f11_14 F (Rf11j8 ∘ ef11j8) (Rf11l1 ∘ ef11l1) (Rf11j9 ∘ ef11j9) v := fun v =>
  (block_in  (by kernel_rfl) _ _).trans (f11_13_eq F Rf11j8 Rf11l1 Rf11j9 v)
def f11_15 (F : Nat) (kf11l1 : Ty0 → Rz) (kf11j9 : (List (List Int)) → Rz) : Ty0 → Rz := fun (t0,t1,t6,x4) => (kf11l1 (t0,t1,(IntKind.i64.wrap (t6 + (1 : Int))),x4))
theorem f11_15_eq (F : Nat) (Rf11l1 : St → Rz) (Rf11j9 : St → Rz) : ∀ v,aexec VG2211 (Af11 F) (bp Try.f11 467) (ef11j8 v) (kSeq (kc VG2211 Rf11l1 sp0) (kBlock 0 (kSeq (kc VG2211 Rf11j9 [(5,.plain)]) (kFin VG2211 (some [(4,(.own 22))]) (Try.f11).results.toList)))) = f11_15 F (Rf11l1 ∘ ef11l1) (Rf11j9 ∘ ef11j9) v := by
  rintro ⟨t0,t1,t6,x4⟩; kernel_rfl
def f11_16 (F : Nat) (kf11l1 : Ty0 → Rz) (kf11j9 : (List (List Int)) → Rz) : Ty0 → Rz := fun v => f11_14 F (f11_15 F kf11l1 kf11j9) kf11l1 kf11j9 v
theorem f11_16_eq (F : Nat) (Rf11l1 : St → Rz) (Rf11j9 : St → Rz) : ∀ v,aexec VG2211 (Af11 F) (bp Try.f11 233) (ef11j4 v) (kSeq (kc VG2211 Rf11l1 sp0) (kBlock 0 (kSeq (kc VG2211 Rf11j9 [(5,.plain)]) (kFin VG2211 (some [(4,(.own 22))]) (Try.f11).results.toList)))) = f11_16 F (Rf11l1 ∘ ef11l1) (Rf11j9 ∘ ef11j9) v :=
  seq_cut (by kernel_rfl) (by kernel_rfl) ef11j4 ef11j8 _ (fun k => f11_14 F k (Rf11l1 ∘ ef11l1) (Rf11j9 ∘ ef11j9)) (f11_15 F (Rf11l1 ∘ ef11l1) (Rf11j9 ∘ ef11j9))
    (fun Rf11j8 => f11_14_eq F Rf11j8 Rf11l1 Rf11j9) (f11_15_eq F Rf11l1 Rf11j9)
def f11_17 (F : Nat) (kf11l1 : Ty0 → Rz) (kf11j9 : (List (List Int)) → Rz) : Ty0 → Rz := fun v => f11_4 F (f11_16 F kf11l1 kf11j9) kf11l1 kf11j9 v
theorem f11_17_eq (F : Nat) (Rf11l1 : St → Rz) (Rf11j9 : St → Rz) : ∀ v,aexec VG2211 (Af11 F) (bp Try.f11 116) (ef11l1 v) (kSeq (kc VG2211 Rf11l1 sp0) (kBlock 0 (kSeq (kc VG2211 Rf11j9 [(5,.plain)]) (kFin VG2211 (some [(4,(.own 22))]) (Try.f11).results.toList)))) = f11_17 F (Rf11l1 ∘ ef11l1) (Rf11j9 ∘ ef11j9) v :=
  seq_cut (by kernel_rfl) (by kernel_rfl) ef11l1 ef11j4 _ (fun k => f11_4 F k (Rf11l1 ∘ ef11l1) (Rf11j9 ∘ ef11j9)) (f11_16 F (Rf11l1 ∘ ef11l1) (Rf11j9 ∘ ef11j9))
    (fun Rf11j4 => f11_4_eq F Rf11j4 Rf11l1 Rf11j9) (f11_16_eq F Rf11l1 Rf11j9)
def f11_18_i : (List Int) × Int × Int → (List Int) × Int × Int × (List (List Int)) := fun (t0,t1,t6) => (t0,t1,t6,[])
def f11_18 (F : Nat) (kf11j9 : (List (List Int)) → Rz) : (List Int) × Int × Int → Rz := fun v => loopN (fun k => f11_17 F k kf11j9) F (f11_18_i v)
theorem f11_18_eq (F : Nat) (Rf11j9 : St → Rz) : ∀ v,aexec VG2211 (Af11 F) (bp Try.f11 58) (ef11j3 v) (kBlock 0 (kSeq (kc VG2211 Rf11j9 [(5,.plain)]) (kFin VG2211 (some [(4,(.own 22))]) (Try.f11).results.toList))) = f11_18 F (Rf11j9 ∘ ef11j9) v :=
  loop_cut (by kernel_rfl) (by kernel_rfl) ef11j3 ef11l1 _ f11_18_i (fun k => f11_17 F k (Rf11j9 ∘ ef11j9))
    (by rintro ⟨t0,t1,t6⟩; kernel_rfl) (fun Rf11l1 => f11_17_eq F Rf11l1 Rf11j9)
def f11_19 (F : Nat) (kf11j9 : (List (List Int)) → Rz) : (List Int) × Int × Int → Rz := f11_18 F kf11j9
theorem f11_19_eq (F : Nat) (Rf11j9 : St → Rz) : ∀ v,aexec VG2211 (Af11 F) (bp Try.f11 29) (ef11j3 v) (kSeq (kc VG2211 Rf11j9 [(5,.plain)]) (kFin VG2211 (some [(4,(.own 22))]) (Try.f11).results.toList)) = f11_19 F (Rf11j9 ∘ ef11j9) v := fun v =>
  (block_in  (by kernel_rfl) _ _).trans (f11_18_eq F Rf11j9 v)
def f11_20 (F : Nat) (kf11j9 : (List (List Int)) → Rz) : (List Int) × Int → Rz := fun v => f11_3 F (f11_19 F kf11j9) kf11j9 v
theorem f11_20_eq (F : Nat) (Rf11j9 : St → Rz) : ∀ v,aexec VG2211 (Af11 F) (bp Try.f11 14) (ef11j2 v) (kSeq (kc VG2211 Rf11j9 [(5,.plain)]) (kFin VG2211 (some [(4,(.own 22))]) (Try.f11).results.toList)) = f11_20 F (Rf11j9 ∘ ef11j9) v :=
  seq_cut (by kernel_rfl) (by kernel_rfl) ef11j2 ef11j3 _ (fun k => f11_3 F k (Rf11j9 ∘ ef11j9)) (f11_19 F (Rf11j9 ∘ ef11j9))
    (fun Rf11j3 => f11_3_eq F Rf11j3 Rf11j9) (f11_19_eq F Rf11j9)
def f11_21 (F : Nat) : (List (List Int)) → Rz := fun x1 => (some ((.own 0 0 1),[(.cells x1.length (.rL .i64 x1) true)]))
theorem f11_21_eq (F : Nat) : ∀ v,aexec VG2211 (Af11 F) (bp Try.f11 15) (ef11j9 v) (kFin VG2211 (some [(4,(.own 22))]) (Try.f11).results.toList) = f11_21 F v := by
  intro x1; kernel_rfl
def f11_22 (F : Nat) : (List Int) × Int → Rz := fun v => f11_20 F (f11_21 F) v
theorem f11_22_eq (F : Nat) : ∀ v,aexec VG2211 (Af11 F) (bp Try.f11 7) (ef11j2 v) (kFin VG2211 (some [(4,(.own 22))]) (Try.f11).results.toList) = f11_22 F v :=
  seq_cut (by kernel_rfl) (by kernel_rfl) ef11j2 ef11j9 _ (fun k => f11_20 F k) (f11_21 F)
    (fun Rf11j9 => f11_20_eq F Rf11j9) (f11_21_eq F)
def f11_23 (F : Nat) : (List Int) × Int → Rz := fun v => f11_2 F (f11_22 F) v
theorem f11_23_eq (F : Nat) : ∀ v,aexec VG2211 (Af11 F) (bp Try.f11 3) (ef11j1 v) (kFin VG2211 (some [(4,(.own 22))]) (Try.f11).results.toList) = f11_23 F v :=
  seq_cut (by kernel_rfl) (by kernel_rfl) ef11j1 ef11j2 _ (fun k => f11_2 F k) (f11_22 F)
    (fun Rf11j2 => f11_2_eq F Rf11j2) (f11_22_eq F)
def f11_24 (F : Nat) : (List Int) × Int → Rz := fun v => f11_1 F (f11_23 F) v
theorem f11_24_eq (F : Nat) : ∀ v,aexec VG2211 (Af11 F) (sub (bodyOf Try.f11) []) (ef11_a v) (kFin VG2211 (some [(4,(.own 22))]) (Try.f11).results.toList) = f11_24 F v :=
  seq_cut (by kernel_rfl) (by kernel_rfl) ef11_a ef11j1 _ (fun k => f11_1 F k) (f11_23 F)
    (fun Rf11j1 => f11_1_eq F Rf11j1) (f11_23_eq F)
def f11 (F : Nat) : (List Int) × Int → Rz := f11_24 F
theorem f11_body (F : Nat) (a0 : List Int) (a1 : Int) : abody VG2211 (Af11 F) Try.f11 [(.vs (.rI .i64 a0) 0 1),(.int .i64 a1)] [] = f11 F (a0,a1) :=
  (abody_in (c := (sub (bodyOf Try.f11) [])) (by kernel_rfl) (s := ef11_a (a0,a1)) (by kernel_rfl)).trans (f11_24_eq F (a0,a1))
def r11 : CRun := fun X H => match X,H with
  | [(.vs (.rI .i64 a0) 0 1),(.int .i64 a1)],[] => some (((decide (0 ≤ a1)) && (decide (a1 < 1000))),(.own 0 0 1),[(.cells (Isl.some a0 a1).length (.rL .i64 (Isl.some a0 a1)) true)])
  | _,_ => none
theorem s11 (a0 : List Int) (a1 : Int) (hp : (((decide (0 ≤ a1)) && (decide (a1 < 1000)))) = true) (h0 : okV (.vs (.rI .i64 a0) 0 1)) (h1 : okV (.int .i64 a1)) : ∃ F,f11 F (a0,a1) = some ((.own 0 0 1),[(.cells (Isl.some a0 a1).length (.rL .i64 (Isl.some a0 a1)) true)]) := by
  simp only [Bool.and_eq_true,decide_eq_true_eq] at hp
  have hl := h0.2
  obtain ⟨F,hF⟩ : ∃ F,F = 100 := ⟨_,rfl⟩
  refine ⟨F,?_⟩
  simp only [f11_1,f11_2,f11_3,f11_18_i,f11_18,f11_19,f11_20,f11_21,f11_22,f11_23,f11_24,f11]
  refine loopN_from (fun i => (a0,a1,(i : Int),Isl.someTo a0 a1 i)) (min ((a0.length + 3) / 4) 10) (by rfl) (fun i hi k => ?_) (fun k => ?_) _ (by omega)
  · have h3 := Reg.at_lt (l := a0) (i := 4 * (i : Int)) (m := 3) (by omega)
    simp only [f11_4,f11_5,f11_6,f11_8_i,f11_8,f11_9,f11_10,f11_11,f11_12,f11_13,f11_14,f11_15,f11_16,f11_17]
    rw [i64w (x := 4 * (i : Int)) (by omega) (by omega),cond_pos (by omega),cond_pos (by omega)]
    refine loopN_from (fun k => (a0,a1,(i : Int),(k : Int),Isl.someTo a0 a1 i,Isl.linkTo a0 a1 i k)) (1 + Reg.at_ a0 (4 * (i : Int)) 3).toNat (by rfl) (fun q hq k' => ?_) (fun k' => ?_) _ (by omega)
    · have h4 := Reg.at_lt (l := a0) (i := 4 * (i : Int) + 1 + (q : Int)) (m := a1 + 2) (by omega)
      simp only [f11_7]
      rw [cond_pos (by omega),i64w (x := 4 * (i : Int)) (by omega) (by omega),i64w (x := 1 + Reg.at_ a0 (4 * (i : Int)) 3) (by omega) (by omega),cond_pos (by omega),i64w (x := a1 + 2) (by omega) (by omega),cond_pos (by omega),
        i64w (x := 4 * (i : Int) + 1) (by omega) (by omega),i64w (x := 4 * (i : Int) + 1 + (q : Int)) (by omega) (by omega),i64w (x := (q : Int) + 1) (by omega) (by omega),Isl.linkTo_len]
      have e : Isl.linkTo a0 a1 i (q + 1) = Isl.linkTo a0 a1 i q ++ [if Reg.at_ a0 (4 * (i : Int) + 1 + (q : Int)) (a1 + 2) > a1 then -1 else Reg.at_ a0 (4 * (i : Int) + 1 + (q : Int)) (a1 + 2)] := Isl.linkTo_succ a0 a1 i q
      rw [e]
      by_cases h : Reg.at_ a0 (4 * (i : Int) + 1 + (q : Int)) (a1 + 2) > a1
      · rw [cond_pos h,cond_pos (by omega),if_pos h]; rfl
      · rw [cond_neg h,cond_pos (by omega),if_neg h]; rfl
    · simp only [f11_4,f11_5,f11_6,f11_7,f11_8_i,f11_8,f11_9,f11_10,f11_11,f11_12,f11_13,f11_14,f11_15,f11_16,f11_17]
      rw [cond_pos (by omega),i64w (x := 4 * (i : Int)) (by omega) (by omega),i64w (x := 1 + Reg.at_ a0 (4 * (i : Int)) 3) (by omega) (by omega),cond_neg (by omega),Isl.someTo_len,cond_pos (by omega),i64w (by omega) (by omega),Isl.someTo_succ,Isl.link_eq]
      rfl
  · simp only [f11_4,f11_5,f11_6,f11_8_i,f11_8,f11_9,f11_10,f11_11,f11_12,f11_13,f11_14,f11_15,f11_16,f11_17]
    rw [i64w (x := 4 * ((min ((a0.length + 3) / 4) 10 : Nat) : Int)) (by omega) (by omega)]
    by_cases h : (4 * ((min ((a0.length + 3) / 4) 10 : Nat) : Int)) < (a0.length : Int)
    · rw [cond_pos h,cond_neg (by omega)]; rfl
    · rw [cond_neg h]; rfl
theorem c11 : CallOk Try.prog G22 11 r11 := callOk_of (V := VG2211) mixed tys eVG2211 (f := 11) (fn := Try.f11) Try.func11 (by kernel_rfl) (c := sub (bodyOf Try.f11) []) (by kernel_rfl) (by
  intro X H r H' h hX hH
  unfold r11 at h; split at h <;> try contradiction
  · simp only [Option.some.injEq,Prod.mk.injEq] at h
    obtain ⟨hp,rfl,rfl⟩ := h
    obtain ⟨F,hF⟩ := s11 _ _ hp (hX _ (.head _)) (hX _ (.tail _ (.head _)))
    exact ⟨Af11 F,(f11_body F _ _).trans hF⟩)
def lVG2213 : List CEnt := []
def VG2213 : Env := mkEnv T22 G22 lVG2213
theorem eVG2213 : EOk Try.prog VG2213 := eok_mk (by exact trivial)
def Af13 (F : Nat) : Cuts := { F := F,at_ := fun n => match n with | 3010 => some sp6 | _ => none,join := fun n => match n with | 1020 => some [(0,.plain)] | 2018 => some [(0,.plain),(3,.plain)] | 3012 => some sp7 | 6003 => some [(3,.plain)] | _ => none,fin := (some [(2,(.own 22))]) }
def ef13_a : (List (List Int)) → St := fun a0 => { tmps := [(0,(.vs (.rL .i64 a0) 0 1))],heap := [],next := 0,nt := 30,m := 0 }
def ef13j1 : (List (List Int)) → St := fun t0 => { tmps := [(0,(.vs (.rL .i64 t0) 0 1))],heap := [],next := 0,nt := 30,m := 0 }
def ef13j2 : (List (List Int)) → St := fun t0 => { tmps := [(0,(.vs (.rL .i64 t0) 0 1)),(3,.ns)],heap := [],next := 0,nt := 30,m := 0 }
def ef13j3 : (List (List Int)) × Int → St := fun (t0,t4) => { tmps := [(0,(.vs (.rL .i64 t0) 0 1)),(3,.ns),(4,(.int .i64 t4))],heap := [],next := 0,nt := 30,m := 0 }
def ef13l1 : Ty4 → St := fun (t0,t4,x3) => { tmps := [(0,(.vs (.rL .i64 t0) 0 1)),(3,(.own 0 0 1)),(4,(.int .i64 t4))],heap := [(0,(.cells x3.length (.rL .i64 x3) true))],next := 1,nt := 30,m := 0 }
def ef13j4 : (List (List Int)) → St := fun x1 => { tmps := [(3,(.own 0 0 1))],heap := [(0,(.cells x1.length (.rL .i64 x1) true))],next := 1,nt := 30,m := 0 }
def f13_1 (F : Nat) (kf13j1 : (List (List Int)) → Rz) : (List (List Int)) → Rz := fun a0 => (kf13j1 a0)
theorem f13_1_eq (F : Nat) (Rf13j1 : St → Rz) : ∀ v,aexec VG2213 (Af13 F) (bp Try.f13 2) (ef13_a v) (kSeq (kc VG2213 Rf13j1 [(0,.plain)]) (kFin VG2213 (some [(2,(.own 22))]) (Try.f13).results.toList)) = f13_1 F (Rf13j1 ∘ ef13j1) v := by
  intro a0; kernel_rfl
def f13_2 (F : Nat) (kf13j2 : (List (List Int)) → Rz) : (List (List Int)) → Rz := fun t0 => (kf13j2 t0)
theorem f13_2_eq (F : Nat) (Rf13j2 : St → Rz) : ∀ v,aexec VG2213 (Af13 F) (bp Try.f13 6) (ef13j1 v) (kSeq (kc VG2213 Rf13j2 [(0,.plain),(3,.plain)]) (kFin VG2213 (some [(2,(.own 22))]) (Try.f13).results.toList)) = f13_2 F (Rf13j2 ∘ ef13j2) v := by
  intro t0; kernel_rfl
def f13_3 (F : Nat) (kf13j3 : (List (List Int)) × Int → Rz) (kf13j4 : (List (List Int)) → Rz) : (List (List Int)) → Rz := fun t0 => (kf13j3 (t0,(0 : Int)))
theorem f13_3_eq (F : Nat) (Rf13j3 : St → Rz) (Rf13j4 : St → Rz) : ∀ v,aexec VG2213 (Af13 F) (bp Try.f13 28) (ef13j2 v) (kSeq (kc VG2213 Rf13j3 sp7) (kSeq (kc VG2213 Rf13j4 [(3,.plain)]) (kFin VG2213 (some [(2,(.own 22))]) (Try.f13).results.toList))) = f13_3 F (Rf13j3 ∘ ef13j3) (Rf13j4 ∘ ef13j4) v := by
  intro t0; kernel_rfl
def f13_4 (F : Nat) (kf13l1 : Ty4 → Rz) (kf13j4 : (List (List Int)) → Rz) : Ty4 → Rz := fun (t0,t4,x3) => (cond (decide (t4 < (↑t0.length : Int))) (cond (decide (t4 < (8 : Int))) (cond ((decide (0 ≤ t4)) && (decide (t4 < (↑t0.length : Int)))) (cond ((decide (0 ≤ t4)) && (decide (t4 < (↑t0.length : Int)))) (cond ((decide ((0 : Int) ≤ (if (8 : Int) < (↑(t0.getD (Int.toNat t4) []).length : Int) then (8 : Int) else (↑(t0.getD (Int.toNat t4) []).length : Int)))) && (decide ((if (8 : Int) < (↑(t0.getD (Int.toNat t4) []).length : Int) then (8 : Int) else (↑(t0.getD (Int.toNat t4) []).length : Int)) ≤ (↑(t0.getD (Int.toNat t4) []).length : Int)))) (cond (decide ((x3.length + 1) < 1073741824)) (kf13l1 (t0,(IntKind.i64.wrap (t4 + (1 : Int))),(x3 ++ [((t0.getD (Int.toNat t4) []).take (Int.toNat (if (8 : Int) < (↑(t0.getD (Int.toNat t4) []).length : Int) then (8 : Int) else (↑(t0.getD (Int.toNat t4) []).length : Int))))]))) none) none) none) none) (kf13j4 x3)) (kf13j4 x3))
theorem f13_4_eq (F : Nat) (Rf13l1 : St → Rz) (Rf13j4 : St → Rz) : ∀ v,aexec VG2213 (Af13 F) (bp Try.f13 116) (ef13l1 v) (kSeq (kc VG2213 Rf13l1 sp6) (kBlock 0 (kSeq (kc VG2213 Rf13j4 [(3,.plain)]) (kFin VG2213 (some [(2,(.own 22))]) (Try.f13).results.toList)))) = f13_4 F (Rf13l1 ∘ ef13l1) (Rf13j4 ∘ ef13j4) v := by
  rintro ⟨t0,t4,x3⟩; kernel_rfl
def f13_5_i : (List (List Int)) × Int → (List (List Int)) × Int × (List (List Int)) := fun (t0,t4) => (t0,t4,[])
def f13_5 (F : Nat) (kf13j4 : (List (List Int)) → Rz) : (List (List Int)) × Int → Rz := fun v => loopN (fun k => f13_4 F k kf13j4) F (f13_5_i v)
theorem f13_5_eq (F : Nat) (Rf13j4 : St → Rz) : ∀ v,aexec VG2213 (Af13 F) (bp Try.f13 58) (ef13j3 v) (kBlock 0 (kSeq (kc VG2213 Rf13j4 [(3,.plain)]) (kFin VG2213 (some [(2,(.own 22))]) (Try.f13).results.toList))) = f13_5 F (Rf13j4 ∘ ef13j4) v :=
  loop_cut (by kernel_rfl) (by kernel_rfl) ef13j3 ef13l1 _ f13_5_i (fun k => f13_4 F k (Rf13j4 ∘ ef13j4))
    (by rintro ⟨t0,t4⟩; kernel_rfl) (fun Rf13l1 => f13_4_eq F Rf13l1 Rf13j4)
def f13_6 (F : Nat) (kf13j4 : (List (List Int)) → Rz) : (List (List Int)) × Int → Rz := f13_5 F kf13j4
theorem f13_6_eq (F : Nat) (Rf13j4 : St → Rz) : ∀ v,aexec VG2213 (Af13 F) (bp Try.f13 29) (ef13j3 v) (kSeq (kc VG2213 Rf13j4 [(3,.plain)]) (kFin VG2213 (some [(2,(.own 22))]) (Try.f13).results.toList)) = f13_6 F (Rf13j4 ∘ ef13j4) v := fun v =>
  (block_in  (by kernel_rfl) _ _).trans (f13_5_eq F Rf13j4 v)
def f13_7 (F : Nat) (kf13j4 : (List (List Int)) → Rz) : (List (List Int)) → Rz := fun v => f13_3 F (f13_6 F kf13j4) kf13j4 v
theorem f13_7_eq (F : Nat) (Rf13j4 : St → Rz) : ∀ v,aexec VG2213 (Af13 F) (bp Try.f13 14) (ef13j2 v) (kSeq (kc VG2213 Rf13j4 [(3,.plain)]) (kFin VG2213 (some [(2,(.own 22))]) (Try.f13).results.toList)) = f13_7 F (Rf13j4 ∘ ef13j4) v :=
  seq_cut (by kernel_rfl) (by kernel_rfl) ef13j2 ef13j3 _ (fun k => f13_3 F k (Rf13j4 ∘ ef13j4)) (f13_6 F (Rf13j4 ∘ ef13j4))
    (fun Rf13j3 => f13_3_eq F Rf13j3 Rf13j4) (f13_6_eq F Rf13j4)
def f13_8 (F : Nat) : (List (List Int)) → Rz := fun x1 => (some ((.own 0 0 1),[(.cells x1.length (.rL .i64 x1) true)]))
theorem f13_8_eq (F : Nat) : ∀ v,aexec VG2213 (Af13 F) (bp Try.f13 15) (ef13j4 v) (kFin VG2213 (some [(2,(.own 22))]) (Try.f13).results.toList) = f13_8 F v := by
  intro x1; kernel_rfl
def f13_9 (F : Nat) : (List (List Int)) → Rz := fun v => f13_7 F (f13_8 F) v
theorem f13_9_eq (F : Nat) : ∀ v,aexec VG2213 (Af13 F) (bp Try.f13 7) (ef13j2 v) (kFin VG2213 (some [(2,(.own 22))]) (Try.f13).results.toList) = f13_9 F v :=
  seq_cut (by kernel_rfl) (by kernel_rfl) ef13j2 ef13j4 _ (fun k => f13_7 F k) (f13_8 F)
    (fun Rf13j4 => f13_7_eq F Rf13j4) (f13_8_eq F)
def f13_10 (F : Nat) : (List (List Int)) → Rz := fun v => f13_2 F (f13_9 F) v
theorem f13_10_eq (F : Nat) : ∀ v,aexec VG2213 (Af13 F) (bp Try.f13 3) (ef13j1 v) (kFin VG2213 (some [(2,(.own 22))]) (Try.f13).results.toList) = f13_10 F v :=
  seq_cut (by kernel_rfl) (by kernel_rfl) ef13j1 ef13j2 _ (fun k => f13_2 F k) (f13_9 F)
    (fun Rf13j2 => f13_2_eq F Rf13j2) (f13_9_eq F)
def f13_11 (F : Nat) : (List (List Int)) → Rz := fun v => f13_1 F (f13_10 F) v
theorem f13_11_eq (F : Nat) : ∀ v,aexec VG2213 (Af13 F) (sub (bodyOf Try.f13) []) (ef13_a v) (kFin VG2213 (some [(2,(.own 22))]) (Try.f13).results.toList) = f13_11 F v :=
  seq_cut (by kernel_rfl) (by kernel_rfl) ef13_a ef13j1 _ (fun k => f13_1 F k) (f13_10 F)
    (fun Rf13j1 => f13_1_eq F Rf13j1) (f13_10_eq F)
def f13 (F : Nat) : (List (List Int)) → Rz := f13_11 F
theorem f13_body (F : Nat) (a0 : List (List Int)) : abody VG2213 (Af13 F) Try.f13 [(.vs (.rL .i64 a0) 0 1)] [] = f13 F a0 :=
  (abody_in (c := (sub (bodyOf Try.f13) [])) (by kernel_rfl) (s := ef13_a a0) (by kernel_rfl)).trans (f13_11_eq F a0)
def r13 : CRun := fun X H => match X,H with
  | [(.vs (.rL .i64 a0) 0 1)],[] => some (true,(.own 0 0 1),[(.cells (Isl.few a0).length (.rL .i64 (Isl.few a0)) true)])
  | _,_ => none
theorem s13 (a0 : List (List Int)) (h0 : okV (.vs (.rL .i64 a0) 0 1)) : ∃ F,f13 F a0 = some ((.own 0 0 1),[(.cells (Isl.few a0).length (.rL .i64 (Isl.few a0)) true)]) := by
  have hl := h0.2
  obtain ⟨F,hF⟩ : ∃ F,F = 100 := ⟨_,rfl⟩
  refine ⟨F,?_⟩
  simp only [f13_1,f13_2,f13_3,f13_5_i,f13_5,f13_6,f13_7,f13_8,f13_9,f13_10,f13_11,f13]
  refine loopN_from (fun i => (a0,(i : Int),(a0.take i).map fun x => x.take 8)) (min a0.length 8) (by rfl) (fun i hi k => ?_) (fun k => ?_) _ (by omega)
  · simp only [f13_4]
    rw [Int.toNat_natCast]
    have e : (a0.getD i []).take (Int.toNat (if 8 < ((a0.getD i []).length : Int) then 8 else ((a0.getD i []).length : Int))) = (a0.getD i []).take 8 := by
      split
      · rfl
      · rw [Int.toNat_natCast,List.take_length,List.take_of_length_le (by omega)]
    rw [e]
    simp only [dec_and]
    rw [cond_pos (by omega),cond_pos (by omega),cond_pos (by omega),cond_pos (by omega),cond_pos (by split <;> omega),cond_pos (by simp; omega),i64w (by omega) (by omega),← Reg.take_get a0 [] i (by omega)]
    simp
  · simp only [f13_4]
    have e : (a0.take (min a0.length 8)).map (fun x => x.take 8) = Isl.few a0 := by
      unfold Isl.few
      congr 1
      rw [Nat.min_comm,← List.take_take,List.take_length]
    rw [e]
    by_cases h : ((min a0.length 8 : Nat) : Int) < (a0.length : Int)
    · rw [cond_pos h,cond_neg (by omega)]; rfl
    · rw [cond_neg h]; rfl
theorem c13 : CallOk Try.prog G22 13 r13 := callOk_of (V := VG2213) mixed tys eVG2213 (f := 13) (fn := Try.f13) Try.func13 (by kernel_rfl) (c := sub (bodyOf Try.f13) []) (by kernel_rfl) (by
  intro X H r H' h hX hH
  unfold r13 at h; split at h <;> try contradiction
  · simp only [Option.some.injEq,Prod.mk.injEq] at h
    obtain ⟨hp,rfl,rfl⟩ := h
    obtain ⟨F,hF⟩ := s13 _ (hX _ (.head _))
    exact ⟨Af13 F,(f13_body F _).trans hF⟩)
def lVG2221 : List CEnt := []
def VG2221 : Env := mkEnv T22 G22 lVG2221
theorem eVG2221 : EOk Try.prog VG2221 := eok_mk (by exact trivial)
def Af21 (F : Nat) : Cuts := { F := F,at_ := fun n => match n with | 4016 => some sp2 | _ => none,join := fun n => match n with | 1032 => some [(0,.plain),(1,.plain)] | 3024 => some [(0,.plain),(1,.plain)] | 4018 => some sp2 | 8003 => some [] | _ => none }
def ef21_a : (List Int) × (List Int) → St := fun (a0,a1) => { tmps := [(0,(.vs (.rI .i64 a0) 0 1)),(1,(.vs (.rI .i64 a1) 0 1))],heap := [],next := 0,nt := 26,m := 0 }
def ef21j1 : (List Int) × (List Int) → St := fun (t0,t1) => { tmps := [(0,(.vs (.rI .i64 t0) 0 1)),(1,(.vs (.rI .i64 t1) 0 1))],heap := [],next := 0,nt := 26,m := 0 }
def ef21j2 : (List Int) × (List Int) → St := fun (t0,t1) => { tmps := [(0,(.vs (.rI .i64 t0) 0 1)),(1,(.vs (.rI .i64 t1) 0 1))],heap := [],next := 0,nt := 26,m := 0 }
def ef21j3 : Ty5 → St := fun (t0,t1,t5) => { tmps := [(0,(.vs (.rI .i64 t0) 0 1)),(1,(.vs (.rI .i64 t1) 0 1)),(5,(.int .i64 t5))],heap := [],next := 0,nt := 26,m := 0 }
def ef21l1 : Ty5 → St := fun (t0,t1,t5) => { tmps := [(0,(.vs (.rI .i64 t0) 0 1)),(1,(.vs (.rI .i64 t1) 0 1)),(5,(.int .i64 t5))],heap := [],next := 0,nt := 26,m := 0 }
def ef21j4 : Unit → St := fun _ => { tmps := [],heap := [],next := 0,nt := 26,m := 0 }
def f21_1 (F : Nat) (kf21j1 : (List Int) × (List Int) → Rz) : (List Int) × (List Int) → Rz := fun (a0,a1) => (kf21j1 (a0,a1))
theorem f21_1_eq (F : Nat) (Rf21j1 : St → Rz) : ∀ v,aexec VG2221 (Af21 F) (bp Try.f21 2) (ef21_a v) (kSeq (kc VG2221 Rf21j1 [(0,.plain),(1,.plain)]) (kFin VG2221 none (Try.f21).results.toList)) = f21_1 F (Rf21j1 ∘ ef21j1) v := by
  rintro ⟨a0,a1⟩; kernel_rfl
def f21_2 (F : Nat) (kf21j2 : (List Int) × (List Int) → Rz) : (List Int) × (List Int) → Rz := fun (t0,t1) => (cond ((↑t0.length : Int) != (↑t1.length : Int)) (some ((.bool false),[])) (kf21j2 (t0,t1)))
theorem f21_2_eq (F : Nat) (Rf21j2 : St → Rz) : ∀ v,aexec VG2221 (Af21 F) (bp Try.f21 6) (ef21j1 v) (kSeq (kc VG2221 Rf21j2 [(0,.plain),(1,.plain)]) (kFin VG2221 none (Try.f21).results.toList)) = f21_2 F (Rf21j2 ∘ ef21j2) v := by
  rintro ⟨t0,t1⟩; kernel_rfl
def f21_3 (F : Nat) (kf21j3 : Ty5 → Rz) (kf21j4 : Unit → Rz) : (List Int) × (List Int) → Rz := fun (t0,t1) => (kf21j3 (t0,t1,(0 : Int)))
theorem f21_3_eq (F : Nat) (Rf21j3 : St → Rz) (Rf21j4 : St → Rz) : ∀ v,aexec VG2221 (Af21 F) (bp Try.f21 28) (ef21j2 v) (kSeq (kc VG2221 Rf21j3 sp2) (kSeq (kc VG2221 Rf21j4 []) (kFin VG2221 none (Try.f21).results.toList))) = f21_3 F (Rf21j3 ∘ ef21j3) (Rf21j4 ∘ ef21j4) v := by
  rintro ⟨t0,t1⟩; kernel_rfl
def f21_4 (F : Nat) (kf21l1 : Ty5 → Rz) (kf21j4 : Unit → Rz) : Ty5 → Rz := fun (t0,t1,t5) => (cond (decide (t5 < (↑t0.length : Int))) (cond ((decide (0 ≤ t5)) && (decide (t5 < (↑t0.length : Int)))) (cond ((decide (0 ≤ t5)) && (decide (t5 < (↑t1.length : Int)))) (cond ((t0.getD (Int.toNat t5) 0) != (t1.getD (Int.toNat t5) 0)) (some ((.bool false),[])) (kf21l1 (t0,t1,(IntKind.i64.wrap (t5 + (1 : Int)))))) none) none) (kf21j4 ()))
theorem f21_4_eq (F : Nat) (Rf21l1 : St → Rz) (Rf21j4 : St → Rz) : ∀ v,aexec VG2221 (Af21 F) (bp Try.f21 116) (ef21l1 v) (kSeq (kc VG2221 Rf21l1 sp2) (kBlock 0 (kSeq (kc VG2221 Rf21j4 []) (kFin VG2221 none (Try.f21).results.toList)))) = f21_4 F (Rf21l1 ∘ ef21l1) (Rf21j4 ∘ ef21j4) v := by
  rintro ⟨t0,t1,t5⟩; kernel_rfl
def f21_5_i : Ty5 → (List Int) × (List Int) × Int := fun (t0,t1,t5) => (t0,t1,t5)
def f21_5 (F : Nat) (kf21j4 : Unit → Rz) : Ty5 → Rz := fun v => loopN (fun k => f21_4 F k kf21j4) F (f21_5_i v)
theorem f21_5_eq (F : Nat) (Rf21j4 : St → Rz) : ∀ v,aexec VG2221 (Af21 F) (bp Try.f21 58) (ef21j3 v) (kBlock 0 (kSeq (kc VG2221 Rf21j4 []) (kFin VG2221 none (Try.f21).results.toList))) = f21_5 F (Rf21j4 ∘ ef21j4) v :=
  loop_cut (by kernel_rfl) (by kernel_rfl) ef21j3 ef21l1 _ f21_5_i (fun k => f21_4 F k (Rf21j4 ∘ ef21j4))
    (by rintro ⟨t0,t1,t5⟩; kernel_rfl) (fun Rf21l1 => f21_4_eq F Rf21l1 Rf21j4)
def f21_6 (F : Nat) (kf21j4 : Unit → Rz) : Ty5 → Rz := f21_5 F kf21j4
theorem f21_6_eq (F : Nat) (Rf21j4 : St → Rz) : ∀ v,aexec VG2221 (Af21 F) (bp Try.f21 29) (ef21j3 v) (kSeq (kc VG2221 Rf21j4 []) (kFin VG2221 none (Try.f21).results.toList)) = f21_6 F (Rf21j4 ∘ ef21j4) v := fun v =>
  (block_in  (by kernel_rfl) _ _).trans (f21_5_eq F Rf21j4 v)
def f21_7 (F : Nat) (kf21j4 : Unit → Rz) : (List Int) × (List Int) → Rz := fun v => f21_3 F (f21_6 F kf21j4) kf21j4 v
theorem f21_7_eq (F : Nat) (Rf21j4 : St → Rz) : ∀ v,aexec VG2221 (Af21 F) (bp Try.f21 14) (ef21j2 v) (kSeq (kc VG2221 Rf21j4 []) (kFin VG2221 none (Try.f21).results.toList)) = f21_7 F (Rf21j4 ∘ ef21j4) v :=
  seq_cut (by kernel_rfl) (by kernel_rfl) ef21j2 ef21j3 _ (fun k => f21_3 F k (Rf21j4 ∘ ef21j4)) (f21_6 F (Rf21j4 ∘ ef21j4))
    (fun Rf21j3 => f21_3_eq F Rf21j3 Rf21j4) (f21_6_eq F Rf21j4)
def f21_8 (F : Nat) : Unit → Rz := fun _ => (some ((.bool true),[]))
theorem f21_8_eq (F : Nat) : ∀ v,aexec VG2221 (Af21 F) (bp Try.f21 15) (ef21j4 v) (kFin VG2221 none (Try.f21).results.toList) = f21_8 F v := by
  intro _; kernel_rfl
def f21_9 (F : Nat) : (List Int) × (List Int) → Rz := fun v => f21_7 F (f21_8 F) v
theorem f21_9_eq (F : Nat) : ∀ v,aexec VG2221 (Af21 F) (bp Try.f21 7) (ef21j2 v) (kFin VG2221 none (Try.f21).results.toList) = f21_9 F v :=
  seq_cut (by kernel_rfl) (by kernel_rfl) ef21j2 ef21j4 _ (fun k => f21_7 F k) (f21_8 F)
    (fun Rf21j4 => f21_7_eq F Rf21j4) (f21_8_eq F)
def f21_10 (F : Nat) : (List Int) × (List Int) → Rz := fun v => f21_2 F (f21_9 F) v
theorem f21_10_eq (F : Nat) : ∀ v,aexec VG2221 (Af21 F) (bp Try.f21 3) (ef21j1 v) (kFin VG2221 none (Try.f21).results.toList) = f21_10 F v :=
  seq_cut (by kernel_rfl) (by kernel_rfl) ef21j1 ef21j2 _ (fun k => f21_2 F k) (f21_9 F)
    (fun Rf21j2 => f21_2_eq F Rf21j2) (f21_9_eq F)
def f21_11 (F : Nat) : (List Int) × (List Int) → Rz := fun v => f21_1 F (f21_10 F) v
theorem f21_11_eq (F : Nat) : ∀ v,aexec VG2221 (Af21 F) (sub (bodyOf Try.f21) []) (ef21_a v) (kFin VG2221 none (Try.f21).results.toList) = f21_11 F v :=
  seq_cut (by kernel_rfl) (by kernel_rfl) ef21_a ef21j1 _ (fun k => f21_1 F k) (f21_10 F)
    (fun Rf21j1 => f21_1_eq F Rf21j1) (f21_10_eq F)
def f21 (F : Nat) : (List Int) × (List Int) → Rz := f21_11 F
theorem f21_body (F : Nat) (a0 : List Int) (a1 : List Int) : abody VG2221 (Af21 F) Try.f21 [(.vs (.rI .i64 a0) 0 1),(.vs (.rI .i64 a1) 0 1)] [] = f21 F (a0,a1) :=
  (abody_in (c := (sub (bodyOf Try.f21) [])) (by kernel_rfl) (s := ef21_a (a0,a1)) (by kernel_rfl)).trans (f21_11_eq F (a0,a1))
def r21 : CRun := fun X H => match X,H with
  | [(.vs (.rI .i64 a0) 0 1),(.vs (.rI .i64 a1) 0 1)],[] => some (true,(.bool (decide (a0 = a1))),[])
  | _,_ => none
theorem s21 (a0 : List Int) (a1 : List Int) (h0 : okV (.vs (.rI .i64 a0) 0 1)) (h1 : okV (.vs (.rI .i64 a1) 0 1)) : ∃ F,f21 F (a0,a1) = some ((.bool (decide (a0 = a1))),[]) := by
  have hl0 := h0.2
  have hl1 := h1.2
  refine ⟨a0.length + 1,?_⟩
  simp only [f21,f21_11,f21_1,f21_10,f21_2,int_bne]
  by_cases hl : a0.length = a1.length
  · rw [cond_neg (by omega)]
    simp only [f21_9,f21_7,f21_3,f21_6,f21_5,f21_5_i]
    refine loopN_ind (fun m s => s.1 = a0 ∧ s.2.1 = a1 ∧ s.2.2 = ((a0.length - m : Nat) : Int) ∧ m ≤ a0.length ∧ ∀ i,i < a0.length - m → a0.getD i 0 = a1.getD i 0) ?_ _ a0.length _ (by omega) ⟨rfl,rfl,by simp,Nat.le_refl _,fun i hi => by omega⟩
    rintro m ⟨t0,t1,t5⟩ k ⟨e1,e2,e3,hm,hi⟩ hk
    simp only at e1 e2 e3 hi
    subst e1; subst e2; subst e3
    simp only [f21_4,dec_and,int_bne,lst_beq,dec_not]
    cases m with
    | zero =>
      rw [cond_neg (by omega),decide_eq_true (list_eq 0 hl fun i h => hi i (by omega))]
      rfl
    | succ m =>
      rw [Int.toNat_natCast,cond_pos (by omega),cond_pos (by omega),cond_pos (by omega)]
      by_cases he : t0.getD (t0.length - (m + 1)) 0 = t1.getD (t0.length - (m + 1)) 0
      · rw [cond_neg (fun h => h he),i64w (by omega) (by omega)]
        refine hk m _ (by omega) ⟨rfl,rfl,by simp only []; omega,by omega,fun i hi' => ?_⟩
        by_cases hh : i < t0.length - (m + 1)
        · exact hi i hh
        · rw [show i = t0.length - (m + 1) by omega]; exact he
      · rw [cond_pos he,decide_eq_false (fun e => he (by rw [e]))]
  · rw [cond_pos (by omega),decide_eq_false (fun e => hl (by rw [e]))]
theorem c21 : CallOk Try.prog G22 21 r21 := callOk_of (V := VG2221) mixed tys eVG2221 (f := 21) (fn := Try.f21) Try.func21 (by kernel_rfl) (c := sub (bodyOf Try.f21) []) (by kernel_rfl) (by
  intro X H r H' h hX hH
  unfold r21 at h; split at h <;> try contradiction
  · simp only [Option.some.injEq,Prod.mk.injEq] at h
    obtain ⟨hp,rfl,rfl⟩ := h
    obtain ⟨F,hF⟩ := s21 _ _ (hX _ (.head _)) (hX _ (.tail _ (.head _)))
    exact ⟨Af21 F,(f21_body F _ _).trans hF⟩)
def lVG2214 : List CEnt := [(21,[some 3,some 3],r21)]
def VG2214 : Env := mkEnv T22 G22 lVG2214
theorem eVG2214 : EOk Try.prog VG2214 := eok_mk (by exact ⟨c21,trivial⟩)
def Af14 (F : Nat) : Cuts := { F := F,at_ := fun n => match n with | 4016 => some sp2 | _ => none,join := fun n => match n with | 1032 => some [(0,.plain),(1,.plain)] | 3024 => some [(0,.plain),(1,.plain)] | 4018 => some sp2 | 8003 => some [] | _ => none }
def ef14_a : Ty6 → St := fun (a0,a1) => { tmps := [(0,(.vs (.rL .i64 a0) 0 1)),(1,(.vs (.rL .i64 a1) 0 1))],heap := [],next := 0,nt := 27,m := 0 }
def ef14j1 : Ty6 → St := fun (t0,t1) => { tmps := [(0,(.vs (.rL .i64 t0) 0 1)),(1,(.vs (.rL .i64 t1) 0 1))],heap := [],next := 0,nt := 27,m := 0 }
def ef14j2 : Ty6 → St := fun (t0,t1) => { tmps := [(0,(.vs (.rL .i64 t0) 0 1)),(1,(.vs (.rL .i64 t1) 0 1))],heap := [],next := 0,nt := 27,m := 0 }
def ef14j3 : Ty7 → St := fun (t0,t1,t5) => { tmps := [(0,(.vs (.rL .i64 t0) 0 1)),(1,(.vs (.rL .i64 t1) 0 1)),(5,(.int .i64 t5))],heap := [],next := 0,nt := 27,m := 0 }
def ef14l1 : Ty7 → St := fun (t0,t1,t5) => { tmps := [(0,(.vs (.rL .i64 t0) 0 1)),(1,(.vs (.rL .i64 t1) 0 1)),(5,(.int .i64 t5))],heap := [],next := 0,nt := 27,m := 0 }
def ef14j4 : Unit → St := fun _ => { tmps := [],heap := [],next := 0,nt := 27,m := 0 }
def f14_1 (F : Nat) (kf14j1 : Ty6 → Rz) : Ty6 → Rz := fun (a0,a1) => (kf14j1 (a0,a1))
theorem f14_1_eq (F : Nat) (Rf14j1 : St → Rz) : ∀ v,aexec VG2214 (Af14 F) (bp Try.f14 2) (ef14_a v) (kSeq (kc VG2214 Rf14j1 [(0,.plain),(1,.plain)]) (kFin VG2214 none (Try.f14).results.toList)) = f14_1 F (Rf14j1 ∘ ef14j1) v := by
  rintro ⟨a0,a1⟩; kernel_rfl
def f14_2 (F : Nat) (kf14j2 : Ty6 → Rz) : Ty6 → Rz := fun (t0,t1) => (cond ((↑t0.length : Int) != (↑t1.length : Int)) (some ((.bool false),[])) (kf14j2 (t0,t1)))
theorem f14_2_eq (F : Nat) (Rf14j2 : St → Rz) : ∀ v,aexec VG2214 (Af14 F) (bp Try.f14 6) (ef14j1 v) (kSeq (kc VG2214 Rf14j2 [(0,.plain),(1,.plain)]) (kFin VG2214 none (Try.f14).results.toList)) = f14_2 F (Rf14j2 ∘ ef14j2) v := by
  rintro ⟨t0,t1⟩; kernel_rfl
def f14_3 (F : Nat) (kf14j3 : Ty7 → Rz) (kf14j4 : Unit → Rz) : Ty6 → Rz := fun (t0,t1) => (kf14j3 (t0,t1,(0 : Int)))
theorem f14_3_eq (F : Nat) (Rf14j3 : St → Rz) (Rf14j4 : St → Rz) : ∀ v,aexec VG2214 (Af14 F) (bp Try.f14 28) (ef14j2 v) (kSeq (kc VG2214 Rf14j3 sp2) (kSeq (kc VG2214 Rf14j4 []) (kFin VG2214 none (Try.f14).results.toList))) = f14_3 F (Rf14j3 ∘ ef14j3) (Rf14j4 ∘ ef14j4) v := by
  rintro ⟨t0,t1⟩; kernel_rfl
def f14_4 (F : Nat) (kf14l1 : Ty7 → Rz) (kf14j4 : Unit → Rz) : Ty7 → Rz := fun (t0,t1,t5) => (cond (decide (t5 < (↑t0.length : Int))) (cond ((decide (0 ≤ t5)) && (decide (t5 < (↑t0.length : Int)))) (cond ((decide (0 ≤ t5)) && (decide (t5 < (↑t1.length : Int)))) (cond (!(decide ((t0.getD (Int.toNat t5) []) = (t1.getD (Int.toNat t5) [])))) (some ((.bool false),[])) (kf14l1 (t0,t1,(IntKind.i64.wrap (t5 + (1 : Int)))))) none) none) (kf14j4 ()))
theorem f14_4_eq (F : Nat) (Rf14l1 : St → Rz) (Rf14j4 : St → Rz) : ∀ v,aexec VG2214 (Af14 F) (bp Try.f14 116) (ef14l1 v) (kSeq (kc VG2214 Rf14l1 sp2) (kBlock 0 (kSeq (kc VG2214 Rf14j4 []) (kFin VG2214 none (Try.f14).results.toList)))) = f14_4 F (Rf14l1 ∘ ef14l1) (Rf14j4 ∘ ef14j4) v := by
  rintro ⟨t0,t1,t5⟩; kernel_rfl
def f14_5_i : Ty7 → (List (List Int)) × (List (List Int)) × Int := fun (t0,t1,t5) => (t0,t1,t5)
def f14_5 (F : Nat) (kf14j4 : Unit → Rz) : Ty7 → Rz := fun v => loopN (fun k => f14_4 F k kf14j4) F (f14_5_i v)
theorem f14_5_eq (F : Nat) (Rf14j4 : St → Rz) : ∀ v,aexec VG2214 (Af14 F) (bp Try.f14 58) (ef14j3 v) (kBlock 0 (kSeq (kc VG2214 Rf14j4 []) (kFin VG2214 none (Try.f14).results.toList))) = f14_5 F (Rf14j4 ∘ ef14j4) v :=
  loop_cut (by kernel_rfl) (by kernel_rfl) ef14j3 ef14l1 _ f14_5_i (fun k => f14_4 F k (Rf14j4 ∘ ef14j4))
    (by rintro ⟨t0,t1,t5⟩; kernel_rfl) (fun Rf14l1 => f14_4_eq F Rf14l1 Rf14j4)
def f14_6 (F : Nat) (kf14j4 : Unit → Rz) : Ty7 → Rz := f14_5 F kf14j4
theorem f14_6_eq (F : Nat) (Rf14j4 : St → Rz) : ∀ v,aexec VG2214 (Af14 F) (bp Try.f14 29) (ef14j3 v) (kSeq (kc VG2214 Rf14j4 []) (kFin VG2214 none (Try.f14).results.toList)) = f14_6 F (Rf14j4 ∘ ef14j4) v := fun v =>
  (block_in  (by kernel_rfl) _ _).trans (f14_5_eq F Rf14j4 v)
def f14_7 (F : Nat) (kf14j4 : Unit → Rz) : Ty6 → Rz := fun v => f14_3 F (f14_6 F kf14j4) kf14j4 v
theorem f14_7_eq (F : Nat) (Rf14j4 : St → Rz) : ∀ v,aexec VG2214 (Af14 F) (bp Try.f14 14) (ef14j2 v) (kSeq (kc VG2214 Rf14j4 []) (kFin VG2214 none (Try.f14).results.toList)) = f14_7 F (Rf14j4 ∘ ef14j4) v :=
  seq_cut (by kernel_rfl) (by kernel_rfl) ef14j2 ef14j3 _ (fun k => f14_3 F k (Rf14j4 ∘ ef14j4)) (f14_6 F (Rf14j4 ∘ ef14j4))
    (fun Rf14j3 => f14_3_eq F Rf14j3 Rf14j4) (f14_6_eq F Rf14j4)
def f14_8 (F : Nat) : Unit → Rz := fun _ => (some ((.bool true),[]))
theorem f14_8_eq (F : Nat) : ∀ v,aexec VG2214 (Af14 F) (bp Try.f14 15) (ef14j4 v) (kFin VG2214 none (Try.f14).results.toList) = f14_8 F v := by
  intro _; kernel_rfl
def f14_9 (F : Nat) : Ty6 → Rz := fun v => f14_7 F (f14_8 F) v
theorem f14_9_eq (F : Nat) : ∀ v,aexec VG2214 (Af14 F) (bp Try.f14 7) (ef14j2 v) (kFin VG2214 none (Try.f14).results.toList) = f14_9 F v :=
  seq_cut (by kernel_rfl) (by kernel_rfl) ef14j2 ef14j4 _ (fun k => f14_7 F k) (f14_8 F)
    (fun Rf14j4 => f14_7_eq F Rf14j4) (f14_8_eq F)
def f14_10 (F : Nat) : Ty6 → Rz := fun v => f14_2 F (f14_9 F) v
theorem f14_10_eq (F : Nat) : ∀ v,aexec VG2214 (Af14 F) (bp Try.f14 3) (ef14j1 v) (kFin VG2214 none (Try.f14).results.toList) = f14_10 F v :=
  seq_cut (by kernel_rfl) (by kernel_rfl) ef14j1 ef14j2 _ (fun k => f14_2 F k) (f14_9 F)
    (fun Rf14j2 => f14_2_eq F Rf14j2) (f14_9_eq F)
def f14_11 (F : Nat) : Ty6 → Rz := fun v => f14_1 F (f14_10 F) v
theorem f14_11_eq (F : Nat) : ∀ v,aexec VG2214 (Af14 F) (sub (bodyOf Try.f14) []) (ef14_a v) (kFin VG2214 none (Try.f14).results.toList) = f14_11 F v :=
  seq_cut (by kernel_rfl) (by kernel_rfl) ef14_a ef14j1 _ (fun k => f14_1 F k) (f14_10 F)
    (fun Rf14j1 => f14_1_eq F Rf14j1) (f14_10_eq F)
def f14 (F : Nat) : Ty6 → Rz := f14_11 F
theorem f14_body (F : Nat) (a0 : List (List Int)) (a1 : List (List Int)) : abody VG2214 (Af14 F) Try.f14 [(.vs (.rL .i64 a0) 0 1),(.vs (.rL .i64 a1) 0 1)] [] = f14 F (a0,a1) :=
  (abody_in (c := (sub (bodyOf Try.f14) [])) (by kernel_rfl) (s := ef14_a (a0,a1)) (by kernel_rfl)).trans (f14_11_eq F (a0,a1))
def r14 : CRun := fun X H => match X,H with
  | [(.vs (.rL .i64 a0) 0 1),(.vs (.rL .i64 a1) 0 1)],[] => some (true,(.bool (decide (a0 = a1))),[])
  | _,_ => none
theorem s14 (a0 : List (List Int)) (a1 : List (List Int)) (h0 : okV (.vs (.rL .i64 a0) 0 1)) (h1 : okV (.vs (.rL .i64 a1) 0 1)) : ∃ F,f14 F (a0,a1) = some ((.bool (decide (a0 = a1))),[]) := by
  have hl0 := h0.2
  have hl1 := h1.2
  refine ⟨a0.length + 1,?_⟩
  simp only [f14,f14_11,f14_1,f14_10,f14_2,int_bne]
  by_cases hl : a0.length = a1.length
  · rw [cond_neg (by omega)]
    simp only [f14_9,f14_7,f14_3,f14_6,f14_5,f14_5_i]
    refine loopN_ind (fun m s => s = (a0,a1,((a0.length - m : Nat) : Int)) ∧ m ≤ a0.length ∧ ∀ i,i < a0.length - m → a0.getD i [] = a1.getD i []) ?_ _ a0.length _ (by omega) ⟨by simp,Nat.le_refl _,fun i hi => by omega⟩
    rintro m s k ⟨rfl,hm,hi⟩ hk
    simp only [f14_4,dec_and,dec_not]
    cases m with
    | zero =>
      rw [cond_neg (by omega),decide_eq_true (list_eq [] hl fun i h => hi i (by omega))]
      rfl
    | succ m =>
      rw [Int.toNat_natCast,cond_pos (by omega),cond_pos (by omega),cond_pos (by omega)]
      by_cases he : a0.getD (a0.length - (m + 1)) [] = a1.getD (a0.length - (m + 1)) []
      · rw [cond_neg (fun h => h he),i64w (by omega) (by omega),show ((a0.length - (m + 1) : Nat) : Int) + 1 = ((a0.length - m : Nat) : Int) by omega]
        refine hk m _ (by omega) ⟨rfl,by omega,fun i hi' => ?_⟩
        by_cases hh : i < a0.length - (m + 1)
        · exact hi i hh
        · rw [show i = a0.length - (m + 1) by omega]; exact he
      · rw [cond_pos he,decide_eq_false (fun e => he (by rw [e]))]
  · rw [cond_pos (by omega),decide_eq_false (fun e => hl (by rw [e]))]
theorem c14 : CallOk Try.prog G22 14 r14 := callOk_of (V := VG2214) mixed tys eVG2214 (f := 14) (fn := Try.f14) Try.func14 (by kernel_rfl) (c := sub (bodyOf Try.f14) []) (by kernel_rfl) (by
  intro X H r H' h hX hH
  unfold r14 at h; split at h <;> try contradiction
  · simp only [Option.some.injEq,Prod.mk.injEq] at h
    obtain ⟨hp,rfl,rfl⟩ := h
    obtain ⟨F,hF⟩ := s14 _ _ (hX _ (.head _)) (hX _ (.tail _ (.head _)))
    exact ⟨Af14 F,(f14_body F _ _).trans hF⟩)
def lVG2220 : List CEnt := []
def VG2220 : Env := mkEnv T22 G22 lVG2220
theorem eVG2220 : EOk Try.prog VG2220 := eok_mk (by exact trivial)
def Af20 (F : Nat) : Cuts := { F := F,at_ := fun n => match n with | 3010 => some sp8 | _ => none,join := fun n => match n with | 1020 => some [(0,.plain)] | 2018 => some [(0,.plain),(3,.plain)] | 3012 => some sp7 | 6003 => some [(3,.plain)] | _ => none,fin := (some [(2,(.own 3))]) }
def ef20_a : Int → St := fun a0 => { tmps := [(0,(.int .i64 a0))],heap := [],next := 0,nt := 15,m := 0 }
def ef20j1 : Int → St := fun t0 => { tmps := [(0,(.int .i64 t0))],heap := [],next := 0,nt := 15,m := 0 }
def ef20j2 : Int → St := fun t0 => { tmps := [(0,(.int .i64 t0)),(3,.ns)],heap := [],next := 0,nt := 15,m := 0 }
def ef20j3 : Int × Int → St := fun (t0,t4) => { tmps := [(0,(.int .i64 t0)),(3,.ns),(4,(.int .i64 t4))],heap := [],next := 0,nt := 15,m := 0 }
def ef20l1 : Int × Int × (List Int) → St := fun (t0,t4,x3) => { tmps := [(0,(.int .i64 t0)),(3,(.own 0 0 1)),(4,(.int .i64 t4))],heap := [(0,(.cells x3.length (.rI .i64 x3) true))],next := 1,nt := 15,m := 0 }
def ef20j4 : (List Int) → St := fun x1 => { tmps := [(3,(.own 0 0 1))],heap := [(0,(.cells x1.length (.rI .i64 x1) true))],next := 1,nt := 15,m := 0 }
def f20_1 (F : Nat) (kf20j1 : Int → Rz) : Int → Rz := fun a0 => (kf20j1 a0)
theorem f20_1_eq (F : Nat) (Rf20j1 : St → Rz) : ∀ v,aexec VG2220 (Af20 F) (bp Try.f20 2) (ef20_a v) (kSeq (kc VG2220 Rf20j1 [(0,.plain)]) (kFin VG2220 (some [(2,(.own 3))]) (Try.f20).results.toList)) = f20_1 F (Rf20j1 ∘ ef20j1) v := by
  intro a0; kernel_rfl
def f20_2 (F : Nat) (kf20j2 : Int → Rz) : Int → Rz := fun t0 => (kf20j2 t0)
theorem f20_2_eq (F : Nat) (Rf20j2 : St → Rz) : ∀ v,aexec VG2220 (Af20 F) (bp Try.f20 6) (ef20j1 v) (kSeq (kc VG2220 Rf20j2 [(0,.plain),(3,.plain)]) (kFin VG2220 (some [(2,(.own 3))]) (Try.f20).results.toList)) = f20_2 F (Rf20j2 ∘ ef20j2) v := by
  intro t0; kernel_rfl
def f20_3 (F : Nat) (kf20j3 : Int × Int → Rz) (kf20j4 : (List Int) → Rz) : Int → Rz := fun t0 => (kf20j3 (t0,(0 : Int)))
theorem f20_3_eq (F : Nat) (Rf20j3 : St → Rz) (Rf20j4 : St → Rz) : ∀ v,aexec VG2220 (Af20 F) (bp Try.f20 28) (ef20j2 v) (kSeq (kc VG2220 Rf20j3 sp7) (kSeq (kc VG2220 Rf20j4 [(3,.plain)]) (kFin VG2220 (some [(2,(.own 3))]) (Try.f20).results.toList))) = f20_3 F (Rf20j3 ∘ ef20j3) (Rf20j4 ∘ ef20j4) v := by
  intro t0; kernel_rfl
def f20_4 (F : Nat) (kf20l1 : Int × Int × (List Int) → Rz) (kf20j4 : (List Int) → Rz) : Int × Int × (List Int) → Rz := fun (t0,t4,x3) => (cond (decide (t4 < t0)) (cond (decide ((x3.length + 1) < 1073741824)) (kf20l1 (t0,(IntKind.i64.wrap (t4 + (1 : Int))),(x3 ++ [t4]))) none) (kf20j4 x3))
theorem f20_4_eq (F : Nat) (Rf20l1 : St → Rz) (Rf20j4 : St → Rz) : ∀ v,aexec VG2220 (Af20 F) (bp Try.f20 116) (ef20l1 v) (kSeq (kc VG2220 Rf20l1 sp8) (kBlock 0 (kSeq (kc VG2220 Rf20j4 [(3,.plain)]) (kFin VG2220 (some [(2,(.own 3))]) (Try.f20).results.toList)))) = f20_4 F (Rf20l1 ∘ ef20l1) (Rf20j4 ∘ ef20j4) v := by
  rintro ⟨t0,t4,x3⟩; kernel_rfl
def f20_5_i : Int × Int → Int × Int × (List Int) := fun (t0,t4) => (t0,t4,[])
def f20_5 (F : Nat) (kf20j4 : (List Int) → Rz) : Int × Int → Rz := fun v => loopN (fun k => f20_4 F k kf20j4) F (f20_5_i v)
theorem f20_5_eq (F : Nat) (Rf20j4 : St → Rz) : ∀ v,aexec VG2220 (Af20 F) (bp Try.f20 58) (ef20j3 v) (kBlock 0 (kSeq (kc VG2220 Rf20j4 [(3,.plain)]) (kFin VG2220 (some [(2,(.own 3))]) (Try.f20).results.toList))) = f20_5 F (Rf20j4 ∘ ef20j4) v :=
  loop_cut (by kernel_rfl) (by kernel_rfl) ef20j3 ef20l1 _ f20_5_i (fun k => f20_4 F k (Rf20j4 ∘ ef20j4))
    (by rintro ⟨t0,t4⟩; kernel_rfl) (fun Rf20l1 => f20_4_eq F Rf20l1 Rf20j4)
def f20_6 (F : Nat) (kf20j4 : (List Int) → Rz) : Int × Int → Rz := f20_5 F kf20j4
theorem f20_6_eq (F : Nat) (Rf20j4 : St → Rz) : ∀ v,aexec VG2220 (Af20 F) (bp Try.f20 29) (ef20j3 v) (kSeq (kc VG2220 Rf20j4 [(3,.plain)]) (kFin VG2220 (some [(2,(.own 3))]) (Try.f20).results.toList)) = f20_6 F (Rf20j4 ∘ ef20j4) v := fun v =>
  (block_in  (by kernel_rfl) _ _).trans (f20_5_eq F Rf20j4 v)
def f20_7 (F : Nat) (kf20j4 : (List Int) → Rz) : Int → Rz := fun v => f20_3 F (f20_6 F kf20j4) kf20j4 v
theorem f20_7_eq (F : Nat) (Rf20j4 : St → Rz) : ∀ v,aexec VG2220 (Af20 F) (bp Try.f20 14) (ef20j2 v) (kSeq (kc VG2220 Rf20j4 [(3,.plain)]) (kFin VG2220 (some [(2,(.own 3))]) (Try.f20).results.toList)) = f20_7 F (Rf20j4 ∘ ef20j4) v :=
  seq_cut (by kernel_rfl) (by kernel_rfl) ef20j2 ef20j3 _ (fun k => f20_3 F k (Rf20j4 ∘ ef20j4)) (f20_6 F (Rf20j4 ∘ ef20j4))
    (fun Rf20j3 => f20_3_eq F Rf20j3 Rf20j4) (f20_6_eq F Rf20j4)
def f20_8 (F : Nat) : (List Int) → Rz := fun x1 => (some ((.own 0 0 1),[(.cells x1.length (.rI .i64 x1) true)]))
theorem f20_8_eq (F : Nat) : ∀ v,aexec VG2220 (Af20 F) (bp Try.f20 15) (ef20j4 v) (kFin VG2220 (some [(2,(.own 3))]) (Try.f20).results.toList) = f20_8 F v := by
  intro x1; kernel_rfl
def f20_9 (F : Nat) : Int → Rz := fun v => f20_7 F (f20_8 F) v
theorem f20_9_eq (F : Nat) : ∀ v,aexec VG2220 (Af20 F) (bp Try.f20 7) (ef20j2 v) (kFin VG2220 (some [(2,(.own 3))]) (Try.f20).results.toList) = f20_9 F v :=
  seq_cut (by kernel_rfl) (by kernel_rfl) ef20j2 ef20j4 _ (fun k => f20_7 F k) (f20_8 F)
    (fun Rf20j4 => f20_7_eq F Rf20j4) (f20_8_eq F)
def f20_10 (F : Nat) : Int → Rz := fun v => f20_2 F (f20_9 F) v
theorem f20_10_eq (F : Nat) : ∀ v,aexec VG2220 (Af20 F) (bp Try.f20 3) (ef20j1 v) (kFin VG2220 (some [(2,(.own 3))]) (Try.f20).results.toList) = f20_10 F v :=
  seq_cut (by kernel_rfl) (by kernel_rfl) ef20j1 ef20j2 _ (fun k => f20_2 F k) (f20_9 F)
    (fun Rf20j2 => f20_2_eq F Rf20j2) (f20_9_eq F)
def f20_11 (F : Nat) : Int → Rz := fun v => f20_1 F (f20_10 F) v
theorem f20_11_eq (F : Nat) : ∀ v,aexec VG2220 (Af20 F) (sub (bodyOf Try.f20) []) (ef20_a v) (kFin VG2220 (some [(2,(.own 3))]) (Try.f20).results.toList) = f20_11 F v :=
  seq_cut (by kernel_rfl) (by kernel_rfl) ef20_a ef20j1 _ (fun k => f20_1 F k) (f20_10 F)
    (fun Rf20j1 => f20_1_eq F Rf20j1) (f20_10_eq F)
def f20 (F : Nat) : Int → Rz := f20_11 F
theorem f20_body (F : Nat) (a0 : Int) : abody VG2220 (Af20 F) Try.f20 [(.int .i64 a0)] [] = f20 F a0 :=
  (abody_in (c := (sub (bodyOf Try.f20) [])) (by kernel_rfl) (s := ef20_a a0) (by kernel_rfl)).trans (f20_11_eq F a0)
def r20 : CRun := fun X H => match X,H with
  | [(.int .i64 a0)],[] => some (((decide (0 ≤ a0)) && (decide (Int.toNat a0 < 1073741000))),(.own 0 0 1),[(.cells (Isl.nums (Int.toNat a0)).length (.rI .i64 (Isl.nums (Int.toNat a0))) true)])
  | _,_ => none
theorem s20 (a0 : Int) (hp : (((decide (0 ≤ a0)) && (decide (Int.toNat a0 < 1073741000)))) = true) (h0 : okV (.int .i64 a0)) : ∃ F,f20 F a0 = some ((.own 0 0 1),[(.cells (Isl.nums (Int.toNat a0)).length (.rI .i64 (Isl.nums (Int.toNat a0))) true)]) := by
  simp only [Bool.and_eq_true,decide_eq_true_eq] at hp
  obtain ⟨n,rfl⟩ : ∃ n : Nat,a0 = (n : Int) := ⟨a0.toNat,by omega⟩
  rw [Int.toNat_natCast] at *
  refine ⟨n + 1,?_⟩
  simp only [f20_1,f20_2,f20_3,f20_5_i,f20_5,f20_6,f20_7,f20_8,f20_9,f20_10,f20_11,f20]
  refine loopN_from (fun i => ((n : Int),(i : Int),Isl.nums i)) n (by rfl) (fun i hi k => ?_) (fun k => ?_) _ (by omega)
  · simp only [f20_4]
    rw [cond_pos (by omega),Isl.nums_len,cond_pos (by omega),i64w (by omega) (by omega),Isl.nums_succ]
    rfl
  · simp only [f20_4]
    rw [cond_neg (by omega)]
    rfl
theorem c20 : CallOk Try.prog G22 20 r20 := callOk_of (V := VG2220) mixed tys eVG2220 (f := 20) (fn := Try.f20) Try.func20 (by kernel_rfl) (c := sub (bodyOf Try.f20) []) (by kernel_rfl) (by
  intro X H r H' h hX hH
  unfold r20 at h; split at h <;> try contradiction
  · simp only [Option.some.injEq,Prod.mk.injEq] at h
    obtain ⟨hp,rfl,rfl⟩ := h
    obtain ⟨F,hF⟩ := s20 _ hp (hX _ (.head _))
    exact ⟨Af20 F,(f20_body F _).trans hF⟩)
def lVG2250 : List CEnt := []
def VG2250 : Env := mkEnv T22 G22 lVG2250
theorem eVG2250 : EOk Try.prog VG2250 := eok_mk (by exact trivial)
def Af50 (F : Nat) : Cuts := { F := F,at_ := fun n => match n with | 2016 => some sp2 | _ => none,join := fun n => match n with | 1024 => some [(0,.plain),(1,.plain)] | 2018 => some sp2 | 6003 => some [] | _ => none }
def ef50_a : (List Int) × Int → St := fun (a0,a1) => { tmps := [(0,(.vs (.rI .i64 a0) 0 1)),(1,(.int .i64 a1))],heap := [],next := 0,nt := 18,m := 0 }
def ef50j1 : (List Int) × Int → St := fun (t0,t1) => { tmps := [(0,(.vs (.rI .i64 t0) 0 1)),(1,(.int .i64 t1))],heap := [],next := 0,nt := 18,m := 0 }
def ef50j2 : (List Int) × Int × Int → St := fun (t0,t1,t5) => { tmps := [(0,(.vs (.rI .i64 t0) 0 1)),(1,(.int .i64 t1)),(5,(.int .i64 t5))],heap := [],next := 0,nt := 18,m := 0 }
def ef50l1 : (List Int) × Int × Int → St := fun (t0,t1,t5) => { tmps := [(0,(.vs (.rI .i64 t0) 0 1)),(1,(.int .i64 t1)),(5,(.int .i64 t5))],heap := [],next := 0,nt := 18,m := 0 }
def ef50j3 : Unit → St := fun _ => { tmps := [],heap := [],next := 0,nt := 18,m := 0 }
def f50_1 (F : Nat) (kf50j1 : (List Int) × Int → Rz) : (List Int) × Int → Rz := fun (a0,a1) => (kf50j1 (a0,a1))
theorem f50_1_eq (F : Nat) (Rf50j1 : St → Rz) : ∀ v,aexec VG2250 (Af50 F) (bp Try.f50 2) (ef50_a v) (kSeq (kc VG2250 Rf50j1 [(0,.plain),(1,.plain)]) (kFin VG2250 none (Try.f50).results.toList)) = f50_1 F (Rf50j1 ∘ ef50j1) v := by
  rintro ⟨a0,a1⟩; kernel_rfl
def f50_2 (F : Nat) (kf50j2 : (List Int) × Int × Int → Rz) (kf50j3 : Unit → Rz) : (List Int) × Int → Rz := fun (t0,t1) => (kf50j2 (t0,t1,(0 : Int)))
theorem f50_2_eq (F : Nat) (Rf50j2 : St → Rz) (Rf50j3 : St → Rz) : ∀ v,aexec VG2250 (Af50 F) (bp Try.f50 12) (ef50j1 v) (kSeq (kc VG2250 Rf50j2 sp2) (kSeq (kc VG2250 Rf50j3 []) (kFin VG2250 none (Try.f50).results.toList))) = f50_2 F (Rf50j2 ∘ ef50j2) (Rf50j3 ∘ ef50j3) v := by
  rintro ⟨t0,t1⟩; kernel_rfl
def f50_3 (F : Nat) (kf50l1 : (List Int) × Int × Int → Rz) (kf50j3 : Unit → Rz) : (List Int) × Int × Int → Rz := fun (t0,t1,t5) => (cond (decide (t5 < (↑t0.length : Int))) (cond ((decide (0 ≤ t5)) && (decide (t5 < (↑t0.length : Int)))) (cond ((t0.getD (Int.toNat t5) 0) == t1) (some ((.bool true),[])) (kf50l1 (t0,t1,(IntKind.i64.wrap (t5 + (1 : Int)))))) none) (kf50j3 ()))
theorem f50_3_eq (F : Nat) (Rf50l1 : St → Rz) (Rf50j3 : St → Rz) : ∀ v,aexec VG2250 (Af50 F) (bp Try.f50 52) (ef50l1 v) (kSeq (kc VG2250 Rf50l1 sp2) (kBlock 0 (kSeq (kc VG2250 Rf50j3 []) (kFin VG2250 none (Try.f50).results.toList)))) = f50_3 F (Rf50l1 ∘ ef50l1) (Rf50j3 ∘ ef50j3) v := by
  rintro ⟨t0,t1,t5⟩; kernel_rfl
def f50_4_i : (List Int) × Int × Int → (List Int) × Int × Int := fun (t0,t1,t5) => (t0,t1,t5)
def f50_4 (F : Nat) (kf50j3 : Unit → Rz) : (List Int) × Int × Int → Rz := fun v => loopN (fun k => f50_3 F k kf50j3) F (f50_4_i v)
theorem f50_4_eq (F : Nat) (Rf50j3 : St → Rz) : ∀ v,aexec VG2250 (Af50 F) (bp Try.f50 26) (ef50j2 v) (kBlock 0 (kSeq (kc VG2250 Rf50j3 []) (kFin VG2250 none (Try.f50).results.toList))) = f50_4 F (Rf50j3 ∘ ef50j3) v :=
  loop_cut (by kernel_rfl) (by kernel_rfl) ef50j2 ef50l1 _ f50_4_i (fun k => f50_3 F k (Rf50j3 ∘ ef50j3))
    (by rintro ⟨t0,t1,t5⟩; kernel_rfl) (fun Rf50l1 => f50_3_eq F Rf50l1 Rf50j3)
def f50_5 (F : Nat) (kf50j3 : Unit → Rz) : (List Int) × Int × Int → Rz := f50_4 F kf50j3
theorem f50_5_eq (F : Nat) (Rf50j3 : St → Rz) : ∀ v,aexec VG2250 (Af50 F) (bp Try.f50 13) (ef50j2 v) (kSeq (kc VG2250 Rf50j3 []) (kFin VG2250 none (Try.f50).results.toList)) = f50_5 F (Rf50j3 ∘ ef50j3) v := fun v =>
  (block_in  (by kernel_rfl) _ _).trans (f50_4_eq F Rf50j3 v)
def f50_6 (F : Nat) (kf50j3 : Unit → Rz) : (List Int) × Int → Rz := fun v => f50_2 F (f50_5 F kf50j3) kf50j3 v
theorem f50_6_eq (F : Nat) (Rf50j3 : St → Rz) : ∀ v,aexec VG2250 (Af50 F) (bp Try.f50 6) (ef50j1 v) (kSeq (kc VG2250 Rf50j3 []) (kFin VG2250 none (Try.f50).results.toList)) = f50_6 F (Rf50j3 ∘ ef50j3) v :=
  seq_cut (by kernel_rfl) (by kernel_rfl) ef50j1 ef50j2 _ (fun k => f50_2 F k (Rf50j3 ∘ ef50j3)) (f50_5 F (Rf50j3 ∘ ef50j3))
    (fun Rf50j2 => f50_2_eq F Rf50j2 Rf50j3) (f50_5_eq F Rf50j3)
def f50_7 (F : Nat) : Unit → Rz := fun _ => (some ((.bool false),[]))
theorem f50_7_eq (F : Nat) : ∀ v,aexec VG2250 (Af50 F) (bp Try.f50 7) (ef50j3 v) (kFin VG2250 none (Try.f50).results.toList) = f50_7 F v := by
  intro _; kernel_rfl
def f50_8 (F : Nat) : (List Int) × Int → Rz := fun v => f50_6 F (f50_7 F) v
theorem f50_8_eq (F : Nat) : ∀ v,aexec VG2250 (Af50 F) (bp Try.f50 3) (ef50j1 v) (kFin VG2250 none (Try.f50).results.toList) = f50_8 F v :=
  seq_cut (by kernel_rfl) (by kernel_rfl) ef50j1 ef50j3 _ (fun k => f50_6 F k) (f50_7 F)
    (fun Rf50j3 => f50_6_eq F Rf50j3) (f50_7_eq F)
def f50_9 (F : Nat) : (List Int) × Int → Rz := fun v => f50_1 F (f50_8 F) v
theorem f50_9_eq (F : Nat) : ∀ v,aexec VG2250 (Af50 F) (sub (bodyOf Try.f50) []) (ef50_a v) (kFin VG2250 none (Try.f50).results.toList) = f50_9 F v :=
  seq_cut (by kernel_rfl) (by kernel_rfl) ef50_a ef50j1 _ (fun k => f50_1 F k) (f50_8 F)
    (fun Rf50j1 => f50_1_eq F Rf50j1) (f50_8_eq F)
def f50 (F : Nat) : (List Int) × Int → Rz := f50_9 F
theorem f50_body (F : Nat) (a0 : List Int) (a1 : Int) : abody VG2250 (Af50 F) Try.f50 [(.vs (.rI .i64 a0) 0 1),(.int .i64 a1)] [] = f50 F (a0,a1) :=
  (abody_in (c := (sub (bodyOf Try.f50) [])) (by kernel_rfl) (s := ef50_a (a0,a1)) (by kernel_rfl)).trans (f50_9_eq F (a0,a1))
def r50 : CRun := fun X H => match X,H with
  | [(.vs (.rI .i64 a0) 0 1),(.int .i64 a1)],[] => some (true,(.bool (a0.any (fun y => y == a1))),[])
  | _,_ => none
theorem s50 (a0 : List Int) (a1 : Int) (h0 : okV (.vs (.rI .i64 a0) 0 1)) (h1 : okV (.int .i64 a1)) : ∃ F,f50 F (a0,a1) = some ((.bool (a0.any (fun y => y == a1))),[]) := by
  have hlen : a0.length < 4611686018427387904 := h0.2
  refine ⟨a0.length + 1,?_⟩
  simp only [f50_1,f50_2,f50_4_i,f50_4,f50_5,f50_6,f50_7,f50_8,f50_9,f50]
  refine (loopN_scan (fun i => (a0,a1,(i : Int))) a0.length (fun i => if (a0.getD i 0 == a1) = true then some (some (AV.bool true,[])) else none) (some (AV.bool false,[])) (by rfl) (fun i hi k => ?_) (fun k => ?_) _ (by omega)).trans (Isl.scan_any (fun y => y == a1) a0 0 [])
  · simp only [f50_3,dec_and]
    rw [cond_pos (by omega),cond_pos (by omega),Int.toNat_natCast,i64w (by omega) (by omega)]
    cases (a0.getD i 0 == a1) <;> rfl
  · simp only [f50_3]
    rw [cond_neg (by omega)]
    rfl
theorem c50 : CallOk Try.prog G22 50 r50 := callOk_of (V := VG2250) mixed tys eVG2250 (f := 50) (fn := Try.f50) Try.func50 (by kernel_rfl) (c := sub (bodyOf Try.f50) []) (by kernel_rfl) (by
  intro X H r H' h hX hH
  unfold r50 at h; split at h <;> try contradiction
  · simp only [Option.some.injEq,Prod.mk.injEq] at h
    obtain ⟨hp,rfl,rfl⟩ := h
    obtain ⟨F,hF⟩ := s50 _ _ (hX _ (.head _)) (hX _ (.tail _ (.head _)))
    exact ⟨Af50 F,(f50_body F _ _).trans hF⟩)
def lVG2267 : List CEnt := [(50,[some 3,none],r50)]
def VG2267 : Env := mkEnv T22 G22 lVG2267
theorem eVG2267 : EOk Try.prog VG2267 := eok_mk (by exact ⟨c50,trivial⟩)
def Af67 (F : Nat) : Cuts := { F := F,at_ := fun n => match n with | 2016 => some sp2 | _ => none,join := fun n => match n with | 1024 => some [(0,.plain),(1,.plain)] | 2018 => some sp2 | 6003 => some [] | _ => none }
def ef67_a : (List Int) × (List Int) → St := fun (a0,a1) => { tmps := [(0,(.vs (.rI .i64 a0) 0 1)),(1,(.vs (.rI .i64 a1) 0 1))],heap := [],next := 0,nt := 18,m := 0 }
def ef67j1 : (List Int) × (List Int) → St := fun (t0,t1) => { tmps := [(0,(.vs (.rI .i64 t0) 0 1)),(1,(.vs (.rI .i64 t1) 0 1))],heap := [],next := 0,nt := 18,m := 0 }
def ef67j2 : Ty5 → St := fun (t0,t1,t5) => { tmps := [(0,(.vs (.rI .i64 t0) 0 1)),(1,(.vs (.rI .i64 t1) 0 1)),(5,(.int .i64 t5))],heap := [],next := 0,nt := 18,m := 0 }
def ef67l1 : Ty5 → St := fun (t0,t1,t5) => { tmps := [(0,(.vs (.rI .i64 t0) 0 1)),(1,(.vs (.rI .i64 t1) 0 1)),(5,(.int .i64 t5))],heap := [],next := 0,nt := 18,m := 0 }
def ef67j3 : Unit → St := fun _ => { tmps := [],heap := [],next := 0,nt := 18,m := 0 }
def f67_1 (F : Nat) (kf67j1 : (List Int) × (List Int) → Rz) : (List Int) × (List Int) → Rz := fun (a0,a1) => (kf67j1 (a0,a1))
theorem f67_1_eq (F : Nat) (Rf67j1 : St → Rz) : ∀ v,aexec VG2267 (Af67 F) (bp Try.f67 2) (ef67_a v) (kSeq (kc VG2267 Rf67j1 [(0,.plain),(1,.plain)]) (kFin VG2267 none (Try.f67).results.toList)) = f67_1 F (Rf67j1 ∘ ef67j1) v := by
  rintro ⟨a0,a1⟩; kernel_rfl
def f67_2 (F : Nat) (kf67j2 : Ty5 → Rz) (kf67j3 : Unit → Rz) : (List Int) × (List Int) → Rz := fun (t0,t1) => (kf67j2 (t0,t1,(0 : Int)))
theorem f67_2_eq (F : Nat) (Rf67j2 : St → Rz) (Rf67j3 : St → Rz) : ∀ v,aexec VG2267 (Af67 F) (bp Try.f67 12) (ef67j1 v) (kSeq (kc VG2267 Rf67j2 sp2) (kSeq (kc VG2267 Rf67j3 []) (kFin VG2267 none (Try.f67).results.toList))) = f67_2 F (Rf67j2 ∘ ef67j2) (Rf67j3 ∘ ef67j3) v := by
  rintro ⟨t0,t1⟩; kernel_rfl
def f67_3 (F : Nat) (kf67l1 : Ty5 → Rz) (kf67j3 : Unit → Rz) : Ty5 → Rz := fun (t0,t1,t5) => (cond (decide (t5 < (↑t1.length : Int))) (cond ((decide (0 ≤ t5)) && (decide (t5 < (↑t1.length : Int)))) (cond (t0.any (fun y => y == (t1.getD (Int.toNat t5) 0))) (some ((.bool true),[])) (kf67l1 (t0,t1,(IntKind.i64.wrap (t5 + (1 : Int)))))) none) (kf67j3 ()))
theorem f67_3_eq (F : Nat) (Rf67l1 : St → Rz) (Rf67j3 : St → Rz) : ∀ v,aexec VG2267 (Af67 F) (bp Try.f67 52) (ef67l1 v) (kSeq (kc VG2267 Rf67l1 sp2) (kBlock 0 (kSeq (kc VG2267 Rf67j3 []) (kFin VG2267 none (Try.f67).results.toList)))) = f67_3 F (Rf67l1 ∘ ef67l1) (Rf67j3 ∘ ef67j3) v := by
  rintro ⟨t0,t1,t5⟩; kernel_rfl
def f67_4_i : Ty5 → (List Int) × (List Int) × Int := fun (t0,t1,t5) => (t0,t1,t5)
def f67_4 (F : Nat) (kf67j3 : Unit → Rz) : Ty5 → Rz := fun v => loopN (fun k => f67_3 F k kf67j3) F (f67_4_i v)
theorem f67_4_eq (F : Nat) (Rf67j3 : St → Rz) : ∀ v,aexec VG2267 (Af67 F) (bp Try.f67 26) (ef67j2 v) (kBlock 0 (kSeq (kc VG2267 Rf67j3 []) (kFin VG2267 none (Try.f67).results.toList))) = f67_4 F (Rf67j3 ∘ ef67j3) v :=
  loop_cut (by kernel_rfl) (by kernel_rfl) ef67j2 ef67l1 _ f67_4_i (fun k => f67_3 F k (Rf67j3 ∘ ef67j3))
    (by rintro ⟨t0,t1,t5⟩; kernel_rfl) (fun Rf67l1 => f67_3_eq F Rf67l1 Rf67j3)
def f67_5 (F : Nat) (kf67j3 : Unit → Rz) : Ty5 → Rz := f67_4 F kf67j3
theorem f67_5_eq (F : Nat) (Rf67j3 : St → Rz) : ∀ v,aexec VG2267 (Af67 F) (bp Try.f67 13) (ef67j2 v) (kSeq (kc VG2267 Rf67j3 []) (kFin VG2267 none (Try.f67).results.toList)) = f67_5 F (Rf67j3 ∘ ef67j3) v := fun v =>
  (block_in  (by kernel_rfl) _ _).trans (f67_4_eq F Rf67j3 v)
def f67_6 (F : Nat) (kf67j3 : Unit → Rz) : (List Int) × (List Int) → Rz := fun v => f67_2 F (f67_5 F kf67j3) kf67j3 v
theorem f67_6_eq (F : Nat) (Rf67j3 : St → Rz) : ∀ v,aexec VG2267 (Af67 F) (bp Try.f67 6) (ef67j1 v) (kSeq (kc VG2267 Rf67j3 []) (kFin VG2267 none (Try.f67).results.toList)) = f67_6 F (Rf67j3 ∘ ef67j3) v :=
  seq_cut (by kernel_rfl) (by kernel_rfl) ef67j1 ef67j2 _ (fun k => f67_2 F k (Rf67j3 ∘ ef67j3)) (f67_5 F (Rf67j3 ∘ ef67j3))
    (fun Rf67j2 => f67_2_eq F Rf67j2 Rf67j3) (f67_5_eq F Rf67j3)
def f67_7 (F : Nat) : Unit → Rz := fun _ => (some ((.bool false),[]))
theorem f67_7_eq (F : Nat) : ∀ v,aexec VG2267 (Af67 F) (bp Try.f67 7) (ef67j3 v) (kFin VG2267 none (Try.f67).results.toList) = f67_7 F v := by
  intro _; kernel_rfl
def f67_8 (F : Nat) : (List Int) × (List Int) → Rz := fun v => f67_6 F (f67_7 F) v
theorem f67_8_eq (F : Nat) : ∀ v,aexec VG2267 (Af67 F) (bp Try.f67 3) (ef67j1 v) (kFin VG2267 none (Try.f67).results.toList) = f67_8 F v :=
  seq_cut (by kernel_rfl) (by kernel_rfl) ef67j1 ef67j3 _ (fun k => f67_6 F k) (f67_7 F)
    (fun Rf67j3 => f67_6_eq F Rf67j3) (f67_7_eq F)
def f67_9 (F : Nat) : (List Int) × (List Int) → Rz := fun v => f67_1 F (f67_8 F) v
theorem f67_9_eq (F : Nat) : ∀ v,aexec VG2267 (Af67 F) (sub (bodyOf Try.f67) []) (ef67_a v) (kFin VG2267 none (Try.f67).results.toList) = f67_9 F v :=
  seq_cut (by kernel_rfl) (by kernel_rfl) ef67_a ef67j1 _ (fun k => f67_1 F k) (f67_8 F)
    (fun Rf67j1 => f67_1_eq F Rf67j1) (f67_8_eq F)
def f67 (F : Nat) : (List Int) × (List Int) → Rz := f67_9 F
theorem f67_body (F : Nat) (a0 : List Int) (a1 : List Int) : abody VG2267 (Af67 F) Try.f67 [(.vs (.rI .i64 a0) 0 1),(.vs (.rI .i64 a1) 0 1)] [] = f67 F (a0,a1) :=
  (abody_in (c := (sub (bodyOf Try.f67) [])) (by kernel_rfl) (s := ef67_a (a0,a1)) (by kernel_rfl)).trans (f67_9_eq F (a0,a1))
def r67 : CRun := fun X H => match X,H with
  | [(.vs (.rI .i64 a0) 0 1),(.vs (.rI .i64 a1) 0 1)],[] => some (true,(.bool (Isl.meets a0 a1)),[])
  | _,_ => none
theorem s67 (a0 : List Int) (a1 : List Int) (h0 : okV (.vs (.rI .i64 a0) 0 1)) (h1 : okV (.vs (.rI .i64 a1) 0 1)) : ∃ F,f67 F (a0,a1) = some ((.bool (Isl.meets a0 a1)),[]) := by
  have hlen : a1.length < 4611686018427387904 := h1.2
  refine ⟨a1.length + 1,?_⟩
  simp only [f67_1,f67_2,f67_4_i,f67_4,f67_5,f67_6,f67_7,f67_8,f67_9,f67]
  refine (loopN_scan (fun i => (a0,a1,(i : Int))) a1.length (fun i => if (a0.any (fun y => y == a1.getD i 0)) = true then some (some (AV.bool true,[])) else none) (some (AV.bool false,[])) (by rfl) (fun i hi k => ?_) (fun k => ?_) _ (by omega)).trans (Isl.scan_any (fun x => a0.any fun y => y == x) a1 0 [])
  · simp only [f67_3,dec_and]
    rw [cond_pos (by omega),cond_pos (by omega),Int.toNat_natCast,i64w (by omega) (by omega)]
    cases (a0.any (fun y => y == a1.getD i 0)) <;> rfl
  · simp only [f67_3]
    rw [cond_neg (by omega)]
    rfl
theorem c67 : CallOk Try.prog G22 67 r67 := callOk_of (V := VG2267) mixed tys eVG2267 (f := 67) (fn := Try.f67) Try.func67 (by kernel_rfl) (c := sub (bodyOf Try.f67) []) (by kernel_rfl) (by
  intro X H r H' h hX hH
  unfold r67 at h; split at h <;> try contradiction
  · simp only [Option.some.injEq,Prod.mk.injEq] at h
    obtain ⟨hp,rfl,rfl⟩ := h
    obtain ⟨F,hF⟩ := s67 _ _ (hX _ (.head _)) (hX _ (.tail _ (.head _)))
    exact ⟨Af67 F,(f67_body F _ _).trans hF⟩)
def lVG2256 : List CEnt := [(50,[some 3,none],r50)]
def VG2256 : Env := mkEnv T22 G22 lVG2256
theorem eVG2256 : EOk Try.prog VG2256 := eok_mk (by exact ⟨c50,trivial⟩)
def Af56 (F : Nat) : Cuts := { F := F,at_ := fun n => match n with | 4008 => some sp2 | _ => none,join := fun n => match n with | 1028 => some [(0,.plain),(1,.plain)] | 3020 => some [(0,.plain),(1,.plain)] | 4018 => some sp2 | 6007 => some sp2 | _ => none,fin := (some [(4,(.view 3))]) }
def ef56_a : (List Int) × Int → St := fun (a0,a1) => { tmps := [(0,(.vs (.rI .i64 a0) 0 1)),(1,(.int .i64 a1))],heap := [],next := 0,nt := 39,m := 0 }
def ef56j1 : (List Int) × Int → St := fun (t0,t1) => { tmps := [(0,(.vs (.rI .i64 t0) 0 1)),(1,(.int .i64 t1))],heap := [],next := 0,nt := 39,m := 0 }
def ef56j2 : (List Int) × Int → St := fun (t0,t1) => { tmps := [(0,(.vs (.rI .i64 t0) 0 1)),(1,(.int .i64 t1))],heap := [],next := 0,nt := 39,m := 0 }
def ef56j3 : (List Int) × Int × Int → St := fun (t0,t1,t5) => { tmps := [(0,(.vs (.rI .i64 t0) 0 1)),(1,(.int .i64 t1)),(5,(.int .i64 t5))],heap := [],next := 0,nt := 39,m := 0 }
def ef56l1 : (List Int) × Int × Int → St := fun (t0,t1,t5) => { tmps := [(0,(.vs (.rI .i64 t0) 0 1)),(1,(.int .i64 t1)),(5,(.int .i64 t5))],heap := [],next := 0,nt := 39,m := 0 }
def ef56j4 : (List Int) × Int × Int → St := fun (t0,t1,t5) => { tmps := [(0,(.vs (.rI .i64 t0) 0 1)),(1,(.int .i64 t1)),(5,(.int .i64 t5))],heap := [],next := 0,nt := 39,m := 0 }
def f56_1 (F : Nat) (kf56j1 : (List Int) × Int → Rz) : (List Int) × Int → Rz := fun (a0,a1) => (kf56j1 (a0,a1))
theorem f56_1_eq (F : Nat) (Rf56j1 : St → Rz) : ∀ v,aexec VG2256 (Af56 F) (bp Try.f56 2) (ef56_a v) (kSeq (kc VG2256 Rf56j1 [(0,.plain),(1,.plain)]) (kFin VG2256 (some [(4,(.view 3))]) (Try.f56).results.toList)) = f56_1 F (Rf56j1 ∘ ef56j1) v := by
  rintro ⟨a0,a1⟩; kernel_rfl
def f56_2 (F : Nat) (kf56j2 : (List Int) × Int → Rz) : (List Int) × Int → Rz := fun (t0,t1) => (cond (t0.any (fun y => y == t1)) (some ((.vs (.rI .i64 t0) 0 1),[])) (kf56j2 (t0,t1)))
theorem f56_2_eq (F : Nat) (Rf56j2 : St → Rz) : ∀ v,aexec VG2256 (Af56 F) (bp Try.f56 6) (ef56j1 v) (kSeq (kc VG2256 Rf56j2 [(0,.plain),(1,.plain)]) (kFin VG2256 (some [(4,(.view 3))]) (Try.f56).results.toList)) = f56_2 F (Rf56j2 ∘ ef56j2) v := by
  rintro ⟨t0,t1⟩; kernel_rfl
def f56_3 (F : Nat) (kf56j3 : (List Int) × Int × Int → Rz) : (List Int) × Int → Rz := fun (t0,t1) => (kf56j3 (t0,t1,(↑t0.length : Int)))
theorem f56_3_eq (F : Nat) (Rf56j3 : St → Rz) : ∀ v,aexec VG2256 (Af56 F) (bp Try.f56 14) (ef56j2 v) (kSeq (kc VG2256 Rf56j3 sp2) (kFin VG2256 (some [(4,(.view 3))]) (Try.f56).results.toList)) = f56_3 F (Rf56j3 ∘ ef56j3) v := by
  rintro ⟨t0,t1⟩; kernel_rfl
def f56_4 (F : Nat) (kf56l1 : (List Int) × Int × Int → Rz) (kf56j4 : (List Int) × Int × Int → Rz) : (List Int) × Int × Int → Rz := fun (t0,t1,t5) => (cond (decide (t5 > (0 : Int))) (cond ((decide (0 ≤ (IntKind.i64.wrap (t5 - (1 : Int))))) && (decide ((IntKind.i64.wrap (t5 - (1 : Int))) < (↑t0.length : Int)))) (cond (decide ((t0.getD (Int.toNat (IntKind.i64.wrap (t5 - (1 : Int)))) 0) > t1)) (kf56l1 (t0,t1,(IntKind.i64.wrap (t5 - (1 : Int))))) (kf56j4 (t0,t1,t5))) none) (kf56j4 (t0,t1,t5)))
theorem f56_4_eq (F : Nat) (Rf56l1 : St → Rz) (Rf56j4 : St → Rz) : ∀ v,aexec VG2256 (Af56 F) (bp Try.f56 120) (ef56l1 v) (kSeq (kc VG2256 Rf56l1 sp2) (kBlock 0 (kSeq (kc VG2256 Rf56j4 sp2) (kFin VG2256 (some [(4,(.view 3))]) (Try.f56).results.toList)))) = f56_4 F (Rf56l1 ∘ ef56l1) (Rf56j4 ∘ ef56j4) v := by
  rintro ⟨t0,t1,t5⟩; kernel_rfl
def f56_5_i : (List Int) × Int × Int → (List Int) × Int × Int := fun (t0,t1,t5) => (t0,t1,t5)
def f56_5 (F : Nat) (kf56j4 : (List Int) × Int × Int → Rz) : (List Int) × Int × Int → Rz := fun v => loopN (fun k => f56_4 F k kf56j4) F (f56_5_i v)
theorem f56_5_eq (F : Nat) (Rf56j4 : St → Rz) : ∀ v,aexec VG2256 (Af56 F) (bp Try.f56 60) (ef56j3 v) (kBlock 0 (kSeq (kc VG2256 Rf56j4 sp2) (kFin VG2256 (some [(4,(.view 3))]) (Try.f56).results.toList))) = f56_5 F (Rf56j4 ∘ ef56j4) v :=
  loop_cut (by kernel_rfl) (by kernel_rfl) ef56j3 ef56l1 _ f56_5_i (fun k => f56_4 F k (Rf56j4 ∘ ef56j4))
    (by rintro ⟨t0,t1,t5⟩; kernel_rfl) (fun Rf56l1 => f56_4_eq F Rf56l1 Rf56j4)
def f56_6 (F : Nat) (kf56j4 : (List Int) × Int × Int → Rz) : (List Int) × Int × Int → Rz := f56_5 F kf56j4
theorem f56_6_eq (F : Nat) (Rf56j4 : St → Rz) : ∀ v,aexec VG2256 (Af56 F) (bp Try.f56 30) (ef56j3 v) (kSeq (kc VG2256 Rf56j4 sp2) (kFin VG2256 (some [(4,(.view 3))]) (Try.f56).results.toList)) = f56_6 F (Rf56j4 ∘ ef56j4) v := fun v =>
  (block_in  (by kernel_rfl) _ _).trans (f56_5_eq F Rf56j4 v)
def f56_7 (F : Nat) : (List Int) × Int × Int → Rz := fun (t0,t1,t5) => (cond ((decide ((0 : Int) ≤ t5)) && (decide (t5 ≤ (↑t0.length : Int)))) (cond (decide ((t0.take (Int.toNat t5)).length < 1073741824)) (cond (decide ((([] ++ (t0.take (Int.toNat t5))).length + 1) < 1073741824)) (cond (((decide (0 ≤ t5)) && (decide (t5 ≤ (↑t0.length : Int)))) && (decide ((↑t0.length : Int) ≤ (↑t0.length : Int)))) (cond (decide (((([] ++ (t0.take (Int.toNat t5))) ++ [t1]).length + ((t0.drop (Int.toNat t5)).take (t0.length - (Int.toNat t5))).length) < 1073741824)) (some ((.vs (.rI .i64 ((([] ++ (t0.take (Int.toNat t5))) ++ [t1]) ++ ((t0.drop (Int.toNat t5)).take (t0.length - (Int.toNat t5))))) 0 1),[])) none) none) none) none) none)
theorem f56_7_eq (F : Nat) : ∀ v,aexec VG2256 (Af56 F) (bp Try.f56 31) (ef56j4 v) (kFin VG2256 (some [(4,(.view 3))]) (Try.f56).results.toList) = f56_7 F v := by
  rintro ⟨t0,t1,t5⟩; kernel_rfl
def f56_8 (F : Nat) : (List Int) × Int × Int → Rz := fun v => f56_6 F (f56_7 F) v
theorem f56_8_eq (F : Nat) : ∀ v,aexec VG2256 (Af56 F) (bp Try.f56 15) (ef56j3 v) (kFin VG2256 (some [(4,(.view 3))]) (Try.f56).results.toList) = f56_8 F v :=
  seq_cut (by kernel_rfl) (by kernel_rfl) ef56j3 ef56j4 _ (fun k => f56_6 F k) (f56_7 F)
    (fun Rf56j4 => f56_6_eq F Rf56j4) (f56_7_eq F)
def f56_9 (F : Nat) : (List Int) × Int → Rz := fun v => f56_3 F (f56_8 F) v
theorem f56_9_eq (F : Nat) : ∀ v,aexec VG2256 (Af56 F) (bp Try.f56 7) (ef56j2 v) (kFin VG2256 (some [(4,(.view 3))]) (Try.f56).results.toList) = f56_9 F v :=
  seq_cut (by kernel_rfl) (by kernel_rfl) ef56j2 ef56j3 _ (fun k => f56_3 F k) (f56_8 F)
    (fun Rf56j3 => f56_3_eq F Rf56j3) (f56_8_eq F)
def f56_10 (F : Nat) : (List Int) × Int → Rz := fun v => f56_2 F (f56_9 F) v
theorem f56_10_eq (F : Nat) : ∀ v,aexec VG2256 (Af56 F) (bp Try.f56 3) (ef56j1 v) (kFin VG2256 (some [(4,(.view 3))]) (Try.f56).results.toList) = f56_10 F v :=
  seq_cut (by kernel_rfl) (by kernel_rfl) ef56j1 ef56j2 _ (fun k => f56_2 F k) (f56_9 F)
    (fun Rf56j2 => f56_2_eq F Rf56j2) (f56_9_eq F)
def f56_11 (F : Nat) : (List Int) × Int → Rz := fun v => f56_1 F (f56_10 F) v
theorem f56_11_eq (F : Nat) : ∀ v,aexec VG2256 (Af56 F) (sub (bodyOf Try.f56) []) (ef56_a v) (kFin VG2256 (some [(4,(.view 3))]) (Try.f56).results.toList) = f56_11 F v :=
  seq_cut (by kernel_rfl) (by kernel_rfl) ef56_a ef56j1 _ (fun k => f56_1 F k) (f56_10 F)
    (fun Rf56j1 => f56_1_eq F Rf56j1) (f56_10_eq F)
def f56 (F : Nat) : (List Int) × Int → Rz := f56_11 F
theorem f56_body (F : Nat) (a0 : List Int) (a1 : Int) : abody VG2256 (Af56 F) Try.f56 [(.vs (.rI .i64 a0) 0 1),(.int .i64 a1)] [] = f56 F (a0,a1) :=
  (abody_in (c := (sub (bodyOf Try.f56) [])) (by kernel_rfl) (s := ef56_a (a0,a1)) (by kernel_rfl)).trans (f56_11_eq F (a0,a1))
def r56 : CRun := fun X H => match X,H with
  | [(.vs (.rI .i64 a0) 0 1),(.int .i64 a1)],[] => some ((decide (a0.length < 1073741000)),(.vs (.rI .i64 (Isl.ins a0 a1)) 0 1),[])
  | _,_ => none
theorem s56 (a0 : List Int) (a1 : Int) (hp : ((decide (a0.length < 1073741000))) = true) (h0 : okV (.vs (.rI .i64 a0) 0 1)) (h1 : okV (.int .i64 a1)) : ∃ F,f56 F (a0,a1) = some ((.vs (.rI .i64 (Isl.ins a0 a1)) 0 1),[]) := by
  simp only [decide_eq_true_eq] at hp
  have hlen : a0.length < 4611686018427387904 := h0.2
  obtain ⟨F,hF⟩ : ∃ F,F = a0.length + 1 := ⟨_,rfl⟩
  refine ⟨F,?_⟩
  simp only [f56_1,f56_2,f56_3,f56_5_i,f56_5,f56_6,f56_7,f56_8,f56_9,f56_10,f56_11,f56]
  unfold Isl.ins
  cases hh : a0.any (fun y => y == a1) with
  | true => rfl
  | false =>
    simp only [cond_false,Bool.false_eq_true,if_false]
    refine loopN_ind (fun m s => ∃ k : Nat,s = (a0,a1,(k : Int)) ∧ k ≤ a0.length ∧ k ≤ m ∧ Isl.pos a0 a1 k = Isl.pos a0 a1 a0.length) ?_ _ a0.length _ (by omega) ⟨a0.length,rfl,Nat.le_refl _,Nat.le_refl _,rfl⟩
    rintro m s k ⟨q,rfl,hq,hm,hpos⟩ hk
    have fin : Isl.pos a0 a1 q = q → f56_7 F (a0,a1,(q : Int)) = some ((.vs (.rI .i64 (a0.take (Isl.pos a0 a1 a0.length) ++ [a1] ++ a0.drop (Isl.pos a0 a1 a0.length))) 0 1),[]) := fun hq' => by
      simp only [f56_7,dec_and,List.nil_append,Int.toNat_natCast]
      rw [← hpos,hq']
      have e : (a0.drop q).take (a0.length - q) = a0.drop q := List.take_of_length_le (by simp)
      simp only [e]
      rw [cond_pos (by omega),cond_pos (by simp; omega),cond_pos (by simp; omega),cond_pos (by omega),cond_pos (by simp; omega)]
    simp only [f56_4,dec_and]
    cases q with
    | zero =>
      rw [cond_neg (by omega)]
      exact fin rfl
    | succ q =>
      rw [cond_pos (by omega),i64w (by omega) (by omega),show ((q + 1 : Nat) : Int) - 1 = (q : Int) by omega,cond_pos (by omega),Int.toNat_natCast]
      by_cases h : a0.getD q 0 > a1
      · rw [cond_pos h]
        refine hk (m - 1) _ (by omega) ⟨q,rfl,by omega,by omega,?_⟩
        rw [← hpos]; simp only [Isl.pos]; rw [if_pos h]
      · rw [cond_neg h]
        exact fin (by simp only [Isl.pos]; rw [if_neg h])
theorem c56 : CallOk Try.prog G22 56 r56 := callOk_of (V := VG2256) mixed tys eVG2256 (f := 56) (fn := Try.f56) Try.func56 (by kernel_rfl) (c := sub (bodyOf Try.f56) []) (by kernel_rfl) (by
  intro X H r H' h hX hH
  unfold r56 at h; split at h <;> try contradiction
  · simp only [Option.some.injEq,Prod.mk.injEq] at h
    obtain ⟨hp,rfl,rfl⟩ := h
    obtain ⟨F,hF⟩ := s56 _ _ hp (hX _ (.head _)) (hX _ (.tail _ (.head _)))
    exact ⟨Af56 F,(f56_body F _ _).trans hF⟩)
end Go.Am
