/- Part of a proof about the functions of the given program. -/
import Derived.Test.YtcafjaenmbhlnaaAmIsl
import Derived.Test.YtcafjaenmbhlnaaProg
set_option linter.unusedVariables false
set_option linter.unusedSimpArgs false
namespace Go.Am
open Go Go.Proofs
abbrev sp0 : List (Nat × Md) := [(0,.plain),(1,.plain),(5,.own 22),(6,.plain)]
abbrev sp1 : List (Nat × Md) := [(0,.plain),(1,.plain),(5,.plain),(6,.plain),(7,.own 2),(8,.plain)]
abbrev sp2 : List (Nat × Md) := [(0,.plain),(1,.plain),(5,.plain)]
abbrev sp3 : List (Nat × Md) := [(0,.plain),(1,.plain),(5,.plain),(6,.plain)]
abbrev sp4 : List (Nat × Md) := [(0,.plain),(1,.plain),(5,.plain),(6,.plain),(7,.plain)]
abbrev sp5 : List (Nat × Md) := [(0,.plain),(1,.plain),(5,.plain),(6,.plain),(7,.plain),(8,.plain)]
abbrev sp7 : List (Nat × Md) := [(0,.plain),(3,.plain),(4,.plain)]
abbrev Ty0 := (List Int) × Int × Int × (List (List Int))
abbrev Ty1 := (List Int) × Int × Int × Int × (List (List Int))
abbrev Ty2 := (List Int) × Int × Int × Int × (List (List Int)) × (List Int)
abbrev Ty3 := (List Int) × Int × Int × (List (List Int)) × (List Int)
abbrev Ty4 := (List (List Int)) × Int × (List (List Int))
abbrev Ty5 := (List Int) × (List Int) × Int
abbrev Ty6 := (List (List Int)) × (List (List Int))
abbrev Ty7 := (List (List Int)) × (List (List Int)) × Int
def T22 : Tys := [⟨.other,1,0⟩,⟨.func,1,8⟩,⟨.int .i64,1,8⟩,⟨.int .i64,1,8⟩,⟨.bool,1,1⟩,⟨.int .u8,1,1⟩,⟨.int .u8,1,1⟩,⟨.struct [(2,0),(3,1),(4,2),(6,3)],4,24⟩,⟨.struct [(2,0),(3,1),(4,2),(6,3)],4,24⟩,⟨.str,1,16⟩,⟨.str,1,16⟩,⟨.str,1,16⟩,⟨.int .u64,1,8⟩,⟨.other,0,0⟩,⟨.other,0,0⟩,⟨.ptr 110,1,8⟩,⟨.ptr 113,1,8⟩,⟨.ptr 122,1,8⟩,⟨.other,0,0⟩,⟨.other,0,0⟩,⟨.other,1,16⟩,⟨.int .i32,1,4⟩,⟨.slice 3,1,24⟩,⟨.slice 22,1,24⟩,⟨.func,1,8⟩,⟨.func,1,8⟩,⟨.func,1,8⟩,⟨.func,1,8⟩,⟨.slice 23,1,24⟩,⟨.func,1,8⟩,⟨.func,1,8⟩,⟨.func,1,8⟩,⟨.func,1,8⟩,⟨.func,1,8⟩,⟨.func,1,8⟩,⟨.func,1,8⟩,⟨.func,1,8⟩,⟨.func,1,8⟩,⟨.func,1,8⟩,⟨.func,1,8⟩,⟨.func,1,8⟩,⟨.func,1,8⟩,⟨.slice 55,1,24⟩,⟨.func,1,8⟩,⟨.func,1,8⟩,⟨.slice 42,1,24⟩,⟨.func,1,8⟩,⟨.func,1,8⟩,⟨.func,1,8⟩,⟨.struct [(4,0),(22,1)],2,32⟩,⟨.struct [(4,0),(22,1)],2,32⟩,⟨.struct [(50,0),(50,2)],4,64⟩,⟨.struct [(50,0),(50,2)],4,64⟩,⟨.slice 67,1,24⟩,⟨.struct [(3,0),(3,1),(3,2),(3,3),(52,4),(53,8),(53,9),(52,10),(52,14)],18,272⟩,⟨.struct [(3,0),(3,1),(3,2),(3,3),(52,4),(53,8),(53,9),(52,10),(52,14)],18,272⟩,⟨.func,1,8⟩,⟨.func,1,8⟩,⟨.func,1,8⟩,⟨.func,1,8⟩,⟨.func,1,8⟩,⟨.func,1,8⟩,⟨.func,1,8⟩,⟨.func,1,8⟩,⟨.func,1,8⟩,⟨.int .u64,1,8⟩,⟨.struct [(3,0),(52,1)],5,72⟩,⟨.struct [(3,0),(52,1)],5,72⟩,⟨.func,1,8⟩,⟨.func,1,8⟩,⟨.func,1,8⟩,⟨.func,1,8⟩,⟨.map 3 3,1,8⟩,⟨.func,1,8⟩,⟨.other,1,0⟩,⟨.map 3 22,1,8⟩,⟨.func,1,8⟩,⟨.func,1,8⟩,⟨.func,1,8⟩,⟨.func,1,8⟩,⟨.func,1,8⟩,⟨.func,1,8⟩,⟨.func,1,8⟩,⟨.slice 53,1,24⟩,⟨.func,1,8⟩,⟨.func,1,8⟩,⟨.func,1,8⟩,⟨.func,1,8⟩,⟨.int .i64,1,8⟩,⟨.other,1,0⟩,⟨.func,1,8⟩,⟨.func,1,8⟩,⟨.func,1,8⟩,⟨.func,1,8⟩,⟨.func,1,8⟩,⟨.int .u32,1,4⟩,⟨.func,1,8⟩,⟨.int .u64,1,8⟩,⟨.func,1,8⟩,⟨.int .u64,1,8⟩,⟨.func,1,8⟩,⟨.func,1,8⟩,⟨.func,1,8⟩,⟨.ptr 3,1,8⟩,⟨.func,1,8⟩,⟨.ptr 99,1,8⟩,⟨.other,1,0⟩,⟨.func,1,8⟩,⟨.func,1,8⟩,⟨.other,0,0⟩,⟨.other,0,0⟩,⟨.arr 0 16,0,0⟩,⟨.other,0,0⟩,⟨.other,0,0⟩,⟨.func,1,8⟩,⟨.int .u8,1,1⟩,⟨.int .u8,1,1⟩,⟨.func,1,8⟩,⟨.ptr 5,1,8⟩,⟨.int .i32,1,4⟩,⟨.int .i32,1,4⟩,⟨.other,0,0⟩,⟨.other,0,0⟩,⟨.other,1,8⟩]
def G22 : Nat → Option AV := fun _ => none
theorem mixed : Try.prog.follows .mixedOrders = true := by kernel_rfl
theorem tys : TysOk Try.prog T22 := tysB_ok (by kernel_rfl)
def lVG2210 : List CEnt := []
def VG2210 : Env := mkEnv T22 G22 lVG2210
theorem eVG2210 : EOk Try.prog VG2210 := eok_mk (by exact trivial)
def Af10 (F : Nat) : Cuts := { F := F,at_ := fun _ => none,join := fun _ => none }
def ef10_a : Int × Int → St := fun (a0,a1) => { tmps := [(0,(.int .i64 a0)),(1,(.int .i64 a1))],heap := [],next := 0,nt := 13,m := 0 }
def f10_1 (F : Nat) : Int × Int → Rz := fun (a0,a1) => (cond (decide (a0 < (0 : Int))) (cond (!(a1 == 0)) (some ((.int .i64 (Int.tmod (IntKind.i64.wrap (0 - (IntKind.i64.wrap (a0 + (1 : Int))))) a1)),[])) none) (cond (!(a1 == 0)) (some ((.int .i64 (Int.tmod a0 a1)),[])) none))
theorem f10_1_eq (F : Nat) : ∀ v,aexec VG2210 (Af10 F) (sub (bodyOf Try.f10) []) (ef10_a v) (kFin VG2210 none (Try.f10).results.toList) = f10_1 F v := by
  rintro ⟨a0,a1⟩; kernel_rfl
def f10 (F : Nat) : Int × Int → Rz := f10_1 F
theorem f10_body (F : Nat) (a0 : Int) (a1 : Int) : abody VG2210 (Af10 F) Try.f10 [(.int .i64 a0),(.int .i64 a1)] [] = f10 F (a0,a1) :=
  (abody_in (c := (sub (bodyOf Try.f10) [])) (by kernel_rfl) (s := ef10_a (a0,a1)) (by kernel_rfl)).trans (f10_1_eq F (a0,a1))
def r10 : CRun := fun X H => match X,H with
  | [(.int .i64 a0),(.int .i64 a1)],[] => some ((decide (0 < a1)),(.int .i64 (Reg.around a0 a1)),[])
  | _,_ => none
theorem s10 (a0 : Int) (a1 : Int) (hp : ((decide (0 < a1))) = true) (h0 : okV (.int .i64 a0)) (h1 : okV (.int .i64 a1)) : ∃ F,f10 F (a0,a1) = some ((.int .i64 (Reg.around a0 a1)),[]) := by
  have hm : 0 < a1 := of_decide_eq_true hp
  have hn : -9223372036854775808 ≤ a0 ∧ a0 ≤ 9223372036854775807 := h0
  refine ⟨0,?_⟩
  simp only [f10,f10_1,int_beq,dec_not,Reg.around]
  by_cases h : a0 < 0
  · rw [cond_pos h,cond_pos (by omega),i64w (x := a0 + 1) (by omega) (by omega),i64w (by omega) (by omega),if_pos h,Int.zero_sub]
  · rw [cond_neg h,cond_pos (by omega),if_neg h]
theorem c10 : CallOk Try.prog G22 10 r10 := callOk_of (V := VG2210) mixed tys eVG2210 (f := 10) (fn := Try.f10) Try.func10 (by kernel_rfl) (c := sub (bodyOf Try.f10) []) (by kernel_rfl) (by
  intro X H r H' h hX hH
  unfold r10 at h; split at h <;> try contradiction
  · simp only [Option.some.injEq,Prod.mk.injEq] at h
    obtain ⟨hp,rfl,rfl⟩ := h
    obtain ⟨F,hF⟩ := s10 _ _ hp (hX _ (.head _)) (hX _ (.tail _ (.head _)))
    exact ⟨Af10 F,(f10_body F _ _).trans hF⟩)
def lVG2235 : List CEnt := [(10,[none,none],r10)]
def VG2235 : Env := mkEnv T22 G22 lVG2235
theorem eVG2235 : EOk Try.prog VG2235 := eok_mk (by exact ⟨c10,trivial⟩)
def Af35 (F : Nat) : Cuts := { F := F,at_ := fun _ => none,join := fun _ => none }
def ef35_a : (List Int) × Int × Int → St := fun (a0,a1,a2) => { tmps := [(0,(.vs (.rI .i64 a0) 0 1)),(1,(.int .i64 a1)),(2,(.int .i64 a2))],heap := [],next := 0,nt := 21,m := 0 }
def f35_1 (F : Nat) : (List Int) × Int × Int → Rz := fun (a0,a1,a2) => (cond (decide (a1 < (0 : Int))) (some ((.int .i64 (0 : Int)),[])) (cond (decide (a1 ≥ (↑a0.length : Int))) (some ((.int .i64 (0 : Int)),[])) (cond ((decide (0 ≤ a1)) && (decide (a1 < (↑a0.length : Int)))) (cond (decide (0 < a2)) (some ((.int .i64 (Reg.around (a0.getD (Int.toNat a1) 0) a2)),[])) none) none)))
theorem f35_1_eq (F : Nat) : ∀ v,aexec VG2235 (Af35 F) (sub (bodyOf Try.f35) []) (ef35_a v) (kFin VG2235 none (Try.f35).results.toList) = f35_1 F v := by
  rintro ⟨a0,a1,a2⟩; kernel_rfl
def f35 (F : Nat) : (List Int) × Int × Int → Rz := f35_1 F
theorem f35_body (F : Nat) (a0 : List Int) (a1 : Int) (a2 : Int) : abody VG2235 (Af35 F) Try.f35 [(.vs (.rI .i64 a0) 0 1),(.int .i64 a1),(.int .i64 a2)] [] = f35 F (a0,a1,a2) :=
  (abody_in (c := (sub (bodyOf Try.f35) [])) (by kernel_rfl) (s := ef35_a (a0,a1,a2)) (by kernel_rfl)).trans (f35_1_eq F (a0,a1,a2))
def r35 : CRun := fun X H => match X,H with
  | [(.vs (.rI .i64 a0) 0 1),(.int .i64 a1),(.int .i64 a2)],[] => some ((decide (0 < a2)),(.int .i64 (Reg.at_ a0 a1 a2)),[])
  | _,_ => none
theorem s35 (a0 : List Int) (a1 : Int) (a2 : Int) (hp : ((decide (0 < a2))) = true) (h0 : okV (.vs (.rI .i64 a0) 0 1)) (h1 : okV (.int .i64 a1)) (h2 : okV (.int .i64 a2)) : ∃ F,f35 F (a0,a1,a2) = some ((.int .i64 (Reg.at_ a0 a1 a2)),[]) := by
  refine ⟨0,?_⟩
  simp only [f35,f35_1,hp,cond_true,Reg.at_,dec_and]
  by_cases h : a1 < 0
  · rw [cond_pos h,if_pos (.inl h)]
  · rw [cond_neg h]
    by_cases h' : a1 ≥ (a0.length : Int)
    · rw [cond_pos h',if_pos (.inr h')]
    · rw [cond_neg h',cond_pos (by omega),if_neg (by omega)]
theorem c35 : CallOk Try.prog G22 35 r35 := callOk_of (V := VG2235) mixed tys eVG2235 (f := 35) (fn := Try.f35) Try.func35 (by kernel_rfl) (c := sub (bodyOf Try.f35) []) (by kernel_rfl) (by
  intro X H r H' h hX hH
  unfold r35 at h; split at h <;> try contradiction
  · simp only [Option.some.injEq,Prod.mk.injEq] at h
    obtain ⟨hp,rfl,rfl⟩ := h
    obtain ⟨F,hF⟩ := s35 _ _ _ hp (hX _ (.head _)) (hX _ (.tail _ (.head _))) (hX _ (.tail _ (.tail _ (.head _))))
    exact ⟨Af35 F,(f35_body F _ _ _).trans hF⟩)
def lVG2211 : List CEnt := [(35,[some 3,none,none],r35)]
def VG2211 : Env := mkEnv T22 G22 lVG2211
theorem eVG2211 : EOk Try.prog VG2211 := eok_mk (by exact ⟨c35,trivial⟩)
def Af11 (F : Nat) : Cuts := { F := F,at_ := fun n => match n with | 3035 => some sp0 | 7018 => some sp1 | _ => none,join := fun n => match n with | 1045 => some [(0,.plain),(1,.plain)] | 2043 => some sp2 | 3037 => some sp3 | 4001 => some sp3 | 5029 => some sp3 | 6024 => some sp4 | 7020 => some sp5 | 13001 => some sp4 | 14003 => some [(5,.plain)] | _ => none,fin := (some [(4,(.own 22))]) }
def ef11_a : (List Int) × Int → St := fun (a0,a1) => { tmps := [(0,(.vs (.rI .i64 a0) 0 1)),(1,(.int .i64 a1))],heap := [],next := 0,nt := 51,m := 0 }
def ef11j1 : (List Int) × Int → St := fun (t0,t1) => { tmps := [(0,(.vs (.rI .i64 t0) 0 1)),(1,(.int .i64 t1))],heap := [],next := 0,nt := 51,m := 0 }
def ef11j2 : (List Int) × Int → St := fun (t0,t1) => { tmps := [(0,(.vs (.rI .i64 t0) 0 1)),(1,(.int .i64 t1)),(5,.ns)],heap := [],next := 0,nt := 51,m := 0 }
def ef11j3 : (List Int) × Int × Int → St := fun (t0,t1,t6) => { tmps := [(0,(.vs (.rI .i64 t0) 0 1)),(1,(.int .i64 t1)),(5,.ns),(6,(.int .i64 t6))],heap := [],next := 0,nt := 51,m := 0 }
def ef11l1 : Ty0 → St := fun (t0,t1,t6,x4) => { tmps := [(0,(.vs (.rI .i64 t0) 0 1)),(1,(.int .i64 t1)),(5,(.own 0 0 1)),(6,(.int .i64 t6))],heap := [(0,(.cells x4.length (.rL .i64 x4) true))],next := 1,nt := 51,m := 0 }
def ef11j4 : Ty0 → St := fun (t0,t1,t6,x4) => { tmps := [(0,(.vs (.rI .i64 t0) 0 1)),(1,(.int .i64 t1)),(5,(.own 0 0 1)),(6,(.int .i64 t6))],heap := [(0,(.cells x4.length (.rL .i64 x4) true))],next := 1,nt := 51,m := 0 }
def ef11j5 : Ty0 → St := fun (t0,t1,t6,x4) => { tmps := [(0,(.vs (.rI .i64 t0) 0 1)),(1,(.int .i64 t1)),(5,(.own 0 0 1)),(6,(.int .i64 t6)),(7,.ns)],heap := [(0,(.cells x4.length (.rL .i64 x4) true))],next := 1,nt := 51,m := 0 }
def ef11j6 : Ty1 → St := fun (t0,t1,t6,t8,x5) => { tmps := [(0,(.vs (.rI .i64 t0) 0 1)),(1,(.int .i64 t1)),(5,(.own 0 0 1)),(6,(.int .i64 t6)),(7,.ns),(8,(.int .i64 t8))],heap := [(0,(.cells x5.length (.rL .i64 x5) true))],next := 1,nt := 51,m := 0 }
def ef11l2 : Ty2 → St := fun (t0,t1,t6,t8,x5,x6) => { tmps := [(0,(.vs (.rI .i64 t0) 0 1)),(1,(.int .i64 t1)),(5,(.own 0 0 1)),(6,(.int .i64 t6)),(7,(.own 1 0 1)),(8,(.int .i64 t8))],heap := [(0,(.cells x5.length (.rL .i64 x5) true)),(1,(.cells x6.length (.rI .i64 x6) true))],next := 2,nt := 51,m := 0 }
def ef11j7 : Ty3 → St := fun (t0,t1,t6,x4,x5) => { tmps := [(0,(.vs (.rI .i64 t0) 0 1)),(1,(.int .i64 t1)),(5,(.own 0 0 1)),(6,(.int .i64 t6)),(7,(.own 1 0 1))],heap := [(0,(.cells x4.length (.rL .i64 x4) true)),(1,(.cells x5.length (.rI .i64 x5) true))],next := 2,nt := 51,m := 0 }
def ef11j8 : Ty0 → St := fun (t0,t1,t6,x4) => { tmps := [(0,(.vs (.rI .i64 t0) 0 1)),(1,(.int .i64 t1)),(5,(.own 0 0 1)),(6,(.int .i64 t6))],heap := [(0,(.cells x4.length (.rL .i64 x4) true))],next := 1,nt := 51,m := 0 }
def ef11j9 : (List (List Int)) → St := fun x1 => { tmps := [(5,(.own 0 0 1))],heap := [(0,(.cells x1.length (.rL .i64 x1) true))],next := 1,nt := 51,m := 0 }
def f11_1 (F : Nat) (kf11j1 : (List Int) × Int → Rz) : (List Int) × Int → Rz := fun (a0,a1) => (kf11j1 (a0,a1))
theorem f11_1_eq (F : Nat) (Rf11j1 : St → Rz) : ∀ v,aexec VG2211 (Af11 F) (bp Try.f11 2) (ef11_a v) (kSeq (kc VG2211 Rf11j1 [(0,.plain),(1,.plain)]) (kFin VG2211 (some [(4,(.own 22))]) (Try.f11).results.toList)) = f11_1 F (Rf11j1 ∘ ef11j1) v := by
  rintro ⟨a0,a1⟩; kernel_rfl
def f11_2 (F : Nat) (kf11j2 : (List Int) × Int → Rz) : (List Int) × Int → Rz := fun (t0,t1) => (kf11j2 (t0,t1))
theorem f11_2_eq (F : Nat) (Rf11j2 : St → Rz) : ∀ v,aexec VG2211 (Af11 F) (bp Try.f11 6) (ef11j1 v) (kSeq (kc VG2211 Rf11j2 sp2) (kFin VG2211 (some [(4,(.own 22))]) (Try.f11).results.toList)) = f11_2 F (Rf11j2 ∘ ef11j2) v := by
  rintro ⟨t0,t1⟩; kernel_rfl
def f11_3 (F : Nat) (kf11j3 : (List Int) × Int × Int → Rz) (kf11j9 : (List (List Int)) → Rz) : (List Int) × Int → Rz := fun (t0,t1) => (kf11j3 (t0,t1,(0 : Int)))
theorem f11_3_eq (F : Nat) (Rf11j3 : St → Rz) (Rf11j9 : St → Rz) : ∀ v,aexec VG2211 (Af11 F) (bp Try.f11 28) (ef11j2 v) (kSeq (kc VG2211 Rf11j3 sp3) (kSeq (kc VG2211 Rf11j9 [(5,.plain)]) (kFin VG2211 (some [(4,(.own 22))]) (Try.f11).results.toList))) = f11_3 F (Rf11j3 ∘ ef11j3) (Rf11j9 ∘ ef11j9) v := by
  rintro ⟨t0,t1⟩; kernel_rfl
def f11_4 (F : Nat) (kf11j4 : Ty0 → Rz) (kf11l1 : Ty0 → Rz) (kf11j9 : (List (List Int)) → Rz) : Ty0 → Rz := fun (t0,t1,t6,x4) => (cond (decide ((IntKind.i64.wrap ((4 : Int) * t6)) < (↑t0.length : Int))) (cond (decide (t6 < (10 : Int))) (kf11j4 (t0,t1,t6,x4)) (kf11j9 x4)) (kf11j9 x4))
theorem f11_4_eq (F : Nat) (Rf11j4 : St → Rz) (Rf11l1 : St → Rz) (Rf11j9 : St → Rz) : ∀ v,aexec VG2211 (Af11 F) (bp Try.f11 232) (ef11l1 v) (kSeq (kc VG2211 Rf11j4 sp3) (kSeq (kc VG2211 Rf11l1 sp0) (kBlock 0 (kSeq (kc VG2211 Rf11j9 [(5,.plain)]) (kFin VG2211 (some [(4,(.own 22))]) (Try.f11).results.toList))))) = f11_4 F (Rf11j4 ∘ ef11j4) (Rf11l1 ∘ ef11l1) (Rf11j9 ∘ ef11j9) v := by
  rintro ⟨t0,t1,t6,x4⟩; kernel_rfl
def f11_5 (F : Nat) (kf11j5 : Ty0 → Rz) (kf11j8 : Ty0 → Rz) (kf11l1 : Ty0 → Rz) (kf11j9 : (List (List Int)) → Rz) : Ty0 → Rz := fun (t0,t1,t6,x4) => (kf11j5 (t0,t1,t6,x4))
theorem f11_5_eq (F : Nat) (Rf11j5 : St → Rz) (Rf11j8 : St → Rz) (Rf11l1 : St → Rz) (Rf11j9 : St → Rz) : ∀ v,aexec VG2211 (Af11 F) (bp Try.f11 1864) (ef11j4 v) (kSeq (kc VG2211 Rf11j5 sp4) (kBlock 1 (kSeq (kc VG2211 Rf11j8 sp3) (kSeq (kc VG2211 Rf11l1 sp0) (kBlock 0 (kSeq (kc VG2211 Rf11j9 [(5,.plain)]) (kFin VG2211 (some [(4,(.own 22))]) (Try.f11).results.toList))))))) = f11_5 F (Rf11j5 ∘ ef11j5) (Rf11j8 ∘ ef11j8) (Rf11l1 ∘ ef11l1) (Rf11j9 ∘ ef11j9) v := by
  rintro ⟨t0,t1,t6,x4⟩; kernel_rfl
def f11_6 (F : Nat) (kf11j6 : Ty1 → Rz) (kf11j7 : Ty3 → Rz) (kf11j8 : Ty0 → Rz) (kf11l1 : Ty0 → Rz) (kf11j9 : (List (List Int)) → Rz) : Ty0 → Rz := fun (t0,t1,t6,x4) => (kf11j6 (t0,t1,t6,(0 : Int),x4))
theorem f11_6_eq (F : Nat) (Rf11j6 : St → Rz) (Rf11j7 : St → Rz) (Rf11j8 : St → Rz) (Rf11l1 : St → Rz) (Rf11j9 : St → Rz) : ∀ v,aexec VG2211 (Af11 F) (bp Try.f11 7460) (ef11j5 v) (kSeq (kc VG2211 Rf11j6 sp5) (kSeq (kc VG2211 Rf11j7 sp4) (kBlock 1 (kSeq (kc VG2211 Rf11j8 sp3) (kSeq (kc VG2211 Rf11l1 sp0) (kBlock 0 (kSeq (kc VG2211 Rf11j9 [(5,.plain)]) (kFin VG2211 (some [(4,(.own 22))]) (Try.f11).results.toList)))))))) = f11_6 F (Rf11j6 ∘ ef11j6) (Rf11j7 ∘ ef11j7) (Rf11j8 ∘ ef11j8) (Rf11l1 ∘ ef11l1) (Rf11j9 ∘ ef11j9) v := by
  rintro ⟨t0,t1,t6,x4⟩; kernel_rfl
def f11_7 (F : Nat) (kf11l2 : Ty2 → Rz) (kf11j7 : Ty3 → Rz) (kf11j8 : Ty0 → Rz) (kf11l1 : Ty0 → Rz) (kf11j9 : (List (List Int)) → Rz) : Ty2 → Rz := fun (t0,t1,t6,t8,x5,x6) => (cond (decide (0 < (3 : Int))) (cond (decide (t8 < (IntKind.i64.wrap ((1 : Int) + (Reg.at_ t0 (IntKind.i64.wrap ((4 : Int) * t6)) (3 : Int)))))) (cond (decide (0 < (IntKind.i64.wrap (t1 + (2 : Int))))) (cond (decide ((Reg.at_ t0 (IntKind.i64.wrap ((IntKind.i64.wrap ((IntKind.i64.wrap ((4 : Int) * t6)) + (1 : Int))) + t8)) (IntKind.i64.wrap (t1 + (2 : Int)))) > t1)) (cond (decide ((x6.length + 1) < 1073741824)) (kf11l2 (t0,t1,t6,(IntKind.i64.wrap (t8 + (1 : Int))),x5,(x6 ++ [(-1 : Int)]))) none) (cond (decide ((x6.length + 1) < 1073741824)) (kf11l2 (t0,t1,t6,(IntKind.i64.wrap (t8 + (1 : Int))),x5,(x6 ++ [(Reg.at_ t0 (IntKind.i64.wrap ((IntKind.i64.wrap ((IntKind.i64.wrap ((4 : Int) * t6)) + (1 : Int))) + t8)) (IntKind.i64.wrap (t1 + (2 : Int))))]))) none)) none) (kf11j7 (t0,t1,t6,x5,x6))) none)
theorem f11_7_eq (F : Nat) (Rf11l2 : St → Rz) (Rf11j7 : St → Rz) (Rf11j8 : St → Rz) (Rf11l1 : St → Rz) (Rf11j9 : St → Rz) : ∀ v,aexec VG2211 (Af11 F) (bp Try.f11 29844) (ef11l2 v) (kSeq (kc VG2211 Rf11l2 sp1) (kBlock 2 (kSeq (kc VG2211 Rf11j7 sp4) (kBlock 1 (kSeq (kc VG2211 Rf11j8 sp3) (kSeq (kc VG2211 Rf11l1 sp0) (kBlock 0 (kSeq (kc VG2211 Rf11j9 [(5,.plain)]) (kFin VG2211 (some [(4,(.own 22))]) (Try.f11).results.toList))))))))) = f11_7 F (Rf11l2 ∘ ef11l2) (Rf11j7 ∘ ef11j7) (Rf11j8 ∘ ef11j8) (Rf11l1 ∘ ef11l1) (Rf11j9 ∘ ef11j9) v := by
  rintro ⟨t0,t1,t6,t8,x5,x6⟩; kernel_rfl
def f11_8_i : Ty1 → (List Int) × Int × Int × Int × (List (List Int)) × (List Int) := fun (t0,t1,t6,t8,x5) => (t0,t1,t6,t8,x5,[])
def f11_8 (F : Nat) (kf11j7 : Ty3 → Rz) (kf11j8 : Ty0 → Rz) (kf11l1 : Ty0 → Rz) (kf11j9 : (List (List Int)) → Rz) : Ty1 → Rz := fun v => loopN (fun k => f11_7 F k kf11j7 kf11j8 kf11l1 kf11j9) F (f11_8_i v)
theorem f11_8_eq (F : Nat) (Rf11j7 : St → Rz) (Rf11j8 : St → Rz) (Rf11l1 : St → Rz) (Rf11j9 : St → Rz) : ∀ v,aexec VG2211 (Af11 F) (bp Try.f11 14922) (ef11j6 v) (kBlock 2 (kSeq (kc VG2211 Rf11j7 sp4) (kBlock 1 (kSeq (kc VG2211 Rf11j8 sp3) (kSeq (kc VG2211 Rf11l1 sp0) (kBlock 0 (kSeq (kc VG2211 Rf11j9 [(5,.plain)]) (kFin VG2211 (some [(4,(.own 22))]) (Try.f11).results.toList)))))))) = f11_8 F (Rf11j7 ∘ ef11j7) (Rf11j8 ∘ ef11j8) (Rf11l1 ∘ ef11l1) (Rf11j9 ∘ ef11j9) v :=
  loop_cut (by kernel_rfl) (by kernel_rfl) ef11j6 ef11l2 _ f11_8_i (fun k => f11_7 F k (Rf11j7 ∘ ef11j7) (Rf11j8 ∘ ef11j8) (Rf11l1 ∘ ef11l1) (Rf11j9 ∘ ef11j9))
    (by rintro ⟨t0,t1,t6,t8,x5⟩; kernel_rfl) (fun Rf11l2 => f11_7_eq F Rf11l2 Rf11j7 Rf11j8 Rf11l1 Rf11j9)
def f11_9 (F : Nat) (kf11j7 : Ty3 → Rz) (kf11j8 : Ty0 → Rz) (kf11l1 : Ty0 → Rz) (kf11j9 : (List (List Int)) → Rz) : Ty1 → Rz := f11_8 F kf11j7 kf11j8 kf11l1 kf11j9
theorem f11_9_eq (F : Nat) (Rf11j7 : St → Rz) (Rf11j8 : St → Rz) (Rf11l1 : St → Rz) (Rf11j9 : St → Rz) : ∀ v,aexec VG2211 (Af11 F) (bp Try.f11 7461) (ef11j6 v) (kSeq (kc VG2211 Rf11j7 sp4) (kBlock 1 (kSeq (kc VG2211 Rf11j8 sp3) (kSeq (kc VG2211 Rf11l1 sp0) (kBlock 0 (kSeq (kc VG2211 Rf11j9 [(5,.plain)]) (kFin VG2211 (some [(4,(.own 22))]) (Try.f11).results.toList))))))) = f11_9 F (Rf11j7 ∘ ef11j7) (Rf11j8 ∘ ef11j8) (Rf11l1 ∘ ef11l1) (Rf11j9 ∘ ef11j9) v := fun v =>
  (block_in  (by kernel_rfl) _ _).trans (f11_8_eq F Rf11j7 Rf11j8 Rf11l1 Rf11j9 v)
def f11_10 (F : Nat) (kf11j7 : Ty3 → Rz) (kf11j8 : Ty0 → Rz) (kf11l1 : Ty0 → Rz) (kf11j9 : (List (List Int)) → Rz) : Ty0 → Rz := fun v => f11_6 F (f11_9 F kf11j7 kf11j8 kf11l1 kf11j9) kf11j7 kf11j8 kf11l1 kf11j9 v
theorem f11_10_eq (F : Nat) (Rf11j7 : St → Rz) (Rf11j8 : St → Rz) (Rf11l1 : St → Rz) (Rf11j9 : St → Rz) : ∀ v,aexec VG2211 (Af11 F) (bp Try.f11 3730) (ef11j5 v) (kSeq (kc VG2211 Rf11j7 sp4) (kBlock 1 (kSeq (kc VG2211 Rf11j8 sp3) (kSeq (kc VG2211 Rf11l1 sp0) (kBlock 0 (kSeq (kc VG2211 Rf11j9 [(5,.plain)]) (kFin VG2211 (some [(4,(.own 22))]) (Try.f11).results.toList))))))) = f11_10 F (Rf11j7 ∘ ef11j7) (Rf11j8 ∘ ef11j8) (Rf11l1 ∘ ef11l1) (Rf11j9 ∘ ef11j9) v :=
  seq_cut (by kernel_rfl) (by kernel_rfl) ef11j5 ef11j6 _ (fun k => f11_6 F k (Rf11j7 ∘ ef11j7) (Rf11j8 ∘ ef11j8) (Rf11l1 ∘ ef11l1) (Rf11j9 ∘ ef11j9)) (f11_9 F (Rf11j7 ∘ ef11j7) (Rf11j8 ∘ ef11j8) (Rf11l1 ∘ ef11l1) (Rf11j9 ∘ ef11j9))
    (fun Rf11j6 => f11_6_eq F Rf11j6 Rf11j7 Rf11j8 Rf11l1 Rf11j9) (f11_9_eq F Rf11j7 Rf11j8 Rf11l1 Rf11j9)
def f11_11 (F : Nat) (kf11j8 : Ty0 → Rz) (kf11l1 : Ty0 → Rz) (kf11j9 : (List (List Int)) → Rz) : Ty3 → Rz := fun (t0,t1,t6,x4,x5) => (cond (decide ((x4.length + 1) < 1073741824)) (kf11j8 (t0,t1,t6,(x4 ++ [x5]))) none)
theorem f11_11_eq (F : Nat) (Rf11j8 : St → Rz) (Rf11l1 : St → Rz) (Rf11j9 : St → Rz) : ∀ v,aexec VG2211 (Af11 F) (bp Try.f11 3731) (ef11j7 v) (kBlock 1 (kSeq (kc VG2211 Rf11j8 sp3) (kSeq (kc VG2211 Rf11l1 sp0) (kBlock 0 (kSeq (kc VG2211 Rf11j9 [(5,.plain)]) (kFin VG2211 (some [(4,(.own 22))]) (Try.f11).results.toList)))))) = f11_11 F (Rf11j8 ∘ ef11j8) (Rf11l1 ∘ ef11l1) (Rf11j9 ∘ ef11j9) v := by
  rintro ⟨t0,t1,t6,x4,x5⟩; kernel_rfl
def f11_12 (F : Nat) (kf11j8 : Ty0 → Rz) (kf11l1 : Ty0 → Rz) (kf11j9 : (List (List Int)) → Rz) : Ty0 → Rz := fun v => f11_10 F (f11_11 F kf11j8 kf11l1 kf11j9) kf11j8 kf11l1 kf11j9 v
theorem f11_12_eq (F : Nat) (Rf11j8 : St → Rz) (Rf11l1 : St → Rz) (Rf11j9 : St → Rz) : ∀ v,aexec VG2211 (Af11 F) (bp Try.f11 1865) (ef11j5 v) (kBlock 1 (kSeq (kc VG2211 Rf11j8 sp3) (kSeq (kc VG2211 Rf11l1 sp0) (kBlock 0 (kSeq (kc VG2211 Rf11j9 [(5,.plain)]) (kFin VG2211 (some [(4,(.own 22))]) (Try.f11).results.toList)))))) = f11_12 F (Rf11j8 ∘ ef11j8) (Rf11l1 ∘ ef11l1) (Rf11j9 ∘ ef11j9) v :=
  seq_cut (by kernel_rfl) (by kernel_rfl) ef11j5 ef11j7 _ (fun k => f11_10 F k (Rf11j8 ∘ ef11j8) (Rf11l1 ∘ ef11l1) (Rf11j9 ∘ ef11j9)) (f11_11 F (Rf11j8 ∘ ef11j8) (Rf11l1 ∘ ef11l1) (Rf11j9 ∘ ef11j9))
    (fun Rf11j7 => f11_10_eq F Rf11j7 Rf11j8 Rf11l1 Rf11j9) (f11_11_eq F Rf11j8 Rf11l1 Rf11j9)
def f11_13 (F : Nat) (kf11j8 : Ty0 → Rz) (kf11l1 : Ty0 → Rz) (kf11j9 : (List (List Int)) → Rz) : Ty0 → Rz := fun v => f11_5 F (f11_12 F kf11j8 kf11l1 kf11j9) kf11j8 kf11l1 kf11j9 v
theorem f11_13_eq (F : Nat) (Rf11j8 : St → Rz) (Rf11l1 : St → Rz) (Rf11j9 : St → Rz) : ∀ v,aexec VG2211 (Af11 F) (bp Try.f11 932) (ef11j4 v) (kBlock 1 (kSeq (kc VG2211 Rf11j8 sp3) (kSeq (kc VG2211 Rf11l1 sp0) (kBlock 0 (kSeq (kc VG2211 Rf11j9 [(5,.plain)]) (kFin VG2211 (some [(4,(.own 22))]) (Try.f11).results.toList)))))) = f11_13 F (Rf11j8 ∘ ef11j8) (Rf11l1 ∘ ef11l1) (Rf11j9 ∘ ef11j9) v :=
  seq_cut (by kernel_rfl) (by kernel_rfl) ef11j4 ef11j5 _ (fun k => f11_5 F k (Rf11j8 ∘ ef11j8) (Rf11l1 ∘ ef11l1) (Rf11j9 ∘ ef11j9)) (f11_12 F (Rf11j8 ∘ ef11j8) (Rf11l1 ∘ ef11l1) (Rf11j9 ∘ ef11j9))
    (fun Rf11j5 => f11_5_eq F Rf11j5 Rf11j8 Rf11l1 Rf11j9) (f11_12_eq F Rf11j8 Rf11l1 Rf11j9)
def f11_14 (F : Nat) (kf11j8 : Ty0 → Rz) (kf11l1 : Ty0 → Rz) (kf11j9 : (List (List Int)) → Rz) : Ty0 → Rz := f11_13 F kf11j8 kf11l1 kf11j9
theorem f11_14_eq (F : Nat) (Rf11j8 : St → Rz) (Rf11l1 : St → Rz) (Rf11j9 : St → Rz) : ∀ v,aexec VG2211 (Af11 F) (bp Try.f11 466) (ef11j4 v) (kSeq (kc VG2211 Rf11j8 sp3) (kSeq (kc VG2211 Rf11l1 sp0) (kBlock 0 (kSeq (kc VG2211 Rf11j9 [(5,.plain)]) (kFin VG2211 (some [(4,(.own 22))]) (Try.f11).results.toList))))) = f11_14 F (Rf11j8 ∘ ef11j8) (Rf11l1 ∘ ef11l1) (Rf11j9 ∘ ef11j9) v := fun v =>
  (block_in  (by kernel_rfl) _ _).trans (f11_13_eq F Rf11j8 Rf11l1 Rf11j9 v)
def f11_15 (F : Nat) (kf11l1 : Ty0 → Rz) (kf11j9 : (List (List Int)) → Rz) : Ty0 → Rz := fun (t0,t1,t6,x4) => (kf11l1 (t0,t1,(IntKind.i64.wrap (t6 + (1 : Int))),x4))
theorem f11_15_eq (F : Nat) (Rf11l1 : St → Rz) (Rf11j9 : St → Rz) : ∀ v,aexec VG2211 (Af11 F) (bp Try.f11 467) (ef11j8 v) (kSeq (kc VG2211 Rf11l1 sp0) (kBlock 0 (kSeq (kc VG2211 Rf11j9 [(5,.plain)]) (kFin VG2211 (some [(4,(.own 22))]) (Try.f11).results.toList)))) = f11_15 F (Rf11l1 ∘ ef11l1) (Rf11j9 ∘ ef11j9) v := by
  rintro ⟨t0,t1,t6,x4⟩; kernel_rfl
def f11_16 (F : Nat) (kf11l1 : Ty0 → Rz) (kf11j9 : (List (List Int)) → Rz) : Ty0 → Rz := fun v => f11_14 F (f11_15 F kf11l1 kf11j9) kf11l1 kf11j9 v
theorem f11_16_eq (F : Nat) (Rf11l1 : St → Rz) (Rf11j9 : St → Rz) : ∀ v,aexec VG2211 (Af11 F) (bp Try.f11 233) (ef11j4 v) (kSeq (kc VG2211 Rf11l1 sp0) (kBlock 0 (kSeq (kc VG2211 Rf11j9 [(5,.plain)]) (kFin VG2211 (some [(4,(.own 22))]) (Try.f11).results.toList)))) = f11_16 F (Rf11l1 ∘ ef11l1) (Rf11j9 ∘ ef11j9) v :=
  seq_cut (by kernel_rfl) (by kernel_rfl) ef11j4 ef11j8 _ (fun k => f11_14 F k (Rf11l1 ∘ ef11l1) (Rf11j9 ∘ ef11j9)) (f11_15 F (Rf11l1 ∘ ef11l1) (Rf11j9 ∘ ef11j9))
    (fun Rf11j8 => f11_14_eq F Rf11j8 Rf11l1 Rf11j9) (f11_15_eq F Rf11l1 Rf11j9)
def f11_17 (F : Nat) (kf11l1 : Ty0 → Rz) (kf11j9 : (List (List Int)) → Rz) : Ty0 → Rz := fun v => f11_4 F (f11_16 F kf11l1 kf11j9) kf11l1 kf11j9 v
theorem f11_17_eq (F : Nat) (Rf11l1 : St → Rz) (Rf11j9 : St → Rz) : ∀ v,aexec VG2211 (Af11 F) (bp Try.f11 116) (ef11l1 v) (kSeq (kc VG2211 Rf11l1 sp0) (kBlock 0 (kSeq (kc VG2211 Rf11j9 [(5,.plain)]) (kFin VG2211 (some [(4,(.own 22))]) (Try.f11).results.toList)))) = f11_17 F (Rf11l1 ∘ ef11l1) (Rf11j9 ∘ ef11j9) v :=
  seq_cut (by kernel_rfl) (by kernel_rfl) ef11l1 ef11j4 _ (fun k => f11_4 F k (Rf11l1 ∘ ef11l1) (Rf11j9 ∘ ef11j9)) (f11_16 F (Rf11l1 ∘ ef11l1) (Rf11j9 ∘ ef11j9))
    (fun Rf11j4 => f11_4_eq F Rf11j4 Rf11l1 Rf11j9) (f11_16_eq F Rf11l1 Rf11j9)
def f11_18_i : (List Int) × Int × Int → (List Int) × Int × Int × (List (List Int)) := fun (t0,t1,t6) => (t0,t1,t6,[])
def f11_18 (F : Nat) (kf11j9 : (List (List Int)) → Rz) : (List Int) × Int × Int → Rz := fun v => loopN (fun k => f11_17 F k kf11j9) F (f11_18_i v)
theorem f11_18_eq (F : Nat) (Rf11j9 : St → Rz) : ∀ v,aexec VG2211 (Af11 F) (bp Try.f11 58) (ef11j3 v) (kBlock 0 (kSeq (kc VG2211 Rf11j9 [(5,.plain)]) (kFin VG2211 (some [(4,(.own 22))]) (Try.f11).results.toList))) = f11_18 F (Rf11j9 ∘ ef11j9) v :=
  loop_cut (by kernel_rfl) (by kernel_rfl) ef11j3 ef11l1 _ f11_18_i (fun k => f11_17 F k (Rf11j9 ∘ ef11j9))
    (by rintro ⟨t0,t1,t6⟩; kernel_rfl) (fun Rf11l1 => f11_17_eq F Rf11l1 Rf11j9)
def f11_19 (F : Nat) (kf11j9 : (List (List Int)) → Rz) : (List Int) × Int × Int → Rz := f11_18 F kf11j9
theorem f11_19_eq (F : Nat) (Rf11j9 : St → Rz) : ∀ v,aexec VG2211 (Af11 F) (bp Try.f11 29) (ef11j3 v) (kSeq (kc VG2211 Rf11j9 [(5,.plain)]) (kFin VG2211 (some [(4,(.own 22))]) (Try.f11).results.toList)) = f11_19 F (Rf11j9 ∘ ef11j9) v := fun v =>
  (block_in  (by kernel_rfl) _ _).trans (f11_18_eq F Rf11j9 v)
def f11_20 (F : Nat) (kf11j9 : (List (List Int)) → Rz) : (List Int) × Int → Rz := fun v => f11_3 F (f11_19 F kf11j9) kf11j9 v
theorem f11_20_eq (F : Nat) (Rf11j9 : St → Rz) : ∀ v,aexec VG2211 (Af11 F) (bp Try.f11 14) (ef11j2 v) (kSeq (kc VG2211 Rf11j9 [(5,.plain)]) (kFin VG2211 (some [(4,(.own 22))]) (Try.f11).results.toList)) = f11_20 F (Rf11j9 ∘ ef11j9) v :=
  seq_cut (by kernel_rfl) (by kernel_rfl) ef11j2 ef11j3 _ (fun k => f11_3 F k (Rf11j9 ∘ ef11j9)) (f11_19 F (Rf11j9 ∘ ef11j9))
    (fun Rf11j3 => f11_3_eq F Rf11j3 Rf11j9) (f11_19_eq F Rf11j9)
def f11_21 (F : Nat) : (List (List Int)) → Rz := fun x1 => (some ((.own 0 0 1),[(.cells x1.length (.rL .i64 x1) true)]))
theorem f11_21_eq (F : Nat) : ∀ v,aexec VG2211 (Af11 F) (bp Try.f11 15) (ef11j9 v) (kFin VG2211 (some [(4,(.own 22))]) (Try.f11).results.toList) = f11_21 F v := by
  intro x1; kernel_rfl
def f11_22 (F : Nat) : (List Int) × Int → Rz := fun v => f11_20 F (f11_21 F) v
theorem f11_22_eq (F : Nat) : ∀ v,aexec VG2211 (Af11 F) (bp Try.f11 7) (ef11j2 v) (kFin VG2211 (some [(4,(.own 22))]) (Try.f11).results.toList) = f11_22 F v :=
  seq_cut (by kernel_rfl) (by kernel_rfl) ef11j2 ef11j9 _ (fun k => f11_20 F k) (f11_21 F)
    (fun Rf11j9 => f11_20_eq F Rf11j9) (f11_21_eq F)
def f11_23 (F : Nat) : (List Int) × Int → Rz := fun v => f11_2 F (f11_22 F) v
theorem f11_23_eq (F : Nat) : ∀ v,aexec VG2211 (Af11 F) (bp Try.f11 3) (ef11j1 v) (kFin VG2211 (some [(4,(.own 22))]) (Try.f11).results.toList) = f11_23 F v :=
  seq_cut (by kernel_rfl) (by kernel_rfl) ef11j1 ef11j2 _ (fun k => f11_2 F k) (f11_22 F)
    (fun Rf11j2 => f11_2_eq F Rf11j2) (f11_22_eq F)
def f11_24 (F : Nat) : (List Int) × Int → Rz := fun v => f11_1 F (f11_23 F) v
theorem f11_24_eq (F : Nat) : ∀ v,aexec VG2211 (Af11 F) (sub (bodyOf Try.f11) []) (ef11_a v) (kFin VG2211 (some [(4,(.own 22))]) (Try.f11).results.toList) = f11_24 F v :=
  seq_cut (by kernel_rfl) (by kernel_rfl) ef11_a ef11j1 _ (fun k => f11_1 F k) (f11_23 F)
    (fun Rf11j1 => f11_1_eq F Rf11j1) (f11_23_eq F)
def f11 (F : Nat) : (List Int) × Int → Rz := f11_24 F
theorem f11_body (F : Nat) (a0 : List Int) (a1 : Int) : abody VG2211 (Af11 F) Try.f11 [(.vs (.rI .i64 a0) 0 1),(.int .i64 a1)] [] = f11 F (a0,a1) :=
  (abody_in (c := (sub (bodyOf Try.f11) [])) (by kernel_rfl) (s := ef11_a (a0,a1)) (by kernel_rfl)).trans (f11_24_eq F (a0,a1))
def r11 : CRun := fun X H => match X,H with
  | [(.vs (.rI .i64 a0) 0 1),(.int .i64 a1)],[] => some (((decide (0 ≤ a1)) && (decide (a1 < 1000))),(.own 0 0 1),[(.cells (Isl.some a0 a1).length (.rL .i64 (Isl.some a0 a1)) true)])
  | _,_ => none
theorem s11 (a0 : List Int) (a1 : Int) (hp : (((decide (0 ≤ a1)) && (decide (a1 < 1000)))) = true) (h0 : okV (.vs (.rI .i64 a0) 0 1)) (h1 : okV (.int .i64 a1)) : ∃ F,f11 F (a0,a1) = some ((.own 0 0 1),[(.cells (Isl.some a0 a1).length (.rL .i64 (Isl.some a0 a1)) true)]) := by
  simp only [Bool.and_eq_true,decide_eq_true_eq] at hp
  have hl := h0.2
  obtain ⟨F,hF⟩ : ∃ F,F = 100 := ⟨_,rfl⟩
  refine ⟨F,?_⟩
  simp only [f11_1,f11_2,f11_3,f11_18_i,f11_18,f11_19,f11_20,f11_21,f11_22,f11_23,f11_24,f11]
  refine loopN_from (fun i => (a0,a1,(i : Int),Isl.someTo a0 a1 i)) (min ((a0.length + 3) / 4) 10) (by rfl) (fun i hi k => ?_) (fun k => ?_) _ (by omega)
  · have h3 := Reg.at_lt (l := a0) (i := 4 * (i : Int)) (m := 3) (by omega)
    simp only [f11_4,f11_5,f11_6,f11_8_i,f11_8,f11_9,f11_10,f11_11,f11_12,f11_13,f11_14,f11_15,f11_16,f11_17]
    rw [i64w (x := 4 * (i : Int)) (by omega) (by omega),cond_pos (by omega),cond_pos (by omega)]
    refine loopN_from (fun k => (a0,a1,(i : Int),(k : Int),Isl.someTo a0 a1 i,Isl.linkTo a0 a1 i k)) (1 + Reg.at_ a0 (4 * (i : Int)) 3).toNat (by rfl) (fun q hq k' => ?_) (fun k' => ?_) _ (by omega)
    · have h4 := Reg.at_lt (l := a0) (i := 4 * (i : Int) + 1 + (q : Int)) (m := a1 + 2) (by omega)
      simp only [f11_7]
      rw [cond_pos (by omega),i64w (x := 4 * (i : Int)) (by omega) (by omega),i64w (x := 1 + Reg.at_ a0 (4 * (i : Int)) 3) (by omega) (by omega),cond_pos (by omega),i64w (x := a1 + 2) (by omega) (by omega),cond_pos (by omega),
        i64w (x := 4 * (i : Int) + 1) (by omega) (by omega),i64w (x := 4 * (i : Int) + 1 + (q : Int)) (by omega) (by omega),i64w (x := (q : Int) + 1) (by omega) (by omega),Isl.linkTo_len]
      have e : Isl.linkTo a0 a1 i (q + 1) = Isl.linkTo a0 a1 i q ++ [if Reg.at_ a0 (4 * (i : Int) + 1 + (q : Int)) (a1 + 2) > a1 then -1 else Reg.at_ a0 (4 * (i : Int) + 1 + (q : Int)) (a1 + 2)] := Isl.linkTo_succ a0 a1 i q
      rw [e]
      by_cases h : Reg.at_ a0 (4 * (i : Int) + 1 + (q : Int)) (a1 + 2) > a1
      · rw [cond_pos h,cond_pos (by omega),if_pos h]; rfl
      · rw [cond_neg h,cond_pos (by omega),if_neg h]; rfl
    · simp only [f11_4,f11_5,f11_6,f11_7,f11_8_i,f11_8,f11_9,f11_10,f11_11,f11_12,f11_13,f11_14,f11_15,f11_16,f11_17]
      rw [cond_pos (by omega),i64w (x := 4 * (i : Int)) (by omega) (by omega),i64w (x := 1 + Reg.at_ a0 (4 * (i : Int)) 3) (by omega) (by omega),cond_neg (by omega),Isl.someTo_len,cond_pos (by omega),i64w (by omega) (by omega),Isl.someTo_succ,Isl.link_eq]
      rfl
  · simp only [f11_4,f11_5,f11_6,f11_8_i,f11_8,f11_9,f11_10,f11_11,f11_12,f11_13,f11_14,f11_15,f11_16,f11_17]
    rw [i64w (x := 4 * ((min ((a0.length + 3) / 4) 10 : Nat) : Int)) (by omega) (by omega)]
    by_cases h : (4 * ((min ((a0.length + 3) / 4) 10 : Nat) : Int)) < (a0.length : Int)
    · rw [cond_pos h,cond_neg (by omega)]; rfl
    · rw [cond_neg h]; rfl
theorem c11 : CallOk Try.prog G22 11 r11 := callOk_of (V := VG2211) mixed tys eVG2211 (f := 11) (fn := Try.f11) Try.func11 (by kernel_rfl) (c := sub (bodyOf Try.f11) []) (by kernel_rfl) (by
  intro X H r H' h hX hH
  unfold r11 at h; split at h <;> try contradiction
  · simp only [Option.some.injEq,Prod.mk.injEq] at h
    obtain ⟨hp,rfl,rfl⟩ := h
    obtain ⟨F,hF⟩ := s11 _ _ hp (hX _ (.head _)) (hX _ (.tail _ (.head _)))
    exact ⟨Af11 F,(f11_body F _ _).trans hF⟩)
def f13_1 (F : Nat) (kf13j1 : (List (List Int)) → Rz) : (List (List Int)) → Rz := fun a0 => (kf13j1 a0)
def f13_2 (F : Nat) (kf13j2 : (List (List Int)) → Rz) : (List (List Int)) → Rz := fun t0 => (kf13j2 t0)
def f13_3 (F : Nat) (kf13j3 : (List (List Int)) × Int → Rz) (kf13j4 : (List (List Int)) → Rz) : (List (List Int)) → Rz := fun t0 => (kf13j3 (t0,(0 : Int)))
def f13_4 (F : Nat) (kf13l1 : Ty4 → Rz) (kf13j4 : (List (List Int)) → Rz) : Ty4 → Rz := fun (t0,t4,x3) => (cond (decide (t4 < (↑t0.length : Int))) (cond (decide (t4 < (8 : Int))) (cond ((decide (0 ≤ t4)) && (decide (t4 < (↑t0.length : Int)))) (cond ((decide (0 ≤ t4)) && (decide (t4 < (↑t0.length : Int)))) (cond ((decide ((0 : Int) ≤ (if (8 : Int) < (↑(t0.getD (Int.toNat t4) []).length : Int) then (8 : Int) else (↑(t0.getD (Int.toNat t4) []).length : Int)))) && (decide ((if (8 : Int) < (↑(t0.getD (Int.toNat t4) []).length : Int) then (8 : Int) else (↑(t0.getD (Int.toNat t4) []).length : Int)) ≤ (↑(t0.getD (Int.toNat t4) []).length : Int)))) (cond (decide ((x3.length + 1) < 1073741824)) (kf13l1 (t0,(IntKind.i64.wrap (t4 + (1 : Int))),(x3 ++ [((t0.getD (Int.toNat t4) []).take (Int.toNat (if (8 : Int) < (↑(t0.getD (Int.toNat t4) []).length : Int) then (8 : Int) else (↑(t0.getD (Int.toNat t4) []).length : Int))))]))) none) none) none) none) (kf13j4 x3)) (kf13j4 x3))
def f13_5_i : (List (List Int)) × Int → (List (List Int)) × Int × (List (List Int)) := fun (t0,t4) => (t0,t4,[])
def f13_5 (F : Nat) (kf13j4 : (List (List Int)) → Rz) : (List (List Int)) × Int → Rz := fun v => loopN (fun k => f13_4 F k kf13j4) F (f13_5_i v)
def f13_6 (F : Nat) (kf13j4 : (List (List Int)) → Rz) : (List (List Int)) × Int → Rz := f13_5 F kf13j4
def f13_7 (F : Nat) (kf13j4 : (List (List Int)) → Rz) : (List (List Int)) → Rz := fun v => f13_3 F (f13_6 F kf13j4) kf13j4 v
def f13_8 (F : Nat) : (List (List Int)) → Rz := fun x1 => (some ((.own 0 0 1),[(.cells x1.length (.rL .i64 x1) true)]))
def f13_9 (F : Nat) : (List (List Int)) → Rz := fun v => f13_7 F (f13_8 F) v
def f13_10 (F : Nat) : (List (List Int)) → Rz := fun v => f13_2 F (f13_9 F) v
def f13_11 (F : Nat) : (List (List Int)) → Rz := fun v => f13_1 F (f13_10 F) v
def f13 (F : Nat) : (List (List Int)) → Rz := f13_11 F
def lVG2221 : List CEnt := []
def VG2221 : Env := mkEnv T22 G22 lVG2221
theorem eVG2221 : EOk Try.prog VG2221 := eok_mk (by exact trivial)
def Af21 (F : Nat) : Cuts := { F := F,at_ := fun n => match n with | 4016 => some sp2 | _ => none,join := fun n => match n with | 1032 => some [(0,.plain),(1,.plain)] | 3024 => some [(0,.plain),(1,.plain)] | 4018 => some sp2 | 8003 => some [] | _ => none }
def ef21_a : (List Int) × (List Int) → St := fun (a0,a1) => { tmps := [(0,(.vs (.rI .i64 a0) 0 1)),(1,(.vs (.rI .i64 a1) 0 1))],heap := [],next := 0,nt := 26,m := 0 }
def ef21j1 : (List Int) × (List Int) → St := fun (t0,t1) => { tmps := [(0,(.vs (.rI .i64 t0) 0 1)),(1,(.vs (.rI .i64 t1) 0 1))],heap := [],next := 0,nt := 26,m := 0 }
def ef21j2 : (List Int) × (List Int) → St := fun (t0,t1) => { tmps := [(0,(.vs (.rI .i64 t0) 0 1)),(1,(.vs (.rI .i64 t1) 0 1))],heap := [],next := 0,nt := 26,m := 0 }
def ef21j3 : Ty5 → St := fun (t0,t1,t5) => { tmps := [(0,(.vs (.rI .i64 t0) 0 1)),(1,(.vs (.rI .i64 t1) 0 1)),(5,(.int .i64 t5))],heap := [],next := 0,nt := 26,m := 0 }
def ef21l1 : Ty5 → St := fun (t0,t1,t5) => { tmps := [(0,(.vs (.rI .i64 t0) 0 1)),(1,(.vs (.rI .i64 t1) 0 1)),(5,(.int .i64 t5))],heap := [],next := 0,nt := 26,m := 0 }
def ef21j4 : Unit → St := fun _ => { tmps := [],heap := [],next := 0,nt := 26,m := 0 }
def f21_1 (F : Nat) (kf21j1 : (List Int) × (List Int) → Rz) : (List Int) × (List Int) → Rz := fun (a0,a1) => (kf21j1 (a0,a1))
theorem f21_1_eq (F : Nat) (Rf21j1 : St → Rz) : ∀ v,aexec VG2221 (Af21 F) (bp Try.f21 2) (ef21_a v) (kSeq (kc VG2221 Rf21j1 [(0,.plain),(1,.plain)]) (kFin VG2221 none (Try.f21).results.toList)) = f21_1 F (Rf21j1 ∘ ef21j1) v := by
  rintro ⟨a0,a1⟩; kernel_rfl
def f21_2 (F : Nat) (kf21j2 : (List Int) × (List Int) → Rz) : (List Int) × (List Int) → Rz := fun (t0,t1) => (cond ((↑t0.length : Int) != (↑t1.length : Int)) (some ((.bool false),[])) (kf21j2 (t0,t1)))
theorem f21_2_eq (F : Nat) (Rf21j2 : St → Rz) : ∀ v,aexec VG2221 (Af21 F) (bp Try.f21 6) (ef21j1 v) (kSeq (kc VG2221 Rf21j2 [(0,.plain),(1,.plain)]) (kFin VG2221 none (Try.f21).results.toList)) = f21_2 F (Rf21j2 ∘ ef21j2) v := by
  rintro ⟨t0,t1⟩; kernel_rfl
def f21_3 (F : Nat) (kf21j3 : Ty5 → Rz) (kf21j4 : Unit → Rz) : (List Int) × (List Int) → Rz := fun (t0,t1) => (kf21j3 (t0,t1,(0 : Int)))
theorem f21_3_eq (F : Nat) (Rf21j3 : St → Rz) (Rf21j4 : St → Rz) : ∀ v,aexec VG2221 (Af21 F) (bp Try.f21 28) (ef21j2 v) (kSeq (kc VG2221 Rf21j3 sp2) (kSeq (kc VG2221 Rf21j4 []) (kFin VG2221 none (Try.f21).results.toList))) = f21_3 F (Rf21j3 ∘ ef21j3) (Rf21j4 ∘ ef21j4) v := by
  rintro ⟨t0,t1⟩; kernel_rfl
def f21_4 (F : Nat) (kf21l1 : Ty5 → Rz) (kf21j4 : Unit → Rz) : Ty5 → Rz := fun (t0,t1,t5) => (cond (decide (t5 < (↑t0.length : Int))) (cond ((decide (0 ≤ t5)) && (decide (t5 < (↑t0.length : Int)))) (cond ((decide (0 ≤ t5)) && (decide (t5 < (↑t1.length : Int)))) (cond ((t0.getD (Int.toNat t5) 0) != (t1.getD (Int.toNat t5) 0)) (some ((.bool false),[])) (kf21l1 (t0,t1,(IntKind.i64.wrap (t5 + (1 : Int)))))) none) none) (kf21j4 ()))
theorem f21_4_eq (F : Nat) (Rf21l1 : St → Rz) (Rf21j4 : St → Rz) : ∀ v,aexec VG2221 (Af21 F) (bp Try.f21 116) (ef21l1 v) (kSeq (kc VG2221 Rf21l1 sp2) (kBlock 0 (kSeq (kc VG2221 Rf21j4 []) (kFin VG2221 none (Try.f21).results.toList)))) = f21_4 F (Rf21l1 ∘ ef21l1) (Rf21j4 ∘ ef21j4) v := by
  rintro ⟨t0,t1,t5⟩; kernel_rfl
def f21_5_i : Ty5 → (List Int) × (List Int) × Int := fun (t0,t1,t5) => (t0,t1,t5)
def f21_5 (F : Nat) (kf21j4 : Unit → Rz) : Ty5 → Rz := fun v => loopN (fun k => f21_4 F k kf21j4) F (f21_5_i v)
theorem f21_5_eq (F : Nat) (Rf21j4 : St → Rz) : ∀ v,aexec VG2221 (Af21 F) (bp Try.f21 58) (ef21j3 v) (kBlock 0 (kSeq (kc VG2221 Rf21j4 []) (kFin VG2221 none (Try.f21).results.toList))) = f21_5 F (Rf21j4 ∘ ef21j4) v :=
  loop_cut (by kernel_rfl) (by kernel_rfl) ef21j3 ef21l1 _ f21_5_i (fun k => f21_4 F k (Rf21j4 ∘ ef21j4))
    (by rintro ⟨t0,t1,t5⟩; kernel_rfl) (fun Rf21l1 => f21_4_eq F Rf21l1 Rf21j4)
def f21_6 (F : Nat) (kf21j4 : Unit → Rz) : Ty5 → Rz := f21_5 F kf21j4
theorem f21_6_eq (F : Nat) (Rf21j4 : St → Rz) : ∀ v,aexec VG2221 (Af21 F) (bp Try.f21 29) (ef21j3 v) (kSeq (kc VG2221 Rf21j4 []) (kFin VG2221 none (Try.f21).results.toList)) = f21_6 F (Rf21j4 ∘ ef21j4) v := fun v =>
  (block_in  (by kernel_rfl) _ _).trans (f21_5_eq F Rf21j4 v)
def f21_7 (F : Nat) (kf21j4 : Unit → Rz) : (List Int) × (List Int) → Rz := fun v => f21_3 F (f21_6 F kf21j4) kf21j4 v
theorem f21_7_eq (F : Nat) (Rf21j4 : St → Rz) : ∀ v,aexec VG2221 (Af21 F) (bp Try.f21 14) (ef21j2 v) (kSeq (kc VG2221 Rf21j4 []) (kFin VG2221 none (Try.f21).results.toList)) = f21_7 F (Rf21j4 ∘ ef21j4) v :=
  seq_cut (by kernel_rfl) (by kernel_rfl) ef21j2 ef21j3 _ (fun k => f21_3 F k (Rf21j4 ∘ ef21j4)) (f21_6 F (Rf21j4 ∘ ef21j4))
    (fun Rf21j3 => f21_3_eq F Rf21j3 Rf21j4) (f21_6_eq F Rf21j4)
def f21_8 (F : Nat) : Unit → Rz := fun _ => (some ((.bool true),[]))
theorem f21_8_eq (F : Nat) : ∀ v,aexec VG2221 (Af21 F) (bp Try.f21 15) (ef21j4 v) (kFin VG2221 none (Try.f21).results.toList) = f21_8 F v := by
  intro _; kernel_rfl
def f21_9 (F : Nat) : (List Int) × (List Int) → Rz := fun v => f21_7 F (f21_8 F) v
theorem f21_9_eq (F : Nat) : ∀ v,aexec VG2221 (Af21 F) (bp Try.f21 7) (ef21j2 v) (kFin VG2221 none (Try.f21).results.toList) = f21_9 F v :=
  seq_cut (by kernel_rfl) (by kernel_rfl) ef21j2 ef21j4 _ (fun k => f21_7 F k) (f21_8 F)
    (fun Rf21j4 => f21_7_eq F Rf21j4) (f21_8_eq F)
def f21_10 (F : Nat) : (List Int) × (List Int) → Rz := fun v => f21_2 F (f21_9 F) v
theorem f21_10_eq (F : Nat) : ∀ v,aexec VG2221 (Af21 F) (bp Try.f21 3) (ef21j1 v) (kFin VG2221 none (Try.f21).results.toList) = f21_10 F v :=
  seq_cut (by kernel_rfl) (by kernel_rfl) ef21j1 ef21j2 _ (fun k => f21_2 F k) (f21_9 F)
    (fun Rf21j2 => f21_2_eq F Rf21j2) (f21_9_eq F)
def f21_11 (F : Nat) : (List Int) × (List Int) → Rz := fun v => f21_1 F (f21_10 F) v
theorem f21_11_eq (F : Nat) : ∀ v,aexec VG2221 (Af21 F) (sub (bodyOf Try.f21) []) (ef21_a v) (kFin VG2221 none (Try.f21).results.toList) = f21_11 F v :=
  seq_cut (by kernel_rfl) (by kernel_rfl) ef21_a ef21j1 _ (fun k => f21_1 F k) (f21_10 F)
    (fun Rf21j1 => f21_1_eq F Rf21j1) (f21_10_eq F)
def f21 (F : Nat) : (List Int) × (List Int) → Rz := f21_11 F
theorem f21_body (F : Nat) (a0 : List Int) (a1 : List Int) : abody VG2221 (Af21 F) Try.f21 [(.vs (.rI .i64 a0) 0 1),(.vs (.rI .i64 a1) 0 1)] [] = f21 F (a0,a1) :=
  (abody_in (c := (sub (bodyOf Try.f21) [])) (by kernel_rfl) (s := ef21_a (a0,a1)) (by kernel_rfl)).trans (f21_11_eq F (a0,a1))
def r21 : CRun := fun X H => match X,H with
  | [(.vs (.rI .i64 a0) 0 1),(.vs (.rI .i64 a1) 0 1)],[] => some (true,(.bool (decide (a0 = a1))),[])
  | _,_ => none
theorem s21 (a0 : List Int) (a1 : List Int) (h0 : okV (.vs (.rI .i64 a0) 0 1)) (h1 : okV (.vs (.rI .i64 a1) 0 1)) : ∃ F,f21 F (a0,a1) = some ((.bool (decide (a0 = a1))),[]) := by
  have hl0 := h0.2
  have hl1 := h1.2
  refine ⟨a0.length + 1,?_⟩
  simp only [f21,f21_11,f21_1,f21_10,f21_2,int_bne]
  by_cases hl : a0.length = a1.length
  · rw [cond_neg (by omega)]
    simp only [f21_9,f21_7,f21_3,f21_6,f21_5,f21_5_i]
    refine loopN_ind (fun m s => s.1 = a0 ∧ s.2.1 = a1 ∧ s.2.2 = ((a0.length - m : Nat) : Int) ∧ m ≤ a0.length ∧ ∀ i,i < a0.length - m → a0.getD i 0 = a1.getD i 0) ?_ _ a0.length _ (by omega) ⟨rfl,rfl,by simp,Nat.le_refl _,fun i hi => by omega⟩
    rintro m ⟨t0,t1,t5⟩ k ⟨e1,e2,e3,hm,hi⟩ hk
    simp only at e1 e2 e3 hi
    subst e1; subst e2; subst e3
    simp only [f21_4,dec_and,int_bne,lst_beq,dec_not]
    cases m with
    | zero =>
      rw [cond_neg (by omega),decide_eq_true (list_eq 0 hl fun i h => hi i (by omega))]
      rfl
    | succ m =>
      rw [Int.toNat_natCast,cond_pos (by omega),cond_pos (by omega),cond_pos (by omega)]
      by_cases he : t0.getD (t0.length - (m + 1)) 0 = t1.getD (t0.length - (m + 1)) 0
      · rw [cond_neg (fun h => h he),i64w (by omega) (by omega)]
        refine hk m _ (by omega) ⟨rfl,rfl,by simp only []; omega,by omega,fun i hi' => ?_⟩
        by_cases hh : i < t0.length - (m + 1)
        · exact hi i hh
        · rw [show i = t0.length - (m + 1) by omega]; exact he
      · rw [cond_pos he,decide_eq_false (fun e => he (by rw [e]))]
  · rw [cond_pos (by omega),decide_eq_false (fun e => hl (by rw [e]))]
theorem c21 : CallOk Try.prog G22 21 r21 := callOk_of (V := VG2221) mixed tys eVG2221 (f := 21) (fn := Try.f21) Try.func21 (by kernel_rfl) (c := sub (bodyOf Try.f21) []) (by kernel_rfl) (by
  intro X H r H' h hX hH
  unfold r21 at h; split at h <;> try contradiction
  · simp only [Option.some.injEq,Prod.mk.injEq] at h
    obtain ⟨hp,rfl,rfl⟩ := h
    obtain ⟨F,hF⟩ := s21 _ _ (hX _ (.head _)) (hX _ (.tail _ (.head _)))
    exact ⟨Af21 F,(f21_body F _ _).trans hF⟩)
def lVG2214 : List CEnt := [(21,[some 3,some 3],r21)]
def VG2214 : Env := mkEnv T22 G22 lVG2214
theorem eVG2214 : EOk Try.prog VG2214 := eok_mk (by exact ⟨c21,trivial⟩)
def Af14 (F : Nat) : Cuts := { F := F,at_ := fun n => match n with | 4016 => some sp2 | _ => none,join := fun n => match n with | 1032 => some [(0,.plain),(1,.plain)] | 3024 => some [(0,.plain),(1,.plain)] | 4018 => some sp2 | 8003 => some [] | _ => none }
def ef14_a : Ty6 → St := fun (a0,a1) => { tmps := [(0,(.vs (.rL .i64 a0) 0 1)),(1,(.vs (.rL .i64 a1) 0 1))],heap := [],next := 0,nt := 27,m := 0 }
def ef14j1 : Ty6 → St := fun (t0,t1) => { tmps := [(0,(.vs (.rL .i64 t0) 0 1)),(1,(.vs (.rL .i64 t1) 0 1))],heap := [],next := 0,nt := 27,m := 0 }
def ef14j2 : Ty6 → St := fun (t0,t1) => { tmps := [(0,(.vs (.rL .i64 t0) 0 1)),(1,(.vs (.rL .i64 t1) 0 1))],heap := [],next := 0,nt := 27,m := 0 }
def ef14j3 : Ty7 → St := fun (t0,t1,t5) => { tmps := [(0,(.vs (.rL .i64 t0) 0 1)),(1,(.vs (.rL .i64 t1) 0 1)),(5,(.int .i64 t5))],heap := [],next := 0,nt := 27,m := 0 }
def ef14l1 : Ty7 → St := fun (t0,t1,t5) => { tmps := [(0,(.vs (.rL .i64 t0) 0 1)),(1,(.vs (.rL .i64 t1) 0 1)),(5,(.int .i64 t5))],heap := [],next := 0,nt := 27,m := 0 }
def ef14j4 : Unit → St := fun _ => { tmps := [],heap := [],next := 0,nt := 27,m := 0 }
def f14_1 (F : Nat) (kf14j1 : Ty6 → Rz) : Ty6 → Rz := fun (a0,a1) => (kf14j1 (a0,a1))
theorem f14_1_eq (F : Nat) (Rf14j1 : St → Rz) : ∀ v,aexec VG2214 (Af14 F) (bp Try.f14 2) (ef14_a v) (kSeq (kc VG2214 Rf14j1 [(0,.plain),(1,.plain)]) (kFin VG2214 none (Try.f14).results.toList)) = f14_1 F (Rf14j1 ∘ ef14j1) v := by
  rintro ⟨a0,a1⟩; kernel_rfl
def f14_2 (F : Nat) (kf14j2 : Ty6 → Rz) : Ty6 → Rz := fun (t0,t1) => (cond ((↑t0.length : Int) != (↑t1.length : Int)) (some ((.bool false),[])) (kf14j2 (t0,t1)))
theorem f14_2_eq (F : Nat) (Rf14j2 : St → Rz) : ∀ v,aexec VG2214 (Af14 F) (bp Try.f14 6) (ef14j1 v) (kSeq (kc VG2214 Rf14j2 [(0,.plain),(1,.plain)]) (kFin VG2214 none (Try.f14).results.toList)) = f14_2 F (Rf14j2 ∘ ef14j2) v := by
  rintro ⟨t0,t1⟩; kernel_rfl
def f14_3 (F : Nat) (kf14j3 : Ty7 → Rz) (kf14j4 : Unit → Rz) : Ty6 → Rz := fun (t0,t1) => (kf14j3 (t0,t1,(0 : Int)))
theorem f14_3_eq (F : Nat) (Rf14j3 : St → Rz) (Rf14j4 : St → Rz) : ∀ v,aexec VG2214 (Af14 F) (bp Try.f14 28) (ef14j2 v) (kSeq (kc VG2214 Rf14j3 sp2) (kSeq (kc VG2214 Rf14j4 []) (kFin VG2214 none (Try.f14).results.toList))) = f14_3 F (Rf14j3 ∘ ef14j3) (Rf14j4 ∘ ef14j4) v := by
  rintro ⟨t0,t1⟩; kernel_rfl
def f14_4 (F : Nat) (kf14l1 : Ty7 → Rz) (kf14j4 : Unit → Rz) : Ty7 → Rz := fun (t0,t1,t5) => (cond (decide (t5 < (↑t0.length : Int))) (cond ((decide (0 ≤ t5)) && (decide (t5 < (↑t0.length : Int)))) (cond ((decide (0 ≤ t5)) && (decide (t5 < (↑t1.length : Int)))) (cond (!(decide ((t0.getD (Int.toNat t5) []) = (t1.getD (Int.toNat t5) [])))) (some ((.bool false),[])) (kf14l1 (t0,t1,(IntKind.i64.wrap (t5 + (1 : Int)))))) none) none) (kf14j4 ()))
theorem f14_4_eq (F : Nat) (Rf14l1 : St → Rz) (Rf14j4 : St → Rz) : ∀ v,aexec VG2214 (Af14 F) (bp Try.f14 116) (ef14l1 v) (kSeq (kc VG2214 Rf14l1 sp2) (kBlock 0 (kSeq (kc VG2214 Rf14j4 []) (kFin VG2214 none (Try.f14).results.toList)))) = f14_4 F (Rf14l1 ∘ ef14l1) (Rf14j4 ∘ ef14j4) v := by
  rintro ⟨t0,t1,t5⟩; kernel_rfl
def f14_5_i : Ty7 → (List (List Int)) × (List (List Int)) × Int := fun (t0,t1,t5) => (t0,t1,t5)
def f14_5 (F : Nat) (kf14j4 : Unit → Rz) : Ty7 → Rz := fun v => loopN (fun k => f14_4 F k kf14j4) F (f14_5_i v)
theorem f14_5_eq (F : Nat) (Rf14j4 : St → Rz) : ∀ v,aexec VG2214 (Af14 F) (bp Try.f14 58) (ef14j3 v) (kBlock 0 (kSeq (kc VG2214 Rf14j4 []) (kFin VG2214 none (Try.f14).results.toList))) = f14_5 F (Rf14j4 ∘ ef14j4) v :=
  loop_cut (by kernel_rfl) (by kernel_rfl) ef14j3 ef14l1 _ f14_5_i (fun k => f14_4 F k (Rf14j4 ∘ ef14j4))
    (by rintro ⟨t0,t1,t5⟩; kernel_rfl) (fun Rf14l1 => f14_4_eq F Rf14l1 Rf14j4)
def f14_6 (F : Nat) (kf14j4 : Unit → Rz) : Ty7 → Rz := f14_5 F kf14j4
theorem f14_6_eq (F : Nat) (Rf14j4 : St → Rz) : ∀ v,aexec VG2214 (Af14 F) (bp Try.f14 29) (ef14j3 v) (kSeq (kc VG2214 Rf14j4 []) (kFin VG2214 none (Try.f14).results.toList)) = f14_6 F (Rf14j4 ∘ ef14j4) v := fun v =>
  (block_in  (by kernel_rfl) _ _).trans (f14_5_eq F Rf14j4 v)
def f14_7 (F : Nat) (kf14j4 : Unit → Rz) : Ty6 → Rz := fun v => f14_3 F (f14_6 F kf14j4) kf14j4 v
theorem f14_7_eq (F : Nat) (Rf14j4 : St → Rz) : ∀ v,aexec VG2214 (Af14 F) (bp Try.f14 14) (ef14j2 v) (kSeq (kc VG2214 Rf14j4 []) (kFin VG2214 none (Try.f14).results.toList)) = f14_7 F (Rf14j4 ∘ ef14j4) v :=
  seq_cut (by kernel_rfl) (by kernel_rfl) ef14j2 ef14j3 _ (fun k => f14_3 F k (Rf14j4 ∘ ef14j4)) (f14_6 F (Rf14j4 ∘ ef14j4))
    (fun Rf14j3 => f14_3_eq F Rf14j3 Rf14j4) (f14_6_eq F Rf14j4)
def f14_8 (F : Nat) : Unit → Rz := fun _ => (some ((.bool true),[]))
theorem f14_8_eq (F : Nat) : ∀ v,aexec VG2214 (Af14 F) (bp Try.f14 15) (ef14j4 v) (kFin VG2214 none (Try.f14).results.toList) = f14_8 F v := by
  intro _; kernel_rfl
def f14_9 (F : Nat) : Ty6 → Rz := fun v => f14_7 F (f14_8 F) v
theorem f14_9_eq (F : Nat) : ∀ v,aexec VG2214 (Af14 F) (bp Try.f14 7) (ef14j2 v) (kFin VG2214 none (Try.f14).results.toList) = f14_9 F v :=
  seq_cut (by kernel_rfl) (by kernel_rfl) ef14j2 ef14j4 _ (fun k => f14_7 F k) (f14_8 F)
    (fun Rf14j4 => f14_7_eq F Rf14j4) (f14_8_eq F)
def f14_10 (F : Nat) : Ty6 → Rz := fun v => f14_2 F (f14_9 F) v
theorem f14_10_eq (F : Nat) : ∀ v,aexec VG2214 (Af14 F) (bp Try.f14 3) (ef14j1 v) (kFin VG2214 none (Try.f14).results.toList) = f14_10 F v :=
  seq_cut (by kernel_rfl) (by kernel_rfl) ef14j1 ef14j2 _ (fun k => f14_2 F k) (f14_9 F)
    (fun Rf14j2 => f14_2_eq F Rf14j2) (f14_9_eq F)
def f14_11 (F : Nat) : Ty6 → Rz := fun v => f14_1 F (f14_10 F) v
theorem f14_11_eq (F : Nat) : ∀ v,aexec VG2214 (Af14 F) (sub (bodyOf Try.f14) []) (ef14_a v) (kFin VG2214 none (Try.f14).results.toList) = f14_11 F v :=
  seq_cut (by kernel_rfl) (by kernel_rfl) ef14_a ef14j1 _ (fun k => f14_1 F k) (f14_10 F)
    (fun Rf14j1 => f14_1_eq F Rf14j1) (f14_10_eq F)
def f14 (F : Nat) : Ty6 → Rz := f14_11 F
theorem f14_body (F : Nat) (a0 : List (List Int)) (a1 : List (List Int)) : abody VG2214 (Af14 F) Try.f14 [(.vs (.rL .i64 a0) 0 1),(.vs (.rL .i64 a1) 0 1)] [] = f14 F (a0,a1) :=
  (abody_in (c := (sub (bodyOf Try.f14) [])) (by kernel_rfl) (s := ef14_a (a0,a1)) (by kernel_rfl)).trans (f14_11_eq F (a0,a1))
def r14 : CRun := fun X H => match X,H with
  | [(.vs (.rL .i64 a0) 0 1),(.vs (.rL .i64 a1) 0 1)],[] => some (true,(.bool (decide (a0 = a1))),[])
  | _,_ => none
theorem s14 (a0 : List (List Int)) (a1 : List (List Int)) (h0 : okV (.vs (.rL .i64 a0) 0 1)) (h1 : okV (.vs (.rL .i64 a1) 0 1)) : ∃ F,f14 F (a0,a1) = some ((.bool (decide (a0 = a1))),[]) := by
  have hl0 := h0.2
  have hl1 := h1.2
  refine ⟨a0.length + 1,?_⟩
  simp only [f14,f14_11,f14_1,f14_10,f14_2,int_bne]
  by_cases hl : a0.length = a1.length
  · rw [cond_neg (by omega)]
    simp only [f14_9,f14_7,f14_3,f14_6,f14_5,f14_5_i]
    refine loopN_ind (fun m s => s = (a0,a1,((a0.length - m : Nat) : Int)) ∧ m ≤ a0.length ∧ ∀ i,i < a0.length - m → a0.getD i [] = a1.getD i []) ?_ _ a0.length _ (by omega) ⟨by simp,Nat.le_refl _,fun i hi => by omega⟩
    rintro m s k ⟨rfl,hm,hi⟩ hk
    simp only [f14_4,dec_and,dec_not]
    cases m with
    | zero =>
      rw [cond_neg (by omega),decide_eq_true (list_eq [] hl fun i h => hi i (by omega))]
      rfl
    | succ m =>
      rw [Int.toNat_natCast,cond_pos (by omega),cond_pos (by omega),cond_pos (by omega)]
      by_cases he : a0.getD (a0.length - (m + 1)) [] = a1.getD (a0.length - (m + 1)) []
      · rw [cond_neg (fun h => h he),i64w (by omega) (by omega),show ((a0.length - (m + 1) : Nat) : Int) + 1 = ((a0.length - m : Nat) : Int) by omega]
        refine hk m _ (by omega) ⟨rfl,by omega,fun i hi' => ?_⟩
        by_cases hh : i < a0.length - (m + 1)
        · exact hi i hh
        · rw [show i = a0.length - (m + 1) by omega]; exact he
      · rw [cond_pos he,decide_eq_false (fun e => he (by rw [e]))]
  · rw [cond_pos (by omega),decide_eq_false (fun e => hl (by rw [e]))]
theorem c14 : CallOk Try.prog G22 14 r14 := callOk_of (V := VG2214) mixed tys eVG2214 (f := 14) (fn := Try.f14) Try.func14 (by kernel_rfl) (c := sub (bodyOf Try.f14) []) (by kernel_rfl) (by
  intro X H r H' h hX hH
  unfold r14 at h; split at h <;> try contradiction
  · simp only [Option.some.injEq,Prod.mk.injEq] at h
    obtain ⟨hp,rfl,rfl⟩ := h
    obtain ⟨F,hF⟩ := s14 _ _ (hX _ (.head _)) (hX _ (.tail _ (.head _)))
    exact ⟨Af14 F,(f14_body F _ _).trans hF⟩)
def f20_1 (F : Nat) (kf20j1 : Int → Rz) : Int → Rz := fun a0 => (kf20j1 a0)
def f20_2 (F : Nat) (kf20j2 : Int → Rz) : Int → Rz := fun t0 => (kf20j2 t0)
def f20_3 (F : Nat) (kf20j3 : Int × Int → Rz) (kf20j4 : (List Int) → Rz) : Int → Rz := fun t0 => (kf20j3 (t0,(0 : Int)))
def f20_4 (F : Nat) (kf20l1 : Int × Int × (List Int) → Rz) (kf20j4 : (List Int) → Rz) : Int × Int × (List Int) → Rz := fun (t0,t4,x3) => (cond (decide (t4 < t0)) (cond (decide ((x3.length + 1) < 1073741824)) (kf20l1 (t0,(IntKind.i64.wrap (t4 + (1 : Int))),(x3 ++ [t4]))) none) (kf20j4 x3))
def f20_5_i : Int × Int → Int × Int × (List Int) := fun (t0,t4) => (t0,t4,[])
def f20_5 (F : Nat) (kf20j4 : (List Int) → Rz) : Int × Int → Rz := fun v => loopN (fun k => f20_4 F k kf20j4) F (f20_5_i v)
def f20_6 (F : Nat) (kf20j4 : (List Int) → Rz) : Int × Int → Rz := f20_5 F kf20j4
def f20_7 (F : Nat) (kf20j4 : (List Int) → Rz) : Int → Rz := fun v => f20_3 F (f20_6 F kf20j4) kf20j4 v
def f20_8 (F : Nat) : (List Int) → Rz := fun x1 => (some ((.own 0 0 1),[(.cells x1.length (.rI .i64 x1) true)]))
def f20_9 (F : Nat) : Int → Rz := fun v => f20_7 F (f20_8 F) v
def f20_10 (F : Nat) : Int → Rz := fun v => f20_2 F (f20_9 F) v
def f20_11 (F : Nat) : Int → Rz := fun v => f20_1 F (f20_10 F) v
def f20 (F : Nat) : Int → Rz := f20_11 F
end Go.Am
