/- Part of a proof about the functions of the given program. -/
import Derived.Test.YtlenpjfgbbfmcaaDoorAm03H
set_option linter.unusedSimpArgs false
set_option linter.unusedVariables false
section
namespace Go.Am
open Go Go.Proofs
abbrev sp53 : List (Nat × Md) := [(0,.plain),(1,.plain),(3,.plain),(9,.plain),(10,.plain),(11,.plain)]
abbrev sp54 : List (Nat × Md) := [(0,.plain),(1,.plain),(2,.plain),(3,.plain),(9,.plain),(10,.plain)]
abbrev Ty38 := Int × Int × Int × Int × Li
abbrev Ty39 := Int × Int × Int × Int × Li × Li
def lVG0227 : List CEnt := [(34,[none,some 9],r34),(48,[some 3],r48)]
def VG0227 : Env := mkEnv T03 G02 lVG0227
noncomputable abbrev Kf35 := kFin VG0227 none (Tryd.f27).results.toList
theorem eVG0227 : EOk Tryd.prog VG0227 := eok_mk (by exact ⟨c34,c48,trivial⟩)
def Af27 (F : Nat) : Cuts := { F := F,at_ := fun n => match n with | 2010 => some sp53 | _ => none,join := fun n => match n with | 1018 => some sp54 | 2012 => some sp53 | 5003 => some [(9,.plain),(10,.plain)] | _ => none }
noncomputable abbrev XAf27 (F : Nat) {α : Type} := @aexec α VG0227 (Af27 F)
def ef27_a : Ty38 → St := fun (a0,a1,a2,a3,a4) => ⟨[(0,.int .i64 a0),(1,.int .i64 a1),(2,.int .i64 a2),(3,.int .i64 a3),(4,(.agg 16 (.rI .u8 a4)))],[],0,28,0⟩
def ef27j1 : Ty39 → St := fun (t0,t1,t2,t3,x5,x6) => ⟨[(0,.int .i64 t0),(1,.int .i64 t1),(2,.int .i64 t2),(3,.int .i64 t3),(9,.ptr 0 0 16 0 0 0 16),(10,.ptr 1 0 16 0 0 0 16)],[(0,(.cells 16 (.rI .u8 x5) true)),(1,(.cells 16 (.rI .u8 x6) true))],2,28,0⟩
def ef27j2 : Ty39 → St := fun (t0,t1,t3,t11,x5,x6) => ⟨[(0,.int .i64 t0),(1,.int .i64 t1),(3,.int .i64 t3),(9,.ptr 0 0 16 0 0 0 16),(10,.ptr 1 0 16 0 0 0 16),(11,.int .i64 t11)],[(0,(.cells 16 (.rI .u8 x5) true)),(1,(.cells 16 (.rI .u8 x6) true))],2,28,0⟩
def ef27l1 : Ty39 → St := ef27j2
def ef27j3 : Li × Li → St := fun (x1,x2) => ⟨[(9,.ptr 0 0 16 0 0 0 16),(10,.ptr 1 0 16 0 0 0 16)],[(0,(.cells 16 (.rI .u8 x1) true)),(1,(.cells 16 (.rI .u8 x2) true))],2,28,0⟩
def f27_1 (F : Nat) (kf27j1 : Ty39 → Rz) : Ty38 → Rz := fun (a0,a1,a2,a3,a4) => (kf27j1 (a0,a1,a2,a3,a4,(List.replicate 16 0)))
theorem f27_1_eq (F : Nat) (Rf27j1 : St → Rz) : ∀ v,XAf27 F (bp Tryd.f27 2) (ef27_a v) (kSeq (kc VG0227 Rf27j1 sp54) Kf35) = f27_1 F (Rf27j1 ∘ ef27j1) v := by
 rintro ⟨a0,a1,a2,a3,a4⟩; kernel_rfl
def f27_2 (F : Nat) (kf27j2 : Ty39 → Rz) (kf27j3 : Li × Li → Rz) : Ty39 → Rz := fun (t0,t1,t2,t3,x5,x6) => (kf27j2 (t0,t1,t3,t2,x5,x6))
theorem f27_2_eq (F : Nat) (Rf27j2 : St → Rz) (Rf27j3 : St → Rz) : ∀ v,XAf27 F (bp Tryd.f27 12) (ef27j1 v) (kSeq (kc VG0227 Rf27j2 sp53) (kSeq (kc VG0227 Rf27j3 [(9,.plain),(10,.plain)]) Kf35)) = f27_2 F (Rf27j2 ∘ ef27j2) (Rf27j3 ∘ ef27j3) v := by
 rintro ⟨t0,t1,t2,t3,x5,x6⟩; kernel_rfl
def f27_3 (F : Nat) (kf27l1 : Ty39 → Rz) (kf27j3 : Li × Li → Rz) : Ty39 → Rz := fun (t0,t1,t3,t11,x5,x6) => (cond (decide (t11 < t3)) (cond (decide ((Wire.ints [t0,t1,t11]).length < 1073741000)) (cond (Sha.few [(Wire.ints [t0,t1,t11]),(x5.take 16)]) (kf27l1 (t0,t1,t3,(IntKind.i64.wrap (t11 + (1 : Int))),(Sha.of (9 : Int) [(Wire.ints [t0,t1,t11]),(x5.take 16)]),x6)) none) none) (kf27j3 (x5,x6)))
theorem f27_3_eq (F : Nat) (Rf27l1 : St → Rz) (Rf27j3 : St → Rz) : ∀ v,XAf27 F (bp Tryd.f27 52) (ef27l1 v) (kSeq (kc VG0227 Rf27l1 sp53) (kBlock 0 (kSeq (kc VG0227 Rf27j3 [(9,.plain),(10,.plain)]) Kf35))) = f27_3 F (Rf27l1 ∘ ef27l1) (Rf27j3 ∘ ef27j3) v := by
 rintro ⟨t0,t1,t3,t11,x5,x6⟩; kernel_rfl
def f27_4_i : Ty39 → Int × Int × Int × Int × Li × Li := fun (t0,t1,t3,t11,x5,x6) => (t0,t1,t3,t11,x5,x6)
def f27_4 (F : Nat) (kf27j3 : Li × Li → Rz) : Ty39 → Rz := fun v => loopN (fun k => f27_3 F k kf27j3) F (f27_4_i v)
theorem f27_4_eq (F : Nat) (Rf27j3 : St → Rz) : ∀ v,XAf27 F (bp Tryd.f27 26) (ef27j2 v) (kBlock 0 (kSeq (kc VG0227 Rf27j3 [(9,.plain),(10,.plain)]) Kf35)) = f27_4 F (Rf27j3 ∘ ef27j3) v :=
 loop_cut (by kernel_rfl) (by kernel_rfl) ef27j2 ef27l1 _ f27_4_i (fun k => f27_3 F k (Rf27j3 ∘ ef27j3))
  (by rintro ⟨t0,t1,t3,t11,x5,x6⟩; kernel_rfl) (fun Rf27l1 => f27_3_eq F Rf27l1 Rf27j3)
def f27_5 (F : Nat) (kf27j3 : Li × Li → Rz) : Ty39 → Rz := f27_4 F kf27j3
theorem f27_5_eq (F : Nat) (Rf27j3 : St → Rz) : ∀ v,XAf27 F (bp Tryd.f27 13) (ef27j2 v) (kSeq (kc VG0227 Rf27j3 [(9,.plain),(10,.plain)]) Kf35) = f27_5 F (Rf27j3 ∘ ef27j3) v := fun v =>
 (block_in  (by kernel_rfl) _ _).trans (f27_4_eq F Rf27j3 v)
def f27_6 (F : Nat) (kf27j3 : Li × Li → Rz) : Ty39 → Rz := fun v => f27_2 F (f27_5 F kf27j3) kf27j3 v
theorem f27_6_eq (F : Nat) (Rf27j3 : St → Rz) : ∀ v,XAf27 F (bp Tryd.f27 6) (ef27j1 v) (kSeq (kc VG0227 Rf27j3 [(9,.plain),(10,.plain)]) Kf35) = f27_6 F (Rf27j3 ∘ ef27j3) v :=
 seq_cut (by kernel_rfl) (by kernel_rfl) ef27j1 ef27j2 _ (fun k => f27_2 F k (Rf27j3 ∘ ef27j3)) (f27_5 F (Rf27j3 ∘ ef27j3))
  (fun Rf27j2 => f27_2_eq F Rf27j2 Rf27j3) (f27_5_eq F Rf27j3)
def f27_7 (F : Nat) : Li × Li → Rz := fun (x1,x2) => (some ((.agg 16 (.rI .u8 x1)),[]))
theorem f27_7_eq (F : Nat) : ∀ v,XAf27 F (bp Tryd.f27 7) (ef27j3 v) Kf35 = f27_7 F v := by
 rintro ⟨x1,x2⟩; kernel_rfl
def f27_8 (F : Nat) : Ty39 → Rz := fun v => f27_6 F (f27_7 F) v
theorem f27_8_eq (F : Nat) : ∀ v,XAf27 F (bp Tryd.f27 3) (ef27j1 v) Kf35 = f27_8 F v :=
 seq_cut (by kernel_rfl) (by kernel_rfl) ef27j1 ef27j3 _ (fun k => f27_6 F k) (f27_7 F)
  (fun Rf27j3 => f27_6_eq F Rf27j3) (f27_7_eq F)
def f27_9 (F : Nat) : Ty38 → Rz := fun v => f27_1 F (f27_8 F) v
theorem f27_9_eq (F : Nat) : ∀ v,XAf27 F (sub (bodyOf Tryd.f27) []) (ef27_a v) Kf35 = f27_9 F v :=
 seq_cut (by kernel_rfl) (by kernel_rfl) ef27_a ef27j1 _ (fun k => f27_1 F k) (f27_8 F)
  (fun Rf27j1 => f27_1_eq F Rf27j1) (f27_8_eq F)
def f27 (F : Nat) : Ty38 → Rz := f27_9 F
theorem f27_body (F : Nat) (a0 : Int) (a1 : Int) (a2 : Int) (a3 : Int) (a4 : List Int) : abody VG0227 (Af27 F) Tryd.f27 [(.int .i64 a0),.int .i64 a1,.int .i64 a2,.int .i64 a3,(.agg 16 (.rI .u8 a4))] [] = f27 F (a0,a1,a2,a3,a4) :=
 (abody_in (c := (sub (bodyOf Tryd.f27) [])) (by kernel_rfl) (s := ef27_a (a0,a1,a2,a3,a4)) (by kernel_rfl)).trans (f27_9_eq F (a0,a1,a2,a3,a4))
def r27 : CRun := fun X H => match X,H with
 | [(.int .i64 a0),.int .i64 a1,.int .i64 a2,.int .i64 a3,(.agg 16 (.rI .u8 a4))],[] => some ((decide (a3 ≤ 3)),(.agg 16 (.rI .u8 (Sg.adv a0 a1 a2 (Int.toNat (a3 - a2)) a4))),[])
 | _,_ => none
theorem adv_snoc (i c : Int) : ∀ (n : Nat) (t : Int) (v : List Int),Sg.adv i c t (n + 1) v = Sg.step i c (t + n) (Sg.adv i c t n v)
 | 0,t,v => by simp [Sg.adv]
 | n + 1,t,v => by
  rw [Sg.adv,adv_snoc i c n (t + 1) _,Sg.adv]
  congr 1; omega
theorem s27 (a0 : Int) (a1 : Int) (a2 : Int) (a3 : Int) (a4 : List Int) (hp : ((decide (a3 ≤ 3))) = true) (h0 : okV (.int .i64 a0)) (h1 : okV (.int .i64 a1)) (h2 : okV (.int .i64 a2)) (h3 : okV (.int .i64 a3)) (h4 : okV (.agg 16 (.rI .u8 a4))) : ∃ F,f27 F (a0,a1,a2,a3,a4) = some ((.agg 16 (.rI .u8 (Sg.adv a0 a1 a2 (Int.toNat (a3 - a2)) a4))),[]) := by
 have hp' := of_decide_eq_true hp
 have hl := (okR_rI h4).1
 have h2' : -9223372036854775808 ≤ a2 ∧ a2 ≤ 9223372036854775807 := h2
 refine ⟨(Int.toNat (a3 - a2)) + 1,?_⟩
 simp only [f27_1,f27_2,f27_4_i,f27_4,f27_5,f27_6,f27_8,f27_9,f27]
 have hn : a2 + (Int.toNat (a3 - a2) : Int) = max a2 a3 := by omega
 refine loopN_from (fun i => (a0,a1,a3,a2 + (i : Int),Sg.adv a0 a1 a2 i a4,List.replicate 16 0)) (Int.toNat (a3 - a2)) (by simp only [Int.natCast_zero,Int.add_zero]; rfl) (fun i hi k => ?_) (fun k => ?_) _ (by omega)
 ·have hv := Sg.adv_len a0 a1 i a2 a4 hl
  simp only [f27_3]
  have hi1 := Sg.ints_le [a0,a1,a2 + (i : Int)]
  simp only [List.length_cons,List.length_nil] at hi1
  rw [cond_pos (by omega),cond_pos (by omega),Sg.take16 hv,Sg.few_ok (by intro s hs; simp only [List.mem_cons,List.not_mem_nil,or_false] at hs; rcases hs with rfl | rfl <;> omega) (by simp),cond_true,i64w (x := a2 + (i : Int) + 1) (by omega) (by omega)]
  rw [adv_snoc]
  have e : a2 + (i : Int) + 1 = a2 + ((i + 1 : Nat) : Int) := by omega
  rw [e]; rfl
 ·simp only [f27_3]
  rw [cond_neg (by omega)]
  rfl
theorem c27 : CallOk Tryd.prog G02 27 r27 := callOk_of (V := VG0227) mixed tys eVG0227 (f := 27) (fn := Tryd.f27) Tryd.func27 (by kernel_rfl) (c := sub (bodyOf Tryd.f27) []) (by kernel_rfl) (by
 intro X H r H' h hX hH
 unfold r27 at h; split at h <;> try contradiction
 ·simp only [Option.some.injEq,Prod.mk.injEq] at h
  obtain ⟨hp,rfl,rfl⟩ := h
  obtain ⟨F,hF⟩ := s27 _ _ _ _ _ hp (hX _ (.head _)) (hX _ (.tail _ (.head _))) (hX _ (.tail _ (.tail _ (.head _)))) (hX _ (.tail _ (.tail _ (.tail _ (.head _))))) (hX _ (.tail _ (.tail _ (.tail _ (.tail _ (.head _))))))
  exact ⟨Af27 F,(f27_body F _ _ _ _ _).trans hF⟩)
def lVG0228 : List CEnt := [(48,[some 3],r48),(49,[none,none],r49)]
def VG0228 : Env := mkEnv T03 G02 lVG0228
noncomputable abbrev Kf36 := kFin VG0228 none (Tryd.f28).results.toList
theorem eVG0228 : EOk Tryd.prog VG0228 := eok_mk (by exact ⟨c48,c49,trivial⟩)
def Af28 (F : Nat) : Cuts := { F := F,at_ := fun _ => none,join := fun _ => none }
def ef28_a : Li × Int × Int → St := fun (a0,a1,a2) => ⟨[(0,.str a0),(1,.int .i64 a1),(2,.int .i64 a2)],[],0,18,0⟩
def f28_1 (F : Nat) : Li × Int × Int → Rz := fun (a0,a1,a2) => (cond (decide ((Wire.ints [a1,a2]).length < 1073741000)) (cond (decide ((5 + (Wire.ints [a1,a2]).length) < 4611686018427387904)) (cond (decide ((16 : Int) ≤ (↑(Sha.mac a0 ([99,104,97,105,110] ++ (Wire.ints [a1,a2]))).length : Int))) (cond (decide (16 ≤ ((Sha.mac a0 ([99,104,97,105,110] ++ (Wire.ints [a1,a2]))).take 16).length)) (some ((.agg 16 (.rI .u8 (((Sha.mac a0 ([99,104,97,105,110] ++ (Wire.ints [a1,a2]))).take 16).take 16))),[])) none) none) none) none)
theorem f28_1_eq (F : Nat) : ∀ v,aexec VG0228 (Af28 F) (sub (bodyOf Tryd.f28) []) (ef28_a v) Kf36 = f28_1 F v := by
 rintro ⟨a0,a1,a2⟩; kernel_rfl
def f28 (F : Nat) : Li × Int × Int → Rz := f28_1 F
theorem f28_body (F : Nat) (a0 : List Int) (a1 : Int) (a2 : Int) : abody VG0228 (Af28 F) Tryd.f28 [(.str a0),.int .i64 a1,.int .i64 a2] [] = f28 F (a0,a1,a2) :=
 (abody_in (c := (sub (bodyOf Tryd.f28) [])) (by kernel_rfl) (s := ef28_a (a0,a1,a2)) (by kernel_rfl)).trans (f28_1_eq F (a0,a1,a2))
def r28 : CRun := fun X H => match X,H with
 | [(.str a0),.int .i64 a1,.int .i64 a2],[] => some (true,(.agg 16 (.rI .u8 (Sg.start a0 a1 a2))),[])
 | _,_ => none
theorem s28 (a0 : List Int) (a1 : Int) (a2 : Int) (h0 : okV (.str a0)) (h1 : okV (.int .i64 a1)) (h2 : okV (.int .i64 a2)) : ∃ F,f28 F (a0,a1,a2) = some ((.agg 16 (.rI .u8 (Sg.start a0 a1 a2))),[]) := by
 have hs : okS a0 := h0
 have hi1 := Sg.ints_le [a1,a2]
 simp only [List.length_cons,List.length_nil] at hi1
 refine ⟨0,?_⟩
 simp only [f28,f28_1]
 have hm := Sg.mac_len a0 ([99,104,97,105,110] ++ Wire.ints [a1,a2])
 have h16 : ((Sha.mac a0 ([99,104,97,105,110] ++ Wire.ints [a1,a2])).take 16).length = 16 := by rw [List.length_take]; omega
 rw [cond_pos (by omega),cond_pos (by omega),cond_pos (by omega),cond_pos (by omega),Sg.take16 h16]
 rfl
theorem c28 : CallOk Tryd.prog G02 28 r28 := callOk_of (V := VG0228) mixed tys eVG0228 (f := 28) (fn := Tryd.f28) Tryd.func28 (by kernel_rfl) (c := sub (bodyOf Tryd.f28) []) (by kernel_rfl) (by
 intro X H r H' h hX hH
 unfold r28 at h; split at h <;> try contradiction
 ·simp only [Option.some.injEq,Prod.mk.injEq] at h
  obtain ⟨hp,rfl,rfl⟩ := h
  obtain ⟨F,hF⟩ := s28 _ _ _ (hX _ (.head _)) (hX _ (.tail _ (.head _))) (hX _ (.tail _ (.tail _ (.head _))))
  exact ⟨Af28 F,(f28_body F _ _ _).trans hF⟩)
def lVG0240 : List CEnt := [(34,[none,some 9],r34)]
def VG0240 : Env := mkEnv T03 G02 lVG0240
noncomputable abbrev Kf37 := kFin VG0240 none (Tryd.f40).results.toList
theorem eVG0240 : EOk Tryd.prog VG0240 := eok_mk (by exact ⟨c34,trivial⟩)
def Af40 (F : Nat) : Cuts := { F := F,at_ := fun _ => none,join := fun _ => none }
def ef40_a : Li × Li → St := fun (a0,a1) => ⟨[(0,(.agg 16 (.rI .u8 a0))),(1,(.agg 16 (.rI .u8 a1)))],[],0,11,0⟩
def f40_1 (F : Nat) : Li × Li → Rz := fun (a0,a1) => (cond (Sha.few [(a0.take 16),(a1.take 16)]) (some ((.agg 16 (.rI .u8 (Sha.of (2 : Int) [(a0.take 16),(a1.take 16)]))),[])) none)
theorem f40_1_eq (F : Nat) : ∀ v,aexec VG0240 (Af40 F) (sub (bodyOf Tryd.f40) []) (ef40_a v) Kf37 = f40_1 F v := by
 rintro ⟨a0,a1⟩; kernel_rfl
def f40 (F : Nat) : Li × Li → Rz := f40_1 F
theorem f40_body (F : Nat) (a0 : List Int) (a1 : List Int) : abody VG0240 (Af40 F) Tryd.f40 [(.agg 16 (.rI .u8 a0)),(.agg 16 (.rI .u8 a1))] [] = f40 F (a0,a1) :=
 (abody_in (c := (sub (bodyOf Tryd.f40) [])) (by kernel_rfl) (s := ef40_a (a0,a1)) (by kernel_rfl)).trans (f40_1_eq F (a0,a1))
def r40 : CRun := fun X H => match X,H with
 | [(.agg 16 (.rI .u8 a0)),(.agg 16 (.rI .u8 a1))],[] => some (true,(.agg 16 (.rI .u8 (Sg.node a0 a1))),[])
 | _,_ => none
theorem s40 (a0 : List Int) (a1 : List Int) (h0 : okV (.agg 16 (.rI .u8 a0))) (h1 : okV (.agg 16 (.rI .u8 a1))) : ∃ F,f40 F (a0,a1) = some ((.agg 16 (.rI .u8 (Sg.node a0 a1))),[]) := by
 have h0' := (okR_rI h0).1
 have h1' := (okR_rI h1).1
 refine ⟨0,?_⟩
 simp only [f40,f40_1]
 rw [Sg.take16 h0',Sg.take16 h1',Sg.few_ok (by intro s hs; simp only [List.mem_cons,List.not_mem_nil,or_false] at hs; rcases hs with rfl | rfl <;> omega) (by simp),cond_true]
 rfl
theorem c40 : CallOk Tryd.prog G02 40 r40 := callOk_of (V := VG0240) mixed tys eVG0240 (f := 40) (fn := Tryd.f40) Tryd.func40 (by kernel_rfl) (c := sub (bodyOf Tryd.f40) []) (by kernel_rfl) (by
 intro X H r H' h hX hH
 unfold r40 at h; split at h <;> try contradiction
 ·simp only [Option.some.injEq,Prod.mk.injEq] at h
  obtain ⟨hp,rfl,rfl⟩ := h
  obtain ⟨F,hF⟩ := s40 _ _ (hX _ (.head _)) (hX _ (.tail _ (.head _)))
  exact ⟨Af40 F,(f40_body F _ _).trans hF⟩)
def lVG0216 : List CEnt := [(26,[none],r26),(34,[none,some 9],r34)]
def VG0216 : Env := mkEnv T03 G02 lVG0216
noncomputable abbrev Kf38 := kFin VG0216 none (Tryd.f16).results.toList
theorem eVG0216 : EOk Tryd.prog VG0216 := eok_mk (by exact ⟨c26,c34,trivial⟩)
def Af16 (F : Nat) : Cuts := { F := F,at_ := fun _ => none,join := fun _ => none }
def ef16_a : Ty34 → St := fun (a0,a1,a2) => ⟨[(0,(.agg 16 (.rI .u8 a0))),(1,.int .i64 a1),(2,.str a2)],[],0,15,0⟩
def f16_1 (F : Nat) : Ty34 → Rz := fun (a0,a1,a2) => (cond (Sha.few [(a0.take 16),(Wire.int a1),a2]) (some ((.agg 16 (.rI .u8 (Sha.of (4 : Int) [(a0.take 16),(Wire.int a1),a2]))),[])) none)
theorem f16_1_eq (F : Nat) : ∀ v,aexec VG0216 (Af16 F) (sub (bodyOf Tryd.f16) []) (ef16_a v) Kf38 = f16_1 F v := by
 rintro ⟨a0,a1,a2⟩; kernel_rfl
def f16 (F : Nat) : Ty34 → Rz := f16_1 F
theorem f16_body (F : Nat) (a0 : List Int) (a1 : Int) (a2 : List Int) : abody VG0216 (Af16 F) Tryd.f16 [(.agg 16 (.rI .u8 a0)),.int .i64 a1,.str a2] [] = f16 F (a0,a1,a2) :=
 (abody_in (c := (sub (bodyOf Tryd.f16) [])) (by kernel_rfl) (s := ef16_a (a0,a1,a2)) (by kernel_rfl)).trans (f16_1_eq F (a0,a1,a2))
def r16 : CRun := fun X H => match X,H with
 | [(.agg 16 (.rI .u8 a0)),.int .i64 a1,.str a2],[] => some ((decide (a2.length < 1073741000)),(.agg 16 (.rI .u8 (Sg.digest a0 a1 a2))),[])
 | _,_ => none
theorem s16 (a0 : List Int) (a1 : Int) (a2 : List Int) (hp : ((decide (a2.length < 1073741000))) = true) (h0 : okV (.agg 16 (.rI .u8 a0))) (h1 : okV (.int .i64 a1)) (h2 : okV (.str a2)) : ∃ F,f16 F (a0,a1,a2) = some ((.agg 16 (.rI .u8 (Sg.digest a0 a1 a2))),[]) := by
 have h0' := (okR_rI h0).1
 have hp' := of_decide_eq_true hp
 have hi := Sg.int_le a1
 refine ⟨0,?_⟩
 simp only [f16,f16_1]
 rw [Sg.take16 h0',Sg.few_ok (by intro s hs; simp only [List.mem_cons,List.not_mem_nil,or_false] at hs; rcases hs with rfl | rfl | rfl <;> omega) (by simp),cond_true]
 rfl
theorem c16 : CallOk Tryd.prog G02 16 r16 := callOk_of (V := VG0216) mixed tys eVG0216 (f := 16) (fn := Tryd.f16) Tryd.func16 (by kernel_rfl) (c := sub (bodyOf Tryd.f16) []) (by kernel_rfl) (by
 intro X H r H' h hX hH
 unfold r16 at h; split at h <;> try contradiction
 ·simp only [Option.some.injEq,Prod.mk.injEq] at h
  obtain ⟨hp,rfl,rfl⟩ := h
  obtain ⟨F,hF⟩ := s16 _ _ _ hp (hX _ (.head _)) (hX _ (.tail _ (.head _))) (hX _ (.tail _ (.tail _ (.head _))))
  exact ⟨Af16 F,(f16_body F _ _ _).trans hF⟩)
def lVG0245 : List CEnt := [(27,[none,none,none,none,none],r27),(28,[none,none,none],r28)]
def VG0245 : Env := mkEnv T03 G02 lVG0245
noncomputable abbrev Kf39 := kFin VG0245 none (Tryd.f45).results.toList
theorem eVG0245 : EOk Tryd.prog VG0245 := eok_mk (by exact ⟨c27,c28,trivial⟩)
def Af45 (F : Nat) : Cuts := { F := F,at_ := fun _ => none,join := fun _ => none }
def ef45_a : Int × Int × Li → St := fun (a0,a1,a2) => ⟨[(0,.int .i64 a0),(1,.ptr 0 0 1 0 0 0 1),(2,.ptr 1 0 1 0 0 0 1)],[(0,(.cells 1 (.one (.int .i64 a1)) true)),(1,(.cells 1 (.one (.str a2)) true))],2,12,2⟩
def f45_1 (F : Nat) : Int × Int × Li → Rz := fun (a0,a1,a2) => (cond (decide ((3 : Int) ≤ 3)) (some ((.agg 16 (.rI .u8 (Sg.adv a1 a0 (0 : Int) (Int.toNat ((3 : Int) - (0 : Int))) (Sg.start a2 a1 a0)))),[(.cells 1 (.one (.int .i64 a1)) true),(.cells 1 (.one (.str a2)) true)])) none)
theorem f45_1_eq (F : Nat) : ∀ v,aexec VG0245 (Af45 F) (sub (bodyOf Tryd.f45) []) (ef45_a v) Kf39 = f45_1 F v := by
 rintro ⟨a0,a1,a2⟩; kernel_rfl
def f45 (F : Nat) : Int × Int × Li → Rz := f45_1 F
theorem f45_body (F : Nat) (a0 : Int) (a1 : Int) (a2 : List Int) : abody VG0245 (Af45 F) Tryd.f45 [(.int .i64 a0),.ptr 0 0 1 0 0 0 1,.ptr 1 0 1 0 0 0 1] [(.cells 1 (.one (.int .i64 a1)) true),(.cells 1 (.one (.str a2)) true)] = f45 F (a0,a1,a2) :=
 (abody_in (c := (sub (bodyOf Tryd.f45) [])) (by kernel_rfl) (s := ef45_a (a0,a1,a2)) (by kernel_rfl)).trans (f45_1_eq F (a0,a1,a2))
def r45 : CRun := fun X H => match X,H with
 | [(.int .i64 a0),.ptr 0 0 1 0 0 0 1,.ptr 1 0 1 0 0 0 1],[(.cells 1 (.one (.int .i64 a1)) true),(.cells 1 (.one (.str a2)) true)] => some (true,(.agg 16 (.rI .u8 (Sg.adv a1 a0 0 3 (Sg.start a2 a1 a0)))),[(.cells 1 (.one (.int .i64 a1)) true),(.cells 1 (.one (.str a2)) true)])
 | _,_ => none
theorem s45 (a0 : Int) (a1 : Int) (a2 : List Int) (h0 : okV (.int .i64 a0)) (k0 : okB (.cells 1 (.one (.int .i64 a1)) true)) (k1 : okB (.cells 1 (.one (.str a2)) true)) : ∃ F,f45 F (a0,a1,a2) = some ((.agg 16 (.rI .u8 (Sg.adv a1 a0 0 3 (Sg.start a2 a1 a0)))),[(.cells 1 (.one (.int .i64 a1)) true),(.cells 1 (.one (.str a2)) true)]) := by
 refine ⟨0,?_⟩
 simp only [f45,f45_1]
 rw [cond_pos (by omega)]
 rfl
theorem c45 : CallOk Tryd.prog G02 45 r45 := callOk_of (V := VG0245) mixed tys eVG0245 (f := 45) (fn := Tryd.f45) Tryd.func45 (by kernel_rfl) (c := sub (bodyOf Tryd.f45) []) (by kernel_rfl) (by
 intro X H r H' h hX hH
 unfold r45 at h; split at h <;> try contradiction
 ·simp only [Option.some.injEq,Prod.mk.injEq] at h
  obtain ⟨hp,rfl,rfl⟩ := h
  obtain ⟨F,hF⟩ := s45 _ _ _ (hX _ (.head _)) (hH _ (.head _)) (hH _ (.tail _ (.head _)))
  exact ⟨Af45 F,(f45_body F _ _ _).trans hF⟩)
def lVG0237 : List CEnt := []
def VG0237 : Env := mkEnv T03 G02 lVG0237
noncomputable abbrev Kf40 := kFin VG0237 none (Tryd.f37).results.toList
theorem eVG0237 : EOk Tryd.prog VG0237 := eok_mk (by exact trivial)
def Af37 (F : Nat) : Cuts := { F := F,at_ := fun _ => none,join := fun _ => none }
def ef37_a : Int × Li → St := fun (a0,a1) => ⟨[(0,.int .i64 a0),(1,.ptr 0 0 1 0 0 0 1)],[(0,(.cells 1 (.one (.own 1 0 1)) true)),(1,(.cells a1.length (.rI .u8 a1) true))],2,13,2⟩
def f37_1 (F : Nat) : Int × Li → Rz := fun (a0,a1) => (cond (((decide (0 ≤ (IntKind.i64.wrap (a0 * (16 : Int))))) && (decide ((IntKind.i64.wrap (a0 * (16 : Int))) ≤ (IntKind.i64.wrap ((IntKind.i64.wrap (a0 + (1 : Int))) * (16 : Int)))))) && (decide ((IntKind.i64.wrap ((IntKind.i64.wrap (a0 + (1 : Int))) * (16 : Int))) ≤ (↑a1.length : Int)))) (cond (decide (16 ≤ ((Int.toNat (IntKind.i64.wrap ((IntKind.i64.wrap (a0 + (1 : Int))) * (16 : Int)))) - (Int.toNat (IntKind.i64.wrap (a0 * (16 : Int))))))) (some ((.agg 16 (.rI .u8 ((a1.drop (Int.toNat (IntKind.i64.wrap (a0 * (16 : Int))))).take 16))),[(.cells 1 (.one (.own 1 0 1)) true),(.cells a1.length (.rI .u8 a1) true)])) none) none)
theorem f37_1_eq (F : Nat) : ∀ v,aexec VG0237 (Af37 F) (sub (bodyOf Tryd.f37) []) (ef37_a v) Kf40 = f37_1 F v := by
 rintro ⟨a0,a1⟩; kernel_rfl
def f37 (F : Nat) : Int × Li → Rz := f37_1 F
theorem f37_body (F : Nat) (a0 : Int) (a1 : List Int) : abody VG0237 (Af37 F) Tryd.f37 [(.int .i64 a0),.ptr 0 0 1 0 0 0 1] [(.cells 1 (.one (.own 1 0 1)) true),(.cells a1.length (.rI .u8 a1) true)] = f37 F (a0,a1) :=
 (abody_in (c := (sub (bodyOf Tryd.f37) [])) (by kernel_rfl) (s := ef37_a (a0,a1)) (by kernel_rfl)).trans (f37_1_eq F (a0,a1))
def r37 : CRun := fun X H => match X,H with
 | [(.int .i64 a0),.ptr 0 0 1 0 0 0 1],[(.cells 1 (.one (.own 1 0 1)) true),(.cells z1 (.rI .u8 a1) true)] => some (((decide (0 ≤ a0)) && ((decide ((a0 + 1) * 16 ≤ (a1.length : Int))) && (decide (a1.length < 1073741000)))),(.agg 16 (.rI .u8 ((a1.drop (Int.toNat (a0 * 16))).take 16))),[(.cells 1 (.one (.own 1 0 1)) true),(.cells a1.length (.rI .u8 a1) true)])
 | _,_ => none
theorem s37 (a0 : Int) (a1 : List Int) (hp : (((decide (0 ≤ a0)) && ((decide ((a0 + 1) * 16 ≤ (a1.length : Int))) && (decide (a1.length < 1073741000))))) = true) (h0 : okV (.int .i64 a0)) (k0 : okB (.cells 1 (.one (.own 1 0 1)) true)) (k1 : okB (.cells a1.length (.rI .u8 a1) true)) : ∃ F,f37 F (a0,a1) = some ((.agg 16 (.rI .u8 ((a1.drop (Int.toNat (a0 * 16))).take 16))),[(.cells 1 (.one (.own 1 0 1)) true),(.cells a1.length (.rI .u8 a1) true)]) := by
 simp only [Bool.and_eq_true,decide_eq_true_eq] at hp
 have hz := (okR_rI (k := .u8) k1).1
 have h0' : -9223372036854775808 ≤ a0 ∧ a0 ≤ 9223372036854775807 := h0
 refine ⟨0,?_⟩
 simp only [f37,f37_1,dec_and]
 rw [i64w (x := a0 + 1) (by omega) (by omega),i64w (x := (a0 + 1) * 16) (by omega) (by omega),i64w (x := a0 * 16) (by omega) (by omega),cond_pos (by omega),cond_pos (by omega)]
theorem c37 : CallOk Tryd.prog G02 37 r37 := callOk_of (V := VG0237) mixed tys eVG0237 (f := 37) (fn := Tryd.f37) Tryd.func37 (by kernel_rfl) (c := sub (bodyOf Tryd.f37) []) (by kernel_rfl) (by
 intro X H r H' h hX hH
 unfold r37 at h; split at h <;> try contradiction
 ·simp only [Option.some.injEq,Prod.mk.injEq] at h
  obtain ⟨hp,rfl,rfl⟩ := h
  obtain rfl := okB_size (hH _ (.tail _ (.head _))) rfl
  obtain ⟨F,hF⟩ := s37 _ _ hp (hX _ (.head _)) (hH _ (.head _)) (hH _ (.tail _ (.head _)))
  exact ⟨Af37 F,(f37_body F _ _).trans hF⟩)
def lVG0239 : List CEnt := [(27,[none,none,none,none,none],r27),(37,[none,none],r37)]
def VG0239 : Env := mkEnv T03 G02 lVG0239
noncomputable abbrev Kf41 := kFin VG0239 none (Tryd.f39).results.toList
theorem eVG0239 : EOk Tryd.prog VG0239 := eok_mk (by exact ⟨c27,c37,trivial⟩)
def Af39 (F : Nat) : Cuts := { F := F,at_ := fun _ => none,join := fun _ => none }
def ef39_a : Ty20 → St := fun (a0,a1,a2,a3) => ⟨[(0,.int .i64 a0),(1,.ptr 0 0 1 0 0 0 1),(2,.ptr 1 0 1 0 0 0 1),(3,.ptr 2 0 1 0 0 0 1)],[(0,(.cells 1 (.one (.int .i64 a1)) true)),(1,(.cells 1 (.one (.vs (.rI .i64 a2) 0 1)) true)),(2,(.cells 1 (.one (.fn 37 (.cons 0 (.ptr 3 0 1 0 0 0 1) .nil))) true)),(3,(.cells 1 (.one (.own 4 0 1)) true)),(4,(.cells a3.length (.rI .u8 a3) true))],5,16,5⟩
def f39_1 (F : Nat) : Ty20 → Rz := fun (a0,a1,a2,a3) => (cond ((decide (0 ≤ a0)) && (decide (a0 < (↑a2.length : Int)))) (cond ((decide (0 ≤ a0)) && ((decide ((a0 + 1) * 16 ≤ (a3.length : Int))) && (decide (a3.length < 1073741000)))) (cond (decide ((3 : Int) ≤ 3)) (some ((.agg 16 (.rI .u8 (Sg.adv a1 a0 (a2.getD (Int.toNat a0) 0) (Int.toNat ((3 : Int) - (a2.getD (Int.toNat a0) 0))) ((a3.drop (Int.toNat (a0 * 16))).take 16)))),[(.cells 1 (.one (.int .i64 a1)) true),(.cells 1 (.one (.vs (.rI .i64 a2) 0 1)) true),(.cells 1 (.one (.fn 37 (.cons 0 (.ptr 3 0 1 0 0 0 1) .nil))) true),(.cells 1 (.one (.own 4 0 1)) true),(.cells a3.length (.rI .u8 a3) true)])) none) none) none)
theorem f39_1_eq (F : Nat) : ∀ v,aexec VG0239 (Af39 F) (sub (bodyOf Tryd.f39) []) (ef39_a v) Kf41 = f39_1 F v := by
 rintro ⟨a0,a1,a2,a3⟩; kernel_rfl
def f39 (F : Nat) : Ty20 → Rz := f39_1 F
theorem f39_body (F : Nat) (a0 : Int) (a1 : Int) (a2 : List Int) (a3 : List Int) : abody VG0239 (Af39 F) Tryd.f39 [(.int .i64 a0),.ptr 0 0 1 0 0 0 1,.ptr 1 0 1 0 0 0 1,.ptr 2 0 1 0 0 0 1] [(.cells 1 (.one (.int .i64 a1)) true),(.cells 1 (.one (.vs (.rI .i64 a2) 0 1)) true),(.cells 1 (.one (.fn 37 (.cons 0 (.ptr 3 0 1 0 0 0 1) .nil))) true),(.cells 1 (.one (.own 4 0 1)) true),(.cells a3.length (.rI .u8 a3) true)] = f39 F (a0,a1,a2,a3) :=
 (abody_in (c := (sub (bodyOf Tryd.f39) [])) (by kernel_rfl) (s := ef39_a (a0,a1,a2,a3)) (by kernel_rfl)).trans (f39_1_eq F (a0,a1,a2,a3))
def r39 : CRun := fun X H => match X,H with
 | [(.int .i64 a0),.ptr 0 0 1 0 0 0 1,.ptr 1 0 1 0 0 0 1,.ptr 2 0 1 0 0 0 1],[(.cells 1 (.one (.int .i64 a1)) true),(.cells 1 (.one (.vs (.rI .i64 a2) 0 1)) true),(.cells 1 (.one (.fn 37 (.cons 0 (.ptr 3 0 1 0 0 0 1) .nil))) true),(.cells 1 (.one (.own 4 0 1)) true),(.cells z4 (.rI .u8 a3) true)] => some (((decide (0 ≤ a0)) && ((decide (a0 < (a2.length : Int))) && ((decide ((a0 + 1) * 16 ≤ (a3.length : Int))) && (decide (a3.length < 1073741000))))),(.agg 16 (.rI .u8 (Sg.chainV a1 a2 a3 (Int.toNat a0)))),[(.cells 1 (.one (.int .i64 a1)) true),(.cells 1 (.one (.vs (.rI .i64 a2) 0 1)) true),(.cells 1 (.one (.fn 37 (.cons 0 (.ptr 3 0 1 0 0 0 1) .nil))) true),(.cells 1 (.one (.own 4 0 1)) true),(.cells a3.length (.rI .u8 a3) true)])
 | _,_ => none
theorem s39 (a0 : Int) (a1 : Int) (a2 : List Int) (a3 : List Int) (hp : (((decide (0 ≤ a0)) && ((decide (a0 < (a2.length : Int))) && ((decide ((a0 + 1) * 16 ≤ (a3.length : Int))) && (decide (a3.length < 1073741000)))))) = true) (h0 : okV (.int .i64 a0)) (k0 : okB (.cells 1 (.one (.int .i64 a1)) true)) (k1 : okB (.cells 1 (.one (.vs (.rI .i64 a2) 0 1)) true)) (k2 : okB (.cells 1 (.one (.fn 37 (.cons 0 (.ptr 3 0 1 0 0 0 1) .nil))) true)) (k3 : okB (.cells 1 (.one (.own 4 0 1)) true)) (k4 : okB (.cells a3.length (.rI .u8 a3) true)) : ∃ F,f39 F (a0,a1,a2,a3) = some ((.agg 16 (.rI .u8 (Sg.chainV a1 a2 a3 (Int.toNat a0)))),[(.cells 1 (.one (.int .i64 a1)) true),(.cells 1 (.one (.vs (.rI .i64 a2) 0 1)) true),(.cells 1 (.one (.fn 37 (.cons 0 (.ptr 3 0 1 0 0 0 1) .nil))) true),(.cells 1 (.one (.own 4 0 1)) true),(.cells a3.length (.rI .u8 a3) true)]) := by
 simp only [Bool.and_eq_true,decide_eq_true_eq] at hp
 refine ⟨0,?_⟩
 simp only [f39,f39_1,dec_and]
 rw [cond_pos (by omega),cond_pos (by omega),cond_pos (by omega)]
 simp only [Sg.chainV,Sg.val]
 have e : ((Int.toNat a0 : Nat) : Int) = a0 := by omega
 have e2 : Int.toNat (a0 * 16) = Int.toNat a0 * 16 := by omega
 rw [e,e2]
theorem c39 : CallOk Tryd.prog G02 39 r39 := callOk_of (V := VG0239) mixed tys eVG0239 (f := 39) (fn := Tryd.f39) Tryd.func39 (by kernel_rfl) (c := sub (bodyOf Tryd.f39) []) (by kernel_rfl) (by
 intro X H r H' h hX hH
 unfold r39 at h; split at h <;> try contradiction
 ·simp only [Option.some.injEq,Prod.mk.injEq] at h
  obtain ⟨hp,rfl,rfl⟩ := h
  obtain rfl := okB_size (hH _ (.tail _ (.tail _ (.tail _ (.tail _ (.head _)))))) rfl
  obtain ⟨F,hF⟩ := s39 _ _ _ _ hp (hX _ (.head _)) (hH _ (.head _)) (hH _ (.tail _ (.head _))) (hH _ (.tail _ (.tail _ (.head _)))) (hH _ (.tail _ (.tail _ (.tail _ (.head _))))) (hH _ (.tail _ (.tail _ (.tail _ (.tail _ (.head _))))))
  exact ⟨Af39 F,(f39_body F _ _ _ _).trans hF⟩)
end Go.Am
end
section
namespace Go.Am
open Go Go.Proofs
abbrev sp55 : List (Nat × Md) := [(0,.plain),(2,.plain),(3,.plain),(7,.plain)]
abbrev Ty40 := Int × Int × Li × Li × Li
abbrev Ty41 := Int × Int × Li × Li × Li × Li
def lVG0238 : List CEnt := [(25,[none,some 5],r25),(29,[none],r29),(34,[none,some 9],r34),(39,[none,none,none,none],r39),(45,[none,none,none],r45)]
def VG0238 : Env := mkEnv T03 G02 lVG0238
noncomputable abbrev Kf42 := kFin VG0238 none (Tryd.f38).results.toList
theorem eVG0238 : EOk Tryd.prog VG0238 := eok_mk (by exact ⟨c25,c29,c34,c39,c45,trivial⟩)
def Af38 (F : Nat) : Cuts := { F := F,at_ := fun n => match n with | 3014 => some sp55 | _ => none,join := fun n => match n with | 1026 => some [(0,.plain),(2,.plain)] | 2024 => some sp2 | 3016 => some sp55 | 8005 => some [(2,.plain),(3,.plain)] | _ => none,peel := fun n => match n with | 3014 => true | _ => false }
noncomputable abbrev XAf38 (F : Nat) {α : Type} := @aexec α VG0238 (Af38 F)
def ef38_a : Int × Li → St := fun (a0,a1) => ⟨[(0,(.fn 45 (.cons 0 (.ptr 0 0 1 0 0 0 1) (.cons 0 (.ptr 1 0 1 0 0 0 1) .nil))))],[(0,(.cells 1 (.one (.int .i64 a0)) true)),(1,(.cells 1 (.one (.str a1)) true))],2,23,2⟩
def ef38j1 : Ty19 → St := fun (x1,x2,x3) => ⟨[(0,(.fn 45 (.cons 0 (.ptr 0 0 1 0 0 0 1) (.cons 0 (.ptr 1 0 1 0 0 0 1) .nil)))),(2,.ptr 2 0 16 0 0 0 16)],[(0,(.cells 1 (.one (.int .i64 x1)) true)),(1,(.cells 1 (.one (.str x2)) true)),(2,(.cells 16 (.rI .u8 x3) true))],3,23,2⟩
def ef38j2 : Ty19 → St := fun (x1,x2,x3) => ⟨[(0,(.fn 45 (.cons 0 (.ptr 0 0 1 0 0 0 1) (.cons 0 (.ptr 1 0 1 0 0 0 1) .nil)))),(2,.ptr 2 0 16 0 0 0 16),(3,.ptr 3 0 2 0 0 0 2)],[(0,(.cells 1 (.one (.int .i64 x1)) true)),(1,(.cells 1 (.one (.str x2)) true)),(2,(.cells 16 (.rI .u8 x3) true)),(3,(.cells 2 (.segs (.cons 0 (.rT [.int .u32,.int .u32,.int .i8] []) (.cons 1 (.one .nilp) (.cons 1 (.one .ns) .nil)))) true))],4,23,2⟩
def ef38j3 : Ty19 → St := fun (x1,x2,x3) => ⟨[(0,(.fn 45 (.cons 0 (.ptr 0 0 1 0 0 0 1) (.cons 0 (.ptr 1 0 1 0 0 0 1) .nil)))),(2,.ptr 2 0 16 0 0 0 16),(3,.ptr 3 0 2 0 0 0 2),(7,.int .i64 0)],[(0,(.cells 1 (.one (.int .i64 x1)) true)),(1,(.cells 1 (.one (.str x2)) true)),(2,(.cells 16 (.rI .u8 x3) true)),(3,(.cells 2 (.segs (.cons 0 (.rT [.int .u32,.int .u32,.int .i8] []) (.cons 1 (.one .nilp) (.cons 1 (.one .ns) .nil)))) true))],4,23,2⟩
def ef38l1 : Ty40 → St := fun (t7,x2,x3,x4,x5) => ⟨[(0,(.fn 45 (.cons 0 (.ptr 0 0 1 0 0 0 1) (.cons 0 (.ptr 1 0 1 0 0 0 1) .nil)))),(2,.ptr 2 0 16 0 0 0 16),(3,.ptr 3 0 2 0 0 0 2),(7,.int .i64 t7)],[(0,(.cells 1 (.one (.int .i64 x2)) true)),(1,(.cells 1 (.one (.str x3)) true)),(2,(.cells 16 (.rI .u8 x4) true)),(3,(.cells 2 (.segs (.cons 0 (.rT [.int .u32,.int .u32,.int .i8] []) (.cons 1 (.one (.ptr 3 0 2 0 0 0 2)) (.cons 1 (.one (.own 4 0 1)) .nil)))) true)),(4,(.cells (0 + x5.length) (.segs (.cons 0 (.rT [.int .u16,.int .i8,.int .i8,.int .i16] []) (.cons x5.length (.rI .u8 x5) .nil))) true))],5,23,2⟩
def ef38j4 : Ty30 → St := fun (x1,x2,x3,x4) => ⟨[(2,.ptr 2 0 16 0 0 0 16),(3,.ptr 3 0 2 0 0 0 2)],[(0,(.cells 1 (.one (.int .i64 x1)) true)),(1,(.cells 1 (.one (.str x2)) true)),(2,(.cells 16 (.rI .u8 x3) true)),(3,(.cells 2 (.segs (.cons 0 (.rT [.int .u32,.int .u32,.int .i8] []) (.cons 1 (.one (.ptr 3 0 2 0 0 0 2)) (.cons 1 (.one (.own 4 0 1)) .nil)))) true)),(4,(.cells (0 + x4.length) (.segs (.cons 0 (.rT [.int .u16,.int .i8,.int .i8,.int .i16] []) (.cons x4.length (.rI .u8 x4) .nil))) true))],5,23,2⟩
def f38_1 (F : Nat) (kf38j1 : Ty19 → Rz) : Int × Li → Rz := fun (a0,a1) => (kf38j1 (a0,a1,(List.replicate 16 0)))
theorem f38_1_eq (F : Nat) (Rf38j1 : St → Rz) : ∀ v,XAf38 F (bp Tryd.f38 2) (ef38_a v) (kSeq (kc VG0238 Rf38j1 [(0,.plain),(2,.plain)]) Kf42) = f38_1 F (Rf38j1 ∘ ef38j1) v := by
 rintro ⟨a0,a1⟩; kernel_rfl
def f38_2 (F : Nat) (kf38j2 : Ty19 → Rz) : Ty19 → Rz := fun (x1,x2,x3) => (kf38j2 (x1,x2,x3))
theorem f38_2_eq (F : Nat) (Rf38j2 : St → Rz) : ∀ v,XAf38 F (bp Tryd.f38 6) (ef38j1 v) (kSeq (kc VG0238 Rf38j2 sp2) Kf42) = f38_2 F (Rf38j2 ∘ ef38j2) v := by
 rintro ⟨x1,x2,x3⟩; kernel_rfl
def f38_3 (F : Nat) (kf38j3 : Ty19 → Rz) (kf38j4 : Ty30 → Rz) : Ty19 → Rz := fun (x1,x2,x3) => (kf38j3 (x1,x2,x3))
theorem f38_3_eq (F : Nat) (Rf38j3 : St → Rz) (Rf38j4 : St → Rz) : ∀ v,XAf38 F (bp Tryd.f38 28) (ef38j2 v) (kSeq (kc VG0238 Rf38j3 sp55) (kSeq (kc VG0238 Rf38j4 [(2,.plain),(3,.plain)]) Kf42)) = f38_3 F (Rf38j3 ∘ ef38j3) (Rf38j4 ∘ ef38j4) v := by
 rintro ⟨x1,x2,x3⟩; kernel_rfl
def f38_4 (F : Nat) (kf38l1 : Ty40 → Rz) (kf38j4 : Ty30 → Rz) : Ty40 → Rz := fun (t7,x2,x3,x4,x5) => (cond (decide (t7 < (68 : Int))) (cond (decide (x5.length + ((Sg.adv x2 t7 0 3 (Sg.start x3 x2 t7)).take 16).length < 1073741824)) (kf38l1 ((IntKind.i64.wrap (t7 + (1 : Int))),x2,x3,x4,(x5 ++ ((Sg.adv x2 t7 0 3 (Sg.start x3 x2 t7)).take 16)))) none) (kf38j4 (x2,x3,x4,x5)))
theorem f38_4_eq (F : Nat) (Rf38l1 : St → Rz) (Rf38j4 : St → Rz) : ∀ v,XAf38 F (bp Tryd.f38 116) (ef38l1 v) (kSeq (kc VG0238 Rf38l1 sp55) (kBlock 0 (kSeq (kc VG0238 Rf38j4 [(2,.plain),(3,.plain)]) Kf42))) = f38_4 F (Rf38l1 ∘ ef38l1) (Rf38j4 ∘ ef38j4) v := by
 rintro ⟨t7,x2,x3,x4,x5⟩; kernel_rfl
def f38_5_p (F : Nat) (kf38l1 : Ty40 → Rz) (kf38j4 : Ty30 → Rz) : Ty19 → Rz := fun (x1,x2,x3) => (cond (decide (((Sg.adv x1 (0 : Int) 0 3 (Sg.start x2 x1 (0 : Int))).take 16).length < 1073741824)) (kf38l1 ((1 : Int),x1,x2,x3,([] ++ ((Sg.adv x1 (0 : Int) 0 3 (Sg.start x2 x1 (0 : Int))).take 16)))) none)
def f38_5 (F : Nat) (kf38j4 : Ty30 → Rz) : Ty19 → Rz := fun v => f38_5_p F (fun w => loopN (fun k => f38_4 F k kf38j4) F w) kf38j4 v
theorem f38_5_eq (F : Nat) (Rf38j4 : St → Rz) : ∀ v,XAf38 F (bp Tryd.f38 58) (ef38j3 v) (kBlock 0 (kSeq (kc VG0238 Rf38j4 [(2,.plain),(3,.plain)]) Kf42)) = f38_5 F (Rf38j4 ∘ ef38j4) v :=
 loop_peel (c := (bp Tryd.f38 58)) (d := (bp Tryd.f38 116)) (by kernel_rfl) (spec := sp55) (by kernel_rfl) (by kernel_rfl) ef38j3 ef38l1 (kBlock 0 (kSeq (kc VG0238 Rf38j4 [(2,.plain),(3,.plain)]) Kf42)) (fun k => f38_5_p F k (Rf38j4 ∘ ef38j4)) (fun k => f38_4 F k (Rf38j4 ∘ ef38j4))
  (fun R => by rintro ⟨x1,x2,x3⟩; kernel_rfl) (fun Rf38l1 => f38_4_eq F Rf38l1 Rf38j4)
def f38_6 (F : Nat) (kf38j4 : Ty30 → Rz) : Ty19 → Rz := f38_5 F kf38j4
theorem f38_6_eq (F : Nat) (Rf38j4 : St → Rz) : ∀ v,XAf38 F (bp Tryd.f38 29) (ef38j3 v) (kSeq (kc VG0238 Rf38j4 [(2,.plain),(3,.plain)]) Kf42) = f38_6 F (Rf38j4 ∘ ef38j4) v := fun v =>
 (block_in  (by kernel_rfl) _ _).trans (f38_5_eq F Rf38j4 v)
def f38_7 (F : Nat) (kf38j4 : Ty30 → Rz) : Ty19 → Rz := fun v => f38_3 F (f38_6 F kf38j4) kf38j4 v
theorem f38_7_eq (F : Nat) (Rf38j4 : St → Rz) : ∀ v,XAf38 F (bp Tryd.f38 14) (ef38j2 v) (kSeq (kc VG0238 Rf38j4 [(2,.plain),(3,.plain)]) Kf42) = f38_7 F (Rf38j4 ∘ ef38j4) v :=
 seq_cut (by kernel_rfl) (by kernel_rfl) ef38j2 ef38j3 _ (fun k => f38_3 F k (Rf38j4 ∘ ef38j4)) (f38_6 F (Rf38j4 ∘ ef38j4))
  (fun Rf38j3 => f38_3_eq F Rf38j3 Rf38j4) (f38_6_eq F Rf38j4)
def f38_8 (F : Nat) : Ty30 → Rz := fun (x1,x2,x3,x4) => (cond (Nat.blt 0 x4.length) (cond (Sha.few [x4]) (cond (Sha.few [((Sha.of (3 : Int) [x4]).take 16)]) (some ((.agg 16 (.rI .u8 (Sha.of (1 : Int) [((Sha.of (3 : Int) [x4]).take 16)]))),[(.cells 1 (.one (.int .i64 x1)) true),(.cells 1 (.one (.str x2)) true)])) none) none) none)
theorem f38_8_eq (F : Nat) : ∀ v,XAf38 F (bp Tryd.f38 15) (ef38j4 v) Kf42 = f38_8 F v := by
 rintro ⟨x1,x2,x3,x4⟩; kernel_rfl
def f38_9 (F : Nat) : Ty19 → Rz := fun v => f38_7 F (f38_8 F) v
theorem f38_9_eq (F : Nat) : ∀ v,XAf38 F (bp Tryd.f38 7) (ef38j2 v) Kf42 = f38_9 F v :=
 seq_cut (by kernel_rfl) (by kernel_rfl) ef38j2 ef38j4 _ (fun k => f38_7 F k) (f38_8 F)
  (fun Rf38j4 => f38_7_eq F Rf38j4) (f38_8_eq F)
def f38_10 (F : Nat) : Ty19 → Rz := fun v => f38_2 F (f38_9 F) v
theorem f38_10_eq (F : Nat) : ∀ v,XAf38 F (bp Tryd.f38 3) (ef38j1 v) Kf42 = f38_10 F v :=
 seq_cut (by kernel_rfl) (by kernel_rfl) ef38j1 ef38j2 _ (fun k => f38_2 F k) (f38_9 F)
  (fun Rf38j2 => f38_2_eq F Rf38j2) (f38_9_eq F)
def f38_11 (F : Nat) : Int × Li → Rz := fun v => f38_1 F (f38_10 F) v
theorem f38_11_eq (F : Nat) : ∀ v,XAf38 F (sub (bodyOf Tryd.f38) []) (ef38_a v) Kf42 = f38_11 F v :=
 seq_cut (by kernel_rfl) (by kernel_rfl) ef38_a ef38j1 _ (fun k => f38_1 F k) (f38_10 F)
  (fun Rf38j1 => f38_1_eq F Rf38j1) (f38_10_eq F)
def f38 (F : Nat) : Int × Li → Rz := f38_11 F
theorem f38_body (F : Nat) (a0 : Int) (a1 : List Int) : abody VG0238 (Af38 F) Tryd.f38 [(.fn 45 (.cons 0 (.ptr 0 0 1 0 0 0 1) (.cons 0 (.ptr 1 0 1 0 0 0 1) .nil)))] [(.cells 1 (.one (.int .i64 a0)) true),(.cells 1 (.one (.str a1)) true)] = f38 F (a0,a1) :=
 (abody_in (c := (sub (bodyOf Tryd.f38) [])) (by kernel_rfl) (s := ef38_a (a0,a1)) (by kernel_rfl)).trans (f38_11_eq F (a0,a1))
def Af38v (F : Nat) : Cuts := { F := F,at_ := fun n => match n with | 3014 => some sp55 | _ => none,join := fun n => match n with | 1026 => some [(0,.plain),(2,.plain)] | 2024 => some sp2 | 3016 => some sp55 | 8005 => some [(2,.plain),(3,.plain)] | _ => none,peel := fun n => match n with | 3014 => true | _ => false }
noncomputable abbrev XAf38v (F : Nat) {α : Type} := @aexec α VG0238 (Af38v F)
def ef38v_a : Ty19 → St := fun (a0,a1,a2) => ⟨[(0,(.fn 39 (.cons 0 (.ptr 0 0 1 0 0 0 1) (.cons 0 (.ptr 1 0 1 0 0 0 1) (.cons 0 (.ptr 2 0 1 0 0 0 1) .nil)))))],[(0,(.cells 1 (.one (.int .i64 a0)) true)),(1,(.cells 1 (.one (.vs (.rI .i64 a1) 0 1)) true)),(2,(.cells 1 (.one (.fn 37 (.cons 0 (.ptr 3 0 1 0 0 0 1) .nil))) true)),(3,(.cells 1 (.one (.own 4 0 1)) true)),(4,(.cells a2.length (.rI .u8 a2) true))],5,23,5⟩
def ef38vj1 : Ty30 → St := fun (x1,x2,x3,x4) => ⟨[(0,(.fn 39 (.cons 0 (.ptr 0 0 1 0 0 0 1) (.cons 0 (.ptr 1 0 1 0 0 0 1) (.cons 0 (.ptr 2 0 1 0 0 0 1) .nil))))),(2,.ptr 5 0 16 0 0 0 16)],[(0,(.cells 1 (.one (.int .i64 x1)) true)),(1,(.cells 1 (.one (.vs (.rI .i64 x2) 0 1)) true)),(2,(.cells 1 (.one (.fn 37 (.cons 0 (.ptr 3 0 1 0 0 0 1) .nil))) true)),(3,(.cells 1 (.one (.own 4 0 1)) true)),(4,(.cells x3.length (.rI .u8 x3) true)),(5,(.cells 16 (.rI .u8 x4) true))],6,23,5⟩
def ef38vj2 : Ty30 → St := fun (x1,x2,x3,x4) => ⟨[(0,(.fn 39 (.cons 0 (.ptr 0 0 1 0 0 0 1) (.cons 0 (.ptr 1 0 1 0 0 0 1) (.cons 0 (.ptr 2 0 1 0 0 0 1) .nil))))),(2,.ptr 5 0 16 0 0 0 16),(3,.ptr 6 0 2 0 0 0 2)],[(0,(.cells 1 (.one (.int .i64 x1)) true)),(1,(.cells 1 (.one (.vs (.rI .i64 x2) 0 1)) true)),(2,(.cells 1 (.one (.fn 37 (.cons 0 (.ptr 3 0 1 0 0 0 1) .nil))) true)),(3,(.cells 1 (.one (.own 4 0 1)) true)),(4,(.cells x3.length (.rI .u8 x3) true)),(5,(.cells 16 (.rI .u8 x4) true)),(6,(.cells 2 (.segs (.cons 0 (.rT [.int .u32,.int .u32,.int .i8] []) (.cons 1 (.one .nilp) (.cons 1 (.one .ns) .nil)))) true))],7,23,5⟩
def ef38vj3 : Ty30 → St := fun (x1,x2,x3,x4) => ⟨[(0,(.fn 39 (.cons 0 (.ptr 0 0 1 0 0 0 1) (.cons 0 (.ptr 1 0 1 0 0 0 1) (.cons 0 (.ptr 2 0 1 0 0 0 1) .nil))))),(2,.ptr 5 0 16 0 0 0 16),(3,.ptr 6 0 2 0 0 0 2),(7,.int .i64 0)],[(0,(.cells 1 (.one (.int .i64 x1)) true)),(1,(.cells 1 (.one (.vs (.rI .i64 x2) 0 1)) true)),(2,(.cells 1 (.one (.fn 37 (.cons 0 (.ptr 3 0 1 0 0 0 1) .nil))) true)),(3,(.cells 1 (.one (.own 4 0 1)) true)),(4,(.cells x3.length (.rI .u8 x3) true)),(5,(.cells 16 (.rI .u8 x4) true)),(6,(.cells 2 (.segs (.cons 0 (.rT [.int .u32,.int .u32,.int .i8] []) (.cons 1 (.one .nilp) (.cons 1 (.one .ns) .nil)))) true))],7,23,5⟩
def ef38vl1 : Ty41 → St := fun (t7,x2,x3,x4,x5,x6) => ⟨[(0,(.fn 39 (.cons 0 (.ptr 0 0 1 0 0 0 1) (.cons 0 (.ptr 1 0 1 0 0 0 1) (.cons 0 (.ptr 2 0 1 0 0 0 1) .nil))))),(2,.ptr 5 0 16 0 0 0 16),(3,.ptr 6 0 2 0 0 0 2),(7,.int .i64 t7)],[(0,(.cells 1 (.one (.int .i64 x2)) true)),(1,(.cells 1 (.one (.vs (.rI .i64 x3) 0 1)) true)),(2,(.cells 1 (.one (.fn 37 (.cons 0 (.ptr 3 0 1 0 0 0 1) .nil))) true)),(3,(.cells 1 (.one (.own 4 0 1)) true)),(4,(.cells x4.length (.rI .u8 x4) true)),(5,(.cells 16 (.rI .u8 x5) true)),(6,(.cells 2 (.segs (.cons 0 (.rT [.int .u32,.int .u32,.int .i8] []) (.cons 1 (.one (.ptr 6 0 2 0 0 0 2)) (.cons 1 (.one (.own 7 0 1)) .nil)))) true)),(7,(.cells (0 + x6.length) (.segs (.cons 0 (.rT [.int .u16,.int .i8,.int .i8,.int .i16] []) (.cons x6.length (.rI .u8 x6) .nil))) true))],8,23,5⟩
def ef38vj4 : Ty9 → St := fun (x1,x2,x3,x4,x5) => ⟨[(2,.ptr 5 0 16 0 0 0 16),(3,.ptr 6 0 2 0 0 0 2)],[(0,(.cells 1 (.one (.int .i64 x1)) true)),(1,(.cells 1 (.one (.vs (.rI .i64 x2) 0 1)) true)),(2,(.cells 1 (.one (.fn 37 (.cons 0 (.ptr 3 0 1 0 0 0 1) .nil))) true)),(3,(.cells 1 (.one (.own 4 0 1)) true)),(4,(.cells x3.length (.rI .u8 x3) true)),(5,(.cells 16 (.rI .u8 x4) true)),(6,(.cells 2 (.segs (.cons 0 (.rT [.int .u32,.int .u32,.int .i8] []) (.cons 1 (.one (.ptr 6 0 2 0 0 0 2)) (.cons 1 (.one (.own 7 0 1)) .nil)))) true)),(7,(.cells (0 + x5.length) (.segs (.cons 0 (.rT [.int .u16,.int .i8,.int .i8,.int .i16] []) (.cons x5.length (.rI .u8 x5) .nil))) true))],8,23,5⟩
def f38v_1 (F : Nat) (kf38vj1 : Ty30 → Rz) : Ty19 → Rz := fun (a0,a1,a2) => (kf38vj1 (a0,a1,a2,(List.replicate 16 0)))
theorem f38v_1_eq (F : Nat) (Rf38vj1 : St → Rz) : ∀ v,XAf38v F (bp Tryd.f38 2) (ef38v_a v) (kSeq (kc VG0238 Rf38vj1 [(0,.plain),(2,.plain)]) Kf42) = f38v_1 F (Rf38vj1 ∘ ef38vj1) v := by
 rintro ⟨a0,a1,a2⟩; kernel_rfl
def f38v_2 (F : Nat) (kf38vj2 : Ty30 → Rz) : Ty30 → Rz := fun (x1,x2,x3,x4) => (kf38vj2 (x1,x2,x3,x4))
theorem f38v_2_eq (F : Nat) (Rf38vj2 : St → Rz) : ∀ v,XAf38v F (bp Tryd.f38 6) (ef38vj1 v) (kSeq (kc VG0238 Rf38vj2 sp2) Kf42) = f38v_2 F (Rf38vj2 ∘ ef38vj2) v := by
 rintro ⟨x1,x2,x3,x4⟩; kernel_rfl
def f38v_3 (F : Nat) (kf38vj3 : Ty30 → Rz) (kf38vj4 : Ty9 → Rz) : Ty30 → Rz := fun (x1,x2,x3,x4) => (kf38vj3 (x1,x2,x3,x4))
theorem f38v_3_eq (F : Nat) (Rf38vj3 : St → Rz) (Rf38vj4 : St → Rz) : ∀ v,XAf38v F (bp Tryd.f38 28) (ef38vj2 v) (kSeq (kc VG0238 Rf38vj3 sp55) (kSeq (kc VG0238 Rf38vj4 [(2,.plain),(3,.plain)]) Kf42)) = f38v_3 F (Rf38vj3 ∘ ef38vj3) (Rf38vj4 ∘ ef38vj4) v := by
 rintro ⟨x1,x2,x3,x4⟩; kernel_rfl
def f38v_4 (F : Nat) (kf38vl1 : Ty41 → Rz) (kf38vj4 : Ty9 → Rz) : Ty41 → Rz := fun (t7,x2,x3,x4,x5,x6) => (cond (decide (t7 < (68 : Int))) (cond ((decide (0 ≤ t7)) && ((decide (t7 < (x3.length : Int))) && ((decide ((t7 + 1) * 16 ≤ (x4.length : Int))) && (decide (x4.length < 1073741000))))) (cond (decide (x6.length + ((Sg.chainV x2 x3 x4 (Int.toNat t7)).take 16).length < 1073741824)) (kf38vl1 ((IntKind.i64.wrap (t7 + (1 : Int))),x2,x3,x4,x5,(x6 ++ ((Sg.chainV x2 x3 x4 (Int.toNat t7)).take 16)))) none) none) (kf38vj4 (x2,x3,x4,x5,x6)))
theorem f38v_4_eq (F : Nat) (Rf38vl1 : St → Rz) (Rf38vj4 : St → Rz) : ∀ v,XAf38v F (bp Tryd.f38 116) (ef38vl1 v) (kSeq (kc VG0238 Rf38vl1 sp55) (kBlock 0 (kSeq (kc VG0238 Rf38vj4 [(2,.plain),(3,.plain)]) Kf42))) = f38v_4 F (Rf38vl1 ∘ ef38vl1) (Rf38vj4 ∘ ef38vj4) v := by
 rintro ⟨t7,x2,x3,x4,x5,x6⟩; kernel_rfl
def f38v_5_p (F : Nat) (kf38vl1 : Ty41 → Rz) (kf38vj4 : Ty9 → Rz) : Ty30 → Rz := fun (x1,x2,x3,x4) => (cond ((decide (0 ≤ (0 : Int))) && ((decide ((0 : Int) < (x2.length : Int))) && ((decide (((0 : Int) + 1) * 16 ≤ (x3.length : Int))) && (decide (x3.length < 1073741000))))) (cond (decide (((Sg.chainV x1 x2 x3 (Int.toNat (0 : Int))).take 16).length < 1073741824)) (kf38vl1 ((1 : Int),x1,x2,x3,x4,([] ++ ((Sg.chainV x1 x2 x3 (Int.toNat (0 : Int))).take 16)))) none) none)
def f38v_5 (F : Nat) (kf38vj4 : Ty9 → Rz) : Ty30 → Rz := fun v => f38v_5_p F (fun w => loopN (fun k => f38v_4 F k kf38vj4) F w) kf38vj4 v
theorem f38v_5_eq (F : Nat) (Rf38vj4 : St → Rz) : ∀ v,XAf38v F (bp Tryd.f38 58) (ef38vj3 v) (kBlock 0 (kSeq (kc VG0238 Rf38vj4 [(2,.plain),(3,.plain)]) Kf42)) = f38v_5 F (Rf38vj4 ∘ ef38vj4) v :=
 loop_peel (c := (bp Tryd.f38 58)) (d := (bp Tryd.f38 116)) (by kernel_rfl) (spec := sp55) (by kernel_rfl) (by kernel_rfl) ef38vj3 ef38vl1 (kBlock 0 (kSeq (kc VG0238 Rf38vj4 [(2,.plain),(3,.plain)]) Kf42)) (fun k => f38v_5_p F k (Rf38vj4 ∘ ef38vj4)) (fun k => f38v_4 F k (Rf38vj4 ∘ ef38vj4))
  (fun R => by rintro ⟨x1,x2,x3,x4⟩; kernel_rfl) (fun Rf38vl1 => f38v_4_eq F Rf38vl1 Rf38vj4)
def f38v_6 (F : Nat) (kf38vj4 : Ty9 → Rz) : Ty30 → Rz := f38v_5 F kf38vj4
theorem f38v_6_eq (F : Nat) (Rf38vj4 : St → Rz) : ∀ v,XAf38v F (bp Tryd.f38 29) (ef38vj3 v) (kSeq (kc VG0238 Rf38vj4 [(2,.plain),(3,.plain)]) Kf42) = f38v_6 F (Rf38vj4 ∘ ef38vj4) v := fun v =>
 (block_in  (by kernel_rfl) _ _).trans (f38v_5_eq F Rf38vj4 v)
def f38v_7 (F : Nat) (kf38vj4 : Ty9 → Rz) : Ty30 → Rz := fun v => f38v_3 F (f38v_6 F kf38vj4) kf38vj4 v
theorem f38v_7_eq (F : Nat) (Rf38vj4 : St → Rz) : ∀ v,XAf38v F (bp Tryd.f38 14) (ef38vj2 v) (kSeq (kc VG0238 Rf38vj4 [(2,.plain),(3,.plain)]) Kf42) = f38v_7 F (Rf38vj4 ∘ ef38vj4) v :=
 seq_cut (by kernel_rfl) (by kernel_rfl) ef38vj2 ef38vj3 _ (fun k => f38v_3 F k (Rf38vj4 ∘ ef38vj4)) (f38v_6 F (Rf38vj4 ∘ ef38vj4))
  (fun Rf38vj3 => f38v_3_eq F Rf38vj3 Rf38vj4) (f38v_6_eq F Rf38vj4)
def f38v_8 (F : Nat) : Ty9 → Rz := fun (x1,x2,x3,x4,x5) => (cond (Nat.blt 0 x5.length) (cond (Sha.few [x5]) (cond (Sha.few [((Sha.of (3 : Int) [x5]).take 16)]) (some ((.agg 16 (.rI .u8 (Sha.of (1 : Int) [((Sha.of (3 : Int) [x5]).take 16)]))),[(.cells 1 (.one (.int .i64 x1)) true),(.cells 1 (.one (.vs (.rI .i64 x2) 0 1)) true),(.cells 1 (.one (.fn 37 (.cons 0 (.ptr 3 0 1 0 0 0 1) .nil))) true),(.cells 1 (.one (.own 4 0 1)) true),(.cells x3.length (.rI .u8 x3) true)])) none) none) none)
theorem f38v_8_eq (F : Nat) : ∀ v,XAf38v F (bp Tryd.f38 15) (ef38vj4 v) Kf42 = f38v_8 F v := by
 rintro ⟨x1,x2,x3,x4,x5⟩; kernel_rfl
def f38v_9 (F : Nat) : Ty30 → Rz := fun v => f38v_7 F (f38v_8 F) v
theorem f38v_9_eq (F : Nat) : ∀ v,XAf38v F (bp Tryd.f38 7) (ef38vj2 v) Kf42 = f38v_9 F v :=
 seq_cut (by kernel_rfl) (by kernel_rfl) ef38vj2 ef38vj4 _ (fun k => f38v_7 F k) (f38v_8 F)
  (fun Rf38vj4 => f38v_7_eq F Rf38vj4) (f38v_8_eq F)
def f38v_10 (F : Nat) : Ty30 → Rz := fun v => f38v_2 F (f38v_9 F) v
theorem f38v_10_eq (F : Nat) : ∀ v,XAf38v F (bp Tryd.f38 3) (ef38vj1 v) Kf42 = f38v_10 F v :=
 seq_cut (by kernel_rfl) (by kernel_rfl) ef38vj1 ef38vj2 _ (fun k => f38v_2 F k) (f38v_9 F)
  (fun Rf38vj2 => f38v_2_eq F Rf38vj2) (f38v_9_eq F)
def f38v_11 (F : Nat) : Ty19 → Rz := fun v => f38v_1 F (f38v_10 F) v
theorem f38v_11_eq (F : Nat) : ∀ v,XAf38v F (sub (bodyOf Tryd.f38) []) (ef38v_a v) Kf42 = f38v_11 F v :=
 seq_cut (by kernel_rfl) (by kernel_rfl) ef38v_a ef38vj1 _ (fun k => f38v_1 F k) (f38v_10 F)
  (fun Rf38vj1 => f38v_1_eq F Rf38vj1) (f38v_10_eq F)
def f38v (F : Nat) : Ty19 → Rz := f38v_11 F
theorem f38v_body (F : Nat) (a0 : Int) (a1 : List Int) (a2 : List Int) : abody VG0238 (Af38v F) Tryd.f38 [(.fn 39 (.cons 0 (.ptr 0 0 1 0 0 0 1) (.cons 0 (.ptr 1 0 1 0 0 0 1) (.cons 0 (.ptr 2 0 1 0 0 0 1) .nil))))] [(.cells 1 (.one (.int .i64 a0)) true),(.cells 1 (.one (.vs (.rI .i64 a1) 0 1)) true),(.cells 1 (.one (.fn 37 (.cons 0 (.ptr 3 0 1 0 0 0 1) .nil))) true),(.cells 1 (.one (.own 4 0 1)) true),(.cells a2.length (.rI .u8 a2) true)] = f38v F (a0,a1,a2) :=
 (abody_in (c := (sub (bodyOf Tryd.f38) [])) (by kernel_rfl) (s := ef38v_a (a0,a1,a2)) (by kernel_rfl)).trans (f38v_11_eq F (a0,a1,a2))
def r38 : CRun := fun X H => match X,H with
 | [(.fn 45 (.cons 0 (.ptr 0 0 1 0 0 0 1) (.cons 0 (.ptr 1 0 1 0 0 0 1) .nil)))],[(.cells 1 (.one (.int .i64 a0)) true),(.cells 1 (.one (.str a1)) true)] => some (true,(.agg 16 (.rI .u8 (Sg.leaf a1 a0))),[(.cells 1 (.one (.int .i64 a0)) true),(.cells 1 (.one (.str a1)) true)])
 | [(.fn 39 (.cons 0 (.ptr 0 0 1 0 0 0 1) (.cons 0 (.ptr 1 0 1 0 0 0 1) (.cons 0 (.ptr 2 0 1 0 0 0 1) .nil))))],[(.cells 1 (.one (.int .i64 a0)) true),(.cells 1 (.one (.vs (.rI .i64 a1) 0 1)) true),(.cells 1 (.one (.fn 37 (.cons 0 (.ptr 3 0 1 0 0 0 1) .nil))) true),(.cells 1 (.one (.own 4 0 1)) true),(.cells z4 (.rI .u8 a2) true)] => some (((decide (68 ≤ a1.length)) && ((decide (1088 ≤ a2.length)) && (decide (a2.length < 1073741000)))),(.agg 16 (.rI .u8 (Sg.leafV a0 a1 a2))),[(.cells 1 (.one (.int .i64 a0)) true),(.cells 1 (.one (.vs (.rI .i64 a1) 0 1)) true),(.cells 1 (.one (.fn 37 (.cons 0 (.ptr 3 0 1 0 0 0 1) .nil))) true),(.cells 1 (.one (.own 4 0 1)) true),(.cells a2.length (.rI .u8 a2) true)])
 | _,_ => none
theorem s38 (a0 : Int) (a1 : List Int) (k0 : okB (.cells 1 (.one (.int .i64 a0)) true)) (k1 : okB (.cells 1 (.one (.str a1)) true)) : ∃ F,f38 F (a0,a1) = some ((.agg 16 (.rI .u8 (Sg.leaf a1 a0))),[(.cells 1 (.one (.int .i64 a0)) true),(.cells 1 (.one (.str a1)) true)]) := by
 obtain ⟨F,hF⟩ : ∃ F,68 < F := ⟨69,by decide⟩
 refine ⟨F,?_⟩
 simp only [f38_1,f38_2,f38_3,f38_5_p,f38_5,f38_6,f38_7,f38_9,f38_10,f38_11,f38,f38v_1,f38v_2,f38v_3,f38v_4,f38v_5_p,f38v_5,f38v_6,f38v_7,f38v_8,f38v_9,f38v_10,f38v_11,f38v]
 have ht : ∀ c : Nat,(Sg.adv a0 (c : Int) 0 3 (Sg.start a1 a0 (c : Int))).take 16 = Sg.top a1 a0 c := fun c => Sg.take16 (Sg.top_len a1 a0 c)
 have ht0 : (Sg.adv a0 (0 : Int) 0 3 (Sg.start a1 a0 (0 : Int))).take 16 = Sg.top a1 a0 0 := ht 0
 have hlen : ∀ n : Nat,((List.range n).flatMap (Sg.top a1 a0)).length = 16 * n := fun n => Sg.flat_len _ n fun i _ => Sg.top_len a1 a0 i
 rw [ht0,cond_pos (by rw [Sg.top_len]; decide)]
 refine loopN_from (fun i => (((i + 1 : Nat) : Int),a0,a1,List.replicate 16 0,(List.range (i + 1)).flatMap (Sg.top a1 a0))) 67 (by simp) (fun i hi k => ?_) (fun k => ?_) _ (by omega)
 ·have h1 := hlen (i + 1)
  have h2 := Sg.top_len a1 a0 (i + 1)
  simp only [f38_4]
  rw [cond_pos (by omega),ht (i + 1),cond_pos (by omega),i64w (by omega) (by omega),← Sg.flat_succ]
  rfl
 ·have h1 := hlen 68
  simp only [f38_4]
  rw [cond_neg (by omega)]
  simp only [f38_8]
  have h2 := Sg.of_len 3 [(List.range (67 + 1)).flatMap (Sg.top a1 a0)]
  rw [show Nat.blt 0 ((List.range (67 + 1)).flatMap (Sg.top a1 a0)).length = true by rw [h1]; rfl,cond_true,Sg.few_ok (by intro s hs; simp only [List.mem_cons,List.not_mem_nil,or_false] at hs; subst hs; rw [h1]; omega) (by simp),cond_true,Sg.take16 h2,
   Sg.few_ok (by intro s hs; simp only [List.mem_cons,List.not_mem_nil,or_false] at hs; subst hs; rw [h2]; omega) (by simp),cond_true]
  rfl
theorem s38v (a0 : Int) (a1 : List Int) (a2 : List Int) (hp : (((decide (68 ≤ a1.length)) && ((decide (1088 ≤ a2.length)) && (decide (a2.length < 1073741000))))) = true) (k0 : okB (.cells 1 (.one (.int .i64 a0)) true)) (k1 : okB (.cells 1 (.one (.vs (.rI .i64 a1) 0 1)) true)) (k2 : okB (.cells 1 (.one (.fn 37 (.cons 0 (.ptr 3 0 1 0 0 0 1) .nil))) true)) (k3 : okB (.cells 1 (.one (.own 4 0 1)) true)) (k4 : okB (.cells a2.length (.rI .u8 a2) true)) : ∃ F,f38v F (a0,a1,a2) = some ((.agg 16 (.rI .u8 (Sg.leafV a0 a1 a2))),[(.cells 1 (.one (.int .i64 a0)) true),(.cells 1 (.one (.vs (.rI .i64 a1) 0 1)) true),(.cells 1 (.one (.fn 37 (.cons 0 (.ptr 3 0 1 0 0 0 1) .nil))) true),(.cells 1 (.one (.own 4 0 1)) true),(.cells a2.length (.rI .u8 a2) true)]) := by
 simp only [Bool.and_eq_true,decide_eq_true_eq] at hp
 obtain ⟨F,hF⟩ : ∃ F,68 < F := ⟨69,by decide⟩
 refine ⟨F,?_⟩
 simp only [f38_1,f38_2,f38_3,f38_4,f38_5_p,f38_5,f38_6,f38_7,f38_8,f38_9,f38_10,f38_11,f38,f38v_1,f38v_2,f38v_3,f38v_5_p,f38v_5,f38v_6,f38v_7,f38v_9,f38v_10,f38v_11,f38v]
 have hcl : ∀ c : Nat,c < 68 → (Sg.chainV a0 a1 a2 c).length = 16 := fun c hc => Sg.chainV_len (by omega)
 have hlen : ∀ n : Nat,n ≤ 68 → ((List.range n).flatMap (Sg.chainV a0 a1 a2)).length = 16 * n := fun n hn => Sg.flat_len _ n fun i hi => hcl i (by omega)
 have e0 : Int.toNat (0 : Int) = 0 := rfl
 simp only [dec_and]
 rw [cond_pos (by omega),e0,Sg.take16 (hcl 0 (by omega)),cond_pos (by rw [hcl 0 (by omega)]; decide)]
 refine loopN_from (fun i => (((i + 1 : Nat) : Int),a0,a1,a2,List.replicate 16 0,(List.range (i + 1)).flatMap (Sg.chainV a0 a1 a2))) 67 (by simp) (fun i hi k => ?_) (fun k => ?_) _ (by omega)
 ·have h1 := hlen (i + 1) (by omega)
  have h2 := hcl (i + 1) (by omega)
  simp only [f38v_4,dec_and]
  rw [cond_pos (by omega),cond_pos (by omega),Int.toNat_natCast,Sg.take16 h2,cond_pos (by omega),i64w (by omega) (by omega),← Sg.flat_succ]
  rfl
 ·have h1 := hlen 68 (by omega)
  simp only [f38v_4,dec_and]
  rw [cond_neg (by omega)]
  simp only [f38v_8]
  have h2 := Sg.of_len 3 [(List.range (67 + 1)).flatMap (Sg.chainV a0 a1 a2)]
  rw [show Nat.blt 0 ((List.range (67 + 1)).flatMap (Sg.chainV a0 a1 a2)).length = true by rw [h1]; rfl,cond_true,Sg.few_ok (by intro s hs; simp only [List.mem_cons,List.not_mem_nil,or_false] at hs; subst hs; rw [h1]; omega) (by simp),cond_true,Sg.take16 h2,
   Sg.few_ok (by intro s hs; simp only [List.mem_cons,List.not_mem_nil,or_false] at hs; subst hs; rw [h2]; omega) (by simp),cond_true]
  rfl
theorem c38 : CallOk Tryd.prog G02 38 r38 := callOk_of (V := VG0238) mixed tys eVG0238 (f := 38) (fn := Tryd.f38) Tryd.func38 (by kernel_rfl) (c := sub (bodyOf Tryd.f38) []) (by kernel_rfl) (by
 intro X H r H' h hX hH
 unfold r38 at h; split at h <;> try contradiction
 ·simp only [Option.some.injEq,Prod.mk.injEq] at h
  obtain ⟨hp,rfl,rfl⟩ := h
  obtain ⟨F,hF⟩ := s38 _ _ (hH _ (.head _)) (hH _ (.tail _ (.head _)))
  exact ⟨Af38 F,(f38_body F _ _).trans hF⟩
 ·simp only [Option.some.injEq,Prod.mk.injEq] at h
  obtain ⟨hp,rfl,rfl⟩ := h
  obtain rfl := okB_size (hH _ (.tail _ (.tail _ (.tail _ (.tail _ (.head _)))))) rfl
  obtain ⟨F,hF⟩ := s38v _ _ _ hp (hH _ (.head _)) (hH _ (.tail _ (.head _))) (hH _ (.tail _ (.tail _ (.head _)))) (hH _ (.tail _ (.tail _ (.tail _ (.head _))))) (hH _ (.tail _ (.tail _ (.tail _ (.tail _ (.head _))))))
  exact ⟨Af38v F,(f38v_body F _ _ _).trans hF⟩)
end Go.Am
end
section
namespace Go.Am
open Go Go.Proofs
abbrev Ty42 := Int × Int × Li × (List (List Int × List Int))
def r44 (D : Nat) : CRun := fun X H => match X,H with
 | [(.int .i64 a0),.int .i64 a1,.ptr 0 0 1 0 0 0 1,.ptr 1 0 1 0 0 0 1,.ptr 2 0 1 0 0 0 1],[(.cells 1 (.one (.mp 3)) true),(.cells 1 (.one (.str a2)) true),(.cells 1 (.one (.fn 44 (.cons 0 (.ptr 0 0 1 0 0 0 1) (.cons 0 (.ptr 1 0 1 0 0 0 1) (.cons 0 (.ptr 2 0 1 0 0 0 1) .nil))))) true),(.cells 0 (.rM .i64 2 (.arr .u8 16) a3) true)] => some ((Sg.nodeOk a0 a1 D),(.agg 16 (.rI .u8 (Sg.ndM a2 a0 a1 a3).1)),[(.cells 1 (.one (.mp 3)) true),(.cells 1 (.one (.str a2)) true),(.cells 1 (.one (.fn 44 (.cons 0 (.ptr 0 0 1 0 0 0 1) (.cons 0 (.ptr 1 0 1 0 0 0 1) (.cons 0 (.ptr 2 0 1 0 0 0 1) .nil))))) true),(.cells 0 (.rM .i64 2 (.arr .u8 16) (Sg.ndM a2 a0 a1 a3).2) true)])
 | _,_ => none
def lVG0244 (F : Nat) : List CEnt := [(38,[none],r38),(40,[none,none],r40),(44,[none,none,none,none,none],r44 (F - 1))]
def VG0244 (F : Nat) : Env := mkEnv T03 G02 (lVG0244 F)
theorem eVG0244 (F : Nat) (hrec : CallOk Tryd.prog G02 44 (r44 (F - 1))) : EOk Tryd.prog (VG0244 F) := eok_mk (by exact ⟨c38,c40,hrec,trivial⟩)
def Af44 (F : Nat) : Cuts := { F := F,at_ := fun _ => none,join := fun _ => none }
def ef44_a : Ty42 → St := fun (a0,a1,a2,a3) => ⟨[(0,.int .i64 a0),(1,.int .i64 a1),(2,.ptr 0 0 1 0 0 0 1),(3,.ptr 1 0 1 0 0 0 1),(4,.ptr 2 0 1 0 0 0 1)],[(0,(.cells 1 (.one (.mp 3)) true)),(1,(.cells 1 (.one (.str a2)) true)),(2,(.cells 1 (.one (.fn 44 (.cons 0 (.ptr 0 0 1 0 0 0 1) (.cons 0 (.ptr 1 0 1 0 0 0 1) (.cons 0 (.ptr 2 0 1 0 0 0 1) .nil))))) true)),(3,(.cells 0 (.rM .i64 2 (.arr .u8 16) a3) true))],4,45,4⟩
def f44_1 (F : Nat) : Ty42 → Rz := fun (a0,a1,a2,a3) => (cond (mhas a3 [a0,a1]) (some ((.agg 16 (.rI .u8 (mget (mzero (.arr .u8 16)) a3 [a0,a1]))),[(.cells 1 (.one (.mp 3)) true),(.cells 1 (.one (.str a2)) true),(.cells 1 (.one (.fn 44 (.cons 0 (.ptr 0 0 1 0 0 0 1) (.cons 0 (.ptr 1 0 1 0 0 0 1) (.cons 0 (.ptr 2 0 1 0 0 0 1) .nil))))) true),(.cells 0 (.rM .i64 2 (.arr .u8 16) a3) true)])) (cond (a0 == (0 : Int)) (some ((.agg 16 (.rI .u8 (Sg.leaf a2 a1))),[(.cells 1 (.one (.mp 3)) true),(.cells 1 (.one (.str a2)) true),(.cells 1 (.one (.fn 44 (.cons 0 (.ptr 0 0 1 0 0 0 1) (.cons 0 (.ptr 1 0 1 0 0 0 1) (.cons 0 (.ptr 2 0 1 0 0 0 1) .nil))))) true),(.cells 0 (.rM .i64 2 (.arr .u8 16) (mput a3 [a0,a1] (Sg.leaf a2 a1))) true)])) (cond (Sg.nodeOk (IntKind.i64.wrap (a0 - (1 : Int))) (IntKind.i64.wrap ((2 : Int) * a1)) (F - 1)) (cond (Sg.nodeOk (IntKind.i64.wrap (a0 - (1 : Int))) (IntKind.i64.wrap ((IntKind.i64.wrap ((2 : Int) * a1)) + (1 : Int))) (F - 1)) (some ((.agg 16 (.rI .u8 (Sg.node (Sg.ndM a2 (IntKind.i64.wrap (a0 - (1 : Int))) (IntKind.i64.wrap ((2 : Int) * a1)) a3).1 (Sg.ndM a2 (IntKind.i64.wrap (a0 - (1 : Int))) (IntKind.i64.wrap ((IntKind.i64.wrap ((2 : Int) * a1)) + (1 : Int))) (Sg.ndM a2 (IntKind.i64.wrap (a0 - (1 : Int))) (IntKind.i64.wrap ((2 : Int) * a1)) a3).2).1))),[(.cells 1 (.one (.mp 3)) true),(.cells 1 (.one (.str a2)) true),(.cells 1 (.one (.fn 44 (.cons 0 (.ptr 0 0 1 0 0 0 1) (.cons 0 (.ptr 1 0 1 0 0 0 1) (.cons 0 (.ptr 2 0 1 0 0 0 1) .nil))))) true),(.cells 0 (.rM .i64 2 (.arr .u8 16) (mput (Sg.ndM a2 (IntKind.i64.wrap (a0 - (1 : Int))) (IntKind.i64.wrap ((IntKind.i64.wrap ((2 : Int) * a1)) + (1 : Int))) (Sg.ndM a2 (IntKind.i64.wrap (a0 - (1 : Int))) (IntKind.i64.wrap ((2 : Int) * a1)) a3).2).2 [a0,a1] (Sg.node (Sg.ndM a2 (IntKind.i64.wrap (a0 - (1 : Int))) (IntKind.i64.wrap ((2 : Int) * a1)) a3).1 (Sg.ndM a2 (IntKind.i64.wrap (a0 - (1 : Int))) (IntKind.i64.wrap ((IntKind.i64.wrap ((2 : Int) * a1)) + (1 : Int))) (Sg.ndM a2 (IntKind.i64.wrap (a0 - (1 : Int))) (IntKind.i64.wrap ((2 : Int) * a1)) a3).2).1))) true)])) none) none)))
theorem f44_1_eq (F : Nat) : ∀ v,aexec (VG0244 F) (Af44 F) (sub (bodyOf Tryd.f44) []) (ef44_a v) (kFin (VG0244 F) none (Tryd.f44).results.toList) = f44_1 F v := by
 rintro ⟨a0,a1,a2,a3⟩; kernel_rfl
def f44 (F : Nat) : Ty42 → Rz := f44_1 F
theorem f44_body (F : Nat) (a0 : Int) (a1 : Int) (a2 : List Int) (a3 : List (List Int × List Int)) : abody (VG0244 F) (Af44 F) Tryd.f44 [(.int .i64 a0),.int .i64 a1,.ptr 0 0 1 0 0 0 1,.ptr 1 0 1 0 0 0 1,.ptr 2 0 1 0 0 0 1] [(.cells 1 (.one (.mp 3)) true),(.cells 1 (.one (.str a2)) true),(.cells 1 (.one (.fn 44 (.cons 0 (.ptr 0 0 1 0 0 0 1) (.cons 0 (.ptr 1 0 1 0 0 0 1) (.cons 0 (.ptr 2 0 1 0 0 0 1) .nil))))) true),(.cells 0 (.rM .i64 2 (.arr .u8 16) a3) true)] = f44 F (a0,a1,a2,a3) :=
 (abody_in (c := (sub (bodyOf Tryd.f44) [])) (by kernel_rfl) (s := ef44_a (a0,a1,a2,a3)) (by kernel_rfl)).trans (f44_1_eq F (a0,a1,a2,a3))
theorem s44 (D : Nat) (a0 : Int) (a1 : Int) (a2 : List Int) (a3 : List (List Int × List Int)) (hp : ((Sg.nodeOk a0 a1 D)) = true) (h0 : okV (.int .i64 a0)) (h1 : okV (.int .i64 a1)) (k0 : okB (.cells 1 (.one (.mp 3)) true)) (k1 : okB (.cells 1 (.one (.str a2)) true)) (k2 : okB (.cells 1 (.one (.fn 44 (.cons 0 (.ptr 0 0 1 0 0 0 1) (.cons 0 (.ptr 1 0 1 0 0 0 1) (.cons 0 (.ptr 2 0 1 0 0 0 1) .nil))))) true)) (k3 : okB (.cells 0 (.rM .i64 2 (.arr .u8 16) a3) true)) : f44 D (a0,a1,a2,a3) = some ((.agg 16 (.rI .u8 (Sg.ndM a2 a0 a1 a3).1)),[(.cells 1 (.one (.mp 3)) true),(.cells 1 (.one (.str a2)) true),(.cells 1 (.one (.fn 44 (.cons 0 (.ptr 0 0 1 0 0 0 1) (.cons 0 (.ptr 1 0 1 0 0 0 1) (.cons 0 (.ptr 2 0 1 0 0 0 1) .nil))))) true),(.cells 0 (.rM .i64 2 (.arr .u8 16) (Sg.ndM a2 a0 a1 a3).2) true)]) := by
 simp only [Sg.nodeOk,decide_eq_true_eq] at hp
 obtain ⟨g1,g2,g3,g4,g5⟩ := hp
 have h1' : -9223372036854775808 ≤ a1 ∧ a1 ≤ 9223372036854775807 := h1
 have hk : a1 + 1 ≤ 1024 := by
  have : (a1 + 1) * 1 ≤ (a1 + 1) * 2 ^ a0.toNat := Int.mul_le_mul_of_nonneg_left (by exact Int.le_of_lt_add_one (by have : (0 : Int) < 2 ^ a0.toNat := Int.pow_pos (by decide); omega)) (by omega)
  omega
 simp only [f44,f44_1]
 cases hh : mhas a3 [a0,a1] with
 | true =>
  rw [cond_true]
  have e : Sg.ndM a2 a0 a1 a3 = (mget (mzero (.arr .u8 16)) a3 [a0,a1],a3) := by
   obtain ⟨n,rfl⟩ := Int.eq_ofNat_of_zero_le g1
   simp only [Sg.ndM,Int.toNat_natCast]
   cases n with
   | zero =>
    have hh' : mhas a3 [0,a1] = true := hh
    simp only [Sg.ndF]; rw [if_pos hh']; rfl
   | succ n => simp only [Sg.ndF]; rw [if_pos hh]
  rw [e]
 | false =>
  rw [cond_false,int_beq]
  obtain ⟨n,rfl⟩ := Int.eq_ofNat_of_zero_le g1
  cases n with
  | zero =>
   rw [cond_pos (by rfl)]
   have e : Sg.ndM a2 ((0 : Nat) : Int) a1 a3 = (Sg.leaf a2 a1,mput a3 [0,a1] (Sg.leaf a2 a1)) := by
    simp only [Sg.ndM,Int.toNat_natCast,Sg.ndF]
    rw [if_neg (by have hh' : mhas a3 [0,a1] = false := hh; rw [hh']; simp)]
   rw [e]; rfl
  | succ n =>
   rw [cond_neg (by omega)]
   rw [i64w (x := ((n + 1 : Nat) : Int) - 1) (by omega) (by omega),i64w (x := 2 * a1) (by omega) (by omega),i64w (x := 2 * a1 + 1) (by omega) (by omega),show ((n + 1 : Nat) : Int) - 1 = (n : Int) by omega]
   rw [Int.toNat_natCast,Int.pow_succ] at g5
   have q1 : Sg.nodeOk (n : Int) (2 * a1) (D - 1) = true := by
    simp only [Sg.nodeOk,decide_eq_true_eq,Int.toNat_natCast]
    refine ⟨by omega,by omega,by omega,by omega,?_⟩
    have e : (2 * a1 + 1) * 2 ^ n ≤ (2 * a1 + 2) * 2 ^ n := Int.mul_le_mul_of_nonneg_right (by omega) (Int.pow_nonneg (by decide))
    have e2 : (2 * a1 + 2) * 2 ^ n = (a1 + 1) * (2 ^ n * 2) := by rw [show 2 * a1 + 2 = (a1 + 1) * 2 by omega,Int.mul_assoc,Int.mul_comm 2]
    omega
   have q2 : Sg.nodeOk (n : Int) (2 * a1 + 1) (D - 1) = true := by
    simp only [Sg.nodeOk,decide_eq_true_eq,Int.toNat_natCast]
    refine ⟨by omega,by omega,by omega,by omega,?_⟩
    have e2 : (2 * a1 + 1 + 1) * 2 ^ n = (a1 + 1) * (2 ^ n * 2) := by rw [show 2 * a1 + 1 + 1 = (a1 + 1) * 2 by omega,Int.mul_assoc,Int.mul_comm 2]
    omega
   rw [q1,q2,cond_true,cond_true]
   have e : Sg.ndM a2 ((n + 1 : Nat) : Int) a1 a3 = (Sg.node (Sg.ndM a2 (n : Int) (2 * a1) a3).1 (Sg.ndM a2 (n : Int) (2 * a1 + 1) (Sg.ndM a2 (n : Int) (2 * a1) a3).2).1,mput (Sg.ndM a2 (n : Int) (2 * a1 + 1) (Sg.ndM a2 (n : Int) (2 * a1) a3).2).2 [((n + 1 : Nat) : Int),a1] (Sg.node (Sg.ndM a2 (n : Int) (2 * a1) a3).1 (Sg.ndM a2 (n : Int) (2 * a1 + 1) (Sg.ndM a2 (n : Int) (2 * a1) a3).2).1)) := by
    simp only [Sg.ndM,Int.toNat_natCast,Sg.ndF]
    rw [if_neg (by rw [hh]; simp)]
   rw [e]
theorem s44z (a0 : Int) (a1 : Int) (a2 : List Int) (a3 : List (List Int × List Int)) : ((Sg.nodeOk a0 a1 0)) = false := by
 simp only [Sg.nodeOk,decide_eq_false_iff_not]
 omega
theorem c44z : CallOk Tryd.prog G02 44 (r44 0) := callOk_of (V := mkEnv T03 G02 []) mixed tys (eok_mk (by exact trivial)) (f := 44) (fn := Tryd.f44) Tryd.func44 (by kernel_rfl) (c := sub (bodyOf Tryd.f44) []) (by kernel_rfl) (by
 intro X H r H' h hX hH
 unfold r44 at h; split at h <;> try contradiction
 simp only [Option.some.injEq,Prod.mk.injEq] at h
 rw [s44z] at h
 cases h.1
 all_goals exact default)
theorem c44x (D : Nat) (ih : CallOk Tryd.prog G02 44 (r44 D)) : CallOk Tryd.prog G02 44 (r44 (D + 1)) := callOk_of (V := VG0244 (D + 1)) mixed tys (eVG0244 (D + 1) ih) (f := 44) (fn := Tryd.f44) Tryd.func44 (by kernel_rfl) (c := sub (bodyOf Tryd.f44) []) (by kernel_rfl) (by
 intro X H r H' h hX hH
 unfold r44 at h; split at h <;> try contradiction
 simp only [Option.some.injEq,Prod.mk.injEq] at h
 obtain ⟨hp,rfl,rfl⟩ := h
 exact ⟨Af44 (D + 1),(f44_body (D + 1) _ _ _ _).trans (s44 (D + 1) _ _ _ _ hp (hX _ (.head _)) (hX _ (.tail _ (.head _))) (hH _ (.head _)) (hH _ (.tail _ (.head _))) (hH _ (.tail _ (.tail _ (.head _)))) (hH _ (.tail _ (.tail _ (.tail _ (.head _))))))⟩)
theorem c44 (D : Nat) : CallOk Tryd.prog G02 44 (r44 D) := by
 induction D with
 | zero => exact c44z
 | succ D ih => exact c44x D ih
def lVG0222 : List CEnt := []
def VG0222 : Env := mkEnv T03 G02 lVG0222
noncomputable abbrev Kf43 := kFin VG0222 none (Tryd.f22).results.toList
theorem eVG0222 : EOk Tryd.prog VG0222 := eok_mk (by exact trivial)
def Af22 (F : Nat) : Cuts := { F := F,at_ := fun _ => none,join := fun _ => none }
def ef22_a : Li → St := fun a0 => ⟨[(0,.str a0)],[],0,8,0⟩
def f22_1 (F : Nat) : Li → Rz := fun a0 => (some ((.fn 44 (.cons 0 (.ptr 0 0 1 0 0 0 1) (.cons 0 (.ptr 1 0 1 0 0 0 1) (.cons 0 (.ptr 2 0 1 0 0 0 1) .nil)))),[(.cells 1 (.one (.mp 3)) true),(.cells 1 (.one (.str a0)) true),(.cells 1 (.one (.fn 44 (.cons 0 (.ptr 0 0 1 0 0 0 1) (.cons 0 (.ptr 1 0 1 0 0 0 1) (.cons 0 (.ptr 2 0 1 0 0 0 1) .nil))))) true),(.cells 0 (.rM .i64 2 (.arr .u8 16) []) true)]))
theorem f22_1_eq (F : Nat) : ∀ v,aexec VG0222 (Af22 F) (sub (bodyOf Tryd.f22) []) (ef22_a v) Kf43 = f22_1 F v := by
 intro a0; kernel_rfl
def f22 (F : Nat) : Li → Rz := f22_1 F
theorem f22_body (F : Nat) (a0 : List Int) : abody VG0222 (Af22 F) Tryd.f22 [(.str a0)] [] = f22 F a0 :=
 (abody_in (c := (sub (bodyOf Tryd.f22) [])) (by kernel_rfl) (s := ef22_a a0) (by kernel_rfl)).trans (f22_1_eq F a0)
def r22 : CRun := fun X H => match X,H with
 | [(.str a0)],[] => some (true,(.fn 44 (.cons 0 (.ptr 0 0 1 0 0 0 1) (.cons 0 (.ptr 1 0 1 0 0 0 1) (.cons 0 (.ptr 2 0 1 0 0 0 1) .nil)))),[(.cells 1 (.one (.mp 3)) true),(.cells 1 (.one (.str a0)) true),(.cells 1 (.one (.fn 44 (.cons 0 (.ptr 0 0 1 0 0 0 1) (.cons 0 (.ptr 1 0 1 0 0 0 1) (.cons 0 (.ptr 2 0 1 0 0 0 1) .nil))))) true),(.cells 0 (.rM .i64 2 (.arr .u8 16) []) true)])
 | _,_ => none
theorem s22 (a0 : List Int) (h0 : okV (.str a0)) : ∃ F,f22 F a0 = some ((.fn 44 (.cons 0 (.ptr 0 0 1 0 0 0 1) (.cons 0 (.ptr 1 0 1 0 0 0 1) (.cons 0 (.ptr 2 0 1 0 0 0 1) .nil)))),[(.cells 1 (.one (.mp 3)) true),(.cells 1 (.one (.str a0)) true),(.cells 1 (.one (.fn 44 (.cons 0 (.ptr 0 0 1 0 0 0 1) (.cons 0 (.ptr 1 0 1 0 0 0 1) (.cons 0 (.ptr 2 0 1 0 0 0 1) .nil))))) true),(.cells 0 (.rM .i64 2 (.arr .u8 16) []) true)]) := ⟨0,rfl⟩
theorem c22 : CallOk Tryd.prog G02 22 r22 := callOk_of (V := VG0222) mixed tys eVG0222 (f := 22) (fn := Tryd.f22) Tryd.func22 (by kernel_rfl) (c := sub (bodyOf Tryd.f22) []) (by kernel_rfl) (by
 intro X H r H' h hX hH
 unfold r22 at h; split at h <;> try contradiction
 ·simp only [Option.some.injEq,Prod.mk.injEq] at h
  obtain ⟨hp,rfl,rfl⟩ := h
  obtain ⟨F,hF⟩ := s22 _ (hX _ (.head _))
  exact ⟨Af22 F,(f22_body F _).trans hF⟩)
def lVG0212 : List CEnt := [(21,[none],r21),(22,[none],r22),(44,[none,none,none,none,none],r44 3)]
def VG0212 : Env := mkEnv T03 G02 lVG0212
noncomputable abbrev Kf44 := kFin VG0212 none (Tryd.f12).results.toList
theorem eVG0212 : EOk Tryd.prog VG0212 := eok_mk (by exact ⟨c21,c22,(c44 3),trivial⟩)
def Af12 (F : Nat) : Cuts := { F := F,at_ := fun _ => none,join := fun _ => none }
def ef12_a : Li × Int → St := fun (a0,a1) => ⟨[(0,.str a0),(1,.int .i64 a1)],[],0,19,0⟩
def f12_1 (F : Nat) : Li × Int → Rz := fun (a0,a1) => (cond ((↑a0.length : Int) != (32 : Int)) (some ((.tup (.cons 0 (.agg 16 (.rI .u8 (List.replicate 16 0))) (.cons 0 (.int .i64 1) .nil))),[])) (cond (!((decide (0 ≤ a1)) && (decide (a1 ≤ 6)))) (some ((.tup (.cons 0 (.agg 16 (.rI .u8 (List.replicate 16 0))) (.cons 0 (.int .i64 1) .nil))),[])) (cond (Sg.nodeOk a1 (0 : Int) 3) (some ((.tup (.cons 0 (.agg 16 (.rI .u8 (Sg.ndM a0 a1 (0 : Int) ([] : List (List Int × List Int))).1)) (.cons 0 (.int .i64 0) .nil))),[])) none)))
theorem f12_1_eq (F : Nat) : ∀ v,aexec VG0212 (Af12 F) (sub (bodyOf Tryd.f12) []) (ef12_a v) Kf44 = f12_1 F v := by
 rintro ⟨a0,a1⟩; kernel_rfl
def f12 (F : Nat) : Li × Int → Rz := f12_1 F
theorem f12_body (F : Nat) (a0 : List Int) (a1 : Int) : abody VG0212 (Af12 F) Tryd.f12 [(.str a0),.int .i64 a1] [] = f12 F (a0,a1) :=
 (abody_in (c := (sub (bodyOf Tryd.f12) [])) (by kernel_rfl) (s := ef12_a (a0,a1)) (by kernel_rfl)).trans (f12_1_eq F (a0,a1))
def r12 : CRun := fun X H => match X,H with
 | [(.str a0),.int .i64 a1],[] => some ((Sg.low a1),(.tup (.cons 0 (.agg 16 (.rI .u8 (Sg.pub a0 a1).1)) (.cons 0 (.int .i64 (Sg.pub a0 a1).2) .nil))),[])
 | _,_ => none
theorem pub_bad {s : List Int} {h : Int} (hb : s.length ≠ 32 ∨ ¬ (0 ≤ h ∧ h ≤ 6)) : Sg.pub s h = (List.replicate 16 0,1) := by rw [Sg.pub,if_pos hb]
theorem nodeOk_root {h : Int} (h1 : 0 ≤ h) (h2 : h ≤ 2) : Sg.nodeOk h 0 3 = true := by
 obtain ⟨n,rfl⟩ := Int.eq_ofNat_of_zero_le h1
 match n,h2 with
 | 0,_ => rfl
 | 1,_ => rfl
 | 2,_ => rfl
 | n + 3,h2 => exfalso; omega
theorem root_eq {s : List Int} {h : Int} (h1 : 0 ≤ h) : (Sg.ndM s h 0 []).1 = Sg.nd s h.toNat 0 := (Sg.ndF_ok s h.toNat 0 [] (Sg.cons_nil s)).1
theorem s12 (a0 : List Int) (a1 : Int) (hp : ((Sg.low a1)) = true) (h0 : okV (.str a0)) (h1 : okV (.int .i64 a1)) : ∃ F,f12 F (a0,a1) = some ((.tup (.cons 0 (.agg 16 (.rI .u8 (Sg.pub a0 a1).1)) (.cons 0 (.int .i64 (Sg.pub a0 a1).2) .nil))),[]) := by
 refine ⟨0,?_⟩
 simp only [Sg.low,decide_eq_true_eq] at hp
 simp only [f12,f12_1,int_bne,dec_and,dec_not]
 by_cases hl : a0.length = 32
 ·rw [cond_neg (by omega)]
  by_cases hh : 0 ≤ a1 ∧ a1 ≤ 6
  ·rw [cond_neg (by omega),nodeOk_root hh.1 (by omega),cond_true,root_eq hh.1]
   have e : Sg.pub a0 a1 = (Sg.nd a0 a1.toNat 0,0) := by rw [Sg.pub,if_neg (by omega)]
   rw [e]
  ·rw [cond_pos (by omega),pub_bad (.inr hh)]
 ·rw [cond_pos (by omega),pub_bad (.inl hl)]
theorem c12 : CallOk Tryd.prog G02 12 r12 := callOk_of (V := VG0212) mixed tys eVG0212 (f := 12) (fn := Tryd.f12) Tryd.func12 (by kernel_rfl) (c := sub (bodyOf Tryd.f12) []) (by kernel_rfl) (by
 intro X H r H' h hX hH
 unfold r12 at h; split at h <;> try contradiction
 ·simp only [Option.some.injEq,Prod.mk.injEq] at h
  obtain ⟨hp,rfl,rfl⟩ := h
  obtain ⟨F,hF⟩ := s12 _ _ hp (hX _ (.head _)) (hX _ (.tail _ (.head _)))
  exact ⟨Af12 F,(f12_body F _ _).trans hF⟩)
end Go.Am
end
section
namespace Go.Am
open Go Go.Proofs
abbrev sp56 : List (Nat × Md) := [(0,.plain),(1,.plain),(2,.plain),(10,.plain),(11,.plain),(50,.plain),(51,.plain),(52,.plain)]
abbrev sp57 : List (Nat × Md) := [(2,.plain),(10,.plain),(11,.plain),(68,.plain),(69,.plain)]
abbrev sp58 : List (Nat × Md) := [(0,.plain),(1,.plain),(2,.plain),(3,.plain)]
abbrev sp59 : List (Nat × Md) := [(0,.plain),(1,.plain),(2,.plain),(3,.plain),(10,.plain)]
abbrev sp60 : List (Nat × Md) := [(0,.plain),(1,.plain),(2,.plain),(3,.plain),(10,.plain),(11,.plain)]
abbrev sp61 : List (Nat × Md) := [(1,.plain),(2,.plain),(10,.plain),(11,.plain)]
abbrev Ty43 := Li × Int × Int × Li × Li × (List (List Int × List Int))
abbrev Ty44 := Li × Int × Int × Li × Li × (List (List Int × List Int)) × Li
abbrev Ty45 := Li × Int × Int × Li × Int × Int × Li × (List (List Int × List Int)) × Li
abbrev Ty46 := Int × Int × Li × (List (List Int × List Int)) × Li
abbrev Ty47 := Int × Int × Int × Li × (List (List Int × List Int)) × Li
def lVG0214 : List CEnt := [(10,[none],r10),(16,[none,none,none],r16),(21,[none],r21),(22,[none],r22),(25,[none,some 5],r25),(26,[none],r26),(27,[none,none,none,none,none],r27),(28,[none,none,none],r28),(29,[none],r29),(44,[none,none,none,none,none],r44 3)]
def VG0214 : Env := mkEnv T03 G02 lVG0214
noncomputable abbrev Kf45 := kFin VG0214 none (Tryd.f14).results.toList
theorem eVG0214 : EOk Tryd.prog VG0214 := eok_mk (by exact ⟨c10,c16,c21,c22,c25,c26,c27,c28,c29,(c44 3),trivial⟩)
def Af14 (F : Nat) : Cuts := { F := F,at_ := fun n => match n with | 11014 => some sp56 | 17014 => some sp57 | _ => none,join := fun n => match n with | 1068 => some sp58 | 7047 => some sp58 | 8045 => some sp59 | 9043 => some sp60 | 10041 => some sp60 | 11016 => some sp56 | 16022 => some sp61 | 17016 => some sp57 | 22003 => some [(11,.plain)] | _ => none }
noncomputable abbrev XAf14 (F : Nat) {α : Type} := @aexec α VG0214 (Af14 F)
def ef14_a : Ty25 → St := fun (a0,a1,a2,a3) => ⟨[(0,.str a0),(1,.int .i64 a1),(2,.int .i64 a2),(3,.str a3)],[],0,83,0⟩
def ef14j1 : Ty25 → St := fun (t0,t1,t2,t3) => ⟨[(0,.str t0),(1,.int .i64 t1),(2,.int .i64 t2),(3,.str t3)],[],0,83,0⟩
def ef14j2 : Ty25 → St := ef14j1
def ef14j3 : Ty43 → St := fun (t0,t1,t2,t3,x5,x6) => ⟨[(0,.str t0),(1,.int .i64 t1),(2,.int .i64 t2),(3,.str t3),(10,(.fn 44 (.cons 0 (.ptr 0 0 1 0 0 0 1) (.cons 0 (.ptr 1 0 1 0 0 0 1) (.cons 0 (.ptr 2 0 1 0 0 0 1) .nil)))))],[(0,(.cells 1 (.one (.mp 3)) true)),(1,(.cells 1 (.one (.str x5)) true)),(2,(.cells 1 (.one (.fn 44 (.cons 0 (.ptr 0 0 1 0 0 0 1) (.cons 0 (.ptr 1 0 1 0 0 0 1) (.cons 0 (.ptr 2 0 1 0 0 0 1) .nil))))) true)),(3,(.cells 0 (.rM .i64 2 (.arr .u8 16) x6) true))],4,83,0⟩
def ef14j4 : Ty43 → St := fun (t0,t1,t2,t3,x5,x6) => ⟨[(0,.str t0),(1,.int .i64 t1),(2,.int .i64 t2),(3,.str t3),(10,(.fn 44 (.cons 0 (.ptr 0 0 1 0 0 0 1) (.cons 0 (.ptr 1 0 1 0 0 0 1) (.cons 0 (.ptr 2 0 1 0 0 0 1) .nil))))),(11,.ptr 3 0 2 0 0 0 2)],[(0,(.cells 1 (.one (.mp 4)) true)),(1,(.cells 1 (.one (.str x5)) true)),(2,(.cells 1 (.one (.fn 44 (.cons 0 (.ptr 0 0 1 0 0 0 1) (.cons 0 (.ptr 1 0 1 0 0 0 1) (.cons 0 (.ptr 2 0 1 0 0 0 1) .nil))))) true)),(3,(.cells 2 (.segs (.cons 0 (.rT [.int .u32,.int .u32,.int .i8] []) (.cons 1 (.one .nilp) (.cons 1 (.one .ns) .nil)))) true)),(4,(.cells 0 (.rM .i64 2 (.arr .u8 16) x6) true))],5,83,0⟩
def ef14j5 : Ty44 → St := fun (t0,t1,t2,t3,x5,x6,x7) => ⟨[(0,.str t0),(1,.int .i64 t1),(2,.int .i64 t2),(3,.str t3),(10,(.fn 44 (.cons 0 (.ptr 0 0 1 0 0 0 1) (.cons 0 (.ptr 1 0 1 0 0 0 1) (.cons 0 (.ptr 2 0 1 0 0 0 1) .nil))))),(11,.ptr 3 0 2 0 0 0 2)],[(0,(.cells 1 (.one (.mp 4)) true)),(1,(.cells 1 (.one (.str x5)) true)),(2,(.cells 1 (.one (.fn 44 (.cons 0 (.ptr 0 0 1 0 0 0 1) (.cons 0 (.ptr 1 0 1 0 0 0 1) (.cons 0 (.ptr 2 0 1 0 0 0 1) .nil))))) true)),(3,(.cells 2 (.segs (.cons 0 (.rT [.int .u32,.int .u32,.int .i8] []) (.cons 1 (.one (.ptr 3 0 2 0 0 0 2)) (.cons 1 (.one (.own 5 0 1)) .nil)))) true)),(4,(.cells 0 (.rM .i64 2 (.arr .u8 16) x6) true)),(5,(.cells (0 + x7.length) (.segs (.cons 0 (.rT [.int .u16,.int .i8,.int .i8,.int .i16] []) (.cons x7.length (.rI .u8 x7) .nil))) true))],6,83,0⟩
def ef14j6 : Ty45 → St := fun (t0,t1,t2,t50,t51,t52,x7,x8,x9) => ⟨[(0,.str t0),(1,.int .i64 t1),(2,.int .i64 t2),(10,(.fn 44 (.cons 0 (.ptr 0 0 1 0 0 0 1) (.cons 0 (.ptr 1 0 1 0 0 0 1) (.cons 0 (.ptr 2 0 1 0 0 0 1) .nil))))),(11,.ptr 3 0 2 0 0 0 2),(50,(.vs (.rI .i64 t50) 0 1)),(51,.int .i64 t51),(52,.int .i64 t52)],[(0,(.cells 1 (.one (.mp 4)) true)),(1,(.cells 1 (.one (.str x7)) true)),(2,(.cells 1 (.one (.fn 44 (.cons 0 (.ptr 0 0 1 0 0 0 1) (.cons 0 (.ptr 1 0 1 0 0 0 1) (.cons 0 (.ptr 2 0 1 0 0 0 1) .nil))))) true)),(3,(.cells 2 (.segs (.cons 0 (.rT [.int .u32,.int .u32,.int .i8] []) (.cons 1 (.one (.ptr 3 0 2 0 0 0 2)) (.cons 1 (.one (.own 5 0 1)) .nil)))) true)),(4,(.cells 0 (.rM .i64 2 (.arr .u8 16) x8) true)),(5,(.cells (0 + x9.length) (.segs (.cons 0 (.rT [.int .u16,.int .i8,.int .i8,.int .i16] []) (.cons x9.length (.rI .u8 x9) .nil))) true))],6,83,0⟩
def ef14l1 : Ty45 → St := ef14j6
def ef14j7 : Ty46 → St := fun (t1,t2,x3,x4,x5) => ⟨[(1,.int .i64 t1),(2,.int .i64 t2),(10,(.fn 44 (.cons 0 (.ptr 0 0 1 0 0 0 1) (.cons 0 (.ptr 1 0 1 0 0 0 1) (.cons 0 (.ptr 2 0 1 0 0 0 1) .nil))))),(11,.ptr 3 0 2 0 0 0 2)],[(0,(.cells 1 (.one (.mp 4)) true)),(1,(.cells 1 (.one (.str x3)) true)),(2,(.cells 1 (.one (.fn 44 (.cons 0 (.ptr 0 0 1 0 0 0 1) (.cons 0 (.ptr 1 0 1 0 0 0 1) (.cons 0 (.ptr 2 0 1 0 0 0 1) .nil))))) true)),(3,(.cells 2 (.segs (.cons 0 (.rT [.int .u32,.int .u32,.int .i8] []) (.cons 1 (.one (.ptr 3 0 2 0 0 0 2)) (.cons 1 (.one (.own 5 0 1)) .nil)))) true)),(4,(.cells 0 (.rM .i64 2 (.arr .u8 16) x4) true)),(5,(.cells (0 + x5.length) (.segs (.cons 0 (.rT [.int .u16,.int .i8,.int .i8,.int .i16] []) (.cons x5.length (.rI .u8 x5) .nil))) true))],6,83,0⟩
def ef14j8 : Ty47 → St := fun (t2,t68,t69,x4,x5,x6) => ⟨[(2,.int .i64 t2),(10,(.fn 44 (.cons 0 (.ptr 0 0 1 0 0 0 1) (.cons 0 (.ptr 1 0 1 0 0 0 1) (.cons 0 (.ptr 2 0 1 0 0 0 1) .nil))))),(11,.ptr 3 0 2 0 0 0 2),(68,.int .i64 t68),(69,.int .i64 t69)],[(0,(.cells 1 (.one (.mp 4)) true)),(1,(.cells 1 (.one (.str x4)) true)),(2,(.cells 1 (.one (.fn 44 (.cons 0 (.ptr 0 0 1 0 0 0 1) (.cons 0 (.ptr 1 0 1 0 0 0 1) (.cons 0 (.ptr 2 0 1 0 0 0 1) .nil))))) true)),(3,(.cells 2 (.segs (.cons 0 (.rT [.int .u32,.int .u32,.int .i8] []) (.cons 1 (.one (.ptr 3 0 2 0 0 0 2)) (.cons 1 (.one (.own 5 0 1)) .nil)))) true)),(4,(.cells 0 (.rM .i64 2 (.arr .u8 16) x5) true)),(5,(.cells (0 + x6.length) (.segs (.cons 0 (.rT [.int .u16,.int .i8,.int .i8,.int .i16] []) (.cons x6.length (.rI .u8 x6) .nil))) true))],6,83,0⟩
def ef14l2 : Ty47 → St := ef14j8
def ef14j9 : Li → St := fun x1 => ⟨[(11,.ptr 0 0 2 0 0 0 2)],[(0,(.cells 2 (.segs (.cons 0 (.rT [.int .u32,.int .u32,.int .i8] []) (.cons 1 (.one (.ptr 0 0 2 0 0 0 2)) (.cons 1 (.one (.own 1 0 1)) .nil)))) true)),(1,(.cells (0 + x1.length) (.segs (.cons 0 (.rT [.int .u16,.int .i8,.int .i8,.int .i16] []) (.cons x1.length (.rI .u8 x1) .nil))) true))],2,83,0⟩
def f14_1 (F : Nat) (kf14j1 : Ty25 → Rz) : Ty25 → Rz := fun (a0,a1,a2,a3) => (kf14j1 (a0,a1,a2,a3))
theorem f14_1_eq (F : Nat) (Rf14j1 : St → Rz) : ∀ v,XAf14 F (bp Tryd.f14 2) (ef14_a v) (kSeq (kc VG0214 Rf14j1 sp58) Kf45) = f14_1 F (Rf14j1 ∘ ef14j1) v := by
 rintro ⟨a0,a1,a2,a3⟩; kernel_rfl
def f14_2 (F : Nat) (kf14j2 : Ty25 → Rz) : Ty25 → Rz := fun (t0,t1,t2,t3) => (cond ((↑t0.length : Int) != (32 : Int)) (some ((.tup (.cons 0 (.str []) (.cons 0 (.int .i64 1) .nil))),[])) (cond (!((decide (0 ≤ t1)) && (decide (t1 ≤ 6)))) (some ((.tup (.cons 0 (.str []) (.cons 0 (.int .i64 1) .nil))),[])) (cond (decide (t2 < (0 : Int))) (some ((.tup (.cons 0 (.str []) (.cons 0 (.int .i64 24) .nil))),[])) (cond (decide (0 ≤ t1)) (cond (decide (t2 ≥ (IntKind.i64.wrap ((1 : Int) * 2 ^ (min (Int.toNat t1) 64))))) (some ((.tup (.cons 0 (.str []) (.cons 0 (.int .i64 24) .nil))),[])) (cond (decide ((↑t3.length : Int) > (1048576 : Int))) (some ((.tup (.cons 0 (.str []) (.cons 0 (.int .i64 4) .nil))),[])) (kf14j2 (t0,t1,t2,t3)))) none))))
theorem f14_2_eq (F : Nat) (Rf14j2 : St → Rz) : ∀ v,XAf14 F (bp Tryd.f14 6) (ef14j1 v) (kSeq (kc VG0214 Rf14j2 sp58) Kf45) = f14_2 F (Rf14j2 ∘ ef14j2) v := by
 rintro ⟨t0,t1,t2,t3⟩; kernel_rfl
def f14_3 (F : Nat) (kf14j3 : Ty43 → Rz) : Ty25 → Rz := fun (t0,t1,t2,t3) => (kf14j3 (t0,t1,t2,t3,t0,[]))
theorem f14_3_eq (F : Nat) (Rf14j3 : St → Rz) : ∀ v,XAf14 F (bp Tryd.f14 14) (ef14j2 v) (kSeq (kc VG0214 Rf14j3 sp59) Kf45) = f14_3 F (Rf14j3 ∘ ef14j3) v := by
 rintro ⟨t0,t1,t2,t3⟩; kernel_rfl
def f14_4 (F : Nat) (kf14j4 : Ty43 → Rz) : Ty43 → Rz := fun (t0,t1,t2,t3,x5,x6) => (kf14j4 (t0,t1,t2,t3,x5,x6))
theorem f14_4_eq (F : Nat) (Rf14j4 : St → Rz) : ∀ v,XAf14 F (bp Tryd.f14 30) (ef14j3 v) (kSeq (kc VG0214 Rf14j4 sp60) Kf45) = f14_4 F (Rf14j4 ∘ ef14j4) v := by
 rintro ⟨t0,t1,t2,t3,x5,x6⟩; kernel_rfl
def f14_5 (F : Nat) (kf14j5 : Ty44 → Rz) : Ty43 → Rz := fun (t0,t1,t2,t3,x5,x6) => (cond (decide ((Wire.int t2).length < 1073741824)) (kf14j5 (t0,t1,t2,t3,x5,x6,([] ++ (Wire.int t2)))) none)
theorem f14_5_eq (F : Nat) (Rf14j5 : St → Rz) : ∀ v,XAf14 F (bp Tryd.f14 62) (ef14j4 v) (kSeq (kc VG0214 Rf14j5 sp60) Kf45) = f14_5 F (Rf14j5 ∘ ef14j5) v := by
 rintro ⟨t0,t1,t2,t3,x5,x6⟩; kernel_rfl
def f14_6 (F : Nat) (kf14j6 : Ty45 → Rz) (kf14j7 : Ty46 → Rz) : Ty44 → Rz := fun (t0,t1,t2,t3,x5,x6,x7) => (cond (Sg.nodeOk t1 (0 : Int) 3) (cond (decide (t3.length < 1073741000)) (kf14j6 (t0,t1,t2,(Sg.digits (Sg.digest (Sg.ndM x5 t1 (0 : Int) x6).1 t2 t3)),(↑(Sg.digits (Sg.digest (Sg.ndM x5 t1 (0 : Int) x6).1 t2 t3)).length : Int),(0 : Int),x5,(Sg.ndM x5 t1 (0 : Int) x6).2,x7)) none) none)
theorem f14_6_eq (F : Nat) (Rf14j6 : St → Rz) (Rf14j7 : St → Rz) : ∀ v,XAf14 F (bp Tryd.f14 252) (ef14j5 v) (kSeq (kc VG0214 Rf14j6 sp56) (kSeq (kc VG0214 Rf14j7 sp61) Kf45)) = f14_6 F (Rf14j6 ∘ ef14j6) (Rf14j7 ∘ ef14j7) v := by
 rintro ⟨t0,t1,t2,t3,x5,x6,x7⟩; kernel_rfl
def f14_7 (F : Nat) (kf14l1 : Ty45 → Rz) (kf14j7 : Ty46 → Rz) : Ty45 → Rz := fun (t0,t1,t2,t50,t51,t52,x7,x8,x9) => (cond (decide (t52 < t51)) (cond ((decide (0 ≤ t52)) && (decide (t52 < (↑t50.length : Int)))) (cond (decide ((t50.getD (Int.toNat t52) 0) ≤ 3)) (cond (decide (x9.length + ((Sg.adv t2 t52 (0 : Int) (Int.toNat ((t50.getD (Int.toNat t52) 0) - (0 : Int))) (Sg.start t0 t2 t52)).take 16).length < 1073741824)) (kf14l1 (t0,t1,t2,t50,t51,(IntKind.i64.wrap (t52 + (1 : Int))),x7,x8,(x9 ++ ((Sg.adv t2 t52 (0 : Int) (Int.toNat ((t50.getD (Int.toNat t52) 0) - (0 : Int))) (Sg.start t0 t2 t52)).take 16)))) none) none) none) (kf14j7 (t1,t2,x7,x8,x9)))
theorem f14_7_eq (F : Nat) (Rf14l1 : St → Rz) (Rf14j7 : St → Rz) : ∀ v,XAf14 F (bp Tryd.f14 1012) (ef14l1 v) (kSeq (kc VG0214 Rf14l1 sp56) (kBlock 1 (kSeq (kc VG0214 Rf14j7 sp61) Kf45))) = f14_7 F (Rf14l1 ∘ ef14l1) (Rf14j7 ∘ ef14j7) v := by
 rintro ⟨t0,t1,t2,t50,t51,t52,x7,x8,x9⟩; kernel_rfl
def f14_8_i : Ty45 → Li × Int × Int × Li × Int × Int × Li × (List (List Int × List Int)) × Li := fun (t0,t1,t2,t50,t51,t52,x7,x8,x9) => (t0,t1,t2,t50,t51,t52,x7,x8,x9)
def f14_8 (F : Nat) (kf14j7 : Ty46 → Rz) : Ty45 → Rz := fun v => loopN (fun k => f14_7 F k kf14j7) F (f14_8_i v)
theorem f14_8_eq (F : Nat) (Rf14j7 : St → Rz) : ∀ v,XAf14 F (bp Tryd.f14 506) (ef14j6 v) (kBlock 1 (kSeq (kc VG0214 Rf14j7 sp61) Kf45)) = f14_8 F (Rf14j7 ∘ ef14j7) v :=
 loop_cut (by kernel_rfl) (by kernel_rfl) ef14j6 ef14l1 _ f14_8_i (fun k => f14_7 F k (Rf14j7 ∘ ef14j7))
  (by rintro ⟨t0,t1,t2,t50,t51,t52,x7,x8,x9⟩; kernel_rfl) (fun Rf14l1 => f14_7_eq F Rf14l1 Rf14j7)
def f14_9 (F : Nat) (kf14j7 : Ty46 → Rz) : Ty45 → Rz := f14_8 F kf14j7
theorem f14_9_eq (F : Nat) (Rf14j7 : St → Rz) : ∀ v,XAf14 F (bp Tryd.f14 253) (ef14j6 v) (kSeq (kc VG0214 Rf14j7 sp61) Kf45) = f14_9 F (Rf14j7 ∘ ef14j7) v := fun v =>
 (block_in  (by kernel_rfl) _ _).trans (f14_8_eq F Rf14j7 v)
def f14_10 (F : Nat) (kf14j7 : Ty46 → Rz) : Ty44 → Rz := fun v => f14_6 F (f14_9 F kf14j7) kf14j7 v
theorem f14_10_eq (F : Nat) (Rf14j7 : St → Rz) : ∀ v,XAf14 F (bp Tryd.f14 126) (ef14j5 v) (kSeq (kc VG0214 Rf14j7 sp61) Kf45) = f14_10 F (Rf14j7 ∘ ef14j7) v :=
 seq_cut (by kernel_rfl) (by kernel_rfl) ef14j5 ef14j6 _ (fun k => f14_6 F k (Rf14j7 ∘ ef14j7)) (f14_9 F (Rf14j7 ∘ ef14j7))
  (fun Rf14j6 => f14_6_eq F Rf14j6 Rf14j7) (f14_9_eq F Rf14j7)
def f14_11 (F : Nat) (kf14j8 : Ty47 → Rz) (kf14j9 : Li → Rz) : Ty46 → Rz := fun (t1,t2,x3,x4,x5) => (kf14j8 (t2,t1,(0 : Int),x3,x4,x5))
theorem f14_11_eq (F : Nat) (Rf14j8 : St → Rz) (Rf14j9 : St → Rz) : ∀ v,XAf14 F (bp Tryd.f14 508) (ef14j7 v) (kSeq (kc VG0214 Rf14j8 sp57) (kSeq (kc VG0214 Rf14j9 [(11,.plain)]) Kf45)) = f14_11 F (Rf14j8 ∘ ef14j8) (Rf14j9 ∘ ef14j9) v := by
 rintro ⟨t1,t2,x3,x4,x5⟩; kernel_rfl
def f14_12 (F : Nat) (kf14l2 : Ty47 → Rz) (kf14j9 : Li → Rz) : Ty47 → Rz := fun (t2,t68,t69,x4,x5,x6) => (cond (decide (t69 < t68)) (cond (decide (0 ≤ t69)) (cond (Sg.nodeOk t69 (ibits .xor .i64 (Int.fdiv t2 (2 ^ (min (Int.toNat t69) 64))) (1 : Int)) 3) (cond (decide (x6.length + ((Sg.ndM x4 t69 (ibits .xor .i64 (Int.fdiv t2 (2 ^ (min (Int.toNat t69) 64))) (1 : Int)) x5).1.take 16).length < 1073741824)) (kf14l2 (t2,t68,(IntKind.i64.wrap (t69 + (1 : Int))),x4,(Sg.ndM x4 t69 (ibits .xor .i64 (Int.fdiv t2 (2 ^ (min (Int.toNat t69) 64))) (1 : Int)) x5).2,(x6 ++ ((Sg.ndM x4 t69 (ibits .xor .i64 (Int.fdiv t2 (2 ^ (min (Int.toNat t69) 64))) (1 : Int)) x5).1.take 16)))) none) none) none) (kf14j9 x6))
theorem f14_12_eq (F : Nat) (Rf14l2 : St → Rz) (Rf14j9 : St → Rz) : ∀ v,XAf14 F (bp Tryd.f14 2036) (ef14l2 v) (kSeq (kc VG0214 Rf14l2 sp57) (kBlock 3 (kSeq (kc VG0214 Rf14j9 [(11,.plain)]) Kf45))) = f14_12 F (Rf14l2 ∘ ef14l2) (Rf14j9 ∘ ef14j9) v := by
 rintro ⟨t2,t68,t69,x4,x5,x6⟩; kernel_rfl
def f14_13_i : Ty47 → Int × Int × Int × Li × (List (List Int × List Int)) × Li := fun (t2,t68,t69,x4,x5,x6) => (t2,t68,t69,x4,x5,x6)
def f14_13 (F : Nat) (kf14j9 : Li → Rz) : Ty47 → Rz := fun v => loopN (fun k => f14_12 F k kf14j9) F (f14_13_i v)
theorem f14_13_eq (F : Nat) (Rf14j9 : St → Rz) : ∀ v,XAf14 F (bp Tryd.f14 1018) (ef14j8 v) (kBlock 3 (kSeq (kc VG0214 Rf14j9 [(11,.plain)]) Kf45)) = f14_13 F (Rf14j9 ∘ ef14j9) v :=
 loop_cut (by kernel_rfl) (by kernel_rfl) ef14j8 ef14l2 _ f14_13_i (fun k => f14_12 F k (Rf14j9 ∘ ef14j9))
  (by rintro ⟨t2,t68,t69,x4,x5,x6⟩; kernel_rfl) (fun Rf14l2 => f14_12_eq F Rf14l2 Rf14j9)
def f14_14 (F : Nat) (kf14j9 : Li → Rz) : Ty47 → Rz := f14_13 F kf14j9
theorem f14_14_eq (F : Nat) (Rf14j9 : St → Rz) : ∀ v,XAf14 F (bp Tryd.f14 509) (ef14j8 v) (kSeq (kc VG0214 Rf14j9 [(11,.plain)]) Kf45) = f14_14 F (Rf14j9 ∘ ef14j9) v := fun v =>
 (block_in  (by kernel_rfl) _ _).trans (f14_13_eq F Rf14j9 v)
def f14_15 (F : Nat) (kf14j9 : Li → Rz) : Ty46 → Rz := fun v => f14_11 F (f14_14 F kf14j9) kf14j9 v
theorem f14_15_eq (F : Nat) (Rf14j9 : St → Rz) : ∀ v,XAf14 F (bp Tryd.f14 254) (ef14j7 v) (kSeq (kc VG0214 Rf14j9 [(11,.plain)]) Kf45) = f14_15 F (Rf14j9 ∘ ef14j9) v :=
 seq_cut (by kernel_rfl) (by kernel_rfl) ef14j7 ef14j8 _ (fun k => f14_11 F k (Rf14j9 ∘ ef14j9)) (f14_14 F (Rf14j9 ∘ ef14j9))
  (fun Rf14j8 => f14_11_eq F Rf14j8 Rf14j9) (f14_14_eq F Rf14j9)
def f14_16 (F : Nat) : Li → Rz := fun x1 => (cond (Nat.blt 0 x1.length) (some ((.tup (.cons 0 (.str x1) (.cons 0 (.int .i64 0) .nil))),[])) none)
theorem f14_16_eq (F : Nat) : ∀ v,XAf14 F (bp Tryd.f14 255) (ef14j9 v) Kf45 = f14_16 F v := by
 intro x1; kernel_rfl
def f14_17 (F : Nat) : Ty46 → Rz := fun v => f14_15 F (f14_16 F) v
theorem f14_17_eq (F : Nat) : ∀ v,XAf14 F (bp Tryd.f14 127) (ef14j7 v) Kf45 = f14_17 F v :=
 seq_cut (by kernel_rfl) (by kernel_rfl) ef14j7 ef14j9 _ (fun k => f14_15 F k) (f14_16 F)
  (fun Rf14j9 => f14_15_eq F Rf14j9) (f14_16_eq F)
def f14_18 (F : Nat) : Ty44 → Rz := fun v => f14_10 F (f14_17 F) v
theorem f14_18_eq (F : Nat) : ∀ v,XAf14 F (bp Tryd.f14 63) (ef14j5 v) Kf45 = f14_18 F v :=
 seq_cut (by kernel_rfl) (by kernel_rfl) ef14j5 ef14j7 _ (fun k => f14_10 F k) (f14_17 F)
  (fun Rf14j7 => f14_10_eq F Rf14j7) (f14_17_eq F)
def f14_19 (F : Nat) : Ty43 → Rz := fun v => f14_5 F (f14_18 F) v
theorem f14_19_eq (F : Nat) : ∀ v,XAf14 F (bp Tryd.f14 31) (ef14j4 v) Kf45 = f14_19 F v :=
 seq_cut (by kernel_rfl) (by kernel_rfl) ef14j4 ef14j5 _ (fun k => f14_5 F k) (f14_18 F)
  (fun Rf14j5 => f14_5_eq F Rf14j5) (f14_18_eq F)
def f14_20 (F : Nat) : Ty43 → Rz := fun v => f14_4 F (f14_19 F) v
theorem f14_20_eq (F : Nat) : ∀ v,XAf14 F (bp Tryd.f14 15) (ef14j3 v) Kf45 = f14_20 F v :=
 seq_cut (by kernel_rfl) (by kernel_rfl) ef14j3 ef14j4 _ (fun k => f14_4 F k) (f14_19 F)
  (fun Rf14j4 => f14_4_eq F Rf14j4) (f14_19_eq F)
def f14_21 (F : Nat) : Ty25 → Rz := fun v => f14_3 F (f14_20 F) v
theorem f14_21_eq (F : Nat) : ∀ v,XAf14 F (bp Tryd.f14 7) (ef14j2 v) Kf45 = f14_21 F v :=
 seq_cut (by kernel_rfl) (by kernel_rfl) ef14j2 ef14j3 _ (fun k => f14_3 F k) (f14_20 F)
  (fun Rf14j3 => f14_3_eq F Rf14j3) (f14_20_eq F)
def f14_22 (F : Nat) : Ty25 → Rz := fun v => f14_2 F (f14_21 F) v
theorem f14_22_eq (F : Nat) : ∀ v,XAf14 F (bp Tryd.f14 3) (ef14j1 v) Kf45 = f14_22 F v :=
 seq_cut (by kernel_rfl) (by kernel_rfl) ef14j1 ef14j2 _ (fun k => f14_2 F k) (f14_21 F)
  (fun Rf14j2 => f14_2_eq F Rf14j2) (f14_21_eq F)
def f14_23 (F : Nat) : Ty25 → Rz := fun v => f14_1 F (f14_22 F) v
theorem f14_23_eq (F : Nat) : ∀ v,XAf14 F (sub (bodyOf Tryd.f14) []) (ef14_a v) Kf45 = f14_23 F v :=
 seq_cut (by kernel_rfl) (by kernel_rfl) ef14_a ef14j1 _ (fun k => f14_1 F k) (f14_22 F)
  (fun Rf14j1 => f14_1_eq F Rf14j1) (f14_22_eq F)
def f14 (F : Nat) : Ty25 → Rz := f14_23 F
theorem f14_body (F : Nat) (a0 : List Int) (a1 : Int) (a2 : Int) (a3 : List Int) : abody VG0214 (Af14 F) Tryd.f14 [(.str a0),.int .i64 a1,.int .i64 a2,.str a3] [] = f14 F (a0,a1,a2,a3) :=
 (abody_in (c := (sub (bodyOf Tryd.f14) [])) (by kernel_rfl) (s := ef14_a (a0,a1,a2,a3)) (by kernel_rfl)).trans (f14_23_eq F (a0,a1,a2,a3))
def r14 : CRun := fun X H => match X,H with
 | [(.str a0),.int .i64 a1,.int .i64 a2,.str a3],[] => some ((Sg.low a1),(.tup (.cons 0 (.str (Sg.sign a0 a1 a2 a3).1) (.cons 0 (.int .i64 (Sg.sign a0 a1 a2 a3).2) .nil))),[])
 | _,_ => none
theorem ediv2 (m j : Nat) : (m : Int) / 2 ^ j = ((m / 2 ^ j : Nat) : Int) := by
 rw [Int.natCast_ediv,Int.natCast_pow]; rfl
theorem shr2 {m j : Nat} (hj : j ≤ 64) : Int.fdiv (m : Int) (2 ^ (min (Int.toNat (j : Int)) 64)) = ((m / 2 ^ j : Nat) : Int) := by
 rw [Int.toNat_natCast,Nat.min_eq_left hj,shr_nat]
theorem sib_eq {m j : Nat} (hm : m < 64) : ibits .xor .i64 ((m / 2 ^ j : Nat) : Int) 1 = Sg.sib (m : Int) j := by
 rw [Sg.xor1 _ (Nat.lt_of_le_of_lt (Nat.div_le_self _ _) hm),Sg.sib,ediv2]
theorem pow_small {n : Nat} (h : n ≤ 6) : IntKind.i64.wrap ((1 : Int) * 2 ^ (min (Int.toNat (n : Int)) 64)) = 2 ^ n := by
 match n,h with
 | 0,_ => rfl
 | 1,_ => rfl
 | 2,_ => rfl
 | 3,_ => rfl
 | 4,_ => rfl
 | 5,_ => rfl
 | 6,_ => rfl
 | n + 7,h => omega
theorem pow_le64 {n : Nat} (h : n ≤ 6) : (2 : Int) ^ n ≤ 64 := by
 match n,h with
 | 0,_ => decide
 | 1,_ => decide
 | 2,_ => decide
 | 3,_ => decide
 | 4,_ => decide
 | 5,_ => decide
 | 6,_ => decide
 | n + 7,h => omega
theorem pow_le4 {n : Nat} (h : n ≤ 2) : (2 : Int) ^ n ≤ 4 := by
 match n,h with
 | 0,_ => decide
 | 1,_ => decide
 | 2,_ => decide
 | n + 3,h => omega
theorem s14 (a0 : List Int) (a1 : Int) (a2 : Int) (a3 : List Int) (hp : ((Sg.low a1)) = true) (h0 : okV (.str a0)) (h1 : okV (.int .i64 a1)) (h2 : okV (.int .i64 a2)) (h3 : okV (.str a3)) : ∃ F,f14 F (a0,a1,a2,a3) = some ((.tup (.cons 0 (.str (Sg.sign a0 a1 a2 a3).1) (.cons 0 (.int .i64 (Sg.sign a0 a1 a2 a3).2) .nil))),[]) := by
 simp only [Sg.low,decide_eq_true_eq] at hp
 obtain ⟨F,hF⟩ : ∃ F,100 < F := ⟨101,by decide⟩
 refine ⟨F,?_⟩
 simp only [f14_1,f14_2,f14_3,f14_4,f14_5,f14_6,f14_8_i,f14_8,f14_9,f14_10,f14_18,f14_19,f14_20,f14_21,f14_22,f14_23,f14,int_bne,dec_and,dec_not,ge_iff_le,gt_iff_lt]
 by_cases hl : a0.length = 32
 case neg =>
  rw [cond_pos (by omega)]
  have e : Sg.sign a0 a1 a2 a3 = ([],1) := by rw [Sg.sign,if_pos (.inl hl)]
  rw [e]
 rw [cond_neg (by omega)]
 by_cases hh : 0 ≤ a1 ∧ a1 ≤ 6
 case neg =>
  rw [cond_pos hh]
  have e : Sg.sign a0 a1 a2 a3 = ([],1) := by rw [Sg.sign,if_pos (.inr hh)]
  rw [e]
 rw [cond_neg (fun h => h hh)]
 obtain ⟨n,rfl⟩ := Int.eq_ofNat_of_zero_le hh.1
 have hn : n ≤ 2 := by omega
 have hpow := pow_le4 hn
 rw [pow_small (by omega)]
 by_cases hi : a2 < 0
 ·rw [cond_pos hi]
  have e : Sg.sign a0 (n : Int) a2 a3 = ([],24) := by rw [Sg.sign,if_neg (by omega),if_pos (.inl hi)]
  rw [e]
 rw [cond_neg hi,cond_pos hh.1]
 by_cases hi2 : 2 ^ n ≤ a2
 ·rw [cond_pos hi2]
  have e : Sg.sign a0 (n : Int) a2 a3 = ([],24) := by rw [Sg.sign,if_neg (by omega),if_pos (.inr hi2)]
  rw [e]
 rw [cond_neg hi2]
 by_cases hm : 1048576 < (a3.length : Int)
 ·rw [cond_pos hm]
  have e : Sg.sign a0 (n : Int) a2 a3 = ([],4) := by rw [Sg.sign,if_neg (by omega),if_neg (by rw [Int.toNat_natCast]; omega),if_pos (by omega)]
  rw [e]
 rw [cond_neg hm]
 have e : Sg.sign a0 (n : Int) a2 a3 = (Wire.int a2 ++ Sg.body a0 a2 (Sg.digits (Sg.digest (Sg.nd a0 n 0) a2 a3)) ++ Sg.path a0 a2 n,0) := by
  rw [Sg.sign,if_neg (by omega),if_neg (by rw [Int.toNat_natCast]; omega),if_neg (by omega),Int.toNat_natCast]
 rw [e]
 have hint := Sg.int_le a2
 rw [cond_pos (by omega),nodeOk_root hh.1 (by omega),cond_true,cond_pos (by omega),root_eq hh.1,Int.toNat_natCast]
 have hc1 : Sg.Cons a0 (Sg.ndM a0 (n : Int) 0 []).2 := (Sg.ndF_ok a0 _ 0 [] (Sg.cons_nil a0)).2
 generalize hes : (Sg.ndM a0 (n : Int) 0 []).2 = es1 at hc1
 generalize hD : Sg.digits (Sg.digest (Sg.nd a0 n 0) a2 a3) = D
 have hDl : D.length = 68 := by rw [← hD]; exact Sg.digits_len _
 have hDg : ∀ c,0 ≤ D.getD c 0 ∧ D.getD c 0 ≤ 3 := fun c => by rw [← hD]; exact Sg.digits_get _ c
 have hpl : ∀ c,(Sg.part a0 a2 D c).length = 16 := fun c => Sg.part_len a0 a2 D c
 have hbl : ∀ m : Nat,((List.range m).flatMap (Sg.part a0 a2 D)).length = 16 * m := fun m => Sg.flat_len _ m fun i _ => hpl i
 refine loopN_from (fun i => (a0,(n : Int),a2,D,(D.length : Int),(i : Int),a0,es1,Wire.int a2 ++ (List.range i).flatMap (Sg.part a0 a2 D))) 68 (by simp) (fun i hi' k => ?_) (fun k => ?_) _ (by omega)
 ·have h5 := hDg i
  have h6 := hbl i
  have h7 := hpl i
  have e1 : (Sg.adv a2 (i : Int) 0 (Int.toNat (D.getD i 0 - 0)) (Sg.start a0 a2 (i : Int))).take 16 = Sg.part a0 a2 D i := by
   rw [Int.sub_zero]; exact Sg.take16 h7
  simp only [f14_7,dec_and,Int.toNat_natCast]
  have e2 : (List.take 16 (Sg.adv a2 (i : Int) 0 (Int.toNat (D.getD i 0 - 0)) (Sg.start a0 a2 (i : Int)))).length = 16 := by rw [e1]; exact h7
  rw [cond_pos (by omega),cond_pos (by omega),cond_pos (by omega),cond_pos (by rw [List.length_append,e2]; omega),e1,i64w (by omega) (by omega),Sg.flat_succ,List.append_assoc]
  rfl
 ·have h6 := hbl 68
  simp only [f14_7,dec_and]
  rw [cond_neg (by omega)]
  simp only [f14_11,f14_13_i,f14_13,f14_14,f14_15,f14_17]
  have hX : (Wire.int a2 ++ (List.range 68).flatMap (Sg.part a0 a2 D)).length ≤ 1097 := by rw [List.length_append]; omega
  have eB : Sg.body a0 a2 D = (List.range 68).flatMap (Sg.part a0 a2 D) := rfl
  rw [eB]
  generalize hXX : Wire.int a2 ++ (List.range 68).flatMap (Sg.part a0 a2 D) = X at hX
  have hX0 : 0 < X.length := by rw [← hXX,List.length_append]; omega
  obtain ⟨i2,rfl⟩ := Int.eq_ofNat_of_zero_le (show 0 ≤ a2 by omega)
  have hi64 : i2 < 64 := by omega
  have hpth : ∀ m : Nat,(Sg.path a0 (i2 : Int) m).length = 16 * m := fun m => Sg.flat_len _ m fun i _ => Sg.nd_len a0 i _
  refine loopN_ind (fun m s => ∃ (j : Nat) (es : Sg.Ent),s = ((i2 : Int),(n : Int),(j : Int),a0,es,X ++ Sg.path a0 (i2 : Int) j) ∧ j + m = n ∧ Sg.Cons a0 es) ?_ _ n _ (by omega) ⟨0,es1,by simp [Sg.path],by omega,hc1⟩
  rintro m s k' ⟨j,es,rfl,hjm,hc⟩ hk
  have h8 := hpth j
  simp only [f14_12,dec_and]
  cases m with
  | zero =>
   rw [cond_neg (by omega)]
   simp only [f14_16]
   have : j = n := by omega
   subst this
   rw [show Nat.blt 0 (X ++ Sg.path a0 (i2 : Int) j).length = true by rw [Nat.blt_eq,List.length_append]; omega,cond_true]
  | succ m =>
   rw [cond_pos (by omega),cond_pos (by omega),shr2 (by omega),sib_eq hi64]
   have hsb : 0 ≤ Sg.sib (i2 : Int) j ∧ Sg.sib (i2 : Int) j ≤ 5 := by
    rw [Sg.sib,ediv2]
    have hdl := Nat.div_le_self i2 (2 ^ j)
    have hx3 : i2 ≤ 3 := by omega
    generalize i2 / 2 ^ j = x at hdl
    split <;> omega
   have hj2 : (2 : Int) ^ j ≤ 4 := pow_le4 (by omega)
   have hok : Sg.nodeOk (j : Int) (Sg.sib (i2 : Int) j) 3 = true := by
    simp only [Sg.nodeOk,decide_eq_true_eq,Int.toNat_natCast]
    refine ⟨by omega,by omega,by omega,hsb.1,?_⟩
    have : (Sg.sib (i2 : Int) j + 1) * 2 ^ j ≤ (Sg.sib (i2 : Int) j + 1) * 4 := Int.mul_le_mul_of_nonneg_left hj2 (by omega)
    omega
   obtain ⟨g1,g2⟩ := Sg.ndF_ok a0 j (Sg.sib (i2 : Int) j) es hc
   have g1' : (Sg.ndM a0 (j : Int) (Sg.sib (i2 : Int) j) es).1 = Sg.nd a0 j (Sg.sib (i2 : Int) j) := g1
   have h9 := Sg.nd_len a0 j (Sg.sib (i2 : Int) j)
   rw [hok,cond_true,g1',Sg.take16 h9,cond_pos (by rw [List.length_append]; omega),i64w (by omega) (by omega)]
   refine hk m _ (by omega) ⟨j + 1,(Sg.ndM a0 (j : Int) (Sg.sib (i2 : Int) j) es).2,?_,by omega,g2⟩
   have e9 : Sg.path a0 (i2 : Int) (j + 1) = Sg.path a0 (i2 : Int) j ++ Sg.nd a0 j (Sg.sib (i2 : Int) j) := Sg.flat_succ _ j
   rw [e9,List.append_assoc]
   rfl
theorem c14 : CallOk Tryd.prog G02 14 r14 := callOk_of (V := VG0214) mixed tys eVG0214 (f := 14) (fn := Tryd.f14) Tryd.func14 (by kernel_rfl) (c := sub (bodyOf Tryd.f14) []) (by kernel_rfl) (by
 intro X H r H' h hX hH
 unfold r14 at h; split at h <;> try contradiction
 ·simp only [Option.some.injEq,Prod.mk.injEq] at h
  obtain ⟨hp,rfl,rfl⟩ := h
  obtain ⟨F,hF⟩ := s14 _ _ _ _ hp (hX _ (.head _)) (hX _ (.tail _ (.head _))) (hX _ (.tail _ (.tail _ (.head _)))) (hX _ (.tail _ (.tail _ (.tail _ (.head _)))))
  exact ⟨Af14 F,(f14_body F _ _ _ _).trans hF⟩)
end Go.Am
end