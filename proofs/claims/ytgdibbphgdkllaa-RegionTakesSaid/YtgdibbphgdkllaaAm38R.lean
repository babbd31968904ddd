/- Part of a proof about the functions of the given program. -/
import Derived.Test.YtgdibbphgdkllaaAm38Q
set_option linter.unusedVariables false
set_option linter.unusedSimpArgs false
namespace Go.Am
open Go Go.Proofs

/-! gantry/gantryref38.Best -/
def lVG3842 : List CEnt := [(22,[some 3,some 3,none],r22),(35,[some 4],r35)]
def VG3842 : Env := mkEnv T38 G38 lVG3842
theorem eVG3842 : EOk Try.prog VG3842 := eok_mk (by exact ⟨c22,c35,trivial⟩)
def Af42 (F : Nat) : Cuts := { F := F,at_ := fun n => match n with | 3014 => some [(0,.plain),(1,.plain),(2,.plain),(7,.plain),(8,.plain)] | _ => none,join := fun n => match n with | 1024 => some [(0,.plain),(1,.plain),(2,.plain)] | 2022 => some [(0,.plain),(1,.plain),(2,.plain),(7,.plain)] | 3016 => some [(0,.plain),(1,.plain),(2,.plain),(7,.plain),(8,.plain)] | 7003 => some [(7,.plain)] | _ => none }
def ef42_a : (List Int) × (List Int) × (List Bool) → St := fun (a0,a1,a2) => { tmps := [(0,(.vs (.rI .i64 a0) 0 1)),(1,(.vs (.rI .i64 a1) 0 1)),(2,(.vs (.rB a2) 0 1))],heap := [],next := 0,nt := 34,m := 0 }
def ef42j1 : (List Int) × (List Int) × (List Bool) → St := fun (t0,t1,t2) => { tmps := [(0,(.vs (.rI .i64 t0) 0 1)),(1,(.vs (.rI .i64 t1) 0 1)),(2,(.vs (.rB t2) 0 1))],heap := [],next := 0,nt := 34,m := 0 }
def ef42j2 : (List Int) × (List Int) × (List Bool) × Int → St := fun (t0,t1,t2,t7) => { tmps := [(0,(.vs (.rI .i64 t0) 0 1)),(1,(.vs (.rI .i64 t1) 0 1)),(2,(.vs (.rB t2) 0 1)),(7,(.int .i64 t7))],heap := [],next := 0,nt := 34,m := 0 }
def ef42j3 : (List Int) × (List Int) × (List Bool) × Int × Int → St := fun (t0,t1,t2,t7,t8) => { tmps := [(0,(.vs (.rI .i64 t0) 0 1)),(1,(.vs (.rI .i64 t1) 0 1)),(2,(.vs (.rB t2) 0 1)),(7,(.int .i64 t7)),(8,(.int .i64 t8))],heap := [],next := 0,nt := 34,m := 0 }
def ef42l1 : (List Int) × (List Int) × (List Bool) × Int × Int → St := fun (t0,t1,t2,t7,t8) => { tmps := [(0,(.vs (.rI .i64 t0) 0 1)),(1,(.vs (.rI .i64 t1) 0 1)),(2,(.vs (.rB t2) 0 1)),(7,(.int .i64 t7)),(8,(.int .i64 t8))],heap := [],next := 0,nt := 34,m := 0 }
def ef42j4 : Int → St := fun t7 => { tmps := [(7,(.int .i64 t7))],heap := [],next := 0,nt := 34,m := 0 }
def f42_1 (F : Nat) (kf42j1 : (List Int) × (List Int) × (List Bool) → Option (AV × List Blk)) : (List Int) × (List Int) × (List Bool) → Option (AV × List Blk) := fun (a0,a1,a2) => (kf42j1 (a0,a1,a2))
theorem f42_1_eq (F : Nat) (Rf42j1 : St → Option (AV × List Blk)) : ∀ v,aexec VG3842 (Af42 F) (sub (bodyOf Try.f42) [0]) (ef42_a v) (kSeq (fun s => Rf42j1 (cutTo VG3842 (some [(0,.plain),(1,.plain),(2,.plain)]) s)) (kFin VG3842 none (Try.f42).results.toList)) = f42_1 F (fun w => Rf42j1 (ef42j1 w)) v := by
  rintro ⟨a0,a1,a2⟩; kernel_rfl
def f42_2 (F : Nat) (kf42j2 : (List Int) × (List Int) × (List Bool) × Int → Option (AV × List Blk)) : (List Int) × (List Int) × (List Bool) → Option (AV × List Blk) := fun (t0,t1,t2) => (kf42j2 (t0,t1,t2,(Reg.first t2)))
theorem f42_2_eq (F : Nat) (Rf42j2 : St → Option (AV × List Blk)) : ∀ v,aexec VG3842 (Af42 F) (sub (bodyOf Try.f42) [1,0]) (ef42j1 v) (kSeq (fun s => Rf42j2 (cutTo VG3842 (some [(0,.plain),(1,.plain),(2,.plain),(7,.plain)]) s)) (kFin VG3842 none (Try.f42).results.toList)) = f42_2 F (fun w => Rf42j2 (ef42j2 w)) v := by
  rintro ⟨t0,t1,t2⟩; kernel_rfl
def f42_3 (F : Nat) (kf42j3 : (List Int) × (List Int) × (List Bool) × Int × Int → Option (AV × List Blk)) (kf42j4 : Int → Option (AV × List Blk)) : (List Int) × (List Int) × (List Bool) × Int → Option (AV × List Blk) := fun (t0,t1,t2,t7) => (kf42j3 (t0,t1,t2,t7,(0 : Int)))
theorem f42_3_eq (F : Nat) (Rf42j3 : St → Option (AV × List Blk)) (Rf42j4 : St → Option (AV × List Blk)) : ∀ v,aexec VG3842 (Af42 F) (sub (bodyOf Try.f42) [1,1,0,0]) (ef42j2 v) (kSeq (fun s => Rf42j3 (cutTo VG3842 (some [(0,.plain),(1,.plain),(2,.plain),(7,.plain),(8,.plain)]) s)) (kSeq (fun s => Rf42j4 (cutTo VG3842 (some [(7,.plain)]) s)) (kFin VG3842 none (Try.f42).results.toList))) = f42_3 F (fun w => Rf42j3 (ef42j3 w)) (fun w => Rf42j4 (ef42j4 w)) v := by
  rintro ⟨t0,t1,t2,t7⟩; kernel_rfl
def f42_4 (F : Nat) (kf42l1 : (List Int) × (List Int) × (List Bool) × Int × Int → Option (AV × List Blk)) (kf42j4 : Int → Option (AV × List Blk)) : (List Int) × (List Int) × (List Bool) × Int × Int → Option (AV × List Blk) := fun (t0,t1,t2,t7,t8) => (cond (decide (t8 < (↑t2.length : Int))) (cond ((decide (0 ≤ t8)) && (decide (t8 < (↑t2.length : Int)))) (cond (t2.getD (Int.toNat t8) false) (cond (Reg.inr t1.length t0) (cond (Reg.inr t1.length t0) (cond (decide ((Reg.has t0 t1 t8) > (Reg.has t0 t1 t7))) (kf42l1 (t0,t1,t2,t8,(IntKind.i64.wrap (t8 + (1 : Int))))) (kf42l1 (t0,t1,t2,t7,(IntKind.i64.wrap (t8 + (1 : Int)))))) none) none) (kf42l1 (t0,t1,t2,t7,(IntKind.i64.wrap (t8 + (1 : Int)))))) none) (kf42j4 t7))
theorem f42_4_eq (F : Nat) (Rf42l1 : St → Option (AV × List Blk)) (Rf42j4 : St → Option (AV × List Blk)) : ∀ v,aexec VG3842 (Af42 F) (sub (bodyOf Try.f42) [1,1,0,1,0,0]) (ef42l1 v) (kSeq (fun s => Rf42l1 (cutTo VG3842 (some [(0,.plain),(1,.plain),(2,.plain),(7,.plain),(8,.plain)]) s)) (kBlock 0 (kSeq (fun s => Rf42j4 (cutTo VG3842 (some [(7,.plain)]) s)) (kFin VG3842 none (Try.f42).results.toList)))) = f42_4 F (fun w => Rf42l1 (ef42l1 w)) (fun w => Rf42j4 (ef42j4 w)) v := by
  rintro ⟨t0,t1,t2,t7,t8⟩; kernel_rfl
def f42_5_i : (List Int) × (List Int) × (List Bool) × Int × Int → (List Int) × (List Int) × (List Bool) × Int × Int := fun (t0,t1,t2,t7,t8) => (t0,t1,t2,t7,t8)
def f42_5 (F : Nat) (kf42j4 : Int → Option (AV × List Blk)) : (List Int) × (List Int) × (List Bool) × Int × Int → Option (AV × List Blk) := fun v => loopN (fun k => f42_4 F k kf42j4) F (f42_5_i v)
theorem f42_5_eq (F : Nat) (Rf42j4 : St → Option (AV × List Blk)) : ∀ v,aexec VG3842 (Af42 F) (sub (bodyOf Try.f42) [1,1,0,1,0]) (ef42j3 v) (kBlock 0 (kSeq (fun s => Rf42j4 (cutTo VG3842 (some [(7,.plain)]) s)) (kFin VG3842 none (Try.f42).results.toList))) = f42_5 F (fun w => Rf42j4 (ef42j4 w)) v :=
  loop_cut (c := (sub (bodyOf Try.f42) [1,1,0,1,0])) (d := (sub (bodyOf Try.f42) [1,1,0,1,0,0])) (by kernel_rfl) (spec := [(0,.plain),(1,.plain),(2,.plain),(7,.plain),(8,.plain)]) (by kernel_rfl) ef42j3 ef42l1 (kBlock 0 (kSeq (fun s => Rf42j4 (cutTo VG3842 (some [(7,.plain)]) s)) (kFin VG3842 none (Try.f42).results.toList))) f42_5_i (fun k => f42_4 F k (fun w => Rf42j4 (ef42j4 w)))
    (by rintro ⟨t0,t1,t2,t7,t8⟩; kernel_rfl) (fun Rf42l1 => f42_4_eq F Rf42l1 Rf42j4)
def f42_6 (F : Nat) (kf42j4 : Int → Option (AV × List Blk)) : (List Int) × (List Int) × (List Bool) × Int × Int → Option (AV × List Blk) := f42_5 F kf42j4
theorem f42_6_eq (F : Nat) (Rf42j4 : St → Option (AV × List Blk)) : ∀ v,aexec VG3842 (Af42 F) (sub (bodyOf Try.f42) [1,1,0,1]) (ef42j3 v) (kSeq (fun s => Rf42j4 (cutTo VG3842 (some [(7,.plain)]) s)) (kFin VG3842 none (Try.f42).results.toList)) = f42_6 F (fun w => Rf42j4 (ef42j4 w)) v := fun v =>
  (block_in (c := (sub (bodyOf Try.f42) [1,1,0,1])) (d := (sub (bodyOf Try.f42) [1,1,0,1,0])) (id := 0) (by kernel_rfl) _ _).trans (f42_5_eq F Rf42j4 v)
def f42_7 (F : Nat) (kf42j4 : Int → Option (AV × List Blk)) : (List Int) × (List Int) × (List Bool) × Int → Option (AV × List Blk) := fun v => f42_3 F (f42_6 F kf42j4) kf42j4 v
theorem f42_7_eq (F : Nat) (Rf42j4 : St → Option (AV × List Blk)) : ∀ v,aexec VG3842 (Af42 F) (sub (bodyOf Try.f42) [1,1,0]) (ef42j2 v) (kSeq (fun s => Rf42j4 (cutTo VG3842 (some [(7,.plain)]) s)) (kFin VG3842 none (Try.f42).results.toList)) = f42_7 F (fun w => Rf42j4 (ef42j4 w)) v :=
  seq_cut (c := (sub (bodyOf Try.f42) [1,1,0])) (a := (sub (bodyOf Try.f42) [1,1,0,0])) (b := (sub (bodyOf Try.f42) [1,1,0,1])) (by kernel_rfl) (spec := [(0,.plain),(1,.plain),(2,.plain),(7,.plain),(8,.plain)]) (by kernel_rfl) ef42j2 ef42j3 (kSeq (fun s => Rf42j4 (cutTo VG3842 (some [(7,.plain)]) s)) (kFin VG3842 none (Try.f42).results.toList)) (fun k => f42_3 F k (fun w => Rf42j4 (ef42j4 w))) (f42_6 F (fun w => Rf42j4 (ef42j4 w)))
    (fun Rf42j3 => f42_3_eq F Rf42j3 Rf42j4) (f42_6_eq F Rf42j4)
def f42_8 (F : Nat) : Int → Option (AV × List Blk) := fun t7 => (some ((.int .i64 t7),[]))
theorem f42_8_eq (F : Nat) : ∀ v,aexec VG3842 (Af42 F) (sub (bodyOf Try.f42) [1,1,1]) (ef42j4 v) (kFin VG3842 none (Try.f42).results.toList) = f42_8 F v := by
  intro t7; kernel_rfl
def f42_9 (F : Nat) : (List Int) × (List Int) × (List Bool) × Int → Option (AV × List Blk) := fun v => f42_7 F (f42_8 F) v
theorem f42_9_eq (F : Nat) : ∀ v,aexec VG3842 (Af42 F) (sub (bodyOf Try.f42) [1,1]) (ef42j2 v) (kFin VG3842 none (Try.f42).results.toList) = f42_9 F v :=
  seq_cut (c := (sub (bodyOf Try.f42) [1,1])) (a := (sub (bodyOf Try.f42) [1,1,0])) (b := (sub (bodyOf Try.f42) [1,1,1])) (by kernel_rfl) (spec := [(7,.plain)]) (by kernel_rfl) ef42j2 ef42j4 (kFin VG3842 none (Try.f42).results.toList) (fun k => f42_7 F k) (f42_8 F)
    (fun Rf42j4 => f42_7_eq F Rf42j4) (f42_8_eq F)
def f42_10 (F : Nat) : (List Int) × (List Int) × (List Bool) → Option (AV × List Blk) := fun v => f42_2 F (f42_9 F) v
theorem f42_10_eq (F : Nat) : ∀ v,aexec VG3842 (Af42 F) (sub (bodyOf Try.f42) [1]) (ef42j1 v) (kFin VG3842 none (Try.f42).results.toList) = f42_10 F v :=
  seq_cut (c := (sub (bodyOf Try.f42) [1])) (a := (sub (bodyOf Try.f42) [1,0])) (b := (sub (bodyOf Try.f42) [1,1])) (by kernel_rfl) (spec := [(0,.plain),(1,.plain),(2,.plain),(7,.plain)]) (by kernel_rfl) ef42j1 ef42j2 (kFin VG3842 none (Try.f42).results.toList) (fun k => f42_2 F k) (f42_9 F)
    (fun Rf42j2 => f42_2_eq F Rf42j2) (f42_9_eq F)
def f42_11 (F : Nat) : (List Int) × (List Int) × (List Bool) → Option (AV × List Blk) := fun v => f42_1 F (f42_10 F) v
theorem f42_11_eq (F : Nat) : ∀ v,aexec VG3842 (Af42 F) (sub (bodyOf Try.f42) []) (ef42_a v) (kFin VG3842 none (Try.f42).results.toList) = f42_11 F v :=
  seq_cut (c := (sub (bodyOf Try.f42) [])) (a := (sub (bodyOf Try.f42) [0])) (b := (sub (bodyOf Try.f42) [1])) (by kernel_rfl) (spec := [(0,.plain),(1,.plain),(2,.plain)]) (by kernel_rfl) ef42_a ef42j1 (kFin VG3842 none (Try.f42).results.toList) (fun k => f42_1 F k) (f42_10 F)
    (fun Rf42j1 => f42_1_eq F Rf42j1) (f42_10_eq F)
/-- gantry/gantryref38.Best -/
def f42 (F : Nat) : (List Int) × (List Int) × (List Bool) → Option (AV × List Blk) := f42_11 F
theorem f42_body (F : Nat) (a0 : List Int) (a1 : List Int) (a2 : List Bool) : abody VG3842 (Af42 F) Try.f42 [(.vs (.rI .i64 a0) 0 1),(.vs (.rI .i64 a1) 0 1),(.vs (.rB a2) 0 1)] [] = f42 F (a0,a1,a2) :=
  (abody_in (c := (sub (bodyOf Try.f42) [])) (by kernel_rfl) (s := ef42_a (a0,a1,a2)) (by kernel_rfl)).trans (f42_11_eq F (a0,a1,a2))
def r42 : CRun := fun X H => match X,H with
  | [(.vs (.rI .i64 a0) 0 1),(.vs (.rI .i64 a1) 0 1),(.vs (.rB a2) 0 1)],[] => some ((((Reg.inr a1.length a0) && (decide (a2.length ≤ 6))) && (Reg.lt6 a1)),(.int .i64 (Reg.best a0 a1 a2)),[])
  | _,_ => none
theorem s42 (a0 : List Int) (a1 : List Int) (a2 : List Bool) (hp : ((((Reg.inr a1.length a0) && (decide (a2.length ≤ 6))) && (Reg.lt6 a1))) = true) (h0 : okV (.vs (.rI .i64 a0) 0 1)) (h1 : okV (.vs (.rI .i64 a1) 0 1)) (h2 : okV (.vs (.rB a2) 0 1)) : ∃ F,f42 F (a0,a1,a2) = some ((.int .i64 (Reg.best a0 a1 a2)),[]) := by
  simp only [Bool.and_eq_true,decide_eq_true_eq] at hp
  obtain ⟨⟨hin,h6⟩,hlt⟩ := hp
  refine ⟨a2.length + 1,?_⟩
  simp only [f42,f42_11,f42_1,f42_10,f42_2,f42_9,f42_7,f42_3,f42_6,f42_5,f42_5_i]
  refine loopN_from (fun i => (a0,a1,a2,Reg.bestTo a0 a1 a2 i,(i : Int))) a2.length (by rfl) (fun i hi k => ?_) (fun k => ?_) _ (by omega)
  · simp only [f42_4,dec_and,hin,cond_true]
    rw [cond_pos (by omega),cond_pos (by omega),Int.toNat_natCast,Reg.bestTo_succ,i64w (by omega) (by omega)]
    cases hu : a2.getD i false with
    | false => rw [cond_false,if_neg (by simp)]; rfl
    | true =>
      rw [cond_true]
      by_cases hc : Reg.has a0 a1 (i : Int) > Reg.has a0 a1 (Reg.bestTo a0 a1 a2 i)
      · rw [cond_pos hc,if_pos ⟨rfl,hc⟩]; rfl
      · rw [cond_neg hc,if_neg (fun h => hc h.2)]; rfl
  · simp only [f42_4]
    rw [cond_neg (by omega)]
    rfl

theorem c42 : CallOk Try.prog G38 42 r42 := callOk_of (V := VG3842) mixed tys eVG3842 (f := 42) (fn := Try.f42) Try.func42 (by kernel_rfl) (c := sub (bodyOf Try.f42) []) (by kernel_rfl) (by
  intro X H r H' h hX hH
  unfold r42 at h; split at h <;> try contradiction
  · simp only [Option.some.injEq,Prod.mk.injEq] at h
    obtain ⟨hp,rfl,rfl⟩ := h
    obtain ⟨F,hF⟩ := s42 _ _ _ hp (hX _ (.head _)) (hX _ (.tail _ (.head _))) (hX _ (.tail _ (.tail _ (.head _))))
    exact ⟨Af42 F,(f42_body F _ _ _).trans hF⟩)
end Go.Am
