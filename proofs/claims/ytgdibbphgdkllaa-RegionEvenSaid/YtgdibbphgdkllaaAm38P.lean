/- Part of a proof about the functions of the given program. -/
import Derived.Test.YtgdibbphgdkllaaAm38B
set_option linter.unusedVariables false
set_option linter.unusedSimpArgs false
namespace Go.Am
open Go Go.Proofs

/-! gantry/gantryref38.First -/
def lVG3835 : List CEnt := []
def VG3835 : Env := mkEnv T38 G38 lVG3835
theorem eVG3835 : EOk Try.prog VG3835 := eok_mk (by exact trivial)
def Af35 (F : Nat) : Cuts := { F := F,at_ := fun n => match n with | 2016 => some [(0,.plain),(3,.plain)] | _ => none,join := fun n => match n with | 1024 => some [(0,.plain)] | 2018 => some [(0,.plain),(3,.plain)] | 6003 => some [] | _ => none }
def ef35_a : (List Bool) → St := fun a0 => { tmps := [(0,(.vs (.rB a0) 0 1))],heap := [],next := 0,nt := 15,m := 0 }
def ef35j1 : (List Bool) → St := fun t0 => { tmps := [(0,(.vs (.rB t0) 0 1))],heap := [],next := 0,nt := 15,m := 0 }
def ef35j2 : (List Bool) × Int → St := fun (t0,t3) => { tmps := [(0,(.vs (.rB t0) 0 1)),(3,(.int .i64 t3))],heap := [],next := 0,nt := 15,m := 0 }
def ef35l1 : (List Bool) × Int → St := fun (t0,t3) => { tmps := [(0,(.vs (.rB t0) 0 1)),(3,(.int .i64 t3))],heap := [],next := 0,nt := 15,m := 0 }
def ef35j3 : Unit → St := fun _ => { tmps := [],heap := [],next := 0,nt := 15,m := 0 }
def f35_1 (F : Nat) (kf35j1 : (List Bool) → Option (AV × List Blk)) : (List Bool) → Option (AV × List Blk) := fun a0 => (kf35j1 a0)
theorem f35_1_eq (F : Nat) (Rf35j1 : St → Option (AV × List Blk)) : ∀ v,aexec VG3835 (Af35 F) (sub (bodyOf Try.f35) [0]) (ef35_a v) (kSeq (fun s => Rf35j1 (cutTo VG3835 (some [(0,.plain)]) s)) (kFin VG3835 none (Try.f35).results.toList)) = f35_1 F (fun w => Rf35j1 (ef35j1 w)) v := by
  intro a0; kernel_rfl
def f35_2 (F : Nat) (kf35j2 : (List Bool) × Int → Option (AV × List Blk)) (kf35j3 : Unit → Option (AV × List Blk)) : (List Bool) → Option (AV × List Blk) := fun t0 => (kf35j2 (t0,(0 : Int)))
theorem f35_2_eq (F : Nat) (Rf35j2 : St → Option (AV × List Blk)) (Rf35j3 : St → Option (AV × List Blk)) : ∀ v,aexec VG3835 (Af35 F) (sub (bodyOf Try.f35) [1,0,0]) (ef35j1 v) (kSeq (fun s => Rf35j2 (cutTo VG3835 (some [(0,.plain),(3,.plain)]) s)) (kSeq (fun s => Rf35j3 (cutTo VG3835 (some []) s)) (kFin VG3835 none (Try.f35).results.toList))) = f35_2 F (fun w => Rf35j2 (ef35j2 w)) (fun w => Rf35j3 (ef35j3 w)) v := by
  intro t0; kernel_rfl
def f35_3 (F : Nat) (kf35l1 : (List Bool) × Int → Option (AV × List Blk)) (kf35j3 : Unit → Option (AV × List Blk)) : (List Bool) × Int → Option (AV × List Blk) := fun (t0,t3) => (cond (decide (t3 < (↑t0.length : Int))) (cond ((decide (0 ≤ t3)) && (decide (t3 < (↑t0.length : Int)))) (cond (t0.getD (Int.toNat t3) false) (some ((.int .i64 t3),[])) (kf35l1 (t0,(IntKind.i64.wrap (t3 + (1 : Int)))))) none) (kf35j3 ()))
theorem f35_3_eq (F : Nat) (Rf35l1 : St → Option (AV × List Blk)) (Rf35j3 : St → Option (AV × List Blk)) : ∀ v,aexec VG3835 (Af35 F) (sub (bodyOf Try.f35) [1,0,1,0,0]) (ef35l1 v) (kSeq (fun s => Rf35l1 (cutTo VG3835 (some [(0,.plain),(3,.plain)]) s)) (kBlock 0 (kSeq (fun s => Rf35j3 (cutTo VG3835 (some []) s)) (kFin VG3835 none (Try.f35).results.toList)))) = f35_3 F (fun w => Rf35l1 (ef35l1 w)) (fun w => Rf35j3 (ef35j3 w)) v := by
  rintro ⟨t0,t3⟩; kernel_rfl
def f35_4_i : (List Bool) × Int → (List Bool) × Int := fun (t0,t3) => (t0,t3)
def f35_4 (F : Nat) (kf35j3 : Unit → Option (AV × List Blk)) : (List Bool) × Int → Option (AV × List Blk) := fun v => loopN (fun k => f35_3 F k kf35j3) F (f35_4_i v)
theorem f35_4_eq (F : Nat) (Rf35j3 : St → Option (AV × List Blk)) : ∀ v,aexec VG3835 (Af35 F) (sub (bodyOf Try.f35) [1,0,1,0]) (ef35j2 v) (kBlock 0 (kSeq (fun s => Rf35j3 (cutTo VG3835 (some []) s)) (kFin VG3835 none (Try.f35).results.toList))) = f35_4 F (fun w => Rf35j3 (ef35j3 w)) v :=
  loop_cut (c := (sub (bodyOf Try.f35) [1,0,1,0])) (d := (sub (bodyOf Try.f35) [1,0,1,0,0])) (by kernel_rfl) (spec := [(0,.plain),(3,.plain)]) (by kernel_rfl) ef35j2 ef35l1 (kBlock 0 (kSeq (fun s => Rf35j3 (cutTo VG3835 (some []) s)) (kFin VG3835 none (Try.f35).results.toList))) f35_4_i (fun k => f35_3 F k (fun w => Rf35j3 (ef35j3 w)))
    (by rintro ⟨t0,t3⟩; kernel_rfl) (fun Rf35l1 => f35_3_eq F Rf35l1 Rf35j3)
def f35_5 (F : Nat) (kf35j3 : Unit → Option (AV × List Blk)) : (List Bool) × Int → Option (AV × List Blk) := f35_4 F kf35j3
theorem f35_5_eq (F : Nat) (Rf35j3 : St → Option (AV × List Blk)) : ∀ v,aexec VG3835 (Af35 F) (sub (bodyOf Try.f35) [1,0,1]) (ef35j2 v) (kSeq (fun s => Rf35j3 (cutTo VG3835 (some []) s)) (kFin VG3835 none (Try.f35).results.toList)) = f35_5 F (fun w => Rf35j3 (ef35j3 w)) v := fun v =>
  (block_in (c := (sub (bodyOf Try.f35) [1,0,1])) (d := (sub (bodyOf Try.f35) [1,0,1,0])) (id := 0) (by kernel_rfl) _ _).trans (f35_4_eq F Rf35j3 v)
def f35_6 (F : Nat) (kf35j3 : Unit → Option (AV × List Blk)) : (List Bool) → Option (AV × List Blk) := fun v => f35_2 F (f35_5 F kf35j3) kf35j3 v
theorem f35_6_eq (F : Nat) (Rf35j3 : St → Option (AV × List Blk)) : ∀ v,aexec VG3835 (Af35 F) (sub (bodyOf Try.f35) [1,0]) (ef35j1 v) (kSeq (fun s => Rf35j3 (cutTo VG3835 (some []) s)) (kFin VG3835 none (Try.f35).results.toList)) = f35_6 F (fun w => Rf35j3 (ef35j3 w)) v :=
  seq_cut (c := (sub (bodyOf Try.f35) [1,0])) (a := (sub (bodyOf Try.f35) [1,0,0])) (b := (sub (bodyOf Try.f35) [1,0,1])) (by kernel_rfl) (spec := [(0,.plain),(3,.plain)]) (by kernel_rfl) ef35j1 ef35j2 (kSeq (fun s => Rf35j3 (cutTo VG3835 (some []) s)) (kFin VG3835 none (Try.f35).results.toList)) (fun k => f35_2 F k (fun w => Rf35j3 (ef35j3 w))) (f35_5 F (fun w => Rf35j3 (ef35j3 w)))
    (fun Rf35j2 => f35_2_eq F Rf35j2 Rf35j3) (f35_5_eq F Rf35j3)
def f35_7 (F : Nat) : Unit → Option (AV × List Blk) := fun _ => (some ((.int .i64 (-1 : Int)),[]))
theorem f35_7_eq (F : Nat) : ∀ v,aexec VG3835 (Af35 F) (sub (bodyOf Try.f35) [1,1]) (ef35j3 v) (kFin VG3835 none (Try.f35).results.toList) = f35_7 F v := by
  intro _; kernel_rfl
def f35_8 (F : Nat) : (List Bool) → Option (AV × List Blk) := fun v => f35_6 F (f35_7 F) v
theorem f35_8_eq (F : Nat) : ∀ v,aexec VG3835 (Af35 F) (sub (bodyOf Try.f35) [1]) (ef35j1 v) (kFin VG3835 none (Try.f35).results.toList) = f35_8 F v :=
  seq_cut (c := (sub (bodyOf Try.f35) [1])) (a := (sub (bodyOf Try.f35) [1,0])) (b := (sub (bodyOf Try.f35) [1,1])) (by kernel_rfl) (spec := []) (by kernel_rfl) ef35j1 ef35j3 (kFin VG3835 none (Try.f35).results.toList) (fun k => f35_6 F k) (f35_7 F)
    (fun Rf35j3 => f35_6_eq F Rf35j3) (f35_7_eq F)
def f35_9 (F : Nat) : (List Bool) → Option (AV × List Blk) := fun v => f35_1 F (f35_8 F) v
theorem f35_9_eq (F : Nat) : ∀ v,aexec VG3835 (Af35 F) (sub (bodyOf Try.f35) []) (ef35_a v) (kFin VG3835 none (Try.f35).results.toList) = f35_9 F v :=
  seq_cut (c := (sub (bodyOf Try.f35) [])) (a := (sub (bodyOf Try.f35) [0])) (b := (sub (bodyOf Try.f35) [1])) (by kernel_rfl) (spec := [(0,.plain)]) (by kernel_rfl) ef35_a ef35j1 (kFin VG3835 none (Try.f35).results.toList) (fun k => f35_1 F k) (f35_8 F)
    (fun Rf35j1 => f35_1_eq F Rf35j1) (f35_8_eq F)
/-- gantry/gantryref38.First -/
def f35 (F : Nat) : (List Bool) → Option (AV × List Blk) := f35_9 F
theorem f35_body (F : Nat) (a0 : List Bool) : abody VG3835 (Af35 F) Try.f35 [(.vs (.rB a0) 0 1)] [] = f35 F a0 :=
  (abody_in (c := (sub (bodyOf Try.f35) [])) (by kernel_rfl) (s := ef35_a a0) (by kernel_rfl)).trans (f35_9_eq F a0)
def r35 : CRun := fun X H => match X,H with
  | [(.vs (.rB a0) 0 1)],[] => some (true,(.int .i64 (Reg.first a0)),[])
  | _,_ => none
theorem s35 (a0 : List Bool) (h0 : okV (.vs (.rB a0) 0 1)) : ∃ F,f35 F a0 = some ((.int .i64 (Reg.first a0)),[]) := by
  have hlen : a0.length < 4611686018427387904 := h0
  refine ⟨a0.length + 1,?_⟩
  simp only [f35,f35_9,f35_1,f35_8,f35_6,f35_2,f35_5,f35_4,f35_4_i]
  have hb : a0.length < 4611686018427387904 := hlen
  refine (loopN_scan (fun i => (a0,(i : Int))) a0.length (fun i => if (a0.getD i false) = true then some (some (AV.int .i64 (i : Int),[])) else none) (some (AV.int .i64 (-1),[])) (by rfl) (fun i hi k => ?_) (fun k => ?_) _ (by omega)).trans ?_
  · simp only [f35_3,dec_and]
    rw [cond_pos (by omega),cond_pos (by omega),Int.toNat_natCast,i64w (by omega) (by omega)]
    cases (a0.getD i false) <;> rfl
  · simp only [f35_3]
    rw [cond_neg (by omega)]
    rfl
  · rw [scan_idx (fun x => x) a0 false (fun i => some (AV.int .i64 (i : Int),[]))]
    have e : (fun x : Bool => x) = fun x => x == true := funext fun x => by cases x <;> rfl
    rw [e]
    unfold Reg.first Reg.idx
    cases a0.findIdx? _ <;> rfl

theorem c35 : CallOk Try.prog G38 35 r35 := callOk_of (V := VG3835) mixed tys eVG3835 (f := 35) (fn := Try.f35) Try.func35 (by kernel_rfl) (c := sub (bodyOf Try.f35) []) (by kernel_rfl) (by
  intro X H r H' h hX hH
  unfold r35 at h; split at h <;> try contradiction
  · simp only [Option.some.injEq,Prod.mk.injEq] at h
    obtain ⟨hp,rfl,rfl⟩ := h
    obtain ⟨F,hF⟩ := s35 _ (hX _ (.head _))
    exact ⟨Af35 F,(f35_body F _).trans hF⟩)
/-! gantry/gantryref38.Has -/
def lVG3822 : List CEnt := []
def VG3822 : Env := mkEnv T38 G38 lVG3822
theorem eVG3822 : EOk Try.prog VG3822 := eok_mk (by exact trivial)
def Af22 (F : Nat) : Cuts := { F := F,at_ := fun n => match n with | 3014 => some [(0,.plain),(1,.plain),(2,.plain),(7,.plain),(8,.plain)] | _ => none,join := fun n => match n with | 1024 => some [(0,.plain),(1,.plain),(2,.plain)] | 2022 => some [(0,.plain),(1,.plain),(2,.plain),(7,.plain)] | 3016 => some [(0,.plain),(1,.plain),(2,.plain),(7,.plain),(8,.plain)] | 7003 => some [(7,.plain)] | _ => none }
def ef22_a : (List Int) × (List Int) × Int → St := fun (a0,a1,a2) => { tmps := [(0,(.vs (.rI .i64 a0) 0 1)),(1,(.vs (.rI .i64 a1) 0 1)),(2,(.int .i64 a2))],heap := [],next := 0,nt := 27,m := 0 }
def ef22j1 : (List Int) × (List Int) × Int → St := fun (t0,t1,t2) => { tmps := [(0,(.vs (.rI .i64 t0) 0 1)),(1,(.vs (.rI .i64 t1) 0 1)),(2,(.int .i64 t2))],heap := [],next := 0,nt := 27,m := 0 }
def ef22j2 : (List Int) × (List Int) × Int × Int → St := fun (t0,t1,t2,t7) => { tmps := [(0,(.vs (.rI .i64 t0) 0 1)),(1,(.vs (.rI .i64 t1) 0 1)),(2,(.int .i64 t2)),(7,(.int .i64 t7))],heap := [],next := 0,nt := 27,m := 0 }
def ef22j3 : (List Int) × (List Int) × Int × Int × Int → St := fun (t0,t1,t2,t7,t8) => { tmps := [(0,(.vs (.rI .i64 t0) 0 1)),(1,(.vs (.rI .i64 t1) 0 1)),(2,(.int .i64 t2)),(7,(.int .i64 t7)),(8,(.int .i64 t8))],heap := [],next := 0,nt := 27,m := 0 }
def ef22l1 : (List Int) × (List Int) × Int × Int × Int → St := fun (t0,t1,t2,t7,t8) => { tmps := [(0,(.vs (.rI .i64 t0) 0 1)),(1,(.vs (.rI .i64 t1) 0 1)),(2,(.int .i64 t2)),(7,(.int .i64 t7)),(8,(.int .i64 t8))],heap := [],next := 0,nt := 27,m := 0 }
def ef22j4 : Int → St := fun t7 => { tmps := [(7,(.int .i64 t7))],heap := [],next := 0,nt := 27,m := 0 }
def f22_1 (F : Nat) (kf22j1 : (List Int) × (List Int) × Int → Option (AV × List Blk)) : (List Int) × (List Int) × Int → Option (AV × List Blk) := fun (a0,a1,a2) => (kf22j1 (a0,a1,a2))
theorem f22_1_eq (F : Nat) (Rf22j1 : St → Option (AV × List Blk)) : ∀ v,aexec VG3822 (Af22 F) (sub (bodyOf Try.f22) [0]) (ef22_a v) (kSeq (fun s => Rf22j1 (cutTo VG3822 (some [(0,.plain),(1,.plain),(2,.plain)]) s)) (kFin VG3822 none (Try.f22).results.toList)) = f22_1 F (fun w => Rf22j1 (ef22j1 w)) v := by
  rintro ⟨a0,a1,a2⟩; kernel_rfl
def f22_2 (F : Nat) (kf22j2 : (List Int) × (List Int) × Int × Int → Option (AV × List Blk)) : (List Int) × (List Int) × Int → Option (AV × List Blk) := fun (t0,t1,t2) => (kf22j2 (t0,t1,t2,(0 : Int)))
theorem f22_2_eq (F : Nat) (Rf22j2 : St → Option (AV × List Blk)) : ∀ v,aexec VG3822 (Af22 F) (sub (bodyOf Try.f22) [1,0]) (ef22j1 v) (kSeq (fun s => Rf22j2 (cutTo VG3822 (some [(0,.plain),(1,.plain),(2,.plain),(7,.plain)]) s)) (kFin VG3822 none (Try.f22).results.toList)) = f22_2 F (fun w => Rf22j2 (ef22j2 w)) v := by
  rintro ⟨t0,t1,t2⟩; kernel_rfl
def f22_3 (F : Nat) (kf22j3 : (List Int) × (List Int) × Int × Int × Int → Option (AV × List Blk)) (kf22j4 : Int → Option (AV × List Blk)) : (List Int) × (List Int) × Int × Int → Option (AV × List Blk) := fun (t0,t1,t2,t7) => (kf22j3 (t0,t1,t2,t7,(0 : Int)))
theorem f22_3_eq (F : Nat) (Rf22j3 : St → Option (AV × List Blk)) (Rf22j4 : St → Option (AV × List Blk)) : ∀ v,aexec VG3822 (Af22 F) (sub (bodyOf Try.f22) [1,1,0,0]) (ef22j2 v) (kSeq (fun s => Rf22j3 (cutTo VG3822 (some [(0,.plain),(1,.plain),(2,.plain),(7,.plain),(8,.plain)]) s)) (kSeq (fun s => Rf22j4 (cutTo VG3822 (some [(7,.plain)]) s)) (kFin VG3822 none (Try.f22).results.toList))) = f22_3 F (fun w => Rf22j3 (ef22j3 w)) (fun w => Rf22j4 (ef22j4 w)) v := by
  rintro ⟨t0,t1,t2,t7⟩; kernel_rfl
def f22_4 (F : Nat) (kf22l1 : (List Int) × (List Int) × Int × Int × Int → Option (AV × List Blk)) (kf22j4 : Int → Option (AV × List Blk)) : (List Int) × (List Int) × Int × Int × Int → Option (AV × List Blk) := fun (t0,t1,t2,t7,t8) => (cond (decide (t8 < (↑t0.length : Int))) (cond ((decide (0 ≤ t8)) && (decide (t8 < (↑t0.length : Int)))) (cond ((decide (0 ≤ (t0.getD (Int.toNat t8) 0))) && (decide ((t0.getD (Int.toNat t8) 0) < (↑t1.length : Int)))) (cond ((t1.getD (Int.toNat (t0.getD (Int.toNat t8) 0)) 0) == t2) (kf22l1 (t0,t1,t2,(IntKind.i64.wrap (t7 + (1 : Int))),(IntKind.i64.wrap (t8 + (1 : Int))))) (kf22l1 (t0,t1,t2,t7,(IntKind.i64.wrap (t8 + (1 : Int)))))) none) none) (kf22j4 t7))
theorem f22_4_eq (F : Nat) (Rf22l1 : St → Option (AV × List Blk)) (Rf22j4 : St → Option (AV × List Blk)) : ∀ v,aexec VG3822 (Af22 F) (sub (bodyOf Try.f22) [1,1,0,1,0,0]) (ef22l1 v) (kSeq (fun s => Rf22l1 (cutTo VG3822 (some [(0,.plain),(1,.plain),(2,.plain),(7,.plain),(8,.plain)]) s)) (kBlock 0 (kSeq (fun s => Rf22j4 (cutTo VG3822 (some [(7,.plain)]) s)) (kFin VG3822 none (Try.f22).results.toList)))) = f22_4 F (fun w => Rf22l1 (ef22l1 w)) (fun w => Rf22j4 (ef22j4 w)) v := by
  rintro ⟨t0,t1,t2,t7,t8⟩; kernel_rfl
def f22_5_i : (List Int) × (List Int) × Int × Int × Int → (List Int) × (List Int) × Int × Int × Int := fun (t0,t1,t2,t7,t8) => (t0,t1,t2,t7,t8)
def f22_5 (F : Nat) (kf22j4 : Int → Option (AV × List Blk)) : (List Int) × (List Int) × Int × Int × Int → Option (AV × List Blk) := fun v => loopN (fun k => f22_4 F k kf22j4) F (f22_5_i v)
theorem f22_5_eq (F : Nat) (Rf22j4 : St → Option (AV × List Blk)) : ∀ v,aexec VG3822 (Af22 F) (sub (bodyOf Try.f22) [1,1,0,1,0]) (ef22j3 v) (kBlock 0 (kSeq (fun s => Rf22j4 (cutTo VG3822 (some [(7,.plain)]) s)) (kFin VG3822 none (Try.f22).results.toList))) = f22_5 F (fun w => Rf22j4 (ef22j4 w)) v :=
  loop_cut (c := (sub (bodyOf Try.f22) [1,1,0,1,0])) (d := (sub (bodyOf Try.f22) [1,1,0,1,0,0])) (by kernel_rfl) (spec := [(0,.plain),(1,.plain),(2,.plain),(7,.plain),(8,.plain)]) (by kernel_rfl) ef22j3 ef22l1 (kBlock 0 (kSeq (fun s => Rf22j4 (cutTo VG3822 (some [(7,.plain)]) s)) (kFin VG3822 none (Try.f22).results.toList))) f22_5_i (fun k => f22_4 F k (fun w => Rf22j4 (ef22j4 w)))
    (by rintro ⟨t0,t1,t2,t7,t8⟩; kernel_rfl) (fun Rf22l1 => f22_4_eq F Rf22l1 Rf22j4)
def f22_6 (F : Nat) (kf22j4 : Int → Option (AV × List Blk)) : (List Int) × (List Int) × Int × Int × Int → Option (AV × List Blk) := f22_5 F kf22j4
theorem f22_6_eq (F : Nat) (Rf22j4 : St → Option (AV × List Blk)) : ∀ v,aexec VG3822 (Af22 F) (sub (bodyOf Try.f22) [1,1,0,1]) (ef22j3 v) (kSeq (fun s => Rf22j4 (cutTo VG3822 (some [(7,.plain)]) s)) (kFin VG3822 none (Try.f22).results.toList)) = f22_6 F (fun w => Rf22j4 (ef22j4 w)) v := fun v =>
  (block_in (c := (sub (bodyOf Try.f22) [1,1,0,1])) (d := (sub (bodyOf Try.f22) [1,1,0,1,0])) (id := 0) (by kernel_rfl) _ _).trans (f22_5_eq F Rf22j4 v)
def f22_7 (F : Nat) (kf22j4 : Int → Option (AV × List Blk)) : (List Int) × (List Int) × Int × Int → Option (AV × List Blk) := fun v => f22_3 F (f22_6 F kf22j4) kf22j4 v
theorem f22_7_eq (F : Nat) (Rf22j4 : St → Option (AV × List Blk)) : ∀ v,aexec VG3822 (Af22 F) (sub (bodyOf Try.f22) [1,1,0]) (ef22j2 v) (kSeq (fun s => Rf22j4 (cutTo VG3822 (some [(7,.plain)]) s)) (kFin VG3822 none (Try.f22).results.toList)) = f22_7 F (fun w => Rf22j4 (ef22j4 w)) v :=
  seq_cut (c := (sub (bodyOf Try.f22) [1,1,0])) (a := (sub (bodyOf Try.f22) [1,1,0,0])) (b := (sub (bodyOf Try.f22) [1,1,0,1])) (by kernel_rfl) (spec := [(0,.plain),(1,.plain),(2,.plain),(7,.plain),(8,.plain)]) (by kernel_rfl) ef22j2 ef22j3 (kSeq (fun s => Rf22j4 (cutTo VG3822 (some [(7,.plain)]) s)) (kFin VG3822 none (Try.f22).results.toList)) (fun k => f22_3 F k (fun w => Rf22j4 (ef22j4 w))) (f22_6 F (fun w => Rf22j4 (ef22j4 w)))
    (fun Rf22j3 => f22_3_eq F Rf22j3 Rf22j4) (f22_6_eq F Rf22j4)
def f22_8 (F : Nat) : Int → Option (AV × List Blk) := fun t7 => (some ((.int .i64 t7),[]))
theorem f22_8_eq (F : Nat) : ∀ v,aexec VG3822 (Af22 F) (sub (bodyOf Try.f22) [1,1,1]) (ef22j4 v) (kFin VG3822 none (Try.f22).results.toList) = f22_8 F v := by
  intro t7; kernel_rfl
def f22_9 (F : Nat) : (List Int) × (List Int) × Int × Int → Option (AV × List Blk) := fun v => f22_7 F (f22_8 F) v
theorem f22_9_eq (F : Nat) : ∀ v,aexec VG3822 (Af22 F) (sub (bodyOf Try.f22) [1,1]) (ef22j2 v) (kFin VG3822 none (Try.f22).results.toList) = f22_9 F v :=
  seq_cut (c := (sub (bodyOf Try.f22) [1,1])) (a := (sub (bodyOf Try.f22) [1,1,0])) (b := (sub (bodyOf Try.f22) [1,1,1])) (by kernel_rfl) (spec := [(7,.plain)]) (by kernel_rfl) ef22j2 ef22j4 (kFin VG3822 none (Try.f22).results.toList) (fun k => f22_7 F k) (f22_8 F)
    (fun Rf22j4 => f22_7_eq F Rf22j4) (f22_8_eq F)
def f22_10 (F : Nat) : (List Int) × (List Int) × Int → Option (AV × List Blk) := fun v => f22_2 F (f22_9 F) v
theorem f22_10_eq (F : Nat) : ∀ v,aexec VG3822 (Af22 F) (sub (bodyOf Try.f22) [1]) (ef22j1 v) (kFin VG3822 none (Try.f22).results.toList) = f22_10 F v :=
  seq_cut (c := (sub (bodyOf Try.f22) [1])) (a := (sub (bodyOf Try.f22) [1,0])) (b := (sub (bodyOf Try.f22) [1,1])) (by kernel_rfl) (spec := [(0,.plain),(1,.plain),(2,.plain),(7,.plain)]) (by kernel_rfl) ef22j1 ef22j2 (kFin VG3822 none (Try.f22).results.toList) (fun k => f22_2 F k) (f22_9 F)
    (fun Rf22j2 => f22_2_eq F Rf22j2) (f22_9_eq F)
def f22_11 (F : Nat) : (List Int) × (List Int) × Int → Option (AV × List Blk) := fun v => f22_1 F (f22_10 F) v
theorem f22_11_eq (F : Nat) : ∀ v,aexec VG3822 (Af22 F) (sub (bodyOf Try.f22) []) (ef22_a v) (kFin VG3822 none (Try.f22).results.toList) = f22_11 F v :=
  seq_cut (c := (sub (bodyOf Try.f22) [])) (a := (sub (bodyOf Try.f22) [0])) (b := (sub (bodyOf Try.f22) [1])) (by kernel_rfl) (spec := [(0,.plain),(1,.plain),(2,.plain)]) (by kernel_rfl) ef22_a ef22j1 (kFin VG3822 none (Try.f22).results.toList) (fun k => f22_1 F k) (f22_10 F)
    (fun Rf22j1 => f22_1_eq F Rf22j1) (f22_10_eq F)
/-- gantry/gantryref38.Has -/
def f22 (F : Nat) : (List Int) × (List Int) × Int → Option (AV × List Blk) := f22_11 F
theorem f22_body (F : Nat) (a0 : List Int) (a1 : List Int) (a2 : Int) : abody VG3822 (Af22 F) Try.f22 [(.vs (.rI .i64 a0) 0 1),(.vs (.rI .i64 a1) 0 1),(.int .i64 a2)] [] = f22 F (a0,a1,a2) :=
  (abody_in (c := (sub (bodyOf Try.f22) [])) (by kernel_rfl) (s := ef22_a (a0,a1,a2)) (by kernel_rfl)).trans (f22_11_eq F (a0,a1,a2))
def r22 : CRun := fun X H => match X,H with
  | [(.vs (.rI .i64 a0) 0 1),(.vs (.rI .i64 a1) 0 1),(.int .i64 a2)],[] => some ((Reg.inr a1.length a0),(.int .i64 (Reg.has a0 a1 a2)),[])
  | _,_ => none
theorem s22 (a0 : List Int) (a1 : List Int) (a2 : Int) (hp : ((Reg.inr a1.length a0)) = true) (h0 : okV (.vs (.rI .i64 a0) 0 1)) (h1 : okV (.vs (.rI .i64 a1) 0 1)) (h2 : okV (.int .i64 a2)) : ∃ F,f22 F (a0,a1,a2) = some ((.int .i64 (Reg.has a0 a1 a2)),[]) := by
  have hlen : a0.length < 4611686018427387904 := h0.2
  refine ⟨a0.length + 1,?_⟩
  simp only [f22,f22_11,f22_1,f22_10,f22_2,f22_9,f22_7,f22_3,f22_6,f22_5,f22_5_i]
  refine loopN_from (fun i => (a0,a1,a2,Reg.has (a0.take i) a1 a2,(i : Int))) a0.length (by rfl) (fun i hi k => ?_) (fun k => ?_) _ (by omega)
  · have hr := Reg.inr_getD hp hi
    have hh : Reg.has (a0.take i) a1 a2 ≤ (i : Int) := Int.ofNat_le.mpr (Nat.le_trans (List.length_filter_le _ _) (by rw [List.length_take]; omega))
    have hh0 : 0 ≤ Reg.has (a0.take i) a1 a2 := Int.natCast_nonneg _
    have e : Reg.has (a0.take (i + 1)) a1 a2 = Reg.has (a0.take i) a1 a2 + (if a1.getD (Int.toNat (a0.getD i 0)) 0 = a2 then 1 else 0) := by
      rw [← Reg.take_get a0 0 i hi]
      unfold Reg.has
      rw [List.filter_append,List.length_append]
      by_cases h : a1.getD (Int.toNat (a0.getD i 0)) 0 = a2
      · rw [if_pos h,List.filter_cons,if_pos (decide_eq_true h)]; simp
      · rw [if_neg h,List.filter_cons,if_neg (by simpa using h)]; simp
    simp only [f22_4,dec_and,int_beq]
    rw [cond_pos (by omega),cond_pos (by omega),Int.toNat_natCast,cond_pos (by omega),i64w (x := (i : Int) + 1) (by omega) (by omega),i64w (by omega) (by omega),e]
    by_cases h : a1.getD (Int.toNat (a0.getD i 0)) 0 = a2
    · rw [cond_pos h,if_pos h]; rfl
    · rw [cond_neg h,if_neg h,Int.add_zero]; rfl
  · simp only [f22_4]
    rw [cond_neg (by omega),List.take_length]
    rfl

theorem c22 : CallOk Try.prog G38 22 r22 := callOk_of (V := VG3822) mixed tys eVG3822 (f := 22) (fn := Try.f22) Try.func22 (by kernel_rfl) (c := sub (bodyOf Try.f22) []) (by kernel_rfl) (by
  intro X H r H' h hX hH
  unfold r22 at h; split at h <;> try contradiction
  · simp only [Option.some.injEq,Prod.mk.injEq] at h
    obtain ⟨hp,rfl,rfl⟩ := h
    obtain ⟨F,hF⟩ := s22 _ _ _ hp (hX _ (.head _)) (hX _ (.tail _ (.head _))) (hX _ (.tail _ (.tail _ (.head _))))
    exact ⟨Af22 F,(f22_body F _ _ _).trans hF⟩)
end Go.Am
