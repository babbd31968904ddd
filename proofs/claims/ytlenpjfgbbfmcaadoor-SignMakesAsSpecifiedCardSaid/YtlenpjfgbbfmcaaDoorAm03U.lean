/- Part of a proof about the functions of the given program. -/
import Derived.Test.YtlenpjfgbbfmcaaDoorAm03T
set_option linter.unusedVariables false
set_option linter.unusedSimpArgs false
namespace Go.Am
open Go Go.Proofs
noncomputable section
def lVG034v : List CEnt := [(9,[],r9),(12,[none,none],r12),(13,[none,none],r13),(14,[none,none,none,none],r14),(15,[none,none,none,none],r15),(16,[none,none,none],r16),(17,[none,none,none],r17)]
def VG034v : Env := mkEnv T03 G03 lVG034v
noncomputable abbrev Kf68 := kFin VG034v none (Tryd.f4).results.toList
theorem eVG034v : EOk Tryd.prog VG034v := eok_mk (by exact ⟨c9.more gsub,c12.more gsub,c13,c14.more gsub,c15,c16.more gsub,c17,trivial⟩)
def Af4va (F : Nat) : Cuts := { F := F,at_ := fun _ => none,join := fun _ => none }
def ef4va_a : Ty34 → St := fun (a0,a1,a2) => ⟨[(0,.str a0),(1,(.agg 2 (.rI .i64 [(0 : Int),a1]))),(2,.str a2)],[],0,104,0⟩
def f4va_nt (F : Nat) : Ty34 → Rz := fun (a0,a1,a2) => (cond (decide ((↑a0.length : Int) > (200 : Int))) (some ((.bool true),[])) (cond (decide ((↑a2.length : Int) > (200 : Int))) (some ((.bool true),[])) (cond (Sg.low (0 : Int)) (cond (Sg.low (0 : Int)) (cond (decide (a2.length < 1073730000)) (cond (((Sg.pub a0 (0 : Int)).1 : List Int) == (Sg.pub a0 0).1) (cond ((Sg.pub a0 (0 : Int)).2 == (Sg.pub a0 0).2) (cond (((Sg.sign a0 (0 : Int) a1 a2).1 : List Int) == ((Sg.sign a0 0 a1 a2).1 : List Int)) (cond ((Sg.sign a0 (0 : Int) a1 a2).2 == (Sg.sign a0 0 a1 a2).2) (cond (decide (a2.length < 1073741000)) (cond (decide (a2.length < 1073730000)) (some ((.bool (((Sg.digest (Sg.pub a0 (0 : Int)).1 a1 a2) : List Int) == (Sg.digest (Sg.pub a0 (0 : Int)).1 a1 a2))),[])) none) none) (some ((.bool false),[]))) (some ((.bool false),[]))) (some ((.bool false),[]))) (some ((.bool false),[]))) none) none) none)))
theorem f4va_nt_eq (F : Nat) : ∀ v,aexec VG034v (Af4va F) (sub (bodyOf Tryd.f4) []) (ef4va_a v) Kf68 = f4va_nt F v := by
 rintro ⟨a0,a1,a2⟩; kernel_rfl
def f4va (F : Nat) : Ty34 → Rz := f4va_nt F
theorem f4va_body (F : Nat) (a0 : List Int) (a1 : Int) (a2 : List Int) : abody VG034v (Af4va F) Tryd.f4 [(.str a0),(.agg 2 (.rI .i64 [(0 : Int),a1])),.str a2] [] = f4va F (a0,a1,a2) :=
 (abody_in (c := (sub (bodyOf Tryd.f4) [])) (by kernel_rfl) (s := ef4va_a (a0,a1,a2)) (by kernel_rfl)).trans (f4va_nt_eq F (a0,a1,a2))
def Af4vb (F : Nat) : Cuts := { F := F,at_ := fun _ => none,join := fun _ => none }
def ef4vb_a : Ty34 → St := fun (a0,a1,a2) => ⟨[(0,.str a0),(1,(.agg 2 (.rI .i64 [(1 : Int),a1]))),(2,.str a2)],[],0,104,0⟩
def f4vb_nt (F : Nat) : Ty34 → Rz := fun (a0,a1,a2) => (cond (decide ((↑a0.length : Int) > (200 : Int))) (some ((.bool true),[])) (cond (decide ((↑a2.length : Int) > (200 : Int))) (some ((.bool true),[])) (cond (Sg.low (1 : Int)) (cond (Sg.low (1 : Int)) (cond (decide (a2.length < 1073730000)) (cond (((Sg.pub a0 (1 : Int)).1 : List Int) == (Sg.pub a0 1).1) (cond ((Sg.pub a0 (1 : Int)).2 == (Sg.pub a0 1).2) (cond (((Sg.sign a0 (1 : Int) a1 a2).1 : List Int) == ((Sg.sign a0 1 a1 a2).1 : List Int)) (cond ((Sg.sign a0 (1 : Int) a1 a2).2 == (Sg.sign a0 1 a1 a2).2) (cond (decide (a2.length < 1073741000)) (cond (decide (a2.length < 1073730000)) (some ((.bool (((Sg.digest (Sg.pub a0 (1 : Int)).1 a1 a2) : List Int) == (Sg.digest (Sg.pub a0 (1 : Int)).1 a1 a2))),[])) none) none) (some ((.bool false),[]))) (some ((.bool false),[]))) (some ((.bool false),[]))) (some ((.bool false),[]))) none) none) none)))
theorem f4vb_nt_eq (F : Nat) : ∀ v,aexec VG034v (Af4vb F) (sub (bodyOf Tryd.f4) []) (ef4vb_a v) Kf68 = f4vb_nt F v := by
 rintro ⟨a0,a1,a2⟩; kernel_rfl
def f4vb (F : Nat) : Ty34 → Rz := f4vb_nt F
theorem f4vb_body (F : Nat) (a0 : List Int) (a1 : Int) (a2 : List Int) : abody VG034v (Af4vb F) Tryd.f4 [(.str a0),(.agg 2 (.rI .i64 [(1 : Int),a1])),.str a2] [] = f4vb F (a0,a1,a2) :=
 (abody_in (c := (sub (bodyOf Tryd.f4) [])) (by kernel_rfl) (s := ef4vb_a (a0,a1,a2)) (by kernel_rfl)).trans (f4vb_nt_eq F (a0,a1,a2))
def Af4vc (F : Nat) : Cuts := { F := F,at_ := fun _ => none,join := fun _ => none }
def ef4vc_a : Ty34 → St := fun (a0,a1,a2) => ⟨[(0,.str a0),(1,(.agg 2 (.rI .i64 [(2 : Int),a1]))),(2,.str a2)],[],0,104,0⟩
def f4vc_nt (F : Nat) : Ty34 → Rz := fun (a0,a1,a2) => (cond (decide ((↑a0.length : Int) > (200 : Int))) (some ((.bool true),[])) (cond (decide ((↑a2.length : Int) > (200 : Int))) (some ((.bool true),[])) (cond (Sg.low (2 : Int)) (cond (Sg.low (2 : Int)) (cond (decide (a2.length < 1073730000)) (cond (((Sg.pub a0 (2 : Int)).1 : List Int) == (Sg.pub a0 2).1) (cond ((Sg.pub a0 (2 : Int)).2 == (Sg.pub a0 2).2) (cond (((Sg.sign a0 (2 : Int) a1 a2).1 : List Int) == ((Sg.sign a0 2 a1 a2).1 : List Int)) (cond ((Sg.sign a0 (2 : Int) a1 a2).2 == (Sg.sign a0 2 a1 a2).2) (cond (decide (a2.length < 1073741000)) (cond (decide (a2.length < 1073730000)) (some ((.bool (((Sg.digest (Sg.pub a0 (2 : Int)).1 a1 a2) : List Int) == (Sg.digest (Sg.pub a0 (2 : Int)).1 a1 a2))),[])) none) none) (some ((.bool false),[]))) (some ((.bool false),[]))) (some ((.bool false),[]))) (some ((.bool false),[]))) none) none) none)))
theorem f4vc_nt_eq (F : Nat) : ∀ v,aexec VG034v (Af4vc F) (sub (bodyOf Tryd.f4) []) (ef4vc_a v) Kf68 = f4vc_nt F v := by
 rintro ⟨a0,a1,a2⟩; kernel_rfl
def f4vc (F : Nat) : Ty34 → Rz := f4vc_nt F
theorem f4vc_body (F : Nat) (a0 : List Int) (a1 : Int) (a2 : List Int) : abody VG034v (Af4vc F) Tryd.f4 [(.str a0),(.agg 2 (.rI .i64 [(2 : Int),a1])),.str a2] [] = f4vc F (a0,a1,a2) :=
 (abody_in (c := (sub (bodyOf Tryd.f4) [])) (by kernel_rfl) (s := ef4vc_a (a0,a1,a2)) (by kernel_rfl)).trans (f4vc_nt_eq F (a0,a1,a2))
def r4v : CRun := fun X H => match X,H with
 | [(.str a0),(.agg 2 (.rI .i64 [(0 : Int),a1])),.str a2],[] => some (true,.bool true,[])
 | [(.str a0),(.agg 2 (.rI .i64 [(1 : Int),a1])),.str a2],[] => some (true,.bool true,[])
 | [(.str a0),(.agg 2 (.rI .i64 [(2 : Int),a1])),.str a2],[] => some (true,.bool true,[])
 | _,_ => none
theorem s4va (a0 : List Int) (a1 : Int) (a2 : List Int) (h0 : okV (.str a0)) (h1 : okV (.agg 2 (.rI .i64 [(0 : Int),a1]))) (h2 : okV (.str a2)) : ∃ F,f4va F (a0,a1,a2) = some ((.bool true),[]) := by
 refine ⟨0,?_⟩
 have hlow : Sg.low (0 : Int) = true := by decide
 simp only [f4va_nt,f4va,f4vb_nt,f4vb,f4vc_nt,f4vc,beq_self_eq_true,cond_true,hlow,gt_iff_lt]
 by_cases c1 : (200 : Int) < a0.length
 ·rw [cond_pos c1]
 by_cases c2 : (200 : Int) < a2.length
 ·rw [cond_neg c1,cond_pos c2]
 rw [cond_neg c1,cond_neg c2,cond_pos (by omega),cond_pos (by omega),cond_pos (by omega)]
theorem s4vb (a0 : List Int) (a1 : Int) (a2 : List Int) (h0 : okV (.str a0)) (h1 : okV (.agg 2 (.rI .i64 [(1 : Int),a1]))) (h2 : okV (.str a2)) : ∃ F,f4vb F (a0,a1,a2) = some ((.bool true),[]) := by
 refine ⟨0,?_⟩
 have hlow : Sg.low (1 : Int) = true := by decide
 simp only [f4va_nt,f4va,f4vb_nt,f4vb,f4vc_nt,f4vc,beq_self_eq_true,cond_true,hlow,gt_iff_lt]
 by_cases c1 : (200 : Int) < a0.length
 ·rw [cond_pos c1]
 by_cases c2 : (200 : Int) < a2.length
 ·rw [cond_neg c1,cond_pos c2]
 rw [cond_neg c1,cond_neg c2,cond_pos (by omega),cond_pos (by omega),cond_pos (by omega)]
theorem s4vc (a0 : List Int) (a1 : Int) (a2 : List Int) (h0 : okV (.str a0)) (h1 : okV (.agg 2 (.rI .i64 [(2 : Int),a1]))) (h2 : okV (.str a2)) : ∃ F,f4vc F (a0,a1,a2) = some ((.bool true),[]) := by
 refine ⟨0,?_⟩
 have hlow : Sg.low (2 : Int) = true := by decide
 simp only [f4va_nt,f4va,f4vb_nt,f4vb,f4vc_nt,f4vc,beq_self_eq_true,cond_true,hlow,gt_iff_lt]
 by_cases c1 : (200 : Int) < a0.length
 ·rw [cond_pos c1]
 by_cases c2 : (200 : Int) < a2.length
 ·rw [cond_neg c1,cond_pos c2]
 rw [cond_neg c1,cond_neg c2,cond_pos (by omega),cond_pos (by omega),cond_pos (by omega)]
theorem c4v : CallOk Tryd.prog G03 4 r4v := callOk_of (V := VG034v) mixed tys eVG034v (f := 4) (fn := Tryd.f4) Tryd.func4 (by kernel_rfl) (c := sub (bodyOf Tryd.f4) []) (by kernel_rfl) (by
 intro X H r H' h hX hH
 unfold r4v at h; split at h <;> try contradiction
 ·simp only [Option.some.injEq,Prod.mk.injEq] at h
  obtain ⟨hp,rfl,rfl⟩ := h
  obtain ⟨F,hF⟩ := s4va _ _ _ (hX _ (.head _)) (hX _ (.tail _ (.head _))) (hX _ (.tail _ (.tail _ (.head _))))
  exact ⟨Af4va F,(f4va_body F _ _ _).trans hF⟩
 ·simp only [Option.some.injEq,Prod.mk.injEq] at h
  obtain ⟨hp,rfl,rfl⟩ := h
  obtain ⟨F,hF⟩ := s4vb _ _ _ (hX _ (.head _)) (hX _ (.tail _ (.head _))) (hX _ (.tail _ (.tail _ (.head _))))
  exact ⟨Af4vb F,(f4vb_body F _ _ _).trans hF⟩
 ·simp only [Option.some.injEq,Prod.mk.injEq] at h
  obtain ⟨hp,rfl,rfl⟩ := h
  obtain ⟨F,hF⟩ := s4vc _ _ _ (hX _ (.head _)) (hX _ (.tail _ (.head _))) (hX _ (.tail _ (.tail _ (.head _))))
  exact ⟨Af4vc F,(f4vc_body F _ _ _).trans hF⟩)
def lVG034z : List CEnt := [(9,[],r9),(12,[none,none],r12),(13,[none,none],r13z),(14,[none,none,none,none],r14),(15,[none,none,none,none],r15z),(16,[none,none,none],r16),(17,[none,none,none],r17)]
def VG034z : Env := mkEnv T03 G03 lVG034z
noncomputable abbrev Kf69 := kFin VG034z none (Tryd.f4).results.toList
theorem eVG034z : EOk Tryd.prog VG034z := eok_mk (by exact ⟨c9.more gsub,c12.more gsub,c13z,c14.more gsub,c15z,c16.more gsub,c17,trivial⟩)
def Af4z (F : Nat) : Cuts := { F := F,at_ := fun _ => none,join := fun _ => none }
def ef4z_a : Ty25 → St := fun (a0,a3,a1,a2) => ⟨[(0,.str a0),(1,(.agg 2 (.rI .i64 [a3,a1]))),(2,.str a2)],[],0,104,0⟩
def f4z_1 (F : Nat) : Ty25 → Rz := fun (a0,a3,a1,a2) => (cond (decide ((↑a0.length : Int) > (200 : Int))) (some ((.bool true),[])) (cond (decide ((↑a2.length : Int) > (200 : Int))) (some ((.bool true),[])) (cond (decide (a3 > (2 : Int))) (cond (decide (a3 ≤ (6 : Int))) (some ((.bool true),[])) (cond (Sg.low a3) (cond (!((decide (0 ≤ a3)) && (decide (a3 ≤ 6)))) (cond (Sg.low a3) (cond (!((decide (0 ≤ a3)) && (decide (a3 ≤ 6)))) (cond (((Sg.pub a0 a3).1 : List Int) == (Sg.pub a0 a3).1) (cond ((Sg.pub a0 a3).2 == (Sg.pub a0 a3).2) (cond (((Sg.sign a0 a3 a1 a2).1 : List Int) == ((Sg.sign a0 a3 a1 a2).1 : List Int)) (cond ((Sg.sign a0 a3 a1 a2).2 == (Sg.sign a0 a3 a1 a2).2) (cond (decide (a2.length < 1073741000)) (cond (decide (a2.length < 1073730000)) (some ((.bool (((Sg.digest (Sg.pub a0 a3).1 a1 a2) : List Int) == (Sg.digest (Sg.pub a0 a3).1 a1 a2))),[])) none) none) (some ((.bool false),[]))) (some ((.bool false),[]))) (some ((.bool false),[]))) (some ((.bool false),[]))) none) none) none) none)) (cond (Sg.low a3) (cond (!((decide (0 ≤ a3)) && (decide (a3 ≤ 6)))) (cond (Sg.low a3) (cond (!((decide (0 ≤ a3)) && (decide (a3 ≤ 6)))) (cond (((Sg.pub a0 a3).1 : List Int) == (Sg.pub a0 a3).1) (cond ((Sg.pub a0 a3).2 == (Sg.pub a0 a3).2) (cond (((Sg.sign a0 a3 a1 a2).1 : List Int) == ((Sg.sign a0 a3 a1 a2).1 : List Int)) (cond ((Sg.sign a0 a3 a1 a2).2 == (Sg.sign a0 a3 a1 a2).2) (cond (decide (a2.length < 1073741000)) (cond (decide (a2.length < 1073730000)) (some ((.bool (((Sg.digest (Sg.pub a0 a3).1 a1 a2) : List Int) == (Sg.digest (Sg.pub a0 a3).1 a1 a2))),[])) none) none) (some ((.bool false),[]))) (some ((.bool false),[]))) (some ((.bool false),[]))) (some ((.bool false),[]))) none) none) none) none))))
theorem f4z_1_eq (F : Nat) : ∀ v,aexec VG034z (Af4z F) (sub (bodyOf Tryd.f4) []) (ef4z_a v) Kf69 = f4z_1 F v := by
 rintro ⟨a0,a3,a1,a2⟩; kernel_rfl
def f4z (F : Nat) : Ty25 → Rz := f4z_1 F
theorem f4z_body (F : Nat) (a0 : List Int) (a3 : Int) (a1 : Int) (a2 : List Int) : abody VG034z (Af4z F) Tryd.f4 [(.str a0),(.agg 2 (.rI .i64 [a3,a1])),.str a2] [] = f4z F (a0,a3,a1,a2) :=
 (abody_in (c := (sub (bodyOf Tryd.f4) [])) (by kernel_rfl) (s := ef4z_a (a0,a3,a1,a2)) (by kernel_rfl)).trans (f4z_1_eq F (a0,a3,a1,a2))
def r4z : CRun := fun X H => match X,H with
 | [(.str a0),(.agg 2 (.rI .i64 [a3,a1])),.str a2],[] => some (((decide (a3 < 0)) || (decide (2 < a3))),.bool true,[])
 | _,_ => none
theorem s4z (a0 : List Int) (a3 : Int) (a1 : Int) (a2 : List Int) (hp : (((decide (a3 < 0)) || (decide (2 < a3)))) = true) (h0 : okV (.str a0)) (h1 : okV (.agg 2 (.rI .i64 [a3,a1]))) (h2 : okV (.str a2)) : ∃ F,f4z F (a0,a3,a1,a2) = some ((.bool true),[]) := by
 refine ⟨0,?_⟩
 simp only [Bool.or_eq_true,decide_eq_true_eq] at hp
 simp only [f4z_1,f4z,beq_self_eq_true,cond_true,dec_and,dec_not,gt_iff_lt]
 by_cases c1 : (200 : Int) < a0.length
 ·rw [cond_pos c1]
 by_cases c2 : (200 : Int) < a2.length
 ·rw [cond_neg c1,cond_pos c2]
 rw [cond_neg c1,cond_neg c2]
 by_cases c3 : (2 : Int) < a3
 ·rw [cond_pos c3]
  by_cases c4 : a3 ≤ 6
  ·rw [cond_pos c4]
  ·have hlow : Sg.low a3 = true := by simp only [Sg.low,decide_eq_true_eq]; omega
   rw [cond_neg c4,hlow,cond_true,cond_pos (by omega),cond_true,cond_pos (by omega),cond_pos (by omega),cond_pos (by omega)]
 ·have hlow : Sg.low a3 = true := by simp only [Sg.low,decide_eq_true_eq]; omega
  rw [cond_neg c3,hlow,cond_true,cond_pos (by omega),cond_true,cond_pos (by omega),cond_pos (by omega),cond_pos (by omega)]
theorem c4z : CallOk Tryd.prog G03 4 r4z := callOk_of (V := VG034z) mixed tys eVG034z (f := 4) (fn := Tryd.f4) Tryd.func4 (by kernel_rfl) (c := sub (bodyOf Tryd.f4) []) (by kernel_rfl) (by
 intro X H r H' h hX hH
 unfold r4z at h; split at h <;> try contradiction
 ·simp only [Option.some.injEq,Prod.mk.injEq] at h
  obtain ⟨hp,rfl,rfl⟩ := h
  obtain ⟨F,hF⟩ := s4z _ _ _ _ hp (hX _ (.head _)) (hX _ (.tail _ (.head _))) (hX _ (.tail _ (.tail _ (.head _))))
  exact ⟨Af4z F,(f4z_body F _ _ _ _).trans hF⟩)
theorem reps_okV {w : World} {W : Nat → Prop} {ρ : Rho} : ∀ (l : List AV) (us : List Value),Reps w W ρ l us → ∀ x ∈ l,okV x
 | [],_,_,_,hx => by cases hx
 | _ :: _,[],h,_,_ => h.elim
 | y :: l,_ :: us,h,x,hx => by
  rcases List.mem_cons.mp hx with rfl | hx
  ·exact okV_of_rep h.1
  ·exact reps_okV l us h.2 x hx
theorem CallOk.orV {P : Program} {G : Nat → Option AV} {f : Nat} {run run2 run' : CRun} (h : CallOk P G f run) (h2 : CallOk P G f run2) (g : ∀ A H r H',run' A H = some (true,r,H') → (∀ x ∈ A,okV x) → run A H = some (true,r,H') ∨ run2 A H = some (true,r,H')) : CallOk P G f run' where
 there := h.there
 does := fun A H r H' e U w ρ args hi hs ha => (g A H r H' e (reps_okV A _ ha)).elim (fun e => h.does A H r H' e U w ρ args hi hs ha) (fun e => h2.does A H r H' e U w ρ args hi hs ha)
def r4 : CRun := fun X H => match X,H with
 | [.str _,.agg 2 (.rI .i64 _),.str _],[] => some (true,.bool true,[])
 | _,_ => none
theorem c4 : CallOk Tryd.prog G03 4 r4 := c4v.orV c4z fun A H r H' h hX => by
 unfold r4 at h; split at h <;> try contradiction
 rename_i a0 xs a2
 simp only [Option.some.injEq,Prod.mk.injEq,true_and] at h
 obtain ⟨rfl,rfl⟩ := h
 obtain ⟨hl,_⟩ := okR_rI (hX (.agg 2 (.rI .i64 xs)) (by simp))
 match xs,hl with
 | [x,y],_ =>
  by_cases hx : x < 0 ∨ 2 < x
  ·right
   have hd : (decide (x < 0) || decide (2 < x)) = true := by simpa using hx
   simp only [r4z,hd]
  ·have h3 : x = 0 ∨ x = 1 ∨ x = 2 := by omega
   rcases h3 with rfl | rfl | rfl <;> exact .inl rfl
end
end Go.Am
