/- Part of a proof about the functions of the given program. -/
import Derived.Test.YtlenpjfgbbfmcaaDoorAm03R
import Derived.Test.YtlenpjfgbbfmcaaDoorAmClaim
import Derived.Test.YtlenpjfgbbfmcaaDoorTie
import Derived.Test.YtlenpjfgbbfmcaaDoorCards
import Derived.LaidMore
import Derived.OpenShut
import Derived.Stop.Joined
import Derived.SevenTiedAt
import Derived.ProofKit
import Derived.Test.YtlenpjfgbbfmcaaDoorAmSign2
set_option linter.unusedSimpArgs false
set_option linter.unusedVariables false
section
/- What the claims of this seat share: the variables that a row lists. -/
namespace Go.Proofs.YtlenpjfgbbfmcaaDoor
open Go Go.Am Go.ChangeShapes Go.WideShapes Go.ChangeAt Go.WideMaps Go.WideElems Go.RowKit
theorem own : ownKnob Tryd.prog.godebug = none := by kernel_rfl
theorem laidOut : laidOutB Tryd.prog = true := by kernel_rfl
abbrev lBoth : List (String × DataW Unit) := [("gantry/gantryref02.constants", Rows.laid_gantry_gantryref02_constants), ("gantry/hash.constants", Rows.laid_gantry_hash_constants)]
theorem door_met2 (os : Os) (args : Array Value) : laidMetH Tryd.prog lBoth ((World.doorLaid Tryd.prog 400 os).forCall (fun _ _ => 0) ⟨#[], args, []⟩).memory :=
 laidMetH_of_parts3 (fuel := 8) (laidMet_of_run' 8 (by kernel_rfl) (by kernel_rfl)) (by kernel_rfl) (by kernel_rfl)
theorem gok2 {W : World} (h : laidMetH Tryd.prog lBoth W) : GOk G03 W W0 := by
 rw [MakeChecks.laidMetH_plain _ _ _ (by kernel_rfl)] at h
 obtain ⟨ps, h, _⟩ := h
 obtain ⟨hc0, ps', h'⟩ := laid_cells (g := 0) (t := 103) (m := 64) (e := 81) (k := .u32) (zs := Sha.K) h (by kernel_rfl) (by kernel_rfl) (by kernel_rfl) (by kernel_rfl) (by kernel_rfl) rfl
 obtain ⟨hc1, _⟩ := laid_cells (g := 1) (t := 103) (m := 64) (e := 81) (k := .u32) (zs := Sha.K) h' (by kernel_rfl) (by kernel_rfl) (by kernel_rfl) (by kernel_rfl) (by kernel_rfl) rfl
 refine gok_arr fun g r hg => ?_
 unfold G03 at hg
 split at hg
 ·injection hg with hg
  exact ⟨.u32, Sha.K, hg.symm, by decide, hc0⟩
 ·injection hg with hg
  exact ⟨.u32, Sha.K, hg.symm, by decide, hc1⟩
 ·contradiction
end Go.Proofs.YtlenpjfgbbfmcaaDoor
end
section
/- The levels of a tree, one behind the other. -/
namespace Go.Am.Sg
open Go
def lvl (s : List Int) (n l : Nat) : List Int := (List.range n).flatMap fun k : Nat => nd s l (k : Int)
theorem lvl_at {s : List Int} {n l k : Nat} (h : k < n) : ((lvl s n l).drop (k * 16)).take 16 = nd s l k := by
 have := val_flat (fun k : Nat => nd s l (k : Int)) n k [] h (fun i _ => nd_len s l _)
 rw [List.append_nil] at this
 exact this
theorem lvl_top (s : List Int) (l : Nat) : (lvl s 1 l).take 16 = nd s l 0 := by
 have := lvl_at (s := s) (n := 1) (l := l) (k := 0) (by omega)
 simpa using this
theorem lvl_zero {s : List Int} {n l : Nat} (h : 0 < n) : (lvl s n l).take 16 = nd s l 0 := by
 have := lvl_at (s := s) (n := n) (l := l) (k := 0) h
 simpa using this
theorem lvl_succ (s : List Int) (n l : Nat) : lvl s (n + 1) l = lvl s n l ++ nd s l (n : Int) := flat_succ (fun k : Nat => nd s l (k : Int)) n
theorem lvl1 (s : List Int) (l : Nat) : lvl s 1 l = [] ++ nd s l 0 := lvl_succ s 0 l
theorem lvl2 (s : List Int) (l : Nat) : lvl s 2 l = [] ++ nd s l 0 ++ nd s l 1 := (lvl_succ s 1 l).trans (by rw [lvl1]; rfl)
theorem lvl4 (s : List Int) (l : Nat) : lvl s 4 l = [] ++ nd s l 0 ++ nd s l 1 ++ nd s l 2 ++ nd s l 3 := by
 rw [lvl_succ s 3 l, lvl_succ s 2 l, lvl2]; rfl
theorem sign_is {s m : List Int} {h i : Int} (n : Nat) (hn : h = n) (hs : s.length = 32) (h6 : n ≤ 6) (hi : 0 ≤ i) (hi2 : i < 2 ^ n) (hm : m.length ≤ 1048576) :
  sign s h i m = (Wire.int i ++ body s i (digits (digest (nd s n 0) i m)) ++ path s i n, 0) := by
 subst hn
 rw [sign, if_neg (by omega), if_neg (by rw [Int.toNat_natCast]; omega), if_neg (by omega), Int.toNat_natCast]
theorem sign_out {s m : List Int} {h i : Int} (hh : s.length ≠ 32 ∨ ¬ (0 ≤ h ∧ h ≤ 6)) : sign s h i m = ([], 1) := by rw [sign, if_pos hh]
theorem pub_out {s : List Int} {h : Int} (hh : s.length ≠ 32 ∨ ¬ (0 ≤ h ∧ h ≤ 6)) : pub s h = (List.replicate 16 0, 1) := by rw [pub, if_pos hh]
theorem pub_ok {s : List Int} {h : Int} (n : Nat) (hn : h = n) (hs : s.length = 32) (h6 : n ≤ 6) : pub s h = (nd s n 0, 0) := by
 subst hn
 rw [pub, if_neg (by omega), Int.toNat_natCast]
end Go.Am.Sg
end
section
namespace Go.Am
open Go Go.Proofs
abbrev Ty68 := Li × Int × Int × Li × Bool
def lVG0324 : List CEnt := [(43,[none,none],r43),(46,[none,none],r46)]
def VG0324 : Env := mkEnv T03 G03 lVG0324
noncomputable abbrev Kf63 := kFin VG0324 none (Tryd.f24).results.toList
theorem eVG0324 : EOk Tryd.prog VG0324 := eok_mk (by exact ⟨c43,c46,trivial⟩)
def Af240 (F : Nat) : Cuts := { F := F + 8,at_ := fun _ => none,join := fun _ => none }
def ef240_a : Li → St := fun a0 => ⟨[(0,.str a0),(1,.int .i64 0)],[],0,64,0⟩
def f240_1 (F : Nat) : Li → Rz := fun a0 => (cond (decide (a0.length < 1073730000)) (some ((.own 0 0 1),[(.cells 1 (.segs (.cons 1 (.one (.own 1 1 16)) .nil)) true),(.cells 16 (.rI .u8 ([] ++ (Sg.leaf a0 (0 : Int)))) true)])) none)
theorem f240_1_eq (F : Nat) : ∀ v,aexec VG0324 (Af240 F) (sub (bodyOf Tryd.f24) []) (ef240_a v) Kf63 = f240_1 F v := by
 intro a0; kernel_rfl
def f240 (F : Nat) : Li → Rz := f240_1 F
theorem f240_body (F : Nat) (a0 : List Int) : abody VG0324 (Af240 F) Tryd.f24 [(.str a0),.int .i64 0] [] = f240 F a0 :=
 (abody_in (c := (sub (bodyOf Tryd.f24) [])) (by kernel_rfl) (s := ef240_a a0) (by kernel_rfl)).trans (f240_1_eq F a0)
def Af241 (F : Nat) : Cuts := { F := F + 8,at_ := fun _ => none,join := fun _ => none }
def ef241_a : Li → St := fun a0 => ⟨[(0,.str a0),(1,.int .i64 1)],[],0,64,0⟩
def f241_1 (F : Nat) : Li → Rz := fun a0 => (cond (decide (a0.length < 1073730000)) (cond (decide (a0.length < 1073730000)) (some ((.own 0 0 1),[(.cells 2 (.segs (.cons 1 (.one (.own 1 2 16)) (.cons 1 (.one (.own 2 1 16)) .nil))) true),(.cells 32 (.rI .u8 (([] ++ (Sg.leaf a0 (0 : Int))) ++ (Sg.leaf a0 (1 : Int)))) true),(.cells 16 (.rI .u8 ([] ++ (Sg.node ((([] ++ (Sg.leaf a0 (0 : Int))) ++ (Sg.leaf a0 (1 : Int))).take 16) (((([] ++ (Sg.leaf a0 (0 : Int))) ++ (Sg.leaf a0 (1 : Int))).drop 16).take 16)))) true)])) none) none)
theorem f241_1_eq (F : Nat) : ∀ v,aexec VG0324 (Af241 F) (sub (bodyOf Tryd.f24) []) (ef241_a v) Kf63 = f241_1 F v := by
 intro a0; kernel_rfl
def f241 (F : Nat) : Li → Rz := f241_1 F
theorem f241_body (F : Nat) (a0 : List Int) : abody VG0324 (Af241 F) Tryd.f24 [(.str a0),.int .i64 1] [] = f241 F a0 :=
 (abody_in (c := (sub (bodyOf Tryd.f24) [])) (by kernel_rfl) (s := ef241_a a0) (by kernel_rfl)).trans (f241_1_eq F a0)
def Af242 (F : Nat) : Cuts := { F := F + 8,at_ := fun _ => none,join := fun _ => none }
def ef242_a : Li → St := fun a0 => ⟨[(0,.str a0),(1,.int .i64 2)],[],0,64,0⟩
def f242_1 (F : Nat) : Li → Rz := fun a0 => (cond (decide (a0.length < 1073730000)) (cond (decide (a0.length < 1073730000)) (cond (decide (a0.length < 1073730000)) (cond (decide (a0.length < 1073730000)) (some ((.own 0 0 1),[(.cells 3 (.segs (.cons 1 (.one (.own 1 4 16)) (.cons 1 (.one (.own 2 2 16)) (.cons 1 (.one (.own 3 1 16)) .nil)))) true),(.cells 64 (.rI .u8 (((([] ++ (Sg.leaf a0 (0 : Int))) ++ (Sg.leaf a0 (1 : Int))) ++ (Sg.leaf a0 (2 : Int))) ++ (Sg.leaf a0 (3 : Int)))) true),(.cells 32 (.rI .u8 (([] ++ (Sg.node ((((([] ++ (Sg.leaf a0 (0 : Int))) ++ (Sg.leaf a0 (1 : Int))) ++ (Sg.leaf a0 (2 : Int))) ++ (Sg.leaf a0 (3 : Int))).take 16) (((((([] ++ (Sg.leaf a0 (0 : Int))) ++ (Sg.leaf a0 (1 : Int))) ++ (Sg.leaf a0 (2 : Int))) ++ (Sg.leaf a0 (3 : Int))).drop 16).take 16))) ++ (Sg.node (((((([] ++ (Sg.leaf a0 (0 : Int))) ++ (Sg.leaf a0 (1 : Int))) ++ (Sg.leaf a0 (2 : Int))) ++ (Sg.leaf a0 (3 : Int))).drop 32).take 16) (((((([] ++ (Sg.leaf a0 (0 : Int))) ++ (Sg.leaf a0 (1 : Int))) ++ (Sg.leaf a0 (2 : Int))) ++ (Sg.leaf a0 (3 : Int))).drop 48).take 16)))) true),(.cells 16 (.rI .u8 ([] ++ (Sg.node ((([] ++ (Sg.node ((((([] ++ (Sg.leaf a0 (0 : Int))) ++ (Sg.leaf a0 (1 : Int))) ++ (Sg.leaf a0 (2 : Int))) ++ (Sg.leaf a0 (3 : Int))).take 16) (((((([] ++ (Sg.leaf a0 (0 : Int))) ++ (Sg.leaf a0 (1 : Int))) ++ (Sg.leaf a0 (2 : Int))) ++ (Sg.leaf a0 (3 : Int))).drop 16).take 16))) ++ (Sg.node (((((([] ++ (Sg.leaf a0 (0 : Int))) ++ (Sg.leaf a0 (1 : Int))) ++ (Sg.leaf a0 (2 : Int))) ++ (Sg.leaf a0 (3 : Int))).drop 32).take 16) (((((([] ++ (Sg.leaf a0 (0 : Int))) ++ (Sg.leaf a0 (1 : Int))) ++ (Sg.leaf a0 (2 : Int))) ++ (Sg.leaf a0 (3 : Int))).drop 48).take 16))).take 16) (((([] ++ (Sg.node ((((([] ++ (Sg.leaf a0 (0 : Int))) ++ (Sg.leaf a0 (1 : Int))) ++ (Sg.leaf a0 (2 : Int))) ++ (Sg.leaf a0 (3 : Int))).take 16) (((((([] ++ (Sg.leaf a0 (0 : Int))) ++ (Sg.leaf a0 (1 : Int))) ++ (Sg.leaf a0 (2 : Int))) ++ (Sg.leaf a0 (3 : Int))).drop 16).take 16))) ++ (Sg.node (((((([] ++ (Sg.leaf a0 (0 : Int))) ++ (Sg.leaf a0 (1 : Int))) ++ (Sg.leaf a0 (2 : Int))) ++ (Sg.leaf a0 (3 : Int))).drop 32).take 16) (((((([] ++ (Sg.leaf a0 (0 : Int))) ++ (Sg.leaf a0 (1 : Int))) ++ (Sg.leaf a0 (2 : Int))) ++ (Sg.leaf a0 (3 : Int))).drop 48).take 16))).drop 16).take 16)))) true)])) none) none) none) none)
theorem f242_1_eq (F : Nat) : ∀ v,aexec VG0324 (Af242 F) (sub (bodyOf Tryd.f24) []) (ef242_a v) Kf63 = f242_1 F v := by
 intro a0; kernel_rfl
def f242 (F : Nat) : Li → Rz := f242_1 F
theorem f242_body (F : Nat) (a0 : List Int) : abody VG0324 (Af242 F) Tryd.f24 [(.str a0),.int .i64 2] [] = f242 F a0 :=
 (abody_in (c := (sub (bodyOf Tryd.f24) [])) (by kernel_rfl) (s := ef242_a a0) (by kernel_rfl)).trans (f242_1_eq F a0)
def r24 : CRun := fun X H => match X,H with
 | [(.str a0),.int .i64 0],[] => some ((decide (a0.length < 1073730000)),.own 0 0 1,[(.cells 1 (.segs (.cons 1 (.one (.own 1 1 16)) .nil)) true),(.cells 16 (.rI .u8 (Sg.lvl a0 1 0)) true)])
 | [(.str a0),.int .i64 1],[] => some ((decide (a0.length < 1073730000)),.own 0 0 1,[(.cells 2 (.segs (.cons 1 (.one (.own 1 2 16)) (.cons 1 (.one (.own 2 1 16)) .nil))) true),(.cells 32 (.rI .u8 (Sg.lvl a0 2 0)) true),(.cells 16 (.rI .u8 (Sg.lvl a0 1 1)) true)])
 | [(.str a0),.int .i64 2],[] => some ((decide (a0.length < 1073730000)),.own 0 0 1,[(.cells 3 (.segs (.cons 1 (.one (.own 1 4 16)) (.cons 1 (.one (.own 2 2 16)) (.cons 1 (.one (.own 3 1 16)) .nil)))) true),(.cells 64 (.rI .u8 (Sg.lvl a0 4 0)) true),(.cells 32 (.rI .u8 (Sg.lvl a0 2 1)) true),(.cells 16 (.rI .u8 (Sg.lvl a0 1 2)) true)])
 | _,_ => none
theorem s240 (a0 : List Int) (hp : ((decide (a0.length < 1073730000))) = true) (h0 : okV (.str a0)) (h1 : okV (.int .i64 0)) : ∃ F,f240 F a0 = some ((.own 0 0 1),[(.cells 1 (.segs (.cons 1 (.one (.own 1 1 16)) .nil)) true),(.cells 16 (.rI .u8 (Sg.lvl a0 1 0)) true)]) := by
 have hp' := of_decide_eq_true hp
 refine ⟨0,?_⟩
 simp only [f240,f240_1]
 rw [cond_pos hp',Sg.lvl1]
 rfl
theorem s241 (a0 : List Int) (hp : ((decide (a0.length < 1073730000))) = true) (h0 : okV (.str a0)) (h1 : okV (.int .i64 1)) : ∃ F,f241 F a0 = some ((.own 0 0 1),[(.cells 2 (.segs (.cons 1 (.one (.own 1 2 16)) (.cons 1 (.one (.own 2 1 16)) .nil))) true),(.cells 32 (.rI .u8 (Sg.lvl a0 2 0)) true),(.cells 16 (.rI .u8 (Sg.lvl a0 1 1)) true)]) := by
 have hp' := of_decide_eq_true hp
 refine ⟨0,?_⟩
 have e0 : [] ++ Sg.leaf a0 (0 : Int) ++ Sg.leaf a0 (1 : Int) = Sg.lvl a0 2 0 := (Sg.lvl2 a0 0).symm
 have e1 := Sg.lvl_at (s := a0) (n := 2) (l := 0) (k := 1) (by omega)
 simp only [f241,f241_1]
 rw [cond_pos hp',cond_pos hp',e0,Sg.lvl_zero (by omega),show (16 : Nat) = 1 * 16 from rfl,e1,Sg.lvl1 a0 1]
 rfl
theorem s242 (a0 : List Int) (hp : ((decide (a0.length < 1073730000))) = true) (h0 : okV (.str a0)) (h1 : okV (.int .i64 2)) : ∃ F,f242 F a0 = some ((.own 0 0 1),[(.cells 3 (.segs (.cons 1 (.one (.own 1 4 16)) (.cons 1 (.one (.own 2 2 16)) (.cons 1 (.one (.own 3 1 16)) .nil)))) true),(.cells 64 (.rI .u8 (Sg.lvl a0 4 0)) true),(.cells 32 (.rI .u8 (Sg.lvl a0 2 1)) true),(.cells 16 (.rI .u8 (Sg.lvl a0 1 2)) true)]) := by
 have hp' := of_decide_eq_true hp
 refine ⟨0,?_⟩
 have e0 : [] ++ Sg.leaf a0 (0 : Int) ++ Sg.leaf a0 (1 : Int) ++ Sg.leaf a0 (2 : Int) ++ Sg.leaf a0 (3 : Int) = Sg.lvl a0 4 0 := (Sg.lvl4 a0 0).symm
 have e1 : ((Sg.lvl a0 4 0).drop 16).take 16 = Sg.nd a0 0 1 := Sg.lvl_at (s := a0) (n := 4) (l := 0) (k := 1) (by omega)
 have e2 : ((Sg.lvl a0 4 0).drop 32).take 16 = Sg.nd a0 0 2 := Sg.lvl_at (s := a0) (n := 4) (l := 0) (k := 2) (by omega)
 have e3 : ((Sg.lvl a0 4 0).drop 48).take 16 = Sg.nd a0 0 3 := Sg.lvl_at (s := a0) (n := 4) (l := 0) (k := 3) (by omega)
 have e4 : [] ++ Sg.node (Sg.nd a0 0 0) (Sg.nd a0 0 1) ++ Sg.node (Sg.nd a0 0 2) (Sg.nd a0 0 3) = Sg.lvl a0 2 1 := (Sg.lvl2 a0 1).symm
 have e5 : ((Sg.lvl a0 2 1).drop 16).take 16 = Sg.nd a0 1 1 := Sg.lvl_at (s := a0) (n := 2) (l := 1) (k := 1) (by omega)
 simp only [f242,f242_1]
 rw [cond_pos hp',cond_pos hp',cond_pos hp',cond_pos hp',e0,Sg.lvl_zero (n := 4) (by omega),e1,e2,e3,e4,Sg.lvl_zero (n := 2) (by omega),e5,Sg.lvl1 a0 2]
 rfl
theorem c24 : CallOk Tryd.prog G03 24 r24 := callOk_of (V := VG0324) mixed tys eVG0324 (f := 24) (fn := Tryd.f24) Tryd.func24 (by kernel_rfl) (c := sub (bodyOf Tryd.f24) []) (by kernel_rfl) (by
 intro X H r H' h hX hH
 unfold r24 at h; split at h <;> try contradiction
 ·simp only [Option.some.injEq,Prod.mk.injEq] at h
  obtain ⟨hp,rfl,rfl⟩ := h
  obtain ⟨F,hF⟩ := s240 _ hp (hX _ (.head _)) (hX _ (.tail _ (.head _)))
  exact ⟨Af240 F,(f240_body F _).trans hF⟩
 ·simp only [Option.some.injEq,Prod.mk.injEq] at h
  obtain ⟨hp,rfl,rfl⟩ := h
  obtain ⟨F,hF⟩ := s241 _ hp (hX _ (.head _)) (hX _ (.tail _ (.head _)))
  exact ⟨Af241 F,(f241_body F _).trans hF⟩
 ·simp only [Option.some.injEq,Prod.mk.injEq] at h
  obtain ⟨hp,rfl,rfl⟩ := h
  obtain ⟨F,hF⟩ := s242 _ hp (hX _ (.head _)) (hX _ (.tail _ (.head _)))
  exact ⟨Af242 F,(f242_body F _).trans hF⟩)
def r24n : CRun := fun _ _ => none
theorem c24n : CallOk Tryd.prog G03 24 r24n := callOk_never (V := mkEnv T03 G03 []) Tryd.func24 (by kernel_rfl) (by kernel_rfl)
def lVG0313 : List CEnt := [(23,[none,none],r23),(24,[none,none],r24)]
def VG0313 : Env := mkEnv T03 G03 lVG0313
noncomputable abbrev Kf64 := kFin VG0313 none (Tryd.f13).results.toList
theorem eVG0313 : EOk Tryd.prog VG0313 := eok_mk (by exact ⟨c23.more gsub,c24,trivial⟩)
def Af130 (F : Nat) : Cuts := { F := F,at_ := fun _ => none,join := fun _ => none }
def ef130_a : Li → St := fun a0 => ⟨[(0,.str a0),(1,.int .i64 0)],[],0,21,0⟩
def f130_1 (F : Nat) : Li → Rz := fun a0 => (cond (!((decide (a0.length = 32)) && ((decide (0 ≤ (0 : Int))) && (decide ((0 : Int) ≤ 6))))) (some ((.tup (.cons 0 (.agg 16 (.rI .u8 (List.replicate 16 0))) (.cons 0 (.int .i64 1) .nil))),[])) (cond (decide (a0.length < 1073730000)) (some ((.tup (.cons 0 (.agg 16 (.rI .u8 ((Sg.lvl a0 1 0).take 16))) (.cons 0 (.int .i64 0) .nil))),[])) none))
theorem f130_1_eq (F : Nat) : ∀ v,aexec VG0313 (Af130 F) (sub (bodyOf Tryd.f13) []) (ef130_a v) Kf64 = f130_1 F v := by
 intro a0; kernel_rfl
def f130 (F : Nat) : Li → Rz := f130_1 F
theorem f130_body (F : Nat) (a0 : List Int) : abody VG0313 (Af130 F) Tryd.f13 [(.str a0),.int .i64 0] [] = f130 F a0 :=
 (abody_in (c := (sub (bodyOf Tryd.f13) [])) (by kernel_rfl) (s := ef130_a a0) (by kernel_rfl)).trans (f130_1_eq F a0)
def Af131 (F : Nat) : Cuts := { F := F,at_ := fun _ => none,join := fun _ => none }
def ef131_a : Li → St := fun a0 => ⟨[(0,.str a0),(1,.int .i64 1)],[],0,21,0⟩
def f131_1 (F : Nat) : Li → Rz := fun a0 => (cond (!((decide (a0.length = 32)) && ((decide (0 ≤ (1 : Int))) && (decide ((1 : Int) ≤ 6))))) (some ((.tup (.cons 0 (.agg 16 (.rI .u8 (List.replicate 16 0))) (.cons 0 (.int .i64 1) .nil))),[])) (cond (decide (a0.length < 1073730000)) (some ((.tup (.cons 0 (.agg 16 (.rI .u8 ((Sg.lvl a0 1 1).take 16))) (.cons 0 (.int .i64 0) .nil))),[])) none))
theorem f131_1_eq (F : Nat) : ∀ v,aexec VG0313 (Af131 F) (sub (bodyOf Tryd.f13) []) (ef131_a v) Kf64 = f131_1 F v := by
 intro a0; kernel_rfl
def f131 (F : Nat) : Li → Rz := f131_1 F
theorem f131_body (F : Nat) (a0 : List Int) : abody VG0313 (Af131 F) Tryd.f13 [(.str a0),.int .i64 1] [] = f131 F a0 :=
 (abody_in (c := (sub (bodyOf Tryd.f13) [])) (by kernel_rfl) (s := ef131_a a0) (by kernel_rfl)).trans (f131_1_eq F a0)
def Af132 (F : Nat) : Cuts := { F := F,at_ := fun _ => none,join := fun _ => none }
def ef132_a : Li → St := fun a0 => ⟨[(0,.str a0),(1,.int .i64 2)],[],0,21,0⟩
def f132_1 (F : Nat) : Li → Rz := fun a0 => (cond (!((decide (a0.length = 32)) && ((decide (0 ≤ (2 : Int))) && (decide ((2 : Int) ≤ 6))))) (some ((.tup (.cons 0 (.agg 16 (.rI .u8 (List.replicate 16 0))) (.cons 0 (.int .i64 1) .nil))),[])) (cond (decide (a0.length < 1073730000)) (some ((.tup (.cons 0 (.agg 16 (.rI .u8 ((Sg.lvl a0 1 2).take 16))) (.cons 0 (.int .i64 0) .nil))),[])) none))
theorem f132_1_eq (F : Nat) : ∀ v,aexec VG0313 (Af132 F) (sub (bodyOf Tryd.f13) []) (ef132_a v) Kf64 = f132_1 F v := by
 intro a0; kernel_rfl
def f132 (F : Nat) : Li → Rz := f132_1 F
theorem f132_body (F : Nat) (a0 : List Int) : abody VG0313 (Af132 F) Tryd.f13 [(.str a0),.int .i64 2] [] = f132 F a0 :=
 (abody_in (c := (sub (bodyOf Tryd.f13) [])) (by kernel_rfl) (s := ef132_a a0) (by kernel_rfl)).trans (f132_1_eq F a0)
def r13 : CRun := fun X H => match X,H with
 | [(.str a0),.int .i64 0],[] => some (true,(.tup (.cons 0 (.agg 16 (.rI .u8 (Sg.pub a0 0).1)) (.cons 0 (.int .i64 (Sg.pub a0 0).2) .nil))),[])
 | [(.str a0),.int .i64 1],[] => some (true,(.tup (.cons 0 (.agg 16 (.rI .u8 (Sg.pub a0 1).1)) (.cons 0 (.int .i64 (Sg.pub a0 1).2) .nil))),[])
 | [(.str a0),.int .i64 2],[] => some (true,(.tup (.cons 0 (.agg 16 (.rI .u8 (Sg.pub a0 2).1)) (.cons 0 (.int .i64 (Sg.pub a0 2).2) .nil))),[])
 | _,_ => none
theorem s130 (a0 : List Int) (h0 : okV (.str a0)) (h1 : okV (.int .i64 0)) : ∃ F,f130 F a0 = some ((.tup (.cons 0 (.agg 16 (.rI .u8 (Sg.pub a0 0).1)) (.cons 0 (.int .i64 (Sg.pub a0 0).2) .nil))),[]) := by
 refine ⟨0,?_⟩
 simp only [f130,f130_1,dec_and,dec_not]
 by_cases hl : a0.length = 32
 ·rw [cond_neg (by omega),cond_pos (by omega),Sg.lvl_top,show Sg.pub a0 0 = (Sg.nd a0 0 0,0) from Sg.pub_ok 0 rfl hl (by omega)]
 ·rw [cond_pos (by omega),Sg.pub_out (.inl hl)]
theorem s131 (a0 : List Int) (h0 : okV (.str a0)) (h1 : okV (.int .i64 1)) : ∃ F,f131 F a0 = some ((.tup (.cons 0 (.agg 16 (.rI .u8 (Sg.pub a0 1).1)) (.cons 0 (.int .i64 (Sg.pub a0 1).2) .nil))),[]) := by
 refine ⟨0,?_⟩
 simp only [f131,f131_1,dec_and,dec_not]
 by_cases hl : a0.length = 32
 ·rw [cond_neg (by omega),cond_pos (by omega),Sg.lvl_top,show Sg.pub a0 1 = (Sg.nd a0 1 0,0) from Sg.pub_ok 1 rfl hl (by omega)]
 ·rw [cond_pos (by omega),Sg.pub_out (.inl hl)]
theorem s132 (a0 : List Int) (h0 : okV (.str a0)) (h1 : okV (.int .i64 2)) : ∃ F,f132 F a0 = some ((.tup (.cons 0 (.agg 16 (.rI .u8 (Sg.pub a0 2).1)) (.cons 0 (.int .i64 (Sg.pub a0 2).2) .nil))),[]) := by
 refine ⟨0,?_⟩
 simp only [f132,f132_1,dec_and,dec_not]
 by_cases hl : a0.length = 32
 ·rw [cond_neg (by omega),cond_pos (by omega),Sg.lvl_top,show Sg.pub a0 2 = (Sg.nd a0 2 0,0) from Sg.pub_ok 2 rfl hl (by omega)]
 ·rw [cond_pos (by omega),Sg.pub_out (.inl hl)]
theorem c13 : CallOk Tryd.prog G03 13 r13 := callOk_of (V := VG0313) mixed tys eVG0313 (f := 13) (fn := Tryd.f13) Tryd.func13 (by kernel_rfl) (c := sub (bodyOf Tryd.f13) []) (by kernel_rfl) (by
 intro X H r H' h hX hH
 unfold r13 at h; split at h <;> try contradiction
 ·simp only [Option.some.injEq,Prod.mk.injEq] at h
  obtain ⟨hp,rfl,rfl⟩ := h
  obtain ⟨F,hF⟩ := s130 _ (hX _ (.head _)) (hX _ (.tail _ (.head _)))
  exact ⟨Af130 F,(f130_body F _).trans hF⟩
 ·simp only [Option.some.injEq,Prod.mk.injEq] at h
  obtain ⟨hp,rfl,rfl⟩ := h
  obtain ⟨F,hF⟩ := s131 _ (hX _ (.head _)) (hX _ (.tail _ (.head _)))
  exact ⟨Af131 F,(f131_body F _).trans hF⟩
 ·simp only [Option.some.injEq,Prod.mk.injEq] at h
  obtain ⟨hp,rfl,rfl⟩ := h
  obtain ⟨F,hF⟩ := s132 _ (hX _ (.head _)) (hX _ (.tail _ (.head _)))
  exact ⟨Af132 F,(f132_body F _).trans hF⟩)
def lVG0313z : List CEnt := [(23,[none,none],r23),(24,[none,none],r24n)]
def VG0313z : Env := mkEnv T03 G03 lVG0313z
noncomputable abbrev Kf65 := kFin VG0313z none (Tryd.f13).results.toList
theorem eVG0313z : EOk Tryd.prog VG0313z := eok_mk (by exact ⟨c23.more gsub,c24n,trivial⟩)
def Af13z (F : Nat) : Cuts := { F := F,at_ := fun _ => none,join := fun _ => none }
def ef13z_a : Li × Int → St := fun (a0,a1) => ⟨[(0,.str a0),(1,.int .i64 a1)],[],0,21,0⟩
def f13z_1 (F : Nat) : Li × Int → Rz := fun (a0,a1) => (cond (!((decide (a0.length = 32)) && ((decide (0 ≤ a1)) && (decide (a1 ≤ 6))))) (some ((.tup (.cons 0 (.agg 16 (.rI .u8 (List.replicate 16 0))) (.cons 0 (.int .i64 1) .nil))),[])) none)
theorem f13z_1_eq (F : Nat) : ∀ v,aexec VG0313z (Af13z F) (sub (bodyOf Tryd.f13) []) (ef13z_a v) Kf65 = f13z_1 F v := by
 rintro ⟨a0,a1⟩; kernel_rfl
def f13z (F : Nat) : Li × Int → Rz := f13z_1 F
theorem f13z_body (F : Nat) (a0 : List Int) (a1 : Int) : abody VG0313z (Af13z F) Tryd.f13 [(.str a0),.int .i64 a1] [] = f13z F (a0,a1) :=
 (abody_in (c := (sub (bodyOf Tryd.f13) [])) (by kernel_rfl) (s := ef13z_a (a0,a1)) (by kernel_rfl)).trans (f13z_1_eq F (a0,a1))
def r13z : CRun := fun X H => match X,H with
 | [(.str a0),.int .i64 a1],[] => some ((!((decide (0 ≤ a1)) && (decide (a1 ≤ 6)))),(.tup (.cons 0 (.agg 16 (.rI .u8 (Sg.pub a0 a1).1)) (.cons 0 (.int .i64 (Sg.pub a0 a1).2) .nil))),[])
 | _,_ => none
theorem s13z (a0 : List Int) (a1 : Int) (hp : ((!((decide (0 ≤ a1)) && (decide (a1 ≤ 6))))) = true) (h0 : okV (.str a0)) (h1 : okV (.int .i64 a1)) : ∃ F,f13z F (a0,a1) = some ((.tup (.cons 0 (.agg 16 (.rI .u8 (Sg.pub a0 a1).1)) (.cons 0 (.int .i64 (Sg.pub a0 a1).2) .nil))),[]) := by
 refine ⟨0,?_⟩
 simp only [dec_and,dec_not,decide_eq_true_eq] at hp
 simp only [f13z,f13z_1,dec_and,dec_not]
 rw [cond_pos (by omega),Sg.pub_out (.inr hp)]
theorem c13z : CallOk Tryd.prog G03 13 r13z := callOk_of (V := VG0313z) mixed tys eVG0313z (f := 13) (fn := Tryd.f13) Tryd.func13 (by kernel_rfl) (c := sub (bodyOf Tryd.f13) []) (by kernel_rfl) (by
 intro X H r H' h hX hH
 unfold r13z at h; split at h <;> try contradiction
 ·simp only [Option.some.injEq,Prod.mk.injEq] at h
  obtain ⟨hp,rfl,rfl⟩ := h
  obtain ⟨F,hF⟩ := s13z _ _ hp (hX _ (.head _)) (hX _ (.tail _ (.head _)))
  exact ⟨Af13z F,(f13z_body F _ _).trans hF⟩)
def lVG0315z : List CEnt := [(23,[none,none],r23),(24,[none,none],r24n)]
def VG0315z : Env := mkEnv T03 G03 lVG0315z
noncomputable abbrev Kf66 := kFin VG0315z none (Tryd.f15).results.toList
theorem eVG0315z : EOk Tryd.prog VG0315z := eok_mk (by exact ⟨c23.more gsub,c24n,trivial⟩)
def Af15z (F : Nat) : Cuts := { F := F,at_ := fun _ => none,join := fun n => match n with | 1077 => some sp58 | 2075 => some sp59 | 4067 => some sp58 | 6059 => some sp58 | 8051 => some sp58 | _ => none }
noncomputable abbrev XAf15z (F : Nat) {α : Type} := @aexec α VG0315z (Af15z F)
def ef15z_a : Ty25 → St := fun (a0,a1,a2,a3) => ⟨[(0,.str a0),(1,.int .i64 a1),(2,.int .i64 a2),(3,.str a3)],[],0,94,0⟩
def ef15zj1 : Ty25 → St := fun (t0,t1,t2,t3) => ⟨[(0,.str t0),(1,.int .i64 t1),(2,.int .i64 t2),(3,.str t3)],[],0,94,0⟩
def ef15zj2 : Ty68 → St := fun (t0,t1,t2,t3,t10) => ⟨[(0,.str t0),(1,.int .i64 t1),(2,.int .i64 t2),(3,.str t3),(10,.bool t10)],[],0,94,0⟩
def ef15zj3 : Ty25 → St := ef15zj1
def ef15zj4 : Ty25 → St := ef15zj1
def ef15zj5 : Ty25 → St := ef15zj1
def f15z_1 (F : Nat) (kf15zj1 : Ty25 → Rz) : Ty25 → Rz := fun (a0,a1,a2,a3) => (kf15zj1 (a0,a1,a2,a3))
theorem f15z_1_eq (F : Nat) (Rf15zj1 : St → Rz) : ∀ v,XAf15z F (bp Tryd.f15 2) (ef15z_a v) (kSeq (kc VG0315z Rf15zj1 sp58) Kf66) = f15z_1 F (Rf15zj1 ∘ ef15zj1) v := by
 rintro ⟨a0,a1,a2,a3⟩; kernel_rfl
def f15z_2 (F : Nat) (kf15zj2 : Ty68 → Rz) : Ty25 → Rz := fun (t0,t1,t2,t3) => (kf15zj2 (t0,t1,t2,t3,((decide (t0.length = 32)) && ((decide (0 ≤ t1)) && (decide (t1 ≤ 6))))))
theorem f15z_2_eq (F : Nat) (Rf15zj2 : St → Rz) : ∀ v,XAf15z F (bp Tryd.f15 6) (ef15zj1 v) (kSeq (kc VG0315z Rf15zj2 sp59) Kf66) = f15z_2 F (Rf15zj2 ∘ ef15zj2) v := by
 rintro ⟨t0,t1,t2,t3⟩; kernel_rfl
def f15z_3 (F : Nat) (kf15zj3 : Ty25 → Rz) : Ty68 → Rz := fun (t0,t1,t2,t3,t10) => (cond (!t10) (some ((.tup (.cons 0 (.str []) (.cons 0 (.int .i64 1) .nil))),[])) (kf15zj3 (t0,t1,t2,t3)))
theorem f15z_3_eq (F : Nat) (Rf15zj3 : St → Rz) : ∀ v,XAf15z F (bp Tryd.f15 14) (ef15zj2 v) (kSeq (kc VG0315z Rf15zj3 sp58) Kf66) = f15z_3 F (Rf15zj3 ∘ ef15zj3) v := by
 rintro ⟨t0,t1,t2,t3,t10⟩; kernel_rfl
def f15z_4 (F : Nat) (kf15zj4 : Ty25 → Rz) : Ty25 → Rz := fun (t0,t1,t2,t3) => (cond (decide (t2 < (0 : Int))) (some ((.tup (.cons 0 (.str []) (.cons 0 (.int .i64 24) .nil))),[])) (cond (decide (0 ≤ t1)) (cond (decide (t2 ≥ (IntKind.i64.wrap ((1 : Int) * 2 ^ (min (Int.toNat t1) 64))))) (some ((.tup (.cons 0 (.str []) (.cons 0 (.int .i64 24) .nil))),[])) (kf15zj4 (t0,t1,t2,t3))) none))
theorem f15z_4_eq (F : Nat) (Rf15zj4 : St → Rz) : ∀ v,XAf15z F (bp Tryd.f15 30) (ef15zj3 v) (kSeq (kc VG0315z Rf15zj4 sp58) Kf66) = f15z_4 F (Rf15zj4 ∘ ef15zj4) v := by
 rintro ⟨t0,t1,t2,t3⟩; kernel_rfl
def f15z_5 (F : Nat) (kf15zj5 : Ty25 → Rz) : Ty25 → Rz := fun (t0,t1,t2,t3) => (cond (decide ((↑t3.length : Int) > (1048576 : Int))) (some ((.tup (.cons 0 (.str []) (.cons 0 (.int .i64 4) .nil))),[])) (kf15zj5 (t0,t1,t2,t3)))
theorem f15z_5_eq (F : Nat) (Rf15zj5 : St → Rz) : ∀ v,XAf15z F (bp Tryd.f15 62) (ef15zj4 v) (kSeq (kc VG0315z Rf15zj5 sp58) Kf66) = f15z_5 F (Rf15zj5 ∘ ef15zj5) v := by
 rintro ⟨t0,t1,t2,t3⟩; kernel_rfl
def f15z_6 (F : Nat) : Ty25 → Rz := fun (t0,t1,t2,t3) => none
theorem f15z_6_eq (F : Nat) : ∀ v,XAf15z F (bp Tryd.f15 63) (ef15zj5 v) Kf66 = f15z_6 F v := by
 rintro ⟨t0,t1,t2,t3⟩; kernel_rfl
def f15z_7 (F : Nat) : Ty25 → Rz := fun v => f15z_5 F (f15z_6 F) v
theorem f15z_7_eq (F : Nat) : ∀ v,XAf15z F (bp Tryd.f15 31) (ef15zj4 v) Kf66 = f15z_7 F v :=
 seq_cut (by kernel_rfl) (by kernel_rfl) ef15zj4 ef15zj5 _ (fun k => f15z_5 F k) (f15z_6 F)
  (fun Rf15zj5 => f15z_5_eq F Rf15zj5) (f15z_6_eq F)
def f15z_8 (F : Nat) : Ty25 → Rz := fun v => f15z_4 F (f15z_7 F) v
theorem f15z_8_eq (F : Nat) : ∀ v,XAf15z F (bp Tryd.f15 15) (ef15zj3 v) Kf66 = f15z_8 F v :=
 seq_cut (by kernel_rfl) (by kernel_rfl) ef15zj3 ef15zj4 _ (fun k => f15z_4 F k) (f15z_7 F)
  (fun Rf15zj4 => f15z_4_eq F Rf15zj4) (f15z_7_eq F)
def f15z_9 (F : Nat) : Ty68 → Rz := fun v => f15z_3 F (f15z_8 F) v
theorem f15z_9_eq (F : Nat) : ∀ v,XAf15z F (bp Tryd.f15 7) (ef15zj2 v) Kf66 = f15z_9 F v :=
 seq_cut (by kernel_rfl) (by kernel_rfl) ef15zj2 ef15zj3 _ (fun k => f15z_3 F k) (f15z_8 F)
  (fun Rf15zj3 => f15z_3_eq F Rf15zj3) (f15z_8_eq F)
def f15z_10 (F : Nat) : Ty25 → Rz := fun v => f15z_2 F (f15z_9 F) v
theorem f15z_10_eq (F : Nat) : ∀ v,XAf15z F (bp Tryd.f15 3) (ef15zj1 v) Kf66 = f15z_10 F v :=
 seq_cut (by kernel_rfl) (by kernel_rfl) ef15zj1 ef15zj2 _ (fun k => f15z_2 F k) (f15z_9 F)
  (fun Rf15zj2 => f15z_2_eq F Rf15zj2) (f15z_9_eq F)
def f15z_11 (F : Nat) : Ty25 → Rz := fun v => f15z_1 F (f15z_10 F) v
theorem f15z_11_eq (F : Nat) : ∀ v,XAf15z F (sub (bodyOf Tryd.f15) []) (ef15z_a v) Kf66 = f15z_11 F v :=
 seq_cut (by kernel_rfl) (by kernel_rfl) ef15z_a ef15zj1 _ (fun k => f15z_1 F k) (f15z_10 F)
  (fun Rf15zj1 => f15z_1_eq F Rf15zj1) (f15z_10_eq F)
def f15z (F : Nat) : Ty25 → Rz := f15z_11 F
theorem f15z_body (F : Nat) (a0 : List Int) (a1 : Int) (a2 : Int) (a3 : List Int) : abody VG0315z (Af15z F) Tryd.f15 [(.str a0),.int .i64 a1,.int .i64 a2,.str a3] [] = f15z F (a0,a1,a2,a3) :=
 (abody_in (c := (sub (bodyOf Tryd.f15) [])) (by kernel_rfl) (s := ef15z_a (a0,a1,a2,a3)) (by kernel_rfl)).trans (f15z_11_eq F (a0,a1,a2,a3))
def r15z : CRun := fun X H => match X,H with
 | [(.str a0),.int .i64 a1,.int .i64 a2,.str a3],[] => some ((!((decide (0 ≤ a1)) && (decide (a1 ≤ 6)))),(.tup (.cons 0 (.str (Sg.sign a0 a1 a2 a3).1) (.cons 0 (.int .i64 (Sg.sign a0 a1 a2 a3).2) .nil))),[])
 | _,_ => none
theorem s15z (a0 : List Int) (a1 : Int) (a2 : Int) (a3 : List Int) (hp : ((!((decide (0 ≤ a1)) && (decide (a1 ≤ 6))))) = true) (h0 : okV (.str a0)) (h1 : okV (.int .i64 a1)) (h2 : okV (.int .i64 a2)) (h3 : okV (.str a3)) : ∃ F,f15z F (a0,a1,a2,a3) = some ((.tup (.cons 0 (.str (Sg.sign a0 a1 a2 a3).1) (.cons 0 (.int .i64 (Sg.sign a0 a1 a2 a3).2) .nil))),[]) := by
 refine ⟨0,?_⟩
 simp only [dec_and,dec_not,decide_eq_true_eq] at hp
 simp only [f15z_1,f15z_2,f15z_3,f15z_4,f15z_5,f15z_6,f15z_7,f15z_8,f15z_9,f15z_10,f15z_11,f15z,dec_and,dec_not]
 rw [cond_pos (by omega),Sg.sign_out (.inr hp)]
theorem c15z : CallOk Tryd.prog G03 15 r15z := callOk_of (V := VG0315z) mixed tys eVG0315z (f := 15) (fn := Tryd.f15) Tryd.func15 (by kernel_rfl) (c := sub (bodyOf Tryd.f15) []) (by kernel_rfl) (by
 intro X H r H' h hX hH
 unfold r15z at h; split at h <;> try contradiction
 ·simp only [Option.some.injEq,Prod.mk.injEq] at h
  obtain ⟨hp,rfl,rfl⟩ := h
  obtain ⟨F,hF⟩ := s15z _ _ _ _ hp (hX _ (.head _)) (hX _ (.tail _ (.head _))) (hX _ (.tail _ (.tail _ (.head _)))) (hX _ (.tail _ (.tail _ (.tail _ (.head _)))))
  exact ⟨Af15z F,(f15z_body F _ _ _ _).trans hF⟩)
end Go.Am
end
section
namespace Go.Am
open Go Go.Proofs
abbrev sp93 : List (Nat × Md) := [(0,.plain),(1,.plain),(2,.plain),(11,.plain),(12,.plain),(13,.plain),(14,.plain)]
abbrev sp94 : List (Nat × Md) := [(0,.plain),(1,.plain),(2,.plain),(3,.plain),(11,.plain)]
abbrev sp95 : List (Nat × Md) := [(0,.plain),(1,.plain),(2,.plain),(11,.plain),(12,.plain)]
abbrev sp96 : List (Nat × Md) := [(0,.plain),(1,.plain),(2,.plain),(11,.plain),(12,.plain),(13,.plain)]
abbrev sp97 : List (Nat × Md) := [(1,.plain),(2,.plain),(11,.plain),(13,.plain)]
abbrev Ty69 := Li × Int × Li × Bool
abbrev Ty70 := Li × Int × Li × Nat × Li
abbrev Ty71 := Li × Int × Li × Li × Nat × Li
abbrev Ty72 := Li × Int × Li × Li × Int × Nat × Li
abbrev Ty73 := Int × Li × Nat × Li
abbrev Ty74 := Li × Int × Li × Nat × Nat × Li × Li
abbrev Ty75 := Li × Int × Li × Li × Nat × Nat × Li × Li
abbrev Ty76 := Li × Int × Li × Li × Int × Nat × Nat × Li × Li
abbrev Ty77 := Int × Li × Nat × Nat × Li × Li
abbrev Ty78 := Li × Int × Li × Nat × Nat × Nat × Li × Li × Li
abbrev Ty79 := Li × Int × Li × Li × Nat × Nat × Nat × Li × Li × Li
abbrev Ty80 := Li × Int × Li × Li × Int × Nat × Nat × Nat × Li × Li × Li
abbrev Ty81 := Int × Li × Nat × Nat × Nat × Li × Li × Li
def lVG0315 : List CEnt := [(11,[none],r11),(17,[none,none,none],r17),(23,[none,none],r23),(24,[none,none],r24),(30,[none],r30),(31,[none],r31),(32,[none,none,none,none,none],r32),(33,[none,none,none],r33)]
def VG0315 : Env := mkEnv T03 G03 lVG0315
noncomputable abbrev Kf67 := kFin VG0315 none (Tryd.f15).results.toList
theorem eVG0315 : EOk Tryd.prog VG0315 := eok_mk (by exact ⟨c11.more gsub,c17,c23.more gsub,c24,c30.more gsub,c31.more gsub,c32,c33,trivial⟩)
def Af150 (F : Nat) : Cuts := { F := F + 8,at_ := fun n => match n with | 12010 => some sp93 | _ => none,join := fun n => match n with | 1077 => some sp58 | 2075 => some sp59 | 4067 => some sp58 | 6059 => some sp58 | 8051 => some sp58 | 9049 => some sp94 | 10047 => some sp95 | 11045 => some sp96 | 12012 => some sp93 | 15030 => some sp97 | _ => none }
noncomputable abbrev XAf150 (F : Nat) {α : Type} := @aexec α VG0315 (Af150 F)
def ef150_a : Ty34 → St := fun (a0,a2,a3) => ⟨[(0,.str a0),(1,.int .i64 0),(2,.int .i64 a2),(3,.str a3)],[],0,94,0⟩
def ef150j1 : Ty34 → St := fun (t0,t2,t3) => ⟨[(0,.str t0),(1,.int .i64 0),(2,.int .i64 t2),(3,.str t3)],[],0,94,0⟩
def ef150j2 : Ty69 → St := fun (t0,t2,t3,t10) => ⟨[(0,.str t0),(1,.int .i64 0),(2,.int .i64 t2),(3,.str t3),(10,.bool t10)],[],0,94,0⟩
def ef150j3 : Ty34 → St := ef150j1
def ef150j4 : Ty34 → St := ef150j1
def ef150j5 : Ty34 → St := ef150j1
def ef150j6 : Ty70 → St := fun (t0,t2,t3,x4,x5) => ⟨[(0,.str t0),(1,.int .i64 0),(2,.int .i64 t2),(3,.str t3),(11,.own 0 0 1)],[(0,(.cells 1 (.segs (.cons 1 (.one (.own 1 x4 16)) .nil)) true)),(1,(.cells (x4 * 16) (.rI .u8 x5) true))],2,94,0⟩
def ef150j7 : Ty70 → St := fun (t0,t2,t12,x4,x5) => ⟨[(0,.str t0),(1,.int .i64 0),(2,.int .i64 t2),(11,.own 0 0 1),(12,(.vs (.rI .i64 t12) 0 1))],[(0,(.cells 1 (.segs (.cons 1 (.one (.own 1 x4 16)) .nil)) true)),(1,(.cells (x4 * 16) (.rI .u8 x5) true))],2,94,0⟩
def ef150j8 : Ty71 → St := fun (t0,t2,t12,t13,x5,x6) => ⟨[(0,.str t0),(1,.int .i64 0),(2,.int .i64 t2),(11,.own 0 0 1),(12,(.vs (.rI .i64 t12) 0 1)),(13,.str t13)],[(0,(.cells 1 (.segs (.cons 1 (.one (.own 1 x5 16)) .nil)) true)),(1,(.cells (x5 * 16) (.rI .u8 x6) true))],2,94,0⟩
def ef150j9 : Ty72 → St := fun (t0,t2,t12,t13,t14,x6,x7) => ⟨[(0,.str t0),(1,.int .i64 0),(2,.int .i64 t2),(11,.own 0 0 1),(12,(.vs (.rI .i64 t12) 0 1)),(13,.str t13),(14,.int .i64 t14)],[(0,(.cells 1 (.segs (.cons 1 (.one (.own 1 x6 16)) .nil)) true)),(1,(.cells (x6 * 16) (.rI .u8 x7) true))],2,94,0⟩
def ef150l1 : Ty72 → St := ef150j9
def ef150j10 : Ty73 → St := fun (t2,t13,x3,x4) => ⟨[(1,.int .i64 0),(2,.int .i64 t2),(11,.own 0 0 1),(13,.str t13)],[(0,(.cells 1 (.segs (.cons 1 (.one (.own 1 x3 16)) .nil)) true)),(1,(.cells (x3 * 16) (.rI .u8 x4) true))],2,94,0⟩
def f150_1 (F : Nat) (kf150j1 : Ty34 → Rz) : Ty34 → Rz := fun (a0,a2,a3) => (kf150j1 (a0,a2,a3))
theorem f150_1_eq (F : Nat) (Rf150j1 : St → Rz) : ∀ v,XAf150 F (bp Tryd.f15 2) (ef150_a v) (kSeq (kc VG0315 Rf150j1 sp58) Kf67) = f150_1 F (Rf150j1 ∘ ef150j1) v := by
 rintro ⟨a0,a2,a3⟩; kernel_rfl
def f150_2 (F : Nat) (kf150j2 : Ty69 → Rz) : Ty34 → Rz := fun (t0,t2,t3) => (kf150j2 (t0,t2,t3,((decide (t0.length = 32)) && ((decide (0 ≤ (0 : Int))) && (decide ((0 : Int) ≤ 6))))))
theorem f150_2_eq (F : Nat) (Rf150j2 : St → Rz) : ∀ v,XAf150 F (bp Tryd.f15 6) (ef150j1 v) (kSeq (kc VG0315 Rf150j2 sp59) Kf67) = f150_2 F (Rf150j2 ∘ ef150j2) v := by
 rintro ⟨t0,t2,t3⟩; kernel_rfl
def f150_3 (F : Nat) (kf150j3 : Ty34 → Rz) : Ty69 → Rz := fun (t0,t2,t3,t10) => (cond (!t10) (some ((.tup (.cons 0 (.str []) (.cons 0 (.int .i64 1) .nil))),[])) (kf150j3 (t0,t2,t3)))
theorem f150_3_eq (F : Nat) (Rf150j3 : St → Rz) : ∀ v,XAf150 F (bp Tryd.f15 14) (ef150j2 v) (kSeq (kc VG0315 Rf150j3 sp58) Kf67) = f150_3 F (Rf150j3 ∘ ef150j3) v := by
 rintro ⟨t0,t2,t3,t10⟩; kernel_rfl
def f150_4 (F : Nat) (kf150j4 : Ty34 → Rz) : Ty34 → Rz := fun (t0,t2,t3) => (cond (decide (t2 < (0 : Int))) (some ((.tup (.cons 0 (.str []) (.cons 0 (.int .i64 24) .nil))),[])) (cond (decide (t2 ≥ (1 : Int))) (some ((.tup (.cons 0 (.str []) (.cons 0 (.int .i64 24) .nil))),[])) (kf150j4 (t0,t2,t3))))
theorem f150_4_eq (F : Nat) (Rf150j4 : St → Rz) : ∀ v,XAf150 F (bp Tryd.f15 30) (ef150j3 v) (kSeq (kc VG0315 Rf150j4 sp58) Kf67) = f150_4 F (Rf150j4 ∘ ef150j4) v := by
 rintro ⟨t0,t2,t3⟩; kernel_rfl
def f150_5 (F : Nat) (kf150j5 : Ty34 → Rz) : Ty34 → Rz := fun (t0,t2,t3) => (cond (decide ((↑t3.length : Int) > (1048576 : Int))) (some ((.tup (.cons 0 (.str []) (.cons 0 (.int .i64 4) .nil))),[])) (kf150j5 (t0,t2,t3)))
theorem f150_5_eq (F : Nat) (Rf150j5 : St → Rz) : ∀ v,XAf150 F (bp Tryd.f15 62) (ef150j4 v) (kSeq (kc VG0315 Rf150j5 sp58) Kf67) = f150_5 F (Rf150j5 ∘ ef150j5) v := by
 rintro ⟨t0,t2,t3⟩; kernel_rfl
def f150_6 (F : Nat) (kf150j6 : Ty70 → Rz) : Ty34 → Rz := fun (t0,t2,t3) => (cond (decide (t0.length < 1073730000)) (kf150j6 (t0,t2,t3,1,(Sg.lvl t0 1 0))) none)
theorem f150_6_eq (F : Nat) (Rf150j6 : St → Rz) : ∀ v,XAf150 F (bp Tryd.f15 126) (ef150j5 v) (kSeq (kc VG0315 Rf150j6 sp94) Kf67) = f150_6 F (Rf150j6 ∘ ef150j6) v := by
 rintro ⟨t0,t2,t3⟩; kernel_rfl
def f150_7 (F : Nat) (kf150j7 : Ty70 → Rz) : Ty70 → Rz := fun (t0,t2,t3,x4,x5) => (cond (decide ((0 : Int) < (↑x4 : Int))) (cond (decide (t3.length < 1073730000)) (kf150j7 (t0,t2,(Sg.digits (Sg.digest (x5.take 16) t2 t3)),x4,x5)) none) none)
theorem f150_7_eq (F : Nat) (Rf150j7 : St → Rz) : ∀ v,XAf150 F (bp Tryd.f15 254) (ef150j6 v) (kSeq (kc VG0315 Rf150j7 sp95) Kf67) = f150_7 F (Rf150j7 ∘ ef150j7) v := by
 rintro ⟨t0,t2,t3,x4,x5⟩; kernel_rfl
def f150_8 (F : Nat) (kf150j8 : Ty71 → Rz) : Ty70 → Rz := fun (t0,t2,t12,x4,x5) => (kf150j8 (t0,t2,t12,(Wire.int t2),x4,x5))
theorem f150_8_eq (F : Nat) (Rf150j8 : St → Rz) : ∀ v,XAf150 F (bp Tryd.f15 510) (ef150j7 v) (kSeq (kc VG0315 Rf150j8 sp96) Kf67) = f150_8 F (Rf150j8 ∘ ef150j8) v := by
 rintro ⟨t0,t2,t12,x4,x5⟩; kernel_rfl
def f150_9 (F : Nat) (kf150j9 : Ty72 → Rz) (kf150j10 : Ty73 → Rz) : Ty71 → Rz := fun (t0,t2,t12,t13,x5,x6) => (kf150j9 (t0,t2,t12,t13,(0 : Int),x5,x6))
theorem f150_9_eq (F : Nat) (Rf150j9 : St → Rz) (Rf150j10 : St → Rz) : ∀ v,XAf150 F (bp Tryd.f15 2044) (ef150j8 v) (kSeq (kc VG0315 Rf150j9 sp93) (kSeq (kc VG0315 Rf150j10 sp97) Kf67)) = f150_9 F (Rf150j9 ∘ ef150j9) (Rf150j10 ∘ ef150j10) v := by
 rintro ⟨t0,t2,t12,t13,x5,x6⟩; kernel_rfl
def f150_10 (F : Nat) (kf150l1 : Ty72 → Rz) (kf150j10 : Ty73 → Rz) : Ty72 → Rz := fun (t0,t2,t12,t13,t14,x6,x7) => (cond (decide (t14 < (68 : Int))) (cond ((decide (0 ≤ t14)) && (decide (t14 < (↑t12.length : Int)))) (cond (decide (t0.length < 1073730000)) (cond (decide ((t12.getD (Int.toNat t14) 0) ≤ 3)) (cond (decide ((t13.length + (Sg.adv t2 t14 (0 : Int) (Int.toNat ((t12.getD (Int.toNat t14) 0) - (0 : Int))) (Sg.start t0 t2 t14)).length) < 4611686018427387904)) (kf150l1 (t0,t2,t12,(t13 ++ (Sg.adv t2 t14 (0 : Int) (Int.toNat ((t12.getD (Int.toNat t14) 0) - (0 : Int))) (Sg.start t0 t2 t14))),(IntKind.i64.wrap (t14 + (1 : Int))),x6,x7)) none) none) none) none) (kf150j10 (t2,t13,x6,x7)))
theorem f150_10_eq (F : Nat) (Rf150l1 : St → Rz) (Rf150j10 : St → Rz) : ∀ v,XAf150 F (bp Tryd.f15 8180) (ef150l1 v) (kSeq (kc VG0315 Rf150l1 sp93) (kBlock 0 (kSeq (kc VG0315 Rf150j10 sp97) Kf67))) = f150_10 F (Rf150l1 ∘ ef150l1) (Rf150j10 ∘ ef150j10) v := by
 rintro ⟨t0,t2,t12,t13,t14,x6,x7⟩; kernel_rfl
def f150_11_i : Ty72 → Li × Int × Li × Li × Int × Nat × Li := fun (t0,t2,t12,t13,t14,x6,x7) => (t0,t2,t12,t13,t14,x6,x7)
def f150_11 (F : Nat) (kf150j10 : Ty73 → Rz) : Ty72 → Rz := fun v => loopN (fun k => f150_10 F k kf150j10) (F + 8) (f150_11_i v)
theorem f150_11_eq (F : Nat) (Rf150j10 : St → Rz) : ∀ v,XAf150 F (bp Tryd.f15 4090) (ef150j9 v) (kBlock 0 (kSeq (kc VG0315 Rf150j10 sp97) Kf67)) = f150_11 F (Rf150j10 ∘ ef150j10) v :=
 loop_cut (by kernel_rfl) (by kernel_rfl) ef150j9 ef150l1 _ f150_11_i (fun k => f150_10 F k (Rf150j10 ∘ ef150j10))
  (by rintro ⟨t0,t2,t12,t13,t14,x6,x7⟩; kernel_rfl) (fun Rf150l1 => f150_10_eq F Rf150l1 Rf150j10)
def f150_12 (F : Nat) (kf150j10 : Ty73 → Rz) : Ty72 → Rz := f150_11 F kf150j10
theorem f150_12_eq (F : Nat) (Rf150j10 : St → Rz) : ∀ v,XAf150 F (bp Tryd.f15 2045) (ef150j9 v) (kSeq (kc VG0315 Rf150j10 sp97) Kf67) = f150_12 F (Rf150j10 ∘ ef150j10) v := fun v =>
 (block_in  (by kernel_rfl) _ _).trans (f150_11_eq F Rf150j10 v)
def f150_13 (F : Nat) (kf150j10 : Ty73 → Rz) : Ty71 → Rz := fun v => f150_9 F (f150_12 F kf150j10) kf150j10 v
theorem f150_13_eq (F : Nat) (Rf150j10 : St → Rz) : ∀ v,XAf150 F (bp Tryd.f15 1022) (ef150j8 v) (kSeq (kc VG0315 Rf150j10 sp97) Kf67) = f150_13 F (Rf150j10 ∘ ef150j10) v :=
 seq_cut (by kernel_rfl) (by kernel_rfl) ef150j8 ef150j9 _ (fun k => f150_9 F k (Rf150j10 ∘ ef150j10)) (f150_12 F (Rf150j10 ∘ ef150j10))
  (fun Rf150j9 => f150_9_eq F Rf150j9 Rf150j10) (f150_12_eq F Rf150j10)
def f150_14 (F : Nat) : Ty73 → Rz := fun (t2,t13,x3,x4) => (some ((.tup (.cons 0 (.str t13) (.cons 0 (.int .i64 0) .nil))),[]))
theorem f150_14_eq (F : Nat) : ∀ v,XAf150 F (bp Tryd.f15 1023) (ef150j10 v) Kf67 = f150_14 F v := by
 rintro ⟨t2,t13,x3,x4⟩; kernel_rfl
def f150_15 (F : Nat) : Ty71 → Rz := fun v => f150_13 F (f150_14 F) v
theorem f150_15_eq (F : Nat) : ∀ v,XAf150 F (bp Tryd.f15 511) (ef150j8 v) Kf67 = f150_15 F v :=
 seq_cut (by kernel_rfl) (by kernel_rfl) ef150j8 ef150j10 _ (fun k => f150_13 F k) (f150_14 F)
  (fun Rf150j10 => f150_13_eq F Rf150j10) (f150_14_eq F)
def f150_16 (F : Nat) : Ty70 → Rz := fun v => f150_8 F (f150_15 F) v
theorem f150_16_eq (F : Nat) : ∀ v,XAf150 F (bp Tryd.f15 255) (ef150j7 v) Kf67 = f150_16 F v :=
 seq_cut (by kernel_rfl) (by kernel_rfl) ef150j7 ef150j8 _ (fun k => f150_8 F k) (f150_15 F)
  (fun Rf150j8 => f150_8_eq F Rf150j8) (f150_15_eq F)
def f150_17 (F : Nat) : Ty70 → Rz := fun v => f150_7 F (f150_16 F) v
theorem f150_17_eq (F : Nat) : ∀ v,XAf150 F (bp Tryd.f15 127) (ef150j6 v) Kf67 = f150_17 F v :=
 seq_cut (by kernel_rfl) (by kernel_rfl) ef150j6 ef150j7 _ (fun k => f150_7 F k) (f150_16 F)
  (fun Rf150j7 => f150_7_eq F Rf150j7) (f150_16_eq F)
def f150_18 (F : Nat) : Ty34 → Rz := fun v => f150_6 F (f150_17 F) v
theorem f150_18_eq (F : Nat) : ∀ v,XAf150 F (bp Tryd.f15 63) (ef150j5 v) Kf67 = f150_18 F v :=
 seq_cut (by kernel_rfl) (by kernel_rfl) ef150j5 ef150j6 _ (fun k => f150_6 F k) (f150_17 F)
  (fun Rf150j6 => f150_6_eq F Rf150j6) (f150_17_eq F)
def f150_19 (F : Nat) : Ty34 → Rz := fun v => f150_5 F (f150_18 F) v
theorem f150_19_eq (F : Nat) : ∀ v,XAf150 F (bp Tryd.f15 31) (ef150j4 v) Kf67 = f150_19 F v :=
 seq_cut (by kernel_rfl) (by kernel_rfl) ef150j4 ef150j5 _ (fun k => f150_5 F k) (f150_18 F)
  (fun Rf150j5 => f150_5_eq F Rf150j5) (f150_18_eq F)
def f150_20 (F : Nat) : Ty34 → Rz := fun v => f150_4 F (f150_19 F) v
theorem f150_20_eq (F : Nat) : ∀ v,XAf150 F (bp Tryd.f15 15) (ef150j3 v) Kf67 = f150_20 F v :=
 seq_cut (by kernel_rfl) (by kernel_rfl) ef150j3 ef150j4 _ (fun k => f150_4 F k) (f150_19 F)
  (fun Rf150j4 => f150_4_eq F Rf150j4) (f150_19_eq F)
def f150_21 (F : Nat) : Ty69 → Rz := fun v => f150_3 F (f150_20 F) v
theorem f150_21_eq (F : Nat) : ∀ v,XAf150 F (bp Tryd.f15 7) (ef150j2 v) Kf67 = f150_21 F v :=
 seq_cut (by kernel_rfl) (by kernel_rfl) ef150j2 ef150j3 _ (fun k => f150_3 F k) (f150_20 F)
  (fun Rf150j3 => f150_3_eq F Rf150j3) (f150_20_eq F)
def f150_22 (F : Nat) : Ty34 → Rz := fun v => f150_2 F (f150_21 F) v
theorem f150_22_eq (F : Nat) : ∀ v,XAf150 F (bp Tryd.f15 3) (ef150j1 v) Kf67 = f150_22 F v :=
 seq_cut (by kernel_rfl) (by kernel_rfl) ef150j1 ef150j2 _ (fun k => f150_2 F k) (f150_21 F)
  (fun Rf150j2 => f150_2_eq F Rf150j2) (f150_21_eq F)
def f150_23 (F : Nat) : Ty34 → Rz := fun v => f150_1 F (f150_22 F) v
theorem f150_23_eq (F : Nat) : ∀ v,XAf150 F (sub (bodyOf Tryd.f15) []) (ef150_a v) Kf67 = f150_23 F v :=
 seq_cut (by kernel_rfl) (by kernel_rfl) ef150_a ef150j1 _ (fun k => f150_1 F k) (f150_22 F)
  (fun Rf150j1 => f150_1_eq F Rf150j1) (f150_22_eq F)
def f150 (F : Nat) : Ty34 → Rz := f150_23 F
theorem f150_body (F : Nat) (a0 : List Int) (a2 : Int) (a3 : List Int) : abody VG0315 (Af150 F) Tryd.f15 [(.str a0),.int .i64 0,.int .i64 a2,.str a3] [] = f150 F (a0,a2,a3) :=
 (abody_in (c := (sub (bodyOf Tryd.f15) [])) (by kernel_rfl) (s := ef150_a (a0,a2,a3)) (by kernel_rfl)).trans (f150_23_eq F (a0,a2,a3))
def Af151 (F : Nat) : Cuts := { F := F + 8,at_ := fun n => match n with | 12010 => some sp93 | _ => none,join := fun n => match n with | 1077 => some sp58 | 2075 => some sp59 | 4067 => some sp58 | 6059 => some sp58 | 8051 => some sp58 | 9049 => some sp94 | 10047 => some sp95 | 11045 => some sp96 | 12012 => some sp93 | 15030 => some sp97 | _ => none }
noncomputable abbrev XAf151 (F : Nat) {α : Type} := @aexec α VG0315 (Af151 F)
def ef151_a : Ty34 → St := fun (a0,a2,a3) => ⟨[(0,.str a0),(1,.int .i64 1),(2,.int .i64 a2),(3,.str a3)],[],0,94,0⟩
def ef151j1 : Ty34 → St := fun (t0,t2,t3) => ⟨[(0,.str t0),(1,.int .i64 1),(2,.int .i64 t2),(3,.str t3)],[],0,94,0⟩
def ef151j2 : Ty69 → St := fun (t0,t2,t3,t10) => ⟨[(0,.str t0),(1,.int .i64 1),(2,.int .i64 t2),(3,.str t3),(10,.bool t10)],[],0,94,0⟩
def ef151j3 : Ty34 → St := ef151j1
def ef151j4 : Ty34 → St := ef151j1
def ef151j5 : Ty34 → St := ef151j1
def ef151j6 : Ty74 → St := fun (t0,t2,t3,x4,x5,x6,x7) => ⟨[(0,.str t0),(1,.int .i64 1),(2,.int .i64 t2),(3,.str t3),(11,.own 0 0 1)],[(0,(.cells 2 (.segs (.cons 1 (.one (.own 1 x4 16)) (.cons 1 (.one (.own 2 x5 16)) .nil))) true)),(1,(.cells (x4 * 16) (.rI .u8 x6) true)),(2,(.cells (x5 * 16) (.rI .u8 x7) true))],3,94,0⟩
def ef151j7 : Ty74 → St := fun (t0,t2,t12,x4,x5,x6,x7) => ⟨[(0,.str t0),(1,.int .i64 1),(2,.int .i64 t2),(11,.own 0 0 1),(12,(.vs (.rI .i64 t12) 0 1))],[(0,(.cells 2 (.segs (.cons 1 (.one (.own 1 x4 16)) (.cons 1 (.one (.own 2 x5 16)) .nil))) true)),(1,(.cells (x4 * 16) (.rI .u8 x6) true)),(2,(.cells (x5 * 16) (.rI .u8 x7) true))],3,94,0⟩
def ef151j8 : Ty75 → St := fun (t0,t2,t12,t13,x5,x6,x7,x8) => ⟨[(0,.str t0),(1,.int .i64 1),(2,.int .i64 t2),(11,.own 0 0 1),(12,(.vs (.rI .i64 t12) 0 1)),(13,.str t13)],[(0,(.cells 2 (.segs (.cons 1 (.one (.own 1 x5 16)) (.cons 1 (.one (.own 2 x6 16)) .nil))) true)),(1,(.cells (x5 * 16) (.rI .u8 x7) true)),(2,(.cells (x6 * 16) (.rI .u8 x8) true))],3,94,0⟩
def ef151j9 : Ty76 → St := fun (t0,t2,t12,t13,t14,x6,x7,x8,x9) => ⟨[(0,.str t0),(1,.int .i64 1),(2,.int .i64 t2),(11,.own 0 0 1),(12,(.vs (.rI .i64 t12) 0 1)),(13,.str t13),(14,.int .i64 t14)],[(0,(.cells 2 (.segs (.cons 1 (.one (.own 1 x6 16)) (.cons 1 (.one (.own 2 x7 16)) .nil))) true)),(1,(.cells (x6 * 16) (.rI .u8 x8) true)),(2,(.cells (x7 * 16) (.rI .u8 x9) true))],3,94,0⟩
def ef151l1 : Ty76 → St := ef151j9
def ef151j10 : Ty77 → St := fun (t2,t13,x3,x4,x5,x6) => ⟨[(1,.int .i64 1),(2,.int .i64 t2),(11,.own 0 0 1),(13,.str t13)],[(0,(.cells 2 (.segs (.cons 1 (.one (.own 1 x3 16)) (.cons 1 (.one (.own 2 x4 16)) .nil))) true)),(1,(.cells (x3 * 16) (.rI .u8 x5) true)),(2,(.cells (x4 * 16) (.rI .u8 x6) true))],3,94,0⟩
def f151_1 (F : Nat) (kf151j1 : Ty34 → Rz) : Ty34 → Rz := fun (a0,a2,a3) => (kf151j1 (a0,a2,a3))
theorem f151_1_eq (F : Nat) (Rf151j1 : St → Rz) : ∀ v,XAf151 F (bp Tryd.f15 2) (ef151_a v) (kSeq (kc VG0315 Rf151j1 sp58) Kf67) = f151_1 F (Rf151j1 ∘ ef151j1) v := by
 rintro ⟨a0,a2,a3⟩; kernel_rfl
def f151_2 (F : Nat) (kf151j2 : Ty69 → Rz) : Ty34 → Rz := fun (t0,t2,t3) => (kf151j2 (t0,t2,t3,((decide (t0.length = 32)) && ((decide (0 ≤ (1 : Int))) && (decide ((1 : Int) ≤ 6))))))
theorem f151_2_eq (F : Nat) (Rf151j2 : St → Rz) : ∀ v,XAf151 F (bp Tryd.f15 6) (ef151j1 v) (kSeq (kc VG0315 Rf151j2 sp59) Kf67) = f151_2 F (Rf151j2 ∘ ef151j2) v := by
 rintro ⟨t0,t2,t3⟩; kernel_rfl
def f151_3 (F : Nat) (kf151j3 : Ty34 → Rz) : Ty69 → Rz := fun (t0,t2,t3,t10) => (cond (!t10) (some ((.tup (.cons 0 (.str []) (.cons 0 (.int .i64 1) .nil))),[])) (kf151j3 (t0,t2,t3)))
theorem f151_3_eq (F : Nat) (Rf151j3 : St → Rz) : ∀ v,XAf151 F (bp Tryd.f15 14) (ef151j2 v) (kSeq (kc VG0315 Rf151j3 sp58) Kf67) = f151_3 F (Rf151j3 ∘ ef151j3) v := by
 rintro ⟨t0,t2,t3,t10⟩; kernel_rfl
def f151_4 (F : Nat) (kf151j4 : Ty34 → Rz) : Ty34 → Rz := fun (t0,t2,t3) => (cond (decide (t2 < (0 : Int))) (some ((.tup (.cons 0 (.str []) (.cons 0 (.int .i64 24) .nil))),[])) (cond (decide (t2 ≥ (2 : Int))) (some ((.tup (.cons 0 (.str []) (.cons 0 (.int .i64 24) .nil))),[])) (kf151j4 (t0,t2,t3))))
theorem f151_4_eq (F : Nat) (Rf151j4 : St → Rz) : ∀ v,XAf151 F (bp Tryd.f15 30) (ef151j3 v) (kSeq (kc VG0315 Rf151j4 sp58) Kf67) = f151_4 F (Rf151j4 ∘ ef151j4) v := by
 rintro ⟨t0,t2,t3⟩; kernel_rfl
def f151_5 (F : Nat) (kf151j5 : Ty34 → Rz) : Ty34 → Rz := fun (t0,t2,t3) => (cond (decide ((↑t3.length : Int) > (1048576 : Int))) (some ((.tup (.cons 0 (.str []) (.cons 0 (.int .i64 4) .nil))),[])) (kf151j5 (t0,t2,t3)))
theorem f151_5_eq (F : Nat) (Rf151j5 : St → Rz) : ∀ v,XAf151 F (bp Tryd.f15 62) (ef151j4 v) (kSeq (kc VG0315 Rf151j5 sp58) Kf67) = f151_5 F (Rf151j5 ∘ ef151j5) v := by
 rintro ⟨t0,t2,t3⟩; kernel_rfl
def f151_6 (F : Nat) (kf151j6 : Ty74 → Rz) : Ty34 → Rz := fun (t0,t2,t3) => (cond (decide (t0.length < 1073730000)) (kf151j6 (t0,t2,t3,2,1,(Sg.lvl t0 2 0),(Sg.lvl t0 1 1))) none)
theorem f151_6_eq (F : Nat) (Rf151j6 : St → Rz) : ∀ v,XAf151 F (bp Tryd.f15 126) (ef151j5 v) (kSeq (kc VG0315 Rf151j6 sp94) Kf67) = f151_6 F (Rf151j6 ∘ ef151j6) v := by
 rintro ⟨t0,t2,t3⟩; kernel_rfl
def f151_7 (F : Nat) (kf151j7 : Ty74 → Rz) : Ty74 → Rz := fun (t0,t2,t3,x4,x5,x6,x7) => (cond (decide ((0 : Int) < (↑x5 : Int))) (cond (decide (t3.length < 1073730000)) (kf151j7 (t0,t2,(Sg.digits (Sg.digest (x7.take 16) t2 t3)),x4,x5,x6,x7)) none) none)
theorem f151_7_eq (F : Nat) (Rf151j7 : St → Rz) : ∀ v,XAf151 F (bp Tryd.f15 254) (ef151j6 v) (kSeq (kc VG0315 Rf151j7 sp95) Kf67) = f151_7 F (Rf151j7 ∘ ef151j7) v := by
 rintro ⟨t0,t2,t3,x4,x5,x6,x7⟩; kernel_rfl
def f151_8 (F : Nat) (kf151j8 : Ty75 → Rz) : Ty74 → Rz := fun (t0,t2,t12,x4,x5,x6,x7) => (kf151j8 (t0,t2,t12,(Wire.int t2),x4,x5,x6,x7))
theorem f151_8_eq (F : Nat) (Rf151j8 : St → Rz) : ∀ v,XAf151 F (bp Tryd.f15 510) (ef151j7 v) (kSeq (kc VG0315 Rf151j8 sp96) Kf67) = f151_8 F (Rf151j8 ∘ ef151j8) v := by
 rintro ⟨t0,t2,t12,x4,x5,x6,x7⟩; kernel_rfl
def f151_9 (F : Nat) (kf151j9 : Ty76 → Rz) (kf151j10 : Ty77 → Rz) : Ty75 → Rz := fun (t0,t2,t12,t13,x5,x6,x7,x8) => (kf151j9 (t0,t2,t12,t13,(0 : Int),x5,x6,x7,x8))
theorem f151_9_eq (F : Nat) (Rf151j9 : St → Rz) (Rf151j10 : St → Rz) : ∀ v,XAf151 F (bp Tryd.f15 2044) (ef151j8 v) (kSeq (kc VG0315 Rf151j9 sp93) (kSeq (kc VG0315 Rf151j10 sp97) Kf67)) = f151_9 F (Rf151j9 ∘ ef151j9) (Rf151j10 ∘ ef151j10) v := by
 rintro ⟨t0,t2,t12,t13,x5,x6,x7,x8⟩; kernel_rfl
def f151_10 (F : Nat) (kf151l1 : Ty76 → Rz) (kf151j10 : Ty77 → Rz) : Ty76 → Rz := fun (t0,t2,t12,t13,t14,x6,x7,x8,x9) => (cond (decide (t14 < (68 : Int))) (cond ((decide (0 ≤ t14)) && (decide (t14 < (↑t12.length : Int)))) (cond (decide (t0.length < 1073730000)) (cond (decide ((t12.getD (Int.toNat t14) 0) ≤ 3)) (cond (decide ((t13.length + (Sg.adv t2 t14 (0 : Int) (Int.toNat ((t12.getD (Int.toNat t14) 0) - (0 : Int))) (Sg.start t0 t2 t14)).length) < 4611686018427387904)) (kf151l1 (t0,t2,t12,(t13 ++ (Sg.adv t2 t14 (0 : Int) (Int.toNat ((t12.getD (Int.toNat t14) 0) - (0 : Int))) (Sg.start t0 t2 t14))),(IntKind.i64.wrap (t14 + (1 : Int))),x6,x7,x8,x9)) none) none) none) none) (kf151j10 (t2,t13,x6,x7,x8,x9)))
theorem f151_10_eq (F : Nat) (Rf151l1 : St → Rz) (Rf151j10 : St → Rz) : ∀ v,XAf151 F (bp Tryd.f15 8180) (ef151l1 v) (kSeq (kc VG0315 Rf151l1 sp93) (kBlock 0 (kSeq (kc VG0315 Rf151j10 sp97) Kf67))) = f151_10 F (Rf151l1 ∘ ef151l1) (Rf151j10 ∘ ef151j10) v := by
 rintro ⟨t0,t2,t12,t13,t14,x6,x7,x8,x9⟩; kernel_rfl
def f151_11_i : Ty76 → Li × Int × Li × Li × Int × Nat × Nat × Li × Li := fun (t0,t2,t12,t13,t14,x6,x7,x8,x9) => (t0,t2,t12,t13,t14,x6,x7,x8,x9)
def f151_11 (F : Nat) (kf151j10 : Ty77 → Rz) : Ty76 → Rz := fun v => loopN (fun k => f151_10 F k kf151j10) (F + 8) (f151_11_i v)
theorem f151_11_eq (F : Nat) (Rf151j10 : St → Rz) : ∀ v,XAf151 F (bp Tryd.f15 4090) (ef151j9 v) (kBlock 0 (kSeq (kc VG0315 Rf151j10 sp97) Kf67)) = f151_11 F (Rf151j10 ∘ ef151j10) v :=
 loop_cut (by kernel_rfl) (by kernel_rfl) ef151j9 ef151l1 _ f151_11_i (fun k => f151_10 F k (Rf151j10 ∘ ef151j10))
  (by rintro ⟨t0,t2,t12,t13,t14,x6,x7,x8,x9⟩; kernel_rfl) (fun Rf151l1 => f151_10_eq F Rf151l1 Rf151j10)
def f151_12 (F : Nat) (kf151j10 : Ty77 → Rz) : Ty76 → Rz := f151_11 F kf151j10
theorem f151_12_eq (F : Nat) (Rf151j10 : St → Rz) : ∀ v,XAf151 F (bp Tryd.f15 2045) (ef151j9 v) (kSeq (kc VG0315 Rf151j10 sp97) Kf67) = f151_12 F (Rf151j10 ∘ ef151j10) v := fun v =>
 (block_in  (by kernel_rfl) _ _).trans (f151_11_eq F Rf151j10 v)
def f151_13 (F : Nat) (kf151j10 : Ty77 → Rz) : Ty75 → Rz := fun v => f151_9 F (f151_12 F kf151j10) kf151j10 v
theorem f151_13_eq (F : Nat) (Rf151j10 : St → Rz) : ∀ v,XAf151 F (bp Tryd.f15 1022) (ef151j8 v) (kSeq (kc VG0315 Rf151j10 sp97) Kf67) = f151_13 F (Rf151j10 ∘ ef151j10) v :=
 seq_cut (by kernel_rfl) (by kernel_rfl) ef151j8 ef151j9 _ (fun k => f151_9 F k (Rf151j10 ∘ ef151j10)) (f151_12 F (Rf151j10 ∘ ef151j10))
  (fun Rf151j9 => f151_9_eq F Rf151j9 Rf151j10) (f151_12_eq F Rf151j10)
def f151_14 (F : Nat) : Ty77 → Rz := fun (t2,t13,x3,x4,x5,x6) => (cond ((Int.tmod t2 (2 : Int)) == (1 : Int)) (cond ((decide (0 ≤ (IntKind.i64.wrap (t2 - (1 : Int))))) && (decide ((IntKind.i64.wrap (t2 - (1 : Int))) < (↑x3 : Int)))) (cond (decide ((t13.length + ((x5.drop ((Int.toNat (IntKind.i64.wrap (t2 - (1 : Int)))) * 16)).take 16).length) < 4611686018427387904)) (some ((.tup (.cons 0 (.str (t13 ++ ((x5.drop ((Int.toNat (IntKind.i64.wrap (t2 - (1 : Int)))) * 16)).take 16))) (.cons 0 (.int .i64 0) .nil))),[])) none) none) (cond ((decide (0 ≤ (IntKind.i64.wrap (t2 + (1 : Int))))) && (decide ((IntKind.i64.wrap (t2 + (1 : Int))) < (↑x3 : Int)))) (cond (decide ((t13.length + ((x5.drop ((Int.toNat (IntKind.i64.wrap (t2 + (1 : Int)))) * 16)).take 16).length) < 4611686018427387904)) (some ((.tup (.cons 0 (.str (t13 ++ ((x5.drop ((Int.toNat (IntKind.i64.wrap (t2 + (1 : Int)))) * 16)).take 16))) (.cons 0 (.int .i64 0) .nil))),[])) none) none))
theorem f151_14_eq (F : Nat) : ∀ v,XAf151 F (bp Tryd.f15 1023) (ef151j10 v) Kf67 = f151_14 F v := by
 rintro ⟨t2,t13,x3,x4,x5,x6⟩; kernel_rfl
def f151_15 (F : Nat) : Ty75 → Rz := fun v => f151_13 F (f151_14 F) v
theorem f151_15_eq (F : Nat) : ∀ v,XAf151 F (bp Tryd.f15 511) (ef151j8 v) Kf67 = f151_15 F v :=
 seq_cut (by kernel_rfl) (by kernel_rfl) ef151j8 ef151j10 _ (fun k => f151_13 F k) (f151_14 F)
  (fun Rf151j10 => f151_13_eq F Rf151j10) (f151_14_eq F)
def f151_16 (F : Nat) : Ty74 → Rz := fun v => f151_8 F (f151_15 F) v
theorem f151_16_eq (F : Nat) : ∀ v,XAf151 F (bp Tryd.f15 255) (ef151j7 v) Kf67 = f151_16 F v :=
 seq_cut (by kernel_rfl) (by kernel_rfl) ef151j7 ef151j8 _ (fun k => f151_8 F k) (f151_15 F)
  (fun Rf151j8 => f151_8_eq F Rf151j8) (f151_15_eq F)
def f151_17 (F : Nat) : Ty74 → Rz := fun v => f151_7 F (f151_16 F) v
theorem f151_17_eq (F : Nat) : ∀ v,XAf151 F (bp Tryd.f15 127) (ef151j6 v) Kf67 = f151_17 F v :=
 seq_cut (by kernel_rfl) (by kernel_rfl) ef151j6 ef151j7 _ (fun k => f151_7 F k) (f151_16 F)
  (fun Rf151j7 => f151_7_eq F Rf151j7) (f151_16_eq F)
def f151_18 (F : Nat) : Ty34 → Rz := fun v => f151_6 F (f151_17 F) v
theorem f151_18_eq (F : Nat) : ∀ v,XAf151 F (bp Tryd.f15 63) (ef151j5 v) Kf67 = f151_18 F v :=
 seq_cut (by kernel_rfl) (by kernel_rfl) ef151j5 ef151j6 _ (fun k => f151_6 F k) (f151_17 F)
  (fun Rf151j6 => f151_6_eq F Rf151j6) (f151_17_eq F)
def f151_19 (F : Nat) : Ty34 → Rz := fun v => f151_5 F (f151_18 F) v
theorem f151_19_eq (F : Nat) : ∀ v,XAf151 F (bp Tryd.f15 31) (ef151j4 v) Kf67 = f151_19 F v :=
 seq_cut (by kernel_rfl) (by kernel_rfl) ef151j4 ef151j5 _ (fun k => f151_5 F k) (f151_18 F)
  (fun Rf151j5 => f151_5_eq F Rf151j5) (f151_18_eq F)
def f151_20 (F : Nat) : Ty34 → Rz := fun v => f151_4 F (f151_19 F) v
theorem f151_20_eq (F : Nat) : ∀ v,XAf151 F (bp Tryd.f15 15) (ef151j3 v) Kf67 = f151_20 F v :=
 seq_cut (by kernel_rfl) (by kernel_rfl) ef151j3 ef151j4 _ (fun k => f151_4 F k) (f151_19 F)
  (fun Rf151j4 => f151_4_eq F Rf151j4) (f151_19_eq F)
def f151_21 (F : Nat) : Ty69 → Rz := fun v => f151_3 F (f151_20 F) v
theorem f151_21_eq (F : Nat) : ∀ v,XAf151 F (bp Tryd.f15 7) (ef151j2 v) Kf67 = f151_21 F v :=
 seq_cut (by kernel_rfl) (by kernel_rfl) ef151j2 ef151j3 _ (fun k => f151_3 F k) (f151_20 F)
  (fun Rf151j3 => f151_3_eq F Rf151j3) (f151_20_eq F)
def f151_22 (F : Nat) : Ty34 → Rz := fun v => f151_2 F (f151_21 F) v
theorem f151_22_eq (F : Nat) : ∀ v,XAf151 F (bp Tryd.f15 3) (ef151j1 v) Kf67 = f151_22 F v :=
 seq_cut (by kernel_rfl) (by kernel_rfl) ef151j1 ef151j2 _ (fun k => f151_2 F k) (f151_21 F)
  (fun Rf151j2 => f151_2_eq F Rf151j2) (f151_21_eq F)
def f151_23 (F : Nat) : Ty34 → Rz := fun v => f151_1 F (f151_22 F) v
theorem f151_23_eq (F : Nat) : ∀ v,XAf151 F (sub (bodyOf Tryd.f15) []) (ef151_a v) Kf67 = f151_23 F v :=
 seq_cut (by kernel_rfl) (by kernel_rfl) ef151_a ef151j1 _ (fun k => f151_1 F k) (f151_22 F)
  (fun Rf151j1 => f151_1_eq F Rf151j1) (f151_22_eq F)
def f151 (F : Nat) : Ty34 → Rz := f151_23 F
theorem f151_body (F : Nat) (a0 : List Int) (a2 : Int) (a3 : List Int) : abody VG0315 (Af151 F) Tryd.f15 [(.str a0),.int .i64 1,.int .i64 a2,.str a3] [] = f151 F (a0,a2,a3) :=
 (abody_in (c := (sub (bodyOf Tryd.f15) [])) (by kernel_rfl) (s := ef151_a (a0,a2,a3)) (by kernel_rfl)).trans (f151_23_eq F (a0,a2,a3))
def Af152 (F : Nat) : Cuts := { F := F + 8,at_ := fun n => match n with | 12010 => some sp93 | _ => none,join := fun n => match n with | 1077 => some sp58 | 2075 => some sp59 | 4067 => some sp58 | 6059 => some sp58 | 8051 => some sp58 | 9049 => some sp94 | 10047 => some sp95 | 11045 => some sp96 | 12012 => some sp93 | 15030 => some sp97 | _ => none }
noncomputable abbrev XAf152 (F : Nat) {α : Type} := @aexec α VG0315 (Af152 F)
def ef152_a : Ty34 → St := fun (a0,a2,a3) => ⟨[(0,.str a0),(1,.int .i64 2),(2,.int .i64 a2),(3,.str a3)],[],0,94,0⟩
def ef152j1 : Ty34 → St := fun (t0,t2,t3) => ⟨[(0,.str t0),(1,.int .i64 2),(2,.int .i64 t2),(3,.str t3)],[],0,94,0⟩
def ef152j2 : Ty69 → St := fun (t0,t2,t3,t10) => ⟨[(0,.str t0),(1,.int .i64 2),(2,.int .i64 t2),(3,.str t3),(10,.bool t10)],[],0,94,0⟩
def ef152j3 : Ty34 → St := ef152j1
def ef152j4 : Ty34 → St := ef152j1
def ef152j5 : Ty34 → St := ef152j1
def ef152j6 : Ty78 → St := fun (t0,t2,t3,x4,x5,x6,x7,x8,x9) => ⟨[(0,.str t0),(1,.int .i64 2),(2,.int .i64 t2),(3,.str t3),(11,.own 0 0 1)],[(0,(.cells 3 (.segs (.cons 1 (.one (.own 1 x4 16)) (.cons 1 (.one (.own 2 x5 16)) (.cons 1 (.one (.own 3 x6 16)) .nil)))) true)),(1,(.cells (x4 * 16) (.rI .u8 x7) true)),(2,(.cells (x5 * 16) (.rI .u8 x8) true)),(3,(.cells (x6 * 16) (.rI .u8 x9) true))],4,94,0⟩
def ef152j7 : Ty78 → St := fun (t0,t2,t12,x4,x5,x6,x7,x8,x9) => ⟨[(0,.str t0),(1,.int .i64 2),(2,.int .i64 t2),(11,.own 0 0 1),(12,(.vs (.rI .i64 t12) 0 1))],[(0,(.cells 3 (.segs (.cons 1 (.one (.own 1 x4 16)) (.cons 1 (.one (.own 2 x5 16)) (.cons 1 (.one (.own 3 x6 16)) .nil)))) true)),(1,(.cells (x4 * 16) (.rI .u8 x7) true)),(2,(.cells (x5 * 16) (.rI .u8 x8) true)),(3,(.cells (x6 * 16) (.rI .u8 x9) true))],4,94,0⟩
def ef152j8 : Ty79 → St := fun (t0,t2,t12,t13,x5,x6,x7,x8,x9,x10) => ⟨[(0,.str t0),(1,.int .i64 2),(2,.int .i64 t2),(11,.own 0 0 1),(12,(.vs (.rI .i64 t12) 0 1)),(13,.str t13)],[(0,(.cells 3 (.segs (.cons 1 (.one (.own 1 x5 16)) (.cons 1 (.one (.own 2 x6 16)) (.cons 1 (.one (.own 3 x7 16)) .nil)))) true)),(1,(.cells (x5 * 16) (.rI .u8 x8) true)),(2,(.cells (x6 * 16) (.rI .u8 x9) true)),(3,(.cells (x7 * 16) (.rI .u8 x10) true))],4,94,0⟩
def ef152j9 : Ty80 → St := fun (t0,t2,t12,t13,t14,x6,x7,x8,x9,x10,x11) => ⟨[(0,.str t0),(1,.int .i64 2),(2,.int .i64 t2),(11,.own 0 0 1),(12,(.vs (.rI .i64 t12) 0 1)),(13,.str t13),(14,.int .i64 t14)],[(0,(.cells 3 (.segs (.cons 1 (.one (.own 1 x6 16)) (.cons 1 (.one (.own 2 x7 16)) (.cons 1 (.one (.own 3 x8 16)) .nil)))) true)),(1,(.cells (x6 * 16) (.rI .u8 x9) true)),(2,(.cells (x7 * 16) (.rI .u8 x10) true)),(3,(.cells (x8 * 16) (.rI .u8 x11) true))],4,94,0⟩
def ef152l1 : Ty80 → St := ef152j9
def ef152j10 : Ty81 → St := fun (t2,t13,x3,x4,x5,x6,x7,x8) => ⟨[(1,.int .i64 2),(2,.int .i64 t2),(11,.own 0 0 1),(13,.str t13)],[(0,(.cells 3 (.segs (.cons 1 (.one (.own 1 x3 16)) (.cons 1 (.one (.own 2 x4 16)) (.cons 1 (.one (.own 3 x5 16)) .nil)))) true)),(1,(.cells (x3 * 16) (.rI .u8 x6) true)),(2,(.cells (x4 * 16) (.rI .u8 x7) true)),(3,(.cells (x5 * 16) (.rI .u8 x8) true))],4,94,0⟩
def f152_1 (F : Nat) (kf152j1 : Ty34 → Rz) : Ty34 → Rz := fun (a0,a2,a3) => (kf152j1 (a0,a2,a3))
theorem f152_1_eq (F : Nat) (Rf152j1 : St → Rz) : ∀ v,XAf152 F (bp Tryd.f15 2) (ef152_a v) (kSeq (kc VG0315 Rf152j1 sp58) Kf67) = f152_1 F (Rf152j1 ∘ ef152j1) v := by
 rintro ⟨a0,a2,a3⟩; kernel_rfl
def f152_2 (F : Nat) (kf152j2 : Ty69 → Rz) : Ty34 → Rz := fun (t0,t2,t3) => (kf152j2 (t0,t2,t3,((decide (t0.length = 32)) && ((decide (0 ≤ (2 : Int))) && (decide ((2 : Int) ≤ 6))))))
theorem f152_2_eq (F : Nat) (Rf152j2 : St → Rz) : ∀ v,XAf152 F (bp Tryd.f15 6) (ef152j1 v) (kSeq (kc VG0315 Rf152j2 sp59) Kf67) = f152_2 F (Rf152j2 ∘ ef152j2) v := by
 rintro ⟨t0,t2,t3⟩; kernel_rfl
def f152_3 (F : Nat) (kf152j3 : Ty34 → Rz) : Ty69 → Rz := fun (t0,t2,t3,t10) => (cond (!t10) (some ((.tup (.cons 0 (.str []) (.cons 0 (.int .i64 1) .nil))),[])) (kf152j3 (t0,t2,t3)))
theorem f152_3_eq (F : Nat) (Rf152j3 : St → Rz) : ∀ v,XAf152 F (bp Tryd.f15 14) (ef152j2 v) (kSeq (kc VG0315 Rf152j3 sp58) Kf67) = f152_3 F (Rf152j3 ∘ ef152j3) v := by
 rintro ⟨t0,t2,t3,t10⟩; kernel_rfl
def f152_4 (F : Nat) (kf152j4 : Ty34 → Rz) : Ty34 → Rz := fun (t0,t2,t3) => (cond (decide (t2 < (0 : Int))) (some ((.tup (.cons 0 (.str []) (.cons 0 (.int .i64 24) .nil))),[])) (cond (decide (t2 ≥ (4 : Int))) (some ((.tup (.cons 0 (.str []) (.cons 0 (.int .i64 24) .nil))),[])) (kf152j4 (t0,t2,t3))))
theorem f152_4_eq (F : Nat) (Rf152j4 : St → Rz) : ∀ v,XAf152 F (bp Tryd.f15 30) (ef152j3 v) (kSeq (kc VG0315 Rf152j4 sp58) Kf67) = f152_4 F (Rf152j4 ∘ ef152j4) v := by
 rintro ⟨t0,t2,t3⟩; kernel_rfl
def f152_5 (F : Nat) (kf152j5 : Ty34 → Rz) : Ty34 → Rz := fun (t0,t2,t3) => (cond (decide ((↑t3.length : Int) > (1048576 : Int))) (some ((.tup (.cons 0 (.str []) (.cons 0 (.int .i64 4) .nil))),[])) (kf152j5 (t0,t2,t3)))
theorem f152_5_eq (F : Nat) (Rf152j5 : St → Rz) : ∀ v,XAf152 F (bp Tryd.f15 62) (ef152j4 v) (kSeq (kc VG0315 Rf152j5 sp58) Kf67) = f152_5 F (Rf152j5 ∘ ef152j5) v := by
 rintro ⟨t0,t2,t3⟩; kernel_rfl
def f152_6 (F : Nat) (kf152j6 : Ty78 → Rz) : Ty34 → Rz := fun (t0,t2,t3) => (cond (decide (t0.length < 1073730000)) (kf152j6 (t0,t2,t3,4,2,1,(Sg.lvl t0 4 0),(Sg.lvl t0 2 1),(Sg.lvl t0 1 2))) none)
theorem f152_6_eq (F : Nat) (Rf152j6 : St → Rz) : ∀ v,XAf152 F (bp Tryd.f15 126) (ef152j5 v) (kSeq (kc VG0315 Rf152j6 sp94) Kf67) = f152_6 F (Rf152j6 ∘ ef152j6) v := by
 rintro ⟨t0,t2,t3⟩; kernel_rfl
def f152_7 (F : Nat) (kf152j7 : Ty78 → Rz) : Ty78 → Rz := fun (t0,t2,t3,x4,x5,x6,x7,x8,x9) => (cond (decide ((0 : Int) < (↑x6 : Int))) (cond (decide (t3.length < 1073730000)) (kf152j7 (t0,t2,(Sg.digits (Sg.digest (x9.take 16) t2 t3)),x4,x5,x6,x7,x8,x9)) none) none)
theorem f152_7_eq (F : Nat) (Rf152j7 : St → Rz) : ∀ v,XAf152 F (bp Tryd.f15 254) (ef152j6 v) (kSeq (kc VG0315 Rf152j7 sp95) Kf67) = f152_7 F (Rf152j7 ∘ ef152j7) v := by
 rintro ⟨t0,t2,t3,x4,x5,x6,x7,x8,x9⟩; kernel_rfl
def f152_8 (F : Nat) (kf152j8 : Ty79 → Rz) : Ty78 → Rz := fun (t0,t2,t12,x4,x5,x6,x7,x8,x9) => (kf152j8 (t0,t2,t12,(Wire.int t2),x4,x5,x6,x7,x8,x9))
theorem f152_8_eq (F : Nat) (Rf152j8 : St → Rz) : ∀ v,XAf152 F (bp Tryd.f15 510) (ef152j7 v) (kSeq (kc VG0315 Rf152j8 sp96) Kf67) = f152_8 F (Rf152j8 ∘ ef152j8) v := by
 rintro ⟨t0,t2,t12,x4,x5,x6,x7,x8,x9⟩; kernel_rfl
def f152_9 (F : Nat) (kf152j9 : Ty80 → Rz) (kf152j10 : Ty81 → Rz) : Ty79 → Rz := fun (t0,t2,t12,t13,x5,x6,x7,x8,x9,x10) => (kf152j9 (t0,t2,t12,t13,(0 : Int),x5,x6,x7,x8,x9,x10))
theorem f152_9_eq (F : Nat) (Rf152j9 : St → Rz) (Rf152j10 : St → Rz) : ∀ v,XAf152 F (bp Tryd.f15 2044) (ef152j8 v) (kSeq (kc VG0315 Rf152j9 sp93) (kSeq (kc VG0315 Rf152j10 sp97) Kf67)) = f152_9 F (Rf152j9 ∘ ef152j9) (Rf152j10 ∘ ef152j10) v := by
 rintro ⟨t0,t2,t12,t13,x5,x6,x7,x8,x9,x10⟩; kernel_rfl
def f152_10 (F : Nat) (kf152l1 : Ty80 → Rz) (kf152j10 : Ty81 → Rz) : Ty80 → Rz := fun (t0,t2,t12,t13,t14,x6,x7,x8,x9,x10,x11) => (cond (decide (t14 < (68 : Int))) (cond ((decide (0 ≤ t14)) && (decide (t14 < (↑t12.length : Int)))) (cond (decide (t0.length < 1073730000)) (cond (decide ((t12.getD (Int.toNat t14) 0) ≤ 3)) (cond (decide ((t13.length + (Sg.adv t2 t14 (0 : Int) (Int.toNat ((t12.getD (Int.toNat t14) 0) - (0 : Int))) (Sg.start t0 t2 t14)).length) < 4611686018427387904)) (kf152l1 (t0,t2,t12,(t13 ++ (Sg.adv t2 t14 (0 : Int) (Int.toNat ((t12.getD (Int.toNat t14) 0) - (0 : Int))) (Sg.start t0 t2 t14))),(IntKind.i64.wrap (t14 + (1 : Int))),x6,x7,x8,x9,x10,x11)) none) none) none) none) (kf152j10 (t2,t13,x6,x7,x8,x9,x10,x11)))
theorem f152_10_eq (F : Nat) (Rf152l1 : St → Rz) (Rf152j10 : St → Rz) : ∀ v,XAf152 F (bp Tryd.f15 8180) (ef152l1 v) (kSeq (kc VG0315 Rf152l1 sp93) (kBlock 0 (kSeq (kc VG0315 Rf152j10 sp97) Kf67))) = f152_10 F (Rf152l1 ∘ ef152l1) (Rf152j10 ∘ ef152j10) v := by
 rintro ⟨t0,t2,t12,t13,t14,x6,x7,x8,x9,x10,x11⟩; kernel_rfl
def f152_11_i : Ty80 → Li × Int × Li × Li × Int × Nat × Nat × Nat × Li × Li × Li := fun (t0,t2,t12,t13,t14,x6,x7,x8,x9,x10,x11) => (t0,t2,t12,t13,t14,x6,x7,x8,x9,x10,x11)
def f152_11 (F : Nat) (kf152j10 : Ty81 → Rz) : Ty80 → Rz := fun v => loopN (fun k => f152_10 F k kf152j10) (F + 8) (f152_11_i v)
theorem f152_11_eq (F : Nat) (Rf152j10 : St → Rz) : ∀ v,XAf152 F (bp Tryd.f15 4090) (ef152j9 v) (kBlock 0 (kSeq (kc VG0315 Rf152j10 sp97) Kf67)) = f152_11 F (Rf152j10 ∘ ef152j10) v :=
 loop_cut (by kernel_rfl) (by kernel_rfl) ef152j9 ef152l1 _ f152_11_i (fun k => f152_10 F k (Rf152j10 ∘ ef152j10))
  (by rintro ⟨t0,t2,t12,t13,t14,x6,x7,x8,x9,x10,x11⟩; kernel_rfl) (fun Rf152l1 => f152_10_eq F Rf152l1 Rf152j10)
def f152_12 (F : Nat) (kf152j10 : Ty81 → Rz) : Ty80 → Rz := f152_11 F kf152j10
theorem f152_12_eq (F : Nat) (Rf152j10 : St → Rz) : ∀ v,XAf152 F (bp Tryd.f15 2045) (ef152j9 v) (kSeq (kc VG0315 Rf152j10 sp97) Kf67) = f152_12 F (Rf152j10 ∘ ef152j10) v := fun v =>
 (block_in  (by kernel_rfl) _ _).trans (f152_11_eq F Rf152j10 v)
def f152_13 (F : Nat) (kf152j10 : Ty81 → Rz) : Ty79 → Rz := fun v => f152_9 F (f152_12 F kf152j10) kf152j10 v
theorem f152_13_eq (F : Nat) (Rf152j10 : St → Rz) : ∀ v,XAf152 F (bp Tryd.f15 1022) (ef152j8 v) (kSeq (kc VG0315 Rf152j10 sp97) Kf67) = f152_13 F (Rf152j10 ∘ ef152j10) v :=
 seq_cut (by kernel_rfl) (by kernel_rfl) ef152j8 ef152j9 _ (fun k => f152_9 F k (Rf152j10 ∘ ef152j10)) (f152_12 F (Rf152j10 ∘ ef152j10))
  (fun Rf152j9 => f152_9_eq F Rf152j9 Rf152j10) (f152_12_eq F Rf152j10)
def f152_14 (F : Nat) : Ty81 → Rz := fun (t2,t13,x3,x4,x5,x6,x7,x8) => (cond ((Int.tmod t2 (2 : Int)) == (1 : Int)) (cond ((decide (0 ≤ (IntKind.i64.wrap (t2 - (1 : Int))))) && (decide ((IntKind.i64.wrap (t2 - (1 : Int))) < (↑x3 : Int)))) (cond (decide ((t13.length + ((x6.drop ((Int.toNat (IntKind.i64.wrap (t2 - (1 : Int)))) * 16)).take 16).length) < 4611686018427387904)) (cond ((Int.tmod (IntKind.i64.wrap (Int.tdiv t2 (2 : Int))) (2 : Int)) == (1 : Int)) (cond ((decide (0 ≤ (IntKind.i64.wrap ((IntKind.i64.wrap (Int.tdiv t2 (2 : Int))) - (1 : Int))))) && (decide ((IntKind.i64.wrap ((IntKind.i64.wrap (Int.tdiv t2 (2 : Int))) - (1 : Int))) < (↑x4 : Int)))) (cond (decide (((t13 ++ ((x6.drop ((Int.toNat (IntKind.i64.wrap (t2 - (1 : Int)))) * 16)).take 16)).length + ((x7.drop ((Int.toNat (IntKind.i64.wrap ((IntKind.i64.wrap (Int.tdiv t2 (2 : Int))) - (1 : Int)))) * 16)).take 16).length) < 4611686018427387904)) (some ((.tup (.cons 0 (.str ((t13 ++ ((x6.drop ((Int.toNat (IntKind.i64.wrap (t2 - (1 : Int)))) * 16)).take 16)) ++ ((x7.drop ((Int.toNat (IntKind.i64.wrap ((IntKind.i64.wrap (Int.tdiv t2 (2 : Int))) - (1 : Int)))) * 16)).take 16))) (.cons 0 (.int .i64 0) .nil))),[])) none) none) (cond ((decide (0 ≤ (IntKind.i64.wrap ((IntKind.i64.wrap (Int.tdiv t2 (2 : Int))) + (1 : Int))))) && (decide ((IntKind.i64.wrap ((IntKind.i64.wrap (Int.tdiv t2 (2 : Int))) + (1 : Int))) < (↑x4 : Int)))) (cond (decide (((t13 ++ ((x6.drop ((Int.toNat (IntKind.i64.wrap (t2 - (1 : Int)))) * 16)).take 16)).length + ((x7.drop ((Int.toNat (IntKind.i64.wrap ((IntKind.i64.wrap (Int.tdiv t2 (2 : Int))) + (1 : Int)))) * 16)).take 16).length) < 4611686018427387904)) (some ((.tup (.cons 0 (.str ((t13 ++ ((x6.drop ((Int.toNat (IntKind.i64.wrap (t2 - (1 : Int)))) * 16)).take 16)) ++ ((x7.drop ((Int.toNat (IntKind.i64.wrap ((IntKind.i64.wrap (Int.tdiv t2 (2 : Int))) + (1 : Int)))) * 16)).take 16))) (.cons 0 (.int .i64 0) .nil))),[])) none) none)) none) none) (cond ((decide (0 ≤ (IntKind.i64.wrap (t2 + (1 : Int))))) && (decide ((IntKind.i64.wrap (t2 + (1 : Int))) < (↑x3 : Int)))) (cond (decide ((t13.length + ((x6.drop ((Int.toNat (IntKind.i64.wrap (t2 + (1 : Int)))) * 16)).take 16).length) < 4611686018427387904)) (cond ((Int.tmod (IntKind.i64.wrap (Int.tdiv t2 (2 : Int))) (2 : Int)) == (1 : Int)) (cond ((decide (0 ≤ (IntKind.i64.wrap ((IntKind.i64.wrap (Int.tdiv t2 (2 : Int))) - (1 : Int))))) && (decide ((IntKind.i64.wrap ((IntKind.i64.wrap (Int.tdiv t2 (2 : Int))) - (1 : Int))) < (↑x4 : Int)))) (cond (decide (((t13 ++ ((x6.drop ((Int.toNat (IntKind.i64.wrap (t2 + (1 : Int)))) * 16)).take 16)).length + ((x7.drop ((Int.toNat (IntKind.i64.wrap ((IntKind.i64.wrap (Int.tdiv t2 (2 : Int))) - (1 : Int)))) * 16)).take 16).length) < 4611686018427387904)) (some ((.tup (.cons 0 (.str ((t13 ++ ((x6.drop ((Int.toNat (IntKind.i64.wrap (t2 + (1 : Int)))) * 16)).take 16)) ++ ((x7.drop ((Int.toNat (IntKind.i64.wrap ((IntKind.i64.wrap (Int.tdiv t2 (2 : Int))) - (1 : Int)))) * 16)).take 16))) (.cons 0 (.int .i64 0) .nil))),[])) none) none) (cond ((decide (0 ≤ (IntKind.i64.wrap ((IntKind.i64.wrap (Int.tdiv t2 (2 : Int))) + (1 : Int))))) && (decide ((IntKind.i64.wrap ((IntKind.i64.wrap (Int.tdiv t2 (2 : Int))) + (1 : Int))) < (↑x4 : Int)))) (cond (decide (((t13 ++ ((x6.drop ((Int.toNat (IntKind.i64.wrap (t2 + (1 : Int)))) * 16)).take 16)).length + ((x7.drop ((Int.toNat (IntKind.i64.wrap ((IntKind.i64.wrap (Int.tdiv t2 (2 : Int))) + (1 : Int)))) * 16)).take 16).length) < 4611686018427387904)) (some ((.tup (.cons 0 (.str ((t13 ++ ((x6.drop ((Int.toNat (IntKind.i64.wrap (t2 + (1 : Int)))) * 16)).take 16)) ++ ((x7.drop ((Int.toNat (IntKind.i64.wrap ((IntKind.i64.wrap (Int.tdiv t2 (2 : Int))) + (1 : Int)))) * 16)).take 16))) (.cons 0 (.int .i64 0) .nil))),[])) none) none)) none) none))
theorem f152_14_eq (F : Nat) : ∀ v,XAf152 F (bp Tryd.f15 1023) (ef152j10 v) Kf67 = f152_14 F v := by
 rintro ⟨t2,t13,x3,x4,x5,x6,x7,x8⟩; kernel_rfl
def f152_15 (F : Nat) : Ty79 → Rz := fun v => f152_13 F (f152_14 F) v
theorem f152_15_eq (F : Nat) : ∀ v,XAf152 F (bp Tryd.f15 511) (ef152j8 v) Kf67 = f152_15 F v :=
 seq_cut (by kernel_rfl) (by kernel_rfl) ef152j8 ef152j10 _ (fun k => f152_13 F k) (f152_14 F)
  (fun Rf152j10 => f152_13_eq F Rf152j10) (f152_14_eq F)
def f152_16 (F : Nat) : Ty78 → Rz := fun v => f152_8 F (f152_15 F) v
theorem f152_16_eq (F : Nat) : ∀ v,XAf152 F (bp Tryd.f15 255) (ef152j7 v) Kf67 = f152_16 F v :=
 seq_cut (by kernel_rfl) (by kernel_rfl) ef152j7 ef152j8 _ (fun k => f152_8 F k) (f152_15 F)
  (fun Rf152j8 => f152_8_eq F Rf152j8) (f152_15_eq F)
def f152_17 (F : Nat) : Ty78 → Rz := fun v => f152_7 F (f152_16 F) v
theorem f152_17_eq (F : Nat) : ∀ v,XAf152 F (bp Tryd.f15 127) (ef152j6 v) Kf67 = f152_17 F v :=
 seq_cut (by kernel_rfl) (by kernel_rfl) ef152j6 ef152j7 _ (fun k => f152_7 F k) (f152_16 F)
  (fun Rf152j7 => f152_7_eq F Rf152j7) (f152_16_eq F)
def f152_18 (F : Nat) : Ty34 → Rz := fun v => f152_6 F (f152_17 F) v
theorem f152_18_eq (F : Nat) : ∀ v,XAf152 F (bp Tryd.f15 63) (ef152j5 v) Kf67 = f152_18 F v :=
 seq_cut (by kernel_rfl) (by kernel_rfl) ef152j5 ef152j6 _ (fun k => f152_6 F k) (f152_17 F)
  (fun Rf152j6 => f152_6_eq F Rf152j6) (f152_17_eq F)
def f152_19 (F : Nat) : Ty34 → Rz := fun v => f152_5 F (f152_18 F) v
theorem f152_19_eq (F : Nat) : ∀ v,XAf152 F (bp Tryd.f15 31) (ef152j4 v) Kf67 = f152_19 F v :=
 seq_cut (by kernel_rfl) (by kernel_rfl) ef152j4 ef152j5 _ (fun k => f152_5 F k) (f152_18 F)
  (fun Rf152j5 => f152_5_eq F Rf152j5) (f152_18_eq F)
def f152_20 (F : Nat) : Ty34 → Rz := fun v => f152_4 F (f152_19 F) v
theorem f152_20_eq (F : Nat) : ∀ v,XAf152 F (bp Tryd.f15 15) (ef152j3 v) Kf67 = f152_20 F v :=
 seq_cut (by kernel_rfl) (by kernel_rfl) ef152j3 ef152j4 _ (fun k => f152_4 F k) (f152_19 F)
  (fun Rf152j4 => f152_4_eq F Rf152j4) (f152_19_eq F)
def f152_21 (F : Nat) : Ty69 → Rz := fun v => f152_3 F (f152_20 F) v
theorem f152_21_eq (F : Nat) : ∀ v,XAf152 F (bp Tryd.f15 7) (ef152j2 v) Kf67 = f152_21 F v :=
 seq_cut (by kernel_rfl) (by kernel_rfl) ef152j2 ef152j3 _ (fun k => f152_3 F k) (f152_20 F)
  (fun Rf152j3 => f152_3_eq F Rf152j3) (f152_20_eq F)
def f152_22 (F : Nat) : Ty34 → Rz := fun v => f152_2 F (f152_21 F) v
theorem f152_22_eq (F : Nat) : ∀ v,XAf152 F (bp Tryd.f15 3) (ef152j1 v) Kf67 = f152_22 F v :=
 seq_cut (by kernel_rfl) (by kernel_rfl) ef152j1 ef152j2 _ (fun k => f152_2 F k) (f152_21 F)
  (fun Rf152j2 => f152_2_eq F Rf152j2) (f152_21_eq F)
def f152_23 (F : Nat) : Ty34 → Rz := fun v => f152_1 F (f152_22 F) v
theorem f152_23_eq (F : Nat) : ∀ v,XAf152 F (sub (bodyOf Tryd.f15) []) (ef152_a v) Kf67 = f152_23 F v :=
 seq_cut (by kernel_rfl) (by kernel_rfl) ef152_a ef152j1 _ (fun k => f152_1 F k) (f152_22 F)
  (fun Rf152j1 => f152_1_eq F Rf152j1) (f152_22_eq F)
def f152 (F : Nat) : Ty34 → Rz := f152_23 F
theorem f152_body (F : Nat) (a0 : List Int) (a2 : Int) (a3 : List Int) : abody VG0315 (Af152 F) Tryd.f15 [(.str a0),.int .i64 2,.int .i64 a2,.str a3] [] = f152 F (a0,a2,a3) :=
 (abody_in (c := (sub (bodyOf Tryd.f15) [])) (by kernel_rfl) (s := ef152_a (a0,a2,a3)) (by kernel_rfl)).trans (f152_23_eq F (a0,a2,a3))
def r15 : CRun := fun X H => match X,H with
 | [(.str a0),.int .i64 0,.int .i64 a2,.str a3],[] => some ((decide (a3.length < 1073730000)),(.tup (.cons 0 (.str (Sg.sign a0 0 a2 a3).1) (.cons 0 (.int .i64 (Sg.sign a0 0 a2 a3).2) .nil))),[])
 | [(.str a0),.int .i64 1,.int .i64 a2,.str a3],[] => some ((decide (a3.length < 1073730000)),(.tup (.cons 0 (.str (Sg.sign a0 1 a2 a3).1) (.cons 0 (.int .i64 (Sg.sign a0 1 a2 a3).2) .nil))),[])
 | [(.str a0),.int .i64 2,.int .i64 a2,.str a3],[] => some ((decide (a3.length < 1073730000)),(.tup (.cons 0 (.str (Sg.sign a0 2 a2 a3).1) (.cons 0 (.int .i64 (Sg.sign a0 2 a2 a3).2) .nil))),[])
 | _,_ => none
theorem s150 (a0 : List Int) (a2 : Int) (a3 : List Int) (hp : ((decide (a3.length < 1073730000))) = true) (h0 : okV (.str a0)) (h1 : okV (.int .i64 0)) (h2 : okV (.int .i64 a2)) (h3 : okV (.str a3)) : ∃ F,f150 F (a0,a2,a3) = some ((.tup (.cons 0 (.str (Sg.sign a0 0 a2 a3).1) (.cons 0 (.int .i64 (Sg.sign a0 0 a2 a3).2) .nil))),[]) := by
 have hp' := of_decide_eq_true hp
 obtain ⟨F,hF⟩ : ∃ F,100 < F := ⟨101,by decide⟩
 refine ⟨F,?_⟩
 simp only [f150_1,f150_2,f150_3,f150_4,f150_5,f150_6,f150_7,f150_8,f150_9,f150_11_i,f150_11,f150_12,f150_13,f150_15,f150_16,f150_17,f150_18,f150_19,f150_20,f150_21,f150_22,f150_23,f150,f151_1,f151_2,f151_3,f151_4,f151_5,f151_6,f151_7,f151_8,f151_9,f151_11_i,f151_11,f151_12,f151_13,f151_15,f151_16,f151_17,f151_18,f151_19,f151_20,f151_21,f151_22,f151_23,f151,f152_1,f152_2,f152_3,f152_4,f152_5,f152_6,f152_7,f152_8,f152_9,f152_11_i,f152_11,f152_12,f152_13,f152_15,f152_16,f152_17,f152_18,f152_19,f152_20,f152_21,f152_22,f152_23,f152,dec_and,dec_not,ge_iff_le,gt_iff_lt]
 by_cases hl : a0.length = 32
 case neg =>
  rw [cond_pos (by omega),Sg.sign_out (.inl hl)]
 rw [cond_neg (by omega)]
 by_cases hi : a2 < 0
 ·rw [cond_pos hi]
  have e : Sg.sign a0 0 a2 a3 = ([],24) := by rw [Sg.sign,if_neg (by omega),if_pos (.inl hi)]
  rw [e]
 rw [cond_neg hi]
 by_cases hi2 : 1 ≤ a2
 ·rw [cond_pos hi2]
  have e : Sg.sign a0 0 a2 a3 = ([],24) := by rw [Sg.sign,if_neg (by omega),if_pos (.inr (show (2 : Int) ^ 0 ≤ a2 by omega))]
  rw [e]
 rw [cond_neg hi2]
 by_cases hm : 1048576 < (a3.length : Int)
 ·rw [cond_pos hm]
  have e : Sg.sign a0 0 a2 a3 = ([],4) := by rw [Sg.sign,if_neg (by omega),if_neg (fun h => h.elim hi (fun h => hi2 (show (1 : Int) ≤ a2 from h))),if_pos (by omega)]
  rw [e]
 rw [cond_neg hm,show Sg.sign a0 0 a2 a3 = (Wire.int a2 ++ Sg.body a0 a2 (Sg.digits (Sg.digest (Sg.nd a0 0 0) a2 a3)) ++ Sg.path a0 a2 0,0) from Sg.sign_is 0 rfl hl (by omega) (by omega) (by omega) (by omega)]
 have hint := Sg.int_le a2
 rw [cond_pos (by omega),cond_pos (by decide),cond_pos (by omega),Sg.lvl_top]
 generalize hD : Sg.digits (Sg.digest (Sg.nd a0 0 0) a2 a3) = D
 have hDl : D.length = 68 := by rw [← hD]; exact Sg.digits_len _
 have hDg : ∀ c,0 ≤ D.getD c 0 ∧ D.getD c 0 ≤ 3 := fun c => by rw [← hD]; exact Sg.digits_get _ c
 have hpl : ∀ c,(Sg.part a0 a2 D c).length = 16 := fun c => Sg.part_len a0 a2 D c
 have hbl : ∀ m : Nat,((List.range m).flatMap (Sg.part a0 a2 D)).length = 16 * m := fun m => Sg.flat_len _ m fun i _ => hpl i
 refine loopN_from (fun i => (a0,a2,D,Wire.int a2 ++ (List.range i).flatMap (Sg.part a0 a2 D),(i : Int),1,(Sg.lvl a0 1 0))) 68 (by simp) (fun i hi' k => ?_) (fun k => ?_) _ (by omega)
 ·have h5 := hDg i
  have h6 := hbl i
  have h7 := hpl i
  have e1 : Sg.adv a2 (i : Int) 0 (Int.toNat (D.getD i 0 - 0)) (Sg.start a0 a2 (i : Int)) = Sg.part a0 a2 D i := by
   rw [Int.sub_zero]; rfl
  have e2 : (Sg.adv a2 (i : Int) 0 (Int.toNat (D.getD i 0 - 0)) (Sg.start a0 a2 (i : Int))).length = 16 := by rw [e1]; exact h7
  simp only [f150_10,dec_and,Int.toNat_natCast]
  rw [cond_pos (by omega),cond_pos (by omega),cond_pos (by omega),cond_pos (by omega),cond_pos (by rw [List.length_append,e2]; omega),e1,i64w (by omega) (by omega),Sg.flat_succ,List.append_assoc]
  rfl
 ·have h6 := hbl 68
  simp only [f150_10,dec_and]
  rw [cond_neg (by omega)]
  have hX : (Wire.int a2 ++ (List.range 68).flatMap (Sg.part a0 a2 D)).length ≤ 1097 := by rw [List.length_append]; omega
  have eB : Sg.body a0 a2 D = (List.range 68).flatMap (Sg.part a0 a2 D) := rfl
  rw [eB]
  generalize hXX : Wire.int a2 ++ (List.range 68).flatMap (Sg.part a0 a2 D) = X at hX
  have hi0 : a2 = 0 := by omega
  simp only [f150_14]
  rw [show Sg.path a0 a2 0 = [] from rfl,List.append_nil]
theorem s151 (a0 : List Int) (a2 : Int) (a3 : List Int) (hp : ((decide (a3.length < 1073730000))) = true) (h0 : okV (.str a0)) (h1 : okV (.int .i64 1)) (h2 : okV (.int .i64 a2)) (h3 : okV (.str a3)) : ∃ F,f151 F (a0,a2,a3) = some ((.tup (.cons 0 (.str (Sg.sign a0 1 a2 a3).1) (.cons 0 (.int .i64 (Sg.sign a0 1 a2 a3).2) .nil))),[]) := by
 have hp' := of_decide_eq_true hp
 obtain ⟨F,hF⟩ : ∃ F,100 < F := ⟨101,by decide⟩
 refine ⟨F,?_⟩
 simp only [f150_1,f150_2,f150_3,f150_4,f150_5,f150_6,f150_7,f150_8,f150_9,f150_11_i,f150_11,f150_12,f150_13,f150_15,f150_16,f150_17,f150_18,f150_19,f150_20,f150_21,f150_22,f150_23,f150,f151_1,f151_2,f151_3,f151_4,f151_5,f151_6,f151_7,f151_8,f151_9,f151_11_i,f151_11,f151_12,f151_13,f151_15,f151_16,f151_17,f151_18,f151_19,f151_20,f151_21,f151_22,f151_23,f151,f152_1,f152_2,f152_3,f152_4,f152_5,f152_6,f152_7,f152_8,f152_9,f152_11_i,f152_11,f152_12,f152_13,f152_15,f152_16,f152_17,f152_18,f152_19,f152_20,f152_21,f152_22,f152_23,f152,dec_and,dec_not,ge_iff_le,gt_iff_lt]
 by_cases hl : a0.length = 32
 case neg =>
  rw [cond_pos (by omega),Sg.sign_out (.inl hl)]
 rw [cond_neg (by omega)]
 by_cases hi : a2 < 0
 ·rw [cond_pos hi]
  have e : Sg.sign a0 1 a2 a3 = ([],24) := by rw [Sg.sign,if_neg (by omega),if_pos (.inl hi)]
  rw [e]
 rw [cond_neg hi]
 by_cases hi2 : 2 ≤ a2
 ·rw [cond_pos hi2]
  have e : Sg.sign a0 1 a2 a3 = ([],24) := by rw [Sg.sign,if_neg (by omega),if_pos (.inr (show (2 : Int) ^ 1 ≤ a2 by omega))]
  rw [e]
 rw [cond_neg hi2]
 by_cases hm : 1048576 < (a3.length : Int)
 ·rw [cond_pos hm]
  have e : Sg.sign a0 1 a2 a3 = ([],4) := by rw [Sg.sign,if_neg (by omega),if_neg (fun h => h.elim hi (fun h => hi2 (show (2 : Int) ≤ a2 from h))),if_pos (by omega)]
  rw [e]
 rw [cond_neg hm,show Sg.sign a0 1 a2 a3 = (Wire.int a2 ++ Sg.body a0 a2 (Sg.digits (Sg.digest (Sg.nd a0 1 0) a2 a3)) ++ Sg.path a0 a2 1,0) from Sg.sign_is 1 rfl hl (by omega) (by omega) (by omega) (by omega)]
 have hint := Sg.int_le a2
 rw [cond_pos (by omega),cond_pos (by decide),cond_pos (by omega),Sg.lvl_top]
 generalize hD : Sg.digits (Sg.digest (Sg.nd a0 1 0) a2 a3) = D
 have hDl : D.length = 68 := by rw [← hD]; exact Sg.digits_len _
 have hDg : ∀ c,0 ≤ D.getD c 0 ∧ D.getD c 0 ≤ 3 := fun c => by rw [← hD]; exact Sg.digits_get _ c
 have hpl : ∀ c,(Sg.part a0 a2 D c).length = 16 := fun c => Sg.part_len a0 a2 D c
 have hbl : ∀ m : Nat,((List.range m).flatMap (Sg.part a0 a2 D)).length = 16 * m := fun m => Sg.flat_len _ m fun i _ => hpl i
 refine loopN_from (fun i => (a0,a2,D,Wire.int a2 ++ (List.range i).flatMap (Sg.part a0 a2 D),(i : Int),2,1,(Sg.lvl a0 2 0),(Sg.lvl a0 1 1))) 68 (by simp) (fun i hi' k => ?_) (fun k => ?_) _ (by omega)
 ·have h5 := hDg i
  have h6 := hbl i
  have h7 := hpl i
  have e1 : Sg.adv a2 (i : Int) 0 (Int.toNat (D.getD i 0 - 0)) (Sg.start a0 a2 (i : Int)) = Sg.part a0 a2 D i := by
   rw [Int.sub_zero]; rfl
  have e2 : (Sg.adv a2 (i : Int) 0 (Int.toNat (D.getD i 0 - 0)) (Sg.start a0 a2 (i : Int))).length = 16 := by rw [e1]; exact h7
  simp only [f151_10,dec_and,Int.toNat_natCast]
  rw [cond_pos (by omega),cond_pos (by omega),cond_pos (by omega),cond_pos (by omega),cond_pos (by rw [List.length_append,e2]; omega),e1,i64w (by omega) (by omega),Sg.flat_succ,List.append_assoc]
  rfl
 ·have h6 := hbl 68
  simp only [f151_10,dec_and]
  rw [cond_neg (by omega)]
  have hX : (Wire.int a2 ++ (List.range 68).flatMap (Sg.part a0 a2 D)).length ≤ 1097 := by rw [List.length_append]; omega
  have eB : Sg.body a0 a2 D = (List.range 68).flatMap (Sg.part a0 a2 D) := rfl
  rw [eB]
  generalize hXX : Wire.int a2 ++ (List.range 68).flatMap (Sg.part a0 a2 D) = X at hX
  obtain ⟨i2,rfl⟩ := Int.eq_ofNat_of_zero_le (show 0 ≤ a2 by omega)
  have hi3 : i2 = 0 ∨ i2 = 1 := by omega
  rcases hi3 with rfl | rfl
  ·have ek : f151_14 F (((0 : Nat) : Int),X,2,1,(Sg.lvl a0 2 0),(Sg.lvl a0 1 1)) = cond (decide ((X).length + (((Sg.lvl a0 2 0).drop 16).take 16).length < 4611686018427387904)) (some ((.tup (.cons 0 (.str (X ++ (((Sg.lvl a0 2 0).drop 16).take 16))) (.cons 0 (.int .i64 0) .nil))),[])) none := by kernel_rfl
   have ep : Sg.path a0 ((0 : Nat) : Int) 1 = Sg.nd a0 0 1 := by simp [Sg.path,Sg.sib,List.range_succ]
   have ev0 : ((Sg.lvl a0 2 0).drop 16).take 16 = Sg.nd a0 0 1 := Sg.lvl_at (s := a0) (n := 2) (l := 0) (k := 1) (by omega)
   have en0 := Sg.nd_len a0 0 1
   rw [ek,ep,ev0,cond_pos (by omega)]
  ·have ek : f151_14 F (((1 : Nat) : Int),X,2,1,(Sg.lvl a0 2 0),(Sg.lvl a0 1 1)) = cond (decide ((X).length + (((Sg.lvl a0 2 0).drop 0).take 16).length < 4611686018427387904)) (some ((.tup (.cons 0 (.str (X ++ (((Sg.lvl a0 2 0).drop 0).take 16))) (.cons 0 (.int .i64 0) .nil))),[])) none := by kernel_rfl
   have ep : Sg.path a0 ((1 : Nat) : Int) 1 = Sg.nd a0 0 0 := by simp [Sg.path,Sg.sib,List.range_succ]
   have ev0 : ((Sg.lvl a0 2 0).drop 0).take 16 = Sg.nd a0 0 0 := Sg.lvl_at (s := a0) (n := 2) (l := 0) (k := 0) (by omega)
   have en0 := Sg.nd_len a0 0 0
   rw [ek,ep,ev0,cond_pos (by omega)]
theorem s152 (a0 : List Int) (a2 : Int) (a3 : List Int) (hp : ((decide (a3.length < 1073730000))) = true) (h0 : okV (.str a0)) (h1 : okV (.int .i64 2)) (h2 : okV (.int .i64 a2)) (h3 : okV (.str a3)) : ∃ F,f152 F (a0,a2,a3) = some ((.tup (.cons 0 (.str (Sg.sign a0 2 a2 a3).1) (.cons 0 (.int .i64 (Sg.sign a0 2 a2 a3).2) .nil))),[]) := by
 have hp' := of_decide_eq_true hp
 obtain ⟨F,hF⟩ : ∃ F,100 < F := ⟨101,by decide⟩
 refine ⟨F,?_⟩
 simp only [f150_1,f150_2,f150_3,f150_4,f150_5,f150_6,f150_7,f150_8,f150_9,f150_11_i,f150_11,f150_12,f150_13,f150_15,f150_16,f150_17,f150_18,f150_19,f150_20,f150_21,f150_22,f150_23,f150,f151_1,f151_2,f151_3,f151_4,f151_5,f151_6,f151_7,f151_8,f151_9,f151_11_i,f151_11,f151_12,f151_13,f151_15,f151_16,f151_17,f151_18,f151_19,f151_20,f151_21,f151_22,f151_23,f151,f152_1,f152_2,f152_3,f152_4,f152_5,f152_6,f152_7,f152_8,f152_9,f152_11_i,f152_11,f152_12,f152_13,f152_15,f152_16,f152_17,f152_18,f152_19,f152_20,f152_21,f152_22,f152_23,f152,dec_and,dec_not,ge_iff_le,gt_iff_lt]
 by_cases hl : a0.length = 32
 case neg =>
  rw [cond_pos (by omega),Sg.sign_out (.inl hl)]
 rw [cond_neg (by omega)]
 by_cases hi : a2 < 0
 ·rw [cond_pos hi]
  have e : Sg.sign a0 2 a2 a3 = ([],24) := by rw [Sg.sign,if_neg (by omega),if_pos (.inl hi)]
  rw [e]
 rw [cond_neg hi]
 by_cases hi2 : 4 ≤ a2
 ·rw [cond_pos hi2]
  have e : Sg.sign a0 2 a2 a3 = ([],24) := by rw [Sg.sign,if_neg (by omega),if_pos (.inr (show (2 : Int) ^ 2 ≤ a2 by omega))]
  rw [e]
 rw [cond_neg hi2]
 by_cases hm : 1048576 < (a3.length : Int)
 ·rw [cond_pos hm]
  have e : Sg.sign a0 2 a2 a3 = ([],4) := by rw [Sg.sign,if_neg (by omega),if_neg (fun h => h.elim hi (fun h => hi2 (show (4 : Int) ≤ a2 from h))),if_pos (by omega)]
  rw [e]
 rw [cond_neg hm,show Sg.sign a0 2 a2 a3 = (Wire.int a2 ++ Sg.body a0 a2 (Sg.digits (Sg.digest (Sg.nd a0 2 0) a2 a3)) ++ Sg.path a0 a2 2,0) from Sg.sign_is 2 rfl hl (by omega) (by omega) (by omega) (by omega)]
 have hint := Sg.int_le a2
 rw [cond_pos (by omega),cond_pos (by decide),cond_pos (by omega),Sg.lvl_top]
 generalize hD : Sg.digits (Sg.digest (Sg.nd a0 2 0) a2 a3) = D
 have hDl : D.length = 68 := by rw [← hD]; exact Sg.digits_len _
 have hDg : ∀ c,0 ≤ D.getD c 0 ∧ D.getD c 0 ≤ 3 := fun c => by rw [← hD]; exact Sg.digits_get _ c
 have hpl : ∀ c,(Sg.part a0 a2 D c).length = 16 := fun c => Sg.part_len a0 a2 D c
 have hbl : ∀ m : Nat,((List.range m).flatMap (Sg.part a0 a2 D)).length = 16 * m := fun m => Sg.flat_len _ m fun i _ => hpl i
 refine loopN_from (fun i => (a0,a2,D,Wire.int a2 ++ (List.range i).flatMap (Sg.part a0 a2 D),(i : Int),4,2,1,(Sg.lvl a0 4 0),(Sg.lvl a0 2 1),(Sg.lvl a0 1 2))) 68 (by simp) (fun i hi' k => ?_) (fun k => ?_) _ (by omega)
 ·have h5 := hDg i
  have h6 := hbl i
  have h7 := hpl i
  have e1 : Sg.adv a2 (i : Int) 0 (Int.toNat (D.getD i 0 - 0)) (Sg.start a0 a2 (i : Int)) = Sg.part a0 a2 D i := by
   rw [Int.sub_zero]; rfl
  have e2 : (Sg.adv a2 (i : Int) 0 (Int.toNat (D.getD i 0 - 0)) (Sg.start a0 a2 (i : Int))).length = 16 := by rw [e1]; exact h7
  simp only [f152_10,dec_and,Int.toNat_natCast]
  rw [cond_pos (by omega),cond_pos (by omega),cond_pos (by omega),cond_pos (by omega),cond_pos (by rw [List.length_append,e2]; omega),e1,i64w (by omega) (by omega),Sg.flat_succ,List.append_assoc]
  rfl
 ·have h6 := hbl 68
  simp only [f152_10,dec_and]
  rw [cond_neg (by omega)]
  have hX : (Wire.int a2 ++ (List.range 68).flatMap (Sg.part a0 a2 D)).length ≤ 1097 := by rw [List.length_append]; omega
  have eB : Sg.body a0 a2 D = (List.range 68).flatMap (Sg.part a0 a2 D) := rfl
  rw [eB]
  generalize hXX : Wire.int a2 ++ (List.range 68).flatMap (Sg.part a0 a2 D) = X at hX
  obtain ⟨i2,rfl⟩ := Int.eq_ofNat_of_zero_le (show 0 ≤ a2 by omega)
  have hi3 : i2 = 0 ∨ i2 = 1 ∨ i2 = 2 ∨ i2 = 3 := by omega
  rcases hi3 with rfl | rfl | rfl | rfl
  ·have ek : f152_14 F (((0 : Nat) : Int),X,4,2,1,(Sg.lvl a0 4 0),(Sg.lvl a0 2 1),(Sg.lvl a0 1 2)) = cond (decide ((X).length + (((Sg.lvl a0 4 0).drop 16).take 16).length < 4611686018427387904)) (cond (decide ((X ++ (((Sg.lvl a0 4 0).drop 16).take 16)).length + (((Sg.lvl a0 2 1).drop 16).take 16).length < 4611686018427387904)) (some ((.tup (.cons 0 (.str (X ++ (((Sg.lvl a0 4 0).drop 16).take 16) ++ (((Sg.lvl a0 2 1).drop 16).take 16))) (.cons 0 (.int .i64 0) .nil))),[])) none) none := by kernel_rfl
   have ep : Sg.path a0 ((0 : Nat) : Int) 2 = Sg.nd a0 0 1 ++ Sg.nd a0 1 1 := by simp [Sg.path,Sg.sib,List.range_succ]
   have ev0 : ((Sg.lvl a0 4 0).drop 16).take 16 = Sg.nd a0 0 1 := Sg.lvl_at (s := a0) (n := 4) (l := 0) (k := 1) (by omega)
   have ev1 : ((Sg.lvl a0 2 1).drop 16).take 16 = Sg.nd a0 1 1 := Sg.lvl_at (s := a0) (n := 2) (l := 1) (k := 1) (by omega)
   have en0 := Sg.nd_len a0 0 1
   have en1 := Sg.nd_len a0 1 1
   rw [ek,ep,ev0,ev1,cond_pos (by omega),cond_pos (by rw [List.length_append]; omega)]
   rw [List.append_assoc]
  ·have ek : f152_14 F (((1 : Nat) : Int),X,4,2,1,(Sg.lvl a0 4 0),(Sg.lvl a0 2 1),(Sg.lvl a0 1 2)) = cond (decide ((X).length + (((Sg.lvl a0 4 0).drop 0).take 16).length < 4611686018427387904)) (cond (decide ((X ++ (((Sg.lvl a0 4 0).drop 0).take 16)).length + (((Sg.lvl a0 2 1).drop 16).take 16).length < 4611686018427387904)) (some ((.tup (.cons 0 (.str (X ++ (((Sg.lvl a0 4 0).drop 0).take 16) ++ (((Sg.lvl a0 2 1).drop 16).take 16))) (.cons 0 (.int .i64 0) .nil))),[])) none) none := by kernel_rfl
   have ep : Sg.path a0 ((1 : Nat) : Int) 2 = Sg.nd a0 0 0 ++ Sg.nd a0 1 1 := by simp [Sg.path,Sg.sib,List.range_succ]
   have ev0 : ((Sg.lvl a0 4 0).drop 0).take 16 = Sg.nd a0 0 0 := Sg.lvl_at (s := a0) (n := 4) (l := 0) (k := 0) (by omega)
   have ev1 : ((Sg.lvl a0 2 1).drop 16).take 16 = Sg.nd a0 1 1 := Sg.lvl_at (s := a0) (n := 2) (l := 1) (k := 1) (by omega)
   have en0 := Sg.nd_len a0 0 0
   have en1 := Sg.nd_len a0 1 1
   rw [ek,ep,ev0,ev1,cond_pos (by omega),cond_pos (by rw [List.length_append]; omega)]
   rw [List.append_assoc]
  ·have ek : f152_14 F (((2 : Nat) : Int),X,4,2,1,(Sg.lvl a0 4 0),(Sg.lvl a0 2 1),(Sg.lvl a0 1 2)) = cond (decide ((X).length + (((Sg.lvl a0 4 0).drop 48).take 16).length < 4611686018427387904)) (cond (decide ((X ++ (((Sg.lvl a0 4 0).drop 48).take 16)).length + (((Sg.lvl a0 2 1).drop 0).take 16).length < 4611686018427387904)) (some ((.tup (.cons 0 (.str (X ++ (((Sg.lvl a0 4 0).drop 48).take 16) ++ (((Sg.lvl a0 2 1).drop 0).take 16))) (.cons 0 (.int .i64 0) .nil))),[])) none) none := by kernel_rfl
   have ep : Sg.path a0 ((2 : Nat) : Int) 2 = Sg.nd a0 0 3 ++ Sg.nd a0 1 0 := by simp [Sg.path,Sg.sib,List.range_succ]
   have ev0 : ((Sg.lvl a0 4 0).drop 48).take 16 = Sg.nd a0 0 3 := Sg.lvl_at (s := a0) (n := 4) (l := 0) (k := 3) (by omega)
   have ev1 : ((Sg.lvl a0 2 1).drop 0).take 16 = Sg.nd a0 1 0 := Sg.lvl_at (s := a0) (n := 2) (l := 1) (k := 0) (by omega)
   have en0 := Sg.nd_len a0 0 3
   have en1 := Sg.nd_len a0 1 0
   rw [ek,ep,ev0,ev1,cond_pos (by omega),cond_pos (by rw [List.length_append]; omega)]
   rw [List.append_assoc]
  ·have ek : f152_14 F (((3 : Nat) : Int),X,4,2,1,(Sg.lvl a0 4 0),(Sg.lvl a0 2 1),(Sg.lvl a0 1 2)) = cond (decide ((X).length + (((Sg.lvl a0 4 0).drop 32).take 16).length < 4611686018427387904)) (cond (decide ((X ++ (((Sg.lvl a0 4 0).drop 32).take 16)).length + (((Sg.lvl a0 2 1).drop 0).take 16).length < 4611686018427387904)) (some ((.tup (.cons 0 (.str (X ++ (((Sg.lvl a0 4 0).drop 32).take 16) ++ (((Sg.lvl a0 2 1).drop 0).take 16))) (.cons 0 (.int .i64 0) .nil))),[])) none) none := by kernel_rfl
   have ep : Sg.path a0 ((3 : Nat) : Int) 2 = Sg.nd a0 0 2 ++ Sg.nd a0 1 0 := by simp [Sg.path,Sg.sib,List.range_succ]
   have ev0 : ((Sg.lvl a0 4 0).drop 32).take 16 = Sg.nd a0 0 2 := Sg.lvl_at (s := a0) (n := 4) (l := 0) (k := 2) (by omega)
   have ev1 : ((Sg.lvl a0 2 1).drop 0).take 16 = Sg.nd a0 1 0 := Sg.lvl_at (s := a0) (n := 2) (l := 1) (k := 0) (by omega)
   have en0 := Sg.nd_len a0 0 2
   have en1 := Sg.nd_len a0 1 0
   rw [ek,ep,ev0,ev1,cond_pos (by omega),cond_pos (by rw [List.length_append]; omega)]
   rw [List.append_assoc]
theorem c15 : CallOk Tryd.prog G03 15 r15 := callOk_of (V := VG0315) mixed tys eVG0315 (f := 15) (fn := Tryd.f15) Tryd.func15 (by kernel_rfl) (c := sub (bodyOf Tryd.f15) []) (by kernel_rfl) (by
 intro X H r H' h hX hH
 unfold r15 at h; split at h <;> try contradiction
 ·simp only [Option.some.injEq,Prod.mk.injEq] at h
  obtain ⟨hp,rfl,rfl⟩ := h
  obtain ⟨F,hF⟩ := s150 _ _ _ hp (hX _ (.head _)) (hX _ (.tail _ (.head _))) (hX _ (.tail _ (.tail _ (.head _)))) (hX _ (.tail _ (.tail _ (.tail _ (.head _)))))
  exact ⟨Af150 F,(f150_body F _ _ _).trans hF⟩
 ·simp only [Option.some.injEq,Prod.mk.injEq] at h
  obtain ⟨hp,rfl,rfl⟩ := h
  obtain ⟨F,hF⟩ := s151 _ _ _ hp (hX _ (.head _)) (hX _ (.tail _ (.head _))) (hX _ (.tail _ (.tail _ (.head _)))) (hX _ (.tail _ (.tail _ (.tail _ (.head _)))))
  exact ⟨Af151 F,(f151_body F _ _ _).trans hF⟩
 ·simp only [Option.some.injEq,Prod.mk.injEq] at h
  obtain ⟨hp,rfl,rfl⟩ := h
  obtain ⟨F,hF⟩ := s152 _ _ _ hp (hX _ (.head _)) (hX _ (.tail _ (.head _))) (hX _ (.tail _ (.tail _ (.head _)))) (hX _ (.tail _ (.tail _ (.tail _ (.head _)))))
  exact ⟨Af152 F,(f152_body F _ _ _).trans hF⟩)
end Go.Am
end