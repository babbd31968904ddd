/- Part of a proof about the functions of the given program. -/
import Derived.Test.YtgdibbphgdkllaaAm38F
import Derived.Test.YtgdibbphgdkllaaAmReg2
set_option linter.unusedVariables false
set_option linter.unusedSimpArgs false
namespace Go.Am
open Go Go.Proofs

/-! gantry/gantrylaw38.lives -/
def lVG3819 : List CEnt := [(15,[some 22,some 3,some 4],r15),(18,[some 3,some 3],r18),(20,[some 3,some 22,none,some 4],r20),(23,[some 22,none,some 4],r23)]
def VG3819 : Env := mkEnv T38 G38 lVG3819
theorem eVG3819 : EOk Try.prog VG3819 := eok_mk (by exact ⟨c15,c18,c20,c23,trivial⟩)
def Af19 (F : Nat) : Cuts := { F := F,at_ := fun _ => none,join := fun _ => none }
def ef19_a : Unit → St := fun _ => { tmps := [],heap := [],next := 0,nt := 77,m := 0 }
def f19_1 (F : Nat) : Unit → Option (AV × List Blk) := fun _ => (cond (decide ([(0 : Int),(1 : Int),(1 : Int)].length < 1073741000)) (cond (decide ([(0 : Int),(1 : Int),(1 : Int)].length < 1073741000)) (cond (decide ([(0 : Int),(1 : Int),(1 : Int)].length < 1073741000)) (cond (decide ([[(0 : Int),(1 : Int),(2 : Int)],[(3 : Int),(4 : Int)],[(5 : Int),(6 : Int)]].length < 20)) (cond ((Reg.own [[(0 : Int),(1 : Int),(2 : Int)]] [(0 : Int),(1 : Int),(1 : Int)] [true,true]).2 != (0 : Int)) (some ((.bool false),[])) (cond ((Reg.own [[(0 : Int),(1 : Int),(2 : Int)]] [(0 : Int),(1 : Int),(1 : Int)] [true,false]).2 != (0 : Int)) (some ((.bool false),[])) (cond ((Reg.take [(0 : Int),(1 : Int),(1 : Int)] [[(0 : Int)],[(1 : Int),(2 : Int)]] (1 : Int) [true,true]).2 != (0 : Int)) (some ((.bool false),[])) (cond ((Reg.even [[(0 : Int),(1 : Int),(2 : Int)],[(3 : Int),(4 : Int)],[(5 : Int),(6 : Int)]] (7 : Int) [true,true]).2 != (0 : Int)) (some ((.bool false),[])) (cond (decide ((Reg.own [[(0 : Int),(1 : Int),(2 : Int)]] [(0 : Int),(1 : Int),(1 : Int)] [true,true]).1 = [(1 : Int),(1 : Int),(1 : Int)])) (cond (decide ((Reg.own [[(0 : Int),(1 : Int),(2 : Int)]] [(0 : Int),(1 : Int),(1 : Int)] [true,false]).1 = [(0 : Int),(0 : Int),(0 : Int)])) (cond (decide ((Reg.take [(0 : Int),(1 : Int),(1 : Int)] [[(0 : Int)],[(1 : Int),(2 : Int)]] (1 : Int) [true,true]).1 = [(0 : Int),(0 : Int),(0 : Int)])) (some ((.bool (decide ((Reg.even [[(0 : Int),(1 : Int),(2 : Int)],[(3 : Int),(4 : Int)],[(5 : Int),(6 : Int)]] (7 : Int) [true,true]).1 = [(0 : Int),(0 : Int),(0 : Int),(1 : Int),(1 : Int),(1 : Int),(1 : Int)]))),[])) (some ((.bool false),[]))) (some ((.bool false),[]))) (some ((.bool false),[]))))))) none) none) none) none)
theorem f19_1_eq (F : Nat) : ∀ v,aexec VG3819 (Af19 F) (sub (bodyOf Try.f19) []) (ef19_a v) (kFin VG3819 none (Try.f19).results.toList) = f19_1 F v := by
  intro _; kernel_rfl
/-- gantry/gantrylaw38.lives -/
def f19 (F : Nat) : Unit → Option (AV × List Blk) := f19_1 F
theorem f19_body (F : Nat)  : abody VG3819 (Af19 F) Try.f19 [] [] = f19 F () :=
  (abody_in (c := (sub (bodyOf Try.f19) [])) (by kernel_rfl) (s := ef19_a ()) (by kernel_rfl)).trans (f19_1_eq F ())
def r19 : CRun := fun X H => match X,H with
  | [],[] => some (true,(.bool true),[])
  | _,_ => none
theorem s19  : ∃ F,f19 F () = some ((.bool true),[]) := ⟨0,by kernel_rfl⟩

theorem c19 : CallOk Try.prog G38 19 r19 := callOk_of (V := VG3819) mixed tys eVG3819 (f := 19) (fn := Try.f19) Try.func19 (by kernel_rfl) (c := sub (bodyOf Try.f19) []) (by kernel_rfl) (by
  intro X H r H' h hX hH
  unfold r19 at h; split at h <;> try contradiction
  · simp only [Option.some.injEq,Prod.mk.injEq] at h
    obtain ⟨hp,rfl,rfl⟩ := h
    obtain ⟨F,hF⟩ := s19
    exact ⟨Af19 F,(f19_body F).trans hF⟩)
end Go.Am
