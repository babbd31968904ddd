/- How the executor is cut into pieces: one lemma for each kind of node. -/
import Derived.Test.YtnbgphghghmemaaAmCore
namespace Go.Am
open Go
variable {α σ τ : Type} {V : Env} {A : Cuts}

theorem seq_cut {c a b : Code} (hc : c = .seq a b) {spec : List (Nat × Md)} (hj : (ckey b).bind A.join = some spec) (eE : σ → St) (eB : τ → St)
    (K : Ex → St → Option α) (Na : (τ → Option α) → σ → Option α) (Nb : τ → Option α)
    (ha : ∀ (R : St → Option α) v, aexec V A a (eE v) (kSeq (fun s => R (cutTo V (some spec) s)) K) = Na (fun w => R (eB w)) v)
    (hb : ∀ w, aexec V A b (eB w) K = Nb w) : ∀ v, aexec V A c (eE v) K = Na Nb v := by
  intro v
  subst hc
  rw [aexec, hj, ha (fun s => aexec V A b s K) v]
  exact congrArg (fun g => Na g v) (funext hb)

theorem seq_in {c a b : Code} (hc : c = .seq a b) (hj : (ckey b).bind A.join = none) (s : St) (K : Ex → St → Option α) :
    aexec V A c s K = aexec V A a s (kSeq (fun s => aexec V A b s K) K) := by
  subst hc
  rw [aexec, hj]
  rfl

theorem block_in {c d : Code} {id : Nat} (hc : c = .block id d) (s : St) (K : Ex → St → Option α) : aexec V A c s K = aexec V A d s (kBlock id K) := by
  subst hc; rfl
theorem scope_in {c d : Code} (hc : c = .scope d) (s : St) (K : Ex → St → Option α) : aexec V A c s K = aexec V A d s K := by
  subst hc; rfl

theorem loop_cut {c d : Code} (hc : c = .loop d) {spec : List (Nat × Md)} (hj : (ckey d).bind A.at_ = some spec) (eE : σ → St) (eL : τ → St)
    (K : Ex → St → Option α) (i : σ → τ) (S : (τ → Option α) → τ → Option α)
    (hi : ∀ v, cutTo V (some spec) (eE v) = eL (i v))
    (hs : ∀ (R : St → Option α) w, aexec V A d (eL w) (kSeq (fun s => R (cutTo V (some spec) s)) K) = S (fun w => R (eL w)) w) :
    ∀ v, aexec V A c (eE v) K = loopN S A.F (i v) := by
  intro v
  subst hc
  rw [aexec, hj, hi]
  generalize A.F = n
  generalize i v = w
  induction n generalizing w with
  | zero => rfl
  | succ n ih =>
    rw [loopN, loopN, hs]
    exact congrArg (fun g => S g w) (funext ih)

theorem cond_in {c x y : Code} {o : Operand} (hc : c = .cond o x y) (eE : σ → St) (K : Ex → St → Option α) (b : σ → Bool)
    (ho : ∀ v, ev V (eE v) o = .bool (b v)) (X Y : σ → Option α) (hx : ∀ v, aexec V A x (eE v) K = X v) (hy : ∀ v, aexec V A y (eE v) K = Y v) :
    ∀ v, aexec V A c (eE v) K = cond (b v) (X v) (Y v) := by
  intro v
  subst hc
  rw [aexec, ho, hx, hy]

theorem abody_in {f : Func} {args : List AV} {H : List Blk} {c : Code} (hc : f.body = some c) {s : St}
    (hs : { tmps := tagT 0 args, heap := tagH 0 H, next := H.length, nt := max args.length f.ntmps, m := H.length } = s) :
    abody V A f args H = aexec V A c s (kFin V A.fin f.results.toList) := by
  subst hs
  rw [abody, hc]
end Go.Am
