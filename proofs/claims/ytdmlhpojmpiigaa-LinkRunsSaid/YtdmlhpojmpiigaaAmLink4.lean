/- Links: the first packet. -/
import Derived.Test.YtdmlhpojmpiigaaAmLink3
set_option linter.unusedVariables false
set_option linter.unusedSimpArgs false
namespace Go.Am
open Go
namespace Lk
theorem has64 {n : Int} (h1 : -9223372036854775808 ≤ n) (h2 : n ≤ 9223372036854775807) : IntKind.i64.has n := ⟨h1, h2⟩
theorem take_first (w k f : Int) (o : Bool) (b : List Int) : take (E.mk w k [] 0 0 [] o f) 1 0 b = (E.mk w k [] 0 1 [] true f, [b]) := rfl
theorem valid_first {b : List Int} (h : b.length ≤ 65536) : valid 1 0 b = true := by
  simp [valid, h]
theorem recv_first (w k f : Int) (o : Bool) {b : List Int} (h : b.length ≤ 65536) : recv (E.mk w k [] 0 0 [] o f) (sealed k (pbytes 1 0 b)) = (E.mk w k [] 0 1 [] true f, [b], 0) := by
  rw [recv_sealed rfl (has64 (by omega) (by omega)) (has64 (by omega) (by omega)) (valid_first h), take_first]
theorem recv_bad {e : E} {b : List Int} (h : openB e.key b = ([], 9)) : recv e b = ({ e with forged := e.forged + 1 }, [], 9) := by
  unfold recv
  rw [h]
  rfl
theorem outs_none (w k f : Int) : outs (E.mk w k [] 0 0 [] false f) = [] := by
  simp [outs, packs]
end Lk
end Go.Am
