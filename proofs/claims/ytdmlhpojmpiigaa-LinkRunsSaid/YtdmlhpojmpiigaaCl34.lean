/- What the claims of this seat share. -/
import Derived.Test.YtdmlhpojmpiigaaAm34A
import Derived.Test.YtdmlhpojmpiigaaAmClaim
import Derived.Test.YtdmlhpojmpiigaaRows
import Derived.WalkKit
import Derived.ProofKit
import Derived.OpenShut
import Derived.LaidMore
import Derived.LaidLaws
import Derived.Deep.DeepHandedRow
set_option linter.unusedVariables false
namespace Go.Proofs.Ytdmlhpojmpiigaa
open Go Go.Am
theorem own : ownKnob Try.prog.godebug = none := by kernel_rfl
theorem laidOut : laidOutB Try.prog = true := by kernel_rfl
theorem gok0 {W : World} : GOk G34 W W0 := fun g r h => by cases h
end Go.Proofs.Ytdmlhpojmpiigaa
