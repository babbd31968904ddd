/- What the claims of this seat share. -/
import Derived.Test.YtgdibbphgdkllaaAm38A
import Derived.Test.YtgdibbphgdkllaaAmClaim
import Derived.Test.YtgdibbphgdkllaaRows
import Derived.WalkKit
import Derived.ProofKit
import Derived.OpenShut
import Derived.LaidMore
import Derived.LaidLaws
import Derived.Deep.DeepHandedRow
set_option linter.unusedVariables false
namespace Go.Proofs.Ytgdibbphgdkllaa
open Go Go.Am
theorem own : ownKnob Try.prog.godebug = none := by kernel_rfl
theorem laidOut : laidOutB Try.prog = true := by kernel_rfl
theorem gok0 {W : World} : GOk G38 W W0 := fun g r h => by cases h
end Go.Proofs.Ytgdibbphgdkllaa
