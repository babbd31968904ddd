/- What the claims of this seat share. -/
import Derived.Test.YtnbgphghghmemaaAm35A
import Derived.Test.YtnbgphghghmemaaAmOpenT
import Derived.Test.YtnbgphghghmemaaRows
import Derived.WalkKit
import Derived.ProofKit
import Derived.OpenShut
import Derived.LaidMore
import Derived.LaidLaws
import Derived.Deep.DeepHandedRow
set_option linter.unusedVariables false
namespace Go.Proofs.Ytnbgphghghmemaa
open Go Go.Am
theorem own : ownKnob Try.prog.godebug = none := by kernel_rfl
theorem laidOut : laidOutB Try.prog = true := by kernel_rfl
theorem gok0 {W : World} : GOk G35 W W0 := fun g r h => by cases h
end Go.Proofs.Ytnbgphghghmemaa
