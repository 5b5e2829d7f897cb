/- A part of the proof: steps and lemmas for the walks through the given program. -/
import Derived.Test.YtifnkmflmgnfjaaGb
import Derived.Test.YtifnkmflmgnfjaaGe
import Derived.SizedLaws
namespace Go.Vc
set_option linter.unusedVariables false
set_option linter.unusedSimpArgs false
open Go.ChangeShapes Go.WideShapes Go.ChangeAt Go.RowKit
/-! ### lengths within the form's reach -/
end Go.Vc
