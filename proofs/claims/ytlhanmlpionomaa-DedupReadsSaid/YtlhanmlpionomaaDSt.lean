/- A part of the proof: steps and lemmas for the walks through the given program. -/
import Derived.Test.YtlhanmlpionomaaGz
import Derived.Test.YtlhanmlpionomaaVc41
namespace Go.Vc
set_option linter.unusedVariables false
set_option linter.unusedSimpArgs false
/-! ### a law's steps -/
end Go.Vc
