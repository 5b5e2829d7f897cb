/- A part of the proof: steps and lemmas for the walks through the given program. -/
import Derived.Test.YtifnkmflmgnfjaaGw
import Derived.Test.YtifnkmflmgnfjaaGd
import Derived.Test.YtifnkmflmgnfjaaGc
namespace Go.Proofs.Ytifnkmflmgnfjaa
open Go.Vc
set_option linter.unusedVariables false
set_option linter.unusedSimpArgs false
set_option maxRecDepth 100000

end Go.Proofs.Ytifnkmflmgnfjaa
