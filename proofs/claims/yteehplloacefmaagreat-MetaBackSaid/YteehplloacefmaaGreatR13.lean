/- Steps and lemmas for the walks. -/
import Derived.Test.YteehplloacefmaaGreatRw
import Derived.Test.YteehplloacefmaaGreatGd
set_option linter.unusedVariables false
set_option linter.unusedSimpArgs false
set_option maxRecDepth 100000
namespace Go.Proofs.YteehplloacefmaaGreat
open Go.Vc
end Go.Proofs.YteehplloacefmaaGreat
