/- Steps and lemmas for the walks. -/
import Derived.Test.YteehplloacefmaaGreatGr
import Derived.Test.YteehplloacefmaaGreatGe
set_option linter.unusedVariables false
set_option linter.unusedSimpArgs false
set_option maxRecDepth 100000
namespace Go.Proofs.YteehplloacefmaaGreat
open Go.Vc
end Go.Proofs.YteehplloacefmaaGreat
