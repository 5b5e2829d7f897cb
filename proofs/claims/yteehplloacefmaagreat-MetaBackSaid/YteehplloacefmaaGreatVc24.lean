/- Steps and lemmas for the walks. -/
import Derived.Test.YteehplloacefmaaGreatGb
import Derived.Test.YteehplloacefmaaGreatGe
import Derived.SizedLaws
set_option linter.unusedVariables false
set_option linter.unusedSimpArgs false
namespace Go.Vc
open Go.ChangeShapes Go.WideShapes Go.ChangeAt Go.RowKit
end Go.Vc
