/- A part of the proof: steps and lemmas for the walks through the given program. -/
import Derived.Test.YteehplloacefmaaGc
import Derived.Test.YteehplloacefmaaProg
namespace Go.Proofs.Yteehplloacefmaa
open Go.Vc
set_option linter.unusedVariables false
set_option maxRecDepth 100000

end Go.Proofs.Yteehplloacefmaa

namespace Go.Proofs.Yteehplloacefmaa
open Go.Vc
set_option linter.unusedVariables false
set_option maxRecDepth 100000

end Go.Proofs.Yteehplloacefmaa

namespace Go.Proofs.Yteehplloacefmaa
open Go.Vc
set_option linter.unusedVariables false
set_option maxRecDepth 100000

end Go.Proofs.Yteehplloacefmaa

namespace Go.Proofs.Yteehplloacefmaa
open Go.Vc
set_option linter.unusedVariables false
set_option maxRecDepth 100000

end Go.Proofs.Yteehplloacefmaa

namespace Go.Proofs.Yteehplloacefmaa
open Go.Vc
set_option linter.unusedVariables false
set_option maxRecDepth 100000

def rest (l : List UInt8) : List UInt8 := match rdNum l with
  | some (_, r) => r
  | none => l

end Go.Proofs.Yteehplloacefmaa

namespace Go.Proofs.Yteehplloacefmaa
open Go.Vc
set_option linter.unusedVariables false
set_option maxRecDepth 100000

end Go.Proofs.Yteehplloacefmaa

namespace Go.Proofs.Yteehplloacefmaa
open Go.Vc
set_option linter.unusedVariables false
set_option maxRecDepth 100000

end Go.Proofs.Yteehplloacefmaa
