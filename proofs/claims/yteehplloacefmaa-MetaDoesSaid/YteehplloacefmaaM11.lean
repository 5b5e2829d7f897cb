/- A part of the proof: steps and lemmas for the walks through the given program. -/
import Derived.Test.YteehplloacefmaaM10
namespace Go.Proofs.Yteehplloacefmaa
open Go.Vc
set_option linter.unusedVariables false
set_option linter.unusedSimpArgs false
set_option maxRecDepth 100000

theorem szB_le {s : MtV} (h : szB s = true) : s.1.2.length ≤ 40 ∧ s.2.2.length ≤ 40 := by simpa [szB] using h
end Go.Proofs.Yteehplloacefmaa
