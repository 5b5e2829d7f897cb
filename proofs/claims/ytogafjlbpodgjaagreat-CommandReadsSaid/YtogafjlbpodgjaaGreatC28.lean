/- A part of the proof: steps and lemmas for the walks through the given program. -/
import Derived.Test.YtogafjlbpodgjaaGreatC27
import Derived.Test.YtogafjlbpodgjaaGreatCe
namespace Go.Proofs.YtogafjlbpodgjaaGreat
open Go.Vc
set_option linter.unusedVariables false
set_option linter.unusedSimpArgs false
set_option maxRecDepth 100000

theorem refCMay_b {w : World} {F : Nat → Prop} {v : Value} {a : CmV} {b : Bool} (HG1 : AgV tCm w F v a) (hb : mayCm a = b) : CallsR Tryz.prog 8 #[v] w (fun o w' => o = .bool b ∧ Ext w w') := by subst hb; exact refCMay_c HG1
end Go.Proofs.YtogafjlbpodgjaaGreat
