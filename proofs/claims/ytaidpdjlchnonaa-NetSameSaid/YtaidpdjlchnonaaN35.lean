/- A part of the proof: steps and lemmas for the walks through the given program. -/
import Derived.Test.YtaidpdjlchnonaaNe
namespace Go.Proofs.Ytaidpdjlchnonaa
open Go.Vc
set_option linter.unusedVariables false
set_option linter.unusedSimpArgs false
set_option maxRecDepth 100000

theorem refSame_self {w : World} {F G : Nat → Prop} {v u : Value} {m : Ms} (HG1 : AgV tMs w F v m) (HG2 : AgV tMs w G u m) : CallsR Try.prog 15 #[v, u] w (fun o w' => o = .bool true ∧ Ext w w') :=
  CallsR.mono (refSame_c HG1 HG2) fun o w' h => ⟨h.1.trans (by simp), h.2⟩
end Go.Proofs.Ytaidpdjlchnonaa
