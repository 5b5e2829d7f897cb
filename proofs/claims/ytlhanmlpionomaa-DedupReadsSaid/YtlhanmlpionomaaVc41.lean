/- A part of the proof: steps and lemmas for the walks through the given program. -/
import Derived.Test.YtlhanmlpionomaaGy
import Derived.Test.YtlhanmlpionomaaVc35
namespace Go.Vc
set_option linter.unusedVariables false
theorem pv_sub {w : World} {q : Addr} {cs : List Value} (off n : Nat) (h : Pv w q cs) : Pv w (q.add off) ((cs.drop off).take n) := fun j u hu => by
  rw [List.getElem?_take] at hu
  split at hu
  · rw [add_add]; exact h _ _ (by simpa using hu)
  · cases hu
end Go.Vc
