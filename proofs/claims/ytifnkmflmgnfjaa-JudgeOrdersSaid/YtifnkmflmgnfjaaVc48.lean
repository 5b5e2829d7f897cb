/- A part of the proof: steps and lemmas for the walks through the given program. -/
import Derived.Test.YtifnkmflmgnfjaaVc47
import Derived.Test.YtifnkmflmgnfjaaGd
import Derived.Test.YtifnkmflmgnfjaaGx
namespace Go.Vc
set_option linter.unusedVariables false
set_option linter.unusedSimpArgs false
/-! ### one element of a slice of one's own is taken out -/
section
variable {α : Type} {P : Program} {d : Option Tmp} {ty : TypeId} {p : String} {af : Array Edge} {g : Option (Nat × Bool)} {e : Nat → Value} {w : World} {x y : Operand} {K : Value → World → Prop}
end
end Go.Vc
