/- A part of the proof: steps and lemmas for the walks through the given program. -/
import Derived.Test.YteehplloacefmaaGb
import Derived.Test.YteehplloacefmaaGe
import Derived.SizedLaws
namespace Go.Vc
set_option linter.unusedVariables false
set_option linter.unusedSimpArgs false
open Go.ChangeShapes Go.WideShapes Go.ChangeAt Go.RowKit
/-! ### lengths within the form's reach -/
theorem len_reach {P : Program} {T E : TypeId} {H : Type} {enc : TypeId × Value → H} {w : World} {base : Nat} {spare : Nat → Bool} {held : Bool} {fuel : Nat} {a : Option Addr} {n c : Nat} {y : DataW H × List MemPlace}
    (hu : P.underlying T = some (.slice E)) (hb : P.bytesOf E = 1) (h : DataW.trod enc P w base spare held fuel T [.slice a n c] = some y) (hr : ∀ m ∈ y.1.weights P T, m ≤ reachBytes) : n ≤ reachBytes := by
  rcases DataW.trod_slice hu h with ⟨he, _⟩ | ⟨q, len, cap, elems, rest, k, _, he, rfl, _, _, _, hlen, _⟩
  · simp only [List.cons.injEq, Value.slice.injEq, and_true] at he
    omega
  · simp only [List.cons.injEq, Value.slice.injEq, and_true] at he
    have := hr ((elems.length + rest.length) * P.bytesOf E) (by simp [DataW.weights, hu])
    rw [hb] at this
    omega
end Go.Vc
