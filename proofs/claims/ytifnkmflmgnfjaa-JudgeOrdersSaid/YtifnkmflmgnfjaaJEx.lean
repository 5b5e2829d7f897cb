/- A part of the proof: steps and lemmas for the walks through the given program. -/
import Derived.Test.YtifnkmflmgnfjaaJa
namespace Go.Vc
set_option linter.unusedVariables false
set_option linter.unusedSimpArgs false
/-! ### the history that a map itself made -/
def dk (n k : Nat) : List Bool := (List.range n).map fun j => decide (j < k)
theorem dk_get {n k j : Nat} (hj : j < n) : (dk n k).getD j false = decide (j < k) := by
  rw [List.getD_eq_getElem?_getD]; simp [dk, hj]
/-- the first p requests are answered, one behind the other; the others are not -/
structure RowR (R : List JdV) (p : Nat) : Prop where
  le : p ≤ R.length
  asked : ∀ j x, R[j]? = some x → x.2.1 = ((2 * j : Nat) : Int)
  ans : ∀ j x, R[j]? = some x → j < p → x.2.2.1 = ((2 * j + 1 : Nat) : Int)
  opn : ∀ j x, R[j]? = some x → p ≤ j → x.2.2.1 < 0
theorem RowR.whl_no {R : List JdV} {p k : Nat} (h : RowR R p) (hk : k < p) : ¬ whlJ R (dk R.length k) = true := by
  intro hw
  have hlt : k < R.length := Nat.lt_of_lt_of_le hk h.le
  unfold whlJ at hw
  have h1 := List.all_eq_true.1 hw k (List.mem_range.2 hlt)
  have hx : R[k]? = some R[k] := List.getElem?_eq_getElem hlt
  have h2 := h.ans k _ hx hk
  rw [hx, dk_get hlt] at h1
  have h3 : decide (0 ≤ R[k].2.2.1) = true := decide_eq_true zo
  simp [undJ, h3] at h1
end Go.Vc
