/- A part of the proof: steps and lemmas for the walks through the given program. -/
import Derived.Test.YtlhanmlpionomaaDc
namespace Go.Proofs.Ytlhanmlpionomaa
open Go.Vc
set_option linter.unusedVariables false
set_option linter.unusedSimpArgs false
set_option maxRecDepth 100000

theorem clients_take {c : Nat} (h1 : 1 ≤ c) (h2 : c < 5) : ([1, 2, 3, 4] : List Int).take (c + 1 - 1) = ([1, 2, 3, 4] : List Int).take (c - 1) ++ [(c : Int)] := by
  have h4 : c = 1 ∨ c = 2 ∨ c = 3 ∨ c = 4 := by omega
  rcases h4 with rfl | rfl | rfl | rfl
  · rfl
  · rfl
  · rfl
  · rfl
end Go.Proofs.Ytlhanmlpionomaa

namespace Go.Proofs.Ytlhanmlpionomaa
open Go.Vc
set_option linter.unusedVariables false
set_option linter.unusedSimpArgs false
set_option maxRecDepth 100000

def eqC (S O : TbS) (c : Int) : Bool := decide (numS S c = numS O c) && (!decide (0 < numS S c) || decide (ansS S c = ansS O c))
def eqT (S O : TbS) : Bool := ([1, 2, 3, 4] : List Int).all (eqC S O)
theorem eqT_iff {S O : TbS} (okS : TbOk S) (okO : TbOk O) : eqT S O = true ↔ S = O := by
  constructor
  · intro h
    funext c
    by_cases hc : 1 ≤ c ∧ c ≤ 4
    · have hm : c ∈ ([1, 2, 3, 4] : List Int) := by
        have h5 : c = 1 ∨ c = 2 ∨ c = 3 ∨ c = 4 := by omega
        rcases h5 with rfl | rfl | rfl | rfl <;> simp
      have h2 := List.all_eq_true.1 h c hm
      unfold eqC at h2
      simp only [Bool.and_eq_true, decide_eq_true_eq, Bool.or_eq_true, Bool.not_eq_true', decide_eq_false_iff_not] at h2
      obtain ⟨h3, h4⟩ := h2
      by_cases h0 : 0 < numS S c
      · obtain ⟨x, hx, hx2⟩ := some_of_num h0
        obtain ⟨y, hy, hy2⟩ := some_of_num (S := O) (c := c) (by omega)
        rw [hx, hy, hx2, hy2, h3, h4.resolve_left (fun h => h h0)]
      · have e1 := numS_some okS c
        have e2 := numS_some okO c
        rw [decide_eq_false h0] at e1
        rw [decide_eq_false (by omega)] at e2
        rw [Option.isSome_eq_false_iff, Option.isNone_iff_eq_none] at e1 e2
        rw [e1, e2]
    · cases hS : S c with
      | some x => exact absurd (okS c x hS).1 hc
      | none =>
        cases hO : O c with
        | some x => exact absurd (okO c x hO).1 hc
        | none => rfl
  · rintro rfl
    simp [eqT, eqC]
end Go.Proofs.Ytlhanmlpionomaa
