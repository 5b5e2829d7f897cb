/- A part of the proof: steps and lemmas for the walks through the given program. -/
import Derived.Test.YtlhanmlpionomaaGz
import Derived.Test.YtlhanmlpionomaaVc41
namespace Go.Vc
set_option linter.unusedVariables false
set_option linter.unusedSimpArgs false
/-! ### a law's steps -/
abbrev DsV := Int × Int × AnV × Bool
abbrev tDs : Ty DsV := tPair (tInt .i64) (tPair (tInt .i64) (tPair tAn tBool))
theorem tDs_cells {w : World} {F : Nat → Prop} {cs : List Value} {x : DsV} (h : tDs.rep w F cs x) : ∃ a1 c1 a2 c2, cs = [.int .i64 x.1, .int .i64 x.2.1, .int .i64 x.2.2.1.1, .slice a1 x.2.2.1.2.1.length c1, .slice a2 x.2.2.1.2.2.length c2, .bool x.2.2.2] ∧
    SlV tPr w F (.slice a1 x.2.2.1.2.1.length c1) x.2.2.1.2.1 ∧ Bv w F (.slice a2 x.2.2.1.2.2.length c2) x.2.2.1.2.2 ∧ I64 x.2.2.1.1 ∧ I64 x.1 ∧ I64 x.2.1 := by
  obtain ⟨_, _, rfl, ⟨rfl, h0⟩, _, _, rfl, ⟨rfl, h1⟩, cs1, cs2, rfl, h2, h3⟩ := h
  obtain ⟨a1, c1, a2, c2, rfl, g1, g2, g3⟩ := tAn_cells h2
  obtain rfl := h3
  exact ⟨a1, c1, a2, c2, rfl, g1, g2, g3, wf_i64 h0, wf_i64 h1⟩
def muchS (l : List DsV) : Bool := (l.take 61).any (fun x => muchA 9000 x.2.2.1) || decide (60 < l.length)
theorem muchS_ok {l : List DsV} (h : muchS l = false) : l.length ≤ 60 ∧ ∀ x ∈ l, muchA 9000 x.2.2.1 = false := by
  unfold muchS at h
  simp only [Bool.or_eq_false_iff, decide_eq_false_iff_not] at h
  obtain ⟨h1, h2⟩ := h
  refine ⟨by omega, fun x hx => ?_⟩
  rw [List.take_of_length_le (by omega), List.any_eq_false] at h1
  have := h1 x hx
  simpa using this
end Go.Vc
