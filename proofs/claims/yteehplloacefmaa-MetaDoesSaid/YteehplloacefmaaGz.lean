/- A part of the proof: steps and lemmas for the walks through the given program. -/
import Derived.Test.YteehplloacefmaaNFr
import Derived.Test.YteehplloacefmaaGy
import Derived.Test.YteehplloacefmaaGc
namespace Go.Vc
set_option linter.unusedVariables false
set_option linter.unusedSimpArgs false
/-! ### answers -/
abbrev PrV := List UInt8 × List UInt8
abbrev tPr : Ty PrV := tPair tBy tBy
abbrev AnV := Int × List PrV × List UInt8
abbrev tAn : Ty AnV := tPair (tInt .i64) (tPair (tSl tPr) tBy)
theorem tAn_cells {w : World} {F : Nat → Prop} {cs : List Value} {a : AnV} (h : tAn.rep w F cs a) : ∃ a1 c1 a2 c2, cs = [.int .i64 a.1, .slice a1 a.2.1.length c1, .slice a2 a.2.2.length c2] ∧ SlV tPr w F (.slice a1 a.2.1.length c1) a.2.1 ∧ Bv w F (.slice a2 a.2.2.length c2) a.2.2 ∧ I64 a.1 := by
  obtain ⟨_, _, rfl, ⟨rfl, h0⟩, _, _, rfl, ⟨v1, rfl, h1⟩, v2, rfl, h2⟩ := h
  obtain ⟨a1, c1, rfl⟩ := h1.shape
  obtain ⟨a2, c2, rfl⟩ := h2.shape
  exact ⟨a1, c1, a2, c2, rfl, h1, h2, wf_i64 h0⟩
theorem AgV.an {w : World} {F : Nat → Prop} {v : Value} {a : AnV} (h : AgV tAn w F v a) : ∃ a1 c1 a2 c2, v = .agg #[.int .i64 a.1, .slice a1 a.2.1.length c1, .slice a2 a.2.2.length c2] ∧ SlV tPr w F (.slice a1 a.2.1.length c1) a.2.1 ∧ Bv w F (.slice a2 a.2.2.length c2) a.2.2 ∧ I64 a.1 := by
  obtain ⟨cs, rfl, hr⟩ := h
  obtain ⟨a1, c1, a2, c2, rfl, h⟩ := tAn_cells hr
  exact ⟨a1, c1, a2, c2, rfl, h⟩
theorem AgV.imp {α : Type} {s t : Ty α} (h : Imp s t) {w : World} {F : Nat → Prop} {v : Value} {x : α} (hv : AgV s w F v x) : AgV t w F v x := by
  obtain ⟨cs, hcs, hr⟩ := hv; exact ⟨cs, hcs, h.2 _ _ _ _ hr⟩
end Go.Vc
