/- A part of the proof: steps and lemmas for the walks through the given program. -/
import Derived.Test.YteehplloacefmaaMPm
namespace Go.Vc
set_option linter.unusedVariables false
set_option linter.unusedSimpArgs false
/-! ### what the document's Do answers -/
def bldA (fs : List (List UInt8)) (gs : List Int) (i : Nat) : RgV := (fs.getD i [], if i + 1 < fs.length then fs.getD (i + 1) [] else [], decide (i + 1 < fs.length), gs.getD i 0)
def bldR (fs : List (List UInt8)) (gs : List Int) : List RgV := (List.range fs.length).map (bldA fs gs)
theorem bldR_may {rs : List RgV} (h : mayL rs = true) : bldR (rs.map (·.1)) (rs.map (·.2.2.2)) = rs := by
  have hk := (mayL_iff rs).1 h
  apply List.ext_getElem?
  intro i
  rw [bldR, List.getElem?_map, List.length_map]
  rcases Nat.lt_or_ge i rs.length with hi | hi
  · rw [List.getElem?_range hi]
    obtain ⟨r, hr, _⟩ := getE (l := rs) (i := i) hi
    have hl := hk i r hr
    rw [hr]
    simp only [Option.map_some, bldA, List.length_map]
    have e1 : (rs.map (·.1)).getD i [] = r.1 := by simp [hr]
    have e2 : (rs.map (·.2.2.2)).getD i 0 = r.2.2.2 := by simp [hr]
    rw [e1, e2]
    rcases hn : rs[i + 1]? with _ | s
    · rw [hn] at hl
      obtain ⟨_, q2, q3⟩ := hl
      have hle : ¬ i + 1 < rs.length := by have := List.getElem?_eq_none_iff.1 hn; omega
      rw [if_neg hle, decide_eq_false hle]
      obtain ⟨r1, r2, r3, r4⟩ := r
      simp only at q2 q3
      rw [q2, q3]
    · rw [hn] at hl
      obtain ⟨_, q2, _, _, q5⟩ := hl
      have hlt := (List.getElem?_eq_some_iff.1 hn).1
      have e3 : (rs.map (·.1)).getD (i + 1) [] = s.1 := by simp [hn]
      rw [if_pos hlt, decide_eq_true hlt, e3]
      obtain ⟨r1, r2, r3, r4⟩ := r
      simp only at q2 q5
      rw [q2, q5]
  · rw [List.getElem?_eq_none_iff.2 (by simpa using hi), List.getElem?_eq_none_iff.2 hi]; rfl
end Go.Vc
