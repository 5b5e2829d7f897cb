/- A part of the proof: steps and lemmas for the walks through the given program. -/
import Derived.Test.YteehplloacefmaaMPl
namespace Go.Vc
set_option linter.unusedVariables false
set_option linter.unusedSimpArgs false
/-! ### maps that may be, range by range -/
def LinkOk (r : RgV) : Option RgV → Prop
  | none => grpB r.2.2.2 = true ∧ r.2.2.1 = false ∧ r.2.1 = []
  | some s => grpB r.2.2.2 = true ∧ r.2.2.1 = true ∧ r.2.1.length ≤ 24 ∧ r.1 < r.2.1 ∧ r.2.1 = s.1
theorem mayL_iff : ∀ (l : List RgV), mayL l = true ↔ ∀ i r, l[i]? = some r → LinkOk r l[i + 1]?
  | [] => by simp [mayL]
  | [r] => by
    simp only [mayL, Bool.and_eq_true, Bool.not_eq_true', List.isEmpty_iff]
    constructor
    · rintro ⟨⟨h1, h2⟩, h3⟩ i x hx
      rcases i with _ | i
      · obtain rfl : r = x := by simpa using hx
        exact ⟨h1, h2, h3⟩
      · simp at hx
    · intro h
      have := h 0 r rfl
      exact ⟨⟨this.1, this.2.1⟩, this.2.2⟩
  | r :: s :: l => by
    rw [mayL_two, Bool.and_eq_true, mayL_iff (s :: l)]
    simp only [oneOk, Bool.and_eq_true, decide_eq_true_eq]
    constructor
    · rintro ⟨⟨⟨⟨⟨h1, h2⟩, h3⟩, h4⟩, h5⟩, h6⟩ i x hx
      rcases i with _ | i
      · obtain rfl : r = x := by simpa using hx
        exact ⟨h1, h2, h3, h4, h5⟩
      · exact h6 i x (by simpa using hx)
    · intro h
      obtain ⟨h1, h2, h3, h4, h5⟩ := h 0 r rfl
      exact ⟨⟨⟨⟨⟨h1, h2⟩, h3⟩, h4⟩, h5⟩, fun i x hx => h (i + 1) x (by simpa using hx)⟩
structure RgOk (n i : Nat) (r : RgV) (nx : Option RgV) : Prop where
  g : grpB r.2.2.2 = true
  f : r.1 = [] ↔ i = 0
  l : r.1.length ≤ 24
  e : r.2.2.1 = decide (i + 1 < n)
  t : r.2.2.1 = true → r.1 < r.2.1 ∧ ∀ s, nx = some s → r.2.1 = s.1
  z : r.2.2.1 = false → r.2.1 = []
theorem mayM_iff {e : Int} {rs : List RgV} : mayM (e, rs) = true ↔ 1 ≤ e ∧ e ≤ 2147483647 ∧ 1 ≤ rs.length ∧ rs.length ≤ 16 ∧ ∀ i r, rs[i]? = some r → RgOk rs.length i r rs[i + 1]? := by
  constructor
  · intro h
    obtain ⟨h1, h2, h3, h4, h5, h6⟩ := mayM_parts h
    simp only at h1 h2 h3 h4 h5 h6
    have hl := mayM_lens h
    simp only at hl
    refine ⟨h1, h2, h3, h4, fun i r hr => ?_⟩
    have hk := (mayL_iff rs).1 h6
    have hi := (List.getElem?_eq_some_iff.1 hr).1
    have hlk := hk i r hr
    have hmem := List.mem_of_getElem? hr
    have hF : r.1 = [] ↔ i = 0 := by
      rcases i with _ | i
      · cases rs with
        | nil => simp at hr
        | cons a b => obtain rfl : a = r := by simpa using hr
                      simpa using h5
      · constructor
        · intro he
          obtain ⟨p, hp, _⟩ := getE (l := rs) (i := i) zo
          have := hk i p hp
          rw [hr] at this
          obtain ⟨_, _, _, q4, q5⟩ := this
          rw [q5, he] at q4
          exact absurd q4 (lb_nil _)
        · intro h; omega
    rcases hn : rs[i + 1]? with _ | s
    · rw [hn] at hlk
      obtain ⟨q1, q2, q3⟩ := hlk
      have : rs.length ≤ i + 1 := by simpa using hn
      exact ⟨q1, hF, (hl r hmem).1, by rw [q2]; symm; rw [decide_eq_false_iff_not]; omega, fun h => (by rw [q2] at h; cases h), fun _ => q3⟩
    · rw [hn] at hlk
      obtain ⟨q1, q2, q3, q4, q5⟩ := hlk
      have := (List.getElem?_eq_some_iff.1 hn).1
      exact ⟨q1, hF, (hl r hmem).1, by rw [q2]; symm; rw [decide_eq_true_eq]; omega, fun _ => ⟨q4, fun x hx => by cases hx; exact q5⟩, fun h => (by rw [q2] at h; cases h)⟩
  · rintro ⟨h1, h2, h3, h4, h5⟩
    have h6 : mayL rs = true := by
      rw [mayL_iff]
      intro i r hr
      have hk := h5 i r hr
      have hi := (List.getElem?_eq_some_iff.1 hr).1
      rcases hn : rs[i + 1]? with _ | s
      · have hle : rs.length ≤ i + 1 := by simpa using hn
        have he : r.2.2.1 = false := by rw [hk.e, decide_eq_false_iff_not]; omega
        exact ⟨hk.g, he, hk.z he⟩
      · have hlt := (List.getElem?_eq_some_iff.1 hn).1
        have he : r.2.2.1 = true := by rw [hk.e, decide_eq_true_eq]; omega
        have ht := hk.t he
        have hts := ht.2 s hn
        exact ⟨hk.g, he, by rw [hts]; exact (h5 (i + 1) s hn).l, ht.1, hts⟩
    obtain ⟨r0, hr0, _⟩ := getE (l := rs) (i := 0) zo
    have hf := (h5 0 r0 hr0).f.2 rfl
    have hd : (rs.headD ([], [], false, 0)).1.isEmpty = true := by
      cases rs with
      | nil => rfl
      | cons a b => obtain rfl : a = r0 := by simpa using hr0
                    simp [hf]
    simp only [mayM, h6, hd, decide_eq_true h1, decide_eq_true h2, decide_eq_true h3, decide_eq_true h4, Bool.and_self]
end Go.Vc
