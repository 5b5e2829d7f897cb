/- A part of the proof: steps and lemmas for the walks through the given program. -/
import Derived.Test.YteehplloacefmaaMTy
import Derived.Test.YteehplloacefmaaCz
namespace Go.Vc
set_option linter.unusedVariables false
set_option linter.unusedSimpArgs false
/-! ### what the chapter says of states: plain laws -/
theorem mayL_pw : ∀ (l : List RgV), mayL l = true → l.Pairwise (fun r s => r.1 < s.1)
  | [], _ => List.Pairwise.nil
  | [r], _ => List.pairwise_singleton _ _
  | r :: s :: l, h => by
    rw [mayL_two, Bool.and_eq_true] at h
    obtain ⟨h1, h2⟩ := h
    simp only [oneOk, Bool.and_eq_true, decide_eq_true_eq] at h1
    have hrs : r.1 < s.1 := by rw [← h1.2]; exact h1.1.2
    have ih := mayL_pw (s :: l) h2
    refine List.pairwise_cons.2 ⟨fun x hx => ?_, ih⟩
    rcases List.mem_cons.1 hx with rfl | hx
    · exact hrs
    · exact lb_le_trans hrs ((List.pairwise_cons.1 ih).1 x hx)
theorem from_one {l : List RgV} (h : mayL l = true) {r s : RgV} (hr : r ∈ l) (hs : s ∈ l) (he : r.1 = s.1) : r = s := by
  have hp := mayL_pw l h
  obtain ⟨i, hi, rfl⟩ := List.getElem_of_mem hr
  obtain ⟨j, hj, rfl⟩ := List.getElem_of_mem hs
  rw [List.pairwise_iff_getElem] at hp
  rcases Nat.lt_trichotomy i j with h1 | h1 | h1
  · have := hp i j hi hj h1; rw [he] at this; exact absurd this (List.lt_irrefl _)
  · subst h1; rfl
  · have := hp j i hj hi h1; rw [he] at this; exact absurd this (List.lt_irrefl _)
theorem begI_some {l : List RgV} {k : List UInt8} {i : Nat} (h : begI l k = some i) : i < l.length ∧ (l.getD i rg0).1 = k := by
  rw [begI, List.findIdx?_eq_some_iff_getElem] at h
  obtain ⟨h1, h2, _⟩ := h
  refine ⟨h1, ?_⟩
  have e1 : l.getD i rg0 = l[i] := by simp [h1]
  rw [e1]; simpa [begB] using h2
theorem begI_mem {l : List RgV} {k : List UInt8} {r : RgV} (hr : r ∈ l) (hk : r.1 = k) : ∃ i, begI l k = some i := by
  rcases hi : begI l k with _ | i
  · rw [begI, List.findIdx?_eq_none_iff] at hi
    have := hi r hr
    simp [begB, hk] at this
  · exact ⟨i, rfl⟩
def OnR (rs : List RgV) (x : MaV) : Prop := ∃ r ∈ rs, r.1 = x.1.2.1 ∧ r.2.2.1 = x.1.2.2.2.1 ∧ r.2.1 = x.1.2.2.1 ∧ r.2.2.2 = (if x.2 then x.1.2.2.2.2.2 else x.1.2.2.2.2.1)
theorem atMa_iff {rs : List RgV} (hm : mayL rs = true) {x : MaV} : atMa rs x = true ↔ OnR rs x := by
  unfold atMa OnR
  constructor
  · intro h
    rcases hi : begI rs x.1.2.1 with _ | i
    · rw [hi] at h; cases h
    · rw [hi] at h
      simp only [Bool.and_eq_true, decide_eq_true_eq] at h
      obtain ⟨h1, h2⟩ := begI_some hi
      exact ⟨_, getD_mem h1, h2, h.1.1, h.1.2, h.2⟩
  · rintro ⟨r, hr, h1, h2, h3, h4⟩
    obtain ⟨i, hi⟩ := begI_mem hr h1
    obtain ⟨hlt, hf⟩ := begI_some hi
    have : rs.getD i rg0 = r := from_one hm (getD_mem hlt) hr (hf.trans h1.symm)
    rw [hi]; simp only [this, h2, h3, h4, decide_true, Bool.and_self]
def MvsOk (rs : List RgV) (n : Int) (l : List MaV) : Prop := (∀ x ∈ l, mayMv x.1 = true ∧ x.1.1 < n ∧ atMa rs x = true) ∧ l.Pairwise (fun y x => y.1.1 < x.1.1 ∧ y.1.2.1 ≠ x.1.2.1)
theorem okMa_at {rs : List RgV} {n : Int} {l : List MaV} {i : Nat} {x : MaV} (hx : l[i]? = some x) : okMa rs n l i = true ↔ (mayMv x.1 = true ∧ x.1.1 < n ∧ atMa rs x = true) ∧ (∀ (j : Nat) (y : MaV), i = j + 1 → l[j]? = some y → y.1.1 < x.1.1) ∧ ∀ y ∈ l.take i, y.1.2.1 ≠ x.1.2.1 := by
  have hi := (List.getElem?_eq_some_iff.1 hx).1
  unfold okMa
  rw [hx]
  simp only [Bool.and_eq_true, decide_eq_true_eq, List.all_eq_true, Bool.not_eq_true', decide_eq_false_iff_not]
  constructor
  · rintro ⟨⟨⟨⟨h1, h2⟩, h3⟩, h4⟩, h5⟩
    refine ⟨⟨h1, h2, h4⟩, fun j y hj hy => ?_, h5⟩
    subst hj; simp only at h3; rw [hy] at h3; simpa using h3
  · rintro ⟨⟨h1, h2, h4⟩, h3, h5⟩
    refine ⟨⟨⟨⟨h1, h2⟩, ?_⟩, h4⟩, h5⟩
    cases i with
    | zero => rfl
    | succ j =>
      simp only
      have hj : l[j]? = some l[j] := by rw [List.getElem?_eq_getElem zo]
      rw [hj]; simpa using h3 j _ rfl hj
theorem mayMa_iff {rs : List RgV} {n : Int} {l : List MaV} : mayMa rs n l = true ↔ MvsOk rs n l := by
  constructor
  · intro h
    have hall : ∀ i (hi : i < l.length), (mayMv l[i].1 = true ∧ l[i].1.1 < n ∧ atMa rs l[i] = true) ∧ (∀ (j : Nat) (y : MaV), i = j + 1 → l[j]? = some y → y.1.1 < l[i].1.1) ∧ ∀ y ∈ l.take i, y.1.2.1 ≠ l[i].1.2.1 :=
      fun i hi => (okMa_at (List.getElem?_eq_getElem hi)).1 (mayMa_at h hi)
    refine ⟨fun x hx => ?_, ?_⟩
    · obtain ⟨i, hi, rfl⟩ := List.getElem_of_mem hx
      exact (hall i hi).1
    · rw [List.pairwise_iff_getElem]
      have hnum : ∀ (j : Nat) (hj : j < l.length) (i : Nat) (hij : i < j), (l[i]'zo).1.1 < l[j].1.1 := by
        intro j
        induction j with
        | zero => intro hj i hij; omega
        | succ k ih =>
          intro hj i hij
          have h1 := (hall (k + 1) hj).2.1 k _ rfl (List.getElem?_eq_getElem zo)
          rcases Nat.lt_or_ge i k with h2 | h2
          · have := ih zo i h2; omega
          · obtain rfl : i = k := by omega
            exact h1
      intro i j hi hj hij
      refine ⟨hnum j hj i hij, (hall j hj).2.2 _ ?_⟩
      rw [List.mem_take_iff_getElem]
      exact ⟨i, by omega, rfl⟩
  · rintro ⟨h1, h2⟩
    rw [List.pairwise_iff_getElem] at h2
    refine mayMa_yes fun i hi => (okMa_at (List.getElem?_eq_getElem hi)).2 ⟨h1 _ (List.getElem_mem hi), fun j y hj hy => ?_, fun y hy => ?_⟩
    · subst hj
      obtain ⟨hjl, rfl⟩ := List.getElem?_eq_some_iff.1 hy
      exact (h2 j (j + 1) hjl hi zo).1
    · rw [List.mem_take_iff_getElem] at hy
      obtain ⟨j, hj, rfl⟩ := hy
      exact (h2 j i zo hi zo).2
theorem mayMt_iff {s : MtV} : mayMt s = true ↔ mayM s.1 = true ∧ 1 ≤ s.2.1 ∧ s.2.1 ≤ 2147483647 ∧ MvsOk s.1.2 s.2.1 s.2.2 := by
  simp only [mayMt, Bool.and_eq_true, decide_eq_true_eq, mayMa_iff]
  constructor
  · rintro ⟨⟨⟨h1, h2⟩, h3⟩, h4⟩; exact ⟨h1, h2, h3, h4⟩
  · rintro ⟨h1, h2, h3, h4⟩; exact ⟨⟨⟨h1, h2⟩, h3⟩, h4⟩
theorem MvsOk.mv {rs rs' : List RgV} {n : Int} {l : List MaV} (h : MvsOk rs n l) (hm : mayL rs = true) (hm' : mayL rs' = true) (hr : ∀ r ∈ rs, (∃ x ∈ l, x.1.2.1 = r.1) → r ∈ rs') : MvsOk rs' n l := by
  refine ⟨fun x hx => ?_, h.2⟩
  obtain ⟨h1, h2, h3⟩ := h.1 x hx
  refine ⟨h1, h2, (atMa_iff hm').2 ?_⟩
  obtain ⟨r, hr1, hr2⟩ := (atMa_iff hm).1 h3
  exact ⟨r, hr r hr1 ⟨x, hx, hr2.1.symm⟩, hr2⟩
end Go.Vc
