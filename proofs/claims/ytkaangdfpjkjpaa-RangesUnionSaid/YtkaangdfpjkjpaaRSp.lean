/- A part of the proof: steps and lemmas for the walks through the given program. -/
import Derived.Test.YtkaangdfpjkjpaaRPm
import Derived.Test.YtkaangdfpjkjpaaVc22
namespace Go.Vc
set_option linter.unusedVariables false
set_option linter.unusedSimpArgs false
/-! ### what is found in a map, and what it is changed to -/
def findO (m : MpV) (p : RgV → Bool) : Option Nat := if mayM m then m.2.findIdx? p else none
def optI : Option Nat → Int
  | some i => i
  | none => -1
def rg0 : RgV := ([], [], false, 0)
def mp0 : MpV := (0, [])
def rgAt (l : List RgV) : Option Nat → RgV
  | some i => l.getD i rg0
  | none => rg0
def begB (k : List UInt8) (r : RgV) : Bool := decide (r.1 = k)
def hasB (k : List UInt8) (r : RgV) : Bool := hasR r k
def keyB (k : List UInt8) : Bool := decide (1 ≤ k.length) && decide (k.length ≤ 24)
def nextM (e : Int) (rs : List RgV) : MpV × Int := if e = 2147483647 ∨ 16 < rs.length then (mp0, 5) else ((e + 1, rs), 0)
def splitM (m : MpV) (k : List UInt8) : MpV × Int :=
  if (mayM m && keyB k) = false then (mp0, 2) else if (findO m (begB k)).isSome then (mp0, 7) else match findO m (hasB k) with
    | none => (mp0, 0)
    | some i => nextM m.1 (m.2.take i ++ [((m.2.getD i rg0).1, k, true, (m.2.getD i rg0).2.2.2), (k, (m.2.getD i rg0).2.1, (m.2.getD i rg0).2.2.1, (m.2.getD i rg0).2.2.2)] ++ m.2.drop (i + 1))
def unionM (m : MpV) (k : List UInt8) : MpV × Int :=
  if (mayM m && keyB k) = false then (mp0, 2) else match findO m (begB k) with
    | none => (mp0, 6)
    | some i => if (m.2.getD i rg0).2.2.2 ≠ (m.2.getD (i - 1) rg0).2.2.2 then (mp0, 9) else
      nextM m.1 (m.2.take (i - 1) ++ [((m.2.getD (i - 1) rg0).1, (m.2.getD i rg0).2.1, (m.2.getD i rg0).2.2.1, (m.2.getD (i - 1) rg0).2.2.2)] ++ m.2.drop (i + 1))
def giveM (m : MpV) (k : List UInt8) (g : Int) : MpV × Int :=
  if (mayM m && grpB g && decide (k.length ≤ 24)) = false then (mp0, 2) else match findO m (begB k) with
    | none => (mp0, 6)
    | some i => if (m.2.getD i rg0).2.2.2 = g then (mp0, 9) else nextM m.1 (m.2.set i ((m.2.getD i rg0).1, (m.2.getD i rg0).2.1, (m.2.getD i rg0).2.2.1, g))
theorem mayM_parts {m : MpV} (h : mayM m = true) : 1 ≤ m.1 ∧ m.1 ≤ 2147483647 ∧ 1 ≤ m.2.length ∧ m.2.length ≤ 16 ∧ (m.2.headD ([], [], false, 0)).1 = [] ∧ mayL m.2 = true := by
  simp only [mayM, Bool.and_eq_true, decide_eq_true_eq] at h
  exact ⟨h.1.1.1.1.1, h.1.1.1.1.2, h.1.1.1.2, h.1.1.2, List.isEmpty_iff.1 h.1.2, h.2⟩
theorem mayL_lens : ∀ (l : List RgV), mayL l = true → (l.headD rg0).1.length ≤ 24 → ∀ r ∈ l, r.1.length ≤ 24 ∧ r.2.1.length ≤ 24 ∧ grpB r.2.2.2 = true
  | [], _, _, r, hr => by cases hr
  | [r0], h, h0, r, hr => by
    simp only [List.mem_singleton] at hr; subst hr
    simp only [mayL, Bool.and_eq_true] at h
    have := List.isEmpty_iff.1 h.2
    exact ⟨h0, by rw [this]; simp, h.1.1⟩
  | r0 :: s :: l, h, h0, r, hr => by
    simp only [mayL, Bool.and_eq_true, decide_eq_true_eq] at h
    rcases List.mem_cons.1 hr with rfl | hr
    · exact ⟨h0, h.1.1.1.2, h.1.1.1.1.1⟩
    · exact mayL_lens (s :: l) h.2 (by simp only [List.headD_cons]; rw [← h.1.2]; exact h.1.1.1.2) r hr
theorem mayM_lens {m : MpV} (h : mayM m = true) : ∀ r ∈ m.2, r.1.length ≤ 24 ∧ r.2.1.length ≤ 24 ∧ grpB r.2.2.2 = true := by
  obtain ⟨_, _, _, _, h5, h6⟩ := mayM_parts h
  exact mayL_lens m.2 h6 (by
    have : (m.2.headD rg0).1 = [] := h5
    rw [this]; simp)
theorem grpB_range {n : Int} (h : grpB n = true) : 1 ≤ n ∧ n < 5 := by
  simp only [grpB, Bool.and_eq_true, decide_eq_true_eq] at h; exact h
theorem mayL_has {k : List UInt8} : ∀ (l : List RgV), mayL l = true → l ≠ [] → ¬ k < (l.headD rg0).1 → ∃ r ∈ l, hasR r k = true
  | [], _, h, _ => absurd rfl h
  | [r], h, _, h0 => by
    simp only [mayL, Bool.and_eq_true] at h
    simp only [List.headD_cons] at h0
    refine ⟨r, List.mem_singleton.2 rfl, ?_⟩
    have he : r.2.2.1 = false := by have := h.1.2; revert this; cases r.2.2.1 <;> simp
    rw [hasR, decide_eq_false h0, he]; rfl
  | r :: s :: l, h, _, h0 => by
    simp only [mayL, Bool.and_eq_true, decide_eq_true_eq] at h
    simp only [List.headD_cons] at h0
    by_cases hk : k < r.2.1
    · refine ⟨r, List.mem_cons_self, ?_⟩
      rw [hasR, decide_eq_false h0, decide_eq_true hk]; cases r.2.2.1 <;> rfl
    · obtain ⟨q, hq, hh⟩ := mayL_has (s :: l) h.2 (by simp) (by simp only [List.headD_cons]; rw [← h.1.2]; exact hk)
      exact ⟨q, List.mem_cons_of_mem _ hq, hh⟩
theorem lb_nil (k : List UInt8) : ¬ k < [] := by simp
theorem has_some {m : MpV} (h : mayM m = true) (k : List UInt8) : ∃ i, findO m (hasB k) = some i ∧ i < m.2.length := by
  obtain ⟨_, _, h3, _, h5, h6⟩ := mayM_parts h
  obtain ⟨r, hr, hh⟩ := mayL_has (k := k) m.2 h6 (by intro h; rw [h] at h3; simp at h3) (by
    have : (m.2.headD rg0).1 = [] := h5
    rw [this]; exact lb_nil k)
  rw [findO, if_pos h]
  cases hf : m.2.findIdx? (hasB k) with
  | none =>
    rw [List.findIdx?_eq_none_iff] at hf
    have := hf r hr
    rw [hasB, hh] at this; cases this
  | some i =>
    rw [List.findIdx?_eq_some_iff_getElem] at hf
    exact ⟨i, rfl, hf.1⟩
theorem findO_at {m : MpV} {p : RgV → Bool} {i : Nat} (h : findO m p = some i) : mayM m = true ∧ i < m.2.length ∧ p (m.2.getD i rg0) = true := by
  unfold findO at h
  split at h
  · rename_i hm
    rw [List.findIdx?_eq_some_iff_getElem] at h
    obtain ⟨h1, h2, _⟩ := h
    refine ⟨hm, h1, ?_⟩
    have e1 : m.2.getD i rg0 = m.2[i] := by simp [h1]
    rw [e1]; exact h2
  · cases h
theorem getD_at {l : List RgV} {i : Nat} (h : i < l.length) : l[i]? = some (l.getD i rg0) := by
  simp [List.getD_eq_getElem?_getD, h]
theorem getD_mem {l : List RgV} {i : Nat} (h : i < l.length) : l.getD i rg0 ∈ l := List.mem_of_getElem? (getD_at h)
theorem beg_pos {m : MpV} {k : List UInt8} {i : Nat} (h : findO m (begB k) = some i) (hk : keyB k = true) : 1 ≤ i := by
  obtain ⟨h1, h2, h3⟩ := findO_at h
  obtain ⟨_, _, _, _, h5, _⟩ := mayM_parts h1
  rcases Nat.eq_zero_or_pos i with rfl | h0
  · exfalso
    simp only [begB, decide_eq_true_eq] at h3
    have h6 : m.2.getD 0 rg0 = m.2.headD rg0 := by cases m.2 <;> rfl
    rw [h6] at h3
    have h7 : (m.2.headD rg0).1 = [] := h5
    rw [h7] at h3
    subst h3
    simp [keyB] at hk
  · exact h0
theorem optI_neg {o : Option Nat} : optI o < 0 ↔ o = none := by
  cases o with
  | none => simp [optI]
  | some i => simp [optI]
end Go.Vc
