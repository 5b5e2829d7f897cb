/- A part of the proof: steps and lemmas for the walks through the given program. -/
import Derived.Test.YtkaangdfpjkjpaaRTy
namespace Go.Vc
set_option linter.unusedVariables false
set_option linter.unusedSimpArgs false
/-! ### ranges that meet, ranges within others -/
def withinR (a b : RgV) : Bool := (a.2.2.1 && !decide (a.1 < a.2.1)) || (!decide (a.1 < b.1) && (!b.2.2.1 || (a.2.2.1 && !decide (b.2.1 < a.2.1))))
def trim255 (k : List UInt8) : List UInt8 := (k.reverse.dropWhile (· == 255)).reverse
def bump (k : List UInt8) : List UInt8 := k.dropLast ++ [k.getLastD 0 + 1]
def leastL (b : List UInt8) : Option (List UInt8) := if b = [] then some [0] else if b.length ≤ 24 then some b else if trim255 (b.take 24) = [] then none else some (bump (trim255 (b.take 24)))
def meetR (a b : RgV) : Bool := match leastL (if a.1 < b.1 then b.1 else a.1) with
  | none => false
  | some k => hasR a k && hasR b k
theorem trim_snoc {y : List UInt8} {n : Nat} (hn : 0 < n ∧ n ≤ y.length) (h : y.getD (n - 1) 0 = 255) : trim255 (y.take n) = trim255 (y.take (n - 1)) := by
  obtain ⟨m, rfl⟩ : ∃ m, n = m + 1 := ⟨n - 1, by omega⟩
  have hm : m < y.length := by omega
  simp only [Nat.add_sub_cancel] at h ⊢
  have e : y.take (m + 1) = y.take m ++ [255] := by
    rw [List.take_add_one]
    have : y[m]? = some 255 := by
      have h2 : y.getD m 0 = y[m] := by simp [hm]
      rw [h2] at h; simp [hm, h]
    rw [this]; rfl
  rw [e, trim255, trim255]
  simp
theorem trim_stop {y : List UInt8} (h : y ≠ [] → ∃ x, y.getLast? = some x ∧ x ≠ 255) : trim255 y = y := by
  rcases List.eq_nil_or_concat y with rfl | ⟨l, x, rfl⟩
  · rfl
  · obtain ⟨z, hz, hne⟩ := h (by simp)
    simp at hz; subst hz
    rw [trim255]
    simp [hne]
theorem set_last {y : List UInt8} {n : Nat} {x : UInt8} (hl : y.length = n) (hn : 0 < n) (hx : y[n - 1]? = some x) : y.set (n - 1) (x + 1) = bump y := by
  rcases List.eq_nil_or_concat y with rfl | ⟨l, z, rfl⟩
  · simp at hl; omega
  · simp at hl
    have h1 : n - 1 = l.length := by omega
    rw [h1] at hx ⊢
    simp at hx
    subst hx
    simp [bump]
end Go.Vc
