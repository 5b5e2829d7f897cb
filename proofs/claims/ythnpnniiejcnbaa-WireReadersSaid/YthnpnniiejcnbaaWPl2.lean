/- A part of the proof: steps and lemmas for the walks through the given program. -/
import Derived.Test.YthnpnniiejcnbaaWPl
namespace Go.Vc
set_option linter.unusedVariables false
/-- bytes that are read are the form of what is read -/
theorem rdGo_form : ∀ (l : List UInt8) (i : Nat) {n : Nat} {r : List UInt8}, rdGo i l = some (n, r) → l = wNum n ++ r ∧ (0 < i → 0 < n)
  | [], i, n, r, h => by simp [rdGo] at h
  | c :: l, i, n, r, h => by
    have hc256 : c.toNat < 256 := UInt8.toNat_lt c
    simp only [rdGo] at h
    split at h
    · cases h
    · rename_i hno
      split at h
      · rename_i hlt
        cases h
        rw [wNum_lt hlt]
        refine ⟨by simp, fun hi => ?_⟩
        rcases Nat.eq_zero_or_pos c.toNat with h0 | h0
        · exact absurd (Or.inr ⟨hi, h0⟩) hno
        · exact h0
      · rename_i hge
        split at h
        · rename_i n' r' hr
          cases h
          obtain ⟨h1, h2⟩ := rdGo_form l (i + 1) hr
          have hp : 0 < n' := h2 (by omega)
          have hm : (c.toNat % 128 + 128 * n') % 128 = c.toNat % 128 := by omega
          have hd : (c.toNat % 128 + 128 * n') / 128 = n' := by omega
          rw [wNum_ge (n := c.toNat % 128 + 128 * n') (by omega), hm, hd]
          refine ⟨?_, fun _ => by omega⟩
          have : UInt8.ofNat (128 + c.toNat % 128) = c := by
            have : 128 + c.toNat % 128 = c.toNat := by omega
            rw [this]; simp
          rw [this, h1]; rfl
        · cases h
theorem rdNum_form {l : List UInt8} {n : Nat} {r : List UInt8} (h : rdNum l = some (n, r)) : l = wNum n ++ r := (rdGo_form l 0 h).1
theorem zig_unzig (n : Nat) : zig (unzig n) = n := by
  unfold unzig
  split
  · rename_i h; have := zig_neg (n := -((n / 2 : Nat) : Int) - 1) (by omega); omega
  · rename_i h; have := zig_nn (n := ((n / 2 : Nat) : Int)) (by omega); omega
theorem unzig_range {n : Nat} (h : n < 18446744073709551616) : -9223372036854775808 ≤ unzig n ∧ unzig n ≤ 9223372036854775807 := by
  unfold unzig; split <;> omega
end Go.Vc
