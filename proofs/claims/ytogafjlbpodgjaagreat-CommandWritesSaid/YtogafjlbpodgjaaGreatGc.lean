/- A part of the proof: steps and lemmas for the walks through the given program. -/
import Derived.Test.YtogafjlbpodgjaaGreatGb
namespace Go.Vc
/-- a number's form -/
def wNum (n : Nat) : List UInt8 := if h : n < 128 then [UInt8.ofNat n] else UInt8.ofNat (128 + n % 128) :: wNum (n / 128)
termination_by n
decreasing_by omega
theorem wNum_lt {n : Nat} (h : n < 128) : wNum n = [UInt8.ofNat n] := by unfold wNum; simp [h]
theorem wNum_ge {n : Nat} (h : 128 ≤ n) : wNum n = UInt8.ofNat (128 + n % 128) :: wNum (n / 128) := by rw [wNum]; simp [show ¬ n < 128 by omega]
theorem wNum_pos (n : Nat) : 1 ≤ (wNum n).length := by
  by_cases h : n < 128
  · rw [wNum_lt h]; simp
  · rw [wNum_ge (by omega)]; simp
theorem wNum_len : ∀ (k n : Nat), n < 128 ^ (k + 1) → (wNum n).length ≤ k + 1
  | 0, n, h => by rw [wNum_lt (by simpa using h)]; simp
  | k + 1, n, h => by
    by_cases hn : n < 128
    · rw [wNum_lt hn]; simp
    · rw [wNum_ge (by omega)]
      have : n / 128 < 128 ^ (k + 1) := by rw [Nat.div_lt_iff_lt_mul (by omega)]; rw [Nat.pow_succ] at h; exact h
      have := wNum_len k _ this
      simp; omega
theorem wNum_len10 {n : Nat} (h : n < 18446744073709551616) : (wNum n).length ≤ 10 := wNum_len 9 n (by omega)
def wFlag (b : Bool) : List UInt8 := [if b then 1 else 0]
def wBytes (l : List UInt8) : List UInt8 := wNum l.length ++ l
/-- what a reader made of -/
def Rd (eR : TypeId) (w : World) (b : Nat) (F : Nat → Prop) (l : List UInt8) : Prop := ∃ a c, Blk w b [.slice (some a) l.length c] eR ∧ Bv w F (.slice (some a) l.length c) l
theorem Rd.keep {eR : TypeId} {w w' : World} {b : Nat} {F K : Nat → Prop} {l : List UInt8} (h : Rd eR w b F l) (k : Keep K w w') (h1 : ¬ K b) (h2 : ∀ b, F b → ¬ K b) : Rd eR w' b F l := by
  obtain ⟨a, c, hb, hv⟩ := h
  exact ⟨a, c, hb.keep k h1, hv.keep k fun b _ hb => h2 b hb⟩
theorem Rd.ext {eR : TypeId} {w w' : World} {b : Nat} {F : Nat → Prop} {l : List UInt8} (h : Rd eR w b F l) (k : Ext w w') : Rd eR w' b F l := h.keep k (fun x => x) (fun _ _ x => x)
/-- reading a number: from its byte number i on -/
def rdGo : Nat → List UInt8 → Option (Nat × List UInt8)
  | _, [] => none
  | i, c :: r => if (i = 9 ∧ 1 < c.toNat) ∨ (0 < i ∧ c.toNat = 0) then none else if c.toNat < 128 then some (c.toNat, r) else
    match rdGo (i + 1) r with
    | some (n, r') => some (c.toNat % 128 + 128 * n, r')
    | none => none
def rdNum (l : List UInt8) : Option (Nat × List UInt8) := rdGo 0 l
theorem rdGo_suffix : ∀ (l : List UInt8) (i : Nat) {n : Nat} {r : List UInt8}, rdGo i l = some (n, r) → ∃ k, 0 < k ∧ k ≤ l.length ∧ r = l.drop k
  | [], i, n, r, h => by simp [rdGo] at h
  | c :: l, i, n, r, h => by
    simp only [rdGo] at h
    split at h
    · cases h
    · split at h
      · cases h; exact ⟨1, by simp⟩
      · split at h
        · rename_i n' r' hr
          cases h
          obtain ⟨k, h1, h2, h3⟩ := rdGo_suffix l (i + 1) hr
          exact ⟨k + 1, by omega, by simp; omega, by simp [h3]⟩
        · cases h
/-- the number itself stays below its bound -/
theorem rdGo_lt : ∀ (l : List UInt8) (i : Nat) {n : Nat} {r : List UInt8}, i ≤ 9 → rdGo i l = some (n, r) → n * 128 ^ i < 18446744073709551616
  | [], i, n, r, _, h => by simp [rdGo] at h
  | c :: l, i, n, r, hi, h => by
    simp only [rdGo] at h
    split at h
    · cases h
    · rename_i hc
      have hc' : ¬ (i = 9 ∧ 1 < c.toNat) := fun x => hc (.inl x)
      split at h
      · rename_i h128
        cases h
        rcases Nat.lt_or_ge i 9 with h9 | h9
        · have h1 : 128 ^ i ≤ 128 ^ 8 := Nat.pow_le_pow_right (by omega) (by omega)
          calc c.toNat * 128 ^ i ≤ 127 * 128 ^ 8 := Nat.mul_le_mul (by omega) h1
            _ < 18446744073709551616 := by decide
        · have hi9 : i = 9 := by omega
          subst hi9
          have : c.toNat ≤ 1 := by omega
          calc c.toNat * 128 ^ 9 ≤ 1 * 128 ^ 9 := Nat.mul_le_mul_right _ this
            _ < 18446744073709551616 := by decide
      · rename_i h128
        split at h
        · rename_i n' r' hr
          cases h
          have hi8 : i + 1 ≤ 9 := by
            rcases Nat.lt_or_ge i 9 with h9 | h9
            · omega
            · exfalso; omega
          have ih := rdGo_lt l (i + 1) hi8 hr
          have e1 : 128 ^ (i + 1) = 128 * 128 ^ i := by rw [Nat.pow_succ]; omega
          rw [e1] at ih
          have hdvd : ∃ m, 18446744073709551616 = m * (128 * 128 ^ i) := by
            have : i ≤ 8 := by omega
            refine ⟨2 ^ (64 - 7 * (i + 1)), ?_⟩
            have e2 : (128 : Nat) * 128 ^ i = 2 ^ (7 * (i + 1)) := by rw [← e1, Nat.pow_mul]
            rw [e2, ← Nat.pow_add]
            rw [show 64 - 7 * (i + 1) + 7 * (i + 1) = 64 by omega]
          obtain ⟨m, hm⟩ := hdvd
          have hpos : 0 < 128 * 128 ^ i := Nat.mul_pos (by omega) (Nat.pow_pos (by omega))
          have hlt : n' < m := by
            rw [hm] at ih
            exact Nat.lt_of_mul_lt_mul_right ih
          have : (c.toNat % 128 + 128 * n') * 128 ^ i < m * (128 * 128 ^ i) := by
            calc (c.toNat % 128 + 128 * n') * 128 ^ i < (128 + 128 * n') * 128 ^ i := Nat.mul_lt_mul_of_pos_right (by omega) (Nat.pow_pos (by omega))
              _ = (n' + 1) * (128 * 128 ^ i) := by rw [show 128 + 128 * n' = (n' + 1) * 128 by omega, Nat.mul_assoc]
              _ ≤ m * (128 * 128 ^ i) := Nat.mul_le_mul_right _ hlt
          rw [hm]; exact this
        · cases h
theorem rdNum_lt {l : List UInt8} {n : Nat} {r : List UInt8} (h : rdNum l = some (n, r)) : n < 18446744073709551616 := by
  have := rdGo_lt l 0 (by omega) h
  simpa using this
def rdFlag (l : List UInt8) : Option (Bool × List UInt8) := match l with
  | [] => none
  | c :: r => if 1 < c.toNat then none else some (decide (0 < c.toNat), r)
end Go.Vc

namespace Go.Vc
set_option linter.unusedVariables false
/-- bytes that are read are the form of what is read -/
theorem rdGo_form : ∀ (l : List UInt8) (i : Nat) {n : Nat} {r : List UInt8}, rdGo i l = some (n, r) → l = wNum n ++ r ∧ (0 < i → 0 < n)
  | [], i, n, r, h => by simp [rdGo] at h
  | c :: l, i, n, r, h => by
    have hc256 : c.toNat < 256 := UInt8.toNat_lt c
    simp only [rdGo] at h
    split at h
    · cases h
    · rename_i hno
      split at h
      · rename_i hlt
        cases h
        rw [wNum_lt hlt]
        refine ⟨by simp, fun hi => ?_⟩
        rcases Nat.eq_zero_or_pos c.toNat with h0 | h0
        · exact absurd (Or.inr ⟨hi, h0⟩) hno
        · exact h0
      · rename_i hge
        split at h
        · rename_i n' r' hr
          cases h
          obtain ⟨h1, h2⟩ := rdGo_form l (i + 1) hr
          have hp : 0 < n' := h2 (by omega)
          have hm : (c.toNat % 128 + 128 * n') % 128 = c.toNat % 128 := by omega
          have hd : (c.toNat % 128 + 128 * n') / 128 = n' := by omega
          rw [wNum_ge (n := c.toNat % 128 + 128 * n') (by omega), hm, hd]
          refine ⟨?_, fun _ => by omega⟩
          have : UInt8.ofNat (128 + c.toNat % 128) = c := by
            have : 128 + c.toNat % 128 = c.toNat := by omega
            rw [this]; simp
          rw [this, h1]; rfl
        · cases h
theorem rdNum_form {l : List UInt8} {n : Nat} {r : List UInt8} (h : rdNum l = some (n, r)) : l = wNum n ++ r := (rdGo_form l 0 h).1
end Go.Vc

namespace Go.Vc
set_option linter.unusedVariables false
end Go.Vc

namespace Go.Vc
set_option linter.unusedVariables false
/-- how many bytes over 127 stand ahead -/
def lead : List UInt8 → Nat
  | [] => 0
  | c :: r => if 127 < c.toNat then lead r + 1 else 0
end Go.Vc
