/- A part of the proof: steps and lemmas for the walks through the given program. -/
import Derived.Test.YthnpnniiejcnbaaWPl3
namespace Go.Vc
set_option linter.unusedVariables false
/-- the weight of digits -/
def dig : List UInt8 → Nat
  | [] => 0
  | c :: r => c.toNat % 128 + 128 * dig r
/-- how many bytes over 127 stand ahead -/
def lead : List UInt8 → Nat
  | [] => 0
  | c :: r => if 127 < c.toNat then lead r + 1 else 0
theorem lead_le : ∀ l, lead l ≤ l.length
  | [] => Nat.le_refl _
  | c :: r => by simp only [lead]; split <;> (have := lead_le r; simp; try omega)
theorem lead_at : ∀ (l : List UInt8) (k : Nat) (c : UInt8), k < lead l → l[k]? = some c → 127 < c.toNat
  | [], k, c, h, _ => by simp [lead] at h
  | x :: r, k, c, h, hk => by
    simp only [lead] at h
    split at h
    · rename_i hx
      cases k with
      | zero => simp at hk; subst hk; exact hx
      | succ k => exact lead_at r k c (by omega) (by simpa using hk)
    · omega
theorem lead_end : ∀ (l : List UInt8) (c : UInt8), l[lead l]? = some c → c.toNat ≤ 127
  | [], c, h => by simp [lead] at h
  | x :: r, c, h => by
    simp only [lead] at h
    split at h
    · exact lead_end r c (by simpa using h)
    · rename_i hx; simp at h; subst h; omega
/-- the form's length: 0 if there is none -/
def wholeN (l : List UInt8) : Nat := match rdNum l with
  | some (_, r) => l.length - r.length
  | none => 0
theorem rdGo_lead : ∀ (l : List UInt8) (i : Nat), i ≤ 9 → rdGo i l = if lead l = l.length ∨ 9 < i + lead l then none else match l[lead l]? with
    | none => none
    | some c => if (i + lead l = 9 ∧ 1 < c.toNat) ∨ (0 < i + lead l ∧ c.toNat = 0) then none else some (dig (l.take (lead l + 1)), l.drop (lead l + 1))
  | [], i, hi => by simp [rdGo, lead]
  | c :: r, i, hi => by
    have hc := UInt8.toNat_lt c
    simp only [rdGo, lead]
    by_cases hx : 127 < c.toNat
    · simp only [if_pos hx]
      have e1 : ¬ c.toNat < 128 := by omega
      by_cases h9 : i = 9
      · subst h9
        rw [if_pos (.inl ⟨rfl, by omega⟩), if_pos (.inr (by omega))]
      · rw [if_neg (by omega), if_neg e1, rdGo_lead r (i + 1) (by omega)]
        simp only [List.length_cons, List.getElem?_cons_succ, List.take_succ_cons, List.drop_succ_cons, dig]
        have e2 : i + 1 + lead r = i + (lead r + 1) := by omega
        rw [e2]
        by_cases h1 : lead r = r.length ∨ 9 < i + (lead r + 1)
        · rw [if_pos h1, if_pos (by omega)]
        · rw [if_neg h1, if_neg (by omega)]
          cases r[lead r]? with
          | none => rfl
          | some d =>
            simp only []
            split <;> rename_i h <;> (split at h <;> simp_all)
    · simp only [if_neg hx, Nat.add_zero, List.length_cons, List.getElem?_cons_zero, List.take_succ_cons, List.drop_succ_cons, List.take_zero, List.drop_zero, dig]
      have e1 : c.toNat < 128 := by omega
      rw [if_neg (by omega : ¬ (0 = r.length + 1 ∨ 9 < i))]
      by_cases h1 : (i = 9 ∧ 1 < c.toNat) ∨ (0 < i ∧ c.toNat = 0)
      · rw [if_pos h1, if_pos h1]
      · rw [if_neg h1, if_neg h1, if_pos e1]
        have : c.toNat % 128 = c.toNat := Nat.mod_eq_of_lt e1
        simp [this]
theorem rdNum_lead (l : List UInt8) : rdNum l = if lead l = l.length ∨ 9 < lead l ∨ (lead l = 9 ∧ 1 < (l.getD (lead l) 0).toNat) ∨ (0 < lead l ∧ (l.getD (lead l) 0).toNat = 0) then none else some (dig (l.take (lead l + 1)), l.drop (lead l + 1)) := by
  have h := rdGo_lead l 0 (by omega)
  simp only [Nat.zero_add] at h
  rw [rdNum, h]
  have hle := lead_le l
  by_cases h1 : lead l = l.length ∨ 9 < lead l
  · rw [if_pos h1, if_pos (by omega)]
  · rw [if_neg h1]
    have hlt : lead l < l.length := by omega
    have hg : l[lead l]? = some (l.getD (lead l) 0) := by simp [List.getD, hlt]
    rw [hg]
    simp only []
    by_cases h2 : (lead l = 9 ∧ 1 < (l.getD (lead l) 0).toNat) ∨ (0 < lead l ∧ (l.getD (lead l) 0).toNat = 0)
    · rw [if_pos h2, if_pos (.inr (.inr h2))]
    · rw [if_neg h2, if_neg (by rintro (h | h | h); exact h1 (.inl h); exact h1 (.inr h); exact h2 h)]
theorem wholeN_lead (l : List UInt8) : wholeN l = if lead l = l.length ∨ 9 < lead l ∨ (lead l = 9 ∧ 1 < (l.getD (lead l) 0).toNat) ∨ (0 < lead l ∧ (l.getD (lead l) 0).toNat = 0) then 0 else lead l + 1 := by
  rw [wholeN, rdNum_lead]
  have hle := lead_le l
  split
  · rename_i h; split at h
    · cases h
    · rename_i hn
      rw [if_neg hn]; cases h
      simp only [List.length_drop]; omega
  · rename_i h; split at h
    · rename_i hp; rw [if_pos hp]
    · cases h
theorem rdNum_whole {l : List UInt8} : rdNum l = if wholeN l = 0 then none else some (dig (l.take (wholeN l)), l.drop (wholeN l)) := by
  rw [rdNum_lead, wholeN_lead]
  by_cases h : lead l = l.length ∨ 9 < lead l ∨ (lead l = 9 ∧ 1 < (l.getD (lead l) 0).toNat) ∨ (0 < lead l ∧ (l.getD (lead l) 0).toNat = 0)
  · rw [if_pos h, if_pos h, if_pos rfl]
  · rw [if_neg h, if_neg h, if_neg (by omega)]
theorem wholeN_le (l : List UInt8) : wholeN l ≤ l.length ∧ wholeN l ≤ 10 := by
  have := lead_le l
  rw [wholeN_lead]; split <;> omega
theorem dig_take {l : List UInt8} {k m : Nat} {c : UInt8} (hk : l[k]? = some c) (hm : k < m) : dig ((l.take m).drop k) = c.toNat % 128 + 128 * dig ((l.take m).drop (k + 1)) := by
  have h1 : (l.take m)[k]? = some c := by rw [List.getElem?_take]; simp [hm, hk]
  have h2 : (l.take m).drop k = c :: (l.take m).drop (k + 1) := by rw [List.drop_eq_getElem?_toList_append, h1]; rfl
  rw [h2, dig]
theorem dig_drop_le : ∀ (l : List UInt8) (k : Nat), dig (l.drop k) ≤ dig l
  | [], k => by simp
  | c :: r, 0 => Nat.le_refl _
  | c :: r, k + 1 => by simp only [List.drop_succ_cons, dig]; have := dig_drop_le r k; omega
end Go.Vc
