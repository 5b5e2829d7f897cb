/- A part of the proof: steps and lemmas for the walks through the given program. -/
import Derived.Test.YtogafjlbpodgjaaGreatGb
namespace Go.Vc
/-- a number's form -/
def wNum (n : Nat) : List UInt8 := if h : n < 128 then [UInt8.ofNat n] else UInt8.ofNat (128 + n % 128) :: wNum (n / 128)
termination_by n
decreasing_by omega
theorem wNum_lt {n : Nat} (h : n < 128) : wNum n = [UInt8.ofNat n] := by unfold wNum; simp [h]
theorem wNum_ge {n : Nat} (h : 128 ≤ n) : wNum n = UInt8.ofNat (128 + n % 128) :: wNum (n / 128) := by rw [wNum]; simp [show ¬ n < 128 by omega]
theorem wNum_pos (n : Nat) : 1 ≤ (wNum n).length := by
  by_cases h : n < 128
  · rw [wNum_lt h]; simp
  · rw [wNum_ge zo]; simp
theorem wNum_len : ∀ (k n : Nat), n < 128 ^ (k + 1) → (wNum n).length ≤ k + 1
  | 0, n, h => by rw [wNum_lt (by simpa using h)]; simp
  | k + 1, n, h => by
    by_cases hn : n < 128
    · rw [wNum_lt hn]; simp
    · rw [wNum_ge zo]
      have : n / 128 < 128 ^ (k + 1) := by rw [Nat.div_lt_iff_lt_mul zo]; rw [Nat.pow_succ] at h; exact h
      have := wNum_len k _ this
      simp; omega
theorem wNum_len10 {n : Nat} (h : n < 18446744073709551616) : (wNum n).length ≤ 10 := wNum_len 9 n zo
def wFlag (b : Bool) : List UInt8 := [if b then 1 else 0]
def wBytes (l : List UInt8) : List UInt8 := wNum l.length ++ l
/-- what a reader made of -/
def Rd (eR : TypeId) (w : World) (b : Nat) (F : Nat → Prop) (l : List UInt8) : Prop := ∃ a c, Blk w b [.slice (some a) l.length c] eR ∧ Bv w F (.slice (some a) l.length c) l
theorem Rd.keep {eR : TypeId} {w w' : World} {b : Nat} {F K : Nat → Prop} {l : List UInt8} (h : Rd eR w b F l) (k : Keep K w w') (h1 : ¬ K b) (h2 : ∀ b, F b → ¬ K b) : Rd eR w' b F l := by
  obtain ⟨a, c, hb, hv⟩ := h
  exact ⟨a, c, hb.keep k h1, hv.keep k fun b _ hb => h2 b hb⟩
theorem Rd.ext {eR : TypeId} {w w' : World} {b : Nat} {F : Nat → Prop} {l : List UInt8} (h : Rd eR w b F l) (k : Ext w w') : Rd eR w' b F l := h.keep k (fun x => x) (fun _ _ x => x)
/-- reading a number: from its byte number i on -/
def rdGo : Nat → List UInt8 → Option (Nat × List UInt8)
  | _, [] => none
  | i, c :: r => if (i = 9 ∧ 1 < c.toNat) ∨ (0 < i ∧ c.toNat = 0) then none else if c.toNat < 128 then some (c.toNat, r) else
    match rdGo (i + 1) r with
    | some (n, r') => some (c.toNat % 128 + 128 * n, r')
    | none => none
def rdNum (l : List UInt8) : Option (Nat × List UInt8) := rdGo 0 l
theorem rdGo_suffix : ∀ (l : List UInt8) (i : Nat) {n : Nat} {r : List UInt8}, rdGo i l = some (n, r) → ∃ k, 0 < k ∧ k ≤ l.length ∧ r = l.drop k
  | [], i, n, r, h => by simp [rdGo] at h
  | c :: l, i, n, r, h => by
    simp only [rdGo] at h
    split at h
    · cases h
    · split at h
      · cases h; exact ⟨1, by simp⟩
      · split at h
        · rename_i n' r' hr
          cases h
          obtain ⟨k, h1, h2, h3⟩ := rdGo_suffix l (i + 1) hr
          exact ⟨k + 1, by omega, by simp; omega, by simp [h3]⟩
        · cases h
/-- the number itself stays below its bound -/
theorem rdGo_lt : ∀ (l : List UInt8) (i : Nat) {n : Nat} {r : List UInt8}, i ≤ 9 → rdGo i l = some (n, r) → n * 128 ^ i < 18446744073709551616
  | [], i, n, r, _, h => by simp [rdGo] at h
  | c :: l, i, n, r, hi, h => by
    simp only [rdGo] at h
    split at h
    · cases h
    · rename_i hc
      have hc' : ¬ (i = 9 ∧ 1 < c.toNat) := fun x => hc (.inl x)
      split at h
      · rename_i h128
        cases h
        rcases Nat.lt_or_ge i 9 with h9 | h9
        · have h1 : 128 ^ i ≤ 128 ^ 8 := Nat.pow_le_pow_right zo zo
          calc c.toNat * 128 ^ i ≤ 127 * 128 ^ 8 := Nat.mul_le_mul zo h1
            _ < 18446744073709551616 := by decide
        · have hi9 : i = 9 := by omega
          subst hi9
          have : c.toNat ≤ 1 := by omega
          calc c.toNat * 128 ^ 9 ≤ 1 * 128 ^ 9 := Nat.mul_le_mul_right _ this
            _ < 18446744073709551616 := by decide
      · rename_i h128
        split at h
        · rename_i n' r' hr
          cases h
          have hi8 : i + 1 ≤ 9 := by
            rcases Nat.lt_or_ge i 9 with h9 | h9
            · omega
            · exfalso; omega
          have ih := rdGo_lt l (i + 1) hi8 hr
          have e1 : 128 ^ (i + 1) = 128 * 128 ^ i := by rw [Nat.pow_succ]; omega
          rw [e1] at ih
          have hdvd : ∃ m, 18446744073709551616 = m * (128 * 128 ^ i) := by
            have : i ≤ 8 := by omega
            refine ⟨2 ^ (64 - 7 * (i + 1)), ?_⟩
            have e2 : (128 : Nat) * 128 ^ i = 2 ^ (7 * (i + 1)) := by rw [← e1, Nat.pow_mul]
            rw [e2, ← Nat.pow_add]
            rw [show 64 - 7 * (i + 1) + 7 * (i + 1) = 64 by omega]
          obtain ⟨m, hm⟩ := hdvd
          have hpos : 0 < 128 * 128 ^ i := Nat.mul_pos zo (Nat.pow_pos zo)
          have hlt : n' < m := by
            rw [hm] at ih
            exact Nat.lt_of_mul_lt_mul_right ih
          have : (c.toNat % 128 + 128 * n') * 128 ^ i < m * (128 * 128 ^ i) := by
            calc (c.toNat % 128 + 128 * n') * 128 ^ i < (128 + 128 * n') * 128 ^ i := Nat.mul_lt_mul_of_pos_right zo (Nat.pow_pos zo)
              _ = (n' + 1) * (128 * 128 ^ i) := by rw [show 128 + 128 * n' = (n' + 1) * 128 by omega, Nat.mul_assoc]
              _ ≤ m * (128 * 128 ^ i) := Nat.mul_le_mul_right _ hlt
          rw [hm]; exact this
        · cases h
theorem rdNum_lt {l : List UInt8} {n : Nat} {r : List UInt8} (h : rdNum l = some (n, r)) : n < 18446744073709551616 := by
  have := rdGo_lt l 0 zo h
  simpa using this
theorem rdGo_wNum : ∀ (n i : Nat) (r : List UInt8), i ≤ 9 → n * 128 ^ i < 18446744073709551616 → (0 < i → 0 < n) → rdGo i (wNum n ++ r) = some (n, r) := by
  intro n
  induction n using Nat.strongRecOn with
  | _ n ih =>
    intro i r hi hlt hpos
    by_cases hn : n < 128
    · rw [wNum_lt hn]
      have e1 : (UInt8.ofNat n).toNat = n := u8n zo
      simp only [List.cons_append, List.nil_append, rdGo, e1]
      have h1 : ¬ ((i = 9 ∧ 1 < n) ∨ (0 < i ∧ n = 0)) := by
        rintro (⟨rfl, h⟩ | ⟨h, h'⟩)
        · have : 2 * 128 ^ 9 ≤ n * 128 ^ 9 := Nat.mul_le_mul_right _ h
          have e9 : (2 : Nat) * 128 ^ 9 = 18446744073709551616 := by decide
          omega
        · have := hpos h; omega
      rw [if_neg h1, if_pos hn]
    · have hge : 128 ≤ n := by omega
      rw [wNum_ge hge]
      have e1 : (UInt8.ofNat (128 + n % 128)).toNat = 128 + n % 128 := u8n zo
      simp only [List.cons_append, rdGo, e1]
      have hi8 : i + 1 ≤ 9 := by
        rcases Nat.lt_or_ge i 9 with h | h
        · exact h
        · exfalso
          have h9 : i = 9 := by omega
          subst h9
          have : 128 * 128 ^ 9 ≤ n * 128 ^ 9 := Nat.mul_le_mul_right _ hge
          have e9 : (128 : Nat) * 128 ^ 9 = 1180591620717411303424 := by decide
          omega
      rw [if_neg zo, if_neg zo]
      have hd : n / 128 * 128 ≤ n := Nat.div_mul_le_self n 128
      have h2 : n / 128 * 128 ^ (i + 1) < 18446744073709551616 := by
        calc n / 128 * 128 ^ (i + 1) = n / 128 * 128 * 128 ^ i := by rw [Nat.pow_succ, Nat.mul_comm (128 ^ i) 128, Nat.mul_assoc]
          _ ≤ n * 128 ^ i := Nat.mul_le_mul_right _ hd
          _ < _ := hlt
      rw [ih (n / 128) zo (i + 1) r hi8 h2 (fun _ => by omega)]
      have : (128 + n % 128) % 128 + 128 * (n / 128) = n := by omega
      simp only [this]
theorem rdNum_wNum {n : Nat} (h : n < 18446744073709551616) (r : List UInt8) : rdNum (wNum n ++ r) = some (n, r) := rdGo_wNum n 0 r zo (by simpa using h) zo
def rdFlag (l : List UInt8) : Option (Bool × List UInt8) := match l with
  | [] => none
  | c :: r => if 1 < c.toNat then none else some (decide (0 < c.toNat), r)
end Go.Vc

namespace Go.Vc
set_option linter.unusedVariables false
/-- bytes that are read are the form of what is read -/
theorem rdGo_form : ∀ (l : List UInt8) (i : Nat) {n : Nat} {r : List UInt8}, rdGo i l = some (n, r) → l = wNum n ++ r ∧ (0 < i → 0 < n)
  | [], i, n, r, h => by simp [rdGo] at h
  | c :: l, i, n, r, h => by
    have hc256 : c.toNat < 256 := UInt8.toNat_lt c
    simp only [rdGo] at h
    split at h
    · cases h
    · rename_i hno
      split at h
      · rename_i hlt
        cases h
        rw [wNum_lt hlt]
        refine ⟨by simp, fun hi => ?_⟩
        rcases Nat.eq_zero_or_pos c.toNat with h0 | h0
        · exact absurd (Or.inr ⟨hi, h0⟩) hno
        · exact h0
      · rename_i hge
        split at h
        · rename_i n' r' hr
          cases h
          obtain ⟨h1, h2⟩ := rdGo_form l (i + 1) hr
          have hp : 0 < n' := h2 zo
          have hm : (c.toNat % 128 + 128 * n') % 128 = c.toNat % 128 := by omega
          have hd : (c.toNat % 128 + 128 * n') / 128 = n' := by omega
          rw [wNum_ge (n := c.toNat % 128 + 128 * n') zo, hm, hd]
          refine ⟨?_, fun _ => by omega⟩
          have : UInt8.ofNat (128 + c.toNat % 128) = c := by
            have : 128 + c.toNat % 128 = c.toNat := by omega
            rw [this]; simp
          rw [this, h1]; rfl
        · cases h
theorem rdNum_form {l : List UInt8} {n : Nat} {r : List UInt8} (h : rdNum l = some (n, r)) : l = wNum n ++ r := (rdGo_form l 0 h).1
end Go.Vc

namespace Go.Vc
set_option linter.unusedVariables false
end Go.Vc

namespace Go.Vc
set_option linter.unusedVariables false
/-- the weight of digits -/
def dig : List UInt8 → Nat
  | [] => 0
  | c :: r => c.toNat % 128 + 128 * dig r
/-- how many bytes over 127 stand ahead -/
def lead : List UInt8 → Nat
  | [] => 0
  | c :: r => if 127 < c.toNat then lead r + 1 else 0
theorem lead_le : ∀ l, lead l ≤ l.length
  | [] => Nat.le_refl _
  | c :: r => by simp only [lead]; split <;> (have := lead_le r; simp; try omega)
theorem lead_at : ∀ (l : List UInt8) (k : Nat) (c : UInt8), k < lead l → l[k]? = some c → 127 < c.toNat
  | [], k, c, h, _ => by simp [lead] at h
  | x :: r, k, c, h, hk => by
    simp only [lead] at h
    split at h
    · rename_i hx
      cases k with
      | zero => simp at hk; subst hk; exact hx
      | succ k => exact lead_at r k c zo (by simpa using hk)
    · omega
theorem lead_end : ∀ (l : List UInt8) (c : UInt8), l[lead l]? = some c → c.toNat ≤ 127
  | [], c, h => by simp [lead] at h
  | x :: r, c, h => by
    simp only [lead] at h
    split at h
    · exact lead_end r c (by simpa using h)
    · rename_i hx; simp at h; subst h; omega
/-- the form's length: 0 if there is none -/
def wholeN (l : List UInt8) : Nat := match rdNum l with
  | some (_, r) => l.length - r.length
  | none => 0
theorem rdGo_lead : ∀ (l : List UInt8) (i : Nat), i ≤ 9 → rdGo i l = if lead l = l.length ∨ 9 < i + lead l then none else match l[lead l]? with
    | none => none
    | some c => if (i + lead l = 9 ∧ 1 < c.toNat) ∨ (0 < i + lead l ∧ c.toNat = 0) then none else some (dig (l.take (lead l + 1)), l.drop (lead l + 1))
  | [], i, hi => by simp [rdGo, lead]
  | c :: r, i, hi => by
    have hc := UInt8.toNat_lt c
    simp only [rdGo, lead]
    by_cases hx : 127 < c.toNat
    · simp only [if_pos hx]
      have e1 : ¬ c.toNat < 128 := by omega
      by_cases h9 : i = 9
      · subst h9
        rw [if_pos (.inl ⟨rfl, by omega⟩), if_pos (.inr zo)]
      · rw [if_neg zo, if_neg e1, rdGo_lead r (i + 1) zo]
        simp only [List.length_cons, List.getElem?_cons_succ, List.take_succ_cons, List.drop_succ_cons, dig]
        have e2 : i + 1 + lead r = i + (lead r + 1) := by omega
        rw [e2]
        by_cases h1 : lead r = r.length ∨ 9 < i + (lead r + 1)
        · rw [if_pos h1, if_pos zo]
        · rw [if_neg h1, if_neg zo]
          cases r[lead r]? with
          | none => rfl
          | some d =>
            simp only []
            split <;> rename_i h <;> (split at h <;> simp_all)
    · simp only [if_neg hx, Nat.add_zero, List.length_cons, List.getElem?_cons_zero, List.take_succ_cons, List.drop_succ_cons, List.take_zero, List.drop_zero, dig]
      have e1 : c.toNat < 128 := by omega
      rw [if_neg (by omega : ¬ (0 = r.length + 1 ∨ 9 < i))]
      by_cases h1 : (i = 9 ∧ 1 < c.toNat) ∨ (0 < i ∧ c.toNat = 0)
      · rw [if_pos h1, if_pos h1]
      · rw [if_neg h1, if_neg h1, if_pos e1]
        have : c.toNat % 128 = c.toNat := Nat.mod_eq_of_lt e1
        simp [this]
theorem rdNum_lead (l : List UInt8) : rdNum l = if lead l = l.length ∨ 9 < lead l ∨ (lead l = 9 ∧ 1 < (l.getD (lead l) 0).toNat) ∨ (0 < lead l ∧ (l.getD (lead l) 0).toNat = 0) then none else some (dig (l.take (lead l + 1)), l.drop (lead l + 1)) := by
  have h := rdGo_lead l 0 zo
  simp only [Nat.zero_add] at h
  rw [rdNum, h]
  have hle := lead_le l
  by_cases h1 : lead l = l.length ∨ 9 < lead l
  · rw [if_pos h1, if_pos zo]
  · rw [if_neg h1]
    have hlt : lead l < l.length := by omega
    have hg : l[lead l]? = some (l.getD (lead l) 0) := by simp [List.getD, hlt]
    rw [hg]
    simp only []
    by_cases h2 : (lead l = 9 ∧ 1 < (l.getD (lead l) 0).toNat) ∨ (0 < lead l ∧ (l.getD (lead l) 0).toNat = 0)
    · rw [if_pos h2, if_pos (.inr (.inr h2))]
    · rw [if_neg h2, if_neg (by rintro (h | h | h); exact h1 (.inl h); exact h1 (.inr h); exact h2 h)]
theorem wholeN_lead (l : List UInt8) : wholeN l = if lead l = l.length ∨ 9 < lead l ∨ (lead l = 9 ∧ 1 < (l.getD (lead l) 0).toNat) ∨ (0 < lead l ∧ (l.getD (lead l) 0).toNat = 0) then 0 else lead l + 1 := by
  rw [wholeN, rdNum_lead]
  have hle := lead_le l
  split
  · rename_i h; split at h
    · cases h
    · rename_i hn
      rw [if_neg hn]; cases h
      simp only [List.length_drop]; omega
  · rename_i h; split at h
    · rename_i hp; rw [if_pos hp]
    · cases h
theorem rdNum_whole {l : List UInt8} : rdNum l = if wholeN l = 0 then none else some (dig (l.take (wholeN l)), l.drop (wholeN l)) := by
  rw [rdNum_lead, wholeN_lead]
  by_cases h : lead l = l.length ∨ 9 < lead l ∨ (lead l = 9 ∧ 1 < (l.getD (lead l) 0).toNat) ∨ (0 < lead l ∧ (l.getD (lead l) 0).toNat = 0)
  · rw [if_pos h, if_pos h, if_pos rfl]
  · rw [if_neg h, if_neg h, if_neg zo]
theorem wholeN_le (l : List UInt8) : wholeN l ≤ l.length ∧ wholeN l ≤ 10 := by
  have := lead_le l
  rw [wholeN_lead]; split <;> omega
theorem dig_take {l : List UInt8} {k m : Nat} {c : UInt8} (hk : l[k]? = some c) (hm : k < m) : dig ((l.take m).drop k) = c.toNat % 128 + 128 * dig ((l.take m).drop (k + 1)) := by
  have h1 : (l.take m)[k]? = some c := by rw [List.getElem?_take]; simp [hm, hk]
  have h2 : (l.take m).drop k = c :: (l.take m).drop (k + 1) := by rw [List.drop_eq_getElem?_toList_append, h1]; rfl
  rw [h2, dig]
theorem dig_drop_le : ∀ (l : List UInt8) (k : Nat), dig (l.drop k) ≤ dig l
  | [], k => by simp
  | c :: r, 0 => Nat.le_refl _
  | c :: r, k + 1 => by simp only [List.drop_succ_cons, dig]; have := dig_drop_le r k; omega
end Go.Vc
