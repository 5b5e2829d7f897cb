/- A part of the proof: steps and lemmas for the walks through the given program. -/
import Derived.Test.YtkaangdfpjkjpaaVc17
import GoSem.Extern.BytealgCompare
namespace Go.Vc
set_option linter.unusedVariables false
set_option linter.unusedSimpArgs false

/-! the order of bytes -/
theorem ltB_eq : ∀ x y : List UInt8, Op.bytesLess x y = decide (x < y)
  | [], [] => by simp [Op.bytesLess]
  | _ :: _, [] => by simp [Op.bytesLess]
  | [], _ :: _ => by simp [Op.bytesLess]
  | a :: x, b :: y => by
    have ih := ltB_eq x y
    simp only [Op.bytesLess, ih, List.cons_lt_cons_iff]
    by_cases h1 : a < b
    · simp [h1]
    · by_cases h2 : a = b
      · subst h2; simp [h1]
      · simp [h1, h2]
theorem lb_irrefl (x : List UInt8) : ¬ x < x := List.lt_irrefl x
theorem lb_trans {x y z : List UInt8} (h : x < y) (k : y < z) : x < z := List.lt_trans h k
theorem lb_tri (x y : List UInt8) : x < y ∨ x = y ∨ y < x := by
  induction x generalizing y with
  | nil => cases y with
    | nil => exact .inr (.inl rfl)
    | cons b y => exact .inl (List.nil_lt_cons _ _)
  | cons a x ih => cases y with
    | nil => exact .inr (.inr (List.nil_lt_cons _ _))
    | cons b y =>
      simp only [List.cons_lt_cons_iff]
      rcases Nat.lt_trichotomy a.toNat b.toNat with h | h | h
      · exact .inl (.inl (UInt8.lt_iff_toNat_lt.2 h))
      · have : a = b := UInt8.toNat_inj.1 h
        subst this
        rcases ih y with h | h | h
        · exact .inl (.inr ⟨rfl, h⟩)
        · exact .inr (.inl (by rw [h]))
        · exact .inr (.inr (.inr ⟨rfl, h⟩))
      · exact .inr (.inr (.inl (UInt8.lt_iff_toNat_lt.2 h)))
theorem lb_asymm {x y : List UInt8} (h : x < y) : ¬ y < x := fun k => lb_irrefl x (lb_trans h k)
theorem lb_not {x y : List UInt8} (h : ¬ x < y) : y < x ∨ y = x := by
  rcases lb_tri x y with a | a | a
  · exact absurd a h
  · exact .inr a.symm
  · exact .inl a
/-- what a comparison of bytes tells -/
def cmpB (x y : List UInt8) : Int := if x < y then -1 else if x = y then 0 else 1
def cmpG (x y : List UInt8) : Int :=
  match (List.range (min x.length y.length)).find? fun i => x.getD i 0 != y.getD i 0 with
  | some i => if x.getD i 0 < y.getD i 0 then -1 else 1
  | none => if x.length < y.length then -1 else if x.length > y.length then 1 else 0
theorem cmpG_eq : ∀ x y : List UInt8, cmpG x y = cmpB x y
  | [], [] => by simp [cmpG, cmpB]
  | _ :: _, [] => by simp [cmpG, cmpB]
  | [], _ :: _ => by simp [cmpG, cmpB]
  | a :: x, b :: y => by
    have ih := cmpG_eq x y
    unfold cmpG at ih ⊢
    have hm : min (a :: x).length (b :: y).length = min x.length y.length + 1 := by simp [Nat.succ_min_succ]
    rw [hm, List.range_succ_eq_map, List.find?_cons]
    by_cases hab : a = b
    · subst hab
      simp only [List.getD_cons_zero, bne_self_eq_false]
      rw [List.find?_map]
      have he : ((fun i => (a :: x).getD i 0 != (a :: y).getD i 0) ∘ Nat.succ) = fun i => x.getD i 0 != y.getD i 0 := by
        funext i; simp
      rw [he]
      have h1 : cmpB (a :: x) (a :: y) = cmpB x y := by
        have : ¬ a < a := by simp
        simp [cmpB, List.cons_lt_cons_iff, this]
      rw [h1, ← ih]
      cases (List.range (min x.length y.length)).find? fun i => x.getD i 0 != y.getD i 0 with
      | none => simp
      | some i => simp
    · have hb : (a != b) = true := by simpa using hab
      simp only [List.getD_cons_zero, hb]
      by_cases hlt : a < b
      · simp [cmpB, List.cons_lt_cons_iff, hlt]
      · simp [cmpB, List.cons_lt_cons_iff, hlt, hab]
theorem ba_getD (x : List UInt8) (i : Nat) (h : i < x.length) : (⟨x.toArray⟩ : ByteArray)[i]! = x.getD i 0 := by
  have h2 : i < (⟨x.toArray⟩ : ByteArray).size := by simpa [ByteArray.size] using h
  rw [getElem!_pos (⟨x.toArray⟩ : ByteArray) i h2]
  simp [h]
  rfl
theorem cmp_list (x y : List UInt8) : Extern.BytealgCompare.cmp ⟨x.toArray⟩ ⟨y.toArray⟩ = cmpB x y := by
  rw [← cmpG_eq]
  unfold Extern.BytealgCompare.cmp cmpG
  have hx : (⟨x.toArray⟩ : ByteArray).size = x.length := by simp [ByteArray.size]
  have hy : (⟨y.toArray⟩ : ByteArray).size = y.length := by simp [ByteArray.size]
  rw [hx, hy]
  have hf : (List.range (min x.length y.length)).find? (fun i => (⟨x.toArray⟩ : ByteArray)[i]! != (⟨y.toArray⟩ : ByteArray)[i]!) = (List.range (min x.length y.length)).find? (fun i => x.getD i 0 != y.getD i 0) := by
    have : ∀ l : List Nat, (∀ i ∈ l, i < min x.length y.length) → l.find? (fun i => (⟨x.toArray⟩ : ByteArray)[i]! != (⟨y.toArray⟩ : ByteArray)[i]!) = l.find? (fun i => x.getD i 0 != y.getD i 0) := by
      intro l hl
      induction l with
      | nil => rfl
      | cons i l ih =>
        have hi := hl i List.mem_cons_self
        rw [List.find?_cons, List.find?_cons, ba_getD x i (by omega), ba_getD y i (by omega), ih (fun j hj => hl j (List.mem_cons_of_mem _ hj))]
    exact this _ (fun i hi => by simpa using hi)
  rw [hf]
  cases h : (List.range (min x.length y.length)).find? fun i => x.getD i 0 != y.getD i 0 with
  | none => simp
  | some i =>
    have := List.mem_of_find?_eq_some h
    have hi : i < min x.length y.length := by simpa using this
    simp only [ba_getD x i (by omega), ba_getD y i (by omega)]
end Go.Vc
