/- A part of the proof: steps and lemmas for the walks through the given program. -/
import Derived.Test.YtaidpdjlchnonaaN32
namespace Go.Proofs.Ytaidpdjlchnonaa
open Go.Vc
set_option linter.unusedVariables false
set_option linter.unusedSimpArgs false
set_option maxRecDepth 100000

theorem sm_ok {is : Bool} {most : Nat} {s : RSt} (h : (smS is most s).2 = 0) : s.2 = 0 ∧ s.1 = optW is (wNum (smV is most s).toNat) ++ (smS is most s).1 := by
  obtain ⟨l, e⟩ := s
  by_cases hc : is = true ∧ e = 0
  · obtain ⟨rfl, rfl⟩ := hc
    rcases hd : rdNum l with _ | ⟨n, r⟩
    · simp [smS, hd] at h
    · by_cases hn : n ≤ most
      · have := rdNum_form hd
        have h2 : smS true most (l, 0) = (r, 0) := by simp [smS, hd, hn]
        have h3 : smV true most (l, 0) = (n : Int) := by simp [smV, hd, hn]
        rw [h2, h3]; exact ⟨rfl, by simpa [optW] using this⟩
      · simp [smS, hd, hn] at h
  · have h2 : smS is most (l, e) = (l, e) := by rw [smS, if_neg hc]
    have h3 : smV is most (l, e) = 0 := by rw [smV, if_neg hc]
    rw [h2] at h ⊢
    have : is = false := by cases is; rfl; exact absurd ⟨rfl, h⟩ hc
    subst this
    exact ⟨h, by simp [optW]⟩
theorem rdList_e4 : ∀ (n : Nat) (l : List UInt8) (e : Int), rdList rdE n l = .error e → e = 4
  | 0, l, e, h => by cases h
  | n + 1, l, e, h => by
    rw [rdList] at h
    rcases hq : rdE l with e2 | ⟨x, l2⟩
    · rw [hq] at h; simp only [] at h
      have h2 : e2 = 4 := by
        rw [rdE] at hq
        rcases hd : rdNum l with _ | ⟨k, l1⟩
        · rw [hd] at hq; cases hq; rfl
        · rw [hd] at hq; simp only [] at hq
          rcases hd2 : rdBytes 1048576 l1 with e3 | ⟨d, l3⟩
          · rw [hd2] at hq; cases hq; rfl
          · rw [hd2] at hq; simp only [] at hq
            split at hq
            · cases hq
            · cases hq; rfl
      cases h; exact h2
    · rw [hq] at h; simp only [] at h
      rcases hq2 : rdList rdE n l2 with e3 | ⟨ys, l3⟩
      · rw [hq2] at h; cases h; exact rdList_e4 n l2 _ hq2
      · rw [hq2] at h; cases h
theorem rE1_ok {l : List UInt8} (h : (rE1 l).2.2 = 0) : l = wList spE (rE1 l).1 ++ (rE1 l).2.1 := by
  rcases hq : tryRd (rdList rdE) 64 l with e | ⟨es, r⟩
  · have h1 : rE1 l = ([], l, e) := by rw [rE1, hq]
    rw [h1] at h; simp only at h
    rw [tryRd] at hq
    rcases hd : rdNum l with _ | ⟨k, l'⟩
    · rw [hd] at hq; cases hq; cases h
    · rw [hd] at hq; simp only [] at hq
      by_cases hm : k ≤ 64
      · rw [if_pos hm] at hq
        have := rdList_e4 _ _ _ hq; omega
      · rw [if_neg hm] at hq; cases hq; cases h
  · have h1 : rE1 l = (es, r, 0) := by rw [rE1, hq]
    rw [h1]
    rw [tryRd] at hq
    rcases hd : rdNum l with _ | ⟨k, l'⟩
    · rw [hd] at hq; cases hq
    · rw [hd] at hq; simp only [] at hq
      by_cases hm : k ≤ 64
      · rw [if_pos hm] at hq
        obtain ⟨g1, g2⟩ := rdList_form (sp := spE) (fun l x r h => (rdE_ok h).1) _ _ _ _ hq
        have g3 := rdNum_form hd
        rw [wList, g1, List.append_assoc, ← g2]; exact g3
      · rw [if_neg hm] at hq; cases hq
theorem gE_ok {is : Bool} {s : RSt} (h : (gE is s).2.2 = 0) : s.2 = 0 ∧ s.1 = optW is (wList spE (gE is s).1) ++ (gE is s).2.1 := by
  obtain ⟨l, e⟩ := s
  by_cases hc : is = true ∧ e = 0
  · obtain ⟨rfl, rfl⟩ := hc
    have h2 : gE true (l, 0) = ((rE1 l).1, ((rE1 l).2.1, (rE1 l).2.2)) := by rw [gE, if_pos ⟨rfl, rfl⟩]
    rw [h2] at h ⊢
    exact ⟨rfl, rE1_ok h⟩
  · have h2 : gE is (l, e) = ([], (l, e)) := by rw [gE, if_neg hc]
    rw [h2] at h ⊢
    have : is = false := by cases is; rfl; exact absurd ⟨rfl, h⟩ hc
    subst this
    exact ⟨h, by simp [optW]⟩
theorem rF1_ok {l : List UInt8} (h : (rF1 l).2.2 = 0) : l = wFlag (rF1 l).1 ++ (rF1 l).2.1 := by
  cases l with
  | nil => simp [rF1, rdFlag] at h
  | cons c r =>
    by_cases hc : 1 < c.toNat
    · simp [rF1, rdFlag, hc] at h
    · have h2 : rF1 (c :: r) = (decide (0 < c.toNat), r, 0) := by simp [rF1, rdFlag, hc]
      rw [h2]
      have h3 : c = if 0 < c.toNat then 1 else 0 := by
        split
        · exact UInt8.toNat_inj.1 (by show c.toNat = 1; omega)
        · exact UInt8.toNat_inj.1 (by show c.toNat = 0; omega)
      by_cases h4 : 0 < c.toNat
      · rw [if_pos h4] at h3; simp [wFlag, h4]; exact h3
      · rw [if_neg h4] at h3; simp [wFlag, h4]; exact h3
theorem gF_ok {is : Bool} {s : RSt} (h : (gF is s).2.2 = 0) : s.2 = 0 ∧ s.1 = optW is (wFlag (gF is s).1) ++ (gF is s).2.1 := by
  obtain ⟨l, e⟩ := s
  by_cases hc : is = true ∧ e = 0
  · obtain ⟨rfl, rfl⟩ := hc
    have h2 : gF true (l, 0) = ((rF1 l).1, ((rF1 l).2.1, (rF1 l).2.2)) := by rw [gF, if_pos ⟨rfl, rfl⟩]
    rw [h2] at h ⊢
    exact ⟨rfl, rF1_ok h⟩
  · have h2 : gF is (l, e) = (false, (l, e)) := by rw [gF, if_neg hc]
    rw [h2] at h ⊢
    have : is = false := by cases is; rfl; exact absurd ⟨rfl, h⟩ hc
    subst this
    exact ⟨h, by simp [optW]⟩
theorem rS1_ok {l : List UInt8} (h : (rS1 l).2.2 = 0) : l = wBytes (rS1 l).1 ++ (rS1 l).2.1 := by
  rcases hq : rdBytes 1048576 l with e | ⟨d, r⟩
  · have h1 : rS1 l = ([], l, e) := by rw [rS1, hq]
    rw [h1] at h; simp only at h
    rw [rdBytes, tryRd] at hq
    rcases hd : rdNum l with _ | ⟨k, l'⟩
    · rw [hd] at hq; cases hq; cases h
    · rw [hd] at hq; simp only [] at hq
      by_cases hm : k ≤ 1048576
      · rw [if_pos hm, rdSome] at hq
        split at hq
        · cases hq
        · cases hq; cases h
      · rw [if_neg hm] at hq; cases hq; cases h
  · have h1 : rS1 l = (d, r, 0) := by rw [rS1, hq]
    rw [h1]; exact (rdBytes_le hq).2.2
theorem gS_ok {is : Bool} {s : RSt} (h : (gS is s).2.2 = 0) : s.2 = 0 ∧ s.1 = optW is (wBytes (gS is s).1) ++ (gS is s).2.1 := by
  obtain ⟨l, e⟩ := s
  by_cases hc : is = true ∧ e = 0
  · obtain ⟨rfl, rfl⟩ := hc
    have h2 : gS true (l, 0) = ((rS1 l).1, ((rS1 l).2.1, (rS1 l).2.2)) := by rw [gS, if_pos ⟨rfl, rfl⟩]
    rw [h2] at h ⊢
    exact ⟨rfl, rS1_ok h⟩
  · have h2 : gS is (l, e) = ([], (l, e)) := by rw [gS, if_neg hc]
    rw [h2] at h ⊢
    have : is = false := by cases is; rfl; exact absurd ⟨rfl, h⟩ hc
    subst this
    exact ⟨h, by simp [optW]⟩
end Go.Proofs.Ytaidpdjlchnonaa
