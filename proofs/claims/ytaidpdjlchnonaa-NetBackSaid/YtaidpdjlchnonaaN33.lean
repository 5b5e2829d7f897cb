/- A part of the proof: steps and lemmas for the walks through the given program. -/
import Derived.Test.YtaidpdjlchnonaaN32
namespace Go.Proofs.Ytaidpdjlchnonaa
open Go.Vc
set_option linter.unusedVariables false
set_option linter.unusedSimpArgs false
set_option maxRecDepth 100000

theorem sm_ok {is : Bool} {most : Nat} {s : RSt} (h : (smS is most s).2 = 0) : s.2 = 0 ∧ s.1 = optW is (wNum (smV is most s).toNat) ++ (smS is most s).1 := by
  obtain ⟨l, e⟩ := s
  by_cases hc : is = true ∧ e = 0
  · obtain ⟨rfl, rfl⟩ := hc
    rcases hd : rdNum l with _ | ⟨n, r⟩
    · simp [smS, hd] at h
    · by_cases hn : n ≤ most
      · have := rdNum_form hd
        have h2 : smS true most (l, 0) = (r, 0) := by simp [smS, hd, hn]
        have h3 : smV true most (l, 0) = (n : Int) := by simp [smV, hd, hn]
        rw [h2, h3]; exact ⟨rfl, by simpa [optW] using this⟩
      · simp [smS, hd, hn] at h
  · have h2 : smS is most (l, e) = (l, e) := by rw [smS, if_neg hc]
    have h3 : smV is most (l, e) = 0 := by rw [smV, if_neg hc]
    rw [h2] at h ⊢
    have : is = false := by cases is; rfl; exact absurd ⟨rfl, h⟩ hc
    subst this
    exact ⟨h, by simp [optW]⟩
theorem sm_back {is : Bool} {most n : Nat} {r : List UInt8} (hn : n ≤ most) (hm : most < 18446744073709551616) : smV is most (optW is (wNum n) ++ r, 0) = (if is = true then (n : Int) else 0) ∧ smS is most (optW is (wNum n) ++ r, 0) = (r, 0) := by
  cases is
  · simp [smV, smS, optW]
  · have h := rdNum_wNum (n := n) (by omega) r
    simp [smV, smS, optW, h, hn]
theorem rdList_e4 : ∀ (n : Nat) (l : List UInt8) (e : Int), rdList rdE n l = .error e → e = 4
  | 0, l, e, h => by cases h
  | n + 1, l, e, h => by
    rw [rdList] at h
    rcases hq : rdE l with e2 | ⟨x, l2⟩
    · rw [hq] at h; simp only [] at h
      have h2 : e2 = 4 := by
        rw [rdE] at hq
        rcases hd : rdNum l with _ | ⟨k, l1⟩
        · rw [hd] at hq; cases hq; rfl
        · rw [hd] at hq; simp only [] at hq
          rcases hd2 : rdBytes 1048576 l1 with e3 | ⟨d, l3⟩
          · rw [hd2] at hq; cases hq; rfl
          · rw [hd2] at hq; simp only [] at hq
            split at hq
            · cases hq
            · cases hq; rfl
      cases h; exact h2
    · rw [hq] at h; simp only [] at h
      rcases hq2 : rdList rdE n l2 with e3 | ⟨ys, l3⟩
      · rw [hq2] at h; cases h; exact rdList_e4 n l2 _ hq2
      · rw [hq2] at h; cases h
theorem rE1_ok {l : List UInt8} (h : (rE1 l).2.2 = 0) : l = wList spE (rE1 l).1 ++ (rE1 l).2.1 := by
  rcases hq : tryRd (rdList rdE) 64 l with e | ⟨es, r⟩
  · have h1 : rE1 l = ([], l, e) := by rw [rE1, hq]
    rw [h1] at h; simp only at h
    rw [tryRd] at hq
    rcases hd : rdNum l with _ | ⟨k, l'⟩
    · rw [hd] at hq; cases hq; cases h
    · rw [hd] at hq; simp only [] at hq
      by_cases hm : k ≤ 64
      · rw [if_pos hm] at hq
        have := rdList_e4 _ _ _ hq; omega
      · rw [if_neg hm] at hq; cases hq; cases h
  · have h1 : rE1 l = (es, r, 0) := by rw [rE1, hq]
    rw [h1]
    rw [tryRd] at hq
    rcases hd : rdNum l with _ | ⟨k, l'⟩
    · rw [hd] at hq; cases hq
    · rw [hd] at hq; simp only [] at hq
      by_cases hm : k ≤ 64
      · rw [if_pos hm] at hq
        obtain ⟨g1, g2⟩ := rdList_form (sp := spE) (fun l x r h => (rdE_ok h).1) _ _ _ _ hq
        have g3 := rdNum_form hd
        rw [wList, g1, List.append_assoc, ← g2]; exact g3
      · rw [if_neg hm] at hq; cases hq
theorem gE_ok {is : Bool} {s : RSt} (h : (gE is s).2.2 = 0) : s.2 = 0 ∧ s.1 = optW is (wList spE (gE is s).1) ++ (gE is s).2.1 := by
  obtain ⟨l, e⟩ := s
  by_cases hc : is = true ∧ e = 0
  · obtain ⟨rfl, rfl⟩ := hc
    have h2 : gE true (l, 0) = ((rE1 l).1, ((rE1 l).2.1, (rE1 l).2.2)) := by rw [gE, if_pos ⟨rfl, rfl⟩]
    rw [h2] at h ⊢
    exact ⟨rfl, rE1_ok h⟩
  · have h2 : gE is (l, e) = ([], (l, e)) := by rw [gE, if_neg hc]
    rw [h2] at h ⊢
    have : is = false := by cases is; rfl; exact absurd ⟨rfl, h⟩ hc
    subst this
    exact ⟨h, by simp [optW]⟩
theorem rF1_ok {l : List UInt8} (h : (rF1 l).2.2 = 0) : l = wFlag (rF1 l).1 ++ (rF1 l).2.1 := by
  cases l with
  | nil => simp [rF1, rdFlag] at h
  | cons c r =>
    by_cases hc : 1 < c.toNat
    · simp [rF1, rdFlag, hc] at h
    · have h2 : rF1 (c :: r) = (decide (0 < c.toNat), r, 0) := by simp [rF1, rdFlag, hc]
      rw [h2]
      have h3 : c = if 0 < c.toNat then 1 else 0 := by
        split
        · exact UInt8.toNat_inj.1 (by show c.toNat = 1; omega)
        · exact UInt8.toNat_inj.1 (by show c.toNat = 0; omega)
      by_cases h4 : 0 < c.toNat
      · rw [if_pos h4] at h3; simp [wFlag, h4]; exact h3
      · rw [if_neg h4] at h3; simp [wFlag, h4]; exact h3
theorem gF_ok {is : Bool} {s : RSt} (h : (gF is s).2.2 = 0) : s.2 = 0 ∧ s.1 = optW is (wFlag (gF is s).1) ++ (gF is s).2.1 := by
  obtain ⟨l, e⟩ := s
  by_cases hc : is = true ∧ e = 0
  · obtain ⟨rfl, rfl⟩ := hc
    have h2 : gF true (l, 0) = ((rF1 l).1, ((rF1 l).2.1, (rF1 l).2.2)) := by rw [gF, if_pos ⟨rfl, rfl⟩]
    rw [h2] at h ⊢
    exact ⟨rfl, rF1_ok h⟩
  · have h2 : gF is (l, e) = (false, (l, e)) := by rw [gF, if_neg hc]
    rw [h2] at h ⊢
    have : is = false := by cases is; rfl; exact absurd ⟨rfl, h⟩ hc
    subst this
    exact ⟨h, by simp [optW]⟩
theorem rS1_ok {l : List UInt8} (h : (rS1 l).2.2 = 0) : l = wBytes (rS1 l).1 ++ (rS1 l).2.1 := by
  rcases hq : rdBytes 1048576 l with e | ⟨d, r⟩
  · have h1 : rS1 l = ([], l, e) := by rw [rS1, hq]
    rw [h1] at h; simp only at h
    rw [rdBytes, tryRd] at hq
    rcases hd : rdNum l with _ | ⟨k, l'⟩
    · rw [hd] at hq; cases hq; cases h
    · rw [hd] at hq; simp only [] at hq
      by_cases hm : k ≤ 1048576
      · rw [if_pos hm, rdSome] at hq
        split at hq
        · cases hq
        · cases hq; cases h
      · rw [if_neg hm] at hq; cases hq; cases h
  · have h1 : rS1 l = (d, r, 0) := by rw [rS1, hq]
    rw [h1]; exact (rdBytes_le hq).2.2
theorem gS_ok {is : Bool} {s : RSt} (h : (gS is s).2.2 = 0) : s.2 = 0 ∧ s.1 = optW is (wBytes (gS is s).1) ++ (gS is s).2.1 := by
  obtain ⟨l, e⟩ := s
  by_cases hc : is = true ∧ e = 0
  · obtain ⟨rfl, rfl⟩ := hc
    have h2 : gS true (l, 0) = ((rS1 l).1, ((rS1 l).2.1, (rS1 l).2.2)) := by rw [gS, if_pos ⟨rfl, rfl⟩]
    rw [h2] at h ⊢
    exact ⟨rfl, rS1_ok h⟩
  · have h2 : gS is (l, e) = ([], (l, e)) := by rw [gS, if_neg hc]
    rw [h2] at h ⊢
    have : is = false := by cases is; rfl; exact absurd ⟨rfl, h⟩ hc
    subst this
    exact ⟨h, by simp [optW]⟩
theorem chain11 {l a1 a2 a3 a4 a5 a6 a7 a8 a9 a10 x0 x1 x2 x3 x4 x5 x6 x7 x8 x9 x10 : List UInt8} (h0 : l = x0 ++ a1) (h1 : a1 = x1 ++ a2) (h2 : a2 = x2 ++ a3) (h3 : a3 = x3 ++ a4) (h4 : a4 = x4 ++ a5) (h5 : a5 = x5 ++ a6) (h6 : a6 = x6 ++ a7) (h7 : a7 = x7 ++ a8) (h8 : a8 = x8 ++ a9) (h9 : a9 = x9 ++ a10) (h10 : a10 = x10 ++ []) : x0 ++ x1 ++ x2 ++ x3 ++ x4 ++ x5 ++ x6 ++ x7 ++ x8 ++ x9 ++ x10 = l := by
  subst h10 h9 h8 h7 h6 h5 h4 h3 h2 h1 h0
  simp
theorem read_ok {l : List UInt8} (h : (readN l).2 = 0) : (readN l).1 = rW l ∧ mayN (rW l) = true ∧ msW (rW l) = l := by
  by_cases hc : (rJ l).2.2 = 0 ∧ (rJ l).2.1 = [] ∧ mayN (rW l) = true
  · have h2 : readN l = (rW l, 0) := by rw [readN, if_pos hc]
    rw [h2]
    obtain ⟨j1, j2, j3⟩ := hc
    refine ⟨rfl, j3, ?_⟩
    obtain ⟨e10, h10⟩ := gS_ok (is := kNm (rK l) 5) (s := (rH l).2) j1
    obtain ⟨e9, h9⟩ := gF_ok (is := kNm (rK l) 4) (s := (rG l).2) e10
    obtain ⟨e8, h8⟩ := gE_ok (is := kNm (rK l) 3) (s := rD l 3) e9
    obtain ⟨e7, h7⟩ := sm_ok (is := kNm (rK l) 2) (most := 2147483647) (s := rD l 2) e8
    obtain ⟨e6, h6⟩ := sm_ok (is := kNm (rK l) 1) (most := 2147483647) (s := rD l 1) e7
    obtain ⟨e5, h5⟩ := sm_ok (is := kNm (rK l) 0) (most := 2147483647) (s := rD l 0) e6
    obtain ⟨e4, h4⟩ := sm_ok (is := true) (most := 2147483647) (s := rB l 3) e5
    obtain ⟨e3, h3⟩ := sm_ok (is := true) (most := 5) (s := rB l 2) e4
    obtain ⟨e2, h2⟩ := sm_ok (is := true) (most := 5) (s := rB l 1) e3
    obtain ⟨e1, h1⟩ := sm_ok (is := true) (most := 5) (s := rB l 0) e2
    obtain ⟨e0, h0⟩ := sm_ok (is := true) (most := 7) (s := (l, 0)) e1
    exact chain11 h0 h1 h2 h3 h4 h5 h6 h7 h8 h9 (h10.trans (congrArg _ j2))
  · have h2 : readN l = (msZ, 4) := by rw [readN, if_neg hc]
    rw [h2] at h; cases h
end Go.Proofs.Ytaidpdjlchnonaa
