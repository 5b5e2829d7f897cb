/- A part of the proof: steps and lemmas for the walks through the given program. -/
import Derived.Test.YtaidpdjlchnonaaN33
namespace Go.Proofs.Ytaidpdjlchnonaa
open Go.Vc
set_option linter.unusedVariables false
set_option linter.unusedSimpArgs false
set_option maxRecDepth 100000

theorem rdList_back {α : Type} {ρ : List UInt8 → Except Int (α × List UInt8)} {sp : α → List UInt8} : ∀ (xs : List α) (r : List UInt8), (∀ x ∈ xs, ∀ r, ρ (sp x ++ r) = .ok (x, r)) → rdList ρ xs.length ((xs.map sp).flatten ++ r) = .ok (xs, r)
  | [], r, _ => by simp [rdList]
  | x :: xs, r, h => by
    have h1 := rdList_back xs r (fun y hy => h y (List.mem_cons_of_mem _ hy))
    simp only [List.map_cons, List.flatten_cons, List.length_cons, rdList, List.append_assoc]
    rw [h x List.mem_cons_self]
    simp only []
    rw [h1]
theorem rdBytes_wB {x r : List UInt8} {most : Nat} (hl : x.length ≤ most) (hm : most < 18446744073709551616) : rdBytes most (wBytes x ++ r) = .ok (x, r) := by
  rw [rdBytes, tryRd, wBytes, List.append_assoc, rdNum_wNum (by omega)]
  simp only [hl, if_true]
  rw [rdSome, if_pos (by simp)]
  simp
theorem rdE_back {x : EnV} {r : List UInt8} (h : badE x = false) : rdE (spE x ++ r) = .ok (x, r) := by
  obtain ⟨n, d⟩ := x
  simp [badE, wiB] at h
  obtain ⟨⟨h1, h2⟩, h3⟩ := h
  obtain ⟨n, rfl⟩ := Int.eq_ofNat_of_zero_le (show 0 ≤ n by omega)
  rw [rdE, spE, List.append_assoc]
  simp only [Int.toNat_natCast, rdNum_wNum (n := n) (by omega) (wBytes d ++ r), rdBytes_wB (x := d) (r := r) (most := 1048576) h3 (by decide)]
  rw [if_pos (by omega)]
theorem rE1_back {es : List EnV} {r : List UInt8} (h : es.any badE = false) (hl : es.length ≤ 64) : rE1 (wList spE es ++ r) = (es, r, 0) := by
  have : tryRd (rdList rdE) 64 (wList spE es ++ r) = .ok (es, r) := by
    rw [tryRd, wList, List.append_assoc, rdNum_wNum (by omega)]
    simp only [hl, if_true]
    exact rdList_back es r fun x hx r => rdE_back (by have := (List.any_eq_false.1 h) x hx; simpa using this)
  rw [rE1, this]
theorem gE_back {is : Bool} {es : List EnV} {r : List UInt8} (h : es.any badE = false) (hl : es.length ≤ 64) (he : is = false → es = []) : gE is (optW is (wList spE es) ++ r, 0) = (es, (r, 0)) := by
  cases is
  · rw [he rfl]; simp [gE, optW]
  · have := rE1_back (r := r) h hl
    simp [gE, optW, this]
theorem gF_back {is : Bool} {b : Bool} {r : List UInt8} (he : is = false → b = false) : gF is (optW is (wFlag b) ++ r, 0) = (b, (r, 0)) := by
  cases is
  · rw [he rfl]; simp [gF, optW]
  · cases b <;> simp [gF, optW, rF1, rdFlag, wFlag]
theorem gS_back {is : Bool} {x : List UInt8} {r : List UInt8} (hl : x.length ≤ 1048576) (he : is = false → x = []) : gS is (optW is (wBytes x) ++ r, 0) = (x, (r, 0)) := by
  cases is
  · rw [he rfl]; simp [gS, optW]
  · have := rdBytes_wB (x := x) (r := r) (most := 1048576) hl (by decide)
    simp [gS, optW, rS1, this]
theorem optW_t (x : List UInt8) : optW true x = x := rfl
theorem sm_num {is : Bool} {most : Nat} {n : Int} {r l : List UInt8} (h0 : 0 ≤ n) (hn : n ≤ most) (hm : most < 18446744073709551616) (he : is = false → n = 0) (hl : l = optW is (wNum n.toNat) ++ r) : smV is most (l, 0) = n ∧ smS is most (l, 0) = (r, 0) := by
  subst hl
  have h := sm_back (is := is) (most := most) (n := n.toNat) (r := r) (by omega) hm
  refine ⟨h.1.trans ?_, h.2⟩
  cases is
  · simp [he rfl]
  · simp; omega
theorem read_back {m : Ms} (h : mayN m = true) : readN (msW m) = (m, 0) := by
  have hm := h
  obtain ⟨⟨⟨a1, a2⟩, ⟨a3, a4⟩, ⟨a5, a6⟩, _, ⟨a7, a8⟩, ⟨a9, a10⟩⟩, ⟨⟨b1, b2⟩, ⟨b3, b4⟩, ⟨b5, b6⟩, b7, b8, b9⟩, hbad, _⟩ := mayN_iff.1 h
  obtain ⟨c0, c1, c2, c3, c4, c5⟩ := bare_iff.1 b9
  obtain ⟨k, hk⟩ : ∃ k, k = m.kind := ⟨_, rfl⟩
  obtain ⟨l, hl⟩ : ∃ l, l = msW m := ⟨_, rfl⟩
  have hl2 : l = optW true (wNum m.kind.toNat) ++ (optW true (wNum m.fr.toNat) ++ (optW true (wNum m.to.toNat) ++ (optW true (wNum m.grp.toNat) ++ (optW true (wNum m.term.toNat) ++ (optW (kNm m.kind 0) (wNum m.idx.toNat) ++ (optW (kNm m.kind 1) (wNum m.lt.toNat) ++ (optW (kNm m.kind 2) (wNum m.com.toNat) ++ (optW (kNm m.kind 3) (wList spE m.ents) ++ (optW (kNm m.kind 4) (wFlag m.ok) ++ (optW (kNm m.kind 5) (wBytes m.snap) ++ [])))))))))) := by
    rw [hl]; simp only [msW, hdW, optW_t, List.append_assoc, List.append_nil]
  rw [← hl]
  clear hl
  have tf : true = false → ∀ {p : Prop}, p := fun h => by cases h
  obtain ⟨hK, hA⟩ := sm_num (is := true) (most := 7) (by omega) (by omega) (by decide) (fun h => tf h) hl2
  change rK l = _ at hK
  change rA l = _ at hA
  have hB0 : rB l 0 = rA l := rfl
  rw [hA] at hB0
  obtain ⟨v0, s0⟩ := sm_num (is := true) (most := 5) (n := m.fr) (by omega) (by omega) (by decide) (fun h => tf h) rfl
  have hB1 : rB l 1 = smS true 5 (rB l 0) := rfl
  rw [hB0, s0] at hB1
  rw [← hB0] at v0
  obtain ⟨v1, s1⟩ := sm_num (is := true) (most := 5) (n := m.to) (by omega) (by omega) (by decide) (fun h => tf h) rfl
  have hB2 : rB l 2 = smS true 5 (rB l 1) := rfl
  rw [hB1, s1] at hB2
  rw [← hB1] at v1
  obtain ⟨v2, s2⟩ := sm_num (is := true) (most := 5) (n := m.grp) (by omega) (by omega) (by decide) (fun h => tf h) rfl
  have hB3 : rB l 3 = smS true 5 (rB l 2) := rfl
  rw [hB2, s2] at hB3
  rw [← hB2] at v2
  obtain ⟨v3, s3⟩ := sm_num (is := true) (most := 2147483647) (n := m.term) (by omega) (by omega) (by decide) (fun h => tf h) rfl
  have hC : rC l = smS true 2147483647 (rB l 3) := rfl
  rw [hB3, s3] at hC
  rw [← hB3] at v3
  have hD0 : rD l 0 = rC l := rfl
  rw [hC] at hD0
  obtain ⟨v4, s4⟩ := sm_num (is := kNm m.kind 0) (most := 2147483647) (n := m.idx) (by omega) (by omega) (by decide) c0 rfl
  have hD1 : rD l 1 = smS (kNm (rK l) 0) 2147483647 (rD l 0) := rfl
  rw [hD0, hK, s4] at hD1
  rw [← hD0] at v4
  obtain ⟨v5, s5⟩ := sm_num (is := kNm m.kind 1) (most := 2147483647) (n := m.lt) (by omega) (by omega) (by decide) c1 rfl
  have hD2 : rD l 2 = smS (kNm (rK l) 1) 2147483647 (rD l 1) := rfl
  rw [hD1, hK, s5] at hD2
  rw [← hD1] at v5
  obtain ⟨v6, s6⟩ := sm_num (is := kNm m.kind 2) (most := 2147483647) (n := m.com) (by omega) (by omega) (by decide) c2 rfl
  have hD3 : rD l 3 = smS (kNm (rK l) 2) 2147483647 (rD l 2) := rfl
  rw [hD2, hK, s6] at hD3
  rw [← hD2] at v6
  have hG : rG l = gE (kNm (rK l) 3) (rD l 3) := rfl
  rw [hD3, hK, gE_back hbad b8 c3] at hG
  have hH : rH l = gF (kNm (rK l) 4) (rG l).2 := rfl
  rw [hG, hK, gF_back c4] at hH
  have hJ : rJ l = gS (kNm (rK l) 5) (rH l).2 := rfl
  rw [hH, hK, gS_back b7 c5] at hJ
  have hW : rW l = m := by
    rw [rW, rM, hG, hH, hJ, v0, v1, v2, v3, hK, v4, v5, v6]
  rw [readN, if_pos ⟨by rw [hJ], by rw [hJ], by rw [hW]; exact hm⟩, hW]
theorem optW_le (b : Bool) {x : List UInt8} {k : Nat} (h : x.length ≤ k) : (optW b x).length ≤ k := by
  cases b
  · simp [optW]
  · simpa [optW] using h
theorem msW_le {m : Ms} (h : mayN m = true) : (msW m).length ≤ 200000000 := by
  have he := optW_le (kNm m.kind 3) (ents_le h)
  obtain ⟨⟨⟨a1, a2⟩, ⟨a3, a4⟩, ⟨a5, a6⟩, _, ⟨a7, a8⟩, ⟨a9, a10⟩⟩, ⟨⟨b1, b2⟩, ⟨b3, b4⟩, ⟨b5, b6⟩, b7, b8, b9⟩, hbad, _⟩ := mayN_iff.1 h
  have l0 := wNum_len10 (n := m.kind.toNat) (by omega)
  have l1 := wNum_len10 (n := m.fr.toNat) (by omega)
  have l2 := wNum_len10 (n := m.to.toNat) (by omega)
  have l3 := wNum_len10 (n := m.grp.toNat) (by omega)
  have l4 := wNum_len10 (n := m.term.toNat) (by omega)
  have l5 := optW_le (kNm m.kind 0) (wNum_len10 (n := m.idx.toNat) (by omega))
  have l6 := optW_le (kNm m.kind 1) (wNum_len10 (n := m.lt.toNat) (by omega))
  have l7 := optW_le (kNm m.kind 2) (wNum_len10 (n := m.com.toNat) (by omega))
  have l8 := optW_le (kNm m.kind 5) (wBytes_le (l := m.snap) (by omega))
  have l9 := optW_le (kNm m.kind 4) (x := wFlag m.ok) (k := 1) (by simp [wFlag])
  simp only [msW, hdW, List.length_append]
  omega
end Go.Proofs.Ytaidpdjlchnonaa
