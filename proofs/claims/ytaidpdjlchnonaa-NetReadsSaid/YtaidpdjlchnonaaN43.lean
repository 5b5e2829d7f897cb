/- A part of the proof: steps and lemmas for the walks through the given program. -/
import Derived.Test.YtaidpdjlchnonaaN42
namespace Go.Proofs.Ytaidpdjlchnonaa
open Go.Vc
set_option linter.unusedVariables false
set_option linter.unusedSimpArgs false
set_option maxRecDepth 100000

/-- the two readers go together -/
def Sim (s : RSt) (q : QSt) : Prop := (s.2 = 0 ∧ q = (s.1, true)) ∨ (s.2 ≠ 0 ∧ q.2 = false)
theorem Sim.ok {s : RSt} {q : QSt} (h : Sim s q) (h0 : s.2 = 0) : q = (s.1, true) := h.elim (fun h => h.2) (fun h => absurd h0 h.1)
theorem sm_mono {is : Bool} {most : Nat} {s : RSt} (h : (smS is most s).2 = 0) : s.2 = 0 := (sm_ok h).1
theorem sim_num {s : RSt} {q : QSt} {most : Nat} (h : Sim s q) (hm : most ≤ 9223372036854775807) : Sim (smS true most s) (qS most q) ∧ ((smS true most s).2 = 0 → smV true most s = qV q.1) := by
  rcases h with ⟨h0, rfl⟩ | ⟨h0, h1⟩
  · obtain ⟨l, e⟩ := s
    obtain rfl : e = 0 := h0
    rcases hd : rdNum l with _ | ⟨n, r⟩
    · have h1 : smS true most (l, 0) = (l, 4) := by simp [smS, hd]
      rw [h1]
      exact ⟨.inr ⟨by (show (4 : Int) ≠ 0); decide, by simp [qS, qOk, hd]⟩, fun h => by cases h⟩
    · have h2 : rest l = r := by rw [rest, hd]
      by_cases hn : n ≤ most
      · have h1 : smS true most (l, 0) = (r, 0) := by simp [smS, hd, hn]
        rw [h1]
        refine ⟨.inl ⟨rfl, by simp [qS, qOk, hd, h2, hn]⟩, fun _ => ?_⟩
        have h3 : qV l = (n : Int) := by rw [qV, qN, hd]; exact wr_i64 (x := (n : Int)) (by omega) (by omega)
        show smV true most (l, 0) = qV l
        rw [h3]; simp [smV, hd, hn]
      · have h1 : smS true most (l, 0) = (r, 4) := by simp [smS, hd, hn]
        rw [h1]
        exact ⟨.inr ⟨by (show (4 : Int) ≠ 0); decide, by simp [qS, qOk, hd, hn]⟩, fun h => by cases h⟩
  · have h2 : smS true most s = s := by rw [smS, if_neg (fun h => h0 h.2)]
    rw [h2]
    exact ⟨.inr ⟨h0, by simp [qS, h1]⟩, fun h => absurd h h0⟩
theorem sim_flag {s : RSt} {q : QSt} (h : Sim s q) : Sim (gF true s).2 (qFS q) ∧ ((gF true s).2.2 = 0 → (gF true s).1 = qFV q.1) := by
  rcases h with ⟨h0, rfl⟩ | ⟨h0, h1⟩
  · obtain ⟨l, e⟩ := s
    obtain rfl : e = 0 := h0
    have h2 : gF true (l, 0) = ((rF1 l).1, ((rF1 l).2.1, (rF1 l).2.2)) := by rw [gF, if_pos ⟨rfl, rfl⟩]
    rw [h2]
    rcases hd : rdFlag l with _ | ⟨b, r⟩
    · have h1 : rF1 l = (false, l, 4) := by rw [rF1, hd]
      rw [h1]
      exact ⟨.inr ⟨by (show (4 : Int) ≠ 0); decide, by simp [qFS, hd]⟩, fun h => by cases h⟩
    · have h1 : rF1 l = (b, r, 0) := by rw [rF1, hd]
      have h3 : restF l = r := by rw [restF, hd]
      rw [h1]
      exact ⟨.inl ⟨rfl, by simp [qFS, hd, h3]⟩, fun _ => by simp [qFV, hd]⟩
  · have h2 : gF true s = (false, s) := by rw [gF, if_neg (fun h => h0 h.2)]
    rw [h2]
    exact ⟨.inr ⟨h0, by simp [qFS, h1]⟩, fun h => absurd h h0⟩
theorem sim_ents {s : RSt} {q q' : QSt} {es : List EnV} (h : Sim s q) (hE : EntsOk q.2 q'.2 q.1 q'.1 es) : Sim (gE true s).2 q' ∧ ((gE true s).2.2 = 0 → (gE true s).1 = es) := by
  obtain ⟨l', k⟩ := q'
  rcases h with ⟨h0, rfl⟩ | ⟨h0, h1⟩
  · obtain ⟨l, e⟩ := s
    obtain rfl : e = 0 := h0
    have h2 : gE true (l, 0) = ((rE1 l).1, ((rE1 l).2.1, (rE1 l).2.2)) := by rw [gE, if_pos ⟨rfl, rfl⟩]
    rw [h2]
    obtain ⟨hE1, hE2⟩ := hE
    cases k
    · rcases hE2 rfl with h | ⟨e, h⟩
      · cases h
      · have h1 : rE1 l = ([], l, e) := by rw [rE1, show tryRd (rdList rdE) 64 l = _ from h]
        have he : e ≠ 0 := by
          rw [show tryRd (rdList rdE) 64 l = _ from rfl] at h
          simp only [tryRd] at h
          rcases hd : rdNum l with _ | ⟨k, l'⟩
          · rw [hd] at h; cases h; decide
          · rw [hd] at h; simp only [] at h
            by_cases hm : k ≤ 64
            · rw [if_pos hm] at h
              have := rdList_e4 _ _ _ h; omega
            · rw [if_neg hm] at h; cases h; decide
        rw [h1]
        exact ⟨.inr ⟨he, rfl⟩, fun h => absurd h he⟩
    · have h3 := (hE1 rfl).2
      have h1 : rE1 l = (es, l', 0) := by rw [rE1, show tryRd (rdList rdE) 64 l = _ from h3]
      rw [h1]
      exact ⟨.inl ⟨rfl, rfl⟩, fun _ => rfl⟩
  · have h2 : gE true s = ([], s) := by rw [gE, if_neg (fun h => h0 h.2)]
    rw [h2]
    refine ⟨.inr ⟨h0, ?_⟩, fun h => absurd h h0⟩
    cases k
    · rfl
    · have := (hE.1 rfl).1
      rw [h1] at this; cases this
/-- what the document's reading of bytes tells -/
def BytesOk (l l' : List UInt8) (k : Bool) (d : List UInt8) : Prop := (k = true → rdBytes 1048576 l = .ok (d, l')) ∧ (k = false → ∃ e, e ≠ 0 ∧ rdBytes 1048576 l = .error e)
theorem sim_snap {s : RSt} {q : QSt} {l' d : List UInt8} {k : Bool} (h : Sim s q) (hB : BytesOk q.1 l' k d) : Sim (gS true s).2 (l', q.2 && k) ∧ ((gS true s).2.2 = 0 → (gS true s).1 = d) := by
  rcases h with ⟨h0, rfl⟩ | ⟨h0, h1⟩
  · obtain ⟨l, e⟩ := s
    obtain rfl : e = 0 := h0
    have h2 : gS true (l, 0) = ((rS1 l).1, ((rS1 l).2.1, (rS1 l).2.2)) := by rw [gS, if_pos ⟨rfl, rfl⟩]
    rw [h2]
    cases k
    · obtain ⟨e, he, h⟩ := hB.2 rfl
      have h1 : rS1 l = ([], l, e) := by rw [rS1, show rdBytes 1048576 l = _ from h]
      rw [h1]
      exact ⟨.inr ⟨he, rfl⟩, fun h => absurd h he⟩
    · have h1 : rS1 l = (d, l', 0) := by rw [rS1, show rdBytes 1048576 l = _ from hB.1 rfl]
      rw [h1]
      exact ⟨.inl ⟨rfl, rfl⟩, fun _ => rfl⟩
  · have h2 : gS true s = ([], s) := by rw [gS, if_neg (fun h => h0 h.2)]
    rw [h2]
    exact ⟨.inr ⟨h0, by simp [h1]⟩, fun h => absurd h h0⟩
theorem gE_f (s : RSt) : gE false s = ([], s) := by simp [gE]
theorem gF_f (s : RSt) : gF false s = (false, s) := by simp [gF]
theorem gS_f (s : RSt) : gS false s = ([], s) := by simp [gS]
theorem smS_f (m : Nat) (s : RSt) : smS false m s = s := by simp [smS]
theorem smV_f (m : Nat) (s : RSt) : smV false m s = 0 := by simp [smV]
def q1 (l : List UInt8) : QSt := qS 7 (l, true)
def q2 (l : List UInt8) : QSt := qS 5 (q1 l)
def q3 (l : List UInt8) : QSt := qS 5 (q2 l)
def q4 (l : List UInt8) : QSt := qS 5 (q3 l)
def q5 (l : List UInt8) : QSt := qS 2147483647 (q4 l)
def q6 (l : List UInt8) : QSt := qS 2147483647 (q5 l)
def q7 (l : List UInt8) : QSt := qS 2147483647 (q6 l)
def q8 (l : List UInt8) : QSt := qS 2147483647 (q7 l)
/-- all of the head -/
theorem head_sim (l : List UInt8) : Sim (rC l) (q5 l) ∧ ((rC l).2 = 0 → rK l = qV l ∧ smV true 5 (rB l 0) = qV (q1 l).1 ∧ smV true 5 (rB l 1) = qV (q2 l).1 ∧ smV true 5 (rB l 2) = qV (q3 l).1 ∧ smV true 2147483647 (rB l 3) = qV (q4 l).1) := by
  have h0 : Sim (l, 0) (l, true) := .inl ⟨rfl, rfl⟩
  obtain ⟨a1, b1⟩ := sim_num (most := 7) h0 (by decide)
  obtain ⟨a2, b2⟩ := sim_num (most := 5) a1 (by decide)
  obtain ⟨a3, b3⟩ := sim_num (most := 5) a2 (by decide)
  obtain ⟨a4, b4⟩ := sim_num (most := 5) a3 (by decide)
  obtain ⟨a5, b5⟩ := sim_num (most := 2147483647) a4 (by decide)
  refine ⟨a5, fun h => ?_⟩
  have e4 := sm_mono (show (smS true 2147483647 (rB l 3)).2 = 0 from h)
  have e3 := sm_mono (show (smS true 5 (rB l 2)).2 = 0 from e4)
  have e2 := sm_mono (show (smS true 5 (rB l 1)).2 = 0 from e3)
  have e1 := sm_mono (show (smS true 5 (rB l 0)).2 = 0 from e2)
  exact ⟨b1 e1, b2 e2, b3 e3, b4 e4, b5 h⟩
theorem gE_mono {is : Bool} {s : RSt} (h : (gE is s).2.2 = 0) : s.2 = 0 := (gE_ok h).1
theorem gF_mono {is : Bool} {s : RSt} (h : (gF is s).2.2 = 0) : s.2 = 0 := (gF_ok h).1
theorem gS_mono {is : Bool} {s : RSt} (h : (gS is s).2.2 = 0) : s.2 = 0 := (gS_ok h).1
theorem rD_mono {l : List UInt8} (h : (rD l 3).2 = 0) : (rC l).2 = 0 := sm_mono (is := kNm (rK l) 0) (sm_mono (is := kNm (rK l) 1) (sm_mono (is := kNm (rK l) 2) h))
theorem rJ_mono {l : List UInt8} (h : (rJ l).2.2 = 0) : (rC l).2 = 0 := rD_mono (gE_mono (gF_mono (gS_mono h)))
theorem readN_eq {l : List UInt8} {m : Ms} {q : QSt} (hs : Sim (rJ l).2 q) (hv : (rJ l).2.2 = 0 → rW l = m) : readN l = if q.2 = true ∧ q.1 = [] ∧ mayN m = true then (m, 0) else (msZ, 4) := by
  rw [readN]
  rcases hs with ⟨h0, rfl⟩ | ⟨h0, h1⟩
  · rw [hv h0, h0]; simp
  · rw [if_neg (fun h => h0 h.1), if_neg (fun h => by rw [h1] at h; cases h.1)]
/-- where the head is not well, all is not -/
theorem readN_no {l : List UInt8} {q : QSt} (h : (rC l).2 ≠ 0) (hq : q.2 = false) {m : Ms} : readN l = if q.2 = true ∧ q.1 = [] ∧ mayN m = true then (m, 0) else (msZ, 4) :=
  readN_eq (.inr ⟨fun h2 => h (rJ_mono h2), hq⟩) (fun h2 => absurd (rJ_mono h2) h)
def hdM (l : List UInt8) : Ms := ⟨qV l, qV (q1 l).1, qV (q2 l).1, qV (q3 l).1, qV (q4 l).1, 0, 0, 0, [], false, []⟩
theorem kN1 {l : List UInt8} (hk : qV l = 1) : readN l = if (q7 l).2 = true ∧ (q7 l).1 = [] ∧ mayN { hdM l with idx := qV (q5 l).1, lt := qV (q6 l).1 } = true then ({ hdM l with idx := qV (q5 l).1, lt := qV (q6 l).1 }, 0) else (msZ, 4) := by
  obtain ⟨hs, hv⟩ := head_sim l
  by_cases h0 : (rC l).2 = 0
  · obtain ⟨v0, v1, v2, v3, v4⟩ := hv h0
    rw [hk] at v0
    obtain ⟨s6, w6⟩ := sim_num (most := 2147483647) hs (by decide)
    obtain ⟨s7, w7⟩ := sim_num (most := 2147483647) s6 (by decide)
    have e0 : rD l 0 = rC l := rfl
    have e1 : rD l 1 = smS true 2147483647 (rC l) := by show smS (kNm (rK l) 0) _ _ = _; rw [v0]; rfl
    have e2 : rD l 2 = smS true 2147483647 (smS true 2147483647 (rC l)) := by show smS (kNm (rK l) 1) _ (rD l 1) = _; rw [v0, e1]; rfl
    have e3 : rD l 3 = rD l 2 := by show smS (kNm (rK l) 2) _ (rD l 2) = _; rw [v0]; exact smS_f _ _
    have eG : rG l = ([], rD l 2) := by rw [rG, v0, e3]; exact gE_f _
    have eH : rH l = (false, rD l 2) := by rw [rH, eG, v0]; exact gF_f _
    have eJ : rJ l = ([], rD l 2) := by rw [rJ, eH, v0]; exact gS_f _
    refine readN_eq (by rw [eJ, e2]; exact s7) fun h => ?_
    rw [eJ, e2] at h
    rw [rW, rM, eG, eH, eJ, v0, v1, v2, v3, v4, e0, e1, hdM, hk]
    have u0 : smV (kNm 1 0) 2147483647 (rC l) = qV (q5 l).1 := w6 (sm_mono h)
    have u1 : smV (kNm 1 1) 2147483647 (smS true 2147483647 (rC l)) = qV (q6 l).1 := w7 h
    have u2 : smV (kNm 1 2) 2147483647 (rD l 2) = 0 := smV_f _ _
    rw [u0, u1, u2]
  · refine readN_no h0 ?_
    have := hs.resolve_left (fun h => h0 h.1)
    simp [q7, q6, qS, this.2]
theorem kN2 {l : List UInt8} (hk : qV l = 2) : readN l = if (qFS (q5 l)).2 = true ∧ (qFS (q5 l)).1 = [] ∧ mayN { hdM l with ok := qFV (q5 l).1 } = true then ({ hdM l with ok := qFV (q5 l).1 }, 0) else (msZ, 4) := by
  obtain ⟨hs, hv⟩ := head_sim l
  by_cases h0 : (rC l).2 = 0
  · obtain ⟨v0, v1, v2, v3, v4⟩ := hv h0
    rw [hk] at v0
    obtain ⟨s6, w6⟩ := sim_flag hs
    have e0 : rD l 0 = rC l := rfl
    have e1 : rD l 1 = rC l := by show smS (kNm (rK l) 0) _ _ = _; rw [v0]; exact smS_f _ _
    have e2 : rD l 2 = rC l := by show smS (kNm (rK l) 1) _ (rD l 1) = _; rw [v0, e1]; exact smS_f _ _
    have e3 : rD l 3 = rC l := by show smS (kNm (rK l) 2) _ (rD l 2) = _; rw [v0, e2]; exact smS_f _ _
    have eG : rG l = ([], rC l) := by rw [rG, v0, e3]; exact gE_f _
    have eH : rH l = gF true (rC l) := by rw [rH, eG, v0]; rfl
    have eJ : rJ l = ([], (gF true (rC l)).2) := by rw [rJ, eH, v0]; exact gS_f _
    refine readN_eq (by rw [eJ]; exact s6) fun h => ?_
    rw [eJ] at h
    rw [rW, rM, eG, eH, eJ, v0, v1, v2, v3, v4, e0, e1, e2, hdM, hk]
    have u0 : ∀ i s, i < 3 → smV (kNm 2 i) 2147483647 s = 0 := fun i s hi => by
      match i, hi with
      | 0, _ => exact smV_f _ _
      | 1, _ => exact smV_f _ _
      | 2, _ => exact smV_f _ _
    rw [u0 0 _ (by decide), u0 1 _ (by decide), u0 2 _ (by decide), w6 h]
  · refine readN_no h0 ?_
    have := hs.resolve_left (fun h => h0 h.1)
    simp [qFS, this.2]
theorem kN3 {l : List UInt8} {q : QSt} {es : List EnV} (hk : qV l = 3) (hE : EntsOk (q8 l).2 q.2 (q8 l).1 q.1 es) : readN l = if q.2 = true ∧ q.1 = [] ∧ mayN { hdM l with idx := qV (q5 l).1, lt := qV (q6 l).1, com := qV (q7 l).1, ents := es } = true then ({ hdM l with idx := qV (q5 l).1, lt := qV (q6 l).1, com := qV (q7 l).1, ents := es }, 0) else (msZ, 4) := by
  obtain ⟨hs, hv⟩ := head_sim l
  by_cases h0 : (rC l).2 = 0
  · obtain ⟨v0, v1, v2, v3, v4⟩ := hv h0
    rw [hk] at v0
    obtain ⟨s6, w6⟩ := sim_num (most := 2147483647) hs (by decide)
    obtain ⟨s7, w7⟩ := sim_num (most := 2147483647) s6 (by decide)
    obtain ⟨s8, w8⟩ := sim_num (most := 2147483647) s7 (by decide)
    obtain ⟨s9, w9⟩ := sim_ents s8 hE
    have e0 : rD l 0 = rC l := rfl
    have e1 : rD l 1 = smS true 2147483647 (rC l) := by show smS (kNm (rK l) 0) _ _ = _; rw [v0]; rfl
    have e2 : rD l 2 = smS true 2147483647 (smS true 2147483647 (rC l)) := by show smS (kNm (rK l) 1) _ (rD l 1) = _; rw [v0, e1]; rfl
    have e3 : rD l 3 = smS true 2147483647 (smS true 2147483647 (smS true 2147483647 (rC l))) := by show smS (kNm (rK l) 2) _ (rD l 2) = _; rw [v0, e2]; rfl
    have eG : rG l = gE true (rD l 3) := by rw [rG, v0]; rfl
    have eH : rH l = (false, (rG l).2) := by rw [rH, v0]; exact gF_f _
    have eJ : rJ l = ([], (rG l).2) := by rw [rJ, eH, v0]; exact gS_f _
    refine readN_eq (by rw [eJ, eG, e3]; exact s9) fun h => ?_
    rw [eJ, eG, e3] at h
    rw [rW, rM, eH, eJ, eG, v0, v1, v2, v3, v4, e0, e1, e2, e3, hdM, hk]
    have h8 := gE_mono h
    have u0 : smV (kNm 3 0) 2147483647 (rC l) = qV (q5 l).1 := w6 (sm_mono (sm_mono h8))
    have u1 : smV (kNm 3 1) 2147483647 (smS true 2147483647 (rC l)) = qV (q6 l).1 := w7 (sm_mono h8)
    have u2 : smV (kNm 3 2) 2147483647 (smS true 2147483647 (smS true 2147483647 (rC l))) = qV (q7 l).1 := w8 h8
    rw [u0, u1, u2, w9 h]
  · refine readN_no h0 ?_
    have := hs.resolve_left (fun h => h0 h.1)
    have h8 : (q8 l).2 = false := by simp [q8, q7, q6, qS, this.2]
    cases hq : q.2
    · rfl
    · have := (hE.1 hq).1; rw [h8] at this; cases this
theorem kN4 {l : List UInt8} (hk : qV l = 4) : readN l = if (qFS (q6 l)).2 = true ∧ (qFS (q6 l)).1 = [] ∧ mayN { hdM l with idx := qV (q5 l).1, ok := qFV (q6 l).1 } = true then ({ hdM l with idx := qV (q5 l).1, ok := qFV (q6 l).1 }, 0) else (msZ, 4) := by
  obtain ⟨hs, hv⟩ := head_sim l
  by_cases h0 : (rC l).2 = 0
  · obtain ⟨v0, v1, v2, v3, v4⟩ := hv h0
    rw [hk] at v0
    obtain ⟨s6, w6⟩ := sim_num (most := 2147483647) hs (by decide)
    obtain ⟨s7, w7⟩ := sim_flag s6
    have e0 : rD l 0 = rC l := rfl
    have e1 : rD l 1 = smS true 2147483647 (rC l) := by show smS (kNm (rK l) 0) _ _ = _; rw [v0]; rfl
    have e2 : rD l 2 = smS true 2147483647 (rC l) := by show smS (kNm (rK l) 1) _ (rD l 1) = _; rw [v0, e1]; exact smS_f _ _
    have e3 : rD l 3 = smS true 2147483647 (rC l) := by show smS (kNm (rK l) 2) _ (rD l 2) = _; rw [v0, e2]; exact smS_f _ _
    have eG : rG l = ([], rD l 3) := by rw [rG, v0]; exact gE_f _
    have eH : rH l = gF true (rD l 3) := by rw [rH, eG, v0]; rfl
    have eJ : rJ l = ([], (rH l).2) := by rw [rJ, v0]; exact gS_f _
    refine readN_eq (by rw [eJ, eH, e3]; exact s7) fun h => ?_
    rw [eJ, eH, e3] at h
    rw [rW, rM, eJ, eH, eG, v0, v1, v2, v3, v4, e0, e1, e2, e3, hdM, hk]
    have u0 : smV (kNm 4 0) 2147483647 (rC l) = qV (q5 l).1 := w6 (gF_mono h)
    have u1 : smV (kNm 4 1) 2147483647 (smS true 2147483647 (rC l)) = 0 := smV_f _ _
    have u2 : smV (kNm 4 2) 2147483647 (smS true 2147483647 (rC l)) = 0 := smV_f _ _
    rw [u0, u1, u2, w7 h]; rfl
  · refine readN_no h0 ?_
    have := hs.resolve_left (fun h => h0 h.1)
    simp [qFS, q6, qS, this.2]
theorem kN5 {l l' d : List UInt8} {k : Bool} (hk : qV l = 5) (hB : BytesOk (q8 l).1 l' k d) : readN l = if ((q8 l).2 && k) = true ∧ l' = [] ∧ mayN { hdM l with idx := qV (q5 l).1, lt := qV (q6 l).1, com := qV (q7 l).1, snap := d } = true then ({ hdM l with idx := qV (q5 l).1, lt := qV (q6 l).1, com := qV (q7 l).1, snap := d }, 0) else (msZ, 4) := by
  obtain ⟨hs, hv⟩ := head_sim l
  by_cases h0 : (rC l).2 = 0
  · obtain ⟨v0, v1, v2, v3, v4⟩ := hv h0
    rw [hk] at v0
    obtain ⟨s6, w6⟩ := sim_num (most := 2147483647) hs (by decide)
    obtain ⟨s7, w7⟩ := sim_num (most := 2147483647) s6 (by decide)
    obtain ⟨s8, w8⟩ := sim_num (most := 2147483647) s7 (by decide)
    obtain ⟨s9, w9⟩ := sim_snap s8 hB
    have e0 : rD l 0 = rC l := rfl
    have e1 : rD l 1 = smS true 2147483647 (rC l) := by show smS (kNm (rK l) 0) _ _ = _; rw [v0]; rfl
    have e2 : rD l 2 = smS true 2147483647 (smS true 2147483647 (rC l)) := by show smS (kNm (rK l) 1) _ (rD l 1) = _; rw [v0, e1]; rfl
    have e3 : rD l 3 = smS true 2147483647 (smS true 2147483647 (smS true 2147483647 (rC l))) := by show smS (kNm (rK l) 2) _ (rD l 2) = _; rw [v0, e2]; rfl
    have eG : rG l = ([], rD l 3) := by rw [rG, v0]; exact gE_f _
    have eH : rH l = (false, rD l 3) := by rw [rH, eG, v0]; exact gF_f _
    have eJ : rJ l = gS true (rD l 3) := by rw [rJ, eH, v0]; rfl
    refine readN_eq (q := (l', (q8 l).2 && k)) (by rw [eJ, e3]; exact s9) fun h => ?_
    rw [eJ, e3] at h
    rw [rW, rM, eH, eJ, eG, v0, v1, v2, v3, v4, e0, e1, e2, e3, hdM, hk]
    have h8 := gS_mono h
    have u0 : smV (kNm 5 0) 2147483647 (rC l) = qV (q5 l).1 := w6 (sm_mono (sm_mono h8))
    have u1 : smV (kNm 5 1) 2147483647 (smS true 2147483647 (rC l)) = qV (q6 l).1 := w7 (sm_mono h8)
    have u2 : smV (kNm 5 2) 2147483647 (smS true 2147483647 (smS true 2147483647 (rC l))) = qV (q7 l).1 := w8 h8
    rw [u0, u1, u2, w9 h]
  · refine readN_no (q := (l', (q8 l).2 && k)) h0 ?_
    have := hs.resolve_left (fun h => h0 h.1)
    simp [q8, q7, q6, qS, this.2]
theorem kN67 {l : List UInt8} {q : QSt} {es : List EnV} (hk : qV l = 6 ∨ qV l = 7) (hE : EntsOk (q5 l).2 q.2 (q5 l).1 q.1 es) : readN l = if q.2 = true ∧ q.1 = [] ∧ mayN { hdM l with ents := es } = true then ({ hdM l with ents := es }, 0) else (msZ, 4) := by
  obtain ⟨hs, hv⟩ := head_sim l
  by_cases h0 : (rC l).2 = 0
  · obtain ⟨v0, v1, v2, v3, v4⟩ := hv h0
    obtain ⟨s9, w9⟩ := sim_ents hs hE
    have b0 : kNm (rK l) 0 = false := by rw [v0]; rcases hk with h | h <;> rw [h] <;> rfl
    have b1 : kNm (rK l) 1 = false := by rw [v0]; rcases hk with h | h <;> rw [h] <;> rfl
    have b2 : kNm (rK l) 2 = false := by rw [v0]; rcases hk with h | h <;> rw [h] <;> rfl
    have b3 : kNm (rK l) 3 = true := by rw [v0]; rcases hk with h | h <;> rw [h] <;> rfl
    have b4 : kNm (rK l) 4 = false := by rw [v0]; rcases hk with h | h <;> rw [h] <;> rfl
    have b5 : kNm (rK l) 5 = false := by rw [v0]; rcases hk with h | h <;> rw [h] <;> rfl
    have e0 : rD l 0 = rC l := rfl
    have e1 : rD l 1 = rC l := by show smS (kNm (rK l) 0) _ _ = _; rw [b0]; exact smS_f _ _
    have e2 : rD l 2 = rC l := by show smS (kNm (rK l) 1) _ (rD l 1) = _; rw [b1, e1]; exact smS_f _ _
    have e3 : rD l 3 = rC l := by show smS (kNm (rK l) 2) _ (rD l 2) = _; rw [b2, e2]; exact smS_f _ _
    have eG : rG l = gE true (rC l) := by rw [rG, b3, e3]
    have eH : rH l = (false, (rG l).2) := by rw [rH, b4]; exact gF_f _
    have eJ : rJ l = ([], (rG l).2) := by rw [rJ, eH, b5]; exact gS_f _
    refine readN_eq (by rw [eJ, eG]; exact s9) fun h => ?_
    rw [eJ, eG] at h
    rw [rW, rM, eH, eJ, eG, b0, b1, b2, v0, v1, v2, v3, v4, e0, e1, e2, hdM, w9 h, smV_f]
  · refine readN_no h0 ?_
    have := hs.resolve_left (fun h => h0 h.1)
    cases hq : q.2
    · rfl
    · have h8 := (hE.1 hq).1; rw [this.2] at h8; cases h8
theorem kN0 {l : List UInt8} (h1 : ¬ qV l = 1) (h2 : ¬ qV l = 2) (h3 : ¬ qV l = 3) (h4 : ¬ qV l = 4) (h5 : ¬ qV l = 5) (h6 : ¬ qV l = 6) (h7 : ¬ qV l = 7) : readN l = if (q5 l).2 = true ∧ (q5 l).1 = [] ∧ mayN (hdM l) = true then (hdM l, 0) else (msZ, 4) := by
  obtain ⟨hs, hv⟩ := head_sim l
  by_cases h0 : (rC l).2 = 0
  · obtain ⟨v0, v1, v2, v3, v4⟩ := hv h0
    have hr := smV_rng true 7 (l, 0)
    change 0 ≤ rK l ∧ rK l ≤ 7 at hr
    rw [v0] at hr
    have bn : ∀ i, kNm (rK l) i = false := fun i => kNm_no (by rw [v0]; omega) i
    have e0 : rD l 0 = rC l := rfl
    have e1 : rD l 1 = rC l := by show smS (kNm (rK l) 0) _ _ = _; rw [bn]; exact smS_f _ _
    have e2 : rD l 2 = rC l := by show smS (kNm (rK l) 1) _ (rD l 1) = _; rw [bn, e1]; exact smS_f _ _
    have e3 : rD l 3 = rC l := by show smS (kNm (rK l) 2) _ (rD l 2) = _; rw [bn, e2]; exact smS_f _ _
    have eG : rG l = ([], rC l) := by rw [rG, bn, e3]; exact gE_f _
    have eH : rH l = (false, rC l) := by rw [rH, eG, bn]; exact gF_f _
    have eJ : rJ l = ([], rC l) := by rw [rJ, eH, bn]; exact gS_f _
    refine readN_eq (by rw [eJ]; exact hs) fun h => ?_
    rw [rW, rM, eH, eJ, eG, bn, bn, bn, v0, v1, v2, v3, v4, hdM, smV_f, smV_f, smV_f]
  · refine readN_no h0 ?_
    exact (hs.resolve_left (fun h => h0 h.1)).2
end Go.Proofs.Ytaidpdjlchnonaa
