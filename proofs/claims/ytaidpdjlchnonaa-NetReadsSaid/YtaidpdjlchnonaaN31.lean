/- A part of the proof: steps and lemmas for the walks through the given program. -/
import Derived.Test.YtaidpdjlchnonaaN30
namespace Go.Proofs.Ytaidpdjlchnonaa
open Go.Vc
set_option linter.unusedVariables false
set_option linter.unusedSimpArgs false
set_option maxRecDepth 100000

def gE (is : Bool) (s : RSt) : List EnV × RSt := if is = true ∧ s.2 = 0 then ((rE1 s.1).1, ((rE1 s.1).2.1, (rE1 s.1).2.2)) else ([], s)
def gF (is : Bool) (s : RSt) : Bool × RSt := if is = true ∧ s.2 = 0 then ((rF1 s.1).1, ((rF1 s.1).2.1, (rF1 s.1).2.2)) else (false, s)
def gS (is : Bool) (s : RSt) : List UInt8 × RSt := if is = true ∧ s.2 = 0 then ((rS1 s.1).1, ((rS1 s.1).2.1, (rS1 s.1).2.2)) else ([], s)
theorem thenE_c {w : World} {b4 b11 b9 b5 n2 n6 : Nat} {s : RSt} {is : Bool} {c0 c1 c2 c3 c4 c5 c6 c7 c9 c10 : Value} (HB4 : Blk w b4 [.pointer (some ⟨b11, 0, none⟩)] 109) (HB11 : Blk w b11 [.pointer (some ⟨b9, 0, none⟩), .int .i64 s.2] 113) (HR9 : Rd nRd w b9 (fun k => n2 ≤ k ∧ k < b9) s.1) (HB5 : Blk w b5 [c0, c1, c2, c3, c4, c5, c6, c7, .slice none 0 0, c9, c10] 26) (hne : b9 < b5 ∧ b9 < b11 ∧ b9 < b4 ∧ b5 ≠ b4 ∧ b5 ≠ b11) (hne2 : b4 ≠ b11) (hl : s.1.length ≤ 10000000000) (hn6 : n6 ≤ w.heap.size ∧ b5 < n6 ∧ b11 < n6) :
    CallsR Try.prog 77 (#[.bool is, .func (.func 78) #[] #[.pointer (some ⟨b4, 0, none⟩), .pointer (some ⟨b5, 0, none⟩)]] ++ #[.pointer (some ⟨b4, 0, none⟩)]) w (fun _ W' => ((Blk W' b11 [.pointer (some ⟨b9, 0, none⟩), .int .i64 (gE is s).2.2] 113 ∧ Rd nRd W' b9 (fun k => n2 ≤ k ∧ k < b9) (gE is s).2.1) ∧ ∃ a v, Blk W' b5 [c0, c1, c2, c3, c4, c5, c6, c7, .slice a (gE is s).1.length v, c9, c10] 26 ∧ SlV tEnF W' (fun i => n6 ≤ i) (.slice a (gE is s).1.length v) (gE is s).1) ∧ Keep (fun k => (k = b9 ∨ k = b5) ∨ k = b11) w W') := by
  obtain ⟨hn6, h56, h116⟩ := hn6
  refine CallsR.mono (then_c (P0 := fun W => (n6 ≤ W.heap.size ∧ Blk W b4 [.pointer (some ⟨b11, 0, none⟩)] 109 ∧ Blk W b11 [.pointer (some ⟨b9, 0, none⟩), .int .i64 s.2] 113 ∧ Rd nRd W b9 (fun k => n2 ≤ k ∧ k < b9) s.1 ∧ Blk W b5 [c0, c1, c2, c3, c4, c5, c6, c7, .slice none 0 0, c9, c10] 26) ∧ True) (Q := fun e' W' => e' = (rE1 s.1).2.2 ∧ Rd nRd W' b9 (fun k => n2 ≤ k ∧ k < b9) (rE1 s.1).2.1 ∧ ∃ a v, Blk W' b5 [c0, c1, c2, c3, c4, c5, c6, c7, .slice a (rE1 s.1).1.length v, c9, c10] 26 ∧ SlV tEnF W' (fun i => n6 ≤ i) (.slice a (rE1 s.1).1.length v) (rE1 s.1).1) (Kg := fun k => k = b9 ∨ k = b5) HB4 HB11 (by kernel_rfl) ⟨⟨hn6, HB4, HB11, HR9, HB5⟩, trivial⟩ (fun W1 W2 h e => ⟨⟨Nat.le_trans h.1.1 e.size, h.1.2.1.ext e, h.1.2.2.1.ext e, h.1.2.2.2.1.keep e (fun x => x) (fun _ _ x => x), h.1.2.2.2.2.ext e⟩, trivial⟩) (fun e' W1 W2 h k => by obtain ⟨h1, h2, a, v, h3, h4⟩ := h; exact ⟨h1, h2.keep k (by omega) (fun i hi he => by have := hi.2; omega), a, v, h3.keep k (by omega), h4.keep k (fun i _ hi he => by omega)⟩) (by omega) (by omega) hne2 (fun _ _ W h => CallsR.mono (rd2_c (n2 := n2) h.1.2.1 h.1.2.2.1 h.1.2.2.2.1 h.1.2.2.2.2 hne hl) fun o W' h9 => by obtain ⟨e', ho, ⟨q1, q2, a, v, q3, q4⟩, hk⟩ := h9; exact ⟨e', ho, ⟨q1, q2, a, v, q3, q4.mono fun i _ hi => by have := h.1.1; omega⟩, hk⟩)) fun o W' h => ?_
  by_cases hc : is = true ∧ s.2 = 0
  · rw [if_pos hc] at h
    obtain ⟨e', hB, hq, hK⟩ := h
    obtain ⟨q1, q2, a, v, q3, q4⟩ := hq
    rw [q1] at hB
    exact ⟨⟨⟨by rw [gE, if_pos hc]; exact hB, by rw [gE, if_pos hc]; exact q2⟩, a, v, by rw [gE, if_pos hc]; exact q3, by rw [gE, if_pos hc]; exact q4⟩, hK⟩
  · rw [if_neg hc] at h
    obtain ⟨hp, hB, hK⟩ := h
    exact ⟨⟨⟨by rw [gE, if_neg hc]; exact hB, by rw [gE, if_neg hc]; exact hp.1.2.2.2.1⟩, none, 0, by rw [gE, if_neg hc]; exact hp.1.2.2.2.2, by rw [gE, if_neg hc]; exact SlV.nil _ _ _⟩, Ext.keep hK⟩
theorem thenF_c {w : World} {b4 b11 b9 b5 n2 n6 : Nat} {s : RSt} {is : Bool} {c0 c1 c2 c3 c4 c5 c6 c7 c8 c10 : Value} (HB4 : Blk w b4 [.pointer (some ⟨b11, 0, none⟩)] 109) (HB11 : Blk w b11 [.pointer (some ⟨b9, 0, none⟩), .int .i64 s.2] 113) (HR9 : Rd nRd w b9 (fun k => n2 ≤ k ∧ k < b9) s.1) (HB5 : Blk w b5 [c0, c1, c2, c3, c4, c5, c6, c7, c8, .bool false, c10] 26) (hne : b9 < b5 ∧ b9 < b11 ∧ b9 < b4 ∧ b5 ≠ b4 ∧ b5 ≠ b11) (hne2 : b4 ≠ b11) (hl : s.1.length ≤ 10000000000) (hn6 : n6 ≤ w.heap.size ∧ b5 < n6 ∧ b11 < n6) :
    CallsR Try.prog 77 (#[.bool is, .func (.func 81) #[] #[.pointer (some ⟨b4, 0, none⟩), .pointer (some ⟨b5, 0, none⟩)]] ++ #[.pointer (some ⟨b4, 0, none⟩)]) w (fun _ W' => ((Blk W' b11 [.pointer (some ⟨b9, 0, none⟩), .int .i64 (gF is s).2.2] 113 ∧ Rd nRd W' b9 (fun k => n2 ≤ k ∧ k < b9) (gF is s).2.1) ∧ Blk W' b5 [c0, c1, c2, c3, c4, c5, c6, c7, c8, .bool (gF is s).1, c10] 26) ∧ Keep (fun k => (k = b9 ∨ k = b5) ∨ k = b11) w W') := by
  obtain ⟨hn6, h56, h116⟩ := hn6
  refine CallsR.mono (then_c (P0 := fun W => Blk W b4 [.pointer (some ⟨b11, 0, none⟩)] 109 ∧ Blk W b11 [.pointer (some ⟨b9, 0, none⟩), .int .i64 s.2] 113 ∧ Rd nRd W b9 (fun k => n2 ≤ k ∧ k < b9) s.1 ∧ Blk W b5 [c0, c1, c2, c3, c4, c5, c6, c7, c8, .bool false, c10] 26) (Q := fun e' W' => e' = (rF1 s.1).2.2 ∧ Rd nRd W' b9 (fun k => n2 ≤ k ∧ k < b9) (rF1 s.1).2.1 ∧ Blk W' b5 [c0, c1, c2, c3, c4, c5, c6, c7, c8, .bool (rF1 s.1).1, c10] 26) (Kg := fun k => k = b9 ∨ k = b5) HB4 HB11 (by kernel_rfl) ⟨HB4, HB11, HR9, HB5⟩ (fun W1 W2 h e => ⟨h.1.ext e, h.2.1.ext e, h.2.2.1.keep e (fun x => x) (fun _ _ x => x), h.2.2.2.ext e⟩) (fun e' W1 W2 h k => ⟨h.1, h.2.1.keep k (by omega) (fun i hi he => by have := hi.2; omega), h.2.2.keep k (by omega)⟩) (by omega) (by omega) hne2 (fun _ _ W h => rd3_c (n2 := n2) h.1 h.2.1 h.2.2.1 h.2.2.2 hne hl)) fun o W' h => ?_
  by_cases hc : is = true ∧ s.2 = 0
  · rw [if_pos hc] at h
    obtain ⟨e', hB, hq, hK⟩ := h
    exact ⟨⟨⟨by rw [gF, if_pos hc]; rw [hq.1] at hB; exact hB, by rw [gF, if_pos hc]; exact hq.2.1⟩, by rw [gF, if_pos hc]; exact hq.2.2⟩, hK⟩
  · rw [if_neg hc] at h
    obtain ⟨hp, hB, hK⟩ := h
    exact ⟨⟨⟨by rw [gF, if_neg hc]; exact hB, by rw [gF, if_neg hc]; exact hp.2.2.1⟩, by rw [gF, if_neg hc]; exact hp.2.2.2⟩, Ext.keep hK⟩
theorem thenS_c {w : World} {b4 b11 b9 b5 n2 n6 : Nat} {s : RSt} {is : Bool} {c0 c1 c2 c3 c4 c5 c6 c7 c8 c9 : Value} (HB4 : Blk w b4 [.pointer (some ⟨b11, 0, none⟩)] 109) (HB11 : Blk w b11 [.pointer (some ⟨b9, 0, none⟩), .int .i64 s.2] 113) (HR9 : Rd nRd w b9 (fun k => n2 ≤ k ∧ k < b9) s.1) (HB5 : Blk w b5 [c0, c1, c2, c3, c4, c5, c6, c7, c8, c9, .slice none 0 0] 26) (hne : b9 < b5 ∧ b9 < b11 ∧ b9 < b4 ∧ b5 ≠ b4 ∧ b5 ≠ b11) (hne2 : b4 ≠ b11) (hl : s.1.length ≤ 10000000000) (hn6 : n6 ≤ w.heap.size ∧ b5 < n6 ∧ b11 < n6) :
    CallsR Try.prog 77 (#[.bool is, .func (.func 83) #[] #[.pointer (some ⟨b4, 0, none⟩), .pointer (some ⟨b5, 0, none⟩)]] ++ #[.pointer (some ⟨b4, 0, none⟩)]) w (fun _ W' => ((Blk W' b11 [.pointer (some ⟨b9, 0, none⟩), .int .i64 (gS is s).2.2] 113 ∧ Rd nRd W' b9 (fun k => n2 ≤ k ∧ k < b9) (gS is s).2.1) ∧ ∃ a v, Blk W' b5 [c0, c1, c2, c3, c4, c5, c6, c7, c8, c9, .slice a (gS is s).1.length v] 26 ∧ BvF W' (fun i => n6 ≤ i) (.slice a (gS is s).1.length v) (gS is s).1) ∧ Keep (fun k => (k = b9 ∨ k = b5) ∨ k = b11) w W') := by
  obtain ⟨hn6, h56, h116⟩ := hn6
  refine CallsR.mono (then_c (P0 := fun W => (n6 ≤ W.heap.size ∧ Blk W b4 [.pointer (some ⟨b11, 0, none⟩)] 109 ∧ Blk W b11 [.pointer (some ⟨b9, 0, none⟩), .int .i64 s.2] 113 ∧ Rd nRd W b9 (fun k => n2 ≤ k ∧ k < b9) s.1 ∧ Blk W b5 [c0, c1, c2, c3, c4, c5, c6, c7, c8, c9, .slice none 0 0] 26) ∧ True) (Q := fun e' W' => e' = (rS1 s.1).2.2 ∧ Rd nRd W' b9 (fun k => n2 ≤ k ∧ k < b9) (rS1 s.1).2.1 ∧ ∃ a v, Blk W' b5 [c0, c1, c2, c3, c4, c5, c6, c7, c8, c9, .slice a (rS1 s.1).1.length v] 26 ∧ BvF W' (fun i => n6 ≤ i) (.slice a (rS1 s.1).1.length v) (rS1 s.1).1) (Kg := fun k => k = b9 ∨ k = b5) HB4 HB11 (by kernel_rfl) ⟨⟨hn6, HB4, HB11, HR9, HB5⟩, trivial⟩ (fun W1 W2 h e => ⟨⟨Nat.le_trans h.1.1 e.size, h.1.2.1.ext e, h.1.2.2.1.ext e, h.1.2.2.2.1.keep e (fun x => x) (fun _ _ x => x), h.1.2.2.2.2.ext e⟩, trivial⟩) (fun e' W1 W2 h k => by obtain ⟨h1, h2, a, v, h3, h4⟩ := h; exact ⟨h1, h2.keep k (by omega) (fun i hi he => by have := hi.2; omega), a, v, h3.keep k (by omega), h4.keep k (fun i _ hi he => by omega)⟩) (by omega) (by omega) hne2 (fun _ _ W h => CallsR.mono (rd4_c (n2 := n2) h.1.2.1 h.1.2.2.1 h.1.2.2.2.1 h.1.2.2.2.2 hne hl) fun o W' h9 => by obtain ⟨e', ho, ⟨q1, q2, a, v, q3, q4⟩, hk⟩ := h9; exact ⟨e', ho, ⟨q1, q2, a, v, q3, q4.mono fun i _ hi => by have := h.1.1; omega⟩, hk⟩)) fun o W' h => ?_
  by_cases hc : is = true ∧ s.2 = 0
  · rw [if_pos hc] at h
    obtain ⟨e', hB, hq, hK⟩ := h
    obtain ⟨q1, q2, a, v, q3, q4⟩ := hq
    rw [q1] at hB
    exact ⟨⟨⟨by rw [gS, if_pos hc]; exact hB, by rw [gS, if_pos hc]; exact q2⟩, a, v, by rw [gS, if_pos hc]; exact q3, by rw [gS, if_pos hc]; exact q4⟩, hK⟩
  · rw [if_neg hc] at h
    obtain ⟨hp, hB, hK⟩ := h
    exact ⟨⟨⟨by rw [gS, if_neg hc]; exact hB, by rw [gS, if_neg hc]; exact hp.1.2.2.2.1⟩, none, 0, by rw [gS, if_neg hc]; exact hp.1.2.2.2.2, by rw [gS, if_neg hc]; exact BvF.nil _ _⟩, Ext.keep hK⟩
end Go.Proofs.Ytaidpdjlchnonaa
