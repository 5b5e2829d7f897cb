/- A part of the proof: steps and lemmas for the walks through the given program. -/
import Derived.Test.YtaidpdjlchnonaaN36
import Derived.Test.YtaidpdjlchnonaaN37
import Derived.Test.YtaidpdjlchnonaaN39
import Derived.Test.YtaidpdjlchnonaaN40
import Derived.Test.YtaidpdjlchnonaaNc
import Derived.Test.YtaidpdjlchnonaaNh
import Derived.Test.YtaidpdjlchnonaaNg
import Derived.Test.YtaidpdjlchnonaaNFr
namespace Go.Proofs.Ytaidpdjlchnonaa
open Go.Vc
set_option linter.unusedVariables false
set_option linter.unusedSimpArgs false
set_option maxRecDepth 100000

/-- a way and the document's: the same -/
def WR (w : World) (n0 bw br : Nat) (ms : List Ms) (lost : Nat) : Prop := bw ≠ br ∧ n0 ≤ bw ∧ n0 ≤ br ∧ (∃ a c, Blk w bw [.bool true, .slice a ms.length c, .int .i64 (lost : Nat)] 68 ∧ SlV tMs w (fun i => i ≠ bw ∧ i ≠ br) (.slice a ms.length c) ms) ∧ (∃ a c, Blk w br [.slice a ms.length c, .int .i64 (lost : Nat)] 52 ∧ SlV tMs w (fun i => i ≠ bw ∧ i ≠ br) (.slice a ms.length c) ms) ∧ (∀ m ∈ ms, mayN m = true) ∧ ms.length ≤ 256
def badL (ls : List Ms) : Bool := ls.any (fun m => !mayN m)
def sdN (ms ls : List Ms) : Nat := if badL ls = true then 0 else sendN ms ls
def sdE (ls : List Ms) : Int := if badL ls = true then 2 else 0
def sdL (ms ls : List Ms) : List Ms := if badL ls = true then ms else sendL ms ls
theorem sdL_may {ms ls : List Ms} (h : ∀ m ∈ ms, mayN m = true) : ∀ m ∈ sdL ms ls, mayN m = true := by
  unfold sdL; split
  · exact h
  · next hb => exact sendL_may h (any_may' hb)
theorem sdL_len {ms ls : List Ms} (h : ms.length ≤ 256) : (sdL ms ls).length ≤ 256 := by
  unfold sdL; split
  · exact h
  · exact sendL_le _ _
theorem sdN_le (ms ls : List Ms) : sdN ms ls ≤ ms.length + ls.length := by
  unfold sdN sendN; split <;> omega
theorem SendA_c {w : World} {F G : Nat → Prop} {b c : Nat} {a : Option Addr} {ms ls : List Ms} {lost : Nat} {v : Value} (HB1 : Blk w b [.bool true, .slice a ms.length c, .int .i64 (lost : Nat)] 68) (HS1 : SlV tMs w G (.slice a ms.length c) ms) (HS2 : SlV tMs w F v ls)
    (hG : ∀ i, G i → i ≠ b) (hml : ms.length ≤ 256) (hll : ls.length ≤ 1000000) (hlo : lost ≤ 4611686018427387904) : CallsR Try.prog 21 #[.pointer (some ⟨b, 0, none⟩), v] w (fun o w' => o = .tuple #[.int .i64 (sdN ms ls : Nat), .int .i64 (sdE ls)] ∧
      (∃ a2 c2, Blk w' b [.bool true, .slice a2 (sdL ms ls).length c2, .int .i64 ((lost + sdN ms ls : Nat) : Int)] 68 ∧ SlV tMs w' (fun i => G i ∨ w.heap.size ≤ i) (.slice a2 (sdL ms ls).length c2) (sdL ms ls)) ∧ Keep (fun i => i = b) w w') := by
  by_cases hb : badL ls = true
  · rw [sdN, sdE, sdL, if_pos hb, if_pos hb, if_pos hb]
    exact CallsR.mono (Send_no HB1 HS2 hb) fun o w' h => ⟨h.1, ⟨a, c, HB1.ext h.2, (HS1.ext h.2).mono fun _ _ h => .inl h⟩, Ext.keep h.2⟩
  · rw [sdN, sdE, sdL, if_neg hb, if_neg hb, if_neg hb]
    exact CallsR.mono (Send_c HB1 HS1 HS2 hG hml hll (any_may' hb) (by omega)) fun o w' h => ⟨h.1, by rw [Int.natCast_add]; exact h.2.1, h.2.2⟩
theorem refSendA_c {w : World} {F G : Nat → Prop} {b c : Nat} {a : Option Addr} {ms ls : List Ms} {lost : Nat} {v : Value} (HB1 : Blk w b [.slice a ms.length c, .int .i64 (lost : Nat)] 52) (HS1 : SlV tMs w G (.slice a ms.length c) ms) (HS2 : SlV tMs w F v ls)
    (hG : ∀ i, G i → i ≠ b) (hF : ∀ i, F i → i ≠ b) (hml : ms.length ≤ 256) (hll : ls.length ≤ 1000000) (hlo : lost ≤ 4611686018427387904) : CallsR Try.prog 71 #[.pointer (some ⟨b, 0, none⟩), v] w (fun o w' => o = .tuple #[.int .i64 (sdN ms ls : Nat), .int .i64 (sdE ls)] ∧
      (∃ a2 c2, Blk w' b [.slice a2 (sdL ms ls).length c2, .int .i64 ((lost + sdN ms ls : Nat) : Int)] 52 ∧ SlV tMs w' (fun i => G i ∨ F i ∨ w.heap.size ≤ i) (.slice a2 (sdL ms ls).length c2) (sdL ms ls)) ∧ Keep (fun i => i = b) w w') := by
  by_cases hb : badL ls = true
  · rw [sdN, sdE, sdL, if_pos hb, if_pos hb, if_pos hb]
    exact CallsR.mono (refSend_no HS2 hb) fun o w' h => ⟨h.1, ⟨a, c, HB1.ext h.2, (HS1.ext h.2).mono fun _ _ h => .inl h⟩, Ext.keep h.2⟩
  · rw [sdN, sdE, sdL, if_neg hb, if_neg hb, if_neg hb]
    exact CallsR.mono (refSend_c HB1 HS1 HS2 hG hF hml hll (any_may' hb) (by omega)) fun o w' h => ⟨h.1, by rw [Int.natCast_add]; exact h.2.1, h.2.2⟩
theorem sizeN_le2 {m : Ms} (h : sizeN m ≤ 200000) : m.snap.length ≤ 200000 ∧ m.ents.length ≤ 200000 ∧ ∀ e ∈ m.ents, e.2.length ≤ 200000 := by
  have h1 := sizeL_ge m.ents (m.snap.length + m.ents.length)
  have h2 := sizeL_mem m.ents (m.snap.length + m.ents.length) (by unfold sizeN at h; omega)
  unfold sizeN at h
  exact ⟨by omega, by omega, fun e he => by have := h2 e he; omega⟩
/-- what a step does to a way and the document's -/
def DoP (n0 bw br lost : Nat) (w : World) (o : Value) (w' : World) : Prop := (∃ (bw' : Nat) (ms' : List Ms) (lost' : Nat), o = .tuple #[.pointer (some ⟨bw', 0, none⟩), .pointer (some ⟨br, 0, none⟩), .bool true] ∧ WR w' n0 bw' br ms' lost' ∧ lost' ≤ lost + 1000) ∧ Keep (fun i => i = bw ∨ i = br) w w'
end Go.Proofs.Ytaidpdjlchnonaa
