/- A part of the proof: steps and lemmas for the walks through the given program. -/
import Derived.Test.YtkaangdfpjkjpaaVc22
namespace Go.Vc
set_option linter.unusedVariables false
set_option linter.unusedSimpArgs false
/-! ### bytes of a constant -/
theorem freeze_cell (w : World) (a : Addr) (n : Nat) (q : Addr) : (w.freeze a n).cell? q = w.cell? q := by
  unfold World.freeze
  split
  · rfl
  · unfold World.cell?
    simp only [Array.getElem?_modify]
    by_cases hb : a.block = q.block
    · rw [if_pos hb]
      cases hh : w.heap[q.block]? with
      | none => rfl
      | some o => cases o <;> rfl
    · rw [if_neg hb]
theorem freeze_keep (w : World) (a : Addr) (n : Nat) : Keep (fun i => i = a.block) w (w.freeze a n) ∧ (w.freeze a n).heap.size = w.heap.size := by
  unfold World.freeze
  split
  · exact ⟨Keep.refl _, rfl⟩
  · refine ⟨⟨rfl, rfl, rfl, by simp, fun k hk hne => ?_⟩, by simp⟩
    simp only [Array.getElem?_modify]
    rw [if_neg (fun h => hne h.symm)]
section
variable {P : Program} {d : Option Tmp} {ty : TypeId} {p : String} {af : Array Edge} {g : Option (Nat × Bool)} {e : Nat → Value} {w : World} {x y : Operand} {K : Value → World → Prop}
theorem to_cvLit {T et et' B b n c : Nat} {F : Nat → Prop} {xs : List UInt8} (hs : kSlice P T et = true) (he : P.underlying et = some (.int .u8)) (hx : ev e x = .slice (some ⟨b, 0, none⟩) n c) (hv : OwV tU8 et' w B F (.slice (some ⟨b, 0, none⟩) n c) xs)
    (k : ∀ w', SlV tU8 w' (fun i => i = b) (.slice (some ⟨b, 0, none⟩) n c) xs → Keep (fun i => i = b) w w' → w'.heap.size = w.heap.size → K (.slice (some ⟨b, 0, none⟩) n c) w') : OpTo P ⟨d, .convert T T x, ty, p, af, g⟩ e w K := by
  have hsv := hv.view
  obtain ⟨cells, hown, hreps⟩ := hv
  rcases hown.2 with ⟨hh, _⟩ | ⟨g', cap, cur, hh, hB, hg, h3, h4, h5, h6⟩
  · cases hh
  · simp only [Value.slice.injEq, Option.some.injEq, Addr.mk.injEq] at hh
    obtain ⟨⟨rfl, _⟩, hnn, rfl⟩ := hh
    have hrun : (execOp (ev e) ⟨d, .convert T T x, ty, p, af, g⟩).run P w = .ok (.value (.slice (some ⟨b, 0, none⟩) n c)) (w.freeze ⟨b, cur.size, none⟩ 1) := by
      have hsh : w.shape? b = some (et', cur.size) := by
        unfold World.shape?
        rw [hg]
      simp [execOp, hx, convert, run_underlying (kSlice_of hs), run_underlying he, markStringish, hsh]
    unfold OpTo
    rw [hrun]
    obtain ⟨k1, k2⟩ := freeze_keep w ⟨b, cur.size, none⟩ 1
    refine k _ ?_ k1 k2
    obtain ⟨a', c', hv', g1, g2, g3, g4⟩ := hsv
    refine ⟨a', c', hv', g1, g2, g3, fun i y hy => ?_⟩
    obtain ⟨q, cs, ha, _, hp, hr⟩ := g4 i y hy
    refine ⟨q, cs, ha, ?_, fun j u hu => ?_, hr⟩
    · rw [ha] at hv'; cases hv'; rfl
    · rw [freeze_cell]; exact hp j u hu
end
end Go.Vc
