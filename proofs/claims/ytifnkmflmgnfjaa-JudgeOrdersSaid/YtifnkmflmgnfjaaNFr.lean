/- A part of the proof: steps and lemmas for the walks through the given program. -/
import Derived.Test.YtifnkmflmgnfjaaGn
import Derived.Test.YtifnkmflmgnfjaaVc36
namespace Go.Vc
set_option linter.unusedVariables false
set_option linter.unusedSimpArgs false
/-- a message whose bytes may be written -/
abbrev tMsGT (tE : Ty EnV) : Ty MsT := tPair (tInt .i64) (tPair (tInt .i64) (tPair (tInt .i64) (tPair (tInt .i64) (tPair (tInt .i64) (tPair (tInt .i64) (tPair (tInt .i64) (tPair (tInt .i64) (tPair (tSl tE) (tPair tBool tByF)))))))))
abbrev tMsG (tE : Ty EnV) : Ty Ms := tMap (tMsGT tE) Ms.tup
theorem pk_i64 : Pk (tInt .i64) := pk_int zq
theorem pk_tMsG {tE : Ty EnV} (h : Pk tE) : Pk (tMsG tE) := by
  intro w w' F cs x cs' hr p hc
  have h1 : Pk (tMsGT tE) := pk_pair pk_i64 (pk_pair pk_i64 (pk_pair pk_i64 (pk_pair pk_i64 (pk_pair pk_i64 (pk_pair pk_i64 (pk_pair pk_i64 (pk_pair pk_i64 (pk_pair (pk_sl h) (pk_pair pk_bool pk_by)))))))))
  obtain ⟨x', hx⟩ := h1 w w' F cs _ cs' hr p hc
  exact ⟨msOf x', hx⟩
theorem tMsG_cells {tE : Ty EnV} {w : World} {F : Nat → Prop} {cs : List Value} {m : Ms} (h : (tMsG tE).rep w F cs m) : ∃ a1 c1 a2 c2, cs = [.int .i64 m.kind, .int .i64 m.fr, .int .i64 m.to, .int .i64 m.grp, .int .i64 m.term, .int .i64 m.idx, .int .i64 m.lt, .int .i64 m.com, .slice a1 m.ents.length c1, .bool m.ok, .slice a2 m.snap.length c2] ∧ SlV tE w F (.slice a1 m.ents.length c1) m.ents ∧ tByF.rep w F [.slice a2 m.snap.length c2] m.snap ∧ m.Wf := by
  obtain ⟨_, _, rfl, ⟨rfl, h1⟩, _, _, rfl, ⟨rfl, h2⟩, _, _, rfl, ⟨rfl, h3⟩, _, _, rfl, ⟨rfl, h4⟩, _, _, rfl, ⟨rfl, h5⟩, _, _, rfl, ⟨rfl, h6⟩, _, _, rfl, ⟨rfl, h7⟩, _, _, rfl, ⟨rfl, h8⟩, _, _, rfl, ⟨v1, rfl, g1⟩, k5, k6, rfl, h9, h10⟩ := h
  obtain ⟨a1, c1, rfl⟩ := g1.shape
  obtain ⟨a2, c2, rfl, g2⟩ := byF_cells h10
  obtain rfl : k5 = [.bool m.ok] := h9
  exact ⟨a1, c1, a2, c2, rfl, g1, h10, wf_i64 h1, wf_i64 h2, wf_i64 h3, wf_i64 h4, wf_i64 h5, wf_i64 h6, wf_i64 h7, wf_i64 h8⟩
theorem OwV.byF {e : TypeId} {w : World} {B : Nat} {F : Nat → Prop} {v : Value} {xs : List UInt8} (h : OwV tU8 e w B F v xs) : tByF.rep w (fun b => B ≤ b ∨ F b) [v] xs := by
  refine ⟨v, rfl, h.view, fun hne a n c hv => ?_⟩
  obtain ⟨cells, h1, h2⟩ := h
  rcases h1.2 with ⟨h0, _⟩ | ⟨g, cap, cur, h0, hB, hg, h3⟩
  · rw [h0] at hv; cases hv
  · rw [h0] at hv; cases hv; exact ⟨_, _, hg⟩
/-- a byte of what a slice's elements hold is set: the slice stays -/
theorem OwV.poke {tE : Ty EnV} (hE : Pk tE) {e : TypeId} {w w' : World} {B : Nat} {F K : Nat → Prop} {v : Value} {ms : List Ms} (h : OwV (tMsG tE) e w B F v ms) (p : Poke w w') (k : Keep K w w') (ho : ∀ b, v.ownBlock = some b → ¬ K b) :
    ∃ ms' : List Ms, ms'.length = ms.length ∧ (∀ (i : Nat) (m m' : Ms), ms[i]? = some m → ms'[i]? = some m' → m'.snap.length = m.snap.length) ∧ OwV (tMsG tE) e w' B F v ms' := by
  obtain ⟨cells, h1, h2⟩ := h
  obtain ⟨ms', hl, hx⟩ := exists_list (P := fun i m' => (tMsG tE).rep w' (fun b => F b ∧ v.ownBlock ≠ some b) ((cells.drop (i * (tMsG tE).sz)).take (tMsG tE).sz) m') ms.length (fun i hi => pk_tMsG hE w w' _ _ _ _ (h2 i _ (List.getElem?_eq_getElem hi)) p (CsR.refl _))
  refine ⟨ms', hl, fun i m m' hm hm' => ?_, cells, ⟨by rw [hl]; exact h1.1, ?_⟩, hx⟩
  · obtain ⟨a1, c1, a2, c2, e1, _⟩ := tMsG_cells (h2 i m hm)
    obtain ⟨b1, d1, b2, d2, e2, _⟩ := tMsG_cells (hx i m' hm')
    rw [e1] at e2
    simp only [List.cons.injEq, Value.slice.injEq] at e2
    exact e2.2.2.2.2.2.2.2.2.2.2.1.2.1.symm
  · rw [hl]
    rcases h1.2 with h0 | ⟨g, cap, cur, rfl, hB, hg, h3⟩
    · exact .inl h0
    · refine .inr ⟨g, cap, cur, rfl, hB, ?_, h3⟩
      rw [k.block g (Array.getElem?_eq_some_iff.1 hg).1 (ho g rfl)]; exact hg
end Go.Vc
