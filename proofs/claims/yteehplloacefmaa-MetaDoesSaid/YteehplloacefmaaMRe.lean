/- A part of the proof: steps and lemmas for the walks through the given program. -/
import Derived.Test.YteehplloacefmaaVcR
import Derived.Test.YteehplloacefmaaMTy
import Derived.Test.YteehplloacefmaaVc36
namespace Go.Vc
set_option linter.unusedVariables false
set_option linter.unusedSimpArgs false
/-! ### states whose lengths are within the form's reach -/
abbrev tByR : Ty (List UInt8) := tWith tBy (fun l => l.length ≤ 140737488355328)
theorem opensR_by {P : Program} {T E : TypeId} (hu : P.underlying T = some (.slice E)) (hz : P.cellsOf E = 1) (he : P.underlying E = some (.int .u8)) (hb : P.bytesOf E = 1) : OpensR P T tByR := by
  intro H enc w base spare held fuel cs d ps h1 hr
  obtain ⟨x, hx⟩ := (opens_slice (t := tU8) hu hz (opens_u8 he)) enc w base spare held fuel cs d ps h1
  refine ⟨x, hx, ?_⟩
  obtain ⟨v, rfl, hs⟩ := hx
  obtain ⟨a, c, rfl⟩ := hs.shape
  have h2 := len_reach hu hb h1 hr
  have := reachBytes_lt
  omega
abbrev tRgR : Ty RgV := tPair tByR (tPair tByR (tPair tBool (tInt .i64)))
abbrev tMpR : Ty MpV := tPair (tInt .i64) (tSl tRgR)
abbrev tMvR : Ty MvV := tPair (tInt .i64) (tPair tByR (tPair tByR (tPair tBool (tPair (tInt .i64) (tInt .i64)))))
abbrev tMaR : Ty MaV := tPair tMvR tBool
abbrev tMtR : Ty MtV := tPair tMpR (tPair (tInt .i64) (tSl tMaR))
theorem imp_byR : Imp tByR tBy := ⟨rfl, fun _ _ _ _ h => h.1⟩
theorem imp_rgR : Imp tRgR tRg := Imp.pair imp_byR (Imp.pair imp_byR (Imp.rfl _))
theorem imp_mvR : Imp tMvR tMv := Imp.pair (Imp.rfl _) (Imp.pair imp_byR (Imp.pair imp_byR (Imp.rfl _)))
theorem imp_mtR : Imp tMtR tMt := Imp.pair (Imp.pair (Imp.rfl _) imp_rgR.tsl) (Imp.pair (Imp.rfl _) (Imp.pair imp_mvR (Imp.rfl _)).tsl)
theorem mtR_lens {w : World} {F : Nat → Prop} {cs : List Value} {s : MtV} (h : tMtR.rep w F cs s) : (∀ r ∈ s.1.2, r.1.length ≤ 140737488355328 ∧ r.2.1.length ≤ 140737488355328) ∧ ∀ x ∈ s.2.2, x.1.2.1.length ≤ 140737488355328 ∧ x.1.2.2.1.length ≤ 140737488355328 := by
  obtain ⟨k1, k2, rfl, ⟨_, _, rfl, _, v1, rfl, h1⟩, _, _, rfl, _, v2, rfl, h2⟩ := h
  constructor
  · intro r hr
    obtain ⟨i, hi⟩ := List.mem_iff_getElem?.1 hr
    obtain ⟨a, c, _, _, _, _, hel⟩ := h1
    obtain ⟨q, cs, _, _, _, hr⟩ := hel i r hi
    obtain ⟨_, _, rfl, ⟨_, b1⟩, _, _, rfl, ⟨_, b2⟩, _⟩ := hr
    exact ⟨b1, b2⟩
  · intro x hx
    obtain ⟨i, hi⟩ := List.mem_iff_getElem?.1 hx
    obtain ⟨a, c, _, _, _, _, hel⟩ := h2
    obtain ⟨q, cs, _, _, _, hr⟩ := hel i x hi
    obtain ⟨_, _, rfl, ⟨_, _, rfl, _, _, _, rfl, ⟨_, b1⟩, _, _, rfl, ⟨_, b2⟩, _⟩, _⟩ := hr
    exact ⟨b1, b2⟩
end Go.Vc
