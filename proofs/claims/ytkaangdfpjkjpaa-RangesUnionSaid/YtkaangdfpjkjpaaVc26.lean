/- A part of the proof: steps and lemmas for the walks through the given program. -/
import Derived.Test.YtkaangdfpjkjpaaVc25
namespace Go.Vc
set_option linter.unusedVariables false
set_option linter.unusedSimpArgs false
section
variable {α : Type} {t : Ty α} {et : TypeId} {B0 B : Nat} {F G : Nat → Prop} {v0 : Value} {l0 : List α} {as : List Nat} {ps : List (Option Nat)} {xs : List (List α)}
/-- a producer whose elements may point at what was there before -/
theorem ChainJ.prodO {w w' : World} {done : Nat → Bool} {vals : Nat → Value} {k : Nat} {r : Value} {n : Nat} {x : List α} (j : ChainJ t et B0 B F G v0 l0 as ps xs done vals w) (e : Ext w w') (hk : ps[n]? = some (some k)) (hx : xs[n]? = some x) (hone : ∀ i, ps[i]? = some (some k) → i = n) (has : ∀ a ∈ as, a ≠ k)
    (hr : SlV t w' (fun b => G b ∧ (w.heap.size ≤ b ∨ (b < B0 ∧ v0.ownBlock ≠ some b))) r x) : ChainJ t et B0 B F G v0 l0 as ps xs (don done k) (setv vals k r) w' := by
  obtain ⟨c, hc, h1, h2, hB, h3⟩ := j
  have hv : accV v0 as (setv vals k r) c = accV v0 as vals c := accV_congr hc fun i a ha => by simp [setv, has a (List.mem_of_getElem? ha)]
  have hs := e.size
  refine ⟨c, hc, fun i a ha => by simp only [don, if_neg (has a (List.mem_of_getElem? ha))]; exact h1 i a ha, by rw [hv]; exact h2.ext e, by rw [hv]; exact ⟨by omega, by omega, hB.2.2⟩, fun i p y hi hp hy hd => ?_⟩
  rw [hv]
  by_cases hpk : p = k
  · subst hpk
    have := hone i hp
    subst this
    rw [hx] at hy
    cases hy
    simp only [setv, if_true]
    exact hr.mono fun b hb hF => ⟨hF.1, fun ho => by
      have h5 := (h2.own_lt ho).2
      rcases hF.2 with h | ⟨h, h'⟩
      · omega
      · rcases hB.2.2 b ho with h6 | h6
        · exact h' h6
        · omega, hb⟩
  · simp only [don, setv, if_neg hpk] at hd ⊢
    exact ((h3 i p y hi hp hy hd).ext e).mono fun b hb h => ⟨h.1, h.2.1, hb⟩
end
end Go.Vc
