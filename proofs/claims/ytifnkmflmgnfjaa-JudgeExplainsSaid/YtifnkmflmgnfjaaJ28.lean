/- A part of the proof: steps and lemmas for the walks through the given program. -/
import Derived.Test.YtifnkmflmgnfjaaJl
import Derived.Test.YtifnkmflmgnfjaaVc36
namespace Go.Proofs.Ytifnkmflmgnfjaa
open Go.Vc
set_option linter.unusedVariables false
set_option linter.unusedSimpArgs false
set_option maxRecDepth 100000

theorem BvF.poke {w w' : World} {F : Nat → Prop} {a : Option Addr} {n c : Nat} {l : List UInt8} (h : BvF w F (.slice a n c) l) (p : Poke w w') (hl : l.length = n) : ∃ l' : List UInt8, l'.length = n ∧ BvF w' F (.slice a n c) l' := by
  obtain ⟨l', h'⟩ := pk_by _ _ _ _ _ _ h p (CsR.refl _)
  refine ⟨l', ?_, h'⟩
  have h2 : BvF w' F (.slice a n c) l' := h'
  obtain ⟨a', c', hs⟩ := h2.bv.shape
  cases hs; rfl
end Go.Proofs.Ytifnkmflmgnfjaa
