/- A part of the proof: steps and lemmas for the walks through the given program. -/
import Derived.Test.YtlhanmlpionomaaGy
import Derived.Test.YtlhanmlpionomaaVc35
namespace Go.Vc
set_option linter.unusedVariables false
theorem Ch1J.srcE {a k : Nat} {R0 : World → Prop} {R1 : Value → World → Prop} {done : Nat → Bool} {vals : Nat → Value} {w w' : World} {v : Value} (h0 : ∀ w w', Ext w w' → R0 w → R0 w') (h1 : ∀ v w w', Ext w w' → R1 v w → R1 v w') (j : Ch1J a R0 R1 done vals w) (e : Ext w w') (ha : a ≠ k) : Ch1J a R0 R1 (don done k) (setv vals k v) w' := by
  refine Ch1J.src ?_ ha
  unfold Ch1J at *
  by_cases hd : done a = true
  · rw [if_pos hd] at *; exact h1 _ _ _ e j
  · rw [if_neg hd] at *; exact h0 _ _ e j
theorem pv_sub {w : World} {q : Addr} {cs : List Value} (off n : Nat) (h : Pv w q cs) : Pv w (q.add off) ((cs.drop off).take n) := fun j u hu => by
  rw [List.getElem?_take] at hu
  split at hu
  · rw [add_add]; exact h _ _ (by simpa using hu)
  · cases hu
end Go.Vc
