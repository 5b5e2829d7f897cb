/- A part of the proof: steps and lemmas for the walks through the given program. -/
import Derived.Test.YtaidpdjlchnonaaN27
import Derived.Test.YtaidpdjlchnonaaVc35
namespace Go.Proofs.Ytaidpdjlchnonaa
open Go.Vc
set_option linter.unusedVariables false
set_option linter.unusedSimpArgs false
set_option maxRecDepth 100000

abbrev RSt := List UInt8 × Int
theorem smV_rng (is : Bool) (most : Nat) (s : RSt) : 0 ≤ smV is most s ∧ smV is most s ≤ most := by
  rw [smV]; split
  · split
    · split <;> omega
    · omega
  · omega
def smI (b0 b1 b2 : Bool) (most : Nat) (s : RSt) : Nat → RSt
  | 0 => s
  | 1 => smS b0 most s
  | 2 => smS b1 most (smS b0 most s)
  | _ => smS b2 most (smS b1 most (smS b0 most s))
def rA (l : List UInt8) : RSt := smS true 7 (l, 0)
def rK (l : List UInt8) : Int := smV true 7 (l, 0)
def rB (l : List UInt8) : Nat → RSt := smI true true true 5 (rA l)
def rC (l : List UInt8) : RSt := smS true 2147483647 (rB l 3)
def rD (l : List UInt8) : Nat → RSt := smI (kNm (rK l) 0) (kNm (rK l) 1) (kNm (rK l) 2) 2147483647 (rC l)
/-- the head of what is read -/
def rM (l : List UInt8) : Ms := ⟨rK l, smV true 5 (rB l 0), smV true 5 (rB l 1), smV true 5 (rB l 2), smV true 2147483647 (rB l 3), smV (kNm (rK l) 0) 2147483647 (rD l 0), smV (kNm (rK l) 1) 2147483647 (rD l 1), smV (kNm (rK l) 2) 2147483647 (rD l 2), [], false, []⟩
end Go.Proofs.Ytaidpdjlchnonaa
