/- A part of the proof: steps and lemmas for the walks through the given program. -/
import Derived.Test.YtifnkmflmgnfjaaGx
namespace Go.Vc
set_option linter.unusedVariables false
set_option linter.unusedSimpArgs false
/-! ### three calls that change a state, one behind the other, in a region of any order -/
def ChJ (a b c : Nat) (R : Nat → World → Prop) (done : Nat → Bool) (vals : Nat → Value) (w : World) : Prop := R (if done c = true then 3 else if done b = true then 2 else if done a = true then 1 else 0) w
section
variable {a b c : Nat} {R : Nat → World → Prop} {done : Nat → Bool} {vals : Nat → Value} {w : World} {ops : Array Oper}
theorem ChJ.start (h : R 0 w) (ha : done a = false) (hb : done b = false) (hc : done c = false) : ChJ a b c R done vals w := by
  unfold ChJ; rw [if_neg (by simp [hc]), if_neg (by simp [hb]), if_neg (by simp [ha])]; exact h
theorem don_ne {k i : Nat} (h : i ≠ k) : don done k i = done i := by simp [don, h]
theorem don_eq {k : Nat} : don done k k = true := by simp [don]
theorem ChJ.src {k : Nat} {v : Value} (j : ChJ a b c R done vals w) (ha : a ≠ k) (hb : b ≠ k) (hc : c ≠ k) : ChJ a b c R (don done k) (setv vals k v) w := by
  unfold ChJ at *; rw [don_ne ha, don_ne hb, don_ne hc]; exact j
theorem ChJ.no {a b : Nat} (hcl : Closed ops done) (hab : ∃ o, ops[b]? = some o ∧ edgeOn o a = true) (ha : done a = false) : done b = false := by
  obtain ⟨o, ho, he⟩ := hab
  cases h : done b with
  | false => rfl
  | true => have := hcl b o h ho a he; rw [ha] at this; cases this
theorem ChJ.fin (j : ChJ a b c R (fun _ => true) vals w) : R 3 w := j
end
end Go.Vc
namespace Go.Vc
/-! ### one call that changes a state, in a region of any order -/
def Ch1J (a : Nat) (R0 : World → Prop) (R1 : Value → World → Prop) (done : Nat → Bool) (vals : Nat → Value) (w : World) : Prop := if done a = true then R1 (vals a) w else R0 w
section
variable {a : Nat} {R0 : World → Prop} {R1 : Value → World → Prop} {done : Nat → Bool} {vals : Nat → Value} {w : World}
theorem Ch1J.start (h : R0 w) (ha : done a = false) : Ch1J a R0 R1 done vals w := by
  unfold Ch1J; rw [if_neg (by simp [ha])]; exact h
theorem Ch1J.src {k : Nat} {v : Value} (j : Ch1J a R0 R1 done vals w) (ha : a ≠ k) : Ch1J a R0 R1 (don done k) (setv vals k v) w := by
  unfold Ch1J at *; rw [don_ne ha, show setv vals k v a = vals a from by simp [setv, ha]]; exact j
theorem Ch1J.st (j : Ch1J a R0 R1 done vals w) (hd : done a = false) : R0 w ∧ ∀ v w', R1 v w' → Ch1J a R0 R1 (don done a) (setv vals a v) w' := by
  unfold Ch1J at *
  rw [if_neg (by simp [hd])] at j
  refine ⟨j, fun v w' h => ?_⟩
  rw [don_eq, if_pos rfl, show setv vals a v a = v from by simp [setv]]; exact h
theorem Ch1J.fin (j : Ch1J a R0 R1 (fun _ => true) vals w) : R1 (vals a) w := j
end
end Go.Vc
