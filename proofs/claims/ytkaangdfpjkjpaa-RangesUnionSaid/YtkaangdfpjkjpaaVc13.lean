/- A part of the proof: steps and lemmas for the walks through the given program. -/
import Derived.Test.YtkaangdfpjkjpaaVc12
namespace Go.Vc
set_option linter.unusedVariables false
set_option linter.unusedSimpArgs false
def isB (u : Value) (b : Bool) : Bool := match u with
  | .bool c => c == b
  | _ => false
section
variable {P : Program} {N : Nat} {ops : Array Oper} {Q : Exit → Act → World → Prop} {e : Nat → Value} {w : World} {rest : List Oper}
theorem notWanted {d : Option Tmp} {op : Op} {ty : TypeId} {p : String} {af : Array Edge} {g : Nat} {b : Bool} {t : Tmp} {u : Value} (hg : (ops[g]?).bind (·.dst) = some t) (hc : e t = u) (hb : isB u b = false) : wantedE ops e ⟨d, op, ty, p, af, some (g, b)⟩ = false := by
  subst hc
  have hy : (yieldE ops e g == some b) = false := by
    unfold yieldE
    rw [hg]
    simp only []
    unfold isB at hb
    split
    · rename_i c hcc; rw [hcc] at hb; simpa using hb
    · rfl
  simp only [wantedE, Region.wanted, hy]
/-- a guarded step whose guard does not hold, or was left out itself -/
theorem l_skip {d : Option Tmp} {op : Op} {ty : TypeId} {p : String} {af : Array Edge} {g : Nat} {b : Bool} {t : Tmp} {u : Value} (hg : (ops[g]?).bind (·.dst) = some t) (hc : e t = u) (hb : isB u b = false)
    (h : wpL P N ops Q rest (updo e d undef) w) : wpL P N ops Q (⟨d, op, ty, p, af, some (g, b)⟩ :: rest) e w := by
  unfold wpL
  rw [notWanted hg hc hb]
  exact h
end
section
variable {P : Program} {N : Nat} {ops : Array Oper} {Q : Exit → Act → World → Prop} {K : Nat → Prop} {e0 : Nat → Value} {w0 : World} {l : List Oper} {k : Nat} {S : Nat → Value → World → Prop}
theorem rt_skip {d : Option Tmp} {op : Op} {ty : TypeId} {p : String} {af : Array Edge} {g : Nat} {b : Bool} {tt : Tmp} {u : Value} (hg : (ops[g]?).bind (·.dst) = some tt)
    (hc : ∀ vals w, (∀ j, edgeOn ⟨d, op, ty, p, af, some (g, b)⟩ j = true → S j (vals j) w) → envA ops vals e0 k tt = u) (hb : isB u b = false)
    (r : RegT P N ops Q K e0 w0 l (k + 1) (setS S k (fun v _ => v = undef))) : RegT P N ops Q K e0 w0 (⟨d, op, ty, p, af, some (g, b)⟩ :: l) k S := by
  refine ⟨_, fun _ _ _ h _ => h, fun vals w hR hd => ?_, r⟩
  unfold OpG
  rw [notWanted hg (hc vals w hd) hb]
  exact ⟨Keep.refl _, rfl⟩
end
section
variable {P : Program} {d : Option Tmp} {ty : TypeId} {p : String} {af : Array Edge} {g : Option (Nat × Bool)} {e : Nat → Value} {w : World} {x y c : Operand}
theorem v_orC (hc : ev e c = .bool true) : OpVat P ⟨d, .pick c (.const (.bool true)) y, ty, p, af, g⟩ e w (.bool true) := v_pick hc rfl rfl
theorem v_andC (hc : ev e c = .bool false) : OpVat P ⟨d, .pick c y (.const (.bool false)), ty, p, af, g⟩ e w (.bool false) := v_pick hc rfl rfl
end
end Go.Vc
