/- A part of the proof: steps and lemmas for the walks through the given program. -/
import Derived.Test.YtkaangdfpjkjpaaVc16
namespace Go.Vc
set_option linter.unusedVariables false
section
variable {P : Program} {N : Nat} {ops : Array Oper} {Q : Exit → Act → World → Prop} {e : Nat → Value} {w : World} {rest : List Oper}
/-- guarded, in the order of the text: a call whose answer is known -/
theorem l_g1f {d : Option Tmp} {op : Op} {ty : TypeId} {p : String} {af : Array Edge} {g : Nat} {b c : Bool} {tt : Tmp} {t : Value} (hg : (ops[g]?).bind (·.dst) = some tt) (hc : e tt = .bool c)
    (h : (c == b) = true → OpTo P ⟨d, op, ty, p, af, some (g, b)⟩ e w (fun v w' => v = t ∧ Ext w w')) (r : ∀ w', Ext w w' → wpL P N ops Q rest (updo e d (bif (c == b) then t else undef)) w') :
    wpL P N ops Q (⟨d, op, ty, p, af, some (g, b)⟩ :: rest) e w := by
  unfold wpL
  rw [wanted1 hg hc]
  cases hcb : (c == b) with
  | true => exact (h hcb).mono fun v w' hv => by obtain ⟨rfl, k⟩ := hv; have := r w' k; rw [hcb] at this; exact this
  | false => have := r w (Keep.refl _); rw [hcb] at this; exact this
theorem l_g2f {d : Option Tmp} {op : Op} {ty : TypeId} {p : String} {af : Array Edge} {g : Nat} {b c G : Bool} {tt : Tmp} {t : Value} (hg : (ops[g]?).bind (·.dst) = some tt) (hc : e tt = bif G then .bool c else undef)
    (h : (G && (c == b)) = true → OpTo P ⟨d, op, ty, p, af, some (g, b)⟩ e w (fun v w' => v = t ∧ Ext w w')) (r : ∀ w', Ext w w' → wpL P N ops Q rest (updo e d (bif (G && (c == b)) then t else undef)) w') :
    wpL P N ops Q (⟨d, op, ty, p, af, some (g, b)⟩ :: rest) e w := by
  unfold wpL
  rw [wanted2 hg hc]
  cases hcb : (G && (c == b)) with
  | true => exact (h hcb).mono fun v w' hv => by obtain ⟨rfl, k⟩ := hv; have := r w' k; rw [hcb] at this; exact this
  | false => have := r w (Keep.refl _); rw [hcb] at this; exact this
end
end Go.Vc
