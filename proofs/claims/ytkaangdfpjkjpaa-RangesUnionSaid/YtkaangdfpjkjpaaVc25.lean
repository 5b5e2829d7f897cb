/- A part of the proof: steps and lemmas for the walks through the given program. -/
import Derived.Test.YtkaangdfpjkjpaaVc23
namespace Go.Vc
set_option linter.unusedVariables false
set_option linter.unusedSimpArgs false
section
variable {P : Program} {d : Option Tmp} {ty : TypeId} {p : String} {af : Array Edge} {g : Option (Nat × Bool)} {e : Nat → Value} {w : World} {x y : Operand} {K : Value → World → Prop} {α : Type}
/-- 'append(nil, ys...)': a copy of one's own -/
theorem to_appNil {t : Ty α} {T et bytes : Nat} {F F' : Nat → Prop} {u : Value} {ys : List α} (hk : kElem P T et t.sz bytes = true) (hx : ev e x = .slice none 0 0) (hy : ev e y = u) (hu : SlV t w F' u ys) (hF : ∀ cs z, t.rep w F' cs z → t.rep w F cs z) (hn : ys.length * bytes ≤ 140737488355328)
    (k : ∀ v w', OwV t et w' w.heap.size F v ys → Ext w w' → K v w') : OpTo P ⟨d, .call { callee := .builtin .append, args := #[x, y], argTypes := #[T, T] }, ty, p, af, g⟩ e w K := by
  refine to_append (B := w.heap.size) (F := F) hk hx (OwV.nil t et w w.heap.size F) hy hu (fun cs z h => t.mono (hF cs z h) fun b _ hb => ⟨hb, by simp [Value.ownBlock]⟩) (by simpa using hn) (by simpa using hu.max) (Nat.le_refl _) fun a n cc w' h1 _ h3 _ _ => k _ _ (by simpa using h1) (h3.mono fun b _ hb => by simp [Value.ownBlock] at hb)
end
end Go.Vc
