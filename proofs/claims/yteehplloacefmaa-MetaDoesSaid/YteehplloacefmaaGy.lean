/- A part of the proof: steps and lemmas for the walks through the given program. -/
import Derived.Test.YteehplloacefmaaGd
import Derived.Test.YteehplloacefmaaVc36
import Derived.Test.YteehplloacefmaaGx
namespace Go.Vc
set_option linter.unusedVariables false
set_option linter.unusedSimpArgs false
end Go.Vc

namespace Go.Vc
set_option linter.unusedVariables false
set_option linter.unusedSectionVars false
set_option linter.unusedSimpArgs false
/-! ### maps -/
/-- what a map's keys are -/
structure KeyT (κ : Type) where
  kk : TypeDesc
  enc : κ → Value
  same : ∀ a b, Instr.sameNow kk (enc a) (enc b) = some true ↔ a = b
  some_ : ∀ a b, ∃ c, Instr.sameNow kk (enc a) (enc b) = some c
  bits : ∀ a, Instr.sameBits 10000 (enc a) (enc a) = true
  key : ∀ (P : Program) (w : World) (t : TypeId) (e : Bool) (a : κ), P.underlying t = some kk → (Instr.checkKey e 10000 t (enc a)).run P w = .ok () w
section
variable {κ : Type} [DecidableEq κ]
def MpB (kt : KeyT κ) (w : World) (b : Nat) (l : List (κ × Value)) : Prop := ∃ es clock, w.heap[b]? = some (Obj.map es clock) ∧ es.toList.map (fun e => (e.key, e.val)) = l.map (fun p => (kt.enc p.1, p.2))
theorem MpB.lt {kt : KeyT κ} {w : World} {b : Nat} {l : List (κ × Value)} (h : MpB kt w b l) : b < w.heap.size := by
  obtain ⟨es, c, h, _⟩ := h
  exact (Array.getElem?_eq_some_iff.1 h).1
theorem MpB.keep {kt : KeyT κ} {w w' : World} {K : Nat → Prop} {b : Nat} {l : List (κ × Value)} (h : MpB kt w b l) (k : Keep K w w') (hk : ¬ K b) : MpB kt w' b l := by
  have hlt := h.lt
  obtain ⟨es, c, h, h2⟩ := h
  exact ⟨es, c, by rw [k.block b hlt hk]; exact h, h2⟩
theorem MpB.ext {kt : KeyT κ} {w w' : World} {b : Nat} {l : List (κ × Value)} (h : MpB kt w b l) (k : Ext w w') : MpB kt w' b l := h.keep k (fun x => x)
theorem MpB.turn {kt : KeyT κ} {B : Nat} {w w' : World} {b : Nat} {l : List (κ × Value)} (h : MpB kt w b l) (t : Turn B w w') (hb : b < B) : MpB kt w' b l := by
  obtain ⟨K, k, hK⟩ := t
  exact h.keep k (fun hk => by have := (hK b h.lt hk).1; omega)
section
variable {P : Program} {d : Option Tmp} {ty : TypeId} {p : String} {af : Array Edge} {g : Option (Nat × Bool)} {e : Nat → Value} {w : World} {x y c : Operand} {K : Value → World → Prop}
end
end
end Go.Vc

namespace Go.Vc
set_option linter.unusedVariables false
set_option linter.unusedSimpArgs false
section
variable {P : Program} {N : Nat} {fn : Func} {e : Nat → Value} {w : World} {R : Value → World → Prop} {v2 v3 : Value}
end
end Go.Vc

namespace Go.Vc
set_option linter.unusedVariables false
set_option linter.unusedSimpArgs false
end Go.Vc
