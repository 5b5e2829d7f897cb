/- A part of the proof: steps and lemmas for the walks through the given program. -/
import Derived.Test.YtaidpdjlchnonaaGw
import Derived.Test.YtaidpdjlchnonaaGd
import Derived.Test.YtaidpdjlchnonaaGc
namespace Go.Proofs.Ytaidpdjlchnonaa
open Go.Vc
set_option linter.unusedVariables false
set_option linter.unusedSimpArgs false
set_option maxRecDepth 100000

abbrev nSl : Nat := 24
theorem OwV_sep {α β : Type} {t : Ty α} {t' : Ty β} {e : TypeId} {w0 w : World} {B : Nat} {F G : Nat → Prop} {v : Value} {ys : List α} (o : OwV t e w0 B F v ys) (hm : ∀ b, G b → w0.heap.size ≤ b) (hB : B ≤ w0.heap.size) :
    ∀ cs x, t'.rep w G cs x → t'.rep w (fun b => B ≤ b ∧ v.ownBlock ≠ some b) cs x := fun cs x h =>
  t'.mono h fun b _ hb => ⟨Nat.le_trans hB (hm b hb), fun he => by have := (o.own_lt he).2; have := hm b hb; omega⟩
/-- a list's form -/
def wList {α : Type} (sp : α → List UInt8) (xs : List α) : List UInt8 := wNum xs.length ++ (xs.map sp).flatten

end Go.Proofs.Ytaidpdjlchnonaa

namespace Go.Proofs.Ytaidpdjlchnonaa
open Go.Vc
set_option linter.unusedVariables false
set_option linter.unusedSimpArgs false
set_option maxRecDepth 100000

abbrev nRf : Nat := 126
/-- the document's reader -/
def Rf (w : World) (b : Nat) (F : Nat → Prop) (l : List UInt8) : Prop := ∃ v, Blk w b [v] nRf ∧ Bv w F v l
theorem Rf.keep {w w' : World} {b : Nat} {F K : Nat → Prop} {l : List UInt8} (h : Rf w b F l) (k : Keep K w w') (h1 : ¬ K b) (h2 : ∀ b, F b → ¬ K b) : Rf w' b F l := by
  obtain ⟨v, hb, hv⟩ := h
  exact ⟨v, hb.keep k h1, hv.keep k (fun i _ hi => h2 i hi)⟩
theorem Rf.ext {w w' : World} {b : Nat} {F : Nat → Prop} {l : List UInt8} (h : Rf w b F l) (e : Ext w w') : Rf w' b F l := h.keep e (fun x => x) (fun _ _ x => x)
end Go.Proofs.Ytaidpdjlchnonaa
