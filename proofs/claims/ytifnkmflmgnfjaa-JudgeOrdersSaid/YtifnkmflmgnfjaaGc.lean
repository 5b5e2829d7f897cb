/- A part of the proof: steps and lemmas for the walks through the given program. -/
import Derived.Test.YtifnkmflmgnfjaaGb
namespace Go.Vc
/-- what a reader made of -/
def Rd (eR : TypeId) (w : World) (b : Nat) (F : Nat → Prop) (l : List UInt8) : Prop := ∃ a c, Blk w b [.slice (some a) l.length c] eR ∧ Bv w F (.slice (some a) l.length c) l
theorem Rd.keep {eR : TypeId} {w w' : World} {b : Nat} {F K : Nat → Prop} {l : List UInt8} (h : Rd eR w b F l) (k : Keep K w w') (h1 : ¬ K b) (h2 : ∀ b, F b → ¬ K b) : Rd eR w' b F l := by
  obtain ⟨a, c, hb, hv⟩ := h
  exact ⟨a, c, hb.keep k h1, hv.keep k fun b _ hb => h2 b hb⟩
theorem Rd.ext {eR : TypeId} {w w' : World} {b : Nat} {F : Nat → Prop} {l : List UInt8} (h : Rd eR w b F l) (k : Ext w w') : Rd eR w' b F l := h.keep k (fun x => x) (fun _ _ x => x)
/-- reading a number: from its byte number i on -/
def rdGo : Nat → List UInt8 → Option (Nat × List UInt8)
  | _, [] => none
  | i, c :: r => if (i = 9 ∧ 1 < c.toNat) ∨ (0 < i ∧ c.toNat = 0) then none else if c.toNat < 128 then some (c.toNat, r) else
    match rdGo (i + 1) r with
    | some (n, r') => some (c.toNat % 128 + 128 * n, r')
    | none => none
def rdNum (l : List UInt8) : Option (Nat × List UInt8) := rdGo 0 l
end Go.Vc

namespace Go.Vc
set_option linter.unusedVariables false
end Go.Vc

namespace Go.Vc
set_option linter.unusedVariables false
end Go.Vc

namespace Go.Vc
set_option linter.unusedVariables false
/-- how many bytes over 127 stand ahead -/
def lead : List UInt8 → Nat
  | [] => 0
  | c :: r => if 127 < c.toNat then lead r + 1 else 0
end Go.Vc
