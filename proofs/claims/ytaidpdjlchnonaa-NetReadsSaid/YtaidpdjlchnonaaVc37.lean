/- A part of the proof: steps and lemmas for the walks through the given program. -/
import Derived.Test.YtaidpdjlchnonaaGd
namespace Go.Vc
set_option linter.unusedVariables false
set_option linter.unusedSimpArgs false
/-- texts joined -/
theorem ba_app (a b : List UInt8) : (⟨a.toArray⟩ : ByteArray) ++ ⟨b.toArray⟩ = ⟨(a ++ b).toArray⟩ := by
  apply ByteArray.ext
  simp [ByteArray.data_append]
theorem v_scat {P : Program} {d : Option Tmp} {ty : TypeId} {p : String} {af : Array Edge} {g : Option (Nat × Bool)} {e : Nat → Value} {w : World} {x y : Operand} {a b : List UInt8} {xt yt : TypeId} (hx : ev e x = .string ⟨a.toArray⟩) (hy : ev e y = .string ⟨b.toArray⟩) (hn : a.length + b.length ≤ 9223372036854775807) : OpVat P ⟨d, .binOp .add xt x y yt, ty, p, af, g⟩ e w (.string ⟨(a ++ b).toArray⟩) := by
  have h1 : ((⟨a.toArray⟩ : ByteArray).size : Int) + ((⟨b.toArray⟩ : ByteArray).size : Int) ≤ 9223372036854775807 := by simp [ByteArray.size]; omega
  simp [OpVat, execOp, hx, hy, eqGuard, binOp, Op.stringOp, ba_app, h1]
end Go.Vc
