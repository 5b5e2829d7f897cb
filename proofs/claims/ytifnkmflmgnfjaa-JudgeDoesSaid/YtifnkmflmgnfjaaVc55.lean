/- A part of the proof: steps and lemmas for the walks through the given program. -/
import Derived.Test.YtifnkmflmgnfjaaJv
namespace Go.Vc
set_option linter.unusedVariables false
set_option linter.unusedSimpArgs false
section
variable {P : Program} {d : Option Tmp} {xt yt ty : TypeId} {p : String} {af : Array Edge} {g : Option (Nat × Bool)} {e : Nat → Value} {w : World} {x y : Operand} {k : IntKind} {a b : Int}
theorem v_xor {t : Int} (hx : ev e x = .int k a) (hy : ev e y = .int k b) (ht : k.wrap ((BitVec.ofInt k.bits a ^^^ BitVec.ofInt k.bits b).toNat) = t) : OpVat P ⟨d, .binOp .xor xt x y yt, ty, p, af, g⟩ e w (.int k t) := by
  subst ht; simp [OpVat, execOp, hx, hy, eqGuard, binOp, Op.intBits]
end
theorem xor1 (x : UInt8) : ∃ z : UInt8, IntKind.u8.wrap ((BitVec.ofInt IntKind.u8.bits ((x.toNat : Nat) : Int) ^^^ BitVec.ofInt IntKind.u8.bits 1).toNat) = ((z.toNat : Nat) : Int) := by
  obtain ⟨n, hn⟩ : ∃ n, n = (BitVec.ofInt IntKind.u8.bits ((x.toNat : Nat) : Int) ^^^ BitVec.ofInt IntKind.u8.bits 1).toNat := ⟨_, rfl⟩
  have hlt : n < 2 ^ 8 := by rw [hn]; exact BitVec.isLt _
  rw [← hn]
  refine ⟨UInt8.ofNat n, ?_⟩
  rw [wr_u8 zo zo, UInt8.toNat_ofNat', Nat.mod_eq_of_lt hlt]
end Go.Vc
