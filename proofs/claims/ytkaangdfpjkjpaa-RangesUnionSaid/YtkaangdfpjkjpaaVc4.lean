/- A part of the proof: steps and lemmas for the walks through the given program. -/
import Derived.Test.YtkaangdfpjkjpaaVc3
namespace Go.Vc
set_option linter.unusedVariables false
set_option linter.unusedSimpArgs false

theorem run_equalIn_bool (P : Program) (w : World) (n : Nat) (t : TypeId) (a b : Bool) (h : P.underlying t = some .bool) : (Op.equalIn (n + 1) t (.bool a) (.bool b)).run P w = .ok (a == b) w := by
  simp [Op.equalIn, run_underlying h]
theorem run_equalIn_ptr (P : Program) (w : World) (n : Nat) (t et : TypeId) (a : Option Addr) (h : P.underlying t = some (.pointer et)) : (Op.equalIn (n + 1) t (.pointer a) (.pointer none)).run P w = .ok a.isNone w := by
  cases a <;> simp [Op.equalIn, run_underlying h, samePointer]
theorem run_equalIn_func (P : Program) (w : World) (n : Nat) (t : TypeId) {ps rs : Array TypeId} {v : Bool} (fn : Fn) (a b : Array Value) (h : P.underlying t = some (.func ps rs v)) : (Op.equalIn (n + 1) t (.func fn a b) .nilFunc).run P w = .ok false w := by
  simp [Op.equalIn, run_underlying h]
theorem run_equalIn_nilfunc (P : Program) (w : World) (n : Nat) (t : TypeId) {ps rs : Array TypeId} {v : Bool} (h : P.underlying t = some (.func ps rs v)) : (Op.equalIn (n + 1) t .nilFunc .nilFunc).run P w = .ok true w := by
  simp [Op.equalIn, run_underlying h]
/-! ### values of plain operations -/
section
variable {P : Program} {d : Option Tmp} {ty : TypeId} {p : String} {af : Array Edge} {g : Option (Nat × Bool)} {e : Nat → Value} {w : World} {x y c : Operand}

theorem v_move {t : Value} (hx : ev e x = t) : OpVat P ⟨d, .move x, ty, p, af, g⟩ e w t := by subst hx; rfl
theorem v_assign {t : Value} (hx : ev e x = t) : OpVat P ⟨d, .assign x, ty, p, af, g⟩ e w t := by subst hx; rfl
theorem v_pick {b : Bool} {s t : Value} (hc : ev e c = .bool b) (hx : ev e x = s) (hy : ev e y = t) : OpVat P ⟨d, .pick c x y, ty, p, af, g⟩ e w (bif b then s else t) := by
  subst hx; subst hy; cases b <;> simp [OpVat, execOp, hc, asBool]
theorem v_or {b q : Bool} (hc : ev e c = .bool b) (hy : ev e y = bif (b == false) then .bool q else undef) : OpVat P ⟨d, .pick c (.const (.bool true)) y, ty, p, af, g⟩ e w (.bool (b || q)) := by
  cases b
  · simp [OpVat, execOp, hc, asBool, hy]
  · simp [OpVat, execOp, hc, asBool]; rfl
theorem v_and {b q : Bool} (hc : ev e c = .bool b) (hy : ev e y = bif (b == true) then .bool q else undef) : OpVat P ⟨d, .pick c y (.const (.bool false)), ty, p, af, g⟩ e w (.bool (b && q)) := by
  cases b
  · simp [OpVat, execOp, hc, asBool]; rfl
  · simp [OpVat, execOp, hc, asBool, hy]
/-- where the second is there whatever the first is -/
theorem v_or' {b q : Bool} (hc : ev e c = .bool b) (hy : ev e y = .bool q) : OpVat P ⟨d, .pick c (.const (.bool true)) y, ty, p, af, g⟩ e w (.bool (b || q)) := by
  cases b
  · simp [OpVat, execOp, hc, asBool, hy]
  · simp [OpVat, execOp, hc, asBool]; rfl

section ints
variable {k : IntKind} {a b : Int} {xt yt : TypeId}
theorem v_add {t : Int} (hx : ev e x = .int k a) (hy : ev e y = .int k b) (ht : k.wrap (a + b) = t) : OpVat P ⟨d, .binOp .add xt x y yt, ty, p, af, g⟩ e w (.int k t) := by
  subst ht; simp [OpVat, execOp, hx, hy, eqGuard, binOp, Op.intArith]
theorem v_sub {t : Int} (hx : ev e x = .int k a) (hy : ev e y = .int k b) (ht : k.wrap (a - b) = t) : OpVat P ⟨d, .binOp .sub xt x y yt, ty, p, af, g⟩ e w (.int k t) := by
  subst ht; simp [OpVat, execOp, hx, hy, eqGuard, binOp, Op.intArith]
theorem v_mul {t : Int} (hx : ev e x = .int k a) (hy : ev e y = .int k b) (ht : k.wrap (a * b) = t) : OpVat P ⟨d, .binOp .mul xt x y yt, ty, p, af, g⟩ e w (.int k t) := by
  subst ht; simp [OpVat, execOp, hx, hy, eqGuard, binOp, Op.intArith]
theorem v_quo {t : Int} (hx : ev e x = .int k a) (hy : ev e y = .int k b) (h0 : b ≠ 0) (ht : k.wrap (a.tdiv b) = t) : OpVat P ⟨d, .binOp .quo xt x y yt, ty, p, af, g⟩ e w (.int k t) := by
  subst ht; simp [OpVat, execOp, hx, hy, eqGuard, binOp, Op.intDiv, h0]
theorem v_rem {t : Int} (hx : ev e x = .int k a) (hy : ev e y = .int k b) (h0 : b ≠ 0) (ht : a.tmod b = t) : OpVat P ⟨d, .binOp .rem xt x y yt, ty, p, af, g⟩ e w (.int k t) := by
  subst ht; simp [OpVat, execOp, hx, hy, eqGuard, binOp, Op.intDiv, h0]
theorem v_bor {t : Int} (hx : ev e x = .int k a) (hy : ev e y = .int k b) (ht : k.wrap ((BitVec.ofInt k.bits a ||| BitVec.ofInt k.bits b).toNat) = t) : OpVat P ⟨d, .binOp .or xt x y yt, ty, p, af, g⟩ e w (.int k t) := by
  subst ht; simp [OpVat, execOp, hx, hy, eqGuard, binOp, Op.intBits]
theorem v_band {t : Int} (hx : ev e x = .int k a) (hy : ev e y = .int k b) (ht : k.wrap ((BitVec.ofInt k.bits a &&& BitVec.ofInt k.bits b).toNat) = t) : OpVat P ⟨d, .binOp .and xt x y yt, ty, p, af, g⟩ e w (.int k t) := by
  subst ht; simp [OpVat, execOp, hx, hy, eqGuard, binOp, Op.intBits]
theorem v_bandNot {t : Int} (hx : ev e x = .int k a) (hy : ev e y = .int k b) (ht : k.wrap ((BitVec.ofInt k.bits a &&& ~~~ BitVec.ofInt k.bits b).toNat) = t) : OpVat P ⟨d, .binOp .andNot xt x y yt, ty, p, af, g⟩ e w (.int k t) := by
  subst ht; simp [OpVat, execOp, hx, hy, eqGuard, binOp, Op.intBits]
theorem v_shl {t : Int} {k' : IntKind} (hx : ev e x = .int k a) (hy : ev e y = .int k' b) (h0 : 0 ≤ b) (ht : k.wrap (a * 2 ^ (min b.toNat k.bits)) = t) : OpVat P ⟨d, .binOp .shl xt x y yt, ty, p, af, g⟩ e w (.int k t) := by
  subst ht; simp [OpVat, execOp, hx, hy, eqGuard, binOp, Op.shift, show ¬ b < 0 by omega]
theorem v_shr {t : Int} {k' : IntKind} (hx : ev e x = .int k a) (hy : ev e y = .int k' b) (h0 : 0 ≤ b) (ht : a.fdiv (2 ^ (min b.toNat k.bits)) = t) : OpVat P ⟨d, .binOp .shr xt x y yt, ty, p, af, g⟩ e w (.int k t) := by
  subst ht; simp [OpVat, execOp, hx, hy, eqGuard, binOp, Op.shift, show ¬ b < 0 by omega]
theorem v_lss (hx : ev e x = .int k a) (hy : ev e y = .int k b) : OpVat P ⟨d, .binOp .lss xt x y yt, ty, p, af, g⟩ e w (.bool (decide (a < b))) := by
  simp [OpVat, execOp, hx, hy, eqGuard, binOp, Op.intCmp]
theorem v_leq (hx : ev e x = .int k a) (hy : ev e y = .int k b) : OpVat P ⟨d, .binOp .leq xt x y yt, ty, p, af, g⟩ e w (.bool (decide (a ≤ b))) := by
  simp [OpVat, execOp, hx, hy, eqGuard, binOp, Op.intCmp]
theorem v_gtr (hx : ev e x = .int k a) (hy : ev e y = .int k b) : OpVat P ⟨d, .binOp .gtr xt x y yt, ty, p, af, g⟩ e w (.bool (decide (b < a))) := by
  simp [OpVat, execOp, hx, hy, eqGuard, binOp, Op.intCmp]
theorem v_geq (hx : ev e x = .int k a) (hy : ev e y = .int k b) : OpVat P ⟨d, .binOp .geq xt x y yt, ty, p, af, g⟩ e w (.bool (decide (b ≤ a))) := by
  simp [OpVat, execOp, hx, hy, eqGuard, binOp, Op.intCmp]
theorem v_eql (hx : ev e x = .int k a) (hy : ev e y = .int k b) : OpVat P ⟨d, .binOp .eql xt x y yt, ty, p, af, g⟩ e w (.bool (decide (a = b))) := by
  have : (a == b) = decide (a = b) := rfl
  simp [OpVat, execOp, hx, hy, eqGuard, binOp, Op.intCmp, this]
theorem v_neq (hx : ev e x = .int k a) (hy : ev e y = .int k b) : OpVat P ⟨d, .binOp .neq xt x y yt, ty, p, af, g⟩ e w (.bool (!decide (a = b))) := by
  simp [OpVat, execOp, hx, hy, eqGuard, binOp, Op.intCmp, bne]
  rfl
theorem v_neg {t : Int} (hx : ev e x = .int k a) (ht : k.wrap (0 - a) = t) : OpVat P ⟨d, .unOp .neg xt x, ty, p, af, g⟩ e w (.int k t) := by
  subst ht; simp [OpVat, execOp, hx, Op.unary, Op.intArith]
/-- a number turned into one of another kind -/
theorem v_conv {t : Int} {k' : IntKind} {ds : TypeDesc} {src dst : TypeId} (hs : P.underlying src = some ds) (hd : P.underlying dst = some (.int k)) (hx : ev e x = .int k' a) (ht : k.wrap a = t) : OpVat P ⟨d, .convert src dst x, ty, p, af, g⟩ e w (.int k t) := by
  subst ht; simp [OpVat, execOp, hx, convert, run_underlying hs, run_underlying hd, Conv.intToInt]
end ints

theorem v_not {b : Bool} {xt : TypeId} (hx : ev e x = .bool b) : OpVat P ⟨d, .unOp .not xt x, ty, p, af, g⟩ e w (.bool !b) := by
  simp [OpVat, execOp, hx, Op.unary]

theorem v_beql {a b : Bool} {xt yt : TypeId} (ht : P.underlying xt = some .bool) (hx : ev e x = .bool a) (hy : ev e y = .bool b) : OpVat P ⟨d, .binOp .eql xt x y yt, ty, p, af, g⟩ e w (.bool (a == b)) := by
  simp only [OpVat, execOp, hx, hy, eqGuard, binOp]; simp [Op.equal, Op.maxDepth, run_equalIn_bool P w 9999 xt a b ht]
theorem v_bneq {a b : Bool} {xt yt : TypeId} (ht : P.underlying xt = some .bool) (hx : ev e x = .bool a) (hy : ev e y = .bool b) : OpVat P ⟨d, .binOp .neq xt x y yt, ty, p, af, g⟩ e w (.bool !(a == b)) := by
  simp only [OpVat, execOp, hx, hy, eqGuard, binOp]; simp [Op.equal, Op.maxDepth, run_equalIn_bool P w 9999 xt a b ht]
theorem v_seql {a b : ByteArray} {xt yt : TypeId} (hx : ev e x = .string a) (hy : ev e y = .string b) : OpVat P ⟨d, .binOp .eql xt x y yt, ty, p, af, g⟩ e w (.bool (a.toList == b.toList)) := by
  simp [OpVat, execOp, hx, hy, eqGuard, binOp, Op.stringOp]
theorem v_sneq {a b : ByteArray} {xt yt : TypeId} (hx : ev e x = .string a) (hy : ev e y = .string b) : OpVat P ⟨d, .binOp .neq xt x y yt, ty, p, af, g⟩ e w (.bool !(a.toList == b.toList)) := by
  simp [OpVat, execOp, hx, hy, eqGuard, binOp, Op.stringOp]
theorem v_sleneq {a : Option Addr} {n c : Nat} {xt yt et : TypeId} (ht : P.underlying xt = some (.slice et)) (hx : ev e x = .slice a n c) (hy : ev e y = .slice none 0 0) : OpVat P ⟨d, .binOp .eql xt x y yt, ty, p, af, g⟩ e w (.bool a.isNone) := by
  have := Lib.run_eql_slice_nil (P := P) w xt et a n c 0 0 ht
  simp [OpVat, execOp, hx, hy, eqGuard, this]
theorem v_peql {a : Option Addr} {xt yt et : TypeId} (ht : P.underlying xt = some (.pointer et)) (hx : ev e x = .pointer a) (hy : ev e y = .pointer none) : OpVat P ⟨d, .binOp .eql xt x y yt, ty, p, af, g⟩ e w (.bool a.isNone) := by
  simp only [OpVat, execOp, hx, hy, eqGuard, binOp]; simp [Op.equal, Op.maxDepth, run_equalIn_ptr P w 9999 xt et a ht]
theorem v_pneq {a : Option Addr} {xt yt et : TypeId} (ht : P.underlying xt = some (.pointer et)) (hx : ev e x = .pointer a) (hy : ev e y = .pointer none) : OpVat P ⟨d, .binOp .neq xt x y yt, ty, p, af, g⟩ e w (.bool !a.isNone) := by
  simp only [OpVat, execOp, hx, hy, eqGuard, binOp]; simp [Op.equal, Op.maxDepth, run_equalIn_ptr P w 9999 xt et a ht]
theorem v_nilCheck {a : Addr} (hx : ev e x = .pointer (some a)) : OpVat P ⟨d, .nilCheck x, ty, p, af, g⟩ e w (.pointer (some a)) := by
  simp [OpVat, execOp, hx]
theorem v_extract {vs : Array Value} {i : Nat} {t : Value} (hx : ev e x = .tuple vs) (hi : vs[i]? = some t) : OpVat P ⟨d, .extract x i, ty, p, af, g⟩ e w t := by
  simp [OpVat, execOp, hx, Instr.extract, hi]
theorem v_makeFunc {fn : Fn} {first captured : Array Operand} {f' c' : Array Value} (h1 : first.map (ev e) = f') (h2 : captured.map (ev e) = c') : OpVat P ⟨d, .makeFunc fn first captured, ty, p, af, g⟩ e w (.func fn f' c') := by
  simp [OpVat, execOp, Instr.makeFunc, h1, h2]
theorem v_len {t : TypeId} {et : TypeId} {a : Option Addr} {n c : Nat} (ht : P.underlying t = some (.slice et)) (hx : ev e x = .slice a n c) : OpVat P ⟨d, .call { callee := .builtin .len, args := #[x], argTypes := #[t] }, ty, p, af, g⟩ e w (.int .i64 n) := by
  simp [OpVat, execOp, hx, resolve, invoke, builtin, Builtin.len_, run_underlying ht, goInt]
theorem v_feqlnil {fn : Fn} {a b : Array Value} {xt yt : TypeId} {ps rs : Array TypeId} {v : Bool} (ht : P.underlying xt = some (.func ps rs v)) (hx : ev e x = .func fn a b) (hy : ev e y = .nilFunc) : OpVat P ⟨d, .binOp .eql xt x y yt, ty, p, af, g⟩ e w (.bool false) := by
  simp only [OpVat, execOp, hx, hy, eqGuard, binOp]; simp [Op.equal, Op.maxDepth, run_equalIn_func P w 9999 xt fn a b ht]
theorem v_nfeqlnil {xt yt : TypeId} {ps rs : Array TypeId} {v : Bool} (ht : P.underlying xt = some (.func ps rs v)) (hx : ev e x = .nilFunc) (hy : ev e y = .nilFunc) : OpVat P ⟨d, .binOp .eql xt x y yt, ty, p, af, g⟩ e w (.bool true) := by
  simp only [OpVat, execOp, hx, hy, eqGuard, binOp]; simp [Op.equal, Op.maxDepth, run_equalIn_nilfunc P w 9999 xt ht]
end
end Go.Vc
