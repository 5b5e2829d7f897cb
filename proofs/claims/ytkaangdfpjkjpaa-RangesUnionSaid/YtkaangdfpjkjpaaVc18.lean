/- A part of the proof: steps and lemmas for the walks through the given program. -/
import Derived.Test.YtkaangdfpjkjpaaRPl
namespace Go.Vc
set_option linter.unusedVariables false
set_option linter.unusedSimpArgs false
/-! ### a function without a body: the comparison of bytes -/
theorem run_loadB {P : Program} {w : World} : ∀ (l : List UInt8) (a : Addr) (acc : ByteArray), (∀ (j : Nat) (x : UInt8), l[j]? = some x → w.cell? (a.add j) = some (.int .u8 x.toNat)) →
    (Extern.Bytes.loadBytes a l.length acc).run P w = .ok ⟨acc.data ++ l.toArray⟩ w
  | [], a, acc, _ => by simp [Extern.Bytes.loadBytes]
  | x :: l, a, acc, h => by
    have h0 := h 0 x rfl
    rw [add_zero] at h0
    have ih := run_loadB (P := P) l (a.add 1) (acc.push x) (fun j y hj => by
      have := h (j + 1) y (by simpa using hj)
      rwa [add_add, Nat.add_comm 1 j])
    have hx : (x.toNat : Int).toNat.toUInt8 = x := by simp
    simp only [List.length_cons, Extern.Bytes.loadBytes, Sem.run_bind, load, Sem.run, h0, Result.andThen, hx]
    rw [ih]
    congr 1
    congr 1
    simp [ByteArray.push]
theorem run_bytesOf {P : Program} {w : World} {F : Nat → Prop} {v : Value} {l : List UInt8} (h : Bv w F v l) : (Extern.Bytes.bytesOf v).run P w = .ok ⟨l.toArray⟩ w := by
  obtain ⟨a, c, rfl, h1, h2, h3, h4⟩ := h
  cases a with
  | none =>
    have : l = [] := List.eq_nil_of_length_eq_zero (by have := h3 rfl; omega)
    subst this; rfl
  | some a =>
    have := run_loadB (P := P) (w := w) l a .empty (fun j x hx => by
      obtain ⟨q, cs, hq, _, hp, hr⟩ := h4 j x hx
      cases hq
      have := pv_u8 hp hr
      simpa [tU8] using this)
    simp only [Extern.Bytes.bytesOf]
    rw [this]
    have e0 : ByteArray.empty.data = #[] := rfl
    rw [e0]; simp
def kCmp (P : Program) (f : Nat) : Prop := ∃ fn, P.funcs[f]? = some fn ∧ (fn.name == "runtime.NumGoroutine") = false ∧ fn.body.isNone = true ∧ (Extern.findNext fn).isNone = true ∧ Extern.find fn = some Extern.BytealgCompare.compare
theorem to_cmp {P : Program} {d : Option Tmp} {ty : TypeId} {p : String} {af : Array Edge} {g : Option (Nat × Bool)} {e : Nat → Value} {w : World} {x0 x1 : Operand} {v0 v1 : Value} {fn : Nat} {ts : Array TypeId} {F G : Nat → Prop} {x y : List UInt8}
    (hk : kCmp P fn) (h0 : ev e x0 = v0) (h1 : ev e x1 = v1) (hx : Bv w F v0 x) (hy : Bv w G v1 y) :
    OpVat P ⟨d, .call { callee := .value (.func fn), args := #[x0, x1], argTypes := ts }, ty, p, af, g⟩ e w (.int .i64 (cmpB x y)) := by
  obtain ⟨f, hf, hn, hb, h3, h4⟩ := hk
  have h3' : Extern.findNext f = none := by simpa using h3
  have h5 : (Extern.BytealgCompare.compare #[v0, v1]).run P w = .ok (.int .i64 (cmpB x y)) w := by
    show Sem.run P (do pure (goInt (Extern.BytealgCompare.cmp (← Extern.Bytes.bytesOf v0) (← Extern.Bytes.bytesOf v1)))) w = _
    simp [run_bytesOf hx, run_bytesOf hy, cmp_list, goInt]
  have hn' : ¬ f.name = "runtime.NumGoroutine" := by simpa using hn
  have hb' : f.body = none := by simpa using hb
  have hf0 : ev e (.func fn) = .func (.func fn) #[] #[] := rfl
  unfold OpVat
  simp [execOp, resolve, hf0, h0, h1, Deferred.ofValue, invoke, callFunc, hf, hn', hb', h3', h4, h5]
section
variable {P : Program} {d : Option Tmp} {ty : TypeId} {p : String} {af : Array Edge} {g : Option (Nat × Bool)} {e : Nat → Value} {w : World} {x y c : Operand} {a b : List UInt8} {xt yt : TypeId}
/-! ### texts compared -/
theorem v_slt (hx : ev e x = .string ⟨a.toArray⟩) (hy : ev e y = .string ⟨b.toArray⟩) : OpVat P ⟨d, .binOp .lss xt x y yt, ty, p, af, g⟩ e w (.bool (decide (a < b))) := by
  simp [OpVat, execOp, hx, hy, eqGuard, binOp, Op.stringOp, baList, ltB_eq]
theorem v_sge (hx : ev e x = .string ⟨a.toArray⟩) (hy : ev e y = .string ⟨b.toArray⟩) : OpVat P ⟨d, .binOp .geq xt x y yt, ty, p, af, g⟩ e w (.bool (!decide (a < b))) := by
  simp [OpVat, execOp, hx, hy, eqGuard, binOp, Op.stringOp, baList, ltB_eq]
theorem lb_gt (a b : List UInt8) : (!(decide (a < b) || decide (a = b))) = decide (b < a) := by
  rcases lb_tri a b with h | h | h
  · have := lb_asymm h
    simp [h, this]
  · subst h; have := lb_irrefl a; simp [this]
  · have h2 := lb_asymm h
    have h3 : a ≠ b := fun he => by subst he; exact lb_irrefl a h
    simp [h, h2, h3]
theorem v_sgt (hx : ev e x = .string ⟨a.toArray⟩) (hy : ev e y = .string ⟨b.toArray⟩) : OpVat P ⟨d, .binOp .gtr xt x y yt, ty, p, af, g⟩ e w (.bool (decide (b < a))) := by
  have e0 : (a == b) = decide (a = b) := by rw [Bool.eq_iff_iff]; simp
  have := lb_gt a b
  simp only [OpVat, execOp, hx, hy, eqGuard, binOp, Op.stringOp, baList, ltB_eq, e0]
  rw [this]; simp
theorem v_sle (hx : ev e x = .string ⟨a.toArray⟩) (hy : ev e y = .string ⟨b.toArray⟩) : OpVat P ⟨d, .binOp .leq xt x y yt, ty, p, af, g⟩ e w (.bool (!decide (b < a))) := by
  have e0 : (a == b) = decide (a = b) := by rw [Bool.eq_iff_iff]; simp
  have := lb_gt a b
  simp only [OpVat, execOp, hx, hy, eqGuard, binOp, Op.stringOp, baList, ltB_eq, e0]
  rw [← this]; simp
/-! ### the less, the greater -/
theorem v_min {k : IntKind} {i j : Int} (hx : ev e x = .int k i) (hy : ev e y = .int k j) {ts : Array TypeId} : OpVat P ⟨d, .call { callee := .builtin .min, args := #[x, y], argTypes := ts }, ty, p, af, g⟩ e w (.int k (if j < i then j else i)) := by
  simp [OpVat, execOp, resolve, hx, hy, invoke, builtin, Builtin.min_, Builtin.min2, pure, List.foldlM]
theorem v_max {k : IntKind} {i j : Int} (hx : ev e x = .int k i) (hy : ev e y = .int k j) {ts : Array TypeId} : OpVat P ⟨d, .call { callee := .builtin .max, args := #[x, y], argTypes := ts }, ty, p, af, g⟩ e w (.int k (if j > i then j else i)) := by
  simp [OpVat, execOp, resolve, hx, hy, invoke, builtin, Builtin.max_, Builtin.max2, pure, List.foldlM]
end
theorem pv_at {w : World} {b i : Nat} {cs : List Value} (off : Nat) (h : Pv w ⟨b, i, none⟩ cs) : Pv w ((⟨b, i, none⟩ : Addr).add off) (cs.drop off) := fun j u hu => by
  rw [add_add]; exact h _ _ (by simpa using hu)
end Go.Vc
