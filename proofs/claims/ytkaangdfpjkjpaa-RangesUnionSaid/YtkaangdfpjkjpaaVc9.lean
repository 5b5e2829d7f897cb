/- A part of the proof: steps and lemmas for the walks through the given program. -/
import Derived.Test.YtkaangdfpjkjpaaVc8
namespace Go.Vc
set_option linter.unusedVariables false
set_option linter.unusedSimpArgs false

theorem wr_i64 {x : Int} (h1 : -9223372036854775808 ≤ x) (h2 : x ≤ 9223372036854775807) : IntKind.i64.wrap x = x := by rw [IntKind.wrap_i64]; omega
theorem wr_u64 {x : Int} (h1 : 0 ≤ x) (h2 : x ≤ 18446744073709551615) : IntKind.u64.wrap x = x := by rw [IntKind.wrap_u64]; omega
theorem wr_u64m {x : Int} : IntKind.u64.wrap x = x % 18446744073709551616 := IntKind.wrap_u64 x
theorem wr_u8 {x : Int} (h1 : 0 ≤ x) (h2 : x ≤ 255) : IntKind.u8.wrap x = x := by rw [IntKind.wrap_u8']; omega
theorem wr_u8m {x : Int} : IntKind.u8.wrap x = x % 256 := IntKind.wrap_u8' x
theorem tm_nn {a b : Int} (h : 0 ≤ a) : a.tmod b = a % b := Int.tmod_eq_emod_of_nonneg h
theorem td_nn {a b : Int} (h : 0 ≤ a) : a.tdiv b = a / b := Int.tdiv_eq_ediv_of_nonneg h
theorem qu_i64 {a b : Int} (h : 0 ≤ a) (h2 : a ≤ 9223372036854775807) (hb : 0 < b) : IntKind.i64.wrap (a.tdiv b) = a / b := by
  rw [td_nn h]
  have h3 : 0 ≤ a / b := Int.ediv_nonneg h (by omega)
  have h4 : a / b ≤ a := Int.ediv_le_self _ h
  exact wr_i64 (by omega) (by omega)
theorem qu_u64 {a b : Int} (h : 0 ≤ a) (h2 : a ≤ 18446744073709551615) (hb : 0 < b) : IntKind.u64.wrap (a.tdiv b) = a / b := by
  rw [td_nn h]
  have h3 : 0 ≤ a / b := Int.ediv_nonneg h (by omega)
  have h4 : a / b ≤ a := Int.ediv_le_self _ h
  exact wr_u64 (by omega) (by omega)
theorem or_128 {x : Int} (h1 : 0 ≤ x) (h2 : x ≤ 127) : IntKind.u8.wrap ((BitVec.ofInt IntKind.u8.bits 128 ||| BitVec.ofInt IntKind.u8.bits x).toNat) = 128 + x := by
  obtain ⟨n, rfl⟩ := Int.eq_ofNat_of_zero_le h1
  have hn : n ≤ 127 := by omega
  have : ∀ m : Fin 128, IntKind.u8.wrap ((BitVec.ofInt IntKind.u8.bits 128 ||| BitVec.ofInt IntKind.u8.bits ((m.val : Nat) : Int)).toNat) = 128 + ((m.val : Nat) : Int) := by decide +kernel
  exact this ⟨n, by omega⟩

section
variable {P : Program} {N : Nat} {ops : Array Oper} {Q : Exit → Act → World → Prop} {e : Nat → Value} {w : World} {rest : List Oper} {α : Type} {K : Value → World → Prop}
variable {d : Option Tmp} {ty : TypeId} {p : String} {af : Array Edge} {g : Option (Nat × Bool)} {x y : Operand} {x0 x1 x2 x3 x4 x5 : Operand} {v0 v1 v2 v3 v4 v5 : Value} {fn : Nat} {ts : Array TypeId}
theorem to_f0 (hb : kBody P fn = true) (h : CallsR P fn #[] w K) : OpTo P ⟨d, .call { callee := .value (.func fn), args := #[], argTypes := ts }, ty, p, af, g⟩ e w K :=
  to_calls (vs := #[]) hb rfl rfl (by simp) (by simpa using h)
theorem to_f1 (hb : kBody P fn = true) (h0 : ev e x0 = v0) (h : CallsR P fn #[v0] w K) : OpTo P ⟨d, .call { callee := .value (.func fn), args := #[x0], argTypes := ts }, ty, p, af, g⟩ e w K :=
  to_calls hb rfl rfl (by simp [h0]; rfl) (by simpa using h)
theorem to_f2 (hb : kBody P fn = true) (h0 : ev e x0 = v0) (h1 : ev e x1 = v1) (h : CallsR P fn #[v0, v1] w K) : OpTo P ⟨d, .call { callee := .value (.func fn), args := #[x0, x1], argTypes := ts }, ty, p, af, g⟩ e w K :=
  to_calls hb rfl rfl (by simp [h0, h1]; rfl) (by simpa using h)
theorem to_f3 (hb : kBody P fn = true) (h0 : ev e x0 = v0) (h1 : ev e x1 = v1) (h2 : ev e x2 = v2) (h : CallsR P fn #[v0, v1, v2] w K) : OpTo P ⟨d, .call { callee := .value (.func fn), args := #[x0, x1, x2], argTypes := ts }, ty, p, af, g⟩ e w K :=
  to_calls hb rfl rfl (by simp [h0, h1, h2]; rfl) (by simpa using h)
theorem to_f4 (hb : kBody P fn = true) (h0 : ev e x0 = v0) (h1 : ev e x1 = v1) (h2 : ev e x2 = v2) (h3 : ev e x3 = v3) (h : CallsR P fn #[v0, v1, v2, v3] w K) : OpTo P ⟨d, .call { callee := .value (.func fn), args := #[x0, x1, x2, x3], argTypes := ts }, ty, p, af, g⟩ e w K :=
  to_calls hb rfl rfl (by simp [h0, h1, h2, h3]; rfl) (by simpa using h)
theorem to_f5 (hb : kBody P fn = true) (h0 : ev e x0 = v0) (h1 : ev e x1 = v1) (h2 : ev e x2 = v2) (h3 : ev e x3 = v3) (h4 : ev e x4 = v4) (h : CallsR P fn #[v0, v1, v2, v3, v4] w K) : OpTo P ⟨d, .call { callee := .value (.func fn), args := #[x0, x1, x2, x3, x4], argTypes := ts }, ty, p, af, g⟩ e w K :=
  to_calls hb rfl rfl (by simp [h0, h1, h2, h3, h4]; rfl) (by simpa using h)
/-- the address of an element, and what lies there -/
theorem to_index {t : Ty α} {T et k : Nat} {kk : IntKind} {i : Int} {F : Nat → Prop} {v : Value} {xs : List α} {xx : α} (ht : kSlice P T et = true) (hs : kSize P et t.sz = true) (hx : ev e x = v) (hv : SlV t w F v xs) (hy : ev e y = .int kk i) (hi : i = (k : Nat)) (hk : xs[k]? = some xx)
    (r : ∀ q cs, F q.block → Pv w q cs → t.rep w F cs xx → K (.pointer (some q)) w) : OpTo P ⟨d, .indexAddr T x y, ty, p, af, g⟩ e w K := by
  obtain ⟨a, c, rfl, h1, h2, h3, h4⟩ := hv
  obtain ⟨q, cs, ha, hF, hp, hr⟩ := h4 k xx hk
  subst ha
  have hlt := (List.getElem?_eq_some_iff.1 hk).1
  exact OpTo.of_v (v_indexAddr ht hs hx hy hi hlt) (r _ cs (by rw [add_block]; exact hF) hp hr)
theorem pv_u8 {w : World} {F : Nat → Prop} {q : Addr} {cs : List Value} {b : UInt8} (h : Pv w q cs) (hr : tU8.rep w F cs b) : w.cell? q = some (.int .u8 b.toNat) := by
  have hr' : cs = [.int .u8 b.toNat] := hr
  subst hr'
  have := h 0 _ rfl
  rwa [add_zero] at this
theorem pv_1 {w : World} {q : Addr} {v : Value} (h : Pv w q [v]) : w.cell? q = some v := by
  have := h 0 _ rfl
  rwa [add_zero] at this
end
/-- a type whose values lead nowhere -/
def Flat {α : Type} (t : Ty α) : Prop := ∀ w F cs x w' F', t.rep w F cs x → t.rep w' F' cs x
theorem flat_u8 : Flat tU8 := fun _ _ _ _ _ _ h => h
theorem flat_int (k : IntKind) : Flat (tInt k) := fun _ _ _ _ _ _ h => h
theorem flat_bool : Flat tBool := fun _ _ _ _ _ _ h => h
theorem flat_pair {α β : Type} {s : Ty α} {t : Ty β} (hs : Flat s) (ht : Flat t) : Flat (tPair s t) := fun w F cs x w' F' ⟨c1, c2, h, h1, h2⟩ => ⟨c1, c2, h, hs _ _ _ _ _ _ h1, ht _ _ _ _ _ _ h2⟩
theorem flat_map {α β : Type} {t : Ty α} (f : β → α) (ht : Flat t) : Flat (tMap t f) := fun w F cs x w' F' h => ht _ _ _ _ _ _ h
theorem Flat.to {α : Type} {t : Ty α} (h : Flat t) {w w' : World} {F F' : Nat → Prop} : ∀ cs x, t.rep w F cs x → t.rep w' F' cs x := fun cs x hr => h _ _ _ _ _ _ hr
/-- elements that lead somewhere: apart from the row that is written -/
theorem deepF {α : Type} {t : Ty α} {w : World} {F F' : Nat → Prop} {v : Value} (h : ∀ b, b < w.heap.size → F' b → F b ∧ v.ownBlock ≠ some b) : ∀ cs x, t.rep w F' cs x → t.rep w (fun b => F b ∧ v.ownBlock ≠ some b) cs x := fun cs x hr => t.mono hr h
theorem Keep.step {K K' : Nat → Prop} {a b c : World} (h : Keep K a b) (k : Keep K' b c) (hk : ∀ i, i < a.heap.size → K' i → K i) : Keep K a c :=
  ⟨k.os.trans h.os, k.tape.trans h.tape, k.output.trans h.output, Nat.le_trans h.size k.size, fun i hi hn => (k.block i (Nat.lt_of_lt_of_le hi h.size) (fun x => hn (hk i hi x))).trans (h.block i hi hn)⟩
theorem u8n {m : Nat} (h : m < 256) : (UInt8.ofNat m).toNat = m := by simp [Nat.mod_eq_of_lt h]
theorem rep_u8 {w : World} {F : Nat → Prop} {x : Int} (b : UInt8) (h : x = (b.toNat : Int)) : tU8.rep w F (Value.int .u8 x).cells.toList b := by subst h; rfl
theorem dtrue {p : Prop} [Decidable p] (h : decide p = true) : p := of_decide_eq_true h
theorem dfalse {p : Prop} [Decidable p] (h : decide p = false) : ¬ p := of_decide_eq_false h
end Go.Vc
