/- A part of the proof: steps and lemmas for the walks through the given program. -/
import Derived.Test.YtkaangdfpjkjpaaVc19
namespace Go.Vc
set_option linter.unusedVariables false
set_option linter.unusedSimpArgs false
/-! ### ranges: what a range and a map are -/
abbrev tBy : Ty (List UInt8) := tSl tU8
/-- a range: from, to, whether it ends, its group -/
abbrev RgV := List UInt8 × List UInt8 × Bool × Int
abbrev tRg : Ty RgV := tPair tBy (tPair tBy (tPair tBool (tInt .i64)))
theorem tBy_cells {w : World} {F : Nat → Prop} {cs : List Value} {x : List UInt8} (h : tBy.rep w F cs x) : ∃ a c, cs = [.slice a x.length c] ∧ Bv w F (.slice a x.length c) x := by
  obtain ⟨v, rfl, hv⟩ := h
  obtain ⟨a, c, rfl⟩ := hv.shape
  exact ⟨a, c, rfl, hv⟩
theorem tRg_cells {w : World} {F : Nat → Prop} {cs : List Value} {r : RgV} (h : tRg.rep w F cs r) : ∃ a1 c1 a2 c2, cs = [.slice a1 r.1.length c1, .slice a2 r.2.1.length c2, .bool r.2.2.1, .int .i64 r.2.2.2] ∧ Bv w F (.slice a1 r.1.length c1) r.1 ∧ Bv w F (.slice a2 r.2.1.length c2) r.2.1 ∧ (-9223372036854775808 ≤ r.2.2.2 ∧ r.2.2.2 ≤ 9223372036854775807) := by
  obtain ⟨k1, k2, rfl, h1, k3, k4, rfl, h2, k5, k6, rfl, h3, h4⟩ := h
  obtain ⟨a1, c1, rfl, g1⟩ := tBy_cells h1
  obtain ⟨a2, c2, rfl, g2⟩ := tBy_cells h2
  obtain rfl : k5 = [.bool r.2.2.1] := h3
  obtain ⟨rfl, h5⟩ := h4
  exact ⟨a1, c1, a2, c2, rfl, g1, g2, wf_i64 h5⟩
theorem wf_of_i64 {n : Int} (h : -9223372036854775808 ≤ n ∧ n ≤ 9223372036854775807) : (Lit.int .i64 n).wf = true := by
  simp [Lit.wf, IntKind.min, IntKind.max, IntKind.signed, IntKind.bits]; omega
theorem tRg_mk {w : World} {F : Nat → Prop} {v1 v2 : Value} {x y : List UInt8} {b : Bool} {g : Int} (h1 : Bv w F v1 x) (h2 : Bv w F v2 y) (hg : -9223372036854775808 ≤ g ∧ g ≤ 9223372036854775807) : tRg.rep w F [v1, v2, .bool b, .int .i64 g] (x, y, b, g) :=
  ⟨[v1], [v2, .bool b, .int .i64 g], rfl, ⟨v1, rfl, h1⟩, [v2], [.bool b, .int .i64 g], rfl, ⟨v2, rfl, h2⟩, [.bool b], [.int .i64 g], rfl, rfl, rfl, wf_of_i64 hg⟩
/-- a struct's value -/
def AgV {α : Type} (t : Ty α) (w : World) (F : Nat → Prop) (v : Value) (x : α) : Prop := ∃ cs : List Value, v = .agg cs.toArray ∧ t.rep w F cs x
section
variable {α : Type} {t : Ty α} {w w' : World} {F F' K : Nat → Prop} {v : Value} {x : α}
theorem AgV.keep (h : AgV t w F v x) (k : Keep K w w') (hk : ∀ b, b < w.heap.size → F b → ¬ K b) : AgV t w' F v x := by
  obtain ⟨cs, hv, hr⟩ := h
  exact ⟨cs, hv, t.keep hr k hk⟩
theorem AgV.ext (h : AgV t w F v x) (k : Ext w w') : AgV t w' F v x := h.keep k (fun _ _ _ x => x)
theorem AgV.mono (h : AgV t w F v x) (hf : ∀ b, b < w.heap.size → F b → F' b) : AgV t w F' v x := by
  obtain ⟨cs, hv, hr⟩ := h
  exact ⟨cs, hv, t.mono hr hf⟩
theorem AgV.all (h : AgV t w F v x) : AgV t w (fun b => b < w.heap.size) v x := h.mono fun b hb _ => hb
end
theorem AgV.rg {w : World} {F : Nat → Prop} {v : Value} {r : RgV} (h : AgV tRg w F v r) : ∃ a1 c1 a2 c2, v = .agg #[.slice a1 r.1.length c1, .slice a2 r.2.1.length c2, .bool r.2.2.1, .int .i64 r.2.2.2] ∧ Bv w F (.slice a1 r.1.length c1) r.1 ∧ Bv w F (.slice a2 r.2.1.length c2) r.2.1 ∧ (-9223372036854775808 ≤ r.2.2.2 ∧ r.2.2.2 ≤ 9223372036854775807) := by
  obtain ⟨cs, rfl, hr⟩ := h
  obtain ⟨a1, c1, a2, c2, rfl, h⟩ := tRg_cells hr
  exact ⟨a1, c1, a2, c2, rfl, h⟩
theorem AgV.mkRg {w : World} {F : Nat → Prop} {v1 v2 : Value} {x y : List UInt8} {b : Bool} {g : Int} (h1 : Bv w F v1 x) (h2 : Bv w F v2 y) (hg : -9223372036854775808 ≤ g ∧ g ≤ 9223372036854775807) : AgV tRg w F (.agg #[v1, v2, .bool b, .int .i64 g]) (x, y, b, g) := ⟨_, rfl, tRg_mk h1 h2 hg⟩
/-- a map: its epoch, its ranges -/
abbrev MpV := Int × List RgV
abbrev tMp : Ty MpV := tPair (tInt .i64) (tSl tRg)
theorem AgV.mp {w : World} {F : Nat → Prop} {v : Value} {m : MpV} (h : AgV tMp w F v m) : ∃ a c, v = .agg #[.int .i64 m.1, .slice a m.2.length c] ∧ SlV tRg w F (.slice a m.2.length c) m.2 ∧ (-9223372036854775808 ≤ m.1 ∧ m.1 ≤ 9223372036854775807) := by
  obtain ⟨cs, rfl, k1, k2, rfl, ⟨rfl, h1⟩, v, rfl, hv⟩ := h
  obtain ⟨a, c, rfl⟩ := hv.shape
  exact ⟨a, c, rfl, hv, wf_i64 h1⟩
theorem AgV.mkMp {w : World} {F : Nat → Prop} {v : Value} {e : Int} {l : List RgV} (h1 : SlV tRg w F v l) (he : -9223372036854775808 ≤ e ∧ e ≤ 9223372036854775807) : AgV tMp w F (.agg #[.int .i64 e, v]) (e, l) :=
  ⟨_, rfl, [.int .i64 e], [v], rfl, ⟨rfl, wf_of_i64 he⟩, v, rfl, h1⟩

theorem SlV.el {α : Type} {t : Ty α} {w : World} {F : Nat → Prop} {a : Option Addr} {n c k : Nat} {xs : List α} {x : α} (h : SlV t w F (.slice a n c) xs) (hk : xs[k]? = some x) : ∃ q cs, a = some q ∧ F q.block ∧ q.block < w.heap.size ∧ Pv w (q.add (k * t.sz)) cs ∧ t.rep w F cs x := by
  obtain ⟨a', c', hv, h1, h2, h3, h4⟩ := h
  cases hv
  obtain ⟨q, cs, h5, h6, h7, h8⟩ := h4 k x hk
  have := rep_lt h7 h8
  rw [add_block] at this
  exact ⟨q, cs, h5, h6, this, h7, h8⟩
theorem SlV.len_max {α : Type} {t : Ty α} {w : World} {F : Nat → Prop} {v : Value} {xs : List α} (h : SlV t w F v xs) : xs.length ≤ 9223372036854775807 := by have := h.max; simpa [maxLen] using this
/-! ### what the chapter says of them -/
def hasR (r : RgV) (k : List UInt8) : Bool := !decide (k < r.1) && (!r.2.2.1 || decide (k < r.2.1))
def grpB (n : Int) : Bool := decide (1 ≤ n) && decide (n < 5)
def mayL : List RgV → Bool
  | [] => true
  | [r] => grpB r.2.2.2 && !r.2.2.1 && r.2.1.isEmpty
  | r :: s :: l => grpB r.2.2.2 && r.2.2.1 && decide (r.2.1.length ≤ 24) && decide (r.1 < r.2.1) && decide (r.2.1 = s.1) && mayL (s :: l)
def mayM (m : MpV) : Bool := decide (1 ≤ m.1) && decide (m.1 ≤ 2147483647) && decide (1 ≤ m.2.length) && decide (m.2.length ≤ 16) && (m.2.headD ([], [], false, 0)).1.isEmpty && mayL m.2
theorem getE {α : Type} {l : List α} {i : Nat} (h : i < l.length) : ∃ x, l[i]? = some x ∧ l.drop i = x :: l.drop (i + 1) :=
  ⟨l[i], by simp [h], by rw [List.drop_eq_getElem_cons h]⟩
theorem isE_len {α : Type} (l : List α) : decide ((l.length : Int) = 0) = l.isEmpty := by cases l <;> simp <;> omega
theorem cmpB_lt {x y : List UInt8} : cmpB x y < 0 ↔ x < y := by
  unfold cmpB; split
  · simp [*]
  · split <;> simp [*]
theorem cmpB_ge {x y : List UInt8} : 0 ≤ cmpB x y ↔ ¬ x < y := by have := @cmpB_lt x y; constructor <;> intro h <;> (try intro h2) <;> (try have := this.2 h2) <;> (try (rcases Int.lt_or_le (cmpB x y) 0 with h3 | h3; exact absurd (this.1 h3) h; exact h3)) ; omega
theorem cmpB_gt {x y : List UInt8} : 0 < cmpB x y ↔ y < x := by
  unfold cmpB; split
  · rename_i h; have := lb_asymm h; simp [this]
  · split
    · rename_i h1 h2; subst h2; simp [lb_irrefl]
    · rename_i h1 h2; rcases lb_tri x y with h | h | h
      · exact absurd h h1
      · exact absurd h h2
      · simp [h]
theorem cmpB_le {x y : List UInt8} : cmpB x y ≤ 0 ↔ ¬ y < x := by rw [← cmpB_gt]; omega
theorem d_cmp_lt (x y : List UInt8) : decide (cmpB x y < 0) = decide (x < y) := decide_eq_decide.2 cmpB_lt
theorem d_cmp_ge (x y : List UInt8) : decide (0 ≤ cmpB x y) = !decide (x < y) := by
  by_cases h : x < y
  · have := cmpB_lt.2 h; rw [decide_eq_true h, decide_eq_false (by omega)]; rfl
  · have := cmpB_ge.2 h; rw [decide_eq_false h, decide_eq_true this]; rfl
theorem d_cmp_gt (x y : List UInt8) : decide (0 < cmpB x y) = decide (y < x) := decide_eq_decide.2 cmpB_gt
theorem d_cmp_le (x y : List UInt8) : decide (cmpB x y ≤ 0) = !decide (y < x) := by
  by_cases h : y < x
  · have := cmpB_gt.2 h; rw [decide_eq_true h, decide_eq_false (by omega)]; rfl
  · have := cmpB_le.2 h; rw [decide_eq_false h, decide_eq_true this]; rfl
end Go.Vc
