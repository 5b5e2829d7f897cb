/- A part of the proof: steps and lemmas for the walks through the given program. -/
import Derived.Test.YtkaangdfpjkjpaaGd
namespace Go.Vc
set_option linter.unusedVariables false
set_option linter.unusedSimpArgs false
/-! ### ranges: what a range and a map are -/
abbrev tBy : Ty (List UInt8) := tSl tU8
/-- a range: from, to, whether it ends, its group -/
abbrev RgV := List UInt8 × List UInt8 × Bool × Int
abbrev tRg : Ty RgV := tPair tBy (tPair tBy (tPair tBool (tInt .i64)))
theorem tBy_cells {w : World} {F : Nat → Prop} {cs : List Value} {x : List UInt8} (h : tBy.rep w F cs x) : ∃ a c, cs = [.slice a x.length c] ∧ Bv w F (.slice a x.length c) x := by
  obtain ⟨v, rfl, hv⟩ := h
  obtain ⟨a, c, rfl⟩ := hv.shape
  exact ⟨a, c, rfl, hv⟩
theorem tRg_cells {w : World} {F : Nat → Prop} {cs : List Value} {r : RgV} (h : tRg.rep w F cs r) : ∃ a1 c1 a2 c2, cs = [.slice a1 r.1.length c1, .slice a2 r.2.1.length c2, .bool r.2.2.1, .int .i64 r.2.2.2] ∧ Bv w F (.slice a1 r.1.length c1) r.1 ∧ Bv w F (.slice a2 r.2.1.length c2) r.2.1 ∧ (-9223372036854775808 ≤ r.2.2.2 ∧ r.2.2.2 ≤ 9223372036854775807) := by
  obtain ⟨k1, k2, rfl, h1, k3, k4, rfl, h2, k5, k6, rfl, h3, h4⟩ := h
  obtain ⟨a1, c1, rfl, g1⟩ := tBy_cells h1
  obtain ⟨a2, c2, rfl, g2⟩ := tBy_cells h2
  obtain rfl : k5 = [.bool r.2.2.1] := h3
  obtain ⟨rfl, h5⟩ := h4
  exact ⟨a1, c1, a2, c2, rfl, g1, g2, wf_i64 h5⟩
theorem wf_of_i64 {n : Int} (h : -9223372036854775808 ≤ n ∧ n ≤ 9223372036854775807) : (Lit.int .i64 n).wf = true := by
  simp [Lit.wf, IntKind.min, IntKind.max, IntKind.signed, IntKind.bits]; omega
theorem tRg_mk {w : World} {F : Nat → Prop} {v1 v2 : Value} {x y : List UInt8} {b : Bool} {g : Int} (h1 : Bv w F v1 x) (h2 : Bv w F v2 y) (hg : -9223372036854775808 ≤ g ∧ g ≤ 9223372036854775807) : tRg.rep w F [v1, v2, .bool b, .int .i64 g] (x, y, b, g) :=
  ⟨[v1], [v2, .bool b, .int .i64 g], rfl, ⟨v1, rfl, h1⟩, [v2], [.bool b, .int .i64 g], rfl, ⟨v2, rfl, h2⟩, [.bool b], [.int .i64 g], rfl, rfl, rfl, wf_of_i64 hg⟩
/-- a struct's value -/
def AgV {α : Type} (t : Ty α) (w : World) (F : Nat → Prop) (v : Value) (x : α) : Prop := ∃ cs : List Value, v = .agg cs.toArray ∧ t.rep w F cs x
section
variable {α : Type} {t : Ty α} {w w' : World} {F F' K : Nat → Prop} {v : Value} {x : α}
theorem AgV.keep (h : AgV t w F v x) (k : Keep K w w') (hk : ∀ b, b < w.heap.size → F b → ¬ K b) : AgV t w' F v x := by
  obtain ⟨cs, hv, hr⟩ := h
  exact ⟨cs, hv, t.keep hr k hk⟩
theorem AgV.ext (h : AgV t w F v x) (k : Ext w w') : AgV t w' F v x := h.keep k (fun _ _ _ x => x)
theorem AgV.mono (h : AgV t w F v x) (hf : ∀ b, b < w.heap.size → F b → F' b) : AgV t w F' v x := by
  obtain ⟨cs, hv, hr⟩ := h
  exact ⟨cs, hv, t.mono hr hf⟩
theorem AgV.all (h : AgV t w F v x) : AgV t w (fun b => b < w.heap.size) v x := h.mono fun b hb _ => hb
end
theorem AgV.rg {w : World} {F : Nat → Prop} {v : Value} {r : RgV} (h : AgV tRg w F v r) : ∃ a1 c1 a2 c2, v = .agg #[.slice a1 r.1.length c1, .slice a2 r.2.1.length c2, .bool r.2.2.1, .int .i64 r.2.2.2] ∧ Bv w F (.slice a1 r.1.length c1) r.1 ∧ Bv w F (.slice a2 r.2.1.length c2) r.2.1 ∧ (-9223372036854775808 ≤ r.2.2.2 ∧ r.2.2.2 ≤ 9223372036854775807) := by
  obtain ⟨cs, rfl, hr⟩ := h
  obtain ⟨a1, c1, a2, c2, rfl, h⟩ := tRg_cells hr
  exact ⟨a1, c1, a2, c2, rfl, h⟩
theorem AgV.mkRg {w : World} {F : Nat → Prop} {v1 v2 : Value} {x y : List UInt8} {b : Bool} {g : Int} (h1 : Bv w F v1 x) (h2 : Bv w F v2 y) (hg : -9223372036854775808 ≤ g ∧ g ≤ 9223372036854775807) : AgV tRg w F (.agg #[v1, v2, .bool b, .int .i64 g]) (x, y, b, g) := ⟨_, rfl, tRg_mk h1 h2 hg⟩
/-- a map: its epoch, its ranges -/
abbrev MpV := Int × List RgV
abbrev tMp : Ty MpV := tPair (tInt .i64) (tSl tRg)
theorem AgV.mp {w : World} {F : Nat → Prop} {v : Value} {m : MpV} (h : AgV tMp w F v m) : ∃ a c, v = .agg #[.int .i64 m.1, .slice a m.2.length c] ∧ SlV tRg w F (.slice a m.2.length c) m.2 ∧ (-9223372036854775808 ≤ m.1 ∧ m.1 ≤ 9223372036854775807) := by
  obtain ⟨cs, rfl, k1, k2, rfl, ⟨rfl, h1⟩, v, rfl, hv⟩ := h
  obtain ⟨a, c, rfl⟩ := hv.shape
  exact ⟨a, c, rfl, hv, wf_i64 h1⟩
theorem AgV.mkMp {w : World} {F : Nat → Prop} {v : Value} {e : Int} {l : List RgV} (h1 : SlV tRg w F v l) (he : -9223372036854775808 ≤ e ∧ e ≤ 9223372036854775807) : AgV tMp w F (.agg #[.int .i64 e, v]) (e, l) :=
  ⟨_, rfl, [.int .i64 e], [v], rfl, ⟨rfl, wf_of_i64 he⟩, v, rfl, h1⟩

theorem SlV.el {α : Type} {t : Ty α} {w : World} {F : Nat → Prop} {a : Option Addr} {n c k : Nat} {xs : List α} {x : α} (h : SlV t w F (.slice a n c) xs) (hk : xs[k]? = some x) : ∃ q cs, a = some q ∧ F q.block ∧ q.block < w.heap.size ∧ Pv w (q.add (k * t.sz)) cs ∧ t.rep w F cs x := by
  obtain ⟨a', c', hv, h1, h2, h3, h4⟩ := h
  cases hv
  obtain ⟨q, cs, h5, h6, h7, h8⟩ := h4 k x hk
  have := rep_lt h7 h8
  rw [add_block] at this
  exact ⟨q, cs, h5, h6, this, h7, h8⟩
theorem SlV.len_max {α : Type} {t : Ty α} {w : World} {F : Nat → Prop} {v : Value} {xs : List α} (h : SlV t w F v xs) : xs.length ≤ 9223372036854775807 := by have := h.max; simpa [maxLen] using this
/-! ### what the chapter says of them -/
def hasR (r : RgV) (k : List UInt8) : Bool := !decide (k < r.1) && (!r.2.2.1 || decide (k < r.2.1))
def grpB (n : Int) : Bool := decide (1 ≤ n) && decide (n < 5)
def mayL : List RgV → Bool
  | [] => true
  | [r] => grpB r.2.2.2 && !r.2.2.1 && r.2.1.isEmpty
  | r :: s :: l => grpB r.2.2.2 && r.2.2.1 && decide (r.2.1.length ≤ 24) && decide (r.1 < r.2.1) && decide (r.2.1 = s.1) && mayL (s :: l)
def mayM (m : MpV) : Bool := decide (1 ≤ m.1) && decide (m.1 ≤ 2147483647) && decide (1 ≤ m.2.length) && decide (m.2.length ≤ 16) && (m.2.headD ([], [], false, 0)).1.isEmpty && mayL m.2
theorem getE {α : Type} {l : List α} {i : Nat} (h : i < l.length) : ∃ x, l[i]? = some x ∧ l.drop i = x :: l.drop (i + 1) :=
  ⟨l[i], by simp [h], by rw [List.drop_eq_getElem_cons h]⟩
theorem isE_len {α : Type} (l : List α) : decide ((l.length : Int) = 0) = l.isEmpty := by cases l <;> simp <;> omega
theorem cmpB_lt {x y : List UInt8} : cmpB x y < 0 ↔ x < y := by
  unfold cmpB; split
  · simp [*]
  · split <;> simp [*]
theorem cmpB_ge {x y : List UInt8} : 0 ≤ cmpB x y ↔ ¬ x < y := by have := @cmpB_lt x y; constructor <;> intro h <;> (try intro h2) <;> (try have := this.2 h2) <;> (try (rcases Int.lt_or_le (cmpB x y) 0 with h3 | h3; exact absurd (this.1 h3) h; exact h3)) ; omega
theorem cmpB_gt {x y : List UInt8} : 0 < cmpB x y ↔ y < x := by
  unfold cmpB; split
  · rename_i h; have := lb_asymm h; simp [this]
  · split
    · rename_i h1 h2; subst h2; simp [lb_irrefl]
    · rename_i h1 h2; rcases lb_tri x y with h | h | h
      · exact absurd h h1
      · exact absurd h h2
      · simp [h]
theorem cmpB_le {x y : List UInt8} : cmpB x y ≤ 0 ↔ ¬ y < x := by rw [← cmpB_gt]; omega
theorem d_cmp_lt (x y : List UInt8) : decide (cmpB x y < 0) = decide (x < y) := decide_eq_decide.2 cmpB_lt
theorem d_cmp_ge (x y : List UInt8) : decide (0 ≤ cmpB x y) = !decide (x < y) := by
  by_cases h : x < y
  · have := cmpB_lt.2 h; rw [decide_eq_true h, decide_eq_false (by omega)]; rfl
  · have := cmpB_ge.2 h; rw [decide_eq_false h, decide_eq_true this]; rfl
theorem d_cmp_gt (x y : List UInt8) : decide (0 < cmpB x y) = decide (y < x) := decide_eq_decide.2 cmpB_gt
theorem d_cmp_le (x y : List UInt8) : decide (cmpB x y ≤ 0) = !decide (y < x) := by
  by_cases h : y < x
  · have := cmpB_gt.2 h; rw [decide_eq_true h, decide_eq_false (by omega)]; rfl
  · have := cmpB_le.2 h; rw [decide_eq_false h, decide_eq_true this]; rfl
end Go.Vc

namespace Go.Vc
set_option linter.unusedVariables false
set_option linter.unusedSimpArgs false
/-! ### ranges that meet, ranges within others -/
def withinR (a b : RgV) : Bool := (a.2.2.1 && !decide (a.1 < a.2.1)) || (!decide (a.1 < b.1) && (!b.2.2.1 || (a.2.2.1 && !decide (b.2.1 < a.2.1))))
def trim255 (k : List UInt8) : List UInt8 := (k.reverse.dropWhile (· == 255)).reverse
def bump (k : List UInt8) : List UInt8 := k.dropLast ++ [k.getLastD 0 + 1]
def leastL (b : List UInt8) : Option (List UInt8) := if b = [] then some [0] else if b.length ≤ 24 then some b else if trim255 (b.take 24) = [] then none else some (bump (trim255 (b.take 24)))
def meetR (a b : RgV) : Bool := match leastL (if a.1 < b.1 then b.1 else a.1) with
  | none => false
  | some k => hasR a k && hasR b k
theorem trim_snoc {y : List UInt8} {n : Nat} (hn : 0 < n ∧ n ≤ y.length) (h : y.getD (n - 1) 0 = 255) : trim255 (y.take n) = trim255 (y.take (n - 1)) := by
  obtain ⟨m, rfl⟩ : ∃ m, n = m + 1 := ⟨n - 1, by omega⟩
  have hm : m < y.length := by omega
  simp only [Nat.add_sub_cancel] at h ⊢
  have e : y.take (m + 1) = y.take m ++ [255] := by
    rw [List.take_add_one]
    have : y[m]? = some 255 := by
      have h2 : y.getD m 0 = y[m] := by simp [hm]
      rw [h2] at h; simp [hm, h]
    rw [this]; rfl
  rw [e, trim255, trim255]
  simp
theorem trim_stop {y : List UInt8} (h : y ≠ [] → ∃ x, y.getLast? = some x ∧ x ≠ 255) : trim255 y = y := by
  rcases List.eq_nil_or_concat y with rfl | ⟨l, x, rfl⟩
  · rfl
  · obtain ⟨z, hz, hne⟩ := h (by simp)
    simp at hz; subst hz
    rw [trim255]
    simp [hne]
theorem set_last {y : List UInt8} {n : Nat} {x : UInt8} (hl : y.length = n) (hn : 0 < n) (hx : y[n - 1]? = some x) : y.set (n - 1) (x + 1) = bump y := by
  rcases List.eq_nil_or_concat y with rfl | ⟨l, z, rfl⟩
  · simp at hl; omega
  · simp at hl
    have h1 : n - 1 = l.length := by omega
    rw [h1] at hx ⊢
    simp at hx
    subst hx
    simp [bump]
end Go.Vc

namespace Go.Vc
set_option linter.unusedVariables false
set_option linter.unusedSimpArgs false
/-! ### what is found in a map, and what it is changed to -/
def findO (m : MpV) (p : RgV → Bool) : Option Nat := if mayM m then m.2.findIdx? p else none
def optI : Option Nat → Int
  | some i => i
  | none => -1
def rg0 : RgV := ([], [], false, 0)
def mp0 : MpV := (0, [])
def rgAt (l : List RgV) : Option Nat → RgV
  | some i => l.getD i rg0
  | none => rg0
def begB (k : List UInt8) (r : RgV) : Bool := decide (r.1 = k)
def hasB (k : List UInt8) (r : RgV) : Bool := hasR r k
def keyB (k : List UInt8) : Bool := decide (1 ≤ k.length) && decide (k.length ≤ 24)
def nextM (e : Int) (rs : List RgV) : MpV × Int := if e = 2147483647 ∨ 16 < rs.length then (mp0, 5) else ((e + 1, rs), 0)
def splitM (m : MpV) (k : List UInt8) : MpV × Int :=
  if (mayM m && keyB k) = false then (mp0, 2) else if (findO m (begB k)).isSome then (mp0, 7) else match findO m (hasB k) with
    | none => (mp0, 0)
    | some i => nextM m.1 (m.2.take i ++ [((m.2.getD i rg0).1, k, true, (m.2.getD i rg0).2.2.2), (k, (m.2.getD i rg0).2.1, (m.2.getD i rg0).2.2.1, (m.2.getD i rg0).2.2.2)] ++ m.2.drop (i + 1))
def unionM (m : MpV) (k : List UInt8) : MpV × Int :=
  if (mayM m && keyB k) = false then (mp0, 2) else match findO m (begB k) with
    | none => (mp0, 6)
    | some i => if (m.2.getD i rg0).2.2.2 ≠ (m.2.getD (i - 1) rg0).2.2.2 then (mp0, 9) else
      nextM m.1 (m.2.take (i - 1) ++ [((m.2.getD (i - 1) rg0).1, (m.2.getD i rg0).2.1, (m.2.getD i rg0).2.2.1, (m.2.getD (i - 1) rg0).2.2.2)] ++ m.2.drop (i + 1))
def giveM (m : MpV) (k : List UInt8) (g : Int) : MpV × Int :=
  if (mayM m && grpB g && decide (k.length ≤ 24)) = false then (mp0, 2) else match findO m (begB k) with
    | none => (mp0, 6)
    | some i => if (m.2.getD i rg0).2.2.2 = g then (mp0, 9) else nextM m.1 (m.2.set i ((m.2.getD i rg0).1, (m.2.getD i rg0).2.1, (m.2.getD i rg0).2.2.1, g))
theorem mayM_parts {m : MpV} (h : mayM m = true) : 1 ≤ m.1 ∧ m.1 ≤ 2147483647 ∧ 1 ≤ m.2.length ∧ m.2.length ≤ 16 ∧ (m.2.headD ([], [], false, 0)).1 = [] ∧ mayL m.2 = true := by
  simp only [mayM, Bool.and_eq_true, decide_eq_true_eq] at h
  exact ⟨h.1.1.1.1.1, h.1.1.1.1.2, h.1.1.1.2, h.1.1.2, List.isEmpty_iff.1 h.1.2, h.2⟩
theorem mayL_lens : ∀ (l : List RgV), mayL l = true → (l.headD rg0).1.length ≤ 24 → ∀ r ∈ l, r.1.length ≤ 24 ∧ r.2.1.length ≤ 24 ∧ grpB r.2.2.2 = true
  | [], _, _, r, hr => by cases hr
  | [r0], h, h0, r, hr => by
    simp only [List.mem_singleton] at hr; subst hr
    simp only [mayL, Bool.and_eq_true] at h
    have := List.isEmpty_iff.1 h.2
    exact ⟨h0, by rw [this]; simp, h.1.1⟩
  | r0 :: s :: l, h, h0, r, hr => by
    simp only [mayL, Bool.and_eq_true, decide_eq_true_eq] at h
    rcases List.mem_cons.1 hr with rfl | hr
    · exact ⟨h0, h.1.1.1.2, h.1.1.1.1.1⟩
    · exact mayL_lens (s :: l) h.2 (by simp only [List.headD_cons]; rw [← h.1.2]; exact h.1.1.1.2) r hr
theorem mayM_lens {m : MpV} (h : mayM m = true) : ∀ r ∈ m.2, r.1.length ≤ 24 ∧ r.2.1.length ≤ 24 ∧ grpB r.2.2.2 = true := by
  obtain ⟨_, _, _, _, h5, h6⟩ := mayM_parts h
  exact mayL_lens m.2 h6 (by
    have : (m.2.headD rg0).1 = [] := h5
    rw [this]; simp)
theorem grpB_range {n : Int} (h : grpB n = true) : 1 ≤ n ∧ n < 5 := by
  simp only [grpB, Bool.and_eq_true, decide_eq_true_eq] at h; exact h
theorem mayL_has {k : List UInt8} : ∀ (l : List RgV), mayL l = true → l ≠ [] → ¬ k < (l.headD rg0).1 → ∃ r ∈ l, hasR r k = true
  | [], _, h, _ => absurd rfl h
  | [r], h, _, h0 => by
    simp only [mayL, Bool.and_eq_true] at h
    simp only [List.headD_cons] at h0
    refine ⟨r, List.mem_singleton.2 rfl, ?_⟩
    have he : r.2.2.1 = false := by have := h.1.2; revert this; cases r.2.2.1 <;> simp
    rw [hasR, decide_eq_false h0, he]; rfl
  | r :: s :: l, h, _, h0 => by
    simp only [mayL, Bool.and_eq_true, decide_eq_true_eq] at h
    simp only [List.headD_cons] at h0
    by_cases hk : k < r.2.1
    · refine ⟨r, List.mem_cons_self, ?_⟩
      rw [hasR, decide_eq_false h0, decide_eq_true hk]; cases r.2.2.1 <;> rfl
    · obtain ⟨q, hq, hh⟩ := mayL_has (s :: l) h.2 (by simp) (by simp only [List.headD_cons]; rw [← h.1.2]; exact hk)
      exact ⟨q, List.mem_cons_of_mem _ hq, hh⟩
theorem lb_nil (k : List UInt8) : ¬ k < [] := by simp
theorem has_some {m : MpV} (h : mayM m = true) (k : List UInt8) : ∃ i, findO m (hasB k) = some i ∧ i < m.2.length := by
  obtain ⟨_, _, h3, _, h5, h6⟩ := mayM_parts h
  obtain ⟨r, hr, hh⟩ := mayL_has (k := k) m.2 h6 (by intro h; rw [h] at h3; simp at h3) (by
    have : (m.2.headD rg0).1 = [] := h5
    rw [this]; exact lb_nil k)
  rw [findO, if_pos h]
  cases hf : m.2.findIdx? (hasB k) with
  | none =>
    rw [List.findIdx?_eq_none_iff] at hf
    have := hf r hr
    rw [hasB, hh] at this; cases this
  | some i =>
    rw [List.findIdx?_eq_some_iff_getElem] at hf
    exact ⟨i, rfl, hf.1⟩
theorem findO_at {m : MpV} {p : RgV → Bool} {i : Nat} (h : findO m p = some i) : mayM m = true ∧ i < m.2.length ∧ p (m.2.getD i rg0) = true := by
  unfold findO at h
  split at h
  · rename_i hm
    rw [List.findIdx?_eq_some_iff_getElem] at h
    obtain ⟨h1, h2, _⟩ := h
    refine ⟨hm, h1, ?_⟩
    have e1 : m.2.getD i rg0 = m.2[i] := by simp [h1]
    rw [e1]; exact h2
  · cases h
theorem getD_at {l : List RgV} {i : Nat} (h : i < l.length) : l[i]? = some (l.getD i rg0) := by
  simp [List.getD_eq_getElem?_getD, h]
theorem getD_mem {l : List RgV} {i : Nat} (h : i < l.length) : l.getD i rg0 ∈ l := List.mem_of_getElem? (getD_at h)
theorem beg_pos {m : MpV} {k : List UInt8} {i : Nat} (h : findO m (begB k) = some i) (hk : keyB k = true) : 1 ≤ i := by
  obtain ⟨h1, h2, h3⟩ := findO_at h
  obtain ⟨_, _, _, _, h5, _⟩ := mayM_parts h1
  rcases Nat.eq_zero_or_pos i with rfl | h0
  · exfalso
    simp only [begB, decide_eq_true_eq] at h3
    have h6 : m.2.getD 0 rg0 = m.2.headD rg0 := by cases m.2 <;> rfl
    rw [h6] at h3
    have h7 : (m.2.headD rg0).1 = [] := h5
    rw [h7] at h3
    subst h3
    simp [keyB] at hk
  · exact h0
theorem optI_neg {o : Option Nat} : optI o < 0 ↔ o = none := by
  cases o with
  | none => simp [optI]
  | some i => simp [optI]
end Go.Vc
