/- A part of the proof: steps and lemmas for the walks through the given program. -/
import Derived.Test.YteehplloacefmaaGd
namespace Go.Vc
set_option linter.unusedVariables false
set_option linter.unusedSimpArgs false
/-! ### ranges: what a range and a map are -/
abbrev tBy : Ty (List UInt8) := tSl tU8
/-- a range: from, to, whether it ends, its group -/
abbrev RgV := List UInt8 × List UInt8 × Bool × Int
abbrev tRg : Ty RgV := tPair tBy (tPair tBy (tPair tBool (tInt .i64)))
theorem tBy_cells {w : World} {F : Nat → Prop} {cs : List Value} {x : List UInt8} (h : tBy.rep w F cs x) : ∃ a c, cs = [.slice a x.length c] ∧ Bv w F (.slice a x.length c) x := by
  obtain ⟨v, rfl, hv⟩ := h
  obtain ⟨a, c, rfl⟩ := hv.shape
  exact ⟨a, c, rfl, hv⟩
theorem tRg_cells {w : World} {F : Nat → Prop} {cs : List Value} {r : RgV} (h : tRg.rep w F cs r) : ∃ a1 c1 a2 c2, cs = [.slice a1 r.1.length c1, .slice a2 r.2.1.length c2, .bool r.2.2.1, .int .i64 r.2.2.2] ∧ Bv w F (.slice a1 r.1.length c1) r.1 ∧ Bv w F (.slice a2 r.2.1.length c2) r.2.1 ∧ (-9223372036854775808 ≤ r.2.2.2 ∧ r.2.2.2 ≤ 9223372036854775807) := by
  obtain ⟨k1, k2, rfl, h1, k3, k4, rfl, h2, k5, k6, rfl, h3, h4⟩ := h
  obtain ⟨a1, c1, rfl, g1⟩ := tBy_cells h1
  obtain ⟨a2, c2, rfl, g2⟩ := tBy_cells h2
  obtain rfl : k5 = [.bool r.2.2.1] := h3
  obtain ⟨rfl, h5⟩ := h4
  exact ⟨a1, c1, a2, c2, rfl, g1, g2, wf_i64 h5⟩
theorem wf_of_i64 {n : Int} (h : -9223372036854775808 ≤ n ∧ n ≤ 9223372036854775807) : (Lit.int .i64 n).wf = true := by
  simp [Lit.wf, IntKind.min, IntKind.max, IntKind.signed, IntKind.bits]; omega
theorem tRg_mk {w : World} {F : Nat → Prop} {v1 v2 : Value} {x y : List UInt8} {b : Bool} {g : Int} (h1 : Bv w F v1 x) (h2 : Bv w F v2 y) (hg : -9223372036854775808 ≤ g ∧ g ≤ 9223372036854775807) : tRg.rep w F [v1, v2, .bool b, .int .i64 g] (x, y, b, g) :=
  ⟨[v1], [v2, .bool b, .int .i64 g], rfl, ⟨v1, rfl, h1⟩, [v2], [.bool b, .int .i64 g], rfl, ⟨v2, rfl, h2⟩, [.bool b], [.int .i64 g], rfl, rfl, rfl, wf_of_i64 hg⟩
/-- a struct's value -/
def AgV {α : Type} (t : Ty α) (w : World) (F : Nat → Prop) (v : Value) (x : α) : Prop := ∃ cs : List Value, v = .agg cs.toArray ∧ t.rep w F cs x
section
variable {α : Type} {t : Ty α} {w w' : World} {F F' K : Nat → Prop} {v : Value} {x : α}
theorem AgV.keep (h : AgV t w F v x) (k : Keep K w w') (hk : ∀ b, b < w.heap.size → F b → ¬ K b) : AgV t w' F v x := by
  obtain ⟨cs, hv, hr⟩ := h
  exact ⟨cs, hv, t.keep hr k hk⟩
theorem AgV.ext (h : AgV t w F v x) (k : Ext w w') : AgV t w' F v x := h.keep k (fun _ _ _ x => x)
theorem AgV.mono (h : AgV t w F v x) (hf : ∀ b, b < w.heap.size → F b → F' b) : AgV t w F' v x := by
  obtain ⟨cs, hv, hr⟩ := h
  exact ⟨cs, hv, t.mono hr hf⟩
theorem AgV.all (h : AgV t w F v x) : AgV t w (fun b => b < w.heap.size) v x := h.mono fun b hb _ => hb
end
theorem AgV.rg {w : World} {F : Nat → Prop} {v : Value} {r : RgV} (h : AgV tRg w F v r) : ∃ a1 c1 a2 c2, v = .agg #[.slice a1 r.1.length c1, .slice a2 r.2.1.length c2, .bool r.2.2.1, .int .i64 r.2.2.2] ∧ Bv w F (.slice a1 r.1.length c1) r.1 ∧ Bv w F (.slice a2 r.2.1.length c2) r.2.1 ∧ (-9223372036854775808 ≤ r.2.2.2 ∧ r.2.2.2 ≤ 9223372036854775807) := by
  obtain ⟨cs, rfl, hr⟩ := h
  obtain ⟨a1, c1, a2, c2, rfl, h⟩ := tRg_cells hr
  exact ⟨a1, c1, a2, c2, rfl, h⟩
theorem AgV.mkRg {w : World} {F : Nat → Prop} {v1 v2 : Value} {x y : List UInt8} {b : Bool} {g : Int} (h1 : Bv w F v1 x) (h2 : Bv w F v2 y) (hg : -9223372036854775808 ≤ g ∧ g ≤ 9223372036854775807) : AgV tRg w F (.agg #[v1, v2, .bool b, .int .i64 g]) (x, y, b, g) := ⟨_, rfl, tRg_mk h1 h2 hg⟩
/-- a map: its epoch, its ranges -/
abbrev MpV := Int × List RgV
abbrev tMp : Ty MpV := tPair (tInt .i64) (tSl tRg)
theorem AgV.mp {w : World} {F : Nat → Prop} {v : Value} {m : MpV} (h : AgV tMp w F v m) : ∃ a c, v = .agg #[.int .i64 m.1, .slice a m.2.length c] ∧ SlV tRg w F (.slice a m.2.length c) m.2 ∧ (-9223372036854775808 ≤ m.1 ∧ m.1 ≤ 9223372036854775807) := by
  obtain ⟨cs, rfl, k1, k2, rfl, ⟨rfl, h1⟩, v, rfl, hv⟩ := h
  obtain ⟨a, c, rfl⟩ := hv.shape
  exact ⟨a, c, rfl, hv, wf_i64 h1⟩
theorem AgV.mkMp {w : World} {F : Nat → Prop} {v : Value} {e : Int} {l : List RgV} (h1 : SlV tRg w F v l) (he : -9223372036854775808 ≤ e ∧ e ≤ 9223372036854775807) : AgV tMp w F (.agg #[.int .i64 e, v]) (e, l) :=
  ⟨_, rfl, [.int .i64 e], [v], rfl, ⟨rfl, wf_of_i64 he⟩, v, rfl, h1⟩

theorem SlV.el {α : Type} {t : Ty α} {w : World} {F : Nat → Prop} {a : Option Addr} {n c k : Nat} {xs : List α} {x : α} (h : SlV t w F (.slice a n c) xs) (hk : xs[k]? = some x) : ∃ q cs, a = some q ∧ F q.block ∧ q.block < w.heap.size ∧ Pv w (q.add (k * t.sz)) cs ∧ t.rep w F cs x := by
  obtain ⟨a', c', hv, h1, h2, h3, h4⟩ := h
  cases hv
  obtain ⟨q, cs, h5, h6, h7, h8⟩ := h4 k x hk
  have := rep_lt h7 h8
  rw [add_block] at this
  exact ⟨q, cs, h5, h6, this, h7, h8⟩
theorem SlV.len_max {α : Type} {t : Ty α} {w : World} {F : Nat → Prop} {v : Value} {xs : List α} (h : SlV t w F v xs) : xs.length ≤ 9223372036854775807 := by have := h.max; simpa [maxLen] using this
/-! ### what the chapter says of them -/
def hasR (r : RgV) (k : List UInt8) : Bool := !decide (k < r.1) && (!r.2.2.1 || decide (k < r.2.1))
def grpB (n : Int) : Bool := decide (1 ≤ n) && decide (n < 5)
def mayL : List RgV → Bool
  | [] => true
  | [r] => grpB r.2.2.2 && !r.2.2.1 && r.2.1.isEmpty
  | r :: s :: l => grpB r.2.2.2 && r.2.2.1 && decide (r.2.1.length ≤ 24) && decide (r.1 < r.2.1) && decide (r.2.1 = s.1) && mayL (s :: l)
def mayM (m : MpV) : Bool := decide (1 ≤ m.1) && decide (m.1 ≤ 2147483647) && decide (1 ≤ m.2.length) && decide (m.2.length ≤ 16) && (m.2.headD ([], [], false, 0)).1.isEmpty && mayL m.2
theorem getE {α : Type} {l : List α} {i : Nat} (h : i < l.length) : ∃ x, l[i]? = some x ∧ l.drop i = x :: l.drop (i + 1) :=
  ⟨l[i], by simp [h], by rw [List.drop_eq_getElem_cons h]⟩
theorem isE_len {α : Type} (l : List α) : decide ((l.length : Int) = 0) = l.isEmpty := by cases l <;> simp <;> omega
theorem cmpB_lt {x y : List UInt8} : cmpB x y < 0 ↔ x < y := by
  unfold cmpB; split
  · simp [*]
  · split <;> simp [*]
theorem cmpB_ge {x y : List UInt8} : 0 ≤ cmpB x y ↔ ¬ x < y := by have := @cmpB_lt x y; constructor <;> intro h <;> (try intro h2) <;> (try have := this.2 h2) <;> (try (rcases Int.lt_or_le (cmpB x y) 0 with h3 | h3; exact absurd (this.1 h3) h; exact h3)) ; omega
theorem d_cmp_lt (x y : List UInt8) : decide (cmpB x y < 0) = decide (x < y) := decide_eq_decide.2 cmpB_lt
theorem d_cmp_ge (x y : List UInt8) : decide (0 ≤ cmpB x y) = !decide (x < y) := by
  by_cases h : x < y
  · have := cmpB_lt.2 h; rw [decide_eq_true h, decide_eq_false zo]; rfl
  · have := cmpB_ge.2 h; rw [decide_eq_false h, decide_eq_true this]; rfl
end Go.Vc

namespace Go.Vc
set_option linter.unusedVariables false
set_option linter.unusedSimpArgs false
/-! ### 'x, e := f(..)', x in a variable of its own that may be made first -/
/-- p: what makes an argument (a slice); c: the call; mv: its pair moved on; x0, x1: its parts; a: the variable made; s: the store into it -/
def CJ {α β : Type} (t : Ty α) (m : α) (tp : Ty β) (xs : List β) (er : Value) (zc : List Value) (T : TypeId) (p c mv x0 x1 a s B0 : Nat) (done : Nat → Bool) (vals : Nat → Value) (w : World) : Prop :=
  B0 ≤ w.heap.size ∧ (done p = true → p ≠ 99 → SlV tp w (fun i => B0 ≤ i ∧ (done a = true → vals a ≠ .pointer (some ⟨i, 0, none⟩))) (vals p) xs) ∧
  ∃ cs : List Value, cs.length = t.sz ∧ (∀ u ∈ cs, u.oneCell' = true) ∧
    (done c = true → vals c = .tuple #[.agg cs.toArray, er] ∧ t.rep w (fun i => B0 ≤ i ∧ (done a = true → vals a ≠ .pointer (some ⟨i, 0, none⟩))) cs m) ∧
    (done mv = true → vals mv = .tuple #[.agg cs.toArray, er]) ∧ (done x0 = true → vals x0 = .agg cs.toArray) ∧ (done x1 = true → vals x1 = er) ∧
    (done a = true → ∃ b, vals a = .pointer (some ⟨b, 0, none⟩) ∧ B0 ≤ b ∧ Blk w b (if done s = true then cs else zc) T)
def dC (p c mv x0 x1 a s i : Nat) : Bool := Nat.beq i p || Nat.beq i c || Nat.beq i mv || Nat.beq i x0 || Nat.beq i x1 || Nat.beq i a || Nat.beq i s
theorem ne_of_nodup {l : List Nat} {i j : Nat} {a b : Nat} (h : l.Nodup) (hi : l[i]? = some a) (hj : l[j]? = some b) (hij : i ≠ j) : a ≠ b := by
  intro he
  subst he
  obtain ⟨h1, h1'⟩ := List.getElem?_eq_some_iff.1 hi
  obtain ⟨h2, h2'⟩ := List.getElem?_eq_some_iff.1 hj
  rcases Nat.lt_or_gt_of_ne hij with h3 | h3
  · exact List.pairwise_iff_getElem.1 h i j h1 h2 h3 (h1'.trans h2'.symm)
  · exact List.pairwise_iff_getElem.1 h j i h2 h1 h3 (h2'.trans h1'.symm)
section
variable {α β : Type} {t : Ty α} {m : α} {tp : Ty β} {xs : List β} {er : Value} {zc : List Value} {T : TypeId} {p c mv x0 x1 a s B0 : Nat} {done : Nat → Bool} {vals : Nat → Value} {w w' : World}
theorem CJ.on : JOn (dC p c mv x0 x1 a s) (CJ t m tp xs er zc T p c mv x0 x1 a s B0) := by
  rintro done vals done' vals' w h ⟨h0, h1, cs, hl, ho, h2, h3, h4, h5, h6⟩
  obtain ⟨dp, vp⟩ := h p (by simp [dC])
  obtain ⟨dc, vc⟩ := h c (by simp [dC])
  obtain ⟨dm, vm⟩ := h mv (by simp [dC])
  obtain ⟨d0, v0⟩ := h x0 (by simp [dC])
  obtain ⟨d1, v1⟩ := h x1 (by simp [dC])
  obtain ⟨da, va⟩ := h a (by simp [dC])
  obtain ⟨ds, vs⟩ := h s (by simp [dC])
  refine ⟨h0, ?_, cs, hl, ho, ?_, ?_, ?_, ?_, ?_⟩
  · rw [← dp, ← vp, ← da, ← va]; exact h1
  · rw [← dc, ← vc, ← da, ← va]; exact h2
  · rw [← dm, ← vm]; exact h3
  · rw [← d0, ← v0]; exact h4
  · rw [← d1, ← v1]; exact h5
  · rw [← da, ← va, ← ds]; exact h6
theorem CJ.start (t : Ty α) (hz : t.sz = zc.length) (hzo : ∀ u ∈ zc, u.oneCell' = true) (hB : B0 ≤ w.heap.size) (hp : p ≠ 99 → done p = false) (hc : done c = false) (hm : done mv = false) (h0 : done x0 = false) (h1 : done x1 = false) (ha : done a = false) : CJ t m tp xs er zc T p c mv x0 x1 a s B0 done vals w := by
  refine ⟨hB, ?_, zc, hz.symm, hzo, ?_, ?_, ?_, ?_, ?_⟩
  · intro h hq; rw [hp hq] at h; cases h
  · rw [hc]; intro h; cases h
  · rw [hm]; intro h; cases h
  · rw [h0]; intro h; cases h
  · rw [h1]; intro h; cases h
  · rw [ha]; intro h; cases h
/-- the call -/
theorem CJ.call {cs' : List Value} (j : CJ t m tp xs er zc T p c mv x0 x1 a s B0 done vals w) (hn : [p, c, mv, x0, x1, a, s].Nodup) (hm : done mv = false) (hx0 : done x0 = false) (hx1 : done x1 = false) (hs : done s = false) (e : Ext w w')
    (hr : t.rep w' (fun i => w.heap.size ≤ i) cs' m) (hl' : cs'.length = t.sz) (ho' : ∀ u ∈ cs', u.oneCell' = true) : CJ t m tp xs er zc T p c mv x0 x1 a s B0 (don done c) (setv vals c (.tuple #[.agg cs'.toArray, er])) w' := by
  obtain ⟨h0, h1, cs, hl, ho, h2, h3, h4, h5, h6⟩ := j
  have n1 : p ≠ c := ne_of_nodup (i := 0) (j := 1) hn rfl rfl zq
  have n2 : mv ≠ c := ne_of_nodup (i := 2) (j := 1) hn rfl rfl zq
  have n3 : x0 ≠ c := ne_of_nodup (i := 3) (j := 1) hn rfl rfl zq
  have n4 : x1 ≠ c := ne_of_nodup (i := 4) (j := 1) hn rfl rfl zq
  have n5 : a ≠ c := ne_of_nodup (i := 5) (j := 1) hn rfl rfl zq
  have n6 : s ≠ c := ne_of_nodup (i := 6) (j := 1) hn rfl rfl zq
  simp only [CJ, don, setv, if_neg n1, if_neg n2, if_neg n3, if_neg n4, if_neg n5, if_neg n6, if_true]
  refine ⟨Nat.le_trans h0 e.size, fun hd hq => (h1 hd hq).ext e, cs', hl', ho', fun _ => ⟨rfl, t.mono hr fun i hi hw => ⟨Nat.le_trans h0 hw, fun hd he => ?_⟩⟩, fun hd => ?_, fun hd => ?_, fun hd => ?_, fun hd => ?_⟩
  · obtain ⟨b, hb, _, hB⟩ := h6 hd
    rw [he] at hb; cases hb
    have := hB.lt; omega
  · rw [hm] at hd; cases hd
  · rw [hx0] at hd; cases hd
  · rw [hx1] at hd; cases hd
  · obtain ⟨b, hb, hb0, hB⟩ := h6 hd
    rw [hs] at hB ⊢
    exact ⟨b, hb, hb0, hB.ext e⟩
theorem CJ.mvd (j : CJ t m tp xs er zc T p c mv x0 x1 a s B0 done vals w) (hn : [p, c, mv, x0, x1, a, s].Nodup) (hc : done c = true) : ∃ cs : List Value, vals c = .tuple #[.agg cs.toArray, er] ∧ CJ t m tp xs er zc T p c mv x0 x1 a s B0 (don done mv) (setv vals mv (.tuple #[.agg cs.toArray, er])) w := by
  obtain ⟨h0, h1, cs, hl, ho, h2, h3, h4, h5, h6⟩ := j
  have n1 : p ≠ mv := ne_of_nodup (i := 0) (j := 2) hn rfl rfl zq
  have n2 : c ≠ mv := ne_of_nodup (i := 1) (j := 2) hn rfl rfl zq
  have n3 : x0 ≠ mv := ne_of_nodup (i := 3) (j := 2) hn rfl rfl zq
  have n4 : x1 ≠ mv := ne_of_nodup (i := 4) (j := 2) hn rfl rfl zq
  have n5 : a ≠ mv := ne_of_nodup (i := 5) (j := 2) hn rfl rfl zq
  have n6 : s ≠ mv := ne_of_nodup (i := 6) (j := 2) hn rfl rfl zq
  refine ⟨cs, (h2 hc).1, ?_⟩
  simp only [CJ, don, setv, if_neg n1, if_neg n2, if_neg n3, if_neg n4, if_neg n5, if_neg n6, if_true]
  exact ⟨h0, h1, cs, hl, ho, h2, fun _ => rfl, h4, h5, h6⟩
theorem CJ.x0d (j : CJ t m tp xs er zc T p c mv x0 x1 a s B0 done vals w) (hn : [p, c, mv, x0, x1, a, s].Nodup) (hc : done mv = true) : ∃ cs : List Value, vals mv = .tuple #[.agg cs.toArray, er] ∧ CJ t m tp xs er zc T p c mv x0 x1 a s B0 (don done x0) (setv vals x0 (.agg cs.toArray)) w := by
  obtain ⟨h0, h1, cs, hl, ho, h2, h3, h4, h5, h6⟩ := j
  have n1 : p ≠ x0 := ne_of_nodup (i := 0) (j := 3) hn rfl rfl zq
  have n2 : c ≠ x0 := ne_of_nodup (i := 1) (j := 3) hn rfl rfl zq
  have n3 : mv ≠ x0 := ne_of_nodup (i := 2) (j := 3) hn rfl rfl zq
  have n4 : x1 ≠ x0 := ne_of_nodup (i := 4) (j := 3) hn rfl rfl zq
  have n5 : a ≠ x0 := ne_of_nodup (i := 5) (j := 3) hn rfl rfl zq
  have n6 : s ≠ x0 := ne_of_nodup (i := 6) (j := 3) hn rfl rfl zq
  refine ⟨cs, h3 hc, ?_⟩
  simp only [CJ, don, setv, if_neg n1, if_neg n2, if_neg n3, if_neg n4, if_neg n5, if_neg n6, if_true]
  exact ⟨h0, h1, cs, hl, ho, h2, h3, fun _ => rfl, h5, h6⟩
theorem CJ.x1d (j : CJ t m tp xs er zc T p c mv x0 x1 a s B0 done vals w) (hn : [p, c, mv, x0, x1, a, s].Nodup) (hc : done mv = true) : ∃ cs : List Value, vals mv = .tuple #[.agg cs.toArray, er] ∧ CJ t m tp xs er zc T p c mv x0 x1 a s B0 (don done x1) (setv vals x1 er) w := by
  obtain ⟨h0, h1, cs, hl, ho, h2, h3, h4, h5, h6⟩ := j
  have n1 : p ≠ x1 := ne_of_nodup (i := 0) (j := 4) hn rfl rfl zq
  have n2 : c ≠ x1 := ne_of_nodup (i := 1) (j := 4) hn rfl rfl zq
  have n3 : mv ≠ x1 := ne_of_nodup (i := 2) (j := 4) hn rfl rfl zq
  have n4 : x0 ≠ x1 := ne_of_nodup (i := 3) (j := 4) hn rfl rfl zq
  have n5 : a ≠ x1 := ne_of_nodup (i := 5) (j := 4) hn rfl rfl zq
  have n6 : s ≠ x1 := ne_of_nodup (i := 6) (j := 4) hn rfl rfl zq
  refine ⟨cs, h3 hc, ?_⟩
  simp only [CJ, don, setv, if_neg n1, if_neg n2, if_neg n3, if_neg n4, if_neg n5, if_neg n6, if_true]
  exact ⟨h0, h1, cs, hl, ho, h2, h3, h4, fun _ => trivial, h6⟩
theorem CJ.al {b : Nat} (j : CJ t m tp xs er zc T p c mv x0 x1 a s B0 done vals w) (hn : [p, c, mv, x0, x1, a, s].Nodup) (hs : done s = false) (hb : b = w.heap.size) (hB : Blk w' b zc T) (e : Ext w w') : CJ t m tp xs er zc T p c mv x0 x1 a s B0 (don done a) (setv vals a (.pointer (some ⟨b, 0, none⟩))) w' := by
  obtain ⟨h0, h1, cs, hl, ho, h2, h3, h4, h5, h6⟩ := j
  have n1 : p ≠ a := ne_of_nodup (i := 0) (j := 5) hn rfl rfl zq
  have n2 : c ≠ a := ne_of_nodup (i := 1) (j := 5) hn rfl rfl zq
  have n3 : mv ≠ a := ne_of_nodup (i := 2) (j := 5) hn rfl rfl zq
  have n4 : x0 ≠ a := ne_of_nodup (i := 3) (j := 5) hn rfl rfl zq
  have n5 : x1 ≠ a := ne_of_nodup (i := 4) (j := 5) hn rfl rfl zq
  have n6 : s ≠ a := ne_of_nodup (i := 6) (j := 5) hn rfl rfl zq
  simp only [CJ, don, setv, if_neg n1, if_neg n2, if_neg n3, if_neg n4, if_neg n5, if_neg n6, if_true]
  refine ⟨Nat.le_trans h0 e.size, fun hd hq => ?_, cs, hl, ho, fun hd => ⟨(h2 hd).1, ?_⟩, h3, h4, h5, fun _ => ⟨b, rfl, by omega, by rw [hs]; exact hB⟩⟩
  · refine ((h1 hd hq).mono (F' := fun i => B0 ≤ i ∧ i < w.heap.size) fun i hi h => ⟨h.1, hi⟩).ext e |>.mono fun i _ h => ⟨h.1, fun _ he => ?_⟩
    cases he; have := h.2; omega
  · refine t.mono (t.keep (t.mono (h2 hd).2 (F' := fun i => B0 ≤ i ∧ i < w.heap.size) fun i hi h => ⟨h.1, hi⟩) e fun _ _ _ h => h) fun i _ h => ⟨h.1, fun _ he => ?_⟩
    cases he; have := h.2; omega
theorem CJ.st {b : Nat} {cs' : List Value} (j : CJ t m tp xs er zc T p c mv x0 x1 a s B0 done vals w) (hn : [p, c, mv, x0, x1, a, s].Nodup) (hd0 : done x0 = true) (hda : done a = true) (hb : vals a = .pointer (some ⟨b, 0, none⟩)) (hv : vals x0 = .agg cs'.toArray) (hB : Blk w' b cs' T) (k : Keep (fun k => k = b) w w') : CJ t m tp xs er zc T p c mv x0 x1 a s B0 (don done s) (setv vals s undef) w' := by
  obtain ⟨h0, h1, cs, hl, ho, h2, h3, h4, h5, h6⟩ := j
  have n1 : p ≠ s := ne_of_nodup (i := 0) (j := 6) hn rfl rfl zq
  have n2 : c ≠ s := ne_of_nodup (i := 1) (j := 6) hn rfl rfl zq
  have n3 : mv ≠ s := ne_of_nodup (i := 2) (j := 6) hn rfl rfl zq
  have n4 : x0 ≠ s := ne_of_nodup (i := 3) (j := 6) hn rfl rfl zq
  have n5 : x1 ≠ s := ne_of_nodup (i := 4) (j := 6) hn rfl rfl zq
  have n6 : a ≠ s := ne_of_nodup (i := 5) (j := 6) hn rfl rfl zq
  have hcs : cs' = cs := by
    have h7 := h4 hd0
    rw [hv] at h7
    simpa using h7
  subst hcs
  simp only [CJ, don, setv, if_neg n1, if_neg n2, if_neg n3, if_neg n4, if_neg n5, if_neg n6, if_true]
  refine ⟨Nat.le_trans h0 k.size, fun hd hq => (h1 hd hq).keep k fun i _ h he => h.2 hda (by subst he; exact hb), cs', hl, ho, fun hd => ⟨(h2 hd).1, t.keep (h2 hd).2 k fun i _ h he => h.2 hda (by subst he; exact hb)⟩, h3, h4, h5, fun _ => ?_⟩
  obtain ⟨b', hb', hb0, _⟩ := h6 hda
  rw [hb] at hb'; cases hb'
  exact ⟨b, hb, hb0, hB⟩
/-- what the store sees -/
theorem CJ.seen (j : CJ t m tp xs er zc T p c mv x0 x1 a s B0 done vals w) (hd0 : done x0 = true) (hda : done a = true) (hs : done s = false) : ∃ (b : Nat) (cs : List Value), vals a = .pointer (some ⟨b, 0, none⟩) ∧ vals x0 = .agg cs.toArray ∧ B0 ≤ b ∧ Blk w b zc T ∧ cs.length = t.sz ∧ ∀ u ∈ cs, u.oneCell' = true := by
  obtain ⟨h0, h1, cs, hl, ho, h2, h3, h4, h5, h6⟩ := j
  obtain ⟨b, hb, hb0, hB⟩ := h6 hda
  rw [hs] at hB
  exact ⟨b, cs, hb, h4 hd0, hb0, hB, hl, ho⟩
theorem CJ.fin (j : CJ t m tp xs er zc T p c mv x0 x1 a s B0 (fun _ => true) vals w) : ∃ (b : Nat) (cs : List Value), vals c = .tuple #[.agg cs.toArray, er] ∧ vals mv = .tuple #[.agg cs.toArray, er] ∧ vals x0 = .agg cs.toArray ∧ vals x1 = er ∧ vals a = .pointer (some ⟨b, 0, none⟩) ∧ B0 ≤ b ∧ Blk w b cs T ∧ AgV t w (fun i => B0 ≤ i ∧ i ≠ b) (.agg cs.toArray) m ∧ (p ≠ 99 → SlV tp w (fun i => B0 ≤ i ∧ i ≠ b) (vals p) xs) := by
  obtain ⟨h0, h1, cs, hl, ho, h2, h3, h4, h5, h6⟩ := j
  obtain ⟨b, hb, hb0, hB⟩ := h6 rfl
  refine ⟨b, cs, (h2 rfl).1, h3 rfl, h4 rfl, h5 rfl, hb, hb0, hB, ⟨cs, rfl, t.mono (h2 rfl).2 fun i _ h => ⟨h.1, fun he => h.2 rfl (by rw [he]; exact hb)⟩⟩, fun hq => (h1 rfl hq).mono fun i _ h => ⟨h.1, fun he => h.2 rfl (by rw [he]; exact hb)⟩⟩
end
end Go.Vc

namespace Go.Vc
set_option linter.unusedVariables false
set_option linter.unusedSimpArgs false
/-! ### ranges that meet, ranges within others -/
end Go.Vc

namespace Go.Vc
set_option linter.unusedVariables false
set_option linter.unusedSimpArgs false
/-! ### what is found in a map, and what it is changed to -/
def findO (m : MpV) (p : RgV → Bool) : Option Nat := if mayM m then m.2.findIdx? p else none
def optI : Option Nat → Int
  | some i => i
  | none => -1
def rg0 : RgV := ([], [], false, 0)
def mp0 : MpV := (0, [])
def rgAt (l : List RgV) : Option Nat → RgV
  | some i => l.getD i rg0
  | none => rg0
def begB (k : List UInt8) (r : RgV) : Bool := decide (r.1 = k)
def hasB (k : List UInt8) (r : RgV) : Bool := hasR r k
def keyB (k : List UInt8) : Bool := decide (1 ≤ k.length) && decide (k.length ≤ 24)
def nextM (e : Int) (rs : List RgV) : MpV × Int := if e = 2147483647 ∨ 16 < rs.length then (mp0, 5) else ((e + 1, rs), 0)
def splitM (m : MpV) (k : List UInt8) : MpV × Int :=
  if (mayM m && keyB k) = false then (mp0, 2) else if (findO m (begB k)).isSome then (mp0, 7) else match findO m (hasB k) with
    | none => (mp0, 0)
    | some i => nextM m.1 (m.2.take i ++ [((m.2.getD i rg0).1, k, true, (m.2.getD i rg0).2.2.2), (k, (m.2.getD i rg0).2.1, (m.2.getD i rg0).2.2.1, (m.2.getD i rg0).2.2.2)] ++ m.2.drop (i + 1))
def unionM (m : MpV) (k : List UInt8) : MpV × Int :=
  if (mayM m && keyB k) = false then (mp0, 2) else match findO m (begB k) with
    | none => (mp0, 6)
    | some i => if (m.2.getD i rg0).2.2.2 ≠ (m.2.getD (i - 1) rg0).2.2.2 then (mp0, 9) else
      nextM m.1 (m.2.take (i - 1) ++ [((m.2.getD (i - 1) rg0).1, (m.2.getD i rg0).2.1, (m.2.getD i rg0).2.2.1, (m.2.getD (i - 1) rg0).2.2.2)] ++ m.2.drop (i + 1))
def giveM (m : MpV) (k : List UInt8) (g : Int) : MpV × Int :=
  if (mayM m && grpB g && decide (k.length ≤ 24)) = false then (mp0, 2) else match findO m (begB k) with
    | none => (mp0, 6)
    | some i => if (m.2.getD i rg0).2.2.2 = g then (mp0, 9) else nextM m.1 (m.2.set i ((m.2.getD i rg0).1, (m.2.getD i rg0).2.1, (m.2.getD i rg0).2.2.1, g))
theorem mayM_parts {m : MpV} (h : mayM m = true) : 1 ≤ m.1 ∧ m.1 ≤ 2147483647 ∧ 1 ≤ m.2.length ∧ m.2.length ≤ 16 ∧ (m.2.headD ([], [], false, 0)).1 = [] ∧ mayL m.2 = true := by
  simp only [mayM, Bool.and_eq_true, decide_eq_true_eq] at h
  exact ⟨h.1.1.1.1.1, h.1.1.1.1.2, h.1.1.1.2, h.1.1.2, List.isEmpty_iff.1 h.1.2, h.2⟩
theorem mayL_lens : ∀ (l : List RgV), mayL l = true → (l.headD rg0).1.length ≤ 24 → ∀ r ∈ l, r.1.length ≤ 24 ∧ r.2.1.length ≤ 24 ∧ grpB r.2.2.2 = true
  | [], _, _, r, hr => by cases hr
  | [r0], h, h0, r, hr => by
    simp only [List.mem_singleton] at hr; subst hr
    simp only [mayL, Bool.and_eq_true] at h
    have := List.isEmpty_iff.1 h.2
    exact ⟨h0, by rw [this]; simp, h.1.1⟩
  | r0 :: s :: l, h, h0, r, hr => by
    simp only [mayL, Bool.and_eq_true, decide_eq_true_eq] at h
    rcases List.mem_cons.1 hr with rfl | hr
    · exact ⟨h0, h.1.1.1.2, h.1.1.1.1.1⟩
    · exact mayL_lens (s :: l) h.2 (by simp only [List.headD_cons]; rw [← h.1.2]; exact h.1.1.1.2) r hr
theorem mayM_lens {m : MpV} (h : mayM m = true) : ∀ r ∈ m.2, r.1.length ≤ 24 ∧ r.2.1.length ≤ 24 ∧ grpB r.2.2.2 = true := by
  obtain ⟨_, _, _, _, h5, h6⟩ := mayM_parts h
  exact mayL_lens m.2 h6 (by
    have : (m.2.headD rg0).1 = [] := h5
    rw [this]; simp)
theorem grpB_range {n : Int} (h : grpB n = true) : 1 ≤ n ∧ n < 5 := by
  simp only [grpB, Bool.and_eq_true, decide_eq_true_eq] at h; exact h
theorem mayL_has {k : List UInt8} : ∀ (l : List RgV), mayL l = true → l ≠ [] → ¬ k < (l.headD rg0).1 → ∃ r ∈ l, hasR r k = true
  | [], _, h, _ => absurd rfl h
  | [r], h, _, h0 => by
    simp only [mayL, Bool.and_eq_true] at h
    simp only [List.headD_cons] at h0
    refine ⟨r, List.mem_singleton.2 rfl, ?_⟩
    have he : r.2.2.1 = false := by have := h.1.2; revert this; cases r.2.2.1 <;> simp
    rw [hasR, decide_eq_false h0, he]; rfl
  | r :: s :: l, h, _, h0 => by
    simp only [mayL, Bool.and_eq_true, decide_eq_true_eq] at h
    simp only [List.headD_cons] at h0
    by_cases hk : k < r.2.1
    · refine ⟨r, List.mem_cons_self, ?_⟩
      rw [hasR, decide_eq_false h0, decide_eq_true hk]; cases r.2.2.1 <;> rfl
    · obtain ⟨q, hq, hh⟩ := mayL_has (s :: l) h.2 (by simp) (by simp only [List.headD_cons]; rw [← h.1.2]; exact hk)
      exact ⟨q, List.mem_cons_of_mem _ hq, hh⟩
theorem lb_nil (k : List UInt8) : ¬ k < [] := by simp
theorem has_some {m : MpV} (h : mayM m = true) (k : List UInt8) : ∃ i, findO m (hasB k) = some i ∧ i < m.2.length := by
  obtain ⟨_, _, h3, _, h5, h6⟩ := mayM_parts h
  obtain ⟨r, hr, hh⟩ := mayL_has (k := k) m.2 h6 (by intro h; rw [h] at h3; simp at h3) (by
    have : (m.2.headD rg0).1 = [] := h5
    rw [this]; exact lb_nil k)
  rw [findO, if_pos h]
  cases hf : m.2.findIdx? (hasB k) with
  | none =>
    rw [List.findIdx?_eq_none_iff] at hf
    have := hf r hr
    rw [hasB, hh] at this; cases this
  | some i =>
    rw [List.findIdx?_eq_some_iff_getElem] at hf
    exact ⟨i, rfl, hf.1⟩
theorem findO_at {m : MpV} {p : RgV → Bool} {i : Nat} (h : findO m p = some i) : mayM m = true ∧ i < m.2.length ∧ p (m.2.getD i rg0) = true := by
  unfold findO at h
  split at h
  · rename_i hm
    rw [List.findIdx?_eq_some_iff_getElem] at h
    obtain ⟨h1, h2, _⟩ := h
    refine ⟨hm, h1, ?_⟩
    have e1 : m.2.getD i rg0 = m.2[i] := by simp [h1]
    rw [e1]; exact h2
  · cases h
theorem getD_at {l : List RgV} {i : Nat} (h : i < l.length) : l[i]? = some (l.getD i rg0) := by
  simp [List.getD_eq_getElem?_getD, h]
theorem getD_mem {l : List RgV} {i : Nat} (h : i < l.length) : l.getD i rg0 ∈ l := List.mem_of_getElem? (getD_at h)
theorem beg_pos {m : MpV} {k : List UInt8} {i : Nat} (h : findO m (begB k) = some i) (hk : keyB k = true) : 1 ≤ i := by
  obtain ⟨h1, h2, h3⟩ := findO_at h
  obtain ⟨_, _, _, _, h5, _⟩ := mayM_parts h1
  rcases Nat.eq_zero_or_pos i with rfl | h0
  · exfalso
    simp only [begB, decide_eq_true_eq] at h3
    have h6 : m.2.getD 0 rg0 = m.2.headD rg0 := by cases m.2 <;> rfl
    rw [h6] at h3
    have h7 : (m.2.headD rg0).1 = [] := h5
    rw [h7] at h3
    subst h3
    simp [keyB] at hk
  · exact h0
theorem optI_neg {o : Option Nat} : optI o < 0 ↔ o = none := by
  cases o with
  | none => simp [optI]
  | some i => simp [optI]
end Go.Vc

namespace Go.Vc
set_option linter.unusedVariables false
set_option linter.unusedSimpArgs false
/-! What becomes of a map by its steps. -/
def oneOk (r : RgV) (k : List UInt8) : Bool := grpB r.2.2.2 && r.2.2.1 && decide (r.2.1.length ≤ 24) && decide (r.1 < r.2.1) && decide (r.2.1 = k)
def preL : List RgV → List UInt8 → Bool
  | [], _ => true
  | [r], k => oneOk r k
  | r :: s :: l, k => oneOk r s.1 && preL (s :: l) k
theorem mayL_two (r s : RgV) (l : List RgV) : mayL (r :: s :: l) = (oneOk r s.1 && mayL (s :: l)) := rfl
theorem mayL_app : ∀ (p : List RgV) (r : RgV) (q : List RgV), mayL (p ++ r :: q) = (preL p r.1 && mayL (r :: q))
  | [], r, q => by simp [preL]
  | [s], r, q => by simp [preL, mayL_two]
  | s :: t :: p, r, q => by
    have h := mayL_app (t :: p) r q
    simp only [List.cons_append] at h ⊢
    rw [mayL_two, h, preL, Bool.and_assoc]
theorem lb_le_trans {x y z : List UInt8} (h1 : x < y) (h2 : y < z) : x < z := List.lt_trans h1 h2
theorem split_at {l : List RgV} {i : Nat} (h : i < l.length) : l = l.take i ++ l.getD i rg0 :: l.drop (i + 1) := by
  have e : l.getD i rg0 = l[i] := by simp [h]
  rw [e, ← List.drop_eq_getElem_cons h, List.take_append_drop]
theorem hd_app {p : List RgV} {a b : RgV} {q q' : List RgV} (h : a.1 = b.1) : ((p ++ a :: q).headD rg0).1 = ((p ++ b :: q').headD rg0).1 := by
  cases p with
  | nil => exact h
  | cons s p => rfl
theorem next_ok {e : Int} {rs : List RgV} {o : MpV} (h : nextM e rs = (o, 0)) : e ≠ 2147483647 ∧ rs.length ≤ 16 ∧ o = (e + 1, rs) := by
  unfold nextM at h
  split at h
  · cases h
  · rename_i hn
    cases h
    exact ⟨fun h => hn (.inl h), by omega, rfl⟩
theorem next_may {e : Int} {rs l : List RgV} {o : MpV} (hm : mayM (e, l) = true) (h : nextM e rs = (o, 0)) (h1 : 1 ≤ rs.length) (hh : (rs.headD rg0).1 = (l.headD rg0).1) (hl : mayL rs = true) : mayM o = true ∧ o.1 = e + 1 := by
  obtain ⟨ha, hb, rfl⟩ := next_ok h
  obtain ⟨p1, p2, _, _, p5, _⟩ := mayM_parts hm
  simp only at p1 p2 p5
  have p6 : (rs.headD rg0).1 = [] := hh.trans p5
  refine ⟨?_, rfl⟩
  simp only [mayM, Bool.and_eq_true, decide_eq_true_eq]
  exact ⟨⟨⟨⟨⟨by omega, by omega⟩, h1⟩, hb⟩, List.isEmpty_iff.2 p6⟩, hl⟩
/-- what a split that is not refused is -/
theorem split_ok {e : Int} {l : List RgV} {k : List UInt8} {o : MpV} (hm : mayM (e, l) = true) (h : splitM (e, l) k = (o, 0)) : keyB k = true ∧ findO (e, l) (begB k) = none ∧ ∃ i, i < l.length ∧ hasR (l.getD i rg0) k = true ∧ nextM e (l.take i ++ [((l.getD i rg0).1, k, true, (l.getD i rg0).2.2.2), (k, (l.getD i rg0).2.1, (l.getD i rg0).2.2.1, (l.getD i rg0).2.2.2)] ++ l.drop (i + 1)) = (o, 0) := by
  unfold splitM at h
  split at h
  · cases h
  rename_i h1
  have hk : keyB k = true := by revert h1; rw [hm]; cases keyB k <;> simp
  split at h
  · cases h
  rename_i h2
  have hb : findO (e, l) (begB k) = none := by
    revert h2; cases findO (e, l) (begB k) <;> simp
  obtain ⟨i, hi, hlt⟩ := has_some hm k
  rw [hi] at h
  obtain ⟨_, _, hp⟩ := findO_at hi
  exact ⟨hk, hb, i, hlt, hp, h⟩
theorem beg_none {e : Int} {l : List RgV} {k : List UInt8} (hm : mayM (e, l) = true) (h : findO (e, l) (begB k) = none) : ∀ r ∈ l, r.1 ≠ k := by
  rw [findO, if_pos hm, List.findIdx?_eq_none_iff] at h
  intro r hr he
  have := h r hr
  rw [begB, decide_eq_true he] at this
  cases this
theorem lb_total {x y : List UInt8} (h1 : ¬ x < y) (h2 : x ≠ y) : y < x := by
  rcases lb_not h1 with h | h
  · exact h
  · exact absurd h.symm h2
theorem keyB_parts {k : List UInt8} (h : keyB k = true) : 1 ≤ k.length ∧ k.length ≤ 24 := by
  simp only [keyB, Bool.and_eq_true, decide_eq_true_eq] at h; exact h
theorem split_may {e : Int} {l : List RgV} {k : List UInt8} {o : MpV} (hm : mayM (e, l) = true) (h : splitM (e, l) k = (o, 0)) : mayM o = true ∧ o.1 = e + 1 := by
  obtain ⟨hk, hb, i, hlt, hp, hn⟩ := split_ok hm h
  obtain ⟨_, _, _, _, _, p6⟩ := mayM_parts hm
  simp only at p6
  have hne := beg_none hm hb _ (getD_mem hlt)
  have hkk := keyB_parts hk
  have hs := split_at hlt
  generalize hr : l.getD i rg0 = r at hn hp hne hs
  rw [hs, mayL_app, Bool.and_eq_true] at p6
  obtain ⟨q1, q2⟩ := p6
  simp only [hasR, Bool.and_eq_true, Bool.not_eq_true', decide_eq_false_iff_not, Bool.or_eq_true, decide_eq_true_eq] at hp
  have hfk : r.1 < k := lb_total hp.1 (fun h => hne h.symm)
  have hl : ∀ q, mayL (r :: q) = true → mayL ((r.1, k, true, r.2.2.2) :: (k, r.2.1, r.2.2.1, r.2.2.2) :: q) = true := by
    intro q hq
    rw [mayL_two]
    have hg : grpB r.2.2.2 = true := by
      cases q with
      | nil => simp only [mayL, Bool.and_eq_true] at hq; exact hq.1.1
      | cons s q => rw [mayL_two] at hq; simp only [oneOk, Bool.and_eq_true] at hq; exact hq.1.1.1.1.1
    have h1 : oneOk (r.1, k, true, r.2.2.2) k = true := by
      simp only [oneOk, hg, decide_eq_true hkk.2, decide_eq_true hfk, decide_true, Bool.and_true]
    rw [Bool.and_eq_true]
    refine ⟨h1, ?_⟩
    cases q with
    | nil => simpa only [mayL] using hq
    | cons s q =>
      rw [mayL_two, Bool.and_eq_true] at hq ⊢
      refine ⟨?_, hq.2⟩
      have h2 := hq.1
      simp only [oneOk, Bool.and_eq_true, decide_eq_true_eq] at h2 ⊢
      obtain ⟨⟨⟨⟨a1, a2⟩, a3⟩, a4⟩, a5⟩ := h2
      refine ⟨⟨⟨⟨a1, a2⟩, a3⟩, ?_⟩, a5⟩
      rcases hp.2 with h | h
      · rw [a2] at h; cases h
      · exact h
  have e1 : l.take i ++ [(r.1, k, true, r.2.2.2), (k, r.2.1, r.2.2.1, r.2.2.2)] ++ l.drop (i + 1) = l.take i ++ (r.1, k, true, r.2.2.2) :: (k, r.2.1, r.2.2.1, r.2.2.2) :: l.drop (i + 1) := by simp
  rw [e1] at hn
  refine next_may hm hn (by simp; omega) ?_ ?_
  · conv => rhs; rw [hs]
    exact hd_app rfl
  · rw [mayL_app, Bool.and_eq_true]
    exact ⟨q1, hl _ q2⟩
/-- what a union that is not refused is -/
theorem union_ok {e : Int} {l : List RgV} {k : List UInt8} {o : MpV} (hm : mayM (e, l) = true) (h : unionM (e, l) k = (o, 0)) : keyB k = true ∧ ∃ i, i + 1 < l.length ∧ nextM e (l.take i ++ ((l.getD i rg0).1, (l.getD (i + 1) rg0).2.1, (l.getD (i + 1) rg0).2.2.1, (l.getD i rg0).2.2.2) :: l.drop (i + 1 + 1)) = (o, 0) := by
  unfold unionM at h
  split at h
  · cases h
  rename_i h1
  have hk : keyB k = true := by revert h1; rw [hm]; cases keyB k <;> simp
  split at h
  · cases h
  rename_i i hi
  split at h
  · cases h
  have h2 := beg_pos hi hk
  obtain ⟨_, h3, _⟩ := findO_at hi
  obtain ⟨j, rfl⟩ : ∃ j, i = j + 1 := ⟨i - 1, by omega⟩
  simp only [Nat.add_sub_cancel] at h
  refine ⟨hk, j, h3, ?_⟩
  rw [← h]; simp
theorem union_may {e : Int} {l : List RgV} {k : List UInt8} {o : MpV} (hm : mayM (e, l) = true) (h : unionM (e, l) k = (o, 0)) : mayM o = true ∧ o.1 = e + 1 := by
  obtain ⟨_, i, hlt, hn⟩ := union_ok hm h
  obtain ⟨_, _, _, _, _, p6⟩ := mayM_parts hm
  simp only at p6
  have hs := split_at (l := l) (i := i) zo
  have hs2 : l.drop (i + 1) = l.getD (i + 1) rg0 :: l.drop (i + 1 + 1) := by
    have e : l.getD (i + 1) rg0 = l[i + 1] := by simp [hlt]
    rw [e, ← List.drop_eq_getElem_cons hlt]
  rw [hs2] at hs
  generalize l.getD i rg0 = p at hn hs
  generalize l.getD (i + 1) rg0 = q at hn hs
  rw [hs, mayL_app, Bool.and_eq_true, mayL_two, Bool.and_eq_true] at p6
  obtain ⟨q1, q2, q3⟩ := p6
  simp only [oneOk, Bool.and_eq_true, decide_eq_true_eq] at q2
  obtain ⟨⟨⟨⟨a1, a2⟩, a3⟩, a4⟩, a5⟩ := q2
  refine next_may hm hn (by simp; omega) ?_ ?_
  · conv => rhs; rw [hs]
    exact hd_app rfl
  · rw [mayL_app, Bool.and_eq_true]
    refine ⟨q1, ?_⟩
    generalize l.drop (i + 1 + 1) = t at q3
    cases t with
    | nil =>
      simp only [mayL, Bool.and_eq_true] at q3 ⊢
      exact ⟨⟨a1, q3.1.2⟩, q3.2⟩
    | cons s t =>
      rw [mayL_two, Bool.and_eq_true] at q3 ⊢
      refine ⟨?_, q3.2⟩
      have h2 := q3.1
      simp only [oneOk, Bool.and_eq_true, decide_eq_true_eq] at h2 ⊢
      obtain ⟨⟨⟨⟨b1, b2⟩, b3⟩, b4⟩, b5⟩ := h2
      exact ⟨⟨⟨⟨a1, b2⟩, b3⟩, lb_le_trans a4 (a5 ▸ b4)⟩, b5⟩
theorem give_may {e : Int} {l : List RgV} {k : List UInt8} {g : Int} {o : MpV} (hm : mayM (e, l) = true) (h : giveM (e, l) k g = (o, 0)) : mayM o = true ∧ o.1 = e + 1 := by
  unfold giveM at h
  split at h
  · cases h
  rename_i h1
  have hg : grpB g = true := by revert h1; rw [hm]; cases grpB g <;> simp
  split at h
  · cases h
  rename_i i hi
  split at h
  · cases h
  obtain ⟨_, hlt, _⟩ := findO_at hi
  simp only at hlt h
  obtain ⟨_, _, _, _, _, p6⟩ := mayM_parts hm
  simp only at p6
  have hs := split_at hlt
  generalize hr : l.getD i rg0 = r at h hs
  have hset : ∀ x, l.set i x = l.take i ++ x :: l.drop (i + 1) := by
    intro x; exact List.set_eq_take_append_cons_drop .. |>.trans (if_pos hlt)
  rw [hset] at h
  rw [hs, mayL_app, Bool.and_eq_true] at p6
  obtain ⟨q1, q2⟩ := p6
  refine next_may hm h (by simp; omega) ?_ ?_
  · conv => rhs; rw [hs]
    exact hd_app rfl
  · rw [mayL_app, Bool.and_eq_true]
    refine ⟨q1, ?_⟩
    generalize l.drop (i + 1) = t at q2
    cases t with
    | nil =>
      simp only [mayL, Bool.and_eq_true] at q2 ⊢
      exact ⟨⟨hg, q2.1.2⟩, q2.2⟩
    | cons s t =>
      rw [mayL_two, Bool.and_eq_true] at q2 ⊢
      refine ⟨?_, q2.2⟩
      have h2 := q2.1
      simp only [oneOk, Bool.and_eq_true, decide_eq_true_eq] at h2 ⊢
      obtain ⟨⟨⟨⟨b1, b2⟩, b3⟩, b4⟩, b5⟩ := h2
      exact ⟨⟨⟨⟨hg, b2⟩, b3⟩, b4⟩, b5⟩
theorem above_no {k : List UInt8} : ∀ (l : List RgV) (f : List UInt8), k < f → (∀ s ∈ l.head?, s.1 = f) → mayL l = true → ∀ s ∈ l, hasR s k = false
  | [], _, _, _, _, s, hs => by cases hs
  | [r], f, hk, h0, hl, s, hs => by
    rw [List.mem_singleton] at hs; subst hs
    have : s.1 = f := h0 s (by simp)
    rw [hasR, this, decide_eq_true hk]; rfl
  | r :: t :: l, f, hk, h0, hl, s, hs => by
    have h1 : r.1 = f := h0 r (by simp)
    rw [mayL_two, Bool.and_eq_true] at hl
    rcases List.mem_cons.1 hs with rfl | hs
    · rw [hasR, h1, decide_eq_true hk]; rfl
    · have h2 := hl.1
      simp only [oneOk, Bool.and_eq_true, decide_eq_true_eq] at h2
      exact above_no (t :: l) t.1 (lb_le_trans hk (by rw [← h1]; have := h2.1.2; rwa [h2.2] at this)) (by simp) hl.2 s hs
theorem has_pair {k : List UInt8} : ∀ (l : List RgV), mayL l = true → l.Pairwise (fun r s => hasR r k = true → hasR s k = false)
  | [], _ => List.Pairwise.nil
  | [r], _ => List.pairwise_singleton _ _
  | r :: t :: l, hl => by
    rw [mayL_two, Bool.and_eq_true] at hl
    refine List.Pairwise.cons ?_ (has_pair (t :: l) hl.2)
    intro s hs hr
    have h2 := hl.1
    simp only [oneOk, Bool.and_eq_true, decide_eq_true_eq] at h2
    simp only [hasR, Bool.and_eq_true, Bool.not_eq_true', decide_eq_false_iff_not, Bool.or_eq_true, decide_eq_true_eq] at hr
    have hk : k < r.2.1 := by
      rcases hr.2 with h | h
      · rw [h2.1.1.1.2] at h; cases h
      · exact h
    exact above_no (t :: l) t.1 (by rw [← h2.2]; exact hk) (by simp) hl.2 s hs
/-- each key is in just one range, which Find tells -/
theorem one_has {m : MpV} (h : mayM m = true) (k : List UInt8) : ∃ i, findO m (hasB k) = some i ∧ i < m.2.length ∧ ∀ (j : Nat) (r : RgV), m.2[j]? = some r → hasR r k = decide (j = i) := by
  obtain ⟨i, hi, hlt⟩ := has_some h k
  refine ⟨i, hi, hlt, fun j r hr => ?_⟩
  obtain ⟨_, _, hp⟩ := findO_at hi
  obtain ⟨_, _, _, _, _, p6⟩ := mayM_parts h
  have hpw := has_pair (k := k) m.2 p6
  obtain ⟨hj, rfl⟩ := List.getElem?_eq_some_iff.1 hr
  have e : m.2.getD i rg0 = m.2[i] := by simp [hlt]
  rw [e] at hp
  rw [List.pairwise_iff_getElem] at hpw
  by_cases hji : j = i
  · subst hji; rw [decide_eq_true rfl]; exact hp
  · rw [decide_eq_false hji]
    rcases Nat.lt_or_ge j i with h1 | h1
    · cases hq : hasR m.2[j] k with
      | false => rfl
      | true => have h3 := hpw j i hj hlt h1 hq; rw [show hasR m.2[i] k = true from hp] at h3; cases h3
    · exact hpw i j hlt hj zo hp
end Go.Vc
