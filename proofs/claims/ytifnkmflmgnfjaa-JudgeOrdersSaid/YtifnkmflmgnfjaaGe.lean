/- A part of the proof: steps and lemmas for the walks through the given program. -/
import Derived.Test.YtifnkmflmgnfjaaGd
namespace Go.Vc
set_option linter.unusedVariables false
set_option linter.unusedSimpArgs false
/-! ### ranges: what a range and a map are -/
abbrev tBy : Ty (List UInt8) := tSl tU8
theorem tBy_cells {w : World} {F : Nat → Prop} {cs : List Value} {x : List UInt8} (h : tBy.rep w F cs x) : ∃ a c, cs = [.slice a x.length c] ∧ Bv w F (.slice a x.length c) x := by
  obtain ⟨v, rfl, hv⟩ := h
  obtain ⟨a, c, rfl⟩ := hv.shape
  exact ⟨a, c, rfl, hv⟩
theorem wf_of_i64 {n : Int} (h : -9223372036854775808 ≤ n ∧ n ≤ 9223372036854775807) : (Lit.int .i64 n).wf = true := by
  simp [Lit.wf, IntKind.min, IntKind.max, IntKind.signed, IntKind.bits]; omega
/-- a struct's value -/
def AgV {α : Type} (t : Ty α) (w : World) (F : Nat → Prop) (v : Value) (x : α) : Prop := ∃ cs : List Value, v = .agg cs.toArray ∧ t.rep w F cs x
section
variable {α : Type} {t : Ty α} {w w' : World} {F F' K : Nat → Prop} {v : Value} {x : α}
theorem AgV.keep (h : AgV t w F v x) (k : Keep K w w') (hk : ∀ b, b < w.heap.size → F b → ¬ K b) : AgV t w' F v x := by
  obtain ⟨cs, hv, hr⟩ := h
  exact ⟨cs, hv, t.keep hr k hk⟩
theorem AgV.ext (h : AgV t w F v x) (k : Ext w w') : AgV t w' F v x := h.keep k (fun _ _ _ x => x)
theorem AgV.mono (h : AgV t w F v x) (hf : ∀ b, b < w.heap.size → F b → F' b) : AgV t w F' v x := by
  obtain ⟨cs, hv, hr⟩ := h
  exact ⟨cs, hv, t.mono hr hf⟩
theorem AgV.all (h : AgV t w F v x) : AgV t w (fun b => b < w.heap.size) v x := h.mono fun b hb _ => hb
end
theorem SlV.el {α : Type} {t : Ty α} {w : World} {F : Nat → Prop} {a : Option Addr} {n c k : Nat} {xs : List α} {x : α} (h : SlV t w F (.slice a n c) xs) (hk : xs[k]? = some x) : ∃ q cs, a = some q ∧ F q.block ∧ q.block < w.heap.size ∧ Pv w (q.add (k * t.sz)) cs ∧ t.rep w F cs x := by
  obtain ⟨a', c', hv, h1, h2, h3, h4⟩ := h
  cases hv
  obtain ⟨q, cs, h5, h6, h7, h8⟩ := h4 k x hk
  have := rep_lt h7 h8
  rw [add_block] at this
  exact ⟨q, cs, h5, h6, this, h7, h8⟩
theorem SlV.len_max {α : Type} {t : Ty α} {w : World} {F : Nat → Prop} {v : Value} {xs : List α} (h : SlV t w F v xs) : xs.length ≤ 9223372036854775807 := by have := h.max; simpa [maxLen] using this
/-! ### what the chapter says of them -/
theorem getE {α : Type} {l : List α} {i : Nat} (h : i < l.length) : ∃ x, l[i]? = some x ∧ l.drop i = x :: l.drop (i + 1) :=
  ⟨l[i], by simp [h], by rw [List.drop_eq_getElem_cons h]⟩
theorem cmpB_lt {x y : List UInt8} : cmpB x y < 0 ↔ x < y := by
  unfold cmpB; split
  · simp [*]
  · split <;> simp [*]
theorem cmpB_ge {x y : List UInt8} : 0 ≤ cmpB x y ↔ ¬ x < y := by have := @cmpB_lt x y; constructor <;> intro h <;> (try intro h2) <;> (try have := this.2 h2) <;> (try (rcases Int.lt_or_le (cmpB x y) 0 with h3 | h3; exact absurd (this.1 h3) h; exact h3)) ; omega
theorem cmpB_gt {x y : List UInt8} : 0 < cmpB x y ↔ y < x := by
  unfold cmpB; split
  · rename_i h; have := lb_asymm h; simp [this]
  · split
    · rename_i h1 h2; subst h2; simp [lb_irrefl]
    · rename_i h1 h2; rcases lb_tri x y with h | h | h
      · exact absurd h h1
      · exact absurd h h2
      · simp [h]
theorem cmpB_le {x y : List UInt8} : cmpB x y ≤ 0 ↔ ¬ y < x := by rw [← cmpB_gt]; omega
end Go.Vc

namespace Go.Vc
set_option linter.unusedVariables false
set_option linter.unusedSimpArgs false
/-! ### 'x, e := f(..)', x in a variable of its own that may be made first -/
/-- p: what makes an argument (a slice); c: the call; mv: its pair moved on; x0, x1: its parts; a: the variable made; s: the store into it -/
def CJ {α β : Type} (t : Ty α) (m : α) (tp : Ty β) (xs : List β) (er : Value) (zc : List Value) (T : TypeId) (p c mv x0 x1 a s B0 : Nat) (done : Nat → Bool) (vals : Nat → Value) (w : World) : Prop :=
  B0 ≤ w.heap.size ∧ (done p = true → p ≠ 99 → SlV tp w (fun i => B0 ≤ i ∧ (done a = true → vals a ≠ .pointer (some ⟨i, 0, none⟩))) (vals p) xs) ∧
  ∃ cs : List Value, cs.length = t.sz ∧ (∀ u ∈ cs, u.oneCell' = true) ∧
    (done c = true → vals c = .tuple #[.agg cs.toArray, er] ∧ t.rep w (fun i => B0 ≤ i ∧ (done a = true → vals a ≠ .pointer (some ⟨i, 0, none⟩))) cs m) ∧
    (done mv = true → vals mv = .tuple #[.agg cs.toArray, er]) ∧ (done x0 = true → vals x0 = .agg cs.toArray) ∧ (done x1 = true → vals x1 = er) ∧
    (done a = true → ∃ b, vals a = .pointer (some ⟨b, 0, none⟩) ∧ B0 ≤ b ∧ Blk w b (if done s = true then cs else zc) T)
def dC (p c mv x0 x1 a s i : Nat) : Bool := Nat.beq i p || Nat.beq i c || Nat.beq i mv || Nat.beq i x0 || Nat.beq i x1 || Nat.beq i a || Nat.beq i s
theorem ne_of_nodup {l : List Nat} {i j : Nat} {a b : Nat} (h : l.Nodup) (hi : l[i]? = some a) (hj : l[j]? = some b) (hij : i ≠ j) : a ≠ b := by
  intro he
  subst he
  obtain ⟨h1, h1'⟩ := List.getElem?_eq_some_iff.1 hi
  obtain ⟨h2, h2'⟩ := List.getElem?_eq_some_iff.1 hj
  rcases Nat.lt_or_gt_of_ne hij with h3 | h3
  · exact List.pairwise_iff_getElem.1 h i j h1 h2 h3 (h1'.trans h2'.symm)
  · exact List.pairwise_iff_getElem.1 h j i h2 h1 h3 (h2'.trans h1'.symm)
section
variable {α β : Type} {t : Ty α} {m : α} {tp : Ty β} {xs : List β} {er : Value} {zc : List Value} {T : TypeId} {p c mv x0 x1 a s B0 : Nat} {done : Nat → Bool} {vals : Nat → Value} {w w' : World}
theorem CJ.on : JOn (dC p c mv x0 x1 a s) (CJ t m tp xs er zc T p c mv x0 x1 a s B0) := by
  rintro done vals done' vals' w h ⟨h0, h1, cs, hl, ho, h2, h3, h4, h5, h6⟩
  obtain ⟨dp, vp⟩ := h p (by simp [dC])
  obtain ⟨dc, vc⟩ := h c (by simp [dC])
  obtain ⟨dm, vm⟩ := h mv (by simp [dC])
  obtain ⟨d0, v0⟩ := h x0 (by simp [dC])
  obtain ⟨d1, v1⟩ := h x1 (by simp [dC])
  obtain ⟨da, va⟩ := h a (by simp [dC])
  obtain ⟨ds, vs⟩ := h s (by simp [dC])
  refine ⟨h0, ?_, cs, hl, ho, ?_, ?_, ?_, ?_, ?_⟩
  · rw [← dp, ← vp, ← da, ← va]; exact h1
  · rw [← dc, ← vc, ← da, ← va]; exact h2
  · rw [← dm, ← vm]; exact h3
  · rw [← d0, ← v0]; exact h4
  · rw [← d1, ← v1]; exact h5
  · rw [← da, ← va, ← ds]; exact h6
theorem CJ.start (t : Ty α) (hz : t.sz = zc.length) (hzo : ∀ u ∈ zc, u.oneCell' = true) (hB : B0 ≤ w.heap.size) (hp : p ≠ 99 → done p = false) (hc : done c = false) (hm : done mv = false) (h0 : done x0 = false) (h1 : done x1 = false) (ha : done a = false) : CJ t m tp xs er zc T p c mv x0 x1 a s B0 done vals w := by
  refine ⟨hB, ?_, zc, hz.symm, hzo, ?_, ?_, ?_, ?_, ?_⟩
  · intro h hq; rw [hp hq] at h; cases h
  · rw [hc]; intro h; cases h
  · rw [hm]; intro h; cases h
  · rw [h0]; intro h; cases h
  · rw [h1]; intro h; cases h
  · rw [ha]; intro h; cases h
/-- the call -/
theorem CJ.call {cs' : List Value} (j : CJ t m tp xs er zc T p c mv x0 x1 a s B0 done vals w) (hn : [p, c, mv, x0, x1, a, s].Nodup) (hm : done mv = false) (hx0 : done x0 = false) (hx1 : done x1 = false) (hs : done s = false) (e : Ext w w')
    (hr : t.rep w' (fun i => w.heap.size ≤ i) cs' m) (hl' : cs'.length = t.sz) (ho' : ∀ u ∈ cs', u.oneCell' = true) : CJ t m tp xs er zc T p c mv x0 x1 a s B0 (don done c) (setv vals c (.tuple #[.agg cs'.toArray, er])) w' := by
  obtain ⟨h0, h1, cs, hl, ho, h2, h3, h4, h5, h6⟩ := j
  have n1 : p ≠ c := ne_of_nodup (i := 0) (j := 1) hn rfl rfl zq
  have n2 : mv ≠ c := ne_of_nodup (i := 2) (j := 1) hn rfl rfl zq
  have n3 : x0 ≠ c := ne_of_nodup (i := 3) (j := 1) hn rfl rfl zq
  have n4 : x1 ≠ c := ne_of_nodup (i := 4) (j := 1) hn rfl rfl zq
  have n5 : a ≠ c := ne_of_nodup (i := 5) (j := 1) hn rfl rfl zq
  have n6 : s ≠ c := ne_of_nodup (i := 6) (j := 1) hn rfl rfl zq
  simp only [CJ, don, setv, if_neg n1, if_neg n2, if_neg n3, if_neg n4, if_neg n5, if_neg n6, if_true]
  refine ⟨Nat.le_trans h0 e.size, fun hd hq => (h1 hd hq).ext e, cs', hl', ho', fun _ => ⟨rfl, t.mono hr fun i hi hw => ⟨Nat.le_trans h0 hw, fun hd he => ?_⟩⟩, fun hd => ?_, fun hd => ?_, fun hd => ?_, fun hd => ?_⟩
  · obtain ⟨b, hb, _, hB⟩ := h6 hd
    rw [he] at hb; cases hb
    have := hB.lt; omega
  · rw [hm] at hd; cases hd
  · rw [hx0] at hd; cases hd
  · rw [hx1] at hd; cases hd
  · obtain ⟨b, hb, hb0, hB⟩ := h6 hd
    rw [hs] at hB ⊢
    exact ⟨b, hb, hb0, hB.ext e⟩
theorem CJ.al {b : Nat} (j : CJ t m tp xs er zc T p c mv x0 x1 a s B0 done vals w) (hn : [p, c, mv, x0, x1, a, s].Nodup) (hs : done s = false) (hb : b = w.heap.size) (hB : Blk w' b zc T) (e : Ext w w') : CJ t m tp xs er zc T p c mv x0 x1 a s B0 (don done a) (setv vals a (.pointer (some ⟨b, 0, none⟩))) w' := by
  obtain ⟨h0, h1, cs, hl, ho, h2, h3, h4, h5, h6⟩ := j
  have n1 : p ≠ a := ne_of_nodup (i := 0) (j := 5) hn rfl rfl zq
  have n2 : c ≠ a := ne_of_nodup (i := 1) (j := 5) hn rfl rfl zq
  have n3 : mv ≠ a := ne_of_nodup (i := 2) (j := 5) hn rfl rfl zq
  have n4 : x0 ≠ a := ne_of_nodup (i := 3) (j := 5) hn rfl rfl zq
  have n5 : x1 ≠ a := ne_of_nodup (i := 4) (j := 5) hn rfl rfl zq
  have n6 : s ≠ a := ne_of_nodup (i := 6) (j := 5) hn rfl rfl zq
  simp only [CJ, don, setv, if_neg n1, if_neg n2, if_neg n3, if_neg n4, if_neg n5, if_neg n6, if_true]
  refine ⟨Nat.le_trans h0 e.size, fun hd hq => ?_, cs, hl, ho, fun hd => ⟨(h2 hd).1, ?_⟩, h3, h4, h5, fun _ => ⟨b, rfl, by omega, by rw [hs]; exact hB⟩⟩
  · refine ((h1 hd hq).mono (F' := fun i => B0 ≤ i ∧ i < w.heap.size) fun i hi h => ⟨h.1, hi⟩).ext e |>.mono fun i _ h => ⟨h.1, fun _ he => ?_⟩
    cases he; have := h.2; omega
  · refine t.mono (t.keep (t.mono (h2 hd).2 (F' := fun i => B0 ≤ i ∧ i < w.heap.size) fun i hi h => ⟨h.1, hi⟩) e fun _ _ _ h => h) fun i _ h => ⟨h.1, fun _ he => ?_⟩
    cases he; have := h.2; omega
theorem CJ.st {b : Nat} {cs' : List Value} (j : CJ t m tp xs er zc T p c mv x0 x1 a s B0 done vals w) (hn : [p, c, mv, x0, x1, a, s].Nodup) (hd0 : done x0 = true) (hda : done a = true) (hb : vals a = .pointer (some ⟨b, 0, none⟩)) (hv : vals x0 = .agg cs'.toArray) (hB : Blk w' b cs' T) (k : Keep (fun k => k = b) w w') : CJ t m tp xs er zc T p c mv x0 x1 a s B0 (don done s) (setv vals s undef) w' := by
  obtain ⟨h0, h1, cs, hl, ho, h2, h3, h4, h5, h6⟩ := j
  have n1 : p ≠ s := ne_of_nodup (i := 0) (j := 6) hn rfl rfl zq
  have n2 : c ≠ s := ne_of_nodup (i := 1) (j := 6) hn rfl rfl zq
  have n3 : mv ≠ s := ne_of_nodup (i := 2) (j := 6) hn rfl rfl zq
  have n4 : x0 ≠ s := ne_of_nodup (i := 3) (j := 6) hn rfl rfl zq
  have n5 : x1 ≠ s := ne_of_nodup (i := 4) (j := 6) hn rfl rfl zq
  have n6 : a ≠ s := ne_of_nodup (i := 5) (j := 6) hn rfl rfl zq
  have hcs : cs' = cs := by
    have h7 := h4 hd0
    rw [hv] at h7
    simpa using h7
  subst hcs
  simp only [CJ, don, setv, if_neg n1, if_neg n2, if_neg n3, if_neg n4, if_neg n5, if_neg n6, if_true]
  refine ⟨Nat.le_trans h0 k.size, fun hd hq => (h1 hd hq).keep k fun i _ h he => h.2 hda (by subst he; exact hb), cs', hl, ho, fun hd => ⟨(h2 hd).1, t.keep (h2 hd).2 k fun i _ h he => h.2 hda (by subst he; exact hb)⟩, h3, h4, h5, fun _ => ?_⟩
  obtain ⟨b', hb', hb0, _⟩ := h6 hda
  rw [hb] at hb'; cases hb'
  exact ⟨b, hb, hb0, hB⟩
/-- what the store sees -/
theorem CJ.seen (j : CJ t m tp xs er zc T p c mv x0 x1 a s B0 done vals w) (hd0 : done x0 = true) (hda : done a = true) (hs : done s = false) : ∃ (b : Nat) (cs : List Value), vals a = .pointer (some ⟨b, 0, none⟩) ∧ vals x0 = .agg cs.toArray ∧ B0 ≤ b ∧ Blk w b zc T ∧ cs.length = t.sz ∧ ∀ u ∈ cs, u.oneCell' = true := by
  obtain ⟨h0, h1, cs, hl, ho, h2, h3, h4, h5, h6⟩ := j
  obtain ⟨b, hb, hb0, hB⟩ := h6 hda
  rw [hs] at hB
  exact ⟨b, cs, hb, h4 hd0, hb0, hB, hl, ho⟩
theorem CJ.fin (j : CJ t m tp xs er zc T p c mv x0 x1 a s B0 (fun _ => true) vals w) : ∃ (b : Nat) (cs : List Value), vals c = .tuple #[.agg cs.toArray, er] ∧ vals mv = .tuple #[.agg cs.toArray, er] ∧ vals x0 = .agg cs.toArray ∧ vals x1 = er ∧ vals a = .pointer (some ⟨b, 0, none⟩) ∧ B0 ≤ b ∧ Blk w b cs T ∧ AgV t w (fun i => B0 ≤ i ∧ i ≠ b) (.agg cs.toArray) m ∧ (p ≠ 99 → SlV tp w (fun i => B0 ≤ i ∧ i ≠ b) (vals p) xs) := by
  obtain ⟨h0, h1, cs, hl, ho, h2, h3, h4, h5, h6⟩ := j
  obtain ⟨b, hb, hb0, hB⟩ := h6 rfl
  refine ⟨b, cs, (h2 rfl).1, h3 rfl, h4 rfl, h5 rfl, hb, hb0, hB, ⟨cs, rfl, t.mono (h2 rfl).2 fun i _ h => ⟨h.1, fun he => h.2 rfl (by rw [he]; exact hb)⟩⟩, fun hq => (h1 rfl hq).mono fun i _ h => ⟨h.1, fun he => h.2 rfl (by rw [he]; exact hb)⟩⟩
end
end Go.Vc

namespace Go.Vc
set_option linter.unusedVariables false
set_option linter.unusedSimpArgs false
/-! ### ranges that meet, ranges within others -/
end Go.Vc

namespace Go.Vc
set_option linter.unusedVariables false
set_option linter.unusedSimpArgs false
/-! ### what is found in a map, and what it is changed to -/
def keyB (k : List UInt8) : Bool := decide (1 ≤ k.length) && decide (k.length ≤ 24)
end Go.Vc
