/- A part of the proof: steps and lemmas for the walks through the given program. -/
import Derived.Test.YtkaangdfpjkjpaaVc4
namespace Go.Vc
set_option linter.unusedVariables false
set_option linter.unusedSimpArgs false

theorem add_add (q : Addr) (i j : Nat) : (q.add i).add j = q.add (i + j) := by
  unfold Addr.add
  by_cases hi : i = 0
  · subst hi; by_cases hj : j = 0 <;> simp [hj]
  · by_cases hj : j = 0
    · subst hj; simp
    · simp [hi, hj, Nat.add_assoc]
theorem add_block (q : Addr) (i : Nat) : (q.add i).block = q.block := by unfold Addr.add; split <;> rfl
theorem add_lit (b o i : Nat) : (⟨b, o, none⟩ : Addr).add i = ⟨b, o + i, none⟩ := Addr.add_lit b o i
theorem add_zero (q : Addr) : q.add 0 = q := by simp [Addr.add]

/-! ### how a type's values lie in cells -/
structure Ty (α : Type) where
  sz : Nat
  pos : 0 < sz
  rep : World → (Nat → Prop) → List Value → α → Prop
  len : ∀ {w F cs x}, rep w F cs x → cs.length = sz
  one : ∀ {w F cs x}, rep w F cs x → ∀ u ∈ cs, u.oneCell' = true
  keep : ∀ {w w' F K cs x}, rep w F cs x → Keep K w w' → (∀ b, b < w.heap.size → F b → ¬ K b) → rep w' F cs x
  mono : ∀ {w F F' cs x}, rep w F cs x → (∀ b, b < w.heap.size → F b → F' b) → rep w F' cs x

/-- cells at an address -/
def Pv (w : World) (q : Addr) (cs : List Value) : Prop := ∀ j u, cs[j]? = some u → w.cell? (q.add j) = some u
theorem Pv.keep {w w' : World} {K : Nat → Prop} {q : Addr} {cs : List Value} (h : Pv w q cs) (k : Keep K w w') (hk : ¬ K q.block) : Pv w' q cs :=
  fun j u hu => k.cell (h j u hu) (by rw [add_block]; exact hk)
theorem Pv.ext {w w' : World} {q : Addr} {cs : List Value} (h : Pv w q cs) (k : Ext w w') : Pv w' q cs := h.keep k (fun x => x)
theorem Pv.lt {w : World} {q : Addr} {cs : List Value} (h : Pv w q cs) (hp : 0 < cs.length) : q.block < w.heap.size := by
  have h0 : cs[0]? = some cs[0] := by simp [hp]
  have := World.block_lt_of_cell? w _ (h 0 _ h0)
  rwa [add_block] at this

/-- a slice that reads as a list; what it reaches lies in blocks of F -/
def SlV {α : Type} (t : Ty α) (w : World) (F : Nat → Prop) (v : Value) (xs : List α) : Prop :=
  ∃ a c, v = .slice a xs.length c ∧ xs.length ≤ c ∧ c ≤ maxLen ∧ (a = none → c = 0) ∧
    ∀ i x, xs[i]? = some x → ∃ q cs, a = some q ∧ F q.block ∧ Pv w (q.add (i * t.sz)) cs ∧ t.rep w F cs x

section
variable {α : Type} {t : Ty α} {w w' : World} {F F' K : Nat → Prop} {v : Value} {xs : List α}

theorem SlV.shape (h : SlV t w F v xs) : ∃ a c, v = .slice a xs.length c := by obtain ⟨a, c, rfl, _⟩ := h; exact ⟨a, c, rfl⟩
theorem SlV.max (h : SlV t w F v xs) : xs.length ≤ maxLen := by obtain ⟨a, c, _, h1, h2, _⟩ := h; omega
theorem SlV.nil (t : Ty α) (w : World) (F : Nat → Prop) : SlV t w F (.slice none 0 0) [] := ⟨none, 0, rfl, Nat.le_refl _, by simp [maxLen], fun _ => rfl, fun i x h => by simp at h⟩
theorem SlV.empty (t : Ty α) (w : World) (F : Nat → Prop) (a : Option Addr) (c : Nat) (hc : c ≤ maxLen) (ha : a = none → c = 0) : SlV t w F (.slice a 0 c) [] := ⟨a, c, rfl, Nat.zero_le _, hc, ha, fun i x h => by simp at h⟩
theorem rep_lt {q : Addr} {cs : List Value} {x : α} (hp : Pv w q cs) (hr : t.rep w F cs x) : q.block < w.heap.size := hp.lt (by have := t.len hr; have := t.pos; omega)
theorem SlV.keep (h : SlV t w F v xs) (k : Keep K w w') (hk : ∀ b, b < w.heap.size → F b → ¬ K b) : SlV t w' F v xs := by
  obtain ⟨a, c, hv, h1, h2, h3, h4⟩ := h
  refine ⟨a, c, hv, h1, h2, h3, fun i x hx => ?_⟩
  obtain ⟨q, cs, ha, hF, hc, hr⟩ := h4 i x hx
  have hlt := rep_lt hc hr
  rw [add_block] at hlt
  exact ⟨q, cs, ha, hF, hc.keep k (by rw [add_block]; exact hk _ hlt hF), t.keep hr k hk⟩
theorem SlV.ext (h : SlV t w F v xs) (k : Ext w w') : SlV t w' F v xs := h.keep k (fun _ _ _ x => x)
theorem SlV.mono (h : SlV t w F v xs) (hf : ∀ b, b < w.heap.size → F b → F' b) : SlV t w F' v xs := by
  obtain ⟨a, c, hv, h1, h2, h3, h4⟩ := h
  refine ⟨a, c, hv, h1, h2, h3, fun i x hx => ?_⟩
  obtain ⟨q, cs, ha, hF, hc, hr⟩ := h4 i x hx
  have hlt := rep_lt hc hr
  rw [add_block] at hlt
  exact ⟨q, cs, ha, hf _ hlt hF, hc, t.mono hr hf⟩
/-- any footprint may be taken for the blocks that are there -/
theorem SlV.lt (h : SlV t w F v xs) : SlV t w (fun b => F b ∧ b < w.heap.size) v xs := h.mono fun b hb hF => ⟨hF, hb⟩
theorem SlV.all (h : SlV t w F v xs) : SlV t w (fun b => b < w.heap.size) v xs := h.mono fun b hb _ => hb
end

/-! ### the types -/
def tU8 : Ty UInt8 where
  sz := 1
  pos := by decide
  rep := fun _ _ cs x => cs = [.int .u8 x.toNat]
  len := by rintro _ _ _ _ rfl; rfl
  one := by rintro _ _ _ _ rfl u hu; simp at hu; subst hu; rfl
  keep := by intro _ _ _ _ _ _ h _ _; exact h
  mono := by intro _ _ _ _ _ h _; exact h
/-- numbers of a kind -/
def tInt (k : IntKind) : Ty Int where
  sz := 1
  pos := by decide
  rep := fun _ _ cs x => cs = [.int k x] ∧ (Lit.int k x).wf = true
  len := by rintro _ _ _ _ ⟨rfl, _⟩; rfl
  one := by rintro _ _ _ _ ⟨rfl, _⟩ u hu; simp at hu; subst hu; rfl
  keep := by intro _ _ _ _ _ _ h _ _; exact h
  mono := by intro _ _ _ _ _ h _; exact h
def tBool : Ty Bool where
  sz := 1
  pos := by decide
  rep := fun _ _ cs x => cs = [.bool x]
  len := by rintro _ _ _ _ rfl; rfl
  one := by rintro _ _ _ _ rfl u hu; simp at hu; subst hu; rfl
  keep := by intro _ _ _ _ _ _ h _ _; exact h
  mono := by intro _ _ _ _ _ h _; exact h
theorem slice_one (a : Option Addr) (n c : Nat) : (Value.slice a n c).oneCell' = true := rfl
def tSl {α : Type} (t : Ty α) : Ty (List α) where
  sz := 1
  pos := by decide
  rep := fun w F cs xs => ∃ v, cs = [v] ∧ SlV t w F v xs
  len := by rintro _ _ _ _ ⟨v, rfl, _⟩; rfl
  one := by rintro _ _ _ _ ⟨v, rfl, h⟩ u hu; obtain ⟨a, c, rfl⟩ := h.shape; simp at hu; subst hu; rfl
  keep := by rintro _ _ _ _ _ _ ⟨v, rfl, h⟩ k hk; exact ⟨v, rfl, h.keep k hk⟩
  mono := by rintro _ _ _ _ _ ⟨v, rfl, h⟩ hf; exact ⟨v, rfl, h.mono hf⟩
/-- two things side by side: a struct's fields, an array's elements -/
def tPair {α β : Type} (s : Ty α) (t : Ty β) : Ty (α × β) where
  sz := s.sz + t.sz
  pos := by have := s.pos; omega
  rep := fun w F cs x => ∃ c1 c2, cs = c1 ++ c2 ∧ s.rep w F c1 x.1 ∧ t.rep w F c2 x.2
  len := by rintro _ _ _ _ ⟨c1, c2, rfl, h1, h2⟩; simp [s.len h1, t.len h2]
  one := by
    rintro _ _ _ _ ⟨c1, c2, rfl, h1, h2⟩ u hu
    rcases List.mem_append.1 hu with h | h
    · exact s.one h1 u h
    · exact t.one h2 u h
  keep := by rintro _ _ _ _ _ _ ⟨c1, c2, rfl, h1, h2⟩ k hk; exact ⟨c1, c2, rfl, s.keep h1 k hk, t.keep h2 k hk⟩
  mono := by rintro _ _ _ _ _ ⟨c1, c2, rfl, h1, h2⟩ hf; exact ⟨c1, c2, rfl, s.mono h1 hf, t.mono h2 hf⟩
/-- another view of the same cells -/
def tMap {α β : Type} (t : Ty α) (f : β → α) : Ty β where
  sz := t.sz
  pos := t.pos
  rep := fun w F cs y => t.rep w F cs (f y)
  len := fun h => t.len h
  one := fun h => t.one h
  keep := fun h k hk => t.keep h k hk
  mono := fun h hf => t.mono h hf

abbrev Bv (w : World) (F : Nat → Prop) (v : Value) (l : List UInt8) : Prop := SlV tU8 w F v l

/-! ### memory of one's own -/
/-- a block of cells, written out -/
def Blk (w : World) (b : Nat) (cs : List Value) (T : TypeId) : Prop := w.heap[b]? = some (.cells cs.toArray T (0, 0))
theorem Blk.lt {w : World} {b : Nat} {cs : List Value} {T : TypeId} (h : Blk w b cs T) : b < w.heap.size := by
  rcases Nat.lt_or_ge b w.heap.size with h' | h'
  · exact h'
  · simp [Blk, Array.getElem?_eq_none h'] at h
theorem Blk.keep {w w' : World} {K : Nat → Prop} {b : Nat} {cs : List Value} {T : TypeId} (h : Blk w b cs T) (k : Keep K w w') (hk : ¬ K b) : Blk w' b cs T := by
  unfold Blk; rw [k.block b h.lt hk]; exact h
theorem Blk.ext {w w' : World} {b : Nat} {cs : List Value} {T : TypeId} (h : Blk w b cs T) (k : Ext w w') : Blk w' b cs T := h.keep k (fun x => x)
theorem Blk.cell {w : World} {b : Nat} {cs : List Value} {T : TypeId} (h : Blk w b cs T) {i : Nat} {v : Value} (hi : cs[i]? = some v) : w.cell? ⟨b, i, none⟩ = some v := by
  rw [cell_of_row w b i _ T (0, 0) h]; simpa using hi
theorem Blk.pv {w : World} {b : Nat} {cs : List Value} {T : TypeId} (h : Blk w b cs T) : Pv w ⟨b, 0, none⟩ cs := fun j u hu => by
  rw [add_lit, Nat.zero_add]; exact h.cell hu
theorem Blk.free {w : World} {b : Nat} {cs : List Value} {T : TypeId} (h : Blk w b cs T) (i : Nat) : w.frozen? ⟨b, i, none⟩ = false := by
  unfold Blk at h
  simp [World.frozen?, h]
theorem Ext.alloc (w : World) (o : Obj) : Ext w (w.alloc o) := ⟨rfl, rfl, rfl, by simp, fun k hk _ => RowKit.Below.heap_alloc w o k hk⟩
theorem Blk.new (w : World) (cs : List Value) (T : TypeId) : Blk (w.alloc (.cells cs.toArray T)) w.heap.size cs T := heap_alloc_new w _
theorem Keep.setCell (w : World) (a : Addr) (v : Value) : Keep (fun b => b = a.block) w (w.setCell a v) :=
  ⟨rfl, rfl, rfl, by simp [World.setCell], fun k _ hk => RowKit.Below.heap_setCell _ _ _ _ hk⟩
theorem Blk.set {w : World} {b : Nat} {cs : List Value} {T : TypeId} (h : Blk w b cs T) (i : Nat) (v : Value) : Blk (w.setCell ⟨b, i, none⟩ v) b (cs.set i v) T := by
  have hlt := h.lt
  unfold Blk at h ⊢
  simp only [World.setCell, Array.getElem?_modify, h]
  simp
end Go.Vc
